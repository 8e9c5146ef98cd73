/- That the walk tells the truth: a region, a piece of code, a function. No condition. -/
import Derived.Test.YtgipkikbefnokaaDoorXAv6
set_option linter.constructorNameAsVariable false
namespace Go.Av
open Go Go.RowKit
set_option linter.unusedSimpArgs false
set_option linter.unusedVariables false

theorem reads_ax {P : Program} {e : Env} (tb : Tabs P e) {a : Act} {fr : List (Nat × RV)} (h : ∀ t, VR e (lk fr t) (a.tmps.getD t undef)) : Reads P e a (ax fr) := by
  intro o x hx
  cases o with
  | tmp t => simp [resX] at hx; subst hx; exact h t
  | const v =>
    simp only [resX, Option.map_eq_some_iff] at hx
    obtain ⟨y, hy, rfl⟩ := hx
    exact .v (cv_ok hy)
  | global g =>
    simp only [resX, Option.map_eq_some_iff] at hx
    obtain ⟨cs, hcs, rfl⟩ := hx
    exact .v (tb.vi hcs)
  | func f => simp [resX] at hx; subst hx; exact .v (.fn f [] #[] rfl (fun j a c h => by simp at h))

theorem evq_congr {A B : AX → RV} {H : List AObj} {q : AOp} (h : ∀ x ∈ q.xs, A x = B x) : evq A H q = evq B H q := by
  cases q <;> simp_all [evq, AOp.xs]
  case mkf f cs => rw [List.map_congr_left h]
  case bld z ps =>
    congr 1
    apply List.map_congr_left
    rintro ⟨x1, x2, x⟩ hx
    simp only [h x x1 x2 hx]
  case sls sz s lo hi =>
    congr 1
    · cases lo <;> simp_all
    · cases hi <;> simp_all
  case slp n sz s lo hi =>
    congr 1
    · cases lo <;> simp_all
    · cases hi <;> simp_all

theorem obls_mem {fr : List (Nat × RV)} : ∀ {l : List AX}, obls fr l → ∀ x ∈ l, obl (ax fr x)
  | [], _, x, hx => by simp at hx
  | [y], h, x, hx => by simp at hx; subst hx; exact h
  | y :: z :: l, h, x, hx => by
    obtain ⟨h1, h2⟩ := h
    rcases List.mem_cons.1 hx with rfl | hx
    · exact h1
    · exact obls_mem h2 x hx

theorem opn_vr {e : Env} {x : RV} {c : Value} (h : VR e x c) (ho : obl x) : VR e (opn x) c := by
  cases h with
  | cnd h h' => exact h ho
  | v h => exact .v h
  | os ob lo h1 h2 h h3 => exact .os ob lo h1 h2 h h3
  | sub ob lo h1 h2 h h3 => exact .sub ob lo h1 h2 h h3
  | pt ob lo h1 h2 h h3 => exact .pt ob lo h1 h2 h h3
  | fr hn h => exact .fr hn h
  | bf hn h => exact .bf hn h
  | tr hn h => exact .tr hn h
  | gr hn h1 h => exact .gr hn h1 h
  | any => exact .any
  | bo => exact .bo
  | yl h => exact .yl h

open Classical in
theorem reads_opn {P : Program} {e : Env} {a : Act} {fr : List (Nat × RV)} (h : Reads P e a (ax fr)) : Reads P e a (fun x => if obl (ax fr x) then opn (ax fr x) else .any) := by
  intro o x hx
  by_cases ho : obl (ax fr x)
  · simp only [if_pos ho]; exact opn_vr (h o x hx) ho
  · simp only [if_neg ho]; exact .any

theorem bool_of {e : Env} {t : Bool} {c : Value} (h : VR e (.v (.b t)) c) : c = .bool t := h.bool

theorem pick_ok {P : Program} {e : Env} {a : Act} {A B : AX → RV} {c x y : AX} {oc ox oy : Operand} (hc : VR e (B c) (a.eval oc)) (hx : VR e (A x) (a.eval ox)) (hy : VR e (A y) (a.eval oy)) {o : Oper} (ho : o.op = .pick oc ox oy)
    {C : Prop} {r : RV} (h : evPick (B c) (A x) (A y) = some (C, r)) (hC : C) : ∃ v, (execOp a.eval o).run P e.w = .ok (.value v) e.w ∧ VR e r v := by
  unfold evPick at h
  split at h
  · rename_i t bx b_y h1 h2 h3
    obtain ⟨rfl, rfl⟩ := someP h
    rw [h1] at hc
    have hcb := hc.bool
    obtain ⟨ht, hf⟩ := hC
    cases t with
    | true =>
      have := opn_vr hx (ht rfl)
      rw [h2] at this
      exact ⟨.bool bx, by simp [execOp, ho, hcb, asBool, this.bool], by simpa using VR.v (.b bx)⟩
    | false =>
      have := opn_vr hy (hf rfl)
      rw [h3] at this
      exact ⟨.bool b_y, by simp [execOp, ho, hcb, asBool, this.bool], by simpa using VR.v (.b b_y)⟩
  · cases h

def boolOf : Value → Option Bool
  | .bool b => some b
  | _ => none

theorem gval_ok {e : Env} {x : RV} {c : Value} {want G : Bool} (h : VR e x c) (hg : gval x want = some G) : (boolOf c == some want) = G := by
  unfold gval at hg
  split at hg
  · cases hg
    obtain rfl := h.bool
    rename_i t
    cases want <;> cases t <;> rfl
  · rename_i cc t
    cases hg
    cases h with
    | cnd h h' =>
      cases cc with
      | true =>
        obtain rfl := (h rfl).bool
        cases want <;> cases t <;> rfl
      | false =>
        obtain rfl := h' rfl
        cases want <;> rfl
  · cases hg

theorem rel_put {e0 e e' : Env} {N : Nat} {D : List Deferred} {fr : List (Nat × RV)} {H : List AObj} {a : Act} {d : Option Nat} {r : RV} {c : Value} (g0 : Good e0) (hH : e'.H = H) (g : Good e') (mv0 : Mv e0 e) (mv : Mv e e')
    (hf : ∀ t, VR e (lk fr t) (a.tmps.getD t undef)) (hN : a.tmps.size = N) (hD : Dfs e0 e D a.defers) (hd : ∀ k, d = some k → k < N) (hr : VR e' r c) : Rel e0 N D ⟨upd fr d r, H⟩ (a.put d c) e'.w := by
  refine ⟨e', rfl, hH, g, mv0.trans mv g0, fun t => ?_, ?_, ?_⟩
  · cases d with
    | none => exact mv.vr (hf t)
    | some k =>
      have hk := hd k rfl
      simp only [upd, lk, Act.put]
      by_cases hkt : k = t
      · subst hkt
        rw [if_pos rfl]
        have : (a.tmps.setIfInBounds k c).getD k undef = c := by simp [Array.getD, hN, hk]
        rw [this]; exact hr
      · rw [if_neg hkt]
        have : (a.tmps.setIfInBounds k c).getD t undef = a.tmps.getD t undef := by
          simp [Array.getElem?_setIfInBounds, hkt]
        rw [this]; exact mv.vr (hf t)
  · cases d <;> simp [Act.put, hN]
  · cases d <;> exact hD.mv mv

theorem wide_about {P : Program} {rd : Option Nat} {o : Oper} {w : World} {a : Act} : ∀ f, o.about P w a.eval = some f → (FW rd).fn f := fun _ _ => trivial

theorem semAt_plain {rd : Option Nat} {a : Act} {o : Oper} (h : ∀ c, o.op ≠ .defer c) : o.semAt rd a.eval = execOp a.eval o := Oper.semAt_eq rd a.eval o h

theorem resOp_defer {P : Program} {op : Op} (h : (resI P op).isSome) : ∀ c, op ≠ .defer c := by
  intro c hc; subst hc; simp [resI, resOp, resM, resCall] at h


theorem dst_ok {P : Program} {N : Nat} {ops : Array Oper} {o : Oper} {q : AO} (h : resAO P N ops o = some q) : ∃ i, resI P o.op = some i ∧ q.op = i ∧ q.dst = o.dst ∧ (∀ k, o.dst = some k → k < N) ∧
    ((o.guard = none ∧ q.gd = none) ∨ ∃ j want d, o.guard = some (j, want) ∧ (ops[j]?).bind (·.dst) = some d ∧ q.gd = some (d, want)) := by
  unfold resAO at h
  split at h
  · rename_i hd
    simp only [Option.bind_eq_some_iff] at h
    obtain ⟨i, hi, h⟩ := h
    have hd' : ∀ k, o.dst = some k → k < N := fun k hk => by rw [hk] at hd; simpa [dstOk] using hd
    split at h
    · rename_i hg; cases h; exact ⟨i, hi, rfl, rfl, hd', .inl ⟨hg, rfl⟩⟩
    · rename_i j want hg
      simp only [Option.map_eq_some_iff] at h
      obtain ⟨d, hdd, rfl⟩ := h
      exact ⟨i, hi, rfl, rfl, hd', .inr ⟨j, want, d, hg, hdd, rfl⟩⟩
  · cases h

theorem wanted_ok {ops : Array Oper} {o : Oper} {e : Env} {a : Act} {fr : List (Nat × RV)} {N : Nat} (hN : a.tmps.size = N) (hf : ∀ t, VR e (lk fr t) (a.tmps.getD t undef)) {j d : Nat} {want G : Bool} (hg : o.guard = some (j, want)) (hd : (ops[j]?).bind (·.dst) = some d)
    (hv : gval (lk fr d) want = some G) : Region.wanted o (yielded ops a.tmps) = G := by
  have := gval_ok (hf d) hv
  unfold Region.wanted
  rw [hg]
  simp only [yielded, hd, Option.bind_some]
  rw [← this]
  by_cases hlt : d < a.tmps.size
  · have e1 : a.tmps[d]? = some (a.tmps.getD d undef) := by simp [Array.getD, hlt]
    rw [e1]
    cases a.tmps.getD d undef <;> rfl
  · have e1 : a.tmps[d]? = none := by simp; omega
    have e2 : a.tmps.getD d undef = undef := by simp [Array.getD]; intro h; omega
    rw [e1, e2]
    rfl

theorem uponIn_val {P : Program} {rd : Option Nat} {o : Oper} {a : Act} {w w' : World} {c : Value} {next : Act → World → Prop} {Q : Exit → Act → World → Prop} (hd : ∀ c, o.op ≠ .defer c) (h : (execOp a.eval o).run P w = .ok (.value c) w') (hn : next (a.put o.dst c) w') :
    o.wpIn (FW rd) 0 P a w next Q := ⟨wide_about, by rw [semAt_plain hd, h]; exact hn⟩

theorem pk_ok {P : Program} {e : Env} {a : Act} {fr : List (Nat × RV)} (hA : Reads P e a (ax fr)) {o : Oper} {c x y : AX} (hq : resCall P o.op = some (.pk c x y)) :
    ∃ oc ox oy, o.op = .pick oc ox oy ∧ resX P oc = some c ∧ resX P ox = some x ∧ resX P oy = some y := by
  unfold resCall at hq
  split at hq
  · rename_i ho
    simp only [Option.bind_eq_some_iff, Option.map_eq_some_iff] at hq
    obtain ⟨c', hc, x', hx, y', hy, he⟩ := hq
    cases he
    exact ⟨_, _, _, ho, hc, hx, hy⟩
  · split at hq
    · simp only [Option.bind_eq_some_iff, Option.map_eq_some_iff] at hq
      obtain ⟨_, _, _, _, he⟩ := hq; cases he
    · cases hq
  · obtain ⟨_, _, he⟩ := Option.map_eq_some_iff.1 hq; cases he
  · cases hq

theorem resI_q {P : Program} {op : Op} {q : AOp} (h : resI P op = some (.q q)) : resOp P op = some q := by
  unfold resI at h
  split at h
  · cases h; assumption
  · split at h
    · cases h
    · unfold resCall at h
      split at h
      · simp [Option.bind_eq_some_iff] at h
      · split at h
        · simp [Option.bind_eq_some_iff] at h
        · cases h
      · obtain ⟨_, _, he⟩ := Option.map_eq_some_iff.1 h; cases he
      · cases h
theorem resI_m {P : Program} {op : Op} {q : MOp} (h : resI P op = some (.m q)) : resM P op = some q := by
  unfold resI at h
  split at h
  · cases h
  · split at h
    · cases h; assumption
    · unfold resCall at h
      split at h
      · simp [Option.bind_eq_some_iff] at h
      · split at h
        · simp [Option.bind_eq_some_iff] at h
        · cases h
      · obtain ⟨_, _, he⟩ := Option.map_eq_some_iff.1 h; cases he
      · cases h
theorem resI_c {P : Program} {op : Op} {i : AInst} (h : resI P op = some i) (hq : ∀ q, i ≠ .q q) (hm : ∀ m, i ≠ .m m) : resCall P op = some i := by
  unfold resI at h
  split at h
  · cases h; exact absurd rfl (hq _)
  · split at h
    · cases h; exact absurd rfl (hm _)
    · exact h
theorem call_of {P : Program} {op : Op} {f : AX} {args : List AX} (h : resCall P op = some (.call f args)) : ∃ (c : Call) (fo : Operand), op = .call c ∧ c.callee = .value fo ∧ resX P fo = some f ∧ c.args.toList.mapM (resX P) = some args := by
  unfold resCall at h
  split at h
  · simp [Option.bind_eq_some_iff] at h
  · rename_i c
    split at h
    · rename_i fo hfo
      simp only [Option.bind_eq_some_iff, Option.map_eq_some_iff] at h
      obtain ⟨f', hf, xs, hxs, he⟩ := h
      cases he
      exact ⟨c, fo, rfl, hfo, hf, hxs⟩
    · cases h
  · obtain ⟨_, _, he⟩ := Option.map_eq_some_iff.1 h; cases he
  · cases h
theorem nx_of {P : Program} {op : Op} {it : AX} (h : resCall P op = some (.nx it)) : ∃ x, op = .next x false ∧ resX P x = some it := by
  unfold resCall at h
  split at h
  · simp [Option.bind_eq_some_iff] at h
  · split at h
    · simp [Option.bind_eq_some_iff] at h
    · cases h
  · obtain ⟨x', hx, he⟩ := Option.map_eq_some_iff.1 h; cases he
    exact ⟨_, rfl, hx⟩
  · cases h

theorem PureS.frame {P : Program} {f : Nat} {xs : List AV} {r : AV} (h : PureS P f xs r) (H : List AObj) : CallS P f (xs.map .v) H fun r' H' => r' = .v r ∧ H' = H := by
  intro e vs g tb hH hn hv
  have g0 : Good ⟨e.w, e.Im, [], []⟩ := ⟨rfl, fun o o' l l' h => by simp at h, fun o l h => by simp at h, fun o l h => by simp at h, g.imlt, fun o ob lo h => by simp at h⟩
  refine (h ⟨e.w, e.Im, [], []⟩ vs g0 tb rfl hn (fun j x y hx hy => ?_)).mono ?_
  · have hvx := hv j x y hx hy
    rw [List.getElem?_map, Option.map_eq_some_iff] at hx
    obtain ⟨x', _, rfl⟩ := hx
    exact VR.v (show VI e.w e.Im x' y from vr_v hvx)
  · rintro E w' ⟨c, e', r', rfl, rfl, g', mv, hr, rfl⟩
    have hno : ∀ b, ¬ Env.own ⟨e.w, e.Im, [], []⟩ b := fun b ⟨o, l, ho, _⟩ => by simp at ho
    have hsame : ∀ b, b < e.w.heap.size → e'.w.heap[b]? = e.w.heap[b]? := fun b hb => mv.same b hb (hno b)
    have himn : ∀ b, e'.Im b → e.Im b ∨ e.w.heap.size ≤ b := fun b hb => by
      rcases mv.imn b hb with h | h | h
      · exact .inl h
      · exact absurd h (hno b)
      · exact .inr h
    have mv2 : Mv e ⟨e'.w, e'.Im, e.ρ, e.H⟩ := ⟨mv.os, mv.tape, mv.output, mv.size, fun b hb _ => hsame b hb, mv.im, mv.imw, fun b hb => (himn b hb).imp id .inr, .refl _ _, fun b hb => .inl hb⟩
    refine ⟨c, ⟨e'.w, e'.Im, e.ρ, e.H⟩, .v r, rfl, rfl, ⟨g.len, g.inj, fun o l ho hi => ?_, fun o l ho => Nat.lt_of_lt_of_le (g.lt o l ho) mv.size, g'.imlt, fun o ob lo h1 h2 => ?_⟩, mv2, VR.v (show VI e'.w e'.Im r c from vr_v hr), rfl, hH⟩
    · rcases himn _ hi with h | h
      · exact g.dis o l ho h
      · have := g.lt o l ho; omega
    · exact (g.obj o ob lo h1 h2).keep (fun l hl => hsame _ (g.lt o l (by rw [h2, hl]))) mv2

end Go.Av
