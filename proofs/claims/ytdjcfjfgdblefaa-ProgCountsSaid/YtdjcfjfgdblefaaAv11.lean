/- A law's row: what it is handed reads as plain values, and a contract of plain values that answers true is the row. No condition beyond the row's own. -/
import Derived.Test.YtdjcfjfgdblefaaAv10
import Derived.OpenShut
import Derived.SizedLaws
import Derived.WalkKit
import Derived.ProofKit
import Derived.ShutString
import Derived.ChangeOld
import Derived.Below
import Derived.CallsIn
set_option linter.constructorNameAsVariable false
namespace Go.Av
open Go Go.RowKit Go.ChangeShapes Go.WideShapes Go.ChangeAt
set_option linter.unusedSimpArgs false
set_option linter.unusedVariables false

/-- A parameter's plain value, of its cells. -/
def argV (P : Program) (t : TypeId) (xs : List AV) : AV :=
  match P.underlying t with
  | some (.struct _) => .g xs
  | some (.array _ _) => .g xs
  | _ => xs.headD .nf

/-- Values of parameters of such types. -/
def FitA (P : Program) (d : Nat) : List TypeId → List AV → Prop
  | [], [] => True
  | t :: ts, a :: as => (∃ sh xs, shT P d t = some sh ∧ FitL sh xs ∧ a = argV P t xs) ∧ FitA P d ts as
  | _, _ => False

theorem fitA_length {P : Program} {d : Nat} : ∀ {ts : List TypeId} {as : List AV}, FitA P d ts as → as.length = ts.length
  | [], [], _ => rfl
  | _ :: _, _ :: _, h => by simp only [FitA] at h; simp [fitA_length h.2]
  | [], _ :: _, h => by simp [FitA] at h
  | _ :: _, [], h => by simp [FitA] at h

section
variable {H : Type} {enc : TypeId × Value → H} {P : Program} {w : World} {spare : Nat → Bool} {held : Bool}

theorem shT_one {d : Nat} {t : TypeId} {sh : List Sh} (h : shT P d t = some sh) (h1 : ∀ fs, P.underlying t ≠ some (.struct fs)) (h2 : ∀ n e, P.underlying t ≠ some (.array n e)) : ∃ s, sh = [s] := by
  cases d with
  | zero => simp [shT] at h
  | succ d =>
    unfold shT at h
    split at h
    · cases h; exact ⟨_, rfl⟩
    · cases h; exact ⟨_, rfl⟩
    · cases h; exact ⟨_, rfl⟩
    · rename_i fs hu; exact absurd hu (h1 fs)
    · rename_i n e hu; exact absurd hu (h2 n e)
    · simp only [Option.bind_eq_some_iff] at h
      obtain ⟨ks, _, h⟩ := h
      split at h
      · cases h; exact ⟨_, rfl⟩
      · cases h
    · cases h

theorem cell_arg {r : Reach} {base : Nat} {t : TypeId} {v : Value} (h : Value.okWide P w r base t v) (h1 : ∀ fs, P.underlying t ≠ some (.struct fs)) (h2 : ∀ n e, P.underlying t ≠ some (.array n e)) (hc : v.cells.toList.length = 1) {x : AV} {Im : Nat → Prop} (hv : VIs w Im [x] v.cells.toList) : VI w Im x v := by
  unfold Value.okWide at h
  split at h
  · rename_i fs hu; exact absurd hu (h1 fs)
  · rename_i n e hu; exact absurd hu (h2 n e)
  · cases v with
    | agg cs =>
      exfalso
      revert h
      unfold Cell.okWide
      split <;> simp_all [Cell.ok]
    | _ => exact hv.1

theorem open_arg {d : Nat} {t : TypeId} {sh : List Sh} (hsh : shT P d t = some sh) {v : Value} {dd : DataW H} {ps : List MemPlace} (h : DataW.Trod enc P w 0 spare held t v dd ps) (hw : (dd.weights P t).all (· ≤ reachBytes) = true) {r : Reach} {base : Nat} (hok : Value.okWide P w r base t v) :
    ∃ xs, FitL sh xs ∧ VI w (fun b => b < w.heap.size) (argV P t xs) v := by
  obtain ⟨fuel, h⟩ := h
  obtain ⟨xs, h1, h2⟩ := open_any fuel d t sh hsh _ _ _ h hw
  refine ⟨xs, h1, ?_⟩
  unfold argV
  split
  · rename_i fs hu
    unfold Value.okWide at hok
    rw [hu] at hok
    obtain ⟨cs, rfl, _, _⟩ := hok
    obtain ⟨h3, h4⟩ := h2.get
    refine .g xs cs (by simpa [Value.cells] using h3) ?_ ?_
    · intro j c hc
      have hj : j < xs.length := by
        have := (Array.getElem?_eq_some_iff.1 hc).1
        simp [Value.cells] at h3; omega
      exact (h4 j _ c (List.getElem?_eq_getElem hj) (by simpa [Value.cells] using hc)).2
    · intro j a c ha hc
      exact (h4 j a c ha (by simpa [Value.cells] using hc)).1
  · rename_i n e hu
    unfold Value.okWide at hok
    rw [hu] at hok
    obtain ⟨cs, rfl, _, _⟩ := hok
    obtain ⟨h3, h4⟩ := h2.get
    refine .g xs cs (by simpa [Value.cells] using h3) ?_ ?_
    · intro j c hc
      have hj : j < xs.length := by
        have := (Array.getElem?_eq_some_iff.1 hc).1
        simp [Value.cells] at h3; omega
      exact (h4 j _ c (List.getElem?_eq_getElem hj) (by simpa [Value.cells] using hc)).2
    · intro j a c ha hc
      exact (h4 j a c ha (by simpa [Value.cells] using hc)).1
  · rename_i h5 h6
    obtain ⟨s, rfl⟩ := shT_one hsh h5 h6
    have hl := fitL_length h1
    cases xs with
    | nil => simp at hl
    | cons x xs =>
      cases xs with
      | nil =>
        obtain ⟨h3, _⟩ := h2.get
        exact cell_arg hok h5 h6 (by simpa using h3) h2
      | cons _ _ => simp at hl

theorem open_args {d : Nat} {r : Reach} {base : Nat} : ∀ {ts : List TypeId} {vs : List Value} {ds : List (DataW H)} {ps : List MemPlace}, DataW.TrodAll enc P w 0 spare held ts vs ds ps → (DataW.weightsEach P ts ds).all (· ≤ reachBytes) = true →
    (∀ (j : Nat) t v, ts[j]? = some t → vs[j]? = some v → Value.okWide P w r base t v) → ts.all (fun t => (shT P d t).isSome) = true →
    ∃ as, FitA P d ts as ∧ vs.length = as.length ∧ ∀ (j : Nat) a v, as[j]? = some a → vs[j]? = some v → VI w (fun b => b < w.heap.size) a v
  | [], vs, ds, ps, h, _, _, _ => by
    obtain ⟨rfl, rfl, rfl⟩ := trodAll_nil h
    exact ⟨[], trivial, rfl, fun j a v h => by simp at h⟩
  | t :: ts, vs, ds, ps, h, hw, hok, hs => by
    obtain ⟨v, vs, dd, ds, p, q, rfl, rfl, rfl, h1, h2⟩ := trodAll_cons h
    simp only [DataW.weightsEach, List.all_append, Bool.and_eq_true] at hw
    simp only [List.all_cons, Bool.and_eq_true, Option.isSome_iff_exists] at hs
    obtain ⟨⟨sh, hsh⟩, hs⟩ := hs
    obtain ⟨xs, h3, h4⟩ := open_arg hsh h1 hw.1 (hok 0 t v rfl rfl)
    obtain ⟨as, h5, h6, h7⟩ := open_args h2 hw.2 (fun j t v ht hv => hok (j + 1) t v (by simpa using ht) (by simpa using hv)) hs
    refine ⟨argV P t xs :: as, ⟨⟨sh, xs, hsh, h3, rfl⟩, h5⟩, by simp [h6], fun j a v ha hv => ?_⟩
    cases j with
    | zero => simp at ha hv; subst ha; subst hv; exact h4
    | succ j => exact h7 j a v (by simpa using ha) (by simpa using hv)

theorem below_all {W W' : World} (hl : laidOutB P = true) (hb : Below W.heap.size W W') : ∀ {ts : List TypeId} {vs : List Value} {ds : List (DataW H)} {ps : List MemPlace}, ts.all (fun t => P.readableRec t && decide (t < P.types.size)) = true →
    DataW.TrodAll enc P W 0 (fun _ => true) true ts vs ds ps → DataW.TrodAll enc P W' 0 (fun b => decide (b < W.heap.size)) true ts vs ds ps
  | [], vs, ds, ps, _, h => by
    obtain ⟨rfl, rfl, rfl⟩ := trodAll_nil h
    rfl
  | t :: ts, vs, ds, ps, hs, h => by
    have hlt := DataW.TrodAll.lt h
    obtain ⟨v, vs, dd, ds, p, q, rfl, rfl, rfl, h1, h2⟩ := trodAll_cons h
    simp only [List.all_cons, Bool.and_eq_true, decide_eq_true_eq] at hs
    exact trodAll_cons_mk (Below.trod hl hs.1.1 hs.1.2 h1 hb (fun x hx => hlt x (List.mem_append_left _ hx))) (below_all hl hb hs.2 h2)
end

/-- **A LAW's CONTRACT, AS ITS ROW ASKS FOR IT.** -/
theorem law_contract {H : Type} {enc : TypeId × Value → H} {P : Program} {a : Assume} {f : FuncId} {fn : Func} {s : ChangeSpec} {conds : List PathCond} {d tb : Nat} (hmx : P.follows .mixedOrders = true)
    (hs : ∀ ds : List (DataW H), ds.length = fn.params.toList.length → s.fn H ds = { results := [.lit (.bool true)], args := ds }) (hvs : s.vars = []) (hr : fn.resultTypes = #[tb]) (hb : P.underlying tb = some .bool)
    (hsh : fn.params.toList.all (fun t => (shT P d t).isSome) = true) (hrow : fn.params.toList.all (fun t => P.readableRec t && decide (t < P.types.size)) = true) (hl : laidOutB P = true)
    (law : ∀ as, FitA P d fn.params.toList as → ∀ (W : World) (args : Array Value), args.toList.length = as.length → (∀ (j : Nat) a v, as[j]? = some a → args[j]? = some v → VI W (fun b => b < W.heap.size) a v) →
      Calls P f args W fun e W' => e = .returned (.bool true) ∧ Below W.heap.size W W') :
    ∀ (W : World) (base : Nat) (args : Array Value) (ds gs : List (DataW H)) (before : List MemPlace),
      (∀ (j : Nat) t v, fn.params[j]? = some t → args[j]? = some v → Value.okWide P W .any base t v) →
      DataW.Whole enc P fn.params.toList s.vars false W args.toList ds gs before →
      conds.all (PathCond.test P ⟨fn.params.toList, ds, s.plain.varTypes P, gs⟩) = true →
      (DataW.weightsEach P (fn.params.toList ++ s.plain.varTypes P) (ds ++ gs)).all (· ≤ reachBytes) = true →
      a.holds P (lone (Frame.enter P f args .normal) [] W) →
      Calls P f args W fun e W' => ∃ v, e = .returned v ∧ s.post enc P fn false true false false W args v W' := by
  intro W base args ds gs before hval hW _ hsz _
  have hW' := hW
  obtain ⟨p, q, hA, hV, rfl, hfz, hnd⟩ := hW
  rw [hvs] at hV
  obtain ⟨rfl, rfl⟩ := trodVars_none hV
  have hvt : s.plain.varTypes P = [] := by simp [DataSpec.varTypes, ChangeSpec.plain, hvs]
  rw [hvt] at hsz
  simp only [List.append_nil] at hsz
  obtain ⟨as, h1, h2, h3⟩ := open_args hA hsz (fun j t v ht hv => hval j t v (by simpa using ht) (by simpa using hv)) hsh
  refine (law as h1 W args h2 (fun j a v ha hv => h3 j a v ha (by simpa using hv))).mono fun e W' ⟨he, bel⟩ => ?_
  subst he
  have hlen : ds.length = fn.params.toList.length := by
    have : ∀ {ts : List TypeId} {vs : List Value} {ds : List (DataW H)} {ps : List MemPlace}, DataW.TrodAll enc P W 0 (fun _ => true) true ts vs ds ps → ds.length = ts.length := by
      intro ts
      induction ts with
      | nil => intro vs ds ps h; obtain ⟨rfl, rfl, rfl⟩ := trodAll_nil h; rfl
      | cons t ts ih => intro vs ds ps h; obtain ⟨v, vs, dd, ds, p, q, rfl, rfl, rfl, h1, h2⟩ := trodAll_cons h; simp [ih h2]
    exact this hA
  have hf := hs ds hlen
  refine ⟨_, rfl, ds, [], _, [], p, [], hW', ?_, ?_, ?_, bel.frame _, fun h => by cases h⟩
  · rw [List.append_nil, hf, hr]
    exact trodAll_mk1 (shut_bool hb _)
  · rw [List.append_nil, hf]
    exact below_all hl bel hrow hA
  · rw [List.append_nil, hf, hvs]
    rfl

/-- A contract of values, turned for the row. -/
theorem law_calls {P : Program} {f : Nat} {as : List AV} (h : PureS P f as (.b true)) (W : World) (args : Array Value) (hn : args.toList.length = as.length) (hv : ∀ (j : Nat) a v, as[j]? = some a → args[j]? = some v → VI W (fun b => b < W.heap.size) a v) :
    Calls P f args W fun e W' => e = .returned (.bool true) ∧ Below W.heap.size W W' := by
  have g : Good ⟨W, fun b => b < W.heap.size, [], []⟩ := ⟨rfl, fun o o' l l' h => by simp at h, fun o l h => by simp at h, fun o l h => by simp at h, fun b hb => hb, fun o ob lo h => by simp at h⟩
  have := h ⟨W, fun b => b < W.heap.size, [], []⟩ args g rfl (by simpa using hn) (fun j x y hx hy => by
    rw [List.getElem?_map] at hx
    obtain ⟨a, ha, rfl⟩ := Option.map_eq_some_iff.1 hx
    exact .v (hv j a y ha hy))
  refine (this.calls (fun k d hd => by cases hd)).mono fun E w' ⟨c, e', r, hE, hw, _, mv, hr, hR⟩ => ?_
  subst hE; subst hw; subst hR
  cases hr with
  | v hr =>
    cases hr
    exact ⟨rfl, mv.os, mv.tape, mv.output, mv.size, fun k hk => mv.imw k hk⟩
end Go.Av
