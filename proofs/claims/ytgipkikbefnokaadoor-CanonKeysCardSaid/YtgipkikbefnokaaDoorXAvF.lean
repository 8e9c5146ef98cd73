/- A known function under a guard that is down is not called. No condition. -/
import Derived.Test.YtgipkikbefnokaaDoorXAv26
import Derived.Test.YtgipkikbefnokaaDoorXAv9
import Derived.Lib.LaidTab
import Derived.Lib.LaidU8
set_option linter.constructorNameAsVariable false
namespace Go.Av
open Go Go.RowKit
variable {P : Program} {rd : Option Nat} {k : List Fr} {Q : AE → AS → Prop} {σ : AS} {d : Option Nat} {m : Nat} {os : List AO} {f : AX} {args : List AX} {fid : Nat} {caps : Caps} {j : Nat} {want : Bool}
theorem calldn (r : AV) (hf : fnv (ax σ.fr f) = some (fid, caps)) (hc : ∀ vs w, (callFunc fid vs).run P w = .ok (.enter fid vs) w) (hg : gval (lk σ.fr j) want = some false)
    (kk : goR P rd os k Q ⟨upd σ.fr d (.cnd false (.v r)), σ.hp⟩) : goC P rd (some (j, want)) f args d os k Q σ := by
  simp only [goC, CallK, hf, hg]
  exact ⟨hc, r, fun hG => by simp at hG, kk⟩
theorem calldq (r : AV) (hf : fnv (ax σ.fr f) = some (fid, caps)) (hc : ∀ vs w, (callFunc fid vs).run P w = .ok (.enter fid vs) w) (hg : gval (lk σ.fr j) want = some false)
    (kk : goD P rd m os k Q ⟨upd σ.fr d (.cnd false (.v r)), σ.hp⟩) : goCD P rd (some (j, want)) f args d m os k Q σ := by
  simp only [goCD, evQ, hf, hg]
  exact ⟨hc, r, fun hG => by simp at hG, kk⟩
end Go.Av
/- A law's contract where package variables are laid at the start. No condition. -/
set_option linter.constructorNameAsVariable false
namespace Go.Av
open Go Go.RowKit Go.WideShapes Go.ChangeShapes Go.ChangeAt
set_option linter.unusedSimpArgs false
set_option linter.unusedVariables false
theorem law_contractX {X : World → Array Value → Prop} {H : Type} {enc : TypeId × Value → H} {P : Program} {a : Assume} {f : FuncId} {fn : Func} {s : ChangeSpec} {conds : List PathCond} {d tb : Nat} (hmx : P.follows .mixedOrders = true)
    (hs : ∀ ds : List (DataW H), ds.length = fn.params.toList.length → s.fn H ds = { results := [.lit (.bool true)], args := ds }) (hvs : s.vars = []) (hr : fn.resultTypes = #[tb]) (hb : P.underlying tb = some .bool)
    (hsh : fn.params.toList.all (fun t => (shT P d t).isSome) = true) (hrow : fn.params.toList.all (fun t => P.readableRec t && decide (t < P.types.size)) = true) (hl : laidOutB P = true)
    (law : ∀ al, FitA P d fn.params.toList al → ∀ (W : World) (args : Array Value), args.toList.length = al.length → (∀ (j : Nat) a v, al[j]? = some a → args[j]? = some v → VI W (fun b => b < W.heap.size) a v) → X W args →
      Calls P f args W fun e W' => e = .returned (.bool true) ∧ Below W.heap.size W W') :
    ∀ (W : World) (base : Nat) (args : Array Value) (ds gs : List (DataW H)) (before : List MemPlace),
      (∀ (j : Nat) t v, fn.params[j]? = some t → args[j]? = some v → Value.okWide P W .any base t v) →
      DataW.Whole enc P fn.params.toList s.vars false W args.toList ds gs before →
      conds.all (PathCond.test P ⟨fn.params.toList, ds, s.plain.varTypes P, gs⟩) = true →
      (DataW.weightsEach P (fn.params.toList ++ s.plain.varTypes P) (ds ++ gs)).all (· ≤ reachBytes) = true → X W args →
      a.holds P (lone (Frame.enter P f args .normal) [] W) →
      Calls P f args W fun e W' => ∃ v, e = .returned v ∧ s.post enc P fn false true false false W args v W' := by
  intro W base args ds gs before hval hW _ hsz hX _
  have hW' := hW
  obtain ⟨p, q, hA, hV, rfl, hfz, hnd⟩ := hW
  rw [hvs] at hV
  obtain ⟨rfl, rfl⟩ := trodVars_none hV
  have hvt : s.plain.varTypes P = [] := by simp [DataSpec.varTypes, ChangeSpec.plain, hvs]
  rw [hvt] at hsz
  simp only [List.append_nil] at hsz
  obtain ⟨al, h1, h2, h3⟩ := open_args hA hsz (fun j t v ht hv => hval j t v (by simpa using ht) (by simpa using hv)) hsh
  refine (law al h1 W args h2 (fun j a v ha hv => h3 j a v ha (by simpa using hv)) hX).mono fun e W' ⟨he, bel⟩ => ?_
  subst he
  have hlen : ds.length = fn.params.toList.length := by
    have : ∀ {ts : List TypeId} {vs : List Value} {ds : List (DataW H)} {ps : List MemPlace}, DataW.TrodAll enc P W 0 (fun _ => true) true ts vs ds ps → ds.length = ts.length := by
      intro ts
      induction ts with
      | nil => intro vs ds ps h; obtain ⟨rfl, rfl, rfl⟩ := trodAll_nil h; rfl
      | cons t ts ih => intro vs ds ps h; obtain ⟨v, vs, dd, ds, p, q, rfl, rfl, rfl, h1, h2⟩ := trodAll_cons h; simp [ih h2]
    exact this hA
  have hf := hs ds hlen
  refine ⟨_, rfl, ds, [], _, [], p, [], hW', ?_, ?_, ?_, bel.frame _, fun h => by cases h⟩
  · rw [List.append_nil, hf, hr]
    exact trodAll_mk1 (shut_bool hb _)
  · rw [List.append_nil, hf]
    exact below_all hl bel hrow hA
  · rw [List.append_nil, hf, hvs]
    rfl
theorem tab_of_reads {P : Program} {W : World} {name : String} {k : IntKind} {zs : List Int} {g : Nat} {t e : TypeId} {n : Nat}
    (hg : P.globalNamed name = some g) (hty : (P.globals[g]?).map (·.type) = some t) (ht : P.underlying t = some (.array n e)) (he : P.underlying e = some (.int k)) (hce : P.cellsOf e = 1) (hct : P.cellsOf t = n)
    (h : Lib.VarReads P W name (Lib.tabData k zs)) : ∃ t fz, W.heap[g]? = some (.cells (zs.map fun z => Value.int k z).toArray t fz) := by
  obtain ⟨g', t', cs, fuel, p, hg', ht', hvar, hd⟩ := h
  obtain rfl := Option.some.inj (hg.symm.trans hg')
  obtain rfl := Option.some.inj (hty.symm.trans ht')
  have hcs := Lib.cells_of_tab ht he hce hct hd
  unfold World.var? at hvar
  rw [hg] at hvar
  simp only [Option.bind_some] at hvar
  split at hvar
  · rename_i c t fz hh
    cases hvar
    exact ⟨t, fz, by rw [hh, ← hcs]⟩
  · cases hvar
end Go.Av
