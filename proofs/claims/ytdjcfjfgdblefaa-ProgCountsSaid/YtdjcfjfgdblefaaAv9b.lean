/- Contracts of plain values, out of contracts with memory of one's own, and the other way about. No condition. -/
import Derived.Test.YtdjcfjfgdblefaaAv9
set_option linter.constructorNameAsVariable false
namespace Go.Av
open Go Go.RowKit
set_option linter.unusedSimpArgs false
set_option linter.unusedVariables false

/-- **WHAT COMES OUT, LET GO**, is a plain value. -/
theorem pure_of {P : Program} {f : Nat} {args : List AV} {a : AV} (h : CallS P f (args.map .v) [] fun r H' => Frz H' r a) : PureS P f args a := by
  intro e vs g hH hn hv
  refine (h e vs g hH hn hv).mono fun E w' ⟨c, e', r, hE, hw, g', mv, hr, hR⟩ => ?_
  refine ⟨c, ⟨e'.w, fun b => e'.Im b ∨ e'.own b, [], []⟩, .v a, hE, hw, freeze_all g', ?_, .v (frz_ok g' hR hr), rfl⟩
  refine ⟨mv.os, mv.tape, mv.output, mv.size, mv.same, fun b hb => .inl (mv.im b hb), mv.imw, ?_, ?_, ?_⟩
  · rintro b (hb | hb)
    · exact mv.imn b hb
    · rcases mv.ownn b hb with h1 | h1
      · exact .inr (.inl h1)
      · exact .inr (.inr h1)
  · intro o ob lo h1
    rw [hH] at h1
    simp at h1
  · rintro b ⟨o, l, h1, _⟩
    simp at h1

/-- **A CALL OF PLAIN VALUES, WITH WHAT IS ONE'S OWN LENT TO IT.** -/
theorem lend {P : Program} {f : Nat} {args : List RV} {H : List AObj} {xs : List AV} {a : AV} (h : PureS P f xs a) (hf : Flat a) (hl : args.length = xs.length) (hx : ∀ (j : Nat) x y, args[j]? = some x → xs[j]? = some y → Frz H x y) : CallS P f args H fun r H' => r = .v a ∧ H' = H := by
  intro e vs g hH hn hv
  have g0 := freeze_all g
  have hc := h ⟨e.w, fun b => e.Im b ∨ e.own b, [], []⟩ vs g0 rfl (by simp; omega) (fun j x y hj hy => by
    rw [List.getElem?_map, Option.map_eq_some_iff] at hj
    obtain ⟨x', hx', rfl⟩ := hj
    have hjl := (List.getElem?_eq_some_iff.1 hx').1
    have ha := list_get (l := args) (j := j) (by omega) RV.any
    exact .v (frz_ok g (hH ▸ hx j _ x' ha hx') (hv j _ y ha hy)))
  refine hc.mono fun E w' ⟨c, e', r, hE, hw, g', mv, hr, hR⟩ => ?_
  subst hR
  have sm : ∀ b, b < e.w.heap.size → e'.w.heap[b]? = e.w.heap[b]? := fun b hb => by
    by_cases ho : e.own b
    · exact mv.imw b (.inr ho)
    · exact mv.same b hb (fun ⟨o, l, h1, _⟩ => by simp at h1)
  have mv' : Mv e ⟨e'.w, e.Im, e.ρ, e.H⟩ := ⟨mv.os, mv.tape, mv.output, mv.size, fun b hb _ => sm b hb, fun _ h => h, fun b hb => sm b (g.imlt b hb), fun _ h => .inl h, .refl _ _, fun _ h => .inl h⟩
  have gg : Good ⟨e'.w, e.Im, e.ρ, e.H⟩ := ⟨g.len, g.inj, g.dis, fun o l ho => Nat.lt_of_lt_of_le (g.lt o l ho) mv.size, fun b hb => Nat.lt_of_lt_of_le (g.imlt b hb) mv.size, fun o ob lo h1 h2 => (g.obj o ob lo h1 h2).keep (fun l hl => sm _ (g.lt o l (by rw [h2, hl]))) mv'⟩
  refine ⟨c, ⟨e'.w, e.Im, e.ρ, e.H⟩, .v a, hE, hw, gg, mv', ?_, rfl, hH⟩
  cases hr with
  | v hr => exact .v (hf.vi hr)

theorem call_lend {P : Program} {f : Nat} {xs : List AV} {r : AV} {args : List RV} {H : List AObj} {R : RV → List AObj → Prop} (hc : ∀ vs w, (callFunc f vs).run P w = .ok (.enter f vs) w) (h : PureS P f xs r) (hf : Flat r) (hl : args.length = xs.length) (hx : ∀ (j : Nat) x y, args[j]? = some x → xs[j]? = some y → Frz H x y) (hR : R (.v r) H) :
    (∀ vs w, (callFunc f vs).run P w = .ok (.enter f vs) w) ∧ CallS P f args H R :=
  ⟨hc, (lend h hf hl hx).mono fun r' H' ⟨h1, h2⟩ => by subst h1; subst h2; exact hR⟩

end Go.Av
