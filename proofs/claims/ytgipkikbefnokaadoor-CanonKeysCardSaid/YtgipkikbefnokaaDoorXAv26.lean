/- A plain call in a region in which memory is made in any order. No condition. -/
import Derived.Test.YtgipkikbefnokaaDoorXAv19
import Derived.Test.YtgipkikbefnokaaDoorXAv25
set_option linter.constructorNameAsVariable false
namespace Go.Av
open Go Go.RowKit
set_option linter.unusedSimpArgs false
set_option linter.unusedVariables false
theorem callxp {P : Program} {rd : Option Nat} {ls : List Nat} {H : List AObj} {k : List Fr} {Q : AE → AS → Prop} {m : Nat} {os : List AO} {fr : List (Nat × RV)} {obs : List AObj} {d : Option Nat} {f : AX} {args : List AX} {fid : Nat} {caps : Caps} {xs : List AV} {r : AV}
    (hf : fnv (ax fr f) = some (fid, caps)) (hc : ∀ vs w, (callFunc fid vs).run P w = .ok (.enter fid vs) w) (h : PureS P fid xs r) (hx : capd caps (args.map (ax fr)) = xs.map .v)
    (kk : goX P rd ls H k Q m os (upd fr d (.v r)) (obs ++ [.none])) : goXC P rd ls H k Q m d f args os fr obs := by
  rw [goXC, goX]
  refine ⟨.v r, .none, .inl ⟨rfl, fun X => ?_, by simp [RV.dom]⟩, kk⟩
  simp only [evR, CallK, hf]
  refine ⟨hc, ?_⟩
  rw [hx]
  exact (h.frame _).mono fun r' H' ⟨h1, h2⟩ => by subst h1; subst h2; exact ⟨rfl, rfl⟩
def goXP (P : Program) (rd : Option Nat) (ls : List Nat) (H : List AObj) (k : List Fr) (Q : AE → AS → Prop) (x : Option (Prop × RV)) (m : Nat) (d : Option Nat) (os : List AO) (fr : List (Nat × RV)) (obs : List AObj) : Prop :=
  match x with
  | some (C, r) => C ∧ RV.dom (· < H.length + (if obs.length ∈ ls then obs.length else 0)) r ∧ goX P rd ls H k Q m os (upd fr d r) (obs ++ [.none])
  | none => False
@[simp] theorem goXP_some (P : Program) (rd : Option Nat) (ls : List Nat) (H : List AObj) (k : List Fr) (Q : AE → AS → Prop) (C : Prop) (r : RV) (m : Nat) (d : Option Nat) (os : List AO) (fr : List (Nat × RV)) (obs : List AObj) :
    goXP P rd ls H k Q (some (C, r)) m d os fr obs = (C ∧ RV.dom (· < H.length + (if obs.length ∈ ls then obs.length else 0)) r ∧ goX P rd ls H k Q m os (upd fr d r) (obs ++ [.none])) := rfl
@[simp] theorem goX_pk (P : Program) (rd : Option Nat) (ls : List Nat) (H : List AObj) (k : List Fr) (Q : AE → AS → Prop) (m : Nat) (d : Option Nat) (g : Option (Nat × Bool)) (a b c : AX) (os : List AO) (fr : List (Nat × RV)) (obs : List AObj) :
    goX P rd ls H k Q (m + 1) (⟨d, g, .pk a b c⟩ :: os) fr obs = goXP P rd ls H k Q (evPk fr g a b c) m d os fr obs := by
  rw [goX]; unfold goXP
  generalize evPk fr g a b c = x
  cases x <;> rfl
theorem Frz.app {H X : List AObj} {x : RV} {a : AV} (h : Frz H x a) : Frz (H ++ X) x a := by
  have up : ∀ {o : Nat} {ob : AObj}, H[o]? = some ob → (H ++ X)[o]? = some ob := fun {o ob} h => by
    rw [List.getElem?_append_left (List.getElem?_eq_some_iff.1 h).1]; exact h
  induction h with
  | v x => exact .v x
  | nil sz => exact .nil sz
  | os h hl hr _ ih => exact .os (up h) hl hr ih
  | pt h hl _ ih => exact .pt (up h) hl ih
  | tr hl _ ih => exact .tr hl ih
  | gr hl _ ih => exact .gr hl ih
  | g hl _ ih => exact .g hl ih
  | fr hl _ ih => exact .fr hl ih
theorem callxz {P : Program} {rd : Option Nat} {ls : List Nat} {H : List AObj} {k : List Fr} {Q : AE → AS → Prop} {m : Nat} {os : List AO} {fr : List (Nat × RV)} {obs : List AObj} {d : Option Nat} {f : AX} {args : List AX} {fid : Nat} {caps : Caps} {xs : List AV} {r : AV}
    (hf : fnv (ax fr f) = some (fid, caps)) (hc : ∀ vs w, (callFunc fid vs).run P w = .ok (.enter fid vs) w) (h : PureS P fid xs r) (hr : Flat r) (hz : FrzL H (capd caps (args.map (ax fr))) xs)
    (kk : goX P rd ls H k Q m os (upd fr d (.v r)) (obs ++ [.none])) : goXC P rd ls H k Q m d f args os fr obs := by
  rw [goXC, goX]
  refine ⟨.v r, .none, .inl ⟨rfl, fun X => ?_, by simp [RV.dom]⟩, kk⟩
  simp only [evR, CallK, hf]
  refine ⟨hc, ?_⟩
  obtain ⟨h1, h2⟩ := hz.get
  exact (lend h hr h1 fun j x y hx hy => (h2 j x y hx hy).app).mono fun r' H' ⟨h1, h2⟩ => by subst h1; subst h2; exact ⟨rfl, rfl⟩
end Go.Av
