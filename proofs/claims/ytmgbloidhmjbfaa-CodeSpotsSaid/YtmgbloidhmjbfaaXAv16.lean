/- Calls that give lists, in regions whose order is drawn. No condition. -/
import Derived.Test.YtmgbloidhmjbfaaXAv15
set_option linter.constructorNameAsVariable false
namespace Go.Av
open Go Go.RowKit
set_option linter.unusedSimpArgs false
set_option linter.unusedVariables false
section
variable {P : Program} {rd : Option Nat} {k : List Fr} {Q : AE → AS → Prop} {σ : AS} {d : Option Nat} {m : Nat} {os : List AO} {f : AX} {args : List AX} {fid : Nat} {caps : Caps} {xs : List AV} {r : AV} {sz : Nat} {rows : List (List AV)} {l : List (List (Nat × RV) × AO × RV)}
theorem callvs (o : Nat) {vo szo : Nat} {ro : List (List RV)} (hf : fnv (ax σ.fr f) = some (fid, caps)) (hc : ∀ vs w, (callFunc fid vs).run P w = .ok (.enter fid vs) w) (h : Own1 P fid xs sz rows) (hfl : ∀ row ∈ rows, ∀ x ∈ row, Flat x) (ho : σ.hp[o]? = some (.arr vo szo ro)) (hz : FrzL σ.hp (capd caps (args.map (ax σ.fr))) xs)
    (kk : (σ.hp.set o (.arr (vo + 1) sz (vrows rows)) = σ.hp ∨ stab P l (σ.hp.set o (.arr (vo + 1) sz (vrows rows)))) ∧ goS P rd l os k Q ⟨upd σ.fr d (.os o (vo + 1)), σ.hp.set o (.arr (vo + 1) sz (vrows rows))⟩) : goCS P rd l none f args d os k Q σ := by
  simp only [goCS, CallK, hf]
  exact ⟨hc, (h.lent hfl hz o _ _ (vo + 1) rfl (.inr ⟨vo, szo, ro, ho, Nat.lt_succ_self _, rfl⟩)).mono fun r' H' ⟨h1, h2⟩ => by subst h1; subst h2; exact kk⟩
theorem callos (hf : fnv (ax σ.fr f) = some (fid, caps)) (hc : ∀ vs w, (callFunc fid vs).run P w = .ok (.enter fid vs) w) (h : Own1 P fid xs sz rows) (hfl : ∀ row ∈ rows, ∀ x ∈ row, Flat x) (hz : FrzL σ.hp (capd caps (args.map (ax σ.fr))) xs)
    (kk : (σ.hp ++ [.arr 0 sz (vrows rows)] = σ.hp ∨ stab P l (σ.hp ++ [.arr 0 sz (vrows rows)])) ∧ goS P rd l os k Q ⟨upd σ.fr d (.os σ.hp.length 0), σ.hp ++ [.arr 0 sz (vrows rows)]⟩) : goCS P rd l none f args d os k Q σ := by
  simp only [goCS, CallK, hf]
  exact ⟨hc, (h.lent hfl hz σ.hp.length _ _ 0 rfl (.inl ⟨rfl, rfl⟩)).mono fun r' H' ⟨h1, h2⟩ => by subst h1; subst h2; exact kk⟩
end
attribute [simp] evSla evCvb
end Go.Av
