/- A call that is handed a list of one's own and is let have it: behind the call it is plain. No condition. -/
import Derived.Test.YtgipkikbefnokaaDoorXArr
set_option linter.constructorNameAsVariable false
namespace Go.Av
open Go Go.RowKit
set_option linter.unusedSimpArgs false
set_option linter.unusedVariables false
theorem PureS.gone {P : Program} {f : Nat} {xs1 xs2 : List AV} {r : AV} {H : List AObj} {o v sz : Nat} {rows : List (List AV)} (h : PureS P f (xs1 ++ .sl sz rows :: xs2) r) (ho : H[o]? = some (.arr v sz (vrows rows))) :
    CallS P f (xs1.map .v ++ .os o v :: xs2.map .v) H fun r' H' => r' = .v r ∧ H' = H.set o .none := by
  intro e vs g tb hH hn hv
  subst hH
  have hmid : (xs1.map RV.v ++ .os o v :: xs2.map RV.v)[xs1.length]? = some (.os o v) := by
    rw [List.getElem?_append_right (by simp)]; simp
  obtain ⟨c, hc⟩ := array_get (vs := vs) (j := xs1.length) hn (by simp)
  obtain ⟨e1, h1, h2, h3, h4, h5⟩ := freeze_one g ho (hv _ _ c hmid hc)
  have hp := h.frame e1.H e1 vs h3 (tb.mv h4) rfl (by simpa using hn) (fun j x y hx hy => by
    rw [List.getElem?_map, Option.map_eq_some_iff] at hx
    obtain ⟨a, ha, rfl⟩ := hx
    by_cases hj : j < xs1.length
    · rw [List.getElem?_append_left hj] at ha
      exact h4.vr (hv j _ y (by rw [List.getElem?_append_left (by simpa using hj), List.getElem?_map, ha]; rfl) hy)
    · rw [List.getElem?_append_right (by omega)] at ha
      by_cases hj0 : j = xs1.length
      · subst hj0
        simp at ha
        subst ha
        rw [hc] at hy; cases hy
        exact .v h5
      · obtain ⟨m, hm⟩ : ∃ m, j - xs1.length = m + 1 := ⟨j - xs1.length - 1, by omega⟩
        rw [hm, List.getElem?_cons_succ] at ha
        exact h4.vr (hv j _ y (by rw [List.getElem?_append_right (by simp; omega)]; simp only [List.length_map]; rw [hm, List.getElem?_cons_succ, List.getElem?_map, ha]; rfl) hy))
  rw [h1] at hp
  refine hp.mono ?_
  rintro E w' ⟨c', e', r', hE, hw, g', mv, hr, rfl, hH'⟩
  exact ⟨c', e', _, hE, hw, g', h4.trans mv g, hr, rfl, by rw [hH', h2]⟩
section
variable {P : Program} {rd : Option Nat} {k : List Fr} {Q : AE → AS → Prop} {σ : AS} {d : Option Nat} {os : List AO} {f : AX} {args : List AX} {fid : Nat} {caps : Caps} {r : AV} {sz : Nat} {rows : List (List AV)} {l : List (List (Nat × RV) × AO × RV)}
theorem callg1 (o v : Nat) (xs1 xs2 : List AV) (hf : fnv (ax σ.fr f) = some (fid, caps)) (hc : ∀ vs w, (callFunc fid vs).run P w = .ok (.enter fid vs) w) (h : PureS P fid (xs1 ++ .sl sz rows :: xs2) r) (hx : capd caps (args.map (ax σ.fr)) = xs1.map .v ++ .os o v :: xs2.map .v) (ho : σ.hp[o]? = some (.arr v sz (vrows rows)))
    (kk : goR P rd os k Q ⟨upd σ.fr d (.v r), σ.hp.set o .none⟩) : goC P rd none f args d os k Q σ := by
  simp only [goC, CallK, hf]
  rw [hx]
  exact ⟨hc, (h.gone ho).mono fun r' H' ⟨h1, h2⟩ => by subst h1; subst h2; exact kk⟩
theorem callg1s (o v : Nat) (xs1 xs2 : List AV) (hf : fnv (ax σ.fr f) = some (fid, caps)) (hc : ∀ vs w, (callFunc fid vs).run P w = .ok (.enter fid vs) w) (h : PureS P fid (xs1 ++ .sl sz rows :: xs2) r) (hx : capd caps (args.map (ax σ.fr)) = xs1.map .v ++ .os o v :: xs2.map .v) (ho : σ.hp[o]? = some (.arr v sz (vrows rows)))
    (hs : stab P l (σ.hp.set o .none)) (kk : goS P rd l os k Q ⟨upd σ.fr d (.v r), σ.hp.set o .none⟩) : goCS P rd l none f args d os k Q σ := by
  simp only [goCS, CallK, hf]
  rw [hx]
  exact ⟨hc, (h.gone ho).mono fun r' H' ⟨h1, h2⟩ => by subst h1; subst h2; exact ⟨.inr hs, kk⟩⟩
end
end Go.Av
