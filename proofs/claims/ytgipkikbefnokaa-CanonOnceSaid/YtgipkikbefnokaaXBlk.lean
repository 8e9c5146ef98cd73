/- A call over a block of the caller's objects. No condition. -/
import Derived.Test.YtgipkikbefnokaaXLend
set_option linter.constructorNameAsVariable false
namespace Go.Av
open Go Go.RowKit
set_option linter.unusedSimpArgs false
set_option linter.unusedVariables false
mutual
theorem ren_same {f g : Nat → Nat} {p : Nat → Prop} (h : ∀ o, p o → f o = g o) : ∀ {x : RV}, RV.dom p x → RV.ren f x = RV.ren g x
  | .v _, _ => by simp [RV.ren]
  | .any, _ => by simp [RV.ren]
  | .bo, _ => by simp [RV.ren]
  | .os o v, hd => by simp only [RV.dom] at hd; simp [RV.ren, h o hd]
  | .pt o _ _ _, hd => by simp only [RV.dom] at hd; simp [RV.ren, h o hd]
  | .sub o _ _ _, hd => by simp only [RV.dom] at hd; simp [RV.ren, h o hd]
  | .fr _ _, hd => by simp only [RV.dom] at hd; simp [RV.ren, renL_same h hd]
  | .bf _ _, hd => by simp only [RV.dom] at hd; simp [RV.ren, renL_same h hd]
  | .tr _, hd => by simp only [RV.dom] at hd; simp [RV.ren, renL_same h hd]
  | .gr cs, hd => by simp only [RV.dom] at hd; simp [RV.ren, renL_same h hd]
  | .cnd _ x, hd => by simp only [RV.dom] at hd; simp [RV.ren, ren_same h hd]
  | .yl _ _, hd => by simp only [RV.dom] at hd
theorem renL_same {f g : Nat → Nat} {p : Nat → Prop} (h : ∀ o, p o → f o = g o) : ∀ {l : List RV}, domL p l → renL f l = renL g l
  | [], _ => by simp [renL]
  | x :: l, hd => by simp only [domL] at hd; simp [renL, ren_same h hd.1, renL_same h hd.2]
end
theorem obj_same {f g : Nat → Nat} {p : Nat → Prop} (h : ∀ o, p o → f o = g o) {ob : AObj} (hd : ob.dom p) : ob.ren f = ob.ren g := by
  cases ob with
  | none => rfl
  | var cs => simp only [AObj.dom] at hd; simp [renL_same h hd]
  | xo k cs => simp only [AObj.dom] at hd; simp [renL_same h hd]
  | arr v sz rows => simp only [AObj.dom] at hd; simp only [ren_arr, AObj.arr.injEq, true_and]; exact List.map_congr_left fun row hr => renL_same h (hd row hr)
theorem amongH_of {H : List AObj} {π : List Nat} {m : Nat} : ∀ {l : List Nat} {K : List AObj}, (∀ (j o : Nat) ob, l[j]? = some o → K[j]? = some ob → ob.dom (· < m) ∧ H[o]? = some (ob.ren (upN π H.length))) → amongH H π m l K
  | [], _, _ => by simp [amongH]
  | _ :: _, [], _ => by simp [amongH]
  | o :: l, ob :: K, h => by
    simp only [amongH]
    exact ⟨h 0 o ob rfl rfl, amongH_of fun j o' ob' h1 h2 => h (j + 1) o' ob' (by simpa using h1) (by simpa using h2)⟩
section
variable {P : Program} {rd : Option Nat} {k : List Fr} {Q : AE → AS → Prop} {σ : AS} {d : Option Nat} {m : Nat} {os : List AO} {f : AX} {args : List AX} {fid : Nat} {caps : Caps} {args0 : List RV} {H0 : List AObj} {R : RV → List AObj → Prop}
theorem callb (n : Nat) (hf : fnv (ax σ.fr f) = some (fid, caps)) (hc : ∀ vs w, (callFunc fid vs).run P w = .ok (.enter fid vs) w) (h : CallS P fid args0 H0 R)
    (hat : ∀ (o : Nat) ob, H0[o]? = some ob → σ.hp[n + o]? = some (ob.ren (n + ·))) (hd : ∀ ob ∈ H0, ob.dom (· < H0.length))
    (ha : domL (· < H0.length) args0) (hx : capd caps (args.map (ax σ.fr)) = renL (n + ·) args0)
    (kk : ∀ r K g H', R r K → (∀ j, j < H0.length → g j = n + j) → σ.hp.length ≤ H'.length → (∀ o, o < n ∨ n + H0.length ≤ o → o < σ.hp.length → H'[o]? = σ.hp[o]?) →
      (∀ (o : Nat) ob, o < H0.length → K[o]? = some ob → H'[n + o]? = some (ob.ren g)) → goR P rd os k Q ⟨upd σ.fr d (RV.ren g r), H'⟩) : goC P rd none f args d os k Q σ := by
  have hg : ∀ j, j < H0.length → upN (List.range' n H0.length) σ.hp.length j = n + j := fun j hj => by
    simp [upN, hj]
  refine callf (List.range' n H0.length) hf hc h (List.nodup_range' ..) (by simp) (by simpa using ha) (amongH_of fun j o ob h1 h2 => ?_) ?_ ?_
  · have hj := (List.getElem?_eq_some_iff.1 h2).1
    have : o = n + j := by
      rw [List.getElem?_range' (by simpa using hj)] at h1
      simpa using (Option.some.inj h1).symm
    subst this
    refine ⟨by simpa using hd ob (List.mem_of_getElem? h2), ?_⟩
    rw [hat j ob h2, obj_same hg (hd ob (List.mem_of_getElem? h2))]
  · rw [hx]; exact (renL_same hg ha).symm
  · intro r K hR
    have hlen := putP_length (List.range' n H0.length) σ.hp (K.map fun ob => ob.ren (upN (List.range' n H0.length) σ.hp.length))
    refine kk r K _ _ hR hg ?_ ?_ ?_
    · simp only [putH, List.length_append, hlen]; omega
    · intro o ho hl
      simp only [putH]
      rw [List.getElem?_append_left (by rw [hlen]; exact hl), putP_out _ _ _ _ (by simp only [List.mem_range'_1]; omega)]
    · intro o ob ho hk
      have hl : n + o < σ.hp.length := by
        have := hat o _ (List.getElem?_eq_getElem ho)
        exact (List.getElem?_eq_some_iff.1 this).1
      simp only [putH]
      rw [List.getElem?_append_left (by rw [hlen]; exact hl)]
      refine putP_in _ _ _ o _ _ (List.nodup_range' ..) ?_ ?_ hl
      · rw [List.getElem?_range' (by simpa using ho)]; simp
      · rw [List.getElem?_map, hk]; rfl
end
end Go.Av
