/- Regions in which memory is made in any order, gone through. No condition. -/
import Derived.Test.YtgipkikbefnokaaDoorXAv17
set_option linter.constructorNameAsVariable false
namespace Go.Av
open Go Go.RowKit
set_option linter.unusedSimpArgs false
set_option linter.unusedVariables false
def goX (P : Program) (rd : Option Nat) (ls : List Nat) (H : List AObj) (k : List Fr) (Q : AE → AS → Prop) : Nat → List AO → List (Nat × RV) → List AObj → Prop
  | 0, os, fr, obs => goR P rd os k Q ⟨fr, H ++ obs⟩
  | _ + 1, [], fr, obs => leave P rd .normal k Q ⟨fr, H ++ obs⟩
  | m + 1, ⟨d, g, .q q⟩ :: os, fr, obs =>
    match evo fr H g q with
    | some (C, r) => C ∧ (∀ X, evo fr (H ++ X) g q = some (C, r)) ∧ RV.dom (· < H.length + (if obs.length ∈ ls then obs.length else 0)) r ∧ goX P rd ls H k Q m os (upd fr d r) (obs ++ [.none])
    | none => False
  | m + 1, ⟨d, g, .pk a b c⟩ :: os, fr, obs =>
    match evPk fr g a b c with
    | some (C, r) => C ∧ RV.dom (· < H.length + (if obs.length ∈ ls then obs.length else 0)) r ∧ goX P rd ls H k Q m os (upd fr d r) (obs ++ [.none])
    | none => False
  | m + 1, ⟨some d, none, .m (.alloc z)⟩ :: os, fr, obs =>
    match rcells (.v z) with
    | some c => goX P rd ls H k Q m os (upd fr (some d) (.pt (H.length + obs.length) 0 0 0)) (obs ++ [.var c])
    | none => False
  | m + 1, ⟨some d, none, .m (.mks sz bytes z l c)⟩ :: os, fr, obs =>
    match ax fr l, ax fr c with
    | .v (.i _ l), .v (.i _ c) => (0 ≤ l ∧ l ≤ c ∧ (bytes : Int) * c ≤ 281474976710656 ∧ c ≤ 9223372036854775807) ∧ goX P rd ls H k Q m os (upd fr (some d) (.os (H.length + obs.length) 0)) (obs ++ [.arr 0 sz (List.replicate l.toNat (z.map .v))])
    | _, _ => False
  | m + 1, ⟨d, g, .call f args⟩ :: os, fr, obs => ∃ r ob, xstep P (decide (obs.length ∈ ls)) H fr obs.length ⟨d, g, .call f args⟩ r ob ∧ goX P rd ls H k Q m os (upd fr d r) (obs ++ [ob])
  | _ + 1, _ :: _, _, _ => False
def goXO (P : Program) (rd : Option Nat) (ls : List Nat) (H : List AObj) (k : List Fr) (Q : AE → AS → Prop) (x : Option (Prop × RV)) (y : List AObj → Option (Prop × RV)) (m : Nat) (d : Option Nat) (os : List AO) (fr : List (Nat × RV)) (obs : List AObj) : Prop :=
  match x with
  | some (C, r) => C ∧ (∀ X, y X = some (C, r)) ∧ RV.dom (· < H.length + (if obs.length ∈ ls then obs.length else 0)) r ∧ goX P rd ls H k Q m os (upd fr d r) (obs ++ [.none])
  | none => False
def goXC (P : Program) (rd : Option Nat) (ls : List Nat) (H : List AObj) (k : List Fr) (Q : AE → AS → Prop) (m : Nat) (d : Option Nat) (f : AX) (args : List AX) (os : List AO) (fr : List (Nat × RV)) (obs : List AObj) : Prop := goX P rd ls H k Q (m + 1) (⟨d, none, .call f args⟩ :: os) fr obs
section
variable (P : Program) (rd : Option Nat) (ls : List Nat) (H : List AObj) (k : List Fr) (Q : AE → AS → Prop) (m : Nat) (os : List AO) (fr : List (Nat × RV)) (obs : List AObj)
@[simp] theorem goX_zero : goX P rd ls H k Q 0 os fr obs = goR P rd os k Q ⟨fr, H ++ obs⟩ := by rw [goX]
@[simp] theorem goX_q (d : Option Nat) (g : Option (Nat × Bool)) (q : AOp) : goX P rd ls H k Q (m + 1) (⟨d, g, .q q⟩ :: os) fr obs = goXO P rd ls H k Q (evo fr H g q) (fun X => evo fr (H ++ X) g q) m d os fr obs := by
  rw [goX]; unfold goXO
  generalize evo fr H g q = x
  cases x <;> rfl
@[simp] theorem goXO_some (C : Prop) (r : RV) (y : List AObj → Option (Prop × RV)) (d : Option Nat) : goXO P rd ls H k Q (some (C, r)) y m d os fr obs = (C ∧ (∀ X, y X = some (C, r)) ∧ RV.dom (· < H.length + (if obs.length ∈ ls then obs.length else 0)) r ∧ goX P rd ls H k Q m os (upd fr d r) (obs ++ [.none])) := rfl
@[simp] theorem goX_alloc (d : Nat) (z : AV) : goX P rd ls H k Q (m + 1) (⟨some d, none, .m (.alloc z)⟩ :: os) fr obs = (match rcells (.v z) with
    | some c => goX P rd ls H k Q m os (upd fr (some d) (.pt (H.length + obs.length) 0 0 0)) (obs ++ [.var c])
    | none => False) := by rw [goX]
@[simp] theorem goX_mks (d sz bytes : Nat) (z : List AV) (l c : AX) : goX P rd ls H k Q (m + 1) (⟨some d, none, .m (.mks sz bytes z l c)⟩ :: os) fr obs = (match ax fr l, ax fr c with
    | .v (.i _ l), .v (.i _ c) => (0 ≤ l ∧ l ≤ c ∧ (bytes : Int) * c ≤ 281474976710656 ∧ c ≤ 9223372036854775807) ∧ goX P rd ls H k Q m os (upd fr (some d) (.os (H.length + obs.length) 0)) (obs ++ [.arr 0 sz (List.replicate l.toNat (z.map .v))])
    | _, _ => False) := by rw [goX]
@[simp] theorem goX_call (d : Option Nat) (f : AX) (args : List AX) : goX P rd ls H k Q (m + 1) (⟨d, none, .call f args⟩ :: os) fr obs = goXC P rd ls H k Q m d f args os fr obs := rfl
end
theorem goX_ok {P : Program} {rd : Option Nat} {ls : List Nat} {H : List AObj} {k : List Fr} {Q : AE → AS → Prop} : ∀ (m : Nat) (os : List AO) (fr : List (Nat × RV)) (obs : List AObj), goX P rd ls H k Q m os fr obs → evRX P ls H m os fr obs (contQ P rd Q k .normal) := by
  intro m
  induction m with
  | zero => intro os fr obs h; rw [goX] at h; exact h
  | succ m ih =>
    intro os fr obs h
    cases os with
    | nil => rw [goX] at h; exact h
    | cons o os =>
      obtain ⟨d, g, op⟩ := o
      cases op with
      | q q =>
        rw [goX] at h
        cases he : evo fr H g q with
        | none => rw [he] at h; exact h.elim
        | some x =>
          obtain ⟨C, r⟩ := x
          rw [he] at h
          obtain ⟨hC, hX, hd, h⟩ := h
          refine ⟨r, .none, .inl ⟨rfl, fun X => ?_, by simpa using hd⟩, ih _ _ _ h⟩
          simp only [evR, hX X]
          exact ⟨hC, by simp⟩
      | pk a b c =>
        rw [goX] at h
        cases he : evPk fr g a b c with
        | none => rw [he] at h; exact h.elim
        | some x =>
          obtain ⟨C, r⟩ := x
          rw [he] at h
          obtain ⟨hC, hd, h⟩ := h
          refine ⟨r, .none, .inl ⟨rfl, fun X => ?_, by simpa using hd⟩, ih _ _ _ h⟩
          simp only [evR, he]
          exact ⟨hC, by simp⟩
      | m q =>
        cases q <;> try (simp [goX] at h; done)
        rotate_left
        · rename_i sz bytes z l c
          cases d <;> try (simp [goX] at h; done)
          cases g <;> try (simp [goX] at h; done)
          rw [goX] at h
          split at h
          · rename_i _ l' _ c' hl hc
            obtain ⟨hC, h⟩ := h
            refine ⟨_, .arr 0 sz (List.replicate l'.toNat (z.map .v)), .inr ⟨fun a => .os a 0, fun f a => by simp [RV.ren], fun p a h => by simpa [RV.dom] using h, rfl, fun p => ?_, fun X => ?_⟩, ih _ _ _ h⟩
            · intro row hrow
              rw [(List.mem_replicate.1 hrow).2]
              simp
            · simp only [evR, evm, hl, hc, evMks]
              exact ⟨hC, by simp⟩
          · exact h.elim
        rename_i z
        cases d <;> try (simp [goX] at h; done)
        cases g <;> try (simp [goX] at h; done)
        rw [goX] at h
        cases he : rcells (.v z) with
        | none => rw [he] at h; exact h.elim
        | some c =>
          rw [he] at h
          refine ⟨_, .var c, .inr ⟨fun a => .pt a 0 0 0, fun f a => by simp [RV.ren], fun p a h => by simpa [RV.dom] using h, rfl, fun p => rcells_dom he p, fun X => ?_⟩, ih _ _ _ h⟩
          simp only [evR, evm, he, Option.map_some]
          simp
      | nx it => simp [goX] at h
      | call f args =>
        rw [goX] at h
        obtain ⟨r, ob, h1, h2⟩ := h
        exact ⟨r, ob, h1, ih _ _ _ h2⟩
theorem go_x {P : Program} {rd : Option Nat} {ls : List Nat} {k : List Fr} {Q : AE → AS → Prop} {m : Nat} {os : List AO} {σ : AS} (h : frLow σ.hp.length σ.fr ∧ lowH σ.hp.length σ.hp ∧ goX P rd ls σ.hp k Q m os σ.fr []) : go P rd (.rgx m ls os) k Q σ :=
  ⟨h.1, h.2.1, goX_ok _ _ _ _ h.2.2⟩
theorem callx {P : Program} {rd : Option Nat} {ls : List Nat} {H : List AObj} {k : List Fr} {Q : AE → AS → Prop} {m : Nat} {os : List AO} {fr : List (Nat × RV)} {obs : List AObj} {d : Option Nat} {f : AX} {args : List AX} {fid : Nat} {caps : Caps} {xs : List AV} {v sz : Nat} {rows : List (List AV)}
    (hf : fnv (ax fr f) = some (fid, caps)) (hc : ∀ vs w, (callFunc fid vs).run P w = .ok (.enter fid vs) w) (h : CallS P fid (xs.map .v) [] fun r K => r = .os 0 v ∧ K = [.arr v sz (vrows rows)]) (hx : capd caps (args.map (ax fr)) = xs.map .v)
    (kk : goX P rd ls H k Q m os (upd fr d (.os (H.length + obs.length) v)) (obs ++ [.arr v sz (vrows rows)])) : goXC P rd ls H k Q m d f args os fr obs := by
  rw [goXC, goX]
  refine ⟨_, _, .inr ⟨fun a => .os a v, fun f a => by simp [RV.ren], fun p a h => by simpa [RV.dom] using h, rfl, fun p => ?_, fun X => ?_⟩, kk⟩
  · simp only [AObj.dom]
    exact rows_dom _ _
  · simp only [evR, CallK, hf]
    refine ⟨hc, ?_⟩
    rw [hx]
    have := h.among [] (by simp) (H := H ++ X) rfl (fun j o ob h => by simp at h) (by simp)
    simp only [renL_v] at this
    refine this.mono fun r' H' ⟨r, K, ⟨h1, h2⟩, h3, h4⟩ => ?_
    subst h1 h2 h3 h4
    simp [putH, putP, RV.ren, upN]
section
variable {P : Program} {rd : Option Nat} {k : List Fr} {Q : AE → AS → Prop} {σ : AS} {d : Option Nat} {os : List AO} {f : AX} {args : List AX} {fid : Nat} {caps : Caps} {xs : List AV} {v sz : Nat} {rows : List (List AV)} {l : List (List (Nat × RV) × AO × RV)}
theorem new_one {H : List AObj} (h : CallS P fid (xs.map .v) [] fun r K => r = .os 0 v ∧ K = [.arr v sz (vrows rows)]) : CallS P fid (xs.map .v) H fun r K => r = .os H.length v ∧ K = H ++ [.arr v sz (vrows rows)] := by
  have := h.among [] (by simp) (H := H) rfl (fun j o ob h => by simp at h) (by simp)
  simp only [renL_v] at this
  refine this.mono fun r' H' ⟨r, K, ⟨h1, h2⟩, h3, h4⟩ => ?_
  subst h1 h2 h3 h4
  simp [putH, putP, RV.ren, upN]
theorem callp (hf : fnv (ax σ.fr f) = some (fid, caps)) (hc : ∀ vs w, (callFunc fid vs).run P w = .ok (.enter fid vs) w) (h : CallS P fid (xs.map .v) [] fun r K => r = .os 0 v ∧ K = [.arr v sz (vrows rows)]) (hx : capd caps (args.map (ax σ.fr)) = xs.map .v)
    (kk : goR P rd os k Q ⟨upd σ.fr d (.os σ.hp.length v), σ.hp ++ [.arr v sz (vrows rows)]⟩) : goC P rd none f args d os k Q σ := by
  simp only [goC, CallK, hf]
  refine ⟨hc, ?_⟩
  rw [hx]
  exact (new_one h).mono fun r' H' ⟨h1, h2⟩ => by subst h1; subst h2; exact kk
theorem callps (hf : fnv (ax σ.fr f) = some (fid, caps)) (hc : ∀ vs w, (callFunc fid vs).run P w = .ok (.enter fid vs) w) (h : CallS P fid (xs.map .v) [] fun r K => r = .os 0 v ∧ K = [.arr v sz (vrows rows)]) (hx : capd caps (args.map (ax σ.fr)) = xs.map .v)
    (kk : (σ.hp ++ [.arr v sz (vrows rows)] = σ.hp ∨ stab P l (σ.hp ++ [.arr v sz (vrows rows)])) ∧ goS P rd l os k Q ⟨upd σ.fr d (.os σ.hp.length v), σ.hp ++ [.arr v sz (vrows rows)]⟩) : goCS P rd l none f args d os k Q σ := by
  simp only [goCS, CallK, hf]
  refine ⟨hc, ?_⟩
  rw [hx]
  exact (new_one h).mono fun r' H' ⟨h1, h2⟩ => by subst h1; subst h2; exact kk
end
section
variable {P : Program} {rd : Option Nat} {k : List Fr} {Q : AE → AS → Prop} {σ : AS} {d : Option Nat} {os : List AO} {f : AX} {args : List AX} {fid : Nat} {caps : Caps} {xs : List AV} {r : AV} {G : Bool} {j : Nat} {want : Bool}
theorem callzg (hf : fnv (ax σ.fr f) = some (fid, caps)) (hc : ∀ vs w, (callFunc fid vs).run P w = .ok (.enter fid vs) w) (hg : gval (lk σ.fr j) want = some G) (h : G = true → PureS P fid xs r) (hr : Flat r) (ho : G = true → obls σ.fr args)
    (hz : G = true → FrzL σ.hp (capd caps (args.map fun x => opn (ax σ.fr x))) xs) (kk : goR P rd os k Q ⟨upd σ.fr d (.cnd G (.v r)), σ.hp⟩) : goC P rd (some (j, want)) f args d os k Q σ := by
  simp only [goC, CallK, hf, hg]
  exact ⟨hc, r, fun hG => ⟨ho hG, lend (h hG) hr (hz hG).get.1 (hz hG).get.2⟩, kk⟩
end
end Go.Av
