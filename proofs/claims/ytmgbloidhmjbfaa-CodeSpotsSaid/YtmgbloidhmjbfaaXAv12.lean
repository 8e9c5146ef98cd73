/- Words for walks done by simplification. No condition. -/
import Derived.Test.YtmgbloidhmjbfaaXAv9
set_option linter.constructorNameAsVariable false
namespace Go.Av
open Go Go.RowKit
set_option linter.unusedSimpArgs false
set_option linter.unusedVariables false

theorem wrap_in {n : Int} (h0 : -9223372036854775808 ≤ n) (h1 : n ≤ 9223372036854775807) : IntKind.i64.wrap n = n := by rw [IntKind.wrap_i64]; omega
theorem wrap_nat {n : Nat} (h1 : n < 9223372036854775807) : IntKind.i64.wrap ((n : Int) + 1) = ((n + 1 : Nat) : Int) := by rw [wrap_in (by omega) (by omega)]; rfl

theorem junk_get0 {α : Type} (K l : List α) : (K ++ l)[K.length]? = l[0]? := by rw [List.getElem?_append_right (Nat.le_refl _), Nat.sub_self]
theorem junk_get {α : Type} (K l : List α) (n : Nat) : (K ++ l)[K.length + n]? = l[n]? := by rw [List.getElem?_append_right (by omega)]; congr 1; omega
theorem junk_set0 {α : Type} (K l : List α) (x : α) : (K ++ l).set K.length x = K ++ l.set 0 x := by rw [List.set_append_right _ _ (Nat.le_refl _), Nat.sub_self]
theorem junk_set {α : Type} (K l : List α) (n : Nat) (x : α) : (K ++ l).set (K.length + n) x = K ++ l.set n x := by rw [List.set_append_right _ _ (by omega)]; congr 2; omega

/-! ### Whoever is owed less -/
theorem CallK_mono {P : Program} {σ : AS} {gd : Option (Nat × Bool)} {f : AX} {args : List AX} {dst : Option Nat} {K K' : AS → Prop} (h : ∀ σ, K σ → K' σ) (hk : CallK P σ gd f args dst K) : CallK P σ gd f args dst K' := by
  unfold CallK at hk ⊢
  split at hk
  · obtain ⟨h1, h2⟩ := hk
    refine ⟨h1, ?_⟩
    split at h2
    · exact h2.mono fun r H' hr => h _ hr
    · split at h2
      · obtain ⟨r, h3, h4⟩ := h2
        exact ⟨r, h3, h _ h4⟩
      · exact h2.elim
  · exact hk.elim

theorem evR_mono {P : Program} {K K' : AS → Prop} (h : ∀ σ, K σ → K' σ) : ∀ (os : List AO) (σ : AS), evR P os σ K → evR P os σ K'
  | [], σ, hk => h σ hk
  | o :: os, σ, hk => by
    unfold evR at hk ⊢
    split at hk
    · split at hk
      · exact ⟨hk.1, evR_mono h os _ hk.2⟩
      · exact hk.elim
    · split at hk
      · exact ⟨hk.1, evR_mono h os _ hk.2⟩
      · exact hk.elim
    · split at hk
      · exact ⟨hk.1, evR_mono h os _ hk.2⟩
      · exact hk.elim
    · exact CallK_mono (fun σ' h' => evR_mono h os σ' h') hk

theorem evQ_mono {P : Program} {σ : AS} {o : AO} {K K' : RV → Prop} (h : ∀ r, K r → K' r) (hk : evQ P σ o K) : evQ P σ o K' := by
  unfold evQ at hk ⊢
  split at hk
  · split at hk
    · exact ⟨hk.1, h _ hk.2⟩
    · exact hk.elim
  · split at hk
    · exact ⟨hk.1, h _ hk.2⟩
    · exact hk.elim
  · exact hk.elim
  · split at hk
    · obtain ⟨h1, h2⟩ := hk
      refine ⟨h1, ?_⟩
      split at h2
      · obtain ⟨r, h3, h4⟩ := h2
        exact ⟨r, h3, h _ h4⟩
      · split at h2
        · obtain ⟨r, h3, h4⟩ := h2
          exact ⟨r, h3, h _ h4⟩
        · exact h2.elim
    · exact hk.elim

theorem evRD_mono {P : Program} {K K' : AS → Prop} (h : ∀ σ, K σ → K' σ) : ∀ (m : Nat) (os : List AO) (σ : AS), evRD P m os σ K → evRD P m os σ K'
  | 0, os, σ, hk => evR_mono h os σ hk
  | _ + 1, [], σ, hk => h σ hk
  | m + 1, o :: os, σ, hk => evQ_mono (fun r hr => evRD_mono h m os _ hr) hk

theorem evRS_mono {P : Program} {K K' : AS → Prop} (h : ∀ σ, K σ → K' σ) : ∀ {l : List (List (Nat × RV) × AO × RV)} (os : List AO) (σ : AS), evRS P l os σ K → evRS P l os σ K'
  | l, [], σ, hk => h σ hk
  | l, o :: os, σ, hk => evR_mono (K := fun σ' => (σ'.hp = σ.hp ∨ stab P (prune o l) σ'.hp) ∧ evRS P (prune o l) os σ' K) (fun σ' ⟨h1, h2⟩ => ⟨h1, evRS_mono h os σ' h2⟩) [o] σ hk

theorem evRE_mono {P : Program} {ls : List Nat} {K K' : AS → Prop} (h : ∀ σ, K σ → K' σ) : ∀ (m : Nat) (os : List AO) (idx : Nat) (l : List (List (Nat × RV) × AO × RV)) (σ : AS), evRE P ls idx l m os σ K → evRE P ls idx l m os σ K'
  | 0, os, idx, l, σ, hk => by simp only [evRE] at hk ⊢; exact evRS_mono h os σ hk
  | _ + 1, [], idx, l, σ, hk => by simp only [evRE] at hk ⊢; exact h σ hk
  | m + 1, o :: os, idx, l, σ, hk => by simp only [evRE] at hk ⊢; exact evQ_mono (fun r hr => evRE_mono h m os _ _ _ hr) hk

theorem wpA_mono {P : Program} {rd : Option Nat} : ∀ (c : ACode) {Q Q' : AE → AS → Prop}, (∀ e σ, Q e σ → Q' e σ) → ∀ {σ : AS}, wpA P rd c Q σ → wpA P rd c Q' σ
  | .skip, Q, Q', h, σ, hk => h _ _ hk
  | .reg none os, Q, Q', h, σ, hk => evR_mono (h .normal) os σ hk
  | .reg (some (m, [])) os, Q, Q', h, σ, hk => evRD_mono (h .normal) m os σ hk
  | .reg (some (m, j :: ls)) os, Q, Q', h, σ, hk => evRE_mono (h .normal) m os _ _ σ hk
  | .seq a b, Q, Q', h, σ, hk => wpA_mono a (fun e σ' hs => by
      cases e with
      | normal => exact wpA_mono b h hs
      | exit id => exact h _ _ hs
      | ret => exact h _ _ hs) hk
  | .cond x a b, Q, Q', h, σ, hk => by
    simp only [wpA] at hk ⊢
    split at hk
    · exact ⟨fun t => wpA_mono a h (hk.1 t), fun t => wpA_mono b h (hk.2 t)⟩
    · exact hk.elim
  | .blk id c, Q, Q', h, σ, hk => wpA_mono c (fun e σ' hs => by
      cases e with
      | normal => exact h _ _ hs
      | exit id' =>
        simp only at hs ⊢
        split at hs
        · rename_i hi; rw [if_pos hi]; exact h _ _ hs
        · rename_i hi; rw [if_neg hi]; exact h _ _ hs
      | ret => exact h _ _ hs) hk
  | .loop c, Q, Q', h, σ, hk => fun N cd hc e0 g0 D a w hr => wpIn_mono (hk N cd hc e0 g0 D a w hr) fun e a' w' hq => QQ.mono h hq
  | .exit id, Q, Q', h, σ, hk => h _ _ hk
  | .ret, Q, Q', h, σ, hk => h _ _ hk
  | .keep l c, Q, Q', h, σ, hk => wpA_mono c h hk
  | .fin l c, Q, Q', h, σ, hk => wpA_mono c (fun e σ' hs => by
      cases e with
      | normal => exact h _ _ hs
      | exit id => exact h _ _ hs
      | ret => exact h _ _ hs) hk
  | .gst g c, Q, Q', h, σ, hk => by
    simp only [wpA] at hk ⊢
    split at hk
    · exact ⟨hk.1, wpA_mono c h hk.2⟩
    · exact hk.elim

/-! ### The walk, with what follows told by text: simplification finds nothing to do in it -/
inductive Fr where
  | seq (b : ACode)
  | blk (id : Nat)
  | fin (l : List Nat)

def contQ (P : Program) (rd : Option Nat) (Q : AE → AS → Prop) : List Fr → AE → AS → Prop
  | [], e, σ => Q e σ
  | .seq b :: k, .normal, σ => wpA P rd b (contQ P rd Q k) σ
  | .seq _ :: k, .exit id, σ => contQ P rd Q k (.exit id) σ
  | .seq _ :: k, .ret, σ => contQ P rd Q k .ret σ
  | .blk _ :: k, .normal, σ => contQ P rd Q k .normal σ
  | .blk id :: k, .exit id', σ => if id' = id then contQ P rd Q k .normal σ else contQ P rd Q k (.exit id') σ
  | .blk _ :: k, .ret, σ => contQ P rd Q k .ret σ
  | .fin l :: k, .normal, σ => contQ P rd Q k .normal ⟨l.map fun t => (t, lk σ.fr t), σ.hp⟩
  | .fin _ :: k, .exit id, σ => contQ P rd Q k (.exit id) σ
  | .fin _ :: k, .ret, σ => contQ P rd Q k .ret σ

/-- The walk of a piece of code, with what follows. -/
def go (P : Program) (rd : Option Nat) (c : ACode) (k : List Fr) (Q : AE → AS → Prop) (σ : AS) : Prop := wpA P rd c (contQ P rd Q k) σ
/-- A way out of a piece of code. -/
def leave (P : Program) (rd : Option Nat) (e : AE) (k : List Fr) (Q : AE → AS → Prop) (σ : AS) : Prop := contQ P rd Q k e σ
/-- What is left of a region. -/
def goR (P : Program) (rd : Option Nat) (os : List AO) (k : List Fr) (Q : AE → AS → Prop) (σ : AS) : Prop := evR P os σ (contQ P rd Q k .normal)
def goD (P : Program) (rd : Option Nat) (m : Nat) (os : List AO) (k : List Fr) (Q : AE → AS → Prop) (σ : AS) : Prop := evRD P m os σ (contQ P rd Q k .normal)
def goE (P : Program) (rd : Option Nat) (ls : List Nat) (idx : Nat) (l : List (List (Nat × RV) × AO × RV)) (m : Nat) (os : List AO) (k : List Fr) (Q : AE → AS → Prop) (σ : AS) : Prop := evRE P ls idx l m os σ (contQ P rd Q k .normal)
def goS (P : Program) (rd : Option Nat) (l : List (List (Nat × RV) × AO × RV)) (os : List AO) (k : List Fr) (Q : AE → AS → Prop) (σ : AS) : Prop := evRS P l os σ (contQ P rd Q k .normal)
def goOE (P : Program) (rd : Option Nat) (x : Option (Prop × RV)) (ls : List Nat) (idx : Nat) (l : List (List (Nat × RV) × AO × RV)) (m : Nat) (o : AO) (os : List AO) (k : List Fr) (Q : AE → AS → Prop) (σ : AS) : Prop :=
  match x with
  | some (C, r) => C ∧ goE P rd ls (idx + 1) (if idx ∈ ls then (σ.fr, o, r) :: l else l) m os k Q ⟨upd σ.fr o.dst r, σ.hp⟩
  | none => False
def goOS (P : Program) (rd : Option Nat) (x : Option (Prop × RV)) (l : List (List (Nat × RV) × AO × RV)) (d : Option Nat) (os : List AO) (k : List Fr) (Q : AE → AS → Prop) (σ : AS) : Prop :=
  match x with
  | some (C, r) => C ∧ goS P rd l os k Q ⟨upd σ.fr d r, σ.hp⟩
  | none => False
def goMS (P : Program) (rd : Option Nat) (x : Option (Prop × RV × List AObj)) (l : List (List (Nat × RV) × AO × RV)) (d : Option Nat) (os : List AO) (k : List Fr) (Q : AE → AS → Prop) (σ : AS) : Prop :=
  match x with
  | some (C, r, H) => C ∧ (H = σ.hp ∨ stab P l H) ∧ goS P rd l os k Q ⟨upd σ.fr d r, H⟩
  | none => False
def goCS (P : Program) (rd : Option Nat) (l : List (List (Nat × RV) × AO × RV)) (g : Option (Nat × Bool)) (f : AX) (args : List AX) (d : Option Nat) (os : List AO) (k : List Fr) (Q : AE → AS → Prop) (σ : AS) : Prop :=
  CallK P σ g f args d fun σ' => (σ'.hp = σ.hp ∨ stab P l σ'.hp) ∧ goS P rd l os k Q σ'
def evqK (x : Option (Prop × RV)) (r : RV) : Prop :=
  match x with
  | some (C, r') => C ∧ r' = r
  | none => False
def goO (P : Program) (rd : Option Nat) (x : Option (Prop × RV)) (d : Option Nat) (os : List AO) (k : List Fr) (Q : AE → AS → Prop) (σ : AS) : Prop :=
  match x with
  | some (C, r) => C ∧ goR P rd os k Q ⟨upd σ.fr d r, σ.hp⟩
  | none => False
def goM (P : Program) (rd : Option Nat) (x : Option (Prop × RV × List AObj)) (d : Option Nat) (os : List AO) (k : List Fr) (Q : AE → AS → Prop) (σ : AS) : Prop :=
  match x with
  | some (C, r, H) => C ∧ goR P rd os k Q ⟨upd σ.fr d r, H⟩
  | none => False
def goOD (P : Program) (rd : Option Nat) (x : Option (Prop × RV)) (d : Option Nat) (m : Nat) (os : List AO) (k : List Fr) (Q : AE → AS → Prop) (σ : AS) : Prop :=
  match x with
  | some (C, r) => C ∧ goD P rd m os k Q ⟨upd σ.fr d r, σ.hp⟩
  | none => False
def goC (P : Program) (rd : Option Nat) (gd : Option (Nat × Bool)) (f : AX) (args : List AX) (d : Option Nat) (os : List AO) (k : List Fr) (Q : AE → AS → Prop) (σ : AS) : Prop := CallK P σ gd f args d fun σ' => goR P rd os k Q σ'
def goCD (P : Program) (rd : Option Nat) (gd : Option (Nat × Bool)) (f : AX) (args : List AX) (d : Option Nat) (m : Nat) (os : List AO) (k : List Fr) (Q : AE → AS → Prop) (σ : AS) : Prop := evQ P σ ⟨d, gd, .call f args⟩ fun r => goD P rd m os k Q ⟨upd σ.fr d r, σ.hp⟩
def goL (P : Program) (rd : Option Nat) (c : ACode) (k : List Fr) (Q : AE → AS → Prop) (σ : AS) : Prop := LoopK P rd c (contQ P rd Q k) σ
def goIf (P : Program) (rd : Option Nat) (x : RV) (a b : ACode) (k : List Fr) (Q : AE → AS → Prop) (σ : AS) : Prop :=
  match x with
  | .v (.b t) => (t = true → go P rd a k Q σ) ∧ (t = false → go P rd b k Q σ)
  | _ => False

section
variable (P : Program) (rd : Option Nat) (k : List Fr) (Q : AE → AS → Prop) (σ : AS)
theorem go_start (c : ACode) : wpA P rd c Q σ = go P rd c [] Q σ := by
  unfold go
  congr 1
@[simp] theorem go_skip : go P rd .skip k Q σ = leave P rd .normal k Q σ := rfl
@[simp] theorem go_ret : go P rd .ret k Q σ = leave P rd .ret k Q σ := rfl
@[simp] theorem go_exit (id : Nat) : go P rd (.exit id) k Q σ = leave P rd (.exit id) k Q σ := rfl
@[simp] theorem go_seq (a b : ACode) : go P rd (.seq a b) k Q σ = go P rd a (.seq b :: k) Q σ := by
  simp only [go, wpA]
  congr 1
  funext e σ
  cases e <;> rfl
@[simp] theorem go_blk (id : Nat) (c : ACode) : go P rd (.blk id c) k Q σ = go P rd c (.blk id :: k) Q σ := by
  simp only [go, wpA]
  congr 1
  funext e σ
  cases e <;> rfl
@[simp] theorem go_keep (l : List Nat) (c : ACode) : go P rd (.keep l c) k Q σ = go P rd c k Q ⟨l.map fun t => (t, lk σ.fr t), σ.hp⟩ := rfl
@[simp] theorem go_fin (l : List Nat) (c : ACode) : go P rd (.fin l c) k Q σ = go P rd c (.fin l :: k) Q σ := by
  simp only [go, wpA]
  congr 1
  funext e σ
  cases e <;> rfl
def goG (P : Program) (rd : Option Nat) (x : Option (Prop × AS)) (c : ACode) (k : List Fr) (Q : AE → AS → Prop) : Prop :=
  match x with
  | some (C, σ') => C ∧ go P rd c k Q σ'
  | none => False
@[simp] theorem go_gst (g : Gh) (c : ACode) : go P rd (.gst g c) k Q σ = goG P rd (evG σ g) c k Q := rfl
@[simp] theorem goG_some (C : Prop) (σ' : AS) (c : ACode) : goG P rd (some (C, σ')) c k Q = (C ∧ go P rd c k Q σ') := rfl
@[simp] theorem go_cond (x : AX) (a b : ACode) : go P rd (.cond x a b) k Q σ = goIf P rd (ax σ.fr x) a b k Q σ := by
  simp only [go, wpA, goIf]
  rfl
@[simp] theorem go_loop (c : ACode) : go P rd (.loop c) k Q σ = goL P rd c k Q σ := rfl
@[simp] theorem go_reg (os : List AO) : go P rd (.reg none os) k Q σ = goR P rd os k Q σ := rfl
@[simp] theorem go_regd (m : Nat) (os : List AO) : go P rd (.reg (some (m, [])) os) k Q σ = goD P rd m os k Q σ := rfl
@[simp] theorem go_rege (m j : Nat) (ls : List Nat) (os : List AO) : go P rd (.reg (some (m, j :: ls)) os) k Q σ = goE P rd (j :: ls) 0 [] m os k Q σ := rfl
@[simp] theorem goE_zero (ls : List Nat) (idx : Nat) (l : List (List (Nat × RV) × AO × RV)) (os : List AO) : goE P rd ls idx l 0 os k Q σ = goS P rd l os k Q σ := by simp only [goE, goS, evRE]
@[simp] theorem goE_q (ls : List Nat) (idx : Nat) (l : List (List (Nat × RV) × AO × RV)) (m : Nat) (d : Option Nat) (g : Option (Nat × Bool)) (q : AOp) (os : List AO) : goE P rd ls idx l (m + 1) (⟨d, g, .q q⟩ :: os) k Q σ = goOE P rd (evo σ.fr σ.hp g q) ls idx l m ⟨d, g, .q q⟩ os k Q σ := by
  simp only [goE, evRE, evQ, goOE]
  rfl
@[simp] theorem goE_pk (ls : List Nat) (idx : Nat) (l : List (List (Nat × RV) × AO × RV)) (m : Nat) (d : Option Nat) (g : Option (Nat × Bool)) (a b c : AX) (os : List AO) : goE P rd ls idx l (m + 1) (⟨d, g, .pk a b c⟩ :: os) k Q σ = goOE P rd (evPk σ.fr g a b c) ls idx l m ⟨d, g, .pk a b c⟩ os k Q σ := by
  simp only [goE, evRE, evQ, goOE]
  rfl
@[simp] theorem goOE_some (C : Prop) (r : RV) (ls : List Nat) (idx : Nat) (l : List (List (Nat × RV) × AO × RV)) (m : Nat) (d : Option Nat) (g : Option (Nat × Bool)) (op : AInst) (os : List AO) :
    goOE P rd (some (C, r)) ls idx l m ⟨d, g, op⟩ os k Q σ = (C ∧ goE P rd ls (idx + 1) (if idx ∈ ls then (σ.fr, ⟨d, g, op⟩, r) :: l else l) m os k Q ⟨upd σ.fr d r, σ.hp⟩) := rfl
@[simp] theorem goS_nil (l : List (List (Nat × RV) × AO × RV)) : goS P rd l [] k Q σ = leave P rd .normal k Q σ := rfl
@[simp] theorem goS_q (l : List (List (Nat × RV) × AO × RV)) (d : Option Nat) (g : Option (Nat × Bool)) (q : AOp) (os : List AO) : goS P rd l (⟨d, g, .q q⟩ :: os) k Q σ = goOS P rd (evo σ.fr σ.hp g q) (prune ⟨d, g, .q q⟩ l) d os k Q σ := by
  simp only [goS, evRS, evR, goOS]
  generalize evo σ.fr σ.hp g q = x
  cases x <;> simp
@[simp] theorem goS_pk (l : List (List (Nat × RV) × AO × RV)) (d : Option Nat) (g : Option (Nat × Bool)) (a b c : AX) (os : List AO) : goS P rd l (⟨d, g, .pk a b c⟩ :: os) k Q σ = goOS P rd (evPk σ.fr g a b c) (prune ⟨d, g, .pk a b c⟩ l) d os k Q σ := by
  simp only [goS, evRS, evR, goOS]
  generalize evPk σ.fr g a b c = x
  cases x <;> simp
@[simp] theorem goS_m (l : List (List (Nat × RV) × AO × RV)) (d : Option Nat) (q : MOp) (os : List AO) : goS P rd l (⟨d, none, .m q⟩ :: os) k Q σ = goMS P rd (evm (ax σ.fr) σ.hp q) (prune ⟨d, none, .m q⟩ l) d os k Q σ := by
  simp only [goS, evRS, evR, goMS]
  generalize evm (ax σ.fr) σ.hp q = x
  cases x <;> rfl
@[simp] theorem goS_call (l : List (List (Nat × RV) × AO × RV)) (d : Option Nat) (g : Option (Nat × Bool)) (f : AX) (args : List AX) (os : List AO) : goS P rd l (⟨d, g, .call f args⟩ :: os) k Q σ = goCS P rd (prune ⟨d, g, .call f args⟩ l) g f args d os k Q σ := rfl
@[simp] theorem goOS_some (C : Prop) (r : RV) (l : List (List (Nat × RV) × AO × RV)) (d : Option Nat) (os : List AO) : goOS P rd (some (C, r)) l d os k Q σ = (C ∧ goS P rd l os k Q ⟨upd σ.fr d r, σ.hp⟩) := rfl
@[simp] theorem goMS_some (C : Prop) (r : RV) (H : List AObj) (l : List (List (Nat × RV) × AO × RV)) (d : Option Nat) (os : List AO) : goMS P rd (some (C, r, H)) l d os k Q σ = (C ∧ (H = σ.hp ∨ stab P l H) ∧ goS P rd l os k Q ⟨upd σ.fr d r, H⟩) := rfl
@[simp] theorem prune_nil (o : AO) : prune o [] = [] := rfl
@[simp] theorem prune_none (o : AO) (fr : List (Nat × RV)) (g : Option (Nat × Bool)) (q : AInst) (r : RV) (l : List (List (Nat × RV) × AO × RV)) : prune o ((fr, ⟨none, g, q⟩, r) :: l) = (fr, ⟨none, g, q⟩, r) :: prune o l := rfl
@[simp] theorem prune_some (o : AO) (fr : List (Nat × RV)) (d : Nat) (g : Option (Nat × Bool)) (q : AInst) (r : RV) (l : List (List (Nat × RV) × AO × RV)) : prune o ((fr, ⟨some d, g, q⟩, r) :: l) = if d ∈ o.uses then prune o l else (fr, ⟨some d, g, q⟩, r) :: prune o l := by
  simp only [prune, List.filter_cons]
  by_cases h : d ∈ o.uses <;> simp [h]
attribute [simp] AO.uses AInst.xs AOp.xs MOp.xs
@[simp] theorem stab_nil (H : List AObj) : stab P [] H = True := by simp [stab]
@[simp] theorem stab_cons (fr : List (Nat × RV)) (d : Option Nat) (g : Option (Nat × Bool)) (q : AOp) (r : RV) (l : List (List (Nat × RV) × AO × RV)) (H : List AObj) : stab P ((fr, ⟨d, g, .q q⟩, r) :: l) H = (evqK (evo fr H g q) r ∧ stab P l H) := by
  simp only [stab, List.forall_mem_cons, evQ, evqK]
  rfl
@[simp] theorem evqK_some (C : Prop) (r r' : RV) : evqK (some (C, r')) r = (C ∧ r' = r) := rfl
@[simp] theorem goIf_b (t : Bool) (a b : ACode) : goIf P rd (.v (.b t)) a b k Q σ = ((t = true → go P rd a k Q σ) ∧ (t = false → go P rd b k Q σ)) := rfl
@[simp] theorem goR_nil : goR P rd [] k Q σ = leave P rd .normal k Q σ := rfl
@[simp] theorem goR_q (d : Option Nat) (g : Option (Nat × Bool)) (q : AOp) (os : List AO) : goR P rd (⟨d, g, .q q⟩ :: os) k Q σ = goO P rd (evo σ.fr σ.hp g q) d os k Q σ := rfl
@[simp] theorem goR_pk (d : Option Nat) (g : Option (Nat × Bool)) (a b c : AX) (os : List AO) : goR P rd (⟨d, g, .pk a b c⟩ :: os) k Q σ = goO P rd (evPk σ.fr g a b c) d os k Q σ := rfl
@[simp] theorem goR_m (d : Option Nat) (q : MOp) (os : List AO) : goR P rd (⟨d, none, .m q⟩ :: os) k Q σ = goM P rd (evm (ax σ.fr) σ.hp q) d os k Q σ := by
  simp only [goR, evR, goM]
  generalize evm (ax σ.fr) σ.hp q = x
  cases x <;> rfl
@[simp] theorem goR_call (d : Option Nat) (g : Option (Nat × Bool)) (f : AX) (args : List AX) (os : List AO) : goR P rd (⟨d, g, .call f args⟩ :: os) k Q σ = goC P rd g f args d os k Q σ := rfl
@[simp] theorem goO_some (C : Prop) (r : RV) (d : Option Nat) (os : List AO) : goO P rd (some (C, r)) d os k Q σ = (C ∧ goR P rd os k Q ⟨upd σ.fr d r, σ.hp⟩) := rfl
@[simp] theorem goM_some (C : Prop) (r : RV) (H : List AObj) (d : Option Nat) (os : List AO) : goM P rd (some (C, r, H)) d os k Q σ = (C ∧ goR P rd os k Q ⟨upd σ.fr d r, H⟩) := rfl
@[simp] theorem goOD_some (C : Prop) (r : RV) (d : Option Nat) (m : Nat) (os : List AO) : goOD P rd (some (C, r)) d m os k Q σ = (C ∧ goD P rd m os k Q ⟨upd σ.fr d r, σ.hp⟩) := rfl
@[simp] theorem goD_zero (os : List AO) : goD P rd 0 os k Q σ = goR P rd os k Q σ := rfl
@[simp] theorem goD_nil (m : Nat) : goD P rd m [] k Q σ = leave P rd .normal k Q σ := by cases m <;> rfl
@[simp] theorem goD_q (m : Nat) (d : Option Nat) (g : Option (Nat × Bool)) (q : AOp) (os : List AO) : goD P rd (m + 1) (⟨d, g, .q q⟩ :: os) k Q σ = goOD P rd (evo σ.fr σ.hp g q) d m os k Q σ := rfl
@[simp] theorem goD_pk (m : Nat) (d : Option Nat) (g : Option (Nat × Bool)) (a b c : AX) (os : List AO) : goD P rd (m + 1) (⟨d, g, .pk a b c⟩ :: os) k Q σ = goOD P rd (evPk σ.fr g a b c) d m os k Q σ := rfl
@[simp] theorem goD_call (m : Nat) (d : Option Nat) (g : Option (Nat × Bool)) (f : AX) (args : List AX) (os : List AO) : goD P rd (m + 1) (⟨d, g, .call f args⟩ :: os) k Q σ = goCD P rd g f args d m os k Q σ := rfl
@[simp] theorem leave_nil (e : AE) : leave P rd e [] Q σ = Q e σ := by cases e <;> rfl
@[simp] theorem leave_seq (b : ACode) : leave P rd .normal (.seq b :: k) Q σ = go P rd b k Q σ := rfl
@[simp] theorem leave_seq_exit (b : ACode) (id : Nat) : leave P rd (.exit id) (.seq b :: k) Q σ = leave P rd (.exit id) k Q σ := rfl
@[simp] theorem leave_seq_ret (b : ACode) : leave P rd .ret (.seq b :: k) Q σ = leave P rd .ret k Q σ := rfl
@[simp] theorem leave_blk (id : Nat) : leave P rd .normal (.blk id :: k) Q σ = leave P rd .normal k Q σ := rfl
@[simp] theorem leave_blk_exit (id id' : Nat) : leave P rd (.exit id') (.blk id :: k) Q σ = if id' = id then leave P rd .normal k Q σ else leave P rd (.exit id') k Q σ := rfl
@[simp] theorem leave_blk_ret (id : Nat) : leave P rd .ret (.blk id :: k) Q σ = leave P rd .ret k Q σ := rfl
@[simp] theorem leave_fin (l : List Nat) : leave P rd .normal (.fin l :: k) Q σ = leave P rd .normal k Q ⟨l.map fun t => (t, lk σ.fr t), σ.hp⟩ := rfl
@[simp] theorem leave_fin_exit (l : List Nat) (id : Nat) : leave P rd (.exit id) (.fin l :: k) Q σ = leave P rd (.exit id) k Q σ := rfl
@[simp] theorem leave_fin_ret (l : List Nat) : leave P rd .ret (.fin l :: k) Q σ = leave P rd .ret k Q σ := rfl
end

/-- What a round of a loop owes. -/
def roundQ {α : Type} (P : Program) (rd : Option Nat) (I : α → AS → Prop) (μ : α → Nat) (x : α) (k : List Fr) (Q : AE → AS → Prop) : AE → AS → Prop
  | .normal, σ => ∃ x', I x' σ ∧ μ x' < μ x
  | .exit id, σ => leave P rd (.exit id) k Q σ
  | .ret, σ => leave P rd .ret k Q σ
section
variable {α : Type} (P : Program) (rd : Option Nat) (I : α → AS → Prop) (μ : α → Nat) (x : α) (k : List Fr) (Q : AE → AS → Prop) (σ : AS)
@[simp] theorem roundQ_normal : roundQ P rd I μ x k Q .normal σ = ∃ x', I x' σ ∧ μ x' < μ x := rfl
@[simp] theorem roundQ_exit (id : Nat) : roundQ P rd I μ x k Q (.exit id) σ = leave P rd (.exit id) k Q σ := rfl
@[simp] theorem roundQ_ret : roundQ P rd I μ x k Q .ret σ = leave P rd .ret k Q σ := rfl
end

/-- **A LOOP**, by what holds at each of its beginnings. -/
theorem go_rounds {P : Program} (hmx : P.follows .mixedOrders = true) {rd : Option Nat} {c : ACode} {k : List Fr} {Q : AE → AS → Prop} {σ : AS} {α : Type} (I : α → AS → Prop) (μ : α → Nat) (x0 : α) (h0 : I x0 σ)
    (round : ∀ x σ, I x σ → go P rd c [] (roundQ P rd I μ x k Q) σ) : goL P rd c k Q σ := by
  refine loop_ok hmx I μ x0 h0 fun x σ h => ?_
  have := round x σ h
  rw [← go_start] at this
  refine Eq.mp ?_ this
  congr 1
  funext e σ'
  cases e <;> rfl

/-- A slot's value, changed. -/
def setfr : List (Nat × RV) → Nat → RV → List (Nat × RV)
  | [], _, _ => []
  | (s, y) :: r, t, x => if s = t then (s, x) :: r else (s, y) :: setfr r t x

/-- What a round of a counting loop owes. -/
def countQ (P : Program) (rd : Option Nat) (t : Nat) (J : Nat → List AObj → Prop) (fr : List (Nat × RV)) (i : Nat) (k : List Fr) (Q : AE → AS → Prop) : AE → AS → Prop
  | .normal, σ => σ.fr = setfr fr t (.v (.i .i64 ((i + 1 : Nat) : Int))) ∧ J (i + 1) σ.hp
  | .exit id, σ => leave P rd (.exit id) k Q σ
  | .ret, σ => leave P rd .ret k Q σ
/-- What the last look at a loop owes: it is left. -/
def exitQ (P : Program) (rd : Option Nat) (k : List Fr) (Q : AE → AS → Prop) : AE → AS → Prop
  | .normal, _ => False
  | .exit id, σ => leave P rd (.exit id) k Q σ
  | .ret, σ => leave P rd .ret k Q σ
section
variable (P : Program) (rd : Option Nat) (k : List Fr) (Q : AE → AS → Prop) (σ : AS)
@[simp] theorem exitQ_normal : exitQ P rd k Q .normal σ = False := rfl
@[simp] theorem exitQ_exit (id : Nat) : exitQ P rd k Q (.exit id) σ = leave P rd (.exit id) k Q σ := rfl
@[simp] theorem exitQ_ret : exitQ P rd k Q .ret σ = leave P rd .ret k Q σ := rfl
end
section
variable (P : Program) (rd : Option Nat) (t : Nat) (J : Nat → List AObj → Prop) (fr : List (Nat × RV)) (i : Nat) (k : List Fr) (Q : AE → AS → Prop) (σ : AS)
@[simp] theorem countQ_normal : countQ P rd t J fr i k Q .normal σ = (σ.fr = setfr fr t (.v (.i .i64 ((i + 1 : Nat) : Int))) ∧ J (i + 1) σ.hp) := rfl
@[simp] theorem countQ_exit (id : Nat) : countQ P rd t J fr i k Q (.exit id) σ = leave P rd (.exit id) k Q σ := rfl
@[simp] theorem countQ_ret : countQ P rd t J fr i k Q .ret σ = leave P rd .ret k Q σ := rfl
end

/-- **A LOOP THAT COUNTS** from i0 to n. -/
theorem go_count {P : Program} (hmx : P.follows .mixedOrders = true) {rd : Option Nat} {c : ACode} {k : List Fr} {Q : AE → AS → Prop} {σ : AS} (t i0 n : Nat) (J : Nat → List AObj → Prop) (hi0 : i0 ≤ n) (hn : n < 9223372036854775807) (h0 : σ.fr = setfr σ.fr t (.v (.i .i64 (i0 : Int)))) (hJ : J i0 σ.hp)
    (body : ∀ i hp, i0 ≤ i → i < n → J i hp → IntKind.i64.wrap ((i : Int) + 1) = (i : Int) + 1 → go P rd c [] (countQ P rd t J σ.fr i k Q) ⟨setfr σ.fr t (.v (.i .i64 (i : Int))), hp⟩)
    (done : ∀ hp, J n hp → go P rd c [] (exitQ P rd k Q) ⟨setfr σ.fr t (.v (.i .i64 (n : Int))), hp⟩) : goL P rd c k Q σ := by
  refine go_rounds hmx (fun i σ' => i0 ≤ i ∧ i ≤ n ∧ σ'.fr = setfr σ.fr t (.v (.i .i64 (i : Int))) ∧ J i σ'.hp) (fun i => n - i) i0 ⟨Nat.le_refl _, hi0, h0, hJ⟩ ?_
  rintro i ⟨fr, hp⟩ ⟨hi1, hi, hfr, hj⟩
  simp only at hfr hj
  subst hfr
  have mono : ∀ (A B : AE → AS → Prop), (∀ e σ', A e σ' → B e σ') → ∀ σ', go P rd c [] A σ' → go P rd c [] B σ' := fun A B h σ' hg => by
    rw [← go_start] at hg ⊢
    exact wpA_mono c h hg
  by_cases hlt : i < n
  · refine mono _ _ ?_ _ (body i hp hi1 hlt hj (by rw [wrap_in (by omega) (by omega)]))
    intro e σ' h
    cases e with
    | normal => exact ⟨i + 1, ⟨by omega, by omega, h.1, h.2⟩, by show n - (i + 1) < n - i; omega⟩
    | exit id => exact h
    | ret => exact h
  · obtain rfl : i = n := by omega
    refine mono _ _ ?_ _ (done hp hj)
    intro e σ' h
    cases e with
    | normal => exact h.elim
    | exit id => exact h
    | ret => exact h

/-! ### Calls -/
section
variable {P : Program} {rd : Option Nat} {k : List Fr} {Q : AE → AS → Prop} {σ : AS} {d : Option Nat} {m : Nat} {os : List AO} {f : AX} {args : List AX} {fid : Nat} {caps : Caps} {xs : List AV} {r : AV} {G : Bool} {j : Nat} {want : Bool}

theorem callk (hf : fnv (ax σ.fr f) = some (fid, caps)) (hc : ∀ vs w, (callFunc fid vs).run P w = .ok (.enter fid vs) w) (h : PureS P fid xs r) (hx : capd caps (args.map (ax σ.fr)) = xs.map .v)
    (kk : goR P rd os k Q ⟨upd σ.fr d (.v r), σ.hp⟩) : goC P rd none f args d os k Q σ := by
  simp only [goC, CallK, hf]
  exact ⟨hc, by rw [hx]; exact (h.frame σ.hp).mono fun r' H' ⟨h1, h2⟩ => by subst h1; subst h2; exact kk⟩

theorem callkg (hf : fnv (ax σ.fr f) = some (fid, caps)) (hc : ∀ vs w, (callFunc fid vs).run P w = .ok (.enter fid vs) w) (hg : gval (lk σ.fr j) want = some G) (h : G = true → PureS P fid xs r) (ho : G = true → obls σ.fr args)
    (hx : capd caps (args.map fun x => opn (ax σ.fr x)) = xs.map .v) (kk : goR P rd os k Q ⟨upd σ.fr d (.cnd G (.v r)), σ.hp⟩) : goC P rd (some (j, want)) f args d os k Q σ := by
  simp only [goC, CallK, hf, hg]
  exact ⟨hc, r, fun hG => ⟨ho hG, xs, hx, h hG⟩, kk⟩

theorem callq (hf : fnv (ax σ.fr f) = some (fid, caps)) (hc : ∀ vs w, (callFunc fid vs).run P w = .ok (.enter fid vs) w) (h : PureS P fid xs r) (hx : capd caps (args.map (ax σ.fr)) = xs.map .v)
    (kk : goD P rd m os k Q ⟨upd σ.fr d (.v r), σ.hp⟩) : goCD P rd none f args d m os k Q σ := by
  simp only [goCD, evQ, hf]
  exact ⟨hc, r, ⟨xs, hx, h⟩, kk⟩

theorem callqg (hf : fnv (ax σ.fr f) = some (fid, caps)) (hc : ∀ vs w, (callFunc fid vs).run P w = .ok (.enter fid vs) w) (hg : gval (lk σ.fr j) want = some G) (h : G = true → PureS P fid xs r) (ho : G = true → obls σ.fr args)
    (hx : capd caps (args.map fun x => opn (ax σ.fr x)) = xs.map .v) (kk : goD P rd m os k Q ⟨upd σ.fr d (.cnd G (.v r)), σ.hp⟩) : goCD P rd (some (j, want)) f args d m os k Q σ := by
  simp only [goCD, evQ, hf, hg]
  exact ⟨hc, r, fun hG => ⟨ho hG, xs, hx, h hG⟩, kk⟩

/-- A call that writes what is one's own, or makes some. -/
theorem callm {ys : List RV} {H : List AObj} {R : RV → List AObj → Prop} (hf : fnv (ax σ.fr f) = some (fid, caps)) (hc : ∀ vs w, (callFunc fid vs).run P w = .ok (.enter fid vs) w) (h : CallS P fid ys H R) (hx : capd caps (args.map (ax σ.fr)) = ys) (hH : σ.hp = H)
    (kk : ∀ r H', R r H' → goR P rd os k Q ⟨upd σ.fr d r, H'⟩) : goC P rd none f args d os k Q σ := by
  simp only [goC, CallK, hf]
  subst hx; subst hH
  exact ⟨hc, h.mono kk⟩

/-- A call with what is one's own lent. -/
theorem calll {ys : List RV} (hf : fnv (ax σ.fr f) = some (fid, caps)) (hc : ∀ vs w, (callFunc fid vs).run P w = .ok (.enter fid vs) w) (h : PureS P fid xs r) (hr : Flat r) (hx : capd caps (args.map (ax σ.fr)) = ys) (hl : ys.length = xs.length) (hz : ∀ (j : Nat) x y, ys[j]? = some x → xs[j]? = some y → Frz σ.hp x y)
    (kk : goR P rd os k Q ⟨upd σ.fr d (.v r), σ.hp⟩) : goC P rd none f args d os k Q σ := by
  simp only [goC, CallK, hf]
  subst hx
  exact ⟨hc, (lend h hr hl hz).mono fun r' H' ⟨h1, h2⟩ => by subst h1; subst h2; exact kk⟩
end

section
variable {P : Program} {rd : Option Nat} {k : List Fr} {Q : AE → AS → Prop} {σ : AS} {d : Option Nat} {m : Nat} {os : List AO} {f : AX} {args : List AX} {fid : Nat} {caps : Caps} {xs : List AV} {r : AV} {G : Bool} {j : Nat} {want : Bool} {l : List (List (Nat × RV) × AO × RV)} {ls : List Nat} {idx : Nat}
theorem callks (hf : fnv (ax σ.fr f) = some (fid, caps)) (hc : ∀ vs w, (callFunc fid vs).run P w = .ok (.enter fid vs) w) (h : PureS P fid xs r) (hx : capd caps (args.map (ax σ.fr)) = xs.map .v)
    (kk : goS P rd l os k Q ⟨upd σ.fr d (.v r), σ.hp⟩) : goCS P rd l none f args d os k Q σ := by
  simp only [goCS, CallK, hf]
  exact ⟨hc, by rw [hx]; exact (h.frame σ.hp).mono fun r' H' ⟨h1, h2⟩ => by subst h1; subst h2; exact ⟨.inl rfl, kk⟩⟩
theorem callksg (hf : fnv (ax σ.fr f) = some (fid, caps)) (hc : ∀ vs w, (callFunc fid vs).run P w = .ok (.enter fid vs) w) (hg : gval (lk σ.fr j) want = some G) (h : G = true → PureS P fid xs r) (ho : G = true → obls σ.fr args)
    (hx : capd caps (args.map fun x => opn (ax σ.fr x)) = xs.map .v) (kk : goS P rd l os k Q ⟨upd σ.fr d (.cnd G (.v r)), σ.hp⟩) : goCS P rd l (some (j, want)) f args d os k Q σ := by
  simp only [goCS, CallK, hf, hg]
  exact ⟨hc, r, fun hG => ⟨ho hG, xs, hx, h hG⟩, .inl trivial, kk⟩
end

theorem vrows_length (l : List (List AV)) : (vrows l).length = l.length := by simp [vrows]
theorem vrows_get (l : List (List AV)) (i : Nat) : (vrows l)[i]? = (l[i]?).map fun r => r.map .v := by simp [vrows]
theorem vrows_app (l m : List (List AV)) : vrows l ++ vrows m = vrows (l ++ m) := by simp [vrows]
theorem vrows_one (r : List AV) : [r.map RV.v] = vrows [r] := rfl
theorem vrows_nil : vrows [] = [] := rfl

theorem vrows_snoc {α : Type} {f : α → List AV} {xs : List α} {i : Nat} {r : List RV} (h : i < xs.length) (hr : r = (f xs[i]).map .v) : vrows (List.take i (xs.map f)) ++ [r] = vrows (List.take (i + 1) (xs.map f)) := by
  subst hr
  rw [vrows_one, vrows_app, List.take_add_one, List.getElem?_map, List.getElem?_eq_getElem h]
  rfl

@[simp] theorem dead_some (G : Bool) (ob C : Prop) (r : RV) : dead G ob (some (C, r)) = (G = true → ob ∧ C, .cnd G r) := rfl
@[simp] theorem dead_none (G : Bool) (ob : Prop) : dead G ob none = (G = false, .cnd G (.v (.b false))) := rfl
attribute [simp] vrows_length vrows_get vrows_app plainr plainR plainr_map plainR_app plainR_vrows evG setfr evo evPk evPick gval opn obl obls AOp.xs evq evm ax lk upd zipA evBin binI binS evUn evEqg evEqb evPart evIdx evSidx evExt evNck evMkf evFa evIaa evIas evLenS evLenL evLen evSls evLd evBld evB2s evSt evMks evApp rowsX
  evRes evRes1 retQ fnv capd evMx toV aggV bnd rcells fillA putAll repl chunk eqA eqA1 fitA fitA1 junk_get0 junk_get junk_set0 junk_set

/-- A function's contract, out of its walk. -/
theorem fun_go {P : Program} {f : Nat} {fn : Func} {c : ACode} {rs : List ARes} {args : List RV} {H : List AObj} {R : RV → List AObj → Prop} (hmx : P.follows .mixedOrders = true) (hf : P.funcs[f]? = some fn) (hc : (fn.body.bind (resC P fn.ntmps)) = some (strip c))
    (hr : fn.results.toList.mapM (resRes P) = some rs) (hn : args.length ≤ fn.ntmps)
    (h : go P none c [] (retQ rs R) ⟨zipA 0 args, H⟩) : CallS P f args H R := fun_at hmx hf hc hr hn (by rw [go_start]; exact h)
end Go.Av
