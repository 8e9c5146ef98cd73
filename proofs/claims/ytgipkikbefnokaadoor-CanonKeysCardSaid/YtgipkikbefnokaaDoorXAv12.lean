/- Words for walks done by simplification. No condition. -/
import Derived.Test.YtgipkikbefnokaaDoorXAv9
set_option linter.constructorNameAsVariable false
namespace Go.Av
open Go Go.RowKit
set_option linter.unusedSimpArgs false
set_option linter.unusedVariables false

theorem wrap_in {n : Int} (h0 : -9223372036854775808 ≤ n) (h1 : n ≤ 9223372036854775807) : IntKind.i64.wrap n = n := by rw [IntKind.wrap_i64]; omega
theorem wrap_nat {n : Nat} (h1 : n < 9223372036854775807) : IntKind.i64.wrap ((n : Int) + 1) = ((n + 1 : Nat) : Int) := by rw [wrap_in (by omega) (by omega)]; rfl

theorem junk_get0 {α : Type} (K l : List α) : (K ++ l)[K.length]? = l[0]? := by rw [List.getElem?_append_right (Nat.le_refl _), Nat.sub_self]
theorem junk_get {α : Type} (K l : List α) (n : Nat) : (K ++ l)[K.length + n]? = l[n]? := by rw [List.getElem?_append_right (by omega)]; congr 1; omega
theorem junk_set0 {α : Type} (K l : List α) (x : α) : (K ++ l).set K.length x = K ++ l.set 0 x := by rw [List.set_append_right _ _ (Nat.le_refl _), Nat.sub_self]
theorem junk_set {α : Type} (K l : List α) (n : Nat) (x : α) : (K ++ l).set (K.length + n) x = K ++ l.set n x := by rw [List.set_append_right _ _ (by omega)]; congr 2; omega

/-! ### Whoever is owed less -/
theorem CallK_mono {P : Program} {σ : AS} {gd : Option (Nat × Bool)} {f : AX} {args : List AX} {dst : Option Nat} {K K' : AS → Prop} (h : ∀ σ, K σ → K' σ) (hk : CallK P σ gd f args dst K) : CallK P σ gd f args dst K' := by
  unfold CallK at hk ⊢
  split at hk
  · obtain ⟨h1, h2⟩ := hk
    refine ⟨h1, ?_⟩
    split at h2
    · exact h2.mono fun r H' hr => h _ hr
    · split at h2
      · obtain ⟨r, h3, h4⟩ := h2
        exact ⟨r, h3, h _ h4⟩
      · exact h2.elim
  · exact YieldK_mono h hk

theorem evR_mono {P : Program} {K K' : AS → Prop} (h : ∀ σ, K σ → K' σ) : ∀ (os : List AO) (σ : AS), evR P os σ K → evR P os σ K'
  | [], σ, hk => h σ hk
  | o :: os, σ, hk => by
    unfold evR at hk ⊢
    split at hk
    · split at hk
      · exact ⟨hk.1, evR_mono h os _ hk.2⟩
      · exact hk.elim
    · split at hk
      · exact ⟨hk.1, evR_mono h os _ hk.2⟩
      · exact hk.elim
    · split at hk
      · exact ⟨hk.1, evR_mono h os _ hk.2⟩
      · exact hk.elim
      · exact GmK_mono (fun σ' h' => evR_mono h os σ' h') hk
    · exact CallK_mono (fun σ' h' => evR_mono h os σ' h') hk
    · split at hk
      · exact NxtK_mono (fun r H' h' => evR_mono h os _ h') hk
      · exact hk.elim

theorem evQ_mono {P : Program} {σ : AS} {o : AO} {K K' : RV → Prop} (h : ∀ r, K r → K' r) (hk : evQ P σ o K) : evQ P σ o K' := by
  unfold evQ at hk ⊢
  split at hk
  · split at hk
    · exact ⟨hk.1, h _ hk.2⟩
    · exact hk.elim
  · split at hk
    · exact ⟨hk.1, h _ hk.2⟩
    · exact hk.elim
  · exact hk.elim
  · split at hk
    · obtain ⟨h1, h2⟩ := hk
      refine ⟨h1, ?_⟩
      split at h2
      · obtain ⟨r, h3, h4⟩ := h2
        exact ⟨r, h3, h _ h4⟩
      · split at h2
        · obtain ⟨r, h3, h4⟩ := h2
          exact ⟨r, h3, h _ h4⟩
        · exact h2.elim
    · exact hk.elim
  · exact hk.elim

theorem evRD_mono {P : Program} {K K' : AS → Prop} (h : ∀ σ, K σ → K' σ) : ∀ (m : Nat) (os : List AO) (σ : AS), evRD P m os σ K → evRD P m os σ K'
  | 0, os, σ, hk => evR_mono h os σ hk
  | _ + 1, [], σ, hk => h σ hk
  | m + 1, o :: os, σ, hk => evQ_mono (fun r hr => evRD_mono h m os _ hr) hk

theorem evRS_mono {P : Program} {K K' : AS → Prop} (h : ∀ σ, K σ → K' σ) : ∀ {tw : Bool} {l : List (List (Nat × RV) × AO × RV)} (os : List AO) (σ : AS), evRS P tw l os σ K → evRS P tw l os σ K'
  | tw, l, [], σ, hk => h σ hk
  | tw, l, o :: os, σ, hk => ⟨hk.1, evR_mono (K := fun σ' => (σ'.hp = σ.hp ∨ stab P (prune o l) σ'.hp) ∧ evRS P tw (prune o l) os σ' K) (fun σ' ⟨h1, h2⟩ => ⟨h1, evRS_mono h os σ' h2⟩) [o] σ hk.2⟩

theorem evRE_mono {P : Program} {ls : List Nat} {K K' : AS → Prop} (h : ∀ σ, K σ → K' σ) : ∀ (m : Nat) (os : List AO) (idx : Nat) (l : List (List (Nat × RV) × AO × RV)) (σ : AS), evRE P ls idx l m os σ K → evRE P ls idx l m os σ K'
  | 0, os, idx, l, σ, hk => by simp only [evRE] at hk ⊢; exact evRS_mono h os σ hk
  | _ + 1, [], idx, l, σ, hk => by simp only [evRE] at hk ⊢; exact h σ hk
  | m + 1, o :: os, idx, l, σ, hk => by simp only [evRE] at hk ⊢; exact evQ_mono (fun r hr => evRE_mono h m os _ _ _ hr) hk

theorem evRX_mono {P : Program} {ls : List Nat} {H : List AObj} {K K' : AS → Prop} (h : ∀ σ, K σ → K' σ) : ∀ (m : Nat) (os : List AO) (fr : List (Nat × RV)) (obs : List AObj), evRX P ls H m os fr obs K → evRX P ls H m os fr obs K'
  | 0, os, fr, obs, hk => evR_mono h os _ hk
  | _ + 1, [], fr, obs, hk => h _ hk
  | m + 1, o :: os, fr, obs, ⟨r, ob, hx, hk⟩ => ⟨r, ob, hx, evRX_mono h m os _ _ hk⟩

theorem wpA_mono {P : Program} {rd : Option Nat} : ∀ (c : ACode) {Q Q' : AE → AS → Prop}, (∀ e σ, Q e σ → Q' e σ) → ∀ {σ : AS}, wpA P rd c Q σ → wpA P rd c Q' σ
  | .skip, Q, Q', h, σ, hk => h _ _ hk
  | .reg none os, Q, Q', h, σ, hk => evR_mono (h .normal) os σ hk
  | .reg (some (m, [])) os, Q, Q', h, σ, hk => evRD_mono (h .normal) m os σ hk
  | .reg (some (m, j :: ls)) os, Q, Q', h, σ, hk => evRE_mono (h .normal) m os _ _ σ hk
  | .rgx m ls os, Q, Q', h, σ, hk => ⟨hk.1, hk.2.1, evRX_mono (h .normal) m os _ _ hk.2.2⟩
  | .seq a b, Q, Q', h, σ, hk => wpA_mono a (fun e σ' hs => by
      cases e with
      | normal => exact wpA_mono b h hs
      | exit id => exact h _ _ hs
      | ret => exact h _ _ hs) hk
  | .cond x a b, Q, Q', h, σ, hk => by
    simp only [wpA] at hk ⊢
    split at hk
    · exact ⟨fun t => wpA_mono a h (hk.1 t), fun t => wpA_mono b h (hk.2 t)⟩
    · exact ⟨wpA_mono a h hk.1, wpA_mono b h hk.2⟩
    · exact hk.elim
  | .blk id c, Q, Q', h, σ, hk => wpA_mono c (fun e σ' hs => by
      cases e with
      | normal => exact h _ _ hs
      | exit id' =>
        simp only at hs ⊢
        split at hs
        · rename_i hi; rw [if_pos hi]; exact h _ _ hs
        · rename_i hi; rw [if_neg hi]; exact h _ _ hs
      | ret => exact h _ _ hs) hk
  | .loop c, Q, Q', h, σ, hk => fun pf N cd hc e0 g0 t0 D a w hr => wpIn_mono (hk pf N cd hc e0 g0 t0 D a w hr) fun e a' w' hq => QQ.mono h hq
  | .exit id, Q, Q', h, σ, hk => h _ _ hk
  | .ret, Q, Q', h, σ, hk => h _ _ hk
  | .keep l c, Q, Q', h, σ, hk => wpA_mono c h hk
  | .fin l c, Q, Q', h, σ, hk => wpA_mono c (fun e σ' hs => by
      cases e with
      | normal => exact h _ _ hs
      | exit id => exact h _ _ hs
      | ret => exact h _ _ hs) hk
  | .rf f ps x y, Q, Q', h, σ, hk => fun pf N fo pa cx cy h1 h2 h3 h4 h5 e0 g0 t0 D a w hr => wpIn_mono (hk pf N fo pa cx cy h1 h2 h3 h4 h5 e0 g0 t0 D a w hr) fun e a' w' hq => QQ.mono h hq
  | .gst g c, Q, Q', h, σ, hk => by
    simp only [wpA] at hk ⊢
    split at hk
    · exact ⟨hk.1, wpA_mono c h hk.2⟩
    · exact hk.elim

/-! ### The walk, with what follows told by text: simplification finds nothing to do in it -/
inductive Fr where
  | seq (b : ACode)
  | blk (id : Nat)
  | fin (l : List Nat)

def contQ (P : Program) (rd : Option Nat) (Q : AE → AS → Prop) : List Fr → AE → AS → Prop
  | [], e, σ => Q e σ
  | .seq b :: k, .normal, σ => wpA P rd b (contQ P rd Q k) σ
  | .seq _ :: k, .exit id, σ => contQ P rd Q k (.exit id) σ
  | .seq _ :: k, .ret, σ => contQ P rd Q k .ret σ
  | .blk _ :: k, .normal, σ => contQ P rd Q k .normal σ
  | .blk id :: k, .exit id', σ => if id' = id then contQ P rd Q k .normal σ else contQ P rd Q k (.exit id') σ
  | .blk _ :: k, .ret, σ => contQ P rd Q k .ret σ
  | .fin l :: k, .normal, σ => contQ P rd Q k .normal ⟨l.map fun t => (t, lk σ.fr t), σ.hp⟩
  | .fin _ :: k, .exit id, σ => contQ P rd Q k (.exit id) σ
  | .fin _ :: k, .ret, σ => contQ P rd Q k .ret σ

def go (P : Program) (rd : Option Nat) (c : ACode) (k : List Fr) (Q : AE → AS → Prop) (σ : AS) : Prop := wpA P rd c (contQ P rd Q k) σ
def leave (P : Program) (rd : Option Nat) (e : AE) (k : List Fr) (Q : AE → AS → Prop) (σ : AS) : Prop := contQ P rd Q k e σ
def goR (P : Program) (rd : Option Nat) (os : List AO) (k : List Fr) (Q : AE → AS → Prop) (σ : AS) : Prop := evR P os σ (contQ P rd Q k .normal)
def goD (P : Program) (rd : Option Nat) (m : Nat) (os : List AO) (k : List Fr) (Q : AE → AS → Prop) (σ : AS) : Prop := evRD P m os σ (contQ P rd Q k .normal)
def goE (P : Program) (rd : Option Nat) (ls : List Nat) (idx : Nat) (l : List (List (Nat × RV) × AO × RV)) (m : Nat) (os : List AO) (k : List Fr) (Q : AE → AS → Prop) (σ : AS) : Prop := evRE P ls idx l m os σ (contQ P rd Q k .normal)
def goS (P : Program) (rd : Option Nat) (l : List (List (Nat × RV) × AO × RV)) (os : List AO) (k : List Fr) (Q : AE → AS → Prop) (σ : AS) : Prop := evRS P true l os σ (contQ P rd Q k .normal)
def goOE (P : Program) (rd : Option Nat) (x : Option (Prop × RV)) (ls : List Nat) (idx : Nat) (l : List (List (Nat × RV) × AO × RV)) (m : Nat) (o : AO) (os : List AO) (k : List Fr) (Q : AE → AS → Prop) (σ : AS) : Prop :=
  match x with
  | some (C, r) => C ∧ goE P rd ls (idx + 1) (if idx ∈ ls then (σ.fr, o, r) :: l else l) m os k Q ⟨upd σ.fr o.dst r, σ.hp⟩
  | none => False
def goOS (P : Program) (rd : Option Nat) (x : Option (Prop × RV)) (l : List (List (Nat × RV) × AO × RV)) (d : Option Nat) (os : List AO) (k : List Fr) (Q : AE → AS → Prop) (σ : AS) : Prop :=
  match x with
  | some (C, r) => C ∧ goS P rd l os k Q ⟨upd σ.fr d r, σ.hp⟩
  | none => False
def goMS (P : Program) (rd : Option Nat) (x : Option (Prop × RV × List AObj)) (l : List (List (Nat × RV) × AO × RV)) (d : Option Nat) (os : List AO) (k : List Fr) (Q : AE → AS → Prop) (σ : AS) : Prop :=
  match x with
  | some (C, r, H) => C ∧ (H = σ.hp ∨ stab P l H) ∧ goS P rd l os k Q ⟨upd σ.fr d r, H⟩
  | none => False
def goCS (P : Program) (rd : Option Nat) (l : List (List (Nat × RV) × AO × RV)) (g : Option (Nat × Bool)) (f : AX) (args : List AX) (d : Option Nat) (os : List AO) (k : List Fr) (Q : AE → AS → Prop) (σ : AS) : Prop :=
  CallK P σ g f args d fun σ' => (σ'.hp = σ.hp ∨ stab P l σ'.hp) ∧ goS P rd l os k Q σ'
def evqK (x : Option (Prop × RV)) (r : RV) : Prop :=
  match x with
  | some (C, r') => C ∧ r' = r
  | none => False
def goO (P : Program) (rd : Option Nat) (x : Option (Prop × RV)) (d : Option Nat) (os : List AO) (k : List Fr) (Q : AE → AS → Prop) (σ : AS) : Prop :=
  match x with
  | some (C, r) => C ∧ goR P rd os k Q ⟨upd σ.fr d r, σ.hp⟩
  | none => False
def goM (P : Program) (rd : Option Nat) (x : Option (Prop × RV × List AObj)) (d : Option Nat) (os : List AO) (k : List Fr) (Q : AE → AS → Prop) (σ : AS) : Prop :=
  match x with
  | some (C, r, H) => C ∧ goR P rd os k Q ⟨upd σ.fr d r, H⟩
  | none => False
def goOD (P : Program) (rd : Option Nat) (x : Option (Prop × RV)) (d : Option Nat) (m : Nat) (os : List AO) (k : List Fr) (Q : AE → AS → Prop) (σ : AS) : Prop :=
  match x with
  | some (C, r) => C ∧ goD P rd m os k Q ⟨upd σ.fr d r, σ.hp⟩
  | none => False
def goC (P : Program) (rd : Option Nat) (gd : Option (Nat × Bool)) (f : AX) (args : List AX) (d : Option Nat) (os : List AO) (k : List Fr) (Q : AE → AS → Prop) (σ : AS) : Prop := CallK P σ gd f args d fun σ' => goR P rd os k Q σ'
def goCD (P : Program) (rd : Option Nat) (gd : Option (Nat × Bool)) (f : AX) (args : List AX) (d : Option Nat) (m : Nat) (os : List AO) (k : List Fr) (Q : AE → AS → Prop) (σ : AS) : Prop := evQ P σ ⟨d, gd, .call f args⟩ fun r => goD P rd m os k Q ⟨upd σ.fr d r, σ.hp⟩
def goL (P : Program) (rd : Option Nat) (c : ACode) (k : List Fr) (Q : AE → AS → Prop) (σ : AS) : Prop := LoopK P rd c (contQ P rd Q k) σ
def goIf (P : Program) (rd : Option Nat) (x : RV) (a b : ACode) (k : List Fr) (Q : AE → AS → Prop) (σ : AS) : Prop :=
  match x with
  | .v (.b t) => (t = true → go P rd a k Q σ) ∧ (t = false → go P rd b k Q σ)
  | .bo => go P rd a k Q σ ∧ go P rd b k Q σ
  | _ => False

section
variable (P : Program) (rd : Option Nat) (k : List Fr) (Q : AE → AS → Prop) (σ : AS)
theorem go_start (c : ACode) : wpA P rd c Q σ = go P rd c [] Q σ := by
  unfold go
  congr 1
@[simp] theorem go_skip : go P rd .skip k Q σ = leave P rd .normal k Q σ := rfl
@[simp] theorem go_ret : go P rd .ret k Q σ = leave P rd .ret k Q σ := rfl
@[simp] theorem go_exit (id : Nat) : go P rd (.exit id) k Q σ = leave P rd (.exit id) k Q σ := rfl
@[simp] theorem go_seq (a b : ACode) : go P rd (.seq a b) k Q σ = go P rd a (.seq b :: k) Q σ := by
  simp only [go, wpA]
  congr 1
  funext e σ
  cases e <;> rfl
@[simp] theorem go_blk (id : Nat) (c : ACode) : go P rd (.blk id c) k Q σ = go P rd c (.blk id :: k) Q σ := by
  simp only [go, wpA]
  congr 1
  funext e σ
  cases e <;> rfl
@[simp] theorem go_keep (l : List Nat) (c : ACode) : go P rd (.keep l c) k Q σ = go P rd c k Q ⟨l.map fun t => (t, lk σ.fr t), σ.hp⟩ := rfl
@[simp] theorem go_fin (l : List Nat) (c : ACode) : go P rd (.fin l c) k Q σ = go P rd c (.fin l :: k) Q σ := by
  simp only [go, wpA]
  congr 1
  funext e σ
  cases e <;> rfl
def goG (P : Program) (rd : Option Nat) (x : Option (Prop × AS)) (c : ACode) (k : List Fr) (Q : AE → AS → Prop) : Prop :=
  match x with
  | some (C, σ') => C ∧ go P rd c k Q σ'
  | none => False
@[simp] theorem go_gst (g : Gh) (c : ACode) : go P rd (.gst g c) k Q σ = goG P rd (evG σ g) c k Q := rfl
@[simp] theorem goG_some (C : Prop) (σ' : AS) (c : ACode) : goG P rd (some (C, σ')) c k Q = (C ∧ go P rd c k Q σ') := rfl
@[simp] theorem go_cond (x : AX) (a b : ACode) : go P rd (.cond x a b) k Q σ = goIf P rd (ax σ.fr x) a b k Q σ := by
  simp only [go, wpA, goIf]
  rfl
@[simp] theorem go_loop (c : ACode) : go P rd (.loop c) k Q σ = goL P rd c k Q σ := rfl
@[simp] theorem go_reg (os : List AO) : go P rd (.reg none os) k Q σ = goR P rd os k Q σ := rfl
@[simp] theorem go_regd (m : Nat) (os : List AO) : go P rd (.reg (some (m, [])) os) k Q σ = goD P rd m os k Q σ := rfl
@[simp] theorem go_rege (m j : Nat) (ls : List Nat) (os : List AO) : go P rd (.reg (some (m, j :: ls)) os) k Q σ = goE P rd (j :: ls) 0 [] m os k Q σ := rfl
@[simp] theorem goE_zero (j : Nat) (ls : List Nat) (idx : Nat) (l : List (List (Nat × RV) × AO × RV)) (os : List AO) : goE P rd (j :: ls) idx l 0 os k Q σ = goS P rd l os k Q σ := by simp only [goE, goS, evRE]; rfl
@[simp] theorem goE_q (ls : List Nat) (idx : Nat) (l : List (List (Nat × RV) × AO × RV)) (m : Nat) (d : Option Nat) (g : Option (Nat × Bool)) (q : AOp) (os : List AO) : goE P rd ls idx l (m + 1) (⟨d, g, .q q⟩ :: os) k Q σ = goOE P rd (evo σ.fr σ.hp g q) ls idx l m ⟨d, g, .q q⟩ os k Q σ := by
  simp only [goE, evRE, evQ, goOE]
  rfl
@[simp] theorem goE_pk (ls : List Nat) (idx : Nat) (l : List (List (Nat × RV) × AO × RV)) (m : Nat) (d : Option Nat) (g : Option (Nat × Bool)) (a b c : AX) (os : List AO) : goE P rd ls idx l (m + 1) (⟨d, g, .pk a b c⟩ :: os) k Q σ = goOE P rd (evPk σ.fr g a b c) ls idx l m ⟨d, g, .pk a b c⟩ os k Q σ := by
  simp only [goE, evRE, evQ, goOE]
  rfl
@[simp] theorem goOE_some (C : Prop) (r : RV) (ls : List Nat) (idx : Nat) (l : List (List (Nat × RV) × AO × RV)) (m : Nat) (d : Option Nat) (g : Option (Nat × Bool)) (op : AInst) (os : List AO) :
    goOE P rd (some (C, r)) ls idx l m ⟨d, g, op⟩ os k Q σ = (C ∧ goE P rd ls (idx + 1) (if idx ∈ ls then (σ.fr, ⟨d, g, op⟩, r) :: l else l) m os k Q ⟨upd σ.fr d r, σ.hp⟩) := rfl
@[simp] theorem goS_nil (l : List (List (Nat × RV) × AO × RV)) : goS P rd l [] k Q σ = leave P rd .normal k Q σ := rfl
@[simp] theorem goS_q (l : List (List (Nat × RV) × AO × RV)) (d : Option Nat) (g : Option (Nat × Bool)) (q : AOp) (os : List AO) : goS P rd l (⟨d, g, .q q⟩ :: os) k Q σ = goOS P rd (evo σ.fr σ.hp g q) (prune ⟨d, g, .q q⟩ l) d os k Q σ := by
  simp only [goS, evRS, evR, goOS, twinQ, implies_true, true_and]
  generalize evo σ.fr σ.hp g q = x
  cases x <;> simp
@[simp] theorem goS_pk (l : List (List (Nat × RV) × AO × RV)) (d : Option Nat) (g : Option (Nat × Bool)) (a b c : AX) (os : List AO) : goS P rd l (⟨d, g, .pk a b c⟩ :: os) k Q σ = goOS P rd (evPk σ.fr g a b c) (prune ⟨d, g, .pk a b c⟩ l) d os k Q σ := by
  simp only [goS, evRS, evR, goOS, twinQ, implies_true, true_and]
  generalize evPk σ.fr g a b c = x
  cases x <;> simp
@[simp] theorem goS_m (l : List (List (Nat × RV) × AO × RV)) (d : Option Nat) (q : MOp) (os : List AO) : goS P rd l (⟨d, none, .m q⟩ :: os) k Q σ = (twinQ P l (⟨d, none, .m q⟩ :: os) σ ∧ goMS P rd (evm (ax σ.fr) σ.hp q) (prune ⟨d, none, .m q⟩ l) d os k Q σ) := by
  simp only [goS, evRS, evR, goMS, forall_const, true_implies]
  generalize evm (ax σ.fr) σ.hp q = x
  cases x <;> rfl
@[simp] theorem goS_call (l : List (List (Nat × RV) × AO × RV)) (d : Option Nat) (g : Option (Nat × Bool)) (f : AX) (args : List AX) (os : List AO) : goS P rd l (⟨d, g, .call f args⟩ :: os) k Q σ = goCS P rd (prune ⟨d, g, .call f args⟩ l) g f args d os k Q σ := by
  simp only [goS, evRS, twinQ, implies_true, true_and]
  rfl
@[simp] theorem goOS_some (C : Prop) (r : RV) (l : List (List (Nat × RV) × AO × RV)) (d : Option Nat) (os : List AO) : goOS P rd (some (C, r)) l d os k Q σ = (C ∧ goS P rd l os k Q ⟨upd σ.fr d r, σ.hp⟩) := rfl
@[simp] theorem goMS_some (C : Prop) (r : RV) (H : List AObj) (l : List (List (Nat × RV) × AO × RV)) (d : Option Nat) (os : List AO) : goMS P rd (some (C, r, H)) l d os k Q σ = (C ∧ (H = σ.hp ∨ stab P l H) ∧ goS P rd l os k Q ⟨upd σ.fr d r, H⟩) := rfl
@[simp] theorem prune_nil (o : AO) : prune o [] = [] := rfl
@[simp] theorem prune_none (o : AO) (fr : List (Nat × RV)) (g : Option (Nat × Bool)) (q : AInst) (r : RV) (l : List (List (Nat × RV) × AO × RV)) : prune o ((fr, ⟨none, g, q⟩, r) :: l) = (fr, ⟨none, g, q⟩, r) :: prune o l := rfl
@[simp] theorem prune_some (o : AO) (fr : List (Nat × RV)) (d : Nat) (g : Option (Nat × Bool)) (q : AInst) (r : RV) (l : List (List (Nat × RV) × AO × RV)) : prune o ((fr, ⟨some d, g, q⟩, r) :: l) = if d ∈ o.uses then prune o l else (fr, ⟨some d, g, q⟩, r) :: prune o l := by
  simp only [prune, List.filter_cons]
  by_cases h : d ∈ o.uses <;> simp [h]
attribute [simp] AO.uses AInst.xs AOp.xs MOp.xs twinQ
@[simp] theorem stab_nil (H : List AObj) : stab P [] H = True := by simp [stab]
@[simp] theorem stab_cons (fr : List (Nat × RV)) (d : Option Nat) (g : Option (Nat × Bool)) (q : AOp) (r : RV) (l : List (List (Nat × RV) × AO × RV)) (H : List AObj) : stab P ((fr, ⟨d, g, .q q⟩, r) :: l) H = (evqK (evo fr H g q) r ∧ stab P l H) := by
  simp only [stab, List.forall_mem_cons, evQ, evqK]
  rfl
@[simp] theorem evqK_some (C : Prop) (r r' : RV) : evqK (some (C, r')) r = (C ∧ r' = r) := rfl
@[simp] theorem goIf_b (t : Bool) (a b : ACode) : goIf P rd (.v (.b t)) a b k Q σ = ((t = true → go P rd a k Q σ) ∧ (t = false → go P rd b k Q σ)) := rfl
@[simp] theorem goIf_bo (a b : ACode) : goIf P rd .bo a b k Q σ = (go P rd a k Q σ ∧ go P rd b k Q σ) := rfl
@[simp] theorem goR_nil : goR P rd [] k Q σ = leave P rd .normal k Q σ := rfl
@[simp] theorem goR_q (d : Option Nat) (g : Option (Nat × Bool)) (q : AOp) (os : List AO) : goR P rd (⟨d, g, .q q⟩ :: os) k Q σ = goO P rd (evo σ.fr σ.hp g q) d os k Q σ := rfl
@[simp] theorem goR_pk (d : Option Nat) (g : Option (Nat × Bool)) (a b c : AX) (os : List AO) : goR P rd (⟨d, g, .pk a b c⟩ :: os) k Q σ = goO P rd (evPk σ.fr g a b c) d os k Q σ := rfl
@[simp] theorem goR_m (d : Option Nat) (q : MOp) (os : List AO) : goR P rd (⟨d, none, .m q⟩ :: os) k Q σ = goM P rd (evm (ax σ.fr) σ.hp q) d os k Q σ := by
  simp only [goR, evR, goM]
  generalize evm (ax σ.fr) σ.hp q = x
  cases x <;> rfl
def goMG (P : Program) (rd : Option Nat) (G : Option Bool) (ob : Prop) (x : Option (Prop × RV × List AObj)) (d : Option Nat) (os : List AO) (k : List Fr) (Q : AE → AS → Prop) (σ : AS) : Prop :=
  match G with
  | some true =>
    match x with
    | some (C, r, H) => ob ∧ C ∧ goR P rd os k Q ⟨upd σ.fr d (.cnd true r), H⟩
    | none => False
  | some false => goR P rd os k Q ⟨upd σ.fr d (.cnd false (.v (.b false))), σ.hp⟩
  | none => False
@[simp] theorem goR_mg (d : Option Nat) (j : Nat) (want : Bool) (q : MOp) (os : List AO) : goR P rd (⟨d, some (j, want), .m q⟩ :: os) k Q σ = goMG P rd (gval (lk σ.fr j) want) (obls σ.fr q.xs) (evm (fun x => opn (ax σ.fr x)) σ.hp q) d os k Q σ := rfl
@[simp] theorem goMG_true (ob C : Prop) (r : RV) (H : List AObj) (d : Option Nat) (os : List AO) : goMG P rd (some true) ob (some (C, r, H)) d os k Q σ = (ob ∧ C ∧ goR P rd os k Q ⟨upd σ.fr d (.cnd true r), H⟩) := rfl
@[simp] theorem goMG_false (ob : Prop) (x : Option (Prop × RV × List AObj)) (d : Option Nat) (os : List AO) : goMG P rd (some false) ob x d os k Q σ = goR P rd os k Q ⟨upd σ.fr d (.cnd false (.v (.b false))), σ.hp⟩ := rfl
@[simp] theorem goR_call (d : Option Nat) (g : Option (Nat × Bool)) (f : AX) (args : List AX) (os : List AO) : goR P rd (⟨d, g, .call f args⟩ :: os) k Q σ = goC P rd g f args d os k Q σ := rfl
@[simp] theorem goR_nx (d : Option Nat) (it : AX) (os : List AO) : goR P rd (⟨d, none, .nx it⟩ :: os) k Q σ = NxtK (ax σ.fr it) σ.hp fun r H => goR P rd os k Q ⟨upd σ.fr d r, H⟩ := rfl
@[simp] theorem goO_some (C : Prop) (r : RV) (d : Option Nat) (os : List AO) : goO P rd (some (C, r)) d os k Q σ = (C ∧ goR P rd os k Q ⟨upd σ.fr d r, σ.hp⟩) := rfl
@[simp] theorem goM_some (C : Prop) (r : RV) (H : List AObj) (d : Option Nat) (os : List AO) : goM P rd (some (C, r, H)) d os k Q σ = (C ∧ goR P rd os k Q ⟨upd σ.fr d r, H⟩) := rfl
@[simp] theorem goOD_some (C : Prop) (r : RV) (d : Option Nat) (m : Nat) (os : List AO) : goOD P rd (some (C, r)) d m os k Q σ = (C ∧ goD P rd m os k Q ⟨upd σ.fr d r, σ.hp⟩) := rfl
@[simp] theorem goD_zero (os : List AO) : goD P rd 0 os k Q σ = goR P rd os k Q σ := rfl
@[simp] theorem goD_nil (m : Nat) : goD P rd m [] k Q σ = leave P rd .normal k Q σ := by cases m <;> rfl
@[simp] theorem goD_q (m : Nat) (d : Option Nat) (g : Option (Nat × Bool)) (q : AOp) (os : List AO) : goD P rd (m + 1) (⟨d, g, .q q⟩ :: os) k Q σ = goOD P rd (evo σ.fr σ.hp g q) d m os k Q σ := rfl
@[simp] theorem goD_pk (m : Nat) (d : Option Nat) (g : Option (Nat × Bool)) (a b c : AX) (os : List AO) : goD P rd (m + 1) (⟨d, g, .pk a b c⟩ :: os) k Q σ = goOD P rd (evPk σ.fr g a b c) d m os k Q σ := rfl
@[simp] theorem goD_call (m : Nat) (d : Option Nat) (g : Option (Nat × Bool)) (f : AX) (args : List AX) (os : List AO) : goD P rd (m + 1) (⟨d, g, .call f args⟩ :: os) k Q σ = goCD P rd g f args d m os k Q σ := rfl
@[simp] theorem leave_nil (e : AE) : leave P rd e [] Q σ = Q e σ := by cases e <;> rfl
@[simp] theorem leave_seq (b : ACode) : leave P rd .normal (.seq b :: k) Q σ = go P rd b k Q σ := rfl
@[simp] theorem leave_seq_exit (b : ACode) (id : Nat) : leave P rd (.exit id) (.seq b :: k) Q σ = leave P rd (.exit id) k Q σ := rfl
@[simp] theorem leave_seq_ret (b : ACode) : leave P rd .ret (.seq b :: k) Q σ = leave P rd .ret k Q σ := rfl
@[simp] theorem leave_blk (id : Nat) : leave P rd .normal (.blk id :: k) Q σ = leave P rd .normal k Q σ := rfl
@[simp] theorem leave_blk_exit (id id' : Nat) : leave P rd (.exit id') (.blk id :: k) Q σ = if id' = id then leave P rd .normal k Q σ else leave P rd (.exit id') k Q σ := rfl
@[simp] theorem leave_blk_ret (id : Nat) : leave P rd .ret (.blk id :: k) Q σ = leave P rd .ret k Q σ := rfl
@[simp] theorem leave_fin (l : List Nat) : leave P rd .normal (.fin l :: k) Q σ = leave P rd .normal k Q ⟨l.map fun t => (t, lk σ.fr t), σ.hp⟩ := rfl
@[simp] theorem leave_fin_exit (l : List Nat) (id : Nat) : leave P rd (.exit id) (.fin l :: k) Q σ = leave P rd (.exit id) k Q σ := rfl
@[simp] theorem leave_fin_ret (l : List Nat) : leave P rd .ret (.fin l :: k) Q σ = leave P rd .ret k Q σ := rfl
end

def roundQ {α : Type} (P : Program) (rd : Option Nat) (I : α → AS → Prop) (μ : α → Nat) (x : α) (k : List Fr) (Q : AE → AS → Prop) : AE → AS → Prop
  | .normal, σ => ∃ x', I x' σ ∧ μ x' < μ x
  | .exit id, σ => leave P rd (.exit id) k Q σ
  | .ret, σ => leave P rd .ret k Q σ
section
variable {α : Type} (P : Program) (rd : Option Nat) (I : α → AS → Prop) (μ : α → Nat) (x : α) (k : List Fr) (Q : AE → AS → Prop) (σ : AS)
@[simp] theorem roundQ_normal : roundQ P rd I μ x k Q .normal σ = ∃ x', I x' σ ∧ μ x' < μ x := rfl
@[simp] theorem roundQ_exit (id : Nat) : roundQ P rd I μ x k Q (.exit id) σ = leave P rd (.exit id) k Q σ := rfl
@[simp] theorem roundQ_ret : roundQ P rd I μ x k Q .ret σ = leave P rd .ret k Q σ := rfl
end

theorem go_rounds {P : Program} (hmx : P.follows .mixedOrders = true) {rd : Option Nat} {c : ACode} {k : List Fr} {Q : AE → AS → Prop} {σ : AS} {α : Type} (I : α → AS → Prop) (μ : α → Nat) (x0 : α) (h0 : I x0 σ)
    (round : ∀ x σ, I x σ → go P rd c [] (roundQ P rd I μ x k Q) σ) : goL P rd c k Q σ := by
  refine loop_ok hmx I μ x0 h0 fun x σ h => ?_
  have := round x σ h
  rw [← go_start] at this
  refine Eq.mp ?_ this
  congr 1
  funext e σ'
  cases e <;> rfl

def setfr : List (Nat × RV) → Nat → RV → List (Nat × RV)
  | [], _, _ => []
  | (s, y) :: r, t, x => if s = t then (s, x) :: r else (s, y) :: setfr r t x

def countQ (P : Program) (rd : Option Nat) (t : Nat) (J : Nat → List AObj → Prop) (fr : List (Nat × RV)) (i : Nat) (k : List Fr) (Q : AE → AS → Prop) : AE → AS → Prop
  | .normal, σ => σ.fr = setfr fr t (.v (.i .i64 ((i + 1 : Nat) : Int))) ∧ J (i + 1) σ.hp
  | .exit id, σ => leave P rd (.exit id) k Q σ
  | .ret, σ => leave P rd .ret k Q σ
def exitQ (P : Program) (rd : Option Nat) (k : List Fr) (Q : AE → AS → Prop) : AE → AS → Prop
  | .normal, _ => False
  | .exit id, σ => leave P rd (.exit id) k Q σ
  | .ret, σ => leave P rd .ret k Q σ
section
variable (P : Program) (rd : Option Nat) (k : List Fr) (Q : AE → AS → Prop) (σ : AS)
@[simp] theorem exitQ_normal : exitQ P rd k Q .normal σ = False := rfl
@[simp] theorem exitQ_exit (id : Nat) : exitQ P rd k Q (.exit id) σ = leave P rd (.exit id) k Q σ := rfl
@[simp] theorem exitQ_ret : exitQ P rd k Q .ret σ = leave P rd .ret k Q σ := rfl
end
section
variable (P : Program) (rd : Option Nat) (t : Nat) (J : Nat → List AObj → Prop) (fr : List (Nat × RV)) (i : Nat) (k : List Fr) (Q : AE → AS → Prop) (σ : AS)
@[simp] theorem countQ_normal : countQ P rd t J fr i k Q .normal σ = (σ.fr = setfr fr t (.v (.i .i64 ((i + 1 : Nat) : Int))) ∧ J (i + 1) σ.hp) := rfl
@[simp] theorem countQ_exit (id : Nat) : countQ P rd t J fr i k Q (.exit id) σ = leave P rd (.exit id) k Q σ := rfl
@[simp] theorem countQ_ret : countQ P rd t J fr i k Q .ret σ = leave P rd .ret k Q σ := rfl
end

theorem go_count {P : Program} (hmx : P.follows .mixedOrders = true) {rd : Option Nat} {c : ACode} {k : List Fr} {Q : AE → AS → Prop} {σ : AS} (t i0 n : Nat) (J : Nat → List AObj → Prop) (hi0 : i0 ≤ n) (hn : n < 9223372036854775807) (h0 : σ.fr = setfr σ.fr t (.v (.i .i64 (i0 : Int)))) (hJ : J i0 σ.hp)
    (body : ∀ i hp, i0 ≤ i → i < n → J i hp → IntKind.i64.wrap ((i : Int) + 1) = (i : Int) + 1 → go P rd c [] (countQ P rd t J σ.fr i k Q) ⟨setfr σ.fr t (.v (.i .i64 (i : Int))), hp⟩)
    (done : ∀ hp, J n hp → go P rd c [] (exitQ P rd k Q) ⟨setfr σ.fr t (.v (.i .i64 (n : Int))), hp⟩) : goL P rd c k Q σ := by
  refine go_rounds hmx (fun i σ' => i0 ≤ i ∧ i ≤ n ∧ σ'.fr = setfr σ.fr t (.v (.i .i64 (i : Int))) ∧ J i σ'.hp) (fun i => n - i) i0 ⟨Nat.le_refl _, hi0, h0, hJ⟩ ?_
  rintro i ⟨fr, hp⟩ ⟨hi1, hi, hfr, hj⟩
  simp only at hfr hj
  subst hfr
  have mono : ∀ (A B : AE → AS → Prop), (∀ e σ', A e σ' → B e σ') → ∀ σ', go P rd c [] A σ' → go P rd c [] B σ' := fun A B h σ' hg => by
    rw [← go_start] at hg ⊢
    exact wpA_mono c h hg
  by_cases hlt : i < n
  · refine mono _ _ ?_ _ (body i hp hi1 hlt hj (by rw [wrap_in (by omega) (by omega)]))
    intro e σ' h
    cases e with
    | normal => exact ⟨i + 1, ⟨by omega, by omega, h.1, h.2⟩, by show n - (i + 1) < n - i; omega⟩
    | exit id => exact h
    | ret => exact h
  · obtain rfl : i = n := by omega
    refine mono _ _ ?_ _ (done hp hj)
    intro e σ' h
    cases e with
    | normal => exact h.elim
    | exit id => exact h
    | ret => exact h

/-! ### Calls -/
section
variable {P : Program} {rd : Option Nat} {k : List Fr} {Q : AE → AS → Prop} {σ : AS} {d : Option Nat} {m : Nat} {os : List AO} {f : AX} {args : List AX} {fid : Nat} {caps : Caps} {xs : List AV} {r : AV} {G : Bool} {j : Nat} {want : Bool}

theorem callk (hf : fnv (ax σ.fr f) = some (fid, caps)) (hc : ∀ vs w, (callFunc fid vs).run P w = .ok (.enter fid vs) w) (h : PureS P fid xs r) (hx : capd caps (args.map (ax σ.fr)) = xs.map .v)
    (kk : goR P rd os k Q ⟨upd σ.fr d (.v r), σ.hp⟩) : goC P rd none f args d os k Q σ := by
  simp only [goC, CallK, hf]
  exact ⟨hc, by rw [hx]; exact (h.frame σ.hp).mono fun r' H' ⟨h1, h2⟩ => by subst h1; subst h2; exact kk⟩

theorem callkg (hf : fnv (ax σ.fr f) = some (fid, caps)) (hc : ∀ vs w, (callFunc fid vs).run P w = .ok (.enter fid vs) w) (hg : gval (lk σ.fr j) want = some G) (h : G = true → PureS P fid xs r) (ho : G = true → obls σ.fr args)
    (hx : capd caps (args.map fun x => opn (ax σ.fr x)) = xs.map .v) (kk : goR P rd os k Q ⟨upd σ.fr d (.cnd G (.v r)), σ.hp⟩) : goC P rd (some (j, want)) f args d os k Q σ := by
  simp only [goC, CallK, hf, hg]
  exact ⟨hc, r, fun hG => ⟨ho hG, by rw [hx]; exact (h hG).frame σ.hp⟩, kk⟩

theorem callq (hf : fnv (ax σ.fr f) = some (fid, caps)) (hc : ∀ vs w, (callFunc fid vs).run P w = .ok (.enter fid vs) w) (h : PureS P fid xs r) (hx : capd caps (args.map (ax σ.fr)) = xs.map .v)
    (kk : goD P rd m os k Q ⟨upd σ.fr d (.v r), σ.hp⟩) : goCD P rd none f args d m os k Q σ := by
  simp only [goCD, evQ, hf]
  exact ⟨hc, r, ⟨xs, hx, h⟩, kk⟩

theorem callqg (hf : fnv (ax σ.fr f) = some (fid, caps)) (hc : ∀ vs w, (callFunc fid vs).run P w = .ok (.enter fid vs) w) (hg : gval (lk σ.fr j) want = some G) (h : G = true → PureS P fid xs r) (ho : G = true → obls σ.fr args)
    (hx : capd caps (args.map fun x => opn (ax σ.fr x)) = xs.map .v) (kk : goD P rd m os k Q ⟨upd σ.fr d (.cnd G (.v r)), σ.hp⟩) : goCD P rd (some (j, want)) f args d m os k Q σ := by
  simp only [goCD, evQ, hf, hg]
  exact ⟨hc, r, fun hG => ⟨ho hG, xs, hx, h hG⟩, kk⟩

theorem callm {ys : List RV} {H : List AObj} {R : RV → List AObj → Prop} (hf : fnv (ax σ.fr f) = some (fid, caps)) (hc : ∀ vs w, (callFunc fid vs).run P w = .ok (.enter fid vs) w) (h : CallS P fid ys H R) (hx : capd caps (args.map (ax σ.fr)) = ys) (hH : σ.hp = H)
    (kk : ∀ r H', R r H' → goR P rd os k Q ⟨upd σ.fr d r, H'⟩) : goC P rd none f args d os k Q σ := by
  simp only [goC, CallK, hf]
  subst hx; subst hH
  exact ⟨hc, h.mono kk⟩

theorem calll {ys : List RV} (hf : fnv (ax σ.fr f) = some (fid, caps)) (hc : ∀ vs w, (callFunc fid vs).run P w = .ok (.enter fid vs) w) (h : PureS P fid xs r) (hr : Flat r) (hx : capd caps (args.map (ax σ.fr)) = ys) (hl : ys.length = xs.length) (hz : ∀ (j : Nat) x y, ys[j]? = some x → xs[j]? = some y → Frz σ.hp x y)
    (kk : goR P rd os k Q ⟨upd σ.fr d (.v r), σ.hp⟩) : goC P rd none f args d os k Q σ := by
  simp only [goC, CallK, hf]
  subst hx
  exact ⟨hc, (lend h hr hl hz).mono fun r' H' ⟨h1, h2⟩ => by subst h1; subst h2; exact kk⟩
end

section
variable {P : Program} {rd : Option Nat} {k : List Fr} {Q : AE → AS → Prop} {σ : AS} {d : Option Nat} {m : Nat} {os : List AO} {f : AX} {args : List AX} {fid : Nat} {caps : Caps} {xs : List AV} {r : AV} {G : Bool} {j : Nat} {want : Bool} {l : List (List (Nat × RV) × AO × RV)} {ls : List Nat} {idx : Nat}
theorem callks (hf : fnv (ax σ.fr f) = some (fid, caps)) (hc : ∀ vs w, (callFunc fid vs).run P w = .ok (.enter fid vs) w) (h : PureS P fid xs r) (hx : capd caps (args.map (ax σ.fr)) = xs.map .v)
    (kk : goS P rd l os k Q ⟨upd σ.fr d (.v r), σ.hp⟩) : goCS P rd l none f args d os k Q σ := by
  simp only [goCS, CallK, hf]
  exact ⟨hc, by rw [hx]; exact (h.frame σ.hp).mono fun r' H' ⟨h1, h2⟩ => by subst h1; subst h2; exact ⟨.inl rfl, kk⟩⟩
theorem callksg (hf : fnv (ax σ.fr f) = some (fid, caps)) (hc : ∀ vs w, (callFunc fid vs).run P w = .ok (.enter fid vs) w) (hg : gval (lk σ.fr j) want = some G) (h : G = true → PureS P fid xs r) (ho : G = true → obls σ.fr args)
    (hx : capd caps (args.map fun x => opn (ax σ.fr x)) = xs.map .v) (kk : goS P rd l os k Q ⟨upd σ.fr d (.cnd G (.v r)), σ.hp⟩) : goCS P rd l (some (j, want)) f args d os k Q σ := by
  simp only [goCS, CallK, hf, hg]
  exact ⟨hc, r, fun hG => ⟨ho hG, by rw [hx]; exact (h hG).frame σ.hp⟩, .inl trivial, kk⟩
end

theorem vrows_length (l : List (List AV)) : (vrows l).length = l.length := by simp [vrows]
theorem vrows_get (l : List (List AV)) (i : Nat) : (vrows l)[i]? = (l[i]?).map fun r => r.map .v := by simp [vrows]
theorem vrows_app (l m : List (List AV)) : vrows l ++ vrows m = vrows (l ++ m) := by simp [vrows]
theorem vrows_one (r : List AV) : [r.map RV.v] = vrows [r] := rfl
theorem vrows_nil : vrows [] = [] := rfl

theorem vrows_snoc {α : Type} {f : α → List AV} {xs : List α} {i : Nat} {r : List RV} (h : i < xs.length) (hr : r = (f xs[i]).map .v) : vrows (List.take i (xs.map f)) ++ [r] = vrows (List.take (i + 1) (xs.map f)) := by
  subst hr
  rw [vrows_one, vrows_app, List.take_add_one, List.getElem?_map, List.getElem?_eq_getElem h]
  rfl

@[simp] theorem dead_some (G : Bool) (ob C : Prop) (r : RV) : dead G ob (some (C, r)) = (G = true → ob ∧ C, .cnd G r) := rfl
@[simp] theorem dead_none (G : Bool) (ob : Prop) : dead G ob none = (G = false, .cnd G (.v (.b false))) := rfl
attribute [simp] vrows_length vrows_get vrows_app plainr plainR plainr_map plainR_app plainR_vrows evG setfr evo evPk evPick gval opn obl obls AOp.xs evq evm ax lk upd zipA evBin binI binS evUn evEqg evEqb evPart evIdx evSidx evExt evNck evIsn evMkf evFa evIaa evIas evLenS evLenL evLen evSls evSlp evLd evBld evB2s evSt evMks evApp evClr clrRows rowsX
  evRes evRes1 retQ fnv capd evMx toV aggV bnd rcells fillA putAll repl chunk eqA eqA1 fitA fitA1 junk_get0 junk_get junk_set0 junk_set

theorem fun_go {pf : Bool} {P : Program} {f : Nat} {fn : Func} {c : ACode} {rs : List ARes} {args : List RV} {H : List AObj} {R : RV → List AObj → Prop} (hmx : P.follows .mixedOrders = true) (hf : P.funcs[f]? = some fn) (hc : (fn.body.bind (resCX pf P fn.ntmps)) = some (strip c))
    (hr : fn.results.toList.mapM (resRes P) = some rs) (hn : args.length ≤ fn.ntmps)
    (h : go P none c [] (retQ rs R) ⟨zipA 0 args, H⟩) : CallS P f args H R := fun_at hmx hf hc hr hn (by rw [go_start]; exact h)
end Go.Av
/- Names of objects changed about: what is told of memory may be told under other names, and of less. No condition. -/
set_option linter.constructorNameAsVariable false
namespace Go.Av
open Go Go.RowKit
set_option linter.unusedSimpArgs false
set_option linter.unusedVariables false

@[simp] theorem renL_v (f : Nat → Nat) (l : List AV) : renL f (l.map .v) = l.map .v := by
  rw [renL_map, List.map_map]; congr 1
@[simp] theorem domL_v (p : Nat → Prop) (l : List AV) : domL p (l.map .v) := by
  rw [domL_mem]; intro x hx; obtain ⟨a, _, rfl⟩ := List.mem_map.1 hx; simp [RV.dom]
@[simp] theorem rows_ren (f : Nat → Nat) (l : List (List AV)) : (vrows l).map (renL f) = vrows l := by
  simp [vrows, Function.comp_def]
theorem rows_dom (p : Nat → Prop) (l : List (List AV)) : (∀ row ∈ vrows l, domL p row) := by
  intro row h
  simp only [vrows, List.mem_map] at h
  obtain ⟨a, _, rfl⟩ := h
  exact domL_v p a

@[simp] theorem dom_none (p : Nat → Prop) : AObj.dom p .none ↔ True := by simp [AObj.dom]
@[simp] theorem dom_var (p : Nat → Prop) (cs : List RV) : AObj.dom p (.var cs) ↔ domL p cs := by simp [AObj.dom]
def rowsDom (p : Nat → Prop) (rows : List (List RV)) : Prop := ∀ row ∈ rows, domL p row
@[simp] theorem rowsDom_nil (p : Nat → Prop) : rowsDom p [] ↔ True := by simp [rowsDom]
@[simp] theorem rowsDom_cons (p : Nat → Prop) (r : List RV) (rs : List (List RV)) : rowsDom p (r :: rs) ↔ domL p r ∧ rowsDom p rs := by simp [rowsDom]
@[simp] theorem rowsDom_append (p : Nat → Prop) (rs ss : List (List RV)) : rowsDom p (rs ++ ss) ↔ rowsDom p rs ∧ rowsDom p ss := by
  simp only [rowsDom, List.mem_append]
  exact ⟨fun h => ⟨fun r hr => h r (.inl hr), fun r hr => h r (.inr hr)⟩, fun h r hr => hr.elim (h.1 r) (h.2 r)⟩
@[simp] theorem rowsDom_vrows (p : Nat → Prop) (l : List (List AV)) : rowsDom p (vrows l) ↔ True := by simp [rowsDom, rows_dom p l]; exact rows_dom p l
@[simp] theorem dom_arr (p : Nat → Prop) (v sz : Nat) (rows : List (List RV)) : AObj.dom p (.arr v sz rows) ↔ rowsDom p rows := by simp [AObj.dom, rowsDom]

theorem cut_ok {e0 e : Env} (g : Good e) (mv : Mv e0 e) {n : Nat} (hn : e0.H.length ≤ n) (hl : lowH n (e.H.take n)) :
    Good ⟨e.w, e.Im, e.ρ.take n, e.H.take n⟩ ∧ Mv e0 ⟨e.w, e.Im, e.ρ.take n, e.H.take n⟩ ∧ ∀ x c, VR e x c → RV.dom (· < n) x → VR ⟨e.w, e.Im, e.ρ.take n, e.H.take n⟩ x c := by
  have hd : ∀ o ob, o < n → e.H[o]? = some ob → ob.dom (· < n) := fun o ob ho h => hl ob (by
    have : (e.H.take n)[o]? = some ob := by rw [List.getElem?_take, if_pos ho]; exact h
    exact List.mem_of_getElem? this)
  have := view_ok g mv id (· < n) (e.H.take n) (e.ρ.take n) (by simp [g.len]) (fun o ob ho h => by
      rw [AObj.ren_id (f := id) (p := (· < n)) (fun _ _ => rfl) (hd o ob ho h)]
      simp only [id]
      rw [List.getElem?_take, if_pos ho]; exact h)
    (fun o lo ho h => by simp only [id]; rw [List.getElem?_take, if_pos ho]; exact h)
    (fun k ob lo h1 h2 => by
      rw [List.getElem?_take] at h1 h2
      split at h1
      · rename_i hk
        rw [if_pos hk] at h2
        exact ⟨k, ob, hk, rfl, h1, (AObj.ren_id (f := id) (p := (· < n)) (fun _ _ => rfl) (hd k ob hk h1)).symm, hd k ob hk h1, h2⟩
      · cases h1)
    (fun o ho => ⟨by omega, rfl⟩)
  refine ⟨this.1, this.2.1, fun x c hx hp => ?_⟩
  have h2 := this.2.2 x c hx hp
  rwa [ren_id (f := id) (p := (· < n)) (fun _ _ => rfl) hp] at h2

theorem CallS.cut {P : Program} {f : Nat} {args : List RV} {H : List AObj} {R : RV → List AObj → Prop} (n : Nat) (hn : H.length ≤ n) (h : CallS P f args H fun r H' => RV.dom (· < n) r ∧ lowH n (H'.take n) ∧ R r (H'.take n)) : CallS P f args H R := by
  intro e vs g tb hH hv hr
  refine (h e vs g tb hH hv hr).mono fun E w' ⟨c, e', r, h1, h2, g', mv, hvr, hd, hl, hR⟩ => ?_
  obtain ⟨k1, k2, k3⟩ := cut_ok g' mv (n := n) (by rw [hH]; exact hn) hl
  exact ⟨c, ⟨e'.w, e'.Im, e'.ρ.take n, e'.H.take n⟩, r, h1, h2, k1, k2, k3 r c hvr hd, hR⟩

theorem nodup_idx {S : List Nat} (nd : S.Nodup) {j o : Nat} (h : S[j]? = some o) : S.idxOf o = j := by
  obtain ⟨hj, rfl⟩ := List.getElem?_eq_some_iff.1 h
  exact List.Nodup.idxOf_getElem nd j hj

theorem CallS.sel {P : Program} {f : Nat} {args : List RV} {H : List AObj} {R : RV → List AObj → Prop} (S : List Nat) (nd : S.Nodup) (hS : ∀ o, o < H.length → S[o]? = some o)
    (h : CallS P f args H fun r H' => RV.dom (· ∈ S) r ∧ (∀ o ∈ S, o < H'.length ∧ ((H'[o]?).getD .none).dom (· ∈ S)) ∧ R (RV.ren (S.idxOf ·) r) (S.map fun o => ((H'[o]?).getD .none).ren (S.idxOf ·))) : CallS P f args H R := by
  intro e vs g tb hH hv hr
  refine (h e vs g tb hH hv hr).mono fun E w' ⟨c, e', r, h1, h2, g', mv, hvr, hd, hl, hR⟩ => ?_
  have hSg : ∀ o, o ∈ S → S[S.idxOf o]? = some o := fun o ho => by
    rw [List.getElem?_eq_some_iff]
    exact ⟨List.idxOf_lt_length_iff.2 ho, List.getElem_idxOf _⟩
  have := view_ok g' mv (S.idxOf ·) (· ∈ S) (S.map fun o => ((e'.H[o]?).getD .none).ren (S.idxOf ·)) (S.map fun o => (e'.ρ[o]?).getD none) (by simp)
    (fun o ob ho hob => by rw [List.getElem?_map, hSg o ho]; simp [hob])
    (fun o lo ho hlo => by rw [List.getElem?_map, hSg o ho]; simp [hlo])
    (fun k ob lo k1 k2 => by
      rw [List.getElem?_map, Option.map_eq_some_iff] at k1 k2
      obtain ⟨o, ho, rfl⟩ := k1
      obtain ⟨o', ho', rfl⟩ := k2
      rw [ho] at ho'; cases ho'
      have hm := List.mem_of_getElem? ho
      obtain ⟨m1, m2⟩ := hl o hm
      have e1 := List.getElem?_eq_getElem m1
      have m1' : o < e'.ρ.length := by rw [g'.len]; exact m1
      have e2 := List.getElem?_eq_getElem m1'
      rw [e1] at m2
      exact ⟨o, e'.H[o], hm, nodup_idx nd ho, e1, by rw [e1]; rfl, m2, by rw [e2]; rfl⟩)
    (fun o ho => by
      have := hS o (by rw [← hH]; exact ho)
      exact ⟨List.mem_of_getElem? this, nodup_idx nd this⟩)
  exact ⟨c, ⟨e'.w, e'.Im, S.map fun o => (e'.ρ[o]?).getD none, S.map fun o => ((e'.H[o]?).getD .none).ren (S.idxOf ·)⟩, _, h1, h2, this.1, this.2.1, this.2.2 r c hvr hd, hR⟩

def upN (π : List Nat) (L j : Nat) : Nat := (π[j]?).getD (L + (j - π.length))
def putP : List AObj → List Nat → List AObj → List AObj
  | H, o :: π, ob :: K => putP (H.set o ob) π K
  | H, _, _ => H
def putH (H : List AObj) (π : List Nat) (K : List AObj) : List AObj := putP H π (K.map fun ob => ob.ren (upN π H.length)) ++ (K.drop π.length).map fun ob => ob.ren (upN π H.length)

theorem putP_length : ∀ (π : List Nat) (H K : List AObj), (putP H π K).length = H.length
  | [], H, K => by simp [putP]
  | o :: π, H, [] => by simp [putP]
  | o :: π, H, ob :: K => by simp [putP, putP_length π]
theorem putP_out : ∀ (π : List Nat) (H K : List AObj) (o : Nat), o ∉ π → (putP H π K)[o]? = H[o]?
  | [], H, K, o, _ => by simp [putP]
  | o' :: π, H, [], o, _ => by simp [putP]
  | o' :: π, H, ob :: K, o, h => by
    simp only [List.mem_cons, not_or] at h
    rw [putP, putP_out π _ K o h.2, List.getElem?_set_ne (fun hc => h.1 hc.symm)]
theorem putP_in : ∀ (π : List Nat) (H K : List AObj) (j o : Nat) (ob : AObj), π.Nodup → π[j]? = some o → K[j]? = some ob → o < H.length → (putP H π K)[o]? = some ob
  | [], H, K, j, o, ob, _, h, _, _ => by simp at h
  | o' :: π, H, [], j, o, ob, _, _, h, _ => by simp at h
  | o' :: π, H, ob' :: K, j, o, ob, nd, h1, h2, h3 => by
    rw [List.nodup_cons] at nd
    rw [putP]
    cases j with
    | zero =>
      simp at h1 h2; subst h1; subst h2
      rw [putP_out π _ K _ nd.1]; simp [h3]
    | succ j => exact putP_in π _ K j o ob nd.2 (by simpa using h1) (by simpa using h2) (by simpa using h3)

theorem CallS.among {P : Program} {f : Nat} {args : List RV} {H0 : List AObj} {R : RV → List AObj → Prop} (h : CallS P f args H0 R) (π : List Nat) (nd : π.Nodup) {H : List AObj} (hl : H0.length = π.length)
    (hH : ∀ (j o : Nat) (ob : AObj), π[j]? = some o → H0[j]? = some ob → ob.dom (· < π.length) ∧ H[o]? = some (ob.ren (upN π H.length))) (ha : domL (· < π.length) args) :
    CallS P f (renL (upN π H.length) args) H fun r' H' => ∃ r K, R r K ∧ r' = RV.ren (upN π H.length) r ∧ H' = putH H π K := by
  intro e vs g tb hHe hn hv
  subst hHe
  have hup : ∀ j o, π[j]? = some o → upN π e.H.length j = o := fun j o hj => by simp [upN, hj]
  have hlow : ∀ j, j < π.length → ∃ o, π[j]? = some o ∧ upN π e.H.length j = o ∧ π.idxOf o = j := fun j hj => by
    have := List.getElem?_eq_getElem hj
    exact ⟨_, this, hup _ _ this, nodup_idx nd this⟩
  have hinv : ∀ j, j < π.length → π.idxOf (upN π e.H.length j) = j := fun j hj => by
    obtain ⟨o, _, h2, h3⟩ := hlow j hj
    rw [h2, h3]
  have hmem : ∀ j, j < π.length → upN π e.H.length j ∈ π := fun j hj => by
    obtain ⟨o, h1, h2, _⟩ := hlow j hj
    rw [h2]; exact List.mem_of_getElem? h1
  have hρ : ∀ j o, π[j]? = some o → o < e.H.length := fun j o hj => by
    have hj' : j < H0.length := by rw [hl]; exact (List.getElem?_eq_some_iff.1 hj).1
    exact (List.getElem?_eq_some_iff.1 (hH j o _ hj (List.getElem?_eq_getElem hj')).2).1
  -- the callee's view
  let ρ0 : List (Option Loc) := π.map fun o => (e.ρ[o]?).getD none
  have hρ0 : ∀ (j o : Nat), π[j]? = some o → ∀ lo, ρ0[j]? = some lo ↔ e.ρ[o]? = some lo := fun j o hj lo => by
    have ho := hρ j o hj
    rw [← g.len] at ho
    have e2 := List.getElem?_eq_getElem ho
    simp only [ρ0, List.getElem?_map, hj, Option.map_some, e2, Option.getD_some]
  have conv : ∀ x c, VR e (RV.ren (upN π e.H.length) x) c → RV.dom (· < π.length) x → VR ⟨e.w, e.Im, ρ0, H0⟩ x c := fun x c hx hd => by
    have := VR.ren (e := e) (e' := ⟨e.w, e.Im, ρ0, H0⟩) (f := (π.idxOf ·)) (p := (· ∈ π)) (fun _ h => h) (fun _ _ => rfl) (fun o ob ho hob => by
        obtain ⟨j, hj, rfl⟩ := List.getElem_of_mem ho
        have hj1 := List.getElem?_eq_getElem hj
        have hj' : j < H0.length := by rw [hl]; exact hj
        obtain ⟨k1, k2⟩ := hH j _ _ hj1 (List.getElem?_eq_getElem hj')
        rw [hob] at k2; cases k2
        show H0[List.idxOf π[j] π]? = _
        rw [nodup_idx nd hj1, AObj.ren_back (p := (· < π.length)) hinv k1]
        exact List.getElem?_eq_getElem hj') (fun o lo ho hlo => by
        obtain ⟨j, hj, rfl⟩ := List.getElem_of_mem ho
        have hj1 := List.getElem?_eq_getElem hj
        show ρ0[List.idxOf π[j] π]? = _
        rw [nodup_idx nd hj1]
        exact (hρ0 j _ hj1 lo).2 hlo) hx (dom_ren (p := (· < π.length)) hmem hd)
    rwa [ren_back (p := (· < π.length)) hinv hd] at this
  have g0 : Good ⟨e.w, e.Im, ρ0, H0⟩ := by
    have back : ∀ k lo, ρ0[k]? = some lo → ∃ o, π[k]? = some o ∧ e.ρ[o]? = some lo := fun k lo hk => by
      have hkl : k < π.length := by have := (List.getElem?_eq_some_iff.1 hk).1; simpa [ρ0] using this
      have h1 := List.getElem?_eq_getElem hkl
      exact ⟨_, h1, (hρ0 k _ h1 lo).1 hk⟩
    refine ⟨by simp [ρ0, hl], ?_, ?_, ?_, g.imlt, ?_⟩
    · intro k k' l l' hk hk' hne
      obtain ⟨o, h1, h2⟩ := back k _ hk
      obtain ⟨o', h3, h4⟩ := back k' _ hk'
      refine g.inj o o' l l' h2 h4 (fun hc => hne ?_)
      subst hc
      rw [← nodup_idx nd h1, nodup_idx nd h3]
    · intro k l hk
      obtain ⟨o, _, h2⟩ := back k _ hk
      exact g.dis o l h2
    · intro k l hk
      obtain ⟨o, _, h2⟩ := back k _ hk
      exact g.lt o l h2
    · intro k ob lo hk hk'
      obtain ⟨o, h1, h2⟩ := back k _ hk'
      obtain ⟨d1, d2⟩ := hH k o ob h1 hk
      have := ObjR.ren (e := e) (e' := ⟨e.w, e.Im, ρ0, H0⟩) (f := (π.idxOf ·)) (p := (· ∈ π)) (fun _ _ => rfl) (fun x c hx hd => ?_) (g.obj o _ lo d2 h2) (AObj.dom_ren (p := (· < π.length)) hmem d1)
      · rwa [AObj.ren_back (p := (· < π.length)) hinv d1] at this
      · refine VR.ren (e := e) (e' := ⟨e.w, e.Im, ρ0, H0⟩) (fun _ h => h) (fun _ _ => rfl) (fun o ob ho hob => ?_) (fun o lo ho hlo => ?_) hx hd
        · obtain ⟨j, hj, rfl⟩ := List.getElem_of_mem ho
          have hj1 := List.getElem?_eq_getElem hj
          have hj' : j < H0.length := by rw [hl]; exact hj
          obtain ⟨k1, k2⟩ := hH j _ _ hj1 (List.getElem?_eq_getElem hj')
          rw [hob] at k2; cases k2
          show H0[List.idxOf π[j] π]? = _
          rw [nodup_idx nd hj1, AObj.ren_back (p := (· < π.length)) hinv k1]
          exact List.getElem?_eq_getElem hj'
        · obtain ⟨j, hj, rfl⟩ := List.getElem_of_mem ho
          have hj1 := List.getElem?_eq_getElem hj
          show ρ0[List.idxOf π[j] π]? = _
          rw [nodup_idx nd hj1]
          exact (hρ0 j _ hj1 lo).2 hlo
  have hva : ∀ (j : Nat) x y, args[j]? = some x → vs[j]? = some y → VR ⟨e.w, e.Im, ρ0, H0⟩ x y := fun j x y hx hy =>
    conv x y (hv j _ y (by rw [renL_map, List.getElem?_map, hx]; rfl) hy) (domL_get ha hx)
  refine (h ⟨e.w, e.Im, ρ0, H0⟩ vs g0 (tb.more fun b hb => hb) rfl (by simpa using hn) hva).mono ?_
  rintro E w' ⟨c, e', r, hE, rfl, g', mv, hr, hR⟩
  -- back at the caller's
  have hm : π.length ≤ e'.H.length := by
    apply Nat.le_of_not_lt
    intro hc
    have hj : e'.H.length < H0.length := by omega
    have hj2 : e'.H.length < ρ0.length := by simp [ρ0]; omega
    obtain ⟨ob', _, h1, _⟩ := mv.nx e'.H.length _ _ (List.getElem?_eq_getElem hj) (List.getElem?_eq_getElem hj2)
    have := (List.getElem?_eq_some_iff.1 h1).1; omega
  let up := upN π e.H.length
  have hup2 : ∀ j, π.length ≤ j → up j = e.H.length + (j - π.length) := fun j hj => by simp [up, upN, List.getElem?_eq_none hj]
  let ρ' : List (Option Loc) := (List.range e.ρ.length).map (fun o => if o ∈ π then (e'.ρ[π.idxOf o]?).getD none else (e.ρ[o]?).getD none) ++ e'.ρ.drop π.length
  let H' := putH e.H π e'.H
  have hHlen : H'.length = e.H.length + (e'.H.length - π.length) := by simp [H', putH, putP_length]
  have hρlen : ρ'.length = H'.length := by rw [hHlen]; simp [ρ', g.len, g'.len]
  -- what stands where
  have outH : ∀ o ob, o ∉ π → e.H[o]? = some ob → H'[o]? = some ob := fun o ob ho hob => by
    have hlt := (List.getElem?_eq_some_iff.1 hob).1
    simp only [H', putH]
    rw [List.getElem?_append_left (by rw [putP_length]; exact hlt), putP_out _ _ _ _ ho]; exact hob
  have outρ : ∀ o lo, o ∉ π → e.ρ[o]? = some lo → ρ'[o]? = some lo := fun o lo ho hlo => by
    have hlt := (List.getElem?_eq_some_iff.1 hlo).1
    simp only [ρ']
    rw [List.getElem?_append_left (by simpa using hlt)]
    simp [hlt, ho]
    exact (List.getElem?_eq_some_iff.1 hlo).2
  have inH : ∀ j ob, e'.H[j]? = some ob → H'[up j]? = some (ob.ren up) := fun j ob hob => by
    by_cases hj : j < π.length
    · obtain ⟨o, h1, h2, _⟩ := hlow j hj
      have ho := hρ j o h1
      simp only [H', putH, up]
      rw [h2, List.getElem?_append_left (by rw [putP_length]; exact ho)]
      exact putP_in π _ _ j o _ nd h1 (by rw [List.getElem?_map, hob]; rfl) ho
    · rw [hup2 j (by omega)]
      simp only [H', putH]
      rw [List.getElem?_append_right (by rw [putP_length]; omega), putP_length, List.getElem?_map, List.getElem?_drop, show e.H.length + (j - π.length) - e.H.length = j - π.length by omega, show π.length + (j - π.length) = j by omega, hob]
      rfl
  have inρ : ∀ j lo, e'.ρ[j]? = some lo → ρ'[up j]? = some lo := fun j lo hlo => by
    by_cases hj : j < π.length
    · obtain ⟨o, h1, h2, h3⟩ := hlow j hj
      have ho := hρ j o h1
      rw [← g.len] at ho
      simp only [ρ', up]
      rw [h2, List.getElem?_append_left (by simpa using ho)]
      simp [ho, List.mem_of_getElem? h1, h3, hlo]
    · rw [hup2 j (by omega)]
      simp only [ρ']
      rw [List.getElem?_append_right (by simp [g.len]), List.getElem?_drop]
      simp only [List.length_map, List.length_range, g.len]
      rw [show e.H.length + (j - π.length) - e.H.length = j - π.length by omega, show π.length + (j - π.length) = j by omega]
      exact hlo
  have cases' : ∀ k ob lo, H'[k]? = some ob → ρ'[k]? = some lo → (k ∉ π ∧ e.H[k]? = some ob ∧ e.ρ[k]? = some lo) ∨ (∃ j ob0, up j = k ∧ e'.H[j]? = some ob0 ∧ ob = ob0.ren up ∧ e'.ρ[j]? = some lo) := fun k ob lo hk hk' => by
    have hkl : k < H'.length := (List.getElem?_eq_some_iff.1 hk).1
    have fromj : ∀ j, j < e'.H.length → up j = k → (∃ j ob0, up j = k ∧ e'.H[j]? = some ob0 ∧ ob = ob0.ren up ∧ e'.ρ[j]? = some lo) := fun j hj hjk => by
      have a1 := List.getElem?_eq_getElem hj
      have hj2 : j < e'.ρ.length := by rw [g'.len]; exact hj
      have a2 := List.getElem?_eq_getElem hj2
      have b1 := inH j _ a1
      have b2 := inρ j _ a2
      rw [hjk, hk] at b1
      rw [hjk, hk'] at b2
      cases b1; cases b2
      exact ⟨j, _, hjk, a1, rfl, a2⟩
    by_cases hlt : k < e.H.length
    · by_cases hmem : k ∈ π
      · obtain ⟨j, hj, rfl⟩ := List.getElem_of_mem hmem
        exact .inr (fromj j (by omega) (hup j _ (List.getElem?_eq_getElem hj)))
      · have a1 := List.getElem?_eq_getElem hlt
        have hlt2 : k < e.ρ.length := by rw [g.len]; exact hlt
        have a2 := List.getElem?_eq_getElem hlt2
        have b1 := outH k _ hmem a1
        have b2 := outρ k _ hmem a2
        rw [hk] at b1; rw [hk'] at b2
        cases b1; cases b2
        exact .inl ⟨hmem, a1, a2⟩
    · refine .inr (fromj (π.length + (k - e.H.length)) (by omega) ?_)
      rw [hup2 _ (by omega)]; omega
  have own0 : ∀ b, Env.own ⟨e.w, e.Im, ρ0, H0⟩ b → e.own b := fun b ⟨j, l, hj, hb⟩ => by
    have hjl : j < π.length := by have := (List.getElem?_eq_some_iff.1 hj).1; simpa [ρ0] using this
    have h1 := List.getElem?_eq_getElem hjl
    exact ⟨_, l, (hρ0 j _ h1 _).1 hj, hb⟩
  have notown : ∀ o l, o ∉ π → e.ρ[o]? = some (some l) → ¬ Env.own ⟨e.w, e.Im, ρ0, H0⟩ l.blk := fun o l ho hol ⟨j, l', hj, hb⟩ => by
    have hjl : j < π.length := by have := (List.getElem?_eq_some_iff.1 hj).1; simpa [ρ0] using this
    have h1 := List.getElem?_eq_getElem hjl
    exact g.inj _ _ _ _ ((hρ0 j _ h1 _).1 hj) hol (fun hc => ho (hc ▸ List.getElem_mem hjl)) hb
  have mv' : Mv e ⟨e'.w, e'.Im, ρ', H'⟩ := by
    refine ⟨mv.os, mv.tape, mv.output, mv.size, fun b hb ho => mv.same b hb (fun hc => ho (own0 b hc)), mv.im, mv.imw, fun b hb => ?_, ?_, ?_⟩
    · rcases mv.imn b hb with h1 | h1 | h1
      · exact .inl h1
      · exact .inr (.inl (own0 b h1))
      · exact .inr (.inr h1)
    · intro o ob lo h1 h2
      by_cases ho : o ∈ π
      · obtain ⟨j, hj, rfl⟩ := List.getElem_of_mem ho
        have hj1 := List.getElem?_eq_getElem hj
        have hj' : j < H0.length := by rw [hl]; exact hj
        obtain ⟨_, k2⟩ := hH j _ _ hj1 (List.getElem?_eq_getElem hj')
        obtain ⟨ob', lo', a1, a2, a3⟩ := mv.nx j _ _ (List.getElem?_eq_getElem hj') ((hρ0 j _ hj1 _).2 h2)
        have b1 := inH j _ a1
        have b2 := inρ j _ a2
        have hu : up j = π[j] := hup j _ hj1
        rw [hu] at b1 b2
        rw [h1] at k2; cases k2
        refine ⟨_, _, b1, b2, ?_⟩
        have a4 := a3.ren (f := up)
        generalize H0[j] = x at a4
        cases ob' with
        | none => trivial
        | var cs => obtain ⟨q1, cs', rfl⟩ := a4; exact ⟨q1, _, rfl⟩
        | xo kk cs => obtain ⟨q1, k', cs', rfl, q2⟩ := a4; exact ⟨q1, _, _, rfl, q2⟩
        | buf t bv bl => obtain ⟨v0, l0, rfl, q⟩ := a4; exact ⟨v0, l0, rfl, q⟩
        | arr v sz rows =>
          obtain ⟨v0, sz0, rows0, rfl, q⟩ := a4
          exact ⟨v0, sz0, rows0.map (renL (upN π e.H.length)), rfl, by simpa using q⟩
      · exact ⟨ob, lo, outH o ob ho h1, outρ o lo ho h2, .refl _ _⟩
    · rintro b ⟨k, l, hk, rfl⟩
      have hkl : k < H'.length := by rw [← hρlen]; exact (List.getElem?_eq_some_iff.1 hk).1
      rcases cases' k _ _ (List.getElem?_eq_getElem hkl) hk with ⟨_, _, h2⟩ | ⟨j, _, _, _, _, h2⟩
      · exact .inl ⟨k, l, h2, rfl⟩
      · rcases mv.ownn l.blk ⟨j, l, h2, rfl⟩ with h3 | h3
        · exact .inl (own0 _ h3)
        · exact .inr h3
  have conv' : ∀ x c, VR e' x c → VR ⟨e'.w, e'.Im, ρ', H'⟩ (RV.ren up x) c := fun x c hx =>
    VR.renA (e := e') (e' := ⟨e'.w, e'.Im, ρ', H'⟩) (fun _ h => h) (fun _ _ => rfl) (fun o ob h => inH o ob h) (fun o lo h => inρ o lo h) hx
  have disj : ∀ o l, o ∉ π → e.ρ[o]? = some (some l) → e'.w.heap[l.blk]? = e.w.heap[l.blk]? := fun o l ho hol => mv.same _ (g.lt o l hol) (notown o l ho hol)
  have g2 : Good ⟨e'.w, e'.Im, ρ', H'⟩ := by
    have hk : ∀ k l, ρ'[k]? = some (some l) → (k ∉ π ∧ e.ρ[k]? = some (some l)) ∨ (∃ j, up j = k ∧ e'.ρ[j]? = some (some l)) := fun k l hk => by
      have hkl : k < H'.length := by rw [← hρlen]; exact (List.getElem?_eq_some_iff.1 hk).1
      rcases cases' k _ _ (List.getElem?_eq_getElem hkl) hk with ⟨h1, _, h2⟩ | ⟨j, _, h1, _, _, h2⟩
      · exact .inl ⟨h1, h2⟩
      · exact .inr ⟨j, h1, h2⟩
    have apart : ∀ (o : Nat) (l : Loc) (j : Nat) (l' : Loc), o ∉ π → e.ρ[o]? = some (some l) → e'.ρ[j]? = some (some l') → l.blk ≠ l'.blk := fun o l j l' ho hol hj hc => by
      rcases mv.ownn l'.blk ⟨j, l', hj, rfl⟩ with h1 | h1
      · exact notown o l ho hol (hc ▸ h1)
      · have h2 := g.lt o l hol
        have h3 : e.w.heap.size ≤ l'.blk := h1
        omega
    refine ⟨hρlen, ?_, ?_, ?_, g'.imlt, ?_⟩
    · intro k k' l l' h1 h2 hne
      rcases hk k l h1 with ⟨a1, a2⟩ | ⟨j, a1, a2⟩ <;> rcases hk k' l' h2 with ⟨b1, b2⟩ | ⟨j', b1, b2⟩
      · exact g.inj k k' l l' a2 b2 hne
      · exact apart k l j' l' a1 a2 b2
      · exact fun hc => apart k' l' j l b1 b2 a2 hc.symm
      · exact g'.inj j j' l l' a2 b2 (fun hc => hne (by rw [← a1, ← b1, hc]))
    · intro k l h1 hi
      rcases hk k l h1 with ⟨a1, a2⟩ | ⟨j, a1, a2⟩
      · rcases mv.imn _ hi with h3 | h3 | h3
        · exact g.dis k l a2 h3
        · exact notown k l a1 a2 h3
        · have h4 := g.lt k l a2
          have h5 : e.w.heap.size ≤ l.blk := h3
          omega
      · exact g'.dis j l a2 hi
    · intro k l h1
      rcases hk k l h1 with ⟨a1, a2⟩ | ⟨j, a1, a2⟩
      · exact Nat.lt_of_lt_of_le (g.lt k l a2) mv.size
      · exact g'.lt j l a2
    · intro k ob lo h1 h2
      rcases cases' k ob lo h1 h2 with ⟨a1, a2, a3⟩ | ⟨j, ob0, a1, a2, rfl, a3⟩
      · exact (g.obj k ob lo a2 a3).keep (fun l hl => disj k l a1 (by rw [a3, hl])) mv'
      · exact ObjR.renA (e := e') (e' := ⟨e'.w, e'.Im, ρ', H'⟩) (fun _ _ => rfl) (fun x c hx => conv' x c hx) (g'.obj j ob0 lo a2 a3)
  exact ⟨c, ⟨e'.w, e'.Im, ρ', H'⟩, _, hE, rfl, g2, mv', conv' r c hr, r, e'.H, hR, rfl, rfl⟩
end Go.Av
