/- ProgForms: Form, Local and Visible of the program tell of every operation what the document's answers tell. No condition: for all integers a and b. -/
import Derived.Test.YtdjcfjfgdblefaaPProgFormsx3
namespace Go.Proofs.Ytdjcfjfgdblefaa.Pure
open Go.RowKit Go.Proofs.Ytdjcfjfgdblefaa.PProgForms Go.Proofs.YtdjcfjfgdblefaaW.PrintWords Go.Proofs.YtdjcfjfgdblefaaW.PrintLast

theorem local_same (a : Int) : prog_Local.f a = scarabref03_Local.f a := rfl
theorem visible_same (a : Int) : prog_Visible.f a = scarabref03_Visible.f a := rfl
theorem local_some (a : Int) : ∃ b, scarabref03_Local.f a = some b := by
  unfold scarabref03_Local.f; repeat' split
  all_goals exact ⟨_, rfl⟩
theorem visible_some (a : Int) : ∃ b, scarabref03_Visible.f a = some b := by
  unfold scarabref03_Visible.f; repeat' split
  all_goals exact ⟨_, rfl⟩

theorem form_small : ∀ n : Fin 66, ((prog_Form.f 9 (n.val : Int)).map fun s => s.data.toList) = ((scarabref03_Form.f 9 (n.val : Int)).map fun s => s.data.toList) ∧ (prog_Form.f 9 (n.val : Int)).isSome = true := by decide +kernel

theorem form_any (k : Nat) (a : Int) : ∃ s t, prog_Form.f (k + 9) a = some s ∧ scarabref03_Form.f (k + 9) a = some t ∧ s.toList = t.toList := by
  have hm : ∀ j, LeO (prog_Form.f j a) (prog_Form.f (j + 1) a) := prog_Form.mono a
  have hm' : ∀ j, LeO (scarabref03_Form.f j a) (scarabref03_Form.f (j + 1) a) := scarabref03_Form.mono a
  have up : ∀ j r, prog_Form.f 9 a = some r → prog_Form.f (j + 9) a = some r := by
    intro j; induction j with
    | zero => intro r h; simpa using h
    | succ j ih => intro r h; have := hm _ r (ih r h); rw [show j + 1 + 9 = j + 9 + 1 by omega]; exact this
  have up' : ∀ j r, scarabref03_Form.f 9 a = some r → scarabref03_Form.f (j + 9) a = some r := by
    intro j; induction j with
    | zero => intro r h; simpa using h
    | succ j ih => intro r h; have := hm' _ r (ih r h); rw [show j + 1 + 9 = j + 9 + 1 by omega]; exact this
  suffices h : ∃ s t, prog_Form.f 9 a = some s ∧ scarabref03_Form.f 9 a = some t ∧ s.toList = t.toList by
    obtain ⟨s, t, h1, h2, h3⟩ := h
    exact ⟨s, t, up k s h1, up' k t h2, h3⟩
  by_cases h : 1 ≤ a ∧ a ≤ 65
  · obtain ⟨n, rfl⟩ : ∃ n : Fin 66, a = (n.val : Int) := ⟨⟨a.toNat, by omega⟩, by simp; omega⟩
    obtain ⟨h1, h2⟩ := form_small n
    obtain ⟨s, hs⟩ := Option.isSome_iff_exists.1 h2
    rw [hs] at h1
    cases ht : scarabref03_Form.f 9 (n.val : Int) with
    | none => rw [ht] at h1; cases h1
    | some t =>
      rw [ht] at h1
      have e : s.data.toList = t.data.toList := by simpa using h1
      have e2 : s = t := by
        cases s; cases t; congr 1; exact Array.ext' e
      exact ⟨s, t, hs, rfl, by rw [e2]⟩
  · refine ⟨⟨#[]⟩, ⟨#[]⟩, ?_, ?_, rfl⟩
    · simp only [prog_Form.f, prog_Form.j0, prog_Form.j1, prog_Form.j2, prog_Form.j3, prog_Form.j4]
      by_cases h1 : a ≥ 1
      · have e0 : decide (a ≤ 15) = false := by simp; omega
        rw [if_pos h1, e0, if_neg (by simp), if_pos (by omega), if_neg (by omega)]
        repeat rw [if_neg (by first | omega | (simp; omega))]
      · rw [if_neg h1, if_neg (by simp), if_neg (by omega)]
        repeat rw [if_neg (by first | omega | (simp; omega))]
    · simp only [scarabref03_Form.f, scarabref03_Form.j0, scarabref03_Form.j1, scarabref03_Form.j2]
      by_cases h1 : a ≥ 1
      · have e0 : decide (a ≤ 15) = false := by simp; omega
        have e1 : decide (a ≤ 36) = false := by simp; omega
        rw [if_pos h1, e0, if_neg (by simp), if_pos (by omega), e1, if_neg (by simp)]
        repeat rw [if_neg (by first | omega | (simp; omega))]
      · rw [if_neg h1, if_neg (by simp), if_neg (by omega), if_neg (by simp)]
        repeat rw [if_neg (by first | omega | (simp; omega))]

theorem round (k : Nat) (a b : Int) (i : Int) (h0 : 0 ≤ i) (h1 : i < 2) (hn : scarablaw03_ProgForms.l0 (k + 9) [a, b] 2 (i + 1) = some true) :
    scarablaw03_ProgForms.l0 (k + 9 + 1) [a, b] 2 i = some true := by
  simp only [scarablaw03_ProgForms.l0]
  obtain ⟨s, t, hs, ht, hst⟩ := form_any k (rd [a, b] i)
  obtain ⟨x, hx⟩ := local_some (rd [a, b] i)
  obtain ⟨y, hy⟩ := visible_some (rd [a, b] i)
  have hw : wrap64 (i + 1) = i + 1 := by unfold wrap64; omega
  rw [if_pos h1, if_pos h0, if_pos (by simp; omega), hs, ht]
  simp only [Option.bind_some]
  rw [if_pos hst, local_same, hx]
  simp only [Option.bind_some]
  rw [if_neg (by simp), visible_same, hy]
  simp only [Option.bind_some]
  rw [if_neg (by simp), hw]
  exact hn

theorem form_cas (k : Nat) : prog_Form.f (k + 9) 53 = some ⟨#[114, 97, 114, 119]⟩ := by
  induction k with
  | zero => rfl
  | succ j ih => rw [show j + 1 + 9 = j + 9 + 1 by omega]; exact prog_Form.mono 53 (j + 9) _ ih

theorem last (k : Nat) (a b : Int) : scarablaw03_ProgForms.l0 (k + 9 + 1) [a, b] 2 2 = some true := by
  simp only [scarablaw03_ProgForms.l0]
  rw [if_neg (by omega), form_cas]
  simp only [Option.bind_some]
  rw [if_pos (by decide +kernel)]
  rfl

theorem ProgForms : scarablaw03_ProgForms.Pure := by
  intro a b _ _
  refine ⟨12, ?_⟩
  have h2 := last 0 a b
  have h1 := round 1 a b 1 (by omega) (by omega) h2
  have h0 := round 2 a b 0 (by omega) (by omega) h1
  exact h0

end Go.Proofs.Ytdjcfjfgdblefaa.Pure
