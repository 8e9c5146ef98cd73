-- PRINTED BY print.sh 35421559b90ae4d0a3588c463048766b98c2df88dd9212a6774a882060cdf62d: not written by this session
import Derived.Test.YtdjcfjfgdblefaaPProgFormsx0
namespace Go.Proofs.Ytdjcfjfgdblefaa.PProgForms
open Go.RowKit Go.Proofs.YtdjcfjfgdblefaaW.PrintWords Go.Proofs.YtdjcfjfgdblefaaW.PrintLast Go.Proofs.YtdjcfjfgdblefaaW.PrintMore
attribute [local go_sem] max2_int min2_int max_two min_two max_three min_three max_four min_four   -- for this text's walks alone
set_option linter.unusedVariables false
set_option linter.unusedSimpArgs false

/-! ### scarabref03_Form: function 16 -/
mutual
def scarabref03_Form.j0 : Nat → Int → Bool → Option (ByteArray)
  | 0, _, _ => none
  | k + 1, x0, x8 => if x8 = true then (some (⟨#[114, 114, 45, 45]⟩ : ByteArray)) else (if x0 ≥ 16 then (scarabref03_Form.j1 k x0 (decide (x0 ≤ 36))) else (scarabref03_Form.j1 k x0 false))
def scarabref03_Form.j1 : Nat → Int → Bool → Option (ByteArray)
  | 0, _, _ => none
  | k + 1, x0, x14 => if x14 = true then (some (⟨#[114, 114, 114, 45]⟩ : ByteArray)) else (if x0 = 40 then (some (⟨#[114, 45, 45, 110]⟩ : ByteArray)) else (if x0 = 41 then (some (⟨#[114, 114, 45, 45]⟩ : ByteArray)) else (if x0 = 42 then (some (⟨#[116, 45, 45, 45]⟩ : ByteArray)) else (if x0 = 43 then (some (⟨#[114, 116, 45, 45]⟩ : ByteArray)) else (if x0 = 44 then (some (⟨#[114, 45, 45, 110]⟩ : ByteArray)) else (if x0 = 45 then (some (⟨#[45, 45, 45, 45]⟩ : ByteArray)) else (if x0 = 50 then (some (⟨#[114, 118, 45, 45]⟩ : ByteArray)) else (if x0 = 51 then (some (⟨#[118, 114, 45, 45]⟩ : ByteArray)) else (if x0 = 52 then (some (⟨#[111, 97, 114, 45]⟩ : ByteArray)) else (if x0 = 53 then (some (⟨#[114, 97, 114, 119]⟩ : ByteArray)) else (if x0 = 54 then (some (⟨#[97, 114, 45, 45]⟩ : ByteArray)) else (if x0 = 55 then (scarabref03_Form.j2 k x0 (x0 == 55)) else (scarabref03_Form.j2 k x0 (x0 == 56))))))))))))))
def scarabref03_Form.j2 : Nat → Int → Bool → Option (ByteArray)
  | 0, _, _ => none
  | k + 1, x15, x38 => if x38 = true then (some (⟨#[108, 45, 45, 45]⟩ : ByteArray)) else (if x15 = 57 then (some (⟨#[114, 108, 45, 45]⟩ : ByteArray)) else (if x15 = 58 then (some (⟨#[99, 114, 45, 45]⟩ : ByteArray)) else (if x15 = 59 then (some (⟨#[111, 99, 111, 45]⟩ : ByteArray)) else (if x15 = 60 then (some (⟨#[99, 45, 45, 45]⟩ : ByteArray)) else (if x15 = 61 then (some (⟨#[115, 45, 45, 45]⟩ : ByteArray)) else (if x15 = 62 then (some (⟨#[111, 102, 112, 45]⟩ : ByteArray)) else (if x15 = 63 then (some (⟨#[114, 45, 45, 45]⟩ : ByteArray)) else (if x15 = 64 then (some (⟨#[45, 45, 45, 45]⟩ : ByteArray)) else (if x15 = 65 then (some (⟨#[114, 45, 45, 110]⟩ : ByteArray)) else (some (⟨#[]⟩ : ByteArray)))))))))))
end
def scarabref03_Form.f (k : Nat) (a0 : Int) : Option (ByteArray) := if a0 ≥ 1 then (scarabref03_Form.j0 k a0 (decide (a0 ≤ 15))) else (scarabref03_Form.j0 k a0 false)
theorem scarabref03_Form.mono_l : ∀ k, (∀ y0 y1, LeO (scarabref03_Form.j0 k y0 y1) (scarabref03_Form.j0 (k + 1) y0 y1)) ∧ (∀ y0 y1, LeO (scarabref03_Form.j1 k y0 y1) (scarabref03_Form.j1 (k + 1) y0 y1)) ∧ (∀ y0 y1, LeO (scarabref03_Form.j2 k y0 y1) (scarabref03_Form.j2 (k + 1) y0 y1))
  | 0 => ⟨fun _ _ r h => by simp [scarabref03_Form.j0] at h, fun _ _ r h => by simp [scarabref03_Form.j1] at h, fun _ _ r h => by simp [scarabref03_Form.j2] at h⟩
  | k + 1 => by
    obtain ⟨ih0, ih1, ih2⟩ := scarabref03_Form.mono_l k
    refine ⟨?_, ?_, ?_⟩
    · intro y0 y1
      unfold scarabref03_Form.j0
      repeat' first
      | (with_reducible exact ih0 _ _)
      | (with_reducible exact ih1 _ _)
      | (with_reducible exact ih2 _ _)
      | (with_reducible exact LeO.refl _)
      | (with_reducible exact LeO.none _)
      | (with_reducible refine LeO.ite ?_ ?_)
      | (with_reducible refine LeO.bind ?_ (fun _ => ?_))
      | exact ih0 _ _
      | exact ih1 _ _
      | exact ih2 _ _
      | exact LeO.none _
      | refine LeO.ite ?_ ?_
      | refine LeO.bind ?_ (fun _ => ?_)
    · intro y0 y1
      unfold scarabref03_Form.j1
      repeat' first
      | (with_reducible exact ih0 _ _)
      | (with_reducible exact ih1 _ _)
      | (with_reducible exact ih2 _ _)
      | (with_reducible exact LeO.refl _)
      | (with_reducible exact LeO.none _)
      | (with_reducible refine LeO.ite ?_ ?_)
      | (with_reducible refine LeO.bind ?_ (fun _ => ?_))
      | exact ih0 _ _
      | exact ih1 _ _
      | exact ih2 _ _
      | exact LeO.none _
      | refine LeO.ite ?_ ?_
      | refine LeO.bind ?_ (fun _ => ?_)
    · intro y0 y1
      unfold scarabref03_Form.j2
      repeat' first
      | (with_reducible exact ih0 _ _)
      | (with_reducible exact ih1 _ _)
      | (with_reducible exact ih2 _ _)
      | (with_reducible exact LeO.refl _)
      | (with_reducible exact LeO.none _)
      | (with_reducible refine LeO.ite ?_ ?_)
      | (with_reducible refine LeO.bind ?_ (fun _ => ?_))
      | exact ih0 _ _
      | exact ih1 _ _
      | exact ih2 _ _
      | exact LeO.none _
      | refine LeO.ite ?_ ?_
      | refine LeO.bind ?_ (fun _ => ?_)
theorem scarabref03_Form.mono : ∀ a0 k, LeO (scarabref03_Form.f k a0) (scarabref03_Form.f (k + 1) a0) := by
  intro a0 k
  obtain ⟨ih0, ih1, ih2⟩ := scarabref03_Form.mono_l k
  unfold scarabref03_Form.f
  repeat' first
      | (with_reducible exact ih0 _ _)
      | (with_reducible exact ih1 _ _)
      | (with_reducible exact ih2 _ _)
      | (with_reducible exact LeO.refl _)
      | (with_reducible exact LeO.none _)
      | (with_reducible refine LeO.ite ?_ ?_)
      | (with_reducible refine LeO.bind ?_ (fun _ => ?_))
      | exact ih0 _ _
      | exact ih1 _ _
      | exact ih2 _ _
      | exact LeO.none _
      | refine LeO.ite ?_ ?_
      | refine LeO.bind ?_ (fun _ => ?_)
set_option maxHeartbeats 8000000 in
set_option maxRecDepth 100000 in
theorem scarabref03_Form.calls (k : Nat) (a0 : Int) (r : ByteArray) (w : World) (h : scarabref03_Form.f k a0 = some r) :
    Calls Try.prog 16 #[.int .i64 a0] w fun e w' => e = .returned (.string r) ∧ Drawn0 w w' := by
  have H : (if a0 ≥ 1 then (scarabref03_Form.j0 k a0 (decide (a0 ≤ 15))) else (scarabref03_Form.j0 k a0 false)) = some r := h
  clear h
  have HC2 := Aside0.mk H
  clear H
  go_enter Try.func16, Try.ntmps16
  go_upto_region 1 with (fail)
  go_cut [8] (fun v8 wc => ∃ (kq : Nat) (x8_1 : Bool), v8 = .bool x8_1 ∧ Aside0 (scarabref03_Form.j0 kq a0 x8_1 = some r) ∧ Aside0 (kq ≤ k) ∧ Drawn0 w wc)
  case first =>
    have H := HC2.out
    clear HC2
    by_cases c3 : a0 ≥ 1
    · rw [if_pos c3] at H
      have c3b0 : decide (1 ≤ a0) = true := decide_eq_true c3
      clear c3
      (first | rw [c3b0] | (simp only [i64_w, i32_w]; rw [c3b0]) | skip)
      have H' := Aside0.mk H
      clear H
      go_wp2
      go_meet
      case rel => exact ⟨_, (decide (a0 ≤ 15)), (by first | rfl | (simp; done) | (simp [*]; done)), H', ⟨by first | omega | exact Nat.le_refl _⟩, by repeat (first | exact Drawn0.refl _ | apply Drawn0.step)⟩
    · rw [if_neg c3] at H
      have c3b0 : decide (1 ≤ a0) = false := decide_eq_false c3
      clear c3
      (first | rw [c3b0] | (simp only [i64_w, i32_w]; rw [c3b0]) | skip)
      have H' := Aside0.mk H
      clear H
      go_wp2
      go_meet
      case rel => exact ⟨_, (false), (by first | rfl | (simp; done) | (simp [*]; done)), H', ⟨by first | omega | exact Nat.le_refl _⟩, by repeat (first | exact Drawn0.refl _ | apply Drawn0.step)⟩
  case rest =>
    clear HC2
    try clear c1
    try clear p2
    try clear c3
    try clear c3b0
    obtain ⟨kq, x8_1, rfl, HA, HJ1, ⟨mc1, rfl⟩⟩ := hcut
    cases kq with
    | zero => exact absurd HA.out (by simp [scarabref03_Form.j0])
    | succ kj1 =>
      have H := HA.out
      clear HA
      simp only [scarabref03_Form.j0] at H
      by_cases c4 : x8_1 = true
      · subst c4
        have H1 : (some (⟨#[114, 114, 45, 45]⟩ : ByteArray)) = some r := by rw [if_pos rfl] at H; exact H
        clear H
        have H := H1
        clear H1
        obtain rfl := Option.some.inj H
        go_wp2
        go_ret
        exact ⟨by first | rfl | (simp; done) | (simp [*]; done), by repeat (first | exact Drawn0.refl _ | apply Drawn0.step)⟩
      · replace c4 := Bool.eq_false_iff.mpr c4
        subst c4
        have H1 : (if a0 ≥ 16 then (scarabref03_Form.j1 kj1 a0 (decide (a0 ≤ 36))) else (scarabref03_Form.j1 kj1 a0 false)) = some r := by rw [if_neg (show ¬ (false = true) by decide)] at H; exact H
        clear H
        have H := H1
        clear H1
        have HC5 := Aside0.mk H
        clear H
        go_upto_region 3 with (fail)
        go_cut [14] (fun v14 wc => ∃ (kq : Nat) (x14_4 : Bool), v14 = .bool x14_4 ∧ Aside0 (scarabref03_Form.j1 kq a0 x14_4 = some r) ∧ Aside0 (kq ≤ kj1) ∧ Drawn0 w wc)
        case first =>
          have H := HC5.out
          clear HC5
          by_cases c6 : a0 ≥ 16
          · rw [if_pos c6] at H
            have c6b0 : decide (16 ≤ a0) = true := decide_eq_true c6
            clear c6
            (first | rw [c6b0] | (simp only [i64_w, i32_w]; rw [c6b0]) | skip)
            have H' := Aside0.mk H
            clear H
            go_wp2
            go_meet
            case rel => exact ⟨_, (decide (a0 ≤ 36)), (by first | rfl | (simp; done) | (simp [*]; done)), H', ⟨by have := HJ1.out; first | omega | exact Nat.le_refl _⟩, by repeat (first | exact Drawn0.refl _ | apply Drawn0.step)⟩
          · rw [if_neg c6] at H
            have c6b0 : decide (16 ≤ a0) = false := decide_eq_false c6
            clear c6
            (first | rw [c6b0] | (simp only [i64_w, i32_w]; rw [c6b0]) | skip)
            have H' := Aside0.mk H
            clear H
            go_wp2
            go_meet
            case rel => exact ⟨_, (false), (by first | rfl | (simp; done) | (simp [*]; done)), H', ⟨by have := HJ1.out; first | omega | exact Nat.le_refl _⟩, by repeat (first | exact Drawn0.refl _ | apply Drawn0.step)⟩
        case rest =>
          clear HC5
          try clear c1
          try clear p2
          try clear c3
          try clear c3b0
          try clear c4
          try clear c6
          try clear c6b0
          try clear p2
          obtain ⟨kq, x14_4, rfl, HA, HJ4, ⟨mc4, rfl⟩⟩ := hcut
          cases kq with
          | zero => exact absurd HA.out (by simp [scarabref03_Form.j1])
          | succ kj4 =>
            have H := HA.out
            clear HA
            simp only [scarabref03_Form.j1] at H
            by_cases c7 : x14_4 = true
            · subst c7
              have H1 : (some (⟨#[114, 114, 114, 45]⟩ : ByteArray)) = some r := by rw [if_pos rfl] at H; exact H
              clear H
              have H := H1
              clear H1
              obtain rfl := Option.some.inj H
              go_wp2
              go_ret
              exact ⟨by first | rfl | (simp; done) | (simp [*]; done), by repeat (first | exact Drawn0.refl _ | apply Drawn0.step)⟩
            · replace c7 := Bool.eq_false_iff.mpr c7
              subst c7
              have H1 : (if a0 = 40 then (some (⟨#[114, 45, 45, 110]⟩ : ByteArray)) else (if a0 = 41 then (some (⟨#[114, 114, 45, 45]⟩ : ByteArray)) else (if a0 = 42 then (some (⟨#[116, 45, 45, 45]⟩ : ByteArray)) else (if a0 = 43 then (some (⟨#[114, 116, 45, 45]⟩ : ByteArray)) else (if a0 = 44 then (some (⟨#[114, 45, 45, 110]⟩ : ByteArray)) else (if a0 = 45 then (some (⟨#[45, 45, 45, 45]⟩ : ByteArray)) else (if a0 = 50 then (some (⟨#[114, 118, 45, 45]⟩ : ByteArray)) else (if a0 = 51 then (some (⟨#[118, 114, 45, 45]⟩ : ByteArray)) else (if a0 = 52 then (some (⟨#[111, 97, 114, 45]⟩ : ByteArray)) else (if a0 = 53 then (some (⟨#[114, 97, 114, 119]⟩ : ByteArray)) else (if a0 = 54 then (some (⟨#[97, 114, 45, 45]⟩ : ByteArray)) else (if a0 = 55 then (scarabref03_Form.j2 kj4 a0 (a0 == 55)) else (scarabref03_Form.j2 kj4 a0 (a0 == 56)))))))))))))) = some r := by rw [if_neg (show ¬ (false = true) by decide)] at H; exact H
              clear H
              have H := H1
              clear H1
              by_cases c8 : a0 = 40
              · rw [if_pos c8] at H
                have c8b0 : (a0 == 40) = true := beq_iff_eq.mpr c8
                have c8b1 : (a0 != 40) = false := bne_eq_false_iff_eq.mpr c8
                clear c8
                obtain rfl := Option.some.inj H
                go_wp2
                go_ret
                exact ⟨by first | rfl | (simp; done) | (simp [*]; done), by repeat (first | exact Drawn0.refl _ | apply Drawn0.step)⟩
              · rw [if_neg c8] at H
                have c8b0 : (a0 == 40) = false := beq_eq_false_iff_ne.mpr c8
                have c8b1 : (a0 != 40) = true := bne_iff_ne.mpr c8
                by_cases c9 : a0 = 41
                · rw [if_pos c9] at H
                  have c9b0 : (a0 == 41) = true := beq_iff_eq.mpr c9
                  have c9b1 : (a0 != 41) = false := bne_eq_false_iff_eq.mpr c9
                  clear c9
                  obtain rfl := Option.some.inj H
                  go_wp2
                  go_ret
                  exact ⟨by first | rfl | (simp; done) | (simp [*]; done), by repeat (first | exact Drawn0.refl _ | apply Drawn0.step)⟩
                · rw [if_neg c9] at H
                  have c9b0 : (a0 == 41) = false := beq_eq_false_iff_ne.mpr c9
                  have c9b1 : (a0 != 41) = true := bne_iff_ne.mpr c9
                  by_cases c10 : a0 = 42
                  · rw [if_pos c10] at H
                    have c10b0 : (a0 == 42) = true := beq_iff_eq.mpr c10
                    have c10b1 : (a0 != 42) = false := bne_eq_false_iff_eq.mpr c10
                    clear c10
                    obtain rfl := Option.some.inj H
                    go_wp2
                    go_ret
                    exact ⟨by first | rfl | (simp; done) | (simp [*]; done), by repeat (first | exact Drawn0.refl _ | apply Drawn0.step)⟩
                  · rw [if_neg c10] at H
                    have c10b0 : (a0 == 42) = false := beq_eq_false_iff_ne.mpr c10
                    have c10b1 : (a0 != 42) = true := bne_iff_ne.mpr c10
                    by_cases c11 : a0 = 43
                    · rw [if_pos c11] at H
                      have c11b0 : (a0 == 43) = true := beq_iff_eq.mpr c11
                      have c11b1 : (a0 != 43) = false := bne_eq_false_iff_eq.mpr c11
                      clear c11
                      obtain rfl := Option.some.inj H
                      go_wp2
                      go_ret
                      exact ⟨by first | rfl | (simp; done) | (simp [*]; done), by repeat (first | exact Drawn0.refl _ | apply Drawn0.step)⟩
                    · rw [if_neg c11] at H
                      have c11b0 : (a0 == 43) = false := beq_eq_false_iff_ne.mpr c11
                      have c11b1 : (a0 != 43) = true := bne_iff_ne.mpr c11
                      by_cases c12 : a0 = 44
                      · rw [if_pos c12] at H
                        have c12b0 : (a0 == 44) = true := beq_iff_eq.mpr c12
                        have c12b1 : (a0 != 44) = false := bne_eq_false_iff_eq.mpr c12
                        clear c12
                        obtain rfl := Option.some.inj H
                        go_wp2
                        go_ret
                        exact ⟨by first | rfl | (simp; done) | (simp [*]; done), by repeat (first | exact Drawn0.refl _ | apply Drawn0.step)⟩
                      · rw [if_neg c12] at H
                        have c12b0 : (a0 == 44) = false := beq_eq_false_iff_ne.mpr c12
                        have c12b1 : (a0 != 44) = true := bne_iff_ne.mpr c12
                        by_cases c13 : a0 = 45
                        · rw [if_pos c13] at H
                          have c13b0 : (a0 == 45) = true := beq_iff_eq.mpr c13
                          have c13b1 : (a0 != 45) = false := bne_eq_false_iff_eq.mpr c13
                          clear c13
                          obtain rfl := Option.some.inj H
                          go_wp2
                          go_ret
                          exact ⟨by first | rfl | (simp; done) | (simp [*]; done), by repeat (first | exact Drawn0.refl _ | apply Drawn0.step)⟩
                        · rw [if_neg c13] at H
                          have c13b0 : (a0 == 45) = false := beq_eq_false_iff_ne.mpr c13
                          have c13b1 : (a0 != 45) = true := bne_iff_ne.mpr c13
                          by_cases c14 : a0 = 50
                          · rw [if_pos c14] at H
                            have c14b0 : (a0 == 50) = true := beq_iff_eq.mpr c14
                            have c14b1 : (a0 != 50) = false := bne_eq_false_iff_eq.mpr c14
                            clear c14
                            obtain rfl := Option.some.inj H
                            go_wp2
                            go_ret
                            exact ⟨by first | rfl | (simp; done) | (simp [*]; done), by repeat (first | exact Drawn0.refl _ | apply Drawn0.step)⟩
                          · rw [if_neg c14] at H
                            have c14b0 : (a0 == 50) = false := beq_eq_false_iff_ne.mpr c14
                            have c14b1 : (a0 != 50) = true := bne_iff_ne.mpr c14
                            by_cases c15 : a0 = 51
                            · rw [if_pos c15] at H
                              have c15b0 : (a0 == 51) = true := beq_iff_eq.mpr c15
                              have c15b1 : (a0 != 51) = false := bne_eq_false_iff_eq.mpr c15
                              clear c15
                              obtain rfl := Option.some.inj H
                              go_wp2
                              go_ret
                              exact ⟨by first | rfl | (simp; done) | (simp [*]; done), by repeat (first | exact Drawn0.refl _ | apply Drawn0.step)⟩
                            · rw [if_neg c15] at H
                              have c15b0 : (a0 == 51) = false := beq_eq_false_iff_ne.mpr c15
                              have c15b1 : (a0 != 51) = true := bne_iff_ne.mpr c15
                              by_cases c16 : a0 = 52
                              · rw [if_pos c16] at H
                                have c16b0 : (a0 == 52) = true := beq_iff_eq.mpr c16
                                have c16b1 : (a0 != 52) = false := bne_eq_false_iff_eq.mpr c16
                                clear c16
                                obtain rfl := Option.some.inj H
                                go_wp2
                                go_ret
                                exact ⟨by first | rfl | (simp; done) | (simp [*]; done), by repeat (first | exact Drawn0.refl _ | apply Drawn0.step)⟩
                              · rw [if_neg c16] at H
                                have c16b0 : (a0 == 52) = false := beq_eq_false_iff_ne.mpr c16
                                have c16b1 : (a0 != 52) = true := bne_iff_ne.mpr c16
                                by_cases c17 : a0 = 53
                                · rw [if_pos c17] at H
                                  have c17b0 : (a0 == 53) = true := beq_iff_eq.mpr c17
                                  have c17b1 : (a0 != 53) = false := bne_eq_false_iff_eq.mpr c17
                                  clear c17
                                  obtain rfl := Option.some.inj H
                                  go_wp2
                                  go_ret
                                  exact ⟨by first | rfl | (simp; done) | (simp [*]; done), by repeat (first | exact Drawn0.refl _ | apply Drawn0.step)⟩
                                · rw [if_neg c17] at H
                                  have c17b0 : (a0 == 53) = false := beq_eq_false_iff_ne.mpr c17
                                  have c17b1 : (a0 != 53) = true := bne_iff_ne.mpr c17
                                  by_cases c18 : a0 = 54
                                  · rw [if_pos c18] at H
                                    have c18b0 : (a0 == 54) = true := beq_iff_eq.mpr c18
                                    have c18b1 : (a0 != 54) = false := bne_eq_false_iff_eq.mpr c18
                                    clear c18
                                    obtain rfl := Option.some.inj H
                                    go_wp2
                                    go_ret
                                    exact ⟨by first | rfl | (simp; done) | (simp [*]; done), by repeat (first | exact Drawn0.refl _ | apply Drawn0.step)⟩
                                  · rw [if_neg c18] at H
                                    have c18b0 : (a0 == 54) = false := beq_eq_false_iff_ne.mpr c18
                                    have c18b1 : (a0 != 54) = true := bne_iff_ne.mpr c18
                                    have HC19 := Aside0.mk H
                                    clear H
                                    go_upto_if 38 with (fail)
                                    go_cut [38] (fun v38 wc => ∃ (kq : Nat) (x38_18 : Bool), v38 = .bool x38_18 ∧ Aside0 (scarabref03_Form.j2 kq a0 x38_18 = some r) ∧ Aside0 (kq ≤ kj4) ∧ Drawn0 w wc)
                                    case first =>
                                      have H := HC19.out
                                      clear HC19
                                      by_cases c20 : a0 = 55
                                      · rw [if_pos c20] at H
                                        have c20b0 : (a0 == 55) = true := beq_iff_eq.mpr c20
                                        have c20b1 : (a0 != 55) = false := bne_eq_false_iff_eq.mpr c20
                                        clear c20
                                        (first | rw [c20b0] | (simp only [i64_w, i32_w]; rw [c20b0]) | skip)
                                        have H' := Aside0.mk H
                                        clear H
                                        go_wp2
                                        go_meet
                                        case rel => exact ⟨_, ((a0 == 55)), (by first | rfl | (simp; done) | (simp [*]; done)), H', ⟨by have := HJ1.out; have := HJ4.out; first | omega | exact Nat.le_refl _⟩, by repeat (first | exact Drawn0.refl _ | apply Drawn0.step)⟩
                                      · rw [if_neg c20] at H
                                        have c20b0 : (a0 == 55) = false := beq_eq_false_iff_ne.mpr c20
                                        have c20b1 : (a0 != 55) = true := bne_iff_ne.mpr c20
                                        (first | rw [c20b0] | (simp only [i64_w, i32_w]; rw [c20b0]) | skip)
                                        have H' := Aside0.mk H
                                        clear H
                                        go_wp2
                                        go_meet
                                        case rel => exact ⟨_, ((a0 == 56)), (by first | rfl | (simp; done) | (simp [*]; done)), H', ⟨by have := HJ1.out; have := HJ4.out; first | omega | exact Nat.le_refl _⟩, by repeat (first | exact Drawn0.refl _ | apply Drawn0.step)⟩
                                    case rest =>
                                      clear HC19
                                      try clear c1
                                      try clear c2
                                      try clear p2
                                      try clear c3
                                      try clear c3b0
                                      try clear c4
                                      try clear c6
                                      try clear c6b0
                                      try clear c7
                                      try clear c8
                                      try clear c8b0
                                      try clear c8b1
                                      try clear c9
                                      try clear c9b0
                                      try clear c9b1
                                      try clear c10
                                      try clear c10b0
                                      try clear c10b1
                                      try clear c11
                                      try clear c11b0
                                      try clear c11b1
                                      try clear c12
                                      try clear c12b0
                                      try clear c12b1
                                      try clear c13
                                      try clear c13b0
                                      try clear c13b1
                                      try clear c14
                                      try clear c14b0
                                      try clear c14b1
                                      try clear c15
                                      try clear c15b0
                                      try clear c15b1
                                      try clear c16
                                      try clear c16b0
                                      try clear c16b1
                                      try clear c17
                                      try clear c17b0
                                      try clear c17b1
                                      try clear c18
                                      try clear c18b0
                                      try clear c18b1
                                      try clear c20
                                      try clear c20b0
                                      try clear c20b1
                                      try clear p2
                                      obtain ⟨kq, x38_18, rfl, HA, HJ18, ⟨mc18, rfl⟩⟩ := hcut
                                      cases kq with
                                      | zero => exact absurd HA.out (by simp [scarabref03_Form.j2])
                                      | succ kj18 =>
                                        have H := HA.out
                                        clear HA
                                        simp only [scarabref03_Form.j2] at H
                                        by_cases c21 : x38_18 = true
                                        · subst c21
                                          have H1 : (some (⟨#[108, 45, 45, 45]⟩ : ByteArray)) = some r := by rw [if_pos rfl] at H; exact H
                                          clear H
                                          have H := H1
                                          clear H1
                                          obtain rfl := Option.some.inj H
                                          go_wp2
                                          go_ret
                                          exact ⟨by first | rfl | (simp; done) | (simp [*]; done), by repeat (first | exact Drawn0.refl _ | apply Drawn0.step)⟩
                                        · replace c21 := Bool.eq_false_iff.mpr c21
                                          subst c21
                                          have H1 : (if a0 = 57 then (some (⟨#[114, 108, 45, 45]⟩ : ByteArray)) else (if a0 = 58 then (some (⟨#[99, 114, 45, 45]⟩ : ByteArray)) else (if a0 = 59 then (some (⟨#[111, 99, 111, 45]⟩ : ByteArray)) else (if a0 = 60 then (some (⟨#[99, 45, 45, 45]⟩ : ByteArray)) else (if a0 = 61 then (some (⟨#[115, 45, 45, 45]⟩ : ByteArray)) else (if a0 = 62 then (some (⟨#[111, 102, 112, 45]⟩ : ByteArray)) else (if a0 = 63 then (some (⟨#[114, 45, 45, 45]⟩ : ByteArray)) else (if a0 = 64 then (some (⟨#[45, 45, 45, 45]⟩ : ByteArray)) else (if a0 = 65 then (some (⟨#[114, 45, 45, 110]⟩ : ByteArray)) else (some (⟨#[]⟩ : ByteArray))))))))))) = some r := by rw [if_neg (show ¬ (false = true) by decide)] at H; exact H
                                          clear H
                                          have H := H1
                                          clear H1
                                          by_cases c22 : a0 = 57
                                          · rw [if_pos c22] at H
                                            have c22b0 : (a0 == 57) = true := beq_iff_eq.mpr c22
                                            have c22b1 : (a0 != 57) = false := bne_eq_false_iff_eq.mpr c22
                                            clear c22
                                            obtain rfl := Option.some.inj H
                                            go_wp2
                                            go_ret
                                            exact ⟨by first | rfl | (simp; done) | (simp [*]; done), by repeat (first | exact Drawn0.refl _ | apply Drawn0.step)⟩
                                          · rw [if_neg c22] at H
                                            have c22b0 : (a0 == 57) = false := beq_eq_false_iff_ne.mpr c22
                                            have c22b1 : (a0 != 57) = true := bne_iff_ne.mpr c22
                                            by_cases c23 : a0 = 58
                                            · rw [if_pos c23] at H
                                              have c23b0 : (a0 == 58) = true := beq_iff_eq.mpr c23
                                              have c23b1 : (a0 != 58) = false := bne_eq_false_iff_eq.mpr c23
                                              clear c23
                                              obtain rfl := Option.some.inj H
                                              go_wp2
                                              go_ret
                                              exact ⟨by first | rfl | (simp; done) | (simp [*]; done), by repeat (first | exact Drawn0.refl _ | apply Drawn0.step)⟩
                                            · rw [if_neg c23] at H
                                              have c23b0 : (a0 == 58) = false := beq_eq_false_iff_ne.mpr c23
                                              have c23b1 : (a0 != 58) = true := bne_iff_ne.mpr c23
                                              by_cases c24 : a0 = 59
                                              · rw [if_pos c24] at H
                                                have c24b0 : (a0 == 59) = true := beq_iff_eq.mpr c24
                                                have c24b1 : (a0 != 59) = false := bne_eq_false_iff_eq.mpr c24
                                                clear c24
                                                obtain rfl := Option.some.inj H
                                                go_wp2
                                                go_ret
                                                exact ⟨by first | rfl | (simp; done) | (simp [*]; done), by repeat (first | exact Drawn0.refl _ | apply Drawn0.step)⟩
                                              · rw [if_neg c24] at H
                                                have c24b0 : (a0 == 59) = false := beq_eq_false_iff_ne.mpr c24
                                                have c24b1 : (a0 != 59) = true := bne_iff_ne.mpr c24
                                                by_cases c25 : a0 = 60
                                                · rw [if_pos c25] at H
                                                  have c25b0 : (a0 == 60) = true := beq_iff_eq.mpr c25
                                                  have c25b1 : (a0 != 60) = false := bne_eq_false_iff_eq.mpr c25
                                                  clear c25
                                                  obtain rfl := Option.some.inj H
                                                  go_wp2
                                                  go_ret
                                                  exact ⟨by first | rfl | (simp; done) | (simp [*]; done), by repeat (first | exact Drawn0.refl _ | apply Drawn0.step)⟩
                                                · rw [if_neg c25] at H
                                                  have c25b0 : (a0 == 60) = false := beq_eq_false_iff_ne.mpr c25
                                                  have c25b1 : (a0 != 60) = true := bne_iff_ne.mpr c25
                                                  by_cases c26 : a0 = 61
                                                  · rw [if_pos c26] at H
                                                    have c26b0 : (a0 == 61) = true := beq_iff_eq.mpr c26
                                                    have c26b1 : (a0 != 61) = false := bne_eq_false_iff_eq.mpr c26
                                                    clear c26
                                                    obtain rfl := Option.some.inj H
                                                    go_wp2
                                                    go_ret
                                                    exact ⟨by first | rfl | (simp; done) | (simp [*]; done), by repeat (first | exact Drawn0.refl _ | apply Drawn0.step)⟩
                                                  · rw [if_neg c26] at H
                                                    have c26b0 : (a0 == 61) = false := beq_eq_false_iff_ne.mpr c26
                                                    have c26b1 : (a0 != 61) = true := bne_iff_ne.mpr c26
                                                    by_cases c27 : a0 = 62
                                                    · rw [if_pos c27] at H
                                                      have c27b0 : (a0 == 62) = true := beq_iff_eq.mpr c27
                                                      have c27b1 : (a0 != 62) = false := bne_eq_false_iff_eq.mpr c27
                                                      clear c27
                                                      obtain rfl := Option.some.inj H
                                                      go_wp2
                                                      go_ret
                                                      exact ⟨by first | rfl | (simp; done) | (simp [*]; done), by repeat (first | exact Drawn0.refl _ | apply Drawn0.step)⟩
                                                    · rw [if_neg c27] at H
                                                      have c27b0 : (a0 == 62) = false := beq_eq_false_iff_ne.mpr c27
                                                      have c27b1 : (a0 != 62) = true := bne_iff_ne.mpr c27
                                                      by_cases c28 : a0 = 63
                                                      · rw [if_pos c28] at H
                                                        have c28b0 : (a0 == 63) = true := beq_iff_eq.mpr c28
                                                        have c28b1 : (a0 != 63) = false := bne_eq_false_iff_eq.mpr c28
                                                        clear c28
                                                        obtain rfl := Option.some.inj H
                                                        go_wp2
                                                        go_ret
                                                        exact ⟨by first | rfl | (simp; done) | (simp [*]; done), by repeat (first | exact Drawn0.refl _ | apply Drawn0.step)⟩
                                                      · rw [if_neg c28] at H
                                                        have c28b0 : (a0 == 63) = false := beq_eq_false_iff_ne.mpr c28
                                                        have c28b1 : (a0 != 63) = true := bne_iff_ne.mpr c28
                                                        by_cases c29 : a0 = 64
                                                        · rw [if_pos c29] at H
                                                          have c29b0 : (a0 == 64) = true := beq_iff_eq.mpr c29
                                                          have c29b1 : (a0 != 64) = false := bne_eq_false_iff_eq.mpr c29
                                                          clear c29
                                                          obtain rfl := Option.some.inj H
                                                          go_wp2
                                                          go_ret
                                                          exact ⟨by first | rfl | (simp; done) | (simp [*]; done), by repeat (first | exact Drawn0.refl _ | apply Drawn0.step)⟩
                                                        · rw [if_neg c29] at H
                                                          have c29b0 : (a0 == 64) = false := beq_eq_false_iff_ne.mpr c29
                                                          have c29b1 : (a0 != 64) = true := bne_iff_ne.mpr c29
                                                          by_cases c30 : a0 = 65
                                                          · rw [if_pos c30] at H
                                                            have c30b0 : (a0 == 65) = true := beq_iff_eq.mpr c30
                                                            have c30b1 : (a0 != 65) = false := bne_eq_false_iff_eq.mpr c30
                                                            clear c30
                                                            obtain rfl := Option.some.inj H
                                                            go_wp2
                                                            go_ret
                                                            exact ⟨by first | rfl | (simp; done) | (simp [*]; done), by repeat (first | exact Drawn0.refl _ | apply Drawn0.step)⟩
                                                          · rw [if_neg c30] at H
                                                            have c30b0 : (a0 == 65) = false := beq_eq_false_iff_ne.mpr c30
                                                            have c30b1 : (a0 != 65) = true := bne_iff_ne.mpr c30
                                                            obtain rfl := Option.some.inj H
                                                            go_wp2
                                                            go_ret
                                                            exact ⟨by first | rfl | (simp; done) | (simp [*]; done), by repeat (first | exact Drawn0.refl _ | apply Drawn0.step)⟩

/-! ### prog_Local: function 17 -/
def prog_Local.f (a0 : Int) : Option (Bool) := if a0 ≥ 1 then (if a0 ≤ 36 then (some true) else (if a0 ≥ 40 then (some (decide (a0 ≤ 45))) else (some false))) else (if a0 ≥ 40 then (some (decide (a0 ≤ 45))) else (some false))
set_option maxHeartbeats 8000000 in
set_option maxRecDepth 100000 in
theorem prog_Local.calls (a0 : Int) (r : Bool) (w : World) (h : prog_Local.f a0 = some r) :
    Calls Try.prog 17 #[.int .i64 a0] w fun e w' => e = .returned (.bool r) ∧ Drawn0 w w' := by
  have H : (if a0 ≥ 1 then (if a0 ≤ 36 then (some true) else (if a0 ≥ 40 then (some (decide (a0 ≤ 45))) else (some false))) else (if a0 ≥ 40 then (some (decide (a0 ≤ 45))) else (some false))) = some r := h
  clear h
  by_cases c2 : a0 ≥ 1
  · rw [if_pos c2] at H
    have c2b0 : decide (1 ≤ a0) = true := decide_eq_true c2
    clear c2
    by_cases c3 : a0 ≤ 36
    · rw [if_pos c3] at H
      have c3b0 : decide (a0 ≤ 36) = true := decide_eq_true c3
      clear c3
      obtain rfl := Option.some.inj H
      go_enter Try.func17, Try.ntmps17
      go_wp2
      go_ret
      exact ⟨by first | rfl | (simp; done) | (simp [*]; done), by repeat (first | exact Drawn0.refl _ | apply Drawn0.step)⟩
    · rw [if_neg c3] at H
      have c3b0 : decide (a0 ≤ 36) = false := decide_eq_false c3
      clear c3
      by_cases c4 : a0 ≥ 40
      · rw [if_pos c4] at H
        have c4b0 : decide (40 ≤ a0) = true := decide_eq_true c4
        clear c4
        obtain rfl := Option.some.inj H
        go_enter Try.func17, Try.ntmps17
        go_wp2
        go_ret
        exact ⟨by first | rfl | (simp; done) | (simp [*]; done), by repeat (first | exact Drawn0.refl _ | apply Drawn0.step)⟩
      · rw [if_neg c4] at H
        have c4b0 : decide (40 ≤ a0) = false := decide_eq_false c4
        clear c4
        obtain rfl := Option.some.inj H
        go_enter Try.func17, Try.ntmps17
        go_wp2
        go_ret
        exact ⟨by first | rfl | (simp; done) | (simp [*]; done), by repeat (first | exact Drawn0.refl _ | apply Drawn0.step)⟩
  · rw [if_neg c2] at H
    have c2b0 : decide (1 ≤ a0) = false := decide_eq_false c2
    clear c2
    by_cases c5 : a0 ≥ 40
    · rw [if_pos c5] at H
      have c5b0 : decide (40 ≤ a0) = true := decide_eq_true c5
      clear c5
      obtain rfl := Option.some.inj H
      go_enter Try.func17, Try.ntmps17
      go_wp2
      go_ret
      exact ⟨by first | rfl | (simp; done) | (simp [*]; done), by repeat (first | exact Drawn0.refl _ | apply Drawn0.step)⟩
    · rw [if_neg c5] at H
      have c5b0 : decide (40 ≤ a0) = false := decide_eq_false c5
      clear c5
      obtain rfl := Option.some.inj H
      go_enter Try.func17, Try.ntmps17
      go_wp2
      go_ret
      exact ⟨by first | rfl | (simp; done) | (simp [*]; done), by repeat (first | exact Drawn0.refl _ | apply Drawn0.step)⟩

/-! ### scarabref03_Local: function 18 -/
def scarabref03_Local.f (a0 : Int) : Option (Bool) := if a0 ≥ 1 then (if a0 ≤ 36 then (some true) else (if a0 ≥ 40 then (some (decide (a0 ≤ 45))) else (some false))) else (if a0 ≥ 40 then (some (decide (a0 ≤ 45))) else (some false))
set_option maxHeartbeats 8000000 in
set_option maxRecDepth 100000 in
theorem scarabref03_Local.calls (a0 : Int) (r : Bool) (w : World) (h : scarabref03_Local.f a0 = some r) :
    Calls Try.prog 18 #[.int .i64 a0] w fun e w' => e = .returned (.bool r) ∧ Drawn0 w w' := by
  have H : (if a0 ≥ 1 then (if a0 ≤ 36 then (some true) else (if a0 ≥ 40 then (some (decide (a0 ≤ 45))) else (some false))) else (if a0 ≥ 40 then (some (decide (a0 ≤ 45))) else (some false))) = some r := h
  clear h
  by_cases c2 : a0 ≥ 1
  · rw [if_pos c2] at H
    have c2b0 : decide (1 ≤ a0) = true := decide_eq_true c2
    clear c2
    by_cases c3 : a0 ≤ 36
    · rw [if_pos c3] at H
      have c3b0 : decide (a0 ≤ 36) = true := decide_eq_true c3
      clear c3
      obtain rfl := Option.some.inj H
      go_enter Try.func18, Try.ntmps18
      go_wp2
      go_ret
      exact ⟨by first | rfl | (simp; done) | (simp [*]; done), by repeat (first | exact Drawn0.refl _ | apply Drawn0.step)⟩
    · rw [if_neg c3] at H
      have c3b0 : decide (a0 ≤ 36) = false := decide_eq_false c3
      clear c3
      by_cases c4 : a0 ≥ 40
      · rw [if_pos c4] at H
        have c4b0 : decide (40 ≤ a0) = true := decide_eq_true c4
        clear c4
        obtain rfl := Option.some.inj H
        go_enter Try.func18, Try.ntmps18
        go_wp2
        go_ret
        exact ⟨by first | rfl | (simp; done) | (simp [*]; done), by repeat (first | exact Drawn0.refl _ | apply Drawn0.step)⟩
      · rw [if_neg c4] at H
        have c4b0 : decide (40 ≤ a0) = false := decide_eq_false c4
        clear c4
        obtain rfl := Option.some.inj H
        go_enter Try.func18, Try.ntmps18
        go_wp2
        go_ret
        exact ⟨by first | rfl | (simp; done) | (simp [*]; done), by repeat (first | exact Drawn0.refl _ | apply Drawn0.step)⟩
  · rw [if_neg c2] at H
    have c2b0 : decide (1 ≤ a0) = false := decide_eq_false c2
    clear c2
    by_cases c5 : a0 ≥ 40
    · rw [if_pos c5] at H
      have c5b0 : decide (40 ≤ a0) = true := decide_eq_true c5
      clear c5
      obtain rfl := Option.some.inj H
      go_enter Try.func18, Try.ntmps18
      go_wp2
      go_ret
      exact ⟨by first | rfl | (simp; done) | (simp [*]; done), by repeat (first | exact Drawn0.refl _ | apply Drawn0.step)⟩
    · rw [if_neg c5] at H
      have c5b0 : decide (40 ≤ a0) = false := decide_eq_false c5
      clear c5
      obtain rfl := Option.some.inj H
      go_enter Try.func18, Try.ntmps18
      go_wp2
      go_ret
      exact ⟨by first | rfl | (simp; done) | (simp [*]; done), by repeat (first | exact Drawn0.refl _ | apply Drawn0.step)⟩

/-! ### prog_Visible: function 19 -/
def prog_Visible.f (a0 : Int) : Option (Bool) := if a0 ≥ 50 then (some (decide (a0 ≤ 65))) else (some false)
set_option maxHeartbeats 8000000 in
set_option maxRecDepth 100000 in
theorem prog_Visible.calls (a0 : Int) (r : Bool) (w : World) (h : prog_Visible.f a0 = some r) :
    Calls Try.prog 19 #[.int .i64 a0] w fun e w' => e = .returned (.bool r) ∧ Drawn0 w w' := by
  have H : (if a0 ≥ 50 then (some (decide (a0 ≤ 65))) else (some false)) = some r := h
  clear h
  by_cases c2 : a0 ≥ 50
  · rw [if_pos c2] at H
    have c2b0 : decide (50 ≤ a0) = true := decide_eq_true c2
    clear c2
    obtain rfl := Option.some.inj H
    go_enter Try.func19, Try.ntmps19
    go_wp2
    go_ret
    exact ⟨by first | rfl | (simp; done) | (simp [*]; done), by repeat (first | exact Drawn0.refl _ | apply Drawn0.step)⟩
  · rw [if_neg c2] at H
    have c2b0 : decide (50 ≤ a0) = false := decide_eq_false c2
    clear c2
    obtain rfl := Option.some.inj H
    go_enter Try.func19, Try.ntmps19
    go_wp2
    go_ret
    exact ⟨by first | rfl | (simp; done) | (simp [*]; done), by repeat (first | exact Drawn0.refl _ | apply Drawn0.step)⟩

/-! ### scarabref03_Visible: function 20 -/
def scarabref03_Visible.f (a0 : Int) : Option (Bool) := if a0 ≥ 50 then (some (decide (a0 ≤ 65))) else (some false)
set_option maxHeartbeats 8000000 in
set_option maxRecDepth 100000 in
theorem scarabref03_Visible.calls (a0 : Int) (r : Bool) (w : World) (h : scarabref03_Visible.f a0 = some r) :
    Calls Try.prog 20 #[.int .i64 a0] w fun e w' => e = .returned (.bool r) ∧ Drawn0 w w' := by
  have H : (if a0 ≥ 50 then (some (decide (a0 ≤ 65))) else (some false)) = some r := h
  clear h
  by_cases c2 : a0 ≥ 50
  · rw [if_pos c2] at H
    have c2b0 : decide (50 ≤ a0) = true := decide_eq_true c2
    clear c2
    obtain rfl := Option.some.inj H
    go_enter Try.func20, Try.ntmps20
    go_wp2
    go_ret
    exact ⟨by first | rfl | (simp; done) | (simp [*]; done), by repeat (first | exact Drawn0.refl _ | apply Drawn0.step)⟩
  · rw [if_neg c2] at H
    have c2b0 : decide (50 ≤ a0) = false := decide_eq_false c2
    clear c2
    obtain rfl := Option.some.inj H
    go_enter Try.func20, Try.ntmps20
    go_wp2
    go_ret
    exact ⟨by first | rfl | (simp; done) | (simp [*]; done), by repeat (first | exact Drawn0.refl _ | apply Drawn0.step)⟩

end Go.Proofs.Ytdjcfjfgdblefaa.PProgForms
