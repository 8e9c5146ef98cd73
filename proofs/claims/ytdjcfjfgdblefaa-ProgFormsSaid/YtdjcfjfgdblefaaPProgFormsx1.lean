-- PRINTED BY print.sh 35421559b90ae4d0a3588c463048766b98c2df88dd9212a6774a882060cdf62d: not written by this session
import Derived.Test.YtdjcfjfgdblefaaPProgFormsx0
namespace Go.Proofs.Ytdjcfjfgdblefaa.PProgForms
open Go.RowKit Go.Proofs.YtdjcfjfgdblefaaW.PrintWords Go.Proofs.YtdjcfjfgdblefaaW.PrintLast Go.Proofs.YtdjcfjfgdblefaaW.PrintMore
attribute [local go_sem] max2_int min2_int max_two min_two max_three min_three max_four min_four   -- for this text's walks alone
set_option linter.unusedVariables false
set_option linter.unusedSimpArgs false

/-! ### prog_Form: function 15 -/
mutual
def prog_Form.j1 : Nat → Int → Option (ByteArray)
  | 0, _ => none
  | k + 1, x0 => if x0 = 40 then (prog_Form.j2 k x0 (x0 == 40)) else (if x0 = 44 then (prog_Form.j2 k x0 (x0 == 44)) else (prog_Form.j2 k x0 (x0 == 65)))
def prog_Form.j2 : Nat → Int → Bool → Option (ByteArray)
  | 0, _, _ => none
  | k + 1, x17, x18 => if x18 = true then (some (⟨#[114, 45, 45, 110]⟩ : ByteArray)) else (if x17 = 41 then (some (⟨#[114, 114, 45, 45]⟩ : ByteArray)) else (if x17 = 42 then (some (⟨#[116, 45, 45, 45]⟩ : ByteArray)) else (if x17 = 43 then (some (⟨#[114, 116, 45, 45]⟩ : ByteArray)) else (if x17 = 45 then (prog_Form.j3 k x17 (x17 == 45)) else (prog_Form.j3 k x17 (x17 == 64))))))
def prog_Form.j3 : Nat → Int → Bool → Option (ByteArray)
  | 0, _, _ => none
  | k + 1, x17, x28 => if x28 = true then (some (⟨#[45, 45, 45, 45]⟩ : ByteArray)) else (if x17 = 50 then (some (⟨#[114, 118, 45, 45]⟩ : ByteArray)) else (if x17 = 51 then (some (⟨#[118, 114, 45, 45]⟩ : ByteArray)) else (if x17 = 52 then (some (⟨#[111, 97, 114, 45]⟩ : ByteArray)) else (if x17 = 53 then (some (⟨#[114, 97, 114, 119]⟩ : ByteArray)) else (if x17 = 54 then (some (⟨#[97, 114, 45, 45]⟩ : ByteArray)) else (if x17 = 55 then (prog_Form.j4 k x17 (x17 == 55)) else (prog_Form.j4 k x17 (x17 == 56))))))))
def prog_Form.j4 : Nat → Int → Bool → Option (ByteArray)
  | 0, _, _ => none
  | k + 1, x17, x41 => if x41 = true then (some (⟨#[108, 45, 45, 45]⟩ : ByteArray)) else (if x17 = 57 then (some (⟨#[114, 108, 45, 45]⟩ : ByteArray)) else (if x17 = 58 then (some (⟨#[99, 114, 45, 45]⟩ : ByteArray)) else (if x17 = 59 then (some (⟨#[111, 99, 111, 45]⟩ : ByteArray)) else (if x17 = 60 then (some (⟨#[99, 45, 45, 45]⟩ : ByteArray)) else (if x17 = 61 then (some (⟨#[115, 45, 45, 45]⟩ : ByteArray)) else (if x17 = 62 then (some (⟨#[111, 102, 112, 45]⟩ : ByteArray)) else (if x17 = 63 then (some (⟨#[114, 45, 45, 45]⟩ : ByteArray)) else (some (⟨#[]⟩ : ByteArray)))))))))
def prog_Form.j0 : Nat → Int → Bool → Option (ByteArray)
  | 0, _, _ => none
  | k + 1, x0, x3 => if x3 = true then (some (⟨#[114, 114, 45, 45]⟩ : ByteArray)) else (if x0 > 15 then (if x0 ≤ 36 then (some (⟨#[114, 114, 114, 45]⟩ : ByteArray)) else (prog_Form.j1 k x0)) else (prog_Form.j1 k x0))
end
def prog_Form.f (k : Nat) (a0 : Int) : Option (ByteArray) := if a0 ≥ 1 then (prog_Form.j0 k a0 (decide (a0 ≤ 15))) else (prog_Form.j0 k a0 false)
theorem prog_Form.mono_l : ∀ k, (∀ y0, LeO (prog_Form.j1 k y0) (prog_Form.j1 (k + 1) y0)) ∧ (∀ y0 y1, LeO (prog_Form.j2 k y0 y1) (prog_Form.j2 (k + 1) y0 y1)) ∧ (∀ y0 y1, LeO (prog_Form.j3 k y0 y1) (prog_Form.j3 (k + 1) y0 y1)) ∧ (∀ y0 y1, LeO (prog_Form.j4 k y0 y1) (prog_Form.j4 (k + 1) y0 y1)) ∧ (∀ y0 y1, LeO (prog_Form.j0 k y0 y1) (prog_Form.j0 (k + 1) y0 y1))
  | 0 => ⟨fun _ r h => by simp [prog_Form.j1] at h, fun _ _ r h => by simp [prog_Form.j2] at h, fun _ _ r h => by simp [prog_Form.j3] at h, fun _ _ r h => by simp [prog_Form.j4] at h, fun _ _ r h => by simp [prog_Form.j0] at h⟩
  | k + 1 => by
    obtain ⟨ih0, ih1, ih2, ih3, ih4⟩ := prog_Form.mono_l k
    refine ⟨?_, ?_, ?_, ?_, ?_⟩
    · intro y0
      unfold prog_Form.j1
      repeat' first
      | (with_reducible exact ih0 _)
      | (with_reducible exact ih1 _ _)
      | (with_reducible exact ih2 _ _)
      | (with_reducible exact ih3 _ _)
      | (with_reducible exact ih4 _ _)
      | (with_reducible exact LeO.refl _)
      | (with_reducible exact LeO.none _)
      | (with_reducible refine LeO.ite ?_ ?_)
      | (with_reducible refine LeO.bind ?_ (fun _ => ?_))
      | exact ih0 _
      | exact ih1 _ _
      | exact ih2 _ _
      | exact ih3 _ _
      | exact ih4 _ _
      | exact LeO.none _
      | refine LeO.ite ?_ ?_
      | refine LeO.bind ?_ (fun _ => ?_)
    · intro y0 y1
      unfold prog_Form.j2
      repeat' first
      | (with_reducible exact ih0 _)
      | (with_reducible exact ih1 _ _)
      | (with_reducible exact ih2 _ _)
      | (with_reducible exact ih3 _ _)
      | (with_reducible exact ih4 _ _)
      | (with_reducible exact LeO.refl _)
      | (with_reducible exact LeO.none _)
      | (with_reducible refine LeO.ite ?_ ?_)
      | (with_reducible refine LeO.bind ?_ (fun _ => ?_))
      | exact ih0 _
      | exact ih1 _ _
      | exact ih2 _ _
      | exact ih3 _ _
      | exact ih4 _ _
      | exact LeO.none _
      | refine LeO.ite ?_ ?_
      | refine LeO.bind ?_ (fun _ => ?_)
    · intro y0 y1
      unfold prog_Form.j3
      repeat' first
      | (with_reducible exact ih0 _)
      | (with_reducible exact ih1 _ _)
      | (with_reducible exact ih2 _ _)
      | (with_reducible exact ih3 _ _)
      | (with_reducible exact ih4 _ _)
      | (with_reducible exact LeO.refl _)
      | (with_reducible exact LeO.none _)
      | (with_reducible refine LeO.ite ?_ ?_)
      | (with_reducible refine LeO.bind ?_ (fun _ => ?_))
      | exact ih0 _
      | exact ih1 _ _
      | exact ih2 _ _
      | exact ih3 _ _
      | exact ih4 _ _
      | exact LeO.none _
      | refine LeO.ite ?_ ?_
      | refine LeO.bind ?_ (fun _ => ?_)
    · intro y0 y1
      unfold prog_Form.j4
      repeat' first
      | (with_reducible exact ih0 _)
      | (with_reducible exact ih1 _ _)
      | (with_reducible exact ih2 _ _)
      | (with_reducible exact ih3 _ _)
      | (with_reducible exact ih4 _ _)
      | (with_reducible exact LeO.refl _)
      | (with_reducible exact LeO.none _)
      | (with_reducible refine LeO.ite ?_ ?_)
      | (with_reducible refine LeO.bind ?_ (fun _ => ?_))
      | exact ih0 _
      | exact ih1 _ _
      | exact ih2 _ _
      | exact ih3 _ _
      | exact ih4 _ _
      | exact LeO.none _
      | refine LeO.ite ?_ ?_
      | refine LeO.bind ?_ (fun _ => ?_)
    · intro y0 y1
      unfold prog_Form.j0
      repeat' first
      | (with_reducible exact ih0 _)
      | (with_reducible exact ih1 _ _)
      | (with_reducible exact ih2 _ _)
      | (with_reducible exact ih3 _ _)
      | (with_reducible exact ih4 _ _)
      | (with_reducible exact LeO.refl _)
      | (with_reducible exact LeO.none _)
      | (with_reducible refine LeO.ite ?_ ?_)
      | (with_reducible refine LeO.bind ?_ (fun _ => ?_))
      | exact ih0 _
      | exact ih1 _ _
      | exact ih2 _ _
      | exact ih3 _ _
      | exact ih4 _ _
      | exact LeO.none _
      | refine LeO.ite ?_ ?_
      | refine LeO.bind ?_ (fun _ => ?_)
theorem prog_Form.mono : ∀ a0 k, LeO (prog_Form.f k a0) (prog_Form.f (k + 1) a0) := by
  intro a0 k
  obtain ⟨ih0, ih1, ih2, ih3, ih4⟩ := prog_Form.mono_l k
  unfold prog_Form.f
  repeat' first
      | (with_reducible exact ih0 _)
      | (with_reducible exact ih1 _ _)
      | (with_reducible exact ih2 _ _)
      | (with_reducible exact ih3 _ _)
      | (with_reducible exact ih4 _ _)
      | (with_reducible exact LeO.refl _)
      | (with_reducible exact LeO.none _)
      | (with_reducible refine LeO.ite ?_ ?_)
      | (with_reducible refine LeO.bind ?_ (fun _ => ?_))
      | exact ih0 _
      | exact ih1 _ _
      | exact ih2 _ _
      | exact ih3 _ _
      | exact ih4 _ _
      | exact LeO.none _
      | refine LeO.ite ?_ ?_
      | refine LeO.bind ?_ (fun _ => ?_)
set_option maxHeartbeats 8000000 in
set_option maxRecDepth 100000 in
theorem prog_Form.calls (k : Nat) (a0 : Int) (r : ByteArray) (w : World) (h : prog_Form.f k a0 = some r) :
    Calls Try.prog 15 #[.int .i64 a0] w fun e w' => e = .returned (.string r) ∧ Drawn0 w w' := by
  have H : (if a0 ≥ 1 then (prog_Form.j0 k a0 (decide (a0 ≤ 15))) else (prog_Form.j0 k a0 false)) = some r := h
  clear h
  have HC2 := Aside0.mk H
  clear H
  go_enter Try.func15, Try.ntmps15
  go_upto_block 0 with (fail)
  go_cut [] (fun wc => ∃ (kq : Nat), Aside0 (prog_Form.j1 kq a0 = some r) ∧ Aside0 (kq ≤ k) ∧ Drawn0 w wc)
  case first =>
    have H := HC2.out
    clear HC2
    have HC3 := Aside0.mk H
    clear H
    go_upto_region 1 with (fail)
    go_cut [3] (fun v3 wc => ∃ (kq : Nat) (x3_2 : Bool), v3 = .bool x3_2 ∧ Aside0 (prog_Form.j0 kq a0 x3_2 = some r) ∧ Aside0 (kq ≤ k) ∧ Drawn0 w wc)
    case first =>
      have H := HC3.out
      clear HC3
      by_cases c4 : a0 ≥ 1
      · rw [if_pos c4] at H
        have c4b0 : decide (1 ≤ a0) = true := decide_eq_true c4
        clear c4
        (first | rw [c4b0] | (simp only [i64_w, i32_w]; rw [c4b0]) | skip)
        have H' := Aside0.mk H
        clear H
        go_wp2
        go_meet
        case rel => exact ⟨_, (decide (a0 ≤ 15)), (by first | rfl | (simp; done) | (simp [*]; done)), H', ⟨by first | omega | exact Nat.le_refl _⟩, by repeat (first | exact Drawn0.refl _ | apply Drawn0.step)⟩
      · rw [if_neg c4] at H
        have c4b0 : decide (1 ≤ a0) = false := decide_eq_false c4
        clear c4
        (first | rw [c4b0] | (simp only [i64_w, i32_w]; rw [c4b0]) | skip)
        have H' := Aside0.mk H
        clear H
        go_wp2
        go_meet
        case rel => exact ⟨_, (false), (by first | rfl | (simp; done) | (simp [*]; done)), H', ⟨by first | omega | exact Nat.le_refl _⟩, by repeat (first | exact Drawn0.refl _ | apply Drawn0.step)⟩
    case rest =>
      clear HC3
      try clear c1
      try clear p2
      try clear c4
      try clear c4b0
      obtain ⟨kq, x3_2, rfl, HA, HJ2, ⟨mc2, rfl⟩⟩ := hcut
      cases kq with
      | zero => exact absurd HA.out (by simp [prog_Form.j0])
      | succ kj2 =>
        have H := HA.out
        clear HA
        simp only [prog_Form.j0] at H
        by_cases c5 : x3_2 = true
        · subst c5
          have H1 : (some (⟨#[114, 114, 45, 45]⟩ : ByteArray)) = some r := by rw [if_pos rfl] at H; exact H
          clear H
          have H := H1
          clear H1
          obtain rfl := Option.some.inj H
          go_wp2
          go_ret
          exact ⟨by first | rfl | (simp; done) | (simp [*]; done), by repeat (first | exact Drawn0.refl _ | apply Drawn0.step)⟩
        · replace c5 := Bool.eq_false_iff.mpr c5
          subst c5
          have H1 : (if a0 > 15 then (if a0 ≤ 36 then (some (⟨#[114, 114, 114, 45]⟩ : ByteArray)) else (prog_Form.j1 kj2 a0)) else (prog_Form.j1 kj2 a0)) = some r := by rw [if_neg (show ¬ (false = true) by decide)] at H; exact H
          clear H
          have H := H1
          clear H1
          by_cases c6 : a0 > 15
          · rw [if_pos c6] at H
            have c6b0 : decide (15 < a0) = true := decide_eq_true c6
            clear c6
            by_cases c7 : a0 ≤ 36
            · rw [if_pos c7] at H
              have c7b0 : decide (a0 ≤ 36) = true := decide_eq_true c7
              clear c7
              obtain rfl := Option.some.inj H
              go_wp2
              go_ret
              exact ⟨by first | rfl | (simp; done) | (simp [*]; done), by repeat (first | exact Drawn0.refl _ | apply Drawn0.step)⟩
            · rw [if_neg c7] at H
              have c7b0 : decide (a0 ≤ 36) = false := decide_eq_false c7
              clear c7
              have H' := Aside0.mk H
              clear H
              go_wp2
              go_meet
              case rel => exact ⟨_, H', ⟨by have := HJ2.out; first | omega | exact Nat.le_refl _⟩, by repeat (first | exact Drawn0.refl _ | apply Drawn0.step)⟩
          · rw [if_neg c6] at H
            have c6b0 : decide (15 < a0) = false := decide_eq_false c6
            clear c6
            have H' := Aside0.mk H
            clear H
            go_wp2
            go_meet
            case rel => exact ⟨_, H', ⟨by have := HJ2.out; first | omega | exact Nat.le_refl _⟩, by repeat (first | exact Drawn0.refl _ | apply Drawn0.step)⟩
  case rest =>
    clear HC2
    try clear c1
    try clear c2
    try clear p2
    try clear c4
    try clear c4b0
    try clear c5
    try clear c6
    try clear c6b0
    try clear c7
    try clear c7b0
    try clear p2
    obtain ⟨kq, HA, HJ1, ⟨mc1, rfl⟩⟩ := hcut
    cases kq with
    | zero => exact absurd HA.out (by simp [prog_Form.j1])
    | succ kj1 =>
      have H := HA.out
      clear HA
      simp only [prog_Form.j1] at H
      have HC8 := Aside0.mk H
      clear H
      go_upto_if 18 with (fail)
      go_cut [18] (fun v18 wc => ∃ (kq : Nat) (x18_7 : Bool), v18 = .bool x18_7 ∧ Aside0 (prog_Form.j2 kq a0 x18_7 = some r) ∧ Aside0 (kq ≤ kj1) ∧ Drawn0 w wc)
      case first =>
        have H := HC8.out
        clear HC8
        by_cases c9 : a0 = 40
        · rw [if_pos c9] at H
          have c9b0 : (a0 == 40) = true := beq_iff_eq.mpr c9
          have c9b1 : (a0 != 40) = false := bne_eq_false_iff_eq.mpr c9
          clear c9
          (first | rw [c9b0] | (simp only [i64_w, i32_w]; rw [c9b0]) | skip)
          have H' := Aside0.mk H
          clear H
          go_wp2
          go_meet
          case rel => exact ⟨_, ((a0 == 40)), (by first | rfl | (simp; done) | (simp [*]; done)), H', ⟨by have := HJ1.out; first | omega | exact Nat.le_refl _⟩, by repeat (first | exact Drawn0.refl _ | apply Drawn0.step)⟩
        · rw [if_neg c9] at H
          have c9b0 : (a0 == 40) = false := beq_eq_false_iff_ne.mpr c9
          have c9b1 : (a0 != 40) = true := bne_iff_ne.mpr c9
          (first | rw [c9b0] | (simp only [i64_w, i32_w]; rw [c9b0]) | skip)
          by_cases c10 : a0 = 44
          · rw [if_pos c10] at H
            have c10b0 : (a0 == 44) = true := beq_iff_eq.mpr c10
            have c10b1 : (a0 != 44) = false := bne_eq_false_iff_eq.mpr c10
            clear c10
            have H' := Aside0.mk H
            clear H
            go_wp2
            go_meet
            case rel => exact ⟨_, ((a0 == 44)), (by first | rfl | (simp; done) | (simp [*]; done)), H', ⟨by have := HJ1.out; first | omega | exact Nat.le_refl _⟩, by repeat (first | exact Drawn0.refl _ | apply Drawn0.step)⟩
          · rw [if_neg c10] at H
            have c10b0 : (a0 == 44) = false := beq_eq_false_iff_ne.mpr c10
            have c10b1 : (a0 != 44) = true := bne_iff_ne.mpr c10
            have H' := Aside0.mk H
            clear H
            go_wp2
            go_meet
            case rel => exact ⟨_, ((a0 == 65)), (by first | rfl | (simp; done) | (simp [*]; done)), H', ⟨by have := HJ1.out; first | omega | exact Nat.le_refl _⟩, by repeat (first | exact Drawn0.refl _ | apply Drawn0.step)⟩
      case rest =>
        clear HC8
        try clear c1
        try clear c2
        try clear p2
        try clear c4
        try clear c4b0
        try clear c5
        try clear c6
        try clear c6b0
        try clear c7
        try clear c7b0
        try clear c9
        try clear c9b0
        try clear c9b1
        try clear c10
        try clear c10b0
        try clear c10b1
        try clear p2
        obtain ⟨kq, x18_7, rfl, HA, HJ7, ⟨mc7, rfl⟩⟩ := hcut
        cases kq with
        | zero => exact absurd HA.out (by simp [prog_Form.j2])
        | succ kj7 =>
          have H := HA.out
          clear HA
          simp only [prog_Form.j2] at H
          by_cases c11 : x18_7 = true
          · subst c11
            have H1 : (some (⟨#[114, 45, 45, 110]⟩ : ByteArray)) = some r := by rw [if_pos rfl] at H; exact H
            clear H
            have H := H1
            clear H1
            obtain rfl := Option.some.inj H
            go_wp2
            go_ret
            exact ⟨by first | rfl | (simp; done) | (simp [*]; done), by repeat (first | exact Drawn0.refl _ | apply Drawn0.step)⟩
          · replace c11 := Bool.eq_false_iff.mpr c11
            subst c11
            have H1 : (if a0 = 41 then (some (⟨#[114, 114, 45, 45]⟩ : ByteArray)) else (if a0 = 42 then (some (⟨#[116, 45, 45, 45]⟩ : ByteArray)) else (if a0 = 43 then (some (⟨#[114, 116, 45, 45]⟩ : ByteArray)) else (if a0 = 45 then (prog_Form.j3 kj7 a0 (a0 == 45)) else (prog_Form.j3 kj7 a0 (a0 == 64)))))) = some r := by rw [if_neg (show ¬ (false = true) by decide)] at H; exact H
            clear H
            have H := H1
            clear H1
            by_cases c12 : a0 = 41
            · rw [if_pos c12] at H
              have c12b0 : (a0 == 41) = true := beq_iff_eq.mpr c12
              have c12b1 : (a0 != 41) = false := bne_eq_false_iff_eq.mpr c12
              clear c12
              obtain rfl := Option.some.inj H
              go_wp2
              go_ret
              exact ⟨by first | rfl | (simp; done) | (simp [*]; done), by repeat (first | exact Drawn0.refl _ | apply Drawn0.step)⟩
            · rw [if_neg c12] at H
              have c12b0 : (a0 == 41) = false := beq_eq_false_iff_ne.mpr c12
              have c12b1 : (a0 != 41) = true := bne_iff_ne.mpr c12
              by_cases c13 : a0 = 42
              · rw [if_pos c13] at H
                have c13b0 : (a0 == 42) = true := beq_iff_eq.mpr c13
                have c13b1 : (a0 != 42) = false := bne_eq_false_iff_eq.mpr c13
                clear c13
                obtain rfl := Option.some.inj H
                go_wp2
                go_ret
                exact ⟨by first | rfl | (simp; done) | (simp [*]; done), by repeat (first | exact Drawn0.refl _ | apply Drawn0.step)⟩
              · rw [if_neg c13] at H
                have c13b0 : (a0 == 42) = false := beq_eq_false_iff_ne.mpr c13
                have c13b1 : (a0 != 42) = true := bne_iff_ne.mpr c13
                by_cases c14 : a0 = 43
                · rw [if_pos c14] at H
                  have c14b0 : (a0 == 43) = true := beq_iff_eq.mpr c14
                  have c14b1 : (a0 != 43) = false := bne_eq_false_iff_eq.mpr c14
                  clear c14
                  obtain rfl := Option.some.inj H
                  go_wp2
                  go_ret
                  exact ⟨by first | rfl | (simp; done) | (simp [*]; done), by repeat (first | exact Drawn0.refl _ | apply Drawn0.step)⟩
                · rw [if_neg c14] at H
                  have c14b0 : (a0 == 43) = false := beq_eq_false_iff_ne.mpr c14
                  have c14b1 : (a0 != 43) = true := bne_iff_ne.mpr c14
                  have HC15 := Aside0.mk H
                  clear H
                  go_upto_if 28 with (fail)
                  go_cut [28] (fun v28 wc => ∃ (kq : Nat) (x28_14 : Bool), v28 = .bool x28_14 ∧ Aside0 (prog_Form.j3 kq a0 x28_14 = some r) ∧ Aside0 (kq ≤ kj7) ∧ Drawn0 w wc)
                  case first =>
                    have H := HC15.out
                    clear HC15
                    by_cases c16 : a0 = 45
                    · rw [if_pos c16] at H
                      have c16b0 : (a0 == 45) = true := beq_iff_eq.mpr c16
                      have c16b1 : (a0 != 45) = false := bne_eq_false_iff_eq.mpr c16
                      clear c16
                      (first | rw [c16b0] | (simp only [i64_w, i32_w]; rw [c16b0]) | skip)
                      have H' := Aside0.mk H
                      clear H
                      go_wp2
                      go_meet
                      case rel => exact ⟨_, ((a0 == 45)), (by first | rfl | (simp; done) | (simp [*]; done)), H', ⟨by have := HJ1.out; have := HJ7.out; first | omega | exact Nat.le_refl _⟩, by repeat (first | exact Drawn0.refl _ | apply Drawn0.step)⟩
                    · rw [if_neg c16] at H
                      have c16b0 : (a0 == 45) = false := beq_eq_false_iff_ne.mpr c16
                      have c16b1 : (a0 != 45) = true := bne_iff_ne.mpr c16
                      (first | rw [c16b0] | (simp only [i64_w, i32_w]; rw [c16b0]) | skip)
                      have H' := Aside0.mk H
                      clear H
                      go_wp2
                      go_meet
                      case rel => exact ⟨_, ((a0 == 64)), (by first | rfl | (simp; done) | (simp [*]; done)), H', ⟨by have := HJ1.out; have := HJ7.out; first | omega | exact Nat.le_refl _⟩, by repeat (first | exact Drawn0.refl _ | apply Drawn0.step)⟩
                  case rest =>
                    clear HC15
                    try clear c1
                    try clear c2
                    try clear p2
                    try clear c4
                    try clear c4b0
                    try clear c5
                    try clear c6
                    try clear c6b0
                    try clear c7
                    try clear c7b0
                    try clear c9
                    try clear c9b0
                    try clear c9b1
                    try clear c10
                    try clear c10b0
                    try clear c10b1
                    try clear c11
                    try clear c12
                    try clear c12b0
                    try clear c12b1
                    try clear c13
                    try clear c13b0
                    try clear c13b1
                    try clear c14
                    try clear c14b0
                    try clear c14b1
                    try clear c15
                    try clear c16
                    try clear c16b0
                    try clear c16b1
                    try clear p2
                    obtain ⟨kq, x28_14, rfl, HA, HJ14, ⟨mc14, rfl⟩⟩ := hcut
                    cases kq with
                    | zero => exact absurd HA.out (by simp [prog_Form.j3])
                    | succ kj14 =>
                      have H := HA.out
                      clear HA
                      simp only [prog_Form.j3] at H
                      by_cases c17 : x28_14 = true
                      · subst c17
                        have H1 : (some (⟨#[45, 45, 45, 45]⟩ : ByteArray)) = some r := by rw [if_pos rfl] at H; exact H
                        clear H
                        have H := H1
                        clear H1
                        obtain rfl := Option.some.inj H
                        go_wp2
                        go_ret
                        exact ⟨by first | rfl | (simp; done) | (simp [*]; done), by repeat (first | exact Drawn0.refl _ | apply Drawn0.step)⟩
                      · replace c17 := Bool.eq_false_iff.mpr c17
                        subst c17
                        have H1 : (if a0 = 50 then (some (⟨#[114, 118, 45, 45]⟩ : ByteArray)) else (if a0 = 51 then (some (⟨#[118, 114, 45, 45]⟩ : ByteArray)) else (if a0 = 52 then (some (⟨#[111, 97, 114, 45]⟩ : ByteArray)) else (if a0 = 53 then (some (⟨#[114, 97, 114, 119]⟩ : ByteArray)) else (if a0 = 54 then (some (⟨#[97, 114, 45, 45]⟩ : ByteArray)) else (if a0 = 55 then (prog_Form.j4 kj14 a0 (a0 == 55)) else (prog_Form.j4 kj14 a0 (a0 == 56)))))))) = some r := by rw [if_neg (show ¬ (false = true) by decide)] at H; exact H
                        clear H
                        have H := H1
                        clear H1
                        by_cases c18 : a0 = 50
                        · rw [if_pos c18] at H
                          have c18b0 : (a0 == 50) = true := beq_iff_eq.mpr c18
                          have c18b1 : (a0 != 50) = false := bne_eq_false_iff_eq.mpr c18
                          clear c18
                          obtain rfl := Option.some.inj H
                          go_wp2
                          go_ret
                          exact ⟨by first | rfl | (simp; done) | (simp [*]; done), by repeat (first | exact Drawn0.refl _ | apply Drawn0.step)⟩
                        · rw [if_neg c18] at H
                          have c18b0 : (a0 == 50) = false := beq_eq_false_iff_ne.mpr c18
                          have c18b1 : (a0 != 50) = true := bne_iff_ne.mpr c18
                          by_cases c19 : a0 = 51
                          · rw [if_pos c19] at H
                            have c19b0 : (a0 == 51) = true := beq_iff_eq.mpr c19
                            have c19b1 : (a0 != 51) = false := bne_eq_false_iff_eq.mpr c19
                            clear c19
                            obtain rfl := Option.some.inj H
                            go_wp2
                            go_ret
                            exact ⟨by first | rfl | (simp; done) | (simp [*]; done), by repeat (first | exact Drawn0.refl _ | apply Drawn0.step)⟩
                          · rw [if_neg c19] at H
                            have c19b0 : (a0 == 51) = false := beq_eq_false_iff_ne.mpr c19
                            have c19b1 : (a0 != 51) = true := bne_iff_ne.mpr c19
                            by_cases c20 : a0 = 52
                            · rw [if_pos c20] at H
                              have c20b0 : (a0 == 52) = true := beq_iff_eq.mpr c20
                              have c20b1 : (a0 != 52) = false := bne_eq_false_iff_eq.mpr c20
                              clear c20
                              obtain rfl := Option.some.inj H
                              go_wp2
                              go_ret
                              exact ⟨by first | rfl | (simp; done) | (simp [*]; done), by repeat (first | exact Drawn0.refl _ | apply Drawn0.step)⟩
                            · rw [if_neg c20] at H
                              have c20b0 : (a0 == 52) = false := beq_eq_false_iff_ne.mpr c20
                              have c20b1 : (a0 != 52) = true := bne_iff_ne.mpr c20
                              by_cases c21 : a0 = 53
                              · rw [if_pos c21] at H
                                have c21b0 : (a0 == 53) = true := beq_iff_eq.mpr c21
                                have c21b1 : (a0 != 53) = false := bne_eq_false_iff_eq.mpr c21
                                clear c21
                                obtain rfl := Option.some.inj H
                                go_wp2
                                go_ret
                                exact ⟨by first | rfl | (simp; done) | (simp [*]; done), by repeat (first | exact Drawn0.refl _ | apply Drawn0.step)⟩
                              · rw [if_neg c21] at H
                                have c21b0 : (a0 == 53) = false := beq_eq_false_iff_ne.mpr c21
                                have c21b1 : (a0 != 53) = true := bne_iff_ne.mpr c21
                                by_cases c22 : a0 = 54
                                · rw [if_pos c22] at H
                                  have c22b0 : (a0 == 54) = true := beq_iff_eq.mpr c22
                                  have c22b1 : (a0 != 54) = false := bne_eq_false_iff_eq.mpr c22
                                  clear c22
                                  obtain rfl := Option.some.inj H
                                  go_wp2
                                  go_ret
                                  exact ⟨by first | rfl | (simp; done) | (simp [*]; done), by repeat (first | exact Drawn0.refl _ | apply Drawn0.step)⟩
                                · rw [if_neg c22] at H
                                  have c22b0 : (a0 == 54) = false := beq_eq_false_iff_ne.mpr c22
                                  have c22b1 : (a0 != 54) = true := bne_iff_ne.mpr c22
                                  have HC23 := Aside0.mk H
                                  clear H
                                  go_upto_if 41 with (fail)
                                  go_cut [41] (fun v41 wc => ∃ (kq : Nat) (x41_22 : Bool), v41 = .bool x41_22 ∧ Aside0 (prog_Form.j4 kq a0 x41_22 = some r) ∧ Aside0 (kq ≤ kj14) ∧ Drawn0 w wc)
                                  case first =>
                                    have H := HC23.out
                                    clear HC23
                                    by_cases c24 : a0 = 55
                                    · rw [if_pos c24] at H
                                      have c24b0 : (a0 == 55) = true := beq_iff_eq.mpr c24
                                      have c24b1 : (a0 != 55) = false := bne_eq_false_iff_eq.mpr c24
                                      clear c24
                                      (first | rw [c24b0] | (simp only [i64_w, i32_w]; rw [c24b0]) | skip)
                                      have H' := Aside0.mk H
                                      clear H
                                      go_wp2
                                      go_meet
                                      case rel => exact ⟨_, ((a0 == 55)), (by first | rfl | (simp; done) | (simp [*]; done)), H', ⟨by have := HJ1.out; have := HJ7.out; have := HJ14.out; first | omega | exact Nat.le_refl _⟩, by repeat (first | exact Drawn0.refl _ | apply Drawn0.step)⟩
                                    · rw [if_neg c24] at H
                                      have c24b0 : (a0 == 55) = false := beq_eq_false_iff_ne.mpr c24
                                      have c24b1 : (a0 != 55) = true := bne_iff_ne.mpr c24
                                      (first | rw [c24b0] | (simp only [i64_w, i32_w]; rw [c24b0]) | skip)
                                      have H' := Aside0.mk H
                                      clear H
                                      go_wp2
                                      go_meet
                                      case rel => exact ⟨_, ((a0 == 56)), (by first | rfl | (simp; done) | (simp [*]; done)), H', ⟨by have := HJ1.out; have := HJ7.out; have := HJ14.out; first | omega | exact Nat.le_refl _⟩, by repeat (first | exact Drawn0.refl _ | apply Drawn0.step)⟩
                                  case rest =>
                                    clear HC23
                                    try clear c1
                                    try clear c2
                                    try clear p2
                                    try clear c4
                                    try clear c4b0
                                    try clear c5
                                    try clear c6
                                    try clear c6b0
                                    try clear c7
                                    try clear c7b0
                                    try clear c9
                                    try clear c9b0
                                    try clear c9b1
                                    try clear c10
                                    try clear c10b0
                                    try clear c10b1
                                    try clear c11
                                    try clear c12
                                    try clear c12b0
                                    try clear c12b1
                                    try clear c13
                                    try clear c13b0
                                    try clear c13b1
                                    try clear c14
                                    try clear c14b0
                                    try clear c14b1
                                    try clear c15
                                    try clear c16
                                    try clear c16b0
                                    try clear c16b1
                                    try clear c17
                                    try clear c18
                                    try clear c18b0
                                    try clear c18b1
                                    try clear c19
                                    try clear c19b0
                                    try clear c19b1
                                    try clear c20
                                    try clear c20b0
                                    try clear c20b1
                                    try clear c21
                                    try clear c21b0
                                    try clear c21b1
                                    try clear c22
                                    try clear c22b0
                                    try clear c22b1
                                    try clear c24
                                    try clear c24b0
                                    try clear c24b1
                                    try clear p2
                                    obtain ⟨kq, x41_22, rfl, HA, HJ22, ⟨mc22, rfl⟩⟩ := hcut
                                    cases kq with
                                    | zero => exact absurd HA.out (by simp [prog_Form.j4])
                                    | succ kj22 =>
                                      have H := HA.out
                                      clear HA
                                      simp only [prog_Form.j4] at H
                                      by_cases c25 : x41_22 = true
                                      · subst c25
                                        have H1 : (some (⟨#[108, 45, 45, 45]⟩ : ByteArray)) = some r := by rw [if_pos rfl] at H; exact H
                                        clear H
                                        have H := H1
                                        clear H1
                                        obtain rfl := Option.some.inj H
                                        go_wp2
                                        go_ret
                                        exact ⟨by first | rfl | (simp; done) | (simp [*]; done), by repeat (first | exact Drawn0.refl _ | apply Drawn0.step)⟩
                                      · replace c25 := Bool.eq_false_iff.mpr c25
                                        subst c25
                                        have H1 : (if a0 = 57 then (some (⟨#[114, 108, 45, 45]⟩ : ByteArray)) else (if a0 = 58 then (some (⟨#[99, 114, 45, 45]⟩ : ByteArray)) else (if a0 = 59 then (some (⟨#[111, 99, 111, 45]⟩ : ByteArray)) else (if a0 = 60 then (some (⟨#[99, 45, 45, 45]⟩ : ByteArray)) else (if a0 = 61 then (some (⟨#[115, 45, 45, 45]⟩ : ByteArray)) else (if a0 = 62 then (some (⟨#[111, 102, 112, 45]⟩ : ByteArray)) else (if a0 = 63 then (some (⟨#[114, 45, 45, 45]⟩ : ByteArray)) else (some (⟨#[]⟩ : ByteArray))))))))) = some r := by rw [if_neg (show ¬ (false = true) by decide)] at H; exact H
                                        clear H
                                        have H := H1
                                        clear H1
                                        by_cases c26 : a0 = 57
                                        · rw [if_pos c26] at H
                                          have c26b0 : (a0 == 57) = true := beq_iff_eq.mpr c26
                                          have c26b1 : (a0 != 57) = false := bne_eq_false_iff_eq.mpr c26
                                          clear c26
                                          obtain rfl := Option.some.inj H
                                          go_wp2
                                          go_ret
                                          exact ⟨by first | rfl | (simp; done) | (simp [*]; done), by repeat (first | exact Drawn0.refl _ | apply Drawn0.step)⟩
                                        · rw [if_neg c26] at H
                                          have c26b0 : (a0 == 57) = false := beq_eq_false_iff_ne.mpr c26
                                          have c26b1 : (a0 != 57) = true := bne_iff_ne.mpr c26
                                          by_cases c27 : a0 = 58
                                          · rw [if_pos c27] at H
                                            have c27b0 : (a0 == 58) = true := beq_iff_eq.mpr c27
                                            have c27b1 : (a0 != 58) = false := bne_eq_false_iff_eq.mpr c27
                                            clear c27
                                            obtain rfl := Option.some.inj H
                                            go_wp2
                                            go_ret
                                            exact ⟨by first | rfl | (simp; done) | (simp [*]; done), by repeat (first | exact Drawn0.refl _ | apply Drawn0.step)⟩
                                          · rw [if_neg c27] at H
                                            have c27b0 : (a0 == 58) = false := beq_eq_false_iff_ne.mpr c27
                                            have c27b1 : (a0 != 58) = true := bne_iff_ne.mpr c27
                                            by_cases c28 : a0 = 59
                                            · rw [if_pos c28] at H
                                              have c28b0 : (a0 == 59) = true := beq_iff_eq.mpr c28
                                              have c28b1 : (a0 != 59) = false := bne_eq_false_iff_eq.mpr c28
                                              clear c28
                                              obtain rfl := Option.some.inj H
                                              go_wp2
                                              go_ret
                                              exact ⟨by first | rfl | (simp; done) | (simp [*]; done), by repeat (first | exact Drawn0.refl _ | apply Drawn0.step)⟩
                                            · rw [if_neg c28] at H
                                              have c28b0 : (a0 == 59) = false := beq_eq_false_iff_ne.mpr c28
                                              have c28b1 : (a0 != 59) = true := bne_iff_ne.mpr c28
                                              by_cases c29 : a0 = 60
                                              · rw [if_pos c29] at H
                                                have c29b0 : (a0 == 60) = true := beq_iff_eq.mpr c29
                                                have c29b1 : (a0 != 60) = false := bne_eq_false_iff_eq.mpr c29
                                                clear c29
                                                obtain rfl := Option.some.inj H
                                                go_wp2
                                                go_ret
                                                exact ⟨by first | rfl | (simp; done) | (simp [*]; done), by repeat (first | exact Drawn0.refl _ | apply Drawn0.step)⟩
                                              · rw [if_neg c29] at H
                                                have c29b0 : (a0 == 60) = false := beq_eq_false_iff_ne.mpr c29
                                                have c29b1 : (a0 != 60) = true := bne_iff_ne.mpr c29
                                                by_cases c30 : a0 = 61
                                                · rw [if_pos c30] at H
                                                  have c30b0 : (a0 == 61) = true := beq_iff_eq.mpr c30
                                                  have c30b1 : (a0 != 61) = false := bne_eq_false_iff_eq.mpr c30
                                                  clear c30
                                                  obtain rfl := Option.some.inj H
                                                  go_wp2
                                                  go_ret
                                                  exact ⟨by first | rfl | (simp; done) | (simp [*]; done), by repeat (first | exact Drawn0.refl _ | apply Drawn0.step)⟩
                                                · rw [if_neg c30] at H
                                                  have c30b0 : (a0 == 61) = false := beq_eq_false_iff_ne.mpr c30
                                                  have c30b1 : (a0 != 61) = true := bne_iff_ne.mpr c30
                                                  by_cases c31 : a0 = 62
                                                  · rw [if_pos c31] at H
                                                    have c31b0 : (a0 == 62) = true := beq_iff_eq.mpr c31
                                                    have c31b1 : (a0 != 62) = false := bne_eq_false_iff_eq.mpr c31
                                                    clear c31
                                                    obtain rfl := Option.some.inj H
                                                    go_wp2
                                                    go_ret
                                                    exact ⟨by first | rfl | (simp; done) | (simp [*]; done), by repeat (first | exact Drawn0.refl _ | apply Drawn0.step)⟩
                                                  · rw [if_neg c31] at H
                                                    have c31b0 : (a0 == 62) = false := beq_eq_false_iff_ne.mpr c31
                                                    have c31b1 : (a0 != 62) = true := bne_iff_ne.mpr c31
                                                    by_cases c32 : a0 = 63
                                                    · rw [if_pos c32] at H
                                                      have c32b0 : (a0 == 63) = true := beq_iff_eq.mpr c32
                                                      have c32b1 : (a0 != 63) = false := bne_eq_false_iff_eq.mpr c32
                                                      clear c32
                                                      obtain rfl := Option.some.inj H
                                                      go_wp2
                                                      go_ret
                                                      exact ⟨by first | rfl | (simp; done) | (simp [*]; done), by repeat (first | exact Drawn0.refl _ | apply Drawn0.step)⟩
                                                    · rw [if_neg c32] at H
                                                      have c32b0 : (a0 == 63) = false := beq_eq_false_iff_ne.mpr c32
                                                      have c32b1 : (a0 != 63) = true := bne_iff_ne.mpr c32
                                                      obtain rfl := Option.some.inj H
                                                      go_wp2
                                                      go_ret
                                                      exact ⟨by first | rfl | (simp; done) | (simp [*]; done), by repeat (first | exact Drawn0.refl _ | apply Drawn0.step)⟩

end Go.Proofs.Ytdjcfjfgdblefaa.PProgForms
