/- Chapter 12: the laws of what is asked, and of order by clocks. No condition. -/
import Derived.Test.YtgipkikbefnokaaXOrN
set_option linter.constructorNameAsVariable false
namespace Go.Sc.Or
open Go Go.RowKit Go.Av Go.Proofs Go.Sc
set_option linter.unusedSimpArgs false
set_option linter.unusedVariables false
theorem ask_wrong {t : List Ev} (h : ¬ checkT t = 0) (l : List Int) : askT t l = checkT t := by rw [askT, if_neg h]
theorem ask_right {t : List Ev} (h : checkT t = 0) {l : List Int} (hl : ∀ i ∈ l, 0 ≤ i ∧ i < (t.length : Int)) : askT t l = 0 := by
  rw [askT, if_pos h, if_neg]
  rw [List.any_eq_true]
  rintro ⟨i, hi, hb⟩
  have := hl i hi
  unfold badP at hb
  simp at hb
  omega
theorem ask_bad {t : List Ev} (h : checkT t = 0) {l : List Int} {i : Int} (hi : i ∈ l) (hb : ¬ (0 ≤ i ∧ i < (t.length : Int))) : askT t l = 1 := by
  rw [askT, if_pos h, if_pos]
  rw [List.any_eq_true]
  refine ⟨i, hi, ?_⟩
  unfold badP
  simp
  omega
theorem mat_row {n : Nat} {f : Nat → Nat → Bool} {a b : Nat} (ha : a < n) (hb : b < n) : ((mat n f)[a]?.map fun r => r[b]?) = some (some (f a b)) := by simp [mat_get ha, hb]
theorem same_n (a b : List Nat) (ha : a.length < 1000000) : PureS Try.prog 31 [.sl 1 (a.map nrow), .sl 1 (b.map nrow)] (.b (decide (a = b))) := by
  have := same_ints (a.map fun n : Nat => (n : Int)) (b.map fun n : Nat => (n : Int)) (by simpa using ha)
  rw [List.map_map, List.map_map] at this
  have he : decide (a.map (fun n : Nat => (n : Int)) = b.map fun n : Nat => (n : Int)) = decide (a = b) := by
    rw [decide_eq_decide]
    constructor
    · intro h
      exact (List.map_inj_right (fun x y h => by omega)).1 h
    · rintro rfl; rfl
  rw [he] at this
  exact this
/-- scarab/scarablaw12.OrderAsks -/
def c9 : ACode :=
  (.seq (.reg none [⟨some 6, none, .q (.mv (.c (.b false)))⟩])
  (.keep [0, 1, 2]
  (.seq (.reg none [⟨some 17, none, .q (.mv (.t 0))⟩, ⟨some 18, none, .q (.mv (.t 1))⟩, ⟨some 19, none, .q (.mv (.t 2))⟩, ⟨some 20, none, .call (.f 23) [(.t 17), (.t 18), (.t 19)]⟩, ⟨some 16, none, .q (.mv (.t 20))⟩, ⟨some 21, none, .q (.ext 0 (.t 16))⟩, ⟨some 22, none, .q (.ext 1 (.t 16))⟩, ⟨some 7, none, .q (.mv (.t 21))⟩, ⟨some 8, none, .q (.mv (.t 22))⟩])
  (.keep [0, 1, 2, 7, 8]
  (.seq (.reg none [⟨some 24, none, .q (.mv (.t 0))⟩, ⟨some 25, none, .q (.mv (.t 1))⟩, ⟨some 26, none, .q (.mv (.t 2))⟩, ⟨some 27, none, .call (.f 34) [(.t 24), (.t 25), (.t 26)]⟩, ⟨some 23, none, .q (.mv (.t 27))⟩, ⟨some 28, none, .q (.ext 0 (.t 23))⟩, ⟨some 29, none, .q (.ext 1 (.t 23))⟩, ⟨some 9, none, .q (.mv (.t 28))⟩, ⟨some 10, none, .q (.mv (.t 29))⟩])
  (.keep [0, 1, 2, 7, 8, 9, 10]
  (.seq (.reg none [⟨some 31, none, .q (.mv (.t 0))⟩, ⟨some 32, none, .q (.mv (.t 1))⟩, ⟨some 33, none, .call (.f 35) [(.t 31), (.t 32)]⟩, ⟨some 30, none, .q (.mv (.t 33))⟩, ⟨some 34, none, .q (.ext 0 (.t 30))⟩, ⟨some 35, none, .q (.ext 1 (.t 30))⟩, ⟨some 11, none, .q (.mv (.t 34))⟩, ⟨some 12, none, .q (.mv (.t 35))⟩])
  (.keep [0, 1, 2, 7, 8, 9, 10, 11, 12]
  (.seq (.reg none [⟨some 36, none, .q (.mv (.t 0))⟩, ⟨some 37, none, .call (.f 22) [(.t 36)]⟩, ⟨some 13, none, .q (.mv (.t 37))⟩])
  (.keep [0, 1, 2, 7, 8, 9, 10, 11, 12, 13]
  (.seq (.reg none [⟨some 38, none, .q (.mv (.t 13))⟩, ⟨some 14, none, .q (.mv (.t 38))⟩])
  (.keep [0, 1, 2, 7, 8, 9, 10, 11, 12, 13, 14]
  (.seq (.seq (.reg none [⟨some 39, none, .q (.mv (.t 13))⟩, ⟨some 40, none, .q (.bin .eql (.t 39) (.c (.i .i64 0)))⟩, ⟨some 41, none, .q (.mv (.t 40))⟩, ⟨some 42, some (41, true), .q (.mv (.t 0))⟩, ⟨some 43, some (41, true), .q (.mv (.t 1))⟩, ⟨some 44, some (41, true), .call (.f 26) [(.t 42), (.t 43)]⟩, ⟨some 45, some (41, true), .q (.un .not (.t 44))⟩, ⟨some 46, none, .pk (.t 41) (.t 45) (.c (.b false))⟩])
    (.keep [0, 1, 2, 7, 8, 9, 10, 11, 12, 13, 14, 46]
    (.cond (.t 46) (.seq (.reg none [⟨some 13, none, .q (.mv (.c (.i .i64 1)))⟩])
      (.keep [0, 1, 2, 7, 8, 9, 10, 11, 12, 13]
      (.reg none [⟨some 14, none, .q (.mv (.c (.i .i64 1)))⟩])))
    .skip)))
  (.seq (.seq (.reg none [⟨some 47, none, .q (.mv (.t 13))⟩, ⟨some 48, none, .q (.bin .eql (.t 47) (.c (.i .i64 0)))⟩, ⟨some 49, none, .q (.mv (.t 48))⟩, ⟨some 50, some (49, true), .q (.mv (.t 0))⟩, ⟨some 51, some (49, true), .q (.mv (.t 2))⟩, ⟨some 52, some (49, true), .call (.f 26) [(.t 50), (.t 51)]⟩, ⟨some 53, some (49, true), .q (.un .not (.t 52))⟩, ⟨some 54, none, .pk (.t 49) (.t 53) (.c (.b false))⟩])
    (.keep [0, 1, 2, 7, 8, 9, 10, 11, 12, 13, 14, 54]
    (.cond (.t 54) (.reg none [⟨some 13, none, .q (.mv (.c (.i .i64 1)))⟩])
    .skip)))
  (.seq (.seq (.reg none [⟨some 55, none, .q (.mv (.t 8))⟩, ⟨some 56, none, .q (.mv (.t 13))⟩, ⟨some 57, none, .q (.bin .neq (.t 55) (.t 56))⟩, ⟨some 58, none, .q (.mv (.t 57))⟩, ⟨some 59, some (58, false), .q (.mv (.t 10))⟩, ⟨some 60, some (58, false), .q (.mv (.t 13))⟩, ⟨some 61, some (58, false), .q (.bin .neq (.t 59) (.t 60))⟩, ⟨some 62, none, .pk (.t 58) (.c (.b true)) (.t 61)⟩, ⟨some 63, none, .q (.mv (.t 62))⟩, ⟨some 64, some (63, false), .q (.mv (.t 12))⟩, ⟨some 65, some (63, false), .q (.mv (.t 14))⟩, ⟨some 66, some (63, false), .q (.bin .neq (.t 64) (.t 65))⟩, ⟨some 67, none, .pk (.t 63) (.c (.b true)) (.t 66)⟩, ⟨some 68, none, .q (.mv (.t 67))⟩, ⟨some 69, some (68, false), .call (.f 20) []⟩, ⟨some 70, some (68, false), .q (.un .not (.t 69))⟩, ⟨some 71, none, .pk (.t 68) (.c (.b true)) (.t 70)⟩])
    (.keep [0, 1, 2, 7, 9, 11, 13, 14, 71]
    (.cond (.t 71) (.seq (.reg none [⟨some 6, none, .q (.mv (.c (.b false)))⟩])
      .ret)
    .skip)))
  (.seq (.seq (.reg none [⟨some 72, none, .q (.mv (.t 14))⟩, ⟨some 73, none, .q (.bin .neq (.t 72) (.c (.i .i64 0)))⟩])
    (.keep [0, 1, 2, 7, 9, 11, 13, 73]
    (.cond (.t 73) (.seq (.reg none [⟨some 74, none, .q (.mv (.t 7))⟩, ⟨some 75, none, .q (.un .not (.t 74))⟩, ⟨some 76, none, .q (.mv (.t 75))⟩, ⟨some 77, some (76, true), .q (.mv (.t 9))⟩, ⟨some 78, some (76, true), .q (.un .not (.t 77))⟩, ⟨some 79, none, .pk (.t 76) (.t 78) (.c (.b false))⟩, ⟨some 80, none, .q (.mv (.t 79))⟩, ⟨some 81, some (80, true), .q (.mv (.t 11))⟩, ⟨some 82, some (80, true), .q (.len false (.t 81))⟩, ⟨some 83, some (80, true), .q (.bin .eql (.t 82) (.c (.i .i64 0)))⟩, ⟨some 84, none, .pk (.t 80) (.t 83) (.c (.b false))⟩, ⟨some 6, none, .q (.mv (.t 84))⟩])
      .ret)
    .skip)))
  (.seq (.reg none [⟨some 85, none, .q (.mv (.t 0))⟩, ⟨some 86, none, .call (.f 36) [(.t 85)]⟩, ⟨some 15, none, .q (.mv (.t 86))⟩])
  (.keep [1, 2, 7, 9, 11, 13, 15]
  (.seq (.seq (.reg none [⟨some 87, none, .q (.mv (.t 11))⟩, ⟨some 88, none, .q (.mv (.t 15))⟩, ⟨some 89, none, .q (.mv (.t 1))⟩, ⟨some 90, none, .call (.f 37) [(.t 88), (.t 89)]⟩, ⟨some 91, none, .call (.f 31) [(.t 87), (.t 90)]⟩, ⟨some 92, none, .q (.un .not (.t 91))⟩])
    (.keep [1, 2, 7, 9, 13, 15, 92]
    (.cond (.t 92) (.seq (.reg none [⟨some 6, none, .q (.mv (.c (.b false)))⟩])
      .ret)
    .skip)))
  (.seq (.seq (.reg none [⟨some 93, none, .q (.mv (.t 13))⟩, ⟨some 94, none, .q (.bin .neq (.t 93) (.c (.i .i64 0)))⟩])
    (.keep [1, 2, 7, 9, 15, 94]
    (.cond (.t 94) (.seq (.reg none [⟨some 95, none, .q (.mv (.t 7))⟩, ⟨some 96, none, .q (.un .not (.t 95))⟩, ⟨some 97, none, .q (.mv (.t 96))⟩, ⟨some 98, some (97, true), .q (.mv (.t 9))⟩, ⟨some 99, some (97, true), .q (.un .not (.t 98))⟩, ⟨some 100, none, .pk (.t 97) (.t 99) (.c (.b false))⟩, ⟨some 6, none, .q (.mv (.t 100))⟩])
      .ret)
    .skip)))
  (.seq (.reg none [⟨some 101, none, .q (.mv (.t 7))⟩, ⟨some 102, none, .q (.mv (.t 15))⟩, ⟨some 103, none, .q (.mv (.t 1))⟩, ⟨some 104, none, .q (.ias 1 (.t 102) (.t 103))⟩, ⟨some 105, none, .q (.ld none (.t 104))⟩, ⟨some 106, none, .q (.mv (.t 2))⟩, ⟨some 107, none, .q (.ias 1 (.t 105) (.t 106))⟩, ⟨some 108, none, .q (.ld none (.t 107))⟩, ⟨some 109, none, .q (.eqb false (.t 101) (.t 108))⟩, ⟨some 110, none, .q (.mv (.t 109))⟩, ⟨some 111, some (110, true), .q (.mv (.t 9))⟩, ⟨some 112, some (110, true), .q (.mv (.t 1))⟩, ⟨some 113, some (110, true), .q (.mv (.t 2))⟩, ⟨some 114, some (110, true), .q (.bin .neq (.t 112) (.t 113))⟩, ⟨some 115, some (110, true), .q (.mv (.t 114))⟩, ⟨some 116, some (115, true), .q (.mv (.t 15))⟩, ⟨some 117, some (115, true), .q (.mv (.t 1))⟩, ⟨some 118, some (115, true), .q (.ias 1 (.t 116) (.t 117))⟩, ⟨some 119, some (115, true), .q (.ld none (.t 118))⟩, ⟨some 120, some (115, true), .q (.mv (.t 2))⟩, ⟨some 121, some (115, true), .q (.ias 1 (.t 119) (.t 120))⟩, ⟨some 122, some (115, true), .q (.ld none (.t 121))⟩, ⟨some 123, some (115, true), .q (.un .not (.t 122))⟩, ⟨some 124, some (110, true), .pk (.t 115) (.t 123) (.c (.b false))⟩, ⟨some 125, some (110, true), .q (.mv (.t 124))⟩, ⟨some 126, some (125, true), .q (.mv (.t 15))⟩, ⟨some 127, some (125, true), .q (.mv (.t 2))⟩, ⟨some 128, some (125, true), .q (.ias 1 (.t 126) (.t 127))⟩, ⟨some 129, some (125, true), .q (.ld none (.t 128))⟩, ⟨some 130, some (125, true), .q (.mv (.t 1))⟩, ⟨some 131, some (125, true), .q (.ias 1 (.t 129) (.t 130))⟩, ⟨some 132, some (125, true), .q (.ld none (.t 131))⟩, ⟨some 133, some (125, true), .q (.un .not (.t 132))⟩, ⟨some 134, some (110, true), .pk (.t 125) (.t 133) (.c (.b false))⟩, ⟨some 135, some (110, true), .q (.eqb false (.t 111) (.t 134))⟩, ⟨some 136, none, .pk (.t 110) (.t 135) (.c (.b false))⟩, ⟨some 6, none, .q (.mv (.t 136))⟩])
  .ret)))))))))))))))))))))
theorem r9 : (Try.f9.body.bind (resC Try.prog Try.f9.ntmps)) = some (strip c9) := by kernel_rfl
theorem s9 : Try.f9.results.toList.mapM (resRes Try.prog) = some [.t 6] := by kernel_rfl
/-- scarab/scarablaw12.OrderByClocks -/
def c6 : ACode :=
  (.seq (.reg none [⟨some 6, none, .q (.mv (.c (.b false)))⟩])
  (.keep [0, 1, 2]
  (.seq (.reg none [⟨some 14, none, .q (.mv (.t 0))⟩, ⟨some 15, none, .call (.f 25) [(.t 14)]⟩, ⟨some 13, none, .q (.mv (.t 15))⟩, ⟨some 16, none, .q (.ext 0 (.t 13))⟩, ⟨some 17, none, .q (.ext 1 (.t 13))⟩, ⟨some 7, none, .q (.mv (.t 16))⟩, ⟨some 8, none, .q (.mv (.t 17))⟩])
  (.keep [0, 1, 2, 7, 8]
  (.seq (.seq (.reg none [⟨some 18, none, .q (.mv (.t 0))⟩, ⟨some 19, none, .call (.f 22) [(.t 18)]⟩, ⟨some 20, none, .q (.bin .neq (.t 19) (.c (.i .i64 0)))⟩, ⟨some 21, none, .q (.mv (.t 20))⟩, ⟨some 22, some (21, false), .q (.mv (.t 0))⟩, ⟨some 23, some (21, false), .q (.mv (.t 1))⟩, ⟨some 24, some (21, false), .call (.f 26) [(.t 22), (.t 23)]⟩, ⟨some 25, some (21, false), .q (.un .not (.t 24))⟩, ⟨some 26, none, .pk (.t 21) (.c (.b true)) (.t 25)⟩, ⟨some 27, none, .q (.mv (.t 26))⟩, ⟨some 28, some (27, false), .q (.mv (.t 0))⟩, ⟨some 29, some (27, false), .q (.mv (.t 2))⟩, ⟨some 30, some (27, false), .call (.f 26) [(.t 28), (.t 29)]⟩, ⟨some 31, some (27, false), .q (.un .not (.t 30))⟩, ⟨some 32, none, .pk (.t 27) (.c (.b true)) (.t 31)⟩])
    (.keep [0, 1, 2, 7, 8, 32]
    (.cond (.t 32) (.seq (.reg none [⟨some 33, none, .q (.mv (.t 8))⟩, ⟨some 34, none, .q (.bin .eql (.t 33) (.c (.i .i64 0)))⟩, ⟨some 35, none, .q (.mv (.t 0))⟩, ⟨some 36, none, .call (.f 22) [(.t 35)]⟩, ⟨some 37, none, .q (.bin .eql (.t 36) (.c (.i .i64 0)))⟩, ⟨some 38, none, .q (.eqb false (.t 34) (.t 37))⟩, ⟨some 39, none, .q (.mv (.t 38))⟩, ⟨some 40, some (39, true), .call (.f 20) []⟩, ⟨some 41, none, .pk (.t 39) (.t 40) (.c (.b false))⟩, ⟨some 6, none, .q (.mv (.t 41))⟩])
      .ret)
    .skip)))
  (.seq (.reg none [⟨some 43, none, .q (.mv (.t 0))⟩, ⟨some 44, none, .q (.mv (.t 1))⟩, ⟨some 45, none, .q (.mv (.t 2))⟩, ⟨some 46, none, .call (.f 23) [(.t 43), (.t 44), (.t 45)]⟩, ⟨some 42, none, .q (.mv (.t 46))⟩, ⟨some 47, none, .q (.ext 0 (.t 42))⟩, ⟨some 48, none, .q (.ext 1 (.t 42))⟩, ⟨some 9, none, .q (.mv (.t 47))⟩, ⟨some 10, none, .q (.mv (.t 48))⟩])
  (.keep [0, 1, 2, 7, 8, 9, 10]
  (.seq (.seq (.reg none [⟨some 49, none, .q (.mv (.t 8))⟩, ⟨some 50, none, .q (.bin .neq (.t 49) (.c (.i .i64 0)))⟩, ⟨some 51, none, .q (.mv (.t 50))⟩, ⟨some 52, some (51, false), .q (.mv (.t 10))⟩, ⟨some 53, some (51, false), .q (.bin .neq (.t 52) (.c (.i .i64 0)))⟩, ⟨some 54, none, .pk (.t 51) (.c (.b true)) (.t 53)⟩, ⟨some 55, none, .q (.mv (.t 54))⟩, ⟨some 56, some (55, false), .q (.mv (.t 7))⟩, ⟨some 57, some (55, false), .q (.len false (.t 56))⟩, ⟨some 58, some (55, false), .q (.mv (.t 0))⟩, ⟨some 59, some (55, false), .q (.len false (.t 58))⟩, ⟨some 60, some (55, false), .q (.bin .neq (.t 57) (.t 59))⟩, ⟨some 61, none, .pk (.t 55) (.c (.b true)) (.t 60)⟩])
    (.keep [0, 1, 2, 7, 9, 61]
    (.cond (.t 61) (.seq (.reg none [⟨some 6, none, .q (.mv (.c (.b false)))⟩])
      .ret)
    .skip)))
  (.seq (.reg none [⟨some 62, none, .q (.mv (.t 1))⟩, ⟨some 63, none, .q (.mv (.t 2))⟩, ⟨some 64, none, .q (.bin .lss (.t 62) (.t 63))⟩, ⟨some 11, none, .q (.mv (.t 64))⟩])
  (.keep [0, 1, 2, 7, 9, 11]
  (.seq (.seq (.reg none [⟨some 12, none, .q (.mv (.c (.i .i64 0)))⟩])
    (.keep [0, 1, 2, 7, 9, 11, 12]
    (.blk 0 (.keep [0, 1, 2, 7, 9, 11, 12]
    (.loop (.fin [0, 1, 2, 7, 9, 11, 12]
      (.seq (.seq (.reg none [⟨some 65, none, .q (.mv (.t 12))⟩, ⟨some 66, none, .q (.bin .lss (.t 65) (.c (.i .i64 6)))⟩])
        (.keep [0, 1, 2, 7, 9, 11, 12, 66]
        (.cond (.t 66) .skip
        (.exit 0))))
      (.seq (.blk 1 (.reg (some (17, [])) [⟨some 69, none, .q (.mv (.t 11))⟩, ⟨some 70, none, .q (.mv (.t 69))⟩, ⟨some 71, some (70, true), .q (.mv (.t 7))⟩, ⟨some 72, some (70, true), .q (.mv (.t 1))⟩, ⟨some 73, some (70, true), .q (.mv (.t 12))⟩, ⟨some 74, some (70, true), .q (.ias 6 (.t 71) (.t 72))⟩, ⟨some 75, some (70, true), .q (.iaa 6 1 (.t 74) (.t 73))⟩, ⟨some 76, some (70, true), .q (.ld none (.t 75))⟩, ⟨some 77, some (70, true), .q (.mv (.t 7))⟩, ⟨some 78, some (70, true), .q (.mv (.t 2))⟩, ⟨some 79, some (70, true), .q (.mv (.t 12))⟩, ⟨some 80, some (70, true), .q (.ias 6 (.t 77) (.t 78))⟩, ⟨some 81, some (70, true), .q (.iaa 6 1 (.t 80) (.t 79))⟩, ⟨some 82, some (70, true), .q (.ld none (.t 81))⟩, ⟨some 83, some (70, true), .q (.bin .leq (.t 76) (.t 82))⟩, ⟨some 84, none, .pk (.t 70) (.t 83) (.c (.b false))⟩, ⟨some 11, none, .q (.mv (.t 84))⟩]))
      (.keep [0, 1, 2, 7, 9, 11, 12]
      (.reg none [⟨some 67, none, .q (.mv (.t 12))⟩, ⟨some 68, none, .q (.bin .add (.t 67) (.c (.i .i64 1)))⟩, ⟨some 12, none, .q (.mv (.t 68))⟩]))))))))))
  (.seq (.reg (some (34, [])) [⟨some 85, none, .q (.mv (.t 9))⟩, ⟨some 86, none, .q (.mv (.t 11))⟩, ⟨some 87, none, .q (.eqb false (.t 85) (.t 86))⟩, ⟨some 88, none, .q (.mv (.t 87))⟩, ⟨some 89, some (88, true), .q (.mv (.t 9))⟩, ⟨some 90, some (88, true), .q (.mv (.t 1))⟩, ⟨some 91, some (88, true), .q (.mv (.t 2))⟩, ⟨some 92, some (88, true), .q (.bin .lss (.t 90) (.t 91))⟩, ⟨some 93, some (88, true), .q (.mv (.t 92))⟩, ⟨some 94, some (93, true), .q (.mv (.t 7))⟩, ⟨some 95, some (93, true), .q (.mv (.t 1))⟩, ⟨some 96, some (93, true), .q (.mv (.t 0))⟩, ⟨some 97, some (93, true), .q (.mv (.t 1))⟩, ⟨some 98, some (93, true), .q (.ias 26 (.t 96) (.t 97))⟩, ⟨some 99, some (93, true), .q (.fa 0 (.t 98))⟩, ⟨some 100, some (93, true), .q (.ld none (.t 99))⟩, ⟨some 101, some (93, true), .q (.ias 6 (.t 94) (.t 95))⟩, ⟨some 102, some (93, true), .q (.iaa 6 1 (.t 101) (.t 100))⟩, ⟨some 103, some (93, true), .q (.ld none (.t 102))⟩, ⟨some 104, some (93, true), .q (.mv (.t 7))⟩, ⟨some 105, some (93, true), .q (.mv (.t 2))⟩, ⟨some 106, some (93, true), .q (.mv (.t 0))⟩, ⟨some 107, some (93, true), .q (.mv (.t 1))⟩, ⟨some 108, some (93, true), .q (.ias 26 (.t 106) (.t 107))⟩, ⟨some 109, some (93, true), .q (.fa 0 (.t 108))⟩, ⟨some 110, some (93, true), .q (.ld none (.t 109))⟩, ⟨some 111, some (93, true), .q (.ias 6 (.t 104) (.t 105))⟩, ⟨some 112, some (93, true), .q (.iaa 6 1 (.t 111) (.t 110))⟩, ⟨some 113, some (93, true), .q (.ld none (.t 112))⟩, ⟨some 114, some (93, true), .q (.bin .leq (.t 103) (.t 113))⟩, ⟨some 115, some (88, true), .pk (.t 93) (.t 114) (.c (.b false))⟩, ⟨some 116, some (88, true), .q (.eqb false (.t 89) (.t 115))⟩, ⟨some 117, none, .pk (.t 88) (.t 116) (.c (.b false))⟩, ⟨some 118, none, .q (.mv (.t 117))⟩, ⟨some 119, some (118, true), .call (.f 20) []⟩, ⟨some 120, none, .pk (.t 118) (.t 119) (.c (.b false))⟩, ⟨some 6, none, .q (.mv (.t 120))⟩])
  .ret))))))))))))
theorem r6 : (Try.f6.body.bind (resC Try.prog Try.f6.ntmps)) = some (strip c6) := by kernel_rfl
theorem s6 : Try.f6.results.toList.mapM (resRes Try.prog) = some [.t 6] := by kernel_rfl
theorem asks_wrong (t : List Ev) (ht : t.length < 1000000000000) (i j : Int) (h0 : ¬ checkT t = 0) : PureS Try.prog 9 [.sl 26 (t.map Ev.row), .i .i64 i, .i .i64 j] (.b true) := by
  have hA2 : askT t [i, j] = checkT t := ask_wrong h0 _
  have hA1 : askT t [i] = checkT t := ask_wrong h0 _
  have hpi : True := trivial
  have hpj : True := trivial
  have hN : True := trivial
  have hM : True := trivial
  refine fun_go hmx Try.func9 r9 s9 (by rw [Try.ntmps9]; simp) ?_
  unfold c9
  simp
  first
    | refine callk rfl Try.call23 (before_all t (by omega) i j) rfl ?_
    | refine callks rfl Try.call23 (before_all t (by omega) i j) rfl ?_
    | refine callq rfl Try.call23 (before_all t (by omega) i j) rfl ?_
    | refine callqe rfl Try.call23 (before_all t (by omega) i j) rfl ?_
  simp [hA2, h0]
  first
    | refine callk rfl Try.call34 (apart_all t (by omega) i j) rfl ?_
    | refine callks rfl Try.call34 (apart_all t (by omega) i j) rfl ?_
    | refine callq rfl Try.call34 (apart_all t (by omega) i j) rfl ?_
    | refine callqe rfl Try.call34 (apart_all t (by omega) i j) rfl ?_
  simp [hA2, h0]
  first
    | refine callk rfl Try.call35 (past_all t (by omega) i) rfl ?_
    | refine callks rfl Try.call35 (past_all t (by omega) i) rfl ?_
    | refine callq rfl Try.call35 (past_all t (by omega) i) rfl ?_
    | refine callqe rfl Try.call35 (past_all t (by omega) i) rfl ?_
  simp [hA2, hA1, h0, -List.map_reverse]
  first
    | refine callk rfl Try.call22 (checkR_p t (by omega)) rfl ?_
    | refine callks rfl Try.call22 (checkR_p t (by omega)) rfl ?_
    | refine callq rfl Try.call22 (checkR_p t (by omega)) rfl ?_
    | refine callqe rfl Try.call22 (checkR_p t (by omega)) rfl ?_
  simp [h0, -List.map_reverse]
  first
    | refine callkg rfl Try.call26 rfl (fun _ => (place_p t i)) (fun hG => by first | (simp; done) | (simp at hG; done) | simpa using hG) rfl ?_
    | refine callksg rfl Try.call26 rfl (fun _ => (place_p t i)) (fun hG => by first | (simp; done) | (simp at hG; done) | simpa using hG) rfl ?_
    | refine callqg rfl Try.call26 rfl (fun _ => (place_p t i)) (fun hG => by first | (simp; done) | (simp at hG; done) | simpa using hG) rfl ?_
  simp [h0, hpi, hN, -List.map_reverse]
  first
    | refine callkg rfl Try.call26 rfl (fun _ => (place_p t j)) (fun hG => by first | (simp; done) | (simp at hG; done) | simpa using hG) rfl ?_
    | refine callksg rfl Try.call26 rfl (fun _ => (place_p t j)) (fun hG => by first | (simp; done) | (simp at hG; done) | simpa using hG) rfl ?_
    | refine callqg rfl Try.call26 rfl (fun _ => (place_p t j)) (fun hG => by first | (simp; done) | (simp at hG; done) | simpa using hG) rfl ?_
  simp [h0, hpi, hpj, hN, hM, hA1, hA2, -List.map_reverse]
  first
    | refine callkg rfl Try.call20 rfl (fun _ => speaks_p) (fun hG => by first | (simp; done) | (simp at hG; done) | simpa using hG) rfl ?_
    | refine callksg rfl Try.call20 rfl (fun _ => speaks_p) (fun hG => by first | (simp; done) | (simp at hG; done) | simpa using hG) rfl ?_
    | refine callqg rfl Try.call20 rfl (fun _ => speaks_p) (fun hG => by first | (simp; done) | (simp at hG; done) | simpa using hG) rfl ?_
  simp [h0, hpi, hpj, hN, hM, hA1, hA2, -List.map_reverse]
theorem asks_i (t : List Ev) (ht : t.length < 1000000000000) (i j : Int) (h0 : checkT t = 0) (hi : ¬ (0 ≤ i ∧ i < (t.length : Int))) : PureS Try.prog 9 [.sl 26 (t.map Ev.row), .i .i64 i, .i .i64 j] (.b true) := by
  have hA2 : askT t [i, j] = 1 := ask_bad h0 (by simp) hi
  have hA1 : askT t [i] = 1 := ask_bad h0 (by simp) hi
  have hpi : (decide (0 ≤ i) && decide (i < (t.length : Int))) = false := by rw [Bool.eq_false_iff]; simp; omega
  have hpj : True := trivial
  have hN : True := trivial
  have hM : True := trivial
  refine fun_go hmx Try.func9 r9 s9 (by rw [Try.ntmps9]; simp) ?_
  unfold c9
  simp
  first
    | refine callk rfl Try.call23 (before_all t (by omega) i j) rfl ?_
    | refine callks rfl Try.call23 (before_all t (by omega) i j) rfl ?_
    | refine callq rfl Try.call23 (before_all t (by omega) i j) rfl ?_
    | refine callqe rfl Try.call23 (before_all t (by omega) i j) rfl ?_
  simp [hA2, h0]
  first
    | refine callk rfl Try.call34 (apart_all t (by omega) i j) rfl ?_
    | refine callks rfl Try.call34 (apart_all t (by omega) i j) rfl ?_
    | refine callq rfl Try.call34 (apart_all t (by omega) i j) rfl ?_
    | refine callqe rfl Try.call34 (apart_all t (by omega) i j) rfl ?_
  simp [hA2, h0]
  first
    | refine callk rfl Try.call35 (past_all t (by omega) i) rfl ?_
    | refine callks rfl Try.call35 (past_all t (by omega) i) rfl ?_
    | refine callq rfl Try.call35 (past_all t (by omega) i) rfl ?_
    | refine callqe rfl Try.call35 (past_all t (by omega) i) rfl ?_
  simp [hA2, hA1, h0, -List.map_reverse]
  first
    | refine callk rfl Try.call22 (checkR_p t (by omega)) rfl ?_
    | refine callks rfl Try.call22 (checkR_p t (by omega)) rfl ?_
    | refine callq rfl Try.call22 (checkR_p t (by omega)) rfl ?_
    | refine callqe rfl Try.call22 (checkR_p t (by omega)) rfl ?_
  simp [h0, -List.map_reverse]
  first
    | refine callkg rfl Try.call26 rfl (fun _ => (place_p t i)) (fun hG => by first | (simp; done) | (simp at hG; done) | simpa using hG) rfl ?_
    | refine callksg rfl Try.call26 rfl (fun _ => (place_p t i)) (fun hG => by first | (simp; done) | (simp at hG; done) | simpa using hG) rfl ?_
    | refine callqg rfl Try.call26 rfl (fun _ => (place_p t i)) (fun hG => by first | (simp; done) | (simp at hG; done) | simpa using hG) rfl ?_
  simp [h0, hpi, hN, -List.map_reverse]
  first
    | refine callkg rfl Try.call26 rfl (fun _ => (place_p t j)) (fun hG => by first | (simp; done) | (simp at hG; done) | simpa using hG) rfl ?_
    | refine callksg rfl Try.call26 rfl (fun _ => (place_p t j)) (fun hG => by first | (simp; done) | (simp at hG; done) | simpa using hG) rfl ?_
    | refine callqg rfl Try.call26 rfl (fun _ => (place_p t j)) (fun hG => by first | (simp; done) | (simp at hG; done) | simpa using hG) rfl ?_
  simp [h0, hpi, hpj, hN, hM, hA1, hA2, -List.map_reverse]
  first
    | refine callkg rfl Try.call20 rfl (fun _ => speaks_p) (fun hG => by first | (simp; done) | (simp at hG; done) | simpa using hG) rfl ?_
    | refine callksg rfl Try.call20 rfl (fun _ => speaks_p) (fun hG => by first | (simp; done) | (simp at hG; done) | simpa using hG) rfl ?_
    | refine callqg rfl Try.call20 rfl (fun _ => speaks_p) (fun hG => by first | (simp; done) | (simp at hG; done) | simpa using hG) rfl ?_
  simp [h0, hpi, hpj, hN, hM, hA1, hA2, -List.map_reverse]
theorem asks_j (t : List Ev) (ht : t.length < 1000000000000) (i : Nat) (j : Int) (h0 : checkT t = 0) (hi : 0 ≤ (i : Int) ∧ (i : Int) < (t.length : Int)) (hj : ¬ (0 ≤ j ∧ j < (t.length : Int))) : PureS Try.prog 9 [.sl 26 (t.map Ev.row), .i .i64 (i : Int), .i .i64 j] (.b true) := by
  have hA2 : askT t [(i : Int), j] = 1 := ask_bad h0 (i := j) (by simp) hj
  have hA1 : askT t [(i : Int)] = 0 := ask_right h0 (by simp; omega)
  have hpi : (decide (0 ≤ (i : Int)) && decide ((i : Int) < (t.length : Int))) = true := by simp; omega
  have hpj : (decide (0 ≤ j) && decide (j < (t.length : Int))) = false := by rw [Bool.eq_false_iff]; simp; omega
  have hiN : i < t.length := by omega
  have hN := hiN
  have hM : True := trivial
  refine fun_go hmx Try.func9 r9 s9 (by rw [Try.ntmps9]; simp) ?_
  unfold c9
  simp
  first
    | refine callk rfl Try.call23 (before_all t (by omega) i j) rfl ?_
    | refine callks rfl Try.call23 (before_all t (by omega) i j) rfl ?_
    | refine callq rfl Try.call23 (before_all t (by omega) i j) rfl ?_
    | refine callqe rfl Try.call23 (before_all t (by omega) i j) rfl ?_
  simp [hA2, h0]
  first
    | refine callk rfl Try.call34 (apart_all t (by omega) i j) rfl ?_
    | refine callks rfl Try.call34 (apart_all t (by omega) i j) rfl ?_
    | refine callq rfl Try.call34 (apart_all t (by omega) i j) rfl ?_
    | refine callqe rfl Try.call34 (apart_all t (by omega) i j) rfl ?_
  simp [hA2, h0]
  first
    | refine callk rfl Try.call35 (past_all t (by omega) i) rfl ?_
    | refine callks rfl Try.call35 (past_all t (by omega) i) rfl ?_
    | refine callq rfl Try.call35 (past_all t (by omega) i) rfl ?_
    | refine callqe rfl Try.call35 (past_all t (by omega) i) rfl ?_
  simp [hA2, hA1, h0, -List.map_reverse]
  first
    | refine callk rfl Try.call22 (checkR_p t (by omega)) rfl ?_
    | refine callks rfl Try.call22 (checkR_p t (by omega)) rfl ?_
    | refine callq rfl Try.call22 (checkR_p t (by omega)) rfl ?_
    | refine callqe rfl Try.call22 (checkR_p t (by omega)) rfl ?_
  simp [h0, -List.map_reverse]
  first
    | refine callkg rfl Try.call26 rfl (fun _ => (place_p t i)) (fun hG => by first | (simp; done) | (simp at hG; done) | simpa using hG) rfl ?_
    | refine callksg rfl Try.call26 rfl (fun _ => (place_p t i)) (fun hG => by first | (simp; done) | (simp at hG; done) | simpa using hG) rfl ?_
    | refine callqg rfl Try.call26 rfl (fun _ => (place_p t i)) (fun hG => by first | (simp; done) | (simp at hG; done) | simpa using hG) rfl ?_
  simp [h0, hpi, hN, -List.map_reverse]
  first
    | refine callkg rfl Try.call26 rfl (fun _ => (place_p t j)) (fun hG => by first | (simp; done) | (simp at hG; done) | simpa using hG) rfl ?_
    | refine callksg rfl Try.call26 rfl (fun _ => (place_p t j)) (fun hG => by first | (simp; done) | (simp at hG; done) | simpa using hG) rfl ?_
    | refine callqg rfl Try.call26 rfl (fun _ => (place_p t j)) (fun hG => by first | (simp; done) | (simp at hG; done) | simpa using hG) rfl ?_
  simp [h0, hpi, hpj, hN, hM, hA1, hA2, -List.map_reverse]
  first
    | refine callkg rfl Try.call20 rfl (fun _ => speaks_p) (fun hG => by first | (simp; done) | (simp at hG; done) | simpa using hG) rfl ?_
    | refine callksg rfl Try.call20 rfl (fun _ => speaks_p) (fun hG => by first | (simp; done) | (simp at hG; done) | simpa using hG) rfl ?_
    | refine callqg rfl Try.call20 rfl (fun _ => speaks_p) (fun hG => by first | (simp; done) | (simp at hG; done) | simpa using hG) rfl ?_
  simp [h0, hpi, hpj, hN, hM, hA1, hA2, -List.map_reverse]
  have h := good_of h0
  have hl := h.len
  have hps := past_sel hiN
  first
    | refine callk rfl Try.call36 (befM_p t h) rfl ?_
    | refine callks rfl Try.call36 (befM_p t h) rfl ?_
    | refine callq rfl Try.call36 (befM_p t h) rfl ?_
    | refine callqe rfl Try.call36 (befM_p t h) rfl ?_
  simp [-List.map_reverse]
  first
    | refine callk rfl Try.call37 (pastR_p t.length (by omega) (befT t) i hiN) rfl ?_
    | refine callks rfl Try.call37 (pastR_p t.length (by omega) (befT t) i hiN) rfl ?_
    | refine callq rfl Try.call37 (pastR_p t.length (by omega) (befT t) i hiN) rfl ?_
    | refine callqe rfl Try.call37 (pastR_p t.length (by omega) (befT t) i hiN) rfl ?_
  simp [-List.map_reverse]
  first
    | refine callk rfl Try.call31 (same_n (pastR t i).reverse (selTo (fun j => befT t j i) t.length) (by have := pastD_len (p := fun j => befT t j i) i; rw [List.length_reverse]; unfold pastR; omega)) rfl ?_
    | refine callks rfl Try.call31 (same_n (pastR t i).reverse (selTo (fun j => befT t j i) t.length) (by have := pastD_len (p := fun j => befT t j i) i; rw [List.length_reverse]; unfold pastR; omega)) rfl ?_
    | refine callq rfl Try.call31 (same_n (pastR t i).reverse (selTo (fun j => befT t j i) t.length) (by have := pastD_len (p := fun j => befT t j i) i; rw [List.length_reverse]; unfold pastR; omega)) rfl ?_
    | refine callqe rfl Try.call31 (same_n (pastR t i).reverse (selTo (fun j => befT t j i) t.length) (by have := pastD_len (p := fun j => befT t j i) i; rw [List.length_reverse]; unfold pastR; omega)) rfl ?_
  simp [hps, hA2, -List.map_reverse]
theorem asks_ok (t : List Ev) (ht : t.length < 1000000000000) (i j : Nat) (h0 : checkT t = 0) (hi : 0 ≤ (i : Int) ∧ (i : Int) < (t.length : Int)) (hj : 0 ≤ (j : Int) ∧ (j : Int) < (t.length : Int)) : PureS Try.prog 9 [.sl 26 (t.map Ev.row), .i .i64 (i : Int), .i .i64 (j : Int)] (.b true) := by
  have hA2 : askT t [(i : Int), (j : Int)] = 0 := ask_right h0 (by simp; omega)
  have hA1 : askT t [(i : Int)] = 0 := ask_right h0 (by simp; omega)
  have hpi : (decide (0 ≤ (i : Int)) && decide ((i : Int) < (t.length : Int))) = true := by simp; omega
  have hpj : (decide (0 ≤ (j : Int)) && decide ((j : Int) < (t.length : Int))) = true := by simp; omega
  have hiN : i < t.length := by omega
  have hjN : j < t.length := by omega
  have hN := hiN
  have hM := hjN
  refine fun_go hmx Try.func9 r9 s9 (by rw [Try.ntmps9]; simp) ?_
  unfold c9
  simp
  first
    | refine callk rfl Try.call23 (before_all t (by omega) i j) rfl ?_
    | refine callks rfl Try.call23 (before_all t (by omega) i j) rfl ?_
    | refine callq rfl Try.call23 (before_all t (by omega) i j) rfl ?_
    | refine callqe rfl Try.call23 (before_all t (by omega) i j) rfl ?_
  simp [hA2, h0]
  first
    | refine callk rfl Try.call34 (apart_all t (by omega) i j) rfl ?_
    | refine callks rfl Try.call34 (apart_all t (by omega) i j) rfl ?_
    | refine callq rfl Try.call34 (apart_all t (by omega) i j) rfl ?_
    | refine callqe rfl Try.call34 (apart_all t (by omega) i j) rfl ?_
  simp [hA2, h0]
  first
    | refine callk rfl Try.call35 (past_all t (by omega) i) rfl ?_
    | refine callks rfl Try.call35 (past_all t (by omega) i) rfl ?_
    | refine callq rfl Try.call35 (past_all t (by omega) i) rfl ?_
    | refine callqe rfl Try.call35 (past_all t (by omega) i) rfl ?_
  simp [hA2, hA1, h0, -List.map_reverse]
  first
    | refine callk rfl Try.call22 (checkR_p t (by omega)) rfl ?_
    | refine callks rfl Try.call22 (checkR_p t (by omega)) rfl ?_
    | refine callq rfl Try.call22 (checkR_p t (by omega)) rfl ?_
    | refine callqe rfl Try.call22 (checkR_p t (by omega)) rfl ?_
  simp [h0, -List.map_reverse]
  first
    | refine callkg rfl Try.call26 rfl (fun _ => (place_p t i)) (fun hG => by first | (simp; done) | (simp at hG; done) | simpa using hG) rfl ?_
    | refine callksg rfl Try.call26 rfl (fun _ => (place_p t i)) (fun hG => by first | (simp; done) | (simp at hG; done) | simpa using hG) rfl ?_
    | refine callqg rfl Try.call26 rfl (fun _ => (place_p t i)) (fun hG => by first | (simp; done) | (simp at hG; done) | simpa using hG) rfl ?_
  simp [h0, hpi, hN, -List.map_reverse]
  first
    | refine callkg rfl Try.call26 rfl (fun _ => (place_p t j)) (fun hG => by first | (simp; done) | (simp at hG; done) | simpa using hG) rfl ?_
    | refine callksg rfl Try.call26 rfl (fun _ => (place_p t j)) (fun hG => by first | (simp; done) | (simp at hG; done) | simpa using hG) rfl ?_
    | refine callqg rfl Try.call26 rfl (fun _ => (place_p t j)) (fun hG => by first | (simp; done) | (simp at hG; done) | simpa using hG) rfl ?_
  simp [h0, hpi, hpj, hN, hM, hA1, hA2, -List.map_reverse]
  first
    | refine callkg rfl Try.call20 rfl (fun _ => speaks_p) (fun hG => by first | (simp; done) | (simp at hG; done) | simpa using hG) rfl ?_
    | refine callksg rfl Try.call20 rfl (fun _ => speaks_p) (fun hG => by first | (simp; done) | (simp at hG; done) | simpa using hG) rfl ?_
    | refine callqg rfl Try.call20 rfl (fun _ => speaks_p) (fun hG => by first | (simp; done) | (simp at hG; done) | simpa using hG) rfl ?_
  simp [h0, hpi, hpj, hN, hM, hA1, hA2, -List.map_reverse]
  have h := good_of h0
  have hl := h.len
  have hps := past_sel hiN
  first
    | refine callk rfl Try.call36 (befM_p t h) rfl ?_
    | refine callks rfl Try.call36 (befM_p t h) rfl ?_
    | refine callq rfl Try.call36 (befM_p t h) rfl ?_
    | refine callqe rfl Try.call36 (befM_p t h) rfl ?_
  simp [-List.map_reverse]
  first
    | refine callk rfl Try.call37 (pastR_p t.length (by omega) (befT t) i hiN) rfl ?_
    | refine callks rfl Try.call37 (pastR_p t.length (by omega) (befT t) i hiN) rfl ?_
    | refine callq rfl Try.call37 (pastR_p t.length (by omega) (befT t) i hiN) rfl ?_
    | refine callqe rfl Try.call37 (pastR_p t.length (by omega) (befT t) i hiN) rfl ?_
  simp [-List.map_reverse]
  first
    | refine callk rfl Try.call31 (same_n (pastR t i).reverse (selTo (fun j => befT t j i) t.length) (by have := pastD_len (p := fun j => befT t j i) i; rw [List.length_reverse]; unfold pastR; omega)) rfl ?_
    | refine callks rfl Try.call31 (same_n (pastR t i).reverse (selTo (fun j => befT t j i) t.length) (by have := pastD_len (p := fun j => befT t j i) i; rw [List.length_reverse]; unfold pastR; omega)) rfl ?_
    | refine callq rfl Try.call31 (same_n (pastR t i).reverse (selTo (fun j => befT t j i) t.length) (by have := pastD_len (p := fun j => befT t j i) i; rw [List.length_reverse]; unfold pastR; omega)) rfl ?_
    | refine callqe rfl Try.call31 (same_n (pastR t i).reverse (selTo (fun j => befT t j i) t.length) (by have := pastD_len (p := fun j => befT t j i) i; rw [List.length_reverse]; unfold pastR; omega)) rfl ?_
  simp [hps, hA2, -List.map_reverse]
  simp [matV, hi, hj, hiN, hjN, mat_at, mrow, brow]
theorem orderAsks (t : List Ev) (ht : t.length < 1000000000000) (i j : Int) : PureS Try.prog 9 [.sl 26 (t.map Ev.row), .i .i64 i, .i .i64 j] (.b true) := by
  by_cases h0 : checkT t = 0
  rotate_left
  · exact asks_wrong t ht i j h0
  by_cases hi : 0 ≤ i ∧ i < (t.length : Int)
  rotate_left
  · exact asks_i t ht i j h0 hi
  obtain ⟨i, rfl⟩ : ∃ n : Nat, i = (n : Int) := ⟨i.toNat, by omega⟩
  by_cases hj : 0 ≤ j ∧ j < (t.length : Int)
  rotate_left
  · exact asks_j t ht i j h0 hi hj
  obtain ⟨j, rfl⟩ : ∃ n : Nat, j = (n : Int) := ⟨j.toNat, by omega⟩
  exact asks_ok t ht i j h0 hi hj
def underTo (a b : Clk) (k : Nat) : Bool := (List.range k).all fun g => decide (a.getD g 0 ≤ b.getD g 0)
theorem underTo_succ (a b : Clk) (k : Nat) : underTo a b (k + 1) = (underTo a b k && decide (a.getD k 0 ≤ b.getD k 0)) := by
  rw [underTo, List.range_succ, List.all_append]; simp [underTo]
theorem underTo_iff {a b : Clk} {k : Nat} : underTo a b k = true ↔ ∀ g, g < k → a.getD g 0 ≤ b.getD g 0 := by
  simp only [underTo, List.all_eq_true, List.mem_range, decide_eq_true_eq]
theorem byClocks_no (t : List Ev) (ht : t.length < 1000000000000) (i j : Int) (hn : ¬ (checkT t = 0 ∧ (0 ≤ i ∧ i < (t.length : Int)) ∧ 0 ≤ j ∧ j < (t.length : Int))) : PureS Try.prog 6 [.sl 26 (t.map Ev.row), .i .i64 i, .i .i64 j] (.b true) := by
  refine fun_go hmx Try.func6 r6 s6 (by rw [Try.ntmps6]; simp) ?_
  unfold c6
  simp
  first
    | refine callk rfl Try.call25 (clocks_all t (by omega)) rfl ?_
    | refine callks rfl Try.call25 (clocks_all t (by omega)) rfl ?_
    | refine callq rfl Try.call25 (clocks_all t (by omega)) rfl ?_
    | refine callqe rfl Try.call25 (clocks_all t (by omega)) rfl ?_
  simp
  first
    | refine callk rfl Try.call22 (checkR_p t (by omega)) rfl ?_
    | refine callks rfl Try.call22 (checkR_p t (by omega)) rfl ?_
    | refine callq rfl Try.call22 (checkR_p t (by omega)) rfl ?_
    | refine callqe rfl Try.call22 (checkR_p t (by omega)) rfl ?_
  simp
  first
    | refine callkg rfl Try.call26 rfl (fun _ => (place_p t i)) (fun hG => by first | (simp; done) | (simp at hG; done) | simpa using hG) rfl ?_
    | refine callksg rfl Try.call26 rfl (fun _ => (place_p t i)) (fun hG => by first | (simp; done) | (simp at hG; done) | simpa using hG) rfl ?_
    | refine callqg rfl Try.call26 rfl (fun _ => (place_p t i)) (fun hG => by first | (simp; done) | (simp at hG; done) | simpa using hG) rfl ?_
  simp
  first
    | refine callkg rfl Try.call26 rfl (fun _ => (place_p t j)) (fun hG => by first | (simp; done) | (simp at hG; done) | simpa using hG) rfl ?_
    | refine callksg rfl Try.call26 rfl (fun _ => (place_p t j)) (fun hG => by first | (simp; done) | (simp at hG; done) | simpa using hG) rfl ?_
    | refine callqg rfl Try.call26 rfl (fun _ => (place_p t j)) (fun hG => by first | (simp; done) | (simp at hG; done) | simpa using hG) rfl ?_
  simp
  refine ⟨fun _ => ?_, fun h1 h2 h3 h4 h5 => absurd ⟨h1, ⟨h2, h3⟩, h4, h5⟩ hn⟩
  first
    | refine callk rfl Try.call22 (checkR_p t (by omega)) rfl ?_
    | refine callks rfl Try.call22 (checkR_p t (by omega)) rfl ?_
    | refine callq rfl Try.call22 (checkR_p t (by omega)) rfl ?_
    | refine callqe rfl Try.call22 (checkR_p t (by omega)) rfl ?_
  simp
  first
    | refine callkg rfl Try.call20 rfl (fun _ => speaks_p) (fun hG => by first | (simp; done) | (simp at hG; done) | simpa using hG) rfl ?_
    | refine callksg rfl Try.call20 rfl (fun _ => speaks_p) (fun hG => by first | (simp; done) | (simp at hG; done) | simpa using hG) rfl ?_
    | refine callqg rfl Try.call20 rfl (fun _ => speaks_p) (fun hG => by first | (simp; done) | (simp at hG; done) | simpa using hG) rfl ?_
  simp
theorem byClocks_ok (t : List Ev) (h0 : checkT t = 0) (i j : Nat) (hi : i < t.length) (hj : j < t.length) : PureS Try.prog 6 [.sl 26 (t.map Ev.row), .i .i64 (i : Int), .i .i64 (j : Int)] (.b true) := by
  have h := good_of h0
  have hl := h.len
  have hA2 : askT t [(i : Int), (j : Int)] = 0 := ask_right h0 (by simp; omega)
  have hcl : (clk t t.length).length = t.length := by simp
  have ci := stC_low (t := t) hi (Nat.le_refl _)
  have cj := stC_low (t := t) hj (Nat.le_refl _)
  rw [stC_all] at ci cj
  have hgo := h.go hi
  obtain ⟨g, hg⟩ : ∃ g : Nat, (t.getD i default).go = (g : Int) := ⟨(t.getD i default).go.toNat, by omega⟩
  have hgn : goN t i = g := by unfold goN; omega
  rw [hg] at hgo
  simp only [Int.toNat_natCast] at hgo
  have hgi : t.getD i default = t[i] := by rw [List.getD_eq_getElem?_getD, List.getElem?_eq_getElem hi]; rfl
  rw [hgi] at hg
  refine fun_go hmx Try.func6 r6 s6 (by rw [Try.ntmps6]; simp) ?_
  unfold c6
  simp
  first
    | refine callk rfl Try.call25 (clocks_all t (by omega)) rfl ?_
    | refine callks rfl Try.call25 (clocks_all t (by omega)) rfl ?_
    | refine callq rfl Try.call25 (clocks_all t (by omega)) rfl ?_
    | refine callqe rfl Try.call25 (clocks_all t (by omega)) rfl ?_
  simp [h0]
  first
    | refine callk rfl Try.call22 (checkR_p t (by omega)) rfl ?_
    | refine callks rfl Try.call22 (checkR_p t (by omega)) rfl ?_
    | refine callq rfl Try.call22 (checkR_p t (by omega)) rfl ?_
    | refine callqe rfl Try.call22 (checkR_p t (by omega)) rfl ?_
  simp [h0]
  first
    | refine callkg rfl Try.call26 rfl (fun _ => (place_p t (i : Int))) (fun hG => by first | (simp; done) | (simp at hG; done) | simpa using hG) rfl ?_
    | refine callksg rfl Try.call26 rfl (fun _ => (place_p t (i : Int))) (fun hG => by first | (simp; done) | (simp at hG; done) | simpa using hG) rfl ?_
    | refine callqg rfl Try.call26 rfl (fun _ => (place_p t (i : Int))) (fun hG => by first | (simp; done) | (simp at hG; done) | simpa using hG) rfl ?_
  simp [hi]
  first
    | refine callkg rfl Try.call26 rfl (fun _ => (place_p t (j : Int))) (fun hG => by first | (simp; done) | (simp at hG; done) | simpa using hG) rfl ?_
    | refine callksg rfl Try.call26 rfl (fun _ => (place_p t (j : Int))) (fun hG => by first | (simp; done) | (simp at hG; done) | simpa using hG) rfl ?_
    | refine callqg rfl Try.call26 rfl (fun _ => (place_p t (j : Int))) (fun hG => by first | (simp; done) | (simp at hG; done) | simpa using hG) rfl ?_
  simp [hj]
  first
    | refine callk rfl Try.call23 (before_all t (by omega) (i : Int) (j : Int)) rfl ?_
    | refine callks rfl Try.call23 (before_all t (by omega) (i : Int) (j : Int)) rfl ?_
    | refine callq rfl Try.call23 (before_all t (by omega) (i : Int) (j : Int)) rfl ?_
    | refine callqe rfl Try.call23 (before_all t (by omega) (i : Int) (j : Int)) rfl ?_
  simp [hA2, hcl]
  have hb1 : befT t i j = (decide (i < j) && underTo (clkAt t i) (clkAt t j) 6) := by
    rw [Bool.eq_iff_iff, Bool.and_eq_true, decide_eq_true_eq, underTo_iff]
    constructor
    · intro hb; exact ⟨bef_lt hb, fun g hg => bef_clk h hj hb hg⟩
    · rintro ⟨h1, h2⟩; exact bef_iff.2 ⟨h1, h2 _ (h.go hi).2⟩
  have hb2 : befT t i j = (decide (i < j) && decide ((clkAt t i).getD g 0 ≤ (clkAt t j).getD g 0)) := by rw [befT, hgn]
  have li : (clkAt t i).length = 6 := by simp
  have lj : (clkAt t j).length = 6 := by simp
  generalize clkAt t i = a at *
  generalize clkAt t j = b at *
  generalize clk t t.length = K at *
  have ci' : K[i]'(by omega) = a := by rw [List.getElem?_eq_getElem (by omega)] at ci; exact Option.some.inj ci
  have cj' : K[j]'(by omega) = b := by rw [List.getElem?_eq_getElem (by omega)] at cj; exact Option.some.inj cj
  have hiK : i < K.length := by omega
  have hjK : j < K.length := by omega
  refine go_while hmx 0 (fun (k : Nat) => [(11, .v (.b (decide (i < j) && underTo a b k))), (12, .v (.i .i64 (k : Int)))]) (fun _ => []) (fun k => k ≤ 6) (fun k => 6 - k) 0 rfl (by simp [underTo]) rfl (by simp) (by simp) (by simp) (Nat.zero_le _) ?_
  intro k hk
  by_cases hkl : k < 6
  · have hI : (k : Int) < 6 := by omega
    have hw : IntKind.i64.wrap ((k : Int) + 1) = (k : Int) + 1 := wrap_in (by omega) (by omega)
    have hka : k < a.length := by omega
    have hkb : k < b.length := by omega
    have hs := underTo_succ a b k
    rw [show a.getD k 0 = a[k] by rw [List.getD_eq_getElem?_getD, List.getElem?_eq_getElem hka]; rfl, show b.getD k 0 = b[k] by rw [List.getD_eq_getElem?_getD, List.getElem?_eq_getElem hkb]; rfl] at hs
    simp [hI, hiK, hjK, ci', cj', crow, get_ags hka, get_ags hkb, hka, hkb, hcl, hi, hj]
    exact ⟨fun h1 h2 => ⟨⟨h1, h2⟩, by omega⟩, fun h1 h2 => ⟨⟨h1, h2⟩, by omega⟩, k + 1, ⟨by rw [hs, Bool.and_assoc], by rw [hw]; rfl⟩, by omega, by omega⟩
  · obtain rfl : k = 6 := by omega
    have hga : g < a.length := by omega
    have hgb : g < b.length := by omega
    have hg6 : (g : Int) < 6 := by omega
    rw [show a.getD g 0 = a[g] by rw [List.getD_eq_getElem?_getD, List.getElem?_eq_getElem hga]; rfl, show b.getD g 0 = b[g] by rw [List.getD_eq_getElem?_getD, List.getElem?_eq_getElem hgb]; rfl] at hb2
    simp [hi, hj, hiK, hjK, ci', cj', crow, hg, hg6, get_ags hga, get_ags hgb, hga, hgb]
    refine ⟨fun x y => ⟨⟨x, y⟩, by omega⟩, fun x y => ⟨⟨x, y⟩, by omega⟩, fun x => ⟨x, fun y => ⟨x, y⟩⟩, ?_⟩
    first
      | refine callkg rfl Try.call20 rfl (fun _ => speaks_p) (fun hG => by first | (simp; done) | (simp at hG; done) | simpa using hG) rfl ?_
      | refine callksg rfl Try.call20 rfl (fun _ => speaks_p) (fun hG => by first | (simp; done) | (simp at hG; done) | simpa using hG) rfl ?_
      | refine callqg rfl Try.call20 rfl (fun _ => speaks_p) (fun hG => by first | (simp; done) | (simp at hG; done) | simpa using hG) rfl ?_
    rw [← hb1, ← hb2]
    simp
theorem orderByClocks (t : List Ev) (ht : t.length < 1000000000000) (i j : Int) : PureS Try.prog 6 [.sl 26 (t.map Ev.row), .i .i64 i, .i .i64 j] (.b true) := by
  by_cases hn : checkT t = 0 ∧ (0 ≤ i ∧ i < (t.length : Int)) ∧ 0 ≤ j ∧ j < (t.length : Int)
  · obtain ⟨h0, hi, hj⟩ := hn
    obtain ⟨i, rfl⟩ : ∃ n : Nat, i = (n : Int) := ⟨i.toNat, by omega⟩
    obtain ⟨j, rfl⟩ : ∃ n : Nat, j = (n : Int) := ⟨j.toNat, by omega⟩
    exact byClocks_ok t h0 i j (by omega) (by omega)
  · exact byClocks_no t ht i j hn
end Go.Sc.Or
