/- Chapter 13: levels are Foata's. No condition. -/
import Derived.Test.YtgipkikbefnokaaXCb
import Derived.Test.YtgipkikbefnokaaXCc
import Derived.Test.YtgipkikbefnokaaXEv6
set_option linter.constructorNameAsVariable false
namespace Go.Sc.Or
open Go Go.RowKit Go.Av Go.Proofs Go.Sc
set_option linter.unusedSimpArgs false
set_option linter.unusedVariables false
/-- scarab/scarablaw13.CanonFoata -/
def c11 : ACode :=
  (.seq (.reg none [⟨some 2, none, .q (.mv (.c (.b false)))⟩])
  (.keep [0]
  (.seq (.reg none [⟨some 16, none, .q (.mv (.t 0))⟩, ⟨some 17, none, .call (.f 41) [(.t 16)]⟩, ⟨some 15, none, .q (.mv (.t 17))⟩, ⟨some 18, none, .q (.ext 0 (.t 15))⟩, ⟨some 19, none, .q (.ext 1 (.t 15))⟩, ⟨some 3, none, .q (.mv (.t 18))⟩, ⟨some 4, none, .q (.mv (.t 19))⟩])
  (.keep [0, 3, 4]
  (.seq (.seq (.reg none [⟨some 20, none, .q (.mv (.t 4))⟩, ⟨some 21, none, .q (.bin .neq (.t 20) (.c (.i .i64 0)))⟩])
    (.keep [0, 3, 21]
    (.cond (.t 21) (.seq (.reg none [⟨some 22, none, .q (.mv (.t 0))⟩, ⟨some 23, none, .call (.f 22) [(.t 22)]⟩, ⟨some 24, none, .q (.bin .neq (.t 23) (.c (.i .i64 0)))⟩, ⟨some 25, none, .q (.mv (.t 24))⟩, ⟨some 26, some (25, true), .call (.f 19) []⟩, ⟨some 27, none, .pk (.t 25) (.t 26) (.c (.b false))⟩, ⟨some 2, none, .q (.mv (.t 27))⟩])
      .ret)
    .skip)))
  (.seq (.reg none [⟨some 5, none, .q (.mv (.c (.i .i64 0)))⟩])
  (.keep [0, 3, 5]
  (.seq (.seq (.reg none [⟨some 28, none, .q (.mv (.t 3))⟩, ⟨some 29, none, .q (.len false (.t 28))⟩, ⟨some 30, none, .q (.mv (.c (.i .i64 0)))⟩])
    (.keep [0, 3, 5, 28, 29, 30]
    (.blk 0 (.keep [0, 3, 5, 28, 29, 30]
    (.loop (.fin [0, 3, 5, 28, 29, 30]
      (.seq (.reg none [⟨some 31, none, .q (.bin .lss (.t 30) (.t 29))⟩])
      (.keep [0, 3, 5, 28, 29, 30, 31]
      (.seq (.cond (.t 31) .skip
        (.exit 0))
      (.seq (.blk 1 (.seq (.reg none [⟨some 32, none, .q (.mv (.t 30))⟩, ⟨some 33, none, .q (.ias 1 (.t 28) (.t 30))⟩, ⟨some 34, none, .q (.ld none (.t 33))⟩, ⟨some 6, none, .q (.mv (.t 32))⟩, ⟨some 7, none, .q (.mv (.t 34))⟩])
        (.keep [0, 3, 5, 6, 7, 28, 29, 30]
        (.seq (.seq (.reg none [⟨some 35, none, .q (.mv (.t 7))⟩, ⟨some 36, none, .q (.len false (.t 35))⟩, ⟨some 37, none, .q (.bin .eql (.t 36) (.c (.i .i64 0)))⟩])
          (.keep [0, 3, 5, 6, 7, 28, 29, 30, 37]
          (.cond (.t 37) (.seq (.reg none [⟨some 2, none, .q (.mv (.c (.b false)))⟩])
            .ret)
          .skip)))
        (.seq (.reg none [⟨some 38, none, .q (.mv (.t 7))⟩, ⟨some 39, none, .q (.len false (.t 38))⟩, ⟨some 40, none, .q (.mv (.c (.i .i64 0)))⟩])
        (.keep [0, 3, 5, 6, 7, 28, 29, 30, 38, 39, 40]
        (.blk 2 (.keep [0, 3, 5, 6, 7, 28, 29, 30, 38, 39, 40]
        (.loop (.fin [0, 3, 5, 6, 7, 28, 29, 30, 38, 39, 40]
          (.seq (.reg none [⟨some 41, none, .q (.bin .lss (.t 40) (.t 39))⟩])
          (.keep [0, 3, 5, 6, 7, 28, 29, 30, 38, 39, 40, 41]
          (.seq (.cond (.t 41) .skip
            (.exit 2))
          (.seq (.blk 3 (.seq (.reg none [⟨some 42, none, .q (.mv (.t 40))⟩, ⟨some 43, none, .q (.ias 1 (.t 38) (.t 40))⟩, ⟨some 44, none, .q (.ld none (.t 43))⟩, ⟨some 8, none, .q (.mv (.t 42))⟩, ⟨some 9, none, .q (.mv (.t 44))⟩])
            (.keep [0, 3, 5, 6, 7, 8, 9, 28, 29, 30, 38, 39, 40]
            (.seq (.seq (.reg (some (29, [])) [⟨some 45, none, .q (.mv (.t 9))⟩, ⟨some 46, none, .q (.bin .lss (.t 45) (.c (.i .i64 0)))⟩, ⟨some 47, none, .q (.mv (.t 46))⟩, ⟨some 48, some (47, false), .q (.mv (.t 9))⟩, ⟨some 49, some (47, false), .q (.mv (.t 0))⟩, ⟨some 50, some (47, false), .q (.len false (.t 49))⟩, ⟨some 51, some (47, false), .q (.bin .geq (.t 48) (.t 50))⟩, ⟨some 52, none, .pk (.t 47) (.c (.b true)) (.t 51)⟩, ⟨some 53, none, .q (.mv (.t 52))⟩, ⟨some 54, some (53, false), .q (.mv (.t 8))⟩, ⟨some 55, some (53, false), .q (.bin .gtr (.t 54) (.c (.i .i64 0)))⟩, ⟨some 56, some (53, false), .q (.mv (.t 55))⟩, ⟨some 57, some (56, true), .q (.mv (.t 0))⟩, ⟨some 58, some (56, true), .q (.mv (.t 7))⟩, ⟨some 59, some (56, true), .q (.mv (.t 8))⟩, ⟨some 60, some (56, true), .q (.bin .sub (.t 59) (.c (.i .i64 1)))⟩, ⟨some 61, some (56, true), .q (.ias 1 (.t 58) (.t 60))⟩, ⟨some 62, some (56, true), .q (.ld none (.t 61))⟩, ⟨some 63, some (56, true), .q (.ias 26 (.t 57) (.t 62))⟩, ⟨some 64, some (56, true), .q (.fa 0 (.t 63))⟩, ⟨some 65, some (56, true), .q (.ld none (.t 64))⟩, ⟨some 66, some (56, true), .q (.mv (.t 0))⟩, ⟨some 67, some (56, true), .q (.mv (.t 9))⟩, ⟨some 68, some (56, true), .q (.ias 26 (.t 66) (.t 67))⟩, ⟨some 69, some (56, true), .q (.fa 0 (.t 68))⟩, ⟨some 70, some (56, true), .q (.ld none (.t 69))⟩, ⟨some 71, some (56, true), .q (.bin .geq (.t 65) (.t 70))⟩, ⟨some 72, some (53, false), .pk (.t 56) (.t 71) (.c (.b false))⟩, ⟨some 73, none, .pk (.t 53) (.c (.b true)) (.t 72)⟩])
              (.keep [0, 3, 5, 6, 7, 8, 9, 28, 29, 30, 38, 39, 40, 73]
              (.cond (.t 73) (.seq (.reg none [⟨some 2, none, .q (.mv (.c (.b false)))⟩])
                .ret)
              .skip)))
            (.seq (.reg none [⟨some 74, none, .q (.mv (.t 5))⟩, ⟨some 75, none, .q (.bin .add (.t 74) (.c (.i .i64 1)))⟩, ⟨some 5, none, .q (.mv (.t 75))⟩])
            (.keep [0, 3, 5, 6, 7, 8, 9, 28, 29, 30, 38, 39, 40]
            (.seq (.reg none [⟨some 76, none, .q (.mv (.t 6))⟩, ⟨some 77, none, .q (.bin .eql (.t 76) (.c (.i .i64 0)))⟩, ⟨some 10, none, .q (.mv (.t 77))⟩])
            (.keep [0, 3, 5, 6, 7, 8, 9, 10, 28, 29, 30, 38, 39, 40]
            (.seq (.seq (.reg none [⟨some 78, none, .q (.mv (.t 6))⟩, ⟨some 79, none, .q (.bin .gtr (.t 78) (.c (.i .i64 0)))⟩])
              (.keep [0, 3, 5, 6, 7, 8, 9, 10, 28, 29, 30, 38, 39, 40, 79]
              (.cond (.t 79) (.seq (.reg none [⟨some 80, none, .q (.mv (.t 3))⟩, ⟨some 81, none, .q (.mv (.t 6))⟩, ⟨some 82, none, .q (.bin .sub (.t 81) (.c (.i .i64 1)))⟩, ⟨some 83, none, .q (.ias 1 (.t 80) (.t 82))⟩, ⟨some 84, none, .q (.ld none (.t 83))⟩, ⟨some 85, none, .q (.len false (.t 84))⟩, ⟨some 86, none, .q (.mv (.c (.i .i64 0)))⟩])
                (.keep [0, 3, 5, 6, 7, 8, 9, 10, 28, 29, 30, 38, 39, 40, 84, 85, 86]
                (.blk 4 (.keep [0, 3, 5, 6, 7, 8, 9, 10, 28, 29, 30, 38, 39, 40, 84, 85, 86]
                (.loop (.fin [0, 3, 5, 6, 7, 8, 9, 10, 28, 29, 30, 38, 39, 40, 84, 85, 86]
                  (.seq (.reg none [⟨some 87, none, .q (.bin .lss (.t 86) (.t 85))⟩])
                  (.keep [0, 3, 5, 6, 7, 8, 9, 10, 28, 29, 30, 38, 39, 40, 84, 85, 86, 87]
                  (.seq (.cond (.t 87) .skip
                    (.exit 4))
                  (.seq (.blk 5 (.seq (.reg none [⟨some 88, none, .q (.ias 1 (.t 84) (.t 86))⟩, ⟨some 89, none, .q (.ld none (.t 88))⟩, ⟨some 12, none, .q (.mv (.t 89))⟩])
                    (.keep [0, 3, 5, 6, 7, 8, 9, 10, 12, 28, 29, 30, 38, 39, 40, 84, 85, 86]
                    (.reg (some (14, [])) [⟨some 90, none, .q (.mv (.t 10))⟩, ⟨some 91, none, .q (.mv (.t 90))⟩, ⟨some 92, some (91, false), .q (.mv (.t 12))⟩, ⟨some 93, some (91, false), .q (.mv (.t 9))⟩, ⟨some 94, some (91, false), .q (.bin .lss (.t 92) (.t 93))⟩, ⟨some 95, some (91, false), .q (.mv (.t 94))⟩, ⟨some 96, some (95, true), .q (.mv (.t 0))⟩, ⟨some 97, some (95, true), .q (.mv (.t 12))⟩, ⟨some 98, some (95, true), .q (.ias 26 (.t 96) (.t 97))⟩, ⟨some 99, some (95, true), .q (.ld (some 26) (.t 98))⟩, ⟨some 100, some (95, true), .q (.mv (.t 0))⟩, ⟨some 101, some (95, true), .q (.mv (.t 9))⟩, ⟨some 102, some (95, true), .q (.ias 26 (.t 100) (.t 101))⟩, ⟨some 103, some (95, true), .q (.ld (some 26) (.t 102))⟩, ⟨some 104, some (95, true), .call (.f 45) [(.t 99), (.t 103)]⟩, ⟨some 105, some (91, false), .pk (.t 95) (.t 104) (.c (.b false))⟩, ⟨some 106, none, .pk (.t 91) (.c (.b true)) (.t 105)⟩, ⟨some 10, none, .q (.mv (.t 106))⟩]))))
                  (.keep [0, 3, 5, 6, 7, 8, 9, 10, 28, 29, 30, 38, 39, 40, 84, 85, 86]
                  (.reg none [⟨some 107, none, .q (.bin .add (.t 86) (.c (.i .i64 1)))⟩, ⟨some 86, none, .q (.mv (.t 107))⟩]))))))))))))
              .skip)))
            (.seq (.seq (.reg none [⟨some 108, none, .q (.mv (.t 10))⟩, ⟨some 109, none, .q (.un .not (.t 108))⟩])
              (.keep [0, 3, 5, 6, 7, 8, 9, 28, 29, 30, 38, 39, 40, 109]
              (.cond (.t 109) (.seq (.reg none [⟨some 2, none, .q (.mv (.c (.b false)))⟩])
                .ret)
              .skip)))
            (.seq (.reg none [⟨some 110, none, .q (.mv (.t 7))⟩, ⟨some 111, none, .q (.mv (.t 8))⟩, ⟨some 112, none, .q (.sls 1 (.t 110) none (some (.t 111)))⟩, ⟨some 113, none, .q (.len false (.t 112))⟩, ⟨some 114, none, .q (.mv (.c (.i .i64 0)))⟩])
            (.keep [0, 3, 5, 6, 7, 9, 28, 29, 30, 38, 39, 40, 112, 113, 114]
            (.blk 6 (.keep [0, 3, 5, 6, 7, 9, 28, 29, 30, 38, 39, 40, 112, 113, 114]
            (.loop (.fin [0, 3, 5, 6, 7, 9, 28, 29, 30, 38, 39, 40, 112, 113, 114]
              (.seq (.reg none [⟨some 115, none, .q (.bin .lss (.t 114) (.t 113))⟩])
              (.keep [0, 3, 5, 6, 7, 9, 28, 29, 30, 38, 39, 40, 112, 113, 114, 115]
              (.seq (.cond (.t 115) .skip
                (.exit 6))
              (.seq (.blk 7 (.seq (.reg none [⟨some 116, none, .q (.ias 1 (.t 112) (.t 114))⟩, ⟨some 117, none, .q (.ld none (.t 116))⟩, ⟨some 14, none, .q (.mv (.t 117))⟩])
                (.keep [0, 3, 5, 6, 7, 9, 14, 28, 29, 30, 38, 39, 40, 112, 113, 114]
                (.seq (.reg (some (8, [])) [⟨some 118, none, .q (.mv (.t 0))⟩, ⟨some 119, none, .q (.mv (.t 9))⟩, ⟨some 120, none, .q (.ias 26 (.t 118) (.t 119))⟩, ⟨some 121, none, .q (.ld (some 26) (.t 120))⟩, ⟨some 122, none, .q (.mv (.t 0))⟩, ⟨some 123, none, .q (.mv (.t 14))⟩, ⟨some 124, none, .q (.ias 26 (.t 122) (.t 123))⟩, ⟨some 125, none, .q (.ld (some 26) (.t 124))⟩, ⟨some 126, none, .call (.f 45) [(.t 121), (.t 125)]⟩])
                (.keep [0, 3, 5, 6, 7, 9, 28, 29, 30, 38, 39, 40, 112, 113, 114, 126]
                (.cond (.t 126) (.seq (.reg none [⟨some 2, none, .q (.mv (.c (.b false)))⟩])
                  .ret)
                .skip))))))
              (.keep [0, 3, 5, 6, 7, 9, 28, 29, 30, 38, 39, 40, 112, 113, 114]
              (.reg none [⟨some 127, none, .q (.bin .add (.t 114) (.c (.i .i64 1)))⟩, ⟨some 114, none, .q (.mv (.t 127))⟩]))))))))))))))))))))))
          (.keep [0, 3, 5, 6, 7, 28, 29, 30, 38, 39, 40]
          (.reg none [⟨some 128, none, .q (.bin .add (.t 40) (.c (.i .i64 1)))⟩, ⟨some 40, none, .q (.mv (.t 128))⟩]))))))))))))))))
      (.keep [0, 3, 5, 28, 29, 30]
      (.reg none [⟨some 129, none, .q (.bin .add (.t 30) (.c (.i .i64 1)))⟩, ⟨some 30, none, .q (.mv (.t 129))⟩]))))))))))))
  (.seq (.reg none [⟨some 130, none, .q (.mv (.t 5))⟩, ⟨some 131, none, .q (.mv (.t 0))⟩, ⟨some 132, none, .q (.len false (.t 131))⟩, ⟨some 133, none, .q (.bin .eql (.t 130) (.t 132))⟩, ⟨some 2, none, .q (.mv (.t 133))⟩])
  .ret)))))))))
theorem r11 : (Try.f11.body.bind (resC Try.prog Try.f11.ntmps)) = some (strip c11) := by kernel_rfl
theorem s11 : Try.f11.results.toList.mapM (resRes Try.prog) = some [.t 2] := by kernel_rfl
def someTo (t : List Ev) (x n q : Nat) : Bool := anyTo (fun y => decide (y < x) && dep (t.getD y default) (t.getD x default)) (rowL t n) q
theorem canonFoata (t : List Ev) (ht : t.length < 1000000000000) : PureS Try.prog 11 [.sl 26 (t.map Ev.row)] (.b true) := by
  refine fun_go hmx Try.func11 r11 s11 (by rw [Try.ntmps11]; simp) ?_
  unfold c11
  simp
  first
    | refine callk rfl Try.call41 (levels_p t ht) rfl ?_
    | refine callks rfl Try.call41 (levels_p t ht) rfl ?_
    | refine callq rfl Try.call41 (levels_p t ht) rfl ?_
    | refine callqe rfl Try.call41 (levels_p t ht) rfl ?_
  unfold levR
  by_cases h0 : checkT t = 0
  rotate_left
  · simp [h0]
    first
      | refine callk rfl Try.call22 (checkR_p t (by omega)) rfl ?_
      | refine callks rfl Try.call22 (checkR_p t (by omega)) rfl ?_
      | refine callq rfl Try.call22 (checkR_p t (by omega)) rfl ?_
      | refine callqe rfl Try.call22 (checkR_p t (by omega)) rfl ?_
    simp [h0]
    first
      | refine callkg rfl Try.call19 rfl (fun _ => small_p) (fun hG => by first | (simp; done) | (simp at hG; done) | simpa using hG) rfl ?_
      | refine callksg rfl Try.call19 rfl (fun _ => small_p) (fun hG => by first | (simp; done) | (simp at hG; done) | simpa using hG) rfl ?_
      | refine callqg rfl Try.call19 rfl (fun _ => small_p) (fun hG => by first | (simp; done) | (simp at hG; done) | simpa using hG) rfl ?_
    simp [h0]
  have h := good_of h0
  have hlen := h.len
  have htop := topN_le t t.length
  have hgd : ∀ (i : Nat) (hi : i < t.length), t.getD i default = t[i] := fun i hi => by rw [List.getD_eq_getElem?_getD, List.getElem?_eq_getElem hi]; rfl
  have hrow : ∀ (i : Nat) (hi : i < t.length) (h : 0 < t[i].row.length), t[i].row[0] = .i .i64 t[i].go := fun _ _ _ => rfl
  have hgo : ∀ (i : Nat) (hi : i < t.length), goI t i = t[i].go := fun i hi => by unfold goI; rw [hgd i hi]
  simp [h0]
  refine go_while hmx 0 (fun (k : Nat) => [(5, .v (.i .i64 (cntL t k : Int))), (30, .v (.i .i64 (k : Int)))]) (fun _ => []) (fun k => k ≤ topN t t.length ∧ cntL t k ≤ 6 * k) (fun k => topN t t.length - k) 0 rfl (by simp [cntL]) rfl (by simp) (by simp) (by simp) ⟨Nat.zero_le _, by simp [cntL]⟩ ?_
  rintro k ⟨hk, hck⟩
  by_cases hkl : k < topN t t.length
  · have hK : (k : Int) < (topN t t.length : Int) := by omega
    have hwk : IntKind.i64.wrap ((k : Int) + 1) = (k : Int) + 1 := wrap_in (by omega) (by omega)
    have hl6 := rowL_len h k
    have hne : ¬ (rowL t k).length = 0 := fun hc => row_ne h hkl (List.eq_nil_of_length_eq_zero hc)
    have hneI : ¬ ((rowL t k).length : Int) = 0 := by omega
    have hnil := row_ne h hkl
    have hmem : ∀ (i : Nat) (hi : i < (rowL t k).length), (rowL t k)[i] < t.length ∧ levN t (rowL t k)[i] = k := fun i hi => (rowL_mem h).1 (List.getElem_mem hi)
    simp [hK, hkl, hne, hneI, hnil]
    refine go_while hmx 0 (fun (i : Nat) => [(5, .v (.i .i64 ((cntL t k : Int) + (i : Int)))), (40, .v (.i .i64 (i : Int)))]) (fun _ => []) (fun i => i ≤ (rowL t k).length) (fun i => (rowL t k).length - i) 0 (by simp) (by simp) rfl (by simp) (by simp) (by simp) (Nat.zero_le _) ?_
    intro i hi
    by_cases hil : i < (rowL t k).length
    · have hI : (i : Int) < ((rowL t k).length : Int) := by omega
      have hwi : IntKind.i64.wrap ((i : Int) + 1) = (i : Int) + 1 := wrap_in (by omega) (by omega)
      have hwc : IntKind.i64.wrap ((cntL t k : Int) + (i : Int) + 1) = (cntL t k : Int) + (i : Int) + 1 := wrap_in (by omega) (by omega)
      obtain ⟨hx, hlx⟩ := hmem i hil
      obtain ⟨x, hxe⟩ : ∃ x, (rowL t k)[i] = x := ⟨_, rfl⟩
      have hcap : (rowL t k)[i]? = some x := by rw [List.getElem?_eq_getElem hil, hxe]
      rw [hxe] at hx hlx
      have hX : (x : Int) < (t.length : Int) := by omega
      have hX0 : ¬ (x : Int) < 0 := by omega
      have hX1 : ¬ (t.length : Int) ≤ (x : Int) := by omega
      have hpre : ∀ (q : Nat) (hq : q < i), dep t[x] (t[(rowL t k)[q]'(by omega)]'((hmem q (by omega)).1)) = false := fun q hq => by
        obtain ⟨hy, hly⟩ := hmem q (by omega)
        have := lev_apart h hx hy (by omega) fun he => by
          have := (List.getElem?_inj (i := i) (j := q) hil (rowL_nodup h k)).1 (by rw [hcap, List.getElem?_eq_getElem (by omega), he])
          omega
        rw [hgd _ hx, hgd _ hy] at this
        exact this
      have hgo1 : ∀ (j : Nat) (hj : j + 1 = i), (t[(rowL t k)[j]'(by omega)]'((hmem j (by omega)).1)).go < t[x].go := fun j hj => by
        have := List.pairwise_iff_getElem.1 (rowL_sorted h k) j i (by omega) hil (by omega)
        rw [hxe, hgo _ hx, hgo _ (hmem j (by omega)).1] at this
        exact this
      have hsome : ∀ n, k = n + 1 → someTo t x n (rowL t n).length = true := fun n hn => by
        obtain ⟨y, hy1, hy2, hy3⟩ := lev_dep h hx (by omega : levN t x = n + 1)
        unfold someTo
        rw [anyTo_len, List.any_eq_true]
        refine ⟨y, (rowL_mem h).2 ⟨by omega, hy2⟩, ?_⟩
        unfold depT at hy3
        rw [Bool.and_eq_true]
        exact ⟨decide_eq_true hy1, hy3⟩
      have htl : min i (rowL t k).length = i := by omega
      by_cases hi0 : i = 0
      · subst hi0
        have hwc0 : IntKind.i64.wrap ((cntL t k : Int) + 1) = (cntL t k : Int) + 1 := wrap_in (by omega) (by omega)
        by_cases hk0 : k = 0
        · subst hk0
          simp [hI, hil, nrow, hxe, hX0, hX1, hx, hX, hwc, hcap, hwc0, htl]
          refine go_while hmx 0 (fun (q : Nat) => [(114, .v (.i .i64 (q : Int)))]) (fun _ => []) (fun q => q ≤ 0) (fun q => 0 - q) 0 rfl (by simp) rfl (by simp) (by simp) (by simp) (Nat.zero_le _) ?_
          intro q hq
          obtain rfl : q = 0 := by omega
          simp
          exact ⟨1, by simp, by omega, by omega⟩
        · obtain ⟨n, hn⟩ : ∃ n, k = n + 1 := ⟨k - 1, by omega⟩
          have hk1 : 0 < k := by omega
          have hwn : IntKind.i64.wrap ((k : Int) - 1) = (n : Int) := by rw [wrap_in (by omega) (by omega)]; omega
          have hnl : n < topN t t.length := by omega
          have hN : (n : Int) < (topN t t.length : Int) := by omega
          simp [hI, hil, nrow, hxe, hX0, hX1, hx, hX, hwc, hcap, hwc0, hk0, hk1, hwn, hnl, hN, htl]
          refine go_while hmx 0 (fun (q : Nat) => [(10, .v (.b (someTo t x n q))), (86, .v (.i .i64 (q : Int)))]) (fun _ => []) (fun q => q ≤ (rowL t n).length) (fun q => (rowL t n).length - q) 0 rfl (by simp [someTo, hk0]) rfl (by simp) (by simp) (by simp) (Nat.zero_le _) ?_
          intro q hq
          have hn6 := rowL_len h n
          by_cases hql : q < (rowL t n).length
          · have hQ : (q : Int) < ((rowL t n).length : Int) := by omega
            have hwq : IntKind.i64.wrap ((q : Int) + 1) = (q : Int) + 1 := wrap_in (by omega) (by omega)
            obtain ⟨hy, _⟩ := (rowL_mem h).1 (List.getElem_mem hql)
            obtain ⟨y, hye⟩ : ∃ y, (rowL t n)[q] = y := ⟨_, rfl⟩
            rw [hye] at hy
            have hY : (y : Int) < (t.length : Int) := by omega
            have hst : someTo t x n (q + 1) = (someTo t x n q || (decide (y < x) && dep t[y] t[x])) := by
              unfold someTo; rw [anyTo_succ hql, hye, hgd _ hy, hgd _ hx]
            simp [hQ, hql, nrow, hx, hX, hye, hy, hY]
            first
              | refine callkg rfl Try.call45 rfl (fun _ => (dependent_p t[y] t[x])) (fun hG => by first | (simp; done) | (simp at hG; done) | simpa using hG) rfl ?_
              | refine callksg rfl Try.call45 rfl (fun _ => (dependent_p t[y] t[x])) (fun hG => by first | (simp; done) | (simp at hG; done) | simpa using hG) rfl ?_
              | refine callqg rfl Try.call45 rfl (fun _ => (dependent_p t[y] t[x])) (fun hG => by first | (simp; done) | (simp at hG; done) | simpa using hG) rfl ?_
            simp
            refine ⟨fun hs => ⟨hs, fun hyx => ⟨hs, hyx⟩⟩, q + 1, ⟨?_, hwq⟩, by omega, by omega⟩
            exact hst.symm
          · obtain rfl : q = (rowL t n).length := by omega
            simp [hsome n hn]
            refine go_while hmx 0 (fun (q : Nat) => [(114, .v (.i .i64 (q : Int)))]) (fun _ => []) (fun q => q ≤ 0) (fun q => 0 - q) 0 rfl (by simp) rfl (by simp) (by simp) (by simp) (Nat.zero_le _) ?_
            intro q hq
            obtain rfl : q = 0 := by omega
            simp
            exact ⟨1, by simp, by omega, by omega⟩
      · obtain ⟨j, hj⟩ : ∃ j, j + 1 = i := ⟨i - 1, by omega⟩
        have hi1 : 0 < i := by omega
        have hwj : IntKind.i64.wrap ((i : Int) - 1) = (j : Int) := by rw [wrap_in (by omega) (by omega)]; omega
        have hjr : j < (rowL t k).length := by omega
        have hJ : (j : Int) < ((rowL t k).length : Int) := by omega
        have hyl := (hmem j hjr).1
        have hYl : ((rowL t k)[j] : Int) < (t.length : Int) := by omega
        have hgj := hgo1 j hj
        have hgj2 : ¬ t[x].go ≤ t[(rowL t k)[j]].go := by omega
        by_cases hk0 : k = 0
        · subst hk0
          simp [hI, hil, nrow, hxe, hX0, hX1, hx, hX, hwc, hcap, hi1, hwj, hjr, hJ, hyl, hYl, hrow, hgj2, htl]
          refine ⟨by omega, ?_⟩
          refine go_while hmx 0 (fun (q : Nat) => [(114, .v (.i .i64 (q : Int)))]) (fun _ => []) (fun q => q ≤ i) (fun q => i - q) 0 rfl (by simp) rfl (by simp) (by simp) (by simp) (Nat.zero_le _) ?_
          intro q hq
          by_cases hql : q < i
          · have hQ : (q : Int) < (i : Int) := by omega
            have hwq : IntKind.i64.wrap ((q : Int) + 1) = (q : Int) + 1 := wrap_in (by omega) (by omega)
            have hqr : q < (rowL t 0).length := by omega
            obtain ⟨hy, _⟩ := hmem q hqr
            have hY : ((rowL t 0)[q] : Int) < (t.length : Int) := by omega
            have hd := hpre q hql
            simp [hQ, hql, hqr, nrow, hx, hX, hy, hY, htl]
            first
              | refine callk rfl Try.call45 (dependent_p t[x] t[(rowL t 0)[q]]) rfl ?_
              | refine callks rfl Try.call45 (dependent_p t[x] t[(rowL t 0)[q]]) rfl ?_
              | refine callq rfl Try.call45 (dependent_p t[x] t[(rowL t 0)[q]]) rfl ?_
              | refine callqe rfl Try.call45 (dependent_p t[x] t[(rowL t 0)[q]]) rfl ?_
            simp [hd]
            exact ⟨q + 1, hwq, by omega, by omega⟩
          · obtain rfl : q = i := by omega
            simp [htl]
            exact ⟨q + 1, ⟨by omega, hwi⟩, by omega, by omega⟩
        · obtain ⟨n, hn⟩ : ∃ n, k = n + 1 := ⟨k - 1, by omega⟩
          have hk1 : 0 < k := by omega
          have hwn : IntKind.i64.wrap ((k : Int) - 1) = (n : Int) := by rw [wrap_in (by omega) (by omega)]; omega
          have hnl : n < topN t t.length := by omega
          have hN : (n : Int) < (topN t t.length : Int) := by omega
          simp [hI, hil, nrow, hxe, hX0, hX1, hx, hX, hwc, hcap, hi1, hwj, hjr, hJ, hyl, hYl, hrow, hgj2, hk0, hk1, hwn, hnl, hN, htl]
          refine go_while hmx 0 (fun (q : Nat) => [(10, .v (.b (someTo t x n q))), (86, .v (.i .i64 (q : Int)))]) (fun _ => []) (fun q => q ≤ (rowL t n).length) (fun q => (rowL t n).length - q) 0 rfl (by simp [someTo, hk0]) rfl (by simp) (by simp) (by simp) (Nat.zero_le _) ?_
          intro q hq
          have hn6 := rowL_len h n
          by_cases hql : q < (rowL t n).length
          · have hQ : (q : Int) < ((rowL t n).length : Int) := by omega
            have hwq : IntKind.i64.wrap ((q : Int) + 1) = (q : Int) + 1 := wrap_in (by omega) (by omega)
            obtain ⟨hy, _⟩ := (rowL_mem h).1 (List.getElem_mem hql)
            obtain ⟨y, hye⟩ : ∃ y, (rowL t n)[q] = y := ⟨_, rfl⟩
            rw [hye] at hy
            have hY : (y : Int) < (t.length : Int) := by omega
            have hst : someTo t x n (q + 1) = (someTo t x n q || (decide (y < x) && dep t[y] t[x])) := by
              unfold someTo; rw [anyTo_succ hql, hye, hgd _ hy, hgd _ hx]
            simp [hQ, hql, nrow, hx, hX, hye, hy, hY]
            first
              | refine callkg rfl Try.call45 rfl (fun _ => (dependent_p t[y] t[x])) (fun hG => by first | (simp; done) | (simp at hG; done) | simpa using hG) rfl ?_
              | refine callksg rfl Try.call45 rfl (fun _ => (dependent_p t[y] t[x])) (fun hG => by first | (simp; done) | (simp at hG; done) | simpa using hG) rfl ?_
              | refine callqg rfl Try.call45 rfl (fun _ => (dependent_p t[y] t[x])) (fun hG => by first | (simp; done) | (simp at hG; done) | simpa using hG) rfl ?_
            simp
            refine ⟨fun hs => ⟨hs, fun hyx => ⟨hs, hyx⟩⟩, q + 1, ⟨?_, hwq⟩, by omega, by omega⟩
            exact hst.symm
          · obtain rfl : q = (rowL t n).length := by omega
            simp [hsome n hn]
            refine ⟨by omega, ?_⟩
            refine go_while hmx 0 (fun (q : Nat) => [(114, .v (.i .i64 (q : Int)))]) (fun _ => []) (fun q => q ≤ i) (fun q => i - q) 0 rfl (by simp) rfl (by simp) (by simp) (by simp) (Nat.zero_le _) ?_
            intro q hq
            by_cases hql : q < i
            · have hQ : (q : Int) < (i : Int) := by omega
              have hwq : IntKind.i64.wrap ((q : Int) + 1) = (q : Int) + 1 := wrap_in (by omega) (by omega)
              have hqr : q < (rowL t k).length := by omega
              obtain ⟨hy, _⟩ := hmem q hqr
              have hY : ((rowL t k)[q] : Int) < (t.length : Int) := by omega
              have hd := hpre q hql
              simp [hQ, hql, hqr, nrow, hx, hX, hy, hY, htl]
              first
                | refine callk rfl Try.call45 (dependent_p t[x] t[(rowL t k)[q]]) rfl ?_
                | refine callks rfl Try.call45 (dependent_p t[x] t[(rowL t k)[q]]) rfl ?_
                | refine callq rfl Try.call45 (dependent_p t[x] t[(rowL t k)[q]]) rfl ?_
                | refine callqe rfl Try.call45 (dependent_p t[x] t[(rowL t k)[q]]) rfl ?_
              simp [hd]
              exact ⟨q + 1, hwq, by omega, by omega⟩
            · obtain rfl : q = i := by omega
              simp [htl]
              exact ⟨q + 1, ⟨by omega, hwi⟩, by omega, by omega⟩
    · obtain rfl : i = (rowL t k).length := by omega
      have hcs := cntL_succ t k
      simp
      exact ⟨k + 1, ⟨by rw [hcs]; simp, hwk⟩, ⟨by omega, by omega⟩, by omega⟩
  · obtain rfl : k = topN t t.length := by omega
    simp [cntL_all h]
end Go.Sc.Or
