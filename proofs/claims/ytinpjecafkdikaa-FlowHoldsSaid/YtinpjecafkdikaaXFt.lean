/- Chapter 06: bags. No condition. -/
import Derived.Test.YtinpjecafkdikaaXFs
import Derived.Test.YtinpjecafkdikaaXFlo
set_option linter.constructorNameAsVariable false
namespace Go.Sc.Fl
open Go Go.RowKit Go.Av Go.Proofs Go.Sc
set_option linter.unusedSimpArgs false
set_option linter.unusedVariables false
/-- (*scarab/flow.bag).put -/
def c63 : ACode :=
  (.reg (some (15, [])) [⟨some 8, none, .q (.mv (.t 0))⟩, ⟨some 9, none, .q (.mv (.t 1))⟩, ⟨some 10, none, .q (.mv (.t 2))⟩, ⟨some 11, none, .q (.mv (.t 0))⟩, ⟨some 12, none, .q (.mv (.t 1))⟩, ⟨some 13, none, .q (.mv (.t 2))⟩, ⟨some 14, none, .q (.nck (.t 11))⟩, ⟨some 15, none, .q (.iaa 7 8 (.t 14) (.t 12))⟩, ⟨some 16, none, .q (.iaa 8 1 (.t 15) (.t 13))⟩, ⟨some 17, none, .q (.ld none (.t 16))⟩, ⟨some 18, none, .q (.mv (.t 3))⟩, ⟨some 19, none, .q (.mx true (.t 17) (.t 18))⟩, ⟨some 20, none, .q (.nck (.t 8))⟩, ⟨some 21, none, .q (.iaa 7 8 (.t 20) (.t 9))⟩, ⟨some 22, none, .q (.iaa 8 1 (.t 21) (.t 10))⟩, ⟨none, none, .m (.st 1 (.t 22) (.t 19))⟩])
theorem r63 : (Try.f63.body.bind (resC Try.prog Try.f63.ntmps)) = some (strip c63) := by kernel_rfl
theorem s63 : Try.f63.results.toList.mapM (resRes Try.prog) = some [] := by kernel_rfl
/-- (*scarab/flow.bag).list -/
def c52 : ACode :=
  (.seq (.reg none [⟨some 2, none, .q (.mv (.c .nil))⟩])
  (.keep [0]
  (.seq (.reg none [⟨some 3, none, .q (.mv (.c .nil))⟩])
  (.gst (.nilT 3 3)
  (.keep [0, 3]
  (.seq (.seq (.reg none [⟨some 8, none, .q (.mv (.t 0))⟩, ⟨some 9, none, .q (.nck (.t 8))⟩, ⟨some 10, none, .q (.mv (.c (.i .i64 0)))⟩])
    (.keep [3, 8, 10]
    (.blk 0 (.keep [3, 8, 10]
    (.loop (.fin [3, 8, 10]
      (.seq (.reg none [⟨some 11, none, .q (.bin .lss (.t 10) (.c (.i .i64 7)))⟩])
      (.keep [3, 8, 10, 11]
      (.seq (.cond (.t 11) .skip
        (.exit 0))
      (.seq (.blk 1 (.seq (.reg (some (4, [1, 2, 3])) [⟨some 12, none, .q (.mv (.t 10))⟩, ⟨some 13, none, .q (.nck (.t 8))⟩, ⟨some 14, none, .q (.iaa 7 8 (.t 13) (.t 10))⟩, ⟨some 15, none, .q (.ld (some 8) (.t 14))⟩, ⟨some 5, none, .m (.alloc (.g (reps 8 (.i .i64 0))))⟩, ⟨some 4, none, .q (.mv (.t 12))⟩, ⟨none, none, .m (.st 8 (.t 5) (.t 15))⟩])
        (.keep [3, 4, 5, 8, 10]
        (.seq (.reg none [⟨some 16, none, .q (.ld (some 8) (.t 5))⟩, ⟨some 17, none, .q (.mv (.c (.i .i64 0)))⟩])
        (.keep [3, 4, 8, 10, 16, 17]
        (.blk 2 (.keep [3, 4, 8, 10, 16, 17]
        (.loop (.fin [3, 4, 8, 10, 16, 17]
          (.seq (.reg none [⟨some 18, none, .q (.bin .lss (.t 17) (.c (.i .i64 8)))⟩])
          (.keep [3, 4, 8, 10, 16, 17, 18]
          (.seq (.cond (.t 18) .skip
            (.exit 2))
          (.seq (.blk 3 (.seq (.reg none [⟨some 19, none, .q (.mv (.t 17))⟩, ⟨some 20, none, .q (.idx 8 1 false (.t 16) (.t 17))⟩, ⟨some 6, none, .q (.mv (.t 19))⟩, ⟨some 7, none, .q (.mv (.t 20))⟩])
            (.keep [3, 4, 6, 7, 8, 10, 16, 17]
            (.seq (.reg none [⟨some 21, none, .q (.mv (.t 7))⟩, ⟨some 22, none, .q (.bin .gtr (.t 21) (.c (.i .i64 0)))⟩])
            (.keep [3, 4, 6, 7, 8, 10, 16, 17, 22]
            (.cond (.t 22) (.reg none [⟨some 23, none, .q (.mv (.t 3))⟩, ⟨some 24, none, .q (.mv (.t 4))⟩, ⟨some 25, none, .q (.mv (.t 6))⟩, ⟨some 26, none, .q (.mv (.t 7))⟩, ⟨some 27, none, .q (.bin .eql (.t 26) (.c (.i .i64 2)))⟩, ⟨some 28, none, .q (.bld [(.i .i64 0), (.i .i64 0), (.b false)] [(0, 1, .t 24), (1, 1, .t 25), (2, 1, .t 27)])⟩, ⟨some 29, none, .m (.bsl 1 3 [(.i .i64 0), (.i .i64 0), (.b false)] [(0, 3, .t 28)])⟩, ⟨some 30, none, .m (.app 3 24 (.t 23) (.t 29))⟩, ⟨some 3, none, .q (.mv (.t 30))⟩])
            .skip))))))
          (.keep [3, 4, 8, 10, 16, 17]
          (.reg none [⟨some 31, none, .q (.bin .add (.t 17) (.c (.i .i64 1)))⟩, ⟨some 17, none, .q (.mv (.t 31))⟩])))))))))))))))
      (.keep [3, 8, 10]
      (.reg none [⟨some 32, none, .q (.bin .add (.t 10) (.c (.i .i64 1)))⟩, ⟨some 10, none, .q (.mv (.t 32))⟩]))))))))))))
  (.seq (.reg none [⟨some 33, none, .q (.mv (.t 3))⟩, ⟨some 2, none, .q (.mv (.t 33))⟩])
  .ret)))))))
theorem r52 : (Try.f52.body.bind (resC Try.prog Try.f52.ntmps)) = some (strip c52) := by kernel_rfl
theorem s52 : Try.f52.results.toList.mapM (resRes Try.prog) = some [.t 2] := by kernel_rfl
theorem slice_avs {α : Type} {f : α → AV} {m : List α} {k n : Nat} : ((avs f m).drop k).take n = avs f ((m.drop k).take n) := by simp [avs, List.map_drop, List.map_take]
theorem put_b (b : List Int) (hb : b.length = 56) (t : Tch) (ht : InB t) : CallS Try.prog 63 [.pt 0 0 0 0, .v (.i .i64 t.1), .v (.i .i64 t.2.1), .v (.i .i64 t.2.2)] [.var (avs (AV.i .i64) b)] fun _ K => K = [.var (avs (AV.i .i64) (putB b t))] := by
  obtain ⟨k, n, h⟩ := t
  have hc := cell_lt ht
  obtain ⟨k0, k1, n0, n1, h1, h2⟩ := ht
  simp only at k0 k1 n0 n1 h1 h2
  refine CallS.cut 1 (by simp) ?_
  refine fun_go hmx Try.func63 r63 s63 (by rw [Try.ntmps63]; simp) ?_
  unfold c63
  have hi : k.toNat * 8 + n.toNat < 56 := by omega
  have hp : putB b (k, n, h) = b.set (k.toNat * 8 + n.toNat) (max (b[k.toNat * 8 + n.toNat]'(by omega)) h) := by
    rw [putB, show cell (k, n, h) = k.toNat * 8 + n.toNat by simp only [cell]; omega, List.getD_eq_getElem?_getD, List.getElem?_eq_getElem (by omega)]; rfl
  have hm : ∀ a b : Int, (if a < b then b else a) = max a b := fun a b => by split <;> omega
  simp [hb, k0, k1, n0, n1, hi, hm, hp]
  omega
theorem list_b (b : List Int) (hb : Bag b) : CallS Try.prog 52 [.pt 0 0 0 0] [.var (avs (AV.i .i64) b)] fun r K => ∃ v, r = .os 1 v ∧ K = [.var (avs (AV.i .i64) b), .arr v 3 (vrows ((accs b).map Acc.row))] := by
  refine fun_go hmx Try.func52 r52 s52 (by rw [Try.ntmps52]; simp) ?_
  unfold c52
  simp
  have hbl := hb.1
  refine go_while hmx 2 (fun (s : Nat × Nat) => [(3, .os 1 s.2), (10, .v (.i .i64 (s.1 : Int)))]) (fun s => [.var (avs (AV.i .i64) b), .arr s.2 3 (vrows ((accR b (List.range (8 * s.1))).map Acc.row))]) (fun s => s.1 ≤ 7) (fun s => 7 - s.1) (0, 0) rfl rfl rfl (by simp) (by simp) (by simp) (Nat.zero_le _) ?_
  rintro ⟨i, v⟩ hi
  simp only at hi
  by_cases hil : i < 7
  · have hI : (i : Int) < 7 := by omega
    have hw : IntKind.i64.wrap ((i : Int) + 1) = (i : Int) + 1 := wrap_in (by omega) (by omega)
    have hRl : ((b.drop (i * 8)).take 8).length = 8 := by simp; omega
    have hRg : ∀ j (h : j < 8), ((b.drop (i * 8)).take 8)[j]'(by rw [hRl]; exact h) = b.getD (8 * i + j) 0 := fun j h => by
      rw [List.getElem_take, List.getElem_drop, List.getD_eq_getElem?_getD, List.getElem?_eq_getElem (by omega)]
      simp [Nat.mul_comm]
    have hacc : ∀ j, j < 8 → accR b (List.range (8 * i + (j + 1))) = accR b (List.range (8 * i + j)) ++ if 0 < b.getD (8 * i + j) 0 then [⟨(i : Int), (j : Int), decide (b.getD (8 * i + j) 0 = 2)⟩] else [] := fun j hj => by
      rw [show 8 * i + (j + 1) = (8 * i + j) + 1 by omega, List.range_succ, accR_app]
      congr 1
      simp only [accR, List.filter_cons, List.filter_nil]
      by_cases h : 0 < b.getD (8 * i + j) 0
      · rw [if_pos (decide_eq_true h), if_pos h]
        simp only [List.map_cons, List.map_nil, accOf]
        rw [show (8 * i + j) / 8 = i by omega, show (8 * i + j) % 8 = j by omega]
      · rw [if_neg (by rw [decide_eq_true_eq]; exact h), if_neg h]; rfl
    have hlen : ∀ n, (accR b (List.range n)).length ≤ n := fun n => by
      simp only [accR, List.length_map]
      have := List.length_filter_le (fun c => decide (0 < b.getD c 0)) (List.range n)
      simpa using this
    simp [hI, hbl, hil, slice_avs]
    generalize (b.drop (i * 8)).take 8 = R at *
    simp [hRl, take_avs]
    refine ⟨by omega, by omega, ?_⟩
    refine go_while hmx 3 (fun (s : Nat × Nat) => [(3, .os 1 s.2), (17, .v (.i .i64 (s.1 : Int)))]) (fun s => [.var (avs (AV.i .i64) b), .arr s.2 3 (vrows ((accR b (List.range (8 * i + s.1))).map Acc.row)), .var (avs (AV.i .i64) R)]) (fun s => s.1 ≤ 8) (fun s => 8 - s.1) (0, v) rfl rfl rfl (by simp) (by simp) (by simp) (Nat.zero_le _) ?_
    rintro ⟨j, w⟩ hj
    simp only at hj
    by_cases hjl : j < 8
    · have hJ : (j : Int) < 8 := by omega
      have hw2 : IntKind.i64.wrap ((j : Int) + 1) = (j : Int) + 1 := wrap_in (by omega) (by omega)
      have hacc := hacc j hjl
      have hlen := hlen (8 * i + j)
      have hRj := hRg j hjl
      rw [← hRj] at hacc
      simp [hJ, hjl, hRl, hw2]
      constructor
      · intro h0
        rw [if_pos h0] at hacc
        exact ⟨⟨by omega, by omega⟩, j + 1, w + 1, ⟨rfl, by omega⟩, ⟨rfl, by rw [hacc]; simp [vrows, Acc.row]; rfl⟩, by omega, by omega⟩
      · intro h0
        rw [if_neg (by omega), List.append_nil] at hacc
        exact ⟨j + 1, w, ⟨rfl, by omega⟩, ⟨rfl, by rw [hacc]⟩, by omega, by omega⟩
    · have hJ : ¬ (j : Int) < 8 := by omega
      obtain rfl : j = 8 := by omega
      simp [hJ, hw]
      exact ⟨i + 1, w, ⟨rfl, by omega⟩, ⟨rfl, by rw [show 8 * i + 8 = 8 * (i + 1) by omega]⟩, by omega, by omega⟩
  · have hI : ¬ (i : Int) < 7 := by omega
    obtain rfl : i = 7 := by omega
    simp [hI, accs]
end Go.Sc.Fl
/- Chapter 06: what an instruction touches. No condition. -/
set_option linter.constructorNameAsVariable false
namespace Go.Sc.Fl
open Go Go.RowKit Go.Av Go.Proofs Go.Sc
set_option linter.unusedSimpArgs false
set_option linter.unusedVariables false
/-- (*scarab/flow.bag).touch -/
def c51 : ACode :=
  (.seq (.reg none [⟨some 4, none, .m (.box (.t 1))⟩, ⟨some 5, none, .m (.box (.t 2))⟩])
  (.keep [0, 4, 5]
  (.seq (.reg none [⟨some 10, none, .q (.fa 0 (.t 5))⟩, ⟨some 11, none, .q (.ld none (.t 10))⟩])
  (.keep [0, 4, 5, 11]
  (.blk 0 (.seq (.reg none [⟨some 13, none, .q (.bin .eql (.t 11) (.c (.i .i64 50)))⟩, ⟨some 12, none, .q (.mv (.t 13))⟩])
  (.keep [0, 4, 5, 11, 12]
  (.cond (.t 12) (.reg none [⟨some 14, none, .q (.mv (.t 0))⟩, ⟨some 15, none, .q (.fa 2 (.t 5))⟩, ⟨some 16, none, .q (.ld none (.t 15))⟩, ⟨some 17, none, .call (.f 63) [(.t 14), (.c (.i .i64 1)), (.t 16), (.c (.i .i64 1))]⟩])
  (.seq (.reg none [⟨some 19, none, .q (.bin .eql (.t 11) (.c (.i .i64 54)))⟩, ⟨some 18, none, .q (.mv (.t 19))⟩])
    (.keep [0, 4, 5, 11, 18]
    (.cond (.t 18) (.reg none [⟨some 20, none, .q (.mv (.t 0))⟩, ⟨some 21, none, .q (.fa 1 (.t 5))⟩, ⟨some 22, none, .q (.ld none (.t 21))⟩, ⟨some 23, none, .call (.f 63) [(.t 20), (.c (.i .i64 1)), (.t 22), (.c (.i .i64 1))]⟩])
    (.seq (.reg none [⟨some 25, none, .q (.bin .eql (.t 11) (.c (.i .i64 51)))⟩, ⟨some 24, none, .q (.mv (.t 25))⟩])
      (.keep [0, 4, 5, 11, 24]
      (.cond (.t 24) (.reg none [⟨some 26, none, .q (.mv (.t 0))⟩, ⟨some 27, none, .q (.fa 1 (.t 5))⟩, ⟨some 28, none, .q (.ld none (.t 27))⟩, ⟨some 29, none, .call (.f 63) [(.t 26), (.c (.i .i64 1)), (.t 28), (.c (.i .i64 2))]⟩])
      (.seq (.seq (.reg none [⟨some 31, none, .q (.bin .eql (.t 11) (.c (.i .i64 52)))⟩, ⟨some 30, none, .q (.mv (.t 31))⟩])
          (.keep [0, 4, 5, 11, 30]
          (.cond (.t 30) .skip
          (.reg none [⟨some 32, none, .q (.bin .eql (.t 11) (.c (.i .i64 53)))⟩, ⟨some 30, none, .q (.mv (.t 32))⟩]))))
        (.cond (.t 30) (.reg none [⟨some 33, none, .q (.mv (.t 0))⟩, ⟨some 34, none, .q (.fa 2 (.t 5))⟩, ⟨some 35, none, .q (.ld none (.t 34))⟩, ⟨some 36, none, .call (.f 63) [(.t 33), (.c (.i .i64 1)), (.t 35), (.c (.i .i64 2))]⟩])
        (.seq (.seq (.reg none [⟨some 38, none, .q (.bin .eql (.t 11) (.c (.i .i64 55)))⟩, ⟨some 37, none, .q (.mv (.t 38))⟩])
            (.keep [0, 4, 5, 11, 37]
            (.cond (.t 37) .skip
            (.reg none [⟨some 39, none, .q (.bin .eql (.t 11) (.c (.i .i64 56)))⟩, ⟨some 37, none, .q (.mv (.t 39))⟩]))))
          (.cond (.t 37) (.reg none [⟨some 40, none, .q (.mv (.t 0))⟩, ⟨some 41, none, .q (.fa 1 (.t 5))⟩, ⟨some 42, none, .q (.ld none (.t 41))⟩, ⟨some 43, none, .call (.f 63) [(.t 40), (.c (.i .i64 2)), (.t 42), (.c (.i .i64 2))]⟩])
          (.seq (.reg none [⟨some 45, none, .q (.bin .eql (.t 11) (.c (.i .i64 57)))⟩, ⟨some 44, none, .q (.mv (.t 45))⟩])
            (.keep [0, 4, 5, 11, 44]
            (.cond (.t 44) (.reg none [⟨some 46, none, .q (.mv (.t 0))⟩, ⟨some 47, none, .q (.fa 2 (.t 5))⟩, ⟨some 48, none, .q (.ld none (.t 47))⟩, ⟨some 49, none, .call (.f 63) [(.t 46), (.c (.i .i64 2)), (.t 48), (.c (.i .i64 2))]⟩])
            (.seq (.seq (.reg none [⟨some 51, none, .q (.bin .eql (.t 11) (.c (.i .i64 58)))⟩, ⟨some 50, none, .q (.mv (.t 51))⟩])
                (.keep [0, 4, 5, 11, 50]
                (.cond (.t 50) .skip
                (.reg none [⟨some 52, none, .q (.bin .eql (.t 11) (.c (.i .i64 60)))⟩, ⟨some 50, none, .q (.mv (.t 52))⟩]))))
              (.cond (.t 50) (.reg none [⟨some 53, none, .q (.mv (.t 0))⟩, ⟨some 54, none, .q (.fa 1 (.t 5))⟩, ⟨some 55, none, .q (.ld none (.t 54))⟩, ⟨some 56, none, .call (.f 63) [(.t 53), (.c (.i .i64 3)), (.t 55), (.c (.i .i64 2))]⟩])
              (.seq (.reg none [⟨some 58, none, .q (.bin .eql (.t 11) (.c (.i .i64 59)))⟩, ⟨some 57, none, .q (.mv (.t 58))⟩])
                (.keep [0, 4, 5, 11, 57]
                (.cond (.t 57) (.reg none [⟨some 59, none, .q (.mv (.t 0))⟩, ⟨some 60, none, .q (.fa 2 (.t 5))⟩, ⟨some 61, none, .q (.ld none (.t 60))⟩, ⟨some 62, none, .call (.f 63) [(.t 59), (.c (.i .i64 3)), (.t 61), (.c (.i .i64 2))]⟩])
                (.seq (.reg none [⟨some 64, none, .q (.bin .eql (.t 11) (.c (.i .i64 61)))⟩, ⟨some 63, none, .q (.mv (.t 64))⟩])
                  (.keep [0, 4, 5, 11, 63]
                  (.cond (.t 63) (.seq (.reg none [⟨some 65, none, .q (.fa 3 (.t 4))⟩, ⟨some 66, none, .q (.ld none (.t 65))⟩, ⟨some 67, none, .q (.fa 1 (.t 5))⟩, ⟨some 68, none, .q (.ld none (.t 67))⟩, ⟨some 69, none, .q (.ias 2 (.t 66) (.t 68))⟩, ⟨some 70, none, .q (.fa 0 (.t 69))⟩, ⟨some 71, none, .q (.ld none (.t 70))⟩, ⟨some 72, none, .q (.len false (.t 71))⟩, ⟨some 73, none, .q (.mv (.c (.i .i64 0)))⟩])
                    (.keep [0, 71, 72, 73]
                    (.blk 1 (.keep [0, 71, 72, 73]
                    (.loop (.fin [0, 71, 72, 73]
                      (.seq (.reg none [⟨some 74, none, .q (.bin .lss (.t 73) (.t 72))⟩])
                      (.keep [0, 71, 72, 73, 74]
                      (.seq (.cond (.t 74) .skip
                        (.exit 1))
                      (.seq (.blk 2 (.seq (.reg none [⟨some 75, none, .q (.ias 4 (.t 71) (.t 73))⟩, ⟨some 76, none, .q (.ld (some 4) (.t 75))⟩, ⟨some 7, none, .m (.alloc (.g [(.b false), (.i .i64 0), (.i .i64 0), (.i .i64 0)]))⟩, ⟨none, none, .m (.st 4 (.t 7) (.t 76))⟩])
                        (.keep [0, 7, 71, 72, 73]
                        (.reg none [⟨some 77, none, .q (.mv (.t 0))⟩, ⟨some 78, none, .q (.fa 1 (.t 7))⟩, ⟨some 79, none, .q (.ld none (.t 78))⟩, ⟨some 80, none, .call (.f 63) [(.t 77), (.c (.i .i64 3)), (.t 79), (.c (.i .i64 2))]⟩]))))
                      (.keep [0, 71, 72, 73]
                      (.reg none [⟨some 81, none, .q (.bin .add (.t 73) (.c (.i .i64 1)))⟩, ⟨some 73, none, .q (.mv (.t 81))⟩]))))))))))))
                  (.seq (.reg none [⟨some 83, none, .q (.bin .eql (.t 11) (.c (.i .i64 62)))⟩, ⟨some 82, none, .q (.mv (.t 83))⟩])
                    (.keep [0, 11, 82]
                    (.cond (.t 82) (.seq (.reg none [⟨some 84, none, .q (.mv (.t 0))⟩, ⟨some 85, none, .call (.f 63) [(.t 84), (.c (.i .i64 4)), (.c (.i .i64 0)), (.c (.i .i64 2))]⟩])
                      (.keep [0]
                      (.seq (.reg none [⟨some 8, none, .q (.mv (.c (.i .i64 1)))⟩])
                      (.keep [0, 8]
                      (.blk 3 (.keep [0, 8]
                      (.loop (.fin [0, 8]
                        (.seq (.seq (.reg none [⟨some 86, none, .q (.mv (.t 8))⟩, ⟨some 87, none, .q (.bin .lss (.t 86) (.c (.i .i64 6)))⟩])
                          (.keep [0, 8, 87]
                          (.cond (.t 87) .skip
                          (.exit 3))))
                        (.seq (.blk 4 (.reg none [⟨some 90, none, .q (.mv (.t 0))⟩, ⟨some 91, none, .q (.mv (.t 8))⟩, ⟨some 92, none, .call (.f 63) [(.t 90), (.c (.i .i64 5)), (.t 91), (.c (.i .i64 2))]⟩]))
                        (.keep [0, 8]
                        (.reg none [⟨some 88, none, .q (.mv (.t 8))⟩, ⟨some 89, none, .q (.bin .add (.t 88) (.c (.i .i64 1)))⟩, ⟨some 8, none, .q (.mv (.t 89))⟩]))))))))))))
                    (.seq (.reg none [⟨some 94, none, .q (.bin .eql (.t 11) (.c (.i .i64 63)))⟩, ⟨some 93, none, .q (.mv (.t 94))⟩])
                      (.keep [0, 11, 93]
                      (.cond (.t 93) (.seq (.reg none [⟨some 95, none, .q (.mv (.t 0))⟩, ⟨some 96, none, .call (.f 63) [(.t 95), (.c (.i .i64 4)), (.c (.i .i64 0)), (.c (.i .i64 1))]⟩])
                        (.keep [0]
                        (.seq (.reg none [⟨some 97, none, .q (.mv (.c (.i .i64 0)))⟩])
                        (.keep [0, 97]
                        (.blk 5 (.keep [0, 97]
                        (.loop (.fin [0, 97]
                          (.seq (.reg none [⟨some 98, none, .q (.bin .lss (.t 97) (.c (.i .i64 6)))⟩])
                          (.keep [0, 97, 98]
                          (.seq (.cond (.t 98) .skip
                            (.exit 5))
                          (.seq (.blk 6 (.seq (.reg none [⟨some 99, none, .q (.mv (.t 97))⟩, ⟨some 9, none, .q (.mv (.t 99))⟩])
                            (.keep [0, 9, 97]
                            (.reg none [⟨some 100, none, .q (.mv (.t 0))⟩, ⟨some 101, none, .q (.mv (.t 9))⟩, ⟨some 102, none, .call (.f 63) [(.t 100), (.c (.i .i64 5)), (.t 101), (.c (.i .i64 1))]⟩]))))
                          (.keep [0, 97]
                          (.reg none [⟨some 103, none, .q (.bin .add (.t 97) (.c (.i .i64 1)))⟩, ⟨some 97, none, .q (.mv (.t 103))⟩]))))))))))))))
                      (.seq (.reg none [⟨some 105, none, .q (.bin .eql (.t 11) (.c (.i .i64 65)))⟩, ⟨some 104, none, .q (.mv (.t 105))⟩])
                        (.keep [0, 104]
                        (.cond (.t 104) (.reg none [⟨some 106, none, .q (.mv (.t 0))⟩, ⟨some 107, none, .call (.f 63) [(.t 106), (.c (.i .i64 6)), (.c (.i .i64 0)), (.c (.i .i64 2))]⟩])
                        .skip))))))))))))))))))))))))))))))))))))))
theorem r51 : (Try.f51.body.bind (resC Try.prog Try.f51.ntmps)) = some (strip c51) := by kernel_rfl
theorem s51 : Try.f51.results.toList.mapM (resRes Try.prog) = some [] := by kernel_rfl
theorem touch_b (f : Func) (hfo : f.Ok) (h4 : ∀ s ∈ f.selects, s.cases.length ≤ 64) (i : Instr) (hs : i.op = 61 → 0 ≤ i.a ∧ i.a < f.selects.length) (hn : ∀ t ∈ tcI f i, InB t) (b : List Int) (hb : b.length = 56) :
    CallS Try.prog 51 [.pt 0 0 0 0, .v (.g f.row), .v (.g i.row)] [.var (avs (AV.i .i64) b)] fun _ K => K = [.var (avs (AV.i .i64) (putsB b (tcI f i)))] := by
  refine CallS.cut 1 (by simp) ?_
  refine fun_go hmx Try.func51 r51 s51 (by rw [Try.ntmps51]; simp) ?_
  unfold c51
  by_cases e50 : i.op = 50
  · have e := e50
    have ht : tcI f i = [(1, i.b, 1)] := by simp [tcI, e]
    rw [ht] at hn ⊢
    simp [Func.row, Instr.row, e]
    refine callf [0] rfl Try.call63 (put_b b hb (1, i.b, 1) (hn _ (by simp))) (by simp) rfl (by simp) (by simp) (by simp) ?_
    rintro _ _ rfl
    simp [putsB]
  by_cases e54 : i.op = 54
  · have e := e54
    have ht : tcI f i = [(1, i.a, 1)] := by simp [tcI, e]
    rw [ht] at hn ⊢
    simp [Func.row, Instr.row, e]
    refine callf [0] rfl Try.call63 (put_b b hb (1, i.a, 1) (hn _ (by simp))) (by simp) rfl (by simp) (by simp) (by simp) ?_
    rintro _ _ rfl
    simp [putsB]
  by_cases e51 : i.op = 51
  · have e := e51
    have ht : tcI f i = [(1, i.a, 2)] := by simp [tcI, e]
    rw [ht] at hn ⊢
    simp [Func.row, Instr.row, e]
    refine callf [0] rfl Try.call63 (put_b b hb (1, i.a, 2) (hn _ (by simp))) (by simp) rfl (by simp) (by simp) (by simp) ?_
    rintro _ _ rfl
    simp [putsB]
  by_cases e52 : i.op = 52
  · have e := e52
    have ht : tcI f i = [(1, i.b, 2)] := by simp [tcI, e]
    rw [ht] at hn ⊢
    simp [Func.row, Instr.row, e]
    refine callf [0] rfl Try.call63 (put_b b hb (1, i.b, 2) (hn _ (by simp))) (by simp) rfl (by simp) (by simp) (by simp) ?_
    rintro _ _ rfl
    simp [putsB]
  by_cases e53 : i.op = 53
  · have e := e53
    have ht : tcI f i = [(1, i.b, 2)] := by simp [tcI, e]
    rw [ht] at hn ⊢
    simp [Func.row, Instr.row, e]
    refine callf [0] rfl Try.call63 (put_b b hb (1, i.b, 2) (hn _ (by simp))) (by simp) rfl (by simp) (by simp) (by simp) ?_
    rintro _ _ rfl
    simp [putsB]
  by_cases e55 : i.op = 55
  · have e := e55
    have ht : tcI f i = [(2, i.a, 2)] := by simp [tcI, e]
    rw [ht] at hn ⊢
    simp [Func.row, Instr.row, e]
    refine callf [0] rfl Try.call63 (put_b b hb (2, i.a, 2) (hn _ (by simp))) (by simp) rfl (by simp) (by simp) (by simp) ?_
    rintro _ _ rfl
    simp [putsB]
  by_cases e56 : i.op = 56
  · have e := e56
    have ht : tcI f i = [(2, i.a, 2)] := by simp [tcI, e]
    rw [ht] at hn ⊢
    simp [Func.row, Instr.row, e]
    refine callf [0] rfl Try.call63 (put_b b hb (2, i.a, 2) (hn _ (by simp))) (by simp) rfl (by simp) (by simp) (by simp) ?_
    rintro _ _ rfl
    simp [putsB]
  by_cases e57 : i.op = 57
  · have e := e57
    have ht : tcI f i = [(2, i.b, 2)] := by simp [tcI, e]
    rw [ht] at hn ⊢
    simp [Func.row, Instr.row, e]
    refine callf [0] rfl Try.call63 (put_b b hb (2, i.b, 2) (hn _ (by simp))) (by simp) rfl (by simp) (by simp) (by simp) ?_
    rintro _ _ rfl
    simp [putsB]
  by_cases e58 : i.op = 58
  · have e := e58
    have ht : tcI f i = [(3, i.a, 2)] := by simp [tcI, e]
    rw [ht] at hn ⊢
    simp [Func.row, Instr.row, e]
    refine callf [0] rfl Try.call63 (put_b b hb (3, i.a, 2) (hn _ (by simp))) (by simp) rfl (by simp) (by simp) (by simp) ?_
    rintro _ _ rfl
    simp [putsB]
  by_cases e60 : i.op = 60
  · have e := e60
    have ht : tcI f i = [(3, i.a, 2)] := by simp [tcI, e]
    rw [ht] at hn ⊢
    simp [Func.row, Instr.row, e]
    refine callf [0] rfl Try.call63 (put_b b hb (3, i.a, 2) (hn _ (by simp))) (by simp) rfl (by simp) (by simp) (by simp) ?_
    rintro _ _ rfl
    simp [putsB]
  by_cases e59 : i.op = 59
  · have e := e59
    have ht : tcI f i = [(3, i.b, 2)] := by simp [tcI, e]
    rw [ht] at hn ⊢
    simp [Func.row, Instr.row, e]
    refine callf [0] rfl Try.call63 (put_b b hb (3, i.b, 2) (hn _ (by simp))) (by simp) rfl (by simp) (by simp) (by simp) ?_
    rintro _ _ rfl
    simp [putsB]
  by_cases e65 : i.op = 65
  · have e := e65
    have ht : tcI f i = [(6, 0, 2)] := by simp [tcI, e]
    rw [ht] at hn ⊢
    simp [Func.row, Instr.row, e]
    refine callf [0] rfl Try.call63 (put_b b hb (6, 0, 2) (hn _ (by simp))) (by simp) rfl (by simp) (by simp) (by simp) ?_
    rintro _ _ rfl
    simp [putsB]
  by_cases e61 : i.op = 61
  · have e := e61
    obtain ⟨a0, a1⟩ := hs e
    have hlt : i.a.toNat < f.selects.length := by omega
    have hsd : f.selects.getD i.a.toNat default = f.selects[i.a.toNat] := by rw [List.getD_eq_getElem?_getD, List.getElem?_eq_getElem hlt]; rfl
    have ht : tcI f i = f.selects[i.a.toNat].cases.map fun c => (3, c.chan, 2) := by rw [← hsd]; simp [tcI, e]
    have h4 := h4 _ (List.getElem_mem hlt)
    rw [ht] at hn ⊢
    simp [Func.row, Instr.row, e, a0, a1, hlt]
    generalize f.selects[i.a.toNat] = S at *
    simp [Select.row]
    generalize hT : (S.cases.map fun c => ((3, c.chan, 2) : Tch)) = T at *
    have hTl : T.length = S.cases.length := by rw [← hT]; simp
    refine go_while hmx 3 (fun (k : Nat) => [(73, .v (.i .i64 (k : Int)))]) (fun k => [.var (avs (AV.i .i64) (putsB b (T.take k))), .var (f.row.map .v), .var ([AV.i .i64 61, .i .i64 i.a, .i .i64 i.b, .i .i64 i.c, .i .i64 i.n].map .v)]) (fun k => k ≤ S.cases.length) (fun k => S.cases.length - k) 0 rfl rfl rfl (by simp) (by simp) (by simp [Func.row]) (Nat.zero_le _) ?_
    intro k hk
    by_cases hkl : k < S.cases.length
    · have hK : (k : Int) < (S.cases.length : Int) := by omega
      have hw : IntKind.i64.wrap ((k : Int) + 1) = (k : Int) + 1 := wrap_in (by omega) (by omega)
      have hTk : T[k]? = some (3, S.cases[k].chan, 2) := by rw [← hT]; simp [hkl]
      have hpt := putsB_take b hTk
      have hin := hn _ (List.mem_of_getElem? hTk)
      simp [hK, hkl, Case.row, Func.row]
      refine callf [0] rfl Try.call63 (put_b (putsB b (T.take k)) (by simp [hb]) (3, S.cases[k].chan, 2) hin) (by simp) rfl (by simp) (by simp) (by simp) ?_
      rintro _ _ rfl
      simp [hw]
      exact ⟨k + 1, by omega, by rw [hpt], by omega, by omega⟩
    · have hK : ¬ (k : Int) < (S.cases.length : Int) := by omega
      obtain rfl : k = S.cases.length := by omega
      have htk : T.take S.cases.length = T := by rw [← hTl]; exact List.take_length
      simp [hK, htk]
  by_cases e62 : i.op = 62
  · have e := e62
    have ht : tcI f i = [(4, 0, 2), (5, 1, 2), (5, 2, 2), (5, 3, 2), (5, 4, 2), (5, 5, 2)] := by simp [tcI, e]
    rw [ht] at hn ⊢
    simp [Func.row, Instr.row, e]
    refine callf [0] rfl Try.call63 (put_b b hb (4, 0, 2) (hn _ (by simp))) (by simp) rfl (by simp) (by simp) (by simp) ?_
    rintro _ _ rfl
    simp
    generalize hT : ([(4, 0, 2), (5, 1, 2), (5, 2, 2), (5, 3, 2), (5, 4, 2), (5, 5, 2)] : List Tch) = T at *
    have hT0 : putB b (4, 0, 2) = putsB b (T.take 1) := by rw [← hT]; rfl
    have hTk : ∀ k : Nat, 1 ≤ k → k < 6 → T[k + 0]? = some (5, (k : Int), 2) := fun k h1 h2 => by
      rw [← hT]
      have : k = 0 ∨ k = 1 ∨ k = 2 ∨ k = 3 ∨ k = 4 ∨ k = 5 := by omega
      rcases this with rfl | rfl | rfl | rfl | rfl | rfl
      all_goals first | rfl | omega
    have hTl : T.take 6 = T := by rw [← hT]; rfl
    rw [hT0]
    refine go_while hmx 3 (fun (k : Nat) => [(8, .v (.i .i64 (k : Int)))]) (fun k => [.var (avs (AV.i .i64) (putsB b (T.take (k + 0)))), .var (f.row.map .v), .var ([AV.i .i64 62, .i .i64 i.a, .i .i64 i.b, .i .i64 i.c, .i .i64 i.n].map .v)]) (fun k => 1 ≤ k ∧ k ≤ 6) (fun k => 6 - k) 1 rfl rfl rfl (by simp) (by simp) (by simp [Func.row]) (by omega) ?_
    intro k hk
    by_cases hkl : k < 6
    · have hK : (k : Int) < 6 := by omega
      have hw : IntKind.i64.wrap ((k : Int) + 1) = (k : Int) + 1 := wrap_in (by omega) (by omega)
      have hTk := hTk k (by omega) hkl
      have hpt := putsB_take b hTk
      have hin := hn _ (List.mem_of_getElem? hTk)
      simp [hK, Func.row]
      refine callf [0] rfl Try.call63 (put_b (putsB b (T.take (k + 0))) (by simp [hb]) (5, (k : Int), 2) hin) (by simp) rfl (by simp) (by simp) (by simp) ?_
      rintro _ _ rfl
      simp [hw]
      exact ⟨k + 1, by omega, by rw [show k + 1 + 0 = k + 0 + 1 by omega, hpt] <;> rfl, by omega, by omega⟩
    · have hK : ¬ (k : Int) < 6 := by omega
      obtain rfl : k = 6 := by omega
      simp [hK, hTl]
  by_cases e63 : i.op = 63
  · have e := e63
    have ht : tcI f i = [(4, 0, 1), (5, 0, 1), (5, 1, 1), (5, 2, 1), (5, 3, 1), (5, 4, 1), (5, 5, 1)] := by simp [tcI, e]
    rw [ht] at hn ⊢
    simp [Func.row, Instr.row, e]
    refine callf [0] rfl Try.call63 (put_b b hb (4, 0, 1) (hn _ (by simp))) (by simp) rfl (by simp) (by simp) (by simp) ?_
    rintro _ _ rfl
    simp
    generalize hT : ([(4, 0, 1), (5, 0, 1), (5, 1, 1), (5, 2, 1), (5, 3, 1), (5, 4, 1), (5, 5, 1)] : List Tch) = T at *
    have hT0 : putB b (4, 0, 1) = putsB b (T.take 1) := by rw [← hT]; rfl
    have hTk : ∀ k : Nat, 0 ≤ k → k < 6 → T[k + 1]? = some (5, (k : Int), 1) := fun k h1 h2 => by
      rw [← hT]
      have : k = 0 ∨ k = 1 ∨ k = 2 ∨ k = 3 ∨ k = 4 ∨ k = 5 := by omega
      rcases this with rfl | rfl | rfl | rfl | rfl | rfl
      all_goals first | rfl | omega
    have hTl : T.take 7 = T := by rw [← hT]; rfl
    rw [hT0]
    refine go_while hmx 3 (fun (k : Nat) => [(97, .v (.i .i64 (k : Int)))]) (fun k => [.var (avs (AV.i .i64) (putsB b (T.take (k + 1)))), .var (f.row.map .v), .var ([AV.i .i64 63, .i .i64 i.a, .i .i64 i.b, .i .i64 i.c, .i .i64 i.n].map .v)]) (fun k => 0 ≤ k ∧ k ≤ 6) (fun k => 6 - k) 0 rfl rfl rfl (by simp) (by simp) (by simp [Func.row]) (by omega) ?_
    intro k hk
    by_cases hkl : k < 6
    · have hK : (k : Int) < 6 := by omega
      have hw : IntKind.i64.wrap ((k : Int) + 1) = (k : Int) + 1 := wrap_in (by omega) (by omega)
      have hTk := hTk k (by omega) hkl
      have hpt := putsB_take b hTk
      have hin := hn _ (List.mem_of_getElem? hTk)
      simp [hK, Func.row]
      refine callf [0] rfl Try.call63 (put_b (putsB b (T.take (k + 1))) (by simp [hb]) (5, (k : Int), 1) hin) (by simp) rfl (by simp) (by simp) (by simp) ?_
      rintro _ _ rfl
      simp [hw]
      exact ⟨k + 1, by omega, by rw [show k + 1 + 1 = k + 1 + 1 by omega, hpt] <;> rfl, by omega, by omega⟩
    · have hK : ¬ (k : Int) < 6 := by omega
      obtain rfl : k = 6 := by omega
      simp [hK, hTl]
  have ht : tcI f i = [] := by simp [tcI, e50, e51, e52, e53, e54, e55, e56, e57, e58, e59, e60, e61, e62, e63, e65]
  rw [ht]
  simp [Func.row, Instr.row, e50, e51, e52, e53, e54, e55, e56, e57, e58, e59, e60, e61, e62, e63, e65, putsB]
end Go.Sc.Fl
/- Chapter 06: Touches and May. No condition. -/
set_option linter.constructorNameAsVariable false
namespace Go.Sc.Fl
open Go Go.RowKit Go.Av Go.Proofs Go.Sc
set_option linter.unusedSimpArgs false
set_option linter.unusedVariables false
/-- scarab/flow.Touches -/
def c27 : ACode :=
  (.seq (.reg none [⟨some 3, none, .m (.box (.t 0))⟩, ⟨some 6, none, .q (.mv (.c .nil))⟩, ⟨some 7, none, .q (.mv (.c (.i .i64 0)))⟩])
  (.keep [1, 2, 3]
  (.seq (.seq (.reg none [⟨some 10, none, .q (.ld (some 4) (.t 3))⟩, ⟨some 11, none, .q (.mv (.t 1))⟩, ⟨some 12, none, .q (.mv (.t 2))⟩, ⟨some 13, none, .call (.f 33) [(.t 10), (.t 11), (.t 12)]⟩, ⟨some 8, none, .q (.mv (.t 13))⟩])
    (.keep [1, 2, 3, 8]
    (.seq (.reg none [⟨some 14, none, .q (.mv (.t 8))⟩, ⟨some 15, none, .q (.bin .neq (.t 14) (.c (.i .i64 0)))⟩])
    (.keep [1, 2, 3, 8, 15]
    (.cond (.t 15) (.seq (.reg none [⟨some 16, none, .q (.mv (.t 8))⟩, ⟨some 6, none, .q (.mv (.c .nil))⟩, ⟨some 7, none, .q (.mv (.t 16))⟩])
      .ret)
    .skip)))))
  (.seq (.reg none [⟨some 9, none, .m (.alloc (.g (reps 56 (.i .i64 0))))⟩])
  (.keep [1, 2, 3, 9]
  (.seq (.reg (some (14, [])) [⟨some 17, none, .q (.fa 3 (.t 3))⟩, ⟨some 18, none, .q (.ld none (.t 17))⟩, ⟨some 19, none, .q (.mv (.t 1))⟩, ⟨some 20, none, .q (.ias 4 (.t 18) (.t 19))⟩, ⟨some 21, none, .q (.ld (some 4) (.t 20))⟩, ⟨some 22, none, .q (.fa 3 (.t 3))⟩, ⟨some 23, none, .q (.ld none (.t 22))⟩, ⟨some 24, none, .q (.mv (.t 1))⟩, ⟨some 25, none, .q (.ias 4 (.t 23) (.t 24))⟩, ⟨some 26, none, .q (.fa 2 (.t 25))⟩, ⟨some 27, none, .q (.ld none (.t 26))⟩, ⟨some 28, none, .q (.mv (.t 2))⟩, ⟨some 29, none, .q (.ias 5 (.t 27) (.t 28))⟩, ⟨some 30, none, .q (.ld (some 5) (.t 29))⟩, ⟨some 31, none, .call (.f 51) [(.t 9), (.t 21), (.t 30)]⟩])
  (.keep [9]
  (.seq (.reg none [⟨some 32, none, .call (.f 52) [(.t 9)]⟩, ⟨some 6, none, .q (.mv (.t 32))⟩, ⟨some 7, none, .q (.mv (.c (.i .i64 0)))⟩])
  .ret))))))))
theorem r27 : (Try.f27.body.bind (resC Try.prog Try.f27.ntmps)) = some (strip c27) := by kernel_rfl
theorem s27 : Try.f27.results.toList.mapM (resRes Try.prog) = some [.t 6, .t 7] := by kernel_rfl
/-- scarab/flow.May -/
def c28 : ACode :=
  (.seq (.reg none [⟨some 3, none, .m (.box (.t 0))⟩, ⟨some 6, none, .q (.mv (.c .nil))⟩, ⟨some 7, none, .q (.mv (.c (.i .i64 0)))⟩])
  (.keep [1, 2, 3]
  (.seq (.seq (.reg none [⟨some 15, none, .q (.ld (some 4) (.t 3))⟩, ⟨some 16, none, .q (.mv (.t 1))⟩, ⟨some 17, none, .q (.mv (.t 2))⟩, ⟨some 18, none, .call (.f 33) [(.t 15), (.t 16), (.t 17)]⟩, ⟨some 8, none, .q (.mv (.t 18))⟩])
    (.keep [1, 2, 3, 8]
    (.seq (.reg none [⟨some 19, none, .q (.mv (.t 8))⟩, ⟨some 20, none, .q (.bin .neq (.t 19) (.c (.i .i64 0)))⟩])
    (.keep [1, 2, 3, 8, 20]
    (.cond (.t 20) (.seq (.reg none [⟨some 21, none, .q (.mv (.t 8))⟩, ⟨some 6, none, .q (.mv (.c .nil))⟩, ⟨some 7, none, .q (.mv (.t 21))⟩])
      .ret)
    .skip)))))
  (.seq (.reg none [⟨some 9, none, .m (.alloc (.g (reps 56 (.i .i64 0))))⟩])
  (.keep [1, 2, 3, 9]
  (.seq (.reg none [⟨some 22, none, .q (.mkf 53 [(.t 9)])⟩, ⟨some 10, none, .q (.mv (.t 22))⟩])
  (.keep [1, 2, 3, 9, 10]
  (.seq (.reg none [⟨some 23, none, .q (.fa 3 (.t 3))⟩, ⟨some 24, none, .q (.ld none (.t 23))⟩, ⟨some 25, none, .q (.mv (.t 1))⟩, ⟨some 26, none, .q (.ias 4 (.t 24) (.t 25))⟩, ⟨some 27, none, .q (.ld (some 4) (.t 26))⟩, ⟨some 11, none, .m (.alloc (.g [(.i .i64 0), (.i .i64 0), .nil, .nil]))⟩, ⟨none, none, .m (.st 4 (.t 11) (.t 27))⟩])
  (.keep [2, 3, 9, 10, 11]
  (.seq (.reg (some (4, [0])) [⟨some 28, none, .q (.ld (some 4) (.t 11))⟩, ⟨some 29, none, .q (.mv (.t 2))⟩, ⟨some 30, none, .call (.f 37) [(.t 29)]⟩, ⟨some 31, none, .call (.f 36) [(.t 28), (.t 30), (.f 38)]⟩, ⟨some 12, none, .m (.alloc (.g (reps 64 (.b false))))⟩, ⟨none, none, .m (.st 64 (.t 12) (.t 31))⟩])
  (.keep [3, 9, 10, 11, 12]
  (.seq (.reg none [⟨some 32, none, .q (.mv (.t 10))⟩, ⟨some 33, none, .q (.ld (some 4) (.t 11))⟩, ⟨some 34, none, .q (.ld (some 64) (.t 12))⟩, ⟨some 35, none, .call (.t 32) [(.t 33), (.t 34)]⟩])
  (.keep [3, 9, 10, 11, 12]
  (.seq (.seq (.reg (some (6, [])) [⟨some 36, none, .q (.ld (some 4) (.t 3))⟩, ⟨some 37, none, .q (.ld (some 4) (.t 11))⟩, ⟨some 38, none, .q (.ld (some 64) (.t 12))⟩, ⟨some 39, none, .call (.f 54) [(.t 37), (.t 38)]⟩, ⟨some 40, none, .call (.f 49) [(.t 36), (.t 39)]⟩, ⟨some 41, none, .q (.mv (.c (.i .i64 0)))⟩])
    (.keep [3, 9, 10, 40, 41]
    (.blk 0 (.keep [3, 9, 10, 40, 41]
    (.loop (.fin [3, 9, 10, 40, 41]
      (.seq (.reg none [⟨some 42, none, .q (.bin .lss (.t 41) (.c (.i .i64 8)))⟩])
      (.keep [3, 9, 10, 40, 41, 42]
      (.seq (.cond (.t 42) .skip
        (.exit 0))
      (.seq (.blk 1 (.seq (.reg none [⟨some 43, none, .q (.mv (.t 41))⟩, ⟨some 44, none, .q (.idx 8 1 false (.t 40) (.t 41))⟩, ⟨some 13, none, .q (.mv (.t 43))⟩, ⟨some 14, none, .q (.mv (.t 44))⟩])
        (.keep [3, 9, 10, 13, 14, 40, 41]
        (.seq (.reg none [⟨some 45, none, .q (.mv (.t 14))⟩])
        (.keep [3, 9, 10, 13, 40, 41, 45]
        (.cond (.t 45) (.reg (some (11, [1, 2, 4, 5, 6, 7, 9, 10])) [⟨some 46, none, .q (.mv (.t 10))⟩, ⟨some 47, none, .q (.fa 3 (.t 3))⟩, ⟨some 48, none, .q (.ld none (.t 47))⟩, ⟨some 49, none, .q (.mv (.t 13))⟩, ⟨some 50, none, .q (.ias 4 (.t 48) (.t 49))⟩, ⟨some 51, none, .q (.ld (some 4) (.t 50))⟩, ⟨some 52, none, .q (.fa 3 (.t 3))⟩, ⟨some 53, none, .q (.ld none (.t 52))⟩, ⟨some 54, none, .q (.mv (.t 13))⟩, ⟨some 55, none, .q (.ias 4 (.t 53) (.t 54))⟩, ⟨some 56, none, .q (.ld (some 4) (.t 55))⟩, ⟨some 57, none, .call (.f 37) [(.c (.i .i64 0))]⟩, ⟨some 58, none, .call (.f 36) [(.t 56), (.t 57), (.f 38)]⟩, ⟨some 59, none, .call (.t 46) [(.t 51), (.t 58)]⟩])
        .skip))))))
      (.keep [3, 9, 10, 40, 41]
      (.reg none [⟨some 60, none, .q (.bin .add (.t 41) (.c (.i .i64 1)))⟩, ⟨some 41, none, .q (.mv (.t 60))⟩]))))))))))))
  (.seq (.reg none [⟨some 61, none, .call (.f 52) [(.t 9)]⟩, ⟨some 6, none, .q (.mv (.t 61))⟩, ⟨some 7, none, .q (.mv (.c (.i .i64 0)))⟩])
  .ret)))))))))))))))
theorem r28 : (Try.f28.body.bind (resC Try.prog Try.f28.ntmps)) = some (strip c28) := by kernel_rfl
theorem s28 : Try.f28.results.toList.mapM (resRes Try.prog) = some [.t 6, .t 7] := by kernel_rfl
/-- scarab/flow.May$1 -/
def c53 : ACode :=
  (.seq (.reg none [⟨some 3, none, .m (.box (.t 0))⟩, ⟨some 4, none, .m (.box (.t 1))⟩])
  (.keep [2, 3, 4]
  (.seq (.reg none [⟨some 7, none, .q (.fa 2 (.t 3))⟩, ⟨some 8, none, .q (.ld none (.t 7))⟩, ⟨some 9, none, .q (.len false (.t 8))⟩, ⟨some 10, none, .q (.mv (.c (.i .i64 0)))⟩])
  (.keep [2, 3, 4, 8, 9, 10]
  (.blk 0 (.keep [2, 3, 4, 8, 9, 10]
  (.loop (.fin [2, 3, 4, 8, 9, 10]
    (.seq (.reg none [⟨some 11, none, .q (.bin .lss (.t 10) (.t 9))⟩])
    (.keep [2, 3, 4, 8, 9, 10, 11]
    (.seq (.cond (.t 11) .skip
      (.exit 0))
    (.seq (.blk 1 (.seq (.reg none [⟨some 12, none, .q (.mv (.t 10))⟩, ⟨some 13, none, .q (.ias 5 (.t 8) (.t 10))⟩, ⟨some 14, none, .q (.ld (some 5) (.t 13))⟩, ⟨some 6, none, .m (.alloc (.g [(.i .i64 0), (.i .i64 0), (.i .i64 0), (.i .i64 0), (.i .i64 0)]))⟩, ⟨some 5, none, .q (.mv (.t 12))⟩, ⟨none, none, .m (.st 5 (.t 6) (.t 14))⟩])
      (.keep [2, 3, 4, 5, 6, 8, 9, 10]
      (.seq (.reg none [⟨some 15, none, .q (.mv (.t 5))⟩, ⟨some 16, none, .q (.iaa 64 1 (.t 4) (.t 15))⟩, ⟨some 17, none, .q (.ld none (.t 16))⟩])
      (.keep [2, 3, 4, 6, 8, 9, 10, 17]
      (.cond (.t 17) (.reg none [⟨some 18, none, .q (.ld (some 4) (.t 3))⟩, ⟨some 19, none, .q (.ld (some 5) (.t 6))⟩, ⟨some 20, none, .call (.f 51) [(.t 2), (.t 18), (.t 19)]⟩])
      .skip))))))
    (.keep [2, 3, 4, 8, 9, 10]
    (.reg none [⟨some 21, none, .q (.bin .add (.t 10) (.c (.i .i64 1)))⟩, ⟨some 10, none, .q (.mv (.t 21))⟩]))))))))))))))
theorem r53 : (Try.f53.body.bind (resC Try.prog Try.f53.ntmps)) = some (strip c53) := by kernel_rfl
theorem s53 : Try.f53.results.toList.mapM (resRes Try.prog) = some [] := by kernel_rfl
/-- The rows of a bag's accesses. -/
abbrev accRows (b : List Int) : List (List AV) := (accs b).map Acc.row
theorem touches_own (p : Prog) (hp : p.Ok) (f pc : Nat) (h0 : askE p f pc = 0) : CallS Try.prog 27 ([AV.g p.row, .i .i64 (f : Int), .i .i64 (pc : Int)].map .v) []
    fun r K => ∃ v, r = .tr [.os 0 v, .v (.i .i64 0)] ∧ K = [.arr v 3 (vrows (accRows (putsB bag0 (tcAt (p.funcs.getD f default) pc))))] := by
  have P := ask_zero h0
  have hlt := P.f1
  have hpc := P.pc1
  simp only [Int.toNat_natCast] at hlt hpc
  have hgd : p.funcs.getD f default = p.funcs[f] := by rw [List.getD_eq_getElem?_getD, List.getElem?_eq_getElem hlt]; rfl
  rw [hgd] at hpc ⊢
  have hFm := List.getElem_mem hlt
  have hFo := hp.funcs _ hFm
  have hFf := right_fines P.right _ hFm
  have h4 := right_cases P.right hFm
  have hne := right_neat P.right _ hFm pc hpc
  have hq : p.funcs[f]? = some p.funcs[f] := List.getElem?_eq_getElem hlt
  have hsel := hFf.sel pc hpc
  refine fun_sel [2] hmx Try.func27 r27 s27 (by rw [Try.ntmps27]; simp) (by first | exact Nat.le_refl _ | decide | simp) (by simp) ?_
  unfold c27
  simp [Prog.row]
  first
    | refine callk rfl Try.call33 (asked_p p hp f pc) rfl ?_
    | refine callks rfl Try.call33 (asked_p p hp f pc) rfl ?_
    | refine callq rfl Try.call33 (asked_p p hp f pc) rfl ?_
    | refine callqe rfl Try.call33 (asked_p p hp f pc) rfl ?_
  simp [h0, hlt, Func.row]
  generalize hgF : p.funcs[f] = F at *
  have hib : F.code.getD pc default = F.code[pc] := by rw [List.getD_eq_getElem?_getD, List.getElem?_eq_getElem hpc]; rfl
  rw [hib] at hsel
  rw [tcAt, hib] at hne ⊢
  simp [hpc, hgF, Instr.row]
  refine callf [1] rfl Try.call51 (touch_b F hFo h4 F.code[pc] hsel hne bag0 bag0_ok.1) (by simp) rfl (by simp) (by simp [bag0]) (by simp [Func.row, Instr.row]) ?_
  rintro _ _ rfl
  simp
  refine callf [1] rfl Try.call52 (list_b (putsB bag0 (tcI F F.code[pc])) (putsB_ok bag0_ok hne)) (by simp) rfl (by simp) (by simp) (by simp) ?_
  rintro _ _ ⟨v, rfl, rfl⟩
  simp
theorem tcL_ones (f : Func) (m : List Bool) (n : Nat) : tcL f (ones m (n + 1)) = tcL f (ones m n) ++ if m.getD n false then tcAt f n else [] := by
  rw [ones_succ, tcL, List.flatMap_append]
  congr 1
  split <;> simp
theorem all_b (F : Func) (hFo : F.Ok) (hf : Fine F) (h4 : ∀ s ∈ F.selects, s.cases.length ≤ 64) (hne : ∀ pc, pc < F.code.length → ∀ t ∈ tcAt F pc, InB t) (m : List Bool) (hm : m.length = 64) (b : List Int) (hb : b.length = 56) :
    CallS Try.prog 53 [.v (.g F.row), .v (.g (ags AV.b m)), .pt 0 0 0 0] [.var (avs (AV.i .i64) b)] fun _ K => K = [.var (avs (AV.i .i64) (putsB b (tcL F (ones m F.code.length))))] := by
  have hln := hf.len
  refine CallS.cut 1 (by simp) ?_
  refine fun_go hmx Try.func53 r53 s53 (by rw [Try.ntmps53]; simp) ?_
  unfold c53
  simp [Func.row]
  refine go_while hmx 3 (fun (i : Nat) => [(10, .v (.i .i64 (i : Int)))]) (fun i => [.var (avs (AV.i .i64) (putsB b (tcL F (ones m i)))), .var (F.row.map .v), .var (avs AV.b m)]) (fun i => i ≤ F.code.length) (fun i => F.code.length - i) 0 rfl rfl rfl (by simp) (by simp) (by simp [Func.row]) (Nat.zero_le _) ?_
  intro i hi'
  by_cases hi : i < F.code.length
  · have hI : (i : Int) < (F.code.length : Int) := by omega
    have hw1 : IntKind.i64.wrap ((i : Int) + 1) = (i : Int) + 1 := wrap_in (by omega) (by omega)
    have hib : F.code.getD i default = F.code[i] := by rw [List.getD_eq_getElem?_getD, List.getElem?_eq_getElem hi]; rfl
    have htc := tcL_ones F m i
    have hne := hne i hi
    have hsel := hf.sel i hi
    rw [hib] at hsel
    have hgd : m.getD i false = m[i]'(by omega) := by rw [List.getD_eq_getElem?_getD, List.getElem?_eq_getElem (by omega)]; rfl
    rw [hgd, tcAt, hib] at htc
    rw [tcAt, hib] at hne
    have h64 : (i : Int) < 64 := by omega
    have h64n : i < 64 := by omega
    cases hmi : m[i]'(by omega) with
    | false =>
      rw [if_neg (by simp [hmi]), List.append_nil] at htc
      simp [hI, hi, hw1, Func.row, Instr.row, h64, hm, h64n, hmi]
      exact ⟨i + 1, by omega, by rw [htc], by omega, by omega⟩
    | true =>
      rw [if_pos hmi] at htc
      simp [hI, hi, Func.row, Instr.row, h64, hm, h64n, hmi]
      refine callf [0] rfl Try.call51 (touch_b F hFo h4 F.code[i] hsel hne (putsB b (tcL F (ones m i))) (by simp [hb])) (by simp) rfl (by simp) (by simp) (by simp [Func.row, Instr.row]) ?_
      rintro _ _ rfl
      simp [hw1]
      exact ⟨i + 1, by omega, by rw [htc, putsB_app], by omega, by omega⟩
  · have hI : ¬ (i : Int) < (F.code.length : Int) := by omega
    obtain rfl : i = F.code.length := by omega
    simp [hI]
theorem may_own (p : Prog) (hp : p.Ok) (f pc : Nat) (h0 : askE p f pc = 0) : CallS Try.prog 28 ([AV.g p.row, .i .i64 (f : Int), .i .i64 (pc : Int)].map .v) []
    fun r K => ∃ v, r = .tr [.os 0 v, .v (.i .i64 0)] ∧ K = [.arr v 3 (vrows (accRows (putsB bag0 (mayT p f pc))))] := by
  have P := ask_zero h0
  have hlt := P.f1
  have hpc := P.pc1
  simp only [Int.toNat_natCast] at hlt hpc
  have hgd : p.funcs.getD f default = p.funcs[f] := by rw [List.getD_eq_getElem?_getD, List.getElem?_eq_getElem hlt]; rfl
  rw [hgd] at hpc
  have hw := right_whole P.right
  have h8 := hw.few
  have hFs := right_fines P.right
  have h4s : ∀ F ∈ p.funcs, ∀ s ∈ F.selects, s.cases.length ≤ 64 := fun F h => right_cases P.right h
  have hnes := right_neat P.right
  have hFm := List.getElem_mem hlt
  have hFo := hp.funcs _ hFm
  have hFf := hFs _ hFm
  have h4 := h4s _ hFm
  have hne := hnes _ hFm
  have hln := hFf.len
  refine fun_sel [4] hmx Try.func28 r28 s28 (by rw [Try.ntmps28]; simp) (by first | exact Nat.le_refl _ | decide | simp) (by simp) ?_
  unfold c28
  simp [Prog.row]
  first
    | refine callk rfl Try.call33 (asked_p p hp f pc) rfl ?_
    | refine callks rfl Try.call33 (asked_p p hp f pc) rfl ?_
    | refine callq rfl Try.call33 (asked_p p hp f pc) rfl ?_
    | refine callqe rfl Try.call33 (asked_p p hp f pc) rfl ?_
  simp [h0, hlt, Func.row]
  rw [mayT, hgd]
  generalize hgF : p.funcs[f] = F at *
  first
    | refine callk rfl Try.call37 (from_p pc (by omega)) rfl ?_
    | refine callks rfl Try.call37 (from_p pc (by omega)) rfl ?_
    | refine callq rfl Try.call37 (from_p pc (by omega)) rfl ?_
    | refine callqe rfl Try.call37 (from_p pc (by omega)) rfl ?_
  simp
  first
    | refine callk rfl Try.call36 (reach_p F hFf hFo ((reps 64 false).set pc true) (by simp) 38 [] (fun _ => true) (fun pc _ => always_p pc) Try.call38) rfl ?_
    | refine callks rfl Try.call36 (reach_p F hFf hFo ((reps 64 false).set pc true) (by simp) 38 [] (fun _ => true) (fun pc _ => always_p pc) Try.call38) rfl ?_
    | refine callq rfl Try.call36 (reach_p F hFf hFo ((reps 64 false).set pc true) (by simp) 38 [] (fun _ => true) (fun pc _ => always_p pc) Try.call38) rfl ?_
    | refine callqe rfl Try.call36 (reach_p F hFf hFo ((reps 64 false).set pc true) (by simp) 38 [] (fun _ => true) (fun pc _ => always_p pc) Try.call38) rfl ?_
  rw [show reachM (fun _ => true) F ((reps 64 false).set pc true) = fromM F pc from rfl]
  simp [take_avs]
  refine callf [1] rfl Try.call53 (all_b F hFo hFf h4 hne (fromM F pc) (by simp) bag0 bag0_ok.1) (by simp) rfl (by simp) (by simp [bag0]) (by simp [Func.row]) ?_
  rintro _ _ rfl
  simp [take_avs]
  first
    | refine callk rfl Try.call54 (spawned_p p hw F hFm hln (fromM F pc) (by simp)) rfl ?_
    | refine callks rfl Try.call54 (spawned_p p hw F hFm hln (fromM F pc) (by simp)) rfl ?_
    | refine callq rfl Try.call54 (spawned_p p hw F hFm hln (fromM F pc) (by simp)) rfl ?_
    | refine callqe rfl Try.call54 (spawned_p p hw F hFm hln (fromM F pc) (by simp)) rfl ?_
  simp
  first
    | refine callk rfl Try.call49 (funcs_p p hp hw hFs (mark (reps 8 false) (spL F (ones (fromM F pc) F.code.length))) (by simp)) rfl ?_
    | refine callks rfl Try.call49 (funcs_p p hp hw hFs (mark (reps 8 false) (spL F (ones (fromM F pc) F.code.length))) (by simp)) rfl ?_
    | refine callq rfl Try.call49 (funcs_p p hp hw hFs (mark (reps 8 false) (spL F (ones (fromM F pc) F.code.length))) (by simp)) rfl ?_
    | refine callqe rfl Try.call49 (funcs_p p hp hw hFs (mark (reps 8 false) (spL F (ones (fromM F pc) F.code.length))) (by simp)) rfl ?_
  rw [show runM p (mark (reps 8 false) (spL F (ones (fromM F pc) F.code.length))) = runsM p F (fromM F pc) from rfl]
  simp
  rw [putsB_app]
  have hrin : ∀ g, g < 8 → (runsM p F (fromM F pc)).getD g false = true → g < p.funcs.length := fun g h1 h2 => runs_in hw hFm h1 h2
  have hRl : (runsM p F (fromM F pc)).length = 8 := by simp
  generalize runsM p F (fromM F pc) = R at *
  have hb1 := putsB_ok bag0_ok (tcL_in hnes hFm (l := ones (fromM F pc) F.code.length) ones_in)
  generalize putsB bag0 (tcL F (ones (fromM F pc) F.code.length)) = b1 at *
  refine go_while hmx 4 (fun (k : Nat) => [(41, .v (.i .i64 (k : Int)))]) (fun k => [.var (p.row.map .v), .var (avs (AV.i .i64) (putsB b1 (tcG p (ones R k)))), .var (F.row.map .v), .var (avs AV.b (fromM F pc))]) (fun k => k ≤ 8) (fun k => 8 - k) 0 rfl rfl rfl (by simp) (by simp) (by simp [Prog.row, Func.row]) (Nat.zero_le _) ?_
  intro k hk
  by_cases hkl : k < 8
  · have hK : (k : Int) < 8 := by omega
    have hw1 : IntKind.i64.wrap ((k : Int) + 1) = (k : Int) + 1 := wrap_in (by omega) (by omega)
    have htg := tcG_ones p R k
    have hgd2 : R.getD k false = R[k]'(by omega) := by rw [List.getD_eq_getElem?_getD, List.getElem?_eq_getElem (by omega)]; rfl
    have hrin := hrin k hkl
    rw [hgd2] at htg hrin
    cases hR : R[k]'(by omega) with
    | false =>
      rw [if_neg (by simp [hR]), List.append_nil] at htg
      simp [hK, hkl, hRl, hR, hw1]
      exact ⟨k + 1, by omega, by rw [htg], by omega, by omega⟩
    | true =>
      have hkn := hrin hR
      have hgk : p.funcs.getD k default = p.funcs[k] := by rw [List.getD_eq_getElem?_getD, List.getElem?_eq_getElem hkn]; rfl
      have hGm := List.getElem_mem hkn
      rw [if_pos hR, hgk] at htg
      have hGo := hp.funcs _ hGm
      have hGf := hFs _ hGm
      have h4G := h4s _ hGm
      have hnG := hnes _ hGm
      generalize hgG : p.funcs[k] = G at *
      have hkI : (k : Int) < (p.funcs.length : Int) := by omega
      simp [hK, hkl, hRl, hR, Prog.row, hkn, hgG, Func.row]
      first
        | refine callk rfl Try.call37 (from_p 0 (by omega)) rfl ?_
        | refine callks rfl Try.call37 (from_p 0 (by omega)) rfl ?_
        | refine callq rfl Try.call37 (from_p 0 (by omega)) rfl ?_
        | refine callqe rfl Try.call37 (from_p 0 (by omega)) rfl ?_
      simp
      first
        | refine callk rfl Try.call36 (reach0_p G hGf hGo) rfl ?_
        | refine callks rfl Try.call36 (reach0_p G hGf hGo) rfl ?_
        | refine callq rfl Try.call36 (reach0_p G hGf hGo) rfl ?_
        | refine callqe rfl Try.call36 (reach0_p G hGf hGo) rfl ?_
      simp
      refine callfs [1] rfl Try.call53 (all_b G hGo hGf h4G hnG (allM G) (by simp) (putsB b1 (tcG p (ones R k))) (by simp [hb1.1])) (by simp) rfl (by simp) (by simp) (by simp [Func.row]) ?_
      rintro _ _ rfl
      simp [hw1, hkn, hgG, Func.row]
      exact ⟨k + 1, by omega, by rw [htg, putsB_app], by omega, by omega⟩
  · have hK : ¬ (k : Int) < 8 := by omega
    obtain rfl : k = 8 := by omega
    simp [hK]
    refine callf [1] rfl Try.call52 (list_b (putsB b1 (tcG p (ones R 8))) (putsB_ok hb1 (tcG_in hnes fun g hg => by rw [ones_mem] at hg; exact hrin g hg.1 hg.2))) (by simp) rfl (by simp) (by simp) (by simp) ?_
    rintro _ _ ⟨v, rfl, rfl⟩
    simp
theorem frz_pair {H : List AObj} {v : Nat} {rows : List (List AV)} {x : AV} (h : H = [.arr v 3 (vrows rows)]) : Frz H (.tr [.os 0 v, .v x]) (.tup [.sl 3 rows, x]) := by
  subst h
  refine .tr rfl fun j a b h1 h2 => ?_
  match j with
  | 0 =>
    simp at h1 h2; subst h1; subst h2
    exact Frz.plain rfl
  | 1 =>
    simp at h1 h2; subst h1; subst h2
    exact .v _
  | j + 2 => simp at h1
theorem touches_all (p : Prog) (hp : p.Ok) (f pc : Int) : PureS Try.prog 27 [.g p.row, .i .i64 f, .i .i64 pc]
    (if askE p f pc = 0 then .tup [.sl 3 (accRows (putsB bag0 (tcAt (p.funcs.getD f.toNat default) pc.toNat))), .i .i64 0] else .tup [.nil, .i .i64 (askE p f pc)]) := by
  by_cases h0 : askE p f pc = 0
  · have P := ask_zero h0
    obtain ⟨f, rfl⟩ : ∃ n : Nat, f = (n : Int) := ⟨f.toNat, by have := P.f0; omega⟩
    obtain ⟨pc, rfl⟩ : ∃ n : Nat, pc = (n : Int) := ⟨pc.toNat, by have := P.pc0; omega⟩
    rw [if_pos h0]
    exact pure_of (CallS.mono (touches_own p hp f pc h0) fun r K ⟨v, h1, h2⟩ => by subst h1; exact frz_pair h2)
  · rw [if_neg h0]
    refine fun_go hmx Try.func27 r27 s27 (by rw [Try.ntmps27]; simp) ?_
    unfold c27
    simp [Prog.row]
    first
      | refine callk rfl Try.call33 (asked_p p hp f pc) rfl ?_
      | refine callks rfl Try.call33 (asked_p p hp f pc) rfl ?_
      | refine callq rfl Try.call33 (asked_p p hp f pc) rfl ?_
      | refine callqe rfl Try.call33 (asked_p p hp f pc) rfl ?_
    simp [h0]
theorem may_all (p : Prog) (hp : p.Ok) (f pc : Int) : PureS Try.prog 28 [.g p.row, .i .i64 f, .i .i64 pc]
    (if askE p f pc = 0 then .tup [.sl 3 (accRows (putsB bag0 (mayT p f.toNat pc.toNat))), .i .i64 0] else .tup [.nil, .i .i64 (askE p f pc)]) := by
  by_cases h0 : askE p f pc = 0
  · have P := ask_zero h0
    obtain ⟨f, rfl⟩ : ∃ n : Nat, f = (n : Int) := ⟨f.toNat, by have := P.f0; omega⟩
    obtain ⟨pc, rfl⟩ : ∃ n : Nat, pc = (n : Int) := ⟨pc.toNat, by have := P.pc0; omega⟩
    rw [if_pos h0]
    exact pure_of (CallS.mono (may_own p hp f pc h0) fun r K ⟨v, h1, h2⟩ => by subst h1; exact frz_pair h2)
  · rw [if_neg h0]
    refine fun_go hmx Try.func28 r28 s28 (by rw [Try.ntmps28]; simp) ?_
    unfold c28
    simp [Prog.row]
    first
      | refine callk rfl Try.call33 (asked_p p hp f pc) rfl ?_
      | refine callks rfl Try.call33 (asked_p p hp f pc) rfl ?_
      | refine callq rfl Try.call33 (asked_p p hp f pc) rfl ?_
      | refine callqe rfl Try.call33 (asked_p p hp f pc) rfl ?_
    simp [h0]
end Go.Sc.Fl
