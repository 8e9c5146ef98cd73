/- Chapter 06: the law FlowGrows. No condition. -/
import Derived.Test.YtinpjecafkdikaaXFlN
set_option linter.constructorNameAsVariable false
namespace Go.Sc.Fl
open Go Go.RowKit Go.Av Go.Proofs Go.Sc
set_option linter.unusedSimpArgs false
set_option linter.unusedVariables false
/-- scarab/scarablaw06.FlowGrows -/
def c4 : ACode :=
  (.seq (.reg none [⟨some 3, none, .m (.box (.t 0))⟩, ⟨some 6, none, .q (.mv (.c (.b false)))⟩])
  (.gst (.pimT 3)
  (.keep [1, 2, 3]
  (.seq (.reg none [⟨some 17, none, .q (.ld (some 4) (.t 3))⟩, ⟨some 18, none, .q (.mv (.t 1))⟩, ⟨some 19, none, .q (.mv (.t 2))⟩, ⟨some 20, none, .call (.f 9) [(.t 17), (.t 18), (.t 19)]⟩, ⟨some 16, none, .q (.mv (.t 20))⟩, ⟨some 21, none, .q (.ext 0 (.t 16))⟩, ⟨some 22, none, .q (.ext 1 (.t 16))⟩, ⟨some 7, none, .q (.mv (.t 21))⟩, ⟨some 8, none, .q (.mv (.t 22))⟩])
  (.keep [1, 2, 3, 7, 8]
  (.seq (.seq (.reg none [⟨some 23, none, .q (.ld (some 4) (.t 3))⟩, ⟨some 24, none, .q (.mv (.t 1))⟩, ⟨some 25, none, .q (.mv (.t 2))⟩, ⟨some 26, none, .call (.f 11) [(.t 23), (.t 24), (.t 25)]⟩, ⟨some 27, none, .q (.bin .neq (.t 26) (.c (.i .i64 0)))⟩])
    (.keep [1, 2, 3, 7, 8, 27]
    (.cond (.t 27) (.seq (.reg none [⟨some 28, none, .q (.mv (.t 8))⟩, ⟨some 29, none, .q (.bin .neq (.t 28) (.c (.i .i64 0)))⟩, ⟨some 30, none, .q (.mv (.t 29))⟩, ⟨some 31, some (30, true), .q (.mv (.t 7))⟩, ⟨some 32, some (30, true), .q (.len false (.t 31))⟩, ⟨some 33, some (30, true), .q (.bin .eql (.t 32) (.c (.i .i64 0)))⟩, ⟨some 34, none, .pk (.t 30) (.t 33) (.c (.b false))⟩, ⟨some 35, none, .q (.mv (.t 34))⟩, ⟨some 36, some (35, true), .call (.f 12) []⟩, ⟨some 37, none, .pk (.t 35) (.t 36) (.c (.b false))⟩, ⟨some 6, none, .q (.mv (.t 37))⟩])
      .ret)
    .skip)))
  (.seq (.seq (.reg none [⟨some 38, none, .q (.mv (.t 8))⟩, ⟨some 39, none, .q (.bin .neq (.t 38) (.c (.i .i64 0)))⟩, ⟨some 40, none, .q (.mv (.t 39))⟩, ⟨some 41, some (40, false), .q (.mv (.t 7))⟩, ⟨some 42, some (40, false), .q (.mv (.t 2))⟩, ⟨some 43, some (40, false), .call (.f 17) [(.t 41), (.t 42)]⟩, ⟨some 44, some (40, false), .q (.un .not (.t 43))⟩, ⟨some 45, none, .pk (.t 40) (.c (.b true)) (.t 44)⟩])
    (.keep [1, 3, 7, 45]
    (.cond (.t 45) (.seq (.reg none [⟨some 6, none, .q (.mv (.c (.b false)))⟩])
      .ret)
    .skip)))
  (.seq (.seq (.reg none [⟨some 9, none, .q (.mv (.c (.i .i64 0)))⟩])
    (.keep [1, 3, 7, 9]
    (.blk 0 (.keep [1, 3, 7, 9]
    (.loop (.fin [1, 3, 7, 9]
      (.seq (.seq (.reg none [⟨some 46, none, .q (.mv (.t 9))⟩, ⟨some 47, none, .q (.mv (.t 7))⟩, ⟨some 48, none, .q (.len false (.t 47))⟩, ⟨some 49, none, .q (.bin .lss (.t 46) (.t 48))⟩])
        (.keep [1, 3, 7, 9, 49]
        (.cond (.t 49) .skip
        (.exit 0))))
      (.seq (.blk 1 (.seq (.reg (some (12, [])) [⟨some 53, none, .q (.ld (some 4) (.t 3))⟩, ⟨some 54, none, .q (.mv (.t 1))⟩, ⟨some 55, none, .q (.mv (.t 7))⟩, ⟨some 56, none, .q (.mv (.t 9))⟩, ⟨some 57, none, .q (.ias 1 (.t 55) (.t 56))⟩, ⟨some 58, none, .q (.ld none (.t 57))⟩, ⟨some 59, none, .call (.f 8) [(.t 53), (.t 54), (.t 58)]⟩, ⟨some 52, none, .q (.mv (.t 59))⟩, ⟨some 60, none, .q (.ext 0 (.t 52))⟩, ⟨some 61, none, .q (.ext 1 (.t 52))⟩, ⟨some 10, none, .q (.mv (.t 60))⟩, ⟨some 11, none, .q (.mv (.t 61))⟩])
        (.keep [1, 3, 7, 9, 10, 11]
        (.seq (.reg (some (12, [])) [⟨some 63, none, .q (.ld (some 4) (.t 3))⟩, ⟨some 64, none, .q (.mv (.t 1))⟩, ⟨some 65, none, .q (.mv (.t 7))⟩, ⟨some 66, none, .q (.mv (.t 9))⟩, ⟨some 67, none, .q (.ias 1 (.t 65) (.t 66))⟩, ⟨some 68, none, .q (.ld none (.t 67))⟩, ⟨some 69, none, .call (.f 9) [(.t 63), (.t 64), (.t 68)]⟩, ⟨some 62, none, .q (.mv (.t 69))⟩, ⟨some 70, none, .q (.ext 0 (.t 62))⟩, ⟨some 71, none, .q (.ext 1 (.t 62))⟩, ⟨some 12, none, .q (.mv (.t 70))⟩, ⟨some 13, none, .q (.mv (.t 71))⟩])
        (.keep [1, 3, 7, 9, 10, 11, 12, 13]
        (.seq (.seq (.reg none [⟨some 72, none, .q (.mv (.t 11))⟩, ⟨some 73, none, .q (.bin .neq (.t 72) (.c (.i .i64 0)))⟩, ⟨some 74, none, .q (.mv (.t 73))⟩, ⟨some 75, some (74, false), .q (.mv (.t 13))⟩, ⟨some 76, some (74, false), .q (.bin .neq (.t 75) (.c (.i .i64 0)))⟩, ⟨some 77, none, .pk (.t 74) (.c (.b true)) (.t 76)⟩])
          (.keep [1, 3, 7, 9, 10, 12, 77]
          (.cond (.t 77) (.seq (.reg none [⟨some 6, none, .q (.mv (.c (.b false)))⟩])
            .ret)
          .skip)))
        (.seq (.seq (.reg none [⟨some 14, none, .q (.mv (.c (.i .i64 0)))⟩])
          (.keep [1, 3, 7, 9, 10, 12, 14]
          (.blk 2 (.keep [1, 3, 7, 9, 10, 12, 14]
          (.loop (.fin [1, 3, 7, 9, 10, 12, 14]
            (.seq (.seq (.reg none [⟨some 78, none, .q (.mv (.t 14))⟩, ⟨some 79, none, .q (.mv (.t 10))⟩, ⟨some 80, none, .q (.len false (.t 79))⟩, ⟨some 81, none, .q (.bin .lss (.t 78) (.t 80))⟩])
              (.keep [1, 3, 7, 9, 10, 12, 14, 81]
              (.cond (.t 81) .skip
              (.exit 2))))
            (.seq (.blk 3 (.seq (.reg none [⟨some 84, none, .q (.mv (.t 7))⟩, ⟨some 85, none, .q (.mv (.t 10))⟩, ⟨some 86, none, .q (.mv (.t 14))⟩, ⟨some 87, none, .q (.ias 1 (.t 85) (.t 86))⟩, ⟨some 88, none, .q (.ld none (.t 87))⟩, ⟨some 89, none, .call (.f 17) [(.t 84), (.t 88)]⟩, ⟨some 90, none, .q (.un .not (.t 89))⟩, ⟨some 91, none, .q (.mv (.t 90))⟩, ⟨some 92, some (91, false), .q (.mv (.t 12))⟩, ⟨some 93, some (91, false), .q (.mv (.t 10))⟩, ⟨some 94, some (91, false), .q (.mv (.t 14))⟩, ⟨some 95, some (91, false), .q (.ias 1 (.t 93) (.t 94))⟩, ⟨some 96, some (91, false), .q (.ld none (.t 95))⟩, ⟨some 97, some (91, false), .call (.f 17) [(.t 92), (.t 96)]⟩, ⟨some 98, some (91, false), .q (.un .not (.t 97))⟩, ⟨some 99, none, .pk (.t 91) (.c (.b true)) (.t 98)⟩])
              (.keep [1, 3, 7, 9, 10, 12, 14, 99]
              (.cond (.t 99) (.seq (.reg none [⟨some 6, none, .q (.mv (.c (.b false)))⟩])
                .ret)
              .skip))))
            (.keep [1, 3, 7, 9, 10, 12, 14]
            (.reg none [⟨some 82, none, .q (.mv (.t 14))⟩, ⟨some 83, none, .q (.bin .add (.t 82) (.c (.i .i64 1)))⟩, ⟨some 14, none, .q (.mv (.t 83))⟩]))))))))))
        (.seq (.reg none [⟨some 15, none, .q (.mv (.c (.i .i64 0)))⟩])
        (.keep [1, 3, 7, 9, 12, 15]
        (.blk 4 (.keep [1, 3, 7, 9, 12, 15]
        (.loop (.fin [1, 3, 7, 9, 12, 15]
          (.seq (.seq (.reg none [⟨some 100, none, .q (.mv (.t 15))⟩, ⟨some 101, none, .q (.mv (.t 12))⟩, ⟨some 102, none, .q (.len false (.t 101))⟩, ⟨some 103, none, .q (.bin .lss (.t 100) (.t 102))⟩])
            (.keep [1, 3, 7, 9, 12, 15, 103]
            (.cond (.t 103) .skip
            (.exit 4))))
          (.seq (.blk 5 (.seq (.reg none [⟨some 106, none, .q (.mv (.t 7))⟩, ⟨some 107, none, .q (.mv (.t 12))⟩, ⟨some 108, none, .q (.mv (.t 15))⟩, ⟨some 109, none, .q (.ias 1 (.t 107) (.t 108))⟩, ⟨some 110, none, .q (.ld none (.t 109))⟩, ⟨some 111, none, .call (.f 17) [(.t 106), (.t 110)]⟩, ⟨some 112, none, .q (.un .not (.t 111))⟩])
            (.keep [1, 3, 7, 9, 12, 15, 112]
            (.cond (.t 112) (.seq (.reg none [⟨some 6, none, .q (.mv (.c (.b false)))⟩])
              .ret)
            .skip))))
          (.keep [1, 3, 7, 9, 12, 15]
          (.reg none [⟨some 104, none, .q (.mv (.t 15))⟩, ⟨some 105, none, .q (.bin .add (.t 104) (.c (.i .i64 1)))⟩, ⟨some 15, none, .q (.mv (.t 105))⟩])))))))))))))))))
      (.keep [1, 3, 7, 9]
      (.reg none [⟨some 50, none, .q (.mv (.t 9))⟩, ⟨some 51, none, .q (.bin .add (.t 50) (.c (.i .i64 1)))⟩, ⟨some 9, none, .q (.mv (.t 51))⟩]))))))))))
  (.seq (.reg none [⟨some 113, none, .call (.f 12) []⟩, ⟨some 6, none, .q (.mv (.t 113))⟩])
  .ret)))))))))
theorem r4 : (Try.f4.body.bind (resC Try.prog Try.f4.ntmps)) = some (strip c4) := by kernel_rfl
theorem s4 : Try.f4.results.toList.mapM (resRes Try.prog) = some [.t 6] := by kernel_rfl
/-- scarab/scarablaw06.has -/
def c17 : ACode :=
  (.seq (.reg none [⟨some 4, none, .q (.mv (.c (.b false)))⟩])
  (.keep [0, 1]
  (.seq (.seq (.reg none [⟨some 5, none, .q (.mv (.c (.i .i64 0)))⟩])
    (.keep [0, 1, 5]
    (.blk 0 (.keep [0, 1, 5]
    (.loop (.fin [0, 1, 5]
      (.seq (.seq (.reg none [⟨some 6, none, .q (.mv (.t 5))⟩, ⟨some 7, none, .q (.mv (.t 0))⟩, ⟨some 8, none, .q (.len false (.t 7))⟩, ⟨some 9, none, .q (.bin .lss (.t 6) (.t 8))⟩])
        (.keep [0, 1, 5, 9]
        (.cond (.t 9) .skip
        (.exit 0))))
      (.seq (.blk 1 (.seq (.reg none [⟨some 12, none, .q (.mv (.t 0))⟩, ⟨some 13, none, .q (.mv (.t 5))⟩, ⟨some 14, none, .q (.ias 1 (.t 12) (.t 13))⟩, ⟨some 15, none, .q (.ld none (.t 14))⟩, ⟨some 16, none, .q (.mv (.t 1))⟩, ⟨some 17, none, .q (.bin .eql (.t 15) (.t 16))⟩])
        (.keep [0, 1, 5, 17]
        (.cond (.t 17) (.seq (.reg none [⟨some 4, none, .q (.mv (.c (.b true)))⟩])
          .ret)
        .skip))))
      (.keep [0, 1, 5]
      (.reg none [⟨some 10, none, .q (.mv (.t 5))⟩, ⟨some 11, none, .q (.bin .add (.t 10) (.c (.i .i64 1)))⟩, ⟨some 5, none, .q (.mv (.t 11))⟩]))))))))))
  (.seq (.reg none [⟨some 4, none, .q (.mv (.c (.b false)))⟩])
  .ret))))
theorem r17 : (Try.f17.body.bind (resC Try.prog Try.f17.ntmps)) = some (strip c17) := by kernel_rfl
theorem s17 : Try.f17.results.toList.mapM (resRes Try.prog) = some [.t 4] := by kernel_rfl
theorem has_p (l : List Int) (n : Int) (hl : l.length ≤ 64) : PureS Try.prog 17 [.sl 1 (l.map irow), .i .i64 n] (.b (decide (n ∈ l))) := by
  refine fun_go hmx Try.func17 r17 s17 (by rw [Try.ntmps17]; simp) ?_
  unfold c17
  simp
  refine go_count hmx 5 0 l.length (fun i h => h = [] ∧ ∀ (j : Nat) y, j < i → l[j]? = some y → y ≠ n) (Nat.zero_le _) (by omega) rfl ⟨rfl, fun j y h => by omega⟩ ?_ ?_
  · rintro i h - hlt ⟨rfl, hn⟩ hw
    have hI : (i : Int) < (l.length : Int) := by omega
    simp [hI, hlt, irow, hw]
    refine ⟨fun he => ?_, fun he => fun j y hj hy => ?_⟩
    · rw [← he]; exact List.getElem_mem hlt
    · by_cases hji : j = i
      · subst hji
        rw [List.getElem?_eq_getElem hlt] at hy
        cases hy
        exact he
      · exact hn j y (by omega) hy
  · rintro h ⟨rfl, hn⟩
    simp
    intro hm
    obtain ⟨j, hj⟩ := List.getElem?_of_mem hm
    exact hn j n (List.getElem?_eq_some_iff.1 hj).1 hj rfl
theorem reach_self' {F : Func} (hf : Fine F) {x : Int} (h0 : 0 ≤ x) (h : x.toNat < F.code.length) : x ∈ reachL F x.toNat := by
  have := reach_self hf h
  rwa [Int.toNat_of_nonneg h0] at this
theorem flowGrows (p : Prog) (hp : p.Ok) (f pc : Int) : PureS Try.prog 4 [.g p.row, .i .i64 f, .i .i64 pc] (.b true) := by
  have hF : (check p).1 = 0 → ∀ F ∈ p.funcs, Fine F := fun h => right_fines h
  refine fun_go hmx Try.func4 r4 s4 (by rw [Try.ntmps4]; simp) ?_
  unfold c4
  simp [Prog.row]
  first
    | refine callk rfl Try.call9 (reach_all p hp f pc hF) rfl ?_
    | refine callks rfl Try.call9 (reach_all p hp f pc hF) rfl ?_
    | refine callq rfl Try.call9 (reach_all p hp f pc hF) rfl ?_
    | refine callqe rfl Try.call9 (reach_all p hp f pc hF) rfl ?_
  by_cases h0 : askE p f pc = 0
  rotate_left
  · simp [h0]
    first
      | refine callk rfl Try.call11 (fit_p p hp f pc) rfl ?_
      | refine callks rfl Try.call11 (fit_p p hp f pc) rfl ?_
      | refine callq rfl Try.call11 (fit_p p hp f pc) rfl ?_
      | refine callqe rfl Try.call11 (fit_p p hp f pc) rfl ?_
    simp [h0]
    first
      | refine callkg rfl Try.call12 rfl (fun _ => speaks_p) (fun hG => by first | (simp; done) | (simp at hG; done) | simpa using hG) rfl ?_
      | refine callksg rfl Try.call12 rfl (fun _ => speaks_p) (fun hG => by first | (simp; done) | (simp at hG; done) | simpa using hG) rfl ?_
      | refine callqg rfl Try.call12 rfl (fun _ => speaks_p) (fun hG => by first | (simp; done) | (simp at hG; done) | simpa using hG) rfl ?_
    simp [h0]
  have P := ask_zero h0
  obtain ⟨f, rfl⟩ : ∃ n : Nat, f = (n : Int) := ⟨f.toNat, by have := P.f0; omega⟩
  obtain ⟨pc, rfl⟩ : ∃ n : Nat, pc = (n : Int) := ⟨pc.toNat, by have := P.pc0; omega⟩
  have hlt := P.f1
  have hpc := P.pc1
  simp only [Int.toNat_natCast] at hlt hpc
  have hgd : p.funcs.getD f default = p.funcs[f] := by rw [List.getD_eq_getElem?_getD, List.getElem?_eq_getElem hlt]; rfl
  have hFm := List.getElem_mem hlt
  have hFf := hF P.right _ hFm
  have hln := hFf.len
  have hask : ∀ x : Int, 0 ≤ x → x.toNat < (p.funcs[f]).code.length → askE p f x = 0 := fun x h1 h2 => Place.ask ⟨P.right, by omega, by simpa using hlt, h1, by rw [Int.toNat_natCast, hgd]; exact h2⟩
  have hnx : ∀ x : Int, 0 ≤ x → x.toNat < (p.funcs[f]).code.length → _ := fun x h1 h2 => by
    have := next_p p hp f x hF
    rw [if_pos (hask x h1 h2), Int.toNat_natCast, hgd] at this
    exact this
  have hrx : ∀ x : Int, 0 ≤ x → x.toNat < (p.funcs[f]).code.length → _ := fun x h1 h2 => by
    have := reach_all p hp f x hF
    rw [if_pos (hask x h1 h2), Int.toNat_natCast, hgd] at this
    exact this
  rw [hgd] at hpc
  have hgd' : p.funcs[f]?.getD default = p.funcs[f] := by rw [List.getElem?_eq_getElem hlt]; rfl
  simp [h0, hgd']
  generalize p.funcs[f] = F at *
  have hself := reach_self hFf hpc
  have hmem := fun y => reach_mem hFf (pc := pc) (y := y)
  have hstep := fun (i y : Int) => reach_step hFf (pc := pc) (i := i) (y := y)
  have htr := fun (i y : Int) => reach_trans hFf hpc (i := i) (y := y)
  have hrl := reachL_len F pc
  generalize hL : reachL F pc = L at *
  first
    | refine callk rfl Try.call11 (fit_p p hp f pc) rfl ?_
    | refine callks rfl Try.call11 (fit_p p hp f pc) rfl ?_
    | refine callq rfl Try.call11 (fit_p p hp f pc) rfl ?_
    | refine callqe rfl Try.call11 (fit_p p hp f pc) rfl ?_
  simp [h0]
  first
    | refine callkg rfl Try.call17 rfl (fun _ => (has_p L pc (by omega))) (fun hG => by first | (simp; done) | (simp at hG; done) | simpa using hG) rfl ?_
    | refine callksg rfl Try.call17 rfl (fun _ => (has_p L pc (by omega))) (fun hG => by first | (simp; done) | (simp at hG; done) | simpa using hG) rfl ?_
    | refine callqg rfl Try.call17 rfl (fun _ => (has_p L pc (by omega))) (fun hG => by first | (simp; done) | (simp at hG; done) | simpa using hG) rfl ?_
  simp [hself]
  have hno : ∀ y ∈ L, 0 ≤ y ∧ y.toNat < F.code.length := fun y hy => ⟨((hmem y).1 hy).1, ((hmem y).1 hy).2.1⟩
  refine go_count hmx 9 0 L.length (fun i h => h = [.none]) (Nat.zero_le _) (by omega) rfl rfl ?_ ?_
  · rintro i h - hlt ⟨rfl⟩ hw
    have hI : (i : Int) < (L.length : Int) := by omega
    have hxL := List.getElem_mem hlt
    generalize hx : L[i] = x at hxL
    obtain ⟨x0, x1⟩ := hno x hxL
    have hxn : ((x.toNat : Nat) : Int) = x := by omega
    simp [hI, hlt, irow, hx]
    first
      | refine callk rfl Try.call8 (hnx x x0 x1) rfl ?_
      | refine callks rfl Try.call8 (hnx x x0 x1) rfl ?_
      | refine callq rfl Try.call8 (hnx x x0 x1) rfl ?_
      | refine callqe rfl Try.call8 (hnx x x0 x1) rfl ?_
    simp [hlt, irow, hx]
    first
      | refine callk rfl Try.call9 (hrx x x0 x1) rfl ?_
      | refine callks rfl Try.call9 (hrx x x0 x1) rfl ?_
      | refine callq rfl Try.call9 (hrx x x0 x1) rfl ?_
      | refine callqe rfl Try.call9 (hrx x x0 x1) rfl ?_
    simp
    have hnl := nextL_len F x.toNat
    have hrl2 := reachL_len F x.toNat
    have hnm : ∀ y ∈ nextL F x.toNat, y ∈ L := fun y hy => hstep x y hxL hy
    have hnr : ∀ y ∈ nextL F x.toNat, y ∈ reachL F x.toNat := fun y hy => reach_step hFf (i := x) (reach_self' hFf x0 x1) hy
    have hrm : ∀ y ∈ reachL F x.toNat, y ∈ L := fun y hy => htr x y hxL hy
    generalize nextL F x.toNat = N at *
    generalize reachL F x.toNat = R at *
    refine go_count hmx 14 0 N.length (fun i h => h = [.none]) (Nat.zero_le _) (by omega) rfl rfl ?_ ?_
    · rintro k h - hlk ⟨rfl⟩ hw2
      have hK : (k : Int) < (N.length : Int) := by omega
      have hy := List.getElem_mem hlk
      generalize hyk : N[k] = y at hy
      simp [hK, hlk, irow, hyk]
      first
        | refine callk rfl Try.call17 (has_p L y (by omega)) rfl ?_
        | refine callks rfl Try.call17 (has_p L y (by omega)) rfl ?_
        | refine callq rfl Try.call17 (has_p L y (by omega)) rfl ?_
        | refine callqe rfl Try.call17 (has_p L y (by omega)) rfl ?_
      simp [hnm y hy, hlk, irow, hyk]
      first
        | refine callkg rfl Try.call17 rfl (fun _ => (has_p R y (by omega))) (fun hG => by first | (simp; done) | (simp at hG; done) | simpa using hG) rfl ?_
        | refine callksg rfl Try.call17 rfl (fun _ => (has_p R y (by omega))) (fun hG => by first | (simp; done) | (simp at hG; done) | simpa using hG) rfl ?_
        | refine callqg rfl Try.call17 rfl (fun _ => (has_p R y (by omega))) (fun hG => by first | (simp; done) | (simp at hG; done) | simpa using hG) rfl ?_
      simp [hnr y hy, hw2]
    · rintro h ⟨rfl⟩
      simp
      refine go_count hmx 15 0 R.length (fun i h => h = [.none]) (Nat.zero_le _) (by omega) rfl rfl ?_ ?_
      · rintro k h - hlk ⟨rfl⟩ hw2
        have hK : (k : Int) < (R.length : Int) := by omega
        have hy := List.getElem_mem hlk
        generalize hyk : R[k] = y at hy
        simp [hK, hlk, irow, hyk]
        first
          | refine callk rfl Try.call17 (has_p L y (by omega)) rfl ?_
          | refine callks rfl Try.call17 (has_p L y (by omega)) rfl ?_
          | refine callq rfl Try.call17 (has_p L y (by omega)) rfl ?_
          | refine callqe rfl Try.call17 (has_p L y (by omega)) rfl ?_
        simp [hrm y hy, hw2]
      · rintro h ⟨rfl⟩
        simp [hw]
  · rintro h ⟨rfl⟩
    simp
    first
      | refine callk rfl Try.call12 speaks_p rfl ?_
      | refine callks rfl Try.call12 speaks_p rfl ?_
      | refine callq rfl Try.call12 speaks_p rfl ?_
      | refine callqe rfl Try.call12 speaks_p rfl ?_
    simp
end Go.Sc.Fl
