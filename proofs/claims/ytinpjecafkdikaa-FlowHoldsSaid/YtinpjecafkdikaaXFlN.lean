/- Chapter 06: the law FlowNexts. No condition. -/
import Derived.Test.YtinpjecafkdikaaXFm
set_option linter.constructorNameAsVariable false
namespace Go.Sc.Fl
open Go Go.RowKit Go.Av Go.Proofs Go.Sc
set_option linter.unusedSimpArgs false
set_option linter.unusedVariables false
/-- scarab/scarablaw06.FlowNexts -/
def c3 : ACode :=
  (.seq (.reg none [⟨some 3, none, .m (.box (.t 0))⟩, ⟨some 6, none, .q (.mv (.c (.b false)))⟩])
  (.gst (.pimT 3)
  (.keep [1, 2, 3]
  (.seq (.reg none [⟨some 15, none, .q (.ld (some 4) (.t 3))⟩, ⟨some 16, none, .q (.mv (.t 1))⟩, ⟨some 17, none, .q (.mv (.t 2))⟩, ⟨some 18, none, .call (.f 8) [(.t 15), (.t 16), (.t 17)]⟩, ⟨some 14, none, .q (.mv (.t 18))⟩, ⟨some 19, none, .q (.ext 0 (.t 14))⟩, ⟨some 20, none, .q (.ext 1 (.t 14))⟩, ⟨some 7, none, .q (.mv (.t 19))⟩, ⟨some 8, none, .q (.mv (.t 20))⟩])
  (.keep [1, 2, 3, 7, 8]
  (.seq (.reg none [⟨some 22, none, .q (.ld (some 4) (.t 3))⟩, ⟨some 23, none, .q (.mv (.t 1))⟩, ⟨some 24, none, .q (.mv (.t 2))⟩, ⟨some 25, none, .call (.f 9) [(.t 22), (.t 23), (.t 24)]⟩, ⟨some 21, none, .q (.mv (.t 25))⟩, ⟨some 26, none, .q (.ext 0 (.t 21))⟩, ⟨some 27, none, .q (.ext 1 (.t 21))⟩, ⟨some 9, none, .q (.mv (.t 26))⟩, ⟨some 10, none, .q (.mv (.t 27))⟩])
  (.keep [1, 2, 3, 7, 8, 9, 10]
  (.seq (.reg none [⟨some 29, none, .q (.ld (some 4) (.t 3))⟩, ⟨some 30, none, .q (.mv (.t 1))⟩, ⟨some 31, none, .q (.mv (.t 2))⟩, ⟨some 32, none, .call (.f 10) [(.t 29), (.t 30), (.t 31)]⟩, ⟨some 28, none, .q (.mv (.t 32))⟩, ⟨some 33, none, .q (.ext 0 (.t 28))⟩, ⟨some 34, none, .q (.ext 1 (.t 28))⟩, ⟨some 11, none, .q (.mv (.t 33))⟩, ⟨some 12, none, .q (.mv (.t 34))⟩])
  (.keep [1, 2, 3, 7, 8, 9, 10, 11, 12]
  (.seq (.reg none [⟨some 35, none, .q (.ld (some 4) (.t 3))⟩, ⟨some 36, none, .q (.mv (.t 1))⟩, ⟨some 37, none, .q (.mv (.t 2))⟩, ⟨some 38, none, .call (.f 11) [(.t 35), (.t 36), (.t 37)]⟩, ⟨some 13, none, .q (.mv (.t 38))⟩])
  (.keep [1, 2, 3, 7, 8, 9, 10, 11, 12, 13]
  (.seq (.seq (.reg none [⟨some 39, none, .q (.mv (.t 8))⟩, ⟨some 40, none, .q (.mv (.t 13))⟩, ⟨some 41, none, .q (.bin .neq (.t 39) (.t 40))⟩, ⟨some 42, none, .q (.mv (.t 41))⟩, ⟨some 43, some (42, false), .q (.mv (.t 10))⟩, ⟨some 44, some (42, false), .q (.mv (.t 13))⟩, ⟨some 45, some (42, false), .q (.bin .neq (.t 43) (.t 44))⟩, ⟨some 46, none, .pk (.t 42) (.c (.b true)) (.t 45)⟩, ⟨some 47, none, .q (.mv (.t 46))⟩, ⟨some 48, some (47, false), .q (.mv (.t 12))⟩, ⟨some 49, some (47, false), .q (.mv (.t 13))⟩, ⟨some 50, some (47, false), .q (.bin .neq (.t 48) (.t 49))⟩, ⟨some 51, none, .pk (.t 47) (.c (.b true)) (.t 50)⟩, ⟨some 52, none, .q (.mv (.t 51))⟩, ⟨some 53, some (52, false), .call (.f 12) []⟩, ⟨some 54, some (52, false), .q (.un .not (.t 53))⟩, ⟨some 55, none, .pk (.t 52) (.c (.b true)) (.t 54)⟩])
    (.keep [1, 2, 3, 7, 9, 11, 13, 55]
    (.cond (.t 55) (.seq (.reg none [⟨some 6, none, .q (.mv (.c (.b false)))⟩])
      .ret)
    .skip)))
  (.seq (.seq (.reg none [⟨some 56, none, .q (.mv (.t 13))⟩, ⟨some 57, none, .q (.bin .neq (.t 56) (.c (.i .i64 0)))⟩])
    (.keep [1, 2, 3, 7, 9, 11, 57]
    (.cond (.t 57) (.seq (.reg none [⟨some 58, none, .q (.mv (.t 7))⟩, ⟨some 59, none, .q (.len false (.t 58))⟩, ⟨some 60, none, .q (.bin .eql (.t 59) (.c (.i .i64 0)))⟩, ⟨some 61, none, .q (.mv (.t 60))⟩, ⟨some 62, some (61, true), .q (.mv (.t 9))⟩, ⟨some 63, some (61, true), .q (.len false (.t 62))⟩, ⟨some 64, some (61, true), .q (.bin .eql (.t 63) (.c (.i .i64 0)))⟩, ⟨some 65, none, .pk (.t 61) (.t 64) (.c (.b false))⟩, ⟨some 66, none, .q (.mv (.t 65))⟩, ⟨some 67, some (66, true), .q (.mv (.t 11))⟩, ⟨some 68, some (66, true), .q (.bin .eql (.t 67) (.c (.i .i64 0)))⟩, ⟨some 69, none, .pk (.t 66) (.t 68) (.c (.b false))⟩, ⟨some 6, none, .q (.mv (.t 69))⟩])
      .ret)
    .skip)))
  (.seq (.reg none [⟨some 70, none, .q (.mv (.t 7))⟩, ⟨some 71, none, .q (.ld (some 4) (.t 3))⟩, ⟨some 72, none, .q (.mv (.t 1))⟩, ⟨some 73, none, .q (.mv (.t 2))⟩, ⟨some 74, none, .call (.f 14) [(.t 71), (.t 72), (.t 73)]⟩, ⟨some 75, none, .call (.f 13) [(.t 70), (.t 74)]⟩, ⟨some 76, none, .q (.mv (.t 75))⟩, ⟨some 77, some (76, true), .q (.mv (.t 9))⟩, ⟨some 78, some (76, true), .q (.ld (some 4) (.t 3))⟩, ⟨some 79, some (76, true), .q (.mv (.t 1))⟩, ⟨some 80, some (76, true), .q (.mv (.t 2))⟩, ⟨some 81, some (76, true), .call (.f 15) [(.t 78), (.t 79), (.t 80)]⟩, ⟨some 82, some (76, true), .call (.f 13) [(.t 77), (.t 81)]⟩, ⟨some 83, none, .pk (.t 76) (.t 82) (.c (.b false))⟩, ⟨some 84, none, .q (.mv (.t 83))⟩, ⟨some 85, some (84, true), .q (.mv (.t 11))⟩, ⟨some 86, some (84, true), .q (.ld (some 4) (.t 3))⟩, ⟨some 87, some (84, true), .q (.mv (.t 1))⟩, ⟨some 88, some (84, true), .q (.mv (.t 2))⟩, ⟨some 89, some (84, true), .call (.f 16) [(.t 86), (.t 87), (.t 88)]⟩, ⟨some 90, some (84, true), .q (.bin .eql (.t 85) (.t 89))⟩, ⟨some 91, none, .pk (.t 84) (.t 90) (.c (.b false))⟩, ⟨some 6, none, .q (.mv (.t 91))⟩])
  .ret))))))))))))))
theorem r3 : (Try.f3.body.bind (resC Try.prog Try.f3.ntmps)) = some (strip c3) := by kernel_rfl
theorem s3 : Try.f3.results.toList.mapM (resRes Try.prog) = some [.t 6] := by kernel_rfl
theorem few_ints {l : List Int} {n : Nat} (h : l.length ≤ n) (hn : n ≤ 64) : Few 8 l := by unfold Few; omega
theorem nextL_len (f : Func) (pc : Nat) : (nextL f pc).length ≤ f.code.length := by simp only [nextL, ints, List.length_map]; exact ones_len _ _
theorem reachL_len (f : Func) (pc : Nat) : (reachL f pc).length ≤ f.code.length := by simp only [reachL, ints, List.length_map]; exact ones_len _ _
theorem flowNexts (p : Prog) (hp : p.Ok) (f pc : Int) : PureS Try.prog 3 [.g p.row, .i .i64 f, .i .i64 pc] (.b true) := by
  have hF : (check p).1 = 0 → ∀ F ∈ p.funcs, Fine F := fun h => right_fines h
  refine fun_go hmx Try.func3 r3 s3 (by rw [Try.ntmps3]; simp) ?_
  unfold c3
  simp [Prog.row]
  first
    | refine callk rfl Try.call8 (next_p p hp f pc hF) rfl ?_
    | refine callks rfl Try.call8 (next_p p hp f pc hF) rfl ?_
    | refine callq rfl Try.call8 (next_p p hp f pc hF) rfl ?_
    | refine callqe rfl Try.call8 (next_p p hp f pc hF) rfl ?_
  by_cases h0 : askE p f pc = 0
  rotate_left
  · simp [h0]
    first
      | refine callk rfl Try.call9 (reach_all p hp f pc hF) rfl ?_
      | refine callks rfl Try.call9 (reach_all p hp f pc hF) rfl ?_
      | refine callq rfl Try.call9 (reach_all p hp f pc hF) rfl ?_
      | refine callqe rfl Try.call9 (reach_all p hp f pc hF) rfl ?_
    simp [h0]
    first
      | refine callk rfl Try.call10 (longest_all p hp f pc hF) rfl ?_
      | refine callks rfl Try.call10 (longest_all p hp f pc hF) rfl ?_
      | refine callq rfl Try.call10 (longest_all p hp f pc hF) rfl ?_
      | refine callqe rfl Try.call10 (longest_all p hp f pc hF) rfl ?_
    simp [h0]
    first
      | refine callk rfl Try.call11 (fit_p p hp f pc) rfl ?_
      | refine callks rfl Try.call11 (fit_p p hp f pc) rfl ?_
      | refine callq rfl Try.call11 (fit_p p hp f pc) rfl ?_
      | refine callqe rfl Try.call11 (fit_p p hp f pc) rfl ?_
    simp [h0]
    first
      | refine callkg rfl Try.call12 rfl (fun _ => speaks_p) (fun hG => by first | (simp; done) | (simp at hG; done) | simpa using hG) rfl ?_
      | refine callksg rfl Try.call12 rfl (fun _ => speaks_p) (fun hG => by first | (simp; done) | (simp at hG; done) | simpa using hG) rfl ?_
      | refine callqg rfl Try.call12 rfl (fun _ => speaks_p) (fun hG => by first | (simp; done) | (simp at hG; done) | simpa using hG) rfl ?_
    simp [h0]
  have P := ask_zero h0
  obtain ⟨f, rfl⟩ : ∃ n : Nat, f = (n : Int) := ⟨f.toNat, by have := P.f0; omega⟩
  obtain ⟨pc, rfl⟩ : ∃ n : Nat, pc = (n : Int) := ⟨pc.toNat, by have := P.pc0; omega⟩
  have hlt := P.f1
  have hpc := P.pc1
  simp only [Int.toNat_natCast] at hlt hpc
  have hgd : p.funcs.getD f default = p.funcs[f] := by rw [List.getD_eq_getElem?_getD, List.getElem?_eq_getElem hlt]; rfl
  rw [hgd] at hpc
  have hFm := List.getElem_mem hlt
  have hFf := hF P.right _ hFm
  have h4 := right_cases P.right hFm
  have hq : p.funcs[f]? = some p.funcs[f] := List.getElem?_eq_getElem hlt
  have hln := hFf.len
  simp [h0]
  first
    | refine callk rfl Try.call9 (reach_all p hp f pc hF) rfl ?_
    | refine callks rfl Try.call9 (reach_all p hp f pc hF) rfl ?_
    | refine callq rfl Try.call9 (reach_all p hp f pc hF) rfl ?_
    | refine callqe rfl Try.call9 (reach_all p hp f pc hF) rfl ?_
  simp [h0]
  first
    | refine callk rfl Try.call10 (longest_all p hp f pc hF) rfl ?_
    | refine callks rfl Try.call10 (longest_all p hp f pc hF) rfl ?_
    | refine callq rfl Try.call10 (longest_all p hp f pc hF) rfl ?_
    | refine callqe rfl Try.call10 (longest_all p hp f pc hF) rfl ?_
  simp [h0]
  first
    | refine callk rfl Try.call11 (fit_p p hp f pc) rfl ?_
    | refine callks rfl Try.call11 (fit_p p hp f pc) rfl ?_
    | refine callq rfl Try.call11 (fit_p p hp f pc) rfl ?_
    | refine callqe rfl Try.call11 (fit_p p hp f pc) rfl ?_
  simp [h0]
  first
    | refine callkg rfl Try.call12 rfl (fun _ => speaks_p) (fun hG => by first | (simp; done) | (simp at hG; done) | simpa using hG) rfl ?_
    | refine callksg rfl Try.call12 rfl (fun _ => speaks_p) (fun hG => by first | (simp; done) | (simp at hG; done) | simpa using hG) rfl ?_
    | refine callqg rfl Try.call12 rfl (fun _ => speaks_p) (fun hG => by first | (simp; done) | (simp at hG; done) | simpa using hG) rfl ?_
  simp
  have hgd' : p.funcs[f]?.getD default = p.funcs[f] := by rw [hq]; rfl
  rw [hgd']
  generalize p.funcs[f] = F at *
  have fn : Few 8 (nextL F pc) := few_ints (nextL_len F pc) hln
  have fr : Few 8 (reachL F pc) := few_ints (reachL_len F pc) hln
  first
    | refine callk rfl Try.call14 (nextR_p p hp f pc F hq hFf hpc h4) rfl ?_
    | refine callks rfl Try.call14 (nextR_p p hp f pc F hq hFf hpc h4) rfl ?_
    | refine callq rfl Try.call14 (nextR_p p hp f pc F hq hFf hpc h4) rfl ?_
    | refine callqe rfl Try.call14 (nextR_p p hp f pc F hq hFf hpc h4) rfl ?_
  simp
  first
    | refine callk rfl Try.call13 (sameInts_l (nextL F pc) (nextL F pc) fn fn) rfl ?_
    | refine callks rfl Try.call13 (sameInts_l (nextL F pc) (nextL F pc) fn fn) rfl ?_
    | refine callq rfl Try.call13 (sameInts_l (nextL F pc) (nextL F pc) fn fn) rfl ?_
    | refine callqe rfl Try.call13 (sameInts_l (nextL F pc) (nextL F pc) fn fn) rfl ?_
  simp
  first
    | refine callkg rfl Try.call15 rfl (fun _ => (reachR_p p hp f pc F hq hFf hpc h4)) (fun hG => by first | (simp; done) | (simp at hG; done) | simpa using hG) rfl ?_
    | refine callksg rfl Try.call15 rfl (fun _ => (reachR_p p hp f pc F hq hFf hpc h4)) (fun hG => by first | (simp; done) | (simp at hG; done) | simpa using hG) rfl ?_
    | refine callqg rfl Try.call15 rfl (fun _ => (reachR_p p hp f pc F hq hFf hpc h4)) (fun hG => by first | (simp; done) | (simp at hG; done) | simpa using hG) rfl ?_
  simp
  first
    | refine callkg rfl Try.call13 rfl (fun _ => (sameInts_l (reachL F pc) (reachL F pc) fr fr)) (fun hG => by first | (simp; done) | (simp at hG; done) | simpa using hG) rfl ?_
    | refine callksg rfl Try.call13 rfl (fun _ => (sameInts_l (reachL F pc) (reachL F pc) fr fr)) (fun hG => by first | (simp; done) | (simp at hG; done) | simpa using hG) rfl ?_
    | refine callqg rfl Try.call13 rfl (fun _ => (sameInts_l (reachL F pc) (reachL F pc) fr fr)) (fun hG => by first | (simp; done) | (simp at hG; done) | simpa using hG) rfl ?_
  simp
  first
    | refine callkg rfl Try.call16 rfl (fun _ => (longestR_p p hp f pc F hq hFf hpc h4)) (fun hG => by first | (simp; done) | (simp at hG; done) | simpa using hG) rfl ?_
    | refine callksg rfl Try.call16 rfl (fun _ => (longestR_p p hp f pc F hq hFf hpc h4)) (fun hG => by first | (simp; done) | (simp at hG; done) | simpa using hG) rfl ?_
    | refine callqg rfl Try.call16 rfl (fun _ => (longestR_p p hp f pc F hq hFf hpc h4)) (fun hG => by first | (simp; done) | (simp at hG; done) | simpa using hG) rfl ?_
  simp
end Go.Sc.Fl
