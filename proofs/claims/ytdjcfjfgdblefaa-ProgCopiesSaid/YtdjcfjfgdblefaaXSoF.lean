/- Chapter 03: the law ProgRegs. No condition. -/
import Derived.Test.YtdjcfjfgdblefaaXSoE
import Derived.Test.YtdjcfjfgdblefaaXT3o
set_option linter.constructorNameAsVariable false
namespace Go.Sc.So
open Go Go.RowKit Go.Av Go.Proofs Go.Sc Go.Sc.Srt Go.Sc.Q03
set_option linter.unusedSimpArgs false
set_option linter.unusedVariables false
/-- scarab/scarablaw03.ProgRegs -/
def c8 : ACode :=
  (.seq (.reg none [⟨some 3, none, .m (.box (.t 0))⟩, ⟨some 6, none, .q (.mv (.c (.b false)))⟩])
  (.keep [1, 2, 3]
  (.seq (.reg none [⟨some 16, none, .q (.ld (some 4) (.t 3))⟩, ⟨some 17, none, .q (.mv (.t 1))⟩, ⟨some 18, none, .q (.mv (.t 2))⟩, ⟨some 19, none, .call (.f 26) [(.t 16), (.t 17), (.t 18)]⟩, ⟨some 15, none, .q (.mv (.t 19))⟩, ⟨some 20, none, .q (.ext 0 (.t 15))⟩, ⟨some 21, none, .q (.ext 1 (.t 15))⟩, ⟨some 7, none, .q (.mv (.t 20))⟩, ⟨some 8, none, .q (.mv (.t 21))⟩])
  (.keep [1, 2, 3, 7, 8]
  (.seq (.reg none [⟨some 23, none, .q (.ld (some 4) (.t 3))⟩, ⟨some 24, none, .q (.mv (.t 1))⟩, ⟨some 25, none, .q (.mv (.t 2))⟩, ⟨some 26, none, .call (.f 27) [(.t 23), (.t 24), (.t 25)]⟩, ⟨some 22, none, .q (.mv (.t 26))⟩, ⟨some 27, none, .q (.ext 0 (.t 22))⟩, ⟨some 28, none, .q (.ext 1 (.t 22))⟩, ⟨some 9, none, .q (.mv (.t 27))⟩, ⟨some 10, none, .q (.mv (.t 28))⟩])
  (.keep [1, 2, 3, 7, 8, 9, 10]
  (.seq (.reg none [⟨some 30, none, .q (.ld (some 4) (.t 3))⟩, ⟨some 31, none, .q (.mv (.t 1))⟩, ⟨some 32, none, .q (.mv (.t 2))⟩, ⟨some 33, none, .call (.f 28) [(.t 30), (.t 31), (.t 32)]⟩, ⟨some 29, none, .q (.mv (.t 33))⟩, ⟨some 34, none, .q (.ext 0 (.t 29))⟩, ⟨some 35, none, .q (.ext 1 (.t 29))⟩, ⟨some 11, none, .q (.mv (.t 34))⟩, ⟨some 12, none, .q (.mv (.t 35))⟩])
  (.keep [1, 2, 3, 7, 8, 9, 10, 11, 12]
  (.seq (.reg none [⟨some 37, none, .q (.ld (some 4) (.t 3))⟩, ⟨some 38, none, .q (.mv (.t 1))⟩, ⟨some 39, none, .q (.mv (.t 2))⟩, ⟨some 40, none, .call (.f 29) [(.t 37), (.t 38), (.t 39)]⟩, ⟨some 36, none, .q (.mv (.t 40))⟩, ⟨some 41, none, .q (.ext 0 (.t 36))⟩, ⟨some 42, none, .q (.ext 1 (.t 36))⟩, ⟨some 13, none, .q (.mv (.t 41))⟩, ⟨some 14, none, .q (.mv (.t 42))⟩])
  (.keep [7, 8, 9, 10, 11, 12, 13, 14]
  (.seq (.reg none [⟨some 43, none, .q (.mv (.t 7))⟩, ⟨some 44, none, .q (.mv (.t 9))⟩, ⟨some 45, none, .call (.f 30) [(.t 43), (.t 44)]⟩, ⟨some 46, none, .q (.mv (.t 45))⟩, ⟨some 47, some (46, true), .q (.mv (.t 8))⟩, ⟨some 48, some (46, true), .q (.mv (.t 10))⟩, ⟨some 49, some (46, true), .q (.bin .eql (.t 47) (.t 48))⟩, ⟨some 50, none, .pk (.t 46) (.t 49) (.c (.b false))⟩, ⟨some 51, none, .q (.mv (.t 50))⟩, ⟨some 52, some (51, true), .q (.mv (.t 11))⟩, ⟨some 53, some (51, true), .q (.mv (.t 13))⟩, ⟨some 54, some (51, true), .call (.f 30) [(.t 52), (.t 53)]⟩, ⟨some 55, none, .pk (.t 51) (.t 54) (.c (.b false))⟩, ⟨some 56, none, .q (.mv (.t 55))⟩, ⟨some 57, some (56, true), .q (.mv (.t 12))⟩, ⟨some 58, some (56, true), .q (.mv (.t 14))⟩, ⟨some 59, some (56, true), .q (.bin .eql (.t 57) (.t 58))⟩, ⟨some 60, none, .pk (.t 56) (.t 59) (.c (.b false))⟩, ⟨some 61, none, .q (.mv (.t 60))⟩, ⟨some 62, some (61, true), .call (.f 25) []⟩, ⟨some 63, none, .pk (.t 61) (.t 62) (.c (.b false))⟩, ⟨some 6, none, .q (.mv (.t 63))⟩])
  .ret)))))))))))
theorem r8 : (Try.f8.body.bind (resC Try.prog Try.f8.ntmps)) = some (strip c8) := by kernel_rfl
theorem s8 : Try.f8.results.toList.mapM (resRes Try.prog) = some [.t 6] := by kernel_rfl
theorem readsV_len (p : Prog) (f pc : Int) : (readsV p f pc).length ≤ 8 := by
  unfold readsV; split
  · exact rise8_len _
  · simp
theorem setsV_len (p : Prog) (f pc : Int) : (setsV p f pc).length ≤ 8 := by
  unfold setsV; split
  · exact rise8_len _
  · simp
theorem progRegs (p : Prog) (f pc : Int) (hp : p.Ok) : PureS Try.prog 8 [.g p.row, .i .i64 f, .i .i64 pc] (.b true) := by
  refine fun_go hmx Try.func8 r8 s8 (by rw [Try.ntmps8]; simp) ?_
  unfold c8
  simp [Prog.row]
  first
    | refine callk rfl Try.call26 (reads_p p f pc hp) rfl ?_
    | refine callks rfl Try.call26 (reads_p p f pc hp) rfl ?_
    | refine callq rfl Try.call26 (reads_p p f pc hp) rfl ?_
  simp [regV]
  first
    | refine callk rfl Try.call27 (reads_r p f pc hp) rfl ?_
    | refine callks rfl Try.call27 (reads_r p f pc hp) rfl ?_
    | refine callq rfl Try.call27 (reads_r p f pc hp) rfl ?_
  simp [regV]
  first
    | refine callk rfl Try.call28 (sets_p p f pc hp) rfl ?_
    | refine callks rfl Try.call28 (sets_p p f pc hp) rfl ?_
    | refine callq rfl Try.call28 (sets_p p f pc hp) rfl ?_
  simp [regV]
  first
    | refine callk rfl Try.call29 (sets_r p f pc hp) rfl ?_
    | refine callks rfl Try.call29 (sets_r p f pc hp) rfl ?_
    | refine callq rfl Try.call29 (sets_r p f pc hp) rfl ?_
  simp [regV]
  first
    | refine callk rfl Try.call30 (sameInts_l (readsV p f pc) (readsV p f pc) (few8 (by have := readsV_len p f pc; omega)) (few8 (by have := readsV_len p f pc; omega))) rfl ?_
    | refine callks rfl Try.call30 (sameInts_l (readsV p f pc) (readsV p f pc) (few8 (by have := readsV_len p f pc; omega)) (few8 (by have := readsV_len p f pc; omega))) rfl ?_
    | refine callq rfl Try.call30 (sameInts_l (readsV p f pc) (readsV p f pc) (few8 (by have := readsV_len p f pc; omega)) (few8 (by have := readsV_len p f pc; omega))) rfl ?_
  simp
  first
    | refine callkg rfl Try.call30 rfl (fun _ => (sameInts_l (setsV p f pc) (setsV p f pc) (few8 (by have := setsV_len p f pc; omega)) (few8 (by have := setsV_len p f pc; omega)))) (fun hG => by first | (simp; done) | (simp at hG; done) | simpa using hG) rfl ?_
    | refine callksg rfl Try.call30 rfl (fun _ => (sameInts_l (setsV p f pc) (setsV p f pc) (few8 (by have := setsV_len p f pc; omega)) (few8 (by have := setsV_len p f pc; omega)))) (fun hG => by first | (simp; done) | (simp at hG; done) | simpa using hG) rfl ?_
    | refine callqg rfl Try.call30 rfl (fun _ => (sameInts_l (setsV p f pc) (setsV p f pc) (few8 (by have := setsV_len p f pc; omega)) (few8 (by have := setsV_len p f pc; omega)))) (fun hG => by first | (simp; done) | (simp at hG; done) | simpa using hG) rfl ?_
  simp
  first
    | refine callkg rfl Try.call25 rfl (fun _ => (small25)) (fun hG => by first | (simp; done) | (simp at hG; done) | simpa using hG) rfl ?_
    | refine callksg rfl Try.call25 rfl (fun _ => (small25)) (fun hG => by first | (simp; done) | (simp at hG; done) | simpa using hG) rfl ?_
    | refine callqg rfl Try.call25 rfl (fun _ => (small25)) (fun hG => by first | (simp; done) | (simp at hG; done) | simpa using hG) rfl ?_
  simp
end Go.Sc.So
