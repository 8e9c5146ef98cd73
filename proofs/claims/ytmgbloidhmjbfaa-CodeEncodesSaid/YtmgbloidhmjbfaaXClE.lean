/- Chapter 04: the law CodeEncodes, by the program. No condition. -/
import Derived.Test.YtmgbloidhmjbfaaXRw
import Derived.Test.YtmgbloidhmjbfaaXCl
set_option linter.constructorNameAsVariable false
namespace Go.Sc.Cw
open Go Go.RowKit Go.Av Go.Proofs Go.Sc.Oct
set_option linter.unusedSimpArgs false
set_option linter.unusedVariables false
/-- scarab/scarablaw04.CodeEncodes -/
def c13 : ACode :=
  (.seq (.reg none [⟨some 3, none, .m (.box (.t 0))⟩, ⟨some 6, none, .q (.mv (.c (.b false)))⟩])
  (.keep [1, 2, 3]
  (.seq (.reg none [⟨some 22, none, .q (.ld (some 4) (.t 3))⟩, ⟨some 23, none, .call (.f 48) [(.t 22)]⟩, ⟨some 7, none, .m (.alloc (.g [.nil, (.i .i64 0), .nil, .nil]))⟩, ⟨none, none, .m (.st 4 (.t 7) (.t 23))⟩])
  (.keep [1, 2, 3, 7]
  (.seq (.reg none [⟨some 25, none, .q (.ld (some 4) (.t 7))⟩, ⟨some 26, none, .call (.f 40) [(.t 25)]⟩, ⟨some 24, none, .q (.mv (.t 26))⟩, ⟨some 27, none, .q (.ext 0 (.t 24))⟩, ⟨some 28, none, .q (.ext 1 (.t 24))⟩, ⟨some 8, none, .q (.mv (.t 27))⟩, ⟨some 9, none, .q (.mv (.t 28))⟩])
  (.keep [1, 2, 3, 7, 8, 9]
  (.seq (.reg none [⟨some 30, none, .q (.ld (some 4) (.t 3))⟩, ⟨some 31, none, .call (.f 49) [(.t 30)]⟩, ⟨some 29, none, .q (.mv (.t 31))⟩, ⟨some 32, none, .q (.ext 0 (.t 29))⟩, ⟨some 33, none, .q (.ext 1 (.t 29))⟩, ⟨some 10, none, .q (.mv (.t 32))⟩, ⟨some 11, none, .q (.mv (.t 33))⟩])
  (.keep [1, 2, 3, 7, 8, 9, 10, 11]
  (.seq (.reg none [⟨some 35, none, .q (.ld (some 4) (.t 7))⟩, ⟨some 36, none, .call (.f 50) [(.t 35)]⟩, ⟨some 34, none, .q (.mv (.t 36))⟩, ⟨some 37, none, .q (.ext 0 (.t 34))⟩, ⟨some 38, none, .q (.ext 1 (.t 34))⟩, ⟨some 12, none, .q (.mv (.t 37))⟩, ⟨some 13, none, .q (.mv (.t 38))⟩])
  (.keep [1, 2, 3, 7, 8, 9, 10, 11, 12, 13]
  (.seq (.reg none [⟨some 40, none, .q (.ld (some 4) (.t 7))⟩, ⟨some 41, none, .call (.f 51) [(.t 40)]⟩, ⟨some 39, none, .q (.mv (.t 41))⟩, ⟨some 42, none, .q (.ext 0 (.t 39))⟩, ⟨some 43, none, .q (.ext 1 (.t 39))⟩, ⟨some 14, none, .q (.mv (.t 42))⟩, ⟨some 15, none, .q (.mv (.t 43))⟩])
  (.keep [1, 2, 3, 7, 8, 9, 10, 11, 12, 13, 14, 15]
  (.seq (.reg none [⟨some 45, none, .q (.ld (some 4) (.t 3))⟩, ⟨some 46, none, .call (.f 52) [(.t 45)]⟩, ⟨some 44, none, .q (.mv (.t 46))⟩, ⟨some 47, none, .q (.ext 0 (.t 44))⟩, ⟨some 48, none, .q (.ext 1 (.t 44))⟩, ⟨some 16, none, .q (.mv (.t 47))⟩, ⟨some 17, none, .q (.mv (.t 48))⟩])
  (.keep [1, 2, 3, 7, 8, 9, 10, 11, 12, 13, 14, 15, 16, 17]
  (.seq (.reg none [⟨some 50, none, .q (.ld (some 4) (.t 7))⟩, ⟨some 51, none, .q (.mv (.t 1))⟩, ⟨some 52, none, .q (.mv (.t 2))⟩, ⟨some 53, none, .call (.f 53) [(.t 50), (.t 51), (.t 52)]⟩, ⟨some 49, none, .q (.mv (.t 53))⟩, ⟨some 54, none, .q (.ext 0 (.t 49))⟩, ⟨some 55, none, .q (.ext 1 (.t 49))⟩, ⟨some 18, none, .q (.mv (.t 54))⟩, ⟨some 19, none, .q (.mv (.t 55))⟩])
  (.keep [1, 2, 3, 7, 8, 9, 10, 11, 12, 13, 14, 15, 16, 17, 18, 19]
  (.seq (.reg none [⟨some 57, none, .q (.ld (some 4) (.t 3))⟩, ⟨some 58, none, .q (.mv (.t 1))⟩, ⟨some 59, none, .q (.mv (.t 2))⟩, ⟨some 60, none, .call (.f 54) [(.t 57), (.t 58), (.t 59)]⟩, ⟨some 56, none, .q (.mv (.t 60))⟩, ⟨some 61, none, .q (.ext 0 (.t 56))⟩, ⟨some 62, none, .q (.ext 1 (.t 56))⟩, ⟨some 20, none, .q (.mv (.t 61))⟩, ⟨some 21, none, .q (.mv (.t 62))⟩])
  (.keep [3, 7, 8, 9, 10, 11, 12, 13, 14, 15, 16, 17, 18, 19, 20, 21]
  (.seq (.seq (.reg none [⟨some 63, none, .q (.mv (.t 8))⟩, ⟨some 64, none, .q (.mv (.t 10))⟩, ⟨some 65, none, .call (.f 45) [(.t 63), (.t 64)]⟩, ⟨some 66, none, .q (.un .not (.t 65))⟩, ⟨some 67, none, .q (.mv (.t 66))⟩, ⟨some 68, some (67, false), .q (.mv (.t 9))⟩, ⟨some 69, some (67, false), .q (.mv (.t 11))⟩, ⟨some 70, some (67, false), .q (.bin .neq (.t 68) (.t 69))⟩, ⟨some 71, none, .pk (.t 67) (.c (.b true)) (.t 70)⟩, ⟨some 72, none, .q (.mv (.t 71))⟩, ⟨some 73, some (72, false), .q (.mv (.t 12))⟩, ⟨some 74, some (72, false), .q (.mv (.t 10))⟩, ⟨some 75, some (72, false), .q (.len false (.t 74))⟩, ⟨some 76, some (72, false), .q (.bin .neq (.t 73) (.t 75))⟩, ⟨some 77, none, .pk (.t 72) (.c (.b true)) (.t 76)⟩, ⟨some 78, none, .q (.mv (.t 77))⟩, ⟨some 79, some (78, false), .q (.mv (.t 13))⟩, ⟨some 80, some (78, false), .q (.mv (.t 11))⟩, ⟨some 81, some (78, false), .q (.bin .neq (.t 79) (.t 80))⟩, ⟨some 82, none, .pk (.t 78) (.c (.b true)) (.t 81)⟩, ⟨some 83, none, .q (.mv (.t 82))⟩, ⟨some 84, some (83, false), .q (.mv (.t 14))⟩, ⟨some 85, some (83, false), .q (.mv (.t 16))⟩, ⟨some 86, some (83, false), .q (.bin .neq (.t 84) (.t 85))⟩, ⟨some 87, none, .pk (.t 83) (.c (.b true)) (.t 86)⟩, ⟨some 88, none, .q (.mv (.t 87))⟩, ⟨some 89, some (88, false), .q (.mv (.t 15))⟩, ⟨some 90, some (88, false), .q (.mv (.t 17))⟩, ⟨some 91, some (88, false), .q (.bin .neq (.t 89) (.t 90))⟩, ⟨some 92, none, .pk (.t 88) (.c (.b true)) (.t 91)⟩, ⟨some 93, none, .q (.mv (.t 92))⟩, ⟨some 94, some (93, false), .q (.mv (.t 18))⟩, ⟨some 95, some (93, false), .q (.mv (.t 20))⟩, ⟨some 96, some (93, false), .q (.bin .neq (.t 94) (.t 95))⟩, ⟨some 97, none, .pk (.t 93) (.c (.b true)) (.t 96)⟩, ⟨some 98, none, .q (.mv (.t 97))⟩, ⟨some 99, some (98, false), .q (.mv (.t 19))⟩, ⟨some 100, some (98, false), .q (.mv (.t 21))⟩, ⟨some 101, some (98, false), .q (.bin .neq (.t 99) (.t 100))⟩, ⟨some 102, none, .pk (.t 98) (.c (.b true)) (.t 101)⟩])
    (.keep [3, 7, 102]
    (.cond (.t 102) (.seq (.reg none [⟨some 6, none, .q (.mv (.c (.b false)))⟩])
      .ret)
    .skip)))
  (.seq (.reg none [⟨some 103, none, .q (.ld (some 4) (.t 7))⟩, ⟨some 104, none, .q (.ld (some 4) (.t 3))⟩, ⟨some 105, none, .call (.f 43) [(.t 103), (.t 104)]⟩, ⟨some 106, none, .q (.mv (.t 105))⟩, ⟨some 107, some (106, true), .call (.f 41) []⟩, ⟨some 108, none, .pk (.t 106) (.t 107) (.c (.b false))⟩, ⟨some 6, none, .q (.mv (.t 108))⟩])
  .ret))))))))))))))))))))
theorem r13 : (Try.f13.body.bind (resC Try.prog Try.f13.ntmps)) = some (strip c13) := by kernel_rfl
theorem s13 : Try.f13.results.toList.mapM (resRes Try.prog) = some [.t 6] := by kernel_rfl
theorem codeEncodes_l (p : Prog) (hp : p.Ok) (f pc : Int) : PureS Try.prog 13 [.g p.row, .i .i64 f, .i .i64 pc] (.b true) := by
  refine fun_go hmx Try.func13 r13 s13 (by rw [Try.ntmps13]; simp) ?_
  unfold c13
  have hs := speaks_l
  have henc := encode_w p hp
  have hencR := encodeR p hp
  have hlen := length_w p hp
  have hsum := sum_w p hp
  have hsumR := sumRV p hp
  have hwh := whereW p hp f pc
  have hwhR := whereR p hp f pc
  obtain ⟨B, e, h1⟩ : ∃ B e, encV p = .tup [.sl 1 (List.map brow B), .i .i64 e] ∧ lenV p = .tup [.i .i64 (B.length : Int), .i .i64 e] := by
    by_cases h : (check p).1 = 0
    · exact ⟨progW p, 0, by simp [encV, h], by simp [lenV, h]⟩
    · exact ⟨[], 3, by simp [encV, h], by simp [lenV, h]⟩
  obtain ⟨S, e2, h3⟩ : ∃ S e, sumV p = .tup [.i .u32 S, .i .i64 e] := by
    by_cases h : (check p).1 = 0
    · exact ⟨_, _, by rw [sumV, if_pos h]⟩
    · exact ⟨_, _, by rw [sumV, if_neg h]⟩
  obtain ⟨W, e3, h4⟩ : ∃ S e, whereV p f pc = .tup [.i .i64 S, .i .i64 e] := by
    unfold whereV; split
    · exact ⟨_, _, rfl⟩
    · split <;> exact ⟨_, _, rfl⟩
  obtain ⟨h1, h2⟩ := h1
  rw [h1] at henc hencR
  rw [h2] at hlen
  rw [h3] at hsum hsumR
  rw [h4] at hwh hwhR
  simp [Prog.row]
  refine callk rfl Try.call48 (Q03.plainProg p hp) rfl ?_
  simp [Prog.row]
  refine callk rfl Try.call40 henc rfl ?_
  simp
  refine callk rfl Try.call49 hencR rfl ?_
  simp
  refine callk rfl Try.call50 hlen rfl ?_
  simp
  refine callk rfl Try.call51 hsum rfl ?_
  simp
  refine callk rfl Try.call52 hsumR rfl ?_
  simp
  refine callk rfl Try.call53 hwh rfl ?_
  simp
  refine callk rfl Try.call54 hwhR rfl ?_
  simp
  refine callk rfl Try.call45 (sameBytes_l B B) rfl ?_
  simp
  refine callk rfl Try.call43 (same_l p p hp) rfl ?_
  simp
  first
    | refine callkg rfl Try.call41 rfl (fun _ => hs) (fun hG => by first | (simp; done) | (simp at hG; done) | simpa using hG) rfl ?_
    | refine callksg rfl Try.call41 rfl (fun _ => hs) (fun hG => by first | (simp; done) | (simp at hG; done) | simpa using hG) rfl ?_
    | refine callqg rfl Try.call41 rfl (fun _ => hs) (fun hG => by first | (simp; done) | (simp at hG; done) | simpa using hG) rfl ?_
  simp
end Go.Sc.Cw
