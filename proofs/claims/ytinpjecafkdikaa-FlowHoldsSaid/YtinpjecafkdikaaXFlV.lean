/- Chapter 06: the law FlowLooks. No condition. -/
import Derived.Test.YtinpjecafkdikaaXFlN
import Derived.Test.YtinpjecafkdikaaXFs
set_option linter.constructorNameAsVariable false
namespace Go.Sc.Fl
open Go Go.RowKit Go.Av Go.Proofs Go.Sc
open Go.Sc.Q03 (right22)
set_option linter.unusedSimpArgs false
set_option linter.unusedVariables false
/-- scarab/scarablaw06.FlowLooks -/
def c5 : ACode :=
  (.seq (.reg none [⟨some 2, none, .m (.box (.t 0))⟩, ⟨some 4, none, .q (.mv (.c (.b false)))⟩])
  (.gst (.pimT 2)
  (.keep [1, 2]
  (.seq (.reg none [⟨some 17, none, .q (.ld (some 4) (.t 2))⟩, ⟨some 18, none, .q (.mv (.t 1))⟩, ⟨some 19, none, .call (.f 18) [(.t 17), (.t 18)]⟩, ⟨some 16, none, .q (.mv (.t 19))⟩, ⟨some 20, none, .q (.ext 0 (.t 16))⟩, ⟨some 21, none, .q (.ext 1 (.t 16))⟩, ⟨some 5, none, .q (.mv (.t 20))⟩, ⟨some 6, none, .q (.mv (.t 21))⟩])
  (.keep [1, 2, 5, 6]
  (.seq (.reg none [⟨some 23, none, .q (.ld (some 4) (.t 2))⟩, ⟨some 24, none, .q (.mv (.t 1))⟩, ⟨some 25, none, .call (.f 19) [(.t 23), (.t 24)]⟩, ⟨some 22, none, .q (.mv (.t 25))⟩, ⟨some 26, none, .q (.ext 0 (.t 22))⟩, ⟨some 27, none, .q (.ext 1 (.t 22))⟩, ⟨some 7, none, .q (.mv (.t 26))⟩, ⟨some 8, none, .q (.mv (.t 27))⟩])
  (.keep [1, 2, 5, 6, 7, 8]
  (.seq (.reg none [⟨some 29, none, .q (.ld (some 4) (.t 2))⟩, ⟨some 30, none, .call (.f 20) [(.t 29)]⟩, ⟨some 28, none, .q (.mv (.t 30))⟩, ⟨some 31, none, .q (.ext 0 (.t 28))⟩, ⟨some 32, none, .q (.ext 1 (.t 28))⟩, ⟨some 9, none, .q (.mv (.t 31))⟩, ⟨some 10, none, .q (.mv (.t 32))⟩])
  (.keep [1, 2, 5, 6, 7, 8, 9, 10]
  (.seq (.reg none [⟨some 34, none, .q (.ld (some 4) (.t 2))⟩, ⟨some 35, none, .call (.f 21) [(.t 34)]⟩, ⟨some 33, none, .q (.mv (.t 35))⟩, ⟨some 36, none, .q (.ext 0 (.t 33))⟩, ⟨some 37, none, .q (.ext 1 (.t 33))⟩, ⟨some 11, none, .q (.mv (.t 36))⟩, ⟨some 12, none, .q (.mv (.t 37))⟩])
  (.keep [1, 2, 5, 6, 7, 8, 9, 10, 11, 12]
  (.seq (.reg none [⟨some 38, none, .q (.ld (some 4) (.t 2))⟩, ⟨some 39, none, .q (.mv (.t 1))⟩, ⟨some 40, none, .call (.f 11) [(.t 38), (.t 39), (.c (.i .i64 0))]⟩, ⟨some 13, none, .q (.mv (.t 40))⟩])
  (.keep [1, 2, 5, 6, 7, 8, 9, 10, 11, 12, 13]
  (.seq (.seq (.reg none [⟨some 41, none, .q (.mv (.t 6))⟩, ⟨some 42, none, .q (.mv (.t 13))⟩, ⟨some 43, none, .q (.bin .neq (.t 41) (.t 42))⟩, ⟨some 44, none, .q (.mv (.t 43))⟩, ⟨some 45, some (44, false), .q (.mv (.t 8))⟩, ⟨some 46, some (44, false), .q (.mv (.t 13))⟩, ⟨some 47, some (44, false), .q (.bin .neq (.t 45) (.t 46))⟩, ⟨some 48, none, .pk (.t 44) (.c (.b true)) (.t 47)⟩, ⟨some 49, none, .q (.mv (.t 48))⟩, ⟨some 50, some (49, false), .call (.f 12) []⟩, ⟨some 51, some (49, false), .q (.un .not (.t 50))⟩, ⟨some 52, none, .pk (.t 49) (.c (.b true)) (.t 51)⟩])
    (.keep [1, 2, 5, 7, 9, 10, 11, 12, 13, 52]
    (.cond (.t 52) (.seq (.reg none [⟨some 4, none, .q (.mv (.c (.b false)))⟩])
      .ret)
    .skip)))
  (.seq (.seq (.reg none [⟨some 53, none, .q (.ld (some 4) (.t 2))⟩, ⟨some 54, none, .call (.f 22) [(.t 53)]⟩, ⟨some 55, none, .q (.un .not (.t 54))⟩])
    (.keep [1, 2, 5, 7, 9, 10, 11, 12, 13, 55]
    (.cond (.t 55) (.seq (.reg none [⟨some 56, none, .q (.mv (.t 10))⟩, ⟨some 57, none, .q (.bin .eql (.t 56) (.c (.i .i64 3)))⟩, ⟨some 58, none, .q (.mv (.t 57))⟩, ⟨some 59, some (58, true), .q (.mv (.t 12))⟩, ⟨some 60, some (58, true), .q (.bin .eql (.t 59) (.c (.i .i64 3)))⟩, ⟨some 61, none, .pk (.t 58) (.t 60) (.c (.b false))⟩, ⟨some 62, none, .q (.mv (.t 61))⟩, ⟨some 63, some (62, true), .q (.mv (.t 5))⟩, ⟨some 64, some (62, true), .q (.len false (.t 63))⟩, ⟨some 65, some (62, true), .q (.bin .eql (.t 64) (.c (.i .i64 0)))⟩, ⟨some 66, none, .pk (.t 62) (.t 65) (.c (.b false))⟩, ⟨some 67, none, .q (.mv (.t 66))⟩, ⟨some 68, some (67, true), .q (.mv (.t 7))⟩, ⟨some 69, some (67, true), .q (.len false (.t 68))⟩, ⟨some 70, some (67, true), .q (.bin .eql (.t 69) (.c (.i .i64 0)))⟩, ⟨some 71, none, .pk (.t 67) (.t 70) (.c (.b false))⟩, ⟨some 72, none, .q (.mv (.t 71))⟩, ⟨some 73, some (72, true), .q (.mv (.t 9))⟩, ⟨some 74, some (72, true), .q (.len false (.t 73))⟩, ⟨some 75, some (72, true), .q (.bin .eql (.t 74) (.c (.i .i64 0)))⟩, ⟨some 76, none, .pk (.t 72) (.t 75) (.c (.b false))⟩, ⟨some 77, none, .q (.mv (.t 76))⟩, ⟨some 78, some (77, true), .q (.mv (.t 11))⟩, ⟨some 79, some (77, true), .q (.len false (.t 78))⟩, ⟨some 80, some (77, true), .q (.bin .eql (.t 79) (.c (.i .i64 0)))⟩, ⟨some 81, none, .pk (.t 77) (.t 80) (.c (.b false))⟩, ⟨some 4, none, .q (.mv (.t 81))⟩])
      .ret)
    .skip)))
  (.seq (.reg none [⟨some 82, none, .q (.ld (some 4) (.t 2))⟩, ⟨some 83, none, .call (.f 23) [(.t 82)]⟩, ⟨some 14, none, .q (.mv (.t 83))⟩])
  (.keep [1, 2, 5, 7, 9, 10, 11, 12, 13, 14]
  (.seq (.seq (.reg none [⟨some 84, none, .q (.mv (.t 10))⟩, ⟨some 85, none, .q (.bin .neq (.t 84) (.c (.i .i64 0)))⟩, ⟨some 86, none, .q (.mv (.t 85))⟩, ⟨some 87, some (86, false), .q (.mv (.t 12))⟩, ⟨some 88, some (86, false), .q (.bin .neq (.t 87) (.c (.i .i64 0)))⟩, ⟨some 89, none, .pk (.t 86) (.c (.b true)) (.t 88)⟩, ⟨some 90, none, .q (.mv (.t 89))⟩, ⟨some 91, some (90, false), .q (.mv (.t 9))⟩, ⟨some 92, some (90, false), .q (.ld (some 4) (.t 2))⟩, ⟨some 93, some (90, false), .call (.f 24) [(.t 92)]⟩, ⟨some 94, some (90, false), .call (.f 13) [(.t 91), (.t 93)]⟩, ⟨some 95, some (90, false), .q (.un .not (.t 94))⟩, ⟨some 96, none, .pk (.t 90) (.c (.b true)) (.t 95)⟩, ⟨some 97, none, .q (.mv (.t 96))⟩, ⟨some 98, some (97, false), .q (.mv (.t 11))⟩, ⟨some 99, some (97, false), .q (.len false (.t 98))⟩, ⟨some 100, some (97, false), .q (.mv (.t 14))⟩, ⟨some 101, some (97, false), .q (.len false (.t 100))⟩, ⟨some 102, some (97, false), .q (.bin .neq (.t 99) (.t 101))⟩, ⟨some 103, none, .pk (.t 97) (.c (.b true)) (.t 102)⟩])
    (.keep [1, 2, 5, 7, 11, 13, 14, 103]
    (.cond (.t 103) (.seq (.reg none [⟨some 4, none, .q (.mv (.c (.b false)))⟩])
      .ret)
    .skip)))
  (.seq (.seq (.reg none [⟨some 15, none, .q (.mv (.c (.i .i64 0)))⟩])
    (.keep [1, 2, 5, 7, 11, 13, 14, 15]
    (.blk 0 (.keep [1, 2, 5, 7, 11, 13, 14, 15]
    (.loop (.fin [1, 2, 5, 7, 11, 13, 14, 15]
      (.seq (.seq (.reg none [⟨some 104, none, .q (.mv (.t 15))⟩, ⟨some 105, none, .q (.mv (.t 11))⟩, ⟨some 106, none, .q (.len false (.t 105))⟩, ⟨some 107, none, .q (.bin .lss (.t 104) (.t 106))⟩])
        (.keep [1, 2, 5, 7, 11, 13, 14, 15, 107]
        (.cond (.t 107) .skip
        (.exit 0))))
      (.seq (.blk 1 (.seq (.reg (some (9, [])) [⟨some 110, none, .q (.mv (.t 11))⟩, ⟨some 111, none, .q (.mv (.t 15))⟩, ⟨some 112, none, .q (.ias 2 (.t 110) (.t 111))⟩, ⟨some 113, none, .q (.ld (some 2) (.t 112))⟩, ⟨some 114, none, .q (.mv (.t 14))⟩, ⟨some 115, none, .q (.mv (.t 15))⟩, ⟨some 116, none, .q (.ias 2 (.t 114) (.t 115))⟩, ⟨some 117, none, .q (.ld (some 2) (.t 116))⟩, ⟨some 118, none, .q (.eqg true [.i, .i] (.t 113) (.t 117))⟩])
        (.keep [1, 2, 5, 7, 11, 13, 14, 15, 118]
        (.cond (.t 118) (.seq (.reg none [⟨some 4, none, .q (.mv (.c (.b false)))⟩])
          .ret)
        .skip))))
      (.keep [1, 2, 5, 7, 11, 13, 14, 15]
      (.reg none [⟨some 108, none, .q (.mv (.t 15))⟩, ⟨some 109, none, .q (.bin .add (.t 108) (.c (.i .i64 1)))⟩, ⟨some 15, none, .q (.mv (.t 109))⟩]))))))))))
  (.seq (.seq (.reg none [⟨some 119, none, .q (.mv (.t 13))⟩, ⟨some 120, none, .q (.bin .neq (.t 119) (.c (.i .i64 0)))⟩])
    (.keep [1, 2, 5, 7, 120]
    (.cond (.t 120) (.seq (.reg none [⟨some 121, none, .q (.mv (.t 5))⟩, ⟨some 122, none, .q (.len false (.t 121))⟩, ⟨some 123, none, .q (.bin .eql (.t 122) (.c (.i .i64 0)))⟩, ⟨some 124, none, .q (.mv (.t 123))⟩, ⟨some 125, some (124, true), .q (.mv (.t 7))⟩, ⟨some 126, some (124, true), .q (.len false (.t 125))⟩, ⟨some 127, some (124, true), .q (.bin .eql (.t 126) (.c (.i .i64 0)))⟩, ⟨some 128, none, .pk (.t 124) (.t 127) (.c (.b false))⟩, ⟨some 4, none, .q (.mv (.t 128))⟩])
      .ret)
    .skip)))
  (.seq (.reg none [⟨some 129, none, .q (.mv (.t 5))⟩, ⟨some 130, none, .q (.ld (some 4) (.t 2))⟩, ⟨some 131, none, .q (.mv (.t 1))⟩, ⟨some 132, none, .call (.f 25) [(.t 130), (.t 131)]⟩, ⟨some 133, none, .call (.f 13) [(.t 129), (.t 132)]⟩, ⟨some 134, none, .q (.mv (.t 133))⟩, ⟨some 135, some (134, true), .q (.mv (.t 7))⟩, ⟨some 136, some (134, true), .q (.ld (some 4) (.t 2))⟩, ⟨some 137, some (134, true), .q (.mv (.t 1))⟩, ⟨some 138, some (134, true), .call (.f 26) [(.t 136), (.t 137)]⟩, ⟨some 139, some (134, true), .call (.f 13) [(.t 135), (.t 138)]⟩, ⟨some 140, none, .pk (.t 134) (.t 139) (.c (.b false))⟩, ⟨some 4, none, .q (.mv (.t 140))⟩])
  .ret)))))))))))))))))))))
theorem r5 : (Try.f5.body.bind (resC Try.prog Try.f5.ntmps)) = some (strip c5) := by kernel_rfl
theorem s5 : Try.f5.results.toList.mapM (resRes Try.prog) = some [.t 4] := by kernel_rfl
theorem right_one {p : Prog} (h : (check p).1 = 0) : ∀ F ∈ p.funcs, 1 ≤ F.code.length := fun F hF => ((right_of h).func F hF).code.1
theorem idle_row {p : Prog} {k : Nat} : ∀ r ∈ idleL p k, ∃ a b : Int, r = [.i .i64 a, .i .i64 b] := fun r hr => by
  obtain ⟨f, _, h⟩ := List.mem_flatMap.1 hr
  obtain ⟨pc, _, rfl⟩ := List.mem_map.1 h
  exact ⟨_, _, rfl⟩
theorem flowLooks (p : Prog) (hp : p.Ok) (f : Int) : PureS Try.prog 5 [.g p.row, .i .i64 f] (.b true) := by
  have hF : (check p).1 = 0 → ∀ F ∈ p.funcs, Fine F := fun h => right_fines h
  refine fun_go hmx Try.func5 r5 s5 (by rw [Try.ntmps5]; simp) ?_
  unfold c5
  simp [Prog.row]
  first
    | refine callk rfl Try.call18 (spins_all p hp f hF) rfl ?_
    | refine callks rfl Try.call18 (spins_all p hp f hF) rfl ?_
    | refine callq rfl Try.call18 (spins_all p hp f hF) rfl ?_
    | refine callqe rfl Try.call18 (spins_all p hp f hF) rfl ?_
  by_cases hc : (check p).1 = 0
  rotate_left
  · have h3 := askN hc f 0
    simp [h3]
    first
      | refine callk rfl Try.call19 (heads_all p hp f hF) rfl ?_
      | refine callks rfl Try.call19 (heads_all p hp f hF) rfl ?_
      | refine callq rfl Try.call19 (heads_all p hp f hF) rfl ?_
      | refine callqe rfl Try.call19 (heads_all p hp f hF) rfl ?_
    simp [h3]
    first
      | refine callk rfl Try.call20 (goes_p p hp hF) rfl ?_
      | refine callks rfl Try.call20 (goes_p p hp hF) rfl ?_
      | refine callq rfl Try.call20 (goes_p p hp hF) rfl ?_
      | refine callqe rfl Try.call20 (goes_p p hp hF) rfl ?_
    simp [hc]
    first
      | refine callk rfl Try.call21 (idle_p p hp hF) rfl ?_
      | refine callks rfl Try.call21 (idle_p p hp hF) rfl ?_
      | refine callq rfl Try.call21 (idle_p p hp hF) rfl ?_
      | refine callqe rfl Try.call21 (idle_p p hp hF) rfl ?_
    simp [hc]
    first
      | refine callk rfl Try.call11 (fit_p p hp f 0) rfl ?_
      | refine callks rfl Try.call11 (fit_p p hp f 0) rfl ?_
      | refine callq rfl Try.call11 (fit_p p hp f 0) rfl ?_
      | refine callqe rfl Try.call11 (fit_p p hp f 0) rfl ?_
    simp [h3]
    first
      | refine callkg rfl Try.call12 rfl (fun _ => speaks_p) (fun hG => by first | (simp; done) | (simp at hG; done) | simpa using hG) rfl ?_
      | refine callksg rfl Try.call12 rfl (fun _ => speaks_p) (fun hG => by first | (simp; done) | (simp at hG; done) | simpa using hG) rfl ?_
      | refine callqg rfl Try.call12 rfl (fun _ => speaks_p) (fun hG => by first | (simp; done) | (simp at hG; done) | simpa using hG) rfl ?_
    simp
    first
      | refine callk rfl Try.call22 (right22 p hp) rfl ?_
      | refine callks rfl Try.call22 (right22 p hp) rfl ?_
      | refine callq rfl Try.call22 (right22 p hp) rfl ?_
      | refine callqe rfl Try.call22 (right22 p hp) rfl ?_
    simp [hc]
  have hw := right_whole hc
  have h8 := hw.few
  have h1c := right_one hc
  have h4 : ∀ F ∈ p.funcs, ∀ s ∈ F.selects, s.cases.length ≤ 64 := fun F h => right_cases hc h
  have hil := idleL_len (p := p) (fun F h => (hF hc F h).len) p.funcs.length (Nat.le_refl _)
  have fg : Few 8 (goesL p) := few_ints (n := 8) (by simp only [goesL, ints, List.length_map]; exact ones_len _ _) (by omega)
  by_cases h0 : askE p f 0 = 0
  rotate_left
  · simp [h0]
    first
      | refine callk rfl Try.call19 (heads_all p hp f hF) rfl ?_
      | refine callks rfl Try.call19 (heads_all p hp f hF) rfl ?_
      | refine callq rfl Try.call19 (heads_all p hp f hF) rfl ?_
      | refine callqe rfl Try.call19 (heads_all p hp f hF) rfl ?_
    simp [h0]
    first
      | refine callk rfl Try.call20 (goes_p p hp hF) rfl ?_
      | refine callks rfl Try.call20 (goes_p p hp hF) rfl ?_
      | refine callq rfl Try.call20 (goes_p p hp hF) rfl ?_
      | refine callqe rfl Try.call20 (goes_p p hp hF) rfl ?_
    simp [hc]
    first
      | refine callk rfl Try.call21 (idle_p p hp hF) rfl ?_
      | refine callks rfl Try.call21 (idle_p p hp hF) rfl ?_
      | refine callq rfl Try.call21 (idle_p p hp hF) rfl ?_
      | refine callqe rfl Try.call21 (idle_p p hp hF) rfl ?_
    simp [hc]
    first
      | refine callk rfl Try.call11 (fit_p p hp f 0) rfl ?_
      | refine callks rfl Try.call11 (fit_p p hp f 0) rfl ?_
      | refine callq rfl Try.call11 (fit_p p hp f 0) rfl ?_
      | refine callqe rfl Try.call11 (fit_p p hp f 0) rfl ?_
    simp [h0]
    first
      | refine callkg rfl Try.call12 rfl (fun _ => speaks_p) (fun hG => by first | (simp; done) | (simp at hG; done) | simpa using hG) rfl ?_
      | refine callksg rfl Try.call12 rfl (fun _ => speaks_p) (fun hG => by first | (simp; done) | (simp at hG; done) | simpa using hG) rfl ?_
      | refine callqg rfl Try.call12 rfl (fun _ => speaks_p) (fun hG => by first | (simp; done) | (simp at hG; done) | simpa using hG) rfl ?_
    simp
    first
      | refine callk rfl Try.call22 (right22 p hp) rfl ?_
      | refine callks rfl Try.call22 (right22 p hp) rfl ?_
      | refine callq rfl Try.call22 (right22 p hp) rfl ?_
      | refine callqe rfl Try.call22 (right22 p hp) rfl ?_
    simp [hc]
    first
      | refine callk rfl Try.call23 (idleR_p p hp hw (hF hc) h1c h4) rfl ?_
      | refine callks rfl Try.call23 (idleR_p p hp hw (hF hc) h1c h4) rfl ?_
      | refine callq rfl Try.call23 (idleR_p p hp hw (hF hc) h1c h4) rfl ?_
      | refine callqe rfl Try.call23 (idleR_p p hp hw (hF hc) h1c h4) rfl ?_
    simp
    first
      | refine callkg rfl Try.call24 rfl (fun _ => (funcsR_p p hp hw (hF hc) h1c h4)) (fun hG => by first | (simp; done) | (simp at hG; done) | simpa using hG) rfl ?_
      | refine callksg rfl Try.call24 rfl (fun _ => (funcsR_p p hp hw (hF hc) h1c h4)) (fun hG => by first | (simp; done) | (simp at hG; done) | simpa using hG) rfl ?_
      | refine callqg rfl Try.call24 rfl (fun _ => (funcsR_p p hp hw (hF hc) h1c h4)) (fun hG => by first | (simp; done) | (simp at hG; done) | simpa using hG) rfl ?_
    simp
    first
      | refine callkg rfl Try.call13 rfl (fun _ => (sameInts_l (goesL p) (goesL p) fg fg)) (fun hG => by first | (simp; done) | (simp at hG; done) | simpa using hG) rfl ?_
      | refine callksg rfl Try.call13 rfl (fun _ => (sameInts_l (goesL p) (goesL p) fg fg)) (fun hG => by first | (simp; done) | (simp at hG; done) | simpa using hG) rfl ?_
      | refine callqg rfl Try.call13 rfl (fun _ => (sameInts_l (goesL p) (goesL p) fg fg)) (fun hG => by first | (simp; done) | (simp at hG; done) | simpa using hG) rfl ?_
    simp
    refine go_count hmx 15 0 (idleL p p.funcs.length).length (fun i h => h = [.none]) (Nat.zero_le _) (by omega) rfl rfl ?_ ?_
    · rintro k h - hlk ⟨rfl⟩ hw2
      have hK : (k : Int) < ((idleL p p.funcs.length).length : Int) := by omega
      obtain ⟨a, b, hab⟩ := idle_row _ (List.getElem_mem hlk)
      simp [hK, hlk, hab, hw2]
    · rintro h ⟨rfl⟩
      simp [h0]
  have P := ask_zero h0
  obtain ⟨f, rfl⟩ : ∃ n : Nat, f = (n : Int) := ⟨f.toNat, by have := P.f0; omega⟩
  have hlt := P.f1
  simp only [Int.toNat_natCast] at hlt
  have hFm := List.getElem_mem hlt
  have hFf := hF hc _ hFm
  have h1F := h1c _ hFm
  have h4F := h4 _ hFm
  have hq : p.funcs[f]? = some p.funcs[f] := List.getElem?_eq_getElem hlt
  have hgd' : p.funcs[f]?.getD default = p.funcs[f] := by rw [hq]; rfl
  have hln := hFf.len
  simp [h0, hgd']
  generalize p.funcs[f] = F at *
  have fsn : Few 8 (spinL F) := few_ints (by simp only [spinL, ints, List.length_map]; exact ones_len _ _) hln
  have fhd : Few 8 (headsL F) := few_ints (by simp only [headsL, ints, List.length_map]; exact ones_len _ _) hln
  first
    | refine callk rfl Try.call19 (heads_all p hp f hF) rfl ?_
    | refine callks rfl Try.call19 (heads_all p hp f hF) rfl ?_
    | refine callq rfl Try.call19 (heads_all p hp f hF) rfl ?_
    | refine callqe rfl Try.call19 (heads_all p hp f hF) rfl ?_
  simp [h0]
  first
    | refine callk rfl Try.call20 (goes_p p hp hF) rfl ?_
    | refine callks rfl Try.call20 (goes_p p hp hF) rfl ?_
    | refine callq rfl Try.call20 (goes_p p hp hF) rfl ?_
    | refine callqe rfl Try.call20 (goes_p p hp hF) rfl ?_
  simp [hc]
  first
    | refine callk rfl Try.call21 (idle_p p hp hF) rfl ?_
    | refine callks rfl Try.call21 (idle_p p hp hF) rfl ?_
    | refine callq rfl Try.call21 (idle_p p hp hF) rfl ?_
    | refine callqe rfl Try.call21 (idle_p p hp hF) rfl ?_
  simp [hc]
  first
    | refine callk rfl Try.call11 (fit_p p hp f 0) rfl ?_
    | refine callks rfl Try.call11 (fit_p p hp f 0) rfl ?_
    | refine callq rfl Try.call11 (fit_p p hp f 0) rfl ?_
    | refine callqe rfl Try.call11 (fit_p p hp f 0) rfl ?_
  simp [h0]
  first
    | refine callkg rfl Try.call12 rfl (fun _ => speaks_p) (fun hG => by first | (simp; done) | (simp at hG; done) | simpa using hG) rfl ?_
    | refine callksg rfl Try.call12 rfl (fun _ => speaks_p) (fun hG => by first | (simp; done) | (simp at hG; done) | simpa using hG) rfl ?_
    | refine callqg rfl Try.call12 rfl (fun _ => speaks_p) (fun hG => by first | (simp; done) | (simp at hG; done) | simpa using hG) rfl ?_
  simp
  first
    | refine callk rfl Try.call22 (right22 p hp) rfl ?_
    | refine callks rfl Try.call22 (right22 p hp) rfl ?_
    | refine callq rfl Try.call22 (right22 p hp) rfl ?_
    | refine callqe rfl Try.call22 (right22 p hp) rfl ?_
  simp [hc]
  first
    | refine callk rfl Try.call23 (idleR_p p hp hw (hF hc) h1c h4) rfl ?_
    | refine callks rfl Try.call23 (idleR_p p hp hw (hF hc) h1c h4) rfl ?_
    | refine callq rfl Try.call23 (idleR_p p hp hw (hF hc) h1c h4) rfl ?_
    | refine callqe rfl Try.call23 (idleR_p p hp hw (hF hc) h1c h4) rfl ?_
  simp
  first
    | refine callkg rfl Try.call24 rfl (fun _ => (funcsR_p p hp hw (hF hc) h1c h4)) (fun hG => by first | (simp; done) | (simp at hG; done) | simpa using hG) rfl ?_
    | refine callksg rfl Try.call24 rfl (fun _ => (funcsR_p p hp hw (hF hc) h1c h4)) (fun hG => by first | (simp; done) | (simp at hG; done) | simpa using hG) rfl ?_
    | refine callqg rfl Try.call24 rfl (fun _ => (funcsR_p p hp hw (hF hc) h1c h4)) (fun hG => by first | (simp; done) | (simp at hG; done) | simpa using hG) rfl ?_
  simp
  first
    | refine callkg rfl Try.call13 rfl (fun _ => (sameInts_l (goesL p) (goesL p) fg fg)) (fun hG => by first | (simp; done) | (simp at hG; done) | simpa using hG) rfl ?_
    | refine callksg rfl Try.call13 rfl (fun _ => (sameInts_l (goesL p) (goesL p) fg fg)) (fun hG => by first | (simp; done) | (simp at hG; done) | simpa using hG) rfl ?_
    | refine callqg rfl Try.call13 rfl (fun _ => (sameInts_l (goesL p) (goesL p) fg fg)) (fun hG => by first | (simp; done) | (simp at hG; done) | simpa using hG) rfl ?_
  simp
  refine go_count hmx 15 0 (idleL p p.funcs.length).length (fun i h => h = [.none]) (Nat.zero_le _) (by omega) rfl rfl ?_ ?_
  · rintro k h - hlk ⟨rfl⟩ hw2
    have hK : (k : Int) < ((idleL p p.funcs.length).length : Int) := by omega
    obtain ⟨a, b, hab⟩ := idle_row _ (List.getElem_mem hlk)
    simp [hK, hlk, hab, hw2]
  · rintro h ⟨rfl⟩
    simp [hgd']
    first
      | refine callk rfl Try.call25 (spinsR_all p hp f F hq hFf h4F) rfl ?_
      | refine callks rfl Try.call25 (spinsR_all p hp f F hq hFf h4F) rfl ?_
      | refine callq rfl Try.call25 (spinsR_all p hp f F hq hFf h4F) rfl ?_
      | refine callqe rfl Try.call25 (spinsR_all p hp f F hq hFf h4F) rfl ?_
    simp
    first
      | refine callk rfl Try.call13 (sameInts_l (spinL F) (spinL F) fsn fsn) rfl ?_
      | refine callks rfl Try.call13 (sameInts_l (spinL F) (spinL F) fsn fsn) rfl ?_
      | refine callq rfl Try.call13 (sameInts_l (spinL F) (spinL F) fsn fsn) rfl ?_
      | refine callqe rfl Try.call13 (sameInts_l (spinL F) (spinL F) fsn fsn) rfl ?_
    simp
    first
      | refine callkg rfl Try.call26 rfl (fun _ => (headsR_p p hp f F hq hFf h1F h4F)) (fun hG => by first | (simp; done) | (simp at hG; done) | simpa using hG) rfl ?_
      | refine callksg rfl Try.call26 rfl (fun _ => (headsR_p p hp f F hq hFf h1F h4F)) (fun hG => by first | (simp; done) | (simp at hG; done) | simpa using hG) rfl ?_
      | refine callqg rfl Try.call26 rfl (fun _ => (headsR_p p hp f F hq hFf h1F h4F)) (fun hG => by first | (simp; done) | (simp at hG; done) | simpa using hG) rfl ?_
    simp
    first
      | refine callkg rfl Try.call13 rfl (fun _ => (sameInts_l (headsL F) (headsL F) fhd fhd)) (fun hG => by first | (simp; done) | (simp at hG; done) | simpa using hG) rfl ?_
      | refine callksg rfl Try.call13 rfl (fun _ => (sameInts_l (headsL F) (headsL F) fhd fhd)) (fun hG => by first | (simp; done) | (simp at hG; done) | simpa using hG) rfl ?_
      | refine callqg rfl Try.call13 rfl (fun _ => (sameInts_l (headsL F) (headsL F) fhd fhd)) (fun hG => by first | (simp; done) | (simp at hG; done) | simpa using hG) rfl ?_
    simp
end Go.Sc.Fl
