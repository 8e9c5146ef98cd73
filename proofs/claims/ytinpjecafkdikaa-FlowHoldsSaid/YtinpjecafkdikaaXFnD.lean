/- Chapter 06: the law FlowTouches. No condition. -/
import Derived.Test.YtinpjecafkdikaaXFlV
import Derived.Test.YtinpjecafkdikaaXFn
set_option linter.constructorNameAsVariable false
namespace Go.Sc.Fl
open Go Go.RowKit Go.Av Go.Proofs Go.Sc
set_option linter.unusedSimpArgs false
set_option linter.unusedVariables false
/-- scarab/scarabplain.SameAccesses -/
def c29 : ACode :=
  (.seq (.reg none [⟨some 4, none, .q (.mv (.c (.b false)))⟩])
  (.keep [0, 1]
  (.seq (.seq (.reg none [⟨some 6, none, .q (.mv (.t 0))⟩, ⟨some 7, none, .q (.len false (.t 6))⟩, ⟨some 8, none, .q (.mv (.t 1))⟩, ⟨some 9, none, .q (.len false (.t 8))⟩, ⟨some 10, none, .q (.bin .neq (.t 7) (.t 9))⟩])
    (.keep [0, 1, 10]
    (.cond (.t 10) (.seq (.reg none [⟨some 4, none, .q (.mv (.c (.b false)))⟩])
      .ret)
    .skip)))
  (.seq (.seq (.reg none [⟨some 11, none, .q (.mv (.t 0))⟩, ⟨some 12, none, .q (.len false (.t 11))⟩, ⟨some 13, none, .q (.mv (.c (.i .i64 0)))⟩])
    (.keep [0, 1, 12, 13]
    (.blk 0 (.keep [0, 1, 12, 13]
    (.loop (.fin [0, 1, 12, 13]
      (.seq (.reg none [⟨some 14, none, .q (.bin .lss (.t 13) (.t 12))⟩])
      (.keep [0, 1, 12, 13, 14]
      (.seq (.cond (.t 14) .skip
        (.exit 0))
      (.seq (.blk 1 (.seq (.reg none [⟨some 15, none, .q (.mv (.t 13))⟩, ⟨some 5, none, .q (.mv (.t 15))⟩])
        (.keep [0, 1, 5, 12, 13]
        (.seq (.reg (some (9, [])) [⟨some 16, none, .q (.mv (.t 0))⟩, ⟨some 17, none, .q (.mv (.t 5))⟩, ⟨some 18, none, .q (.ias 3 (.t 16) (.t 17))⟩, ⟨some 19, none, .q (.ld (some 3) (.t 18))⟩, ⟨some 20, none, .q (.mv (.t 1))⟩, ⟨some 21, none, .q (.mv (.t 5))⟩, ⟨some 22, none, .q (.ias 3 (.t 20) (.t 21))⟩, ⟨some 23, none, .q (.ld (some 3) (.t 22))⟩, ⟨some 24, none, .q (.eqg true [.i, .i, .b] (.t 19) (.t 23))⟩])
        (.keep [0, 1, 12, 13, 24]
        (.cond (.t 24) (.seq (.reg none [⟨some 4, none, .q (.mv (.c (.b false)))⟩])
          .ret)
        .skip))))))
      (.keep [0, 1, 12, 13]
      (.reg none [⟨some 25, none, .q (.bin .add (.t 13) (.c (.i .i64 1)))⟩, ⟨some 13, none, .q (.mv (.t 25))⟩]))))))))))))
  (.seq (.reg none [⟨some 4, none, .q (.mv (.c (.b true)))⟩])
  .ret)))))
theorem r29 : (Try.f29.body.bind (resC Try.prog Try.f29.ntmps)) = some (strip c29) := by kernel_rfl
theorem s29 : Try.f29.results.toList.mapM (resRes Try.prog) = some [.t 4] := by kernel_rfl
/-- scarab/scarablaw06.FlowTouches -/
def c6 : ACode :=
  (.seq (.reg none [⟨some 3, none, .m (.box (.t 0))⟩, ⟨some 6, none, .q (.mv (.c (.b false)))⟩])
  (.gst (.pimT 3)
  (.keep [1, 2, 3]
  (.seq (.reg none [⟨some 13, none, .q (.ld (some 4) (.t 3))⟩, ⟨some 14, none, .q (.mv (.t 1))⟩, ⟨some 15, none, .q (.mv (.t 2))⟩, ⟨some 16, none, .call (.f 27) [(.t 13), (.t 14), (.t 15)]⟩, ⟨some 12, none, .q (.mv (.t 16))⟩, ⟨some 17, none, .q (.ext 0 (.t 12))⟩, ⟨some 18, none, .q (.ext 1 (.t 12))⟩, ⟨some 7, none, .q (.mv (.t 17))⟩, ⟨some 8, none, .q (.mv (.t 18))⟩])
  (.keep [1, 2, 3, 7, 8]
  (.seq (.reg none [⟨some 20, none, .q (.ld (some 4) (.t 3))⟩, ⟨some 21, none, .q (.mv (.t 1))⟩, ⟨some 22, none, .q (.mv (.t 2))⟩, ⟨some 23, none, .call (.f 28) [(.t 20), (.t 21), (.t 22)]⟩, ⟨some 19, none, .q (.mv (.t 23))⟩, ⟨some 24, none, .q (.ext 0 (.t 19))⟩, ⟨some 25, none, .q (.ext 1 (.t 19))⟩, ⟨some 9, none, .q (.mv (.t 24))⟩, ⟨some 10, none, .q (.mv (.t 25))⟩])
  (.keep [1, 2, 3, 7, 8, 9, 10]
  (.seq (.reg none [⟨some 26, none, .q (.ld (some 4) (.t 3))⟩, ⟨some 27, none, .q (.mv (.t 1))⟩, ⟨some 28, none, .q (.mv (.t 2))⟩, ⟨some 29, none, .call (.f 11) [(.t 26), (.t 27), (.t 28)]⟩, ⟨some 11, none, .q (.mv (.t 29))⟩])
  (.keep [1, 2, 3, 7, 8, 9, 10, 11]
  (.seq (.seq (.reg none [⟨some 30, none, .q (.mv (.t 8))⟩, ⟨some 31, none, .q (.mv (.t 11))⟩, ⟨some 32, none, .q (.bin .neq (.t 30) (.t 31))⟩, ⟨some 33, none, .q (.mv (.t 32))⟩, ⟨some 34, some (33, false), .q (.mv (.t 10))⟩, ⟨some 35, some (33, false), .q (.mv (.t 11))⟩, ⟨some 36, some (33, false), .q (.bin .neq (.t 34) (.t 35))⟩, ⟨some 37, none, .pk (.t 33) (.c (.b true)) (.t 36)⟩, ⟨some 38, none, .q (.mv (.t 37))⟩, ⟨some 39, some (38, false), .call (.f 12) []⟩, ⟨some 40, some (38, false), .q (.un .not (.t 39))⟩, ⟨some 41, none, .pk (.t 38) (.c (.b true)) (.t 40)⟩])
    (.keep [1, 2, 3, 7, 9, 11, 41]
    (.cond (.t 41) (.seq (.reg none [⟨some 6, none, .q (.mv (.c (.b false)))⟩])
      .ret)
    .skip)))
  (.seq (.seq (.reg none [⟨some 42, none, .q (.mv (.t 11))⟩, ⟨some 43, none, .q (.bin .neq (.t 42) (.c (.i .i64 0)))⟩])
    (.keep [1, 2, 3, 7, 9, 43]
    (.cond (.t 43) (.seq (.reg none [⟨some 44, none, .q (.mv (.t 7))⟩, ⟨some 45, none, .q (.len false (.t 44))⟩, ⟨some 46, none, .q (.bin .eql (.t 45) (.c (.i .i64 0)))⟩, ⟨some 47, none, .q (.mv (.t 46))⟩, ⟨some 48, some (47, true), .q (.mv (.t 9))⟩, ⟨some 49, some (47, true), .q (.len false (.t 48))⟩, ⟨some 50, some (47, true), .q (.bin .eql (.t 49) (.c (.i .i64 0)))⟩, ⟨some 51, none, .pk (.t 47) (.t 50) (.c (.b false))⟩, ⟨some 6, none, .q (.mv (.t 51))⟩])
      .ret)
    .skip)))
  (.seq (.reg none [⟨some 52, none, .q (.mv (.t 7))⟩, ⟨some 53, none, .q (.ld (some 4) (.t 3))⟩, ⟨some 54, none, .q (.mv (.t 1))⟩, ⟨some 55, none, .q (.mv (.t 2))⟩, ⟨some 56, none, .call (.f 30) [(.t 53), (.t 54), (.t 55)]⟩, ⟨some 57, none, .call (.f 29) [(.t 52), (.t 56)]⟩, ⟨some 58, none, .q (.mv (.t 57))⟩, ⟨some 59, some (58, true), .q (.mv (.t 9))⟩, ⟨some 60, some (58, true), .q (.ld (some 4) (.t 3))⟩, ⟨some 61, some (58, true), .q (.mv (.t 1))⟩, ⟨some 62, some (58, true), .q (.mv (.t 2))⟩, ⟨some 63, some (58, true), .call (.f 31) [(.t 60), (.t 61), (.t 62)]⟩, ⟨some 64, some (58, true), .call (.f 29) [(.t 59), (.t 63)]⟩, ⟨some 65, none, .pk (.t 58) (.t 64) (.c (.b false))⟩, ⟨some 6, none, .q (.mv (.t 65))⟩])
  .ret))))))))))))
theorem r6 : (Try.f6.body.bind (resC Try.prog Try.f6.ntmps)) = some (strip c6) := by kernel_rfl
theorem s6 : Try.f6.results.toList.mapM (resRes Try.prog) = some [.t 6] := by kernel_rfl
theorem sameAcc_l (l : List Acc) (hl : l.length < 1000000) : PureS Try.prog 29 [.sl 3 (l.map Acc.row), .sl 3 (l.map Acc.row)] (.b true) := by
  refine fun_go hmx Try.func29 r29 s29 (by rw [Try.ntmps29]; simp) ?_
  unfold c29
  simp
  refine go_count hmx 13 0 l.length (fun i h => h = []) (Nat.zero_le _) (by omega) rfl rfl ?_ ?_
  · rintro i h - hlt rfl hw
    have hI : (i : Int) < (l.length : Int) := by omega
    simp [hI, hlt, hw, Acc.row]
  · rintro h rfl
    simp
theorem flowTouches (p : Prog) (hp : p.Ok) (f pc : Int) : PureS Try.prog 6 [.g p.row, .i .i64 f, .i .i64 pc] (.b true) := by
  refine fun_go hmx Try.func6 r6 s6 (by rw [Try.ntmps6]; simp) ?_
  unfold c6
  simp [Prog.row]
  first
    | refine callk rfl Try.call27 (touches_all p hp f pc) rfl ?_
    | refine callks rfl Try.call27 (touches_all p hp f pc) rfl ?_
    | refine callq rfl Try.call27 (touches_all p hp f pc) rfl ?_
    | refine callqe rfl Try.call27 (touches_all p hp f pc) rfl ?_
  by_cases h0 : askE p f pc = 0
  rotate_left
  · simp [h0]
    first
      | refine callk rfl Try.call28 (may_all p hp f pc) rfl ?_
      | refine callks rfl Try.call28 (may_all p hp f pc) rfl ?_
      | refine callq rfl Try.call28 (may_all p hp f pc) rfl ?_
      | refine callqe rfl Try.call28 (may_all p hp f pc) rfl ?_
    simp [h0]
    first
      | refine callk rfl Try.call11 (fit_p p hp f pc) rfl ?_
      | refine callks rfl Try.call11 (fit_p p hp f pc) rfl ?_
      | refine callq rfl Try.call11 (fit_p p hp f pc) rfl ?_
      | refine callqe rfl Try.call11 (fit_p p hp f pc) rfl ?_
    simp [h0]
    first
      | refine callkg rfl Try.call12 rfl (fun _ => speaks_p) (fun hG => by first | (simp; done) | (simp at hG; done) | simpa using hG) rfl ?_
      | refine callksg rfl Try.call12 rfl (fun _ => speaks_p) (fun hG => by first | (simp; done) | (simp at hG; done) | simpa using hG) rfl ?_
      | refine callqg rfl Try.call12 rfl (fun _ => speaks_p) (fun hG => by first | (simp; done) | (simp at hG; done) | simpa using hG) rfl ?_
    simp [h0]
  have P := ask_zero h0
  obtain ⟨f, rfl⟩ : ∃ n : Nat, f = (n : Int) := ⟨f.toNat, by have := P.f0; omega⟩
  obtain ⟨pc, rfl⟩ : ∃ n : Nat, pc = (n : Int) := ⟨pc.toNat, by have := P.pc0; omega⟩
  have hlt := P.f1
  have hpc := P.pc1
  simp only [Int.toNat_natCast] at hlt hpc
  have hq : p.funcs[f]? = some (p.funcs.getD f default) := by rw [List.getD_eq_getElem?_getD, List.getElem?_eq_getElem hlt]; rfl
  have hFm : p.funcs.getD f default ∈ p.funcs := List.mem_of_getElem? hq
  have hFf := right_fines P.right _ hFm
  have h4 := right_cases P.right hFm
  have hne := right_neat P.right _ hFm pc hpc
  have hsel := hFf.sel pc hpc
  have htr := touchesR_p p hp f pc _ hq hpc h4 hsel hne
  have hmr := mayR_p p hp P.right f pc hlt hpc
  have hl1 := accs_len (putsB bag0 (tcAt (p.funcs.getD f default) pc))
  have hl2 := accs_len (putsB bag0 (mayT p f pc))
  rw [if_pos h0]
  simp only [Int.toNat_natCast]
  generalize putsB bag0 (tcAt (p.funcs.getD f default) pc) = B1 at *
  simp
  first
    | refine callk rfl Try.call28 (may_all p hp f pc) rfl ?_
    | refine callks rfl Try.call28 (may_all p hp f pc) rfl ?_
    | refine callq rfl Try.call28 (may_all p hp f pc) rfl ?_
    | refine callqe rfl Try.call28 (may_all p hp f pc) rfl ?_
  rw [if_pos h0]
  simp only [Int.toNat_natCast]
  generalize putsB bag0 (mayT p f pc) = B2 at *
  simp
  first
    | refine callk rfl Try.call11 (fit_p p hp f pc) rfl ?_
    | refine callks rfl Try.call11 (fit_p p hp f pc) rfl ?_
    | refine callq rfl Try.call11 (fit_p p hp f pc) rfl ?_
    | refine callqe rfl Try.call11 (fit_p p hp f pc) rfl ?_
  simp [h0]
  first
    | refine callkg rfl Try.call12 rfl (fun _ => speaks_p) (fun hG => by first | (simp; done) | (simp at hG; done) | simpa using hG) rfl ?_
    | refine callksg rfl Try.call12 rfl (fun _ => speaks_p) (fun hG => by first | (simp; done) | (simp at hG; done) | simpa using hG) rfl ?_
    | refine callqg rfl Try.call12 rfl (fun _ => speaks_p) (fun hG => by first | (simp; done) | (simp at hG; done) | simpa using hG) rfl ?_
  simp
  first
    | refine callk rfl Try.call30 htr rfl ?_
    | refine callks rfl Try.call30 htr rfl ?_
    | refine callq rfl Try.call30 htr rfl ?_
    | refine callqe rfl Try.call30 htr rfl ?_
  simp
  first
    | refine callk rfl Try.call29 (sameAcc_l (accs B1) (by omega)) rfl ?_
    | refine callks rfl Try.call29 (sameAcc_l (accs B1) (by omega)) rfl ?_
    | refine callq rfl Try.call29 (sameAcc_l (accs B1) (by omega)) rfl ?_
    | refine callqe rfl Try.call29 (sameAcc_l (accs B1) (by omega)) rfl ?_
  simp
  first
    | refine callkg rfl Try.call31 rfl (fun _ => hmr) (fun hG => by first | (simp; done) | (simp at hG; done) | simpa using hG) rfl ?_
    | refine callksg rfl Try.call31 rfl (fun _ => hmr) (fun hG => by first | (simp; done) | (simp at hG; done) | simpa using hG) rfl ?_
    | refine callqg rfl Try.call31 rfl (fun _ => hmr) (fun hG => by first | (simp; done) | (simp at hG; done) | simpa using hG) rfl ?_
  simp
  first
    | refine callkg rfl Try.call29 rfl (fun _ => (sameAcc_l (accs B2) (by omega))) (fun hG => by first | (simp; done) | (simp at hG; done) | simpa using hG) rfl ?_
    | refine callksg rfl Try.call29 rfl (fun _ => (sameAcc_l (accs B2) (by omega))) (fun hG => by first | (simp; done) | (simp at hG; done) | simpa using hG) rfl ?_
    | refine callqg rfl Try.call29 rfl (fun _ => (sameAcc_l (accs B2) (by omega))) (fun hG => by first | (simp; done) | (simp at hG; done) | simpa using hG) rfl ?_
  simp
end Go.Sc.Fl
