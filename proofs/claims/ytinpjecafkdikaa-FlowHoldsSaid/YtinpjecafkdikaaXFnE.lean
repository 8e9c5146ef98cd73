/- Chapter 06: the law FlowHolds. No condition. -/
import Derived.Test.YtinpjecafkdikaaXFnD
import Derived.Test.YtinpjecafkdikaaXFlo9
set_option linter.constructorNameAsVariable false
namespace Go.Sc.Fl
open Go Go.RowKit Go.Av Go.Proofs Go.Sc
set_option linter.unusedSimpArgs false
set_option linter.unusedVariables false
/-- scarab/scarablaw06.holds -/
def c32 : ACode :=
  (.seq (.reg none [⟨some 3, none, .m (.box (.t 1))⟩, ⟨some 4, none, .q (.mv (.c (.b false)))⟩])
  (.gst (.pimT 3)
  (.keep [0, 3]
  (.seq (.seq (.reg none [⟨some 5, none, .q (.mv (.c (.i .i64 0)))⟩])
    (.keep [0, 3, 5]
    (.blk 0 (.keep [0, 3, 5]
    (.loop (.fin [0, 3, 5]
      (.seq (.seq (.reg none [⟨some 6, none, .q (.mv (.t 5))⟩, ⟨some 7, none, .q (.mv (.t 0))⟩, ⟨some 8, none, .q (.len false (.t 7))⟩, ⟨some 9, none, .q (.bin .lss (.t 6) (.t 8))⟩])
        (.keep [0, 3, 5, 9]
        (.cond (.t 9) .skip
        (.exit 0))))
      (.seq (.blk 1 (.seq (.reg (some (30, [])) [⟨some 12, none, .q (.mv (.t 0))⟩, ⟨some 13, none, .q (.mv (.t 5))⟩, ⟨some 14, none, .q (.ias 3 (.t 12) (.t 13))⟩, ⟨some 15, none, .q (.fa 0 (.t 14))⟩, ⟨some 16, none, .q (.ld none (.t 15))⟩, ⟨some 17, none, .q (.fa 0 (.t 3))⟩, ⟨some 18, none, .q (.ld none (.t 17))⟩, ⟨some 19, none, .q (.bin .eql (.t 16) (.t 18))⟩, ⟨some 20, none, .q (.mv (.t 19))⟩, ⟨some 21, some (20, true), .q (.mv (.t 0))⟩, ⟨some 22, some (20, true), .q (.mv (.t 5))⟩, ⟨some 23, some (20, true), .q (.ias 3 (.t 21) (.t 22))⟩, ⟨some 24, some (20, true), .q (.fa 1 (.t 23))⟩, ⟨some 25, some (20, true), .q (.ld none (.t 24))⟩, ⟨some 26, some (20, true), .q (.fa 1 (.t 3))⟩, ⟨some 27, some (20, true), .q (.ld none (.t 26))⟩, ⟨some 28, some (20, true), .q (.bin .eql (.t 25) (.t 27))⟩, ⟨some 29, none, .pk (.t 20) (.t 28) (.c (.b false))⟩, ⟨some 30, none, .q (.mv (.t 29))⟩, ⟨some 31, some (30, true), .q (.mv (.t 0))⟩, ⟨some 32, some (30, true), .q (.mv (.t 5))⟩, ⟨some 33, some (30, true), .q (.ias 3 (.t 31) (.t 32))⟩, ⟨some 34, some (30, true), .q (.fa 2 (.t 33))⟩, ⟨some 35, some (30, true), .q (.ld none (.t 34))⟩, ⟨some 36, some (30, true), .q (.mv (.t 35))⟩, ⟨some 37, some (36, false), .q (.fa 2 (.t 3))⟩, ⟨some 38, some (36, false), .q (.ld none (.t 37))⟩, ⟨some 39, some (36, false), .q (.un .not (.t 38))⟩, ⟨some 40, some (30, true), .pk (.t 36) (.c (.b true)) (.t 39)⟩, ⟨some 41, none, .pk (.t 30) (.t 40) (.c (.b false))⟩])
        (.keep [0, 3, 5, 41]
        (.cond (.t 41) (.seq (.reg none [⟨some 4, none, .q (.mv (.c (.b true)))⟩])
          .ret)
        .skip))))
      (.keep [0, 3, 5]
      (.reg none [⟨some 10, none, .q (.mv (.t 5))⟩, ⟨some 11, none, .q (.bin .add (.t 10) (.c (.i .i64 1)))⟩, ⟨some 5, none, .q (.mv (.t 11))⟩]))))))))))
  (.seq (.reg none [⟨some 4, none, .q (.mv (.c (.b false)))⟩])
  .ret)))))
theorem r32 : (Try.f32.body.bind (resC Try.prog Try.f32.ntmps)) = some (strip c32) := by kernel_rfl
theorem s32 : Try.f32.results.toList.mapM (resRes Try.prog) = some [.t 4] := by kernel_rfl
/-- scarab/scarablaw06.FlowHolds -/
def c7 : ACode :=
  (.seq (.reg none [⟨some 3, none, .m (.box (.t 0))⟩, ⟨some 6, none, .q (.mv (.c (.b false)))⟩])
  (.gst (.pimT 3)
  (.keep [1, 2, 3]
  (.seq (.reg none [⟨some 18, none, .q (.ld (some 4) (.t 3))⟩, ⟨some 19, none, .q (.mv (.t 1))⟩, ⟨some 20, none, .q (.mv (.t 2))⟩, ⟨some 21, none, .call (.f 28) [(.t 18), (.t 19), (.t 20)]⟩, ⟨some 17, none, .q (.mv (.t 21))⟩, ⟨some 22, none, .q (.ext 0 (.t 17))⟩, ⟨some 23, none, .q (.ext 1 (.t 17))⟩, ⟨some 7, none, .q (.mv (.t 22))⟩, ⟨some 8, none, .q (.mv (.t 23))⟩])
  (.keep [1, 2, 3, 7, 8]
  (.seq (.seq (.reg none [⟨some 24, none, .q (.ld (some 4) (.t 3))⟩, ⟨some 25, none, .q (.mv (.t 1))⟩, ⟨some 26, none, .q (.mv (.t 2))⟩, ⟨some 27, none, .call (.f 11) [(.t 24), (.t 25), (.t 26)]⟩, ⟨some 28, none, .q (.bin .neq (.t 27) (.c (.i .i64 0)))⟩])
    (.keep [1, 2, 3, 7, 8, 28]
    (.cond (.t 28) (.seq (.reg none [⟨some 29, none, .q (.mv (.t 8))⟩, ⟨some 30, none, .q (.bin .neq (.t 29) (.c (.i .i64 0)))⟩, ⟨some 31, none, .q (.mv (.t 30))⟩, ⟨some 32, some (31, true), .q (.mv (.t 7))⟩, ⟨some 33, some (31, true), .q (.len false (.t 32))⟩, ⟨some 34, some (31, true), .q (.bin .eql (.t 33) (.c (.i .i64 0)))⟩, ⟨some 35, none, .pk (.t 31) (.t 34) (.c (.b false))⟩, ⟨some 36, none, .q (.mv (.t 35))⟩, ⟨some 37, some (36, true), .call (.f 12) []⟩, ⟨some 38, none, .pk (.t 36) (.t 37) (.c (.b false))⟩, ⟨some 6, none, .q (.mv (.t 38))⟩])
      .ret)
    .skip)))
  (.seq (.reg none [⟨some 40, none, .q (.ld (some 4) (.t 3))⟩, ⟨some 41, none, .q (.mv (.t 1))⟩, ⟨some 42, none, .q (.mv (.t 2))⟩, ⟨some 43, none, .call (.f 27) [(.t 40), (.t 41), (.t 42)]⟩, ⟨some 39, none, .q (.mv (.t 43))⟩, ⟨some 44, none, .q (.ext 0 (.t 39))⟩, ⟨some 45, none, .q (.ext 1 (.t 39))⟩, ⟨some 9, none, .q (.mv (.t 44))⟩, ⟨some 10, none, .q (.mv (.t 45))⟩])
  (.keep [1, 2, 3, 7, 8, 9, 10]
  (.seq (.reg none [⟨some 47, none, .q (.ld (some 4) (.t 3))⟩, ⟨some 48, none, .q (.mv (.t 1))⟩, ⟨some 49, none, .q (.mv (.t 2))⟩, ⟨some 50, none, .call (.f 8) [(.t 47), (.t 48), (.t 49)]⟩, ⟨some 46, none, .q (.mv (.t 50))⟩, ⟨some 51, none, .q (.ext 0 (.t 46))⟩, ⟨some 52, none, .q (.ext 1 (.t 46))⟩, ⟨some 11, none, .q (.mv (.t 51))⟩, ⟨some 12, none, .q (.mv (.t 52))⟩])
  (.keep [1, 3, 7, 8, 9, 10, 11, 12]
  (.seq (.seq (.reg none [⟨some 53, none, .q (.mv (.t 8))⟩, ⟨some 54, none, .q (.bin .neq (.t 53) (.c (.i .i64 0)))⟩, ⟨some 55, none, .q (.mv (.t 54))⟩, ⟨some 56, some (55, false), .q (.mv (.t 10))⟩, ⟨some 57, some (55, false), .q (.bin .neq (.t 56) (.c (.i .i64 0)))⟩, ⟨some 58, none, .pk (.t 55) (.c (.b true)) (.t 57)⟩, ⟨some 59, none, .q (.mv (.t 58))⟩, ⟨some 60, some (59, false), .q (.mv (.t 12))⟩, ⟨some 61, some (59, false), .q (.bin .neq (.t 60) (.c (.i .i64 0)))⟩, ⟨some 62, none, .pk (.t 59) (.c (.b true)) (.t 61)⟩])
    (.keep [1, 3, 7, 9, 11, 62]
    (.cond (.t 62) (.seq (.reg none [⟨some 6, none, .q (.mv (.c (.b false)))⟩])
      .ret)
    .skip)))
  (.seq (.seq (.reg none [⟨some 13, none, .q (.mv (.c (.i .i64 0)))⟩])
    (.keep [1, 3, 7, 9, 11, 13]
    (.blk 0 (.keep [1, 3, 7, 9, 11, 13]
    (.loop (.fin [1, 3, 7, 9, 11, 13]
      (.seq (.seq (.reg none [⟨some 63, none, .q (.mv (.t 13))⟩, ⟨some 64, none, .q (.mv (.t 11))⟩, ⟨some 65, none, .q (.len false (.t 64))⟩, ⟨some 66, none, .q (.bin .lss (.t 63) (.t 65))⟩])
        (.keep [1, 3, 7, 9, 11, 13, 66]
        (.cond (.t 66) .skip
        (.exit 0))))
      (.seq (.blk 1 (.seq (.reg (some (12, [])) [⟨some 70, none, .q (.ld (some 4) (.t 3))⟩, ⟨some 71, none, .q (.mv (.t 1))⟩, ⟨some 72, none, .q (.mv (.t 11))⟩, ⟨some 73, none, .q (.mv (.t 13))⟩, ⟨some 74, none, .q (.ias 1 (.t 72) (.t 73))⟩, ⟨some 75, none, .q (.ld none (.t 74))⟩, ⟨some 76, none, .call (.f 28) [(.t 70), (.t 71), (.t 75)]⟩, ⟨some 69, none, .q (.mv (.t 76))⟩, ⟨some 77, none, .q (.ext 0 (.t 69))⟩, ⟨some 78, none, .q (.ext 1 (.t 69))⟩, ⟨some 14, none, .q (.mv (.t 77))⟩, ⟨some 15, none, .q (.mv (.t 78))⟩])
        (.keep [1, 3, 7, 9, 11, 13, 14, 15]
        (.seq (.seq (.reg none [⟨some 79, none, .q (.mv (.t 15))⟩, ⟨some 80, none, .q (.bin .neq (.t 79) (.c (.i .i64 0)))⟩])
          (.keep [1, 3, 7, 9, 11, 13, 14, 80]
          (.cond (.t 80) (.seq (.reg none [⟨some 6, none, .q (.mv (.c (.b false)))⟩])
            .ret)
          .skip)))
        (.reg none [⟨some 81, none, .q (.mv (.t 9))⟩, ⟨some 82, none, .q (.mv (.t 14))⟩, ⟨some 83, none, .m (.app 3 24 (.t 81) (.t 82))⟩, ⟨some 9, none, .q (.mv (.t 83))⟩])))))
      (.keep [1, 3, 7, 9, 11, 13]
      (.reg none [⟨some 67, none, .q (.mv (.t 13))⟩, ⟨some 68, none, .q (.bin .add (.t 67) (.c (.i .i64 1)))⟩, ⟨some 13, none, .q (.mv (.t 68))⟩]))))))))))
  (.seq (.seq (.reg none [⟨some 16, none, .q (.mv (.c (.i .i64 0)))⟩])
    (.keep [7, 9, 16]
    (.blk 2 (.keep [7, 9, 16]
    (.loop (.fin [7, 9, 16]
      (.seq (.seq (.reg none [⟨some 84, none, .q (.mv (.t 16))⟩, ⟨some 85, none, .q (.mv (.t 9))⟩, ⟨some 86, none, .q (.len false (.t 85))⟩, ⟨some 87, none, .q (.bin .lss (.t 84) (.t 86))⟩])
        (.keep [7, 9, 16, 87]
        (.cond (.t 87) .skip
        (.exit 2))))
      (.seq (.blk 3 (.seq (.reg none [⟨some 90, none, .q (.mv (.t 7))⟩, ⟨some 91, none, .q (.mv (.t 9))⟩, ⟨some 92, none, .q (.mv (.t 16))⟩, ⟨some 93, none, .q (.ias 3 (.t 91) (.t 92))⟩, ⟨some 94, none, .q (.ld (some 3) (.t 93))⟩, ⟨some 95, none, .call (.f 32) [(.t 90), (.t 94)]⟩, ⟨some 96, none, .q (.un .not (.t 95))⟩])
        (.keep [7, 9, 16, 96]
        (.cond (.t 96) (.seq (.reg none [⟨some 6, none, .q (.mv (.c (.b false)))⟩])
          .ret)
        .skip))))
      (.keep [7, 9, 16]
      (.reg none [⟨some 88, none, .q (.mv (.t 16))⟩, ⟨some 89, none, .q (.bin .add (.t 88) (.c (.i .i64 1)))⟩, ⟨some 16, none, .q (.mv (.t 89))⟩]))))))))))
  (.seq (.reg none [⟨some 97, none, .call (.f 12) []⟩, ⟨some 6, none, .q (.mv (.t 97))⟩])
  .ret))))))))))))))
theorem r7 : (Try.f7.body.bind (resC Try.prog Try.f7.ntmps)) = some (strip c7) := by kernel_rfl
theorem s7 : Try.f7.results.toList.mapM (resRes Try.prog) = some [.t 6] := by kernel_rfl
theorem holds_p (l : List Acc) (a : Acc) (hl : l.length < 1000000) (hh : Holds l a) : PureS Try.prog 32 [.sl 3 (l.map Acc.row), .g a.row] (.b true) := by
  refine fun_go hmx Try.func32 r32 s32 (by rw [Try.ntmps32]; simp) ?_
  unfold c32
  simp [Acc.row]
  refine go_count hmx 5 0 l.length (fun i h => h = [.none] ∧ ∀ (j : Nat) y, j < i → l[j]? = some y → ¬ (y.k = a.k ∧ y.n = a.n ∧ (y.w = true ∨ a.w = false))) (Nat.zero_le _) (by omega) rfl ⟨rfl, fun j y h => by omega⟩ ?_ ?_
  · rintro i h - hlt ⟨rfl, hn⟩ hw
    have hI : (i : Int) < (l.length : Int) := by omega
    generalize hx : l[i] = x
    have hq : l[i]? = some x := by rw [List.getElem?_eq_getElem hlt, hx]
    have hstep : ¬ (x.k = a.k ∧ x.n = a.n ∧ (x.w = true ∨ a.w = false)) → ∀ (j : Nat) y, j < i + 1 → l[j]? = some y → ¬ (y.k = a.k ∧ y.n = a.n ∧ (y.w = true ∨ a.w = false)) := fun h j y hj hy => by
      by_cases e : j = i
      · subst e; rw [hq] at hy; cases hy; exact h
      · exact hn j y (by omega) hy
    simp [hI, hlt, hx, Acc.row, hw]
    refine ⟨fun h1 h2 => ⟨⟨h1, h2⟩, fun h3 => ⟨⟨h1, h2⟩, h3⟩⟩, fun h => ?_⟩
    have := hstep (fun ⟨h1, h2, h3⟩ => by have := h h1 h2; rcases h3 with h3 | h3 <;> simp [this.1, this.2] at h3)
    intro j y hj hy h1 h2
    have := this j y hj hy
    cases hyw : y.w <;> cases haw : a.w <;> simp_all
  · rintro h ⟨rfl, hn⟩
    obtain ⟨x, hx, hc⟩ := hh
    obtain ⟨j, hj⟩ := List.getElem?_of_mem hx
    exact absurd hc (hn j x (List.getElem?_eq_some_iff.1 hj).1 hj)
theorem flowHolds (p : Prog) (hp : p.Ok) (f pc : Int) : PureS Try.prog 7 [.g p.row, .i .i64 f, .i .i64 pc] (.b true) := by
  have hF : (check p).1 = 0 → ∀ F ∈ p.funcs, Fine F := fun h => right_fines h
  refine fun_go hmx Try.func7 r7 s7 (by rw [Try.ntmps7]; simp) ?_
  unfold c7
  simp [Prog.row]
  first
    | refine callk rfl Try.call28 (may_all p hp f pc) rfl ?_
    | refine callks rfl Try.call28 (may_all p hp f pc) rfl ?_
    | refine callq rfl Try.call28 (may_all p hp f pc) rfl ?_
    | refine callqe rfl Try.call28 (may_all p hp f pc) rfl ?_
  by_cases h0 : askE p f pc = 0
  rotate_left
  · simp [h0]
    first
      | refine callk rfl Try.call11 (fit_p p hp f pc) rfl ?_
      | refine callks rfl Try.call11 (fit_p p hp f pc) rfl ?_
      | refine callq rfl Try.call11 (fit_p p hp f pc) rfl ?_
      | refine callqe rfl Try.call11 (fit_p p hp f pc) rfl ?_
    simp [h0]
    first
      | refine callkg rfl Try.call12 rfl (fun _ => speaks_p) (fun hG => by first | (simp; done) | (simp at hG; done) | simpa using hG) rfl ?_
      | refine callksg rfl Try.call12 rfl (fun _ => speaks_p) (fun hG => by first | (simp; done) | (simp at hG; done) | simpa using hG) rfl ?_
      | refine callqg rfl Try.call12 rfl (fun _ => speaks_p) (fun hG => by first | (simp; done) | (simp at hG; done) | simpa using hG) rfl ?_
    simp [h0]
  have P := ask_zero h0
  obtain ⟨f, rfl⟩ : ∃ n : Nat, f = (n : Int) := ⟨f.toNat, by have := P.f0; omega⟩
  obtain ⟨pc, rfl⟩ : ∃ n : Nat, pc = (n : Int) := ⟨pc.toNat, by have := P.pc0; omega⟩
  have hlt := P.f1
  have hpc := P.pc1
  simp only [Int.toNat_natCast] at hlt hpc
  have hw := right_whole P.right
  have hq : p.funcs[f]? = some (p.funcs.getD f default) := by rw [List.getD_eq_getElem?_getD, List.getElem?_eq_getElem hlt]; rfl
  have hFm : p.funcs.getD f default ∈ p.funcs := List.mem_of_getElem? hq
  have hFf := right_fines P.right _ hFm
  have hln := hFf.len
  have hnt := right_neat P.right
  have hmin := mayT_in hnt hw hlt pc
  have hB := putsB_ok bag0_ok hmin
  have hl2 := accs_len (putsB bag0 (mayT p f pc))
  have hask : ∀ x : Int, 0 ≤ x → x.toNat < (p.funcs.getD f default).code.length → askE p f x = 0 := fun x h1 h2 => Place.ask ⟨P.right, by omega, by simpa using hlt, h1, by rw [Int.toNat_natCast]; exact h2⟩
  have ht0 : ∀ a ∈ accs (putsB bag0 (tcAt (p.funcs.getD f default) pc)), Holds (accs (putsB bag0 (mayT p f pc))) a := fun a ha => holds_le (puts_le bag0_ok.1 (tc_may hFf hpc) hmin) hB ha
  have hm0 : ∀ x ∈ nextL (p.funcs.getD f default) pc, ∀ a ∈ accs (putsB bag0 (mayT p f x.toNat)), Holds (accs (putsB bag0 (mayT p f pc))) a := fun x hx a ha => holds_le (puts_le bag0_ok.1 (may_next hw hlt hFf hpc hx) hmin) hB ha
  have hnb : ∀ x ∈ nextL (p.funcs.getD f default) pc, 0 ≤ x ∧ x.toNat < (p.funcs.getD f default).code.length := fun x hx => by have := hFf.behind pc hpc x ((next_mem hFf hpc).1 hx); omega
  have hmy : ∀ x : Int, 0 ≤ x → x.toNat < (p.funcs.getD f default).code.length → _ := fun x h1 h2 => by
    have := may_all p hp f x
    rw [if_pos (hask x h1 h2), Int.toNat_natCast] at this
    exact this
  have hnx := next_p p hp f pc hF
  rw [if_pos h0] at hnx ⊢
  simp only [Int.toNat_natCast] at hnx ⊢
  have hNl := nextL_len (p.funcs.getD f default) pc
  generalize putsB bag0 (mayT p f pc) = B at *
  simp
  first
    | refine callk rfl Try.call11 (fit_p p hp f pc) rfl ?_
    | refine callks rfl Try.call11 (fit_p p hp f pc) rfl ?_
    | refine callq rfl Try.call11 (fit_p p hp f pc) rfl ?_
    | refine callqe rfl Try.call11 (fit_p p hp f pc) rfl ?_
  simp [h0]
  refine callf [] rfl Try.call27 (touches_own p hp f pc h0) (by simp) rfl (by simp) (by simp) (by simp [Prog.row]) ?_
  rintro _ _ ⟨v, rfl, rfl⟩
  simp
  first
    | refine callk rfl Try.call8 hnx rfl ?_
    | refine callks rfl Try.call8 hnx rfl ?_
    | refine callq rfl Try.call8 hnx rfl ?_
    | refine callqe rfl Try.call8 hnx rfl ?_
  simp
  have hgd : p.funcs[f]?.getD default = p.funcs.getD f default := (List.getD_eq_getElem?_getD ..).symm
  rw [hgd]
  generalize nextL (p.funcs.getD f default) pc = N at *
  have ht1 := accs_len (putsB bag0 (tcAt (p.funcs.getD f default) pc))
  simp only [accRows] at hmy ⊢
  generalize accs (putsB bag0 (tcAt (p.funcs.getD f default) pc)) = L0 at *
  refine go_while hmx 2 (fun (s : Nat × Nat × List Acc) => [(9, .os 1 s.2.1), (13, .v (.i .i64 (s.1 : Int)))]) (fun s => [.none, .arr s.2.1 3 (vrows (s.2.2.map Acc.row))]) (fun s => s.1 ≤ N.length ∧ s.2.2.length ≤ 56 * (s.1 + 1) ∧ ∀ a ∈ s.2.2, Holds (accs B) a) (fun s => N.length - s.1) (0, v, L0) rfl rfl rfl (by simp) (by simp) (by simp) ⟨Nat.zero_le _, by omega, ht0⟩ ?_
  rintro ⟨i, v, L⟩ ⟨hi, hLl, hLh⟩
  simp only at hi hLl hLh
  by_cases hil : i < N.length
  · have hI : (i : Int) < (N.length : Int) := by omega
    have hw1 : IntKind.i64.wrap ((i : Int) + 1) = (i : Int) + 1 := wrap_in (by omega) (by omega)
    have hxm := List.getElem_mem hil
    generalize hx : N[i] = x at hxm
    obtain ⟨x0, x1⟩ := hnb x hxm
    have hmx' := hmy x x0 x1
    have hm1 := hm0 x hxm
    have hml := accs_len (putsB bag0 (mayT p f x.toNat))
    simp [hI, hil, hx, irow]
    first
      | refine callk rfl Try.call28 hmx' rfl ?_
      | refine callks rfl Try.call28 hmx' rfl ?_
      | refine callq rfl Try.call28 hmx' rfl ?_
      | refine callqe rfl Try.call28 hmx' rfl ?_
    simp
    generalize accs (putsB bag0 (mayT p f x.toNat)) = L1 at *
    refine ⟨⟨by omega, by omega⟩, i + 1, v + 1, ⟨rfl, by omega⟩, L ++ L1, ⟨rfl, by simp⟩, ⟨by omega, by simp; omega, fun a ha => ?_⟩, by omega⟩
    rcases List.mem_append.1 ha with h | h
    · exact hLh a h
    · exact hm1 a h
  · have hI : ¬ (i : Int) < (N.length : Int) := by omega
    obtain rfl : i = N.length := by omega
    simp [hI]
    refine go_count hmx 16 0 L.length (fun i h => h = [.none, .arr v 3 (vrows (L.map Acc.row))]) (Nat.zero_le _) (by omega) rfl rfl ?_ ?_
    · rintro k h - hlk ⟨rfl⟩ hw2
      have hK : (k : Int) < (L.length : Int) := by omega
      have hh := hLh _ (List.getElem_mem hlk)
      have hh' := holds_p (accs B) L[k] (by omega) hh
      generalize hxe : L[k] = x at *
      simp [hK, hlk, hxe, vrows_at, Acc.row]
      simp [Acc.row] at hh'
      first
        | refine callk rfl Try.call32 hh' rfl ?_
        | refine callks rfl Try.call32 hh' rfl ?_
        | refine callq rfl Try.call32 hh' rfl ?_
        | refine callqe rfl Try.call32 hh' rfl ?_
      simp [hw2]
    · rintro h ⟨rfl⟩
      simp
      first
        | refine callk rfl Try.call12 speaks_p rfl ?_
        | refine callks rfl Try.call12 speaks_p rfl ?_
        | refine callq rfl Try.call12 speaks_p rfl ?_
        | refine callqe rfl Try.call12 speaks_p rfl ?_
      simp
end Go.Sc.Fl
