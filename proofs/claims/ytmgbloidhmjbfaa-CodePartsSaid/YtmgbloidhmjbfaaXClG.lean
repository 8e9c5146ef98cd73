/- Chapter 04: the law CodeParts, by the program. No condition. -/
import Derived.Test.YtmgbloidhmjbfaaXClF
import Derived.Test.YtmgbloidhmjbfaaXCl
set_option linter.constructorNameAsVariable false
namespace Go.Sc.Cw
open Go Go.RowKit Go.Av Go.Proofs Go.Sc.Oct
set_option linter.unusedSimpArgs false
set_option linter.unusedVariables false
/-- scarab/scarablaw04.CodeParts -/
def c14 : ACode :=
  (.seq (.reg none [⟨some 3, none, .m (.box (.t 0))⟩, ⟨some 6, none, .q (.mv (.c (.b false)))⟩])
  (.keep [1, 2, 3]
  (.seq (.reg none [⟨some 14, none, .q (.ld (some 4) (.t 3))⟩, ⟨some 15, none, .q (.mv (.t 1))⟩, ⟨some 16, none, .q (.mv (.t 2))⟩, ⟨some 17, none, .call (.f 53) [(.t 14), (.t 15), (.t 16)]⟩, ⟨some 13, none, .q (.mv (.t 17))⟩, ⟨some 18, none, .q (.ext 0 (.t 13))⟩, ⟨some 19, none, .q (.ext 1 (.t 13))⟩, ⟨some 7, none, .q (.mv (.t 18))⟩, ⟨some 8, none, .q (.mv (.t 19))⟩])
  (.keep [1, 2, 3, 7, 8]
  (.seq (.seq (.reg none [⟨some 20, none, .q (.ld (some 4) (.t 3))⟩, ⟨some 21, none, .call (.f 29) [(.t 20)]⟩, ⟨some 22, none, .q (.un .not (.t 21))⟩])
    (.keep [1, 2, 3, 7, 8, 22]
    (.cond (.t 22) (.seq (.reg none [⟨some 23, none, .q (.mv (.t 8))⟩, ⟨some 24, none, .q (.bin .eql (.t 23) (.c (.i .i64 3)))⟩, ⟨some 25, none, .q (.mv (.t 24))⟩, ⟨some 26, some (25, true), .q (.mv (.t 7))⟩, ⟨some 27, some (25, true), .q (.bin .eql (.t 26) (.c (.i .i64 0)))⟩, ⟨some 28, none, .pk (.t 25) (.t 27) (.c (.b false))⟩, ⟨some 29, none, .q (.mv (.t 28))⟩, ⟨some 30, some (29, true), .call (.f 41) []⟩, ⟨some 31, none, .pk (.t 29) (.t 30) (.c (.b false))⟩, ⟨some 6, none, .q (.mv (.t 31))⟩])
      .ret)
    .skip)))
  (.seq (.seq (.reg none [⟨some 32, none, .q (.mv (.t 1))⟩, ⟨some 33, none, .q (.bin .lss (.t 32) (.c (.i .i64 0)))⟩, ⟨some 34, none, .q (.mv (.t 33))⟩, ⟨some 35, some (34, false), .q (.mv (.t 1))⟩, ⟨some 36, some (34, false), .q (.fa 3 (.t 3))⟩, ⟨some 37, some (34, false), .q (.ld none (.t 36))⟩, ⟨some 38, some (34, false), .q (.len false (.t 37))⟩, ⟨some 39, some (34, false), .q (.bin .geq (.t 35) (.t 38))⟩, ⟨some 40, none, .pk (.t 34) (.c (.b true)) (.t 39)⟩, ⟨some 41, none, .q (.mv (.t 40))⟩, ⟨some 42, some (41, false), .q (.mv (.t 2))⟩, ⟨some 43, some (41, false), .q (.bin .lss (.t 42) (.c (.i .i64 0)))⟩, ⟨some 44, none, .pk (.t 41) (.c (.b true)) (.t 43)⟩, ⟨some 45, none, .q (.mv (.t 44))⟩, ⟨some 46, some (45, false), .q (.mv (.t 2))⟩, ⟨some 47, some (45, false), .q (.fa 3 (.t 3))⟩, ⟨some 48, some (45, false), .q (.ld none (.t 47))⟩, ⟨some 49, some (45, false), .q (.mv (.t 1))⟩, ⟨some 50, some (45, false), .q (.ias 4 (.t 48) (.t 49))⟩, ⟨some 51, some (45, false), .q (.fa 2 (.t 50))⟩, ⟨some 52, some (45, false), .q (.ld none (.t 51))⟩, ⟨some 53, some (45, false), .q (.len false (.t 52))⟩, ⟨some 54, some (45, false), .q (.bin .geq (.t 46) (.t 53))⟩, ⟨some 55, none, .pk (.t 45) (.c (.b true)) (.t 54)⟩])
    (.keep [1, 2, 3, 7, 8, 55]
    (.cond (.t 55) (.seq (.reg none [⟨some 56, none, .q (.mv (.t 8))⟩, ⟨some 57, none, .q (.bin .eql (.t 56) (.c (.i .i64 1)))⟩, ⟨some 58, none, .q (.mv (.t 57))⟩, ⟨some 59, some (58, true), .q (.mv (.t 7))⟩, ⟨some 60, some (58, true), .q (.bin .eql (.t 59) (.c (.i .i64 0)))⟩, ⟨some 61, none, .pk (.t 58) (.t 60) (.c (.b false))⟩, ⟨some 62, none, .q (.mv (.t 61))⟩, ⟨some 63, some (62, true), .call (.f 41) []⟩, ⟨some 64, none, .pk (.t 62) (.t 63) (.c (.b false))⟩, ⟨some 6, none, .q (.mv (.t 64))⟩])
      .ret)
    .skip)))
  (.seq (.reg none [⟨some 66, none, .q (.ld (some 4) (.t 3))⟩, ⟨some 67, none, .call (.f 40) [(.t 66)]⟩, ⟨some 65, none, .q (.mv (.t 67))⟩, ⟨some 68, none, .q (.ext 0 (.t 65))⟩, ⟨some 69, none, .q (.ext 1 (.t 65))⟩, ⟨some 9, none, .q (.mv (.t 68))⟩, ⟨some 10, none, .q (.mv (.t 69))⟩])
  (.keep [1, 2, 3, 7, 8, 9, 10]
  (.seq (.seq (.reg (some (34, [])) [⟨some 70, none, .q (.mv (.t 8))⟩, ⟨some 71, none, .q (.bin .neq (.t 70) (.c (.i .i64 0)))⟩, ⟨some 72, none, .q (.mv (.t 71))⟩, ⟨some 73, some (72, false), .q (.mv (.t 10))⟩, ⟨some 74, some (72, false), .q (.bin .neq (.t 73) (.c (.i .i64 0)))⟩, ⟨some 75, none, .pk (.t 72) (.c (.b true)) (.t 74)⟩, ⟨some 76, none, .q (.mv (.t 75))⟩, ⟨some 77, some (76, false), .q (.mv (.t 7))⟩, ⟨some 78, some (76, false), .q (.bin .lss (.t 77) (.c (.i .i64 5)))⟩, ⟨some 79, none, .pk (.t 76) (.c (.b true)) (.t 78)⟩, ⟨some 80, none, .q (.mv (.t 79))⟩, ⟨some 81, some (80, false), .q (.mv (.t 7))⟩, ⟨some 82, some (80, false), .q (.mv (.t 9))⟩, ⟨some 83, some (80, false), .q (.len false (.t 82))⟩, ⟨some 84, some (80, false), .q (.bin .geq (.t 81) (.t 83))⟩, ⟨some 85, none, .pk (.t 80) (.c (.b true)) (.t 84)⟩, ⟨some 86, none, .q (.mv (.t 85))⟩, ⟨some 87, some (86, false), .q (.mv (.t 9))⟩, ⟨some 88, some (86, false), .q (.mv (.t 7))⟩, ⟨some 89, some (86, false), .q (.ias 1 (.t 87) (.t 88))⟩, ⟨some 90, some (86, false), .q (.ld none (.t 89))⟩, ⟨some 91, some (86, false), .q (.fa 3 (.t 3))⟩, ⟨some 92, some (86, false), .q (.ld none (.t 91))⟩, ⟨some 93, some (86, false), .q (.mv (.t 1))⟩, ⟨some 94, some (86, false), .q (.ias 4 (.t 92) (.t 93))⟩, ⟨some 95, some (86, false), .q (.fa 2 (.t 94))⟩, ⟨some 96, some (86, false), .q (.ld none (.t 95))⟩, ⟨some 97, some (86, false), .q (.mv (.t 2))⟩, ⟨some 98, some (86, false), .q (.ias 5 (.t 96) (.t 97))⟩, ⟨some 99, some (86, false), .q (.fa 0 (.t 98))⟩, ⟨some 100, some (86, false), .q (.ld none (.t 99))⟩, ⟨some 101, some (86, false), .q (.cvi .u8 (.t 100))⟩, ⟨some 102, some (86, false), .q (.bin .neq (.t 90) (.t 101))⟩, ⟨some 103, none, .pk (.t 86) (.c (.b true)) (.t 102)⟩])
    (.keep [1, 2, 7, 9, 103]
    (.cond (.t 103) (.seq (.reg none [⟨some 6, none, .q (.mv (.c (.b false)))⟩])
      .ret)
    .skip)))
  (.seq (.reg none [⟨some 105, none, .q (.mv (.t 9))⟩, ⟨some 106, none, .q (.mv (.t 7))⟩, ⟨some 107, none, .call (.f 46) [(.t 105), (.t 106)]⟩, ⟨some 104, none, .q (.mv (.t 107))⟩, ⟨some 108, none, .q (.ext 0 (.t 104))⟩, ⟨some 109, none, .q (.ext 1 (.t 104))⟩, ⟨some 11, none, .m (.alloc (.g [(.i .i64 0), (.i .i64 0)]))⟩, ⟨none, none, .m (.st 2 (.t 11) (.t 108))⟩, ⟨some 12, none, .q (.mv (.t 109))⟩])
  (.keep [1, 2, 11, 12]
  (.seq (.reg none [⟨some 110, none, .q (.mv (.t 12))⟩, ⟨some 111, none, .q (.mv (.t 110))⟩, ⟨some 112, some (111, true), .q (.ld (some 2) (.t 11))⟩, ⟨some 113, some (111, true), .q (.mv (.t 1))⟩, ⟨some 114, some (111, true), .q (.mv (.t 2))⟩, ⟨some 115, some (111, true), .q (.bld [(.i .i64 0), (.i .i64 0)] [(0, 1, .t 113), (1, 1, .t 114)])⟩, ⟨some 116, some (111, true), .q (.eqg false [.i, .i] (.t 112) (.t 115))⟩, ⟨some 117, none, .pk (.t 111) (.t 116) (.c (.b false))⟩, ⟨some 118, none, .q (.mv (.t 117))⟩, ⟨some 119, some (118, true), .call (.f 41) []⟩, ⟨some 120, none, .pk (.t 118) (.t 119) (.c (.b false))⟩, ⟨some 6, none, .q (.mv (.t 120))⟩])
  .ret))))))))))))
theorem r14 : (Try.f14.body.bind (resC Try.prog Try.f14.ntmps)) = some (strip c14) := by kernel_rfl
theorem s14 : Try.f14.results.toList.mapM (resRes Try.prog) = some [.t 6] := by kernel_rfl
theorem whereV_in {p : Prog} {n m : Nat} {fn : Func} (h : (check p).1 = 0) (hg : p.funcs[n]? = some fn) (hn : n < p.funcs.length) (hm : m < fn.code.length) : whereV p n m = .tup [.i .i64 (whereN p n m), .i .i64 0] := by
  unfold whereV
  rw [if_neg (by simp [h]), if_neg]
  · rfl
  · simp only [Int.toNat_natCast, hg, Option.map_some, Option.getD_some]; omega
theorem whereV_out {p : Prog} {n : Nat} {pc : Int} {fn : Func} (h : (check p).1 = 0) (hg : p.funcs[n]? = some fn) (hm : pc < 0 ∨ (fn.code.length : Int) ≤ pc) : whereV p n pc = .tup [.i .i64 0, .i .i64 1] := by
  unfold whereV
  rw [if_neg (by simp [h]), if_pos]
  simp only [Int.toNat_natCast, hg, Option.map_some, Option.getD_some]; omega
theorem codeParts_l (p : Prog) (hp : p.Ok) (f pc : Int) : PureS Try.prog 14 [.g p.row, .i .i64 f, .i .i64 pc] (.b true) := by
  refine fun_go hmx Try.func14 r14 s14 (by rw [Try.ntmps14]; simp) ?_
  unfold c14
  have hs := speaks_l
  have hwh := whereW p hp f pc
  have henc := encode_w p hp
  by_cases h : (check p).1 = 0
  · rw [encV_right h] at henc
    obtain ⟨hfo, h2⟩ := right_forms hp h
    by_cases c1 : f < 0
    · rw [show whereV p f pc = .tup [.i .i64 0, .i .i64 1] by simp [whereV, h, c1]] at hwh
      simp [Prog.row]
      refine callk rfl Try.call53 hwh rfl ?_
      simp
      refine callk rfl Try.call29 (Q03.right22 p hp) rfl ?_
      cases hg : p.funcs[f.toNat]? <;> simp [h, c1, hg, Func.row]
      all_goals
        first
          | refine callkg rfl Try.call41 rfl (fun _ => hs) (fun hG => by first | (simp; done) | (simp at hG; done) | simpa using hG) rfl ?_
          | refine callksg rfl Try.call41 rfl (fun _ => hs) (fun hG => by first | (simp; done) | (simp at hG; done) | simpa using hG) rfl ?_
          | refine callqg rfl Try.call41 rfl (fun _ => hs) (fun hG => by first | (simp; done) | (simp at hG; done) | simpa using hG) rfl ?_
        simp
    obtain ⟨n, rfl⟩ := Int.eq_ofNat_of_zero_le (show 0 ≤ f by omega)
    by_cases c2 : (p.funcs.length : Int) ≤ n
    · rw [show whereV p n pc = .tup [.i .i64 0, .i .i64 1] by simp only [whereV, h]; simp; omega] at hwh
      have c2' : p.funcs.length ≤ n := by omega
      simp [Prog.row]
      refine callk rfl Try.call53 hwh rfl ?_
      simp
      refine callk rfl Try.call29 (Q03.right22 p hp) rfl ?_
      simp [h, c1, c2, c2']
      first
        | refine callkg rfl Try.call41 rfl (fun _ => hs) (fun hG => by first | (simp; done) | (simp at hG; done) | simpa using hG) rfl ?_
        | refine callksg rfl Try.call41 rfl (fun _ => hs) (fun hG => by first | (simp; done) | (simp at hG; done) | simpa using hG) rfl ?_
        | refine callqg rfl Try.call41 rfl (fun _ => hs) (fun hG => by first | (simp; done) | (simp at hG; done) | simpa using hG) rfl ?_
      simp
    have c2' : n < p.funcs.length := by omega
    have c2'' : ¬ p.funcs.length ≤ n := by omega
    have hget : p.funcs[n]? = some p.funcs[n] := List.getElem?_eq_getElem c2'
    generalize hfn : p.funcs[n] = fn at hget
    by_cases c3 : pc < 0
    · rw [whereV_out h hget (.inl c3)] at hwh
      simp [Prog.row]
      refine callk rfl Try.call53 hwh rfl ?_
      simp
      refine callk rfl Try.call29 (Q03.right22 p hp) rfl ?_
      simp [h, c1, c2', c2'', c3, hget, hfn, Func.row]
      first
        | refine callkg rfl Try.call41 rfl (fun _ => hs) (fun hG => by first | (simp; done) | (simp at hG; done) | simpa using hG) rfl ?_
        | refine callksg rfl Try.call41 rfl (fun _ => hs) (fun hG => by first | (simp; done) | (simp at hG; done) | simpa using hG) rfl ?_
        | refine callqg rfl Try.call41 rfl (fun _ => hs) (fun hG => by first | (simp; done) | (simp at hG; done) | simpa using hG) rfl ?_
      simp
    have c3' : 0 ≤ pc := by omega
    by_cases c4 : (fn.code.length : Int) ≤ pc
    · rw [whereV_out h hget (.inr c4)] at hwh
      simp [Prog.row]
      refine callk rfl Try.call53 hwh rfl ?_
      simp
      refine callk rfl Try.call29 (Q03.right22 p hp) rfl ?_
      simp [h, c1, c2', c2'', c3, c3', c4, hget, hfn, Func.row]
      first
        | refine callkg rfl Try.call41 rfl (fun _ => hs) (fun hG => by first | (simp; done) | (simp at hG; done) | simpa using hG) rfl ?_
        | refine callksg rfl Try.call41 rfl (fun _ => hs) (fun hG => by first | (simp; done) | (simp at hG; done) | simpa using hG) rfl ?_
        | refine callqg rfl Try.call41 rfl (fun _ => hs) (fun hG => by first | (simp; done) | (simp at hG; done) | simpa using hG) rfl ?_
      simp
    obtain ⟨m, rfl⟩ := Int.eq_ofNat_of_zero_le c3'
    have c5 : m < fn.code.length := by omega
    have c5' : ¬ fn.code.length ≤ m := by omega
    have hgeti : fn.code[m]? = some fn.code[m] := List.getElem?_eq_getElem c5
    generalize hin : fn.code[m] = i at hgeti
    obtain ⟨pre, suf, e1, e2, e3⟩ := where_at hget hgeti
    have hif : form i.op ≠ [] := hfo fn (List.mem_of_getElem? hget) i (List.mem_of_getElem? hgeti)
    have hir := form_range hif
    rw [whereV_in h hget c2' c5, e1] at hwh
    have hbw : bodyW p = preW p ++ pre ++ (instrW i ++ suf) := by simp [bodyW, preW, e2]
    generalize hA : preW p ++ pre = A at *
    have hpl : 5 ≤ A.length := by rw [← hA]; simp [preW, magicB]
    have hop : instrW i = UInt8.ofNat i.op.toNat :: opsW ((form i.op).zip [i.a, i.b, i.c, i.n]) := by
      rw [instrW, numW, u64N_of (by omega) (by omega), putN, if_pos (by omega)]; rfl
    have hprog : progW p = A ++ UInt8.ofNat i.op.toNat :: (opsW ((form i.op).zip [i.a, i.b, i.c, i.n]) ++ (suf ++ fixN (sumN (bodyW p)))) := by
      rw [progW, hbw, hop]; simp
    have hpb : (progW p)[A.length]? = some (UInt8.ofNat i.op.toNat) := by rw [hprog]; simp
    have hpl2 : A.length < (progW p).length := by rw [hprog]; simp
    have hspot := spot_l (progW p) A.length
    rw [spotV, decode_progW h hp] at hspot
    simp only [e3 A.length (Nat.le_refl _) (by rw [hop]; simp)] at hspot
    simp [Prog.row]
    refine callk rfl Try.call53 hwh rfl ?_
    simp
    refine callk rfl Try.call29 (Q03.right22 p hp) rfl ?_
    simp [h, c1, c2', c2'', c3, c5, c5', hget, hfn, Func.row]
    refine callk rfl Try.call40 henc rfl ?_
    obtain ⟨c, hc, hwo⟩ : ∃ c : UInt8, UInt8.ofNat i.op.toNat = c ∧ IntKind.u8.wrap i.op = (c.toNat : Int) := by
      refine ⟨_, rfl, ?_⟩
      rw [u8_toNat (by omega), show i.op = ((i.op.toNat : Nat) : Int) by omega, wrap_u8_lt (by omega)]; omega
    rw [hc] at hpb
    have hpb2 : (progW p)[A.length] = c := by
      have := List.getElem?_eq_getElem hpl2
      rw [hpb] at this; exact (Option.some.inj this).symm
    have hpl3 : ¬ ((A.length : Int) < 5) := by omega
    have hpl4 : ¬ ((progW p).length ≤ A.length) := by omega
    have hpl5 : (5 : Int) ≤ A.length := by omega
    have hbr : (brow c)[0]?.getD AV.nil = .i .u8 (c.toNat : Int) := rfl
    simp [c2', hget, hfn, Func.row, c5, hin, hgeti, Instr.row, hpb, hpb2, hbr, hwo, hpl2, hpl3, hpl4, hpl5]
    refine callk rfl Try.call46 hspot rfl ?_
    simp
    first
      | refine callkg rfl Try.call41 rfl (fun _ => hs) (fun hG => by first | (simp; done) | (simp at hG; done) | simpa using hG) rfl ?_
      | refine callksg rfl Try.call41 rfl (fun _ => hs) (fun hG => by first | (simp; done) | (simp at hG; done) | simpa using hG) rfl ?_
      | refine callqg rfl Try.call41 rfl (fun _ => hs) (fun hG => by first | (simp; done) | (simp at hG; done) | simpa using hG) rfl ?_
    simp
  · rw [encV_wrong h] at henc
    rw [show whereV p f pc = .tup [.i .i64 0, .i .i64 3] by simp [whereV, h]] at hwh
    simp [Prog.row]
    refine callk rfl Try.call53 hwh rfl ?_
    simp
    refine callk rfl Try.call29 (Q03.right22 p hp) rfl ?_
    simp [h]
    first
      | refine callkg rfl Try.call41 rfl (fun _ => hs) (fun hG => by first | (simp; done) | (simp at hG; done) | simpa using hG) rfl ?_
      | refine callksg rfl Try.call41 rfl (fun _ => hs) (fun hG => by first | (simp; done) | (simp at hG; done) | simpa using hG) rfl ?_
      | refine callqg rfl Try.call41 rfl (fun _ => hs) (fun hG => by first | (simp; done) | (simp at hG; done) | simpa using hG) rfl ?_
    simp
end Go.Sc.Cw
