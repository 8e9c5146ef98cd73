/- Chapter 04: instructions in bytes, by the document's text. No condition. -/
import Derived.Test.YtmgbloidhmjbfaaXOctC
import Derived.Test.YtmgbloidhmjbfaaXT3n
import Derived.Test.YtmgbloidhmjbfaaXCw
import Derived.Test.YtmgbloidhmjbfaaXOctB
set_option linter.constructorNameAsVariable false
namespace Go.Sc.Cw
open Go Go.RowKit Go.Av Go.Proofs Go.Sc.Oct
set_option linter.unusedSimpArgs false
set_option linter.unusedVariables false
/-- scarab/scarabref04.magic -/
def c134 : ACode :=
  (.seq (.reg none [⟨some 0, none, .q (.mv (.c .nil))⟩])
  (.keep []
  (.seq (.reg none [⟨some 1, none, .m (.bsl 5 1 [(.i .u8 0)] [(0, 1, .c (.i .u8 83)), (1, 1, .c (.i .u8 67)), (2, 1, .c (.i .u8 82)), (3, 1, .c (.i .u8 66)), (4, 1, .c (.i .u8 1))])⟩, ⟨some 0, none, .q (.mv (.t 1))⟩])
  .ret)))
theorem r134 : (Try.f134.body.bind (resC Try.prog Try.f134.ntmps)) = some (strip c134) := by kernel_rfl
theorem s134 : Try.f134.results.toList.mapM (resRes Try.prog) = some [.t 0] := by kernel_rfl
/-- scarab/scarabref04.flag -/
def c138 : ACode :=
  (.seq (.reg none [⟨some 4, none, .q (.mv (.c .nil))⟩])
  (.keep [0, 1]
  (.seq (.seq (.reg none [⟨some 5, none, .q (.mv (.t 1))⟩])
    (.keep [0, 5]
    (.cond (.t 5) (.seq (.reg none [⟨some 6, none, .q (.mv (.t 0))⟩, ⟨some 7, none, .call (.f 137) [(.t 6), (.c (.i .u64 1))]⟩, ⟨some 4, none, .q (.mv (.t 7))⟩])
      .ret)
    .skip)))
  (.seq (.reg none [⟨some 8, none, .q (.mv (.t 0))⟩, ⟨some 9, none, .call (.f 137) [(.t 8), (.c (.i .u64 0))]⟩, ⟨some 4, none, .q (.mv (.t 9))⟩])
  .ret))))
theorem r138 : (Try.f138.body.bind (resC Try.prog Try.f138.ntmps)) = some (strip c138) := by kernel_rfl
theorem s138 : Try.f138.results.toList.mapM (resRes Try.prog) = some [.t 4] := by kernel_rfl
/-- scarab/scarabref04.operand -/
def c142 : ACode :=
  (.seq (.reg none [⟨some 2, none, .m (.box (.t 0))⟩, ⟨some 4, none, .q (.mv (.c (.i .i64 0)))⟩])
  (.keep [1, 2]
  (.seq (.seq (.reg none [⟨some 5, none, .q (.mv (.t 1))⟩])
    (.keep [2, 5]
    (.blk 0 (.seq (.reg none [⟨some 7, none, .q (.bin .eql (.t 5) (.c (.i .i64 0)))⟩, ⟨some 6, none, .q (.mv (.t 7))⟩])
    (.keep [2, 5, 6]
    (.cond (.t 6) (.seq (.reg none [⟨some 8, none, .q (.fa 1 (.t 2))⟩, ⟨some 9, none, .q (.ld none (.t 8))⟩, ⟨some 4, none, .q (.mv (.t 9))⟩])
      .ret)
    (.seq (.reg none [⟨some 11, none, .q (.bin .eql (.t 5) (.c (.i .i64 1)))⟩, ⟨some 10, none, .q (.mv (.t 11))⟩])
      (.keep [2, 5, 10]
      (.cond (.t 10) (.seq (.reg none [⟨some 12, none, .q (.fa 2 (.t 2))⟩, ⟨some 13, none, .q (.ld none (.t 12))⟩, ⟨some 4, none, .q (.mv (.t 13))⟩])
        .ret)
      (.seq (.reg none [⟨some 15, none, .q (.bin .eql (.t 5) (.c (.i .i64 2)))⟩, ⟨some 14, none, .q (.mv (.t 15))⟩])
        (.keep [2, 14]
        (.cond (.t 14) (.seq (.reg none [⟨some 16, none, .q (.fa 3 (.t 2))⟩, ⟨some 17, none, .q (.ld none (.t 16))⟩, ⟨some 4, none, .q (.mv (.t 17))⟩])
          .ret)
        .skip))))))))))))
  (.seq (.reg none [⟨some 18, none, .q (.fa 4 (.t 2))⟩, ⟨some 19, none, .q (.ld none (.t 18))⟩, ⟨some 4, none, .q (.mv (.t 19))⟩])
  .ret))))
theorem r142 : (Try.f142.body.bind (resC Try.prog Try.f142.ntmps)) = some (strip c142) := by kernel_rfl
theorem s142 : Try.f142.results.toList.mapM (resRes Try.prog) = some [.t 4] := by kernel_rfl
/-- scarab/scarabref04.right -/
def c102 : ACode :=
  (.seq (.reg none [⟨some 1, none, .m (.box (.t 0))⟩, ⟨some 2, none, .q (.mv (.c (.b false)))⟩])
  (.keep [1]
  (.seq (.reg none [⟨some 6, none, .q (.ld (some 4) (.t 1))⟩, ⟨some 7, none, .call (.f 72) [(.t 6)]⟩, ⟨some 5, none, .q (.mv (.t 7))⟩, ⟨some 8, none, .q (.ext 0 (.t 5))⟩, ⟨some 9, none, .q (.ext 1 (.t 5))⟩, ⟨some 4, none, .m (.alloc (.g [(.i .i64 0), (.i .i64 0)]))⟩, ⟨some 3, none, .q (.mv (.t 8))⟩, ⟨none, none, .m (.st 2 (.t 4) (.t 9))⟩])
  (.keep [3]
  (.seq (.reg none [⟨some 10, none, .q (.mv (.t 3))⟩, ⟨some 11, none, .q (.bin .eql (.t 10) (.c (.i .i64 0)))⟩, ⟨some 2, none, .q (.mv (.t 11))⟩])
  .ret)))))
theorem r102 : (Try.f102.body.bind (resC Try.prog Try.f102.ntmps)) = some (strip c102) := by kernel_rfl
theorem s102 : Try.f102.results.toList.mapM (resRes Try.prog) = some [.t 2] := by kernel_rfl
/-- scarab/scarabref04.instr -/
def c101 : ACode :=
  (.seq (.reg none [⟨some 3, none, .m (.box (.t 1))⟩, ⟨some 4, none, .q (.mv (.c .nil))⟩])
  (.keep [0, 3]
  (.seq (.reg none [⟨some 8, none, .q (.mv (.t 0))⟩, ⟨some 9, none, .q (.fa 0 (.t 3))⟩, ⟨some 10, none, .q (.ld none (.t 9))⟩, ⟨some 11, none, .q (.cvi .u64 (.t 10))⟩, ⟨some 12, none, .call (.f 137) [(.t 8), (.t 11)]⟩, ⟨some 0, none, .q (.mv (.t 12))⟩])
  (.keep [0, 3]
  (.seq (.reg none [⟨some 13, none, .q (.fa 0 (.t 3))⟩, ⟨some 14, none, .q (.ld none (.t 13))⟩, ⟨some 15, none, .call (.f 141) [(.t 14)]⟩, ⟨some 5, none, .q (.mv (.t 15))⟩])
  (.keep [0, 3, 5]
  (.seq (.seq (.reg none [⟨some 6, none, .q (.mv (.c (.i .i64 0)))⟩])
    (.keep [0, 3, 5, 6]
    (.blk 0 (.keep [0, 3, 5, 6]
    (.loop (.fin [0, 3, 5, 6]
      (.seq (.seq (.reg none [⟨some 16, none, .q (.mv (.t 6))⟩, ⟨some 17, none, .q (.bin .lss (.t 16) (.c (.i .i64 4)))⟩])
        (.keep [0, 3, 5, 6, 17]
        (.cond (.t 17) .skip
        (.exit 0))))
      (.seq (.blk 1 (.seq (.reg none [⟨some 20, none, .q (.ld (some 5) (.t 3))⟩, ⟨some 21, none, .q (.mv (.t 6))⟩, ⟨some 22, none, .call (.f 142) [(.t 20), (.t 21)]⟩, ⟨some 7, none, .q (.mv (.t 22))⟩])
        (.keep [0, 3, 5, 6, 7]
        (.seq (.reg none [⟨some 23, none, .q (.mv (.t 5))⟩, ⟨some 24, none, .q (.mv (.t 6))⟩, ⟨some 25, none, .q (.sidx (.t 23) (.t 24))⟩])
        (.keep [0, 3, 5, 6, 7, 25]
        (.blk 2 (.seq (.reg none [⟨some 31, none, .q (.bin .eql (.t 25) (.c (.i .u8 45)))⟩, ⟨some 30, none, .q (.mv (.t 31))⟩])
        (.keep [0, 3, 5, 6, 7, 25, 30]
        (.cond (.t 30) .skip
        (.seq (.reg none [⟨some 33, none, .q (.bin .eql (.t 25) (.c (.i .u8 111)))⟩, ⟨some 32, none, .q (.mv (.t 33))⟩])
          (.keep [0, 3, 5, 6, 7, 25, 32]
          (.cond (.t 32) (.reg none [⟨some 34, none, .q (.mv (.t 0))⟩, ⟨some 35, none, .q (.mv (.t 7))⟩, ⟨some 36, none, .q (.bin .add (.t 35) (.c (.i .i64 1)))⟩, ⟨some 37, none, .q (.cvi .u64 (.t 36))⟩, ⟨some 38, none, .call (.f 137) [(.t 34), (.t 37)]⟩, ⟨some 0, none, .q (.mv (.t 38))⟩])
          (.seq (.reg none [⟨some 40, none, .q (.bin .eql (.t 25) (.c (.i .u8 110)))⟩, ⟨some 39, none, .q (.mv (.t 40))⟩])
            (.keep [0, 3, 5, 6, 7, 39]
            (.cond (.t 39) (.reg none [⟨some 41, none, .q (.mv (.t 0))⟩, ⟨some 42, none, .q (.mv (.t 7))⟩, ⟨some 43, none, .call (.f 139) [(.t 41), (.t 42)]⟩, ⟨some 0, none, .q (.mv (.t 43))⟩])
            (.reg none [⟨some 26, none, .q (.mv (.t 0))⟩, ⟨some 27, none, .q (.mv (.t 7))⟩, ⟨some 28, none, .q (.cvi .u64 (.t 27))⟩, ⟨some 29, none, .call (.f 137) [(.t 26), (.t 28)]⟩, ⟨some 0, none, .q (.mv (.t 29))⟩]))))))))))))))))
      (.keep [0, 3, 5, 6]
      (.reg none [⟨some 18, none, .q (.mv (.t 6))⟩, ⟨some 19, none, .q (.bin .add (.t 18) (.c (.i .i64 1)))⟩, ⟨some 6, none, .q (.mv (.t 19))⟩]))))))))))
  (.seq (.reg none [⟨some 44, none, .q (.mv (.t 0))⟩, ⟨some 4, none, .q (.mv (.t 44))⟩])
  .ret))))))))
theorem r101 : (Try.f101.body.bind (resC Try.prog Try.f101.ntmps)) = some (strip c101) := by kernel_rfl
theorem s101 : Try.f101.results.toList.mapM (resRes Try.prog) = some [.t 4] := by kernel_rfl
/-- What puts bytes behind others. -/
def AppS (f : Nat) (args : List AV) (out : List UInt8) : Prop := ∀ b : List UInt8, b.length + out.length ≤ 549755813888 → Own1 Try.prog f (.sl 1 (b.map brow) :: args) 1 ((b ++ out).map brow)
theorem numR (x : Int) : AppS 137 [.i .u64 (IntKind.u64.wrap x)] (numW x) := fun b hb => by
  rw [u64N_wrap]; exact putR b (u64N x) (by omega) (u64N_lt x)
theorem magicR : Own1 Try.prog 134 [] 1 (magicB.map brow) := by
  refine fun_sel [0] hmx Try.func134 r134 s134 (by rw [Try.ntmps134]; simp) (by first | exact Nat.le_refl _ | decide | simp) (by simp) ?_
  unfold c134
  simp [vrows, magicB, brow]
theorem rightR (p : Prog) (hp : p.Ok) : PureS Try.prog 102 [.g p.row] (.b (decide ((check p).1 = 0))) := by
  refine fun_go hmx Try.func102 r102 s102 (by rw [Try.ntmps102]; simp) ?_
  unfold c102
  simp [Prog.row]
  refine callk rfl Try.call72 (Q03.check46 p hp) rfl ?_
  simp [told]
  rw [Bool.eq_iff_iff]; simp
theorem operandR (i : Instr) (k : Nat) (x : Int) (h : [i.a, i.b, i.c, i.n][k]? = some x) : PureS Try.prog 142 [.g i.row, .i .i64 (k : Int)] (.i .i64 x) := by
  refine fun_go hmx Try.func142 r142 s142 (by rw [Try.ntmps142]; simp) ?_
  unfold c142
  match k, h with
  | 0, h => simp at h; subst h; simp [Instr.row]
  | 1, h => simp at h; subst h; simp [Instr.row]
  | 2, h => simp at h; subst h; simp [Instr.row]
  | 3, h => simp at h; subst h; simp [Instr.row]
  | k + 4, h => simp at h
theorem flagR (t : Bool) : AppS 138 [.b t] (flagW t) := by
  intro b hb
  refine fun_sel [0] hmx Try.func138 r138 s138 (by rw [Try.ntmps138]; simp) (by first | exact Nat.le_refl _ | decide | simp) (by simp) ?_
  unfold c138
  cases t with
  | true =>
    simp
    refine callo rfl Try.call137 (putR b 1 (by omega) (by omega)) (flat_rows brow_flat) (by simp) ?_
    simp [flagW, numW, u64N]
  | false =>
    simp
    refine callo rfl Try.call137 (putR b 0 (by omega) (by omega)) (flat_rows brow_flat) (by simp) ?_
    simp [flagW, numW, u64N]
theorem lR45 (l : UInt8) : ((l.toNat : Int) = 45) ↔ l = 45 := by
  constructor
  · intro h; exact UInt8.toNat_inj.1 (by rw [show l.toNat = 45 by omega]; rfl)
  · rintro rfl; rfl
theorem lR110 (l : UInt8) : ((l.toNat : Int) = 110) ↔ l = 110 := by
  constructor
  · intro h; exact UInt8.toNat_inj.1 (by rw [show l.toNat = 110 by omega]; rfl)
  · rintro rfl; rfl
theorem lR111 (l : UInt8) : ((l.toNat : Int) = 111) ↔ l = 111 := by
  constructor
  · intro h; exact UInt8.toNat_inj.1 (by rw [show l.toNat = 111 by omega]; rfl)
  · rintro rfl; rfl
theorem instrR (i : Instr) (hf : form i.op ≠ []) (hi : I64 i.a ∧ I64 i.b ∧ I64 i.c ∧ I64 i.n) : AppS 101 [.g i.row] (instrW i) := by
  intro b0 hb
  obtain ⟨l0, l1, l2, l3, hl⟩ : ∃ l0 l1 l2 l3, form i.op = [l0, l1, l2, l3] := (form_four i.op).resolve_left hf
  obtain ⟨xs, hxl, hx1, hx2, hx3, hx4⟩ : ∃ xs : List (UInt8 × Int), xs.length = 4 ∧ form i.op = xs.map (·.1) ∧ [i.a, i.b, i.c, i.n] = xs.map (·.2) ∧ opsW xs = opsW ((form i.op).zip [i.a, i.b, i.c, i.n]) ∧ ∀ p ∈ xs, I64 p.2 := by
    refine ⟨[(l0, i.a), (l1, i.b), (l2, i.c), (l3, i.n)], rfl, by simp [hl], rfl, by simp [hl], ?_⟩
    simp
    exact ⟨hi.1, hi.2.1, hi.2.2.1, hi.2.2.2⟩
  refine fun_sel [1] hmx Try.func101 r101 s101 (by rw [Try.ntmps101]; simp) (by first | exact Nat.le_refl _ | decide | simp) (by simp) ?_
  unfold c101
  have hop : ∀ (k : Nat) l x, xs[k]? = some (l, x) → PureS Try.prog 142 [.g i.row, .i .i64 (k : Int)] (.i .i64 x) := fun k l x h => operandR i k x (by rw [hx2, List.getElem?_map, h]; rfl)
  simp [Instr.row]
  refine callo rfl Try.call137 (numR i.op b0 (by simp [instrW] at hb; omega)) (flat_rows brow_flat) (by simp) ?_
  simp
  refine callk rfl Try.call141 (Q03.form16 i.op) rfl ?_
  simp
  rw [hx1]
  have hn := numW_len i.op
  refine go_each hmx 2 6 xs (fun (s : Nat × List UInt8) => [(0, .os 1 s.1)]) (fun s => [.var (i.row.map .v), .arr s.1 1 (vrows (s.2.map brow))]) (fun k s rest => s.2 ++ opsW rest = b0 ++ instrW i ∧ ∀ p ∈ rest, I64 p.2) (0, b0 ++ numW i.op) (by omega) rfl rfl (by simp [Instr.row]) (by simp) (by simp) (by simp [Instr.row]) ⟨by simp [instrW, ← hx3], hx4⟩ ?_ ?_
  · rintro k ⟨l, x⟩ rest ⟨u, b⟩ hk hxk hr ⟨hj, hj3⟩ hw
    simp only at hj hj3
    have hk4 : k < 4 := by omega
    have hk' : (k : Int) < 4 := by omega
    have hk2 : ¬ (4 : Int) ≤ k := by omega
    have hx64 : I64 x := hj3 (l, x) (by simp)
    have hj4 : ∀ (a : UInt8) (b : Int), (a, b) ∈ rest → I64 b := fun a b h => hj3 (a, b) (by simp [h])
    have hj5 : (b ++ opW l x) ++ opsW rest = b0 ++ instrW i := by rw [← hj]; simp [opsW]
    have hj6 : b.length + (opW l x).length ≤ b0.length + (instrW i).length := by
      have := congrArg List.length hj5
      simp at this; omega
    have hxk' : xs[k]? = some (l, x) := by rw [List.getElem?_eq_getElem hk, hxk]
    simp [hk', hk2, hk, hxk, hw, hk4, lR45, lR110, lR111, Instr.row]
    refine callk rfl Try.call142 (hop k l x hxk') rfl ?_
    simp [hk', hk2, hk, hxk, hw, hk4, lR45, lR110, lR111, Instr.row]
    refine ⟨fun h1 => ⟨b, rfl, ?_, hj4⟩, fun h1 => ⟨fun h2 => ?_, fun h2 => ⟨fun h3 => ?_, fun h3 => ?_⟩⟩⟩
    · rw [opW, if_pos h1] at hj5; simpa using hj5
    · have h110 : ¬ l = 110 := by rw [h2]; decide
      have ho : opW l x = numW (x + 1) := by rw [opW, if_neg h1, if_neg h110, if_pos h2]
      rw [ho] at hj5 hj6
      refine callv 1 rfl Try.call137 (numR (IntKind.i64.wrap (x + 1)) b (by rw [num_wrap]; omega)) (flat_rows brow_flat) rfl ⟨frz_rows rfl, .v _, trivial⟩ ?_
      simp [num_wrap]
      exact ⟨u + 1, ⟨rfl, hw⟩, b ++ numW (x + 1), ⟨rfl, by simp⟩, by simpa using hj5, hj4⟩
    · have ho : opW l x = putN (zigN x) := by rw [opW, if_neg h1, if_pos h3]
      rw [ho] at hj5 hj6
      refine callv 1 rfl Try.call139 (putIR b x (by omega) hx64) (flat_rows brow_flat) rfl ⟨frz_rows rfl, .v _, trivial⟩ ?_
      simp
      exact ⟨u + 1, ⟨rfl, hw⟩, b ++ putN (zigN x), ⟨rfl, by simp⟩, by simpa using hj5, hj4⟩
    · have ho : opW l x = numW x := by rw [opW, if_neg h1, if_neg h3, if_neg h2]
      rw [ho] at hj5 hj6
      refine callv 1 rfl Try.call137 (numR x b (by omega)) (flat_rows brow_flat) rfl ⟨frz_rows rfl, .v _, trivial⟩ ?_
      simp
      exact ⟨u + 1, ⟨rfl, hw⟩, b ++ numW x, ⟨rfl, by simp⟩, by simpa using hj5, hj4⟩
  · rintro ⟨u, b⟩ ⟨hj, hj3⟩
    simp [hxl]
    simp [opsW] at hj
    rw [hj]; simp
end Go.Sc.Cw
/- Chapter 04: selects in bytes, by the document's text. No condition. -/
set_option linter.constructorNameAsVariable false
namespace Go.Sc.Cw
open Go Go.RowKit Go.Av Go.Proofs Go.Sc.Oct
set_option linter.unusedSimpArgs false
set_option linter.unusedVariables false
/-- scarab/scarabref04.selects -/
def c140 : ACode :=
  (.seq (.reg none [⟨some 4, none, .q (.mv (.c .nil))⟩])
  (.keep [0, 1]
  (.seq (.reg none [⟨some 9, none, .q (.mv (.t 0))⟩, ⟨some 10, none, .q (.mv (.t 1))⟩, ⟨some 11, none, .q (.len false (.t 10))⟩, ⟨some 12, none, .q (.cvi .u64 (.t 11))⟩, ⟨some 13, none, .call (.f 137) [(.t 9), (.t 12)]⟩, ⟨some 0, none, .q (.mv (.t 13))⟩])
  (.keep [0, 1]
  (.seq (.seq (.reg none [⟨some 5, none, .q (.mv (.c (.i .i64 0)))⟩])
    (.keep [0, 1, 5]
    (.blk 0 (.keep [0, 1, 5]
    (.loop (.fin [0, 1, 5]
      (.seq (.seq (.reg none [⟨some 14, none, .q (.mv (.t 5))⟩, ⟨some 15, none, .q (.mv (.t 1))⟩, ⟨some 16, none, .q (.len false (.t 15))⟩, ⟨some 17, none, .q (.bin .lss (.t 14) (.t 16))⟩])
        (.keep [0, 1, 5, 17]
        (.cond (.t 17) .skip
        (.exit 0))))
      (.seq (.blk 1 (.seq (.reg none [⟨some 20, none, .q (.mv (.t 1))⟩, ⟨some 21, none, .q (.mv (.t 5))⟩, ⟨some 22, none, .q (.ias 2 (.t 20) (.t 21))⟩, ⟨some 23, none, .q (.ld (some 2) (.t 22))⟩, ⟨some 6, none, .m (.alloc (.g [.nil, (.i .i64 0)]))⟩, ⟨none, none, .m (.st 2 (.t 6) (.t 23))⟩])
        (.keep [0, 1, 5, 6]
        (.seq (.reg none [⟨some 24, none, .q (.mv (.t 0))⟩, ⟨some 25, none, .q (.fa 0 (.t 6))⟩, ⟨some 26, none, .q (.ld none (.t 25))⟩, ⟨some 27, none, .q (.len false (.t 26))⟩, ⟨some 28, none, .q (.cvi .u64 (.t 27))⟩, ⟨some 29, none, .call (.f 137) [(.t 24), (.t 28)]⟩, ⟨some 0, none, .q (.mv (.t 29))⟩])
        (.keep [0, 1, 5, 6]
        (.seq (.seq (.reg none [⟨some 7, none, .q (.mv (.c (.i .i64 0)))⟩])
          (.keep [0, 1, 5, 6, 7]
          (.blk 2 (.keep [0, 1, 5, 6, 7]
          (.loop (.fin [0, 1, 5, 6, 7]
            (.seq (.seq (.reg none [⟨some 30, none, .q (.mv (.t 7))⟩, ⟨some 31, none, .q (.fa 0 (.t 6))⟩, ⟨some 32, none, .q (.ld none (.t 31))⟩, ⟨some 33, none, .q (.len false (.t 32))⟩, ⟨some 34, none, .q (.bin .lss (.t 30) (.t 33))⟩])
              (.keep [0, 1, 5, 6, 7, 34]
              (.cond (.t 34) .skip
              (.exit 2))))
            (.seq (.blk 3 (.seq (.reg none [⟨some 37, none, .q (.fa 0 (.t 6))⟩, ⟨some 38, none, .q (.ld none (.t 37))⟩, ⟨some 39, none, .q (.mv (.t 7))⟩, ⟨some 40, none, .q (.ias 4 (.t 38) (.t 39))⟩, ⟨some 41, none, .q (.ld (some 4) (.t 40))⟩, ⟨some 8, none, .m (.alloc (.g [(.b false), (.i .i64 0), (.i .i64 0), (.i .i64 0)]))⟩, ⟨none, none, .m (.st 4 (.t 8) (.t 41))⟩])
              (.keep [0, 1, 5, 6, 7, 8]
              (.seq (.reg none [⟨some 42, none, .q (.mv (.t 0))⟩, ⟨some 43, none, .q (.fa 0 (.t 8))⟩, ⟨some 44, none, .q (.ld none (.t 43))⟩, ⟨some 45, none, .call (.f 138) [(.t 42), (.t 44)]⟩, ⟨some 0, none, .q (.mv (.t 45))⟩])
              (.keep [0, 1, 5, 6, 7, 8]
              (.seq (.reg none [⟨some 46, none, .q (.mv (.t 0))⟩, ⟨some 47, none, .q (.fa 1 (.t 8))⟩, ⟨some 48, none, .q (.ld none (.t 47))⟩, ⟨some 49, none, .q (.cvi .u64 (.t 48))⟩, ⟨some 50, none, .call (.f 137) [(.t 46), (.t 49)]⟩, ⟨some 0, none, .q (.mv (.t 50))⟩])
              (.keep [0, 1, 5, 6, 7, 8]
              (.seq (.reg none [⟨some 51, none, .q (.mv (.t 0))⟩, ⟨some 52, none, .q (.fa 2 (.t 8))⟩, ⟨some 53, none, .q (.ld none (.t 52))⟩, ⟨some 54, none, .q (.bin .add (.t 53) (.c (.i .i64 1)))⟩, ⟨some 55, none, .q (.cvi .u64 (.t 54))⟩, ⟨some 56, none, .call (.f 137) [(.t 51), (.t 55)]⟩, ⟨some 0, none, .q (.mv (.t 56))⟩])
              (.keep [0, 1, 5, 6, 7, 8]
              (.reg none [⟨some 57, none, .q (.mv (.t 0))⟩, ⟨some 58, none, .q (.fa 3 (.t 8))⟩, ⟨some 59, none, .q (.ld none (.t 58))⟩, ⟨some 60, none, .q (.cvi .u64 (.t 59))⟩, ⟨some 61, none, .call (.f 137) [(.t 57), (.t 60)]⟩, ⟨some 0, none, .q (.mv (.t 61))⟩]))))))))))
            (.keep [0, 1, 5, 6, 7]
            (.reg none [⟨some 35, none, .q (.mv (.t 7))⟩, ⟨some 36, none, .q (.bin .add (.t 35) (.c (.i .i64 1)))⟩, ⟨some 7, none, .q (.mv (.t 36))⟩]))))))))))
        (.reg none [⟨some 62, none, .q (.mv (.t 0))⟩, ⟨some 63, none, .q (.fa 1 (.t 6))⟩, ⟨some 64, none, .q (.ld none (.t 63))⟩, ⟨some 65, none, .q (.bin .add (.t 64) (.c (.i .i64 1)))⟩, ⟨some 66, none, .q (.cvi .u64 (.t 65))⟩, ⟨some 67, none, .call (.f 137) [(.t 62), (.t 66)]⟩, ⟨some 0, none, .q (.mv (.t 67))⟩])))))))
      (.keep [0, 1, 5]
      (.reg none [⟨some 18, none, .q (.mv (.t 5))⟩, ⟨some 19, none, .q (.bin .add (.t 18) (.c (.i .i64 1)))⟩, ⟨some 5, none, .q (.mv (.t 19))⟩]))))))))))
  (.seq (.reg none [⟨some 68, none, .q (.mv (.t 0))⟩, ⟨some 4, none, .q (.mv (.t 68))⟩])
  .ret))))))
theorem r140 : (Try.f140.body.bind (resC Try.prog Try.f140.ntmps)) = some (strip c140) := by kernel_rfl
theorem s140 : Try.f140.results.toList.mapM (resRes Try.prog) = some [.t 4] := by kernel_rfl
theorem selectsR (ss : List Select) (hl : ss.length < 9223372036854775807) (ho : ∀ s ∈ ss, s.Ok) : AppS 140 [.sl 2 (ss.map Select.row)] (numW ss.length ++ selsW ss) := by
  intro b0 hb
  rw [List.length_append] at hb
  refine fun_sel [0] hmx Try.func140 r140 s140 (by rw [Try.ntmps140]; simp) (by first | exact Nat.le_refl _ | decide | simp) (by simp) ?_
  unfold c140
  simp [-List.map_append, -List.append_assoc]
  refine callo rfl Try.call137 (numR ss.length b0 (by omega)) (flat_rows brow_flat) (by simp) ?_
  simp [-List.map_append, -List.append_assoc]
  refine go_each hmx 1 5 ss (fun (s : Nat × List UInt8) => [(0, .os 0 s.1)]) (fun s => [.arr s.1 1 (vrows (s.2.map brow))]) (fun k s rest => s.2 ++ selsW rest = b0 ++ numW ss.length ++ selsW ss ∧ ∀ x ∈ rest, x.Ok) (0, b0 ++ numW ss.length) hl rfl (by simp) (by simp) (by simp) (by simp) (by simp) ⟨rfl, ho⟩ ?_ ?_
  · rintro k x rest ⟨u, b⟩ hk hxk hr ⟨hj, hok⟩ hw
    simp only at hj hok
    have hx := hok x (by simp)
    have hok' : ∀ y ∈ rest, y.Ok := fun y hy => hok y (by simp [hy])
    have hcl : x.cases.length < 9223372036854775807 := hx.few.lt (by decide)
    have lj := congrArg List.length hj
    simp only [selsW, selW, List.length_append] at lj
    have hnc := numW_len x.cases.length
    simp [hk, hxk, hw, Select.row, -List.map_append, -List.append_assoc]
    refine callv 0 rfl Try.call137 (numR x.cases.length b (by omega)) (flat_rows brow_flat) rfl ⟨frz_rows rfl, .v _, trivial⟩ ?_
    simp [-List.map_append, -List.append_assoc]
    refine go_each hmx 2 7 x.cases (fun (s : Nat × List UInt8) => [(0, .os 0 s.1)]) (fun s => [.arr s.1 1 (vrows (s.2.map brow)), .var (x.row.map .v)]) (fun i s rest' => s.2 ++ casesW rest' = b ++ numW x.cases.length ++ casesW x.cases) (u + 1, b ++ numW x.cases.length) hcl rfl (by simp) (by simp [Select.row]) (by simp) (by simp) (by simp [Select.row]) rfl ?_ ?_
    · rintro i y rest' ⟨v, c⟩ hi hyi hr' hj2 hw2
      simp only at hj2
      have lj2 := congrArg List.length hj2
      simp only [casesW, caseW, List.length_append] at lj2
      simp [hi, hyi, hw2, Select.row, Case.row, -List.map_append, -List.append_assoc]
      refine callv 0 rfl Try.call138 (flagR y.send c (by omega)) (flat_rows brow_flat) rfl ⟨frz_rows rfl, .v _, trivial⟩ ?_
      simp [-List.map_append, -List.append_assoc]
      refine callv 0 rfl Try.call137 (numR y.chan (c ++ flagW y.send) (by simp only [List.length_append]; omega)) (flat_rows brow_flat) rfl ⟨frz_rows rfl, .v _, trivial⟩ ?_
      simp [-List.map_append, -List.append_assoc]
      refine callv 0 rfl Try.call137 (numR (IntKind.i64.wrap (y.reg + 1)) (c ++ flagW y.send ++ numW y.chan) (by rw [num_wrap]; simp only [List.length_append]; omega)) (flat_rows brow_flat) rfl ⟨frz_rows rfl, .v _, trivial⟩ ?_
      simp [-List.map_append, -List.append_assoc, num_wrap]
      refine callv 0 rfl Try.call137 (numR y.to (c ++ flagW y.send ++ numW y.chan ++ numW (y.reg + 1)) (by simp only [List.length_append]; omega)) (flat_rows brow_flat) rfl ⟨frz_rows rfl, .v _, trivial⟩ ?_
      simp [-List.map_append, -List.append_assoc, num_wrap]
      exact ⟨_, ⟨rfl, hw2⟩, _, ⟨rfl, rfl⟩, by rw [← hj2]; simp [casesW, caseW]⟩
    · rintro ⟨v, c⟩ hj2
      simp only [casesW, List.append_nil] at hj2
      subst hj2
      simp [Select.row, -List.map_append, -List.append_assoc]
      refine callv 0 rfl Try.call137 (numR (IntKind.i64.wrap (x.els + 1)) (b ++ numW x.cases.length ++ casesW x.cases) (by rw [num_wrap]; simp only [List.length_append]; omega)) (flat_rows brow_flat) rfl ⟨frz_rows rfl, .v _, trivial⟩ ?_
      simp [-List.map_append, -List.append_assoc, num_wrap]
      exact ⟨_, ⟨rfl, hw⟩, _, ⟨rfl, rfl⟩, by rw [← hj]; simp [selsW, selW], hok'⟩
  · rintro ⟨u, b⟩ ⟨hj, hj3⟩
    simp only [selsW, List.append_nil] at hj
    subst hj
    simp
end Go.Sc.Cw
/- Chapter 04: a program's bytes, by the document's text. No condition. -/
set_option linter.constructorNameAsVariable false
namespace Go.Sc.Cw
open Go Go.RowKit Go.Av Go.Proofs Go.Sc.Oct
set_option linter.unusedSimpArgs false
set_option linter.unusedVariables false
/-- scarab/scarabref04.bytes -/
def c100 : ACode :=
  (.seq (.reg none [⟨some 3, none, .m (.box (.t 0))⟩, ⟨some 6, none, .q (.mv (.c .nil))⟩, ⟨some 7, none, .q (.mv (.c (.i .i64 0)))⟩])
  (.keep [1, 2, 3]
  (.seq (.reg none [⟨some 8, none, .q (.mv (.c (.i .i64 0)))⟩])
  (.keep [1, 2, 3, 8]
  (.seq (.reg none [⟨some 16, none, .call (.f 134) []⟩, ⟨some 9, none, .q (.mv (.t 16))⟩])
  (.keep [1, 2, 3, 8, 9]
  (.seq (.reg none [⟨some 17, none, .q (.mv (.t 9))⟩, ⟨some 18, none, .q (.fa 0 (.t 3))⟩, ⟨some 19, none, .q (.ld none (.t 18))⟩, ⟨some 20, none, .q (.len false (.t 19))⟩, ⟨some 21, none, .q (.cvi .u64 (.t 20))⟩, ⟨some 22, none, .call (.f 137) [(.t 17), (.t 21)]⟩, ⟨some 9, none, .q (.mv (.t 22))⟩])
  (.keep [1, 2, 3, 8, 9]
  (.seq (.seq (.reg none [⟨some 10, none, .q (.mv (.c (.i .i64 0)))⟩])
    (.keep [1, 2, 3, 8, 9, 10]
    (.blk 0 (.keep [1, 2, 3, 8, 9, 10]
    (.loop (.fin [1, 2, 3, 8, 9, 10]
      (.seq (.seq (.reg none [⟨some 23, none, .q (.mv (.t 10))⟩, ⟨some 24, none, .q (.fa 0 (.t 3))⟩, ⟨some 25, none, .q (.ld none (.t 24))⟩, ⟨some 26, none, .q (.len false (.t 25))⟩, ⟨some 27, none, .q (.bin .lss (.t 23) (.t 26))⟩])
        (.keep [1, 2, 3, 8, 9, 10, 27]
        (.cond (.t 27) .skip
        (.exit 0))))
      (.seq (.blk 1 (.seq (.reg none [⟨some 30, none, .q (.mv (.t 9))⟩, ⟨some 31, none, .q (.fa 0 (.t 3))⟩, ⟨some 32, none, .q (.ld none (.t 31))⟩, ⟨some 33, none, .q (.mv (.t 10))⟩, ⟨some 34, none, .q (.ias 2 (.t 32) (.t 33))⟩, ⟨some 35, none, .q (.fa 0 (.t 34))⟩, ⟨some 36, none, .q (.ld none (.t 35))⟩, ⟨some 37, none, .call (.f 138) [(.t 30), (.t 36)]⟩, ⟨some 9, none, .q (.mv (.t 37))⟩])
        (.keep [1, 2, 3, 8, 9, 10]
        (.reg none [⟨some 38, none, .q (.mv (.t 9))⟩, ⟨some 39, none, .q (.fa 0 (.t 3))⟩, ⟨some 40, none, .q (.ld none (.t 39))⟩, ⟨some 41, none, .q (.mv (.t 10))⟩, ⟨some 42, none, .q (.ias 2 (.t 40) (.t 41))⟩, ⟨some 43, none, .q (.fa 1 (.t 42))⟩, ⟨some 44, none, .q (.ld none (.t 43))⟩, ⟨some 45, none, .call (.f 139) [(.t 38), (.t 44)]⟩, ⟨some 9, none, .q (.mv (.t 45))⟩]))))
      (.keep [1, 2, 3, 8, 9, 10]
      (.reg none [⟨some 28, none, .q (.mv (.t 10))⟩, ⟨some 29, none, .q (.bin .add (.t 28) (.c (.i .i64 1)))⟩, ⟨some 10, none, .q (.mv (.t 29))⟩]))))))))))
  (.seq (.reg none [⟨some 46, none, .q (.mv (.t 9))⟩, ⟨some 47, none, .q (.fa 1 (.t 3))⟩, ⟨some 48, none, .q (.ld none (.t 47))⟩, ⟨some 49, none, .q (.cvi .u64 (.t 48))⟩, ⟨some 50, none, .call (.f 137) [(.t 46), (.t 49)]⟩, ⟨some 9, none, .q (.mv (.t 50))⟩])
  (.keep [1, 2, 3, 8, 9]
  (.seq (.reg none [⟨some 51, none, .q (.mv (.t 9))⟩, ⟨some 52, none, .q (.fa 2 (.t 3))⟩, ⟨some 53, none, .q (.ld none (.t 52))⟩, ⟨some 54, none, .q (.len false (.t 53))⟩, ⟨some 55, none, .q (.cvi .u64 (.t 54))⟩, ⟨some 56, none, .call (.f 137) [(.t 51), (.t 55)]⟩, ⟨some 9, none, .q (.mv (.t 56))⟩])
  (.keep [1, 2, 3, 8, 9]
  (.seq (.seq (.reg none [⟨some 11, none, .q (.mv (.c (.i .i64 0)))⟩])
    (.keep [1, 2, 3, 8, 9, 11]
    (.blk 2 (.keep [1, 2, 3, 8, 9, 11]
    (.loop (.fin [1, 2, 3, 8, 9, 11]
      (.seq (.seq (.reg none [⟨some 57, none, .q (.mv (.t 11))⟩, ⟨some 58, none, .q (.fa 2 (.t 3))⟩, ⟨some 59, none, .q (.ld none (.t 58))⟩, ⟨some 60, none, .q (.len false (.t 59))⟩, ⟨some 61, none, .q (.bin .lss (.t 57) (.t 60))⟩])
        (.keep [1, 2, 3, 8, 9, 11, 61]
        (.cond (.t 61) .skip
        (.exit 2))))
      (.seq (.blk 3 (.reg none [⟨some 64, none, .q (.mv (.t 9))⟩, ⟨some 65, none, .q (.fa 2 (.t 3))⟩, ⟨some 66, none, .q (.ld none (.t 65))⟩, ⟨some 67, none, .q (.mv (.t 11))⟩, ⟨some 68, none, .q (.ias 1 (.t 66) (.t 67))⟩, ⟨some 69, none, .q (.ld none (.t 68))⟩, ⟨some 70, none, .q (.cvi .u64 (.t 69))⟩, ⟨some 71, none, .call (.f 137) [(.t 64), (.t 70)]⟩, ⟨some 9, none, .q (.mv (.t 71))⟩]))
      (.keep [1, 2, 3, 8, 9, 11]
      (.reg none [⟨some 62, none, .q (.mv (.t 11))⟩, ⟨some 63, none, .q (.bin .add (.t 62) (.c (.i .i64 1)))⟩, ⟨some 11, none, .q (.mv (.t 63))⟩]))))))))))
  (.seq (.reg none [⟨some 72, none, .q (.mv (.t 9))⟩, ⟨some 73, none, .q (.fa 3 (.t 3))⟩, ⟨some 74, none, .q (.ld none (.t 73))⟩, ⟨some 75, none, .q (.len false (.t 74))⟩, ⟨some 76, none, .q (.cvi .u64 (.t 75))⟩, ⟨some 77, none, .call (.f 137) [(.t 72), (.t 76)]⟩, ⟨some 9, none, .q (.mv (.t 77))⟩])
  (.keep [1, 2, 3, 8, 9]
  (.seq (.seq (.reg none [⟨some 12, none, .q (.mv (.c (.i .i64 0)))⟩])
    (.keep [1, 2, 3, 8, 9, 12]
    (.blk 4 (.keep [1, 2, 3, 8, 9, 12]
    (.loop (.fin [1, 2, 3, 8, 9, 12]
      (.seq (.seq (.reg none [⟨some 78, none, .q (.mv (.t 12))⟩, ⟨some 79, none, .q (.fa 3 (.t 3))⟩, ⟨some 80, none, .q (.ld none (.t 79))⟩, ⟨some 81, none, .q (.len false (.t 80))⟩, ⟨some 82, none, .q (.bin .lss (.t 78) (.t 81))⟩])
        (.keep [1, 2, 3, 8, 9, 12, 82]
        (.cond (.t 82) .skip
        (.exit 4))))
      (.seq (.blk 5 (.seq (.reg none [⟨some 85, none, .q (.fa 3 (.t 3))⟩, ⟨some 86, none, .q (.ld none (.t 85))⟩, ⟨some 87, none, .q (.mv (.t 12))⟩, ⟨some 88, none, .q (.ias 4 (.t 86) (.t 87))⟩, ⟨some 89, none, .q (.ld (some 4) (.t 88))⟩, ⟨some 13, none, .m (.alloc (.g [(.i .i64 0), (.i .i64 0), .nil, .nil]))⟩, ⟨none, none, .m (.st 4 (.t 13) (.t 89))⟩])
        (.keep [1, 2, 3, 8, 9, 12, 13]
        (.seq (.reg none [⟨some 90, none, .q (.mv (.t 9))⟩, ⟨some 91, none, .q (.fa 0 (.t 13))⟩, ⟨some 92, none, .q (.ld none (.t 91))⟩, ⟨some 93, none, .q (.cvi .u64 (.t 92))⟩, ⟨some 94, none, .call (.f 137) [(.t 90), (.t 93)]⟩, ⟨some 9, none, .q (.mv (.t 94))⟩])
        (.keep [1, 2, 3, 8, 9, 12, 13]
        (.seq (.reg none [⟨some 95, none, .q (.mv (.t 9))⟩, ⟨some 96, none, .q (.fa 1 (.t 13))⟩, ⟨some 97, none, .q (.ld none (.t 96))⟩, ⟨some 98, none, .q (.cvi .u64 (.t 97))⟩, ⟨some 99, none, .call (.f 137) [(.t 95), (.t 98)]⟩, ⟨some 9, none, .q (.mv (.t 99))⟩])
        (.keep [1, 2, 3, 8, 9, 12, 13]
        (.seq (.reg none [⟨some 100, none, .q (.mv (.t 9))⟩, ⟨some 101, none, .q (.fa 3 (.t 13))⟩, ⟨some 102, none, .q (.ld none (.t 101))⟩, ⟨some 103, none, .call (.f 140) [(.t 100), (.t 102)]⟩, ⟨some 9, none, .q (.mv (.t 103))⟩])
        (.keep [1, 2, 3, 8, 9, 12, 13]
        (.seq (.reg none [⟨some 104, none, .q (.mv (.t 9))⟩, ⟨some 105, none, .q (.fa 2 (.t 13))⟩, ⟨some 106, none, .q (.ld none (.t 105))⟩, ⟨some 107, none, .q (.len false (.t 106))⟩, ⟨some 108, none, .q (.cvi .u64 (.t 107))⟩, ⟨some 109, none, .call (.f 137) [(.t 104), (.t 108)]⟩, ⟨some 9, none, .q (.mv (.t 109))⟩])
        (.keep [1, 2, 3, 8, 9, 12, 13]
        (.seq (.reg none [⟨some 14, none, .q (.mv (.c (.i .i64 0)))⟩])
        (.keep [1, 2, 3, 8, 9, 12, 13, 14]
        (.blk 6 (.keep [1, 2, 3, 8, 9, 12, 13, 14]
        (.loop (.fin [1, 2, 3, 8, 9, 12, 13, 14]
          (.seq (.seq (.reg none [⟨some 110, none, .q (.mv (.t 14))⟩, ⟨some 111, none, .q (.fa 2 (.t 13))⟩, ⟨some 112, none, .q (.ld none (.t 111))⟩, ⟨some 113, none, .q (.len false (.t 112))⟩, ⟨some 114, none, .q (.bin .lss (.t 110) (.t 113))⟩])
            (.keep [1, 2, 3, 8, 9, 12, 13, 14, 114]
            (.cond (.t 114) .skip
            (.exit 6))))
          (.seq (.blk 7 (.seq (.seq (.reg none [⟨some 117, none, .q (.mv (.t 12))⟩, ⟨some 118, none, .q (.mv (.t 1))⟩, ⟨some 119, none, .q (.bin .eql (.t 117) (.t 118))⟩, ⟨some 120, none, .q (.mv (.t 119))⟩, ⟨some 121, some (120, true), .q (.mv (.t 14))⟩, ⟨some 122, some (120, true), .q (.mv (.t 2))⟩, ⟨some 123, some (120, true), .q (.bin .eql (.t 121) (.t 122))⟩, ⟨some 124, none, .pk (.t 120) (.t 123) (.c (.b false))⟩])
              (.keep [1, 2, 3, 8, 9, 12, 13, 14, 124]
              (.cond (.t 124) (.reg none [⟨some 125, none, .q (.mv (.t 9))⟩, ⟨some 126, none, .q (.len false (.t 125))⟩, ⟨some 8, none, .q (.mv (.t 126))⟩])
              .skip)))
            (.reg none [⟨some 127, none, .q (.mv (.t 9))⟩, ⟨some 128, none, .q (.fa 2 (.t 13))⟩, ⟨some 129, none, .q (.ld none (.t 128))⟩, ⟨some 130, none, .q (.mv (.t 14))⟩, ⟨some 131, none, .q (.ias 5 (.t 129) (.t 130))⟩, ⟨some 132, none, .q (.ld (some 5) (.t 131))⟩, ⟨some 133, none, .call (.f 101) [(.t 127), (.t 132)]⟩, ⟨some 9, none, .q (.mv (.t 133))⟩])))
          (.keep [1, 2, 3, 8, 9, 12, 13, 14]
          (.reg none [⟨some 115, none, .q (.mv (.t 14))⟩, ⟨some 116, none, .q (.bin .add (.t 115) (.c (.i .i64 1)))⟩, ⟨some 14, none, .q (.mv (.t 116))⟩])))))))))))))))))))))
      (.keep [1, 2, 3, 8, 9, 12]
      (.reg none [⟨some 83, none, .q (.mv (.t 12))⟩, ⟨some 84, none, .q (.bin .add (.t 83) (.c (.i .i64 1)))⟩, ⟨some 12, none, .q (.mv (.t 84))⟩]))))))))))
  (.seq (.reg none [⟨some 134, none, .q (.mv (.t 9))⟩, ⟨some 135, none, .call (.f 104) [(.t 134)]⟩, ⟨some 136, none, .call (.f 136) [(.t 135)]⟩, ⟨some 15, none, .m (.alloc (.g [(.i .u8 0), (.i .u8 0), (.i .u8 0), (.i .u8 0)]))⟩, ⟨none, none, .m (.st 4 (.t 15) (.t 136))⟩])
  (.keep [8, 9, 15]
  (.seq (.reg none [⟨some 137, none, .q (.mv (.t 9))⟩, ⟨some 138, none, .q (.iaa 4 1 (.t 15) (.c (.i .i64 0)))⟩, ⟨some 139, none, .q (.ld none (.t 138))⟩, ⟨some 140, none, .q (.iaa 4 1 (.t 15) (.c (.i .i64 1)))⟩, ⟨some 141, none, .q (.ld none (.t 140))⟩, ⟨some 142, none, .q (.iaa 4 1 (.t 15) (.c (.i .i64 2)))⟩, ⟨some 143, none, .q (.ld none (.t 142))⟩, ⟨some 144, none, .q (.iaa 4 1 (.t 15) (.c (.i .i64 3)))⟩, ⟨some 145, none, .q (.ld none (.t 144))⟩, ⟨some 146, none, .m (.bsl 4 1 [(.i .u8 0)] [(0, 1, .t 139), (1, 1, .t 141), (2, 1, .t 143), (3, 1, .t 145)])⟩, ⟨some 147, none, .m (.app 1 1 (.t 137) (.t 146))⟩, ⟨some 148, none, .q (.mv (.t 8))⟩, ⟨some 6, none, .q (.mv (.t 147))⟩, ⟨some 7, none, .q (.mv (.t 148))⟩])
  .ret))))))))))))))))))))
theorem r100 : (Try.f100.body.bind (resC Try.prog Try.f100.ntmps)) = some (strip c100) := by kernel_rfl
theorem s100 : Try.f100.results.toList.mapM (resRes Try.prog) = some [.t 6, .t 7] := by kernel_rfl
/-- The object that is asked for: a place, if it is told. -/
theorem bytesR (p : Prog) (hp : p.Ok) (f0 pc0 : Int) (hc : ∀ f ∈ p.funcs, ∀ i ∈ f.code, form i.op ≠ []) (hb : (bodyW p).length ≤ 549755813888) :
    PureS Try.prog 100 [.g p.row, .i .i64 f0, .i .i64 pc0] (.tup [.sl 1 ((progW p).map brow), .i .i64 (funsSW f0 pc0 0 (preW p).length p.funcs 0)]) := by
  refine pure_of ?_
  refine fun_go hmx Try.func100 r100 s100 (by rw [Try.ntmps100]; simp) ?_
  unfold c100
  have hb' : 5 + ((numW p.vars.length).length + ((varsW p.vars).length + ((numW p.locks).length + ((numW p.chans.length).length + ((chansW p.chans).length + ((numW p.funcs.length).length + (funsW p.funcs).length)))))) ≤ 549755813888 := by
    simp [bodyW, magicB] at hb; omega
  have hvl : p.vars.length < 9223372036854775807 := hp.fewv.lt (by decide)
  have hcl : p.chans.length < 9223372036854775807 := hp.fewc.lt (by decide)
  have hfl : p.funcs.length < 9223372036854775807 := hp.fewf.lt (by decide)
  have hml : magicB.length = 5 := rfl
  simp [Prog.row, -List.map_append, -List.append_assoc]
  refine callo rfl Try.call134 magicR (flat_rows brow_flat) (by simp) ?_
  simp [-List.map_append, -List.append_assoc]
  refine callv 1 rfl Try.call137 (numR p.vars.length magicB (by omega)) (flat_rows brow_flat) rfl ⟨frz_rows rfl, .v _, trivial⟩ ?_
  simp [-List.map_append, -List.append_assoc]
  generalize hA1 : magicB ++ numW p.vars.length = A1
  have lA1 : A1.length = 5 + (numW p.vars.length).length := by rw [← hA1]; simp [hml]
  refine go_each hmx 2 10 p.vars (fun (s : Nat × List UInt8) => [(9, .os 1 s.1)]) (fun s => [.var (p.row.map .v), .arr s.1 1 (vrows (s.2.map brow))]) (fun k s rest => s.2 ++ varsW rest = A1 ++ varsW p.vars ∧ ∀ x ∈ rest, I64 x.init) (1, A1) hvl rfl (by simp) (by simp [Prog.row]) (by simp) (by simp) (by simp [Prog.row]) ⟨rfl, hp.vars⟩ ?_ ?_
  · rintro k x rest ⟨u, b⟩ hk hxk hr ⟨hj, hok⟩ hw
    simp only at hj hok
    have hx' : I64 x.init := hok x (by simp)
    have hok' : ∀ y ∈ rest, I64 y.init := fun y hy => hok y (by simp [hy])
    have lj := congrArg List.length hj
    simp only [varsW, List.length_append] at lj
    simp [hk, hxk, hw, Prog.row, Var.row, -List.map_append, -List.append_assoc]
    refine callv 1 rfl Try.call138 (flagR x.atomic b (by omega)) (flat_rows brow_flat) rfl ⟨frz_rows rfl, .v _, trivial⟩ ?_
    simp [-List.map_append, -List.append_assoc, hk, hxk, Prog.row, Var.row]
    refine callv 1 rfl Try.call139 (putIR (b ++ flagW x.atomic) x.init (by simp only [List.length_append]; omega) hx') (flat_rows brow_flat) rfl ⟨frz_rows rfl, .v _, trivial⟩ ?_
    simp [-List.map_append, -List.append_assoc]
    exact ⟨_, ⟨rfl, hw⟩, _, ⟨rfl, rfl⟩, by rw [← hj]; simp [varsW], hok'⟩
  rintro ⟨u, b⟩ ⟨hj, _⟩
  simp only [varsW, List.append_nil] at hj
  subst hj
  simp [Prog.row, -List.map_append, -List.append_assoc]
  refine callv 1 rfl Try.call137 (numR p.locks (A1 ++ varsW p.vars) (by simp only [List.length_append]; omega)) (flat_rows brow_flat) rfl ⟨frz_rows rfl, .v _, trivial⟩ ?_
  simp [-List.map_append, -List.append_assoc]
  refine callv 1 rfl Try.call137 (numR p.chans.length (A1 ++ varsW p.vars ++ numW p.locks) (by simp only [List.length_append]; omega)) (flat_rows brow_flat) rfl ⟨frz_rows rfl, .v _, trivial⟩ ?_
  simp [-List.map_append, -List.append_assoc]
  generalize hA2 : A1 ++ varsW p.vars ++ numW p.locks ++ numW p.chans.length = A2
  have lA2 : A2.length = A1.length + (varsW p.vars).length + (numW p.locks).length + (numW p.chans.length).length := by rw [← hA2]; simp; omega
  refine go_each hmx 2 11 p.chans (fun (s : Nat × List UInt8) => [(9, .os 1 s.1)]) (fun s => [.var (p.row.map .v), .arr s.1 1 (vrows (s.2.map brow))]) (fun k s rest => s.2 ++ chansW rest = A2 ++ chansW p.chans) (u + 1 + 1, A2) hcl rfl (by simp) (by simp [Prog.row]) (by simp) (by simp) (by simp [Prog.row]) rfl ?_ ?_
  · rintro k x rest ⟨u, b⟩ hk hxk hr hj hw
    simp only at hj
    have lj := congrArg List.length hj
    simp only [chansW, List.length_append] at lj
    simp [hk, hxk, hw, Prog.row, irow, -List.map_append, -List.append_assoc]
    refine callv 1 rfl Try.call137 (numR x b (by omega)) (flat_rows brow_flat) rfl ⟨frz_rows rfl, .v _, trivial⟩ ?_
    simp [-List.map_append, -List.append_assoc]
    exact ⟨_, ⟨rfl, hw⟩, _, ⟨rfl, rfl⟩, by rw [← hj]; simp [chansW]⟩
  rintro ⟨u', b⟩ hj
  simp only [chansW, List.append_nil] at hj
  subst hj
  simp [Prog.row, -List.map_append, -List.append_assoc]
  refine callv 1 rfl Try.call137 (numR p.funcs.length (A2 ++ chansW p.chans) (by simp only [List.length_append]; omega)) (flat_rows brow_flat) rfl ⟨frz_rows rfl, .v _, trivial⟩ ?_
  simp [-List.map_append, -List.append_assoc]
  have hA3 : A2 ++ chansW p.chans ++ numW p.funcs.length = preW p := by rw [← hA2, ← hA1]; simp [preW]
  rw [hA3]
  have lA3 : (preW p).length + (funsW p.funcs).length ≤ 549755813888 := by rw [← hA3]; simp only [List.length_append]; omega
  refine go_each hmx 2 12 p.funcs (fun (s : Nat × List UInt8 × Int) => [(9, .os 1 s.1), (8, .v (.i .i64 s.2.2))]) (fun s => [.var (p.row.map .v), .arr s.1 1 (vrows (s.2.1.map brow))]) (fun k s rest => s.2.1 ++ funsW rest = preW p ++ funsW p.funcs ∧ funsSW f0 pc0 k s.2.1.length rest s.2.2 = funsSW f0 pc0 0 (preW p).length p.funcs 0 ∧ ∀ x ∈ rest, x.Ok ∧ ∀ i ∈ x.code, form i.op ≠ []) (u' + 1, preW p, 0) hfl rfl (by simp) (by simp [Prog.row]) (by simp) (by simp) (by simp [Prog.row]) ⟨rfl, rfl, fun x hx => ⟨hp.funcs x hx, hc x hx⟩⟩ ?_ ?_
  · rintro k f rest ⟨w0, b, t⟩ hk hxk hr ⟨hj, hs, hok⟩ hw
    simp only at hj hs hok
    obtain ⟨hf, hfc⟩ := hok f (by simp)
    have hok' : ∀ y ∈ rest, y.Ok ∧ ∀ i ∈ y.code, form i.op ≠ [] := fun y hy => hok y (by simp [hy])
    have lj := congrArg List.length hj
    simp only [funsW, funW, headW, List.length_append] at lj
    have hccl : f.code.length < 9223372036854775807 := hf.few.lt (by decide)
    have hcsl : f.selects.length < 9223372036854775807 := hf.fews.lt (by decide)
    simp [hk, hxk, hw, Prog.row, Func.row, -List.map_append, -List.append_assoc]
    refine callv 1 rfl Try.call137 (numR f.params b (by omega)) (flat_rows brow_flat) rfl ⟨frz_rows rfl, .v _, trivial⟩ ?_
    simp [-List.map_append, -List.append_assoc]
    refine callv 1 rfl Try.call137 (numR f.regs (b ++ numW f.params) (by simp only [List.length_append]; omega)) (flat_rows brow_flat) rfl ⟨frz_rows rfl, .v _, trivial⟩ ?_
    simp [-List.map_append, -List.append_assoc]
    refine callv 1 rfl Try.call140 (selectsR f.selects hcsl hf.sel (b ++ numW f.params ++ numW f.regs) (by simp only [List.length_append]; omega)) (flat_rows brow_flat) rfl ⟨frz_rows rfl, .v _, trivial⟩ ?_
    simp [-List.map_append, -List.append_assoc]
    refine callv 1 rfl Try.call137 (numR f.code.length (b ++ numW f.params ++ numW f.regs ++ (numW f.selects.length ++ selsW f.selects)) (by simp only [List.length_append]; omega)) (flat_rows brow_flat) rfl ⟨frz_rows rfl, .v _, trivial⟩ ?_
    simp [-List.map_append, -List.append_assoc]
    have hA5 : b ++ numW f.params ++ numW f.regs ++ (numW f.selects.length ++ selsW f.selects) ++ numW f.code.length = b ++ headW f := by simp [headW]
    rw [hA5]
    have lA5 : (b ++ headW f).length + (codeW f.code).length ≤ 549755813888 := by simp only [headW, List.length_append]; omega
    refine go_each hmx 3 14 f.code (fun (s : Nat × List UInt8 × Int) => [(9, .os 1 s.1), (8, .v (.i .i64 s.2.2))]) (fun s => [.var (p.row.map .v), .arr s.1 1 (vrows (s.2.1.map brow)), .var (f.row.map .v)]) (fun i s rest => s.2.1 ++ codeW rest = (b ++ headW f) ++ codeW f.code ∧ codeSW f0 pc0 k i s.2.1.length rest s.2.2 = codeSW f0 pc0 k 0 (b ++ headW f).length f.code t ∧ ∀ y ∈ rest, form y.op ≠ [] ∧ (I64 y.op ∧ I64 y.a ∧ I64 y.b ∧ I64 y.c ∧ I64 y.n)) (w0 + 1 + 1 + 1 + 1, b ++ headW f, t) hccl rfl (by simp) (by simp [Prog.row, Func.row]) (by simp) (by simp) (by simp [Prog.row, Func.row]) ⟨rfl, rfl, fun y hy => ⟨hfc y hy, hf.code y hy⟩⟩ ?_ ?_
    · rintro i x rest' ⟨v, c, t'⟩ hi hxi hr' ⟨hj2, hs2, hok2⟩ hw2
      simp only at hj2 hs2 hok2
      obtain ⟨hxf, hx5⟩ := hok2 x (by simp)
      have hok2' : ∀ y ∈ rest', form y.op ≠ [] ∧ (I64 y.op ∧ I64 y.a ∧ I64 y.b ∧ I64 y.c ∧ I64 y.n) := fun y hy => hok2 y (by simp [hy])
      have lj2 := congrArg List.length hj2
      simp only [codeW, List.length_append] at lj2
      simp only [List.length_append] at lA5
      have q1 : c ++ instrW x ++ codeW rest' = b ++ headW f ++ codeW f.code := by rw [← hj2]; simp [codeW]
      have q2 : codeSW f0 pc0 k (i + 1) (c ++ instrW x).length rest' (stepW f0 pc0 t' k i c.length) = codeSW f0 pc0 k 0 (b ++ headW f).length f.code t := by rw [← hs2]; simp [codeSW]
      by_cases h1 : (k : Int) = f0
      · by_cases h2 : (i : Int) = pc0
        · have e1 : ((k : Int) = f0) ↔ True := iff_true_intro h1
          have e2 : ((i : Int) = pc0) ↔ True := iff_true_intro h2
          rw [stepW, if_pos ⟨h1, h2⟩] at q2
          simp [hi, hxi, hw2, e1, e2, Func.row, Instr.row, Prog.row, -List.map_append, -List.append_assoc]
          refine callv 1 rfl Try.call101 (instrR x hxf hx5.2 c (by omega)) (flat_rows brow_flat) rfl ⟨frz_rows rfl, .v _, trivial⟩ ?_
          simp [-List.map_append, -List.append_assoc]
          exact ⟨_, _, _, ⟨rfl, rfl, hw2⟩, ⟨rfl, rfl⟩, q1, by simpa using q2, hok2'⟩
        · have e1 : ((k : Int) = f0) ↔ True := iff_true_intro h1
          rw [stepW, if_neg (fun h => h2 h.2)] at q2
          simp [hi, hxi, hw2, e1, h2, Func.row, Instr.row, Prog.row, -List.map_append, -List.append_assoc]
          refine callv 1 rfl Try.call101 (instrR x hxf hx5.2 c (by omega)) (flat_rows brow_flat) rfl ⟨frz_rows rfl, .v _, trivial⟩ ?_
          simp [-List.map_append, -List.append_assoc]
          exact ⟨_, _, _, ⟨rfl, rfl, hw2⟩, ⟨rfl, rfl⟩, q1, by simpa using q2, hok2'⟩
      · rw [stepW, if_neg (fun h => h1 h.1)] at q2
        simp [hi, hxi, hw2, h1, Func.row, Instr.row, Prog.row, -List.map_append, -List.append_assoc]
        refine callv 1 rfl Try.call101 (instrR x hxf hx5.2 c (by omega)) (flat_rows brow_flat) rfl ⟨frz_rows rfl, .v _, trivial⟩ ?_
        simp [-List.map_append, -List.append_assoc]
        exact ⟨_, _, _, ⟨rfl, rfl, hw2⟩, ⟨rfl, rfl⟩, q1, by simpa using q2, hok2'⟩
    · rintro ⟨v, c, t'⟩ ⟨hj2, hs2, _⟩
      simp only [codeW, List.append_nil] at hj2
      simp only [codeSW] at hs2
      subst hj2
      subst hs2
      simp [Prog.row, Func.row, -List.map_append, -List.append_assoc]
      exact ⟨_, _, _, ⟨rfl, rfl, hw⟩, ⟨rfl, rfl⟩, by rw [← hj]; simp [funsW, funW], by rw [← hs]; simp [funsSW, funW, Nat.add_assoc], hok'⟩
  rintro ⟨w0, b, t⟩ ⟨hj, hs, _⟩
  simp only [funsW, List.append_nil] at hj
  simp only [funsSW] at hs
  subst hj
  subst hs
  have hB : preW p ++ funsW p.funcs = bodyW p := by simp [preW, bodyW]
  simp [Prog.row, -List.map_append, -List.append_assoc, hB]
  refine callz rfl Try.call104 (sumR (bodyW p) (by omega)) (.i _ _) ⟨frz_rows rfl, trivial⟩ ?_
  simp [-List.map_append, -List.append_assoc]
  refine callk rfl Try.call136 (fixR (sumN (bodyW p)) (sumN_lt _)) rfl ?_
  have hrows : vrows ((progW p).map brow) = vrows ((bodyW p).map brow) ++ vrows ((fixN (sumN (bodyW p))).map brow) := by rw [progW, List.map_append, vrows_app]
  simp [-List.map_append, -List.append_assoc, fixN, bval]
  have hsl := sumN_lt (bodyW p)
  refine ⟨⟨by omega, by omega⟩, frz_tr (cs' := [_, _]) ⟨frz_rows (l := (progW p).map brow) ?_, .v _, trivial⟩⟩
  rw [hrows]
  simp [fixN, brow, vrows]
  try omega
end Go.Sc.Cw
/- Chapter 04: Encode, Sum and Where, by both texts. No condition. -/
set_option linter.constructorNameAsVariable false
namespace Go.Sc.Cw
open Go Go.RowKit Go.Av Go.Proofs Go.Sc.Oct
set_option linter.unusedSimpArgs false
set_option linter.unusedVariables false
/-- scarab/scarabref04.Encode -/
def c49 : ACode :=
  (.seq (.reg none [⟨some 1, none, .m (.box (.t 0))⟩, ⟨some 2, none, .q (.mv (.c .nil))⟩, ⟨some 3, none, .q (.mv (.c (.i .i64 0)))⟩])
  (.keep [1]
  (.seq (.seq (.reg none [⟨some 6, none, .q (.ld (some 4) (.t 1))⟩, ⟨some 7, none, .call (.f 102) [(.t 6)]⟩, ⟨some 8, none, .q (.un .not (.t 7))⟩])
    (.keep [1, 8]
    (.cond (.t 8) (.seq (.reg none [⟨some 2, none, .q (.mv (.c .nil))⟩, ⟨some 3, none, .q (.mv (.c (.i .i64 3)))⟩])
      .ret)
    .skip)))
  (.seq (.reg none [⟨some 10, none, .q (.ld (some 4) (.t 1))⟩, ⟨some 11, none, .call (.f 100) [(.t 10), (.c (.i .i64 (-1))), (.c (.i .i64 (-1)))]⟩, ⟨some 9, none, .q (.mv (.t 11))⟩, ⟨some 12, none, .q (.ext 0 (.t 9))⟩, ⟨some 13, none, .q (.ext 1 (.t 9))⟩, ⟨some 4, none, .q (.mv (.t 12))⟩, ⟨some 5, none, .q (.mv (.t 13))⟩])
  (.keep [4]
  (.seq (.reg none [⟨some 14, none, .q (.mv (.t 4))⟩, ⟨some 2, none, .q (.mv (.t 14))⟩, ⟨some 3, none, .q (.mv (.c (.i .i64 0)))⟩])
  .ret))))))
theorem r49 : (Try.f49.body.bind (resC Try.prog Try.f49.ntmps)) = some (strip c49) := by kernel_rfl
theorem s49 : Try.f49.results.toList.mapM (resRes Try.prog) = some [.t 2, .t 3] := by kernel_rfl
/-- scarab/scarabref04.Sum -/
def c52 : ACode :=
  (.seq (.reg none [⟨some 1, none, .m (.box (.t 0))⟩, ⟨some 2, none, .q (.mv (.c (.i .u32 0)))⟩, ⟨some 3, none, .q (.mv (.c (.i .i64 0)))⟩])
  (.keep [1]
  (.seq (.reg none [⟨some 7, none, .q (.ld (some 4) (.t 1))⟩, ⟨some 8, none, .call (.f 49) [(.t 7)]⟩, ⟨some 6, none, .q (.mv (.t 8))⟩, ⟨some 9, none, .q (.ext 0 (.t 6))⟩, ⟨some 10, none, .q (.ext 1 (.t 6))⟩, ⟨some 4, none, .q (.mv (.t 9))⟩, ⟨some 5, none, .q (.mv (.t 10))⟩])
  (.keep [4, 5]
  (.seq (.seq (.reg none [⟨some 11, none, .q (.mv (.t 5))⟩, ⟨some 12, none, .q (.bin .neq (.t 11) (.c (.i .i64 0)))⟩])
    (.keep [4, 5, 12]
    (.cond (.t 12) (.seq (.reg none [⟨some 13, none, .q (.mv (.t 5))⟩, ⟨some 2, none, .q (.mv (.c (.i .u32 0)))⟩, ⟨some 3, none, .q (.mv (.t 13))⟩])
      .ret)
    .skip)))
  (.seq (.reg none [⟨some 14, none, .q (.mv (.t 4))⟩, ⟨some 15, none, .q (.mv (.t 4))⟩, ⟨some 16, none, .q (.len false (.t 15))⟩, ⟨some 17, none, .q (.bin .sub (.t 16) (.c (.i .i64 4)))⟩, ⟨some 18, none, .q (.sls 1 (.t 14) none (some (.t 17)))⟩, ⟨some 19, none, .call (.f 104) [(.t 18)]⟩, ⟨some 2, none, .q (.mv (.t 19))⟩, ⟨some 3, none, .q (.mv (.c (.i .i64 0)))⟩])
  .ret))))))
theorem r52 : (Try.f52.body.bind (resC Try.prog Try.f52.ntmps)) = some (strip c52) := by kernel_rfl
theorem s52 : Try.f52.results.toList.mapM (resRes Try.prog) = some [.t 2, .t 3] := by kernel_rfl
/-- scarab/code.Length -/
def c50 : ACode :=
  (.seq (.reg none [⟨some 1, none, .m (.box (.t 0))⟩, ⟨some 2, none, .q (.mv (.c (.i .i64 0)))⟩, ⟨some 3, none, .q (.mv (.c (.i .i64 0)))⟩])
  (.keep [1]
  (.seq (.reg none [⟨some 7, none, .q (.ld (some 4) (.t 1))⟩, ⟨some 8, none, .call (.f 40) [(.t 7)]⟩, ⟨some 6, none, .q (.mv (.t 8))⟩, ⟨some 9, none, .q (.ext 0 (.t 6))⟩, ⟨some 10, none, .q (.ext 1 (.t 6))⟩, ⟨some 4, none, .q (.mv (.t 9))⟩, ⟨some 5, none, .q (.mv (.t 10))⟩])
  (.keep [4, 5]
  (.seq (.reg none [⟨some 11, none, .q (.mv (.t 4))⟩, ⟨some 12, none, .q (.len false (.t 11))⟩, ⟨some 13, none, .q (.mv (.t 5))⟩, ⟨some 2, none, .q (.mv (.t 12))⟩, ⟨some 3, none, .q (.mv (.t 13))⟩])
  .ret)))))
theorem r50 : (Try.f50.body.bind (resC Try.prog Try.f50.ntmps)) = some (strip c50) := by kernel_rfl
theorem s50 : Try.f50.results.toList.mapM (resRes Try.prog) = some [.t 2, .t 3] := by kernel_rfl
/-- scarab/code.Sum -/
def c51 : ACode :=
  (.seq (.reg none [⟨some 1, none, .m (.box (.t 0))⟩, ⟨some 2, none, .q (.mv (.c (.i .u32 0)))⟩, ⟨some 3, none, .q (.mv (.c (.i .i64 0)))⟩])
  (.keep [1]
  (.seq (.reg none [⟨some 10, none, .q (.ld (some 4) (.t 1))⟩, ⟨some 11, none, .call (.f 40) [(.t 10)]⟩, ⟨some 9, none, .q (.mv (.t 11))⟩, ⟨some 12, none, .q (.ext 0 (.t 9))⟩, ⟨some 13, none, .q (.ext 1 (.t 9))⟩, ⟨some 4, none, .q (.mv (.t 12))⟩, ⟨some 5, none, .q (.mv (.t 13))⟩])
  (.keep [4, 5]
  (.seq (.seq (.reg none [⟨some 14, none, .q (.mv (.t 5))⟩, ⟨some 15, none, .q (.bin .neq (.t 14) (.c (.i .i64 0)))⟩])
    (.keep [4, 5, 15]
    (.cond (.t 15) (.seq (.reg none [⟨some 16, none, .q (.mv (.t 5))⟩, ⟨some 2, none, .q (.mv (.c (.i .u32 0)))⟩, ⟨some 3, none, .q (.mv (.t 16))⟩])
      .ret)
    .skip)))
  (.seq (.reg none [⟨some 18, none, .q (.mv (.t 4))⟩, ⟨some 19, none, .q (.mv (.t 4))⟩, ⟨some 20, none, .q (.len false (.t 19))⟩, ⟨some 21, none, .q (.bin .sub (.t 20) (.c (.i .i64 4)))⟩, ⟨some 22, none, .call (.f 103) [(.t 18), (.t 21)]⟩, ⟨some 17, none, .q (.mv (.t 22))⟩, ⟨some 23, none, .q (.ext 0 (.t 17))⟩, ⟨some 24, none, .q (.ext 1 (.t 17))⟩, ⟨some 25, none, .q (.ext 2 (.t 17))⟩, ⟨some 6, none, .q (.mv (.t 23))⟩, ⟨some 7, none, .q (.mv (.t 24))⟩, ⟨some 8, none, .q (.mv (.t 25))⟩])
  (.keep [6]
  (.seq (.reg none [⟨some 26, none, .q (.mv (.t 6))⟩, ⟨some 2, none, .q (.mv (.t 26))⟩, ⟨some 3, none, .q (.mv (.c (.i .i64 0)))⟩])
  .ret))))))))
theorem r51 : (Try.f51.body.bind (resC Try.prog Try.f51.ntmps)) = some (strip c51) := by kernel_rfl
theorem s51 : Try.f51.results.toList.mapM (resRes Try.prog) = some [.t 2, .t 3] := by kernel_rfl
/-- scarab/scarabref04.Where -/
def c54 : ACode :=
  (.seq (.reg none [⟨some 3, none, .m (.box (.t 0))⟩, ⟨some 6, none, .q (.mv (.c (.i .i64 0)))⟩, ⟨some 7, none, .q (.mv (.c (.i .i64 0)))⟩])
  (.keep [1, 2, 3]
  (.seq (.seq (.reg none [⟨some 10, none, .q (.ld (some 4) (.t 3))⟩, ⟨some 11, none, .call (.f 102) [(.t 10)]⟩, ⟨some 12, none, .q (.un .not (.t 11))⟩])
    (.keep [1, 2, 3, 12]
    (.cond (.t 12) (.seq (.reg none [⟨some 6, none, .q (.mv (.c (.i .i64 0)))⟩, ⟨some 7, none, .q (.mv (.c (.i .i64 3)))⟩])
      .ret)
    .skip)))
  (.seq (.seq (.reg none [⟨some 13, none, .q (.mv (.t 1))⟩, ⟨some 14, none, .q (.bin .lss (.t 13) (.c (.i .i64 0)))⟩, ⟨some 15, none, .q (.mv (.t 14))⟩, ⟨some 16, some (15, false), .q (.mv (.t 1))⟩, ⟨some 17, some (15, false), .q (.fa 3 (.t 3))⟩, ⟨some 18, some (15, false), .q (.ld none (.t 17))⟩, ⟨some 19, some (15, false), .q (.len false (.t 18))⟩, ⟨some 20, some (15, false), .q (.bin .geq (.t 16) (.t 19))⟩, ⟨some 21, none, .pk (.t 15) (.c (.b true)) (.t 20)⟩, ⟨some 22, none, .q (.mv (.t 21))⟩, ⟨some 23, some (22, false), .q (.mv (.t 2))⟩, ⟨some 24, some (22, false), .q (.bin .lss (.t 23) (.c (.i .i64 0)))⟩, ⟨some 25, none, .pk (.t 22) (.c (.b true)) (.t 24)⟩, ⟨some 26, none, .q (.mv (.t 25))⟩, ⟨some 27, some (26, false), .q (.mv (.t 2))⟩, ⟨some 28, some (26, false), .q (.fa 3 (.t 3))⟩, ⟨some 29, some (26, false), .q (.ld none (.t 28))⟩, ⟨some 30, some (26, false), .q (.mv (.t 1))⟩, ⟨some 31, some (26, false), .q (.ias 4 (.t 29) (.t 30))⟩, ⟨some 32, some (26, false), .q (.fa 2 (.t 31))⟩, ⟨some 33, some (26, false), .q (.ld none (.t 32))⟩, ⟨some 34, some (26, false), .q (.len false (.t 33))⟩, ⟨some 35, some (26, false), .q (.bin .geq (.t 27) (.t 34))⟩, ⟨some 36, none, .pk (.t 26) (.c (.b true)) (.t 35)⟩])
    (.keep [1, 2, 3, 36]
    (.cond (.t 36) (.seq (.reg none [⟨some 6, none, .q (.mv (.c (.i .i64 0)))⟩, ⟨some 7, none, .q (.mv (.c (.i .i64 1)))⟩])
      .ret)
    .skip)))
  (.seq (.reg none [⟨some 38, none, .q (.ld (some 4) (.t 3))⟩, ⟨some 39, none, .q (.mv (.t 1))⟩, ⟨some 40, none, .q (.mv (.t 2))⟩, ⟨some 41, none, .call (.f 100) [(.t 38), (.t 39), (.t 40)]⟩, ⟨some 37, none, .q (.mv (.t 41))⟩, ⟨some 42, none, .q (.ext 0 (.t 37))⟩, ⟨some 43, none, .q (.ext 1 (.t 37))⟩, ⟨some 8, none, .q (.mv (.t 42))⟩, ⟨some 9, none, .q (.mv (.t 43))⟩])
  (.keep [9]
  (.seq (.reg none [⟨some 44, none, .q (.mv (.t 9))⟩, ⟨some 6, none, .q (.mv (.t 44))⟩, ⟨some 7, none, .q (.mv (.c (.i .i64 0)))⟩])
  .ret)))))))
theorem r54 : (Try.f54.body.bind (resC Try.prog Try.f54.ntmps)) = some (strip c54) := by kernel_rfl
theorem s54 : Try.f54.results.toList.mapM (resRes Try.prog) = some [.t 6, .t 7] := by kernel_rfl
/-- scarab/code.Where -/
def c53 : ACode :=
  (.seq (.reg none [⟨some 3, none, .m (.box (.t 0))⟩, ⟨some 4, none, .m (.box (.t 1))⟩, ⟨some 5, none, .m (.box (.t 2))⟩, ⟨some 6, none, .q (.mv (.c (.i .i64 0)))⟩, ⟨some 7, none, .q (.mv (.c (.i .i64 0)))⟩])
  (.keep [3, 4, 5]
  (.seq (.seq (.reg none [⟨some 9, none, .q (.ld (some 4) (.t 3))⟩, ⟨some 10, none, .call (.f 79) [(.t 9)]⟩, ⟨some 11, none, .q (.un .not (.t 10))⟩])
    (.keep [3, 4, 5, 11]
    (.cond (.t 11) (.seq (.reg none [⟨some 6, none, .q (.mv (.c (.i .i64 0)))⟩, ⟨some 7, none, .q (.mv (.c (.i .i64 3)))⟩])
      .ret)
    .skip)))
  (.seq (.seq (.reg (some (24, [])) [⟨some 12, none, .q (.ld none (.t 4))⟩, ⟨some 13, none, .q (.bin .lss (.t 12) (.c (.i .i64 0)))⟩, ⟨some 14, none, .q (.mv (.t 13))⟩, ⟨some 15, some (14, false), .q (.ld none (.t 4))⟩, ⟨some 16, some (14, false), .q (.fa 3 (.t 3))⟩, ⟨some 17, some (14, false), .q (.ld none (.t 16))⟩, ⟨some 18, some (14, false), .q (.len false (.t 17))⟩, ⟨some 19, some (14, false), .q (.bin .geq (.t 15) (.t 18))⟩, ⟨some 20, none, .pk (.t 14) (.c (.b true)) (.t 19)⟩, ⟨some 21, none, .q (.mv (.t 20))⟩, ⟨some 22, some (21, false), .q (.ld none (.t 5))⟩, ⟨some 23, some (21, false), .q (.bin .lss (.t 22) (.c (.i .i64 0)))⟩, ⟨some 24, none, .pk (.t 21) (.c (.b true)) (.t 23)⟩, ⟨some 25, none, .q (.mv (.t 24))⟩, ⟨some 26, some (25, false), .q (.ld none (.t 5))⟩, ⟨some 27, some (25, false), .q (.fa 3 (.t 3))⟩, ⟨some 28, some (25, false), .q (.ld none (.t 27))⟩, ⟨some 29, some (25, false), .q (.ld none (.t 4))⟩, ⟨some 30, some (25, false), .q (.ias 4 (.t 28) (.t 29))⟩, ⟨some 31, some (25, false), .q (.fa 2 (.t 30))⟩, ⟨some 32, some (25, false), .q (.ld none (.t 31))⟩, ⟨some 33, some (25, false), .q (.len false (.t 32))⟩, ⟨some 34, some (25, false), .q (.bin .geq (.t 26) (.t 33))⟩, ⟨some 35, none, .pk (.t 25) (.c (.b true)) (.t 34)⟩])
    (.keep [3, 4, 5, 35]
    (.cond (.t 35) (.seq (.reg none [⟨some 6, none, .q (.mv (.c (.i .i64 0)))⟩, ⟨some 7, none, .q (.mv (.c (.i .i64 1)))⟩])
      .ret)
    .skip)))
  (.seq (.reg none [⟨some 8, none, .m (.alloc (.i .i64 0))⟩, ⟨none, none, .m (.st 1 (.t 8) (.c (.i .i64 0)))⟩])
  (.keep [3, 4, 5, 8]
  (.seq (.reg none [⟨some 36, none, .q (.ld (some 4) (.t 3))⟩, ⟨some 37, none, .q (.mkf 105 [(.t 4), (.t 5), (.t 8)])⟩, ⟨some 38, none, .call (.f 80) [(.t 36), (.t 37)]⟩])
  (.keep [8]
  (.seq (.reg none [⟨some 39, none, .q (.ld none (.t 8))⟩, ⟨some 6, none, .q (.mv (.t 39))⟩, ⟨some 7, none, .q (.mv (.c (.i .i64 0)))⟩])
  .ret)))))))))
theorem r53 : (Try.f53.body.bind (resC Try.prog Try.f53.ntmps)) = some (strip c53) := by kernel_rfl
theorem s53 : Try.f53.results.toList.mapM (resRes Try.prog) = some [.t 6, .t 7] := by kernel_rfl
theorem encodeR (p : Prog) (hp : p.Ok) : PureS Try.prog 49 [.g p.row] (encV p) := by
  refine pure_wkv ?_
  refine fun_go hmx Try.func49 r49 s49 (by rw [Try.ntmps49]; simp) ?_
  unfold c49
  simp [Prog.row]
  refine callk rfl Try.call102 (rightR p hp) rfl ?_
  by_cases h : (check p).1 = 0
  · obtain ⟨h1, h2⟩ := right_forms hp h
    simp [encV, h]
    refine callk rfl Try.call100 (bytesR p hp (-1) (-1) h1 (by omega)) rfl ?_
    simp
  · simp [encV, h]
def sumV (p : Prog) : AV := if (check p).1 = 0 then .tup [.i .u32 (sumN (bodyW p) : Int), .i .i64 0] else .tup [.i .u32 0, .i .i64 3]
theorem take_body (p : Prog) : List.take (bodyW p).length (progW p) = bodyW p := by rw [progW, List.take_left]
theorem sumRV (p : Prog) (hp : p.Ok) : PureS Try.prog 52 [.g p.row] (sumV p) := by
  refine fun_go hmx Try.func52 r52 s52 (by rw [Try.ntmps52]; simp) ?_
  unfold c52
  simp [Prog.row]
  refine callk rfl Try.call49 (encodeR p hp) rfl ?_
  by_cases h : (check p).1 = 0
  · obtain ⟨h1, h2⟩ := right_forms hp h
    have hl := progW_length p
    have hw : IntKind.i64.wrap (((progW p).length : Int) - 4) = ((bodyW p).length : Int) := by rw [wrap_in (by omega) (by omega)]; omega
    simp [encV, h, sumV, hw]
    refine ⟨by omega, ?_⟩
    have hs := sumR (bodyW p) (by omega)
    rw [← take_body p, List.map_take, take_body p] at hs
    refine callk rfl Try.call104 hs rfl ?_
    simp
  · simp [encV, h, sumV]
def lenV (p : Prog) : AV := if (check p).1 = 0 then .tup [.i .i64 ((progW p).length : Int), .i .i64 0] else .tup [.i .i64 0, .i .i64 3]
theorem length_w (p : Prog) (hp : p.Ok) : PureS Try.prog 50 [.g p.row] (lenV p) := by
  refine fun_go hmx Try.func50 r50 s50 (by rw [Try.ntmps50]; simp) ?_
  unfold c50
  simp [Prog.row]
  refine callk rfl Try.call40 (encode_w p hp) rfl ?_
  by_cases h : (check p).1 = 0
  · simp [encV, h, lenV]
  · simp [encV, h, lenV]
theorem sum_w (p : Prog) (hp : p.Ok) : PureS Try.prog 51 [.g p.row] (sumV p) := by
  refine fun_go hmx Try.func51 r51 s51 (by rw [Try.ntmps51]; simp) ?_
  unfold c51
  simp [Prog.row]
  refine callk rfl Try.call40 (encode_w p hp) rfl ?_
  by_cases h : (check p).1 = 0
  · obtain ⟨h1, h2⟩ := right_forms hp h
    have hl := progW_length p
    have hw : IntKind.i64.wrap (((progW p).length : Int) - 4) = ((bodyW p).length : Int) := by rw [wrap_in (by omega) (by omega)]; omega
    have hg := gfO (progW p) (bodyW p).length (by omega)
    have hf : fixRd (progW p) ((bodyW p).length : Int) = .tup [.i .u32 (sumN (bodyW p) : Int), .i .i64 (((bodyW p).length : Int) + 4), .i .i64 0] := by
      have h4 : four (progW p) (bodyW p).length = fixN (sumN (bodyW p)) := by
        rw [four, show (bodyW p).length + 4 = (progW p).length by omega, List.take_length, progW, List.drop_left]
      rw [fixRd, if_neg (by omega), if_neg (by omega)]
      rw [show ((bodyW p).length : Int).toNat = (bodyW p).length by omega, h4, be_fix (sumN_lt _)]
    rw [hf] at hg
    simp [encV, h, sumV, hw]
    refine callk rfl Try.call103 hg rfl ?_
    simp
  · simp [encV, h, sumV]
/-- Whether an instruction is there. -/
def There (p : Prog) (f pc : Int) : Prop := 0 ≤ f ∧ f < p.funcs.length ∧ 0 ≤ pc ∧ ∀ fn, p.funcs[f.toNat]? = some fn → pc < fn.code.length
def whereV (p : Prog) (f pc : Int) : AV := if (check p).1 ≠ 0 then .tup [.i .i64 0, .i .i64 3] else if f < 0 ∨ (p.funcs.length : Int) ≤ f ∨ pc < 0 ∨ (((p.funcs[f.toNat]?).map fun fn => (fn.code.length : Int)).getD 0) ≤ pc then .tup [.i .i64 0, .i .i64 1] else .tup [.i .i64 (funsSW f pc 0 (preW p).length p.funcs 0), .i .i64 0]
theorem whereR (p : Prog) (hp : p.Ok) (f pc : Int) : PureS Try.prog 54 [.g p.row, .i .i64 f, .i .i64 pc] (whereV p f pc) := by
  refine fun_go hmx Try.func54 r54 s54 (by rw [Try.ntmps54]; simp) ?_
  unfold c54
  simp [Prog.row]
  refine callk rfl Try.call102 (rightR p hp) rfl ?_
  by_cases h : (check p).1 = 0
  · obtain ⟨h1, h2⟩ := right_forms hp h
    have hb := bytesR p hp f pc h1 (by omega)
    by_cases c1 : f < 0
    · cases hg : p.funcs[f.toNat]? <;> simp [h, c1, hg, Func.row, whereV]
    obtain ⟨n, rfl⟩ := Int.eq_ofNat_of_zero_le (show 0 ≤ f by omega)
    by_cases c2 : (p.funcs.length : Int) ≤ n
    · have c2' : p.funcs.length ≤ n := by omega
      simp [h, c1, c2, c2', whereV]
    have c2' : n < p.funcs.length := by omega
    have c2'' : ¬ p.funcs.length ≤ n := by omega
    have hget : p.funcs[n]? = some p.funcs[n] := List.getElem?_eq_getElem c2'
    generalize hfn : p.funcs[n] = fn at hget
    by_cases c3 : pc < 0
    · simp [h, c1, c2', c2'', c3, hget, hfn, Func.row, whereV]
    have c3' : 0 ≤ pc := by omega
    by_cases c4 : (fn.code.length : Int) ≤ pc
    · simp [h, c1, c2', c2'', c3, c3', c4, hget, hfn, Func.row, whereV]
    · simp [h, c1, c2', c2'', c3, c3', c4, hget, hfn, Func.row, whereV]
      refine callk rfl Try.call100 hb rfl ?_
      simp
  · simp [h, whereV]
theorem whereW (p : Prog) (hp : p.Ok) (f pc : Int) : PureS Try.prog 53 [.g p.row, .i .i64 f, .i .i64 pc] (whereV p f pc) := by
  refine fun_go hmx Try.func53 r53 s53 (by rw [Try.ntmps53]; simp) ?_
  unfold c53
  simp [Prog.row]
  refine callk rfl Try.call79 (right_w p hp) rfl ?_
  by_cases h : (check p).1 = 0
  · obtain ⟨h1, h2⟩ := right_forms hp h
    by_cases c1 : f < 0
    · cases hg : p.funcs[f.toNat]? <;> simp [h, c1, hg, Func.row, whereV]
    obtain ⟨n, rfl⟩ := Int.eq_ofNat_of_zero_le (show 0 ≤ f by omega)
    by_cases c2 : (p.funcs.length : Int) ≤ n
    · have c2' : p.funcs.length ≤ n := by omega
      simp [h, c1, c2, c2', whereV]
    have c2' : n < p.funcs.length := by omega
    have c2'' : ¬ p.funcs.length ≤ n := by omega
    have hget : p.funcs[n]? = some p.funcs[n] := List.getElem?_eq_getElem c2'
    generalize hfn : p.funcs[n] = fn at hget
    by_cases c3 : pc < 0
    · simp [h, c1, c2', c2'', c3, hget, hfn, Func.row, whereV]
    have c3' : 0 ≤ pc := by omega
    by_cases c4 : (fn.code.length : Int) ≤ pc
    · simp [h, c1, c2', c2'', c3, c3', c4, hget, hfn, Func.row, whereV]
    · simp [h, c1, c2', c2'', c3, c3', c4, hget, hfn, Func.row, whereV]
      refine callf [1, 2, 3] rfl Try.call80 (written_W n pc 0 p (fun _ _ _ _ _ => trivial) hp h1 (by omega)) (by decide) rfl (by simp [seeW]) (by simp [objsW]) (by simp [Prog.row, seeW]) ?_
      rintro _ _ ⟨v, rfl, rfl⟩
      simp [objsW]
  · simp [h, whereV]
end Go.Sc.Cw
