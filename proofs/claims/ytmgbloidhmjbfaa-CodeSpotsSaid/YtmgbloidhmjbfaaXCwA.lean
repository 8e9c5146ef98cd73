/- Chapter 04: numbers, truths, instructions in bytes, by the program. No condition. -/
import Derived.Test.YtmgbloidhmjbfaaXOctC
import Derived.Test.YtmgbloidhmjbfaaXT3n
set_option linter.constructorNameAsVariable false
namespace Go.Sc.Cw
open Go Go.RowKit Go.Av Go.Proofs Go.Sc.Oct
set_option linter.unusedSimpArgs false
set_option linter.unusedVariables false
/-- (*scarab/code.writer).num -/
def c112 : ACode :=
  (.reg none [⟨some 4, none, .q (.mv (.t 0))⟩, ⟨some 5, none, .q (.mv (.t 0))⟩, ⟨some 6, none, .q (.nck (.t 5))⟩, ⟨some 7, none, .q (.fa 0 (.t 6))⟩, ⟨some 8, none, .q (.ld none (.t 7))⟩, ⟨some 9, none, .q (.mv (.t 1))⟩, ⟨some 10, none, .q (.cvi .u64 (.t 9))⟩, ⟨some 11, none, .call (.f 146) [(.t 8), (.t 10)]⟩, ⟨some 12, none, .q (.nck (.t 4))⟩, ⟨some 13, none, .q (.fa 0 (.t 12))⟩, ⟨none, none, .m (.st 1 (.t 13) (.t 11))⟩])
theorem r112 : (Try.f112.body.bind (resC Try.prog Try.f112.ntmps)) = some (strip c112) := by kernel_rfl
theorem s112 : Try.f112.results.toList.mapM (resRes Try.prog) = some [] := by kernel_rfl
/-- (*scarab/code.writer).truth -/
def c113 : ACode :=
  (.seq (.reg none [⟨some 4, none, .q (.mv (.t 1))⟩])
  (.keep [0, 4]
  (.cond (.t 4) (.reg none [⟨some 5, none, .q (.mv (.t 0))⟩, ⟨some 6, none, .call (.f 112) [(.t 5), (.c (.i .i64 1))]⟩])
  (.reg none [⟨some 7, none, .q (.mv (.t 0))⟩, ⟨some 8, none, .call (.f 112) [(.t 7), (.c (.i .i64 0))]⟩]))))
theorem r113 : (Try.f113.body.bind (resC Try.prog Try.f113.ntmps)) = some (strip c113) := by kernel_rfl
theorem s113 : Try.f113.results.toList.mapM (resRes Try.prog) = some [] := by kernel_rfl
/-- (*scarab/code.writer).instr -/
def c98 : ACode :=
  (.seq (.reg none [⟨some 3, none, .m (.box (.t 1))⟩])
  (.keep [0, 3]
  (.seq (.reg none [⟨some 7, none, .q (.mv (.t 0))⟩, ⟨some 8, none, .q (.fa 0 (.t 3))⟩, ⟨some 9, none, .q (.ld none (.t 8))⟩, ⟨some 10, none, .call (.f 112) [(.t 7), (.t 9)]⟩])
  (.keep [0, 3]
  (.seq (.reg none [⟨some 11, none, .q (.fa 0 (.t 3))⟩, ⟨some 12, none, .q (.ld none (.t 11))⟩, ⟨some 13, none, .call (.f 130) [(.t 12)]⟩, ⟨some 4, none, .q (.mv (.t 13))⟩])
  (.keep [0, 3, 4]
  (.seq (.reg none [⟨some 14, none, .q (.ld (some 5) (.t 3))⟩, ⟨some 15, none, .call (.f 133) [(.t 14)]⟩, ⟨some 16, none, .q (.mv (.c (.i .i64 0)))⟩])
  (.keep [0, 4, 15, 16]
  (.blk 0 (.keep [0, 4, 15, 16]
  (.loop (.fin [0, 4, 15, 16]
    (.seq (.reg none [⟨some 17, none, .q (.bin .lss (.t 16) (.c (.i .i64 4)))⟩])
    (.keep [0, 4, 15, 16, 17]
    (.seq (.cond (.t 17) .skip
      (.exit 0))
    (.seq (.blk 1 (.seq (.reg none [⟨some 18, none, .q (.mv (.t 16))⟩, ⟨some 19, none, .q (.idx 4 1 false (.t 15) (.t 16))⟩, ⟨some 5, none, .q (.mv (.t 18))⟩, ⟨some 6, none, .q (.mv (.t 19))⟩])
      (.keep [0, 4, 5, 6, 15, 16]
      (.seq (.reg none [⟨some 20, none, .q (.mv (.t 4))⟩, ⟨some 21, none, .q (.mv (.t 5))⟩, ⟨some 22, none, .q (.sidx (.t 20) (.t 21))⟩])
      (.keep [0, 4, 6, 15, 16, 22]
      (.blk 2 (.seq (.reg none [⟨some 27, none, .q (.bin .eql (.t 22) (.c (.i .u8 45)))⟩, ⟨some 26, none, .q (.mv (.t 27))⟩])
      (.keep [0, 4, 6, 15, 16, 22, 26]
      (.cond (.t 26) .skip
      (.seq (.reg none [⟨some 29, none, .q (.bin .eql (.t 22) (.c (.i .u8 110)))⟩, ⟨some 28, none, .q (.mv (.t 29))⟩])
        (.keep [0, 4, 6, 15, 16, 22, 28]
        (.cond (.t 28) (.reg none [⟨some 30, none, .q (.mv (.t 0))⟩, ⟨some 31, none, .q (.mv (.t 0))⟩, ⟨some 32, none, .q (.nck (.t 31))⟩, ⟨some 33, none, .q (.fa 0 (.t 32))⟩, ⟨some 34, none, .q (.ld none (.t 33))⟩, ⟨some 35, none, .q (.mv (.t 6))⟩, ⟨some 36, none, .call (.f 114) [(.t 34), (.t 35)]⟩, ⟨some 37, none, .q (.nck (.t 30))⟩, ⟨some 38, none, .q (.fa 0 (.t 37))⟩, ⟨none, none, .m (.st 1 (.t 38) (.t 36))⟩])
        (.seq (.reg none [⟨some 40, none, .q (.bin .eql (.t 22) (.c (.i .u8 111)))⟩, ⟨some 39, none, .q (.mv (.t 40))⟩])
          (.keep [0, 4, 6, 15, 16, 39]
          (.cond (.t 39) (.reg none [⟨some 41, none, .q (.mv (.t 0))⟩, ⟨some 42, none, .q (.mv (.t 6))⟩, ⟨some 43, none, .q (.bin .add (.t 42) (.c (.i .i64 1)))⟩, ⟨some 44, none, .call (.f 112) [(.t 41), (.t 43)]⟩])
          (.reg none [⟨some 23, none, .q (.mv (.t 0))⟩, ⟨some 24, none, .q (.mv (.t 6))⟩, ⟨some 25, none, .call (.f 112) [(.t 23), (.t 24)]⟩]))))))))))))))))
    (.keep [0, 4, 15, 16]
    (.reg none [⟨some 45, none, .q (.bin .add (.t 16) (.c (.i .i64 1)))⟩, ⟨some 16, none, .q (.mv (.t 45))⟩]))))))))))))))))))
theorem r98 : (Try.f98.body.bind (resC Try.prog Try.f98.ntmps)) = some (strip c98) := by kernel_rfl
theorem s98 : Try.f98.results.toList.mapM (resRes Try.prog) = some [] := by kernel_rfl
/-- scarab/code.operands -/
def c133 : ACode :=
  (.seq (.reg none [⟨some 1, none, .m (.box (.t 0))⟩, ⟨some 2, none, .m (.alloc (.g [(.i .i64 0), (.i .i64 0), (.i .i64 0), (.i .i64 0)]))⟩])
  (.keep [1, 2]
  (.seq (.reg none [⟨some 3, none, .q (.fa 1 (.t 1))⟩, ⟨some 4, none, .q (.ld none (.t 3))⟩, ⟨some 5, none, .q (.fa 2 (.t 1))⟩, ⟨some 6, none, .q (.ld none (.t 5))⟩, ⟨some 7, none, .q (.fa 3 (.t 1))⟩, ⟨some 8, none, .q (.ld none (.t 7))⟩, ⟨some 9, none, .q (.fa 4 (.t 1))⟩, ⟨some 10, none, .q (.ld none (.t 9))⟩, ⟨some 11, none, .q (.bld [(.i .i64 0), (.i .i64 0), (.i .i64 0), (.i .i64 0)] [(0, 1, .t 4), (1, 1, .t 6), (2, 1, .t 8), (3, 1, .t 10)])⟩, ⟨none, none, .m (.st 4 (.t 2) (.t 11))⟩])
  .ret)))
theorem r133 : (Try.f133.body.bind (resC Try.prog Try.f133.ntmps)) = some (strip c133) := by kernel_rfl
theorem s133 : Try.f133.results.toList.mapM (resRes Try.prog) = some [.c 2 (some 4)] := by kernel_rfl
/-- scarab/code.magic -/
def c83 : ACode :=
  (.seq (.reg none [⟨some 0, none, .q (.mv (.c .nil))⟩])
  (.keep []
  (.seq (.reg none [⟨some 1, none, .m (.bsl 5 1 [(.i .u8 0)] [(0, 1, .c (.i .u8 83)), (1, 1, .c (.i .u8 67)), (2, 1, .c (.i .u8 82)), (3, 1, .c (.i .u8 66)), (4, 1, .c (.i .u8 1))])⟩, ⟨some 0, none, .q (.mv (.t 1))⟩])
  .ret)))
theorem r83 : (Try.f83.body.bind (resC Try.prog Try.f83.ntmps)) = some (strip c83) := by kernel_rfl
theorem s83 : Try.f83.results.toList.mapM (resRes Try.prog) = some [.t 0] := by kernel_rfl

/-- A writer and its bytes. -/
def wH (v : Nat) (bs : List UInt8) : List AObj := [.var [.os 1 v], .arr v 1 (vrows (bs.map brow))]
def WriteS (f : Nat) (args : List RV) (out : List UInt8) : Prop := ∀ v bs, bs.length + out.length ≤ 549755813888 → CallS Try.prog f (.pt 0 0 0 0 :: args) (wH v bs) fun r K => ∃ v', K = wH v' (bs ++ out)

theorem num_w (x : Int) : WriteS 112 [.v (.i .i64 x)] (numW x) := by
  intro v bs hb
  have hpos := numW_len x
  refine fun_cut 2 hmx Try.func112 r112 s112 (by rw [Try.ntmps112]; simp) (by first | exact Nat.le_refl _ | decide | simp) ?_
  unfold c112
  simp [wH, u64N_wrap]
  refine callv 1 rfl Try.call146 (putO bs (u64N x) (by omega) (u64N_lt x)) (flat_rows brow_flat) rfl ⟨frz_rows rfl, .v _, trivial⟩ ?_
  simp [numW]
theorem truth_w (b : Bool) : WriteS 113 [.v (.b b)] (flagW b) := by
  intro v bs hb
  refine fun_cut 2 hmx Try.func113 r113 s113 (by rw [Try.ntmps113]; simp) (by first | exact Nat.le_refl _ | decide | simp) ?_
  unfold c113
  cases b with
  | true =>
    simp [wH]
    refine callf [0, 1] rfl Try.call112 (num_w 1 v bs (by simpa [flagW] using hb)) (by decide) rfl (by simp [RV.dom, domL]) (by simp [wH]) (by simp) ?_
    rintro r K ⟨v', rfl⟩
    simp [wH, flagW]
  | false =>
    simp [wH]
    refine callf [0, 1] rfl Try.call112 (num_w 0 v bs (by simpa [flagW] using hb)) (by decide) rfl (by simp [RV.dom, domL]) (by simp [wH]) (by simp) ?_
    rintro r K ⟨v', rfl⟩
    simp [wH, flagW]

theorem operands_w (i : Instr) : PureS Try.prog 133 [.g i.row] (.g [.i .i64 i.a, .i .i64 i.b, .i .i64 i.c, .i .i64 i.n]) := by
  refine fun_go hmx Try.func133 r133 s133 (by rw [Try.ntmps133]; simp) ?_
  unfold c133
  simp [Instr.row]
theorem magic_w : Own1 Try.prog 83 [] 1 (magicB.map brow) := by
  refine fun_sel [0] hmx Try.func83 r83 s83 (by rw [Try.ntmps83]; simp) (by first | exact Nat.le_refl _ | decide | simp) (by simp) ?_
  unfold c83
  simp [vrows, magicB, brow]

theorem instr_w (i : Instr) (hf : form i.op ≠ []) (hi : I64 i.a ∧ I64 i.b ∧ I64 i.c ∧ I64 i.n) : WriteS 98 [.v (.g i.row)] (instrW i) := by
  intro v bs hb
  obtain ⟨l0, l1, l2, l3, hl⟩ : ∃ l0 l1 l2 l3, form i.op = [l0, l1, l2, l3] := (form_four i.op).resolve_left hf
  refine fun_cut 2 hmx Try.func98 r98 s98 (by rw [Try.ntmps98]; simp) (by first | exact Nat.le_refl _ | decide | simp) ?_
  unfold c98
  simp [wH, Instr.row]
  refine callf [0, 1] rfl Try.call112 (num_w i.op v bs (by simp [instrW] at hb; omega)) (by decide) rfl (by simp) (by simp [wH]) (by simp) ?_
  rintro r K ⟨v', rfl⟩
  simp [wH]
  refine callk rfl Try.call130 (Q03.form15 i.op) rfl ?_
  simp
  refine callk rfl Try.call133 (operands_w i) rfl ?_
  simp
  obtain ⟨xs, hxl, hx1, hx2, hx3, hx4⟩ : ∃ xs : List (UInt8 × Int), xs.length = 4 ∧ form i.op = xs.map (·.1) ∧ [AV.i .i64 i.a, .i .i64 i.b, .i .i64 i.c, .i .i64 i.n] = xs.map (fun p => AV.i .i64 p.2) ∧ opsW xs = opsW ((form i.op).zip [i.a, i.b, i.c, i.n]) ∧ ∀ p ∈ xs, I64 p.2 := by
    refine ⟨[(l0, i.a), (l1, i.b), (l2, i.c), (l3, i.n)], rfl, by simp [hl], rfl, by simp [hl], ?_⟩
    simp
    exact ⟨hi.1, hi.2.1, hi.2.2.1, hi.2.2.2⟩
  rw [hx2, hx1]
  have hn := numW_len i.op
  refine go_each hmx 3 16 xs (fun (_ : Nat × List UInt8) => []) (fun s => wH s.1 s.2 ++ [.var (i.row.map .v)]) (fun k s rest => s.2 ++ opsW rest = bs ++ instrW i ∧ ∀ p ∈ rest, I64 p.2) (v', bs ++ numW i.op) (by omega) rfl rfl (by simp [wH, Instr.row]) (by simp) (by simp) (by simp [wH, Instr.row]) ⟨by simp [instrW, ← hx3], hx4⟩ ?_ ?_
  · rintro k ⟨l, x⟩ rest ⟨u, b⟩ hk hxk hr ⟨hj, hj3⟩ hw
    simp only at hj hj3
    have hk4 : k < 4 := by omega
    have hk' : (k : Int) < 4 := by omega
    have hk2 : ¬ (4 : Int) ≤ k := by omega
    have hx64 : I64 x := hj3 (l, x) (by simp)
    have hj4 : ∀ (a : UInt8) (b : Int), (a, b) ∈ rest → I64 b := fun a b h => hj3 (a, b) (by simp [h])
    have hj5 : (b ++ opW l x) ++ opsW rest = bs ++ instrW i := by rw [← hj]; simp [opsW]
    have hj6 : b.length + (opW l x).length ≤ bs.length + (instrW i).length := by
      have := congrArg List.length hj5
      simp at this; omega
    have hl' : ∀ n : Nat, n < 256 → ((l.toNat : Int) = n ↔ l = UInt8.ofNat n) := fun n hn => by
      constructor
      · intro h
        have : l.toNat = n := by omega
        rw [← this]; simp
      · rintro rfl; rw [u8_toNat hn]
    have h45 := hl' 45 (by omega)
    have h110 := hl' 110 (by omega)
    have h111 := hl' 111 (by omega)
    simp only [Int.cast_ofNat_Int] at h45 h110 h111
    have h45 : ((l.toNat : Int) = 45) ↔ l = 45 := h45
    have h110 : ((l.toNat : Int) = 110) ↔ l = 110 := h110
    have h111 : ((l.toNat : Int) = 111) ↔ l = 111 := h111
    simp [hk', hk2, hk, hxk, hw, wH, hk4, h45, h110, h111]
    refine ⟨fun h1 => ⟨u, b, ⟨rfl, rfl⟩, ?_, hj4⟩, fun h1 => ⟨fun h2 => ?_, fun h2 => ⟨fun h3 => ?_, fun h3 => ?_⟩⟩⟩
    · rw [opW, if_pos h1] at hj5; simpa using hj5
    · refine callv 1 rfl Try.call114 (putIO b x (by omega) hx64) (flat_rows brow_flat) rfl ⟨frz_rows rfl, .v _, trivial⟩ ?_
      have ho : opW l x = putN (zigN x) := by rw [opW, if_neg h1, if_pos h2]
      rw [ho] at hj5 hj6
      simp
      exact ⟨hw, u + 1, b ++ putN (zigN x), ⟨rfl, by simp⟩, by simpa using hj5, hj4⟩
    · have ho : opW l x = numW (x + 1) := by rw [opW, if_neg h1, if_neg h2, if_pos h3]
      have he : numW (IntKind.i64.wrap (x + 1)) = numW (x + 1) := by
        simp only [numW, u64N]; congr 2; rw [IntKind.wrap_i64]; omega
      refine callf [0, 1] rfl Try.call112 (num_w (IntKind.i64.wrap (x + 1)) u b (by rw [he, ← ho]; omega)) (by decide) rfl (by simp) (by simp [wH]) (by simp) ?_
      rintro r K ⟨v2, rfl⟩
      rw [ho] at hj5 hj6
      simp [wH, he]
      exact ⟨hw, v2, b ++ numW (x + 1), ⟨rfl, by simp⟩, by simpa using hj5, hj4⟩
    · have ho : opW l x = numW x := by rw [opW, if_neg h1, if_neg h2, if_neg h3]
      refine callf [0, 1] rfl Try.call112 (num_w x u b (by rw [← ho]; omega)) (by decide) rfl (by simp) (by simp [wH]) (by simp) ?_
      rintro r K ⟨v2, rfl⟩
      rw [ho] at hj5 hj6
      simp [wH]
      exact ⟨hw, v2, b ++ numW x, ⟨rfl, by simp⟩, by simpa using hj5, hj4⟩
  · rintro ⟨u, b⟩ ⟨hj, hj3⟩
    simp [hxl, wH]
    simp [opsW] at hj
    rw [hj]; simp
end Go.Sc.Cw
