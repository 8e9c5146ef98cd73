/- Chapter 04: the least program, by the program. No condition. -/
import Derived.Test.YtmgbloidhmjbfaaXCw
import Derived.Test.YtmgbloidhmjbfaaXCr
import Derived.Test.YtmgbloidhmjbfaaXT3
set_option linter.constructorNameAsVariable false
namespace Go.Sc.Cw
open Go Go.RowKit Go.Av Go.Proofs Go.Sc.Oct
set_option linter.unusedSimpArgs false
set_option linter.unusedVariables false
/-- scarab/scarablaw04.least -/
def c82 : ACode :=
  (.seq (.reg none [⟨some 0, none, .m (.alloc (.g [.nil, (.i .i64 0), .nil, .nil]))⟩])
  (.keep [0]
  (.seq (.reg none [⟨some 1, none, .q (.bld [(.i .i64 0), (.i .i64 0), (.i .i64 0), (.i .i64 0), (.i .i64 0)] [(0, 1, .c (.i .i64 45))])⟩, ⟨some 2, none, .m (.bsl 1 5 [(.i .i64 0), (.i .i64 0), (.i .i64 0), (.i .i64 0), (.i .i64 0)] [(0, 5, .t 1)])⟩, ⟨some 3, none, .q (.bld [(.i .i64 0), (.i .i64 0), .nil, .nil] [(2, 1, .t 2)])⟩, ⟨some 4, none, .m (.bsl 1 4 [(.i .i64 0), (.i .i64 0), .nil, .nil] [(0, 4, .t 3)])⟩, ⟨some 5, none, .q (.bld [.nil, (.i .i64 0), .nil, .nil] [(3, 1, .t 4)])⟩, ⟨none, none, .m (.st 4 (.t 0) (.t 5))⟩])
  .ret)))
theorem r82 : (Try.f82.body.bind (resC Try.prog Try.f82.ntmps)) = some (strip c82) := by kernel_rfl
theorem s82 : Try.f82.results.toList.mapM (resRes Try.prog) = some [.c 0 (some 4)] := by kernel_rfl
/-- scarab/scarabplain.SameBytes -/
def c45 : ACode :=
  (.seq (.reg none [⟨some 4, none, .q (.mv (.c (.b false)))⟩])
  (.keep [0, 1]
  (.seq (.reg none [⟨some 5, none, .q (.mv (.t 0))⟩, ⟨some 6, none, .q (.b2s (.t 5))⟩, ⟨some 7, none, .q (.mv (.t 1))⟩, ⟨some 8, none, .q (.b2s (.t 7))⟩, ⟨some 9, none, .q (.bin .eql (.t 6) (.t 8))⟩, ⟨some 4, none, .q (.mv (.t 9))⟩])
  .ret)))
theorem r45 : (Try.f45.body.bind (resC Try.prog Try.f45.ntmps)) = some (strip c45) := by kernel_rfl
theorem s45 : Try.f45.results.toList.mapM (resRes Try.prog) = some [.t 4] := by kernel_rfl
theorem frz_one {H : List AObj} {o v sz : Nat} {row : List RV} {row' : List AV} (h : H[o]? = some (.arr v sz [row])) (hr : FrzL H row row') : Frz H (.os o v) (.sl sz [row']) := by
  refine .os h rfl (fun r a b ha hb => ?_) (fun r a b j x x' ha hb hx hx' => ?_)
  · cases r with
    | zero => simp at ha hb; subst ha; subst hb; exact hr.get.1.symm
    | succ r => simp at ha
  · cases r with
    | zero => simp at ha hb; subst ha; subst hb; exact hr.get.2 j x x' hx hx'
    | succ r => simp at ha
theorem pure_weak {P : Program} {f : Nat} {xs ys : List AV} {r : AV} (h : PureS P f ys r) (hw : WkL xs ys) : PureS P f xs r := by
  intro e vs g hH hn hv
  obtain ⟨hl, hg⟩ := hw.get
  refine h e vs g hH (by simpa [hl] using hn) fun j x y hx hy => ?_
  rw [List.getElem?_map] at hx
  cases hyj : ys[j]? with
  | none => rw [hyj] at hx; cases hx
  | some b =>
    rw [hyj] at hx; cases hx
    have hj : j < xs.length := by rw [hl]; exact (List.getElem?_eq_some_iff.1 hyj).1
    have hxj : xs[j]? = some xs[j] := List.getElem?_eq_getElem hj
    have := hv j (.v xs[j]) y (by rw [List.getElem?_map, hxj]; rfl) hy
    cases this with
    | v hvi => exact .v ((hg j _ _ hxj hyj).vi hvi)
def leastP : Prog := ⟨[], 0, [], [⟨0, 0, [⟨45, 0, 0, 0, 0⟩], []⟩]⟩
theorem least_l : PureS Try.prog 82 [] (.g leastP.row) := by
  refine pure_of ?_
  refine fun_go hmx Try.func82 r82 s82 (by rw [Try.ntmps82]; simp) ?_
  unfold c82
  simp
  exact frz_gr (cs' := leastP.row) ⟨.nil 2, .v _, .nil 1, frz_one rfl ⟨.v _, .v _, frz_one rfl ⟨.v _, .v _, .v _, .v _, .v _, trivial⟩, .nil 2, trivial⟩, trivial⟩
theorem sameBytes_l (a b : List UInt8) : PureS Try.prog 45 [.sl 1 (a.map brow), .sl 1 (b.map brow)] (.b (decide (a = b))) := by
  refine fun_go hmx Try.func45 r45 s45 (by rw [Try.ntmps45]; simp) ?_
  unfold c45
  have e : ∀ l : List UInt8, List.map (byteOf' ∘ brow) l = l := fun l => by simp [Function.comp_def]
  simp [e]
  rw [Bool.eq_iff_iff]; simp
end Go.Sc.Cw
/- Chapter 04: that the code speaks, by the program. No condition. -/
set_option linter.constructorNameAsVariable false
namespace Go.Sc.Cw
open Go Go.RowKit Go.Av Go.Proofs Go.Sc.Oct
set_option linter.unusedSimpArgs false
set_option linter.unusedVariables false
/-- scarab/scarablaw04.speaks -/
def c41 : ACode :=
  (.seq (.reg none [⟨some 0, none, .q (.mv (.c (.b false)))⟩])
  (.keep []
  (.seq (.reg none [⟨some 10, none, .call (.f 82) []⟩, ⟨some 11, none, .call (.f 40) [(.t 10)]⟩, ⟨some 9, none, .q (.mv (.t 11))⟩, ⟨some 12, none, .q (.ext 0 (.t 9))⟩, ⟨some 13, none, .q (.ext 1 (.t 9))⟩, ⟨some 1, none, .q (.mv (.t 12))⟩, ⟨some 2, none, .q (.mv (.t 13))⟩])
  (.keep [1, 2]
  (.seq (.reg none [⟨some 15, none, .q (.mv (.t 1))⟩, ⟨some 16, none, .call (.f 42) [(.t 15)]⟩, ⟨some 14, none, .q (.mv (.t 16))⟩, ⟨some 17, none, .q (.ext 0 (.t 14))⟩, ⟨some 18, none, .q (.ext 1 (.t 14))⟩, ⟨some 19, none, .q (.ext 2 (.t 14))⟩, ⟨some 3, none, .m (.alloc (.g [.nil, (.i .i64 0), .nil, .nil]))⟩, ⟨none, none, .m (.st 4 (.t 3) (.t 17))⟩, ⟨some 4, none, .q (.mv (.t 18))⟩, ⟨some 5, none, .q (.mv (.t 19))⟩])
  (.keep [1, 2, 3, 4, 5]
  (.seq (.reg none [⟨some 21, none, .call (.f 42) [(.c .nil)]⟩, ⟨some 20, none, .q (.mv (.t 21))⟩, ⟨some 22, none, .q (.ext 0 (.t 20))⟩, ⟨some 23, none, .q (.ext 1 (.t 20))⟩, ⟨some 24, none, .q (.ext 2 (.t 20))⟩, ⟨some 6, none, .m (.alloc (.g [.nil, (.i .i64 0), .nil, .nil]))⟩, ⟨none, none, .m (.st 4 (.t 6) (.t 22))⟩, ⟨some 7, none, .q (.mv (.t 23))⟩, ⟨some 8, none, .q (.mv (.t 24))⟩])
  (.keep [1, 2, 3, 4, 5, 7, 8]
  (.seq (.reg (some (17, [16])) [⟨some 25, none, .q (.mv (.t 1))⟩, ⟨some 26, none, .q (.len false (.t 25))⟩, ⟨some 27, none, .q (.bin .eql (.t 26) (.c (.i .i64 18)))⟩, ⟨some 28, none, .q (.mv (.t 27))⟩, ⟨some 29, some (28, true), .q (.mv (.t 2))⟩, ⟨some 30, some (28, true), .q (.bin .eql (.t 29) (.c (.i .i64 0)))⟩, ⟨some 31, none, .pk (.t 28) (.t 30) (.c (.b false))⟩, ⟨some 32, none, .q (.mv (.t 31))⟩, ⟨some 33, some (32, true), .q (.mv (.t 4))⟩, ⟨some 34, some (32, true), .q (.bin .eql (.t 33) (.c (.i .i64 0)))⟩, ⟨some 35, none, .pk (.t 32) (.t 34) (.c (.b false))⟩, ⟨some 36, none, .q (.mv (.t 35))⟩, ⟨some 37, some (36, true), .q (.mv (.t 5))⟩, ⟨some 38, some (36, true), .q (.bin .eql (.t 37) (.c (.i .i64 0)))⟩, ⟨some 39, none, .pk (.t 36) (.t 38) (.c (.b false))⟩, ⟨some 40, none, .q (.mv (.t 39))⟩, ⟨some 41, some (40, true), .q (.ld (some 4) (.t 3))⟩, ⟨some 42, some (40, true), .call (.f 82) []⟩, ⟨some 43, some (40, true), .call (.f 43) [(.t 41), (.t 42)]⟩, ⟨some 44, none, .pk (.t 40) (.t 43) (.c (.b false))⟩, ⟨some 45, none, .q (.mv (.t 44))⟩, ⟨some 46, some (45, true), .q (.mv (.t 7))⟩, ⟨some 47, some (45, true), .q (.bin .eql (.t 46) (.c (.i .i64 40)))⟩, ⟨some 48, none, .pk (.t 45) (.t 47) (.c (.b false))⟩, ⟨some 49, none, .q (.mv (.t 48))⟩, ⟨some 50, some (49, true), .q (.mv (.t 8))⟩, ⟨some 51, some (49, true), .q (.bin .eql (.t 50) (.c (.i .i64 0)))⟩, ⟨some 52, none, .pk (.t 49) (.t 51) (.c (.b false))⟩, ⟨some 0, none, .q (.mv (.t 52))⟩])
  .ret)))))))))
theorem r41 : (Try.f41.body.bind (resC Try.prog Try.f41.ntmps)) = some (strip c41) := by kernel_rfl
theorem s41 : Try.f41.results.toList.mapM (resRes Try.prog) = some [.t 0] := by kernel_rfl
theorem least_ok : leastP.Ok := by
  refine ⟨by simp [leastP], by simp [leastP], by simp [leastP, I64], by simp [leastP], by simp [leastP], by simp [leastP], ?_⟩
  intro f hf
  simp [leastP] at hf
  subst hf
  exact ⟨by simp [I64], by simp [I64], by simp, by simp, by simp [I64], by simp⟩
theorem least_right : (check leastP).1 = 0 := by decide
theorem putN_small {x : Nat} (h : x < 128) : (putN x).length = 1 := by rw [putN, if_pos h]; rfl
theorem numW_small {x : Int} (h : 0 ≤ x ∧ x < 128) : (numW x).length = 1 := by rw [numW, u64N_of h.1 (by omega)]; exact putN_small (by omega)
theorem least_len : (progW leastP).length = 18 := by
  rw [progW_length]
  have hf : form 45 = [45, 45, 45, 45] := by decide
  simp [bodyW, leastP, varsW, chansW, funsW, funW, headW, codeW, selsW, instrW, hf, opsW, opW, magicB]
  have h0 := numW_small (x := 0) (by omega)
  have h1 := numW_small (x := 1) (by omega)
  have h45 := numW_small (x := 45) (by omega)
  omega
theorem decode_nil : decV [] = .tup [noneV, .i .i64 40, .i .i64 0] := by simp [decV, decode, magicB]
theorem decV_progW {p : Prog} (h : (check p).1 = 0) (ho : p.Ok) : decV (progW p) = .tup [.g p.row, .i .i64 0, .i .i64 0] := by rw [decV, decode_progW h ho]
theorem encV_right {p : Prog} (h : (check p).1 = 0) : encV p = .tup [.sl 1 ((progW p).map brow), .i .i64 0] := by rw [encV, if_pos h]
theorem encV_wrong {p : Prog} (h : (check p).1 ≠ 0) : encV p = .tup [.sl 1 [], .i .i64 3] := by rw [encV, if_neg h]
theorem speaks_l : PureS Try.prog 41 [] (.b true) := by
  have hl := least_len
  have henc := encode_w leastP least_ok
  rw [encV_right least_right] at henc
  have hdec := decode_r (progW leastP)
  rw [decV_progW least_right least_ok] at hdec
  have hnil := pure_weak (xs := [.nil]) (decode_r []) (by simp)
  rw [decode_nil] at hnil
  have hsame := Q03.refSame leastP leastP least_ok (fun f hf g _ => Q03.refSameFunc f g (least_ok.funcs f hf))
  generalize progW leastP = bs at *
  refine fun_go hmx Try.func41 r41 s41 (by rw [Try.ntmps41]; simp) ?_
  unfold c41
  simp
  refine callk rfl Try.call82 least_l rfl ?_
  simp
  refine callk rfl Try.call40 henc rfl ?_
  simp
  refine callk rfl Try.call42 hdec rfl ?_
  simp [Prog.row]
  refine callk rfl Try.call42 hnil rfl ?_
  simp [hl, noneV]
  first
    | refine callkg rfl Try.call82 rfl (fun _ => least_l) (fun hG => by first | (simp; done) | (simp at hG; done) | simpa using hG) rfl ?_
    | refine callksg rfl Try.call82 rfl (fun _ => least_l) (fun hG => by first | (simp; done) | (simp at hG; done) | simpa using hG) rfl ?_
    | refine callqg rfl Try.call82 rfl (fun _ => least_l) (fun hG => by first | (simp; done) | (simp at hG; done) | simpa using hG) rfl ?_
  simp
  first
    | refine callkg rfl Try.call43 rfl (fun _ => hsame) (fun hG => by first | (simp; done) | (simp at hG; done) | simpa using hG) rfl ?_
    | refine callksg rfl Try.call43 rfl (fun _ => hsame) (fun hG => by first | (simp; done) | (simp at hG; done) | simpa using hG) rfl ?_
    | refine callqg rfl Try.call43 rfl (fun _ => hsame) (fun hG => by first | (simp; done) | (simp at hG; done) | simpa using hG) rfl ?_
  simp
end Go.Sc.Cw
