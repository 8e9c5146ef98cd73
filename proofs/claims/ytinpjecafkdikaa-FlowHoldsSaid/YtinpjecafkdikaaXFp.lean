/- Chapter 06: what spins, where stretches begin. No condition. -/
import Derived.Test.YtinpjecafkdikaaXFl
import Derived.Test.YtinpjecafkdikaaXFlo
set_option linter.constructorNameAsVariable false
namespace Go.Sc.Fl
open Go Go.RowKit Go.Av Go.Proofs Go.Sc
set_option linter.unusedSimpArgs false
set_option linter.unusedVariables false
/-- scarab/flow.Spins -/
def c18 : ACode :=
  (.seq (.reg none [⟨some 2, none, .m (.box (.t 0))⟩, ⟨some 4, none, .q (.mv (.c .nil))⟩, ⟨some 5, none, .q (.mv (.c (.i .i64 0)))⟩])
  (.keep [1, 2]
  (.seq (.seq (.reg none [⟨some 7, none, .q (.ld (some 4) (.t 2))⟩, ⟨some 8, none, .q (.mv (.t 1))⟩, ⟨some 9, none, .call (.f 33) [(.t 7), (.t 8), (.c (.i .i64 0))]⟩, ⟨some 6, none, .q (.mv (.t 9))⟩])
    (.keep [1, 2, 6]
    (.seq (.reg none [⟨some 10, none, .q (.mv (.t 6))⟩, ⟨some 11, none, .q (.bin .neq (.t 10) (.c (.i .i64 0)))⟩])
    (.keep [1, 2, 6, 11]
    (.cond (.t 11) (.seq (.reg none [⟨some 12, none, .q (.mv (.t 6))⟩, ⟨some 4, none, .q (.mv (.c .nil))⟩, ⟨some 5, none, .q (.mv (.t 12))⟩])
      .ret)
    .skip)))))
  (.seq (.reg (some (16, [])) [⟨some 13, none, .q (.fa 3 (.t 2))⟩, ⟨some 14, none, .q (.ld none (.t 13))⟩, ⟨some 15, none, .q (.mv (.t 1))⟩, ⟨some 16, none, .q (.ias 4 (.t 14) (.t 15))⟩, ⟨some 17, none, .q (.ld (some 4) (.t 16))⟩, ⟨some 18, none, .call (.f 39) [(.t 17)]⟩, ⟨some 19, none, .q (.fa 3 (.t 2))⟩, ⟨some 20, none, .q (.ld none (.t 19))⟩, ⟨some 21, none, .q (.mv (.t 1))⟩, ⟨some 22, none, .q (.ias 4 (.t 20) (.t 21))⟩, ⟨some 23, none, .q (.fa 2 (.t 22))⟩, ⟨some 24, none, .q (.ld none (.t 23))⟩, ⟨some 25, none, .q (.len false (.t 24))⟩, ⟨some 26, none, .call (.f 35) [(.t 18), (.t 25)]⟩, ⟨some 4, none, .q (.mv (.t 26))⟩, ⟨some 5, none, .q (.mv (.c (.i .i64 0)))⟩])
  .ret))))
theorem r18 : (Try.f18.body.bind (resC Try.prog Try.f18.ntmps)) = some (strip c18) := by kernel_rfl
theorem s18 : Try.f18.results.toList.mapM (resRes Try.prog) = some [.t 4, .t 5] := by kernel_rfl
/-- scarab/flow.Heads -/
def c19 : ACode :=
  (.seq (.reg none [⟨some 2, none, .m (.box (.t 0))⟩, ⟨some 4, none, .q (.mv (.c .nil))⟩, ⟨some 5, none, .q (.mv (.c (.i .i64 0)))⟩])
  (.keep [1, 2]
  (.seq (.seq (.reg none [⟨some 12, none, .q (.ld (some 4) (.t 2))⟩, ⟨some 13, none, .q (.mv (.t 1))⟩, ⟨some 14, none, .call (.f 33) [(.t 12), (.t 13), (.c (.i .i64 0))]⟩, ⟨some 6, none, .q (.mv (.t 14))⟩])
    (.keep [1, 2, 6]
    (.seq (.reg none [⟨some 15, none, .q (.mv (.t 6))⟩, ⟨some 16, none, .q (.bin .neq (.t 15) (.c (.i .i64 0)))⟩])
    (.keep [1, 2, 6, 16]
    (.cond (.t 16) (.seq (.reg none [⟨some 17, none, .q (.mv (.t 6))⟩, ⟨some 4, none, .q (.mv (.c .nil))⟩, ⟨some 5, none, .q (.mv (.t 17))⟩])
      .ret)
    .skip)))))
  (.seq (.reg none [⟨some 18, none, .q (.fa 3 (.t 2))⟩, ⟨some 19, none, .q (.ld none (.t 18))⟩, ⟨some 20, none, .q (.mv (.t 1))⟩, ⟨some 21, none, .q (.ias 4 (.t 19) (.t 20))⟩, ⟨some 22, none, .q (.ld (some 4) (.t 21))⟩, ⟨some 7, none, .m (.alloc (.g [(.i .i64 0), (.i .i64 0), .nil, .nil]))⟩, ⟨none, none, .m (.st 4 (.t 7) (.t 22))⟩])
  (.keep [7]
  (.seq (.reg none [⟨some 23, none, .call (.f 37) [(.c (.i .i64 0))]⟩, ⟨some 8, none, .m (.alloc (.g (reps 64 (.b false))))⟩, ⟨none, none, .m (.st 64 (.t 8) (.t 23))⟩])
  (.keep [7, 8]
  (.seq (.seq (.reg none [⟨some 24, none, .q (.fa 2 (.t 7))⟩, ⟨some 25, none, .q (.ld none (.t 24))⟩, ⟨some 26, none, .q (.len false (.t 25))⟩, ⟨some 27, none, .q (.mv (.c (.i .i64 0)))⟩])
    (.keep [7, 8, 25, 26, 27]
    (.blk 0 (.keep [7, 8, 25, 26, 27]
    (.loop (.fin [7, 8, 25, 26, 27]
      (.seq (.reg none [⟨some 28, none, .q (.bin .lss (.t 27) (.t 26))⟩])
      (.keep [7, 8, 25, 26, 27, 28]
      (.seq (.cond (.t 28) .skip
        (.exit 0))
      (.seq (.blk 1 (.seq (.reg none [⟨some 29, none, .q (.mv (.t 27))⟩, ⟨some 30, none, .q (.ias 5 (.t 25) (.t 27))⟩, ⟨some 31, none, .q (.ld (some 5) (.t 30))⟩, ⟨some 10, none, .m (.alloc (.g [(.i .i64 0), (.i .i64 0), (.i .i64 0), (.i .i64 0), (.i .i64 0)]))⟩, ⟨some 9, none, .q (.mv (.t 29))⟩, ⟨none, none, .m (.st 5 (.t 10) (.t 31))⟩])
        (.keep [7, 8, 9, 10, 25, 26, 27]
        (.seq (.seq (.reg none [⟨some 32, none, .q (.fa 0 (.t 10))⟩, ⟨some 33, none, .q (.ld none (.t 32))⟩, ⟨some 34, none, .q (.bin .neq (.t 33) (.c (.i .i64 42)))⟩, ⟨some 35, none, .q (.mv (.t 34))⟩, ⟨some 36, some (35, true), .q (.fa 0 (.t 10))⟩, ⟨some 37, some (35, true), .q (.ld none (.t 36))⟩, ⟨some 38, some (35, true), .q (.bin .neq (.t 37) (.c (.i .i64 43)))⟩, ⟨some 39, none, .pk (.t 35) (.t 38) (.c (.b false))⟩, ⟨some 40, none, .q (.mv (.t 39))⟩, ⟨some 41, some (40, true), .q (.fa 0 (.t 10))⟩, ⟨some 42, some (40, true), .q (.ld none (.t 41))⟩, ⟨some 43, some (40, true), .q (.bin .neq (.t 42) (.c (.i .i64 61)))⟩, ⟨some 44, none, .pk (.t 40) (.t 43) (.c (.b false))⟩, ⟨some 45, none, .q (.mv (.t 44))⟩, ⟨some 46, some (45, true), .q (.fa 0 (.t 10))⟩, ⟨some 47, some (45, true), .q (.ld none (.t 46))⟩, ⟨some 48, some (45, true), .q (.bin .neq (.t 47) (.c (.i .i64 45)))⟩, ⟨some 49, none, .pk (.t 45) (.t 48) (.c (.b false))⟩])
          (.keep [7, 8, 9, 25, 26, 27, 49]
          (.cond (.t 49) (.exit 1)
          .skip)))
        (.seq (.seq (.reg none [⟨some 50, none, .q (.ld (some 4) (.t 7))⟩, ⟨some 51, none, .q (.mv (.t 9))⟩, ⟨some 52, none, .call (.f 34) [(.t 50), (.t 51)]⟩])
          (.keep [7, 8, 9, 25, 26, 27, 52]
          (.blk 2 (.keep [7, 8, 9, 25, 26, 27, 52]
          (.rf (.t 52) [53] (.keep [8, 53]
            (.reg none [⟨some 11, none, .q (.mv (.t 53))⟩]))
          (.keep [8, 11]
            (.blk 3 (.reg none [⟨some 54, none, .q (.mv (.t 11))⟩, ⟨some 55, none, .q (.iaa 64 1 (.t 8) (.t 54))⟩, ⟨none, none, .m (.st 1 (.t 55) (.c (.b true)))⟩]))))))))
        (.seq (.reg none [⟨some 56, none, .q (.mv (.t 9))⟩, ⟨some 57, none, .q (.bin .add (.t 56) (.c (.i .i64 1)))⟩, ⟨some 58, none, .q (.fa 2 (.t 7))⟩, ⟨some 59, none, .q (.ld none (.t 58))⟩, ⟨some 60, none, .q (.len false (.t 59))⟩, ⟨some 61, none, .q (.bin .lss (.t 57) (.t 60))⟩])
        (.keep [7, 8, 9, 25, 26, 27, 61]
        (.cond (.t 61) (.reg none [⟨some 62, none, .q (.mv (.t 9))⟩, ⟨some 63, none, .q (.bin .add (.t 62) (.c (.i .i64 1)))⟩, ⟨some 64, none, .q (.iaa 64 1 (.t 8) (.t 63))⟩, ⟨none, none, .m (.st 1 (.t 64) (.c (.b true)))⟩])
        .skip))))))))
      (.keep [7, 8, 25, 26, 27]
      (.reg none [⟨some 65, none, .q (.bin .add (.t 27) (.c (.i .i64 1)))⟩, ⟨some 27, none, .q (.mv (.t 65))⟩]))))))))))))
  (.seq (.reg none [⟨some 66, none, .q (.ld (some 64) (.t 8))⟩, ⟨some 67, none, .q (.fa 2 (.t 7))⟩, ⟨some 68, none, .q (.ld none (.t 67))⟩, ⟨some 69, none, .q (.len false (.t 68))⟩, ⟨some 70, none, .call (.f 35) [(.t 66), (.t 69)]⟩, ⟨some 4, none, .q (.mv (.t 70))⟩, ⟨some 5, none, .q (.mv (.c (.i .i64 0)))⟩])
  .ret)))))))))
theorem r19 : (Try.f19.body.bind (resC Try.prog Try.f19.ntmps)) = some (strip c19) := by kernel_rfl
theorem s19 : Try.f19.results.toList.mapM (resRes Try.prog) = some [.t 4, .t 5] := by kernel_rfl
/-- The places that spin. -/
noncomputable def spinL (f : Func) : List Int := ints (ones (spinM f f.code.length) f.code.length)
theorem spins_all (p : Prog) (hp : p.Ok) (f : Int) (hF : (check p).1 = 0 → ∀ F ∈ p.funcs, Fine F) : PureS Try.prog 18 [.g p.row, .i .i64 f]
    (if askE p f 0 = 0 then .tup [.sl 1 ((spinL (p.funcs.getD f.toNat default)).map irow), .i .i64 0] else .tup [.nil, .i .i64 (askE p f 0)]) := by
  refine fun_go hmx Try.func18 r18 s18 (by rw [Try.ntmps18]; simp) ?_
  unfold c18
  simp [Prog.row]
  first
    | refine callk rfl Try.call33 (asked_p p hp f 0) rfl ?_
    | refine callks rfl Try.call33 (asked_p p hp f 0) rfl ?_
    | refine callq rfl Try.call33 (asked_p p hp f 0) rfl ?_
    | refine callqe rfl Try.call33 (asked_p p hp f 0) rfl ?_
  by_cases h0 : askE p f 0 = 0
  rotate_left
  · simp [h0]
  have P := ask_zero h0
  obtain ⟨f, rfl⟩ : ∃ n : Nat, f = (n : Int) := ⟨f.toNat, by have := P.f0; omega⟩
  have hlt := P.f1
  simp only [Int.toNat_natCast] at hlt
  have hFm := List.getElem_mem hlt
  have hFo := hp.funcs _ hFm
  have hFf := hF P.right _ hFm
  have hq : p.funcs[f]? = some p.funcs[f] := List.getElem?_eq_getElem hlt
  have hln := hFf.len
  simp [h0, hlt, Func.row]
  generalize hgF : p.funcs[f] = F at *
  first
    | refine callk rfl Try.call39 (spins_p F hFf hFo) rfl ?_
    | refine callks rfl Try.call39 (spins_p F hFf hFo) rfl ?_
    | refine callq rfl Try.call39 (spins_p F hFf hFo) rfl ?_
    | refine callqe rfl Try.call39 (spins_p F hFf hFo) rfl ?_
  simp [hlt, hgF, Func.row]
  first
    | refine callk rfl Try.call35 (list_p (spinM F F.code.length) F.code.length (by simp) hFf.len) rfl ?_
    | refine callks rfl Try.call35 (list_p (spinM F F.code.length) F.code.length (by simp) hFf.len) rfl ?_
    | refine callq rfl Try.call35 (list_p (spinM F F.code.length) F.code.length (by simp) hFf.len) rfl ?_
    | refine callqe rfl Try.call35 (list_p (spinM F F.code.length) F.code.length (by simp) hFf.len) rfl ?_
  simp [spinL]
theorem heads_all (p : Prog) (hp : p.Ok) (f : Int) (hF : (check p).1 = 0 → ∀ F ∈ p.funcs, Fine F) : PureS Try.prog 19 [.g p.row, .i .i64 f]
    (if askE p f 0 = 0 then .tup [.sl 1 ((headsL (p.funcs.getD f.toNat default)).map irow), .i .i64 0] else .tup [.nil, .i .i64 (askE p f 0)]) := by
  refine fun_go hmx Try.func19 r19 s19 (by rw [Try.ntmps19]; simp) ?_
  unfold c19
  simp [Prog.row]
  first
    | refine callk rfl Try.call33 (asked_p p hp f 0) rfl ?_
    | refine callks rfl Try.call33 (asked_p p hp f 0) rfl ?_
    | refine callq rfl Try.call33 (asked_p p hp f 0) rfl ?_
    | refine callqe rfl Try.call33 (asked_p p hp f 0) rfl ?_
  by_cases h0 : askE p f 0 = 0
  rotate_left
  · simp [h0]
  have P := ask_zero h0
  obtain ⟨f, rfl⟩ : ∃ n : Nat, f = (n : Int) := ⟨f.toNat, by have := P.f0; omega⟩
  have hlt := P.f1
  simp only [Int.toNat_natCast] at hlt
  have hFm := List.getElem_mem hlt
  have hFo := hp.funcs _ hFm
  have hFf := hF P.right _ hFm
  have hq : p.funcs[f]? = some p.funcs[f] := List.getElem?_eq_getElem hlt
  have hln := hFf.len
  simp [h0, hlt, Func.row]
  generalize hgF : p.funcs[f] = F at *
  first
    | refine callk rfl Try.call37 (from_p 0 (by omega)) rfl ?_
    | refine callks rfl Try.call37 (from_p 0 (by omega)) rfl ?_
    | refine callq rfl Try.call37 (from_p 0 (by omega)) rfl ?_
    | refine callqe rfl Try.call37 (from_p 0 (by omega)) rfl ?_
  simp
  have hm0 : ((reps 64 false).set 0 true).length = 64 := by simp
  refine go_while hmx 3 (fun (i : Nat) => [(27, .v (.i .i64 (i : Int)))]) (fun i => [.var (p.row.map .v), .var (F.row.map .v), .var (avs AV.b (mark ((reps 64 false).set 0 true) (headsX F i)))]) (fun i => i ≤ F.code.length) (fun i => F.code.length - i) 0 rfl rfl rfl (by simp) (by simp) (by simp [Prog.row, Func.row]) (Nat.zero_le _) ?_
  intro i hi'
  by_cases hi : i < F.code.length
  · have hI : (i : Int) < (F.code.length : Int) := by omega
    have hw : IntKind.i64.wrap ((i : Int) + 1) = (i : Int) + 1 := wrap_in (by omega) (by omega)
    have hib : F.code.getD i default = F.code[i] := by rw [List.getD_eq_getElem?_getD, List.getElem?_eq_getElem hi]; rfl
    have hsx := headsX_succ F i
    have hsel := hFf.sel i hi
    have hbh := hFf.behind i hi
    obtain ⟨mi, hmi⟩ : ∃ mi, mark ((reps 64 false).set 0 true) (headsX F i) = mi := ⟨_, rfl⟩
    have hml : mi.length = 64 := by rw [← hmi]; simp
    have hend : mark ((reps 64 false).set 0 true) (headsX F (i + 1)) = mark mi (headB F i) := by rw [hsx, ← hmi, mark, mark, List.foldl_append]; rfl
    have hea : endsAt F i = (F.code[i].op == 42 || F.code[i].op == 43 || F.code[i].op == 61 || F.code[i].op == 45) := by rw [endsAt, hib]
    rw [hmi]
    rw [headB, hea] at hend
    have h64 : (i : Int) < 64 := by omega
    cases he : (F.code[i].op == 42 || F.code[i].op == 43 || F.code[i].op == 61 || F.code[i].op == 45) with
    | false =>
      rw [he] at hend
      simp [mark] at hend
      simp at he
      obtain ⟨⟨⟨e1, e2⟩, e3⟩, e4⟩ := he
      simp [hI, hi, Instr.row, Func.row, e1, e2, e3, e4, hw]
      exact ⟨i + 1, by omega, by rw [show mark ((reps 64 false).set 0 true) (headsX F (i + 1)) = mi from hend], by omega, by omega⟩
    | true =>
      rw [he] at hend
      have he' : ¬ F.code[i].op = 42 → ¬ F.code[i].op = 43 → ¬ F.code[i].op = 61 → F.code[i].op = 45 := by
        simp at he; omega
      have hall : (!decide (F.code[i].op = 42) && !decide (F.code[i].op = 43) && !decide (F.code[i].op = 61) && F.code[i].op != 45) = false := by
        by_cases e1 : F.code[i].op = 42 <;> by_cases e2 : F.code[i].op = 43 <;> by_cases e3 : F.code[i].op = 61 <;> simp_all
      simp [hI, hi, Instr.row, Func.row, hall]
      first
        | refine callk rfl Try.call34 (behind_p F (i : Int)) rfl ?_
        | refine callks rfl Try.call34 (behind_p F (i : Int)) rfl ?_
        | refine callq rfl Try.call34 (behind_p F (i : Int)) rfl ?_
        | refine callqe rfl Try.call34 (behind_p F (i : Int)) rfl ?_
      simp
      refine go_rf hmx rfl Try.call58 (behind_iter F hFo i hi hsel) (by simp) (fun k h => h = [.var (p.row.map .v), .var (F.row.map .v), .var (avs AV.b (mark mi ((behindL F i).take k))), .var (F.code[i].row.map .v)]) ?_ rfl ?_ ?_ ?_
      · rintro k h rfl
        simp [Prog.row, Func.row, Instr.row]
      · simp
      · rintro l k h hk rfl
        have hkl : k < (behindL F i).length := by simpa using hk
        have hx := hbh _ (List.getElem_mem hkl)
        generalize hgx : (behindL F i)[k] = x at hx
        have hx64 : x < 64 := by omega
        have hm := mark_take mi (behindL F i) k x (by rw [List.getElem?_eq_getElem hkl, hgx])
        simp [irow, hgx, hx.1, hx64, hml]
        refine ⟨by omega, ?_⟩
        simp [hm]
      · rintro h rfl
        simp [hw, Func.row]
        refine ⟨fun h => ⟨⟨by omega, by omega⟩, by omega, i + 1, by omega, ?_, by omega, by omega⟩, fun h => ⟨i + 1, by omega, ?_, by omega, by omega⟩⟩
        · rw [hend, if_pos rfl, if_pos (by omega), mark_snoc]; rfl
        · rw [hend, if_pos rfl, if_neg (by omega), List.append_nil]
  · have hI : ¬ (i : Int) < (F.code.length : Int) := by omega
    obtain rfl : i = F.code.length := by omega
    simp [hI, take_avs, Func.row]
    first
      | refine callk rfl Try.call35 (list_p (mark ((reps 64 false).set 0 true) (headsX F F.code.length)) F.code.length (by simp) hFf.len) rfl ?_
      | refine callks rfl Try.call35 (list_p (mark ((reps 64 false).set 0 true) (headsX F F.code.length)) F.code.length (by simp) hFf.len) rfl ?_
      | refine callq rfl Try.call35 (list_p (mark ((reps 64 false).set 0 true) (headsX F F.code.length)) F.code.length (by simp) hFf.len) rfl ?_
      | refine callqe rfl Try.call35 (list_p (mark ((reps 64 false).set 0 true) (headsX F F.code.length)) F.code.length (by simp) hFf.len) rfl ?_
    simp [headsL]
end Go.Sc.Fl
/- Chapter 06: what may be run. No condition. -/
set_option linter.constructorNameAsVariable false
namespace Go.Sc.Fl
open Go Go.RowKit Go.Av Go.Proofs Go.Sc
set_option linter.unusedSimpArgs false
set_option linter.unusedVariables false
/-- scarab/flow.spawned -/
def c54 : ACode :=
  (.seq (.reg none [⟨some 2, none, .m (.box (.t 0))⟩, ⟨some 3, none, .m (.box (.t 1))⟩, ⟨some 4, none, .m (.alloc (.g (reps 8 (.b false))))⟩])
  (.keep [2, 3, 4]
  (.seq (.reg none [⟨some 5, none, .m (.alloc (.g (reps 8 (.b false))))⟩])
  (.keep [2, 3, 4, 5]
  (.seq (.seq (.reg none [⟨some 8, none, .q (.fa 2 (.t 2))⟩, ⟨some 9, none, .q (.ld none (.t 8))⟩, ⟨some 10, none, .q (.len false (.t 9))⟩, ⟨some 11, none, .q (.mv (.c (.i .i64 0)))⟩])
    (.keep [3, 4, 5, 9, 10, 11]
    (.blk 0 (.keep [3, 4, 5, 9, 10, 11]
    (.loop (.fin [3, 4, 5, 9, 10, 11]
      (.seq (.reg none [⟨some 12, none, .q (.bin .lss (.t 11) (.t 10))⟩])
      (.keep [3, 4, 5, 9, 10, 11, 12]
      (.seq (.cond (.t 12) .skip
        (.exit 0))
      (.seq (.blk 1 (.seq (.reg none [⟨some 13, none, .q (.mv (.t 11))⟩, ⟨some 14, none, .q (.ias 5 (.t 9) (.t 11))⟩, ⟨some 15, none, .q (.ld (some 5) (.t 14))⟩, ⟨some 7, none, .m (.alloc (.g [(.i .i64 0), (.i .i64 0), (.i .i64 0), (.i .i64 0), (.i .i64 0)]))⟩, ⟨some 6, none, .q (.mv (.t 13))⟩, ⟨none, none, .m (.st 5 (.t 7) (.t 15))⟩])
        (.keep [3, 4, 5, 6, 7, 9, 10, 11]
        (.seq (.reg none [⟨some 16, none, .q (.mv (.t 6))⟩, ⟨some 17, none, .q (.iaa 64 1 (.t 3) (.t 16))⟩, ⟨some 18, none, .q (.ld none (.t 17))⟩, ⟨some 19, none, .q (.mv (.t 18))⟩, ⟨some 20, some (19, true), .q (.fa 0 (.t 7))⟩, ⟨some 21, some (19, true), .q (.ld none (.t 20))⟩, ⟨some 22, some (19, true), .q (.bin .eql (.t 21) (.c (.i .i64 62)))⟩, ⟨some 23, none, .pk (.t 19) (.t 22) (.c (.b false))⟩])
        (.keep [3, 4, 5, 7, 9, 10, 11, 23]
        (.cond (.t 23) (.reg none [⟨some 24, none, .q (.fa 2 (.t 7))⟩, ⟨some 25, none, .q (.ld none (.t 24))⟩, ⟨some 26, none, .q (.iaa 8 1 (.t 5) (.t 25))⟩, ⟨none, none, .m (.st 1 (.t 26) (.c (.b true)))⟩])
        .skip))))))
      (.keep [3, 4, 5, 9, 10, 11]
      (.reg none [⟨some 27, none, .q (.bin .add (.t 11) (.c (.i .i64 1)))⟩, ⟨some 11, none, .q (.mv (.t 27))⟩]))))))))))))
  (.seq (.reg none [⟨some 28, none, .q (.ld (some 8) (.t 5))⟩, ⟨none, none, .m (.st 8 (.t 4) (.t 28))⟩])
  .ret))))))
theorem r54 : (Try.f54.body.bind (resC Try.prog Try.f54.ntmps)) = some (strip c54) := by kernel_rfl
theorem s54 : Try.f54.results.toList.mapM (resRes Try.prog) = some [.c 4 (some 8)] := by kernel_rfl
/-- scarab/flow.funcs -/
def c49 : ACode :=
  (.seq (.reg none [⟨some 2, none, .m (.box (.t 0))⟩, ⟨some 3, none, .m (.box (.t 1))⟩, ⟨some 4, none, .m (.alloc (.g (reps 8 (.b false))))⟩])
  (.keep [2, 3, 4]
  (.blk 0 (.keep [2, 3, 4]
  (.loop (.fin [2, 3, 4]
    (.blk 1 (.seq (.reg none [⟨some 10, none, .q (.ld (some 8) (.t 3))⟩, ⟨some 5, none, .m (.alloc (.g (reps 8 (.b false))))⟩, ⟨none, none, .m (.st 8 (.t 5) (.t 10))⟩])
    (.keep [2, 3, 4, 5]
    (.seq (.seq (.reg none [⟨some 11, none, .q (.fa 3 (.t 2))⟩, ⟨some 12, none, .q (.ld none (.t 11))⟩, ⟨some 13, none, .q (.len false (.t 12))⟩, ⟨some 14, none, .q (.mv (.c (.i .i64 0)))⟩])
      (.keep [2, 3, 4, 5, 12, 13, 14]
      (.blk 2 (.keep [2, 3, 4, 5, 12, 13, 14]
      (.loop (.fin [2, 3, 4, 5, 12, 13, 14]
        (.seq (.reg none [⟨some 15, none, .q (.bin .lss (.t 14) (.t 13))⟩])
        (.keep [2, 3, 4, 5, 12, 13, 14, 15]
        (.seq (.cond (.t 15) .skip
          (.exit 2))
        (.seq (.blk 3 (.seq (.reg none [⟨some 16, none, .q (.mv (.t 14))⟩, ⟨some 17, none, .q (.ias 4 (.t 12) (.t 14))⟩, ⟨some 18, none, .q (.ld (some 4) (.t 17))⟩, ⟨some 7, none, .m (.alloc (.g [(.i .i64 0), (.i .i64 0), .nil, .nil]))⟩, ⟨some 6, none, .q (.mv (.t 16))⟩, ⟨none, none, .m (.st 4 (.t 7) (.t 18))⟩])
          (.keep [2, 3, 4, 5, 6, 7, 12, 13, 14]
          (.seq (.seq (.reg none [⟨some 19, none, .q (.mv (.t 6))⟩, ⟨some 20, none, .q (.iaa 8 1 (.t 3) (.t 19))⟩, ⟨some 21, none, .q (.ld none (.t 20))⟩, ⟨some 22, none, .q (.un .not (.t 21))⟩])
            (.keep [2, 3, 4, 5, 7, 12, 13, 14, 22]
            (.cond (.t 22) (.exit 3)
            .skip)))
          (.seq (.reg (some (6, [])) [⟨some 23, none, .q (.ld (some 4) (.t 7))⟩, ⟨some 24, none, .q (.ld (some 4) (.t 7))⟩, ⟨some 25, none, .call (.f 37) [(.c (.i .i64 0))]⟩, ⟨some 26, none, .call (.f 36) [(.t 24), (.t 25), (.f 38)]⟩, ⟨some 27, none, .call (.f 54) [(.t 23), (.t 26)]⟩, ⟨some 28, none, .q (.mv (.c (.i .i64 0)))⟩])
          (.keep [2, 3, 4, 5, 12, 13, 14, 27, 28]
          (.blk 4 (.keep [2, 3, 4, 5, 12, 13, 14, 27, 28]
          (.loop (.fin [2, 3, 4, 5, 12, 13, 14, 27, 28]
            (.seq (.reg none [⟨some 29, none, .q (.bin .lss (.t 28) (.c (.i .i64 8)))⟩])
            (.keep [2, 3, 4, 5, 12, 13, 14, 27, 28, 29]
            (.seq (.cond (.t 29) .skip
              (.exit 4))
            (.seq (.blk 5 (.seq (.reg none [⟨some 30, none, .q (.mv (.t 28))⟩, ⟨some 31, none, .q (.idx 8 1 false (.t 27) (.t 28))⟩, ⟨some 8, none, .q (.mv (.t 30))⟩, ⟨some 9, none, .q (.mv (.t 31))⟩])
              (.keep [2, 3, 4, 5, 8, 9, 12, 13, 14, 27, 28]
              (.reg none [⟨some 32, none, .q (.mv (.t 8))⟩, ⟨some 33, none, .q (.mv (.t 8))⟩, ⟨some 34, none, .q (.iaa 8 1 (.t 3) (.t 33))⟩, ⟨some 35, none, .q (.ld none (.t 34))⟩, ⟨some 36, none, .q (.mv (.t 35))⟩, ⟨some 37, some (36, false), .q (.mv (.t 9))⟩, ⟨some 38, none, .pk (.t 36) (.c (.b true)) (.t 37)⟩, ⟨some 39, none, .q (.iaa 8 1 (.t 3) (.t 32))⟩, ⟨none, none, .m (.st 1 (.t 39) (.t 38))⟩]))))
            (.keep [2, 3, 4, 5, 12, 13, 14, 27, 28]
            (.reg none [⟨some 40, none, .q (.bin .add (.t 28) (.c (.i .i64 1)))⟩, ⟨some 28, none, .q (.mv (.t 40))⟩]))))))))))))))))
        (.keep [2, 3, 4, 5, 12, 13, 14]
        (.reg none [⟨some 41, none, .q (.bin .add (.t 14) (.c (.i .i64 1)))⟩, ⟨some 14, none, .q (.mv (.t 41))⟩]))))))))))))
    (.seq (.reg none [⟨some 42, none, .q (.ld (some 8) (.t 3))⟩, ⟨some 43, none, .q (.ld (some 8) (.t 5))⟩, ⟨some 44, none, .q (.eqg false (reps 8 .b) (.t 42) (.t 43))⟩])
    (.keep [2, 3, 4, 44]
    (.cond (.t 44) (.seq (.reg none [⟨some 45, none, .q (.ld (some 8) (.t 3))⟩, ⟨none, none, .m (.st 8 (.t 4) (.t 45))⟩])
      .ret)
    .skip)))))))))))))
theorem r49 : (Try.f49.body.bind (resC Try.prog Try.f49.ntmps)) = some (strip c49) := by kernel_rfl
theorem s49 : Try.f49.results.toList.mapM (resRes Try.prog) = some [.c 4 (some 8)] := by kernel_rfl
theorem spawned_p (p : Prog) (hw : Whole p) (f : Func) (hf : f ∈ p.funcs) (hln : f.code.length ≤ 64) (m : List Bool) (hm : m.length = 64) : PureS Try.prog 54 [.g f.row, .g (ags AV.b m)] (.g (ags AV.b (mark (reps 8 false) (spL f (ones m f.code.length))))) := by
  have h8 := hw.few
  refine fun_go hmx Try.func54 r54 s54 (by rw [Try.ntmps54]; simp) ?_
  unfold c54
  simp [Func.row]
  refine go_while hmx 4 (fun (i : Nat) => [(11, .v (.i .i64 (i : Int)))]) (fun i => [.var (f.row.map .v), .var (avs AV.b m), .var (avs AV.b (reps 8 false)), .var (avs AV.b (mark (reps 8 false) (spL f (ones m i))))]) (fun i => i ≤ f.code.length) (fun i => f.code.length - i) 0 rfl rfl rfl (by simp) (by simp) (by simp [Func.row]) (Nat.zero_le _) ?_
  intro i hi'
  by_cases hi : i < f.code.length
  · have hI : (i : Int) < (f.code.length : Int) := by omega
    have hw1 : IntKind.i64.wrap ((i : Int) + 1) = (i : Int) + 1 := wrap_in (by omega) (by omega)
    have hib : f.code.getD i default = f.code[i] := by rw [List.getD_eq_getElem?_getD, List.getElem?_eq_getElem hi]; rfl
    have hsp := spL_ones f m i
    have hin := spB_in hw hf hi
    have hgd : m.getD i false = m[i]'(by omega) := by rw [List.getD_eq_getElem?_getD, List.getElem?_eq_getElem (by omega)]; rfl
    rw [hgd, spB, hib] at hsp
    rw [spB, hib] at hin
    have h64 : (i : Int) < 64 := by omega
    have h64n : i < 64 := by omega
    simp [hI, hi, hw1, Func.row, Instr.row, h64, hm, h64n]
    refine ⟨fun hm1 hop => ?_, fun hn => ⟨i + 1, by omega, ?_, by omega, by omega⟩⟩
    · rw [if_pos hm1, if_pos hop] at hsp
      rw [if_pos hop] at hin
      have hx := hin f.code[i].b (by simp)
      refine ⟨⟨by omega, by omega⟩, by omega, i + 1, by omega, ?_, by omega, by omega⟩
      rw [hsp, mark_snoc]
    · have hsp' : spL f (ones m (i + 1)) = spL f (ones m i) := by
        rw [hsp]
        cases hb : m[i]'(by omega) with
        | false => simp
        | true => rw [if_neg (hn hb)]; simp
      rw [hsp']
  · have hI : ¬ (i : Int) < (f.code.length : Int) := by omega
    obtain rfl : i = f.code.length := by omega
    simp [hI, take_avs]
theorem reach0_p (F : Func) (hf : Fine F) (hfo : F.Ok) : PureS Try.prog 36 [.g F.row, .g (ags AV.b ((reps 64 false).set 0 true)), .fn 38 []] (.g (ags AV.b (allM F))) :=
  reach_p F hf hfo ((reps 64 false).set 0 true) (by simp) 38 [] (fun _ => true) (fun pc _ => always_p pc) Try.call38
theorem funcs_p (p : Prog) (hp : p.Ok) (hw : Whole p) (hF : ∀ F ∈ p.funcs, Fine F) (m : List Bool) (hm : m.length = 8) : PureS Try.prog 49 [.g p.row, .g (ags AV.b m)] (.g (ags AV.b (runM p m))) := by
  have h8 := hw.few
  have hff := fake_fine hw
  have hfl := fake_len p
  refine fun_go hmx Try.func49 r49 s49 (by rw [Try.ntmps49]; simp) ?_
  unfold c49
  simp [Prog.row]
  refine go_while hmx 3 (fun (_ : List Bool) => []) (fun m' => [.var (p.row.map .v), .var (avs AV.b m'), .var (avs AV.b (reps 8 false))]) (fun m' => m'.length = 8 ∧ (∀ i, m.getD i false = true → m'.getD i false = true) ∧ ∀ i, m'.getD i false = true → Come (fun _ => true) (fake p) m i) (fun m' => 8 - (ones m' 8).length) m rfl (by simp) rfl (by simp) (by simp) (by simp [Prog.row]) ⟨hm, fun _ h => h, fun i h => .start i h⟩ ?_
  rintro m1 ⟨l1, h1, c1⟩
  simp [take_avs, l1, Prog.row]
  refine go_while hmx 4 (fun (i : Nat) => [(14, .v (.i .i64 (i : Int)))]) (fun i => [.var (p.row.map .v), .var (avs AV.b (passTo (fun _ => true) (fake p) m1 i)), .var (avs AV.b (reps 8 false)), .var (avs AV.b m1)]) (fun i => i ≤ p.funcs.length) (fun i => p.funcs.length - i) 0 rfl rfl rfl (by simp) (by simp) (by simp [Prog.row]) (Nat.zero_le _) ?_
  intro i hi'
  by_cases hi : i < p.funcs.length
  · have hI : (i : Int) < (p.funcs.length : Int) := by omega
    have hw1 : IntKind.i64.wrap ((i : Int) + 1) = (i : Int) + 1 := wrap_in (by omega) (by omega)
    have h8i : (i : Int) < 8 := by omega
    have h8n : i < 8 := by omega
    have hlen : (passTo (fun _ => true) (fake p) m1 i).length = 8 := by simp [l1]
    have hps : passTo (fun _ => true) (fake p) m1 (i + 1) = if (passTo (fun _ => true) (fake p) m1 i).getD i false && true then mark (passTo (fun _ => true) (fake p) m1 i) (behindL (fake p) i) else passTo (fun _ => true) (fake p) m1 i := rfl
    rw [fake_behind p hi, Bool.and_true] at hps
    have hFm := List.getElem_mem hi
    have hFo := hp.funcs _ hFm
    have hFf := hF _ hFm
    have hci := calls_in hw hFm
    obtain ⟨mi, hmi⟩ : ∃ mi, passTo (fun _ => true) (fake p) m1 i = mi := ⟨_, rfl⟩
    rw [hmi] at hlen hps ⊢
    have hgd : mi.getD i false = mi[i]'(by omega) := by rw [List.getD_eq_getElem?_getD, List.getElem?_eq_getElem (by omega)]; rfl
    rw [hgd] at hps
    generalize hgF : p.funcs[i] = F at *
    cases hb : mi[i]'(by omega) with
    | false =>
      rw [if_neg (by simp [hb])] at hps
      simp [hI, hi, hgF, hw1, Func.row, Prog.row, h8i, hlen, h8n, hb]
      exact ⟨i + 1, by omega, by rw [hps], by omega, by omega⟩
    | true =>
      rw [if_pos hb] at hps
      simp [hI, hi, hgF, hw1, Func.row, Prog.row, h8i, hlen, h8n, hb]
      first
        | refine callk rfl Try.call37 (from_p 0 (by omega)) rfl ?_
        | refine callks rfl Try.call37 (from_p 0 (by omega)) rfl ?_
        | refine callq rfl Try.call37 (from_p 0 (by omega)) rfl ?_
        | refine callqe rfl Try.call37 (from_p 0 (by omega)) rfl ?_
      simp
      first
        | refine callk rfl Try.call36 (reach0_p F hFf hFo) rfl ?_
        | refine callks rfl Try.call36 (reach0_p F hFf hFo) rfl ?_
        | refine callq rfl Try.call36 (reach0_p F hFf hFo) rfl ?_
        | refine callqe rfl Try.call36 (reach0_p F hFf hFo) rfl ?_
      simp
      first
        | refine callk rfl Try.call54 (spawned_p p hw F hFm hFf.len (allM F) (by simp)) rfl ?_
        | refine callks rfl Try.call54 (spawned_p p hw F hFm hFf.len (allM F) (by simp)) rfl ?_
        | refine callq rfl Try.call54 (spawned_p p hw F hFm hFf.len (allM F) (by simp)) rfl ?_
        | refine callqe rfl Try.call54 (spawned_p p hw F hFm hFf.len (allM F) (by simp)) rfl ?_
      simp
      have hov := mark_over (m := mi) (s := mark (reps 8 false) (calls F)) (l := calls F) (fun x hx => by have := hci x hx; omega) (by rw [hlen])
      rw [hlen] at hov
      have hcs : spL F (ones (allM F) F.code.length) = calls F := rfl
      rw [hcs]
      generalize hS : mark (reps 8 false) (calls F) = S at *
      have hSl : S.length = 8 := by rw [← hS]; simp
      refine go_while hmx 5 (fun (g : Nat) => [(28, .v (.i .i64 (g : Int)))]) (fun g => [.var (p.row.map .v), .var (avs AV.b (mark mi (ints (ones S g)))), .var (avs AV.b (reps 8 false)), .var (avs AV.b m1), .var (F.row.map .v)]) (fun g => g ≤ 8) (fun g => 8 - g) 0 rfl rfl rfl (by simp) (by simp) (by simp [Prog.row, Func.row]) (Nat.zero_le _) ?_
      intro g hg'
      by_cases hg : g < 8
      · have hG : (g : Int) < 8 := by omega
        have hw2 : IntKind.i64.wrap ((g : Int) + 1) = (g : Int) + 1 := wrap_in (by omega) (by omega)
        have hmo := mark_ones mi S g (by omega)
        obtain ⟨mg, hmg⟩ : ∃ mg, mark mi (ints (ones S g)) = mg := ⟨_, rfl⟩
        have hmgl : mg.length = 8 := by rw [← hmg]; simp [hlen]
        rw [hmg] at hmo ⊢
        have g1 : mg.getD g false = mg[g]'(by omega) := by rw [List.getD_eq_getElem?_getD, List.getElem?_eq_getElem (by omega)]; rfl
        have g2 : S.getD g false = S[g]'(by omega) := by rw [List.getD_eq_getElem?_getD, List.getElem?_eq_getElem (by omega)]; rfl
        rw [g1, g2] at hmo
        simp [hG, hg, hw2, hmgl, hSl]
        exact ⟨by omega, g + 1, by omega, by rw [hmo], by omega, by omega⟩
      · have hG : ¬ (g : Int) < 8 := by omega
        obtain rfl : g = 8 := by omega
        rw [hov]
        simp [hw1]
        exact ⟨i + 1, by omega, by rw [hps]; simp [Prog.row], by omega, by omega⟩
  · have hI : ¬ (i : Int) < (p.funcs.length : Int) := by omega
    obtain rfl : i = p.funcs.length := by omega
    simp [hI, take_avs, Prog.row, l1]
    have hpl : (passTo (fun _ => true) (fake p) m1 p.funcs.length).length = 8 := by simp [l1]
    rw [eqA_b hpl l1]
    refine ⟨fitA_b hpl l1, fun he => ?_, fun he => ?_⟩
    · have he : passTo (fun _ => true) (fake p) m1 p.funcs.length = m1 := by simpa using he
      rw [he]
      rw [pass_endK (K := 8) hff l1 (by omega) h1 c1 (by rw [hfl]; exact he)]
      rfl
    · have he : passTo (fun _ => true) (fake p) m1 p.funcs.length ≠ m1 := by simpa using he
      have mono : ∀ i, m1.getD i false = true → (passTo (fun _ => true) (fake p) m1 p.funcs.length).getD i false = true := fun i hi => pass_monoG (T := fun _ => true) (k := 0) hff (by omega) p.funcs.length (by omega) (Nat.zero_le _) hi
      have hlt := ones_ltG (by simp) l1 mono he
      have hle := ones_len (passTo (fun _ => true) (fake p) m1 p.funcs.length) 8
      refine ⟨_, rfl, ⟨hpl, fun i hi => ?_, fun i hi => ?_⟩, by omega⟩
      · simpa using mono i (h1 i (by simpa using hi))
      · exact pass_comeG hff (by omega) c1 p.funcs.length (by omega) i (by simpa using hi)
end Go.Sc.Fl
/- Chapter 06: Funcs and Idle. No condition. -/
set_option linter.constructorNameAsVariable false
namespace Go.Sc.Fl
open Go Go.RowKit Go.Av Go.Proofs Go.Sc
set_option linter.unusedSimpArgs false
set_option linter.unusedVariables false
/-- scarab/flow.Funcs -/
def c20 : ACode :=
  (.seq (.reg none [⟨some 1, none, .m (.box (.t 0))⟩, ⟨some 2, none, .q (.mv (.c .nil))⟩, ⟨some 3, none, .q (.mv (.c (.i .i64 0)))⟩])
  (.keep [1]
  (.seq (.seq (.reg none [⟨some 8, none, .q (.ld (some 4) (.t 1))⟩, ⟨some 9, none, .call (.f 33) [(.t 8), (.c (.i .i64 0)), (.c (.i .i64 0))]⟩, ⟨some 4, none, .q (.mv (.t 9))⟩])
    (.keep [1, 4]
    (.seq (.reg none [⟨some 10, none, .q (.mv (.t 4))⟩, ⟨some 11, none, .q (.bin .neq (.t 10) (.c (.i .i64 0)))⟩])
    (.keep [1, 4, 11]
    (.cond (.t 11) (.seq (.reg none [⟨some 12, none, .q (.mv (.t 4))⟩, ⟨some 2, none, .q (.mv (.c .nil))⟩, ⟨some 3, none, .q (.mv (.t 12))⟩])
      .ret)
    .skip)))))
  (.seq (.reg none [⟨some 5, none, .q (.mv (.c .nil))⟩])
  (.gst (.nilT 5 1)
  (.keep [1, 5]
  (.seq (.seq (.reg none [⟨some 13, none, .q (.ld (some 4) (.t 1))⟩, ⟨some 14, none, .q (.bld (reps 8 (.b false)) [(0, 1, .c (.b true))])⟩, ⟨some 15, none, .call (.f 49) [(.t 13), (.t 14)]⟩, ⟨some 16, none, .q (.mv (.c (.i .i64 0)))⟩])
    (.keep [5, 15, 16]
    (.blk 0 (.keep [5, 15, 16]
    (.loop (.fin [5, 15, 16]
      (.seq (.reg none [⟨some 17, none, .q (.bin .lss (.t 16) (.c (.i .i64 8)))⟩])
      (.keep [5, 15, 16, 17]
      (.seq (.cond (.t 17) .skip
        (.exit 0))
      (.seq (.blk 1 (.seq (.reg none [⟨some 18, none, .q (.mv (.t 16))⟩, ⟨some 19, none, .q (.idx 8 1 false (.t 15) (.t 16))⟩, ⟨some 6, none, .q (.mv (.t 18))⟩, ⟨some 7, none, .q (.mv (.t 19))⟩])
        (.keep [5, 6, 7, 15, 16]
        (.seq (.reg none [⟨some 20, none, .q (.mv (.t 7))⟩])
        (.keep [5, 6, 15, 16, 20]
        (.cond (.t 20) (.reg none [⟨some 21, none, .q (.mv (.t 5))⟩, ⟨some 22, none, .q (.mv (.t 6))⟩, ⟨some 23, none, .m (.bsl 1 1 [(.i .i64 0)] [(0, 1, .t 22)])⟩, ⟨some 24, none, .m (.app 1 8 (.t 21) (.t 23))⟩, ⟨some 5, none, .q (.mv (.t 24))⟩])
        .skip))))))
      (.keep [5, 15, 16]
      (.reg none [⟨some 25, none, .q (.bin .add (.t 16) (.c (.i .i64 1)))⟩, ⟨some 16, none, .q (.mv (.t 25))⟩]))))))))))))
  (.seq (.gst (.letT 5 1)
    (.reg none [⟨some 26, none, .q (.mv (.t 5))⟩, ⟨some 2, none, .q (.mv (.t 26))⟩, ⟨some 3, none, .q (.mv (.c (.i .i64 0)))⟩]))
  .ret))))))))
theorem r20 : (Try.f20.body.bind (resC Try.prog Try.f20.ntmps)) = some (strip c20) := by kernel_rfl
theorem s20 : Try.f20.results.toList.mapM (resRes Try.prog) = some [.t 2, .t 3] := by kernel_rfl
/-- scarab/flow.Idle -/
def c21 : ACode :=
  (.seq (.reg none [⟨some 1, none, .m (.box (.t 0))⟩, ⟨some 2, none, .q (.mv (.c .nil))⟩, ⟨some 3, none, .q (.mv (.c (.i .i64 0)))⟩])
  (.keep [1]
  (.seq (.seq (.reg none [⟨some 11, none, .q (.ld (some 4) (.t 1))⟩, ⟨some 12, none, .call (.f 33) [(.t 11), (.c (.i .i64 0)), (.c (.i .i64 0))]⟩, ⟨some 4, none, .q (.mv (.t 12))⟩])
    (.keep [1, 4]
    (.seq (.reg none [⟨some 13, none, .q (.mv (.t 4))⟩, ⟨some 14, none, .q (.bin .neq (.t 13) (.c (.i .i64 0)))⟩])
    (.keep [1, 4, 14]
    (.cond (.t 14) (.seq (.reg none [⟨some 15, none, .q (.mv (.t 4))⟩, ⟨some 2, none, .q (.mv (.c .nil))⟩, ⟨some 3, none, .q (.mv (.t 15))⟩])
      .ret)
    .skip)))))
  (.seq (.reg none [⟨some 16, none, .q (.ld (some 4) (.t 1))⟩, ⟨some 17, none, .q (.bld (reps 8 (.b false)) [(0, 1, .c (.b true))])⟩, ⟨some 18, none, .call (.f 49) [(.t 16), (.t 17)]⟩, ⟨some 5, none, .m (.alloc (.g (reps 8 (.b false))))⟩, ⟨none, none, .m (.st 8 (.t 5) (.t 18))⟩])
  (.keep [1, 5]
  (.seq (.reg none [⟨some 6, none, .q (.mv (.c .nil))⟩])
  (.gst (.nilT 6 2)
  (.keep [1, 5, 6]
  (.seq (.seq (.reg none [⟨some 19, none, .q (.fa 3 (.t 1))⟩, ⟨some 20, none, .q (.ld none (.t 19))⟩, ⟨some 21, none, .q (.len false (.t 20))⟩, ⟨some 22, none, .q (.mv (.c (.i .i64 0)))⟩])
    (.keep [5, 6, 20, 21, 22]
    (.blk 0 (.keep [5, 6, 20, 21, 22]
    (.loop (.fin [5, 6, 20, 21, 22]
      (.seq (.reg none [⟨some 23, none, .q (.bin .lss (.t 22) (.t 21))⟩])
      (.keep [5, 6, 20, 21, 22, 23]
      (.seq (.cond (.t 23) .skip
        (.exit 0))
      (.seq (.blk 1 (.seq (.reg none [⟨some 24, none, .q (.mv (.t 22))⟩, ⟨some 25, none, .q (.ias 4 (.t 20) (.t 22))⟩, ⟨some 26, none, .q (.ld (some 4) (.t 25))⟩, ⟨some 8, none, .m (.alloc (.g [(.i .i64 0), (.i .i64 0), .nil, .nil]))⟩, ⟨some 7, none, .q (.mv (.t 24))⟩, ⟨none, none, .m (.st 4 (.t 8) (.t 26))⟩])
        (.keep [5, 6, 7, 8, 20, 21, 22]
        (.seq (.reg (some (3, [0])) [⟨some 27, none, .q (.ld (some 4) (.t 8))⟩, ⟨some 28, none, .call (.f 37) [(.c (.i .i64 0))]⟩, ⟨some 29, none, .call (.f 36) [(.t 27), (.t 28), (.f 38)]⟩, ⟨some 9, none, .m (.alloc (.g (reps 64 (.b false))))⟩, ⟨none, none, .m (.st 64 (.t 9) (.t 29))⟩])
        (.keep [5, 6, 7, 8, 9, 20, 21, 22]
        (.seq (.reg none [⟨some 30, none, .q (.fa 2 (.t 8))⟩, ⟨some 31, none, .q (.ld none (.t 30))⟩, ⟨some 32, none, .q (.len false (.t 31))⟩, ⟨some 33, none, .q (.mv (.c (.i .i64 0)))⟩])
        (.keep [5, 6, 7, 9, 20, 21, 22, 32, 33]
        (.blk 2 (.keep [5, 6, 7, 9, 20, 21, 22, 32, 33]
        (.loop (.fin [5, 6, 7, 9, 20, 21, 22, 32, 33]
          (.seq (.reg none [⟨some 34, none, .q (.bin .lss (.t 33) (.t 32))⟩])
          (.keep [5, 6, 7, 9, 20, 21, 22, 32, 33, 34]
          (.seq (.cond (.t 34) .skip
            (.exit 2))
          (.seq (.blk 3 (.seq (.reg none [⟨some 35, none, .q (.mv (.t 33))⟩, ⟨some 10, none, .q (.mv (.t 35))⟩])
            (.keep [5, 6, 7, 9, 10, 20, 21, 22, 32, 33]
            (.seq (.reg none [⟨some 36, none, .q (.mv (.t 7))⟩, ⟨some 37, none, .q (.iaa 8 1 (.t 5) (.t 36))⟩, ⟨some 38, none, .q (.ld none (.t 37))⟩, ⟨some 39, none, .q (.un .not (.t 38))⟩, ⟨some 40, none, .q (.mv (.t 39))⟩, ⟨some 41, some (40, false), .q (.mv (.t 10))⟩, ⟨some 42, some (40, false), .q (.iaa 64 1 (.t 9) (.t 41))⟩, ⟨some 43, some (40, false), .q (.ld none (.t 42))⟩, ⟨some 44, some (40, false), .q (.un .not (.t 43))⟩, ⟨some 45, none, .pk (.t 40) (.c (.b true)) (.t 44)⟩])
            (.keep [5, 6, 7, 9, 10, 20, 21, 22, 32, 33, 45]
            (.cond (.t 45) (.reg none [⟨some 46, none, .q (.mv (.t 6))⟩, ⟨some 47, none, .q (.mv (.t 7))⟩, ⟨some 48, none, .q (.mv (.t 10))⟩, ⟨some 49, none, .q (.bld [(.i .i64 0), (.i .i64 0)] [(0, 1, .t 47), (1, 1, .t 48)])⟩, ⟨some 50, none, .m (.bsl 1 2 [(.i .i64 0), (.i .i64 0)] [(0, 2, .t 49)])⟩, ⟨some 51, none, .m (.app 2 16 (.t 46) (.t 50))⟩, ⟨some 6, none, .q (.mv (.t 51))⟩])
            .skip))))))
          (.keep [5, 6, 7, 9, 20, 21, 22, 32, 33]
          (.reg none [⟨some 52, none, .q (.bin .add (.t 33) (.c (.i .i64 1)))⟩, ⟨some 33, none, .q (.mv (.t 52))⟩])))))))))))))))))
      (.keep [5, 6, 20, 21, 22]
      (.reg none [⟨some 53, none, .q (.bin .add (.t 22) (.c (.i .i64 1)))⟩, ⟨some 22, none, .q (.mv (.t 53))⟩]))))))))))))
  (.seq (.gst (.letT 6 2)
    (.reg none [⟨some 54, none, .q (.mv (.t 6))⟩, ⟨some 2, none, .q (.mv (.t 54))⟩, ⟨some 3, none, .q (.mv (.c (.i .i64 0)))⟩]))
  .ret))))))))))
theorem r21 : (Try.f21.body.bind (resC Try.prog Try.f21.ntmps)) = some (strip c21) := by kernel_rfl
theorem s21 : Try.f21.results.toList.mapM (resRes Try.prog) = some [.t 2, .t 3] := by kernel_rfl
theorem ask00 {p : Prog} (hp : p.Ok) (h : (check p).1 = 0) : askE p 0 0 = 0 := by
  have hw := right_whole h
  have h1 := hw.one
  have hr := right_of h
  have hc := (hr.func _ (List.getElem_mem (show 0 < p.funcs.length by omega))).code
  rw [askE, if_neg (by simp [h]), if_neg]
  rw [show Int.toNat 0 = 0 from rfl, List.getD_eq_getElem?_getD, List.getElem?_eq_getElem (by omega)]
  simp only [Option.getD_some]
  omega
theorem askN {p : Prog} (h : (check p).1 ≠ 0) (f pc : Int) : askE p f pc = 3 := by rw [askE, if_pos h]
theorem goes_p (p : Prog) (hp : p.Ok) (hF : (check p).1 = 0 → ∀ F ∈ p.funcs, Fine F) : PureS Try.prog 20 [.g p.row]
    (if (check p).1 = 0 then .tup [.sl 1 ((goesL p).map irow), .i .i64 0] else .tup [.nil, .i .i64 3]) := by
  refine fun_go hmx Try.func20 r20 s20 (by rw [Try.ntmps20]; simp) ?_
  unfold c20
  simp [Prog.row]
  first
    | refine callk rfl Try.call33 (asked_p p hp 0 0) rfl ?_
    | refine callks rfl Try.call33 (asked_p p hp 0 0) rfl ?_
    | refine callq rfl Try.call33 (asked_p p hp 0 0) rfl ?_
    | refine callqe rfl Try.call33 (asked_p p hp 0 0) rfl ?_
  by_cases hc : (check p).1 = 0
  rotate_left
  · simp [askN hc, hc]
  have hw := right_whole hc
  have h8 := hw.few
  simp [ask00 hp hc, hc]
  first
    | refine callk rfl Try.call49 (funcs_p p hp hw (hF hc) ((reps 8 false).set 0 true) (by simp)) rfl ?_
    | refine callks rfl Try.call49 (funcs_p p hp hw (hF hc) ((reps 8 false).set 0 true) (by simp)) rfl ?_
    | refine callq rfl Try.call49 (funcs_p p hp hw (hF hc) ((reps 8 false).set 0 true) (by simp)) rfl ?_
    | refine callqe rfl Try.call49 (funcs_p p hp hw (hF hc) ((reps 8 false).set 0 true) (by simp)) rfl ?_
  simp
  have hgm : goesL p = ints (ones (goesM p) 8) := rfl
  rw [hgm, show runM p ((reps 8 false).set 0 true) = goesM p from rfl]
  generalize hM : goesM p = M
  have hMl : M.length = 8 := by rw [← hM]; simp
  refine go_while hmx 2 (fun (s : Nat × Nat) => [(5, .os 1 s.2), (16, .v (.i .i64 (s.1 : Int)))]) (fun s => [.var (p.row.map .v), .arr s.2 1 (vrows ((ints (ones M s.1)).map irow))]) (fun s => s.1 ≤ 8) (fun s => 8 - s.1) (0, 0) rfl rfl rfl (by simp) (by simp) (by simp [Prog.row]) (Nat.zero_le _) ?_
  rintro ⟨i, v⟩ hi
  simp only at hi
  by_cases hlt : i < 8
  · have hI : (i : Int) < 8 := by omega
    have him : i < M.length := by omega
    have hw : IntKind.i64.wrap ((i : Int) + 1) = ((i : Int) + 1) := wrap_in (by omega) (by omega)
    have hlen := ones_len M i
    have hone := ones_succ M i
    have hgd : M.getD i false = M[i] := by rw [List.getD_eq_getElem?_getD, List.getElem?_eq_getElem him]; rfl
    rw [hgd] at hone
    simp [hI, hlt, hMl, hw]
    constructor
    · intro hb
      rw [if_pos hb] at hone
      have hl2 : (ints (ones M i)).length = (ones M i).length := by simp [ints]
      exact ⟨⟨by omega, by omega⟩, i + 1, v + 1, ⟨rfl, rfl⟩, ⟨rfl, by rw [hone]; simp [ints, vrows, irow]⟩, by omega, by omega⟩
    · intro hb
      rw [if_neg (by simp [hb]), List.append_nil] at hone
      exact ⟨i + 1, v, ⟨rfl, rfl⟩, ⟨rfl, by rw [hone]⟩, by omega, by omega⟩
  · have hI : ¬ (i : Int) < 8 := by omega
    obtain rfl : i = 8 := by omega
    simp [hI]
theorem idle_p (p : Prog) (hp : p.Ok) (hF : (check p).1 = 0 → ∀ F ∈ p.funcs, Fine F) : PureS Try.prog 21 [.g p.row]
    (if (check p).1 = 0 then .tup [.sl 2 (idleL p p.funcs.length), .i .i64 0] else .tup [.nil, .i .i64 3]) := by
  refine fun_go hmx Try.func21 r21 s21 (by rw [Try.ntmps21]; simp) ?_
  unfold c21
  simp [Prog.row]
  first
    | refine callk rfl Try.call33 (asked_p p hp 0 0) rfl ?_
    | refine callks rfl Try.call33 (asked_p p hp 0 0) rfl ?_
    | refine callq rfl Try.call33 (asked_p p hp 0 0) rfl ?_
    | refine callqe rfl Try.call33 (asked_p p hp 0 0) rfl ?_
  by_cases hc : (check p).1 = 0
  rotate_left
  · simp [askN hc, hc]
  have hw := right_whole hc
  have h8 := hw.few
  simp [ask00 hp hc, hc]
  first
    | refine callk rfl Try.call49 (funcs_p p hp hw (hF hc) ((reps 8 false).set 0 true) (by simp)) rfl ?_
    | refine callks rfl Try.call49 (funcs_p p hp hw (hF hc) ((reps 8 false).set 0 true) (by simp)) rfl ?_
    | refine callq rfl Try.call49 (funcs_p p hp hw (hF hc) ((reps 8 false).set 0 true) (by simp)) rfl ?_
    | refine callqe rfl Try.call49 (funcs_p p hp hw (hF hc) ((reps 8 false).set 0 true) (by simp)) rfl ?_
  simp
  have hFc := hF hc
  have hil : ∀ k, k ≤ p.funcs.length → (idleL p k).length ≤ 64 * k := idleL_len fun f hf => (hFc f hf).len
  rw [show runM p ((reps 8 false).set 0 true) = goesM p from rfl]
  refine go_while hmx 3 (fun (s : Nat × Nat) => [(6, .os 2 s.2), (22, .v (.i .i64 (s.1 : Int)))]) (fun s => [.var (p.row.map .v), .var (avs AV.b (goesM p)), .arr s.2 2 (vrows (idleL p s.1))]) (fun s => s.1 ≤ p.funcs.length) (fun s => p.funcs.length - s.1) (0, 0) rfl rfl rfl (by simp) (by simp) (by simp [Prog.row]) (Nat.zero_le _) ?_
  rintro ⟨i, v⟩ hi
  simp only at hi
  by_cases hlt : i < p.funcs.length
  · have hI : (i : Int) < (p.funcs.length : Int) := by omega
    have hw1 : IntKind.i64.wrap ((i : Int) + 1) = ((i : Int) + 1) := wrap_in (by omega) (by omega)
    have hFm := List.getElem_mem hlt
    have hFo := hp.funcs _ hFm
    have hFf := hFc _ hFm
    have hln := hFf.len
    have hsu := idleL_succ p i
    have hfs := idleF_succ p i
    have hfl := idleF_len p i
    have hl0 := hil i hi
    have hgd : p.funcs.getD i default = p.funcs[i] := by rw [List.getD_eq_getElem?_getD, List.getElem?_eq_getElem hlt]; rfl
    rw [hgd] at hsu hfs
    generalize hgF : p.funcs[i] = F at *
    have h8i : (i : Int) < 8 := by omega
    have h8n : i < 8 := by omega
    simp [hI, hlt, hgF, Func.row]
    first
      | refine callk rfl Try.call37 (from_p 0 (by omega)) rfl ?_
      | refine callks rfl Try.call37 (from_p 0 (by omega)) rfl ?_
      | refine callq rfl Try.call37 (from_p 0 (by omega)) rfl ?_
      | refine callqe rfl Try.call37 (from_p 0 (by omega)) rfl ?_
    simp
    first
      | refine callk rfl Try.call36 (reach0_p F hFf hFo) rfl ?_
      | refine callks rfl Try.call36 (reach0_p F hFf hFo) rfl ?_
      | refine callq rfl Try.call36 (reach0_p F hFf hFo) rfl ?_
      | refine callqe rfl Try.call36 (reach0_p F hFf hFo) rfl ?_
    simp
    refine go_while hmx 5 (fun (s : Nat × Nat) => [(6, .os 2 s.2), (33, .v (.i .i64 (s.1 : Int)))]) (fun s => [.var (p.row.map .v), .var (avs AV.b (goesM p)), .arr s.2 2 (vrows (idleL p i ++ idleF p i s.1)), .var (F.row.map .v), .var (avs AV.b (allM F))]) (fun s => s.1 ≤ F.code.length) (fun s => F.code.length - s.1) (0, v) rfl rfl (by simp [idleF, Prog.row, Func.row]) (by simp) (by simp) (by simp [Prog.row, Func.row]) (Nat.zero_le _) ?_
    rintro ⟨j, w⟩ hj
    simp only at hj
    by_cases hjl : j < F.code.length
    · have hJ : (j : Int) < (F.code.length : Int) := by omega
      have hj64 : (j : Int) < 64 := by omega
      have hj64n : j < 64 := by omega
      have hw2 : IntKind.i64.wrap ((j : Int) + 1) = ((j : Int) + 1) := wrap_in (by omega) (by omega)
      have hfs := hfs j
      have hfl := hfl j
      have g1 : (goesM p).getD i false = (goesM p)[i]'(by simp; omega) := by rw [List.getD_eq_getElem?_getD, List.getElem?_eq_getElem (by simp; omega)]; rfl
      have g2 : (allM F).getD j false = (allM F)[j]'(by simp; omega) := by rw [List.getD_eq_getElem?_getD, List.getElem?_eq_getElem (by simp; omega)]; rfl
      rw [g1, g2] at hfs
      simp [hJ, hjl, hj64, hj64n, hw2, h8i, h8n]
      refine ⟨fun h => ⟨⟨by omega, by omega⟩, j + 1, w + 1, ⟨rfl, by omega⟩, ⟨rfl, ?_⟩, by omega, by omega⟩, fun h1 h2 => ⟨j + 1, w, ⟨rfl, by omega⟩, ⟨rfl, ?_⟩, by omega, by omega⟩⟩
      · rw [hfs, if_pos (by rcases h with h | h <;> simp [h])]
        simp [vrows]
      · rw [hfs, if_neg (by simp [h1, h2])]
        simp
    · have hJ : ¬ (j : Int) < (F.code.length : Int) := by omega
      obtain rfl : j = F.code.length := by omega
      simp [hJ, hw1]
      exact ⟨i + 1, w, ⟨rfl, by omega⟩, ⟨by simp [Prog.row], by rw [hsu]⟩, by omega, by omega⟩
  · have hI : ¬ (i : Int) < (p.funcs.length : Int) := by omega
    obtain rfl : i = p.funcs.length := by omega
    simp [hI]
end Go.Sc.Fl
