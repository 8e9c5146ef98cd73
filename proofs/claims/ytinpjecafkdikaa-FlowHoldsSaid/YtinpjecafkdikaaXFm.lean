/- Chapter 06: the document's own what may come behind. No condition. -/
import Derived.Test.YtinpjecafkdikaaXFl
import Derived.Test.YtinpjecafkdikaaXFlo
import Derived.Test.YtinpjecafkdikaaXAv19
set_option linter.constructorNameAsVariable false
namespace Go.Sc.Fl
open Go Go.RowKit Go.Av Go.Proofs Go.Sc
set_option linter.unusedSimpArgs false
set_option linter.unusedVariables false
/-- scarab/scarabref06.put -/
def c43 : ACode :=
  (.seq (.reg none [⟨some 4, none, .q (.mv (.c .nil))⟩])
  (.keep [0, 1]
  (.seq (.reg none [⟨some 5, none, .q (.mv (.c .nil))⟩])
  (.gst (.nilT 5 1)
  (.keep [0, 1, 5]
  (.seq (.reg none [⟨some 6, none, .q (.mv (.c (.b false)))⟩])
  (.keep [0, 1, 5, 6]
  (.seq (.seq (.reg none [⟨some 7, none, .q (.mv (.c (.i .i64 0)))⟩])
    (.keep [0, 1, 5, 6, 7]
    (.blk 0 (.keep [0, 1, 5, 6, 7]
    (.loop (.fin [0, 1, 5, 6, 7]
      (.seq (.seq (.reg none [⟨some 8, none, .q (.mv (.t 7))⟩, ⟨some 9, none, .q (.mv (.t 0))⟩, ⟨some 10, none, .q (.len false (.t 9))⟩, ⟨some 11, none, .q (.bin .lss (.t 8) (.t 10))⟩])
        (.keep [0, 1, 5, 6, 7, 11]
        (.cond (.t 11) .skip
        (.exit 0))))
      (.seq (.blk 1 (.seq (.seq (.reg none [⟨some 14, none, .q (.mv (.t 0))⟩, ⟨some 15, none, .q (.mv (.t 7))⟩, ⟨some 16, none, .q (.ias 1 (.t 14) (.t 15))⟩, ⟨some 17, none, .q (.ld none (.t 16))⟩, ⟨some 18, none, .q (.mv (.t 1))⟩, ⟨some 19, none, .q (.bin .eql (.t 17) (.t 18))⟩])
          (.keep [0, 1, 5, 6, 7, 19]
          (.cond (.t 19) (.reg none [⟨some 6, none, .q (.mv (.c (.b true)))⟩])
          .skip)))
        (.seq (.seq (.reg none [⟨some 20, none, .q (.mv (.t 0))⟩, ⟨some 21, none, .q (.mv (.t 7))⟩, ⟨some 22, none, .q (.ias 1 (.t 20) (.t 21))⟩, ⟨some 23, none, .q (.ld none (.t 22))⟩, ⟨some 24, none, .q (.mv (.t 1))⟩, ⟨some 25, none, .q (.bin .gtr (.t 23) (.t 24))⟩, ⟨some 26, none, .q (.mv (.t 25))⟩, ⟨some 27, some (26, true), .q (.mv (.t 6))⟩, ⟨some 28, some (26, true), .q (.un .not (.t 27))⟩, ⟨some 29, none, .pk (.t 26) (.t 28) (.c (.b false))⟩])
          (.keep [0, 1, 5, 6, 7, 29]
          (.cond (.t 29) (.seq (.reg none [⟨some 30, none, .q (.mv (.t 5))⟩, ⟨some 31, none, .q (.mv (.t 1))⟩, ⟨some 32, none, .m (.bsl 1 1 [(.i .i64 0)] [(0, 1, .t 31)])⟩, ⟨some 33, none, .m (.app 1 8 (.t 30) (.t 32))⟩, ⟨some 5, none, .q (.mv (.t 33))⟩])
            (.keep [0, 1, 5, 7]
            (.reg none [⟨some 6, none, .q (.mv (.c (.b true)))⟩])))
          .skip)))
        (.reg none [⟨some 34, none, .q (.mv (.t 5))⟩, ⟨some 35, none, .q (.mv (.t 0))⟩, ⟨some 36, none, .q (.mv (.t 7))⟩, ⟨some 37, none, .q (.ias 1 (.t 35) (.t 36))⟩, ⟨some 38, none, .q (.ld none (.t 37))⟩, ⟨some 39, none, .m (.bsl 1 1 [(.i .i64 0)] [(0, 1, .t 38)])⟩, ⟨some 40, none, .m (.app 1 8 (.t 34) (.t 39))⟩, ⟨some 5, none, .q (.mv (.t 40))⟩]))))
      (.keep [0, 1, 5, 6, 7]
      (.reg none [⟨some 12, none, .q (.mv (.t 7))⟩, ⟨some 13, none, .q (.bin .add (.t 12) (.c (.i .i64 1)))⟩, ⟨some 7, none, .q (.mv (.t 13))⟩]))))))))))
  (.seq (.seq (.reg none [⟨some 41, none, .q (.mv (.t 6))⟩, ⟨some 42, none, .q (.un .not (.t 41))⟩])
    (.keep [1, 5, 42]
    (.cond (.t 42) (.reg none [⟨some 43, none, .q (.mv (.t 5))⟩, ⟨some 44, none, .q (.mv (.t 1))⟩, ⟨some 45, none, .m (.bsl 1 1 [(.i .i64 0)] [(0, 1, .t 44)])⟩, ⟨some 46, none, .m (.app 1 8 (.t 43) (.t 45))⟩, ⟨some 5, none, .q (.mv (.t 46))⟩])
    .skip)))
  (.seq (.gst (.letT 5 1)
    (.reg none [⟨some 47, none, .q (.mv (.t 5))⟩, ⟨some 4, none, .q (.mv (.t 47))⟩]))
  .ret))))))))))
theorem r43 : (Try.f43.body.bind (resC Try.prog Try.f43.ntmps)) = some (strip c43) := by kernel_rfl
theorem s43 : Try.f43.results.toList.mapM (resRes Try.prog) = some [.t 4] := by kernel_rfl
/-- scarab/scarabref06.Next -/
def c14 : ACode :=
  (.seq (.reg none [⟨some 3, none, .m (.box (.t 0))⟩, ⟨some 6, none, .q (.mv (.c .nil))⟩])
  (.gst (.pimT 3)
  (.keep [1, 2, 3]
  (.seq (.reg none [⟨some 11, none, .q (.fa 3 (.t 3))⟩, ⟨some 12, none, .q (.ld none (.t 11))⟩, ⟨some 13, none, .q (.mv (.t 1))⟩, ⟨some 14, none, .q (.ias 4 (.t 12) (.t 13))⟩, ⟨some 15, none, .q (.fa 2 (.t 14))⟩, ⟨some 16, none, .q (.ld none (.t 15))⟩, ⟨some 17, none, .q (.mv (.t 2))⟩, ⟨some 18, none, .q (.ias 5 (.t 16) (.t 17))⟩, ⟨some 19, none, .q (.ld (some 5) (.t 18))⟩, ⟨some 7, none, .m (.alloc (.g [(.i .i64 0), (.i .i64 0), (.i .i64 0), (.i .i64 0), (.i .i64 0)]))⟩, ⟨none, none, .m (.st 5 (.t 7) (.t 19))⟩])
  (.keep [1, 2, 3, 7]
  (.seq (.reg none [⟨some 8, none, .q (.mv (.c .nil))⟩])
  (.gst (.letT 8 1)
  (.keep [1, 2, 3, 7, 8]
  (.seq (.seq (.reg none [⟨some 20, none, .q (.fa 0 (.t 7))⟩, ⟨some 21, none, .q (.ld none (.t 20))⟩])
    (.keep [1, 2, 3, 7, 8, 21]
    (.blk 0 (.seq (.reg none [⟨some 27, none, .q (.bin .eql (.t 21) (.c (.i .i64 42)))⟩, ⟨some 26, none, .q (.mv (.t 27))⟩])
    (.keep [1, 2, 3, 7, 8, 21, 26]
    (.cond (.t 26) (.reg none [⟨some 28, none, .q (.mv (.t 8))⟩, ⟨some 29, none, .q (.fa 1 (.t 7))⟩, ⟨some 30, none, .q (.ld none (.t 29))⟩, ⟨some 31, none, .call (.f 43) [(.t 28), (.t 30)]⟩, ⟨some 8, none, .q (.mv (.t 31))⟩])
    (.seq (.reg none [⟨some 33, none, .q (.bin .eql (.t 21) (.c (.i .i64 43)))⟩, ⟨some 32, none, .q (.mv (.t 33))⟩])
      (.keep [1, 2, 3, 7, 8, 21, 32]
      (.cond (.t 32) (.seq (.reg none [⟨some 34, none, .q (.mv (.t 8))⟩, ⟨some 35, none, .q (.fa 2 (.t 7))⟩, ⟨some 36, none, .q (.ld none (.t 35))⟩, ⟨some 37, none, .call (.f 43) [(.t 34), (.t 36)]⟩, ⟨some 8, none, .q (.mv (.t 37))⟩])
        (.keep [2, 8]
        (.reg none [⟨some 38, none, .q (.mv (.t 8))⟩, ⟨some 39, none, .q (.mv (.t 2))⟩, ⟨some 40, none, .q (.bin .add (.t 39) (.c (.i .i64 1)))⟩, ⟨some 41, none, .call (.f 43) [(.t 38), (.t 40)]⟩, ⟨some 8, none, .q (.mv (.t 41))⟩])))
      (.seq (.reg none [⟨some 43, none, .q (.bin .eql (.t 21) (.c (.i .i64 45)))⟩, ⟨some 42, none, .q (.mv (.t 43))⟩])
        (.keep [1, 2, 3, 7, 8, 21, 42]
        (.cond (.t 42) .skip
        (.seq (.reg none [⟨some 45, none, .q (.bin .eql (.t 21) (.c (.i .i64 61)))⟩, ⟨some 44, none, .q (.mv (.t 45))⟩])
          (.keep [1, 2, 3, 7, 8, 44]
          (.cond (.t 44) (.seq (.reg (some (10, [0, 1, 3, 4, 5, 6, 7, 8, 9])) [⟨some 46, none, .q (.fa 3 (.t 3))⟩, ⟨some 47, none, .q (.ld none (.t 46))⟩, ⟨some 48, none, .q (.mv (.t 1))⟩, ⟨some 49, none, .q (.ias 4 (.t 47) (.t 48))⟩, ⟨some 50, none, .q (.fa 3 (.t 49))⟩, ⟨some 51, none, .q (.ld none (.t 50))⟩, ⟨some 52, none, .q (.fa 1 (.t 7))⟩, ⟨some 53, none, .q (.ld none (.t 52))⟩, ⟨some 54, none, .q (.ias 2 (.t 51) (.t 53))⟩, ⟨some 55, none, .q (.ld (some 2) (.t 54))⟩, ⟨some 9, none, .m (.alloc (.g [.nil, (.i .i64 0)]))⟩, ⟨none, none, .m (.st 2 (.t 9) (.t 55))⟩])
            (.keep [8, 9]
            (.seq (.seq (.reg none [⟨some 10, none, .q (.mv (.c (.i .i64 0)))⟩])
              (.keep [8, 9, 10]
              (.blk 1 (.keep [8, 9, 10]
              (.loop (.fin [8, 9, 10]
                (.seq (.seq (.reg none [⟨some 56, none, .q (.mv (.t 10))⟩, ⟨some 57, none, .q (.fa 0 (.t 9))⟩, ⟨some 58, none, .q (.ld none (.t 57))⟩, ⟨some 59, none, .q (.len false (.t 58))⟩, ⟨some 60, none, .q (.bin .lss (.t 56) (.t 59))⟩])
                  (.keep [8, 9, 10, 60]
                  (.cond (.t 60) .skip
                  (.exit 1))))
                (.seq (.blk 2 (.reg none [⟨some 63, none, .q (.mv (.t 8))⟩, ⟨some 64, none, .q (.fa 0 (.t 9))⟩, ⟨some 65, none, .q (.ld none (.t 64))⟩, ⟨some 66, none, .q (.mv (.t 10))⟩, ⟨some 67, none, .q (.ias 4 (.t 65) (.t 66))⟩, ⟨some 68, none, .q (.fa 3 (.t 67))⟩, ⟨some 69, none, .q (.ld none (.t 68))⟩, ⟨some 70, none, .call (.f 43) [(.t 63), (.t 69)]⟩, ⟨some 8, none, .q (.mv (.t 70))⟩]))
                (.keep [8, 9, 10]
                (.reg none [⟨some 61, none, .q (.mv (.t 10))⟩, ⟨some 62, none, .q (.bin .add (.t 61) (.c (.i .i64 1)))⟩, ⟨some 10, none, .q (.mv (.t 62))⟩]))))))))))
            (.seq (.reg none [⟨some 71, none, .q (.fa 1 (.t 9))⟩, ⟨some 72, none, .q (.ld none (.t 71))⟩, ⟨some 73, none, .q (.bin .neq (.t 72) (.c (.i .i64 (-1))))⟩])
            (.keep [8, 9, 73]
            (.cond (.t 73) (.reg none [⟨some 74, none, .q (.mv (.t 8))⟩, ⟨some 75, none, .q (.fa 1 (.t 9))⟩, ⟨some 76, none, .q (.ld none (.t 75))⟩, ⟨some 77, none, .call (.f 43) [(.t 74), (.t 76)]⟩, ⟨some 8, none, .q (.mv (.t 77))⟩])
            .skip))))))
          (.reg none [⟨some 22, none, .q (.mv (.t 8))⟩, ⟨some 23, none, .q (.mv (.t 2))⟩, ⟨some 24, none, .q (.bin .add (.t 23) (.c (.i .i64 1)))⟩, ⟨some 25, none, .call (.f 43) [(.t 22), (.t 24)]⟩, ⟨some 8, none, .q (.mv (.t 25))⟩]))))))))))))))))
  (.seq (.reg none [⟨some 78, none, .q (.mv (.t 8))⟩, ⟨some 6, none, .q (.mv (.t 78))⟩])
  .ret))))))))))
theorem r14 : (Try.f14.body.bind (resC Try.prog Try.f14.ntmps)) = some (strip c14) := by kernel_rfl
theorem s14 : Try.f14.results.toList.mapM (resRes Try.prog) = some [.t 6] := by kernel_rfl
theorem put_p (l : List Int) (n : Int) (hl : l.length < 1000000) : PureS Try.prog 43 [.sl 1 (l.map irow), .i .i64 n] (.sl 1 ((ins n l).map irow)) := by
  have hall := insStep_all n l []
  rw [List.nil_append] at hall
  refine fun_go hmx Try.func43 r43 s43 (by rw [Try.ntmps43]; simp) ?_
  unfold c43
  simp
  refine go_while hmx 1 (fun (s : Nat × Nat) => [(5, .os 0 s.2), (6, .v (.b ((l.take s.1).foldl (insStep n) ([], false)).2)), (7, .v (.i .i64 (s.1 : Int)))]) (fun s => [.arr s.2 1 (vrows (((l.take s.1).foldl (insStep n) ([], false)).1.map irow))]) (fun s => s.1 ≤ l.length ∧ ((l.take s.1).foldl (insStep n) ([], false)).1.length ≤ s.1 + ((l.take s.1).foldl (insStep n) ([], false)).2.toNat) (fun s => l.length - s.1) (0, 0) rfl (by simp) rfl (by simp) (by simp) (by simp) ⟨Nat.zero_le _, by simp⟩ ?_
  rintro ⟨i, v⟩ ⟨hi, hlen⟩
  simp only at hi hlen
  by_cases hlt : i < l.length
  · have hI : (i : Int) < (l.length : Int) := by omega
    have hw : IntKind.i64.wrap ((i : Int) + 1) = ((i : Int) + 1) := wrap_in (by omega) (by omega)
    have hft := foldl_take (insStep n) ([], false) (List.getElem?_eq_getElem hlt)
    generalize hS : (l.take i).foldl (insStep n) ([], false) = S at *
    obtain ⟨o, d⟩ := S
    generalize hx : l[i] = x at *
    simp only at hlen
    simp [hI, hlt, hw, irow, hx, hS]
    have hd1 : d.toNat ≤ 1 := by cases d <;> simp
    refine ⟨fun hxn => ?_, fun hxn => ⟨fun h1 h2 => ?_, fun h1 => ?_⟩⟩
    · have hst : insStep n (o, d) x = (o ++ [x], true) := by
        have : ¬ n < x := by omega
        simp [insStep, hxn]
      rw [hst] at hft
      exact ⟨⟨by omega, by omega⟩, i + 1, v + 1, ⟨rfl, by rw [hft], by omega⟩, ⟨rfl, by rw [hft]; simp [vrows, irow]⟩, ⟨by omega, by rw [hft]; simp; omega⟩, by omega⟩
    · subst h2
      have hst : insStep n (o, false) x = (o ++ [n, x], true) := by simp [insStep, hxn, h1]
      rw [hst] at hft
      simp at hlen
      exact ⟨⟨by omega, by omega⟩, ⟨by omega, by omega⟩, i + 1, v + 1 + 1, ⟨rfl, by rw [hft], by omega⟩, ⟨rfl, by rw [hft]; simp [vrows, irow]⟩, ⟨by omega, by rw [hft]; simp; omega⟩, by omega⟩
    · have hst : insStep n (o, d) x = (o ++ [x], d) := by
        by_cases h2 : n < x
        · have := h1 h2; subst this; simp [insStep]
        · simp [insStep, hxn, h2]
      rw [hst] at hft
      exact ⟨⟨by omega, by omega⟩, i + 1, v + 1, ⟨rfl, by rw [hft], by omega⟩, ⟨rfl, by rw [hft]; simp [vrows, irow]⟩, ⟨by omega, by rw [hft]; simp; omega⟩, by omega⟩
  · have hI : ¬ (i : Int) < (l.length : Int) := by omega
    obtain rfl : i = l.length := by omega
    simp only [List.take_length] at hlen
    generalize hS : l.foldl (insStep n) ([], false) = S at *
    obtain ⟨o, d⟩ := S
    simp only at hlen hall
    have hd1 : d.toNat ≤ 1 := by cases d <;> simp
    simp [hI, hS]
    refine ⟨fun h => ⟨⟨by omega, by omega⟩, ?_⟩, fun h => ?_⟩
    · rw [← hall, h]; simp [irow]
    · rw [← hall, h]; simp
theorem insLen (n : Int) : ∀ l : List Int, (ins n l).length ≤ l.length + 1
  | [] => by simp [ins]
  | x :: l => by
    have := insLen n l
    rw [ins]
    split
    · simp; omega
    · split <;> simp
theorem insAll_len : ∀ (l o : List Int), (l.foldl (fun l x => ins x l) o).length ≤ o.length + l.length
  | [], o => by simp
  | x :: l, o => by
    have h1 := insAll_len l (ins x o)
    have h2 := insLen x o
    rw [List.foldl_cons, List.length_cons]; omega
theorem nextR_p (p : Prog) (hp : p.Ok) (f pc : Nat) (F : Func) (hF : p.funcs[f]? = some F) (hf : Fine F) (hpc : pc < F.code.length) (h4 : ∀ s ∈ F.selects, s.cases.length ≤ 64) : PureS Try.prog 14 [.g p.row, .i .i64 (f : Int), .i .i64 (pc : Int)] (.sl 1 ((nextL F pc).map irow)) := by
  have hlt := (List.getElem?_eq_some_iff.1 hF).1
  have hgF := (List.getElem?_eq_some_iff.1 hF).2
  have hln := hf.len
  have hsel := hf.sel pc hpc
  have hFo := hp.funcs _ (List.mem_of_getElem? hF)
  have hib : F.code.getD pc default = F.code[pc] := by rw [List.getD_eq_getElem?_getD, List.getElem?_eq_getElem hpc]; rfl
  rw [hib] at hsel
  have hbL : behindL F pc = (let i := F.code[pc]; if i.op = 45 then [] else if i.op = 42 then [i.a] else if i.op = 43 then [i.b, (pc : Int) + 1]
    else if i.op = 61 then (F.selects.getD i.a.toNat default).cases.map (·.to) ++ (if (F.selects.getD i.a.toNat default).els = -1 then [] else [(F.selects.getD i.a.toNat default).els])
    else [(pc : Int) + 1]) := by rw [behindL, hib]
  have hw : IntKind.i64.wrap ((pc : Int) + 1) = (pc : Int) + 1 := wrap_in (by omega) (by omega)
  rw [← nextR_eq hf hpc]
  refine fun_go hmx Try.func14 r14 s14 (by rw [Try.ntmps14]; simp) ?_
  unfold c14
  simp [Prog.row, hlt, hgF, Func.row, hpc, Instr.row]
  generalize hgi : F.code[pc] = i at *
  simp only at hbL
  refine ⟨fun h42 => ?_, fun h42 => ⟨fun h43 => ?_, fun h43 => ⟨fun h45 => ?_, fun h45 => ⟨fun h61 => ?_, fun h61 => ?_⟩⟩⟩⟩
  · rw [if_neg (by omega), if_pos h42] at hbL
    first
      | refine callk rfl Try.call43 (put_p [] i.a (by simp)) rfl ?_
      | refine callks rfl Try.call43 (put_p [] i.a (by simp)) rfl ?_
      | refine callq rfl Try.call43 (put_p [] i.a (by simp)) rfl ?_
      | refine callqe rfl Try.call43 (put_p [] i.a (by simp)) rfl ?_
    simp [hbL, insAll]
  · rw [if_neg (by omega), if_neg h42, if_pos h43] at hbL
    first
      | refine callk rfl Try.call43 (put_p [] i.b (by simp)) rfl ?_
      | refine callks rfl Try.call43 (put_p [] i.b (by simp)) rfl ?_
      | refine callq rfl Try.call43 (put_p [] i.b (by simp)) rfl ?_
      | refine callqe rfl Try.call43 (put_p [] i.b (by simp)) rfl ?_
    simp [hw]
    have h1 := insLen i.b []
    first
      | refine callk rfl Try.call43 (put_p (ins i.b []) ((pc : Int) + 1) (by simp at h1; omega)) rfl ?_
      | refine callks rfl Try.call43 (put_p (ins i.b []) ((pc : Int) + 1) (by simp at h1; omega)) rfl ?_
      | refine callq rfl Try.call43 (put_p (ins i.b []) ((pc : Int) + 1) (by simp at h1; omega)) rfl ?_
      | refine callqe rfl Try.call43 (put_p (ins i.b []) ((pc : Int) + 1) (by simp at h1; omega)) rfl ?_
    simp [hbL, insAll]
  · rw [if_pos h45] at hbL
    simp [hbL, insAll]
  · rw [if_neg h45, if_neg h42, if_neg h43, if_pos h61] at hbL
    obtain ⟨ha0, ha1⟩ := hsel h61
    have hlt2 : i.a.toNat < F.selects.length := by omega
    have hsd : F.selects.getD i.a.toNat default = F.selects[i.a.toNat] := by rw [List.getD_eq_getElem?_getD, List.getElem?_eq_getElem hlt2]; rfl
    rw [hsd] at hbL
    have hS4 := h4 _ (List.getElem_mem hlt2)
    simp [hlt2, Select.row, ha0, ha1]
    generalize F.selects[i.a.toNat] = S at *
    refine go_while hmx 3 (fun (k : Nat) => [(8, .v (.sl 1 ((insAll ((S.cases.map (·.to)).take k)).map irow))), (10, .v (.i .i64 (k : Int)))]) (fun k => [.none, .var [.v (.i .i64 i.op), .v (.i .i64 i.a), .v (.i .i64 i.b), .v (.i .i64 i.c), .v (.i .i64 i.n)], .var [.v (.sl 4 (S.cases.map Case.row)), .v (.i .i64 S.els)]]) (fun k => k ≤ S.cases.length) (fun k => S.cases.length - k) 0 rfl (by simp [insAll]) rfl (by simp) (by simp) (by simp) (Nat.zero_le _) ?_
    intro k hk
    by_cases hkl : k < S.cases.length
    · have hI : (k : Int) < (S.cases.length : Int) := by omega
      have hw2 : IntKind.i64.wrap ((k : Int) + 1) = (k : Int) + 1 := wrap_in (by omega) (by omega)
      have hft : insAll ((S.cases.map (·.to)).take (k + 1)) = ins S.cases[k].to (insAll ((S.cases.map (·.to)).take k)) := by
        rw [insAll, foldl_take (fun l x => ins x l) [] (x := S.cases[k].to) (by rw [List.getElem?_map, List.getElem?_eq_getElem hkl]; rfl)]; rfl
      have hil := insAll_len ((S.cases.map (·.to)).take k) []
      simp [hI, hkl, Case.row]
      first
        | refine callk rfl Try.call43 (put_p (insAll ((S.cases.map (·.to)).take k)) S.cases[k].to (by unfold insAll; simp at hil ⊢; omega)) rfl ?_
        | refine callks rfl Try.call43 (put_p (insAll ((S.cases.map (·.to)).take k)) S.cases[k].to (by unfold insAll; simp at hil ⊢; omega)) rfl ?_
        | refine callq rfl Try.call43 (put_p (insAll ((S.cases.map (·.to)).take k)) S.cases[k].to (by unfold insAll; simp at hil ⊢; omega)) rfl ?_
        | refine callqe rfl Try.call43 (put_p (insAll ((S.cases.map (·.to)).take k)) S.cases[k].to (by unfold insAll; simp at hil ⊢; omega)) rfl ?_
      simp [hw2]
      refine ⟨k + 1, ⟨?_, by omega⟩, by omega, by omega⟩
      rw [hft]
    · have hI : ¬ (k : Int) < (S.cases.length : Int) := by omega
      obtain rfl : k = S.cases.length := by omega
      have hil := insAll_len (S.cases.map (·.to)) []
      have htk : (S.cases.map (·.to)).take S.cases.length = S.cases.map (·.to) := List.take_of_length_le (by simp)
      simp [hI]
      rw [htk]
      refine ⟨fun he => ?_, fun he => ?_⟩
      · rw [if_neg he] at hbL
        first
          | refine callk rfl Try.call43 (put_p (insAll (S.cases.map (·.to))) S.els (by unfold insAll; simp at hil ⊢; omega)) rfl ?_
          | refine callks rfl Try.call43 (put_p (insAll (S.cases.map (·.to))) S.els (by unfold insAll; simp at hil ⊢; omega)) rfl ?_
          | refine callq rfl Try.call43 (put_p (insAll (S.cases.map (·.to))) S.els (by unfold insAll; simp at hil ⊢; omega)) rfl ?_
          | refine callqe rfl Try.call43 (put_p (insAll (S.cases.map (·.to))) S.els (by unfold insAll; simp at hil ⊢; omega)) rfl ?_
        simp [hbL, insAll]
      · rw [if_pos he] at hbL
        simp [hbL]
  · rw [if_neg h45, if_neg h42, if_neg h43, if_neg h61] at hbL
    simp [hw]
    first
      | refine callk rfl Try.call43 (put_p [] ((pc : Int) + 1) (by simp)) rfl ?_
      | refine callks rfl Try.call43 (put_p [] ((pc : Int) + 1) (by simp)) rfl ?_
      | refine callq rfl Try.call43 (put_p [] ((pc : Int) + 1) (by simp)) rfl ?_
      | refine callqe rfl Try.call43 (put_p [] ((pc : Int) + 1) (by simp)) rfl ?_
    simp [hbL, insAll]
end Go.Sc.Fl
/- Chapter 06: the document's own marks. No condition. -/
set_option linter.constructorNameAsVariable false
namespace Go.Sc.Fl
open Go Go.RowKit Go.Av Go.Proofs Go.Sc
open Go.Sc.Q03 (local18)
set_option linter.unusedSimpArgs false
set_option linter.unusedVariables false
/-- scarab/scarabref06.from -/
def c46 : ACode :=
  (.seq (.reg none [⟨some 3, none, .m (.box (.t 0))⟩, ⟨some 6, none, .q (.mv (.c .nil))⟩])
  (.gst (.pimT 3)
  (.keep [1, 2, 3]
  (.seq (.reg none [⟨some 8, none, .q (.fa 3 (.t 3))⟩, ⟨some 9, none, .q (.ld none (.t 8))⟩, ⟨some 10, none, .q (.mv (.t 1))⟩, ⟨some 11, none, .q (.ias 4 (.t 9) (.t 10))⟩, ⟨some 12, none, .q (.fa 2 (.t 11))⟩, ⟨some 13, none, .q (.ld none (.t 12))⟩, ⟨some 14, none, .q (.len false (.t 13))⟩, ⟨some 15, none, .m (.mks 1 1 [(.b false)] (.t 14) (.t 14))⟩, ⟨some 7, none, .q (.mv (.t 15))⟩])
  (.keep [2, 7]
  (.seq (.reg none [⟨some 16, none, .q (.mv (.t 7))⟩, ⟨some 17, none, .q (.mv (.t 2))⟩, ⟨some 18, none, .q (.ias 1 (.t 16) (.t 17))⟩, ⟨none, none, .m (.st 1 (.t 18) (.c (.b true)))⟩])
  (.keep [7]
  (.seq (.gst (.letT 7 1)
    (.reg none [⟨some 19, none, .q (.mv (.t 7))⟩, ⟨some 6, none, .q (.mv (.t 19))⟩]))
  .ret))))))))
theorem r46 : (Try.f46.body.bind (resC Try.prog Try.f46.ntmps)) = some (strip c46) := by kernel_rfl
theorem s46 : Try.f46.results.toList.mapM (resRes Try.prog) = some [.t 6] := by kernel_rfl
/-- scarab/scarabref06.places -/
def c44 : ACode :=
  (.seq (.reg none [⟨some 2, none, .q (.mv (.c .nil))⟩])
  (.keep [0]
  (.seq (.reg none [⟨some 3, none, .q (.mv (.c .nil))⟩])
  (.gst (.nilT 3 1)
  (.keep [0, 3]
  (.seq (.seq (.reg none [⟨some 4, none, .q (.mv (.c (.i .i64 0)))⟩])
    (.keep [0, 3, 4]
    (.blk 0 (.keep [0, 3, 4]
    (.loop (.fin [0, 3, 4]
      (.seq (.seq (.reg none [⟨some 5, none, .q (.mv (.t 4))⟩, ⟨some 6, none, .q (.mv (.t 0))⟩, ⟨some 7, none, .q (.len false (.t 6))⟩, ⟨some 8, none, .q (.bin .lss (.t 5) (.t 7))⟩])
        (.keep [0, 3, 4, 8]
        (.cond (.t 8) .skip
        (.exit 0))))
      (.seq (.blk 1 (.seq (.reg none [⟨some 11, none, .q (.mv (.t 0))⟩, ⟨some 12, none, .q (.mv (.t 4))⟩, ⟨some 13, none, .q (.ias 1 (.t 11) (.t 12))⟩, ⟨some 14, none, .q (.ld none (.t 13))⟩])
        (.keep [0, 3, 4, 14]
        (.cond (.t 14) (.reg none [⟨some 15, none, .q (.mv (.t 3))⟩, ⟨some 16, none, .q (.mv (.t 4))⟩, ⟨some 17, none, .m (.bsl 1 1 [(.i .i64 0)] [(0, 1, .t 16)])⟩, ⟨some 18, none, .m (.app 1 8 (.t 15) (.t 17))⟩, ⟨some 3, none, .q (.mv (.t 18))⟩])
        .skip))))
      (.keep [0, 3, 4]
      (.reg none [⟨some 9, none, .q (.mv (.t 4))⟩, ⟨some 10, none, .q (.bin .add (.t 9) (.c (.i .i64 1)))⟩, ⟨some 4, none, .q (.mv (.t 10))⟩]))))))))))
  (.seq (.gst (.letT 3 1)
    (.reg none [⟨some 19, none, .q (.mv (.t 3))⟩, ⟨some 2, none, .q (.mv (.t 19))⟩]))
  .ret)))))))
theorem r44 : (Try.f44.body.bind (resC Try.prog Try.f44.ntmps)) = some (strip c44) := by kernel_rfl
theorem s44 : Try.f44.results.toList.mapM (resRes Try.prog) = some [.t 2] := by kernel_rfl
/-- scarab/scarabref06.marked -/
def c45 : ACode :=
  (.seq (.reg none [⟨some 4, none, .m (.box (.t 0))⟩, ⟨some 8, none, .q (.mv (.c .nil))⟩])
  (.gst (.pimT 4)
  (.keep [1, 2, 3, 4]
  (.seq (.reg none [⟨some 14, none, .m (.bsl 0 1 [(.b false)] [])⟩, ⟨some 15, none, .q (.mv (.t 2))⟩, ⟨some 16, none, .m (.app 1 1 (.t 14) (.t 15))⟩, ⟨some 9, none, .q (.mv (.t 16))⟩])
  (.keep [1, 3, 4, 9]
  (.seq (.seq (.reg none [⟨some 10, none, .q (.mv (.c (.b true)))⟩])
    (.keep [1, 3, 4, 9, 10]
    (.blk 0 (.keep [1, 3, 4, 9, 10]
    (.loop (.fin [1, 3, 4, 9, 10]
      (.seq (.seq (.reg none [⟨some 17, none, .q (.mv (.t 10))⟩])
        (.keep [1, 3, 4, 9, 17]
        (.cond (.t 17) .skip
        (.exit 0))))
      (.blk 1 (.seq (.reg none [⟨some 10, none, .q (.mv (.c (.b false)))⟩])
      (.keep [1, 3, 4, 9, 10]
      (.seq (.reg none [⟨some 11, none, .q (.mv (.c (.i .i64 0)))⟩])
      (.keep [1, 3, 4, 9, 10, 11]
      (.blk 2 (.keep [1, 3, 4, 9, 10, 11]
      (.loop (.fin [1, 3, 4, 9, 10, 11]
        (.seq (.seq (.reg none [⟨some 18, none, .q (.mv (.t 11))⟩, ⟨some 19, none, .q (.mv (.t 9))⟩, ⟨some 20, none, .q (.len false (.t 19))⟩, ⟨some 21, none, .q (.bin .lss (.t 18) (.t 20))⟩])
          (.keep [1, 3, 4, 9, 10, 11, 21]
          (.cond (.t 21) .skip
          (.exit 2))))
        (.seq (.blk 3 (.seq (.seq (.reg none [⟨some 24, none, .q (.mv (.t 9))⟩, ⟨some 25, none, .q (.mv (.t 11))⟩, ⟨some 26, none, .q (.ias 1 (.t 24) (.t 25))⟩, ⟨some 27, none, .q (.ld none (.t 26))⟩, ⟨some 28, none, .q (.un .not (.t 27))⟩, ⟨some 29, none, .q (.mv (.t 28))⟩, ⟨some 30, some (29, false), .q (.mv (.t 3))⟩, ⟨some 31, some (29, false), .q (.mv (.t 30))⟩, ⟨some 32, some (31, true), .q (.fa 3 (.t 4))⟩, ⟨some 33, some (31, true), .q (.ld none (.t 32))⟩, ⟨some 34, some (31, true), .q (.mv (.t 1))⟩, ⟨some 35, some (31, true), .q (.ias 4 (.t 33) (.t 34))⟩, ⟨some 36, some (31, true), .q (.fa 2 (.t 35))⟩, ⟨some 37, some (31, true), .q (.ld none (.t 36))⟩, ⟨some 38, some (31, true), .q (.mv (.t 11))⟩, ⟨some 39, some (31, true), .q (.ias 5 (.t 37) (.t 38))⟩, ⟨some 40, some (31, true), .q (.fa 0 (.t 39))⟩, ⟨some 41, some (31, true), .q (.ld none (.t 40))⟩, ⟨some 42, some (31, true), .call (.f 48) [(.t 41)]⟩, ⟨some 43, some (31, true), .q (.un .not (.t 42))⟩, ⟨some 44, some (29, false), .pk (.t 31) (.t 43) (.c (.b false))⟩, ⟨some 45, none, .pk (.t 29) (.c (.b true)) (.t 44)⟩])
            (.keep [1, 3, 4, 9, 10, 11, 45]
            (.cond (.t 45) (.exit 3)
            .skip)))
          (.seq (.reg none [⟨some 46, none, .q (.ld (some 4) (.t 4))⟩, ⟨some 47, none, .q (.mv (.t 1))⟩, ⟨some 48, none, .q (.mv (.t 11))⟩, ⟨some 49, none, .call (.f 14) [(.t 46), (.t 47), (.t 48)]⟩, ⟨some 12, none, .q (.mv (.t 49))⟩])
          (.keep [1, 3, 4, 9, 10, 11, 12]
          (.seq (.reg none [⟨some 13, none, .q (.mv (.c (.i .i64 0)))⟩])
          (.keep [1, 3, 4, 9, 10, 11, 12, 13]
          (.blk 4 (.keep [1, 3, 4, 9, 10, 11, 12, 13]
          (.loop (.fin [1, 3, 4, 9, 10, 11, 12, 13]
            (.seq (.seq (.reg none [⟨some 50, none, .q (.mv (.t 13))⟩, ⟨some 51, none, .q (.mv (.t 12))⟩, ⟨some 52, none, .q (.len false (.t 51))⟩, ⟨some 53, none, .q (.bin .lss (.t 50) (.t 52))⟩])
              (.keep [1, 3, 4, 9, 10, 11, 12, 13, 53]
              (.cond (.t 53) .skip
              (.exit 4))))
            (.seq (.blk 5 (.seq (.reg none [⟨some 56, none, .q (.mv (.t 9))⟩, ⟨some 57, none, .q (.mv (.t 12))⟩, ⟨some 58, none, .q (.mv (.t 13))⟩, ⟨some 59, none, .q (.ias 1 (.t 57) (.t 58))⟩, ⟨some 60, none, .q (.ld none (.t 59))⟩, ⟨some 61, none, .q (.ias 1 (.t 56) (.t 60))⟩, ⟨some 62, none, .q (.ld none (.t 61))⟩, ⟨some 63, none, .q (.un .not (.t 62))⟩])
              (.keep [1, 3, 4, 9, 10, 11, 12, 13, 63]
              (.cond (.t 63) (.seq (.reg none [⟨some 64, none, .q (.mv (.t 9))⟩, ⟨some 65, none, .q (.mv (.t 12))⟩, ⟨some 66, none, .q (.mv (.t 13))⟩, ⟨some 67, none, .q (.ias 1 (.t 65) (.t 66))⟩, ⟨some 68, none, .q (.ld none (.t 67))⟩, ⟨some 69, none, .q (.ias 1 (.t 64) (.t 68))⟩, ⟨none, none, .m (.st 1 (.t 69) (.c (.b true)))⟩])
                (.keep [1, 3, 4, 9, 11, 12, 13]
                (.reg none [⟨some 10, none, .q (.mv (.c (.b true)))⟩])))
              .skip))))
            (.keep [1, 3, 4, 9, 10, 11, 12, 13]
            (.reg none [⟨some 54, none, .q (.mv (.t 13))⟩, ⟨some 55, none, .q (.bin .add (.t 54) (.c (.i .i64 1)))⟩, ⟨some 13, none, .q (.mv (.t 55))⟩]))))))))))))))
        (.keep [1, 3, 4, 9, 10, 11]
        (.reg none [⟨some 22, none, .q (.mv (.t 11))⟩, ⟨some 23, none, .q (.bin .add (.t 22) (.c (.i .i64 1)))⟩, ⟨some 11, none, .q (.mv (.t 23))⟩]))))))))))))))))))))
  (.seq (.gst (.letT 9 1)
    (.reg none [⟨some 70, none, .q (.mv (.t 9))⟩, ⟨some 8, none, .q (.mv (.t 70))⟩]))
  .ret)))))))
theorem r45 : (Try.f45.body.bind (resC Try.prog Try.f45.ntmps)) = some (strip c45) := by kernel_rfl
theorem s45 : Try.f45.results.toList.mapM (resRes Try.prog) = some [.t 8] := by kernel_rfl
/-- scarab/scarabref06.Reach -/
def c15 : ACode :=
  (.seq (.reg none [⟨some 3, none, .m (.box (.t 0))⟩, ⟨some 6, none, .q (.mv (.c .nil))⟩])
  (.gst (.pimT 3)
  (.keep [1, 2, 3]
  (.seq (.reg (some (5, [0])) [⟨some 7, none, .q (.ld (some 4) (.t 3))⟩, ⟨some 8, none, .q (.mv (.t 1))⟩, ⟨some 9, none, .q (.ld (some 4) (.t 3))⟩, ⟨some 10, none, .q (.mv (.t 1))⟩, ⟨some 11, none, .q (.mv (.t 2))⟩, ⟨some 12, none, .call (.f 46) [(.t 9), (.t 10), (.t 11)]⟩, ⟨some 13, none, .call (.f 45) [(.t 7), (.t 8), (.t 12), (.c (.b false))]⟩, ⟨some 14, none, .call (.f 44) [(.t 13)]⟩, ⟨some 6, none, .q (.mv (.t 14))⟩])
  .ret))))
theorem r15 : (Try.f15.body.bind (resC Try.prog Try.f15.ntmps)) = some (strip c15) := by kernel_rfl
theorem s15 : Try.f15.results.toList.mapM (resRes Try.prog) = some [.t 6] := by kernel_rfl
theorem fromR_p (p : Prog) (hp : p.Ok) (f pc : Nat) (F : Func) (hF : p.funcs[f]? = some F) (hpc : pc < F.code.length) (hln : F.code.length ≤ 64) : PureS Try.prog 46 [.g p.row, .i .i64 (f : Int), .i .i64 (pc : Int)] (.sl 1 (((reps F.code.length false).set pc true).map brw)) := by
  have hlt := (List.getElem?_eq_some_iff.1 hF).1
  have hgF := (List.getElem?_eq_some_iff.1 hF).2
  refine fun_go hmx Try.func46 r46 s46 (by rw [Try.ntmps46]; simp) ?_
  unfold c46
  simp [Prog.row, hlt, hgF, Func.row, hpc]
  refine ⟨⟨by omega, by omega⟩, ?_⟩
  have e : (List.replicate F.code.length [RV.v (AV.b false)]).set pc [RV.v (AV.b true)] = vrows (((reps F.code.length false).set pc true).map brw) := by
    rw [vrows, List.map_map, List.map_set]
    congr 1
    simp [reps, brw]
  rw [e]
  simp
theorem placesR_p (m : List Bool) (hm : m.length ≤ 1000000) : PureS Try.prog 44 [.sl 1 (m.map brw)] (.sl 1 ((ints (ones m m.length)).map irow)) := by
  refine fun_go hmx Try.func44 r44 s44 (by rw [Try.ntmps44]; simp) ?_
  unfold c44
  simp
  refine go_while hmx 1 (fun (s : Nat × Nat) => [(3, .os 0 s.2), (4, .v (.i .i64 (s.1 : Int)))]) (fun s => [.arr s.2 1 (vrows ((ints (ones m s.1)).map irow))]) (fun s => s.1 ≤ m.length) (fun s => m.length - s.1) (0, 0) rfl (by simp) rfl (by simp) (by simp) (by simp) (Nat.zero_le _) ?_
  rintro ⟨i, v⟩ hi
  simp only at hi
  by_cases hlt : i < m.length
  · have hI : (i : Int) < (m.length : Int) := by omega
    have hw : IntKind.i64.wrap ((i : Int) + 1) = ((i : Int) + 1) := wrap_in (by omega) (by omega)
    have hlen := ones_len m i
    have hone := ones_succ m i
    have hgd : m.getD i false = m[i] := by rw [List.getD_eq_getElem?_getD, List.getElem?_eq_getElem hlt]; rfl
    rw [hgd] at hone
    simp [hI, hlt, hw, brw]
    constructor
    · intro hb
      rw [if_pos hb] at hone
      have hl2 : (ints (ones m i)).length = (ones m i).length := by simp [ints]
      exact ⟨⟨by omega, by omega⟩, i + 1, v + 1, ⟨rfl, by omega⟩, ⟨rfl, by rw [hone]; simp [ints, vrows, irow]⟩, by omega, by omega⟩
    · intro hb
      rw [if_neg (by simp [hb]), List.append_nil] at hone
      exact ⟨i + 1, v, ⟨rfl, by omega⟩, ⟨rfl, by rw [hone]⟩, by omega, by omega⟩
  · have hI : ¬ (i : Int) < (m.length : Int) := by omega
    obtain rfl : i = m.length := by omega
    simp [hI]
theorem markedR_p (p : Prog) (hp : p.Ok) (f : Nat) (F : Func) (hF : p.funcs[f]? = some F) (hf : Fine F) (h4 : ∀ s ∈ F.selects, s.cases.length ≤ 64) (m : List Bool) (hm : m.length = F.code.length) (lc : Bool) :
    PureS Try.prog 45 [.g p.row, .i .i64 (f : Int), .sl 1 (m.map brw), .b lc] (.sl 1 ((reachN (fun i => !lc || loc F i) F m).map brw)) := by
  have hlt := (List.getElem?_eq_some_iff.1 hF).1
  have hgF := (List.getElem?_eq_some_iff.1 hF).2
  have hln := hf.len
  refine fun_go hmx Try.func45 r45 s45 (by rw [Try.ntmps45]; simp) ?_
  unfold c45
  simp [Prog.row, hm]
  refine ⟨⟨by omega, by omega⟩, ?_⟩
  generalize hT : (fun i => !lc || loc F i) = T
  refine go_while hmx 2 (fun (s : List Bool × Bool) => [(10, .v (.b s.2))]) (fun s => [.none, .arr 1 1 (vrows (s.1.map brw))]) (fun s => s.1.length = F.code.length ∧ (∀ i, m.getD i false = true → s.1.getD i false = true) ∧ (∀ i, s.1.getD i false = true → Come T F m i) ∧ (s.2 = false → passTo T F s.1 F.code.length = s.1)) (fun s => 2 * (F.code.length - (ones s.1 F.code.length).length) + s.2.toNat) (m, true) rfl (by simp) rfl (by simp) (by simp) (by simp) ⟨hm, fun _ h => h, fun i h => .start i h, fun h => by cases h⟩ ?_
  rintro ⟨m1, t⟩ ⟨l1, h1, c1, e1⟩
  simp only at l1 h1 c1 e1
  cases t with
  | false =>
    simp [pass_endN hf l1 h1 c1 (e1 rfl)]
  | true =>
    simp
    refine go_while hmx 2 (fun (i : Nat) => [(10, .v (.b (decide (passTo T F m1 i ≠ m1)))), (11, .v (.i .i64 (i : Int)))]) (fun i => [.none, .arr 1 1 (vrows ((passTo T F m1 i).map brw))]) (fun i => i ≤ F.code.length) (fun i => F.code.length - i) 0 rfl (by simp [passTo]) rfl (by simp) (by simp) (by simp) (Nat.zero_le _) ?_
    intro i hi
    by_cases hil : i < F.code.length
    · have hI : (i : Int) < (F.code.length : Int) := by omega
      have hw : IntKind.i64.wrap ((i : Int) + 1) = ((i : Int) + 1) := wrap_in (by omega) (by omega)
      have hlen : (passTo T F m1 i).length = F.code.length := by simp [l1]
      have hps : passTo T F m1 (i + 1) = if (passTo T F m1 i).getD i false && T i then mark (passTo T F m1 i) (behindL F i) else passTo T F m1 i := rfl
      obtain ⟨mi, hmi⟩ : ∃ mi, passTo T F m1 i = mi := ⟨_, rfl⟩
      rw [hmi] at hlen hps ⊢
      have hgd : mi.getD i false = mi[i]'(by omega) := by rw [List.getD_eq_getElem?_getD, List.getElem?_eq_getElem (by omega)]; rfl
      rw [hgd] at hps
      have hib : F.code.getD i default = F.code[i] := by rw [List.getD_eq_getElem?_getD, List.getElem?_eq_getElem hil]; rfl
      cases hb : mi[i]'(by omega) with
      | false =>
        rw [if_neg (by simp [hb])] at hps
        simp [hI, hlen, hil, brw, hb, vrows_at, hlt, hgF, Func.row, Instr.row]
        first
          | refine callkg rfl Try.call48 rfl (fun _ => (local18 F.code[i].op)) (fun hG => by first | (simp; done) | (simp at hG; done) | simpa using hG) rfl ?_
          | refine callksg rfl Try.call48 rfl (fun _ => (local18 F.code[i].op)) (fun hG => by first | (simp; done) | (simp at hG; done) | simpa using hG) rfl ?_
          | refine callqg rfl Try.call48 rfl (fun _ => (local18 F.code[i].op)) (fun hG => by first | (simp; done) | (simp at hG; done) | simpa using hG) rfl ?_
        simp [hw]
        exact ⟨i + 1, ⟨by rw [hps], by omega⟩, by rw [hps], by omega, by omega⟩
      | true =>
        have hTi : T i = (!lc || loc F i) := by rw [← hT]
        have hlo : isLocal F.code[i].op = loc F i := by rw [loc, hib]
        cases lc with
        | false =>
          simp at hTi
          rw [if_pos (by simp [hb, hTi])] at hps
          simp [hI, hlen, hil, brw, hb, vrows_at, hlt, hgF, Func.row, Instr.row]
          first
            | refine callkg rfl Try.call48 rfl (fun _ => (local18 F.code[i].op)) (fun hG => by first | (simp; done) | (simp at hG; done) | simpa using hG) rfl ?_
            | refine callksg rfl Try.call48 rfl (fun _ => (local18 F.code[i].op)) (fun hG => by first | (simp; done) | (simp at hG; done) | simpa using hG) rfl ?_
            | refine callqg rfl Try.call48 rfl (fun _ => (local18 F.code[i].op)) (fun hG => by first | (simp; done) | (simp at hG; done) | simpa using hG) rfl ?_
          simp
          first
            | refine callk rfl Try.call14 (nextR_p p hp f i F hF hf hil h4) rfl ?_
            | refine callks rfl Try.call14 (nextR_p p hp f i F hF hf hil h4) rfl ?_
            | refine callq rfl Try.call14 (nextR_p p hp f i F hF hf hil h4) rfl ?_
            | refine callqe rfl Try.call14 (nextR_p p hp f i F hF hf hil h4) rfl ?_
          simp
          have hmn : mark mi (behindL F i) = mark mi (nextL F i) := mark_same (fun x => (next_mem hf hil).symm) fun x hx => ⟨(hf.behind i hil x hx).1, by have := hf.behind i hil x hx; omega⟩
          rw [hmn] at hps
          have hnl : (nextL F i).length ≤ F.code.length := by simp only [nextL, ints, List.length_map]; exact ones_len _ _
          have hnx : ∀ x ∈ nextL F i, 0 ≤ x ∧ x.toNat < mi.length := fun x hx => by have := hf.behind i hil x ((next_mem hf hil).1 hx); omega
          refine go_while hmx 2 (fun (k : Nat) => [(10, .v (.b (decide (mark mi ((nextL F i).take k) ≠ m1)))), (13, .v (.i .i64 (k : Int)))]) (fun k => [.none, .arr 1 1 (vrows ((mark mi ((nextL F i).take k)).map brw))]) (fun k => k ≤ (nextL F i).length) (fun k => (nextL F i).length - k) 0 rfl (by simp [mark]; by_cases h : mi = m1 <;> simp [h]) rfl (by simp) (by simp) (by simp) (Nat.zero_le _) ?_
          intro k hk
          by_cases hkl : k < (nextL F i).length
          · have hkI : (k : Int) < ((nextL F i).length : Int) := by omega
            have hw2 : IntKind.i64.wrap ((k : Int) + 1) = ((k : Int) + 1) := wrap_in (by omega) (by omega)
            have hx := hf.behind i hil _ ((next_mem hf hil).1 (List.getElem_mem hkl))
            have hmt := mark_take mi (nextL F i) k _ (List.getElem?_eq_getElem hkl)
            have hsub : ∀ j, m1.getD j false = true → (mark mi ((nextL F i).take k)).getD j false = true := fun j hj => (mark_get _ mi j fun x hx => hnx x (List.mem_of_mem_take hx)).2 (.inl (by rw [← hmi]; exact pass_monoG (T := T) (k := 0) hf (by omega) i (by omega) (Nat.zero_le _) hj))
            obtain ⟨ck, hck⟩ : ∃ ck, mark mi ((nextL F i).take k) = ck := ⟨_, rfl⟩
            have hckl : ck.length = F.code.length := by rw [← hck]; simp [hlen]
            obtain ⟨x, hxe⟩ : ∃ x, (nextL F i)[k] = x := ⟨_, rfl⟩
            rw [hxe] at hx hmt
            rw [hck] at hmt hsub ⊢
            have hxn : x.toNat < F.code.length := by omega
            simp [hkI, hkl, hxe, irow, hckl, hx.1, hx.2, hxn, vrows_at, brw, hw2]
            have hgx : ck.getD x.toNat false = ck[x.toNat]'(by omega) := by rw [List.getD_eq_getElem?_getD, List.getElem?_eq_getElem (by omega)]; rfl
            constructor
            · intro hcx
              have hne : mark mi ((nextL F i).take (k + 1)) ≠ m1 := fun he => by
                have h1 : (mark mi ((nextL F i).take (k + 1))).getD x.toNat false = true := by rw [hmt, List.getD_eq_getElem?_getD, List.getElem?_set_self (by omega)]; rfl
                rw [he] at h1
                have h2 := hsub _ h1
                rw [hgx, hcx] at h2
                cases h2
              exact ⟨k + 1, ⟨hne, by omega⟩, by rw [hmt]; simp [vrows, brw, List.map_set], by omega, by omega⟩
            · intro hcx
              have hset : ck.set x.toNat true = ck := by
                refine List.ext_getElem (by simp) fun j h1 h2 => ?_
                rw [List.getElem_set]
                split
                · rename_i hj; subst hj; exact hcx.symm
                · rfl
              rw [hset] at hmt
              exact ⟨k + 1, ⟨by rw [hmt], by omega⟩, by rw [hmt], by omega, by omega⟩
          · have hkI : ¬ (k : Int) < ((nextL F i).length : Int) := by omega
            obtain rfl : k = (nextL F i).length := by omega
            have htk : (nextL F i).take (nextL F i).length = nextL F i := List.take_length
            simp [hkI, hw]
            rw [← hps]
            exact ⟨i + 1, ⟨Iff.rfl, by omega⟩, rfl, by omega, by omega⟩
        | true =>
          simp at hTi
          simp [hI, hlen, hil, brw, hb, vrows_at, hlt, hgF, Func.row, Instr.row]
          first
            | refine callkg rfl Try.call48 rfl (fun _ => (local18 F.code[i].op)) (fun hG => by first | (simp; done) | (simp at hG; done) | simpa using hG) rfl ?_
            | refine callksg rfl Try.call48 rfl (fun _ => (local18 F.code[i].op)) (fun hG => by first | (simp; done) | (simp at hG; done) | simpa using hG) rfl ?_
            | refine callqg rfl Try.call48 rfl (fun _ => (local18 F.code[i].op)) (fun hG => by first | (simp; done) | (simp at hG; done) | simpa using hG) rfl ?_
          rw [hlo]
          simp
          constructor
          · intro hl
            rw [if_neg (by simp [hb, hTi, hl])] at hps
            exact ⟨i + 1, ⟨by rw [hps], by rw [hw]; omega⟩, by rw [hps], by omega, by omega⟩
          · intro hl
            rw [if_pos (by simp [hb, hTi, hl])] at hps
            first
              | refine callk rfl Try.call14 (nextR_p p hp f i F hF hf hil h4) rfl ?_
              | refine callks rfl Try.call14 (nextR_p p hp f i F hF hf hil h4) rfl ?_
              | refine callq rfl Try.call14 (nextR_p p hp f i F hF hf hil h4) rfl ?_
              | refine callqe rfl Try.call14 (nextR_p p hp f i F hF hf hil h4) rfl ?_
            simp
            have hmn : mark mi (behindL F i) = mark mi (nextL F i) := mark_same (fun x => (next_mem hf hil).symm) fun x hx => ⟨(hf.behind i hil x hx).1, by have := hf.behind i hil x hx; omega⟩
            rw [hmn] at hps
            have hnl : (nextL F i).length ≤ F.code.length := by simp only [nextL, ints, List.length_map]; exact ones_len _ _
            have hnx : ∀ x ∈ nextL F i, 0 ≤ x ∧ x.toNat < mi.length := fun x hx => by have := hf.behind i hil x ((next_mem hf hil).1 hx); omega
            refine go_while hmx 2 (fun (k : Nat) => [(10, .v (.b (decide (mark mi ((nextL F i).take k) ≠ m1)))), (13, .v (.i .i64 (k : Int)))]) (fun k => [.none, .arr 1 1 (vrows ((mark mi ((nextL F i).take k)).map brw))]) (fun k => k ≤ (nextL F i).length) (fun k => (nextL F i).length - k) 0 rfl (by simp [mark]; by_cases h : mi = m1 <;> simp [h]) rfl (by simp) (by simp) (by simp) (Nat.zero_le _) ?_
            intro k hk
            by_cases hkl : k < (nextL F i).length
            · have hkI : (k : Int) < ((nextL F i).length : Int) := by omega
              have hw2 : IntKind.i64.wrap ((k : Int) + 1) = ((k : Int) + 1) := wrap_in (by omega) (by omega)
              have hx := hf.behind i hil _ ((next_mem hf hil).1 (List.getElem_mem hkl))
              have hmt := mark_take mi (nextL F i) k _ (List.getElem?_eq_getElem hkl)
              have hsub : ∀ j, m1.getD j false = true → (mark mi ((nextL F i).take k)).getD j false = true := fun j hj => (mark_get _ mi j fun x hx => hnx x (List.mem_of_mem_take hx)).2 (.inl (by rw [← hmi]; exact pass_monoG (T := T) (k := 0) hf (by omega) i (by omega) (Nat.zero_le _) hj))
              obtain ⟨ck, hck⟩ : ∃ ck, mark mi ((nextL F i).take k) = ck := ⟨_, rfl⟩
              have hckl : ck.length = F.code.length := by rw [← hck]; simp [hlen]
              obtain ⟨x, hxe⟩ : ∃ x, (nextL F i)[k] = x := ⟨_, rfl⟩
              rw [hxe] at hx hmt
              rw [hck] at hmt hsub ⊢
              have hxn : x.toNat < F.code.length := by omega
              simp [hkI, hkl, hxe, irow, hckl, hx.1, hx.2, hxn, vrows_at, brw, hw2]
              have hgx : ck.getD x.toNat false = ck[x.toNat]'(by omega) := by rw [List.getD_eq_getElem?_getD, List.getElem?_eq_getElem (by omega)]; rfl
              constructor
              · intro hcx
                have hne : mark mi ((nextL F i).take (k + 1)) ≠ m1 := fun he => by
                  have h1 : (mark mi ((nextL F i).take (k + 1))).getD x.toNat false = true := by rw [hmt, List.getD_eq_getElem?_getD, List.getElem?_set_self (by omega)]; rfl
                  rw [he] at h1
                  have h2 := hsub _ h1
                  rw [hgx, hcx] at h2
                  cases h2
                exact ⟨k + 1, ⟨hne, by omega⟩, by rw [hmt]; simp [vrows, brw, List.map_set], by omega, by omega⟩
              · intro hcx
                have hset : ck.set x.toNat true = ck := by
                  refine List.ext_getElem (by simp) fun j h1 h2 => ?_
                  rw [List.getElem_set]
                  split
                  · rename_i hj; subst hj; exact hcx.symm
                  · rfl
                rw [hset] at hmt
                exact ⟨k + 1, ⟨by rw [hmt], by omega⟩, by rw [hmt], by omega, by omega⟩
            · have hkI : ¬ (k : Int) < ((nextL F i).length : Int) := by omega
              obtain rfl : k = (nextL F i).length := by omega
              have htk : (nextL F i).take (nextL F i).length = nextL F i := List.take_length
              simp [hkI, hw]
              rw [← hps]
              exact ⟨i + 1, ⟨Iff.rfl, by omega⟩, rfl, by omega, by omega⟩
    · have hI : ¬ (i : Int) < (F.code.length : Int) := by omega
      obtain rfl : i = F.code.length := by omega
      have hpl : (passTo T F m1 F.code.length).length = F.code.length := by simp [l1]
      have mono : ∀ i, m1.getD i false = true → (passTo T F m1 F.code.length).getD i false = true := fun i hi => pass_monoG (T := T) (k := 0) hf (by omega) _ (Nat.le_refl _) (Nat.zero_le _) hi
      simp [hI, l1]
      by_cases he : passTo T F m1 F.code.length = m1
      · exact ⟨m1, .inl ⟨he, by rw [he], ⟨l1, fun i hi => by simpa using h1 i (by simpa using hi), fun i hi => c1 i (by simpa using hi), he⟩, by omega⟩⟩
      · have hlt := ones_ltG (by simp) l1 mono he
        have hle := ones_len (passTo T F m1 F.code.length) F.code.length
        exact ⟨_, .inr ⟨he, rfl, ⟨hpl, fun i hi => by simpa using mono i (h1 i (by simpa using hi)), fun i hi => pass_comeG hf (by omega) c1 _ (Nat.le_refl _) i (by simpa using hi)⟩, by omega⟩⟩
end Go.Sc.Fl
/- Chapter 06: the document's own answers. No condition. -/
set_option linter.constructorNameAsVariable false
namespace Go.Sc.Fl
open Go Go.RowKit Go.Av Go.Proofs Go.Sc
open Go.Sc.Q03 (local18 right22)
set_option linter.unusedSimpArgs false
set_option linter.unusedVariables false
/-- scarab/scarabref06.Fit -/
def c11 : ACode :=
  (.seq (.reg none [⟨some 3, none, .m (.box (.t 0))⟩, ⟨some 6, none, .q (.mv (.c (.i .i64 0)))⟩])
  (.gst (.pimT 3)
  (.keep [1, 2, 3]
  (.seq (.seq (.reg none [⟨some 7, none, .q (.ld (some 4) (.t 3))⟩, ⟨some 8, none, .call (.f 22) [(.t 7)]⟩, ⟨some 9, none, .q (.un .not (.t 8))⟩])
    (.keep [1, 2, 3, 9]
    (.cond (.t 9) (.seq (.reg none [⟨some 6, none, .q (.mv (.c (.i .i64 3)))⟩])
      .ret)
    .skip)))
  (.seq (.seq (.reg none [⟨some 10, none, .q (.mv (.t 1))⟩, ⟨some 11, none, .q (.bin .lss (.t 10) (.c (.i .i64 0)))⟩, ⟨some 12, none, .q (.mv (.t 11))⟩, ⟨some 13, some (12, false), .q (.mv (.t 1))⟩, ⟨some 14, some (12, false), .q (.fa 3 (.t 3))⟩, ⟨some 15, some (12, false), .q (.ld none (.t 14))⟩, ⟨some 16, some (12, false), .q (.len false (.t 15))⟩, ⟨some 17, some (12, false), .q (.bin .geq (.t 13) (.t 16))⟩, ⟨some 18, none, .pk (.t 12) (.c (.b true)) (.t 17)⟩, ⟨some 19, none, .q (.mv (.t 18))⟩, ⟨some 20, some (19, false), .q (.mv (.t 2))⟩, ⟨some 21, some (19, false), .q (.bin .lss (.t 20) (.c (.i .i64 0)))⟩, ⟨some 22, none, .pk (.t 19) (.c (.b true)) (.t 21)⟩, ⟨some 23, none, .q (.mv (.t 22))⟩, ⟨some 24, some (23, false), .q (.mv (.t 2))⟩, ⟨some 25, some (23, false), .q (.fa 3 (.t 3))⟩, ⟨some 26, some (23, false), .q (.ld none (.t 25))⟩, ⟨some 27, some (23, false), .q (.mv (.t 1))⟩, ⟨some 28, some (23, false), .q (.ias 4 (.t 26) (.t 27))⟩, ⟨some 29, some (23, false), .q (.fa 2 (.t 28))⟩, ⟨some 30, some (23, false), .q (.ld none (.t 29))⟩, ⟨some 31, some (23, false), .q (.len false (.t 30))⟩, ⟨some 32, some (23, false), .q (.bin .geq (.t 24) (.t 31))⟩, ⟨some 33, none, .pk (.t 23) (.c (.b true)) (.t 32)⟩])
    (.keep [33]
    (.cond (.t 33) (.seq (.reg none [⟨some 6, none, .q (.mv (.c (.i .i64 1)))⟩])
      .ret)
    .skip)))
  (.seq (.reg none [⟨some 6, none, .q (.mv (.c (.i .i64 0)))⟩])
  .ret))))))
theorem r11 : (Try.f11.body.bind (resC Try.prog Try.f11.ntmps)) = some (strip c11) := by kernel_rfl
theorem s11 : Try.f11.results.toList.mapM (resRes Try.prog) = some [.t 6] := by kernel_rfl
/-- scarab/scarabref06.spins -/
def c47 : ACode :=
  (.seq (.reg none [⟨some 3, none, .m (.box (.t 0))⟩, ⟨some 6, none, .q (.mv (.c (.b false)))⟩])
  (.gst (.pimT 3)
  (.keep [1, 2, 3]
  (.seq (.seq (.reg none [⟨some 10, none, .q (.fa 3 (.t 3))⟩, ⟨some 11, none, .q (.ld none (.t 10))⟩, ⟨some 12, none, .q (.mv (.t 1))⟩, ⟨some 13, none, .q (.ias 4 (.t 11) (.t 12))⟩, ⟨some 14, none, .q (.fa 2 (.t 13))⟩, ⟨some 15, none, .q (.ld none (.t 14))⟩, ⟨some 16, none, .q (.mv (.t 2))⟩, ⟨some 17, none, .q (.ias 5 (.t 15) (.t 16))⟩, ⟨some 18, none, .q (.fa 0 (.t 17))⟩, ⟨some 19, none, .q (.ld none (.t 18))⟩, ⟨some 20, none, .call (.f 48) [(.t 19)]⟩, ⟨some 21, none, .q (.un .not (.t 20))⟩])
    (.keep [1, 2, 3, 21]
    (.cond (.t 21) (.seq (.reg none [⟨some 6, none, .q (.mv (.c (.b false)))⟩])
      .ret)
    .skip)))
  (.seq (.reg none [⟨some 22, none, .q (.fa 3 (.t 3))⟩, ⟨some 23, none, .q (.ld none (.t 22))⟩, ⟨some 24, none, .q (.mv (.t 1))⟩, ⟨some 25, none, .q (.ias 4 (.t 23) (.t 24))⟩, ⟨some 26, none, .q (.fa 2 (.t 25))⟩, ⟨some 27, none, .q (.ld none (.t 26))⟩, ⟨some 28, none, .q (.len false (.t 27))⟩, ⟨some 29, none, .m (.mks 1 1 [(.b false)] (.t 28) (.t 28))⟩, ⟨some 7, none, .q (.mv (.t 29))⟩])
  (.keep [1, 2, 3, 7]
  (.seq (.reg none [⟨some 30, none, .q (.ld (some 4) (.t 3))⟩, ⟨some 31, none, .q (.mv (.t 1))⟩, ⟨some 32, none, .q (.mv (.t 2))⟩, ⟨some 33, none, .call (.f 14) [(.t 30), (.t 31), (.t 32)]⟩, ⟨some 8, none, .q (.mv (.t 33))⟩])
  (.keep [1, 2, 3, 7, 8]
  (.seq (.seq (.reg none [⟨some 9, none, .q (.mv (.c (.i .i64 0)))⟩])
    (.keep [1, 2, 3, 7, 8, 9]
    (.blk 0 (.keep [1, 2, 3, 7, 8, 9]
    (.loop (.fin [1, 2, 3, 7, 8, 9]
      (.seq (.seq (.reg none [⟨some 34, none, .q (.mv (.t 9))⟩, ⟨some 35, none, .q (.mv (.t 8))⟩, ⟨some 36, none, .q (.len false (.t 35))⟩, ⟨some 37, none, .q (.bin .lss (.t 34) (.t 36))⟩])
        (.keep [1, 2, 3, 7, 8, 9, 37]
        (.cond (.t 37) .skip
        (.exit 0))))
      (.seq (.blk 1 (.reg none [⟨some 40, none, .q (.mv (.t 7))⟩, ⟨some 41, none, .q (.mv (.t 8))⟩, ⟨some 42, none, .q (.mv (.t 9))⟩, ⟨some 43, none, .q (.ias 1 (.t 41) (.t 42))⟩, ⟨some 44, none, .q (.ld none (.t 43))⟩, ⟨some 45, none, .q (.ias 1 (.t 40) (.t 44))⟩, ⟨none, none, .m (.st 1 (.t 45) (.c (.b true)))⟩]))
      (.keep [1, 2, 3, 7, 8, 9]
      (.reg none [⟨some 38, none, .q (.mv (.t 9))⟩, ⟨some 39, none, .q (.bin .add (.t 38) (.c (.i .i64 1)))⟩, ⟨some 9, none, .q (.mv (.t 39))⟩]))))))))))
  (.seq (.gst (.letT 7 1)
    (.reg none [⟨some 46, none, .q (.ld (some 4) (.t 3))⟩, ⟨some 47, none, .q (.mv (.t 1))⟩, ⟨some 48, none, .q (.mv (.t 7))⟩, ⟨some 49, none, .call (.f 45) [(.t 46), (.t 47), (.t 48), (.c (.b true))]⟩, ⟨some 50, none, .q (.mv (.t 2))⟩, ⟨some 51, none, .q (.ias 1 (.t 49) (.t 50))⟩, ⟨some 52, none, .q (.ld none (.t 51))⟩, ⟨some 6, none, .q (.mv (.t 52))⟩]))
  .ret))))))))))
theorem r47 : (Try.f47.body.bind (resC Try.prog Try.f47.ntmps)) = some (strip c47) := by kernel_rfl
theorem s47 : Try.f47.results.toList.mapM (resRes Try.prog) = some [.t 6] := by kernel_rfl
/-- scarab/scarabref06.Longest -/
def c16 : ACode :=
  (.seq (.reg none [⟨some 3, none, .m (.box (.t 0))⟩, ⟨some 6, none, .q (.mv (.c (.i .i64 0)))⟩])
  (.gst (.pimT 3)
  (.keep [1, 2, 3]
  (.seq (.reg none [⟨some 16, none, .q (.fa 3 (.t 3))⟩, ⟨some 17, none, .q (.ld none (.t 16))⟩, ⟨some 18, none, .q (.mv (.t 1))⟩, ⟨some 19, none, .q (.ias 4 (.t 17) (.t 18))⟩, ⟨some 20, none, .q (.fa 2 (.t 19))⟩, ⟨some 21, none, .q (.ld none (.t 20))⟩, ⟨some 7, none, .q (.mv (.t 21))⟩])
  (.keep [1, 2, 3, 7]
  (.seq (.reg (some (5, [0])) [⟨some 22, none, .q (.ld (some 4) (.t 3))⟩, ⟨some 23, none, .q (.mv (.t 1))⟩, ⟨some 24, none, .q (.ld (some 4) (.t 3))⟩, ⟨some 25, none, .q (.mv (.t 1))⟩, ⟨some 26, none, .q (.mv (.t 2))⟩, ⟨some 27, none, .call (.f 46) [(.t 24), (.t 25), (.t 26)]⟩, ⟨some 28, none, .call (.f 45) [(.t 22), (.t 23), (.t 27), (.c (.b true))]⟩, ⟨some 8, none, .q (.mv (.t 28))⟩])
  (.keep [1, 2, 3, 7, 8]
  (.seq (.seq (.reg none [⟨some 9, none, .q (.mv (.c (.i .i64 0)))⟩])
    (.keep [1, 2, 3, 7, 8, 9]
    (.blk 0 (.keep [1, 2, 3, 7, 8, 9]
    (.loop (.fin [1, 2, 3, 7, 8, 9]
      (.seq (.seq (.reg none [⟨some 29, none, .q (.mv (.t 9))⟩, ⟨some 30, none, .q (.mv (.t 7))⟩, ⟨some 31, none, .q (.len false (.t 30))⟩, ⟨some 32, none, .q (.bin .lss (.t 29) (.t 31))⟩])
        (.keep [1, 2, 3, 7, 8, 9, 32]
        (.cond (.t 32) .skip
        (.exit 0))))
      (.seq (.blk 1 (.seq (.reg none [⟨some 35, none, .q (.mv (.t 8))⟩, ⟨some 36, none, .q (.mv (.t 9))⟩, ⟨some 37, none, .q (.ias 1 (.t 35) (.t 36))⟩, ⟨some 38, none, .q (.ld none (.t 37))⟩, ⟨some 39, none, .q (.mv (.t 38))⟩, ⟨some 40, some (39, true), .q (.ld (some 4) (.t 3))⟩, ⟨some 41, some (39, true), .q (.mv (.t 1))⟩, ⟨some 42, some (39, true), .q (.mv (.t 9))⟩, ⟨some 43, some (39, true), .call (.f 47) [(.t 40), (.t 41), (.t 42)]⟩, ⟨some 44, none, .pk (.t 39) (.t 43) (.c (.b false))⟩])
        (.keep [1, 2, 3, 7, 8, 9, 44]
        (.cond (.t 44) (.seq (.reg none [⟨some 6, none, .q (.mv (.c (.i .i64 (-1))))⟩])
          .ret)
        .skip))))
      (.keep [1, 2, 3, 7, 8, 9]
      (.reg none [⟨some 33, none, .q (.mv (.t 9))⟩, ⟨some 34, none, .q (.bin .add (.t 33) (.c (.i .i64 1)))⟩, ⟨some 9, none, .q (.mv (.t 34))⟩]))))))))))
  (.seq (.reg none [⟨some 45, none, .q (.mv (.t 7))⟩, ⟨some 46, none, .q (.len false (.t 45))⟩, ⟨some 47, none, .m (.mks 1 8 [(.i .i64 0)] (.t 46) (.t 46))⟩, ⟨some 10, none, .q (.mv (.t 47))⟩])
  (.gst (.letT 10 1)
  (.keep [1, 2, 3, 7, 10]
  (.seq (.seq (.reg none [⟨some 11, none, .q (.mv (.c (.i .i64 0)))⟩])
    (.keep [1, 2, 3, 7, 10, 11]
    (.blk 2 (.keep [1, 2, 3, 7, 10, 11]
    (.loop (.fin [1, 2, 3, 7, 10, 11]
      (.seq (.seq (.reg none [⟨some 48, none, .q (.mv (.t 11))⟩, ⟨some 49, none, .q (.mv (.t 7))⟩, ⟨some 50, none, .q (.len false (.t 49))⟩, ⟨some 51, none, .q (.bin .lss (.t 48) (.t 50))⟩])
        (.keep [1, 2, 3, 7, 10, 11, 51]
        (.cond (.t 51) .skip
        (.exit 2))))
      (.seq (.blk 3 (.seq (.reg none [⟨some 54, none, .q (.mv (.t 7))⟩, ⟨some 55, none, .q (.len false (.t 54))⟩, ⟨some 56, none, .m (.mks 1 8 [(.i .i64 0)] (.t 55) (.t 55))⟩, ⟨some 12, none, .q (.mv (.t 56))⟩])
        (.keep [1, 2, 3, 7, 10, 11, 12]
        (.seq (.seq (.reg none [⟨some 13, none, .q (.mv (.c (.i .i64 0)))⟩])
          (.keep [1, 2, 3, 7, 10, 11, 12, 13]
          (.blk 4 (.keep [1, 2, 3, 7, 10, 11, 12, 13]
          (.loop (.fin [1, 2, 3, 7, 10, 11, 12, 13]
            (.seq (.seq (.reg none [⟨some 57, none, .q (.mv (.t 13))⟩, ⟨some 58, none, .q (.mv (.t 7))⟩, ⟨some 59, none, .q (.len false (.t 58))⟩, ⟨some 60, none, .q (.bin .lss (.t 57) (.t 59))⟩])
              (.keep [1, 2, 3, 7, 10, 11, 12, 13, 60]
              (.cond (.t 60) .skip
              (.exit 4))))
            (.seq (.blk 5 (.seq (.seq (.reg none [⟨some 63, none, .q (.mv (.t 7))⟩, ⟨some 64, none, .q (.mv (.t 13))⟩, ⟨some 65, none, .q (.ias 5 (.t 63) (.t 64))⟩, ⟨some 66, none, .q (.fa 0 (.t 65))⟩, ⟨some 67, none, .q (.ld none (.t 66))⟩, ⟨some 68, none, .call (.f 48) [(.t 67)]⟩, ⟨some 69, none, .q (.un .not (.t 68))⟩])
                (.keep [1, 2, 3, 7, 10, 11, 12, 13, 69]
                (.cond (.t 69) (.exit 5)
                .skip)))
              (.seq (.reg none [⟨some 70, none, .q (.mv (.t 12))⟩, ⟨some 71, none, .q (.mv (.t 13))⟩, ⟨some 72, none, .q (.ias 1 (.t 70) (.t 71))⟩, ⟨none, none, .m (.st 1 (.t 72) (.c (.i .i64 1)))⟩])
              (.keep [1, 2, 3, 7, 10, 11, 12, 13]
              (.seq (.reg none [⟨some 73, none, .q (.ld (some 4) (.t 3))⟩, ⟨some 74, none, .q (.mv (.t 1))⟩, ⟨some 75, none, .q (.mv (.t 13))⟩, ⟨some 76, none, .call (.f 14) [(.t 73), (.t 74), (.t 75)]⟩, ⟨some 14, none, .q (.mv (.t 76))⟩])
              (.keep [1, 2, 3, 7, 10, 11, 12, 13, 14]
              (.seq (.reg none [⟨some 15, none, .q (.mv (.c (.i .i64 0)))⟩])
              (.keep [1, 2, 3, 7, 10, 11, 12, 13, 14, 15]
              (.blk 6 (.keep [1, 2, 3, 7, 10, 11, 12, 13, 14, 15]
              (.loop (.fin [1, 2, 3, 7, 10, 11, 12, 13, 14, 15]
                (.seq (.seq (.reg none [⟨some 77, none, .q (.mv (.t 15))⟩, ⟨some 78, none, .q (.mv (.t 14))⟩, ⟨some 79, none, .q (.len false (.t 78))⟩, ⟨some 80, none, .q (.bin .lss (.t 77) (.t 79))⟩])
                  (.keep [1, 2, 3, 7, 10, 11, 12, 13, 14, 15, 80]
                  (.cond (.t 80) .skip
                  (.exit 6))))
                (.seq (.blk 7 (.seq (.reg (some (13, [])) [⟨some 83, none, .q (.mv (.t 10))⟩, ⟨some 84, none, .q (.mv (.t 14))⟩, ⟨some 85, none, .q (.mv (.t 15))⟩, ⟨some 86, none, .q (.ias 1 (.t 84) (.t 85))⟩, ⟨some 87, none, .q (.ld none (.t 86))⟩, ⟨some 88, none, .q (.ias 1 (.t 83) (.t 87))⟩, ⟨some 89, none, .q (.ld none (.t 88))⟩, ⟨some 90, none, .q (.bin .add (.t 89) (.c (.i .i64 1)))⟩, ⟨some 91, none, .q (.mv (.t 12))⟩, ⟨some 92, none, .q (.mv (.t 13))⟩, ⟨some 93, none, .q (.ias 1 (.t 91) (.t 92))⟩, ⟨some 94, none, .q (.ld none (.t 93))⟩, ⟨some 95, none, .q (.bin .gtr (.t 90) (.t 94))⟩])
                  (.keep [1, 2, 3, 7, 10, 11, 12, 13, 14, 15, 95]
                  (.cond (.t 95) (.reg none [⟨some 96, none, .q (.mv (.t 12))⟩, ⟨some 97, none, .q (.mv (.t 13))⟩, ⟨some 98, none, .q (.mv (.t 10))⟩, ⟨some 99, none, .q (.mv (.t 14))⟩, ⟨some 100, none, .q (.mv (.t 15))⟩, ⟨some 101, none, .q (.ias 1 (.t 99) (.t 100))⟩, ⟨some 102, none, .q (.ld none (.t 101))⟩, ⟨some 103, none, .q (.ias 1 (.t 98) (.t 102))⟩, ⟨some 104, none, .q (.ld none (.t 103))⟩, ⟨some 105, none, .q (.bin .add (.t 104) (.c (.i .i64 1)))⟩, ⟨some 106, none, .q (.ias 1 (.t 96) (.t 97))⟩, ⟨none, none, .m (.st 1 (.t 106) (.t 105))⟩])
                  .skip))))
                (.keep [1, 2, 3, 7, 10, 11, 12, 13, 14, 15]
                (.reg none [⟨some 81, none, .q (.mv (.t 15))⟩, ⟨some 82, none, .q (.bin .add (.t 81) (.c (.i .i64 1)))⟩, ⟨some 15, none, .q (.mv (.t 82))⟩]))))))))))))))))
            (.keep [1, 2, 3, 7, 10, 11, 12, 13]
            (.reg none [⟨some 61, none, .q (.mv (.t 13))⟩, ⟨some 62, none, .q (.bin .add (.t 61) (.c (.i .i64 1)))⟩, ⟨some 13, none, .q (.mv (.t 62))⟩]))))))))))
        (.gst (.letT 12 1)
        (.reg none [⟨some 107, none, .q (.mv (.t 12))⟩, ⟨some 10, none, .q (.mv (.t 107))⟩]))))))
      (.keep [1, 2, 3, 7, 10, 11]
      (.reg none [⟨some 52, none, .q (.mv (.t 11))⟩, ⟨some 53, none, .q (.bin .add (.t 52) (.c (.i .i64 1)))⟩, ⟨some 11, none, .q (.mv (.t 53))⟩]))))))))))
  (.seq (.reg none [⟨some 108, none, .q (.mv (.t 10))⟩, ⟨some 109, none, .q (.mv (.t 2))⟩, ⟨some 110, none, .q (.ias 1 (.t 108) (.t 109))⟩, ⟨some 111, none, .q (.ld none (.t 110))⟩, ⟨some 6, none, .q (.mv (.t 111))⟩])
  .ret)))))))))))))
theorem r16 : (Try.f16.body.bind (resC Try.prog Try.f16.ntmps)) = some (strip c16) := by kernel_rfl
theorem s16 : Try.f16.results.toList.mapM (resRes Try.prog) = some [.t 6] := by kernel_rfl
theorem fit_p (p : Prog) (hp : p.Ok) (f pc : Int) : PureS Try.prog 11 [.g p.row, .i .i64 f, .i .i64 pc] (.i .i64 (askE p f pc)) := by
  refine fun_go hmx Try.func11 r11 s11 (by rw [Try.ntmps11]; simp) ?_
  unfold c11
  simp [Prog.row]
  first
    | refine callk rfl Try.call22 (right22 p hp) rfl ?_
    | refine callks rfl Try.call22 (right22 p hp) rfl ?_
    | refine callq rfl Try.call22 (right22 p hp) rfl ?_
    | refine callqe rfl Try.call22 (right22 p hp) rfl ?_
  by_cases hc : (check p).1 = 0
  rotate_left
  · simp [hc, askE]
  by_cases hf : f < 0 ∨ (p.funcs.length : Int) ≤ f ∨ pc < 0
  · have hE : askE p f pc = 1 := by
      rw [askE, if_neg (by simp [hc]), if_pos]
      rcases hf with h | h | h
      · exact .inl h
      · exact .inr (.inl h)
      · exact .inr (.inr (.inl h))
    rw [hE]
    cases hq : p.funcs[f.toNat]? with
    | none =>
      rcases hf with h | h | h
      · simp [hc, h, hq]
      · simp [hc, h, hq]
      · simp [hc, h, hq]
    | some F =>
      rcases hf with h | h | h
      · simp [hc, h, hq, Func.row]
      · simp [hc, h, hq, Func.row]
      · simp [hc, h, hq, Func.row]
  · have h1 : ¬ f < 0 := fun h => hf (.inl h)
    have h2 : ¬ (p.funcs.length : Int) ≤ f := fun h => hf (.inr (.inl h))
    have h3 : ¬ pc < 0 := fun h => hf (.inr (.inr h))
    have hlt : f.toNat < p.funcs.length := by omega
    have hgd : p.funcs.getD f.toNat default = p.funcs[f.toNat] := by rw [List.getD_eq_getElem?_getD, List.getElem?_eq_getElem hlt]; rfl
    have hE : askE p f pc = if (p.funcs[f.toNat].code.length : Int) ≤ pc then 1 else 0 := by
      rw [askE, if_neg (by simp [hc]), hgd]
      simp [h1, h2, h3]
    rw [hE]
    have h1' : 0 ≤ f := by omega
    have h2' : f < (p.funcs.length : Int) := by omega
    have h3' : 0 ≤ pc := by omega
    simp [hc, h1, h2, h3, h1', h2', h3', hlt, Func.row]
theorem reachR_p (p : Prog) (hp : p.Ok) (f pc : Nat) (F : Func) (hF : p.funcs[f]? = some F) (hf : Fine F) (hpc : pc < F.code.length) (h4 : ∀ s ∈ F.selects, s.cases.length ≤ 64) : PureS Try.prog 15 [.g p.row, .i .i64 (f : Int), .i .i64 (pc : Int)] (.sl 1 ((reachL F pc).map irow)) := by
  have hln := hf.len
  have hrl := reachN_list hf hpc
  refine fun_go hmx Try.func15 r15 s15 (by rw [Try.ntmps15]; simp) ?_
  unfold c15
  simp [Prog.row]
  first
    | refine callk rfl Try.call46 (fromR_p p hp f pc F hF hpc hln) rfl ?_
    | refine callks rfl Try.call46 (fromR_p p hp f pc F hF hpc hln) rfl ?_
    | refine callq rfl Try.call46 (fromR_p p hp f pc F hF hpc hln) rfl ?_
    | refine callqe rfl Try.call46 (fromR_p p hp f pc F hF hpc hln) rfl ?_
  simp [-List.map_set]
  first
    | refine callk rfl Try.call45 (markedR_p p hp f F hF hf h4 ((reps F.code.length false).set pc true) (by simp) false) rfl ?_
    | refine callks rfl Try.call45 (markedR_p p hp f F hF hf h4 ((reps F.code.length false).set pc true) (by simp) false) rfl ?_
    | refine callq rfl Try.call45 (markedR_p p hp f F hF hf h4 ((reps F.code.length false).set pc true) (by simp) false) rfl ?_
    | refine callqe rfl Try.call45 (markedR_p p hp f F hF hf h4 ((reps F.code.length false).set pc true) (by simp) false) rfl ?_
  simp
  have hpl := placesR_p (reachN (fun i => !false || loc F i) F ((reps F.code.length false).set pc true)) (by simp; omega)
  rw [reachN_length, hrl] at hpl
  simp at hpl
  first
    | refine callk rfl Try.call44 hpl rfl ?_
    | refine callks rfl Try.call44 hpl rfl ?_
    | refine callq rfl Try.call44 hpl rfl ?_
    | refine callqe rfl Try.call44 hpl rfl ?_
  simp
theorem spinsR_p (p : Prog) (hp : p.Ok) (f pc : Nat) (F : Func) (hF : p.funcs[f]? = some F) (hf : Fine F) (hpc : pc < F.code.length) (h4 : ∀ s ∈ F.selects, s.cases.length ≤ 64) : PureS Try.prog 47 [.g p.row, .i .i64 (f : Int), .i .i64 (pc : Int)] (.b (spin F pc)) := by
  have hlt := (List.getElem?_eq_some_iff.1 hF).1
  have hgF := (List.getElem?_eq_some_iff.1 hF).2
  have hln := hf.len
  have hib : F.code.getD pc default = F.code[pc] := by rw [List.getD_eq_getElem?_getD, List.getElem?_eq_getElem hpc]; rfl
  have hlo : isLocal F.code[pc].op = loc F pc := by rw [loc, hib]
  refine fun_go hmx Try.func47 r47 s47 (by rw [Try.ntmps47]; simp) ?_
  unfold c47
  simp [Prog.row, hlt, hgF, Func.row, hpc, Instr.row]
  first
    | refine callk rfl Try.call48 (local18 F.code[pc].op) rfl ?_
    | refine callks rfl Try.call48 (local18 F.code[pc].op) rfl ?_
    | refine callq rfl Try.call48 (local18 F.code[pc].op) rfl ?_
    | refine callqe rfl Try.call48 (local18 F.code[pc].op) rfl ?_
  rw [hlo]
  cases hl : loc F pc with
  | false => simp [spin, hl]
  | true =>
    have hnl : (nextL F pc).length ≤ F.code.length := by simp only [nextL, ints, List.length_map]; exact ones_len _ _
    have hb := hf.behind pc hpc
    simp [hlt, hgF, Func.row]
    refine ⟨⟨by omega, by omega⟩, ?_⟩
    first
      | refine callk rfl Try.call14 (nextR_p p hp f pc F hF hf hpc h4) rfl ?_
      | refine callks rfl Try.call14 (nextR_p p hp f pc F hF hf hpc h4) rfl ?_
      | refine callq rfl Try.call14 (nextR_p p hp f pc F hF hf hpc h4) rfl ?_
      | refine callqe rfl Try.call14 (nextR_p p hp f pc F hF hf hpc h4) rfl ?_
    simp
    have hnx : ∀ x ∈ nextL F pc, 0 ≤ x ∧ x < F.code.length := fun x hx => hb x ((next_mem hf hpc).1 hx)
    refine go_while hmx 2 (fun (k : Nat) => [(9, .v (.i .i64 (k : Int)))]) (fun k => [.none, .arr 0 1 (vrows ((mark (reps F.code.length false) ((nextL F pc).take k)).map brw))]) (fun k => k ≤ (nextL F pc).length) (fun k => (nextL F pc).length - k) 0 rfl rfl (by simp [mark, vrows, brw, reps]) (by simp) (by simp) (by simp) (Nat.zero_le _) ?_
    intro k hk
    by_cases hkl : k < (nextL F pc).length
    · have hkI : (k : Int) < ((nextL F pc).length : Int) := by omega
      have hw2 : IntKind.i64.wrap ((k : Int) + 1) = ((k : Int) + 1) := wrap_in (by omega) (by omega)
      have hx := hnx _ (List.getElem_mem hkl)
      have hmt := mark_take (reps F.code.length false) (nextL F pc) k _ (List.getElem?_eq_getElem hkl)
      obtain ⟨x, hxe⟩ : ∃ x, (nextL F pc)[k] = x := ⟨_, rfl⟩
      rw [hxe] at hx hmt
      have hxn : x.toNat < F.code.length := by omega
      simp [hkI, hkl, hxe, irow, hx.1, hx.2, hxn, vrows_at, brw, hw2]
      exact ⟨k + 1, by omega, by rw [hmt]; simp [vrows, brw, List.map_set], by omega, by omega⟩
    · have hkI : ¬ (k : Int) < ((nextL F pc).length : Int) := by omega
      obtain rfl : k = (nextL F pc).length := by omega
      simp [hkI]
      first
        | refine callk rfl Try.call45 (markedR_p p hp f F hF hf h4 (mark (reps F.code.length false) (nextL F pc)) (by simp) true) rfl ?_
        | refine callks rfl Try.call45 (markedR_p p hp f F hF hf h4 (mark (reps F.code.length false) (nextL F pc)) (by simp) true) rfl ?_
        | refine callq rfl Try.call45 (markedR_p p hp f F hF hf h4 (mark (reps F.code.length false) (nextL F pc)) (by simp) true) rfl ?_
        | refine callqe rfl Try.call45 (markedR_p p hp f F hF hf h4 (mark (reps F.code.length false) (nextL F pc)) (by simp) true) rfl ?_
      have hrs := reachN_spin hf hpc hl
      have hgd : (reachN (fun i => !true || loc F i) F (mark (reps F.code.length false) (nextL F pc))).getD pc false = (reachN (fun i => !true || loc F i) F (mark (reps F.code.length false) (nextL F pc)))[pc]'(by simpa using hpc) := by rw [List.getD_eq_getElem?_getD, List.getElem?_eq_getElem (by simpa using hpc)]; rfl
      rw [hgd] at hrs
      simp at hrs
      simp [hpc, brw, hrs]
end Go.Sc.Fl
/- Chapter 06: the document's own longest way. No condition. -/
set_option linter.constructorNameAsVariable false
namespace Go.Sc.Fl
open Go Go.RowKit Go.Av Go.Proofs Go.Sc
open Go.Sc.Q03 (local18)
set_option linter.unusedSimpArgs false
set_option linter.unusedVariables false
theorem longestR_p (p : Prog) (hp : p.Ok) (f pc : Nat) (F : Func) (hF : p.funcs[f]? = some F) (hf : Fine F) (hpc : pc < F.code.length) (h4 : ∀ s ∈ F.selects, s.cases.length ≤ 64) : PureS Try.prog 16 [.g p.row, .i .i64 (f : Int), .i .i64 (pc : Int)] (.i .i64 (longV F pc)) := by
  have hlt := (List.getElem?_eq_some_iff.1 hF).1
  have hgF := (List.getElem?_eq_some_iff.1 hF).2
  have hln := hf.len
  have hway : ∀ i, i < F.code.length → ((reachN (fun i => !true || loc F i) F ((reps F.code.length false).set pc true)).getD i false = true ↔ Way F pc i) := fun i hi => reachN_one hf hpc hi
  refine fun_go hmx Try.func16 r16 s16 (by rw [Try.ntmps16]; simp) ?_
  unfold c16
  simp [Prog.row, hlt, hgF, Func.row]
  first
    | refine callk rfl Try.call46 (fromR_p p hp f pc F hF hpc hln) rfl ?_
    | refine callks rfl Try.call46 (fromR_p p hp f pc F hF hpc hln) rfl ?_
    | refine callq rfl Try.call46 (fromR_p p hp f pc F hF hpc hln) rfl ?_
    | refine callqe rfl Try.call46 (fromR_p p hp f pc F hF hpc hln) rfl ?_
  simp [-List.map_set]
  first
    | refine callk rfl Try.call45 (markedR_p p hp f F hF hf h4 ((reps F.code.length false).set pc true) (by simp) true) rfl ?_
    | refine callks rfl Try.call45 (markedR_p p hp f F hF hf h4 ((reps F.code.length false).set pc true) (by simp) true) rfl ?_
    | refine callq rfl Try.call45 (markedR_p p hp f F hF hf h4 ((reps F.code.length false).set pc true) (by simp) true) rfl ?_
    | refine callqe rfl Try.call45 (markedR_p p hp f F hF hf h4 ((reps F.code.length false).set pc true) (by simp) true) rfl ?_
  have hol : (reachN (fun i => !true || loc F i) F ((reps F.code.length false).set pc true)).length = F.code.length := by simp
  generalize reachN (fun i => !true || loc F i) F ((reps F.code.length false).set pc true) = on at hway hol ⊢
  simp
  refine go_count hmx 9 0 F.code.length (fun i h => h = [.none] ∧ ∀ a, a < i → Way F pc a → spin F a = false) (Nat.zero_le _) (by omega) rfl ⟨rfl, fun a ha => by omega⟩ ?_ ?_
  · rintro i h - hi ⟨rfl, hn⟩ hw
    have hI : (i : Int) < (F.code.length : Int) := by omega
    have hio : i < on.length := by omega
    have hwi := hway i hi
    rw [show on.getD i false = on[i] by rw [List.getD_eq_getElem?_getD, List.getElem?_eq_getElem hio]; rfl] at hwi
    simp [hI, hio, hol, hi, brw]
    first
      | refine callkg rfl Try.call47 rfl (fun _ => (spinsR_p p hp f i F hF hf hi h4)) (fun hG => by first | (simp; done) | (simp at hG; done) | simpa using hG) rfl ?_
      | refine callksg rfl Try.call47 rfl (fun _ => (spinsR_p p hp f i F hF hf hi h4)) (fun hG => by first | (simp; done) | (simp at hG; done) | simpa using hG) rfl ?_
      | refine callqg rfl Try.call47 rfl (fun _ => (spinsR_p p hp f i F hF hf hi h4)) (fun hG => by first | (simp; done) | (simp at hG; done) | simpa using hG) rfl ?_
    simp
    refine ⟨fun h1 h2 => (longV_ring (hwi.1 h1) h2).symm, fun h1 => ⟨hw, fun a ha hwa => ?_⟩⟩
    by_cases hai : a = i
    · subst hai; exact h1 (hwi.2 hwa)
    · exact hn a (by omega) hwa
  · rintro h ⟨rfl, hn⟩
    have hac : Acyc F pc := fun i hi => hn i (way_lt hf hpc hi) hi
    rw [longV_acyc hac]
    simp
    refine ⟨⟨by omega, by omega⟩, ?_⟩
    have hz : List.replicate F.code.length [RV.v (AV.i IntKind.i64 0)] = vrows ((longL F 0).map irow) := by rw [longL_zero]; simp [vrows, irow]
    rw [hz]
    simp
    refine go_while hmx 2 (fun (r : Nat) => [(10, .v (.sl 1 ((longL F r).map irow))), (11, .v (.i .i64 (r : Int)))]) (fun _ => [.none, .none]) (fun r => r ≤ F.code.length) (fun r => F.code.length - r) 0 rfl rfl rfl (by simp) (by simp) (by simp) (Nat.zero_le _) ?_
    intro r hr
    by_cases hrl : r < F.code.length
    rotate_left
    · have hI : ¬ (r : Int) < (F.code.length : Int) := by omega
      obtain rfl : r = F.code.length := by omega
      simp [hI, hpc, irow, longL_get]
    have hI : (r : Int) < (F.code.length : Int) := by omega
    have hw : IntKind.i64.wrap ((r : Int) + 1) = ((r : Int) + 1) := wrap_in (by omega) (by omega)
    simp [hI]
    refine ⟨⟨by omega, by omega⟩, ?_⟩
    have hz2 : List.replicate F.code.length [RV.v (AV.i IntKind.i64 0)] = vrows ((partL F (r + 1) 0).map irow) := by rw [partL_zero]; simp [vrows, irow]
    rw [hz2]
    refine go_while hmx 3 (fun (i : Nat) => [(13, .v (.i .i64 (i : Int)))]) (fun i => [.none, .none, .arr 0 1 (vrows ((partL F (r + 1) i).map irow))]) (fun i => i ≤ F.code.length) (fun i => F.code.length - i) 0 rfl rfl rfl (by simp) (by simp) (by simp) (Nat.zero_le _) ?_
    intro i hi
    by_cases hil : i < F.code.length
    rotate_left
    · have hI2 : ¬ (i : Int) < (F.code.length : Int) := by omega
      obtain rfl : i = F.code.length := by omega
      simp [hI2, hw]
      exact ⟨r + 1, ⟨by rw [partL_all], by omega⟩, by omega, by omega⟩
    have hI2 : (i : Int) < (F.code.length : Int) := by omega
    have hw2 : IntKind.i64.wrap ((i : Int) + 1) = ((i : Int) + 1) := wrap_in (by omega) (by omega)
    have hib : F.code.getD i default = F.code[i] := by rw [List.getD_eq_getElem?_getD, List.getElem?_eq_getElem hil]; rfl
    have hlo : isLocal F.code[i].op = loc F i := by rw [loc, hib]
    simp [hI2, hil, Instr.row]
    first
      | refine callk rfl Try.call48 (local18 F.code[i].op) rfl ?_
      | refine callks rfl Try.call48 (local18 F.code[i].op) rfl ?_
      | refine callq rfl Try.call48 (local18 F.code[i].op) rfl ?_
      | refine callqe rfl Try.call48 (local18 F.code[i].op) rfl ?_
    rw [hlo]
    cases hl : loc F i with
    | false =>
      simp [hw2]
      exact ⟨i + 1, by omega, by rw [partL_skip F (r + 1) i hil (lg_zero hl _)], by omega, by omega⟩
    | true =>
      have hset : ∀ x : Int, (vrows ((partL F (r + 1) i).map irow)).set i [RV.v (AV.i IntKind.i64 x)] = vrows (((partL F (r + 1) i).set i x).map irow) := fun x => by simp [vrows, irow, List.map_set]
      simp [hI2, hil, vrows_at, irow]
      rw [hset]
      first
        | refine callk rfl Try.call14 (nextR_p p hp f i F hF hf hil h4) rfl ?_
        | refine callks rfl Try.call14 (nextR_p p hp f i F hF hf hil h4) rfl ?_
        | refine callq rfl Try.call14 (nextR_p p hp f i F hF hf hil h4) rfl ?_
        | refine callqe rfl Try.call14 (nextR_p p hp f i F hF hf hil h4) rfl ?_
      simp [-List.map_set]
      have hnl : (nextL F i).length ≤ F.code.length := by simp only [nextL, ints, List.length_map]; exact ones_len _ _
      refine go_while hmx 3 (fun (k : Nat) => [(15, .v (.i .i64 (k : Int)))]) (fun k => [.none, .none, .arr 0 1 (vrows (((partL F (r + 1) i).set i ((maxL (fun x => lgN F r x.toNat) ((nextL F i).take k) + 1 : Nat) : Int)).map irow))]) (fun k => k ≤ (nextL F i).length) (fun k => (nextL F i).length - k) 0 rfl rfl (by simp [maxL]) (by simp) (by simp) (by simp) (Nat.zero_le _) ?_
      intro k hk
      by_cases hkl : k < (nextL F i).length
      rotate_left
      · have hI3 : ¬ (k : Int) < ((nextL F i).length : Int) := by omega
        obtain rfl : k = (nextL F i).length := by omega
        have htk : (nextL F i).take (nextL F i).length = nextL F i := List.take_length
        rw [htk]
        have hmx2 : maxL (fun x => lgN F r x.toNat) (nextL F i) + 1 = lgN F (r + 1) i := by
          rw [lgN, if_pos hl, maxL_same (fun x => next_mem hf hil) fun x _ => rfl]
        have hmx3 : (maxL (fun x => lgN F r x.toNat) (nextL F i) : Int) + 1 = (lgN F (r + 1) i : Int) := by omega
        simp [hI3, hw2, -List.map_set]
        exact ⟨i + 1, by omega, by rw [hmx3, partL_succ F (r + 1) i hil], by omega, by omega⟩
      have hI3 : (k : Int) < ((nextL F i).length : Int) := by omega
      have hw3 : IntKind.i64.wrap ((k : Int) + 1) = ((k : Int) + 1) := wrap_in (by omega) (by omega)
      have hx := hf.behind i hil _ ((next_mem hf hil).1 (List.getElem_mem hkl))
      have hmt := maxL_take (g := fun x => lgN F r x.toNat) (l := nextL F i) (k := k) (List.getElem?_eq_getElem hkl)
      obtain ⟨x, hxe⟩ : ∃ x, (nextL F i)[k] = x := ⟨_, rfl⟩
      rw [hxe] at hx hmt
      have hxn : x.toNat < F.code.length := by omega
      have hle := lgN_le F r x.toNat
      have hw4 : IntKind.i64.wrap ((lgN F r x.toNat : Int) + 1) = (lgN F r x.toNat : Int) + 1 := wrap_in (by omega) (by omega)
      generalize hM : maxL (fun x => lgN F r x.toNat) ((nextL F i).take k) = M at *
      simp [hI3, hkl, hxe, irow, hx.1, hx.2, hxn, vrows_at, hil, hI2, longL_get, hw4, hw3, -List.map_set]
      refine ⟨fun hlt3 => ⟨k + 1, by omega, ?_, by omega, by omega⟩, fun hle3 => ⟨k + 1, by omega, ?_, by omega, by omega⟩⟩
      · rw [hmt, Nat.max_eq_right (by omega)]
        simp [vrows, irow, List.map_set]
      · rw [hmt, Nat.max_eq_left (by omega)]
end Go.Sc.Fl
/- Chapter 06: what every statement asks first. No condition. -/
set_option linter.constructorNameAsVariable false
namespace Go.Sc.Fl
open Go Go.RowKit Go.Av Go.Proofs Go.Sc
set_option linter.unusedSimpArgs false
set_option linter.unusedVariables false
/-- scarab/scarabplain.SameInts -/
def c13 : ACode :=
  (.seq (.reg none [⟨some 4, none, .q (.mv (.c (.b false)))⟩])
  (.keep [0, 1]
  (.seq (.seq (.reg none [⟨some 6, none, .q (.mv (.t 0))⟩, ⟨some 7, none, .q (.len false (.t 6))⟩, ⟨some 8, none, .q (.mv (.t 1))⟩, ⟨some 9, none, .q (.len false (.t 8))⟩, ⟨some 10, none, .q (.bin .neq (.t 7) (.t 9))⟩])
    (.keep [0, 1, 10]
    (.cond (.t 10) (.seq (.reg none [⟨some 4, none, .q (.mv (.c (.b false)))⟩])
      .ret)
    .skip)))
  (.seq (.seq (.reg none [⟨some 11, none, .q (.mv (.t 0))⟩, ⟨some 12, none, .q (.len false (.t 11))⟩, ⟨some 13, none, .q (.mv (.c (.i .i64 0)))⟩])
    (.keep [0, 1, 12, 13]
    (.blk 0 (.keep [0, 1, 12, 13]
    (.loop (.fin [0, 1, 12, 13]
      (.seq (.reg none [⟨some 14, none, .q (.bin .lss (.t 13) (.t 12))⟩])
      (.keep [0, 1, 12, 13, 14]
      (.seq (.cond (.t 14) .skip
        (.exit 0))
      (.seq (.blk 1 (.seq (.reg none [⟨some 15, none, .q (.mv (.t 13))⟩, ⟨some 5, none, .q (.mv (.t 15))⟩])
        (.keep [0, 1, 5, 12, 13]
        (.seq (.reg (some (9, [])) [⟨some 16, none, .q (.mv (.t 0))⟩, ⟨some 17, none, .q (.mv (.t 5))⟩, ⟨some 18, none, .q (.ias 1 (.t 16) (.t 17))⟩, ⟨some 19, none, .q (.ld none (.t 18))⟩, ⟨some 20, none, .q (.mv (.t 1))⟩, ⟨some 21, none, .q (.mv (.t 5))⟩, ⟨some 22, none, .q (.ias 1 (.t 20) (.t 21))⟩, ⟨some 23, none, .q (.ld none (.t 22))⟩, ⟨some 24, none, .q (.bin .neq (.t 19) (.t 23))⟩])
        (.keep [0, 1, 12, 13, 24]
        (.cond (.t 24) (.seq (.reg none [⟨some 4, none, .q (.mv (.c (.b false)))⟩])
          .ret)
        .skip))))))
      (.keep [0, 1, 12, 13]
      (.reg none [⟨some 25, none, .q (.bin .add (.t 13) (.c (.i .i64 1)))⟩, ⟨some 13, none, .q (.mv (.t 25))⟩]))))))))))))
  (.seq (.reg none [⟨some 4, none, .q (.mv (.c (.b true)))⟩])
  .ret)))))
theorem r13 : (Try.f13.body.bind (resC Try.prog Try.f13.ntmps)) = some (strip c13) := by kernel_rfl
theorem s13 : Try.f13.results.toList.mapM (resRes Try.prog) = some [.t 4] := by kernel_rfl
/-- scarab/scarablaw06.speaks -/
def c12 : ACode :=
  (.seq (.reg none [⟨some 0, none, .q (.mv (.c (.b false)))⟩])
  (.keep []
  (.seq (.reg none [⟨some 10, none, .q (.bld [(.i .i64 0), (.i .i64 0), (.i .i64 0), (.i .i64 0), (.i .i64 0)] [(0, 1, .c (.i .i64 64))])⟩, ⟨some 11, none, .q (.bld [(.i .i64 0), (.i .i64 0), (.i .i64 0), (.i .i64 0), (.i .i64 0)] [(0, 1, .c (.i .i64 45))])⟩, ⟨some 12, none, .m (.bsl 2 5 [(.i .i64 0), (.i .i64 0), (.i .i64 0), (.i .i64 0), (.i .i64 0)] [(0, 5, .t 10), (5, 5, .t 11)])⟩, ⟨some 13, none, .q (.bld [(.i .i64 0), (.i .i64 0), .nil, .nil] [(2, 1, .t 12)])⟩, ⟨some 14, none, .m (.bsl 1 4 [(.i .i64 0), (.i .i64 0), .nil, .nil] [(0, 4, .t 13)])⟩, ⟨some 15, none, .q (.bld [.nil, (.i .i64 0), .nil, .nil] [(3, 1, .t 14)])⟩, ⟨some 1, none, .m (.alloc (.g [.nil, (.i .i64 0), .nil, .nil]))⟩, ⟨none, none, .m (.st 4 (.t 1) (.t 15))⟩])
  (.gst (.frzD 1 (.pim [.sl 2 [], .i .i64 0, .sl 1 [], .sl 4 [[.i .i64 0, .i .i64 0, .sl 5 [[.i .i64 64, .i .i64 0, .i .i64 0, .i .i64 0, .i .i64 0], [.i .i64 45, .i .i64 0, .i .i64 0, .i .i64 0, .i .i64 0]], .sl 2 []]]]))
  (.keep [1]
  (.seq (.reg none [⟨some 17, none, .q (.ld (some 4) (.t 1))⟩, ⟨some 18, none, .call (.f 8) [(.t 17), (.c (.i .i64 0)), (.c (.i .i64 0))]⟩, ⟨some 16, none, .q (.mv (.t 18))⟩, ⟨some 19, none, .q (.ext 0 (.t 16))⟩, ⟨some 20, none, .q (.ext 1 (.t 16))⟩, ⟨some 2, none, .q (.mv (.t 19))⟩, ⟨some 3, none, .q (.mv (.t 20))⟩])
  (.keep [1, 2, 3]
  (.seq (.reg none [⟨some 22, none, .q (.ld (some 4) (.t 1))⟩, ⟨some 23, none, .call (.f 9) [(.t 22), (.c (.i .i64 0)), (.c (.i .i64 0))]⟩, ⟨some 21, none, .q (.mv (.t 23))⟩, ⟨some 24, none, .q (.ext 0 (.t 21))⟩, ⟨some 25, none, .q (.ext 1 (.t 21))⟩, ⟨some 4, none, .q (.mv (.t 24))⟩, ⟨some 5, none, .q (.mv (.t 25))⟩])
  (.keep [1, 2, 3, 4, 5]
  (.seq (.reg none [⟨some 27, none, .q (.ld (some 4) (.t 1))⟩, ⟨some 28, none, .call (.f 10) [(.t 27), (.c (.i .i64 0)), (.c (.i .i64 1))]⟩, ⟨some 26, none, .q (.mv (.t 28))⟩, ⟨some 29, none, .q (.ext 0 (.t 26))⟩, ⟨some 30, none, .q (.ext 1 (.t 26))⟩, ⟨some 6, none, .q (.mv (.t 29))⟩, ⟨some 7, none, .q (.mv (.t 30))⟩])
  (.keep [1, 2, 3, 4, 5, 6, 7]
  (.seq (.reg none [⟨some 32, none, .q (.ld (some 4) (.t 1))⟩, ⟨some 33, none, .call (.f 8) [(.t 32), (.c (.i .i64 0)), (.c (.i .i64 2))]⟩, ⟨some 31, none, .q (.mv (.t 33))⟩, ⟨some 34, none, .q (.ext 0 (.t 31))⟩, ⟨some 35, none, .q (.ext 1 (.t 31))⟩, ⟨some 8, none, .q (.mv (.t 34))⟩, ⟨some 9, none, .q (.mv (.t 35))⟩])
  (.keep [2, 3, 4, 5, 6, 7, 9]
  (.seq (.reg none [⟨some 36, none, .q (.mv (.t 3))⟩, ⟨some 37, none, .q (.bin .eql (.t 36) (.c (.i .i64 0)))⟩, ⟨some 38, none, .q (.mv (.t 37))⟩, ⟨some 39, some (38, true), .q (.mv (.t 5))⟩, ⟨some 40, some (38, true), .q (.bin .eql (.t 39) (.c (.i .i64 0)))⟩, ⟨some 41, none, .pk (.t 38) (.t 40) (.c (.b false))⟩, ⟨some 42, none, .q (.mv (.t 41))⟩, ⟨some 43, some (42, true), .q (.mv (.t 7))⟩, ⟨some 44, some (42, true), .q (.bin .eql (.t 43) (.c (.i .i64 0)))⟩, ⟨some 45, none, .pk (.t 42) (.t 44) (.c (.b false))⟩, ⟨some 46, none, .q (.mv (.t 45))⟩, ⟨some 47, some (46, true), .q (.mv (.t 9))⟩, ⟨some 48, some (46, true), .q (.bin .eql (.t 47) (.c (.i .i64 1)))⟩, ⟨some 49, none, .pk (.t 46) (.t 48) (.c (.b false))⟩, ⟨some 50, none, .q (.mv (.t 49))⟩, ⟨some 51, some (50, true), .q (.mv (.t 6))⟩, ⟨some 52, some (50, true), .q (.bin .eql (.t 51) (.c (.i .i64 1)))⟩, ⟨some 53, none, .pk (.t 50) (.t 52) (.c (.b false))⟩, ⟨some 54, none, .q (.mv (.t 53))⟩, ⟨some 55, some (54, true), .q (.mv (.t 2))⟩, ⟨some 56, some (54, true), .m (.bsl 1 1 [(.i .i64 0)] [(0, 1, .c (.i .i64 1))])⟩, ⟨some 57, some (54, true), .call (.f 13) [(.t 55), (.t 56)]⟩, ⟨some 58, none, .pk (.t 54) (.t 57) (.c (.b false))⟩, ⟨some 59, none, .q (.mv (.t 58))⟩, ⟨some 60, some (59, true), .q (.mv (.t 4))⟩, ⟨some 61, some (59, true), .m (.bsl 2 1 [(.i .i64 0)] [(0, 1, .c (.i .i64 0)), (1, 1, .c (.i .i64 1))])⟩, ⟨some 62, some (59, true), .call (.f 13) [(.t 60), (.t 61)]⟩, ⟨some 63, none, .pk (.t 59) (.t 62) (.c (.b false))⟩, ⟨some 0, none, .q (.mv (.t 63))⟩])
  .ret))))))))))))))
theorem r12 : (Try.f12.body.bind (resC Try.prog Try.f12.ntmps)) = some (strip c12) := by kernel_rfl
theorem s12 : Try.f12.results.toList.mapM (resRes Try.prog) = some [.t 0] := by kernel_rfl
theorem sameInts_l (a b : List Int) (ha : Few 8 a) (hb : Few 8 b) : PureS Try.prog 13 [.sl 1 (a.map irow), .sl 1 (b.map irow)] (.b (decide (a = b))) := by
  refine fun_go hmx Try.func13 r13 s13 (by rw [Try.ntmps13]; simp) ?_
  unfold c13
  simp
  refine ⟨fun h e => h (by rw [e]), fun hl => ?_⟩
  replace hl : a.length = b.length := by omega
  refine go_count hmx 13 0 a.length (fun i hp => a.take i = b.take i ∧ hp = []) (Nat.zero_le _) (ha.lt (by decide)) rfl ⟨rfl, rfl⟩ ?_ ?_
  · rintro i hp - hlt ⟨ht, rfl⟩ hw
    have hly : i < b.length := hl ▸ hlt
    have hxy := take_eq ht hlt hly
    generalize hx' : a[i] = x at *
    generalize hy' : b[i] = y at *
    simp [hlt, hly, hx', hy', hw, irow]
    exact ⟨fun h hc => h (by subst hc; exact hx'.symm.trans hy'), fun h => hxy.2 h⟩
  · rintro hp ⟨ht, rfl⟩
    simp
    exact eq_of_take ht (Nat.le_refl _) (Nat.lt_irrefl _) hl
theorem speaks_p : PureS Try.prog 12 [] (.b true) := by
  have hF : (check p0).1 = 0 → ∀ F ∈ p0.funcs, Fine F := fun h => right_fines h
  have hg0 : p0.funcs.getD (Int.toNat 0) default = F0 := rfl
  have n0 := next_p p0 p0_ok 0 0 hF
  rw [if_pos p0_ask0, hg0, show Int.toNat 0 = 0 from rfl, F0_next] at n0
  have r0 := reach_all p0 p0_ok 0 0 hF
  rw [if_pos p0_ask0, hg0, show Int.toNat 0 = 0 from rfl, F0_reach] at r0
  have l0 := longest_all p0 p0_ok 0 1 hF
  rw [if_pos p0_ask1, hg0, show Int.toNat 1 = 1 from rfl, F0_long, p0_ask1] at l0
  have n2 := next_p p0 p0_ok 0 2 hF
  rw [if_neg (by rw [p0_ask2]; decide), p0_ask2] at n2
  refine fun_go hmx Try.func12 r12 s12 (by rw [Try.ntmps12]; simp) ?_
  unfold c12
  simp
  refine ⟨?_, ?_⟩
  · generalize hH : [AObj.arr 0 5 _, AObj.arr 0 4 _, AObj.var _] = H
    have q0 : H[0]? = some (.arr 0 5 (F0.code.map Instr.row |>.map fun row => row.map .v)) := by rw [← hH]; rfl
    have q1 : H[1]? = some (.arr 0 4 [[.v (.i .i64 0), .v (.i .i64 0), .os 0 0, .v .nil]]) := by rw [← hH]; rfl
    have q2 : H[2]? = some (.var [.v .nil, .v (.i .i64 0), .v .nil, .os 1 0]) := by rw [← hH]; rfl
    have hfn : FrzL H [.v (.i .i64 0), .v (.i .i64 0), .os 0 0, .v .nil] [.i .i64 0, .i .i64 0, .sl 5 (F0.code.map Instr.row), .sl 2 []] := ⟨.v _, .v _, Frz.plain q0, .nil 2, trivial⟩
    have hfs : Frz H (.os 1 0) (.sl 4 [[.i .i64 0, .i .i64 0, .sl 5 (F0.code.map Instr.row), .sl 2 []]]) := by
      refine .os q1 rfl (fun r row row' h1 h2 => ?_) (fun r row row' j x x' h1 h2 h3 h4 => ?_)
      · cases r with
        | zero => simp at h1 h2; subst h1; subst h2; rfl
        | succ r => simp at h1
      · cases r with
        | zero => simp at h1 h2; subst h1; subst h2; exact hfn.get.2 j x x' h3 h4
        | succ r => simp at h1
    have hcs : FrzL H [.v .nil, .v (.i .i64 0), .v .nil, .os 1 0] [.sl 2 [], .i .i64 0, .sl 1 [], .sl 4 [[.i .i64 0, .i .i64 0, .sl 5 (F0.code.map Instr.row), .sl 2 []]]] := ⟨.nil 2, .v _, .nil 1, hfs, trivial⟩
    exact Frz.pt (off := 0) q2 rfl hcs.get.2
  refine callk rfl Try.call8 n0 rfl ?_
  simp
  refine callk rfl Try.call9 r0 rfl ?_
  simp
  refine callk rfl Try.call10 l0 rfl ?_
  simp
  refine callk rfl Try.call8 n2 rfl ?_
  simp
  have s1 := sameInts_l [1] [1] (by decide) (by decide)
  have s2 := sameInts_l [0, 1] [0, 1] (by decide) (by decide)
  refine callzg rfl Try.call13 rfl (fun _ => s1) (.b _) (by simp [obl]) (fun _ => ⟨.v _, Frz.plain rfl, trivial⟩) ?_
  simp
  refine callzg rfl Try.call13 rfl (fun _ => s2) (.b _) (by simp [obl]) (fun _ => ⟨.v _, Frz.plain rfl, trivial⟩) ?_
  simp
end Go.Sc.Fl
