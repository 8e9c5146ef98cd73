/- Chapter 06: what may come behind an instruction: an iterator. No condition. -/
import Derived.Test.YtinpjecafkdikaaProg
import Derived.Test.YtinpjecafkdikaaXFlo
import Derived.KernelRfl
import Derived.Test.YtinpjecafkdikaaXT3n
set_option linter.constructorNameAsVariable false
namespace Go.Sc.Fl
open Go Go.RowKit Go.Av Go.Proofs Go.Sc
set_option linter.unusedSimpArgs false
set_option linter.unusedVariables false
theorem hmx : Try.prog.follows .mixedOrders = true := by kernel_rfl
/-- scarab/flow.behind$1 -/
def c58 : ACode :=
  (.seq (.reg none [⟨some 8, none, .q (.fa 2 (.t 1))⟩, ⟨some 9, none, .q (.ld none (.t 8))⟩, ⟨some 10, none, .q (.ld none (.t 2))⟩, ⟨some 11, none, .q (.ias 5 (.t 9) (.t 10))⟩, ⟨some 12, none, .q (.ld (some 5) (.t 11))⟩, ⟨some 4, none, .m (.alloc (.g [(.i .i64 0), (.i .i64 0), (.i .i64 0), (.i .i64 0), (.i .i64 0)]))⟩, ⟨none, none, .m (.st 5 (.t 4) (.t 12))⟩])
  (.keep [0, 1, 2, 4]
  (.seq (.reg none [⟨some 13, none, .q (.fa 0 (.t 4))⟩, ⟨some 14, none, .q (.ld none (.t 13))⟩])
  (.keep [0, 1, 2, 4, 14]
  (.blk 0 (.seq (.reg none [⟨some 20, none, .q (.bin .eql (.t 14) (.c (.i .i64 45)))⟩, ⟨some 19, none, .q (.mv (.t 20))⟩])
  (.keep [0, 1, 2, 4, 14, 19]
  (.cond (.t 19) .skip
  (.seq (.reg none [⟨some 22, none, .q (.bin .eql (.t 14) (.c (.i .i64 42)))⟩, ⟨some 21, none, .q (.mv (.t 22))⟩])
    (.keep [0, 1, 2, 4, 14, 21]
    (.cond (.t 21) (.reg none [⟨some 23, none, .q (.mv (.t 0))⟩, ⟨some 24, none, .q (.fa 1 (.t 4))⟩, ⟨some 25, none, .q (.ld none (.t 24))⟩, ⟨some 26, none, .call (.t 23) [(.t 25)]⟩])
    (.seq (.reg none [⟨some 28, none, .q (.bin .eql (.t 14) (.c (.i .i64 43)))⟩, ⟨some 27, none, .q (.mv (.t 28))⟩])
      (.keep [0, 1, 2, 4, 14, 27]
      (.cond (.t 27) (.reg none [⟨some 29, none, .q (.mv (.t 0))⟩, ⟨some 30, none, .q (.fa 2 (.t 4))⟩, ⟨some 31, none, .q (.ld none (.t 30))⟩, ⟨some 32, none, .call (.t 29) [(.t 31)]⟩, ⟨some 33, none, .q (.mv (.t 32))⟩, ⟨some 34, some (33, true), .q (.mv (.t 0))⟩, ⟨some 35, some (33, true), .q (.ld none (.t 2))⟩, ⟨some 36, some (33, true), .q (.bin .add (.t 35) (.c (.i .i64 1)))⟩, ⟨some 37, some (33, true), .call (.t 34) [(.t 36)]⟩, ⟨some 38, none, .pk (.t 33) (.t 37) (.c (.b false))⟩])
      (.seq (.reg none [⟨some 40, none, .q (.bin .eql (.t 14) (.c (.i .i64 61)))⟩, ⟨some 39, none, .q (.mv (.t 40))⟩])
        (.keep [0, 1, 2, 4, 39]
        (.cond (.t 39) (.seq (.reg none [⟨some 41, none, .q (.fa 3 (.t 1))⟩, ⟨some 42, none, .q (.ld none (.t 41))⟩, ⟨some 43, none, .q (.fa 1 (.t 4))⟩, ⟨some 44, none, .q (.ld none (.t 43))⟩, ⟨some 45, none, .q (.ias 2 (.t 42) (.t 44))⟩, ⟨some 46, none, .q (.ld (some 2) (.t 45))⟩, ⟨some 5, none, .m (.alloc (.g [.nil, (.i .i64 0)]))⟩, ⟨none, none, .m (.st 2 (.t 5) (.t 46))⟩])
          (.keep [0, 5]
          (.seq (.seq (.reg none [⟨some 47, none, .q (.fa 0 (.t 5))⟩, ⟨some 48, none, .q (.ld none (.t 47))⟩, ⟨some 49, none, .q (.len false (.t 48))⟩, ⟨some 50, none, .q (.mv (.c (.i .i64 0)))⟩])
            (.keep [0, 5, 48, 49, 50]
            (.blk 1 (.keep [0, 5, 48, 49, 50]
            (.loop (.fin [0, 5, 48, 49, 50]
              (.seq (.reg none [⟨some 51, none, .q (.bin .lss (.t 50) (.t 49))⟩])
              (.keep [0, 5, 48, 49, 50, 51]
              (.seq (.cond (.t 51) .skip
                (.exit 1))
              (.seq (.blk 2 (.seq (.reg none [⟨some 52, none, .q (.ias 4 (.t 48) (.t 50))⟩, ⟨some 53, none, .q (.ld (some 4) (.t 52))⟩, ⟨some 7, none, .m (.alloc (.g [(.b false), (.i .i64 0), (.i .i64 0), (.i .i64 0)]))⟩, ⟨none, none, .m (.st 4 (.t 7) (.t 53))⟩])
                (.keep [0, 5, 7, 48, 49, 50]
                (.seq (.reg none [⟨some 54, none, .q (.mv (.t 0))⟩, ⟨some 55, none, .q (.fa 3 (.t 7))⟩, ⟨some 56, none, .q (.ld none (.t 55))⟩, ⟨some 57, none, .call (.t 54) [(.t 56)]⟩, ⟨some 58, none, .q (.un .not (.t 57))⟩])
                (.keep [0, 5, 48, 49, 50, 58]
                (.cond (.t 58) .ret
                .skip))))))
              (.keep [0, 5, 48, 49, 50]
              (.reg none [⟨some 59, none, .q (.bin .add (.t 50) (.c (.i .i64 1)))⟩, ⟨some 50, none, .q (.mv (.t 59))⟩]))))))))))))
          (.seq (.reg none [⟨some 60, none, .q (.fa 1 (.t 5))⟩, ⟨some 61, none, .q (.ld none (.t 60))⟩, ⟨some 62, none, .q (.bin .neq (.t 61) (.c (.i .i64 (-1))))⟩])
          (.keep [0, 5, 62]
          (.cond (.t 62) (.reg none [⟨some 63, none, .q (.mv (.t 0))⟩, ⟨some 64, none, .q (.fa 1 (.t 5))⟩, ⟨some 65, none, .q (.ld none (.t 64))⟩, ⟨some 66, none, .call (.t 63) [(.t 65)]⟩])
          .skip))))))
        (.reg none [⟨some 15, none, .q (.mv (.t 0))⟩, ⟨some 16, none, .q (.ld none (.t 2))⟩, ⟨some 17, none, .q (.bin .add (.t 16) (.c (.i .i64 1)))⟩, ⟨some 18, none, .call (.t 15) [(.t 17)]⟩]))))))))))))))))))
theorem r58 : (Try.f58.body.bind (resC Try.prog Try.f58.ntmps)) = some (strip c58) := by kernel_rfl
theorem s58 : Try.f58.results.toList.mapM (resRes Try.prog) = some [] := by kernel_rfl
theorem behind_iter (f : Func) (hf : f.Ok) (pc : Nat) (hpc : pc < f.code.length) (hsel : (f.code.getD pc default).op = 61 → 0 ≤ (f.code.getD pc default).a ∧ (f.code.getD pc default).a < f.selects.length) :
    IterS Try.prog 58 [.pim f.row, .pim [.i .i64 (pc : Int)]] ((behindL f pc).map irow) := by
  intro l s H J hs hJ hy h0
  obtain ⟨hl0, low0⟩ := hJ 0 H h0
  refine fun_go hmx Try.func58 r58 s58 (by rw [Try.ntmps58]; simp) ?_
  unfold c58
  have hcl := hf.few.lt (by decide)
  have hcl' : pc < 9223372036854775807 := by omega
  have hi : f.code[pc]? = some (f.code.getD pc default) := by rw [List.getD_eq_getElem?_getD, List.getElem?_eq_getElem hpc]; rfl
  have hyk : ∀ (k : Nat) n h, (behindL f pc)[k]? = some n → J k h → YieldS Try.prog l s ([AV.i .i64 n].map .v) h fun r h' => r = .v (.b true) ∧ J (k + 1) h' := fun k n h hk hj => by
    obtain ⟨hk1, hk2⟩ := List.getElem?_eq_some_iff.1 hk
    have := hy k h (by simpa using hk1) hj
    simpa [irow, hk2] using this
  have hib : f.code.getD pc default = f.code[pc] := by rw [List.getD_eq_getElem?_getD, List.getElem?_eq_getElem hpc]; rfl
  rw [hib] at hsel
  have hin : I64 f.code[pc].b := (hf.code _ (List.getElem_mem hpc)).2.2.1
  have hw := wrap_nat hcl'
  simp [Func.row, hpc, hi, Instr.row]
  have hbL : behindL f pc = (let i := f.code[pc]; if i.op = 45 then [] else if i.op = 42 then [i.a] else if i.op = 43 then [i.b, (pc : Int) + 1]
    else if i.op = 61 then (f.selects.getD i.a.toNat default).cases.map (·.to) ++ (if (f.selects.getD i.a.toNat default).els = -1 then [] else [(f.selects.getD i.a.toNat default).els])
    else [(pc : Int) + 1]) := by rw [behindL, hib]
  generalize hgi : f.code[pc] = i at *
  simp only at hbL
  refine ⟨fun h45 => ?_, fun h45 => ⟨fun h42 => ?_, fun h42 => ⟨fun h43 => ?_, fun h43 => ⟨fun h61 => ?_, fun h61 => ?_⟩⟩⟩⟩
  · rw [if_pos h45] at hbL
    exact ⟨H, ⟨_, rfl⟩, by rw [hbL]; exact h0⟩
  · rw [if_neg h45, if_pos h42] at hbL
    refine callj hJ h0 _ rfl rfl rfl (hyk 0 i.a H (by simp [hbL]) h0) hs ?_
    rintro h1 hj1 hl1
    simp [hbL]
    exact ⟨h1, ⟨_, rfl⟩, hj1⟩
  · rw [if_neg h45, if_neg h42, if_pos h43] at hbL
    refine callj hJ h0 _ rfl rfl rfl (hyk 0 i.b H (by simp [hbL]) h0) hs ?_
    rintro h1 hj1 hl1
    simp [hw]
    refine calljg hJ hj1 _ rfl rfl rfl (by simp [obl]) rfl rfl (hyk 1 _ h1 (by simp [hbL]) hj1) hs ?_
    rintro h2 hj2 hl2
    simp [hbL]
    exact ⟨h2, ⟨_, rfl⟩, hj2⟩
  · rw [if_neg h45, if_neg h42, if_neg h43, if_pos h61] at hbL
    obtain ⟨ha0, ha1⟩ := hsel h61
    have hlt : i.a.toNat < f.selects.length := by omega
    have hsd : f.selects.getD i.a.toNat default = f.selects[i.a.toNat] := by rw [List.getD_eq_getElem?_getD, List.getElem?_eq_getElem hlt]; rfl
    rw [hsd] at hbL
    have hS : f.selects[i.a.toNat].Ok := hf.sel _ (List.getElem_mem hlt)
    simp [hlt, Select.row, ha0, ha1]
    generalize f.selects[i.a.toNat] = S at *
    have hSl := hS.few.lt (by decide)
    generalize hn : H.length = n at *
    refine go_count hmx 50 0 S.cases.length (fun k h => ∃ h1 Y, h = h1 ++ AObj.var [RV.v (AV.i IntKind.i64 i.op), RV.v (AV.i IntKind.i64 i.a), RV.v (AV.i IntKind.i64 i.b), RV.v (AV.i IntKind.i64 i.c), RV.v (AV.i IntKind.i64 i.n)] :: AObj.var [RV.v (AV.sl 4 (List.map Case.row S.cases)), RV.v (AV.i IntKind.i64 S.els)] :: Y ∧ J k h1) (Nat.zero_le _) hSl rfl ⟨H, [], by simp, h0⟩ ?_ ?_
    · rintro k h - hlt2 ⟨h1, Y, rfl, hj1⟩ hw2
      have hl1 := (hJ _ _ hj1).1
      have hkI : (k : Int) < (S.cases.length : Int) := by omega
      have hck : S.cases[k]? = some S.cases[k] := List.getElem?_eq_getElem hlt2
      simp [hkI, hlt2, hw2, Case.row, end0 hl1, end1 hl1]
      refine callj hJ hj1 _ rfl rfl rfl (hyk k _ h1 (by rw [hbL, List.getElem?_append_left (by simpa using hlt2), List.getElem?_map, hck]; rfl) hj1) (by omega) ?_
      rintro h2 hj2 hl2
      simp [hw2]
      exact ⟨h2, ⟨_, rfl⟩, hj2⟩
    · rintro h ⟨h1, Y, rfl, hj1⟩
      have hl1 := (hJ _ _ hj1).1
      simp [end0 hl1, end1 hl1]
      constructor
      · intro hels
        rw [if_neg hels] at hbL
        refine callj hJ hj1 _ rfl rfl rfl (hyk S.cases.length _ h1 (by rw [hbL, List.getElem?_append_right (by simp)]; simp) hj1) (by omega) ?_
        rintro h2 hj2 hl2
        simp [hbL]
        exact ⟨h2, ⟨_, rfl⟩, hj2⟩
      · intro hels
        rw [if_pos hels] at hbL
        exact ⟨h1, ⟨_, rfl⟩, by rw [hbL]; simpa using hj1⟩
  · rw [if_neg h45, if_neg h42, if_neg h43, if_neg h61] at hbL
    refine callj hJ h0 _ rfl rfl rfl (hyk 0 _ H (by simp [hbL, hw]) h0) hs ?_
    rintro h1 hj1 hl1
    simp [hbL]
    exact ⟨h1, ⟨_, rfl⟩, hj1⟩
end Go.Sc.Fl
/- Chapter 06: the places that are marked, as a list; what may come behind. No condition. -/
set_option linter.constructorNameAsVariable false
namespace Go.Sc.Fl
open Go Go.RowKit Go.Av Go.Proofs Go.Sc
set_option linter.unusedSimpArgs false
set_option linter.unusedVariables false
/-- scarab/flow.behind -/
def c34 : ACode :=
  (.seq (.reg none [⟨some 2, none, .m (.box (.t 0))⟩, ⟨some 3, none, .m (.box (.t 1))⟩, ⟨some 4, none, .q (.mv (.c .nf))⟩])
  (.gst (.pimT 2)
  (.gst (.pimT 3)
  (.keep [2, 3]
  (.seq (.reg none [⟨some 5, none, .q (.mkf 58 [(.t 2), (.t 3)])⟩, ⟨some 4, none, .q (.mv (.t 5))⟩])
  .ret)))))
theorem r34 : (Try.f34.body.bind (resC Try.prog Try.f34.ntmps)) = some (strip c34) := by kernel_rfl
theorem s34 : Try.f34.results.toList.mapM (resRes Try.prog) = some [.t 4] := by kernel_rfl
/-- (scarab/flow.places).list -/
def c35 : ACode :=
  (.seq (.reg none [⟨some 2, none, .m (.box (.t 0))⟩, ⟨some 4, none, .q (.mv (.c .nil))⟩])
  (.keep [1, 2]
  (.seq (.reg none [⟨some 5, none, .q (.mv (.c .nil))⟩])
  (.gst (.nilT 5 1)
  (.keep [1, 2, 5]
  (.seq (.seq (.reg none [⟨some 7, none, .q (.mv (.t 1))⟩, ⟨some 8, none, .q (.mv (.c (.i .i64 0)))⟩])
    (.keep [2, 5, 7, 8]
    (.blk 0 (.keep [2, 5, 7, 8]
    (.loop (.fin [2, 5, 7, 8]
      (.seq (.reg none [⟨some 9, none, .q (.bin .lss (.t 8) (.t 7))⟩])
      (.keep [2, 5, 7, 8, 9]
      (.seq (.cond (.t 9) .skip
        (.exit 0))
      (.seq (.blk 1 (.seq (.reg none [⟨some 10, none, .q (.mv (.t 8))⟩, ⟨some 6, none, .q (.mv (.t 10))⟩])
        (.keep [2, 5, 6, 7, 8]
        (.seq (.reg none [⟨some 11, none, .q (.mv (.t 6))⟩, ⟨some 12, none, .q (.iaa 64 1 (.t 2) (.t 11))⟩, ⟨some 13, none, .q (.ld none (.t 12))⟩])
        (.keep [2, 5, 6, 7, 8, 13]
        (.cond (.t 13) (.reg none [⟨some 14, none, .q (.mv (.t 5))⟩, ⟨some 15, none, .q (.mv (.t 6))⟩, ⟨some 16, none, .m (.bsl 1 1 [(.i .i64 0)] [(0, 1, .t 15)])⟩, ⟨some 17, none, .m (.app 1 8 (.t 14) (.t 16))⟩, ⟨some 5, none, .q (.mv (.t 17))⟩])
        .skip))))))
      (.keep [2, 5, 7, 8]
      (.reg none [⟨some 18, none, .q (.bin .add (.t 8) (.c (.i .i64 1)))⟩, ⟨some 8, none, .q (.mv (.t 18))⟩]))))))))))))
  (.seq (.gst (.letT 5 1)
    (.reg none [⟨some 19, none, .q (.mv (.t 5))⟩, ⟨some 4, none, .q (.mv (.t 19))⟩]))
  .ret)))))))
theorem r35 : (Try.f35.body.bind (resC Try.prog Try.f35.ntmps)) = some (strip c35) := by kernel_rfl
theorem s35 : Try.f35.results.toList.mapM (resRes Try.prog) = some [.t 4] := by kernel_rfl
theorem behind_p (f : Func) (pc : Int) : PureS Try.prog 34 [.g f.row, .i .i64 pc] (.fn 58 [.pim f.row, .pim [.i .i64 pc]]) := by
  refine fun_go hmx Try.func34 r34 s34 (by rw [Try.ntmps34]; simp) ?_
  unfold c34
  simp [Func.row]
theorem list_p (m : List Bool) (n : Nat) (hm : m.length = 64) (hn : n ≤ 64) : PureS Try.prog 35 [.g (ags AV.b m), .i .i64 (n : Int)] (.sl 1 ((ints (ones m n)).map irow)) := by
  refine fun_go hmx Try.func35 r35 s35 (by rw [Try.ntmps35]; simp) ?_
  unfold c35
  simp
  refine go_while hmx 2 (fun (s : Nat × Nat) => [(5, .os 1 s.2), (8, .v (.i .i64 (s.1 : Int)))]) (fun s => [.var (avs AV.b m), .arr s.2 1 (vrows ((ints (ones m s.1)).map irow))]) (fun s => s.1 ≤ n) (fun s => n - s.1) (0, 0) rfl (by simp) rfl (by simp) (by simp) (by simp) (Nat.zero_le _) ?_
  rintro ⟨i, v⟩ hi
  simp only at hi
  by_cases hlt : i < n
  · have hI : (i : Int) < (n : Int) := by omega
    have h64 : (i : Int) < 64 := by omega
    have him : i < m.length := by omega
    have hw : IntKind.i64.wrap ((i : Int) + 1) = ((i : Int) + 1) := wrap_in (by omega) (by omega)
    have hlen := ones_len m i
    have hone := ones_succ m i
    have hgd : m.getD i false = m[i] := by rw [List.getD_eq_getElem?_getD, List.getElem?_eq_getElem him]; rfl
    rw [hgd] at hone
    simp [hI, h64, him, hw]
    constructor
    · intro hb
      rw [if_pos hb] at hone
      have hl2 : (ints (ones m i)).length = (ones m i).length := by simp [ints]
      exact ⟨⟨by omega, by omega⟩, i + 1, v + 1, ⟨rfl, rfl⟩, ⟨rfl, by rw [hone]; simp [ints, vrows, irow]⟩, by omega, by omega⟩
    · intro hb
      rw [if_neg (by simp [hb]), List.append_nil] at hone
      exact ⟨i + 1, v, ⟨rfl, rfl⟩, ⟨rfl, by rw [hone]⟩, by omega, by omega⟩
  · have hI : ¬ (i : Int) < (n : Int) := by omega
    obtain rfl : i = n := by omega
    simp [hI]
open Go.Sc.Q03 (check21)
/-- scarab/flow.asked -/
def c33 : ACode :=
  (.seq (.reg none [⟨some 3, none, .m (.box (.t 0))⟩, ⟨some 6, none, .q (.mv (.c (.i .i64 0)))⟩])
  (.gst (.pimT 3)
  (.keep [1, 2, 3]
  (.seq (.seq (.reg none [⟨some 10, none, .q (.ld (some 4) (.t 3))⟩, ⟨some 11, none, .call (.f 57) [(.t 10)]⟩, ⟨some 9, none, .q (.mv (.t 11))⟩, ⟨some 12, none, .q (.ext 0 (.t 9))⟩, ⟨some 13, none, .q (.ext 1 (.t 9))⟩, ⟨some 8, none, .m (.alloc (.g [(.i .i64 0), (.i .i64 0)]))⟩, ⟨some 7, none, .q (.mv (.t 12))⟩, ⟨none, none, .m (.st 2 (.t 8) (.t 13))⟩])
    (.keep [1, 2, 3, 7]
    (.seq (.reg none [⟨some 14, none, .q (.mv (.t 7))⟩, ⟨some 15, none, .q (.bin .neq (.t 14) (.c (.i .i64 0)))⟩])
    (.keep [1, 2, 3, 15]
    (.cond (.t 15) (.seq (.reg none [⟨some 6, none, .q (.mv (.c (.i .i64 3)))⟩])
      .ret)
    .skip)))))
  (.seq (.seq (.reg none [⟨some 16, none, .q (.mv (.t 1))⟩, ⟨some 17, none, .q (.bin .lss (.t 16) (.c (.i .i64 0)))⟩, ⟨some 18, none, .q (.mv (.t 17))⟩, ⟨some 19, some (18, false), .q (.mv (.t 1))⟩, ⟨some 20, some (18, false), .q (.fa 3 (.t 3))⟩, ⟨some 21, some (18, false), .q (.ld none (.t 20))⟩, ⟨some 22, some (18, false), .q (.len false (.t 21))⟩, ⟨some 23, some (18, false), .q (.bin .geq (.t 19) (.t 22))⟩, ⟨some 24, none, .pk (.t 18) (.c (.b true)) (.t 23)⟩, ⟨some 25, none, .q (.mv (.t 24))⟩, ⟨some 26, some (25, false), .q (.mv (.t 2))⟩, ⟨some 27, some (25, false), .q (.bin .lss (.t 26) (.c (.i .i64 0)))⟩, ⟨some 28, none, .pk (.t 25) (.c (.b true)) (.t 27)⟩, ⟨some 29, none, .q (.mv (.t 28))⟩, ⟨some 30, some (29, false), .q (.mv (.t 2))⟩, ⟨some 31, some (29, false), .q (.fa 3 (.t 3))⟩, ⟨some 32, some (29, false), .q (.ld none (.t 31))⟩, ⟨some 33, some (29, false), .q (.mv (.t 1))⟩, ⟨some 34, some (29, false), .q (.ias 4 (.t 32) (.t 33))⟩, ⟨some 35, some (29, false), .q (.fa 2 (.t 34))⟩, ⟨some 36, some (29, false), .q (.ld none (.t 35))⟩, ⟨some 37, some (29, false), .q (.len false (.t 36))⟩, ⟨some 38, some (29, false), .q (.bin .geq (.t 30) (.t 37))⟩, ⟨some 39, none, .pk (.t 29) (.c (.b true)) (.t 38)⟩])
    (.keep [39]
    (.cond (.t 39) (.seq (.reg none [⟨some 6, none, .q (.mv (.c (.i .i64 1)))⟩])
      .ret)
    .skip)))
  (.seq (.reg none [⟨some 6, none, .q (.mv (.c (.i .i64 0)))⟩])
  .ret))))))
theorem r33 : (Try.f33.body.bind (resC Try.prog Try.f33.ntmps)) = some (strip c33) := by kernel_rfl
theorem s33 : Try.f33.results.toList.mapM (resRes Try.prog) = some [.t 6] := by kernel_rfl
theorem asked_p (p : Prog) (hp : p.Ok) (f pc : Int) : PureS Try.prog 33 [.g p.row, .i .i64 f, .i .i64 pc] (.i .i64 (askE p f pc)) := by
  refine fun_go hmx Try.func33 r33 s33 (by rw [Try.ntmps33]; simp) ?_
  unfold c33
  simp [Prog.row]
  first
    | refine callk rfl Try.call57 (check21 p hp) rfl ?_
    | refine callks rfl Try.call57 (check21 p hp) rfl ?_
    | refine callq rfl Try.call57 (check21 p hp) rfl ?_
    | refine callqe rfl Try.call57 (check21 p hp) rfl ?_
  by_cases hc : (check p).1 = 0
  rotate_left
  · simp [told, hc, askE]
  by_cases hf : f < 0 ∨ (p.funcs.length : Int) ≤ f ∨ pc < 0
  · have hE : askE p f pc = 1 := by
      rw [askE, if_neg (by simp [hc]), if_pos]
      rcases hf with h | h | h
      · exact .inl h
      · exact .inr (.inl h)
      · exact .inr (.inr (.inl h))
    rw [hE]
    cases hq : p.funcs[f.toNat]? with
    | none =>
      rcases hf with h | h | h
      · simp [told, hc, h, hq]
      · simp [told, hc, h, hq]
      · simp [told, hc, h, hq]
    | some F =>
      rcases hf with h | h | h
      · simp [told, hc, h, hq, Func.row]
      · simp [told, hc, h, hq, Func.row]
      · simp [told, hc, h, hq, Func.row]
  · have h1 : ¬ f < 0 := fun h => hf (.inl h)
    have h2 : ¬ (p.funcs.length : Int) ≤ f := fun h => hf (.inr (.inl h))
    have h3 : ¬ pc < 0 := fun h => hf (.inr (.inr h))
    have hlt : f.toNat < p.funcs.length := by omega
    have hgd : p.funcs.getD f.toNat default = p.funcs[f.toNat] := by rw [List.getD_eq_getElem?_getD, List.getElem?_eq_getElem hlt]; rfl
    have hE : askE p f pc = if (p.funcs[f.toNat].code.length : Int) ≤ pc then 1 else 0 := by
      rw [askE, if_neg (by simp [hc]), hgd]
      simp [h1, h2, h3]
    rw [hE]
    have h1' : 0 ≤ f := by omega
    have h2' : f < (p.funcs.length : Int) := by omega
    have h3' : 0 ≤ pc := by omega
    simp [told, hc, h1, h2, h3, h1', h2', h3', hlt, Func.row]
end Go.Sc.Fl
/- Chapter 06: Next. No condition. -/
set_option linter.constructorNameAsVariable false
namespace Go.Sc.Fl
open Go Go.RowKit Go.Av Go.Proofs Go.Sc
set_option linter.unusedSimpArgs false
set_option linter.unusedVariables false
/-- scarab/flow.Next -/
def c8 : ACode :=
  (.seq (.reg none [⟨some 3, none, .m (.box (.t 0))⟩, ⟨some 6, none, .q (.mv (.c .nil))⟩, ⟨some 7, none, .q (.mv (.c (.i .i64 0)))⟩])
  (.gst (.pimT 3)
  (.keep [1, 2, 3]
  (.seq (.seq (.reg none [⟨some 11, none, .q (.ld (some 4) (.t 3))⟩, ⟨some 12, none, .q (.mv (.t 1))⟩, ⟨some 13, none, .q (.mv (.t 2))⟩, ⟨some 14, none, .call (.f 33) [(.t 11), (.t 12), (.t 13)]⟩, ⟨some 8, none, .q (.mv (.t 14))⟩])
    (.keep [1, 2, 3, 8]
    (.seq (.reg none [⟨some 15, none, .q (.mv (.t 8))⟩, ⟨some 16, none, .q (.bin .neq (.t 15) (.c (.i .i64 0)))⟩])
    (.keep [1, 2, 3, 8, 16]
    (.cond (.t 16) (.seq (.reg none [⟨some 17, none, .q (.mv (.t 8))⟩, ⟨some 6, none, .q (.mv (.c .nil))⟩, ⟨some 7, none, .q (.mv (.t 17))⟩])
      .ret)
    .skip)))))
  (.seq (.reg none [⟨some 9, none, .m (.alloc (.g (reps 64 (.b false))))⟩])
  (.keep [1, 2, 3, 9]
  (.seq (.seq (.reg none [⟨some 18, none, .q (.fa 3 (.t 3))⟩, ⟨some 19, none, .q (.ld none (.t 18))⟩, ⟨some 20, none, .q (.mv (.t 1))⟩, ⟨some 21, none, .q (.ias 4 (.t 19) (.t 20))⟩, ⟨some 22, none, .q (.ld (some 4) (.t 21))⟩, ⟨some 23, none, .q (.mv (.t 2))⟩, ⟨some 24, none, .call (.f 34) [(.t 22), (.t 23)]⟩])
    (.keep [1, 3, 9, 24]
    (.blk 0 (.keep [1, 3, 9, 24]
    (.rf (.t 24) [25] (.keep [9, 25]
      (.reg none [⟨some 10, none, .q (.mv (.t 25))⟩]))
    (.keep [9, 10]
      (.blk 1 (.reg none [⟨some 26, none, .q (.mv (.t 10))⟩, ⟨some 27, none, .q (.iaa 64 1 (.t 9) (.t 26))⟩, ⟨none, none, .m (.st 1 (.t 27) (.c (.b true)))⟩]))))))))
  (.seq (.reg (some (8, [])) [⟨some 28, none, .q (.ld (some 64) (.t 9))⟩, ⟨some 29, none, .q (.fa 3 (.t 3))⟩, ⟨some 30, none, .q (.ld none (.t 29))⟩, ⟨some 31, none, .q (.mv (.t 1))⟩, ⟨some 32, none, .q (.ias 4 (.t 30) (.t 31))⟩, ⟨some 33, none, .q (.fa 2 (.t 32))⟩, ⟨some 34, none, .q (.ld none (.t 33))⟩, ⟨some 35, none, .q (.len false (.t 34))⟩, ⟨some 36, none, .call (.f 35) [(.t 28), (.t 35)]⟩, ⟨some 6, none, .q (.mv (.t 36))⟩, ⟨some 7, none, .q (.mv (.c (.i .i64 0)))⟩])
  .ret))))))))
theorem r8 : (Try.f8.body.bind (resC Try.prog Try.f8.ntmps)) = some (strip c8) := by kernel_rfl
theorem s8 : Try.f8.results.toList.mapM (resRes Try.prog) = some [.t 6, .t 7] := by kernel_rfl
theorem next_p (p : Prog) (hp : p.Ok) (f pc : Int) (hF : (check p).1 = 0 → ∀ F ∈ p.funcs, Fine F) : PureS Try.prog 8 [.g p.row, .i .i64 f, .i .i64 pc]
    (if askE p f pc = 0 then .tup [.sl 1 ((nextL (p.funcs.getD f.toNat default) pc.toNat).map irow), .i .i64 0] else .tup [.nil, .i .i64 (askE p f pc)]) := by
  refine fun_go hmx Try.func8 r8 s8 (by rw [Try.ntmps8]; simp) ?_
  unfold c8
  simp [Prog.row]
  first
    | refine callk rfl Try.call33 (asked_p p hp f pc) rfl ?_
    | refine callks rfl Try.call33 (asked_p p hp f pc) rfl ?_
    | refine callq rfl Try.call33 (asked_p p hp f pc) rfl ?_
    | refine callqe rfl Try.call33 (asked_p p hp f pc) rfl ?_
  by_cases h0 : askE p f pc = 0
  rotate_left
  · simp [h0]
  have P := ask_zero h0
  obtain ⟨f, rfl⟩ : ∃ n : Nat, f = (n : Int) := ⟨f.toNat, by have := P.f0; omega⟩
  obtain ⟨pc, rfl⟩ : ∃ n : Nat, pc = (n : Int) := ⟨pc.toNat, by have := P.pc0; omega⟩
  have hlt := P.f1
  have hpc := P.pc1
  simp only [Int.toNat_natCast] at hlt hpc
  have hgd : p.funcs.getD f default = p.funcs[f] := by rw [List.getD_eq_getElem?_getD, List.getElem?_eq_getElem hlt]; rfl
  rw [hgd] at hpc
  have hFm := List.getElem_mem hlt
  have hFo := hp.funcs _ hFm
  have hFf := hF P.right _ hFm
  have hq : p.funcs[f]? = some p.funcs[f] := List.getElem?_eq_getElem hlt
  simp [h0, hlt, Func.row]
  generalize hgF : p.funcs[f] = F at *
  first
    | refine callk rfl Try.call34 (behind_p F (pc : Int)) rfl ?_
    | refine callks rfl Try.call34 (behind_p F (pc : Int)) rfl ?_
    | refine callq rfl Try.call34 (behind_p F (pc : Int)) rfl ?_
    | refine callqe rfl Try.call34 (behind_p F (pc : Int)) rfl ?_
  simp
  refine go_rf hmx rfl Try.call58 (behind_iter F hFo pc hpc (hFf.sel pc hpc)) (by simp) (fun k h => h = [.none, .var (avs AV.b (mark (reps 64 false) ((behindL F pc).take k)))]) ?_ rfl ?_ ?_ ?_
  · rintro k h rfl
    simp
  · simp
  · rintro l k h hk rfl
    have hkl : k < (behindL F pc).length := by simpa using hk
    have hx := hFf.behind pc hpc _ (List.getElem_mem hkl)
    have hln := hFf.len
    generalize hgx : (behindL F pc)[k] = x at hx
    have hx64 : x < 64 := by omega
    have hm := mark_take (reps 64 false) (behindL F pc) k x (by rw [List.getElem?_eq_getElem hkl, hgx])
    simp [irow, hgx, hx.1, hx64]
    refine ⟨by omega, ?_⟩
    simp [hm]
  · rintro h rfl
    simp [hlt, hgF, Func.row, take_avs]
    first
      | refine callk rfl Try.call35 (list_p (mark (reps 64 false) (behindL F pc)) F.code.length (by simp) hFf.len) rfl ?_
      | refine callks rfl Try.call35 (list_p (mark (reps 64 false) (behindL F pc)) F.code.length (by simp) hFf.len) rfl ?_
      | refine callq rfl Try.call35 (list_p (mark (reps 64 false) (behindL F pc)) F.code.length (by simp) hFf.len) rfl ?_
      | refine callqe rfl Try.call35 (list_p (mark (reps 64 false) (behindL F pc)) F.code.length (by simp) hFf.len) rfl ?_
    simp [nextL]
end Go.Sc.Fl
/- Chapter 06: all that may be come to. No condition. -/
set_option linter.constructorNameAsVariable false
namespace Go.Sc.Fl
open Go Go.RowKit Go.Av Go.Proofs Go.Sc
set_option linter.unusedSimpArgs false
set_option linter.unusedVariables false
/-- scarab/flow.from -/
def c37 : ACode :=
  (.seq (.reg none [⟨some 2, none, .m (.alloc (.g (reps 64 (.b false))))⟩])
  (.keep [0, 2]
  (.seq (.reg none [⟨some 3, none, .m (.alloc (.g (reps 64 (.b false))))⟩])
  (.keep [0, 2, 3]
  (.seq (.reg none [⟨some 4, none, .q (.mv (.t 0))⟩, ⟨some 5, none, .q (.iaa 64 1 (.t 3) (.t 4))⟩, ⟨none, none, .m (.st 1 (.t 5) (.c (.b true)))⟩])
  (.keep [2, 3]
  (.seq (.reg none [⟨some 6, none, .q (.ld (some 64) (.t 3))⟩, ⟨none, none, .m (.st 64 (.t 2) (.t 6))⟩])
  .ret)))))))
theorem r37 : (Try.f37.body.bind (resC Try.prog Try.f37.ntmps)) = some (strip c37) := by kernel_rfl
theorem s37 : Try.f37.results.toList.mapM (resRes Try.prog) = some [.c 2 (some 64)] := by kernel_rfl
/-- scarab/flow.reach -/
def c36 : ACode :=
  (.seq (.reg none [⟨some 3, none, .m (.box (.t 0))⟩, ⟨some 4, none, .m (.box (.t 1))⟩, ⟨some 6, none, .m (.alloc (.g (reps 64 (.b false))))⟩])
  (.gst (.pimT 3)
  (.keep [2, 3, 4, 6]
  (.blk 0 (.keep [2, 3, 4, 6]
  (.loop (.fin [2, 3, 4, 6]
    (.blk 1 (.seq (.reg none [⟨some 10, none, .q (.ld (some 64) (.t 4))⟩, ⟨some 7, none, .m (.alloc (.g (reps 64 (.b false))))⟩, ⟨none, none, .m (.st 64 (.t 7) (.t 10))⟩])
    (.keep [2, 3, 4, 6, 7]
    (.seq (.seq (.reg none [⟨some 11, none, .q (.fa 2 (.t 3))⟩, ⟨some 12, none, .q (.ld none (.t 11))⟩, ⟨some 13, none, .q (.len false (.t 12))⟩, ⟨some 14, none, .q (.mv (.c (.i .i64 0)))⟩])
      (.keep [2, 3, 4, 6, 7, 13, 14]
      (.blk 2 (.keep [2, 3, 4, 6, 7, 13, 14]
      (.loop (.fin [2, 3, 4, 6, 7, 13, 14]
        (.seq (.reg none [⟨some 15, none, .q (.bin .lss (.t 14) (.t 13))⟩])
        (.keep [2, 3, 4, 6, 7, 13, 14, 15]
        (.seq (.cond (.t 15) .skip
          (.exit 2))
        (.seq (.blk 3 (.seq (.reg none [⟨some 16, none, .q (.mv (.t 14))⟩, ⟨some 8, none, .q (.mv (.t 16))⟩])
          (.keep [2, 3, 4, 6, 7, 8, 13, 14]
          (.seq (.seq (.reg none [⟨some 17, none, .q (.mv (.t 8))⟩, ⟨some 18, none, .q (.iaa 64 1 (.t 4) (.t 17))⟩, ⟨some 19, none, .q (.ld none (.t 18))⟩, ⟨some 20, none, .q (.un .not (.t 19))⟩, ⟨some 21, none, .q (.mv (.t 20))⟩, ⟨some 22, some (21, false), .q (.mv (.t 2))⟩, ⟨some 23, some (21, false), .q (.mv (.t 8))⟩, ⟨some 24, some (21, false), .call (.t 22) [(.t 23)]⟩, ⟨some 25, some (21, false), .q (.un .not (.t 24))⟩, ⟨some 26, none, .pk (.t 21) (.c (.b true)) (.t 25)⟩])
            (.keep [2, 3, 4, 6, 7, 8, 13, 14, 26]
            (.cond (.t 26) (.exit 3)
            .skip)))
          (.seq (.reg none [⟨some 27, none, .q (.ld (some 4) (.t 3))⟩, ⟨some 28, none, .q (.mv (.t 8))⟩, ⟨some 29, none, .call (.f 34) [(.t 27), (.t 28)]⟩])
          (.keep [2, 3, 4, 6, 7, 13, 14, 29]
          (.blk 4 (.keep [2, 3, 4, 6, 7, 13, 14, 29]
          (.rf (.t 29) [30] (.keep [4, 30]
            (.reg none [⟨some 9, none, .q (.mv (.t 30))⟩]))
          (.keep [4, 9]
            (.blk 5 (.reg none [⟨some 31, none, .q (.mv (.t 9))⟩, ⟨some 32, none, .q (.iaa 64 1 (.t 4) (.t 31))⟩, ⟨none, none, .m (.st 1 (.t 32) (.c (.b true)))⟩]))))))))))))
        (.keep [2, 3, 4, 6, 7, 13, 14]
        (.reg none [⟨some 33, none, .q (.bin .add (.t 14) (.c (.i .i64 1)))⟩, ⟨some 14, none, .q (.mv (.t 33))⟩]))))))))))))
    (.seq (.reg none [⟨some 34, none, .q (.ld (some 64) (.t 4))⟩, ⟨some 35, none, .q (.ld (some 64) (.t 7))⟩, ⟨some 36, none, .q (.eqg false (reps 64 .b) (.t 34) (.t 35))⟩])
    (.keep [2, 3, 4, 6, 36]
    (.cond (.t 36) (.seq (.reg none [⟨some 37, none, .q (.ld (some 64) (.t 4))⟩, ⟨none, none, .m (.st 64 (.t 6) (.t 37))⟩])
      .ret)
    .skip))))))))))))))
theorem r36 : (Try.f36.body.bind (resC Try.prog Try.f36.ntmps)) = some (strip c36) := by kernel_rfl
theorem s36 : Try.f36.results.toList.mapM (resRes Try.prog) = some [.c 6 (some 64)] := by kernel_rfl
/-- scarab/flow.always -/
def c38 : ACode :=
  (.seq (.reg none [⟨some 2, none, .q (.mv (.c (.b false)))⟩])
  (.keep []
  (.seq (.reg none [⟨some 2, none, .q (.mv (.c (.b true)))⟩])
  .ret)))
theorem r38 : (Try.f38.body.bind (resC Try.prog Try.f38.ntmps)) = some (strip c38) := by kernel_rfl
theorem s38 : Try.f38.results.toList.mapM (resRes Try.prog) = some [.t 2] := by kernel_rfl
theorem from_p (pc : Nat) (h : pc < 64) : PureS Try.prog 37 [.i .i64 (pc : Int)] (.g (ags AV.b ((reps 64 false).set pc true))) := by
  refine fun_go hmx Try.func37 r37 s37 (by rw [Try.ntmps37]; simp) ?_
  unfold c37
  have h64 : (pc : Int) < 64 := by omega
  simp [h64, take_avs]
  try omega
theorem reach_p (f : Func) (hf : Fine f) (hfo : f.Ok) (m : List Bool) (hm : m.length = 64) (gid : Nat) (caps : List AV) (T : Nat → Bool) (hT : ∀ pc : Nat, pc < f.code.length → PureS Try.prog gid (.i .i64 (pc : Int) :: caps) (.b (T pc))) (hc : ∀ vs w, (callFunc gid vs).run Try.prog w = .ok (.enter gid vs) w) :
    PureS Try.prog 36 [.g f.row, .g (ags AV.b m), .fn gid caps] (.g (ags AV.b (reachM T f m))) := by
  refine fun_go hmx Try.func36 r36 s36 (by rw [Try.ntmps36]; simp) ?_
  unfold c36
  have hln := hf.len
  simp [Func.row]
  refine go_while hmx 3 (fun (_ : List Bool) => []) (fun m' => [.none, .var (avs AV.b m'), .var (avs AV.b (reps 64 false))]) (fun m' => m'.length = 64 ∧ (∀ i, m.getD i false = true → m'.getD i false = true) ∧ ∀ i, m'.getD i false = true → Come T f m i) (fun m' => 64 - (ones m' 64).length) m rfl (by simp) rfl (by simp) (by simp) (by simp) ⟨hm, fun _ h => h, fun i h => .start i h⟩ ?_
  rintro m1 ⟨l1, h1, c1⟩
  simp [take_avs, l1]
  refine go_count hmx 14 0 f.code.length (fun i h => h = [.none, .var (avs AV.b (passTo T f m1 i)), .var (avs AV.b (reps 64 false)), .var (avs AV.b m1)]) (Nat.zero_le _) (by omega) rfl rfl ?_ ?_
  · rintro i h - hlt rfl hw
    have hI : (i : Int) < (f.code.length : Int) := by omega
    have h64 : (i : Int) < 64 := by omega
    have h64n : i < 64 := by omega
    have hlen : (passTo T f m1 i).length = 64 := by simp [l1]
    have hps : passTo T f m1 (i + 1) = if (passTo T f m1 i).getD i false && T i then mark (passTo T f m1 i) (behindL f i) else passTo T f m1 i := rfl
    obtain ⟨mi, hmi⟩ : ∃ mi, passTo T f m1 i = mi := ⟨_, rfl⟩
    rw [hmi] at hlen hps ⊢
    have hgd : mi.getD i false = mi[i]'(by omega) := by rw [List.getD_eq_getElem?_getD, List.getElem?_eq_getElem (by omega)]; rfl
    rw [hgd] at hps
    cases hb : mi[i] with
    | false =>
      rw [if_neg (by simp [hb])] at hps
      simp [hI, h64, hlen, h64n, hb]
      refine callod rfl rfl ?_
      simp [hw, hps]
    | true =>
      simp [hI, h64, hlen, h64n, hb]
      refine callog rfl rfl rfl hc (by simp [obl]) (hT i hlt) rfl ?_
      simp
      refine ⟨fun hTi => ⟨hw, by rw [hps, if_neg (by simp [hTi])]⟩, fun hTi => ?_⟩
      rw [if_pos (by simp [hb, hTi])] at hps
      first
        | refine callk rfl Try.call34 (behind_p f (i : Int)) rfl ?_
        | refine callks rfl Try.call34 (behind_p f (i : Int)) rfl ?_
        | refine callq rfl Try.call34 (behind_p f (i : Int)) rfl ?_
        | refine callqe rfl Try.call34 (behind_p f (i : Int)) rfl ?_
      simp
      refine go_rf hmx rfl Try.call58 (behind_iter f hfo i hlt (hf.sel i hlt)) (by simp) (fun k h => h = [.none, .var (avs AV.b (mark mi ((behindL f i).take k))), .var (avs AV.b (reps 64 false)), .var (avs AV.b m1)]) ?_ rfl ?_ ?_ ?_
      · rintro k h rfl
        simp
      · simp
      · rintro l k h hk rfl
        have hkl : k < (behindL f i).length := by simpa using hk
        have hx := hf.behind i hlt _ (List.getElem_mem hkl)
        generalize hgx : (behindL f i)[k] = x at hx
        have hx64 : x < 64 := by omega
        have hm := mark_take mi (behindL f i) k x (by rw [List.getElem?_eq_getElem hkl, hgx])
        simp [irow, hgx, hx.1, hx64, hlen]
        refine ⟨by omega, ?_⟩
        simp [hm]
      · rintro h rfl
        simp [hw, hps]
  · rintro h rfl
    simp [take_avs, l1]
    have hpl : (passTo T f m1 f.code.length).length = 64 := by simp [l1]
    rw [eqA_b hpl l1]
    refine ⟨fitA_b hpl l1, fun he => ?_, fun he => ?_⟩
    · have he : passTo T f m1 f.code.length = m1 := by simpa using he
      rw [he, pass_end hf l1 h1 c1 he]
    · have he : passTo T f m1 f.code.length ≠ m1 := by simpa using he
      have mono : ∀ i, m1.getD i false = true → (passTo T f m1 f.code.length).getD i false = true := fun i hi => pass_mono (T := T) (k := 0) hf l1 _ (Nat.le_refl _) (Nat.zero_le _) hi
      have hlt := ones_lt (by simp) l1 mono he
      have hle := ones_len (passTo T f m1 f.code.length) 64
      refine ⟨_, rfl, ⟨hpl, fun i hi => ?_, fun i hi => ?_⟩, by omega⟩
      · simpa using mono i (h1 i (by simpa using hi))
      · exact pass_come hf l1 c1 _ (Nat.le_refl _) i (by simpa using hi)
end Go.Sc.Fl
/- Chapter 06: what spins. No condition. -/
set_option linter.constructorNameAsVariable false
namespace Go.Sc.Fl
open Go Go.RowKit Go.Av Go.Proofs Go.Sc
open Go.Sc.Q03 (local17)
set_option linter.unusedSimpArgs false
set_option linter.unusedVariables false
/-- scarab/flow.spins -/
def c39 : ACode :=
  (.seq (.reg none [⟨some 1, none, .m (.box (.t 0))⟩, ⟨some 2, none, .m (.alloc (.g (reps 64 (.b false))))⟩])
  (.gst (.pimT 1)
  (.keep [1, 2]
  (.seq (.reg none [⟨some 8, none, .q (.mkf 59 [(.t 1)])⟩, ⟨some 3, none, .q (.mv (.t 8))⟩])
  (.keep [1, 2, 3]
  (.seq (.reg none [⟨some 4, none, .m (.alloc (.g (reps 64 (.b false))))⟩])
  (.keep [1, 2, 3, 4]
  (.seq (.seq (.reg none [⟨some 9, none, .q (.fa 2 (.t 1))⟩, ⟨some 10, none, .q (.ld none (.t 9))⟩, ⟨some 11, none, .q (.len false (.t 10))⟩, ⟨some 12, none, .q (.mv (.c (.i .i64 0)))⟩])
    (.keep [1, 2, 3, 4, 11, 12]
    (.blk 0 (.keep [1, 2, 3, 4, 11, 12]
    (.loop (.fin [1, 2, 3, 4, 11, 12]
      (.seq (.reg none [⟨some 13, none, .q (.bin .lss (.t 12) (.t 11))⟩])
      (.keep [1, 2, 3, 4, 11, 12, 13]
      (.seq (.cond (.t 13) .skip
        (.exit 0))
      (.seq (.blk 1 (.seq (.reg none [⟨some 14, none, .q (.mv (.t 12))⟩, ⟨some 5, none, .q (.mv (.t 14))⟩])
        (.keep [1, 2, 3, 4, 5, 11, 12]
        (.seq (.seq (.reg none [⟨some 15, none, .q (.mv (.t 3))⟩, ⟨some 16, none, .q (.mv (.t 5))⟩, ⟨some 17, none, .call (.t 15) [(.t 16)]⟩, ⟨some 18, none, .q (.un .not (.t 17))⟩])
          (.keep [1, 2, 3, 4, 5, 11, 12, 18]
          (.cond (.t 18) (.exit 1)
          .skip)))
        (.seq (.reg none [⟨some 6, none, .m (.alloc (.g (reps 64 (.b false))))⟩])
        (.keep [1, 2, 3, 4, 5, 6, 11, 12]
        (.seq (.seq (.reg none [⟨some 19, none, .q (.ld (some 4) (.t 1))⟩, ⟨some 20, none, .q (.mv (.t 5))⟩, ⟨some 21, none, .call (.f 34) [(.t 19), (.t 20)]⟩])
          (.keep [1, 2, 3, 4, 5, 6, 11, 12, 21]
          (.blk 2 (.keep [1, 2, 3, 4, 5, 6, 11, 12, 21]
          (.rf (.t 21) [22] (.keep [6, 22]
            (.reg none [⟨some 7, none, .q (.mv (.t 22))⟩]))
          (.keep [6, 7]
            (.blk 3 (.reg none [⟨some 23, none, .q (.mv (.t 7))⟩, ⟨some 24, none, .q (.iaa 64 1 (.t 6) (.t 23))⟩, ⟨none, none, .m (.st 1 (.t 24) (.c (.b true)))⟩]))))))))
        (.reg none [⟨some 25, none, .q (.mv (.t 5))⟩, ⟨some 26, none, .q (.ld (some 4) (.t 1))⟩, ⟨some 27, none, .q (.ld (some 64) (.t 6))⟩, ⟨some 28, none, .q (.mv (.t 3))⟩, ⟨some 29, none, .call (.f 36) [(.t 26), (.t 27), (.t 28)]⟩, ⟨some 30, none, .q (.mv (.t 5))⟩, ⟨some 31, none, .q (.idx 64 1 false (.t 29) (.t 30))⟩, ⟨some 32, none, .q (.iaa 64 1 (.t 4) (.t 25))⟩, ⟨none, none, .m (.st 1 (.t 32) (.t 31))⟩]))))))))
      (.keep [1, 2, 3, 4, 11, 12]
      (.reg none [⟨some 33, none, .q (.bin .add (.t 12) (.c (.i .i64 1)))⟩, ⟨some 12, none, .q (.mv (.t 33))⟩]))))))))))))
  (.seq (.reg none [⟨some 34, none, .q (.ld (some 64) (.t 4))⟩, ⟨none, none, .m (.st 64 (.t 2) (.t 34))⟩])
  .ret)))))))))
theorem r39 : (Try.f39.body.bind (resC Try.prog Try.f39.ntmps)) = some (strip c39) := by kernel_rfl
theorem s39 : Try.f39.results.toList.mapM (resRes Try.prog) = some [.c 2 (some 64)] := by kernel_rfl
/-- scarab/flow.spins$1 -/
def c59 : ACode :=
  (.seq (.reg none [⟨some 3, none, .q (.mv (.c (.b false)))⟩])
  (.keep [0, 1]
  (.seq (.reg none [⟨some 4, none, .q (.fa 2 (.t 1))⟩, ⟨some 5, none, .q (.ld none (.t 4))⟩, ⟨some 6, none, .q (.mv (.t 0))⟩, ⟨some 7, none, .q (.ias 5 (.t 5) (.t 6))⟩, ⟨some 8, none, .q (.fa 0 (.t 7))⟩, ⟨some 9, none, .q (.ld none (.t 8))⟩, ⟨some 10, none, .call (.f 41) [(.t 9)]⟩, ⟨some 3, none, .q (.mv (.t 10))⟩])
  .ret)))
theorem r59 : (Try.f59.body.bind (resC Try.prog Try.f59.ntmps)) = some (strip c59) := by kernel_rfl
theorem s59 : Try.f59.results.toList.mapM (resRes Try.prog) = some [.t 3] := by kernel_rfl
theorem spins1_p (f : Func) (pc : Nat) (h : pc < f.code.length) : PureS Try.prog 59 [.i .i64 (pc : Int), .pim f.row] (.b (loc f pc)) := by
  have hq : f.code.getD pc default = f.code[pc] := by rw [List.getD_eq_getElem?_getD, List.getElem?_eq_getElem h]; rfl
  refine fun_go hmx Try.func59 r59 s59 (by rw [Try.ntmps59]; simp) ?_
  unfold c59
  simp [Func.row, h, Instr.row]
  first
    | refine callk rfl Try.call41 (local17 f.code[pc].op) rfl ?_
    | refine callks rfl Try.call41 (local17 f.code[pc].op) rfl ?_
    | refine callq rfl Try.call41 (local17 f.code[pc].op) rfl ?_
    | refine callqe rfl Try.call41 (local17 f.code[pc].op) rfl ?_
  simp only [loc, hq]
  simp
theorem spins_p (f : Func) (hf : Fine f) (hfo : f.Ok) : PureS Try.prog 39 [.g f.row] (.g (ags AV.b (spinM f f.code.length))) := by
  have hln := hf.len
  refine fun_go hmx Try.func39 r39 s39 (by rw [Try.ntmps39]; simp) ?_
  unfold c39
  simp [Func.row]
  refine go_while hmx 3 (fun (i : Nat) => [(12, .v (.i .i64 (i : Int)))]) (fun i => [.none, .var (avs AV.b (reps 64 false)), .var (avs AV.b (spinM f i))]) (fun i => i ≤ f.code.length) (fun i => f.code.length - i) 0 rfl rfl (by rw [spinM_zero]) (by simp) (by simp) (by simp) (Nat.zero_le _) ?_
  intro i hi
  by_cases hlt : i < f.code.length
  · have hI : (i : Int) < (f.code.length : Int) := by omega
    have hw : IntKind.i64.wrap ((i : Int) + 1) = ((i : Int) + 1) := wrap_in (by omega) (by omega)
    simp [hI]
    refine callk rfl Try.call59 (spins1_p f i hlt) rfl ?_
    simp
    refine ⟨fun hl => ⟨i + 1, hw, by rw [spinM_skip f i (by omega) hl], by omega, by omega⟩, fun hl => ?_⟩
    first
      | refine callk rfl Try.call34 (behind_p f (i : Int)) rfl ?_
      | refine callks rfl Try.call34 (behind_p f (i : Int)) rfl ?_
      | refine callq rfl Try.call34 (behind_p f (i : Int)) rfl ?_
      | refine callqe rfl Try.call34 (behind_p f (i : Int)) rfl ?_
    simp
    refine go_rf hmx rfl Try.call58 (behind_iter f hfo i hlt (hf.sel i hlt)) (by simp) (fun k h => h = [.none, .var (avs AV.b (reps 64 false)), .var (avs AV.b (spinM f i)), .var (avs AV.b (mark (reps 64 false) ((behindL f i).take k)))]) ?_ rfl ?_ ?_ ?_
    · rintro k h rfl
      simp
    · simp
    · rintro l k h hk rfl
      have hkl : k < (behindL f i).length := by simpa using hk
      have hx := hf.behind i hlt _ (List.getElem_mem hkl)
      generalize hgx : (behindL f i)[k] = x at hx
      have hx64 : x < 64 := by omega
      have hm := mark_take (reps 64 false) (behindL f i) k x (by rw [List.getElem?_eq_getElem hkl, hgx])
      simp [irow, hgx, hx.1, hx64]
      refine ⟨by omega, ?_⟩
      simp [hm]
    · rintro h rfl
      have h64 : (i : Int) < 64 := by omega
      have h64n : i < 64 := by omega
      have hsp := spinM_succ f i h64n
      have hgd : (reachM (loc f) f (mark (reps 64 false) (behindL f i)))[i]'(by simp; omega) = spin f i := by
        rw [spin, hl, Bool.true_and, List.getD_eq_getElem?_getD, List.getElem?_eq_getElem (by simp; omega)]; rfl
      simp [take_avs]
      first
        | refine callk rfl Try.call36 (reach_p f hf hfo (mark (reps 64 false) (behindL f i)) (by simp) 59 [.pim f.row] (loc f) (fun pc hpc => spins1_p f pc hpc) Try.call59) rfl ?_
        | refine callks rfl Try.call36 (reach_p f hf hfo (mark (reps 64 false) (behindL f i)) (by simp) 59 [.pim f.row] (loc f) (fun pc hpc => spins1_p f pc hpc) Try.call59) rfl ?_
        | refine callq rfl Try.call36 (reach_p f hf hfo (mark (reps 64 false) (behindL f i)) (by simp) 59 [.pim f.row] (loc f) (fun pc hpc => spins1_p f pc hpc) Try.call59) rfl ?_
        | refine callqe rfl Try.call36 (reach_p f hf hfo (mark (reps 64 false) (behindL f i)) (by simp) 59 [.pim f.row] (loc f) (fun pc hpc => spins1_p f pc hpc) Try.call59) rfl ?_
      simp [h64, h64n, hgd, hw]
      exact ⟨by omega, i + 1, by omega, by rw [hsp], by omega, by omega⟩
  · have hI : ¬ (i : Int) < (f.code.length : Int) := by omega
    obtain rfl : i = f.code.length := by omega
    simp [hI, take_avs]
end Go.Sc.Fl
/- Chapter 06: how long it runs along, walked. No condition. -/
set_option linter.constructorNameAsVariable false
namespace Go.Sc.Fl
open Go Go.RowKit Go.Av Go.Proofs Go.Sc
open Go.Sc.Q03 (local17)
set_option linter.unusedSimpArgs false
set_option linter.unusedVariables false
/-- scarab/flow.longest -/
def c42 : ACode :=
  (.seq (.reg none [⟨some 3, none, .m (.box (.t 0))⟩, ⟨some 5, none, .m (.box (.t 2))⟩, ⟨some 6, none, .q (.mv (.c (.i .i64 0)))⟩])
  (.gst (.pimT 3)
  (.keep [1, 3, 5]
  (.seq (.seq (.reg none [⟨some 9, none, .q (.fa 2 (.t 3))⟩, ⟨some 10, none, .q (.ld none (.t 9))⟩, ⟨some 11, none, .q (.mv (.t 1))⟩, ⟨some 12, none, .q (.ias 5 (.t 10) (.t 11))⟩, ⟨some 13, none, .q (.fa 0 (.t 12))⟩, ⟨some 14, none, .q (.ld none (.t 13))⟩, ⟨some 15, none, .call (.f 41) [(.t 14)]⟩, ⟨some 16, none, .q (.un .not (.t 15))⟩])
    (.keep [1, 3, 5, 16]
    (.cond (.t 16) (.seq (.reg none [⟨some 6, none, .q (.mv (.c (.i .i64 0)))⟩])
      .ret)
    .skip)))
  (.seq (.seq (.reg none [⟨some 17, none, .q (.ld none (.t 5))⟩, ⟨some 18, none, .q (.mv (.t 1))⟩, ⟨some 19, none, .q (.nck (.t 17))⟩, ⟨some 20, none, .q (.iaa 64 1 (.t 19) (.t 18))⟩, ⟨some 21, none, .q (.ld none (.t 20))⟩, ⟨some 22, none, .q (.bin .gtr (.t 21) (.c (.i .i64 0)))⟩])
    (.keep [1, 3, 5, 22]
    (.cond (.t 22) (.seq (.reg none [⟨some 23, none, .q (.ld none (.t 5))⟩, ⟨some 24, none, .q (.mv (.t 1))⟩, ⟨some 25, none, .q (.nck (.t 23))⟩, ⟨some 26, none, .q (.iaa 64 1 (.t 25) (.t 24))⟩, ⟨some 27, none, .q (.ld none (.t 26))⟩, ⟨some 6, none, .q (.mv (.t 27))⟩])
      .ret)
    .skip)))
  (.seq (.reg none [⟨some 7, none, .m (.alloc (.i .i64 0))⟩, ⟨none, none, .m (.st 1 (.t 7) (.c (.i .i64 0)))⟩])
  (.keep [1, 3, 5, 7]
  (.seq (.seq (.reg none [⟨some 28, none, .q (.ld (some 4) (.t 3))⟩, ⟨some 29, none, .q (.mv (.t 1))⟩, ⟨some 30, none, .call (.f 34) [(.t 28), (.t 29)]⟩])
    (.keep [1, 3, 5, 7, 30]
    (.blk 0 (.keep [1, 3, 5, 7, 30]
    (.rf (.t 30) [31] (.keep [3, 5, 7, 31]
      (.reg none [⟨some 8, none, .q (.mv (.t 31))⟩]))
    (.keep [3, 5, 7, 8]
      (.blk 1 (.reg (some (4, [0])) [⟨some 32, none, .q (.ld none (.t 7))⟩, ⟨some 33, none, .q (.ld (some 4) (.t 3))⟩, ⟨some 34, none, .q (.mv (.t 8))⟩, ⟨some 35, none, .q (.ld none (.t 5))⟩, ⟨some 36, none, .call (.f 42) [(.t 33), (.t 34), (.t 35)]⟩, ⟨some 37, none, .q (.mx true (.t 32) (.t 36))⟩, ⟨none, none, .m (.st 1 (.t 7) (.t 37))⟩]))))))))
  (.seq (.reg (some (6, [])) [⟨some 38, none, .q (.ld none (.t 5))⟩, ⟨some 39, none, .q (.mv (.t 1))⟩, ⟨some 40, none, .q (.ld none (.t 7))⟩, ⟨some 41, none, .q (.bin .add (.t 40) (.c (.i .i64 1)))⟩, ⟨some 42, none, .q (.nck (.t 38))⟩, ⟨some 43, none, .q (.iaa 64 1 (.t 42) (.t 39))⟩, ⟨none, none, .m (.st 1 (.t 43) (.t 41))⟩])
  (.keep [7]
  (.seq (.reg none [⟨some 44, none, .q (.ld none (.t 7))⟩, ⟨some 45, none, .q (.bin .add (.t 44) (.c (.i .i64 1)))⟩, ⟨some 6, none, .q (.mv (.t 45))⟩])
  .ret)))))))))))
theorem r42 : (Try.f42.body.bind (resC Try.prog Try.f42.ntmps)) = some (strip c42) := by kernel_rfl
theorem s42 : Try.f42.results.toList.mapM (resRes Try.prog) = some [.t 6] := by kernel_rfl
/-- What is known of some places is right. -/
def Known (f : Func) (K : List Int) : Prop := K.length = 64 ∧ ∀ i, i < f.code.length → 0 < K.getD i 0 → K.getD i 0 = (lgN f f.code.length i : Int)
theorem longest_p (f : Func) (hf : Fine f) (hfo : f.Ok) : ∀ (r pc : Nat), pc < f.code.length → Acyc f pc → rho f pc ≤ r → ∀ K, Known f K →
    CallS Try.prog 42 [.v (.g f.row), .v (.i .i64 (pc : Int)), .pt 0 0 0 0] [.var (avs (AV.i .i64) K)] fun x H => x = .v (.i .i64 (lgN f f.code.length pc : Int)) ∧ ∃ K', H = [.var (avs (AV.i .i64) K')] ∧ Known f K'
  | 0, pc, hpc, _, hr, _, _ => by have := rho_pos hf hpc; omega
  | r + 1, pc, hpc, ha, hr, K, hK => by
    have ih := longest_p f hf hfo r
    have hln := hf.len
    have hq : f.code.getD pc default = f.code[pc] := by rw [List.getD_eq_getElem?_getD, List.getElem?_eq_getElem hpc]; rfl
    have h64 : (pc : Int) < 64 := by omega
    have h64n : pc < 64 := by omega
    obtain ⟨hKl, hK⟩ := id hK
    refine CallS.cut 1 (by simp) ?_
    refine fun_go hmx Try.func42 r42 s42 (by rw [Try.ntmps42]; simp) ?_
    unfold c42
    simp [Func.row, hpc, Instr.row]
    first
      | refine callk rfl Try.call41 (local17 f.code[pc].op) rfl ?_
      | refine callks rfl Try.call41 (local17 f.code[pc].op) rfl ?_
      | refine callq rfl Try.call41 (local17 f.code[pc].op) rfl ?_
      | refine callqe rfl Try.call41 (local17 f.code[pc].op) rfl ?_
    have hlq : isLocal f.code[pc].op = loc f pc := by rw [loc, hq]
    rw [hlq]
    cases hl : loc f pc with
    | false => 
      simp [lg_zero hl]
      exact ⟨K, rfl, hKl, hK⟩
    | true =>
      have hs := ha pc (way_self hf hpc)
      have hlg := lg_eq hf hpc ha hl
      have hgK : K.getD pc 0 = K[pc] := by rw [List.getD_eq_getElem?_getD, List.getElem?_eq_getElem (by omega)]; rfl
      simp [h64, h64n, hKl]
      refine ⟨fun hk => ⟨by have := hK pc hpc (by rw [hgK]; exact hk); rwa [hgK] at this, K, rfl, hKl, hK⟩, fun _ => ?_⟩
      first
        | refine callk rfl Try.call34 (behind_p f (pc : Int)) rfl ?_
        | refine callks rfl Try.call34 (behind_p f (pc : Int)) rfl ?_
        | refine callq rfl Try.call34 (behind_p f (pc : Int)) rfl ?_
        | refine callqe rfl Try.call34 (behind_p f (pc : Int)) rfl ?_
      simp
      refine go_rf hmx rfl Try.call58 (behind_iter f hfo pc hpc (hf.sel pc hpc)) (by simp) (fun k h => ∃ K', h = [.var (avs (AV.i .i64) K'), .none, .var [.pt 0 0 0 0], .var [.v (.i .i64 (maxL (fun x => lgN f f.code.length x.toNat) ((behindL f pc).take k) : Int))]] ∧ Known f K') ?_ ⟨K, rfl, hKl, hK⟩ ?_ ?_ ?_
      · rintro k h ⟨K', rfl, _⟩
        simp
      · simp
      · rintro l k h hk ⟨K', rfl, hK'⟩
        have hkl : k < (behindL f pc).length := by simpa using hk
        have hy := List.getElem_mem hkl
        have hx := hf.behind pc hpc _ hy
        have hm := maxL_take (g := fun x => lgN f f.code.length x.toNat) (l := behindL f pc) (k := k) (List.getElem?_eq_getElem hkl)
        generalize hgx : (behindL f pc)[k] = x at hx hy hm
        have hlt := rho_step hf hpc hl hs hy
        have hxn : ((x.toNat : Nat) : Int) = x := by omega
        simp [irow, hgx]
        refine callfs [0] rfl Try.call42 (ih x.toNat (by omega) (acyc_step hf hpc ha hl hy) (by omega) K' hK') (by simp) rfl (by simp) (by simp) (by simp [hxn, Func.row]) ?_
        rintro r1 K1 ⟨rfl, K2, rfl, hK2⟩
        simp
        refine ⟨_, ⟨[], (List.append_nil _).symm⟩, K2, ?_, hK2⟩
        have hmax : ∀ a b : Nat, (if a < b then (b : Int) else (a : Int)) = ((max a b : Nat) : Int) := fun a b => by split <;> omega
        rw [hm, hmax]
      · rintro h ⟨K', rfl, hK'⟩
        obtain ⟨hKl', hK'⟩ := id hK'
        have hmn := lgN_le f f.code.length pc
        have hw := wrap_nat (n := maxL (fun x => lgN f f.code.length x.toNat) (behindL f pc)) (by omega)
        simp [h64]
        rw [hw]
        refine ⟨by omega, by rw [hlg], _, rfl, by simp [hKl'], fun i hi hpos => ?_⟩
        by_cases hip : pc = i
        · subst hip
          rw [List.getD_eq_getElem?_getD, List.getElem?_set_self (by omega), hlg]; rfl
        · have hgi : (K'.set pc ((maxL (fun x => lgN f f.code.length x.toNat) (behindL f pc) + 1 : Nat) : Int)).getD i 0 = K'.getD i 0 := by
            rw [List.getD_eq_getElem?_getD, List.getElem?_set_ne hip, ← List.getD_eq_getElem?_getD]
          rw [hgi] at hpos ⊢
          exact hK' i hi hpos
end Go.Sc.Fl
/- Chapter 06: Reach. No condition. -/
set_option linter.constructorNameAsVariable false
namespace Go.Sc.Fl
open Go Go.RowKit Go.Av Go.Proofs Go.Sc
set_option linter.unusedSimpArgs false
set_option linter.unusedVariables false
/-- scarab/flow.Reach -/
def c9 : ACode :=
  (.seq (.reg none [⟨some 3, none, .m (.box (.t 0))⟩, ⟨some 6, none, .q (.mv (.c .nil))⟩, ⟨some 7, none, .q (.mv (.c (.i .i64 0)))⟩])
  (.gst (.pimT 3)
  (.keep [1, 2, 3]
  (.seq (.seq (.reg none [⟨some 9, none, .q (.ld (some 4) (.t 3))⟩, ⟨some 10, none, .q (.mv (.t 1))⟩, ⟨some 11, none, .q (.mv (.t 2))⟩, ⟨some 12, none, .call (.f 33) [(.t 9), (.t 10), (.t 11)]⟩, ⟨some 8, none, .q (.mv (.t 12))⟩])
    (.keep [1, 2, 3, 8]
    (.seq (.reg none [⟨some 13, none, .q (.mv (.t 8))⟩, ⟨some 14, none, .q (.bin .neq (.t 13) (.c (.i .i64 0)))⟩])
    (.keep [1, 2, 3, 8, 14]
    (.cond (.t 14) (.seq (.reg none [⟨some 15, none, .q (.mv (.t 8))⟩, ⟨some 6, none, .q (.mv (.c .nil))⟩, ⟨some 7, none, .q (.mv (.t 15))⟩])
      .ret)
    .skip)))))
  (.seq (.reg (some (18, [])) [⟨some 16, none, .q (.fa 3 (.t 3))⟩, ⟨some 17, none, .q (.ld none (.t 16))⟩, ⟨some 18, none, .q (.mv (.t 1))⟩, ⟨some 19, none, .q (.ias 4 (.t 17) (.t 18))⟩, ⟨some 20, none, .q (.ld (some 4) (.t 19))⟩, ⟨some 21, none, .q (.mv (.t 2))⟩, ⟨some 22, none, .call (.f 37) [(.t 21)]⟩, ⟨some 23, none, .call (.f 36) [(.t 20), (.t 22), (.f 38)]⟩, ⟨some 24, none, .q (.fa 3 (.t 3))⟩, ⟨some 25, none, .q (.ld none (.t 24))⟩, ⟨some 26, none, .q (.mv (.t 1))⟩, ⟨some 27, none, .q (.ias 4 (.t 25) (.t 26))⟩, ⟨some 28, none, .q (.fa 2 (.t 27))⟩, ⟨some 29, none, .q (.ld none (.t 28))⟩, ⟨some 30, none, .q (.len false (.t 29))⟩, ⟨some 31, none, .call (.f 35) [(.t 23), (.t 30)]⟩, ⟨some 6, none, .q (.mv (.t 31))⟩, ⟨some 7, none, .q (.mv (.c (.i .i64 0)))⟩])
  .ret)))))
theorem r9 : (Try.f9.body.bind (resC Try.prog Try.f9.ntmps)) = some (strip c9) := by kernel_rfl
theorem s9 : Try.f9.results.toList.mapM (resRes Try.prog) = some [.t 6, .t 7] := by kernel_rfl
theorem always_p (x : Int) : PureS Try.prog 38 [.i .i64 x] (.b true) := by
  refine fun_go hmx Try.func38 r38 s38 (by rw [Try.ntmps38]; simp) ?_
  unfold c38
  simp
theorem reach_all (p : Prog) (hp : p.Ok) (f pc : Int) (hF : (check p).1 = 0 → ∀ F ∈ p.funcs, Fine F) : PureS Try.prog 9 [.g p.row, .i .i64 f, .i .i64 pc]
    (if askE p f pc = 0 then .tup [.sl 1 ((reachL (p.funcs.getD f.toNat default) pc.toNat).map irow), .i .i64 0] else .tup [.nil, .i .i64 (askE p f pc)]) := by
  refine fun_go hmx Try.func9 r9 s9 (by rw [Try.ntmps9]; simp) ?_
  unfold c9
  simp [Prog.row]
  first
    | refine callk rfl Try.call33 (asked_p p hp f pc) rfl ?_
    | refine callks rfl Try.call33 (asked_p p hp f pc) rfl ?_
    | refine callq rfl Try.call33 (asked_p p hp f pc) rfl ?_
    | refine callqe rfl Try.call33 (asked_p p hp f pc) rfl ?_
  by_cases h0 : askE p f pc = 0
  rotate_left
  · simp [h0]
  have P := ask_zero h0
  obtain ⟨f, rfl⟩ : ∃ n : Nat, f = (n : Int) := ⟨f.toNat, by have := P.f0; omega⟩
  obtain ⟨pc, rfl⟩ : ∃ n : Nat, pc = (n : Int) := ⟨pc.toNat, by have := P.pc0; omega⟩
  have hlt := P.f1
  have hpc := P.pc1
  simp only [Int.toNat_natCast] at hlt hpc
  have hgd : p.funcs.getD f default = p.funcs[f] := by rw [List.getD_eq_getElem?_getD, List.getElem?_eq_getElem hlt]; rfl
  rw [hgd] at hpc
  have hFm := List.getElem_mem hlt
  have hFo := hp.funcs _ hFm
  have hFf := hF P.right _ hFm
  have hq : p.funcs[f]? = some p.funcs[f] := List.getElem?_eq_getElem hlt
  have hln := hFf.len
  simp [h0, hlt, Func.row]
  generalize hgF : p.funcs[f] = F at *
  first
    | refine callk rfl Try.call37 (from_p pc (by omega)) rfl ?_
    | refine callks rfl Try.call37 (from_p pc (by omega)) rfl ?_
    | refine callq rfl Try.call37 (from_p pc (by omega)) rfl ?_
    | refine callqe rfl Try.call37 (from_p pc (by omega)) rfl ?_
  simp
  first
    | refine callk rfl Try.call36 (reach_p F hFf hFo ((reps 64 false).set pc true) (by simp) 38 [] (fun _ => true) (fun pc _ => always_p pc) Try.call38) rfl ?_
    | refine callks rfl Try.call36 (reach_p F hFf hFo ((reps 64 false).set pc true) (by simp) 38 [] (fun _ => true) (fun pc _ => always_p pc) Try.call38) rfl ?_
    | refine callq rfl Try.call36 (reach_p F hFf hFo ((reps 64 false).set pc true) (by simp) 38 [] (fun _ => true) (fun pc _ => always_p pc) Try.call38) rfl ?_
    | refine callqe rfl Try.call36 (reach_p F hFf hFo ((reps 64 false).set pc true) (by simp) 38 [] (fun _ => true) (fun pc _ => always_p pc) Try.call38) rfl ?_
  simp [hlt, hgF, Func.row]
  first
    | refine callk rfl Try.call35 (list_p (reachM (fun _ => true) F ((reps 64 false).set pc true)) F.code.length (by simp) hFf.len) rfl ?_
    | refine callks rfl Try.call35 (list_p (reachM (fun _ => true) F ((reps 64 false).set pc true)) F.code.length (by simp) hFf.len) rfl ?_
    | refine callq rfl Try.call35 (list_p (reachM (fun _ => true) F ((reps 64 false).set pc true)) F.code.length (by simp) hFf.len) rfl ?_
    | refine callqe rfl Try.call35 (list_p (reachM (fun _ => true) F ((reps 64 false).set pc true)) F.code.length (by simp) hFf.len) rfl ?_
  simp [reachL]
end Go.Sc.Fl
/- Chapter 06: Longest. No condition. -/
set_option linter.constructorNameAsVariable false
namespace Go.Sc.Fl
open Go Go.RowKit Go.Av Go.Proofs Go.Sc
open Go.Sc.Q03 (local17)
set_option linter.unusedSimpArgs false
set_option linter.unusedVariables false
/-- scarab/flow.Longest -/
def c10 : ACode :=
  (.seq (.reg none [⟨some 3, none, .m (.box (.t 0))⟩, ⟨some 6, none, .q (.mv (.c (.i .i64 0)))⟩, ⟨some 7, none, .q (.mv (.c (.i .i64 0)))⟩])
  (.gst (.pimT 3)
  (.keep [1, 2, 3]
  (.seq (.seq (.reg none [⟨some 14, none, .q (.ld (some 4) (.t 3))⟩, ⟨some 15, none, .q (.mv (.t 1))⟩, ⟨some 16, none, .q (.mv (.t 2))⟩, ⟨some 17, none, .call (.f 33) [(.t 14), (.t 15), (.t 16)]⟩, ⟨some 8, none, .q (.mv (.t 17))⟩])
    (.keep [1, 2, 3, 8]
    (.seq (.reg none [⟨some 18, none, .q (.mv (.t 8))⟩, ⟨some 19, none, .q (.bin .neq (.t 18) (.c (.i .i64 0)))⟩])
    (.keep [1, 2, 3, 8, 19]
    (.cond (.t 19) (.seq (.reg none [⟨some 20, none, .q (.mv (.t 8))⟩, ⟨some 6, none, .q (.mv (.c (.i .i64 0)))⟩, ⟨some 7, none, .q (.mv (.t 20))⟩])
      .ret)
    .skip)))))
  (.seq (.reg none [⟨some 21, none, .q (.fa 3 (.t 3))⟩, ⟨some 22, none, .q (.ld none (.t 21))⟩, ⟨some 23, none, .q (.mv (.t 1))⟩, ⟨some 24, none, .q (.ias 4 (.t 22) (.t 23))⟩, ⟨some 25, none, .q (.ld (some 4) (.t 24))⟩, ⟨some 9, none, .m (.alloc (.g [(.i .i64 0), (.i .i64 0), .nil, .nil]))⟩, ⟨none, none, .m (.st 4 (.t 9) (.t 25))⟩])
  (.gst (.pimT 9)
  (.keep [2, 9]
  (.seq (.reg none [⟨some 26, none, .q (.ld (some 4) (.t 9))⟩, ⟨some 27, none, .call (.f 39) [(.t 26)]⟩, ⟨some 10, none, .m (.alloc (.g (reps 64 (.b false))))⟩, ⟨none, none, .m (.st 64 (.t 10) (.t 27))⟩])
  (.keep [2, 9, 10]
  (.seq (.reg (some (5, [0])) [⟨some 28, none, .q (.ld (some 4) (.t 9))⟩, ⟨some 29, none, .q (.mv (.t 2))⟩, ⟨some 30, none, .call (.f 37) [(.t 29)]⟩, ⟨some 31, none, .q (.mkf 40 [(.t 9)])⟩, ⟨some 32, none, .call (.f 36) [(.t 28), (.t 30), (.t 31)]⟩, ⟨some 11, none, .m (.alloc (.g (reps 64 (.b false))))⟩, ⟨none, none, .m (.st 64 (.t 11) (.t 32))⟩])
  (.keep [2, 9, 10, 11]
  (.seq (.seq (.reg none [⟨some 33, none, .q (.fa 2 (.t 9))⟩, ⟨some 34, none, .q (.ld none (.t 33))⟩, ⟨some 35, none, .q (.len false (.t 34))⟩, ⟨some 36, none, .q (.mv (.c (.i .i64 0)))⟩])
    (.keep [2, 9, 10, 11, 35, 36]
    (.blk 0 (.keep [2, 9, 10, 11, 35, 36]
    (.loop (.fin [2, 9, 10, 11, 35, 36]
      (.seq (.reg none [⟨some 37, none, .q (.bin .lss (.t 36) (.t 35))⟩])
      (.keep [2, 9, 10, 11, 35, 36, 37]
      (.seq (.cond (.t 37) .skip
        (.exit 0))
      (.seq (.blk 1 (.seq (.reg none [⟨some 38, none, .q (.mv (.t 36))⟩, ⟨some 12, none, .q (.mv (.t 38))⟩])
        (.keep [2, 9, 10, 11, 12, 35, 36]
        (.seq (.reg none [⟨some 39, none, .q (.mv (.t 12))⟩, ⟨some 40, none, .q (.iaa 64 1 (.t 11) (.t 39))⟩, ⟨some 41, none, .q (.ld none (.t 40))⟩, ⟨some 42, none, .q (.mv (.t 41))⟩, ⟨some 43, some (42, true), .q (.mv (.t 12))⟩, ⟨some 44, some (42, true), .q (.iaa 64 1 (.t 10) (.t 43))⟩, ⟨some 45, some (42, true), .q (.ld none (.t 44))⟩, ⟨some 46, none, .pk (.t 42) (.t 45) (.c (.b false))⟩])
        (.keep [2, 9, 10, 11, 35, 36, 46]
        (.cond (.t 46) (.seq (.reg none [⟨some 6, none, .q (.mv (.c (.i .i64 (-1))))⟩, ⟨some 7, none, .q (.mv (.c (.i .i64 0)))⟩])
          .ret)
        .skip))))))
      (.keep [2, 9, 10, 11, 35, 36]
      (.reg none [⟨some 47, none, .q (.bin .add (.t 36) (.c (.i .i64 1)))⟩, ⟨some 36, none, .q (.mv (.t 47))⟩]))))))))))))
  (.seq (.reg none [⟨some 13, none, .m (.alloc (.g (reps 64 (.i .i64 0))))⟩])
  (.keep [2, 9, 13]
  (.seq (.reg none [⟨some 48, none, .q (.ld (some 4) (.t 9))⟩, ⟨some 49, none, .q (.mv (.t 2))⟩, ⟨some 50, none, .call (.f 42) [(.t 48), (.t 49), (.t 13)]⟩, ⟨some 6, none, .q (.mv (.t 50))⟩, ⟨some 7, none, .q (.mv (.c (.i .i64 0)))⟩])
  .ret)))))))))))))))
theorem r10 : (Try.f10.body.bind (resC Try.prog Try.f10.ntmps)) = some (strip c10) := by kernel_rfl
theorem s10 : Try.f10.results.toList.mapM (resRes Try.prog) = some [.t 6, .t 7] := by kernel_rfl
/-- scarab/flow.Longest$1 -/
def c40 : ACode :=
  (.seq (.reg none [⟨some 3, none, .q (.mv (.c (.b false)))⟩])
  (.keep [0, 1]
  (.seq (.reg none [⟨some 4, none, .q (.fa 2 (.t 1))⟩, ⟨some 5, none, .q (.ld none (.t 4))⟩, ⟨some 6, none, .q (.mv (.t 0))⟩, ⟨some 7, none, .q (.ias 5 (.t 5) (.t 6))⟩, ⟨some 8, none, .q (.fa 0 (.t 7))⟩, ⟨some 9, none, .q (.ld none (.t 8))⟩, ⟨some 10, none, .call (.f 41) [(.t 9)]⟩, ⟨some 3, none, .q (.mv (.t 10))⟩])
  .ret)))
theorem r40 : (Try.f40.body.bind (resC Try.prog Try.f40.ntmps)) = some (strip c40) := by kernel_rfl
theorem s40 : Try.f40.results.toList.mapM (resRes Try.prog) = some [.t 3] := by kernel_rfl
theorem longest1_p (f : Func) (pc : Nat) (h : pc < f.code.length) : PureS Try.prog 40 [.i .i64 (pc : Int), .pim f.row] (.b (loc f pc)) := by
  have hq : f.code.getD pc default = f.code[pc] := by rw [List.getD_eq_getElem?_getD, List.getElem?_eq_getElem h]; rfl
  refine fun_go hmx Try.func40 r40 s40 (by rw [Try.ntmps40]; simp) ?_
  unfold c40
  simp [Func.row, h, Instr.row]
  first
    | refine callk rfl Try.call41 (local17 f.code[pc].op) rfl ?_
    | refine callks rfl Try.call41 (local17 f.code[pc].op) rfl ?_
    | refine callq rfl Try.call41 (local17 f.code[pc].op) rfl ?_
    | refine callqe rfl Try.call41 (local17 f.code[pc].op) rfl ?_
  simp only [loc, hq]
  simp
theorem longest_all (p : Prog) (hp : p.Ok) (f pc : Int) (hF : (check p).1 = 0 → ∀ F ∈ p.funcs, Fine F) : PureS Try.prog 10 [.g p.row, .i .i64 f, .i .i64 pc]
    (.tup [.i .i64 (if askE p f pc = 0 then longV (p.funcs.getD f.toNat default) pc.toNat else 0), .i .i64 (askE p f pc)]) := by
  refine fun_go hmx Try.func10 r10 s10 (by rw [Try.ntmps10]; simp) ?_
  unfold c10
  simp [Prog.row]
  first
    | refine callk rfl Try.call33 (asked_p p hp f pc) rfl ?_
    | refine callks rfl Try.call33 (asked_p p hp f pc) rfl ?_
    | refine callq rfl Try.call33 (asked_p p hp f pc) rfl ?_
    | refine callqe rfl Try.call33 (asked_p p hp f pc) rfl ?_
  by_cases h0 : askE p f pc = 0
  rotate_left
  · simp [h0]
  have P := ask_zero h0
  obtain ⟨f, rfl⟩ : ∃ n : Nat, f = (n : Int) := ⟨f.toNat, by have := P.f0; omega⟩
  obtain ⟨pc, rfl⟩ : ∃ n : Nat, pc = (n : Int) := ⟨pc.toNat, by have := P.pc0; omega⟩
  have hlt := P.f1
  have hpc := P.pc1
  simp only [Int.toNat_natCast] at hlt hpc
  have hgd : p.funcs.getD f default = p.funcs[f] := by rw [List.getD_eq_getElem?_getD, List.getElem?_eq_getElem hlt]; rfl
  rw [hgd] at hpc
  have hFm := List.getElem_mem hlt
  have hFo := hp.funcs _ hFm
  have hFf := hF P.right _ hFm
  have hq : p.funcs[f]? = some p.funcs[f] := List.getElem?_eq_getElem hlt
  have hln := hFf.len
  simp [h0, hlt, Func.row]
  generalize hgF : p.funcs[f] = F at *
  first
    | refine callk rfl Try.call39 (spins_p F hFf hFo) rfl ?_
    | refine callks rfl Try.call39 (spins_p F hFf hFo) rfl ?_
    | refine callq rfl Try.call39 (spins_p F hFf hFo) rfl ?_
    | refine callqe rfl Try.call39 (spins_p F hFf hFo) rfl ?_
  simp
  first
    | refine callk rfl Try.call37 (from_p pc (by omega)) rfl ?_
    | refine callks rfl Try.call37 (from_p pc (by omega)) rfl ?_
    | refine callq rfl Try.call37 (from_p pc (by omega)) rfl ?_
    | refine callqe rfl Try.call37 (from_p pc (by omega)) rfl ?_
  simp
  first
    | refine callk rfl Try.call36 (reach_p F hFf hFo (one64 pc) (by simp) 40 [.pim F.row] (loc F) (fun pc hpc => longest1_p F pc hpc) Try.call40) rfl ?_
    | refine callks rfl Try.call36 (reach_p F hFf hFo (one64 pc) (by simp) 40 [.pim F.row] (loc F) (fun pc hpc => longest1_p F pc hpc) Try.call40) rfl ?_
    | refine callq rfl Try.call36 (reach_p F hFf hFo (one64 pc) (by simp) 40 [.pim F.row] (loc F) (fun pc hpc => longest1_p F pc hpc) Try.call40) rfl ?_
    | refine callqe rfl Try.call36 (reach_p F hFf hFo (one64 pc) (by simp) 40 [.pim F.row] (loc F) (fun pc hpc => longest1_p F pc hpc) Try.call40) rfl ?_
  simp
  have hsg : ∀ (i : Nat) (h : i < F.code.length), (spinM F F.code.length)[i]'(by simp; omega) = spin F i := fun i h => by simp [spinM, h]
  have hrg : ∀ (i : Nat) (h : i < 64), (reachM (loc F) F (one64 pc))[i]'(by simp; omega) = true ↔ Way F pc i := fun i h => by
    rw [Way, ← reachM_get h, List.getD_eq_getElem?_getD, List.getElem?_eq_getElem (by simp; omega)]; rfl
  refine go_count hmx 36 0 F.code.length (fun i h => h = [.none, .none, .var (avs AV.b (spinM F F.code.length)), .var (avs AV.b (reachM (loc F) F (one64 pc)))] ∧ ∀ a, a < i → Way F pc a → spin F a = false) (Nat.zero_le _) (by omega) rfl ⟨rfl, fun a ha => by omega⟩ ?_ ?_
  · rintro i h - hi ⟨rfl, hn⟩ hw
    have hI : (i : Int) < (F.code.length : Int) := by omega
    have h64 : (i : Int) < 64 := by omega
    have h64n : i < 64 := by omega
    have hr := hrg i h64n
    have hs := hsg i hi
    cases hb : (reachM (loc F) F (one64 pc))[i]'(by simp; omega) with
    | false =>
      simp [hI, h64, h64n, hb, hs, hw]
      intro a ha hway
      by_cases hai : a = i
      · subst hai; rw [← hr, hb] at hway; cases hway
      · exact hn a (by omega) hway
    | true =>
      have hway := hr.1 hb
      simp [hI, h64, h64n, hb, hs, hw]
      refine ⟨fun hsp => (longV_ring hway hsp).symm, fun hsp a ha hwa => ?_⟩
      by_cases hai : a = i
      · subst hai; exact hsp
      · exact hn a (by omega) hwa
  · rintro h ⟨rfl, hn⟩
    have hac : Acyc F pc := fun i hi => hn i (way_lt hFf hpc hi) hi
    simp
    refine callf [4] rfl Try.call42 (longest_p F hFf hFo (rho F pc) pc hpc hac (Nat.le_refl _) (reps 64 0) ⟨by simp, fun i _ h => ?_⟩) (by simp) rfl (by simp) (by simp) (by simp [Func.row]) ?_
    · rw [reps_getD'] at h; omega
    rintro r1 K1 ⟨rfl, K2, rfl, hK2⟩
    simp [longV_acyc hac]
end Go.Sc.Fl
