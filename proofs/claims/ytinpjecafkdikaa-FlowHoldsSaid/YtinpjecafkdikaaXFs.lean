/- Chapter 06: the document's what spins, what may be run, what is idle, where stretches begin. No condition. -/
import Derived.Test.YtinpjecafkdikaaXFm
import Derived.Test.YtinpjecafkdikaaXFp
set_option linter.constructorNameAsVariable false
namespace Go.Sc.Fl
open Go Go.RowKit Go.Av Go.Proofs Go.Sc
set_option linter.unusedSimpArgs false
set_option linter.unusedVariables false
/-- scarab/scarabref06.Spins -/
def c25 : ACode :=
  (.seq (.reg none [⟨some 2, none, .m (.box (.t 0))⟩, ⟨some 4, none, .q (.mv (.c .nil))⟩])
  (.gst (.pimT 2)
  (.keep [1, 2]
  (.seq (.reg none [⟨some 5, none, .q (.mv (.c .nil))⟩])
  (.gst (.nilT 5 1)
  (.keep [1, 2, 5]
  (.seq (.seq (.reg none [⟨some 6, none, .q (.mv (.c (.i .i64 0)))⟩])
    (.keep [1, 2, 5, 6]
    (.blk 0 (.keep [1, 2, 5, 6]
    (.loop (.fin [1, 2, 5, 6]
      (.seq (.seq (.reg none [⟨some 7, none, .q (.mv (.t 6))⟩, ⟨some 8, none, .q (.fa 3 (.t 2))⟩, ⟨some 9, none, .q (.ld none (.t 8))⟩, ⟨some 10, none, .q (.mv (.t 1))⟩, ⟨some 11, none, .q (.ias 4 (.t 9) (.t 10))⟩, ⟨some 12, none, .q (.fa 2 (.t 11))⟩, ⟨some 13, none, .q (.ld none (.t 12))⟩, ⟨some 14, none, .q (.len false (.t 13))⟩, ⟨some 15, none, .q (.bin .lss (.t 7) (.t 14))⟩])
        (.keep [1, 2, 5, 6, 15]
        (.cond (.t 15) .skip
        (.exit 0))))
      (.seq (.blk 1 (.seq (.reg none [⟨some 18, none, .q (.ld (some 4) (.t 2))⟩, ⟨some 19, none, .q (.mv (.t 1))⟩, ⟨some 20, none, .q (.mv (.t 6))⟩, ⟨some 21, none, .call (.f 47) [(.t 18), (.t 19), (.t 20)]⟩])
        (.keep [1, 2, 5, 6, 21]
        (.cond (.t 21) (.reg none [⟨some 22, none, .q (.mv (.t 5))⟩, ⟨some 23, none, .q (.mv (.t 6))⟩, ⟨some 24, none, .m (.bsl 1 1 [(.i .i64 0)] [(0, 1, .t 23)])⟩, ⟨some 25, none, .m (.app 1 8 (.t 22) (.t 24))⟩, ⟨some 5, none, .q (.mv (.t 25))⟩])
        .skip))))
      (.keep [1, 2, 5, 6]
      (.reg none [⟨some 16, none, .q (.mv (.t 6))⟩, ⟨some 17, none, .q (.bin .add (.t 16) (.c (.i .i64 1)))⟩, ⟨some 6, none, .q (.mv (.t 17))⟩]))))))))))
  (.seq (.gst (.letT 5 1)
    (.reg none [⟨some 26, none, .q (.mv (.t 5))⟩, ⟨some 4, none, .q (.mv (.t 26))⟩]))
  .ret))))))))
theorem r25 : (Try.f25.body.bind (resC Try.prog Try.f25.ntmps)) = some (strip c25) := by kernel_rfl
theorem s25 : Try.f25.results.toList.mapM (resRes Try.prog) = some [.t 4] := by kernel_rfl
/-- scarab/scarabref06.Funcs -/
def c24 : ACode :=
  (.seq (.reg none [⟨some 1, none, .m (.box (.t 0))⟩, ⟨some 2, none, .q (.mv (.c .nil))⟩])
  (.gst (.pimT 1)
  (.keep [1]
  (.seq (.reg none [⟨some 9, none, .q (.fa 3 (.t 1))⟩, ⟨some 10, none, .q (.ld none (.t 9))⟩, ⟨some 11, none, .q (.len false (.t 10))⟩, ⟨some 12, none, .m (.mks 1 1 [(.b false)] (.t 11) (.t 11))⟩, ⟨some 3, none, .q (.mv (.t 12))⟩])
  (.keep [1, 3]
  (.seq (.reg none [⟨some 13, none, .q (.mv (.t 3))⟩, ⟨some 14, none, .q (.ias 1 (.t 13) (.c (.i .i64 0)))⟩, ⟨none, none, .m (.st 1 (.t 14) (.c (.b true)))⟩])
  (.keep [1, 3]
  (.seq (.seq (.reg none [⟨some 4, none, .q (.mv (.c (.b true)))⟩])
    (.keep [1, 3, 4]
    (.blk 0 (.keep [1, 3, 4]
    (.loop (.fin [1, 3, 4]
      (.seq (.seq (.reg none [⟨some 15, none, .q (.mv (.t 4))⟩])
        (.keep [1, 3, 15]
        (.cond (.t 15) .skip
        (.exit 0))))
      (.blk 1 (.seq (.reg none [⟨some 4, none, .q (.mv (.c (.b false)))⟩])
      (.keep [1, 3, 4]
      (.seq (.reg none [⟨some 5, none, .q (.mv (.c (.i .i64 0)))⟩])
      (.keep [1, 3, 4, 5]
      (.blk 2 (.keep [1, 3, 4, 5]
      (.loop (.fin [1, 3, 4, 5]
        (.seq (.seq (.reg none [⟨some 16, none, .q (.mv (.t 5))⟩, ⟨some 17, none, .q (.mv (.t 3))⟩, ⟨some 18, none, .q (.len false (.t 17))⟩, ⟨some 19, none, .q (.bin .lss (.t 16) (.t 18))⟩])
          (.keep [1, 3, 4, 5, 19]
          (.cond (.t 19) .skip
          (.exit 2))))
        (.seq (.blk 3 (.seq (.seq (.reg none [⟨some 22, none, .q (.mv (.t 3))⟩, ⟨some 23, none, .q (.mv (.t 5))⟩, ⟨some 24, none, .q (.ias 1 (.t 22) (.t 23))⟩, ⟨some 25, none, .q (.ld none (.t 24))⟩, ⟨some 26, none, .q (.un .not (.t 25))⟩])
            (.keep [1, 3, 4, 5, 26]
            (.cond (.t 26) (.exit 3)
            .skip)))
          (.seq (.reg none [⟨some 27, none, .q (.ld (some 4) (.t 1))⟩, ⟨some 28, none, .q (.mv (.t 5))⟩, ⟨some 29, none, .call (.f 15) [(.t 27), (.t 28), (.c (.i .i64 0))]⟩, ⟨some 6, none, .q (.mv (.t 29))⟩])
          (.keep [1, 3, 4, 5, 6]
          (.seq (.reg none [⟨some 7, none, .q (.mv (.c (.i .i64 0)))⟩])
          (.keep [1, 3, 4, 5, 6, 7]
          (.blk 4 (.keep [1, 3, 4, 5, 6, 7]
          (.loop (.fin [1, 3, 4, 5, 6, 7]
            (.seq (.seq (.reg none [⟨some 30, none, .q (.mv (.t 7))⟩, ⟨some 31, none, .q (.mv (.t 6))⟩, ⟨some 32, none, .q (.len false (.t 31))⟩, ⟨some 33, none, .q (.bin .lss (.t 30) (.t 32))⟩])
              (.keep [1, 3, 4, 5, 6, 7, 33]
              (.cond (.t 33) .skip
              (.exit 4))))
            (.seq (.blk 5 (.seq (.reg (some (12, [0, 1, 3, 4, 5, 8, 9, 10, 11])) [⟨some 36, none, .q (.fa 3 (.t 1))⟩, ⟨some 37, none, .q (.ld none (.t 36))⟩, ⟨some 38, none, .q (.mv (.t 5))⟩, ⟨some 39, none, .q (.ias 4 (.t 37) (.t 38))⟩, ⟨some 40, none, .q (.fa 2 (.t 39))⟩, ⟨some 41, none, .q (.ld none (.t 40))⟩, ⟨some 42, none, .q (.mv (.t 6))⟩, ⟨some 43, none, .q (.mv (.t 7))⟩, ⟨some 44, none, .q (.ias 1 (.t 42) (.t 43))⟩, ⟨some 45, none, .q (.ld none (.t 44))⟩, ⟨some 46, none, .q (.ias 5 (.t 41) (.t 45))⟩, ⟨some 47, none, .q (.ld (some 5) (.t 46))⟩, ⟨some 8, none, .m (.alloc (.g [(.i .i64 0), (.i .i64 0), (.i .i64 0), (.i .i64 0), (.i .i64 0)]))⟩, ⟨none, none, .m (.st 5 (.t 8) (.t 47))⟩])
              (.keep [1, 3, 4, 5, 6, 7, 8]
              (.seq (.reg none [⟨some 48, none, .q (.fa 0 (.t 8))⟩, ⟨some 49, none, .q (.ld none (.t 48))⟩, ⟨some 50, none, .q (.bin .eql (.t 49) (.c (.i .i64 62)))⟩, ⟨some 51, none, .q (.mv (.t 50))⟩, ⟨some 52, some (51, true), .q (.mv (.t 3))⟩, ⟨some 53, some (51, true), .q (.fa 2 (.t 8))⟩, ⟨some 54, some (51, true), .q (.ld none (.t 53))⟩, ⟨some 55, some (51, true), .q (.ias 1 (.t 52) (.t 54))⟩, ⟨some 56, some (51, true), .q (.ld none (.t 55))⟩, ⟨some 57, some (51, true), .q (.un .not (.t 56))⟩, ⟨some 58, none, .pk (.t 51) (.t 57) (.c (.b false))⟩])
              (.keep [1, 3, 4, 5, 6, 7, 8, 58]
              (.cond (.t 58) (.seq (.reg none [⟨some 59, none, .q (.mv (.t 3))⟩, ⟨some 60, none, .q (.fa 2 (.t 8))⟩, ⟨some 61, none, .q (.ld none (.t 60))⟩, ⟨some 62, none, .q (.ias 1 (.t 59) (.t 61))⟩, ⟨none, none, .m (.st 1 (.t 62) (.c (.b true)))⟩])
                (.keep [1, 3, 5, 6, 7]
                (.reg none [⟨some 4, none, .q (.mv (.c (.b true)))⟩])))
              .skip))))))
            (.keep [1, 3, 4, 5, 6, 7]
            (.reg none [⟨some 34, none, .q (.mv (.t 7))⟩, ⟨some 35, none, .q (.bin .add (.t 34) (.c (.i .i64 1)))⟩, ⟨some 7, none, .q (.mv (.t 35))⟩]))))))))))))))
        (.keep [1, 3, 4, 5]
        (.reg none [⟨some 20, none, .q (.mv (.t 5))⟩, ⟨some 21, none, .q (.bin .add (.t 20) (.c (.i .i64 1)))⟩, ⟨some 5, none, .q (.mv (.t 21))⟩]))))))))))))))))))))
  (.seq (.gst (.letT 3 1)
    (.reg none [⟨some 63, none, .q (.mv (.t 3))⟩, ⟨some 64, none, .call (.f 44) [(.t 63)]⟩, ⟨some 2, none, .q (.mv (.t 64))⟩]))
  .ret)))))))))
theorem r24 : (Try.f24.body.bind (resC Try.prog Try.f24.ntmps)) = some (strip c24) := by kernel_rfl
theorem s24 : Try.f24.results.toList.mapM (resRes Try.prog) = some [.t 2] := by kernel_rfl
theorem spinL_eq (F : Func) (hln : F.code.length ≤ 64) : ∀ n, n ≤ F.code.length → ones (spinM F F.code.length) (n + 1) = ones (spinM F F.code.length) n ++ if (decide (n < F.code.length) && spin F n) then [n] else [] := fun n hn => by
  rw [ones_succ]
  congr 2
  rw [List.getD_eq_getElem?_getD]
  by_cases h : n < 64
  · rw [List.getElem?_eq_getElem (by simp; omega)]
    simp [spinM]
  · rw [List.getElem?_eq_none (by simp; omega)]
    simp
    intro h; omega
theorem spinsR_all (p : Prog) (hp : p.Ok) (f : Nat) (F : Func) (hF : p.funcs[f]? = some F) (hf : Fine F) (h4 : ∀ s ∈ F.selects, s.cases.length ≤ 64) : PureS Try.prog 25 [.g p.row, .i .i64 (f : Int)] (.sl 1 ((spinL F).map irow)) := by
  have hlt := (List.getElem?_eq_some_iff.1 hF).1
  have hgF := (List.getElem?_eq_some_iff.1 hF).2
  have hln := hf.len
  refine fun_go hmx Try.func25 r25 s25 (by rw [Try.ntmps25]; simp) ?_
  unfold c25
  simp [Prog.row]
  rw [spinL]
  generalize hM : spinM F F.code.length = M
  refine go_while hmx 2 (fun (s : Nat × Nat) => [(5, .os 1 s.2), (6, .v (.i .i64 (s.1 : Int)))]) (fun s => [.none, .arr s.2 1 (vrows ((ints (ones M s.1)).map irow))]) (fun s => s.1 ≤ F.code.length) (fun s => F.code.length - s.1) (0, 0) rfl rfl rfl (by simp) (by simp) (by simp [Prog.row]) (Nat.zero_le _) ?_
  rintro ⟨i, v⟩ hi
  simp only at hi
  by_cases hil : i < F.code.length
  · have hI : (i : Int) < (F.code.length : Int) := by omega
    have hw : IntKind.i64.wrap ((i : Int) + 1) = ((i : Int) + 1) := wrap_in (by omega) (by omega)
    have hlen := ones_len M i
    have hone := spinL_eq F hln i hi
    rw [hM] at hone
    simp [hI, hil, hlt, hgF, Func.row, hw]
    first
      | refine callk rfl Try.call47 (spinsR_p p hp f i F hF hf hil h4) rfl ?_
      | refine callks rfl Try.call47 (spinsR_p p hp f i F hF hf hil h4) rfl ?_
      | refine callq rfl Try.call47 (spinsR_p p hp f i F hF hf hil h4) rfl ?_
      | refine callqe rfl Try.call47 (spinsR_p p hp f i F hF hf hil h4) rfl ?_
    simp
    constructor
    · intro hb
      rw [if_pos (by simp [hil, hb])] at hone
      have hl2 : (ints (ones M i)).length = (ones M i).length := by simp [ints]
      exact ⟨⟨by omega, by omega⟩, i + 1, v + 1, ⟨rfl, by omega⟩, ⟨rfl, by rw [hone]; simp [ints, vrows, irow]⟩, by omega, by omega⟩
    · intro hb
      rw [if_neg (by simp [hb]), List.append_nil] at hone
      exact ⟨i + 1, v, ⟨rfl, by omega⟩, ⟨rfl, by rw [hone]⟩, by omega, by omega⟩
  · have hI : ¬ (i : Int) < (F.code.length : Int) := by omega
    obtain rfl : i = F.code.length := by omega
    simp [hI, hlt, hgF, Func.row]
theorem spL_take (f : Func) {l : List Nat} {k : Nat} {x : Nat} (h : l[k]? = some x) : spL f (l.take (k + 1)) = spL f (l.take k) ++ spB f x := by
  rw [List.take_add_one, h, spL, List.flatMap_append]
  simp [spL]
theorem reachL_zero (F : Func) : reachL F 0 = ints (ones (allM F) F.code.length) := rfl
theorem funcsR_p (p : Prog) (hp : p.Ok) (hw : Whole p) (hF : ∀ F ∈ p.funcs, Fine F) (h1c : ∀ F ∈ p.funcs, 1 ≤ F.code.length) (h4 : ∀ F ∈ p.funcs, ∀ s ∈ F.selects, s.cases.length ≤ 64) : PureS Try.prog 24 [.g p.row] (.sl 1 ((goesL p).map irow)) := by
  have h8 := hw.few
  have h1f := hw.one
  have hff := fake_fine hw
  have hfl := fake_len p
  have hgl := goesN_list hw
  refine fun_go hmx Try.func24 r24 s24 (by rw [Try.ntmps24]; simp) ?_
  unfold c24
  simp [Prog.row]
  refine ⟨⟨by omega, by omega⟩, by omega, ⟨by omega, by rw [List.getElem?_replicate, if_pos (by omega)]; simp⟩, ?_⟩
  have e0 : ((List.replicate p.funcs.length [RV.v (AV.b false)]).set 0 (((List.replicate p.funcs.length [RV.v (AV.b false)])[0]?.getD []).set 0 (RV.v (AV.b true)))) = vrows (((reps p.funcs.length false).set 0 true).map brw) := by
    rw [vrows, List.map_map, List.map_set]
    have : (List.replicate p.funcs.length [RV.v (AV.b false)])[0]?.getD [] = [RV.v (AV.b false)] := by
      rw [List.getElem?_replicate, if_pos (by omega)]; rfl
    rw [this]
    congr 1
    simp [reps, brw]
  rw [e0]
  generalize hm0 : (reps p.funcs.length false).set 0 true = m
  have hm : m.length = p.funcs.length := by rw [← hm0]; simp
  have hgN : goesN p = reachK p.funcs.length (fun _ => true) (fake p) m := by rw [goesN, hm0]
  refine go_while hmx 2 (fun (s : List Bool × Bool) => [(4, .v (.b s.2))]) (fun s => [.none, .arr 0 1 (vrows (s.1.map brw))]) (fun s => s.1.length = p.funcs.length ∧ (∀ i, m.getD i false = true → s.1.getD i false = true) ∧ (∀ i, s.1.getD i false = true → Come (fun _ => true) (fake p) m i) ∧ (s.2 = false → passTo (fun _ => true) (fake p) s.1 p.funcs.length = s.1)) (fun s => 2 * (p.funcs.length - (ones s.1 p.funcs.length).length) + s.2.toNat) (m, true) rfl rfl rfl (by simp) (by simp) (by simp) ⟨hm, fun _ h => h, fun i h => .start i h, fun h => by cases h⟩ ?_
  rintro ⟨m1, t⟩ ⟨l1, h1, c1, e1⟩
  simp only at l1 h1 c1 e1
  cases t with
  | false =>
    have hme : m1 = goesN p := by rw [hgN]; exact pass_endK hff l1 (by omega) h1 c1 (by rw [hfl]; exact e1 rfl)
    have hpl := placesR_p m1 (by omega)
    rw [l1, hme, hgl] at hpl
    rw [hme]
    simp
    first
      | refine callk rfl Try.call44 hpl rfl ?_
      | refine callks rfl Try.call44 hpl rfl ?_
      | refine callq rfl Try.call44 hpl rfl ?_
      | refine callqe rfl Try.call44 hpl rfl ?_
    simp
  | true =>
    simp
    refine go_while hmx 2 (fun (i : Nat) => [(4, .v (.b (decide (passTo (fun _ => true) (fake p) m1 i ≠ m1)))), (5, .v (.i .i64 (i : Int)))]) (fun i => [.none, .arr 0 1 (vrows ((passTo (fun _ => true) (fake p) m1 i).map brw))]) (fun i => i ≤ p.funcs.length) (fun i => p.funcs.length - i) 0 rfl (by simp [passTo]) rfl (by simp) (by simp) (by simp) (Nat.zero_le _) ?_
    intro i hi
    by_cases hil : i < p.funcs.length
    · have hI : (i : Int) < (p.funcs.length : Int) := by omega
      have hw1 : IntKind.i64.wrap ((i : Int) + 1) = ((i : Int) + 1) := wrap_in (by omega) (by omega)
      have hlen : (passTo (fun _ => true) (fake p) m1 i).length = p.funcs.length := by simp [l1]
      have hps : passTo (fun _ => true) (fake p) m1 (i + 1) = if (passTo (fun _ => true) (fake p) m1 i).getD i false && true then mark (passTo (fun _ => true) (fake p) m1 i) (behindL (fake p) i) else passTo (fun _ => true) (fake p) m1 i := rfl
      have hsub0 : ∀ j, m1.getD j false = true → (passTo (fun _ => true) (fake p) m1 i).getD j false = true := fun j hj => pass_monoG (T := fun _ => true) (k := 0) hff (by omega) i (by omega) (Nat.zero_le _) hj
      rw [fake_behind p hil, Bool.and_true] at hps
      obtain ⟨mi, hmi⟩ : ∃ mi, passTo (fun _ => true) (fake p) m1 i = mi := ⟨_, rfl⟩
      rw [hmi] at hlen hps hsub0 ⊢
      have hgd : mi.getD i false = mi[i]'(by omega) := by rw [List.getD_eq_getElem?_getD, List.getElem?_eq_getElem (by omega)]; rfl
      rw [hgd] at hps
      have hFm := List.getElem_mem hil
      have hFo := hp.funcs _ hFm
      have hFf := hF _ hFm
      have hci := calls_in hw hFm
      have h1c := h1c _ hFm
      have h4 := h4 _ hFm
      have hspw := hw.spawn _ hFm
      have hq : p.funcs[i]? = some p.funcs[i] := List.getElem?_eq_getElem hil
      generalize hgF : p.funcs[i] = F at *
      have hln := hFf.len
      cases hb : mi[i]'(by omega) with
      | false =>
        rw [if_neg (by simp [hb])] at hps
        simp [hI, hlen, hil, brw, hb, vrows_at, hgF, hw1]
        exact ⟨i + 1, ⟨by rw [hps], by omega⟩, by rw [hps], by omega, by omega⟩
      | true =>
        rw [if_pos hb] at hps
        simp [hI, hlen, hil, brw, hb, vrows_at, hgF, hw1]
        first
          | refine callk rfl Try.call15 (reachR_p p hp i 0 F hq hFf h1c h4) rfl ?_
          | refine callks rfl Try.call15 (reachR_p p hp i 0 F hq hFf h1c h4) rfl ?_
          | refine callq rfl Try.call15 (reachR_p p hp i 0 F hq hFf h1c h4) rfl ?_
          | refine callqe rfl Try.call15 (reachR_p p hp i 0 F hq hFf h1c h4) rfl ?_
        simp [reachL_zero]
        have hcs : spL F (ones (allM F) F.code.length) = calls F := rfl
        have hNin : ∀ x ∈ ones (allM F) F.code.length, x < F.code.length := ones_in
        have hNl := ones_len (allM F) F.code.length
        generalize ones (allM F) F.code.length = N at *
        refine go_while hmx 2 (fun (k : Nat) => [(4, .v (.b (decide (mark mi (spL F (N.take k)) ≠ m1)))), (7, .v (.i .i64 (k : Int)))]) (fun k => [.none, .arr 0 1 (vrows ((mark mi (spL F (N.take k))).map brw))]) (fun k => k ≤ N.length) (fun k => N.length - k) 0 rfl (by simp [mark, spL]) rfl (by simp) (by simp) (by simp) (Nat.zero_le _) ?_
        intro k hk
        by_cases hkl : k < N.length
        · have hkI : (k : Int) < (N.length : Int) := by omega
          have hw2 : IntKind.i64.wrap ((k : Int) + 1) = ((k : Int) + 1) := wrap_in (by omega) (by omega)
          have hx := hNin _ (List.getElem_mem hkl)
          have hst := spL_take F (List.getElem?_eq_getElem hkl)
          have hsub : ∀ j, m1.getD j false = true → (mark mi (spL F (N.take k))).getD j false = true := fun j hj => (mark_get _ mi j fun x hx => by have := spL_in hw hFm (fun pc h => hNin pc (List.mem_of_mem_take h)) x hx; omega).2 (.inl (hsub0 j hj))
          obtain ⟨ck, hck⟩ : ∃ ck, mark mi (spL F (N.take k)) = ck := ⟨_, rfl⟩
          have hckl : ck.length = p.funcs.length := by rw [← hck]; simp [hlen]
          have hmt : mark mi (spL F (N.take (k + 1))) = mark ck (spB F N[k]) := by rw [hst, ← hck, mark, mark, List.foldl_append]; rfl
          rw [hck] at hsub ⊢
          obtain ⟨x, hxe⟩ : ∃ x, N[k] = x := ⟨_, rfl⟩
          rw [hxe] at hx hmt
          have hib : F.code.getD x default = F.code[x] := by rw [List.getD_eq_getElem?_getD, List.getElem?_eq_getElem hx]; rfl
          have hsx := hspw x hx
          rw [hib] at hsx
          rw [spB, hib] at hmt
          have hints : (ints N)[k]'(by simpa [ints] using hkl) = (x : Int) := by simp [ints, hxe]
          have hil2 : (ints N).length = N.length := by simp [ints]
          by_cases hop : F.code[x].op = 62
          · obtain ⟨hb0, hb1⟩ := hsx hop
            rw [if_pos hop] at hmt
            have hbn : F.code[x].b.toNat < p.funcs.length := by omega
            have hgx : ck.getD F.code[x].b.toNat false = ck[F.code[x].b.toNat]'(by omega) := by rw [List.getD_eq_getElem?_getD, List.getElem?_eq_getElem (by omega)]; rfl
            rw [show mark ck [F.code[x].b] = ck.set F.code[x].b.toNat true from rfl] at hmt
            simp [hkI, hkl, hints, hil2, irow, hil, hgF, Func.row, hx, Instr.row, hckl, hw2, hop, hb0, hb1, hbn, vrows_at, brw]
            constructor
            · intro hcx
              have hne : mark mi (spL F (N.take (k + 1))) ≠ m1 := fun he => by
                have h1 : (mark mi (spL F (N.take (k + 1)))).getD F.code[x].b.toNat false = true := by rw [hmt, List.getD_eq_getElem?_getD, List.getElem?_set_self (by omega)]; rfl
                rw [he] at h1
                have h2 := hsub _ h1
                rw [hgx, hcx] at h2
                cases h2
              exact ⟨k + 1, ⟨hne, by omega⟩, by rw [hmt]; simp [vrows, brw, List.map_set], by omega, by omega⟩
            · intro hcx
              have hset : ck.set F.code[x].b.toNat true = ck := by
                refine List.ext_getElem (by simp) fun j h1 h2 => ?_
                rw [List.getElem_set]
                split
                · rename_i hj; subst hj; exact hcx.symm
                · rfl
              rw [hset] at hmt
              exact ⟨k + 1, ⟨by rw [hmt], by omega⟩, by rw [hmt], by omega, by omega⟩
          · rw [if_neg hop, show mark ck [] = ck from rfl] at hmt
            have hopb : (F.code[x].op == 62) = false := by simp [hop]
            cases hv : ck[F.code[x].b.toNat]? with
            | none =>
              simp [hkI, hkl, hints, hil2, irow, hil, hgF, Func.row, hx, Instr.row, hckl, hw2, hop, hopb, hv, brw]
              exact ⟨k + 1, ⟨by rw [hmt], by omega⟩, by rw [hmt], by omega, by omega⟩
            | some y =>
              simp [hkI, hkl, hints, hil2, irow, hil, hgF, Func.row, hx, Instr.row, hckl, hw2, hop, hopb, hv, brw]
              exact ⟨k + 1, ⟨by rw [hmt], by omega⟩, by rw [hmt], by omega, by omega⟩
        · have hkI : ¬ (k : Int) < (N.length : Int) := by omega
          obtain rfl : k = N.length := by omega
          have hil2 : (ints N).length = N.length := by simp [ints]
          simp [hkI, hil2, hw1, hcs]
          exact ⟨i + 1, ⟨by rw [hps], by omega⟩, by rw [hps], by omega, by omega⟩
    · have hI : ¬ (i : Int) < (p.funcs.length : Int) := by omega
      obtain rfl : i = p.funcs.length := by omega
      have hpl : (passTo (fun _ => true) (fake p) m1 p.funcs.length).length = p.funcs.length := by simp [l1]
      have mono : ∀ i, m1.getD i false = true → (passTo (fun _ => true) (fake p) m1 p.funcs.length).getD i false = true := fun i hi => pass_monoG (T := fun _ => true) (k := 0) hff (by omega) p.funcs.length (by omega) (Nat.zero_le _) hi
      simp [hI, l1]
      by_cases he : passTo (fun _ => true) (fake p) m1 p.funcs.length = m1
      · exact ⟨m1, .inl ⟨he, by rw [he], ⟨l1, fun i hi => by simpa using h1 i (by simpa using hi), fun i hi => c1 i (by simpa using hi), he⟩, by omega⟩⟩
      · have hlt := ones_ltG (by simp) l1 mono he
        have hle := ones_len (passTo (fun _ => true) (fake p) m1 p.funcs.length) p.funcs.length
        exact ⟨_, .inr ⟨he, rfl, ⟨hpl, fun i hi => by simpa using mono i (h1 i (by simpa using hi)), fun i hi => pass_comeG hff (by omega) c1 p.funcs.length (by omega) i (by simpa using hi)⟩, by omega⟩⟩
end Go.Sc.Fl
/- Chapter 06: the document's idle places, where stretches begin. No condition. -/
set_option linter.constructorNameAsVariable false
namespace Go.Sc.Fl
open Go Go.RowKit Go.Av Go.Proofs Go.Sc
set_option linter.unusedSimpArgs false
set_option linter.unusedVariables false
/-- scarab/scarabref06.Idle -/
def c23 : ACode :=
  (.seq (.reg none [⟨some 1, none, .m (.box (.t 0))⟩, ⟨some 2, none, .q (.mv (.c .nil))⟩])
  (.gst (.pimT 1)
  (.keep [1]
  (.seq (.reg none [⟨some 3, none, .q (.mv (.c .nil))⟩])
  (.gst (.nilT 3 2)
  (.keep [1, 3]
  (.seq (.reg none [⟨some 10, none, .q (.fa 3 (.t 1))⟩, ⟨some 11, none, .q (.ld none (.t 10))⟩, ⟨some 12, none, .q (.len false (.t 11))⟩, ⟨some 13, none, .m (.mks 1 1 [(.b false)] (.t 12) (.t 12))⟩, ⟨some 4, none, .q (.mv (.t 13))⟩])
  (.keep [1, 3, 4]
  (.seq (.reg none [⟨some 14, none, .q (.ld (some 4) (.t 1))⟩, ⟨some 15, none, .call (.f 24) [(.t 14)]⟩, ⟨some 5, none, .q (.mv (.t 15))⟩])
  (.keep [1, 3, 4, 5]
  (.seq (.seq (.reg none [⟨some 6, none, .q (.mv (.c (.i .i64 0)))⟩])
    (.keep [1, 3, 4, 5, 6]
    (.blk 0 (.keep [1, 3, 4, 5, 6]
    (.loop (.fin [1, 3, 4, 5, 6]
      (.seq (.seq (.reg none [⟨some 16, none, .q (.mv (.t 6))⟩, ⟨some 17, none, .q (.mv (.t 5))⟩, ⟨some 18, none, .q (.len false (.t 17))⟩, ⟨some 19, none, .q (.bin .lss (.t 16) (.t 18))⟩])
        (.keep [1, 3, 4, 5, 6, 19]
        (.cond (.t 19) .skip
        (.exit 0))))
      (.seq (.blk 1 (.reg none [⟨some 22, none, .q (.mv (.t 4))⟩, ⟨some 23, none, .q (.mv (.t 5))⟩, ⟨some 24, none, .q (.mv (.t 6))⟩, ⟨some 25, none, .q (.ias 1 (.t 23) (.t 24))⟩, ⟨some 26, none, .q (.ld none (.t 25))⟩, ⟨some 27, none, .q (.ias 1 (.t 22) (.t 26))⟩, ⟨none, none, .m (.st 1 (.t 27) (.c (.b true)))⟩]))
      (.keep [1, 3, 4, 5, 6]
      (.reg none [⟨some 20, none, .q (.mv (.t 6))⟩, ⟨some 21, none, .q (.bin .add (.t 20) (.c (.i .i64 1)))⟩, ⟨some 6, none, .q (.mv (.t 21))⟩]))))))))))
  (.seq (.seq (.reg none [⟨some 7, none, .q (.mv (.c (.i .i64 0)))⟩])
    (.keep [1, 3, 4, 7]
    (.blk 2 (.keep [1, 3, 4, 7]
    (.loop (.fin [1, 3, 4, 7]
      (.seq (.seq (.reg none [⟨some 28, none, .q (.mv (.t 7))⟩, ⟨some 29, none, .q (.fa 3 (.t 1))⟩, ⟨some 30, none, .q (.ld none (.t 29))⟩, ⟨some 31, none, .q (.len false (.t 30))⟩, ⟨some 32, none, .q (.bin .lss (.t 28) (.t 31))⟩])
        (.keep [1, 3, 4, 7, 32]
        (.cond (.t 32) .skip
        (.exit 2))))
      (.seq (.blk 3 (.seq (.reg none [⟨some 35, none, .q (.fa 3 (.t 1))⟩, ⟨some 36, none, .q (.ld none (.t 35))⟩, ⟨some 37, none, .q (.mv (.t 7))⟩, ⟨some 38, none, .q (.ias 4 (.t 36) (.t 37))⟩, ⟨some 39, none, .q (.fa 2 (.t 38))⟩, ⟨some 40, none, .q (.ld none (.t 39))⟩, ⟨some 41, none, .q (.len false (.t 40))⟩, ⟨some 42, none, .m (.mks 1 1 [(.b false)] (.t 41) (.t 41))⟩, ⟨some 8, none, .q (.mv (.t 42))⟩])
        (.keep [1, 3, 4, 7, 8]
        (.seq (.seq (.gst (.letT 8 1)
            (.reg none [⟨some 43, none, .q (.mv (.t 4))⟩, ⟨some 44, none, .q (.mv (.t 7))⟩, ⟨some 45, none, .q (.ias 1 (.t 43) (.t 44))⟩, ⟨some 46, none, .q (.ld none (.t 45))⟩]))
          (.keep [1, 3, 4, 7, 8, 46]
          (.cond (.t 46) (.reg (some (4, [0])) [⟨some 47, none, .q (.ld (some 4) (.t 1))⟩, ⟨some 48, none, .q (.mv (.t 7))⟩, ⟨some 49, none, .q (.ld (some 4) (.t 1))⟩, ⟨some 50, none, .q (.mv (.t 7))⟩, ⟨some 51, none, .call (.f 46) [(.t 49), (.t 50), (.c (.i .i64 0))]⟩, ⟨some 52, none, .call (.f 45) [(.t 47), (.t 48), (.t 51), (.c (.b false))]⟩, ⟨some 8, none, .q (.mv (.t 52))⟩])
          .skip)))
        (.seq (.reg none [⟨some 9, none, .q (.mv (.c (.i .i64 0)))⟩])
        (.keep [1, 3, 4, 7, 8, 9]
        (.blk 4 (.keep [1, 3, 4, 7, 8, 9]
        (.loop (.fin [1, 3, 4, 7, 8, 9]
          (.seq (.seq (.reg none [⟨some 53, none, .q (.mv (.t 9))⟩, ⟨some 54, none, .q (.mv (.t 8))⟩, ⟨some 55, none, .q (.len false (.t 54))⟩, ⟨some 56, none, .q (.bin .lss (.t 53) (.t 55))⟩])
            (.keep [1, 3, 4, 7, 8, 9, 56]
            (.cond (.t 56) .skip
            (.exit 4))))
          (.seq (.blk 5 (.seq (.reg none [⟨some 59, none, .q (.mv (.t 8))⟩, ⟨some 60, none, .q (.mv (.t 9))⟩, ⟨some 61, none, .q (.ias 1 (.t 59) (.t 60))⟩, ⟨some 62, none, .q (.ld none (.t 61))⟩, ⟨some 63, none, .q (.un .not (.t 62))⟩])
            (.keep [1, 3, 4, 7, 8, 9, 63]
            (.cond (.t 63) (.reg none [⟨some 64, none, .q (.mv (.t 3))⟩, ⟨some 65, none, .q (.mv (.t 7))⟩, ⟨some 66, none, .q (.mv (.t 9))⟩, ⟨some 67, none, .q (.bld [(.i .i64 0), (.i .i64 0)] [(0, 1, .t 65), (1, 1, .t 66)])⟩, ⟨some 68, none, .m (.bsl 1 2 [(.i .i64 0), (.i .i64 0)] [(0, 2, .t 67)])⟩, ⟨some 69, none, .m (.app 2 16 (.t 64) (.t 68))⟩, ⟨some 3, none, .q (.mv (.t 69))⟩])
            .skip))))
          (.keep [1, 3, 4, 7, 8, 9]
          (.reg none [⟨some 57, none, .q (.mv (.t 9))⟩, ⟨some 58, none, .q (.bin .add (.t 57) (.c (.i .i64 1)))⟩, ⟨some 9, none, .q (.mv (.t 58))⟩]))))))))))))))
      (.keep [1, 3, 4, 7]
      (.reg none [⟨some 33, none, .q (.mv (.t 7))⟩, ⟨some 34, none, .q (.bin .add (.t 33) (.c (.i .i64 1)))⟩, ⟨some 7, none, .q (.mv (.t 34))⟩]))))))))))
  (.seq (.gst (.letT 3 2)
    (.reg none [⟨some 70, none, .q (.mv (.t 3))⟩, ⟨some 2, none, .q (.mv (.t 70))⟩]))
  .ret)))))))))))))
theorem r23 : (Try.f23.body.bind (resC Try.prog Try.f23.ntmps)) = some (strip c23) := by kernel_rfl
theorem s23 : Try.f23.results.toList.mapM (resRes Try.prog) = some [.t 2] := by kernel_rfl
theorem allN_get {f : Func} (hf : Fine f) (h0 : 0 < f.code.length) {i : Nat} (hi : i < f.code.length) : (reachN (fun i => !false || loc f i) f ((reps f.code.length false).set 0 true)).getD i false = (allM f).getD i false := by
  have hl := hf.len
  refine reachN_same hf (fun i _ => by simp) (fun i => ?_) hi
  rw [oneN_get h0, oneN_get (by omega)]
theorem idleR_p (p : Prog) (hp : p.Ok) (hw : Whole p) (hF : ∀ F ∈ p.funcs, Fine F) (h1c : ∀ F ∈ p.funcs, 1 ≤ F.code.length) (h4 : ∀ F ∈ p.funcs, ∀ s ∈ F.selects, s.cases.length ≤ 64) : PureS Try.prog 23 [.g p.row] (.sl 2 (idleL p p.funcs.length)) := by
  have h8 := hw.few
  have h1f := hw.one
  have hil : ∀ k, k ≤ p.funcs.length → (idleL p k).length ≤ 64 * k := idleL_len fun f hf => (hF f hf).len
  refine fun_go hmx Try.func23 r23 s23 (by rw [Try.ntmps23]; simp) ?_
  unfold c23
  simp [Prog.row]
  refine ⟨⟨by omega, by omega⟩, ?_⟩
  first
    | refine callk rfl Try.call24 (funcsR_p p hp hw hF h1c h4) rfl ?_
    | refine callks rfl Try.call24 (funcsR_p p hp hw hF h1c h4) rfl ?_
    | refine callq rfl Try.call24 (funcsR_p p hp hw hF h1c h4) rfl ?_
    | refine callqe rfl Try.call24 (funcsR_p p hp hw hF h1c h4) rfl ?_
  simp
  have e0 : List.replicate p.funcs.length [RV.v (AV.b false)] = vrows ((reps p.funcs.length false).map brw) := by
    simp [vrows, reps, brw]
  rw [e0]
  have hgl : (goesL p).length ≤ 8 := by simp only [goesL, ints, List.length_map]; exact ones_len _ _
  have hgm := goesN_mark hw
  have hgi : ∀ x ∈ goesL p, 0 ≤ x ∧ x.toNat < p.funcs.length := fun x hx => by have := (goes_mem hw).1 hx; exact ⟨this.1, this.2.1⟩
  have hgg : ∀ i, i < p.funcs.length → (goesN p).getD i false = (goesM p).getD i false := fun i h => goes_get hw h
  have hNl : (goesN p).length = p.funcs.length := by simp [goesN]
  generalize goesL p = L at *
  refine go_while hmx 3 (fun (k : Nat) => [(6, .v (.i .i64 (k : Int)))]) (fun k => [.none, .arr 0 2 [], .arr 0 1 (vrows ((mark (reps p.funcs.length false) (L.take k)).map brw))]) (fun k => k ≤ L.length) (fun k => L.length - k) 0 rfl rfl rfl (by simp) (by simp) (by simp) (Nat.zero_le _) ?_
  intro k hk
  by_cases hkl : k < L.length
  · have hkI : (k : Int) < (L.length : Int) := by omega
    have hw2 : IntKind.i64.wrap ((k : Int) + 1) = ((k : Int) + 1) := wrap_in (by omega) (by omega)
    have hx := hgi _ (List.getElem_mem hkl)
    have hmt := mark_take (reps p.funcs.length false) L k _ (List.getElem?_eq_getElem hkl)
    obtain ⟨x, hxe⟩ : ∃ x, L[k] = x := ⟨_, rfl⟩
    rw [hxe] at hx hmt
    simp [hkI, hkl, hxe, irow, hx.1, hx.2, vrows_at, brw, hw2]
    exact ⟨by omega, k + 1, by omega, by rw [hmt]; simp [vrows, brw, List.map_set], by omega, by omega⟩
  · have hkI : ¬ (k : Int) < (L.length : Int) := by omega
    obtain rfl : k = L.length := by omega
    rw [List.take_length, hgm]
    simp [hkI]
    refine go_while hmx 3 (fun (s : Nat × Nat) => [(3, .os 1 s.2), (7, .v (.i .i64 (s.1 : Int)))]) (fun s => [.none, .arr s.2 2 (vrows (idleL p s.1)), .arr 0 1 (vrows ((goesN p).map brw))]) (fun s => s.1 ≤ p.funcs.length) (fun s => p.funcs.length - s.1) (0, 0) rfl rfl rfl (by simp) (by simp) (by simp) (Nat.zero_le _) ?_
    rintro ⟨i, v⟩ hi
    simp only at hi
    by_cases hlt : i < p.funcs.length
    · have hI : (i : Int) < (p.funcs.length : Int) := by omega
      have hw1 : IntKind.i64.wrap ((i : Int) + 1) = ((i : Int) + 1) := wrap_in (by omega) (by omega)
      have hFm := List.getElem_mem hlt
      have hFo := hp.funcs _ hFm
      have hFf := hF _ hFm
      have hln := hFf.len
      have h1F := h1c _ hFm
      have h4F := h4 _ hFm
      have hsu := idleL_succ p i
      have hfs := idleF_succ p i
      have hfl := idleF_len p i
      have hl0 := hil i hi
      have hq : p.funcs[i]? = some p.funcs[i] := List.getElem?_eq_getElem hlt
      have hgd : p.funcs.getD i default = p.funcs[i] := by rw [List.getD_eq_getElem?_getD, hq]; rfl
      rw [hgd] at hsu hfs
      generalize hgF : p.funcs[i] = F at *
      have hgi2 := hgg i hlt
      have g1 : (goesN p).getD i false = (goesN p)[i]'(by omega) := by rw [List.getD_eq_getElem?_getD, List.getElem?_eq_getElem (by omega)]; rfl
      have hall := fun j (h : j < F.code.length) => allN_get hFf h1F h
      simp [hI, hlt, hgF, Func.row]
      refine ⟨⟨by omega, by omega⟩, ?_⟩
      have eF : List.replicate F.code.length [RV.v (AV.b false)] = vrows ((reps F.code.length false).map brw) := by
        simp [vrows, reps, brw]
      rw [eF]
      simp [hlt, hNl, vrows_at, brw]
      cases hb : (goesN p)[i]'(by omega) with
      | false =>
        rw [hb] at g1
        simp
        have hMl : (reps F.code.length false).length = F.code.length := by simp
        have hMg : ∀ j (h : j < F.code.length), (reps F.code.length false)[j]'(by rw [hMl]; exact h) = ((goesM p).getD i false && (allM F).getD j false) := fun j h => by
          have g3 : (reps F.code.length false).getD j false = (reps F.code.length false)[j]'(by rw [hMl]; exact h) := by rw [List.getD_eq_getElem?_getD, List.getElem?_eq_getElem (by rw [hMl]; exact h)]; rfl
          rw [← g3]
          rw [← hgi2, g1, zero_getD]; simp
        generalize reps F.code.length false = M at *
        refine go_while hmx 4 (fun (s : Nat × Nat) => [(3, .os 1 s.2), (9, .v (.i .i64 (s.1 : Int)))]) (fun s => [.none, .arr s.2 2 (vrows (idleL p i ++ idleF p i s.1)), .arr 0 1 (vrows ((goesN p).map brw)), .none]) (fun s => s.1 ≤ F.code.length) (fun s => F.code.length - s.1) (0, v) rfl rfl (by simp [idleF]) (by simp) (by simp) (by simp) (Nat.zero_le _) ?_
        rintro ⟨j, w⟩ hj
        simp only at hj
        by_cases hjl : j < F.code.length
        · have hJ : (j : Int) < (F.code.length : Int) := by omega
          have hw2 : IntKind.i64.wrap ((j : Int) + 1) = ((j : Int) + 1) := wrap_in (by omega) (by omega)
          have hfs := hfs j
          have hfl := hfl j
          rw [← hMg j hjl] at hfs
          simp [hJ, hjl, hMl, brw, hw2]
          refine ⟨fun h => ⟨⟨by omega, by omega⟩, j + 1, w + 1, ⟨rfl, by omega⟩, ⟨rfl, ?_⟩, by omega, by omega⟩, fun h => ⟨j + 1, w, ⟨rfl, by omega⟩, ⟨rfl, ?_⟩, by omega, by omega⟩⟩
          · rw [hfs, if_pos (by simp [h])]
            simp [vrows]
          · rw [hfs, if_neg (by simp [h])]
            simp
        · have hJ : ¬ (j : Int) < (F.code.length : Int) := by omega
          obtain rfl : j = F.code.length := by omega
          simp [hJ, hMl, hw1]
          exact ⟨i + 1, w, ⟨rfl, by omega⟩, ⟨rfl, by rw [hsu]⟩, by omega, by omega⟩
      | true =>
        rw [hb] at g1
        simp [hlt, hgF, Func.row]
        first
          | refine callk rfl Try.call46 (fromR_p p hp i 0 F hq h1F hln) rfl ?_
          | refine callks rfl Try.call46 (fromR_p p hp i 0 F hq h1F hln) rfl ?_
          | refine callq rfl Try.call46 (fromR_p p hp i 0 F hq h1F hln) rfl ?_
          | refine callqe rfl Try.call46 (fromR_p p hp i 0 F hq h1F hln) rfl ?_
        simp [-List.map_set]
        first
          | refine callk rfl Try.call45 (markedR_p p hp i F hq hFf h4F ((reps F.code.length false).set 0 true) (by simp) false) rfl ?_
          | refine callks rfl Try.call45 (markedR_p p hp i F hq hFf h4F ((reps F.code.length false).set 0 true) (by simp) false) rfl ?_
          | refine callq rfl Try.call45 (markedR_p p hp i F hq hFf h4F ((reps F.code.length false).set 0 true) (by simp) false) rfl ?_
          | refine callqe rfl Try.call45 (markedR_p p hp i F hq hFf h4F ((reps F.code.length false).set 0 true) (by simp) false) rfl ?_
        have hMl : ((reachN (fun i => !false || loc F i) F ((reps F.code.length false).set 0 true))).length = F.code.length := by simp
        have hMg : ∀ j (h : j < F.code.length), ((reachN (fun i => !false || loc F i) F ((reps F.code.length false).set 0 true)))[j]'(by rw [hMl]; exact h) = ((goesM p).getD i false && (allM F).getD j false) := fun j h => by
          have g3 : ((reachN (fun i => !false || loc F i) F ((reps F.code.length false).set 0 true))).getD j false = ((reachN (fun i => !false || loc F i) F ((reps F.code.length false).set 0 true)))[j]'(by rw [hMl]; exact h) := by rw [List.getD_eq_getElem?_getD, List.getElem?_eq_getElem (by rw [hMl]; exact h)]; rfl
          rw [← g3]
          rw [← hgi2, g1, hall j h]; simp
        generalize (reachN (fun i => !false || loc F i) F ((reps F.code.length false).set 0 true)) = M at *
        simp
        refine go_while hmx 4 (fun (s : Nat × Nat) => [(3, .os 1 s.2), (9, .v (.i .i64 (s.1 : Int)))]) (fun s => [.none, .arr s.2 2 (vrows (idleL p i ++ idleF p i s.1)), .arr 0 1 (vrows ((goesN p).map brw)), .none]) (fun s => s.1 ≤ F.code.length) (fun s => F.code.length - s.1) (0, v) rfl rfl (by simp [idleF]) (by simp) (by simp) (by simp) (Nat.zero_le _) ?_
        rintro ⟨j, w⟩ hj
        simp only at hj
        by_cases hjl : j < F.code.length
        · have hJ : (j : Int) < (F.code.length : Int) := by omega
          have hw2 : IntKind.i64.wrap ((j : Int) + 1) = ((j : Int) + 1) := wrap_in (by omega) (by omega)
          have hfs := hfs j
          have hfl := hfl j
          rw [← hMg j hjl] at hfs
          simp [hJ, hjl, hMl, brw, hw2]
          refine ⟨fun h => ⟨⟨by omega, by omega⟩, j + 1, w + 1, ⟨rfl, by omega⟩, ⟨rfl, ?_⟩, by omega, by omega⟩, fun h => ⟨j + 1, w, ⟨rfl, by omega⟩, ⟨rfl, ?_⟩, by omega, by omega⟩⟩
          · rw [hfs, if_pos (by simp [h])]
            simp [vrows]
          · rw [hfs, if_neg (by simp [h])]
            simp
        · have hJ : ¬ (j : Int) < (F.code.length : Int) := by omega
          obtain rfl : j = F.code.length := by omega
          simp [hJ, hMl, hw1]
          exact ⟨i + 1, w, ⟨rfl, by omega⟩, ⟨rfl, by rw [hsu]⟩, by omega, by omega⟩
    · have hI : ¬ (i : Int) < (p.funcs.length : Int) := by omega
      obtain rfl : i = p.funcs.length := by omega
      simp [hI]
end Go.Sc.Fl
/- Chapter 06: the document's beginnings of stretches. No condition. -/
set_option linter.constructorNameAsVariable false
namespace Go.Sc.Fl
open Go Go.RowKit Go.Av Go.Proofs Go.Sc
set_option linter.unusedSimpArgs false
set_option linter.unusedVariables false
/-- scarab/scarabref06.Heads -/
def c26 : ACode :=
  (.seq (.reg none [⟨some 2, none, .m (.box (.t 0))⟩, ⟨some 4, none, .q (.mv (.c .nil))⟩])
  (.gst (.pimT 2)
  (.keep [1, 2]
  (.seq (.reg none [⟨some 11, none, .q (.fa 3 (.t 2))⟩, ⟨some 12, none, .q (.ld none (.t 11))⟩, ⟨some 13, none, .q (.mv (.t 1))⟩, ⟨some 14, none, .q (.ias 4 (.t 12) (.t 13))⟩, ⟨some 15, none, .q (.fa 2 (.t 14))⟩, ⟨some 16, none, .q (.ld none (.t 15))⟩, ⟨some 5, none, .q (.mv (.t 16))⟩])
  (.keep [1, 2, 5]
  (.seq (.reg none [⟨some 17, none, .call (.f 43) [(.c .nil), (.c (.i .i64 0))]⟩, ⟨some 6, none, .q (.mv (.t 17))⟩])
  (.keep [1, 2, 5, 6]
  (.seq (.seq (.reg none [⟨some 7, none, .q (.mv (.c (.i .i64 0)))⟩])
    (.keep [1, 2, 5, 6, 7]
    (.blk 0 (.keep [1, 2, 5, 6, 7]
    (.loop (.fin [1, 2, 5, 6, 7]
      (.seq (.seq (.reg none [⟨some 18, none, .q (.mv (.t 7))⟩, ⟨some 19, none, .q (.mv (.t 5))⟩, ⟨some 20, none, .q (.len false (.t 19))⟩, ⟨some 21, none, .q (.bin .lss (.t 18) (.t 20))⟩])
        (.keep [1, 2, 5, 6, 7, 21]
        (.cond (.t 21) .skip
        (.exit 0))))
      (.seq (.blk 1 (.seq (.reg none [⟨some 24, none, .q (.mv (.t 5))⟩, ⟨some 25, none, .q (.mv (.t 7))⟩, ⟨some 26, none, .q (.ias 5 (.t 24) (.t 25))⟩, ⟨some 27, none, .q (.fa 0 (.t 26))⟩, ⟨some 28, none, .q (.ld none (.t 27))⟩, ⟨some 8, none, .q (.mv (.t 28))⟩])
        (.keep [1, 2, 5, 6, 7, 8]
        (.seq (.seq (.reg none [⟨some 29, none, .q (.mv (.t 8))⟩, ⟨some 30, none, .q (.bin .neq (.t 29) (.c (.i .i64 42)))⟩, ⟨some 31, none, .q (.mv (.t 30))⟩, ⟨some 32, some (31, true), .q (.mv (.t 8))⟩, ⟨some 33, some (31, true), .q (.bin .neq (.t 32) (.c (.i .i64 43)))⟩, ⟨some 34, none, .pk (.t 31) (.t 33) (.c (.b false))⟩, ⟨some 35, none, .q (.mv (.t 34))⟩, ⟨some 36, some (35, true), .q (.mv (.t 8))⟩, ⟨some 37, some (35, true), .q (.bin .neq (.t 36) (.c (.i .i64 61)))⟩, ⟨some 38, none, .pk (.t 35) (.t 37) (.c (.b false))⟩, ⟨some 39, none, .q (.mv (.t 38))⟩, ⟨some 40, some (39, true), .q (.mv (.t 8))⟩, ⟨some 41, some (39, true), .q (.bin .neq (.t 40) (.c (.i .i64 45)))⟩, ⟨some 42, none, .pk (.t 39) (.t 41) (.c (.b false))⟩])
          (.keep [1, 2, 5, 6, 7, 42]
          (.cond (.t 42) (.exit 1)
          .skip)))
        (.seq (.seq (.reg none [⟨some 43, none, .q (.mv (.t 7))⟩, ⟨some 44, none, .q (.bin .add (.t 43) (.c (.i .i64 1)))⟩, ⟨some 45, none, .q (.mv (.t 5))⟩, ⟨some 46, none, .q (.len false (.t 45))⟩, ⟨some 47, none, .q (.bin .lss (.t 44) (.t 46))⟩])
          (.keep [1, 2, 5, 6, 7, 47]
          (.cond (.t 47) (.reg none [⟨some 48, none, .q (.mv (.t 6))⟩, ⟨some 49, none, .q (.mv (.t 7))⟩, ⟨some 50, none, .q (.bin .add (.t 49) (.c (.i .i64 1)))⟩, ⟨some 51, none, .call (.f 43) [(.t 48), (.t 50)]⟩, ⟨some 6, none, .q (.mv (.t 51))⟩])
          .skip)))
        (.seq (.reg none [⟨some 52, none, .q (.ld (some 4) (.t 2))⟩, ⟨some 53, none, .q (.mv (.t 1))⟩, ⟨some 54, none, .q (.mv (.t 7))⟩, ⟨some 55, none, .call (.f 14) [(.t 52), (.t 53), (.t 54)]⟩, ⟨some 9, none, .q (.mv (.t 55))⟩])
        (.keep [1, 2, 5, 6, 7, 9]
        (.seq (.reg none [⟨some 10, none, .q (.mv (.c (.i .i64 0)))⟩])
        (.keep [1, 2, 5, 6, 7, 9, 10]
        (.blk 2 (.keep [1, 2, 5, 6, 7, 9, 10]
        (.loop (.fin [1, 2, 5, 6, 7, 9, 10]
          (.seq (.seq (.reg none [⟨some 56, none, .q (.mv (.t 10))⟩, ⟨some 57, none, .q (.mv (.t 9))⟩, ⟨some 58, none, .q (.len false (.t 57))⟩, ⟨some 59, none, .q (.bin .lss (.t 56) (.t 58))⟩])
            (.keep [1, 2, 5, 6, 7, 9, 10, 59]
            (.cond (.t 59) .skip
            (.exit 2))))
          (.seq (.blk 3 (.reg none [⟨some 62, none, .q (.mv (.t 6))⟩, ⟨some 63, none, .q (.mv (.t 9))⟩, ⟨some 64, none, .q (.mv (.t 10))⟩, ⟨some 65, none, .q (.ias 1 (.t 63) (.t 64))⟩, ⟨some 66, none, .q (.ld none (.t 65))⟩, ⟨some 67, none, .call (.f 43) [(.t 62), (.t 66)]⟩, ⟨some 6, none, .q (.mv (.t 67))⟩]))
          (.keep [1, 2, 5, 6, 7, 9, 10]
          (.reg none [⟨some 60, none, .q (.mv (.t 10))⟩, ⟨some 61, none, .q (.bin .add (.t 60) (.c (.i .i64 1)))⟩, ⟨some 10, none, .q (.mv (.t 61))⟩])))))))))))))))))
      (.keep [1, 2, 5, 6, 7]
      (.reg none [⟨some 22, none, .q (.mv (.t 7))⟩, ⟨some 23, none, .q (.bin .add (.t 22) (.c (.i .i64 1)))⟩, ⟨some 7, none, .q (.mv (.t 23))⟩]))))))))))
  (.seq (.reg none [⟨some 68, none, .q (.mv (.t 6))⟩, ⟨some 4, none, .q (.mv (.t 68))⟩])
  .ret)))))))))
theorem r26 : (Try.f26.body.bind (resC Try.prog Try.f26.ntmps)) = some (strip c26) := by kernel_rfl
theorem s26 : Try.f26.results.toList.mapM (resRes Try.prog) = some [.t 4] := by kernel_rfl
theorem headsR_p (p : Prog) (hp : p.Ok) (f : Nat) (F : Func) (hF : p.funcs[f]? = some F) (hf : Fine F) (h1 : 1 ≤ F.code.length) (h4 : ∀ s ∈ F.selects, s.cases.length ≤ 64) : PureS Try.prog 26 [.g p.row, .i .i64 (f : Int)] (.sl 1 ((headsL F).map irow)) := by
  have hlt := (List.getElem?_eq_some_iff.1 hF).1
  have hgF := (List.getElem?_eq_some_iff.1 hF).2
  have hln := hf.len
  have heq := headsD_eq hf h1
  have hln2 := headsD_len hln
  have put0 : PureS Try.prog 43 [.nil, .i .i64 0] (.sl 1 ((ins 0 []).map irow)) := (put_p [] 0 (by simp)).weak ⟨.nil 1, .refl _, trivial⟩
  refine fun_go hmx Try.func26 r26 s26 (by rw [Try.ntmps26]; simp) ?_
  unfold c26
  simp [Prog.row, hlt, hgF, Func.row]
  first
    | refine callk rfl Try.call43 put0 rfl ?_
    | refine callks rfl Try.call43 put0 rfl ?_
    | refine callq rfl Try.call43 put0 rfl ?_
    | refine callqe rfl Try.call43 put0 rfl ?_
  simp
  refine go_while hmx 1 (fun (i : Nat) => [(6, .v (.sl 1 ((insOn [0] (headsD F i)).map irow))), (7, .v (.i .i64 (i : Int)))]) (fun i => [.none]) (fun i => i ≤ F.code.length) (fun i => F.code.length - i) 0 rfl rfl rfl (by simp) (by simp) (by simp) (Nat.zero_le _) ?_
  intro i hi
  by_cases hil : i < F.code.length
  · have hI : (i : Int) < (F.code.length : Int) := by omega
    have hw : IntKind.i64.wrap ((i : Int) + 1) = ((i : Int) + 1) := wrap_in (by omega) (by omega)
    have hib : F.code.getD i default = F.code[i] := by rw [List.getD_eq_getElem?_getD, List.getElem?_eq_getElem hil]; rfl
    have hsx := headsD_succ F i
    have hea : endsAt F i = (F.code[i].op == 42 || F.code[i].op == 43 || F.code[i].op == 61 || F.code[i].op == 45) := by rw [endsAt, hib]
    have hend : insOn [0] (headsD F (i + 1)) = insOn (insOn [0] (headsD F i)) (headD F i) := by rw [hsx, insOn_app]
    have hlo := insOn_len [0] (headsD F i)
    have hlo2 := hln2 i
    obtain ⟨o, ho⟩ : ∃ o, insOn [0] (headsD F i) = o := ⟨_, rfl⟩
    rw [ho] at hend hlo ⊢
    have hol : o.length ≤ 70 * 64 := by simp at hlo; omega
    rw [headD, hea] at hend
    cases he : (F.code[i].op == 42 || F.code[i].op == 43 || F.code[i].op == 61 || F.code[i].op == 45) with
    | false =>
      rw [he] at hend
      simp [insOn] at hend
      simp at he
      obtain ⟨⟨⟨e1, e2⟩, e3⟩, e4⟩ := he
      simp [hI, hil, Instr.row, e1, e2, e3, e4, hw]
      exact ⟨i + 1, ⟨by rw [show insOn [0] (headsD F (i + 1)) = o from hend], by omega⟩, by omega, by omega⟩
    | true =>
      rw [he, if_pos rfl, insOn_app] at hend
      have hall : (!decide (F.code[i].op = 42) && !decide (F.code[i].op = 43) && !decide (F.code[i].op = 61) && F.code[i].op != 45) = false := by
        by_cases e1 : F.code[i].op = 42 <;> by_cases e2 : F.code[i].op = 43 <;> by_cases e3 : F.code[i].op = 61 <;> simp_all
      simp [hI, hil, Instr.row, hall, hw]
      refine ⟨fun hn => ?_, fun hn => ?_⟩
      · rw [if_pos (by omega)] at hend
        have hil4 := insLen ((i : Int) + 1) o
        first
          | refine callk rfl Try.call43 (put_p o ((i : Int) + 1) (by omega)) rfl ?_
          | refine callks rfl Try.call43 (put_p o ((i : Int) + 1) (by omega)) rfl ?_
          | refine callq rfl Try.call43 (put_p o ((i : Int) + 1) (by omega)) rfl ?_
          | refine callqe rfl Try.call43 (put_p o ((i : Int) + 1) (by omega)) rfl ?_
        simp
        have ho2 : insOn o [(i : Int) + 1] = ins ((i : Int) + 1) o := rfl
        rw [ho2] at hend
        generalize hgo : ins ((i : Int) + 1) o = o2 at *
        first
          | refine callk rfl Try.call14 (nextR_p p hp f i F hF hf hil h4) rfl ?_
          | refine callks rfl Try.call14 (nextR_p p hp f i F hF hf hil h4) rfl ?_
          | refine callq rfl Try.call14 (nextR_p p hp f i F hF hf hil h4) rfl ?_
          | refine callqe rfl Try.call14 (nextR_p p hp f i F hF hf hil h4) rfl ?_
        simp
        have hNl := nextL_len' F i
        generalize nextL F i = N at *
        refine go_while hmx 1 (fun (k : Nat) => [(6, .v (.sl 1 ((insOn o2 (N.take k)).map irow))), (10, .v (.i .i64 (k : Int)))]) (fun k => [.none]) (fun k => k ≤ N.length) (fun k => N.length - k) 0 rfl rfl rfl (by simp) (by simp) (by simp) (Nat.zero_le _) ?_
        intro k hk
        by_cases hkl : k < N.length
        · have hkI : (k : Int) < (N.length : Int) := by omega
          have hw2 : IntKind.i64.wrap ((k : Int) + 1) = ((k : Int) + 1) := wrap_in (by omega) (by omega)
          have hit := insOn_take o2 (List.getElem?_eq_getElem hkl)
          have hil3 := insOn_len o2 (N.take k)
          have htl : (N.take k).length ≤ k := by simp; omega
          obtain ⟨x, hxe⟩ : ∃ x, N[k] = x := ⟨_, rfl⟩
          rw [hxe] at hit
          simp [hkI, hkl, hxe, irow]
          first
            | refine callk rfl Try.call43 (put_p (insOn o2 (N.take k)) x (by omega)) rfl ?_
            | refine callks rfl Try.call43 (put_p (insOn o2 (N.take k)) x (by omega)) rfl ?_
            | refine callq rfl Try.call43 (put_p (insOn o2 (N.take k)) x (by omega)) rfl ?_
            | refine callqe rfl Try.call43 (put_p (insOn o2 (N.take k)) x (by omega)) rfl ?_
          simp [hw2]
          exact ⟨k + 1, ⟨by rw [hit], by omega⟩, by omega, by omega⟩
        · have hkI : ¬ (k : Int) < (N.length : Int) := by omega
          obtain rfl : k = N.length := by omega
          simp [hkI, hw]
          exact ⟨i + 1, ⟨by rw [hend], by omega⟩, by omega, by omega⟩
      · rw [if_neg (by omega)] at hend
        have ho2 : insOn o [] = o := rfl
        rw [ho2] at hend
        have hil4 : o.length ≤ o.length + 1 := by omega
        generalize hgo : o = o2 at *
        first
          | refine callk rfl Try.call14 (nextR_p p hp f i F hF hf hil h4) rfl ?_
          | refine callks rfl Try.call14 (nextR_p p hp f i F hF hf hil h4) rfl ?_
          | refine callq rfl Try.call14 (nextR_p p hp f i F hF hf hil h4) rfl ?_
          | refine callqe rfl Try.call14 (nextR_p p hp f i F hF hf hil h4) rfl ?_
        simp
        have hNl := nextL_len' F i
        generalize nextL F i = N at *
        refine go_while hmx 1 (fun (k : Nat) => [(6, .v (.sl 1 ((insOn o2 (N.take k)).map irow))), (10, .v (.i .i64 (k : Int)))]) (fun k => [.none]) (fun k => k ≤ N.length) (fun k => N.length - k) 0 rfl rfl rfl (by simp) (by simp) (by simp) (Nat.zero_le _) ?_
        intro k hk
        by_cases hkl : k < N.length
        · have hkI : (k : Int) < (N.length : Int) := by omega
          have hw2 : IntKind.i64.wrap ((k : Int) + 1) = ((k : Int) + 1) := wrap_in (by omega) (by omega)
          have hit := insOn_take o2 (List.getElem?_eq_getElem hkl)
          have hil3 := insOn_len o2 (N.take k)
          have htl : (N.take k).length ≤ k := by simp; omega
          obtain ⟨x, hxe⟩ : ∃ x, N[k] = x := ⟨_, rfl⟩
          rw [hxe] at hit
          simp [hkI, hkl, hxe, irow]
          first
            | refine callk rfl Try.call43 (put_p (insOn o2 (N.take k)) x (by omega)) rfl ?_
            | refine callks rfl Try.call43 (put_p (insOn o2 (N.take k)) x (by omega)) rfl ?_
            | refine callq rfl Try.call43 (put_p (insOn o2 (N.take k)) x (by omega)) rfl ?_
            | refine callqe rfl Try.call43 (put_p (insOn o2 (N.take k)) x (by omega)) rfl ?_
          simp [hw2]
          exact ⟨k + 1, ⟨by rw [hit], by omega⟩, by omega, by omega⟩
        · have hkI : ¬ (k : Int) < (N.length : Int) := by omega
          obtain rfl : k = N.length := by omega
          simp [hkI, hw]
          exact ⟨i + 1, ⟨by rw [hend], by omega⟩, by omega, by omega⟩
  · have hI : ¬ (i : Int) < (F.code.length : Int) := by omega
    obtain rfl : i = F.code.length := by omega
    simp [hI, heq]
end Go.Sc.Fl
