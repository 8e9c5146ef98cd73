/- Chapter 04: lists read, by the program. No condition. -/
import Derived.Test.YtmgbloidhmjbfaaXCrA
set_option linter.constructorNameAsVariable false
namespace Go.Sc.Cw
open Go Go.RowKit Go.Av Go.Proofs Go.Sc.Oct
set_option linter.unusedSimpArgs false
set_option linter.unusedVariables false

/-- scarab/code.list[scarab/api.Var] -/
def c85 : ACode :=
  (.seq (.reg none [⟨some 6, none, .q (.mv (.c .nil))⟩])
  (.gst (.letT 6 2)
  (.keep [0, 1, 2]
  (.seq (.reg none [⟨some 9, none, .q (.mv (.t 0))⟩, ⟨some 10, none, .q (.mv (.t 1))⟩, ⟨some 11, none, .call (.f 119) [(.t 9), (.t 10), (.c (.i .i64 30))]⟩, ⟨some 7, none, .q (.mv (.t 11))⟩])
  (.keep [0, 2, 7]
  (.seq (.reg none [⟨some 8, none, .q (.mv (.c .nil))⟩])
  (.gst (.nilT 8 2)
  (.keep [0, 2, 7, 8]
  (.seq (.seq (.reg none [⟨some 12, none, .q (.mv (.t 7))⟩, ⟨some 13, none, .q (.mv (.c (.i .i64 0)))⟩])
    (.keep [0, 2, 8, 12, 13]
    (.blk 0 (.keep [0, 2, 8, 12, 13]
    (.loop (.fin [0, 2, 8, 12, 13]
      (.seq (.reg none [⟨some 14, none, .q (.bin .lss (.t 13) (.t 12))⟩])
      (.keep [0, 2, 8, 12, 13, 14]
      (.seq (.cond (.t 14) .skip
        (.exit 0))
      (.seq (.blk 1 (.seq (.seq (.reg none [⟨some 15, none, .q (.mv (.t 0))⟩, ⟨some 16, none, .q (.nck (.t 15))⟩, ⟨some 17, none, .q (.fa 2 (.t 16))⟩, ⟨some 18, none, .q (.ld none (.t 17))⟩, ⟨some 19, none, .q (.bin .neq (.t 18) (.c (.i .i64 0)))⟩])
          (.keep [0, 2, 8, 12, 13, 19]
          (.cond (.t 19) (.seq (.reg none [⟨some 6, none, .q (.mv (.c .nil))⟩])
            (.gst (.letT 6 2)
            .ret))
          .skip)))
        (.reg none [⟨some 20, none, .q (.mv (.t 8))⟩, ⟨some 21, none, .q (.mv (.t 2))⟩, ⟨some 22, none, .call (.t 21) []⟩, ⟨some 23, none, .m (.bsl 1 2 [(.b false), (.i .i64 0)] [(0, 2, .t 22)])⟩, ⟨some 24, none, .m (.app 2 16 (.t 20) (.t 23))⟩, ⟨some 8, none, .q (.mv (.t 24))⟩])))
      (.keep [0, 2, 8, 12, 13]
      (.reg none [⟨some 25, none, .q (.bin .add (.t 13) (.c (.i .i64 1)))⟩, ⟨some 13, none, .q (.mv (.t 25))⟩]))))))))))))
  (.seq (.reg none [⟨some 26, none, .q (.mv (.t 8))⟩, ⟨some 6, none, .q (.mv (.t 26))⟩])
  (.gst (.letT 6 2)
  .ret)))))))))))
theorem r85 : (Try.f85.body.bind (resC Try.prog Try.f85.ntmps)) = some (strip c85) := by kernel_rfl
theorem s85 : Try.f85.results.toList.mapM (resRes Try.prog) = some [.t 6] := by kernel_rfl
theorem list_Var {one : Nat} {p : Pr Var} (hc : ∀ vs w, (callFunc one vs).run Try.prog w = .ok (.enter one vs) w) (h : Rd Try.prog one [] (fun y : Var => .g y.row) p) (most : Nat) (hm : most ≤ 1000) :
    Rd Try.prog 85 [.v (.i .u64 (most : Int)), .bf one [.pt 0 0 0 0]] (fun l : List Var => .sl 2 (l.map Var.row)) (listP most p) := by
  intro bs s hs hb
  refine fun_cut 1 hmx Try.func85 r85 s85 (by rw [Try.ntmps85]; simp) (by first | exact Nat.le_refl _ | decide | simp) ?_
  unfold c85
  simp [rrow]
  refine callf [0] rfl Try.call119 (num_r most 30 (by decide) (by omega) bs s hs hb) (by decide) rfl (by simp) (by simp [rrow]) (by simp) ?_
  rintro _ _ ⟨n, s1, rfl, rfl, hst⟩
  simp [rrow]
  have hn : n ≤ most ∨ s1.e ≠ 0 := by
    by_cases he : s.e = 0
    · have := hst.2.2 he
      split at this
      · rename_i x k hx
        obtain ⟨rfl, _⟩ := this
        exact .inl (num_ok hx).1
      · exact .inr (by rw [this.1]; exact this.2.1)
    · exact .inr (by rw [(hst.2.1 he).1]; exact he)
  have hn0 : (n : Int) ≤ 0 ↔ n = 0 := by omega
  refine go_while hmx 2 (fun (t : Nat × Nat × List Var × St) => [(13, .v (.i .i64 (t.1 : Int))), (8, .os 1 t.2.1)]) (fun t => [.var (rrow bs t.2.2.2), .arr t.2.1 2 (vrows (t.2.2.1.map Var.row))])
    (fun t => t.1 ≤ n ∧ t.2.2.1.length = t.1 ∧ (t.2.2.2.e = 0 → n ≤ most) ∧ t.2.2.2.pos ≤ bs.length ∧ (t.2.2.2.e ≠ 0 → t.1 ≤ 1000) ∧ ∀ zs sf, Step bs (repP p (n - t.1)) t.2.2.2 zs sf → Step bs (repP p n) s1 (t.2.2.1 ++ zs) sf) (fun t => n - t.1) (0, 0, [], s1) rfl (by simp) (by simp [rrow, vrows]) (by simp) (by simp) (by simp [rrow]) ⟨by omega, rfl, fun he => hn.resolve_right (by simpa using he), hst.1, fun _ => by omega, fun zs sf h => by simpa using h⟩ ?_
  rintro ⟨i, v, acc, t⟩ ⟨hi, hl, hmo, hp, hbig, hk⟩
  simp only at hi hl hmo hp hbig hk
  by_cases hlt : i < n
  · have hlt' : (i : Int) < n := by omega
    have hge : ¬ (n : Int) ≤ i := by omega
    by_cases he : t.e = 0
    · have hmo := hmo he
      have hw : IntKind.i64.wrap ((i : Int) + 1) = (i : Int) + 1 := wrap_in (by omega) (by omega)
      simp [hlt', hge, he, rrow]
      refine callf [0] rfl hc (h bs t hp hb) (by decide) rfl (by simp) (by simp [rrow, he]) (by simp) ?_
      rintro _ _ ⟨y, t1, rfl, rfl, hst1⟩
      simp [rrow, Var.row]
      refine ⟨⟨by omega, by omega⟩, i + 1, v + 1, ⟨rfl, by simp [hw]⟩, acc ++ [y], t1, ⟨⟨rfl, rfl, rfl⟩, rfl, ?_⟩, ⟨by omega, by simp [hl], fun _ => hmo, hst1.1, fun _ => by omega, fun zs sf hz => ?_⟩, by omega⟩
      · simp [vrows, Var.row]
      · have := hk (y :: zs) sf (by
          rw [show n - i = (n - (i + 1)) + 1 by omega]
          exact hst1.bind (hz.map (f := fun ys => y :: ys)))
        simpa using this
    · simp [hlt', hge, he, rrow]
      have := hk [] t (.stay hp he [])
      exact ⟨[], t, rfl, rfl, hst.bind (this.junk he [])⟩
  · obtain rfl : i = n := by omega
    simp [rrow]
    have := hk [] t (by rw [Nat.sub_self]; exact .ret hp [])
    rw [List.append_nil] at this
    exact ⟨acc, t, rfl, rfl, hst.bind this⟩

/-- scarab/code.list[int] -/
def c88 : ACode :=
  (.seq (.reg none [⟨some 6, none, .q (.mv (.c .nil))⟩])
  (.gst (.letT 6 1)
  (.keep [0, 1, 2]
  (.seq (.reg none [⟨some 9, none, .q (.mv (.t 0))⟩, ⟨some 10, none, .q (.mv (.t 1))⟩, ⟨some 11, none, .call (.f 119) [(.t 9), (.t 10), (.c (.i .i64 30))]⟩, ⟨some 7, none, .q (.mv (.t 11))⟩])
  (.keep [0, 2, 7]
  (.seq (.reg none [⟨some 8, none, .q (.mv (.c .nil))⟩])
  (.gst (.nilT 8 1)
  (.keep [0, 2, 7, 8]
  (.seq (.seq (.reg none [⟨some 12, none, .q (.mv (.t 7))⟩, ⟨some 13, none, .q (.mv (.c (.i .i64 0)))⟩])
    (.keep [0, 2, 8, 12, 13]
    (.blk 0 (.keep [0, 2, 8, 12, 13]
    (.loop (.fin [0, 2, 8, 12, 13]
      (.seq (.reg none [⟨some 14, none, .q (.bin .lss (.t 13) (.t 12))⟩])
      (.keep [0, 2, 8, 12, 13, 14]
      (.seq (.cond (.t 14) .skip
        (.exit 0))
      (.seq (.blk 1 (.seq (.seq (.reg none [⟨some 15, none, .q (.mv (.t 0))⟩, ⟨some 16, none, .q (.nck (.t 15))⟩, ⟨some 17, none, .q (.fa 2 (.t 16))⟩, ⟨some 18, none, .q (.ld none (.t 17))⟩, ⟨some 19, none, .q (.bin .neq (.t 18) (.c (.i .i64 0)))⟩])
          (.keep [0, 2, 8, 12, 13, 19]
          (.cond (.t 19) (.seq (.reg none [⟨some 6, none, .q (.mv (.c .nil))⟩])
            (.gst (.letT 6 1)
            .ret))
          .skip)))
        (.reg none [⟨some 20, none, .q (.mv (.t 8))⟩, ⟨some 21, none, .q (.mv (.t 2))⟩, ⟨some 22, none, .call (.t 21) []⟩, ⟨some 23, none, .m (.bsl 1 1 [(.i .i64 0)] [(0, 1, .t 22)])⟩, ⟨some 24, none, .m (.app 1 8 (.t 20) (.t 23))⟩, ⟨some 8, none, .q (.mv (.t 24))⟩])))
      (.keep [0, 2, 8, 12, 13]
      (.reg none [⟨some 25, none, .q (.bin .add (.t 13) (.c (.i .i64 1)))⟩, ⟨some 13, none, .q (.mv (.t 25))⟩]))))))))))))
  (.seq (.reg none [⟨some 26, none, .q (.mv (.t 8))⟩, ⟨some 6, none, .q (.mv (.t 26))⟩])
  (.gst (.letT 6 1)
  .ret)))))))))))
theorem r88 : (Try.f88.body.bind (resC Try.prog Try.f88.ntmps)) = some (strip c88) := by kernel_rfl
theorem s88 : Try.f88.results.toList.mapM (resRes Try.prog) = some [.t 6] := by kernel_rfl
theorem list_Int {one : Nat} {p : Pr Int} (hc : ∀ vs w, (callFunc one vs).run Try.prog w = .ok (.enter one vs) w) (h : Rd Try.prog one [] (fun y : Int => .i .i64 y) p) (most : Nat) (hm : most ≤ 1000) :
    Rd Try.prog 88 [.v (.i .u64 (most : Int)), .bf one [.pt 0 0 0 0]] (fun l : List Int => .sl 1 (l.map irow)) (listP most p) := by
  intro bs s hs hb
  refine fun_cut 1 hmx Try.func88 r88 s88 (by rw [Try.ntmps88]; simp) (by first | exact Nat.le_refl _ | decide | simp) ?_
  unfold c88
  simp [rrow]
  refine callf [0] rfl Try.call119 (num_r most 30 (by decide) (by omega) bs s hs hb) (by decide) rfl (by simp) (by simp [rrow]) (by simp) ?_
  rintro _ _ ⟨n, s1, rfl, rfl, hst⟩
  simp [rrow]
  have hn : n ≤ most ∨ s1.e ≠ 0 := by
    by_cases he : s.e = 0
    · have := hst.2.2 he
      split at this
      · rename_i x k hx
        obtain ⟨rfl, _⟩ := this
        exact .inl (num_ok hx).1
      · exact .inr (by rw [this.1]; exact this.2.1)
    · exact .inr (by rw [(hst.2.1 he).1]; exact he)
  have hn0 : (n : Int) ≤ 0 ↔ n = 0 := by omega
  refine go_while hmx 2 (fun (t : Nat × Nat × List Int × St) => [(13, .v (.i .i64 (t.1 : Int))), (8, .os 1 t.2.1)]) (fun t => [.var (rrow bs t.2.2.2), .arr t.2.1 1 (vrows (t.2.2.1.map irow))])
    (fun t => t.1 ≤ n ∧ t.2.2.1.length = t.1 ∧ (t.2.2.2.e = 0 → n ≤ most) ∧ t.2.2.2.pos ≤ bs.length ∧ (t.2.2.2.e ≠ 0 → t.1 ≤ 1000) ∧ ∀ zs sf, Step bs (repP p (n - t.1)) t.2.2.2 zs sf → Step bs (repP p n) s1 (t.2.2.1 ++ zs) sf) (fun t => n - t.1) (0, 0, [], s1) rfl (by simp) (by simp [rrow, vrows]) (by simp) (by simp) (by simp [rrow]) ⟨by omega, rfl, fun he => hn.resolve_right (by simpa using he), hst.1, fun _ => by omega, fun zs sf h => by simpa using h⟩ ?_
  rintro ⟨i, v, acc, t⟩ ⟨hi, hl, hmo, hp, hbig, hk⟩
  simp only at hi hl hmo hp hbig hk
  by_cases hlt : i < n
  · have hlt' : (i : Int) < n := by omega
    have hge : ¬ (n : Int) ≤ i := by omega
    by_cases he : t.e = 0
    · have hmo := hmo he
      have hw : IntKind.i64.wrap ((i : Int) + 1) = (i : Int) + 1 := wrap_in (by omega) (by omega)
      simp [hlt', hge, he, rrow]
      refine callf [0] rfl hc (h bs t hp hb) (by decide) rfl (by simp) (by simp [rrow, he]) (by simp) ?_
      rintro _ _ ⟨y, t1, rfl, rfl, hst1⟩
      simp [rrow, irow]
      refine ⟨⟨by omega, by omega⟩, i + 1, v + 1, ⟨rfl, by simp [hw]⟩, acc ++ [y], t1, ⟨⟨rfl, rfl, rfl⟩, rfl, ?_⟩, ⟨by omega, by simp [hl], fun _ => hmo, hst1.1, fun _ => by omega, fun zs sf hz => ?_⟩, by omega⟩
      · simp [vrows, irow]
      · have := hk (y :: zs) sf (by
          rw [show n - i = (n - (i + 1)) + 1 by omega]
          exact hst1.bind (hz.map (f := fun ys => y :: ys)))
        simpa using this
    · simp [hlt', hge, he, rrow]
      have := hk [] t (.stay hp he [])
      exact ⟨[], t, rfl, rfl, hst.bind (this.junk he [])⟩
  · obtain rfl : i = n := by omega
    simp [rrow]
    have := hk [] t (by rw [Nat.sub_self]; exact .ret hp [])
    rw [List.append_nil] at this
    exact ⟨acc, t, rfl, rfl, hst.bind this⟩

/-- scarab/code.list[scarab/api.Case] -/
def c150 : ACode :=
  (.seq (.reg none [⟨some 6, none, .q (.mv (.c .nil))⟩])
  (.gst (.letT 6 4)
  (.keep [0, 1, 2]
  (.seq (.reg none [⟨some 9, none, .q (.mv (.t 0))⟩, ⟨some 10, none, .q (.mv (.t 1))⟩, ⟨some 11, none, .call (.f 119) [(.t 9), (.t 10), (.c (.i .i64 30))]⟩, ⟨some 7, none, .q (.mv (.t 11))⟩])
  (.keep [0, 2, 7]
  (.seq (.reg none [⟨some 8, none, .q (.mv (.c .nil))⟩])
  (.gst (.nilT 8 4)
  (.keep [0, 2, 7, 8]
  (.seq (.seq (.reg none [⟨some 12, none, .q (.mv (.t 7))⟩, ⟨some 13, none, .q (.mv (.c (.i .i64 0)))⟩])
    (.keep [0, 2, 8, 12, 13]
    (.blk 0 (.keep [0, 2, 8, 12, 13]
    (.loop (.fin [0, 2, 8, 12, 13]
      (.seq (.reg none [⟨some 14, none, .q (.bin .lss (.t 13) (.t 12))⟩])
      (.keep [0, 2, 8, 12, 13, 14]
      (.seq (.cond (.t 14) .skip
        (.exit 0))
      (.seq (.blk 1 (.seq (.seq (.reg none [⟨some 15, none, .q (.mv (.t 0))⟩, ⟨some 16, none, .q (.nck (.t 15))⟩, ⟨some 17, none, .q (.fa 2 (.t 16))⟩, ⟨some 18, none, .q (.ld none (.t 17))⟩, ⟨some 19, none, .q (.bin .neq (.t 18) (.c (.i .i64 0)))⟩])
          (.keep [0, 2, 8, 12, 13, 19]
          (.cond (.t 19) (.seq (.reg none [⟨some 6, none, .q (.mv (.c .nil))⟩])
            (.gst (.letT 6 4)
            .ret))
          .skip)))
        (.reg none [⟨some 20, none, .q (.mv (.t 8))⟩, ⟨some 21, none, .q (.mv (.t 2))⟩, ⟨some 22, none, .call (.t 21) []⟩, ⟨some 23, none, .m (.bsl 1 4 [(.b false), (.i .i64 0), (.i .i64 0), (.i .i64 0)] [(0, 4, .t 22)])⟩, ⟨some 24, none, .m (.app 4 32 (.t 20) (.t 23))⟩, ⟨some 8, none, .q (.mv (.t 24))⟩])))
      (.keep [0, 2, 8, 12, 13]
      (.reg none [⟨some 25, none, .q (.bin .add (.t 13) (.c (.i .i64 1)))⟩, ⟨some 13, none, .q (.mv (.t 25))⟩]))))))))))))
  (.seq (.reg none [⟨some 26, none, .q (.mv (.t 8))⟩, ⟨some 6, none, .q (.mv (.t 26))⟩])
  (.gst (.letT 6 4)
  .ret)))))))))))
theorem r150 : (Try.f150.body.bind (resC Try.prog Try.f150.ntmps)) = some (strip c150) := by kernel_rfl
theorem s150 : Try.f150.results.toList.mapM (resRes Try.prog) = some [.t 6] := by kernel_rfl
theorem list_Case {one : Nat} {p : Pr Case} (hc : ∀ vs w, (callFunc one vs).run Try.prog w = .ok (.enter one vs) w) (h : Rd Try.prog one [] (fun y : Case => .g y.row) p) (most : Nat) (hm : most ≤ 1000) :
    Rd Try.prog 150 [.v (.i .u64 (most : Int)), .bf one [.pt 0 0 0 0]] (fun l : List Case => .sl 4 (l.map Case.row)) (listP most p) := by
  intro bs s hs hb
  refine fun_cut 1 hmx Try.func150 r150 s150 (by rw [Try.ntmps150]; simp) (by first | exact Nat.le_refl _ | decide | simp) ?_
  unfold c150
  simp [rrow]
  refine callf [0] rfl Try.call119 (num_r most 30 (by decide) (by omega) bs s hs hb) (by decide) rfl (by simp) (by simp [rrow]) (by simp) ?_
  rintro _ _ ⟨n, s1, rfl, rfl, hst⟩
  simp [rrow]
  have hn : n ≤ most ∨ s1.e ≠ 0 := by
    by_cases he : s.e = 0
    · have := hst.2.2 he
      split at this
      · rename_i x k hx
        obtain ⟨rfl, _⟩ := this
        exact .inl (num_ok hx).1
      · exact .inr (by rw [this.1]; exact this.2.1)
    · exact .inr (by rw [(hst.2.1 he).1]; exact he)
  have hn0 : (n : Int) ≤ 0 ↔ n = 0 := by omega
  refine go_while hmx 2 (fun (t : Nat × Nat × List Case × St) => [(13, .v (.i .i64 (t.1 : Int))), (8, .os 1 t.2.1)]) (fun t => [.var (rrow bs t.2.2.2), .arr t.2.1 4 (vrows (t.2.2.1.map Case.row))])
    (fun t => t.1 ≤ n ∧ t.2.2.1.length = t.1 ∧ (t.2.2.2.e = 0 → n ≤ most) ∧ t.2.2.2.pos ≤ bs.length ∧ (t.2.2.2.e ≠ 0 → t.1 ≤ 1000) ∧ ∀ zs sf, Step bs (repP p (n - t.1)) t.2.2.2 zs sf → Step bs (repP p n) s1 (t.2.2.1 ++ zs) sf) (fun t => n - t.1) (0, 0, [], s1) rfl (by simp) (by simp [rrow, vrows]) (by simp) (by simp) (by simp [rrow]) ⟨by omega, rfl, fun he => hn.resolve_right (by simpa using he), hst.1, fun _ => by omega, fun zs sf h => by simpa using h⟩ ?_
  rintro ⟨i, v, acc, t⟩ ⟨hi, hl, hmo, hp, hbig, hk⟩
  simp only at hi hl hmo hp hbig hk
  by_cases hlt : i < n
  · have hlt' : (i : Int) < n := by omega
    have hge : ¬ (n : Int) ≤ i := by omega
    by_cases he : t.e = 0
    · have hmo := hmo he
      have hw : IntKind.i64.wrap ((i : Int) + 1) = (i : Int) + 1 := wrap_in (by omega) (by omega)
      simp [hlt', hge, he, rrow]
      refine callf [0] rfl hc (h bs t hp hb) (by decide) rfl (by simp) (by simp [rrow, he]) (by simp) ?_
      rintro _ _ ⟨y, t1, rfl, rfl, hst1⟩
      simp [rrow, Case.row]
      refine ⟨⟨by omega, by omega⟩, i + 1, v + 1, ⟨rfl, by simp [hw]⟩, acc ++ [y], t1, ⟨⟨rfl, rfl, rfl⟩, rfl, ?_⟩, ⟨by omega, by simp [hl], fun _ => hmo, hst1.1, fun _ => by omega, fun zs sf hz => ?_⟩, by omega⟩
      · simp [vrows, Case.row]
      · have := hk (y :: zs) sf (by
          rw [show n - i = (n - (i + 1)) + 1 by omega]
          exact hst1.bind (hz.map (f := fun ys => y :: ys)))
        simpa using this
    · simp [hlt', hge, he, rrow]
      have := hk [] t (.stay hp he [])
      exact ⟨[], t, rfl, rfl, hst.bind (this.junk he [])⟩
  · obtain rfl : i = n := by omega
    simp [rrow]
    have := hk [] t (by rw [Nat.sub_self]; exact .ret hp [])
    rw [List.append_nil] at this
    exact ⟨acc, t, rfl, rfl, hst.bind this⟩

/-- scarab/code.list[scarab/api.Select] -/
def c122 : ACode :=
  (.seq (.reg none [⟨some 6, none, .q (.mv (.c .nil))⟩])
  (.gst (.letT 6 2)
  (.keep [0, 1, 2]
  (.seq (.reg none [⟨some 9, none, .q (.mv (.t 0))⟩, ⟨some 10, none, .q (.mv (.t 1))⟩, ⟨some 11, none, .call (.f 119) [(.t 9), (.t 10), (.c (.i .i64 30))]⟩, ⟨some 7, none, .q (.mv (.t 11))⟩])
  (.keep [0, 2, 7]
  (.seq (.reg none [⟨some 8, none, .q (.mv (.c .nil))⟩])
  (.gst (.nilT 8 2)
  (.keep [0, 2, 7, 8]
  (.seq (.seq (.reg none [⟨some 12, none, .q (.mv (.t 7))⟩, ⟨some 13, none, .q (.mv (.c (.i .i64 0)))⟩])
    (.keep [0, 2, 8, 12, 13]
    (.blk 0 (.keep [0, 2, 8, 12, 13]
    (.loop (.fin [0, 2, 8, 12, 13]
      (.seq (.reg none [⟨some 14, none, .q (.bin .lss (.t 13) (.t 12))⟩])
      (.keep [0, 2, 8, 12, 13, 14]
      (.seq (.cond (.t 14) .skip
        (.exit 0))
      (.seq (.blk 1 (.seq (.seq (.reg none [⟨some 15, none, .q (.mv (.t 0))⟩, ⟨some 16, none, .q (.nck (.t 15))⟩, ⟨some 17, none, .q (.fa 2 (.t 16))⟩, ⟨some 18, none, .q (.ld none (.t 17))⟩, ⟨some 19, none, .q (.bin .neq (.t 18) (.c (.i .i64 0)))⟩])
          (.keep [0, 2, 8, 12, 13, 19]
          (.cond (.t 19) (.seq (.reg none [⟨some 6, none, .q (.mv (.c .nil))⟩])
            (.gst (.letT 6 2)
            .ret))
          .skip)))
        (.reg none [⟨some 20, none, .q (.mv (.t 8))⟩, ⟨some 21, none, .q (.mv (.t 2))⟩, ⟨some 22, none, .call (.t 21) []⟩, ⟨some 23, none, .m (.bsl 1 2 [.nil, (.i .i64 0)] [(0, 2, .t 22)])⟩, ⟨some 24, none, .m (.app 2 32 (.t 20) (.t 23))⟩, ⟨some 8, none, .q (.mv (.t 24))⟩])))
      (.keep [0, 2, 8, 12, 13]
      (.reg none [⟨some 25, none, .q (.bin .add (.t 13) (.c (.i .i64 1)))⟩, ⟨some 13, none, .q (.mv (.t 25))⟩]))))))))))))
  (.seq (.reg none [⟨some 26, none, .q (.mv (.t 8))⟩, ⟨some 6, none, .q (.mv (.t 26))⟩])
  (.gst (.letT 6 2)
  .ret)))))))))))
theorem r122 : (Try.f122.body.bind (resC Try.prog Try.f122.ntmps)) = some (strip c122) := by kernel_rfl
theorem s122 : Try.f122.results.toList.mapM (resRes Try.prog) = some [.t 6] := by kernel_rfl
theorem list_Select {one : Nat} {p : Pr Select} (hc : ∀ vs w, (callFunc one vs).run Try.prog w = .ok (.enter one vs) w) (h : Rd Try.prog one [] (fun y : Select => .g y.row) p) (most : Nat) (hm : most ≤ 1000) :
    Rd Try.prog 122 [.v (.i .u64 (most : Int)), .bf one [.pt 0 0 0 0]] (fun l : List Select => .sl 2 (l.map Select.row)) (listP most p) := by
  intro bs s hs hb
  refine fun_cut 1 hmx Try.func122 r122 s122 (by rw [Try.ntmps122]; simp) (by first | exact Nat.le_refl _ | decide | simp) ?_
  unfold c122
  simp [rrow]
  refine callf [0] rfl Try.call119 (num_r most 30 (by decide) (by omega) bs s hs hb) (by decide) rfl (by simp) (by simp [rrow]) (by simp) ?_
  rintro _ _ ⟨n, s1, rfl, rfl, hst⟩
  simp [rrow]
  have hn : n ≤ most ∨ s1.e ≠ 0 := by
    by_cases he : s.e = 0
    · have := hst.2.2 he
      split at this
      · rename_i x k hx
        obtain ⟨rfl, _⟩ := this
        exact .inl (num_ok hx).1
      · exact .inr (by rw [this.1]; exact this.2.1)
    · exact .inr (by rw [(hst.2.1 he).1]; exact he)
  have hn0 : (n : Int) ≤ 0 ↔ n = 0 := by omega
  refine go_while hmx 2 (fun (t : Nat × Nat × List Select × St) => [(13, .v (.i .i64 (t.1 : Int))), (8, .os 1 t.2.1)]) (fun t => [.var (rrow bs t.2.2.2), .arr t.2.1 2 (vrows (t.2.2.1.map Select.row))])
    (fun t => t.1 ≤ n ∧ t.2.2.1.length = t.1 ∧ (t.2.2.2.e = 0 → n ≤ most) ∧ t.2.2.2.pos ≤ bs.length ∧ (t.2.2.2.e ≠ 0 → t.1 ≤ 1000) ∧ ∀ zs sf, Step bs (repP p (n - t.1)) t.2.2.2 zs sf → Step bs (repP p n) s1 (t.2.2.1 ++ zs) sf) (fun t => n - t.1) (0, 0, [], s1) rfl (by simp) (by simp [rrow, vrows]) (by simp) (by simp) (by simp [rrow]) ⟨by omega, rfl, fun he => hn.resolve_right (by simpa using he), hst.1, fun _ => by omega, fun zs sf h => by simpa using h⟩ ?_
  rintro ⟨i, v, acc, t⟩ ⟨hi, hl, hmo, hp, hbig, hk⟩
  simp only at hi hl hmo hp hbig hk
  by_cases hlt : i < n
  · have hlt' : (i : Int) < n := by omega
    have hge : ¬ (n : Int) ≤ i := by omega
    by_cases he : t.e = 0
    · have hmo := hmo he
      have hw : IntKind.i64.wrap ((i : Int) + 1) = (i : Int) + 1 := wrap_in (by omega) (by omega)
      simp [hlt', hge, he, rrow]
      refine callf [0] rfl hc (h bs t hp hb) (by decide) rfl (by simp) (by simp [rrow, he]) (by simp) ?_
      rintro _ _ ⟨y, t1, rfl, rfl, hst1⟩
      simp [rrow, Select.row]
      refine ⟨⟨by omega, by omega⟩, i + 1, v + 1, ⟨rfl, by simp [hw]⟩, acc ++ [y], t1, ⟨⟨rfl, rfl, rfl⟩, rfl, ?_⟩, ⟨by omega, by simp [hl], fun _ => hmo, hst1.1, fun _ => by omega, fun zs sf hz => ?_⟩, by omega⟩
      · simp [vrows, Select.row]
      · have := hk (y :: zs) sf (by
          rw [show n - i = (n - (i + 1)) + 1 by omega]
          exact hst1.bind (hz.map (f := fun ys => y :: ys)))
        simpa using this
    · simp [hlt', hge, he, rrow]
      have := hk [] t (.stay hp he [])
      exact ⟨[], t, rfl, rfl, hst.bind (this.junk he [])⟩
  · obtain rfl : i = n := by omega
    simp [rrow]
    have := hk [] t (by rw [Nat.sub_self]; exact .ret hp [])
    rw [List.append_nil] at this
    exact ⟨acc, t, rfl, rfl, hst.bind this⟩

/-- scarab/code.list[scarab/api.Instr] -/
def c124 : ACode :=
  (.seq (.reg none [⟨some 6, none, .q (.mv (.c .nil))⟩])
  (.gst (.letT 6 5)
  (.keep [0, 1, 2]
  (.seq (.reg none [⟨some 9, none, .q (.mv (.t 0))⟩, ⟨some 10, none, .q (.mv (.t 1))⟩, ⟨some 11, none, .call (.f 119) [(.t 9), (.t 10), (.c (.i .i64 30))]⟩, ⟨some 7, none, .q (.mv (.t 11))⟩])
  (.keep [0, 2, 7]
  (.seq (.reg none [⟨some 8, none, .q (.mv (.c .nil))⟩])
  (.gst (.nilT 8 5)
  (.keep [0, 2, 7, 8]
  (.seq (.seq (.reg none [⟨some 12, none, .q (.mv (.t 7))⟩, ⟨some 13, none, .q (.mv (.c (.i .i64 0)))⟩])
    (.keep [0, 2, 8, 12, 13]
    (.blk 0 (.keep [0, 2, 8, 12, 13]
    (.loop (.fin [0, 2, 8, 12, 13]
      (.seq (.reg none [⟨some 14, none, .q (.bin .lss (.t 13) (.t 12))⟩])
      (.keep [0, 2, 8, 12, 13, 14]
      (.seq (.cond (.t 14) .skip
        (.exit 0))
      (.seq (.blk 1 (.seq (.seq (.reg none [⟨some 15, none, .q (.mv (.t 0))⟩, ⟨some 16, none, .q (.nck (.t 15))⟩, ⟨some 17, none, .q (.fa 2 (.t 16))⟩, ⟨some 18, none, .q (.ld none (.t 17))⟩, ⟨some 19, none, .q (.bin .neq (.t 18) (.c (.i .i64 0)))⟩])
          (.keep [0, 2, 8, 12, 13, 19]
          (.cond (.t 19) (.seq (.reg none [⟨some 6, none, .q (.mv (.c .nil))⟩])
            (.gst (.letT 6 5)
            .ret))
          .skip)))
        (.reg none [⟨some 20, none, .q (.mv (.t 8))⟩, ⟨some 21, none, .q (.mv (.t 2))⟩, ⟨some 22, none, .call (.t 21) []⟩, ⟨some 23, none, .m (.bsl 1 5 [(.i .i64 0), (.i .i64 0), (.i .i64 0), (.i .i64 0), (.i .i64 0)] [(0, 5, .t 22)])⟩, ⟨some 24, none, .m (.app 5 40 (.t 20) (.t 23))⟩, ⟨some 8, none, .q (.mv (.t 24))⟩])))
      (.keep [0, 2, 8, 12, 13]
      (.reg none [⟨some 25, none, .q (.bin .add (.t 13) (.c (.i .i64 1)))⟩, ⟨some 13, none, .q (.mv (.t 25))⟩]))))))))))))
  (.seq (.reg none [⟨some 26, none, .q (.mv (.t 8))⟩, ⟨some 6, none, .q (.mv (.t 26))⟩])
  (.gst (.letT 6 5)
  .ret)))))))))))
theorem r124 : (Try.f124.body.bind (resC Try.prog Try.f124.ntmps)) = some (strip c124) := by kernel_rfl
theorem s124 : Try.f124.results.toList.mapM (resRes Try.prog) = some [.t 6] := by kernel_rfl
theorem list_Instr {one : Nat} {p : Pr Instr} (hc : ∀ vs w, (callFunc one vs).run Try.prog w = .ok (.enter one vs) w) (h : Rd Try.prog one [] (fun y : Instr => .g y.row) p) (most : Nat) (hm : most ≤ 1000) :
    Rd Try.prog 124 [.v (.i .u64 (most : Int)), .bf one [.pt 0 0 0 0]] (fun l : List Instr => .sl 5 (l.map Instr.row)) (listP most p) := by
  intro bs s hs hb
  refine fun_cut 1 hmx Try.func124 r124 s124 (by rw [Try.ntmps124]; simp) (by first | exact Nat.le_refl _ | decide | simp) ?_
  unfold c124
  simp [rrow]
  refine callf [0] rfl Try.call119 (num_r most 30 (by decide) (by omega) bs s hs hb) (by decide) rfl (by simp) (by simp [rrow]) (by simp) ?_
  rintro _ _ ⟨n, s1, rfl, rfl, hst⟩
  simp [rrow]
  have hn : n ≤ most ∨ s1.e ≠ 0 := by
    by_cases he : s.e = 0
    · have := hst.2.2 he
      split at this
      · rename_i x k hx
        obtain ⟨rfl, _⟩ := this
        exact .inl (num_ok hx).1
      · exact .inr (by rw [this.1]; exact this.2.1)
    · exact .inr (by rw [(hst.2.1 he).1]; exact he)
  have hn0 : (n : Int) ≤ 0 ↔ n = 0 := by omega
  refine go_while hmx 2 (fun (t : Nat × Nat × List Instr × St) => [(13, .v (.i .i64 (t.1 : Int))), (8, .os 1 t.2.1)]) (fun t => [.var (rrow bs t.2.2.2), .arr t.2.1 5 (vrows (t.2.2.1.map Instr.row))])
    (fun t => t.1 ≤ n ∧ t.2.2.1.length = t.1 ∧ (t.2.2.2.e = 0 → n ≤ most) ∧ t.2.2.2.pos ≤ bs.length ∧ (t.2.2.2.e ≠ 0 → t.1 ≤ 1000) ∧ ∀ zs sf, Step bs (repP p (n - t.1)) t.2.2.2 zs sf → Step bs (repP p n) s1 (t.2.2.1 ++ zs) sf) (fun t => n - t.1) (0, 0, [], s1) rfl (by simp) (by simp [rrow, vrows]) (by simp) (by simp) (by simp [rrow]) ⟨by omega, rfl, fun he => hn.resolve_right (by simpa using he), hst.1, fun _ => by omega, fun zs sf h => by simpa using h⟩ ?_
  rintro ⟨i, v, acc, t⟩ ⟨hi, hl, hmo, hp, hbig, hk⟩
  simp only at hi hl hmo hp hbig hk
  by_cases hlt : i < n
  · have hlt' : (i : Int) < n := by omega
    have hge : ¬ (n : Int) ≤ i := by omega
    by_cases he : t.e = 0
    · have hmo := hmo he
      have hw : IntKind.i64.wrap ((i : Int) + 1) = (i : Int) + 1 := wrap_in (by omega) (by omega)
      simp [hlt', hge, he, rrow]
      refine callf [0] rfl hc (h bs t hp hb) (by decide) rfl (by simp) (by simp [rrow, he]) (by simp) ?_
      rintro _ _ ⟨y, t1, rfl, rfl, hst1⟩
      simp [rrow, Instr.row]
      refine ⟨⟨by omega, by omega⟩, i + 1, v + 1, ⟨rfl, by simp [hw]⟩, acc ++ [y], t1, ⟨⟨rfl, rfl, rfl⟩, rfl, ?_⟩, ⟨by omega, by simp [hl], fun _ => hmo, hst1.1, fun _ => by omega, fun zs sf hz => ?_⟩, by omega⟩
      · simp [vrows, Instr.row]
      · have := hk (y :: zs) sf (by
          rw [show n - i = (n - (i + 1)) + 1 by omega]
          exact hst1.bind (hz.map (f := fun ys => y :: ys)))
        simpa using this
    · simp [hlt', hge, he, rrow]
      have := hk [] t (.stay hp he [])
      exact ⟨[], t, rfl, rfl, hst.bind (this.junk he [])⟩
  · obtain rfl : i = n := by omega
    simp [rrow]
    have := hk [] t (by rw [Nat.sub_self]; exact .ret hp [])
    rw [List.append_nil] at this
    exact ⟨acc, t, rfl, rfl, hst.bind this⟩

/-- scarab/code.list[scarab/api.Func] -/
def c89 : ACode :=
  (.seq (.reg none [⟨some 6, none, .q (.mv (.c .nil))⟩])
  (.gst (.letT 6 4)
  (.keep [0, 1, 2]
  (.seq (.reg none [⟨some 9, none, .q (.mv (.t 0))⟩, ⟨some 10, none, .q (.mv (.t 1))⟩, ⟨some 11, none, .call (.f 119) [(.t 9), (.t 10), (.c (.i .i64 30))]⟩, ⟨some 7, none, .q (.mv (.t 11))⟩])
  (.keep [0, 2, 7]
  (.seq (.reg none [⟨some 8, none, .q (.mv (.c .nil))⟩])
  (.gst (.nilT 8 4)
  (.keep [0, 2, 7, 8]
  (.seq (.seq (.reg none [⟨some 12, none, .q (.mv (.t 7))⟩, ⟨some 13, none, .q (.mv (.c (.i .i64 0)))⟩])
    (.keep [0, 2, 8, 12, 13]
    (.blk 0 (.keep [0, 2, 8, 12, 13]
    (.loop (.fin [0, 2, 8, 12, 13]
      (.seq (.reg none [⟨some 14, none, .q (.bin .lss (.t 13) (.t 12))⟩])
      (.keep [0, 2, 8, 12, 13, 14]
      (.seq (.cond (.t 14) .skip
        (.exit 0))
      (.seq (.blk 1 (.seq (.seq (.reg none [⟨some 15, none, .q (.mv (.t 0))⟩, ⟨some 16, none, .q (.nck (.t 15))⟩, ⟨some 17, none, .q (.fa 2 (.t 16))⟩, ⟨some 18, none, .q (.ld none (.t 17))⟩, ⟨some 19, none, .q (.bin .neq (.t 18) (.c (.i .i64 0)))⟩])
          (.keep [0, 2, 8, 12, 13, 19]
          (.cond (.t 19) (.seq (.reg none [⟨some 6, none, .q (.mv (.c .nil))⟩])
            (.gst (.letT 6 4)
            .ret))
          .skip)))
        (.reg none [⟨some 20, none, .q (.mv (.t 8))⟩, ⟨some 21, none, .q (.mv (.t 2))⟩, ⟨some 22, none, .call (.t 21) []⟩, ⟨some 23, none, .m (.bsl 1 4 [(.i .i64 0), (.i .i64 0), .nil, .nil] [(0, 4, .t 22)])⟩, ⟨some 24, none, .m (.app 4 64 (.t 20) (.t 23))⟩, ⟨some 8, none, .q (.mv (.t 24))⟩])))
      (.keep [0, 2, 8, 12, 13]
      (.reg none [⟨some 25, none, .q (.bin .add (.t 13) (.c (.i .i64 1)))⟩, ⟨some 13, none, .q (.mv (.t 25))⟩]))))))))))))
  (.seq (.reg none [⟨some 26, none, .q (.mv (.t 8))⟩, ⟨some 6, none, .q (.mv (.t 26))⟩])
  (.gst (.letT 6 4)
  .ret)))))))))))
theorem r89 : (Try.f89.body.bind (resC Try.prog Try.f89.ntmps)) = some (strip c89) := by kernel_rfl
theorem s89 : Try.f89.results.toList.mapM (resRes Try.prog) = some [.t 6] := by kernel_rfl
theorem list_Func {one : Nat} {p : Pr Func} (hc : ∀ vs w, (callFunc one vs).run Try.prog w = .ok (.enter one vs) w) (h : Rd Try.prog one [] (fun y : Func => .g y.row) p) (most : Nat) (hm : most ≤ 1000) :
    Rd Try.prog 89 [.v (.i .u64 (most : Int)), .bf one [.pt 0 0 0 0]] (fun l : List Func => .sl 4 (l.map Func.row)) (listP most p) := by
  intro bs s hs hb
  refine fun_cut 1 hmx Try.func89 r89 s89 (by rw [Try.ntmps89]; simp) (by first | exact Nat.le_refl _ | decide | simp) ?_
  unfold c89
  simp [rrow]
  refine callf [0] rfl Try.call119 (num_r most 30 (by decide) (by omega) bs s hs hb) (by decide) rfl (by simp) (by simp [rrow]) (by simp) ?_
  rintro _ _ ⟨n, s1, rfl, rfl, hst⟩
  simp [rrow]
  have hn : n ≤ most ∨ s1.e ≠ 0 := by
    by_cases he : s.e = 0
    · have := hst.2.2 he
      split at this
      · rename_i x k hx
        obtain ⟨rfl, _⟩ := this
        exact .inl (num_ok hx).1
      · exact .inr (by rw [this.1]; exact this.2.1)
    · exact .inr (by rw [(hst.2.1 he).1]; exact he)
  have hn0 : (n : Int) ≤ 0 ↔ n = 0 := by omega
  refine go_while hmx 2 (fun (t : Nat × Nat × List Func × St) => [(13, .v (.i .i64 (t.1 : Int))), (8, .os 1 t.2.1)]) (fun t => [.var (rrow bs t.2.2.2), .arr t.2.1 4 (vrows (t.2.2.1.map Func.row))])
    (fun t => t.1 ≤ n ∧ t.2.2.1.length = t.1 ∧ (t.2.2.2.e = 0 → n ≤ most) ∧ t.2.2.2.pos ≤ bs.length ∧ (t.2.2.2.e ≠ 0 → t.1 ≤ 1000) ∧ ∀ zs sf, Step bs (repP p (n - t.1)) t.2.2.2 zs sf → Step bs (repP p n) s1 (t.2.2.1 ++ zs) sf) (fun t => n - t.1) (0, 0, [], s1) rfl (by simp) (by simp [rrow, vrows]) (by simp) (by simp) (by simp [rrow]) ⟨by omega, rfl, fun he => hn.resolve_right (by simpa using he), hst.1, fun _ => by omega, fun zs sf h => by simpa using h⟩ ?_
  rintro ⟨i, v, acc, t⟩ ⟨hi, hl, hmo, hp, hbig, hk⟩
  simp only at hi hl hmo hp hbig hk
  by_cases hlt : i < n
  · have hlt' : (i : Int) < n := by omega
    have hge : ¬ (n : Int) ≤ i := by omega
    by_cases he : t.e = 0
    · have hmo := hmo he
      have hw : IntKind.i64.wrap ((i : Int) + 1) = (i : Int) + 1 := wrap_in (by omega) (by omega)
      simp [hlt', hge, he, rrow]
      refine callf [0] rfl hc (h bs t hp hb) (by decide) rfl (by simp) (by simp [rrow, he]) (by simp) ?_
      rintro _ _ ⟨y, t1, rfl, rfl, hst1⟩
      simp [rrow, Func.row]
      refine ⟨⟨by omega, by omega⟩, i + 1, v + 1, ⟨rfl, by simp [hw]⟩, acc ++ [y], t1, ⟨⟨rfl, rfl, rfl⟩, rfl, ?_⟩, ⟨by omega, by simp [hl], fun _ => hmo, hst1.1, fun _ => by omega, fun zs sf hz => ?_⟩, by omega⟩
      · simp [vrows, Func.row]
      · have := hk (y :: zs) sf (by
          rw [show n - i = (n - (i + 1)) + 1 by omega]
          exact hst1.bind (hz.map (f := fun ys => y :: ys)))
        simpa using this
    · simp [hlt', hge, he, rrow]
      have := hk [] t (.stay hp he [])
      exact ⟨[], t, rfl, rfl, hst.bind (this.junk he [])⟩
  · obtain rfl : i = n := by omega
    simp [rrow]
    have := hk [] t (by rw [Nat.sub_self]; exact .ret hp [])
    rw [List.append_nil] at this
    exact ⟨acc, t, rfl, rfl, hst.bind this⟩
end Go.Sc.Cw
