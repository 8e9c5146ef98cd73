/- Chapter 12: what every statement asks first. No condition. -/
import Derived.Test.YtgipkikbefnokaaXOrI
import Derived.Test.YtgipkikbefnokaaXOrK
import Derived.Test.YtgipkikbefnokaaXEvt
set_option linter.constructorNameAsVariable false
namespace Go.Sc.Or
open Go Go.RowKit Go.Av Go.Proofs Go.Sc Go.Sort
set_option linter.unusedSimpArgs false
set_option linter.unusedVariables false
def c59 : ACode :=
  (.seq (.reg none [⟨some 4, none, .m (.alloc (.g [(.i .i64 0), (.i .i64 0), (.i .i64 0), (.i .i64 0), (.i .i64 0), (.i .i64 0), (.i .i64 0), (.i .i64 0), (.i .i64 0), (.b false), (.i .i64 0), (.i .i64 0), (.b false), (.i .i64 0), (.i .i64 0), (.b false), (.i .i64 0), (.i .i64 0), (.b false), (.i .i64 0), (.i .i64 0), (.b false), (.i .i64 0), (.i .i64 0), (.b false), (.i .i64 0)]))⟩])
  (.keep [0, 1, 4]
  (.seq (.reg none [⟨some 6, none, .q (.mv (.t 0))⟩, ⟨some 7, none, .q (.bld [(.i .i64 0), (.i .i64 0), (.i .i64 0), (.i .i64 0), (.i .i64 0), (.i .i64 0), (.i .i64 0), (.i .i64 0), (.i .i64 0), (.b false), (.i .i64 0), (.i .i64 0), (.b false), (.i .i64 0), (.i .i64 0), (.b false), (.i .i64 0), (.i .i64 0), (.b false), (.i .i64 0), (.i .i64 0), (.b false), (.i .i64 0), (.i .i64 0), (.b false), (.i .i64 0)] [(0, 1, .t 6), (3, 1, .c (.i .i64 51)), (25, 1, .c (.i .i64 2))])⟩, ⟨some 5, none, .m (.alloc (.g [(.i .i64 0), (.i .i64 0), (.i .i64 0), (.i .i64 0), (.i .i64 0), (.i .i64 0), (.i .i64 0), (.i .i64 0), (.i .i64 0), (.b false), (.i .i64 0), (.i .i64 0), (.b false), (.i .i64 0), (.i .i64 0), (.b false), (.i .i64 0), (.i .i64 0), (.b false), (.i .i64 0), (.i .i64 0), (.b false), (.i .i64 0), (.i .i64 0), (.b false), (.i .i64 0)]))⟩, ⟨none, none, .m (.st 26 (.t 5) (.t 7))⟩])
  (.keep [0, 1, 4, 5]
  (.seq (.reg none [⟨some 8, none, .q (.mv (.t 1))⟩, ⟨some 9, none, .q (.bld [(.i .i64 0), (.i .i64 0), (.b false)] [(0, 1, .c (.i .i64 1)), (1, 1, .t 8), (2, 1, .c (.b true))])⟩, ⟨some 10, none, .q (.fa 7 (.t 5))⟩, ⟨some 11, none, .q (.iaa 6 3 (.t 10) (.c (.i .i64 0)))⟩, ⟨none, none, .m (.st 3 (.t 11) (.t 9))⟩])
  (.keep [0, 4, 5]
  (.seq (.reg none [⟨some 12, none, .q (.mv (.t 0))⟩, ⟨some 13, none, .q (.bld [(.i .i64 0), (.i .i64 0), (.b false)] [(0, 1, .c (.i .i64 5)), (1, 1, .t 12), (2, 1, .c (.b true))])⟩, ⟨some 14, none, .q (.fa 7 (.t 5))⟩, ⟨some 15, none, .q (.iaa 6 3 (.t 14) (.c (.i .i64 1)))⟩, ⟨none, none, .m (.st 3 (.t 15) (.t 13))⟩])
  (.keep [4, 5]
  (.seq (.reg none [⟨some 16, none, .q (.ld (some 26) (.t 5))⟩, ⟨none, none, .m (.st 26 (.t 4) (.t 16))⟩])
  .ret)))))))))
theorem r59 : (Try.f59.body.bind (resC Try.prog Try.f59.ntmps)) = some (strip c59) := by kernel_rfl
theorem s59 : Try.f59.results.toList.mapM (resRes Try.prog) = some [.c 4 (some 26)] := by kernel_rfl
def c20 : ACode :=
  (.seq (.reg none [⟨some 0, none, .q (.mv (.c (.b false)))⟩])
  (.keep []
  (.seq (.reg none [⟨some 8, none, .call (.f 59) [(.c (.i .i64 0)), (.c (.i .i64 0))]⟩, ⟨some 9, none, .call (.f 59) [(.c (.i .i64 1)), (.c (.i .i64 1))]⟩, ⟨some 10, none, .call (.f 59) [(.c (.i .i64 0)), (.c (.i .i64 1))]⟩, ⟨some 11, none, .m (.bsl 3 26 [(.i .i64 0), (.i .i64 0), (.i .i64 0), (.i .i64 0), (.i .i64 0), (.i .i64 0), (.i .i64 0), (.i .i64 0), (.i .i64 0), (.b false), (.i .i64 0), (.i .i64 0), (.b false), (.i .i64 0), (.i .i64 0), (.b false), (.i .i64 0), (.i .i64 0), (.b false), (.i .i64 0), (.i .i64 0), (.b false), (.i .i64 0), (.i .i64 0), (.b false), (.i .i64 0)] [(0, 26, .t 8), (26, 26, .t 9), (52, 26, .t 10)])⟩, ⟨some 1, none, .q (.mv (.t 11))⟩])
  (.keep [1]
  (.seq (.gst (.letT 1 26)
    (.reg none [⟨some 13, none, .q (.mv (.t 1))⟩, ⟨some 14, none, .call (.f 21) [(.t 13)]⟩, ⟨some 12, none, .q (.mv (.t 14))⟩, ⟨some 15, none, .q (.ext 0 (.t 12))⟩, ⟨some 16, none, .q (.ext 1 (.t 12))⟩, ⟨some 2, none, .q (.mv (.t 15))⟩, ⟨some 3, none, .q (.mv (.t 16))⟩]))
  (.keep [1, 2, 3]
  (.seq (.reg none [⟨some 18, none, .q (.mv (.t 1))⟩, ⟨some 19, none, .call (.f 23) [(.t 18), (.c (.i .i64 0)), (.c (.i .i64 1))]⟩, ⟨some 17, none, .q (.mv (.t 19))⟩, ⟨some 20, none, .q (.ext 0 (.t 17))⟩, ⟨some 21, none, .q (.ext 1 (.t 17))⟩, ⟨some 4, none, .q (.mv (.t 20))⟩, ⟨some 5, none, .q (.mv (.t 21))⟩])
  (.keep [1, 2, 3, 4, 5]
  (.seq (.reg none [⟨some 23, none, .q (.mv (.t 1))⟩, ⟨some 24, none, .call (.f 24) [(.t 23)]⟩, ⟨some 22, none, .q (.mv (.t 24))⟩, ⟨some 25, none, .q (.ext 0 (.t 22))⟩, ⟨some 26, none, .q (.ext 1 (.t 22))⟩, ⟨some 6, none, .q (.mv (.t 25))⟩, ⟨some 7, none, .q (.mv (.t 26))⟩])
  (.keep [2, 3, 4, 5, 6, 7]
  (.seq (.reg none [⟨some 27, none, .q (.mv (.t 3))⟩, ⟨some 28, none, .q (.bin .eql (.t 27) (.c (.i .i64 0)))⟩, ⟨some 29, none, .q (.mv (.t 28))⟩, ⟨some 30, some (29, true), .q (.mv (.t 2))⟩, ⟨some 31, some (29, true), .q (.len false (.t 30))⟩, ⟨some 32, some (29, true), .q (.bin .eql (.t 31) (.c (.i .i64 2)))⟩, ⟨some 33, none, .pk (.t 29) (.t 32) (.c (.b false))⟩, ⟨some 34, none, .q (.mv (.t 33))⟩, ⟨some 35, some (34, true), .q (.mv (.t 2))⟩, ⟨some 36, some (34, true), .q (.ias 2 (.t 35) (.c (.i .i64 0)))⟩, ⟨some 37, some (34, true), .q (.ld (some 2) (.t 36))⟩, ⟨some 38, some (34, true), .q (.bld [(.i .i64 0), (.i .i64 0)] [(0, 1, .c (.i .i64 0)), (1, 1, .c (.i .i64 2))])⟩, ⟨some 39, some (34, true), .q (.eqg false [.i, .i] (.t 37) (.t 38))⟩, ⟨some 40, none, .pk (.t 34) (.t 39) (.c (.b false))⟩, ⟨some 41, none, .q (.mv (.t 40))⟩, ⟨some 42, some (41, true), .q (.mv (.t 2))⟩, ⟨some 43, some (41, true), .q (.ias 2 (.t 42) (.c (.i .i64 1)))⟩, ⟨some 44, some (41, true), .q (.ld (some 2) (.t 43))⟩, ⟨some 45, some (41, true), .q (.bld [(.i .i64 0), (.i .i64 0)] [(0, 1, .c (.i .i64 1)), (1, 1, .c (.i .i64 2))])⟩, ⟨some 46, some (41, true), .q (.eqg false [.i, .i] (.t 44) (.t 45))⟩, ⟨some 47, none, .pk (.t 41) (.t 46) (.c (.b false))⟩, ⟨some 48, none, .q (.mv (.t 47))⟩, ⟨some 49, some (48, true), .q (.mv (.t 4))⟩, ⟨some 50, some (48, true), .q (.un .not (.t 49))⟩, ⟨some 51, none, .pk (.t 48) (.t 50) (.c (.b false))⟩, ⟨some 52, none, .q (.mv (.t 51))⟩, ⟨some 53, some (52, true), .q (.mv (.t 5))⟩, ⟨some 54, some (52, true), .q (.bin .eql (.t 53) (.c (.i .i64 0)))⟩, ⟨some 55, none, .pk (.t 52) (.t 54) (.c (.b false))⟩, ⟨some 56, none, .q (.mv (.t 55))⟩, ⟨some 57, some (56, true), .q (.mv (.t 6))⟩, ⟨some 58, some (56, true), .q (.bin .eql (.t 57) (.c (.i .i64 2)))⟩, ⟨some 59, none, .pk (.t 56) (.t 58) (.c (.b false))⟩, ⟨some 60, none, .q (.mv (.t 59))⟩, ⟨some 61, some (60, true), .q (.mv (.t 7))⟩, ⟨some 62, some (60, true), .q (.bin .eql (.t 61) (.c (.i .i64 0)))⟩, ⟨some 63, none, .pk (.t 60) (.t 62) (.c (.b false))⟩, ⟨some 0, none, .q (.mv (.t 63))⟩])
  .ret)))))))))))
theorem r20 : (Try.f20.body.bind (resC Try.prog Try.f20.ntmps)) = some (strip c20) := by kernel_rfl
theorem s20 : Try.f20.results.toList.mapM (resRes Try.prog) = some [.t 0] := by kernel_rfl
def c26 : ACode :=
  (.seq (.reg none [⟨some 4, none, .q (.mv (.c (.b false)))⟩])
  (.keep [0, 1]
  (.seq (.reg none [⟨some 5, none, .q (.mv (.t 1))⟩, ⟨some 6, none, .q (.bin .geq (.t 5) (.c (.i .i64 0)))⟩, ⟨some 7, none, .q (.mv (.t 6))⟩, ⟨some 8, some (7, true), .q (.mv (.t 1))⟩, ⟨some 9, some (7, true), .q (.mv (.t 0))⟩, ⟨some 10, some (7, true), .q (.len false (.t 9))⟩, ⟨some 11, some (7, true), .q (.bin .lss (.t 8) (.t 10))⟩, ⟨some 12, none, .pk (.t 7) (.t 11) (.c (.b false))⟩, ⟨some 4, none, .q (.mv (.t 12))⟩])
  .ret)))
theorem r26 : (Try.f26.body.bind (resC Try.prog Try.f26.ntmps)) = some (strip c26) := by kernel_rfl
theorem s26 : Try.f26.results.toList.mapM (resRes Try.prog) = some [.t 4] := by kernel_rfl
def c31 : ACode :=
  (.seq (.reg none [⟨some 4, none, .q (.mv (.c (.b false)))⟩])
  (.keep [0, 1]
  (.seq (.seq (.reg none [⟨some 6, none, .q (.mv (.t 0))⟩, ⟨some 7, none, .q (.len false (.t 6))⟩, ⟨some 8, none, .q (.mv (.t 1))⟩, ⟨some 9, none, .q (.len false (.t 8))⟩, ⟨some 10, none, .q (.bin .neq (.t 7) (.t 9))⟩])
    (.keep [0, 1, 10]
    (.cond (.t 10) (.seq (.reg none [⟨some 4, none, .q (.mv (.c (.b false)))⟩])
      .ret)
    .skip)))
  (.seq (.seq (.reg none [⟨some 11, none, .q (.mv (.t 0))⟩, ⟨some 12, none, .q (.len false (.t 11))⟩, ⟨some 13, none, .q (.mv (.c (.i .i64 0)))⟩])
    (.keep [0, 1, 12, 13]
    (.blk 0 (.keep [0, 1, 12, 13]
    (.loop (.fin [0, 1, 12, 13]
      (.seq (.reg none [⟨some 14, none, .q (.bin .lss (.t 13) (.t 12))⟩])
      (.keep [0, 1, 12, 13, 14]
      (.seq (.cond (.t 14) .skip
        (.exit 0))
      (.seq (.blk 1 (.seq (.reg none [⟨some 15, none, .q (.mv (.t 13))⟩, ⟨some 5, none, .q (.mv (.t 15))⟩])
        (.keep [0, 1, 5, 12, 13]
        (.seq (.reg (some (9, [])) [⟨some 16, none, .q (.mv (.t 0))⟩, ⟨some 17, none, .q (.mv (.t 5))⟩, ⟨some 18, none, .q (.ias 1 (.t 16) (.t 17))⟩, ⟨some 19, none, .q (.ld none (.t 18))⟩, ⟨some 20, none, .q (.mv (.t 1))⟩, ⟨some 21, none, .q (.mv (.t 5))⟩, ⟨some 22, none, .q (.ias 1 (.t 20) (.t 21))⟩, ⟨some 23, none, .q (.ld none (.t 22))⟩, ⟨some 24, none, .q (.bin .neq (.t 19) (.t 23))⟩])
        (.keep [0, 1, 12, 13, 24]
        (.cond (.t 24) (.seq (.reg none [⟨some 4, none, .q (.mv (.c (.b false)))⟩])
          .ret)
        .skip))))))
      (.keep [0, 1, 12, 13]
      (.reg none [⟨some 25, none, .q (.bin .add (.t 13) (.c (.i .i64 1)))⟩, ⟨some 13, none, .q (.mv (.t 25))⟩]))))))))))))
  (.seq (.reg none [⟨some 4, none, .q (.mv (.c (.b true)))⟩])
  .ret)))))
theorem r31 : (Try.f31.body.bind (resC Try.prog Try.f31.ntmps)) = some (strip c31) := by kernel_rfl
theorem s31 : Try.f31.results.toList.mapM (resRes Try.prog) = some [.t 4] := by kernel_rfl
def castP (p : Nat × Nat) : Int × Int := ((p.1 : Int), (p.2 : Int))
theorem edges_list {t : List Ev} (h : Good t) : sortPairs ((edgeTo t t.length).map fun p => ((p.1 : Int), (p.2 : Int))) = (edR (befT t) t.length t.length).map castP := by
  have hp : ((edgeTo t t.length).map fun p : Nat × Nat => ((p.1 : Int), (p.2 : Int))).Perm ((edR (befT t) t.length t.length).map castP) := (edges_perm h).map _
  have hs : ((edR (befT t) t.length t.length).map castP).Pairwise fun x y => (!(ltOf cmp2) y x) = true := by
    refine List.Pairwise.map _ (fun a b hab => ?_) (edR_sorted (befT t) t.length t.length)
    rw [Bool.not_eq_true', cmp2_nlt]
    unfold castP
    unfold ltP at hab
    simp only
    omega
  unfold sortPairs
  have tr : ∀ a b c : Int × Int, (!(ltOf cmp2) b a) = true → (!(ltOf cmp2) c b) = true → (!(ltOf cmp2) c a) = true := fun a b c h1 h2 => by
    rw [Bool.not_eq_true'] at *
    exact cmp2_swo.ntrans c b a h2 h1
  have to : ∀ a b : Int × Int, ((!(ltOf cmp2) b a) || (!(ltOf cmp2) a b)) = true := fun a b => by
    cases h1 : ltOf cmp2 b a with
    | false => rfl
    | true =>
      have : ltOf cmp2 a b = false := by rw [cmp2_lt] at h1; rw [cmp2_nlt]; omega
      rw [this]; rfl
  have hm := List.pairwise_mergeSort tr to ((edgeTo t t.length).map fun p : Nat × Nat => ((p.1 : Int), (p.2 : Int)))
  refine List.Perm.eq_of_pairwise (fun a b _ _ h1 h2 => ?_) hm hs ((List.mergeSort_perm _ _).trans hp)
  rw [Bool.not_eq_true'] at h1 h2
  exact cmp2_tot a b h2 h1
theorem same_ints (a b : List Int) (ha : a.length < 1000000) : PureS Try.prog 31 [.sl 1 (a.map irow), .sl 1 (b.map irow)] (.b (decide (a = b))) := by
  refine fun_go hmx Try.func31 r31 s31 (by rw [Try.ntmps31]; simp) ?_
  unfold c31
  simp
  refine ⟨fun hl hc => hl (by rw [hc]), fun hl => ?_⟩
  have hl : a.length = b.length := by omega
  refine go_while hmx 0 (fun (k : Nat) => [(13, .v (.i .i64 (k : Int)))]) (fun _ => []) (fun k => k ≤ a.length ∧ a.take k = b.take k) (fun k => a.length - k) 0 rfl (by simp) rfl (by simp) (by simp) (by simp) ⟨Nat.zero_le _, by simp⟩ ?_
  rintro k ⟨hk, he⟩
  by_cases hkl : k < a.length
  · have hI : (k : Int) < (a.length : Int) := by omega
    have hIb : (k : Int) < (b.length : Int) := by omega
    have hkb : k < b.length := by omega
    have hw : IntKind.i64.wrap ((k : Int) + 1) = (k : Int) + 1 := wrap_in (by omega) (by omega)
    simp [hI, hIb, hkl, hkb, irow]
    refine ⟨fun hn hc => hn (by subst hc; rfl), fun hn => ⟨k + 1, by rw [hw]; rfl, ⟨by omega, ?_⟩, by omega⟩⟩
    rw [List.take_succ_eq_append_getElem hkl, List.take_succ_eq_append_getElem hkb, he, hn]
  · obtain rfl : k = a.length := by omega
    rw [List.take_length, hl, List.take_length] at he
    simp
    exact he
def stE (g v : Int) : Ev := ⟨g, 0, 0, 51, 0, 0, 0, ⟨1, v, true⟩, ⟨5, g, true⟩, .zero, .zero, .zero, .zero, 2⟩
theorem stored_p (g v : Int) : PureS Try.prog 59 [.i .i64 g, .i .i64 v] (.g (stE g v).row) := by
  refine fun_go hmx Try.func59 r59 s59 (by rw [Try.ntmps59]; simp) ?_
  unfold c59
  simp
  rfl
theorem place_p (t : List Ev) (i : Int) : PureS Try.prog 26 [.sl 26 (t.map Ev.row), .i .i64 i] (.b (decide (0 ≤ i) && decide (i < (t.length : Int)))) := by
  refine fun_go hmx Try.func26 r26 s26 (by rw [Try.ntmps26]; simp) ?_
  unfold c26
  simp
def T3 : List Ev := [stE 0 0, stE 1 1, stE 0 1]
theorem t3_right : checkT T3 = 0 := by decide
theorem t3_edges : edR (befT T3) 3 3 = [(0, 2), (1, 2)] := by decide
theorem t3_apart : befT T3 0 1 = false := by decide
theorem t3_high : mostT T3 3 = 2 := by decide
theorem speaks_p : PureS Try.prog 20 [] (.b true) := by
  have hG := good_of t3_right
  have he := edges_list hG
  have hl3 : T3.length = 3 := rfl
  have ha : askT T3 [0, 1] = 0 := by decide
  rw [hl3, t3_edges] at he
  refine fun_go hmx Try.func20 r20 s20 (by rw [Try.ntmps20]; simp) ?_
  unfold c20
  simp
  first
    | refine callk rfl Try.call59 (stored_p 0 0) rfl ?_
    | refine callks rfl Try.call59 (stored_p 0 0) rfl ?_
    | refine callq rfl Try.call59 (stored_p 0 0) rfl ?_
    | refine callqe rfl Try.call59 (stored_p 0 0) rfl ?_
  simp
  first
    | refine callk rfl Try.call59 (stored_p 1 1) rfl ?_
    | refine callks rfl Try.call59 (stored_p 1 1) rfl ?_
    | refine callq rfl Try.call59 (stored_p 1 1) rfl ?_
    | refine callqe rfl Try.call59 (stored_p 1 1) rfl ?_
  simp
  first
    | refine callk rfl Try.call59 (stored_p 0 1) rfl ?_
    | refine callks rfl Try.call59 (stored_p 0 1) rfl ?_
    | refine callq rfl Try.call59 (stored_p 0 1) rfl ?_
    | refine callqe rfl Try.call59 (stored_p 0 1) rfl ?_
  simp [stE, Ev.row, Ev.cells, Acc.row, Acc.zero]
  first
    | refine callk rfl Try.call21 (edges_all T3 (by decide)) rfl ?_
    | refine callks rfl Try.call21 (edges_all T3 (by decide)) rfl ?_
    | refine callq rfl Try.call21 (edges_all T3 (by decide)) rfl ?_
    | refine callqe rfl Try.call21 (edges_all T3 (by decide)) rfl ?_
  rw [t3_right, hl3, he]
  simp [castP, prow]
  first
    | refine callk rfl Try.call23 (before_all T3 (by decide) 0 1) rfl ?_
    | refine callks rfl Try.call23 (before_all T3 (by decide) 0 1) rfl ?_
    | refine callq rfl Try.call23 (before_all T3 (by decide) 0 1) rfl ?_
    | refine callqe rfl Try.call23 (before_all T3 (by decide) 0 1) rfl ?_
  rw [ha]
  simp
  first
    | refine callk rfl Try.call24 (height_all T3 (by decide)) rfl ?_
    | refine callks rfl Try.call24 (height_all T3 (by decide)) rfl ?_
    | refine callq rfl Try.call24 (height_all T3 (by decide)) rfl ?_
    | refine callqe rfl Try.call24 (height_all T3 (by decide)) rfl ?_
  rw [t3_right, hl3, t3_high]
  simp
  exact t3_apart
end Go.Sc.Or
