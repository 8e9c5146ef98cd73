/- Chapter 12: the law of cuts. No condition. -/
import Derived.Test.YtgipkikbefnokaaXOrX
set_option linter.constructorNameAsVariable false
namespace Go.Sc.Or
open Go Go.RowKit Go.Av Go.Proofs Go.Sc Go.Shelf Go.Sort Go.Sc.Srt
set_option linter.unusedSimpArgs false
set_option linter.unusedVariables false
theorem listE_castL {t : List Ev} (h0 : checkT t = 0) {m : List Nat} (hl : m.length ≤ 256) (hm : ∀ i ∈ m, i < t.length) : listE t (castL m) = 0 := by
  unfold listE
  have hc : (castL m).length = m.length := by simp [castL]
  rw [if_pos h0, if_neg (by omega)]
  refine ask_right h0 fun x hx => ?_
  obtain ⟨n, rfl, hn⟩ := castL_of hx
  have := hm n hn
  omega
theorem closN_lt {t : List Ev} {m : List Nat} : ∀ i ∈ closN t m, i < t.length := fun i hi => (mem_closN.1 hi).1
theorem closN_len (t : List Ev) (m : List Nat) : (closN t m).length ≤ t.length := selTo_len _ _
theorem closN_idem {t : List Ev} (h : Good t) {m : List Nat} (hm : ∀ i ∈ m, i < t.length) : closN t (closN t m) = closN t m := by
  have key : ∀ i, i < t.length → (((closN t m).any fun q => decide (i = q) || befT t i q) = (m.any fun q => decide (i = q) || befT t i q)) := fun i hi => by
    rw [Bool.eq_iff_iff, List.any_eq_true, List.any_eq_true]
    simp only [Bool.or_eq_true, decide_eq_true_eq]
    constructor
    · rintro ⟨q, hq, hiq⟩
      obtain ⟨_, q2, hq2, hqq⟩ := mem_closN.1 hq
      refine ⟨q2, hq2, ?_⟩
      rcases hiq with rfl | hiq
      · exact hqq
      · rcases hqq with rfl | hqq
        · exact .inr hiq
        · exact .inr (bef_trans h (hm q2 hq2) hiq hqq)
    · rintro ⟨q, hq, hiq⟩
      exact ⟨i, mem_closN.2 ⟨hi, q, hq, hiq⟩, .inl rfl⟩
  show selTo _ _ = selTo _ _
  unfold selTo
  exact List.filter_congr fun i hi => key i (by simpa using hi)
theorem cutN_closN {t : List Ev} (h : Good t) {m : List Nat} (hm : ∀ i ∈ m, i < t.length) : cutN t (closN t m) = true := by
  unfold cutN
  rw [closN_idem h hm, List.all_eq_true]
  intro x hx
  simpa using hx
theorem linN_range (t : List Ev) : linN t (List.range t.length) = true := by
  rw [linN_iff]
  intro b hb a ha
  have hb' : b < t.length := by simpa using hb
  have e : ∀ k, k < t.length → (List.range t.length).getD k 0 = k := fun k hk => by
    rw [List.getD_eq_getElem?_getD, List.getElem?_eq_getElem (by simpa using hk)]; simp
  rw [e b hb', e a (by omega), Bool.eq_false_iff]
  intro hc
  have := bef_lt hc
  omega
theorem cutN_past {t : List Ev} (h : Good t) {i : Nat} (hi : i < t.length) : cutN t ((pastR t i).reverse ++ [i]) = true := by
  unfold cutN
  rw [List.all_eq_true]
  intro x hx
  obtain ⟨_, q, hq, hxq⟩ := mem_closN.1 hx
  rw [List.contains_iff_mem, List.mem_append, List.mem_singleton, List.mem_reverse, mem_past]
  rw [List.mem_append, List.mem_singleton, List.mem_reverse, mem_past] at hq
  rcases hq with hq | rfl
  · rcases hxq with rfl | hxq
    · exact .inl hq
    · exact .inl (bef_trans h hi hxq hq)
  · rcases hxq with rfl | hxq
    · exact .inr rfl
    · exact .inl hxq
/-- scarab/scarablaw12.OrderCuts -/
def c16 : ACode :=
  (.seq (.reg none [⟨some 6, none, .q (.mv (.c (.b false)))⟩])
  (.keep [0, 1, 2]
  (.seq (.reg none [⟨some 25, none, .q (.mv (.t 0))⟩, ⟨some 26, none, .q (.mv (.t 1))⟩, ⟨some 27, none, .call (.f 51) [(.t 25), (.t 26)]⟩, ⟨some 24, none, .q (.mv (.t 27))⟩, ⟨some 28, none, .q (.ext 0 (.t 24))⟩, ⟨some 29, none, .q (.ext 1 (.t 24))⟩, ⟨some 7, none, .q (.mv (.t 28))⟩, ⟨some 8, none, .q (.mv (.t 29))⟩])
  (.keep [0, 1, 2, 7, 8]
  (.seq (.seq (.reg none [⟨some 30, none, .q (.mv (.t 8))⟩, ⟨some 31, none, .q (.bin .neq (.t 30) (.c (.i .i64 0)))⟩])
    (.keep [0, 1, 2, 7, 31]
    (.cond (.t 31) (.seq (.reg none [⟨some 32, none, .q (.mv (.t 7))⟩, ⟨some 33, none, .q (.len false (.t 32))⟩, ⟨some 34, none, .q (.bin .eql (.t 33) (.c (.i .i64 0)))⟩, ⟨some 35, none, .q (.mv (.t 34))⟩, ⟨some 36, some (35, true), .call (.f 20) []⟩, ⟨some 37, none, .pk (.t 35) (.t 36) (.c (.b false))⟩, ⟨some 6, none, .q (.mv (.t 37))⟩])
      .ret)
    .skip)))
  (.seq (.reg none [⟨some 39, none, .q (.mv (.t 0))⟩, ⟨some 40, none, .q (.mv (.t 7))⟩, ⟨some 41, none, .call (.f 50) [(.t 39), (.t 40)]⟩, ⟨some 38, none, .q (.mv (.t 41))⟩, ⟨some 42, none, .q (.ext 0 (.t 38))⟩, ⟨some 43, none, .q (.ext 1 (.t 38))⟩, ⟨some 9, none, .q (.mv (.t 42))⟩, ⟨some 10, none, .q (.mv (.t 43))⟩])
  (.keep [0, 1, 2, 7, 9, 10]
  (.seq (.reg none [⟨some 45, none, .q (.mv (.t 0))⟩, ⟨some 46, none, .q (.mv (.t 7))⟩, ⟨some 47, none, .call (.f 51) [(.t 45), (.t 46)]⟩, ⟨some 44, none, .q (.mv (.t 47))⟩, ⟨some 48, none, .q (.ext 0 (.t 44))⟩, ⟨some 49, none, .q (.ext 1 (.t 44))⟩, ⟨some 11, none, .q (.mv (.t 48))⟩, ⟨some 12, none, .q (.mv (.t 49))⟩])
  (.keep [0, 1, 2, 7, 9, 10, 11, 12]
  (.seq (.seq (.reg none [⟨some 50, none, .q (.mv (.t 10))⟩, ⟨some 51, none, .q (.bin .neq (.t 50) (.c (.i .i64 0)))⟩, ⟨some 52, none, .q (.mv (.t 51))⟩, ⟨some 53, some (52, false), .q (.mv (.t 12))⟩, ⟨some 54, some (52, false), .q (.bin .neq (.t 53) (.c (.i .i64 0)))⟩, ⟨some 55, none, .pk (.t 52) (.c (.b true)) (.t 54)⟩, ⟨some 56, none, .q (.mv (.t 55))⟩, ⟨some 57, some (56, false), .q (.mv (.t 9))⟩, ⟨some 58, some (56, false), .q (.un .not (.t 57))⟩, ⟨some 59, none, .pk (.t 56) (.c (.b true)) (.t 58)⟩, ⟨some 60, none, .q (.mv (.t 59))⟩, ⟨some 61, some (60, false), .q (.mv (.t 7))⟩, ⟨some 62, some (60, false), .q (.mv (.t 11))⟩, ⟨some 63, some (60, false), .call (.f 31) [(.t 61), (.t 62)]⟩, ⟨some 64, some (60, false), .q (.un .not (.t 63))⟩, ⟨some 65, none, .pk (.t 60) (.c (.b true)) (.t 64)⟩])
    (.keep [0, 1, 2, 7, 65]
    (.cond (.t 65) (.seq (.reg none [⟨some 6, none, .q (.mv (.c (.b false)))⟩])
      .ret)
    .skip)))
  (.seq (.seq (.reg none [⟨some 13, none, .q (.mv (.c (.i .i64 0)))⟩])
    (.keep [0, 1, 2, 7, 13]
    (.blk 0 (.keep [0, 1, 2, 7, 13]
    (.loop (.fin [0, 1, 2, 7, 13]
      (.seq (.seq (.reg none [⟨some 66, none, .q (.mv (.t 13))⟩, ⟨some 67, none, .q (.mv (.t 1))⟩, ⟨some 68, none, .q (.len false (.t 67))⟩, ⟨some 69, none, .q (.bin .lss (.t 66) (.t 68))⟩])
        (.keep [0, 1, 2, 7, 13, 69]
        (.cond (.t 69) .skip
        (.exit 0))))
      (.seq (.blk 1 (.seq (.reg none [⟨some 14, none, .q (.mv (.c (.b false)))⟩])
        (.keep [0, 1, 2, 7, 13, 14]
        (.seq (.seq (.reg none [⟨some 15, none, .q (.mv (.c (.i .i64 0)))⟩])
          (.keep [0, 1, 2, 7, 13, 14, 15]
          (.blk 2 (.keep [0, 1, 2, 7, 13, 14, 15]
          (.loop (.fin [0, 1, 2, 7, 13, 14, 15]
            (.seq (.seq (.reg none [⟨some 72, none, .q (.mv (.t 15))⟩, ⟨some 73, none, .q (.mv (.t 7))⟩, ⟨some 74, none, .q (.len false (.t 73))⟩, ⟨some 75, none, .q (.bin .lss (.t 72) (.t 74))⟩])
              (.keep [0, 1, 2, 7, 13, 14, 15, 75]
              (.cond (.t 75) .skip
              (.exit 2))))
            (.seq (.blk 3 (.reg (some (13, [])) [⟨some 78, none, .q (.mv (.t 14))⟩, ⟨some 79, none, .q (.mv (.t 78))⟩, ⟨some 80, some (79, false), .q (.mv (.t 7))⟩, ⟨some 81, some (79, false), .q (.mv (.t 15))⟩, ⟨some 82, some (79, false), .q (.ias 1 (.t 80) (.t 81))⟩, ⟨some 83, some (79, false), .q (.ld none (.t 82))⟩, ⟨some 84, some (79, false), .q (.mv (.t 1))⟩, ⟨some 85, some (79, false), .q (.mv (.t 13))⟩, ⟨some 86, some (79, false), .q (.ias 1 (.t 84) (.t 85))⟩, ⟨some 87, some (79, false), .q (.ld none (.t 86))⟩, ⟨some 88, some (79, false), .q (.bin .eql (.t 83) (.t 87))⟩, ⟨some 89, none, .pk (.t 79) (.c (.b true)) (.t 88)⟩, ⟨some 14, none, .q (.mv (.t 89))⟩]))
            (.keep [0, 1, 2, 7, 13, 14, 15]
            (.reg none [⟨some 76, none, .q (.mv (.t 15))⟩, ⟨some 77, none, .q (.bin .add (.t 76) (.c (.i .i64 1)))⟩, ⟨some 15, none, .q (.mv (.t 77))⟩]))))))))))
        (.seq (.reg none [⟨some 90, none, .q (.mv (.t 14))⟩, ⟨some 91, none, .q (.un .not (.t 90))⟩])
        (.keep [0, 1, 2, 7, 13, 91]
        (.cond (.t 91) (.seq (.reg none [⟨some 6, none, .q (.mv (.c (.b false)))⟩])
          .ret)
        .skip)))))))
      (.keep [0, 1, 2, 7, 13]
      (.reg none [⟨some 70, none, .q (.mv (.t 13))⟩, ⟨some 71, none, .q (.bin .add (.t 70) (.c (.i .i64 1)))⟩, ⟨some 13, none, .q (.mv (.t 71))⟩]))))))))))
  (.seq (.reg none [⟨some 16, none, .q (.mv (.c .nil))⟩])
  (.gst (.nilT 16 1)
  (.keep [0, 2, 16]
  (.seq (.seq (.reg none [⟨some 17, none, .q (.mv (.c (.i .i64 0)))⟩])
    (.keep [0, 2, 16, 17]
    (.blk 4 (.keep [0, 2, 16, 17]
    (.loop (.fin [0, 2, 16, 17]
      (.seq (.seq (.reg none [⟨some 92, none, .q (.mv (.t 17))⟩, ⟨some 93, none, .q (.mv (.t 0))⟩, ⟨some 94, none, .q (.len false (.t 93))⟩, ⟨some 95, none, .q (.bin .lss (.t 92) (.t 94))⟩])
        (.keep [0, 2, 16, 17, 95]
        (.cond (.t 95) .skip
        (.exit 4))))
      (.seq (.blk 5 (.reg none [⟨some 98, none, .q (.mv (.t 16))⟩, ⟨some 99, none, .q (.mv (.t 17))⟩, ⟨some 100, none, .m (.bsl 1 1 [(.i .i64 0)] [(0, 1, .t 99)])⟩, ⟨some 101, none, .m (.app 1 8 (.t 98) (.t 100))⟩, ⟨some 16, none, .q (.mv (.t 101))⟩]))
      (.keep [0, 2, 16, 17]
      (.reg none [⟨some 96, none, .q (.mv (.t 17))⟩, ⟨some 97, none, .q (.bin .add (.t 96) (.c (.i .i64 1)))⟩, ⟨some 17, none, .q (.mv (.t 97))⟩]))))))))))
  (.seq (.gst (.letT 16 1)
    (.reg none [⟨some 103, none, .q (.mv (.t 0))⟩, ⟨some 104, none, .q (.mv (.t 16))⟩, ⟨some 105, none, .call (.f 48) [(.t 103), (.t 104)]⟩, ⟨some 102, none, .q (.mv (.t 105))⟩, ⟨some 106, none, .q (.ext 0 (.t 102))⟩, ⟨some 107, none, .q (.ext 1 (.t 102))⟩, ⟨some 18, none, .q (.mv (.t 106))⟩, ⟨some 19, none, .q (.mv (.t 107))⟩]))
  (.keep [0, 2, 18, 19]
  (.seq (.seq (.reg none [⟨some 108, none, .q (.mv (.t 19))⟩, ⟨some 109, none, .q (.bin .neq (.t 108) (.c (.i .i64 0)))⟩, ⟨some 110, none, .q (.mv (.t 109))⟩, ⟨some 111, some (110, false), .q (.mv (.t 18))⟩, ⟨some 112, some (110, false), .q (.un .not (.t 111))⟩, ⟨some 113, none, .pk (.t 110) (.c (.b true)) (.t 112)⟩])
    (.keep [0, 2, 113]
    (.cond (.t 113) (.seq (.reg none [⟨some 6, none, .q (.mv (.c (.b false)))⟩])
      .ret)
    .skip)))
  (.seq (.reg none [⟨some 115, none, .q (.mv (.t 0))⟩, ⟨some 116, none, .q (.mv (.t 2))⟩, ⟨some 117, none, .call (.f 35) [(.t 115), (.t 116)]⟩, ⟨some 114, none, .q (.mv (.t 117))⟩, ⟨some 118, none, .q (.ext 0 (.t 114))⟩, ⟨some 119, none, .q (.ext 1 (.t 114))⟩, ⟨some 20, none, .q (.mv (.t 118))⟩, ⟨some 21, none, .q (.mv (.t 119))⟩])
  (.keep [0, 2, 20, 21]
  (.seq (.seq (.reg none [⟨some 120, none, .q (.mv (.t 21))⟩, ⟨some 121, none, .q (.bin .neq (.t 120) (.c (.i .i64 0)))⟩])
    (.keep [0, 2, 20, 121]
    (.cond (.t 121) (.seq (.reg none [⟨some 122, none, .q (.mv (.t 0))⟩, ⟨some 123, none, .q (.mv (.t 2))⟩, ⟨some 124, none, .call (.f 26) [(.t 122), (.t 123)]⟩, ⟨some 125, none, .q (.un .not (.t 124))⟩, ⟨some 126, none, .q (.mv (.t 125))⟩, ⟨some 127, some (126, true), .call (.f 20) []⟩, ⟨some 128, none, .pk (.t 126) (.t 127) (.c (.b false))⟩, ⟨some 6, none, .q (.mv (.t 128))⟩])
      .ret)
    .skip)))
  (.seq (.reg none [⟨some 130, none, .q (.mv (.t 0))⟩, ⟨some 131, none, .m (.bsl 0 1 [(.i .i64 0)] [])⟩, ⟨some 132, none, .q (.mv (.t 20))⟩, ⟨some 133, none, .m (.app 1 8 (.t 131) (.t 132))⟩, ⟨some 134, none, .q (.mv (.t 2))⟩, ⟨some 135, none, .m (.bsl 1 1 [(.i .i64 0)] [(0, 1, .t 134)])⟩, ⟨some 136, none, .m (.app 1 8 (.t 133) (.t 135))⟩, ⟨some 137, none, .call (.f 50) [(.t 130), (.t 136)]⟩, ⟨some 129, none, .q (.mv (.t 137))⟩, ⟨some 138, none, .q (.ext 0 (.t 129))⟩, ⟨some 139, none, .q (.ext 1 (.t 129))⟩, ⟨some 22, none, .q (.mv (.t 138))⟩, ⟨some 23, none, .q (.mv (.t 139))⟩])
  (.keep [22, 23]
  (.seq (.reg none [⟨some 140, none, .q (.mv (.t 23))⟩, ⟨some 141, none, .q (.bin .eql (.t 140) (.c (.i .i64 0)))⟩, ⟨some 142, none, .q (.mv (.t 141))⟩, ⟨some 143, some (142, true), .q (.mv (.t 22))⟩, ⟨some 144, none, .pk (.t 142) (.t 143) (.c (.b false))⟩, ⟨some 145, none, .q (.mv (.t 144))⟩, ⟨some 146, some (145, true), .call (.f 20) []⟩, ⟨some 147, none, .pk (.t 145) (.t 146) (.c (.b false))⟩, ⟨some 6, none, .q (.mv (.t 147))⟩])
  .ret))))))))))))))))))))))))
theorem r16 : (Try.f16.body.bind (resC Try.prog Try.f16.ntmps)) = some (strip c16) := by kernel_rfl
theorem s16 : Try.f16.results.toList.mapM (resRes Try.prog) = some [.t 6] := by kernel_rfl
theorem cuts_wrong (t : List Ev) (ht : t.length < 1000000000000) (l : List Int) (hl : l.length < 100000000000000) (i : Int) (hE : ¬ listE t l = 0) : PureS Try.prog 16 [.sl 26 (t.map Ev.row), .sl 1 (l.map irow), .i .i64 i] (.b true) := by
  refine fun_go hmx Try.func16 r16 s16 (by rw [Try.ntmps16]; simp) ?_
  unfold c16
  simp
  first
    | refine callk rfl Try.call51 (closed_all t (by omega) l hl) rfl ?_
    | refine callks rfl Try.call51 (closed_all t (by omega) l hl) rfl ?_
    | refine callq rfl Try.call51 (closed_all t (by omega) l hl) rfl ?_
    | refine callqe rfl Try.call51 (closed_all t (by omega) l hl) rfl ?_
  simp [hE]
  first
    | refine callkg rfl Try.call20 rfl (fun _ => speaks_p) (fun hG => by first | (simp; done) | (simp at hG; done) | simpa using hG) rfl ?_
    | refine callksg rfl Try.call20 rfl (fun _ => speaks_p) (fun hG => by first | (simp; done) | (simp at hG; done) | simpa using hG) rfl ?_
    | refine callqg rfl Try.call20 rfl (fun _ => speaks_p) (fun hG => by first | (simp; done) | (simp at hG; done) | simpa using hG) rfl ?_
  simp
theorem cuts_ok (t : List Ev) (l : List Int) (hl : l.length < 100000000000000) (i : Int) (hE : listE t l = 0) : PureS Try.prog 16 [.sl 26 (t.map Ev.row), .sl 1 (l.map irow), .i .i64 i] (.b true) := by
  obtain ⟨h0, h, hll, m, rfl, hm⟩ := listE_ok hE
  have hlen := h.len
  have hmm : (castL m).map Int.toNat = m := castL_nat m
  have hcl : (castL m).length = m.length := by simp [castL]
  have hC1 := cutN_closN h hm
  have hC2 := closN_idem h hm
  have hC3 := listE_castL h0 (m := closN t m) (by have := closN_len t m; omega) closN_lt
  have hC4 : ∀ x ∈ m, x ∈ closN t m := fun x hx => mem_closN.2 ⟨hm x hx, x, hx, .inl rfl⟩
  have hC5 : (castL (closN t m)).length ≤ 256 := by have := closN_len t m; unfold castL; rw [List.length_map]; omega
  have hcut := cut_all t (by omega) (castL (closN t m)) (by omega)
  rw [castL_nat, hC1, hC3] at hcut
  have hcls := closed_all t (by omega) (castL (closN t m)) (by omega)
  rw [castL_nat, hC2, hC3] at hcls
  have hlin := linear_all t (by omega) (castL (List.range t.length)) (by simp [castL]; omega)
  rw [castL_nat, linN_range, listE_castL h0 (by simp; omega) (by simp)] at hlin
  have hnd : (castL (List.range t.length)).Nodup := by
    unfold castL
    exact List.Pairwise.map _ (fun a b hne hc => hne (by omega)) List.nodup_range
  simp [hnd, show (castL (List.range t.length)).length = t.length by simp [castL]] at hlin hcut hcls
  refine fun_go hmx Try.func16 r16 s16 (by rw [Try.ntmps16]; simp) ?_
  unfold c16
  simp
  first
    | refine callk rfl Try.call51 (closed_all t (by omega) (castL m) hl) rfl ?_
    | refine callks rfl Try.call51 (closed_all t (by omega) (castL m) hl) rfl ?_
    | refine callq rfl Try.call51 (closed_all t (by omega) (castL m) hl) rfl ?_
    | refine callqe rfl Try.call51 (closed_all t (by omega) (castL m) hl) rfl ?_
  simp [hE, hmm]
  first
    | refine callk rfl Try.call50 hcut rfl ?_
    | refine callks rfl Try.call50 hcut rfl ?_
    | refine callq rfl Try.call50 hcut rfl ?_
    | refine callqe rfl Try.call50 hcut rfl ?_
  simp
  first
    | refine callk rfl Try.call51 hcls rfl ?_
    | refine callks rfl Try.call51 hcls rfl ?_
    | refine callq rfl Try.call51 hcls rfl ?_
    | refine callqe rfl Try.call51 hcls rfl ?_
  simp
  first
    | refine callkg rfl Try.call31 rfl (fun _ => (same_ints (castL (closN t m)) (castL (closN t m)) (by omega))) (fun hG => by first | (simp; done) | (simp at hG; done) | simpa using hG) rfl ?_
    | refine callksg rfl Try.call31 rfl (fun _ => (same_ints (castL (closN t m)) (castL (closN t m)) (by omega))) (fun hG => by first | (simp; done) | (simp at hG; done) | simpa using hG) rfl ?_
    | refine callqg rfl Try.call31 rfl (fun _ => (same_ints (castL (closN t m)) (castL (closN t m)) (by omega))) (fun hG => by first | (simp; done) | (simp at hG; done) | simpa using hG) rfl ?_
  simp
  generalize closN t m = C at *
  have hcC : (castL C).length = C.length := by simp [castL]
  have hcg : ∀ (k : Nat) (hk : k < m.length), (castL m)[k]'(by omega) = (m[k] : Int) := fun k hk => by simp [castL]
  have hCg : ∀ (k : Nat) (hk : k < C.length), (castL C)[k]'(by omega) = (C[k] : Int) := fun k hk => by simp [castL]
  refine go_while hmx 0 (fun (k : Nat) => [(13, .v (.i .i64 (k : Int)))]) (fun _ => []) (fun k => k ≤ m.length) (fun k => m.length - k) 0 rfl (by simp) rfl (by simp) (by simp) (by simp) (Nat.zero_le _) ?_
  intro k hk
  by_cases hkl : k < m.length
  · have hI : (k : Int) < (m.length : Int) := by omega
    have hwk : IntKind.i64.wrap ((k : Int) + 1) = (k : Int) + 1 := wrap_in (by omega) (by omega)
    have hkc : k < (castL m).length := by omega
    simp [hI, hcl]
    refine go_while hmx 0 (fun (j : Nat) => [(14, .v (.b (decide (m[k] ∈ C.take j)))), (15, .v (.i .i64 (j : Int)))]) (fun _ => []) (fun j => j ≤ C.length) (fun j => C.length - j) 0 rfl (by simp) rfl (by simp) (by simp) (by simp) (Nat.zero_le _) ?_
    intro j hj
    by_cases hjl : j < C.length
    · have hJ : (j : Int) < (C.length : Int) := by omega
      have hwj : IntKind.i64.wrap ((j : Int) + 1) = (j : Int) + 1 := wrap_in (by omega) (by omega)
      have hjc : j < (castL C).length := by omega
      have hcs : decide (m[k] ∈ C.take (j + 1)) = (decide (m[k] ∈ C.take j) || decide (m[k] = C[j])) := by
        rw [List.take_succ_eq_append_getElem hjl, ← Bool.decide_or, decide_eq_decide, List.mem_append, List.mem_singleton]
      simp [hJ, hjl, hcC, hjc, hCg, irow, hkl, hI, hkc, hcg, hcl]
      refine ⟨j + 1, ⟨?_, by rw [hwj]; rfl⟩, by omega, by omega⟩
      rw [hcs]
      congr 1
      rw [Bool.eq_iff_iff, beq_iff_eq, decide_eq_true_eq]; omega
    · obtain rfl : j = C.length := by omega
      have hin := hC4 m[k] (List.getElem_mem hkl)
      simp [hcC, hwk, hin]
      exact ⟨k + 1, rfl, by omega, by omega⟩
  obtain rfl : k = m.length := by omega
  simp [hcl]
  refine go_while hmx 1 (fun (s : Nat × Nat) => [(16, .os 0 s.2), (17, .v (.i .i64 (s.1 : Int)))]) (fun s => [.arr s.2 1 (vrows ((castL (List.range s.1)).map irow))]) (fun s => s.1 ≤ t.length) (fun s => t.length - s.1) (0, 0) rfl (by simp) rfl (by simp) (by simp) (by simp) (Nat.zero_le _) ?_
  rintro ⟨q, v⟩ hq
  simp only at hq
  by_cases hql : q < t.length
  · have hI : (q : Int) < (t.length : Int) := by omega
    have hwq : IntKind.i64.wrap ((q : Int) + 1) = (q : Int) + 1 := wrap_in (by omega) (by omega)
    have hrl : (castL (List.range q)).length = q := by simp [castL]
    simp [hI, hwq, hrl]
    refine ⟨⟨by omega, by omega⟩, q + 1, v + 1, ⟨rfl, rfl⟩, ⟨rfl, ?_⟩, by omega, by omega⟩
    simp [castL, List.range_succ, vrows, irow]
  obtain rfl : q = t.length := by omega
  simp
  first
    | refine callk rfl Try.call48 hlin rfl ?_
    | refine callks rfl Try.call48 hlin rfl ?_
    | refine callq rfl Try.call48 hlin rfl ?_
    | refine callqe rfl Try.call48 hlin rfl ?_
  simp
  first
    | refine callk rfl Try.call35 (past_all t (by omega) i) rfl ?_
    | refine callks rfl Try.call35 (past_all t (by omega) i) rfl ?_
    | refine callq rfl Try.call35 (past_all t (by omega) i) rfl ?_
    | refine callqe rfl Try.call35 (past_all t (by omega) i) rfl ?_
  by_cases hA : askT t [i] = 0
  rotate_left
  · have hpl : (decide (0 ≤ i) && decide (i < (t.length : Int))) = false := by
      rw [Bool.eq_false_iff]
      intro hc
      simp at hc
      exact hA (ask_right h0 (by simp; omega))
    simp [hA]
    first
      | refine callk rfl Try.call26 (place_p t i) rfl ?_
      | refine callks rfl Try.call26 (place_p t i) rfl ?_
      | refine callq rfl Try.call26 (place_p t i) rfl ?_
      | refine callqe rfl Try.call26 (place_p t i) rfl ?_
    simp [hpl]
    first
      | refine callkg rfl Try.call20 rfl (fun _ => speaks_p) (fun hG => by first | (simp; done) | (simp at hG; done) | simpa using hG) rfl ?_
      | refine callksg rfl Try.call20 rfl (fun _ => speaks_p) (fun hG => by first | (simp; done) | (simp at hG; done) | simpa using hG) rfl ?_
      | refine callqg rfl Try.call20 rfl (fun _ => speaks_p) (fun hG => by first | (simp; done) | (simp at hG; done) | simpa using hG) rfl ?_
    simp
  obtain ⟨_, hp⟩ := ask_ok hA
  obtain ⟨i, rfl⟩ : ∃ n : Nat, i = (n : Int) := ⟨i.toNat, by have := hp i (by simp); omega⟩
  have hi : i < t.length := by have := hp i (by simp); omega
  have hpl : (pastR t i).length ≤ i := by have := pastD_len (p := fun j => befT t j i) i; unfold pastR; exact this
  have hcp := cut_all t (by omega) (castL ((pastR t i).reverse ++ [i])) (by simp [castL]; omega)
  rw [castL_nat, cutN_past h hi, listE_castL h0 (by simp; omega) (by
    intro x hx
    rw [List.mem_append, List.mem_reverse, mem_past, List.mem_singleton] at hx
    rcases hx with hx | rfl
    · have := bef_lt hx; omega
    · exact hi)] at hcp
  simp at hcp
  simp [hA, -List.map_reverse]
  have hrows : vrows ((pastR t i).reverse.map nrow) ++ [[RV.v (.i .i64 (i : Int))]] = vrows ((castL ((pastR t i).reverse ++ [i])).map irow) := by
    have : (castL ((pastR t i).reverse ++ [i])).map irow = (pastR t i).reverse.map nrow ++ [[.i .i64 (i : Int)]] := by
      unfold castL
      rw [List.map_map, List.map_append]
      rfl
    rw [this]
    simp [vrows, -List.map_reverse]
  refine ⟨⟨by omega, by omega⟩, ⟨by omega, by omega⟩, ?_⟩
  rw [hrows]
  refine callg1 1 2 [.sl 26 (t.map Ev.row)] [] rfl Try.call50 hcp rfl rfl ?_
  simp
  first
    | refine callkg rfl Try.call20 rfl (fun _ => speaks_p) (fun hG => by first | (simp; done) | (simp at hG; done) | simpa using hG) rfl ?_
    | refine callksg rfl Try.call20 rfl (fun _ => speaks_p) (fun hG => by first | (simp; done) | (simp at hG; done) | simpa using hG) rfl ?_
    | refine callqg rfl Try.call20 rfl (fun _ => speaks_p) (fun hG => by first | (simp; done) | (simp at hG; done) | simpa using hG) rfl ?_
  simp
theorem orderCuts (t : List Ev) (ht : t.length < 1000000000000) (l : List Int) (hl : l.length < 100000000000000) (i : Int) : PureS Try.prog 16 [.sl 26 (t.map Ev.row), .sl 1 (l.map irow), .i .i64 i] (.b true) := by
  by_cases hE : listE t l = 0
  · exact cuts_ok t l hl i hE
  · exact cuts_wrong t ht l hl i hE
end Go.Sc.Or
