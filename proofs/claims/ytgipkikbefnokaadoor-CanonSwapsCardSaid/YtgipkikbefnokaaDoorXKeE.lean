/- Chapter 13: a swap of neighbours. No condition. -/
import Derived.Test.YtgipkikbefnokaaDoorXKeC
import Derived.Test.YtgipkikbefnokaaDoorXCb
import Derived.Test.YtgipkikbefnokaaDoorXAvF
set_option linter.constructorNameAsVariable false
namespace Go.Sc.Or
open Go Go.RowKit Go.Av Go.Proofs Go.Sc Go.Lib
set_option linter.unusedSimpArgs false
set_option linter.unusedVariables false
theorem turn_rows13 (t : List Ev) (i : Nat) (hi : i + 1 < t.length) (h1 : i < (vrows (t.map Ev.row)).length) (h2 : i + 1 < (vrows (t.map Ev.row)).length) :
    ((vrows (t.map Ev.row)).set i (putAll ((vrows (t.map Ev.row))[i]) 0 (t[i + 1].row.map RV.v))).set (i + 1) (putAll ((vrows (t.map Ev.row))[i + 1]) 0 (t[i].row.map RV.v)) = vrows ((turn t i).map Ev.row) := by
  have hi0 : i < t.length := by omega
  have hgi : t.getD i default = t[i] := by rw [List.getD_eq_getElem?_getD, List.getElem?_eq_getElem hi0]; rfl
  have hgj : t.getD (i + 1) default = t[i + 1] := by rw [List.getD_eq_getElem?_getD, List.getElem?_eq_getElem hi]; rfl
  rw [putAll_all (by simp [vrows]), putAll_all (by simp [vrows])]
  simp only [vrows, turn, hgi, hgj, List.map_set]
theorem turn_mem {t : List Ev} {i : Nat} (hi : i + 1 < t.length) {e : Ev} (he : e ∈ turn t i) : e ∈ t := by
  obtain ⟨A, x, y, B, rfl, rfl⟩ := split_two hi
  rw [turn_split] at he
  simp at he ⊢
  rcases he with h | h | h | h
  · exact .inl h
  · exact .inr (.inr (.inl h))
  · exact .inr (.inl h)
  · exact .inr (.inr (.inr h))
theorem key_dec13 {a b : List Ev} (ha : Good a) (hb : Good b) : (keyB (canonL a) == keyB (canonL b)) = decide (canonL a = canonL b) := by
  rw [Bool.eq_iff_iff, beq_iff_eq, decide_eq_true_eq]
  exact ⟨key_inj (canonL_right ha) (canonL_right hb), fun h => by rw [h]⟩
theorem ev_flat (t : List Ev) : ∀ row ∈ t.map Ev.row, ∀ x ∈ row, Flat x := by
  intro row hr x hx
  obtain ⟨e, _, rfl⟩ := List.mem_map.1 hr
  simp [Ev.row, Ev.cells, Acc.row] at hx
  rcases hx with rfl | rfl | rfl | rfl | rfl | rfl | rfl | rfl | rfl | rfl | rfl | rfl | rfl | rfl | rfl | rfl | rfl | rfl | rfl | rfl | rfl | rfl | rfl | rfl | rfl | rfl <;> first | exact .i _ _ | exact .b _
def c3 : ACode :=
  (.seq (.reg none [⟨some 4, none, .q (.mv (.c (.b false)))⟩])
  (.keep [0, 1]
  (.seq (.seq (.reg none [⟨some 17, none, .q (.mv (.t 0))⟩, ⟨some 18, none, .call (.f 6) [(.t 17)]⟩, ⟨some 19, none, .q (.bin .neq (.t 18) (.c (.i .i64 0)))⟩, ⟨some 20, none, .q (.mv (.t 19))⟩, ⟨some 21, some (20, false), .q (.mv (.t 0))⟩, ⟨some 22, some (20, false), .q (.len false (.t 21))⟩, ⟨some 23, some (20, false), .q (.bin .lss (.t 22) (.c (.i .i64 2)))⟩, ⟨some 24, none, .pk (.t 20) (.c (.b true)) (.t 23)⟩])
    (.keep [0, 1, 24]
    (.cond (.t 24) (.seq (.reg none [⟨some 26, none, .q (.mv (.t 0))⟩, ⟨some 27, none, .call (.f 7) [(.t 26)]⟩, ⟨some 25, none, .q (.mv (.t 27))⟩, ⟨some 28, none, .q (.ext 0 (.t 25))⟩, ⟨some 29, none, .q (.ext 1 (.t 25))⟩, ⟨some 5, none, .q (.mv (.t 28))⟩, ⟨some 6, none, .q (.mv (.t 29))⟩])
      (.keep [0, 6]
      (.seq (.reg none [⟨some 30, none, .q (.mv (.t 6))⟩, ⟨some 31, none, .q (.mv (.t 0))⟩, ⟨some 32, none, .call (.f 6) [(.t 31)]⟩, ⟨some 33, none, .q (.bin .eql (.t 30) (.t 32))⟩, ⟨some 34, none, .q (.mv (.t 33))⟩, ⟨some 35, some (34, true), .call (.f 8) []⟩, ⟨some 36, none, .pk (.t 34) (.t 35) (.c (.b false))⟩, ⟨some 4, none, .q (.mv (.t 36))⟩])
      .ret)))
    .skip)))
  (.seq (.reg none [⟨some 37, none, .q (.mv (.t 1))⟩, ⟨some 38, none, .q (.cvi .u64 (.t 37))⟩, ⟨some 39, none, .q (.mv (.t 0))⟩, ⟨some 40, none, .q (.len false (.t 39))⟩, ⟨some 41, none, .q (.bin .sub (.t 40) (.c (.i .i64 1)))⟩, ⟨some 42, none, .q (.cvi .u64 (.t 41))⟩, ⟨some 43, none, .q (.bin .rem (.t 38) (.t 42))⟩, ⟨some 44, none, .q (.cvi .i64 (.t 43))⟩, ⟨some 7, none, .q (.mv (.t 44))⟩])
  (.keep [0, 7]
  (.seq (.reg none [⟨some 45, none, .q (.mv (.t 0))⟩, ⟨some 46, none, .call (.f 9) [(.t 45)]⟩, ⟨some 8, none, .q (.mv (.t 46))⟩])
  (.keep [0, 7, 8]
  (.seq (.reg none [⟨some 47, none, .q (.mv (.t 8))⟩, ⟨some 48, none, .q (.mv (.t 7))⟩, ⟨some 49, none, .q (.mv (.t 0))⟩, ⟨some 50, none, .q (.mv (.t 7))⟩, ⟨some 51, none, .q (.bin .add (.t 50) (.c (.i .i64 1)))⟩, ⟨some 52, none, .q (.ias 26 (.t 49) (.t 51))⟩, ⟨some 53, none, .q (.ld (some 26) (.t 52))⟩, ⟨some 54, none, .q (.ias 26 (.t 47) (.t 48))⟩, ⟨none, none, .m (.st 26 (.t 54) (.t 53))⟩])
  (.keep [0, 7, 8]
  (.seq (.reg none [⟨some 55, none, .q (.mv (.t 8))⟩, ⟨some 56, none, .q (.mv (.t 7))⟩, ⟨some 57, none, .q (.bin .add (.t 56) (.c (.i .i64 1)))⟩, ⟨some 58, none, .q (.mv (.t 0))⟩, ⟨some 59, none, .q (.mv (.t 7))⟩, ⟨some 60, none, .q (.ias 26 (.t 58) (.t 59))⟩, ⟨some 61, none, .q (.ld (some 26) (.t 60))⟩, ⟨some 62, none, .q (.ias 26 (.t 55) (.t 57))⟩, ⟨none, none, .m (.st 26 (.t 62) (.t 61))⟩])
  (.keep [0, 7, 8]
  (.seq (.gst (.letT 8 26)
    (.reg none [⟨some 64, none, .q (.mv (.t 0))⟩, ⟨some 65, none, .q (.mv (.t 8))⟩, ⟨some 66, none, .call (.f 10) [(.t 64), (.t 65)]⟩, ⟨some 63, none, .q (.mv (.t 66))⟩, ⟨some 67, none, .q (.ext 0 (.t 63))⟩, ⟨some 68, none, .q (.ext 1 (.t 63))⟩, ⟨some 9, none, .q (.mv (.t 67))⟩, ⟨some 10, none, .q (.mv (.t 68))⟩]))
  (.keep [0, 7, 8, 9, 10]
  (.seq (.reg none [⟨some 70, none, .q (.mv (.t 0))⟩, ⟨some 71, none, .call (.f 7) [(.t 70)]⟩, ⟨some 69, none, .q (.mv (.t 71))⟩, ⟨some 72, none, .q (.ext 0 (.t 69))⟩, ⟨some 73, none, .q (.ext 1 (.t 69))⟩, ⟨some 11, none, .q (.mv (.t 72))⟩, ⟨some 12, none, .q (.mv (.t 73))⟩])
  (.keep [0, 7, 8, 9, 10, 11, 12]
  (.seq (.reg none [⟨some 75, none, .q (.mv (.t 8))⟩, ⟨some 76, none, .call (.f 7) [(.t 75)]⟩, ⟨some 74, none, .q (.mv (.t 76))⟩, ⟨some 77, none, .q (.ext 0 (.t 74))⟩, ⟨some 78, none, .q (.ext 1 (.t 74))⟩, ⟨some 13, none, .q (.mv (.t 77))⟩, ⟨some 14, none, .q (.mv (.t 78))⟩])
  (.keep [0, 7, 9, 10, 11, 12, 13, 14]
  (.seq (.reg (some (9, [])) [⟨some 79, none, .q (.mv (.t 0))⟩, ⟨some 80, none, .q (.mv (.t 7))⟩, ⟨some 81, none, .q (.ias 26 (.t 79) (.t 80))⟩, ⟨some 82, none, .q (.ld (some 26) (.t 81))⟩, ⟨some 83, none, .q (.mv (.t 0))⟩, ⟨some 84, none, .q (.mv (.t 7))⟩, ⟨some 85, none, .q (.bin .add (.t 84) (.c (.i .i64 1)))⟩, ⟨some 86, none, .q (.ias 26 (.t 83) (.t 85))⟩, ⟨some 87, none, .q (.ld (some 26) (.t 86))⟩, ⟨some 88, none, .call (.f 11) [(.t 82), (.t 87)]⟩, ⟨some 89, none, .q (.un .not (.t 88))⟩, ⟨some 15, none, .q (.mv (.t 89))⟩])
  (.keep [0, 7, 9, 10, 11, 12, 13, 14, 15]
  (.seq (.reg (some (14, [])) [⟨some 90, none, .q (.mv (.t 15))⟩, ⟨some 91, none, .q (.mv (.t 90))⟩, ⟨some 92, some (91, false), .q (.mv (.t 0))⟩, ⟨some 93, some (91, false), .q (.mv (.t 7))⟩, ⟨some 94, some (91, false), .q (.ias 26 (.t 92) (.t 93))⟩, ⟨some 95, some (91, false), .q (.ld (some 26) (.t 94))⟩, ⟨some 96, some (91, false), .q (.mv (.t 0))⟩, ⟨some 97, some (91, false), .q (.mv (.t 7))⟩, ⟨some 98, some (91, false), .q (.bin .add (.t 97) (.c (.i .i64 1)))⟩, ⟨some 99, some (91, false), .q (.ias 26 (.t 96) (.t 98))⟩, ⟨some 100, some (91, false), .q (.ld (some 26) (.t 99))⟩, ⟨some 101, some (91, false), .q (.eqg false [.i, .i, .i, .i, .i, .i, .i, .i, .i, .b, .i, .i, .b, .i, .i, .b, .i, .i, .b, .i, .i, .b, .i, .i, .b, .i] (.t 95) (.t 100))⟩, ⟨some 102, none, .pk (.t 91) (.c (.b true)) (.t 101)⟩, ⟨some 16, none, .q (.mv (.t 102))⟩])
  (.keep [9, 10, 11, 12, 13, 14, 16]
  (.seq (.reg none [⟨some 103, none, .q (.mv (.t 10))⟩, ⟨some 104, none, .q (.bin .eql (.t 103) (.c (.i .i64 0)))⟩, ⟨some 105, none, .q (.mv (.t 104))⟩, ⟨some 106, some (105, true), .q (.mv (.t 12))⟩, ⟨some 107, some (105, true), .q (.bin .eql (.t 106) (.c (.i .i64 0)))⟩, ⟨some 108, none, .pk (.t 105) (.t 107) (.c (.b false))⟩, ⟨some 109, none, .q (.mv (.t 108))⟩, ⟨some 110, some (109, true), .q (.mv (.t 14))⟩, ⟨some 111, some (109, true), .q (.bin .eql (.t 110) (.c (.i .i64 0)))⟩, ⟨some 112, none, .pk (.t 109) (.t 111) (.c (.b false))⟩, ⟨some 113, none, .q (.mv (.t 112))⟩, ⟨some 114, some (113, true), .q (.mv (.t 11))⟩, ⟨some 115, some (113, true), .q (.mv (.t 13))⟩, ⟨some 116, some (113, true), .q (.bin .eql (.t 114) (.t 115))⟩, ⟨some 117, some (113, true), .q (.mv (.t 9))⟩, ⟨some 118, some (113, true), .q (.eqb false (.t 116) (.t 117))⟩, ⟨some 119, none, .pk (.t 113) (.t 118) (.c (.b false))⟩, ⟨some 120, none, .q (.mv (.t 119))⟩, ⟨some 121, some (120, true), .q (.mv (.t 9))⟩, ⟨some 122, some (120, true), .q (.mv (.t 16))⟩, ⟨some 123, some (120, true), .q (.eqb false (.t 121) (.t 122))⟩, ⟨some 124, none, .pk (.t 120) (.t 123) (.c (.b false))⟩, ⟨some 4, none, .q (.mv (.t 124))⟩])
  .ret))))))))))))))))))))))
theorem r3 : (Tryd.f3.body.bind (resC Tryd.prog Tryd.f3.ntmps)) = some (strip c3) := by kernel_rfl
theorem s3 : Tryd.f3.results.toList.mapM (resRes Tryd.prog) = some [.t 4] := by kernel_rfl
theorem canonSwaps (t : List Ev) (pick : Int) (ht : t.length ≤ 676622540169) (hI : ∀ e ∈ t, e.B64) : PureS Tryd.prog 3 [.sl 26 (t.map Ev.row), .i .i64 pick] (.b true) := by
  refine fun_go hmx Tryd.func3 r3 s3 (by rw [Tryd.ntmps3]; simp) ?_
  unfold c3
  simp
  first
    | refine callk rfl Tryd.call6 (checkR_p t (by omega)) rfl ?_
    | refine callks rfl Tryd.call6 (checkR_p t (by omega)) rfl ?_
    | refine callq rfl Tryd.call6 (checkR_p t (by omega)) rfl ?_
    | refine callqe rfl Tryd.call6 (checkR_p t (by omega)) rfl ?_
  by_cases h0 : checkT t = 0
  rotate_left
  · simp [h0]
    first
      | refine callk rfl Tryd.call7 (key_p t (by omega) hI) rfl ?_
      | refine callks rfl Tryd.call7 (key_p t (by omega) hI) rfl ?_
      | refine callq rfl Tryd.call7 (key_p t (by omega) hI) rfl ?_
      | refine callqe rfl Tryd.call7 (key_p t (by omega) hI) rfl ?_
    simp [keyR]
    first
      | refine callk rfl Tryd.call6 (checkR_p t (by omega)) rfl ?_
      | refine callks rfl Tryd.call6 (checkR_p t (by omega)) rfl ?_
      | refine callq rfl Tryd.call6 (checkR_p t (by omega)) rfl ?_
      | refine callqe rfl Tryd.call6 (checkR_p t (by omega)) rfl ?_
    simp
    first
      | refine callkg rfl Tryd.call8 rfl (fun _ => small_p) (fun hG => by first | (simp; done) | (simp at hG; done) | simpa using hG) rfl ?_
      | refine callksg rfl Tryd.call8 rfl (fun _ => small_p) (fun hG => by first | (simp; done) | (simp at hG; done) | simpa using hG) rfl ?_
      | refine callqg rfl Tryd.call8 rfl (fun _ => small_p) (fun hG => by first | (simp; done) | (simp at hG; done) | simpa using hG) rfl ?_
    simp
  have h := good_of h0
  have hlen := h.len
  by_cases h2 : t.length < 2
  · have h2I : (t.length : Int) < 2 := by omega
    simp [h0, h2I]
    first
      | refine callk rfl Tryd.call7 (key_p t (by omega) hI) rfl ?_
      | refine callks rfl Tryd.call7 (key_p t (by omega) hI) rfl ?_
      | refine callq rfl Tryd.call7 (key_p t (by omega) hI) rfl ?_
      | refine callqe rfl Tryd.call7 (key_p t (by omega) hI) rfl ?_
    simp [keyR]
    first
      | refine callk rfl Tryd.call6 (checkR_p t (by omega)) rfl ?_
      | refine callks rfl Tryd.call6 (checkR_p t (by omega)) rfl ?_
      | refine callq rfl Tryd.call6 (checkR_p t (by omega)) rfl ?_
      | refine callqe rfl Tryd.call6 (checkR_p t (by omega)) rfl ?_
    simp
    first
      | refine callkg rfl Tryd.call8 rfl (fun _ => small_p) (fun hG => by first | (simp; done) | (simp at hG; done) | simpa using hG) rfl ?_
      | refine callksg rfl Tryd.call8 rfl (fun _ => small_p) (fun hG => by first | (simp; done) | (simp at hG; done) | simpa using hG) rfl ?_
      | refine callqg rfl Tryd.call8 rfl (fun _ => small_p) (fun hG => by first | (simp; done) | (simp at hG; done) | simpa using hG) rfl ?_
    simp
  have h2I : ¬ (t.length : Int) < 2 := by omega
  obtain ⟨n, hn, hn1⟩ : ∃ n : Nat, t.length = n + 1 ∧ 1 ≤ n := ⟨t.length - 1, by omega, by omega⟩
  have hz : 0 ≤ IntKind.u64.wrap pick := by
    simp only [IntKind.wrap, IntKind.signed, IntKind.bits]
    first
      | exact Int.emod_nonneg _ (by decide)
      | omega
  have e1 : IntKind.i64.wrap ((t.length : Int) - 1) = (n : Int) := by rw [wrap_in (by omega) (by omega)]; omega
  have e2 : IntKind.u64.wrap (n : Int) = (n : Int) := wrap_u64_lt (by omega)
  obtain ⟨z, hzz⟩ : ∃ z : Nat, IntKind.u64.wrap pick = (z : Int) := ⟨(IntKind.u64.wrap pick).toNat, by omega⟩
  have hil : z % n < n := Nat.mod_lt _ (by omega)
  have e3 : Int.tmod (z : Int) (n : Int) = ((z % n : Nat) : Int) := by rw [Int.ofNat_tmod]
  obtain ⟨i, hie⟩ : ∃ i, z % n = i := ⟨_, rfl⟩
  rw [hie] at e3 hil
  have e4 : IntKind.i64.wrap (i : Int) = (i : Int) := wrap_in (by omega) (by omega)
  have e5 : IntKind.i64.wrap ((i : Int) + 1) = (i : Int) + 1 := wrap_in (by omega) (by omega)
  have hi : i + 1 < t.length := by omega
  have hi0 : i < t.length := by omega
  have hI1 : (i : Int) < (t.length : Int) := by omega
  have hI2 : (i : Int) + 1 < (t.length : Int) := by omega
  have hI3 : (0 : Int) ≤ (i : Int) + 1 := by omega
  simp [h0, h2I, e1, e2, hzz, e3, e4]
  refine ⟨by omega, ?_⟩
  refine callo rfl Tryd.call9 (own_p t ht) (ev_flat t) ⟨.v _, trivial⟩ ?_
  have hr1 : i < (vrows (t.map Ev.row)).length := by simp; omega
  have hr2 : i + 1 < (vrows (t.map Ev.row)).length := by simp; omega
  have htr := turn_rows13 t i hi hr1 hr2
  have hg1 : ∀ (k : Nat) (hk : k < (vrows (t.map Ev.row)).length), ((vrows (t.map Ev.row))[k]).length = 26 := fun k hk => by simp [vrows]
  have hg := turn_good h hi
  have hu : checkT (turn t i) = 0 := by
    unfold checkT
    rw [if_neg (by have := hg.len; omega), if_pos (List.all_eq_true.2 hg.2)]
  have hIu : ∀ e ∈ turn t i, e.B64 := fun e he => hI e (turn_mem hi he)
  have hul : (turn t i).length < 1000000000000 := by rw [turn_length]; omega
  have hk := key_dec13 h hg
  have hc := turn_class h hi
  have hgi : t.getD i default = t[i] := by rw [List.getD_eq_getElem?_getD, List.getElem?_eq_getElem hi0]; rfl
  have hgj : t.getD (i + 1) default = t[i + 1] := by rw [List.getD_eq_getElem?_getD, List.getElem?_eq_getElem hi]; rfl
  rw [hgi, hgj] at hc
  simp [e5, hi, hi0, hI1, hI2, hI3]
  refine ⟨by rw [hg1]; omega, by rw [hg1]; omega, ?_⟩
  rw [htr]
  simp
  first
    | refine callk rfl Tryd.call10 (same13_p t (turn t i) (by omega) hul) rfl ?_
    | refine callks rfl Tryd.call10 (same13_p t (turn t i) (by omega) hul) rfl ?_
    | refine callq rfl Tryd.call10 (same13_p t (turn t i) (by omega) hul) rfl ?_
    | refine callqe rfl Tryd.call10 (same13_p t (turn t i) (by omega) hul) rfl ?_
  rw [sameR, sameE, if_pos h0, hu]
  simp
  first
    | refine callk rfl Tryd.call7 (key_p t (by omega) hI) rfl ?_
    | refine callks rfl Tryd.call7 (key_p t (by omega) hI) rfl ?_
    | refine callq rfl Tryd.call7 (key_p t (by omega) hI) rfl ?_
    | refine callqe rfl Tryd.call7 (key_p t (by omega) hI) rfl ?_
  simp [keyR, h0]
  first
    | refine callk rfl Tryd.call7 (key_p (turn t i) hul hIu) rfl ?_
    | refine callks rfl Tryd.call7 (key_p (turn t i) hul hIu) rfl ?_
    | refine callq rfl Tryd.call7 (key_p (turn t i) hul hIu) rfl ?_
    | refine callqe rfl Tryd.call7 (key_p (turn t i) hul hIu) rfl ?_
  simp [keyR, hu, e5, hi, hi0, hI1, hI2, hI3]
  first
    | refine callk rfl Tryd.call11 (dependent_p t[i] t[i + 1]) rfl ?_
    | refine callks rfl Tryd.call11 (dependent_p t[i] t[i + 1]) rfl ?_
    | refine callq rfl Tryd.call11 (dependent_p t[i] t[i + 1]) rfl ?_
    | refine callqe rfl Tryd.call11 (dependent_p t[i] t[i + 1]) rfl ?_
  simp [e5, hi, hi0, hI1, hI2, hI3, ev_fit, ev_eqA]
  refine ⟨hk, ?_⟩
  rw [Bool.eq_iff_iff, decide_eq_true_eq, hc]
  simp
end Go.Sc.Or
