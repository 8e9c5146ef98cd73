/- Chapter 12: the law of neighbours changed about. No condition. -/
import Derived.Test.YtgipkikbefnokaaXOrP
import Derived.Test.YtgipkikbefnokaaXEvt6
set_option linter.constructorNameAsVariable false
namespace Go.Sc.Or
open Go Go.RowKit Go.Av Go.Proofs Go.Sc
set_option linter.unusedSimpArgs false
set_option linter.unusedVariables false
section
variable {P : Program} {rd : Option Nat} {k : List Fr} {Q : AE → AS → Prop} {σ : AS} {d : Option Nat} {m : Nat} {os : List AO} {f : AX} {args : List AX} {fid : Nat} {caps : Caps} {j : Nat} {want : Bool}
/-- A known function under a guard that is down is not called. -/
theorem callkd (r : AV) (hf : fnv (ax σ.fr f) = some (fid, caps)) (hc : ∀ vs w, (callFunc fid vs).run P w = .ok (.enter fid vs) w) (hg : gval (lk σ.fr j) want = some false)
    (kk : goR P rd os k Q ⟨upd σ.fr d (.cnd false (.v r)), σ.hp⟩) : goC P rd (some (j, want)) f args d os k Q σ := by
  simp only [goC, CallK, hf, hg]
  exact ⟨hc, r, fun hG => by simp at hG, kk⟩
theorem callqd (r : AV) (hf : fnv (ax σ.fr f) = some (fid, caps)) (hc : ∀ vs w, (callFunc fid vs).run P w = .ok (.enter fid vs) w) (hg : gval (lk σ.fr j) want = some false)
    (kk : goD P rd m os k Q ⟨upd σ.fr d (.cnd false (.v r)), σ.hp⟩) : goCD P rd (some (j, want)) f args d m os k Q σ := by
  simp only [goCD, evQ, hf, hg]
  exact ⟨hc, r, fun hG => by simp at hG, kk⟩
end
theorem good_check {t : List Ev} (h : Good t) : checkT t = 0 := by
  have h1 := h.len
  have h2 : t.all rightE = true := List.all_eq_true.2 h.right
  rw [checkT, if_neg (by omega), if_pos h2]
theorem take_avs6 {m : List Int} (h : m.length = 6) : List.take 6 (avs (AV.i .i64) m) = avs (AV.i .i64) m := List.take_of_length_le (by simp [h])
theorem take_ags6 {m : List Int} (h : m.length = 6) : List.take 6 (ags (AV.i .i64) m) = ags (AV.i .i64) m := List.take_of_length_le (by simp [ags, h])
theorem take_crow6 {m : List Int} (h : m.length = 6) : List.take 6 (crow m) = crow m := List.take_of_length_le (by simp [crow, h])
theorem putAll_avs {m q : List Int} (h : m.length = q.length) : putAll (avs (AV.i .i64) q) 0 (avs (AV.i .i64) m) = avs (AV.i .i64) m := putAll_all (by simp [h])
theorem turn_rows (t : List Ev) (i : Nat) (hi : i + 1 < t.length) (h1 : i < (vrows (t.map Ev.row)).length) (h2 : i + 1 < (vrows (t.map Ev.row)).length) :
    ((vrows (t.map Ev.row)).set i (putAll ((vrows (t.map Ev.row))[i]) 0 (t[i + 1].row.map RV.v))).set (i + 1) (putAll ((vrows (t.map Ev.row))[i + 1]) 0 (t[i].row.map RV.v)) = vrows ((turn t i).map Ev.row) := by
  have hi0 : i < t.length := by omega
  have hgi : t.getD i default = t[i] := by rw [List.getD_eq_getElem?_getD, List.getElem?_eq_getElem hi0]; rfl
  have hgj : t.getD (i + 1) default = t[i + 1] := by rw [List.getD_eq_getElem?_getD, List.getElem?_eq_getElem hi]; rfl
  rw [putAll_all (by simp [vrows]), putAll_all (by simp [vrows])]
  simp only [vrows, turn, hgi, hgj, List.map_set]
/-- scarab/scarablaw12.OrderTurned -/
def c7 : ACode :=
  (.seq (.reg none [⟨some 4, none, .q (.mv (.c (.b false)))⟩])
  (.keep [0, 1]
  (.seq (.seq (.reg (some (28, [])) [⟨some 12, none, .q (.mv (.t 0))⟩, ⟨some 13, none, .call (.f 22) [(.t 12)]⟩, ⟨some 14, none, .q (.bin .neq (.t 13) (.c (.i .i64 0)))⟩, ⟨some 15, none, .q (.mv (.t 14))⟩, ⟨some 16, some (15, false), .q (.mv (.t 0))⟩, ⟨some 17, some (15, false), .q (.mv (.t 1))⟩, ⟨some 18, some (15, false), .call (.f 26) [(.t 16), (.t 17)]⟩, ⟨some 19, some (15, false), .q (.un .not (.t 18))⟩, ⟨some 20, none, .pk (.t 15) (.c (.b true)) (.t 19)⟩, ⟨some 21, none, .q (.mv (.t 20))⟩, ⟨some 22, some (21, false), .q (.mv (.t 0))⟩, ⟨some 23, some (21, false), .q (.mv (.t 1))⟩, ⟨some 24, some (21, false), .q (.bin .add (.t 23) (.c (.i .i64 1)))⟩, ⟨some 25, some (21, false), .call (.f 26) [(.t 22), (.t 24)]⟩, ⟨some 26, some (21, false), .q (.un .not (.t 25))⟩, ⟨some 27, none, .pk (.t 21) (.c (.b true)) (.t 26)⟩, ⟨some 28, none, .q (.mv (.t 27))⟩, ⟨some 29, some (28, false), .q (.mv (.t 0))⟩, ⟨some 30, some (28, false), .q (.mv (.t 1))⟩, ⟨some 31, some (28, false), .q (.ias 26 (.t 29) (.t 30))⟩, ⟨some 32, some (28, false), .q (.ld (some 26) (.t 31))⟩, ⟨some 33, some (28, false), .q (.mv (.t 0))⟩, ⟨some 34, some (28, false), .q (.mv (.t 1))⟩, ⟨some 35, some (28, false), .q (.bin .add (.t 34) (.c (.i .i64 1)))⟩, ⟨some 36, some (28, false), .q (.ias 26 (.t 33) (.t 35))⟩, ⟨some 37, some (28, false), .q (.ld (some 26) (.t 36))⟩, ⟨some 38, some (28, false), .call (.f 27) [(.t 32), (.t 37)]⟩, ⟨some 39, none, .pk (.t 28) (.c (.b true)) (.t 38)⟩])
    (.keep [0, 1, 39]
    (.cond (.t 39) (.seq (.reg none [⟨some 40, none, .call (.f 20) []⟩, ⟨some 4, none, .q (.mv (.t 40))⟩])
      .ret)
    .skip)))
  (.seq (.reg none [⟨some 41, none, .m (.bsl 0 26 [(.i .i64 0), (.i .i64 0), (.i .i64 0), (.i .i64 0), (.i .i64 0), (.i .i64 0), (.i .i64 0), (.i .i64 0), (.i .i64 0), (.b false), (.i .i64 0), (.i .i64 0), (.b false), (.i .i64 0), (.i .i64 0), (.b false), (.i .i64 0), (.i .i64 0), (.b false), (.i .i64 0), (.i .i64 0), (.b false), (.i .i64 0), (.i .i64 0), (.b false), (.i .i64 0)] [])⟩, ⟨some 42, none, .q (.mv (.t 0))⟩, ⟨some 43, none, .m (.app 26 208 (.t 41) (.t 42))⟩, ⟨some 5, none, .q (.mv (.t 43))⟩])
  (.keep [0, 1, 5]
  (.seq (.reg none [⟨some 44, none, .q (.mv (.t 5))⟩, ⟨some 45, none, .q (.mv (.t 1))⟩, ⟨some 46, none, .q (.mv (.t 0))⟩, ⟨some 47, none, .q (.mv (.t 1))⟩, ⟨some 48, none, .q (.bin .add (.t 47) (.c (.i .i64 1)))⟩, ⟨some 49, none, .q (.ias 26 (.t 46) (.t 48))⟩, ⟨some 50, none, .q (.ld (some 26) (.t 49))⟩, ⟨some 51, none, .q (.ias 26 (.t 44) (.t 45))⟩, ⟨none, none, .m (.st 26 (.t 51) (.t 50))⟩])
  (.keep [0, 1, 5]
  (.seq (.reg none [⟨some 52, none, .q (.mv (.t 5))⟩, ⟨some 53, none, .q (.mv (.t 1))⟩, ⟨some 54, none, .q (.bin .add (.t 53) (.c (.i .i64 1)))⟩, ⟨some 55, none, .q (.mv (.t 0))⟩, ⟨some 56, none, .q (.mv (.t 1))⟩, ⟨some 57, none, .q (.ias 26 (.t 55) (.t 56))⟩, ⟨some 58, none, .q (.ld (some 26) (.t 57))⟩, ⟨some 59, none, .q (.ias 26 (.t 52) (.t 54))⟩, ⟨none, none, .m (.st 26 (.t 59) (.t 58))⟩])
  (.keep [0, 1, 5]
  (.seq (.reg none [⟨some 61, none, .q (.mv (.t 0))⟩, ⟨some 62, none, .call (.f 25) [(.t 61)]⟩, ⟨some 60, none, .q (.mv (.t 62))⟩, ⟨some 63, none, .q (.ext 0 (.t 60))⟩, ⟨some 64, none, .q (.ext 1 (.t 60))⟩, ⟨some 6, none, .q (.mv (.t 63))⟩, ⟨some 7, none, .q (.mv (.t 64))⟩])
  (.keep [0, 1, 5, 6, 7]
  (.seq (.gst (.letT 5 26)
    (.reg none [⟨some 66, none, .q (.mv (.t 5))⟩, ⟨some 67, none, .call (.f 25) [(.t 66)]⟩, ⟨some 65, none, .q (.mv (.t 67))⟩, ⟨some 68, none, .q (.ext 0 (.t 65))⟩, ⟨some 69, none, .q (.ext 1 (.t 65))⟩, ⟨some 8, none, .q (.mv (.t 68))⟩, ⟨some 9, none, .q (.mv (.t 69))⟩]))
  (.keep [0, 1, 6, 7, 8, 9]
  (.seq (.seq (.reg none [⟨some 70, none, .q (.mv (.t 7))⟩, ⟨some 71, none, .q (.bin .neq (.t 70) (.c (.i .i64 0)))⟩, ⟨some 72, none, .q (.mv (.t 71))⟩, ⟨some 73, some (72, false), .q (.mv (.t 9))⟩, ⟨some 74, some (72, false), .q (.bin .neq (.t 73) (.c (.i .i64 0)))⟩, ⟨some 75, none, .pk (.t 72) (.c (.b true)) (.t 74)⟩, ⟨some 76, none, .q (.mv (.t 75))⟩, ⟨some 77, some (76, false), .q (.mv (.t 6))⟩, ⟨some 78, some (76, false), .q (.len false (.t 77))⟩, ⟨some 79, some (76, false), .q (.mv (.t 0))⟩, ⟨some 80, some (76, false), .q (.len false (.t 79))⟩, ⟨some 81, some (76, false), .q (.bin .neq (.t 78) (.t 80))⟩, ⟨some 82, none, .pk (.t 76) (.c (.b true)) (.t 81)⟩, ⟨some 83, none, .q (.mv (.t 82))⟩, ⟨some 84, some (83, false), .q (.mv (.t 8))⟩, ⟨some 85, some (83, false), .q (.len false (.t 84))⟩, ⟨some 86, some (83, false), .q (.mv (.t 0))⟩, ⟨some 87, some (83, false), .q (.len false (.t 86))⟩, ⟨some 88, some (83, false), .q (.bin .neq (.t 85) (.t 87))⟩, ⟨some 89, none, .pk (.t 83) (.c (.b true)) (.t 88)⟩])
    (.keep [0, 1, 6, 8, 89]
    (.cond (.t 89) (.seq (.reg none [⟨some 4, none, .q (.mv (.c (.b false)))⟩])
      .ret)
    .skip)))
  (.seq (.seq (.reg none [⟨some 10, none, .q (.mv (.c (.i .i64 0)))⟩])
    (.keep [0, 1, 6, 8, 10]
    (.blk 0 (.keep [0, 1, 6, 8, 10]
    (.loop (.fin [0, 1, 6, 8, 10]
      (.seq (.seq (.reg none [⟨some 90, none, .q (.mv (.t 10))⟩, ⟨some 91, none, .q (.mv (.t 0))⟩, ⟨some 92, none, .q (.len false (.t 91))⟩, ⟨some 93, none, .q (.bin .lss (.t 90) (.t 92))⟩])
        (.keep [0, 1, 6, 8, 10, 93]
        (.cond (.t 93) .skip
        (.exit 0))))
      (.seq (.blk 1 (.seq (.reg none [⟨some 96, none, .q (.mv (.t 6))⟩, ⟨some 97, none, .q (.mv (.t 10))⟩, ⟨some 98, none, .q (.ias 6 (.t 96) (.t 97))⟩, ⟨some 99, none, .q (.ld (some 6) (.t 98))⟩, ⟨some 11, none, .m (.alloc (.g (reps 6 (.i .i64 0))))⟩, ⟨none, none, .m (.st 6 (.t 11) (.t 99))⟩])
        (.keep [0, 1, 6, 8, 10, 11]
        (.seq (.seq (.reg none [⟨some 100, none, .q (.mv (.t 10))⟩, ⟨some 101, none, .q (.mv (.t 1))⟩, ⟨some 102, none, .q (.bin .eql (.t 100) (.t 101))⟩])
          (.keep [0, 1, 6, 8, 10, 11, 102]
          (.cond (.t 102) (.reg none [⟨some 103, none, .q (.mv (.t 6))⟩, ⟨some 104, none, .q (.mv (.t 1))⟩, ⟨some 105, none, .q (.bin .add (.t 104) (.c (.i .i64 1)))⟩, ⟨some 106, none, .q (.ias 6 (.t 103) (.t 105))⟩, ⟨some 107, none, .q (.ld (some 6) (.t 106))⟩, ⟨none, none, .m (.st 6 (.t 11) (.t 107))⟩])
          .skip)))
        (.seq (.seq (.reg none [⟨some 108, none, .q (.mv (.t 10))⟩, ⟨some 109, none, .q (.mv (.t 1))⟩, ⟨some 110, none, .q (.bin .add (.t 109) (.c (.i .i64 1)))⟩, ⟨some 111, none, .q (.bin .eql (.t 108) (.t 110))⟩])
          (.keep [0, 1, 6, 8, 10, 11, 111]
          (.cond (.t 111) (.reg none [⟨some 112, none, .q (.mv (.t 6))⟩, ⟨some 113, none, .q (.mv (.t 1))⟩, ⟨some 114, none, .q (.ias 6 (.t 112) (.t 113))⟩, ⟨some 115, none, .q (.ld (some 6) (.t 114))⟩, ⟨none, none, .m (.st 6 (.t 11) (.t 115))⟩])
          .skip)))
        (.seq (.reg (some (6, [])) [⟨some 116, none, .q (.mv (.t 8))⟩, ⟨some 117, none, .q (.mv (.t 10))⟩, ⟨some 118, none, .q (.ias 6 (.t 116) (.t 117))⟩, ⟨some 119, none, .q (.ld (some 6) (.t 118))⟩, ⟨some 120, none, .q (.ld (some 6) (.t 11))⟩, ⟨some 121, none, .q (.eqg true (reps 6 .i) (.t 119) (.t 120))⟩])
        (.keep [0, 1, 6, 8, 10, 121]
        (.cond (.t 121) (.seq (.reg none [⟨some 4, none, .q (.mv (.c (.b false)))⟩])
          .ret)
        .skip))))))))
      (.keep [0, 1, 6, 8, 10]
      (.reg none [⟨some 94, none, .q (.mv (.t 10))⟩, ⟨some 95, none, .q (.bin .add (.t 94) (.c (.i .i64 1)))⟩, ⟨some 10, none, .q (.mv (.t 95))⟩]))))))))))
  (.seq (.reg none [⟨some 122, none, .call (.f 20) []⟩, ⟨some 4, none, .q (.mv (.t 122))⟩])
  .ret))))))))))))))))
theorem r7 : (Try.f7.body.bind (resC Try.prog Try.f7.ntmps)) = some (strip c7) := by kernel_rfl
theorem s7 : Try.f7.results.toList.mapM (resRes Try.prog) = some [.t 4] := by kernel_rfl
theorem turned_wrong (t : List Ev) (ht : t.length < 1000000000000) (i : Int) (h0 : ¬ checkT t = 0) : PureS Try.prog 7 [.sl 26 (t.map Ev.row), .i .i64 i] (.b true) := by
  have hpi : True := trivial
  have hpj : True := trivial
  refine fun_go hmx Try.func7 r7 s7 (by rw [Try.ntmps7]; simp) ?_
  unfold c7
  simp
  first
    | refine callk rfl Try.call22 (checkR_p t (by omega)) rfl ?_
    | refine callks rfl Try.call22 (checkR_p t (by omega)) rfl ?_
    | refine callq rfl Try.call22 (checkR_p t (by omega)) rfl ?_
    | refine callqe rfl Try.call22 (checkR_p t (by omega)) rfl ?_
  simp [h0]
  first
    | refine callkg rfl Try.call26 rfl (fun _ => (place_p t i)) (fun hG => by first | (simp; done) | (simp at hG; done) | simpa using hG) rfl ?_
    | refine callksg rfl Try.call26 rfl (fun _ => (place_p t i)) (fun hG => by first | (simp; done) | (simp at hG; done) | simpa using hG) rfl ?_
    | refine callqg rfl Try.call26 rfl (fun _ => (place_p t i)) (fun hG => by first | (simp; done) | (simp at hG; done) | simpa using hG) rfl ?_
  simp [h0, hpi]
  first
    | refine callkg rfl Try.call26 rfl (fun _ => (place_p t (IntKind.i64.wrap (i + 1)))) (fun hG => by first | (simp; done) | (simp at hG; done) | simpa using hG) rfl ?_
    | refine callksg rfl Try.call26 rfl (fun _ => (place_p t (IntKind.i64.wrap (i + 1)))) (fun hG => by first | (simp; done) | (simp at hG; done) | simpa using hG) rfl ?_
    | refine callqg rfl Try.call26 rfl (fun _ => (place_p t (IntKind.i64.wrap (i + 1)))) (fun hG => by first | (simp; done) | (simp at hG; done) | simpa using hG) rfl ?_
  simp [h0, hpi, hpj]
  first
    | refine callkd (.b false) rfl Try.call27 (by first | rfl | simp [h0, hpi, hpj]) ?_
    | refine callqd (.b false) rfl Try.call27 (by first | rfl | simp [h0, hpi, hpj]) ?_
  simp [h0, hpi, hpj]
  first
    | refine callk rfl Try.call20 speaks_p rfl ?_
    | refine callks rfl Try.call20 speaks_p rfl ?_
    | refine callq rfl Try.call20 speaks_p rfl ?_
    | refine callqe rfl Try.call20 speaks_p rfl ?_
  simp
theorem turned_i (t : List Ev) (ht : t.length < 1000000000000) (i : Int) (h0 : checkT t = 0) (hi : ¬ (0 ≤ i ∧ i < (t.length : Int))) : PureS Try.prog 7 [.sl 26 (t.map Ev.row), .i .i64 i] (.b true) := by
  have hpi : (decide (0 ≤ i) && decide (i < (t.length : Int))) = false := by rw [Bool.eq_false_iff]; simp; omega
  have hpj : True := trivial
  refine fun_go hmx Try.func7 r7 s7 (by rw [Try.ntmps7]; simp) ?_
  unfold c7
  simp
  first
    | refine callk rfl Try.call22 (checkR_p t (by omega)) rfl ?_
    | refine callks rfl Try.call22 (checkR_p t (by omega)) rfl ?_
    | refine callq rfl Try.call22 (checkR_p t (by omega)) rfl ?_
    | refine callqe rfl Try.call22 (checkR_p t (by omega)) rfl ?_
  simp [h0]
  first
    | refine callkg rfl Try.call26 rfl (fun _ => (place_p t i)) (fun hG => by first | (simp; done) | (simp at hG; done) | simpa using hG) rfl ?_
    | refine callksg rfl Try.call26 rfl (fun _ => (place_p t i)) (fun hG => by first | (simp; done) | (simp at hG; done) | simpa using hG) rfl ?_
    | refine callqg rfl Try.call26 rfl (fun _ => (place_p t i)) (fun hG => by first | (simp; done) | (simp at hG; done) | simpa using hG) rfl ?_
  simp [h0, hpi]
  first
    | refine callkg rfl Try.call26 rfl (fun _ => (place_p t (IntKind.i64.wrap (i + 1)))) (fun hG => by first | (simp; done) | (simp at hG; done) | simpa using hG) rfl ?_
    | refine callksg rfl Try.call26 rfl (fun _ => (place_p t (IntKind.i64.wrap (i + 1)))) (fun hG => by first | (simp; done) | (simp at hG; done) | simpa using hG) rfl ?_
    | refine callqg rfl Try.call26 rfl (fun _ => (place_p t (IntKind.i64.wrap (i + 1)))) (fun hG => by first | (simp; done) | (simp at hG; done) | simpa using hG) rfl ?_
  simp [h0, hpi, hpj]
  first
    | refine callkd (.b false) rfl Try.call27 (by first | rfl | simp [h0, hpi, hpj]) ?_
    | refine callqd (.b false) rfl Try.call27 (by first | rfl | simp [h0, hpi, hpj]) ?_
  simp [h0, hpi, hpj]
  first
    | refine callk rfl Try.call20 speaks_p rfl ?_
    | refine callks rfl Try.call20 speaks_p rfl ?_
    | refine callq rfl Try.call20 speaks_p rfl ?_
    | refine callqe rfl Try.call20 speaks_p rfl ?_
  simp
theorem turned_j (t : List Ev) (ht : t.length < 1000000000000) (i : Int) (h0 : checkT t = 0) (hi : 0 ≤ i ∧ i < (t.length : Int)) (hj : ¬ (0 ≤ IntKind.i64.wrap (i + 1) ∧ IntKind.i64.wrap (i + 1) < (t.length : Int))) : PureS Try.prog 7 [.sl 26 (t.map Ev.row), .i .i64 i] (.b true) := by
  have hpi : (decide (0 ≤ i) && decide (i < (t.length : Int))) = true := by simp; omega
  have hpj : (decide (0 ≤ IntKind.i64.wrap (i + 1)) && decide (IntKind.i64.wrap (i + 1) < (t.length : Int))) = false := by rw [Bool.eq_false_iff]; simp; omega
  refine fun_go hmx Try.func7 r7 s7 (by rw [Try.ntmps7]; simp) ?_
  unfold c7
  simp
  first
    | refine callk rfl Try.call22 (checkR_p t (by omega)) rfl ?_
    | refine callks rfl Try.call22 (checkR_p t (by omega)) rfl ?_
    | refine callq rfl Try.call22 (checkR_p t (by omega)) rfl ?_
    | refine callqe rfl Try.call22 (checkR_p t (by omega)) rfl ?_
  simp [h0]
  first
    | refine callkg rfl Try.call26 rfl (fun _ => (place_p t i)) (fun hG => by first | (simp; done) | (simp at hG; done) | simpa using hG) rfl ?_
    | refine callksg rfl Try.call26 rfl (fun _ => (place_p t i)) (fun hG => by first | (simp; done) | (simp at hG; done) | simpa using hG) rfl ?_
    | refine callqg rfl Try.call26 rfl (fun _ => (place_p t i)) (fun hG => by first | (simp; done) | (simp at hG; done) | simpa using hG) rfl ?_
  simp [h0, hpi]
  first
    | refine callkg rfl Try.call26 rfl (fun _ => (place_p t (IntKind.i64.wrap (i + 1)))) (fun hG => by first | (simp; done) | (simp at hG; done) | simpa using hG) rfl ?_
    | refine callksg rfl Try.call26 rfl (fun _ => (place_p t (IntKind.i64.wrap (i + 1)))) (fun hG => by first | (simp; done) | (simp at hG; done) | simpa using hG) rfl ?_
    | refine callqg rfl Try.call26 rfl (fun _ => (place_p t (IntKind.i64.wrap (i + 1)))) (fun hG => by first | (simp; done) | (simp at hG; done) | simpa using hG) rfl ?_
  simp [h0, hpi, hpj]
  first
    | refine callkd (.b false) rfl Try.call27 (by first | rfl | simp [h0, hpi, hpj]) ?_
    | refine callqd (.b false) rfl Try.call27 (by first | rfl | simp [h0, hpi, hpj]) ?_
  simp [h0, hpi, hpj]
  first
    | refine callk rfl Try.call20 speaks_p rfl ?_
    | refine callks rfl Try.call20 speaks_p rfl ?_
    | refine callq rfl Try.call20 speaks_p rfl ?_
    | refine callqe rfl Try.call20 speaks_p rfl ?_
  simp
theorem turned_ok (t : List Ev) (h0 : checkT t = 0) (i : Nat) (hi : i + 1 < t.length) : PureS Try.prog 7 [.sl 26 (t.map Ev.row), .i .i64 (i : Int)] (.b true) := by
  have h := good_of h0
  have hl := h.len
  have hw : IntKind.i64.wrap ((i : Int) + 1) = (i : Int) + 1 := wrap_in (by omega) (by omega)
  have hi0 : i < t.length := by omega
  have hI : (i : Int) < (t.length : Int) := by omega
  have hI1 : (i : Int) + 1 < (t.length : Int) := by omega
  have hgi : t.getD i default = t[i] := by rw [List.getD_eq_getElem?_getD, List.getElem?_eq_getElem hi0]; rfl
  have hgj : t.getD (i + 1) default = t[i + 1] := by rw [List.getD_eq_getElem?_getD, List.getElem?_eq_getElem hi]; rfl
  have hdT : depT t i (i + 1) = dep t[i] t[i + 1] := by rw [depT, hgi, hgj]
  have hn0 : (0 : Int) ≤ (i : Int) + 1 := by omega
  have hnn : ((i : Int) + 1).toNat = i + 1 := by omega
  have hu : Good (turn t i) := turn_good h hi
  have hu0 : checkT (turn t i) = 0 := good_check hu
  refine fun_go hmx Try.func7 r7 s7 (by rw [Try.ntmps7]; simp) ?_
  unfold c7
  simp
  first
    | refine callk rfl Try.call22 (checkR_p t (by omega)) rfl ?_
    | refine callks rfl Try.call22 (checkR_p t (by omega)) rfl ?_
    | refine callq rfl Try.call22 (checkR_p t (by omega)) rfl ?_
    | refine callqe rfl Try.call22 (checkR_p t (by omega)) rfl ?_
  simp [h0]
  first
    | refine callkg rfl Try.call26 rfl (fun _ => (place_p t (i : Int))) (fun hG => by first | (simp; done) | (simp at hG; done) | simpa using hG) rfl ?_
    | refine callksg rfl Try.call26 rfl (fun _ => (place_p t (i : Int))) (fun hG => by first | (simp; done) | (simp at hG; done) | simpa using hG) rfl ?_
    | refine callqg rfl Try.call26 rfl (fun _ => (place_p t (i : Int))) (fun hG => by first | (simp; done) | (simp at hG; done) | simpa using hG) rfl ?_
  simp [h0, hi0, hw]
  first
    | refine callkg rfl Try.call26 rfl (fun _ => (place_p t ((i : Int) + 1))) (fun hG => by first | (simp; done) | (simp at hG; done) | simpa using hG) rfl ?_
    | refine callksg rfl Try.call26 rfl (fun _ => (place_p t ((i : Int) + 1))) (fun hG => by first | (simp; done) | (simp at hG; done) | simpa using hG) rfl ?_
    | refine callqg rfl Try.call26 rfl (fun _ => (place_p t ((i : Int) + 1))) (fun hG => by first | (simp; done) | (simp at hG; done) | simpa using hG) rfl ?_
  simp [h0, hi0, hw, hI1, hn0, hnn, hi]
  first
    | refine callkg rfl Try.call27 rfl (fun _ => (dependentR_p t[i] t[i + 1])) (fun hG => by first | (simp; done) | (simp at hG; done) | simpa using hG) rfl ?_
    | refine callksg rfl Try.call27 rfl (fun _ => (dependentR_p t[i] t[i + 1])) (fun hG => by first | (simp; done) | (simp at hG; done) | simpa using hG) rfl ?_
    | refine callqg rfl Try.call27 rfl (fun _ => (dependentR_p t[i] t[i + 1])) (fun hG => by first | (simp; done) | (simp at hG; done) | simpa using hG) rfl ?_
  simp [h0, hi0, hw, hI1, hn0, hnn, hi]
  refine ⟨fun _ => ?_, fun hd => ?_⟩
  ·
    first
      | refine callk rfl Try.call20 speaks_p rfl ?_
      | refine callks rfl Try.call20 speaks_p rfl ?_
      | refine callq rfl Try.call20 speaks_p rfl ?_
      | refine callqe rfl Try.call20 speaks_p rfl ?_
    simp
  refine ⟨by omega, by rw [vrows_at]; simp, by rw [vrows_at]; simp, ?_⟩
  first
    | refine callk rfl Try.call25 (clocks_all t (by omega)) rfl ?_
    | refine callks rfl Try.call25 (clocks_all t (by omega)) rfl ?_
    | refine callq rfl Try.call25 (clocks_all t (by omega)) rfl ?_
    | refine callqe rfl Try.call25 (clocks_all t (by omega)) rfl ?_
  rw [turn_rows t i hi]
  simp [h0]
  first
    | refine callk rfl Try.call25 (clocks_all (turn t i) (by rw [turn_length]; omega)) rfl ?_
    | refine callks rfl Try.call25 (clocks_all (turn t i) (by rw [turn_length]; omega)) rfl ?_
    | refine callq rfl Try.call25 (clocks_all (turn t i) (by rw [turn_length]; omega)) rfl ?_
    | refine callqe rfl Try.call25 (clocks_all (turn t i) (by rw [turn_length]; omega)) rfl ?_
  simp [hu0]
  have hB : ∀ (k : Nat) (hk : k < t.length), (clk (turn t i) t.length)[k]'(by simpa using hk) = (clk t t.length)[swN i k]'(by simpa using swN_lt hi hk) := fun k hk => by
    have h1 := clk_get (turn t i) (n := t.length) (i := k) hk
    have h2 := clk_get t (n := t.length) (i := swN i k) (swN_lt hi hk)
    rw [turn_clk hi (hdT.trans hd) k hk, ← h2] at h1
    rw [List.getD_eq_getElem?_getD, List.getD_eq_getElem?_getD, List.getElem?_eq_getElem (by simpa using hk), List.getElem?_eq_getElem (by simpa using swN_lt hi hk)] at h1
    exact h1
  have hA : ∀ (k : Nat) (hk : k < t.length), ((clk t t.length)[k]'(by simpa using hk)).length = 6 := fun k hk => by
    have h1 := clk_get t (n := t.length) (i := k) hk
    have h2 := clkAt_length t k
    rw [← h1, List.getD_eq_getElem?_getD, List.getElem?_eq_getElem (by simpa using hk)] at h2
    exact h2
  refine go_while hmx 1 (fun (k : Nat) => [(10, .v (.i .i64 (k : Int)))]) (fun _ => [.none]) (fun k => k ≤ t.length) (fun k => t.length - k) 0 rfl (by simp) rfl (by simp) (by simp) (by simp) (Nat.zero_le _) ?_
  intro k hk
  by_cases hkl : k < t.length
  · have hI : (k : Int) < (t.length : Int) := by omega
    have hwk : IntKind.i64.wrap ((k : Int) + 1) = (k : Int) + 1 := wrap_in (by omega) (by omega)
    have hk6 := hA k hkl
    have hi6 := hA i hi0
    have hj6 := hA (i + 1) hi
    have hb := hB k hkl
    have hb6 := hA _ (swN_lt hi hkl)
    rw [← hb] at hb6
    have hr6 : (reps 6 (0 : Int)).length = 6 := rfl
    by_cases hki : k = i
    · subst hki
      have hne : ¬ (k : Int) = (k : Int) + 1 := by omega
      simp only [swN, if_pos] at hb
      simp [hI, hkl, hw, hi0, hi, hn0, hnn, hk6, hj6, hb6, hr6, take_avs6, putAll_avs, take_crow6, hne, mapM_avs, crow, fitA_i, eqA_i, hI1, hb, take_ags6]
      exact ⟨k + 1, by first | (rw [hwk]; rfl) | rfl, by omega, by omega⟩
    · have hne : ¬ (k : Int) = (i : Int) := by omega
      by_cases hkj : k = i + 1
      · subst hkj
        simp only [swN, if_pos, if_neg (show ¬ i + 1 = i by omega)] at hb
        simp [hI, hkl, hw, hi0, hi, hn0, hnn, hk6, hi6, hj6, hb6, hr6, take_avs6, putAll_avs, take_crow6, hne, mapM_avs, crow, fitA_i, eqA_i, hI1, hb, take_ags6]
        exact ⟨i + 1 + 1, by rw [show (i : Int) + 1 + 1 = ((i + 1 : Nat) : Int) + 1 from rfl, hwk]; rfl, by omega, by omega⟩
      · have hne2 : ¬ (k : Int) = (i : Int) + 1 := by omega
        simp only [swN, if_neg hki, if_neg hkj] at hb
        simp [hI, hkl, hw, hi0, hi, hn0, hnn, hk6, hi6, hj6, hb6, hr6, take_avs6, putAll_avs, take_crow6, hne, hne2, mapM_avs, crow, fitA_i, eqA_i, hI1, hb, take_ags6]
        exact ⟨k + 1, by rw [hwk]; rfl, by omega, by omega⟩
  · obtain rfl : k = t.length := by omega
    simp
    first
      | refine callk rfl Try.call20 speaks_p rfl ?_
      | refine callks rfl Try.call20 speaks_p rfl ?_
      | refine callq rfl Try.call20 speaks_p rfl ?_
      | refine callqe rfl Try.call20 speaks_p rfl ?_
    simp
theorem orderTurned (t : List Ev) (ht : t.length < 1000000000000) (i : Int) : PureS Try.prog 7 [.sl 26 (t.map Ev.row), .i .i64 i] (.b true) := by
  by_cases h0 : checkT t = 0
  rotate_left
  · exact turned_wrong t ht i h0
  have hl := (good_of h0).len
  by_cases hi : 0 ≤ i ∧ i < (t.length : Int)
  rotate_left
  · exact turned_i t ht i h0 hi
  have hw : IntKind.i64.wrap (i + 1) = i + 1 := wrap_in (by omega) (by omega)
  by_cases hj : 0 ≤ IntKind.i64.wrap (i + 1) ∧ IntKind.i64.wrap (i + 1) < (t.length : Int)
  rotate_left
  · exact turned_j t ht i h0 hi hj
  obtain ⟨n, rfl⟩ : ∃ n : Nat, i = (n : Int) := ⟨i.toNat, by omega⟩
  rw [hw] at hj
  exact turned_ok t h0 n (by omega)
end Go.Sc.Or
