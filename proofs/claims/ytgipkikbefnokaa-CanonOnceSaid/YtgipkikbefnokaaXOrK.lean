/- Chapter 12: the document's own: what happens before what. No condition. -/
import Derived.Test.YtgipkikbefnokaaXOrA
import Derived.Test.YtgipkikbefnokaaXEvt
set_option linter.constructorNameAsVariable false
namespace Go.Sc.Or
open Go Go.RowKit Go.Av Go.Proofs Go.Sc
set_option linter.unusedSimpArgs false
set_option linter.unusedVariables false
def c36 : ACode :=
  (.seq (.reg none [⟨some 2, none, .q (.mv (.c .nil))⟩])
  (.keep [0]
  (.seq (.reg none [⟨some 9, none, .q (.mv (.t 0))⟩, ⟨some 10, none, .q (.len false (.t 9))⟩, ⟨some 3, none, .q (.mv (.t 10))⟩])
  (.keep [0, 3]
  (.seq (.reg none [⟨some 11, none, .q (.mv (.t 3))⟩, ⟨some 12, none, .m (.mks 1 24 [.nil] (.t 11) (.t 11))⟩, ⟨some 4, none, .q (.mv (.t 12))⟩])
  (.keep [0, 3, 4]
  (.seq (.seq (.reg none [⟨some 5, none, .q (.mv (.c (.i .i64 0)))⟩])
    (.keep [0, 3, 4, 5]
    (.blk 0 (.keep [0, 3, 4, 5]
    (.loop (.fin [0, 3, 4, 5]
      (.seq (.seq (.reg none [⟨some 13, none, .q (.mv (.t 5))⟩, ⟨some 14, none, .q (.mv (.t 3))⟩, ⟨some 15, none, .q (.bin .lss (.t 13) (.t 14))⟩])
        (.keep [0, 3, 4, 5, 15]
        (.cond (.t 15) .skip
        (.exit 0))))
      (.seq (.blk 1 (.reg none [⟨some 18, none, .q (.mv (.t 4))⟩, ⟨some 19, none, .q (.mv (.t 5))⟩, ⟨some 20, none, .q (.mv (.t 3))⟩, ⟨some 21, none, .m (.mks 1 1 [(.b false)] (.t 20) (.t 20))⟩, ⟨some 22, none, .q (.ias 1 (.t 18) (.t 19))⟩, ⟨none, none, .m (.st 1 (.t 22) (.t 21))⟩]))
      (.keep [0, 3, 4, 5]
      (.reg none [⟨some 16, none, .q (.mv (.t 5))⟩, ⟨some 17, none, .q (.bin .add (.t 16) (.c (.i .i64 1)))⟩, ⟨some 5, none, .q (.mv (.t 17))⟩]))))))))))
  (.seq (.seq (.reg none [⟨some 6, none, .q (.mv (.c (.i .i64 0)))⟩])
    (.keep [0, 3, 4, 6]
    (.blk 2 (.keep [0, 3, 4, 6]
    (.loop (.fin [0, 3, 4, 6]
      (.seq (.seq (.reg none [⟨some 23, none, .q (.mv (.t 6))⟩, ⟨some 24, none, .q (.mv (.t 3))⟩, ⟨some 25, none, .q (.bin .lss (.t 23) (.t 24))⟩])
        (.keep [0, 3, 4, 6, 25]
        (.cond (.t 25) .skip
        (.exit 2))))
      (.seq (.blk 3 (.seq (.reg none [⟨some 28, none, .q (.mv (.t 6))⟩, ⟨some 29, none, .q (.bin .sub (.t 28) (.c (.i .i64 1)))⟩, ⟨some 7, none, .q (.mv (.t 29))⟩])
        (.keep [0, 3, 4, 6, 7]
        (.blk 4 (.keep [0, 3, 4, 6, 7]
        (.loop (.fin [0, 3, 4, 6, 7]
          (.seq (.seq (.reg none [⟨some 30, none, .q (.mv (.t 7))⟩, ⟨some 31, none, .q (.bin .geq (.t 30) (.c (.i .i64 0)))⟩])
            (.keep [0, 3, 4, 6, 7, 31]
            (.cond (.t 31) .skip
            (.exit 4))))
          (.seq (.blk 5 (.seq (.seq (.reg (some (16, [])) [⟨some 34, none, .q (.mv (.t 4))⟩, ⟨some 35, none, .q (.mv (.t 7))⟩, ⟨some 36, none, .q (.ias 1 (.t 34) (.t 35))⟩, ⟨some 37, none, .q (.ld none (.t 36))⟩, ⟨some 38, none, .q (.mv (.t 6))⟩, ⟨some 39, none, .q (.ias 1 (.t 37) (.t 38))⟩, ⟨some 40, none, .q (.ld none (.t 39))⟩, ⟨some 41, none, .q (.mv (.t 40))⟩, ⟨some 42, some (41, false), .q (.mv (.t 0))⟩, ⟨some 43, some (41, false), .q (.mv (.t 7))⟩, ⟨some 44, some (41, false), .q (.ias 26 (.t 42) (.t 43))⟩, ⟨some 45, some (41, false), .q (.ld (some 26) (.t 44))⟩, ⟨some 46, some (41, false), .q (.mv (.t 0))⟩, ⟨some 47, some (41, false), .q (.mv (.t 6))⟩, ⟨some 48, some (41, false), .q (.ias 26 (.t 46) (.t 47))⟩, ⟨some 49, some (41, false), .q (.ld (some 26) (.t 48))⟩, ⟨some 50, some (41, false), .call (.f 27) [(.t 45), (.t 49)]⟩, ⟨some 51, some (41, false), .q (.un .not (.t 50))⟩, ⟨some 52, none, .pk (.t 41) (.c (.b true)) (.t 51)⟩])
              (.keep [0, 3, 4, 6, 7, 52]
              (.cond (.t 52) (.exit 5)
              .skip)))
            (.seq (.reg none [⟨some 53, none, .q (.mv (.t 4))⟩, ⟨some 54, none, .q (.mv (.t 7))⟩, ⟨some 55, none, .q (.ias 1 (.t 53) (.t 54))⟩, ⟨some 56, none, .q (.ld none (.t 55))⟩, ⟨some 57, none, .q (.mv (.t 6))⟩, ⟨some 58, none, .q (.ias 1 (.t 56) (.t 57))⟩, ⟨none, none, .m (.st 1 (.t 58) (.c (.b true)))⟩])
            (.keep [0, 3, 4, 6, 7]
            (.seq (.reg none [⟨some 8, none, .q (.mv (.c (.i .i64 0)))⟩])
            (.keep [0, 3, 4, 6, 7, 8]
            (.blk 6 (.keep [0, 3, 4, 6, 7, 8]
            (.loop (.fin [0, 3, 4, 6, 7, 8]
              (.seq (.seq (.reg none [⟨some 59, none, .q (.mv (.t 8))⟩, ⟨some 60, none, .q (.mv (.t 7))⟩, ⟨some 61, none, .q (.bin .lss (.t 59) (.t 60))⟩])
                (.keep [0, 3, 4, 6, 7, 8, 61]
                (.cond (.t 61) .skip
                (.exit 6))))
              (.seq (.blk 7 (.reg (some (22, [])) [⟨some 64, none, .q (.mv (.t 4))⟩, ⟨some 65, none, .q (.mv (.t 8))⟩, ⟨some 66, none, .q (.ias 1 (.t 64) (.t 65))⟩, ⟨some 67, none, .q (.ld none (.t 66))⟩, ⟨some 68, none, .q (.mv (.t 6))⟩, ⟨some 69, none, .q (.mv (.t 4))⟩, ⟨some 70, none, .q (.mv (.t 8))⟩, ⟨some 71, none, .q (.ias 1 (.t 69) (.t 70))⟩, ⟨some 72, none, .q (.ld none (.t 71))⟩, ⟨some 73, none, .q (.mv (.t 6))⟩, ⟨some 74, none, .q (.ias 1 (.t 72) (.t 73))⟩, ⟨some 75, none, .q (.ld none (.t 74))⟩, ⟨some 76, none, .q (.mv (.t 75))⟩, ⟨some 77, some (76, false), .q (.mv (.t 4))⟩, ⟨some 78, some (76, false), .q (.mv (.t 8))⟩, ⟨some 79, some (76, false), .q (.ias 1 (.t 77) (.t 78))⟩, ⟨some 80, some (76, false), .q (.ld none (.t 79))⟩, ⟨some 81, some (76, false), .q (.mv (.t 7))⟩, ⟨some 82, some (76, false), .q (.ias 1 (.t 80) (.t 81))⟩, ⟨some 83, some (76, false), .q (.ld none (.t 82))⟩, ⟨some 84, none, .pk (.t 76) (.c (.b true)) (.t 83)⟩, ⟨some 85, none, .q (.ias 1 (.t 67) (.t 68))⟩, ⟨none, none, .m (.st 1 (.t 85) (.t 84))⟩]))
              (.keep [0, 3, 4, 6, 7, 8]
              (.reg none [⟨some 62, none, .q (.mv (.t 8))⟩, ⟨some 63, none, .q (.bin .add (.t 62) (.c (.i .i64 1)))⟩, ⟨some 8, none, .q (.mv (.t 63))⟩]))))))))))))))
          (.keep [0, 3, 4, 6, 7]
          (.reg none [⟨some 32, none, .q (.mv (.t 7))⟩, ⟨some 33, none, .q (.bin .sub (.t 32) (.c (.i .i64 1)))⟩, ⟨some 7, none, .q (.mv (.t 33))⟩])))))))))))
      (.keep [0, 3, 4, 6]
      (.reg none [⟨some 26, none, .q (.mv (.t 6))⟩, ⟨some 27, none, .q (.bin .add (.t 26) (.c (.i .i64 1)))⟩, ⟨some 6, none, .q (.mv (.t 27))⟩]))))))))))
  (.seq (.reg none [⟨some 86, none, .q (.mv (.t 4))⟩, ⟨some 2, none, .q (.mv (.t 86))⟩])
  .ret)))))))))
theorem r36 : (Try.f36.body.bind (resC Try.prog Try.f36.ntmps)) = some (strip c36) := by kernel_rfl
theorem s36 : Try.f36.results.toList.mapM (resRes Try.prog) = some [.t 2] := by kernel_rfl
def brow (b : Bool) : List AV := [.b b]
def refsTo (n i : Nat) : List (List RV) := (List.range n).map fun k => if k < i then [RV.os (k + 1) 0] else [.v .nil]
@[simp] theorem refsTo_length (n i : Nat) : (refsTo n i).length = n := by simp [refsTo]
theorem refsTo_get {n i k : Nat} (hk : k < (refsTo n i).length) : (refsTo n i)[k] = if k < i then [RV.os (k + 1) 0] else [.v .nil] := by simp [refsTo]
theorem refsTo_zero (n : Nat) : refsTo n 0 = List.replicate n [.v .nil] := by
  apply List.ext_getElem (by simp)
  intro k h1 h2
  rw [refsTo_get]; simp
theorem refsTo_set {n i : Nat} (hi : i < n) : (refsTo n i).set i [RV.os (i + 1) 0] = refsTo n (i + 1) := by
  apply List.ext_getElem (by simp)
  intro k h1 h2
  rw [List.getElem_set, refsTo_get, refsTo_get]
  by_cases e : i = k
  · subst e; simp
  · rw [if_neg e]
    by_cases h : k < i
    · rw [if_pos h, if_pos (by omega)]
    · rw [if_neg h, if_neg (by omega)]
def mats (M : List (List Bool)) : List AObj := M.map fun r => .arr 0 1 (vrows (r.map brow))
@[simp] theorem mats_length (M : List (List Bool)) : (mats M).length = M.length := by simp [mats]
theorem mats_get {M : List (List Bool)} {k : Nat} {r : List Bool} (h : M[k]? = some r) : (mats M)[k]? = some (.arr 0 1 (vrows (r.map brow))) := by simp [mats, h]
theorem mats_at {M : List (List Bool)} {k : Nat} (h : k < (mats M).length) : (mats M)[k] = .arr 0 1 (vrows ((M[k]'(by simpa using h)).map brow)) := by simp [mats]
theorem mat_at {n : Nat} {f : Nat → Nat → Bool} {k : Nat} (h : k < (mat n f).length) : (mat n f)[k] = (List.range n).map (f k) := by simp [mat]
theorem mats_set (M : List (List Bool)) (k : Nat) (r : List Bool) : (mats M).set k (.arr 0 1 (vrows (r.map brow))) = mats (M.set k r) := by simp [mats, List.map_set]
theorem mats_app (M : List (List Bool)) (r : List Bool) : mats M ++ [.arr 0 1 (vrows (r.map brow))] = mats (M ++ [r]) := by simp [mats]
theorem row_set (r : List Bool) (b : Nat) (x : Bool) : (vrows (r.map brow)).set b [RV.v (.b x)] = vrows ((r.set b x).map brow) := by simp [vrows, List.map_set, brow]
theorem heap_set {n : Nat} {f : Nat → Nat → Bool} {a b : Nat} {x : Bool} : (mats (mat n f)).set a (.arr 0 1 ((vrows (((List.range n).map (f a)).map brow)).set b [RV.v (.b x)])) = mats (mat n (updM f a b x)) := by
  rw [row_set, mats_set, mat_set]
theorem before_r (t : List Ev) (h : Good t) : PureS Try.prog 36 [.sl 26 (t.map Ev.row)] (.sl 1 ((mat t.length (befT t)).map fun r => [.sl 1 (r.map brow)])) := by
  have hl := h.len
  refine pure_of ?_
  refine fun_go hmx Try.func36 r36 s36 (by rw [Try.ntmps36]; simp) ?_
  unfold c36
  simp
  refine ⟨by omega, ?_⟩
  refine go_count hmx 5 0 t.length (fun i h => h = .arr 0 1 (refsTo t.length i) :: mats (List.replicate i (List.replicate t.length false))) (Nat.zero_le _) (by omega) rfl (by simp [refsTo_zero, vrows, mats]) ?_ ?_
  · rintro i h - hil rfl hw
    have hI : (i : Int) < (t.length : Int) := by omega
    simp [hI, hil, refsTo_get]
    refine ⟨⟨by omega, by omega⟩, hw, refsTo_set hil, ?_⟩
    rw [List.replicate_succ', ← mats_app]
    simp [vrows, brow]
  · rintro h rfl
    simp
    have hM0 : List.replicate t.length (List.replicate t.length false) = mat t.length (befC t 0 0) := by
      rw [befC_start]
      apply List.ext_getElem (by simp)
      intro k h1 h2
      simp only [List.getElem_replicate, mat, List.getElem_map]
      apply List.ext_getElem (by simp)
      intro q h3 h4
      simp
    rw [hM0]
    refine go_count hmx 6 0 t.length (fun j h => h = .arr 0 1 (refsTo t.length t.length) :: mats (mat t.length (befC t j j))) (Nat.zero_le _) (by omega) rfl rfl ?_ ?_
    · rintro j h - hjl rfl hwj
      have hJ : (j : Int) < (t.length : Int) := by omega
      have hw0 : IntKind.i64.wrap ((j : Int) - 1) = (j : Int) - 1 := wrap_in (by omega) (by omega)
      simp [hJ, hw0]
      refine go_rounds hmx (fun (m : Nat) σ' => m ≤ j ∧ σ' = ⟨[(0, .v (.sl 26 (t.map Ev.row))), (3, .v (.i .i64 (t.length : Int))), (4, .os 0 0), (6, .v (.i .i64 (j : Int))), (7, .v (.i .i64 ((m : Int) - 1)))], .arr 0 1 (refsTo t.length t.length) :: mats (mat t.length (befC t j m))⟩) (fun m => m) j ⟨Nat.le_refl _, rfl⟩ ?_
      rintro m _ ⟨hm, rfl⟩
      cases m with
      | zero =>
        simp [hwj]
        rw [befC_next h hjl]
      | succ m =>
        have hmt : m < t.length := by omega
        have hmj : m < j := by omega
        have hw1 : IntKind.i64.wrap ((m : Int) - 1) = (m : Int) - 1 := wrap_in (by omega) (by omega)
        have hm1 : ((m : Nat) : Int) + 1 - 1 = (m : Int) := by omega
        have hMI : (m : Int) < (t.length : Int) := by omega
        simp [hm1, hmt, hjl, hMI, hJ, refsTo_get, mats_at, mat_at, vrows_at, brow]
        have hgm : t.getD m default = t[m] := by rw [List.getD_eq_getElem?_getD, List.getElem?_eq_getElem hmt]; rfl
        have hgj : t.getD j default = t[j] := by rw [List.getD_eq_getElem?_getD, List.getElem?_eq_getElem hjl]; rfl
        have hdT : depT t m j = dep t[m] t[j] := by rw [depT, hgm, hgj]
        have hcv : befC t j (m + 1) m j = colT t j (m + 1) m := by unfold befC; rw [if_neg (by omega), if_pos rfl]
        first
          | refine callkg rfl Try.call27 rfl (fun _ => (dependentR_p t[m] t[j])) (fun hG => by first | (simp; done) | (simp at hG; done) | simpa using hG) rfl ?_
          | refine callksg rfl Try.call27 rfl (fun _ => (dependentR_p t[m] t[j])) (fun hG => by first | (simp; done) | (simp at hG; done) | simpa using hG) rfl ?_
          | refine callqg rfl Try.call27 rfl (fun _ => (dependentR_p t[m] t[j])) (fun hG => by first | (simp; done) | (simp at hG; done) | simpa using hG) rfl ?_
        rw [hcv, ← hdT]
        simp
        refine ⟨fun hs => ?_, fun hc hd => ?_⟩
        · simp [hw1]
          exact ⟨m, ⟨by omega, ⟨rfl, by rw [befC_skip h hjl (by omega) hs]⟩⟩, by omega⟩
        · simp [hmt, hjl, hMI, hJ, refsTo_get, mats_at, mat_at, vrows_at, brow]
          refine go_count hmx 8 0 m (fun k h => h = .arr 0 1 (refsTo t.length t.length) :: mats (mat t.length (befK t j m k))) (Nat.zero_le _) (by omega) rfl ?_ ?_ ?_
          · have := heap_set (n := t.length) (f := befC t j (m + 1)) (a := m) (b := j) (x := true)
            rw [befK_start] at this
            rw [← this]
            simp [brow]
          · rintro k h - hkm rfl hwk
            have hkt : k < t.length := by omega
            have hK : (k : Int) < (m : Int) := by omega
            have hKI : (k : Int) < (t.length : Int) := by omega
            have hhs := heap_set (n := t.length) (f := befK t j m k) (a := k) (b := j) (x := befK t j m k k j || befK t j m k k m)
            rw [befK_step hkm (by omega)] at hhs
            simp [hK, hkt, hjl, hmt, hMI, hJ, hKI, refsTo_get, mats_at, mat_at, vrows_at, brow]
            exact ⟨hwk, by rw [← hhs]; simp⟩
          · rintro h rfl
            simp [hw1]
            exact ⟨m, ⟨by omega, ⟨rfl, by rw [befK_all h hmj hd]⟩⟩, by omega⟩
    · rintro h rfl
      simp
      rw [befC_all]
      refine .os rfl (by simp) (fun r row row' hr hr' => ?_) (fun r row row' q x x' hr hr' hx hx' => ?_)
      · have h1 := (List.getElem?_eq_some_iff.1 hr)
        obtain ⟨h1, rfl⟩ := h1
        obtain ⟨h2, rfl⟩ := List.getElem?_eq_some_iff.1 hr'
        rw [refsTo_get]
        simp at h1
        rw [if_pos h1]; simp
      · obtain ⟨h1, rfl⟩ := List.getElem?_eq_some_iff.1 hr
        obtain ⟨h2, rfl⟩ := List.getElem?_eq_some_iff.1 hr'
        simp only [refsTo_length] at h1
        rw [refsTo_get, if_pos h1] at hx
        rcases q with _ | q
        · simp [mat] at hx hx'
          subst hx; subst hx'
          have := Frz.plain (H := AObj.arr 0 1 (refsTo t.length t.length) :: mats (mat t.length (befT t))) (o := r + 1) (ver := 0) (sz := 1) (rows := ((List.range t.length).map (befT t r)).map brow) (by
            rw [List.getElem?_cons_succ, mats_get (mat_get h1)]; rfl)
          rw [List.map_map] at this
          exact this
        · simp at hx
end Go.Sc.Or
/- Chapter 12: the document's own: pasts, edges, clocks, what is last, the height. No condition. -/
set_option linter.constructorNameAsVariable false
namespace Go.Sc.Or
open Go Go.RowKit Go.Av Go.Proofs Go.Sc
set_option linter.unusedSimpArgs false
set_option linter.unusedVariables false
def c37 : ACode :=
  (.seq (.reg none [⟨some 4, none, .q (.mv (.c .nil))⟩])
  (.keep [0, 1]
  (.seq (.reg none [⟨some 5, none, .q (.mv (.c .nil))⟩])
  (.gst (.nilT 5 1)
  (.keep [0, 1, 5]
  (.seq (.seq (.reg none [⟨some 6, none, .q (.mv (.c (.i .i64 0)))⟩])
    (.keep [0, 1, 5, 6]
    (.blk 0 (.keep [0, 1, 5, 6]
    (.loop (.fin [0, 1, 5, 6]
      (.seq (.seq (.reg none [⟨some 7, none, .q (.mv (.t 6))⟩, ⟨some 8, none, .q (.mv (.t 0))⟩, ⟨some 9, none, .q (.len false (.t 8))⟩, ⟨some 10, none, .q (.bin .lss (.t 7) (.t 9))⟩])
        (.keep [0, 1, 5, 6, 10]
        (.cond (.t 10) .skip
        (.exit 0))))
      (.seq (.blk 1 (.seq (.reg none [⟨some 13, none, .q (.mv (.t 0))⟩, ⟨some 14, none, .q (.mv (.t 6))⟩, ⟨some 15, none, .q (.ias 1 (.t 13) (.t 14))⟩, ⟨some 16, none, .q (.ld none (.t 15))⟩, ⟨some 17, none, .q (.mv (.t 1))⟩, ⟨some 18, none, .q (.ias 1 (.t 16) (.t 17))⟩, ⟨some 19, none, .q (.ld none (.t 18))⟩])
        (.keep [0, 1, 5, 6, 19]
        (.cond (.t 19) (.reg none [⟨some 20, none, .q (.mv (.t 5))⟩, ⟨some 21, none, .q (.mv (.t 6))⟩, ⟨some 22, none, .m (.bsl 1 1 [(.i .i64 0)] [(0, 1, .t 21)])⟩, ⟨some 23, none, .m (.app 1 8 (.t 20) (.t 22))⟩, ⟨some 5, none, .q (.mv (.t 23))⟩])
        .skip))))
      (.keep [0, 1, 5, 6]
      (.reg none [⟨some 11, none, .q (.mv (.t 6))⟩, ⟨some 12, none, .q (.bin .add (.t 11) (.c (.i .i64 1)))⟩, ⟨some 6, none, .q (.mv (.t 12))⟩]))))))))))
  (.seq (.gst (.letT 5 1)
    (.reg none [⟨some 24, none, .q (.mv (.t 5))⟩, ⟨some 4, none, .q (.mv (.t 24))⟩]))
  .ret)))))))
theorem r37 : (Try.f37.body.bind (resC Try.prog Try.f37.ntmps)) = some (strip c37) := by kernel_rfl
theorem s37 : Try.f37.results.toList.mapM (resRes Try.prog) = some [.t 4] := by kernel_rfl
def c71 : ACode :=
  (.seq (.reg none [⟨some 6, none, .q (.mv (.c (.b false)))⟩])
  (.keep [0, 1, 2]
  (.seq (.seq (.reg none [⟨some 8, none, .q (.mv (.t 0))⟩, ⟨some 9, none, .q (.mv (.t 1))⟩, ⟨some 10, none, .q (.ias 1 (.t 8) (.t 9))⟩, ⟨some 11, none, .q (.ld none (.t 10))⟩, ⟨some 12, none, .q (.mv (.t 2))⟩, ⟨some 13, none, .q (.ias 1 (.t 11) (.t 12))⟩, ⟨some 14, none, .q (.ld none (.t 13))⟩, ⟨some 15, none, .q (.un .not (.t 14))⟩])
    (.keep [0, 1, 2, 15]
    (.cond (.t 15) (.seq (.reg none [⟨some 6, none, .q (.mv (.c (.b false)))⟩])
      .ret)
    .skip)))
  (.seq (.seq (.reg none [⟨some 16, none, .q (.mv (.t 1))⟩, ⟨some 17, none, .q (.bin .add (.t 16) (.c (.i .i64 1)))⟩, ⟨some 7, none, .q (.mv (.t 17))⟩])
    (.keep [0, 1, 2, 7]
    (.blk 0 (.keep [0, 1, 2, 7]
    (.loop (.fin [0, 1, 2, 7]
      (.seq (.seq (.reg none [⟨some 18, none, .q (.mv (.t 7))⟩, ⟨some 19, none, .q (.mv (.t 2))⟩, ⟨some 20, none, .q (.bin .lss (.t 18) (.t 19))⟩])
        (.keep [0, 1, 2, 7, 20]
        (.cond (.t 20) .skip
        (.exit 0))))
      (.seq (.blk 1 (.seq (.reg none [⟨some 23, none, .q (.mv (.t 0))⟩, ⟨some 24, none, .q (.mv (.t 1))⟩, ⟨some 25, none, .q (.ias 1 (.t 23) (.t 24))⟩, ⟨some 26, none, .q (.ld none (.t 25))⟩, ⟨some 27, none, .q (.mv (.t 7))⟩, ⟨some 28, none, .q (.ias 1 (.t 26) (.t 27))⟩, ⟨some 29, none, .q (.ld none (.t 28))⟩, ⟨some 30, none, .q (.mv (.t 29))⟩, ⟨some 31, some (30, true), .q (.mv (.t 0))⟩, ⟨some 32, some (30, true), .q (.mv (.t 7))⟩, ⟨some 33, some (30, true), .q (.ias 1 (.t 31) (.t 32))⟩, ⟨some 34, some (30, true), .q (.ld none (.t 33))⟩, ⟨some 35, some (30, true), .q (.mv (.t 2))⟩, ⟨some 36, some (30, true), .q (.ias 1 (.t 34) (.t 35))⟩, ⟨some 37, some (30, true), .q (.ld none (.t 36))⟩, ⟨some 38, none, .pk (.t 30) (.t 37) (.c (.b false))⟩])
        (.keep [0, 1, 2, 7, 38]
        (.cond (.t 38) (.seq (.reg none [⟨some 6, none, .q (.mv (.c (.b false)))⟩])
          .ret)
        .skip))))
      (.keep [0, 1, 2, 7]
      (.reg none [⟨some 21, none, .q (.mv (.t 7))⟩, ⟨some 22, none, .q (.bin .add (.t 21) (.c (.i .i64 1)))⟩, ⟨some 7, none, .q (.mv (.t 22))⟩]))))))))))
  (.seq (.reg none [⟨some 6, none, .q (.mv (.c (.b true)))⟩])
  .ret)))))
theorem r71 : (Try.f71.body.bind (resC Try.prog Try.f71.ntmps)) = some (strip c71) := by kernel_rfl
theorem s71 : Try.f71.results.toList.mapM (resRes Try.prog) = some [.t 6] := by kernel_rfl
def c30 : ACode :=
  (.seq (.reg none [⟨some 2, none, .q (.mv (.c .nil))⟩])
  (.keep [0]
  (.seq (.reg none [⟨some 7, none, .q (.mv (.t 0))⟩, ⟨some 8, none, .call (.f 36) [(.t 7)]⟩, ⟨some 3, none, .q (.mv (.t 8))⟩])
  (.keep [0, 3]
  (.seq (.reg none [⟨some 4, none, .q (.mv (.c .nil))⟩])
  (.gst (.nilT 4 2)
  (.keep [0, 3, 4]
  (.seq (.seq (.reg none [⟨some 5, none, .q (.mv (.c (.i .i64 0)))⟩])
    (.keep [0, 3, 4, 5]
    (.blk 0 (.keep [0, 3, 4, 5]
    (.loop (.fin [0, 3, 4, 5]
      (.seq (.seq (.reg none [⟨some 9, none, .q (.mv (.t 5))⟩, ⟨some 10, none, .q (.mv (.t 0))⟩, ⟨some 11, none, .q (.len false (.t 10))⟩, ⟨some 12, none, .q (.bin .lss (.t 9) (.t 11))⟩])
        (.keep [0, 3, 4, 5, 12]
        (.cond (.t 12) .skip
        (.exit 0))))
      (.seq (.blk 1 (.seq (.reg none [⟨some 15, none, .q (.mv (.t 5))⟩, ⟨some 16, none, .q (.bin .add (.t 15) (.c (.i .i64 1)))⟩, ⟨some 6, none, .q (.mv (.t 16))⟩])
        (.keep [0, 3, 4, 5, 6]
        (.blk 2 (.keep [0, 3, 4, 5, 6]
        (.loop (.fin [0, 3, 4, 5, 6]
          (.seq (.seq (.reg none [⟨some 17, none, .q (.mv (.t 6))⟩, ⟨some 18, none, .q (.mv (.t 0))⟩, ⟨some 19, none, .q (.len false (.t 18))⟩, ⟨some 20, none, .q (.bin .lss (.t 17) (.t 19))⟩])
            (.keep [0, 3, 4, 5, 6, 20]
            (.cond (.t 20) .skip
            (.exit 2))))
          (.seq (.blk 3 (.seq (.reg none [⟨some 23, none, .q (.mv (.t 3))⟩, ⟨some 24, none, .q (.mv (.t 5))⟩, ⟨some 25, none, .q (.mv (.t 6))⟩, ⟨some 26, none, .call (.f 71) [(.t 23), (.t 24), (.t 25)]⟩])
            (.keep [0, 3, 4, 5, 6, 26]
            (.cond (.t 26) (.reg none [⟨some 27, none, .q (.mv (.t 4))⟩, ⟨some 28, none, .q (.mv (.t 5))⟩, ⟨some 29, none, .q (.mv (.t 6))⟩, ⟨some 30, none, .q (.bld [(.i .i64 0), (.i .i64 0)] [(0, 1, .t 28), (1, 1, .t 29)])⟩, ⟨some 31, none, .m (.bsl 1 2 [(.i .i64 0), (.i .i64 0)] [(0, 2, .t 30)])⟩, ⟨some 32, none, .m (.app 2 16 (.t 27) (.t 31))⟩, ⟨some 4, none, .q (.mv (.t 32))⟩])
            .skip))))
          (.keep [0, 3, 4, 5, 6]
          (.reg none [⟨some 21, none, .q (.mv (.t 6))⟩, ⟨some 22, none, .q (.bin .add (.t 21) (.c (.i .i64 1)))⟩, ⟨some 6, none, .q (.mv (.t 22))⟩])))))))))))
      (.keep [0, 3, 4, 5]
      (.reg none [⟨some 13, none, .q (.mv (.t 5))⟩, ⟨some 14, none, .q (.bin .add (.t 13) (.c (.i .i64 1)))⟩, ⟨some 5, none, .q (.mv (.t 14))⟩]))))))))))
  (.seq (.gst (.letT 4 2)
    (.reg none [⟨some 33, none, .q (.mv (.t 4))⟩, ⟨some 2, none, .q (.mv (.t 33))⟩]))
  .ret)))))))))
theorem r30 : (Try.f30.body.bind (resC Try.prog Try.f30.ntmps)) = some (strip c30) := by kernel_rfl
theorem s30 : Try.f30.results.toList.mapM (resRes Try.prog) = some [.t 2] := by kernel_rfl
def c29 : ACode :=
  (.seq (.reg none [⟨some 2, none, .q (.mv (.c .nil))⟩])
  (.keep [0]
  (.seq (.reg none [⟨some 8, none, .q (.mv (.t 0))⟩, ⟨some 9, none, .call (.f 36) [(.t 8)]⟩, ⟨some 3, none, .q (.mv (.t 9))⟩])
  (.keep [0, 3]
  (.seq (.reg none [⟨some 4, none, .q (.mv (.c .nil))⟩])
  (.gst (.nilT 4 6)
  (.keep [0, 3, 4]
  (.seq (.seq (.reg none [⟨some 5, none, .q (.mv (.c (.i .i64 0)))⟩])
    (.keep [0, 3, 4, 5]
    (.blk 0 (.keep [0, 3, 4, 5]
    (.loop (.fin [0, 3, 4, 5]
      (.seq (.seq (.reg none [⟨some 10, none, .q (.mv (.t 5))⟩, ⟨some 11, none, .q (.mv (.t 0))⟩, ⟨some 12, none, .q (.len false (.t 11))⟩, ⟨some 13, none, .q (.bin .lss (.t 10) (.t 12))⟩])
        (.keep [0, 3, 4, 5, 13]
        (.cond (.t 13) .skip
        (.exit 0))))
      (.seq (.blk 1 (.seq (.reg none [⟨some 16, none, .q (.bld (reps 6 (.i .i64 0)) [])⟩, ⟨some 6, none, .m (.alloc (.g (reps 6 (.i .i64 0))))⟩, ⟨none, none, .m (.st 6 (.t 6) (.t 16))⟩])
        (.keep [0, 3, 4, 5, 6]
        (.seq (.seq (.reg none [⟨some 7, none, .q (.mv (.c (.i .i64 0)))⟩])
          (.keep [0, 3, 4, 5, 6, 7]
          (.blk 2 (.keep [0, 3, 4, 5, 6, 7]
          (.loop (.fin [0, 3, 4, 5, 6, 7]
            (.seq (.seq (.reg none [⟨some 17, none, .q (.mv (.t 7))⟩, ⟨some 18, none, .q (.mv (.t 0))⟩, ⟨some 19, none, .q (.len false (.t 18))⟩, ⟨some 20, none, .q (.bin .lss (.t 17) (.t 19))⟩])
              (.keep [0, 3, 4, 5, 6, 7, 20]
              (.cond (.t 20) .skip
              (.exit 2))))
            (.seq (.blk 3 (.seq (.reg none [⟨some 23, none, .q (.mv (.t 7))⟩, ⟨some 24, none, .q (.mv (.t 5))⟩, ⟨some 25, none, .q (.bin .eql (.t 23) (.t 24))⟩, ⟨some 26, none, .q (.mv (.t 25))⟩, ⟨some 27, some (26, false), .q (.mv (.t 3))⟩, ⟨some 28, some (26, false), .q (.mv (.t 7))⟩, ⟨some 29, some (26, false), .q (.ias 1 (.t 27) (.t 28))⟩, ⟨some 30, some (26, false), .q (.ld none (.t 29))⟩, ⟨some 31, some (26, false), .q (.mv (.t 5))⟩, ⟨some 32, some (26, false), .q (.ias 1 (.t 30) (.t 31))⟩, ⟨some 33, some (26, false), .q (.ld none (.t 32))⟩, ⟨some 34, none, .pk (.t 26) (.c (.b true)) (.t 33)⟩])
              (.keep [0, 3, 4, 5, 6, 7, 34]
              (.cond (.t 34) (.reg none [⟨some 35, none, .q (.mv (.t 0))⟩, ⟨some 36, none, .q (.mv (.t 7))⟩, ⟨some 37, none, .q (.ias 26 (.t 35) (.t 36))⟩, ⟨some 38, none, .q (.fa 0 (.t 37))⟩, ⟨some 39, none, .q (.ld none (.t 38))⟩, ⟨some 40, none, .q (.iaa 6 1 (.t 6) (.t 39))⟩, ⟨some 41, none, .q (.ld none (.t 40))⟩, ⟨some 42, none, .q (.bin .add (.t 41) (.c (.i .i64 1)))⟩, ⟨some 43, none, .q (.iaa 6 1 (.t 6) (.t 39))⟩, ⟨none, none, .m (.st 1 (.t 43) (.t 42))⟩])
              .skip))))
            (.keep [0, 3, 4, 5, 6, 7]
            (.reg none [⟨some 21, none, .q (.mv (.t 7))⟩, ⟨some 22, none, .q (.bin .add (.t 21) (.c (.i .i64 1)))⟩, ⟨some 7, none, .q (.mv (.t 22))⟩]))))))))))
        (.reg none [⟨some 44, none, .q (.mv (.t 4))⟩, ⟨some 45, none, .q (.ld (some 6) (.t 6))⟩, ⟨some 46, none, .m (.bsl 1 6 (reps 6 (.i .i64 0)) [(0, 6, .t 45)])⟩, ⟨some 47, none, .m (.app 6 48 (.t 44) (.t 46))⟩, ⟨some 4, none, .q (.mv (.t 47))⟩])))))
      (.keep [0, 3, 4, 5]
      (.reg none [⟨some 14, none, .q (.mv (.t 5))⟩, ⟨some 15, none, .q (.bin .add (.t 14) (.c (.i .i64 1)))⟩, ⟨some 5, none, .q (.mv (.t 15))⟩]))))))))))
  (.seq (.gst (.letT 4 6)
    (.reg none [⟨some 48, none, .q (.mv (.t 4))⟩, ⟨some 2, none, .q (.mv (.t 48))⟩]))
  .ret)))))))))
theorem r29 : (Try.f29.body.bind (resC Try.prog Try.f29.ntmps)) = some (strip c29) := by kernel_rfl
theorem s29 : Try.f29.results.toList.mapM (resRes Try.prog) = some [.t 2] := by kernel_rfl
def c32 : ACode :=
  (.seq (.reg none [⟨some 2, none, .q (.mv (.c .nil))⟩])
  (.keep [0]
  (.seq (.reg none [⟨some 8, none, .q (.mv (.t 0))⟩, ⟨some 9, none, .call (.f 36) [(.t 8)]⟩, ⟨some 3, none, .q (.mv (.t 9))⟩])
  (.keep [0, 3]
  (.seq (.reg none [⟨some 4, none, .q (.mv (.c .nil))⟩])
  (.gst (.nilT 4 1)
  (.keep [0, 3, 4]
  (.seq (.seq (.reg none [⟨some 5, none, .q (.mv (.c (.i .i64 0)))⟩])
    (.keep [0, 3, 4, 5]
    (.blk 0 (.keep [0, 3, 4, 5]
    (.loop (.fin [0, 3, 4, 5]
      (.seq (.seq (.reg none [⟨some 10, none, .q (.mv (.t 5))⟩, ⟨some 11, none, .q (.mv (.t 0))⟩, ⟨some 12, none, .q (.len false (.t 11))⟩, ⟨some 13, none, .q (.bin .lss (.t 10) (.t 12))⟩])
        (.keep [0, 3, 4, 5, 13]
        (.cond (.t 13) .skip
        (.exit 0))))
      (.seq (.blk 1 (.seq (.reg none [⟨some 6, none, .q (.mv (.c (.b true)))⟩])
        (.keep [0, 3, 4, 5, 6]
        (.seq (.seq (.reg none [⟨some 7, none, .q (.mv (.c (.i .i64 0)))⟩])
          (.keep [0, 3, 4, 5, 6, 7]
          (.blk 2 (.keep [0, 3, 4, 5, 6, 7]
          (.loop (.fin [0, 3, 4, 5, 6, 7]
            (.seq (.seq (.reg none [⟨some 16, none, .q (.mv (.t 7))⟩, ⟨some 17, none, .q (.mv (.t 0))⟩, ⟨some 18, none, .q (.len false (.t 17))⟩, ⟨some 19, none, .q (.bin .lss (.t 16) (.t 18))⟩])
              (.keep [0, 3, 4, 5, 6, 7, 19]
              (.cond (.t 19) .skip
              (.exit 2))))
            (.seq (.blk 3 (.reg none [⟨some 22, none, .q (.mv (.t 6))⟩, ⟨some 23, none, .q (.mv (.t 22))⟩, ⟨some 24, some (23, true), .q (.mv (.t 3))⟩, ⟨some 25, some (23, true), .q (.mv (.t 5))⟩, ⟨some 26, some (23, true), .q (.ias 1 (.t 24) (.t 25))⟩, ⟨some 27, some (23, true), .q (.ld none (.t 26))⟩, ⟨some 28, some (23, true), .q (.mv (.t 7))⟩, ⟨some 29, some (23, true), .q (.ias 1 (.t 27) (.t 28))⟩, ⟨some 30, some (23, true), .q (.ld none (.t 29))⟩, ⟨some 31, some (23, true), .q (.un .not (.t 30))⟩, ⟨some 32, none, .pk (.t 23) (.t 31) (.c (.b false))⟩, ⟨some 6, none, .q (.mv (.t 32))⟩]))
            (.keep [0, 3, 4, 5, 6, 7]
            (.reg none [⟨some 20, none, .q (.mv (.t 7))⟩, ⟨some 21, none, .q (.bin .add (.t 20) (.c (.i .i64 1)))⟩, ⟨some 7, none, .q (.mv (.t 21))⟩]))))))))))
        (.seq (.reg none [⟨some 33, none, .q (.mv (.t 6))⟩])
        (.keep [0, 3, 4, 5, 33]
        (.cond (.t 33) (.reg none [⟨some 34, none, .q (.mv (.t 4))⟩, ⟨some 35, none, .q (.mv (.t 5))⟩, ⟨some 36, none, .m (.bsl 1 1 [(.i .i64 0)] [(0, 1, .t 35)])⟩, ⟨some 37, none, .m (.app 1 8 (.t 34) (.t 36))⟩, ⟨some 4, none, .q (.mv (.t 37))⟩])
        .skip)))))))
      (.keep [0, 3, 4, 5]
      (.reg none [⟨some 14, none, .q (.mv (.t 5))⟩, ⟨some 15, none, .q (.bin .add (.t 14) (.c (.i .i64 1)))⟩, ⟨some 5, none, .q (.mv (.t 15))⟩]))))))))))
  (.seq (.gst (.letT 4 1)
    (.reg none [⟨some 38, none, .q (.mv (.t 4))⟩, ⟨some 2, none, .q (.mv (.t 38))⟩]))
  .ret)))))))))
theorem r32 : (Try.f32.body.bind (resC Try.prog Try.f32.ntmps)) = some (strip c32) := by kernel_rfl
theorem s32 : Try.f32.results.toList.mapM (resRes Try.prog) = some [.t 2] := by kernel_rfl
def c33 : ACode :=
  (.seq (.reg none [⟨some 2, none, .q (.mv (.c (.i .i64 0)))⟩])
  (.keep [0]
  (.seq (.reg none [⟨some 8, none, .q (.mv (.t 0))⟩, ⟨some 9, none, .call (.f 36) [(.t 8)]⟩, ⟨some 3, none, .q (.mv (.t 9))⟩])
  (.keep [0, 3]
  (.seq (.reg none [⟨some 4, none, .q (.mv (.c (.i .i64 0)))⟩])
  (.keep [0, 3, 4]
  (.seq (.reg none [⟨some 10, none, .q (.mv (.t 0))⟩, ⟨some 11, none, .q (.len false (.t 10))⟩, ⟨some 12, none, .m (.mks 1 8 [(.i .i64 0)] (.t 11) (.t 11))⟩, ⟨some 5, none, .q (.mv (.t 12))⟩])
  (.keep [0, 3, 4, 5]
  (.seq (.seq (.reg none [⟨some 6, none, .q (.mv (.c (.i .i64 0)))⟩])
    (.keep [0, 3, 4, 5, 6]
    (.blk 0 (.keep [0, 3, 4, 5, 6]
    (.loop (.fin [0, 3, 4, 5, 6]
      (.seq (.seq (.reg none [⟨some 13, none, .q (.mv (.t 6))⟩, ⟨some 14, none, .q (.mv (.t 0))⟩, ⟨some 15, none, .q (.len false (.t 14))⟩, ⟨some 16, none, .q (.bin .lss (.t 13) (.t 15))⟩])
        (.keep [0, 3, 4, 5, 6, 16]
        (.cond (.t 16) .skip
        (.exit 0))))
      (.seq (.blk 1 (.seq (.reg none [⟨some 19, none, .q (.mv (.t 5))⟩, ⟨some 20, none, .q (.mv (.t 6))⟩, ⟨some 21, none, .q (.ias 1 (.t 19) (.t 20))⟩, ⟨none, none, .m (.st 1 (.t 21) (.c (.i .i64 1)))⟩])
        (.keep [0, 3, 4, 5, 6]
        (.seq (.seq (.reg none [⟨some 7, none, .q (.mv (.c (.i .i64 0)))⟩])
          (.keep [0, 3, 4, 5, 6, 7]
          (.blk 2 (.keep [0, 3, 4, 5, 6, 7]
          (.loop (.fin [0, 3, 4, 5, 6, 7]
            (.seq (.seq (.reg none [⟨some 22, none, .q (.mv (.t 7))⟩, ⟨some 23, none, .q (.mv (.t 6))⟩, ⟨some 24, none, .q (.bin .lss (.t 22) (.t 23))⟩])
              (.keep [0, 3, 4, 5, 6, 7, 24]
              (.cond (.t 24) .skip
              (.exit 2))))
            (.seq (.blk 3 (.seq (.reg (some (19, [])) [⟨some 27, none, .q (.mv (.t 3))⟩, ⟨some 28, none, .q (.mv (.t 7))⟩, ⟨some 29, none, .q (.ias 1 (.t 27) (.t 28))⟩, ⟨some 30, none, .q (.ld none (.t 29))⟩, ⟨some 31, none, .q (.mv (.t 6))⟩, ⟨some 32, none, .q (.ias 1 (.t 30) (.t 31))⟩, ⟨some 33, none, .q (.ld none (.t 32))⟩, ⟨some 34, none, .q (.mv (.t 33))⟩, ⟨some 35, some (34, true), .q (.mv (.t 5))⟩, ⟨some 36, some (34, true), .q (.mv (.t 7))⟩, ⟨some 37, some (34, true), .q (.ias 1 (.t 35) (.t 36))⟩, ⟨some 38, some (34, true), .q (.ld none (.t 37))⟩, ⟨some 39, some (34, true), .q (.bin .add (.t 38) (.c (.i .i64 1)))⟩, ⟨some 40, some (34, true), .q (.mv (.t 5))⟩, ⟨some 41, some (34, true), .q (.mv (.t 6))⟩, ⟨some 42, some (34, true), .q (.ias 1 (.t 40) (.t 41))⟩, ⟨some 43, some (34, true), .q (.ld none (.t 42))⟩, ⟨some 44, some (34, true), .q (.bin .gtr (.t 39) (.t 43))⟩, ⟨some 45, none, .pk (.t 34) (.t 44) (.c (.b false))⟩])
              (.keep [0, 3, 4, 5, 6, 7, 45]
              (.cond (.t 45) (.reg none [⟨some 46, none, .q (.mv (.t 5))⟩, ⟨some 47, none, .q (.mv (.t 6))⟩, ⟨some 48, none, .q (.mv (.t 5))⟩, ⟨some 49, none, .q (.mv (.t 7))⟩, ⟨some 50, none, .q (.ias 1 (.t 48) (.t 49))⟩, ⟨some 51, none, .q (.ld none (.t 50))⟩, ⟨some 52, none, .q (.bin .add (.t 51) (.c (.i .i64 1)))⟩, ⟨some 53, none, .q (.ias 1 (.t 46) (.t 47))⟩, ⟨none, none, .m (.st 1 (.t 53) (.t 52))⟩])
              .skip))))
            (.keep [0, 3, 4, 5, 6, 7]
            (.reg none [⟨some 25, none, .q (.mv (.t 7))⟩, ⟨some 26, none, .q (.bin .add (.t 25) (.c (.i .i64 1)))⟩, ⟨some 7, none, .q (.mv (.t 26))⟩]))))))))))
        (.seq (.reg none [⟨some 54, none, .q (.mv (.t 5))⟩, ⟨some 55, none, .q (.mv (.t 6))⟩, ⟨some 56, none, .q (.ias 1 (.t 54) (.t 55))⟩, ⟨some 57, none, .q (.ld none (.t 56))⟩, ⟨some 58, none, .q (.mv (.t 4))⟩, ⟨some 59, none, .q (.bin .gtr (.t 57) (.t 58))⟩])
        (.keep [0, 3, 4, 5, 6, 59]
        (.cond (.t 59) (.reg none [⟨some 60, none, .q (.mv (.t 5))⟩, ⟨some 61, none, .q (.mv (.t 6))⟩, ⟨some 62, none, .q (.ias 1 (.t 60) (.t 61))⟩, ⟨some 63, none, .q (.ld none (.t 62))⟩, ⟨some 4, none, .q (.mv (.t 63))⟩])
        .skip)))))))
      (.keep [0, 3, 4, 5, 6]
      (.reg none [⟨some 17, none, .q (.mv (.t 6))⟩, ⟨some 18, none, .q (.bin .add (.t 17) (.c (.i .i64 1)))⟩, ⟨some 6, none, .q (.mv (.t 18))⟩]))))))))))
  (.seq (.reg none [⟨some 64, none, .q (.mv (.t 4))⟩, ⟨some 2, none, .q (.mv (.t 64))⟩])
  .ret))))))))))
theorem r33 : (Try.f33.body.bind (resC Try.prog Try.f33.ntmps)) = some (strip c33) := by kernel_rfl
theorem s33 : Try.f33.results.toList.mapM (resRes Try.prog) = some [.t 2] := by kernel_rfl
def pnatR (p : Nat × Nat) : List AV := [.i .i64 (p.1 : Int), .i .i64 (p.2 : Int)]
def mrow (r : List Bool) : List AV := [.sl 1 (r.map brow)]
def matV (n : Nat) (f : Nat → Nat → Bool) : AV := .sl 1 ((mat n f).map mrow)
theorem befM_p (t : List Ev) (h : Good t) : PureS Try.prog 36 [.sl 26 (t.map Ev.row)] (matV t.length (befT t)) := before_r t h
theorem pastR_p (n : Nat) (hn : n < 1000000) (f : Nat → Nat → Bool) (j : Nat) (hj : j < n) : PureS Try.prog 37 [matV n f, .i .i64 (j : Int)] (.sl 1 ((selTo (fun i => f i j) n).map nrow)) := by
  have hJ : (j : Int) < (n : Int) := by omega
  refine fun_go hmx Try.func37 r37 s37 (by rw [Try.ntmps37]; simp) ?_
  unfold c37
  simp [matV]
  refine go_while hmx 1 (fun (s : Nat × Nat) => [(5, .os 0 s.2), (6, .v (.i .i64 (s.1 : Int)))]) (fun s => [.arr s.2 1 (vrows ((selTo (fun i => f i j) s.1).map nrow))]) (fun s => s.1 ≤ n) (fun s => n - s.1) (0, 0) rfl (by simp) rfl (by simp) (by simp) (by simp) (Nat.zero_le _) ?_
  rintro ⟨k, v⟩ hk
  simp only at hk
  by_cases hkl : k < n
  · have hI : (k : Int) < (n : Int) := by omega
    have hw : IntKind.i64.wrap ((k : Int) + 1) = (k : Int) + 1 := wrap_in (by omega) (by omega)
    have hs := selTo_succ (fun i => f i j) k
    have hsl := selTo_len (fun i => f i j) k
    simp [hI, hkl, hJ, hj, mat_at, mrow, brow]
    refine ⟨fun hf => ⟨⟨by omega, by omega⟩, k + 1, v + 1, ⟨rfl, by rw [hw]; rfl⟩, ⟨rfl, ?_⟩, by omega, by omega⟩, fun hf => ⟨k + 1, v, ⟨rfl, by rw [hw]; rfl⟩, ⟨rfl, ?_⟩, by omega, by omega⟩⟩
    · rw [hs, if_pos hf]; simp [vrows, nrow]
    · rw [hs, if_neg (by rw [hf]; simp)]
  · obtain rfl : k = n := by omega
    simp
theorem edge_p (n : Nat) (hn : n < 1000000) (f : Nat → Nat → Bool) (i j : Nat) (hi : i < n) (hj : j < n) (hij : i < j) : PureS Try.prog 71 [matV n f, .i .i64 (i : Int), .i .i64 (j : Int)] (.b (edgeF f i j)) := by
  have hI : (i : Int) < (n : Int) := by omega
  have hJ : (j : Int) < (n : Int) := by omega
  have hw0 : IntKind.i64.wrap ((i : Int) + 1) = ((i + 1 : Nat) : Int) := wrap_nat (by omega)
  refine fun_go hmx Try.func71 r71 s71 (by rw [Try.ntmps71]; simp) ?_
  unfold c71
  simp [matV, hI, hJ, hi, hj, mat_at, mrow, brow]
  refine ⟨fun hf => by rw [edgeF, hf]; rfl, fun hf => ?_⟩
  refine go_while hmx 0 (fun (k : Nat) => [(7, .v (.i .i64 (k : Int)))]) (fun _ => []) (fun k => i < k ∧ k ≤ j ∧ betw f i j k = false) (fun k => j - k) (i + 1) rfl (by simp [hw0]) rfl (by simp) (by simp) (by simp) ⟨by omega, by omega, betw_start f i j⟩ ?_
  rintro k ⟨h1, h2, hb⟩
  by_cases hkl : k < j
  · have hK : (k : Int) < (j : Int) := by omega
    have hKn : (k : Int) < (n : Int) := by omega
    have hkn : k < n := by omega
    have hw : IntKind.i64.wrap ((k : Int) + 1) = (k : Int) + 1 := wrap_in (by omega) (by omega)
    have hs := betw_succ f i j k
    simp [hK, hKn, hI, hJ, hi, hj, hkn, mat_at, mrow, brow]
    refine ⟨fun h3 h4 => ?_, fun h3 => ⟨k + 1, by rw [hw]; rfl, ⟨by omega, by omega, ?_⟩, by omega⟩⟩
    · rw [edgeF, betw_iff.2 ⟨k, hkl, h1, h3, h4⟩]; simp
    · rw [hs, hb]
      cases h4 : f i k with
      | false => simp
      | true => simp [h3 h4]
  · obtain rfl : k = j := by omega
    simp
    rw [edgeF, hf, hb]; rfl
theorem edgesR_p (t : List Ev) (h : Good t) : PureS Try.prog 30 [.sl 26 (t.map Ev.row)] (.sl 2 ((edR (befT t) t.length t.length).map pnatR)) := by
  have hl := h.len
  refine fun_go hmx Try.func30 r30 s30 (by rw [Try.ntmps30]; simp) ?_
  unfold c30
  simp
  first
    | refine callk rfl Try.call36 (befM_p t h) rfl ?_
    | refine callks rfl Try.call36 (befM_p t h) rfl ?_
    | refine callq rfl Try.call36 (befM_p t h) rfl ?_
    | refine callqe rfl Try.call36 (befM_p t h) rfl ?_
  simp
  refine go_while hmx 1 (fun (s : Nat × Nat) => [(4, .os 0 s.2), (5, .v (.i .i64 (s.1 : Int)))]) (fun s => [.arr s.2 2 (vrows ((edR (befT t) t.length s.1).map pnatR))]) (fun s => s.1 ≤ t.length) (fun s => t.length - s.1) (0, 0) rfl (by simp) rfl (by simp) (by simp) (by simp) (Nat.zero_le _) ?_
  rintro ⟨i, v⟩ hi
  simp only at hi
  by_cases hil : i < t.length
  · have hI : (i : Int) < (t.length : Int) := by omega
    have hw0 : IntKind.i64.wrap ((i : Int) + 1) = ((i + 1 : Nat) : Int) := wrap_nat (by omega)
    have hel := edR_len (befT t) t.length i
    have hii : i * t.length ≤ 256 * 256 := Nat.mul_le_mul (by omega) (by omega)
    simp [hI]
    refine go_while hmx 1 (fun (s : Nat × Nat) => [(4, .os 0 s.2), (6, .v (.i .i64 (s.1 : Int)))]) (fun s => [.arr s.2 2 (vrows ((edR (befT t) t.length i ++ rowE (befT t) i s.1).map pnatR))]) (fun s => i < s.1 ∧ s.1 ≤ t.length) (fun s => t.length - s.1) (i + 1, v) rfl (by simp [hw0]) (by rw [rowE_start]; simp) (by simp) (by simp) (by simp) ⟨by omega, by omega⟩ ?_
    rintro ⟨j, v⟩ ⟨hij, hj⟩
    simp only at hij hj
    by_cases hjl : j < t.length
    · have hJ : (j : Int) < (t.length : Int) := by omega
      have hw : IntKind.i64.wrap ((j : Int) + 1) = (j : Int) + 1 := wrap_in (by omega) (by omega)
      have hs := rowE_succ (befT t) hij
      have hrl := rowE_len (befT t) i j
      simp [hJ]
      first
        | refine callk rfl Try.call71 (edge_p t.length (by omega) (befT t) i j hil hjl hij) rfl ?_
        | refine callks rfl Try.call71 (edge_p t.length (by omega) (befT t) i j hil hjl hij) rfl ?_
        | refine callq rfl Try.call71 (edge_p t.length (by omega) (befT t) i j hil hjl hij) rfl ?_
        | refine callqe rfl Try.call71 (edge_p t.length (by omega) (befT t) i j hil hjl hij) rfl ?_
      simp
      refine ⟨fun hf => ⟨⟨by omega, by omega⟩, j + 1, v + 1, ⟨rfl, by rw [hw]; rfl⟩, ⟨rfl, ?_⟩, ⟨by omega, by omega⟩, by omega⟩, fun hf => ⟨j + 1, v, ⟨rfl, by rw [hw]; rfl⟩, ⟨rfl, ?_⟩, ⟨by omega, by omega⟩, by omega⟩⟩
      · rw [hs, if_pos hf]; simp [vrows, pnatR]
      · rw [hs, if_neg (by rw [hf]; simp)]
    · obtain rfl : j = t.length := by omega
      simp [hw0]
      exact ⟨i + 1, v, ⟨rfl, rfl⟩, ⟨rfl, by rw [edR]; simp⟩, by omega, by omega⟩
  · obtain rfl : i = t.length := by omega
    simp
theorem clocksR_p (t : List Ev) (h : Good t) : PureS Try.prog 29 [.sl 26 (t.map Ev.row)] (.sl 6 (((List.range t.length).map fun j => cntC t (befT t) j t.length).map crow)) := by
  have hl := h.len
  refine fun_go hmx Try.func29 r29 s29 (by rw [Try.ntmps29]; simp) ?_
  unfold c29
  simp
  first
    | refine callk rfl Try.call36 (befM_p t h) rfl ?_
    | refine callks rfl Try.call36 (befM_p t h) rfl ?_
    | refine callq rfl Try.call36 (befM_p t h) rfl ?_
    | refine callqe rfl Try.call36 (befM_p t h) rfl ?_
  simp
  refine go_while hmx 1 (fun (s : Nat × Nat) => [(4, .os 0 s.2), (5, .v (.i .i64 (s.1 : Int)))]) (fun s => [.arr s.2 6 (vrows (((List.range s.1).map fun j => cntC t (befT t) j t.length).map crow))]) (fun s => s.1 ≤ t.length) (fun s => t.length - s.1) (0, 0) rfl (by simp) rfl (by simp) (by simp) (by simp) (Nat.zero_le _) ?_
  rintro ⟨j, v⟩ hj
  simp only at hj
  by_cases hjl : j < t.length
  · have hJ : (j : Int) < (t.length : Int) := by omega
    have hw : IntKind.i64.wrap ((j : Int) + 1) = (j : Int) + 1 := wrap_in (by omega) (by omega)
    simp [hJ, take_avs]
    refine go_while hmx 2 (fun (k : Nat) => [(7, .v (.i .i64 (k : Int)))]) (fun k => [.arr v 6 (vrows (((List.range j).map fun j => cntC t (befT t) j t.length).map crow)), .var (avs (AV.i .i64) (cntC t (befT t) j k))]) (fun k => k ≤ t.length) (fun k => t.length - k) 0 rfl (by simp [cntC, zeroC]) (by simp [cntC, zeroC]) (by simp) (by simp) (by simp) (Nat.zero_le _) ?_
    intro k hk
    have hcl := cntC_length t (befT t) j k
    by_cases hkl : k < t.length
    · have hK : (k : Int) < (t.length : Int) := by omega
      have hw2 : IntKind.i64.wrap ((k : Int) + 1) = (k : Int) + 1 := wrap_in (by omega) (by omega)
      have hgo := h.go hkl
      obtain ⟨g, hg⟩ : ∃ g : Nat, (t.getD k default).go = (g : Int) := ⟨(t.getD k default).go.toNat, by omega⟩
      have hgn : goN t k = g := by unfold goN; omega
      have hcs := cntC_small t (befT t) j (g := g) k
      have hsn : cntC t (befT t) j (k + 1) = if decide (k = j) || befT t k j then tickC (cntC t (befT t) j k) g else cntC t (befT t) j k := by rw [cntC, hgn]
      rw [hg] at hgo
      simp only [Int.toNat_natCast] at hgo
      have hgk : t.getD k default = t[k] := by rw [List.getD_eq_getElem?_getD, List.getElem?_eq_getElem hkl]; rfl
      rw [hgk] at hg
      have hg6 : (g : Int) < 6 := by omega
      obtain ⟨c, hc⟩ : ∃ c, cntC t (befT t) j k = c := ⟨_, rfl⟩
      rw [hc] at hcl hcs hsn ⊢
      have gg : c.getD g 0 = c[g]'(by omega) := by rw [List.getD_eq_getElem?_getD, List.getElem?_eq_getElem (by omega)]; rfl
      rw [gg] at hcs
      have hw3 : IntKind.i64.wrap (c[g] + 1) = c[g] + 1 := wrap_in (by omega) (by omega)
      simp [hK, hkl, hJ, hjl, mat_at, mrow, brow, matV, hg, hg6, hgo, hcl]
      refine ⟨fun hb => ⟨by omega, k + 1, by rw [hw2]; rfl, ?_, by omega, by omega⟩, fun h1 h2 => ⟨k + 1, by rw [hw2]; rfl, ?_, by omega, by omega⟩⟩
      · have hb' : (decide (k = j) || befT t k j) = true := by
          rcases hb with hb | hb
          · simp [show k = j by omega]
          · simp [hb]
        rw [hsn, if_pos hb', hw3, tickC, gg]
      · rw [hsn, if_neg (by simp [h2]; omega)]
    · obtain rfl : k = t.length := by omega
      simp [hw, take_avs, hcl]
      refine ⟨⟨by omega, by omega⟩, j + 1, v + 1, ⟨rfl, rfl⟩, ⟨rfl, ?_⟩, by omega, by omega⟩
      rw [List.range_succ]
      simp [vrows, crow, map_ags]
  · obtain rfl : j = t.length := by omega
    simp
theorem lastsR_p (t : List Ev) (h : Good t) : PureS Try.prog 32 [.sl 26 (t.map Ev.row)] (.sl 1 ((selTo (fun i => noneTo (befT t) i t.length) t.length).map nrow)) := by
  have hl := h.len
  refine fun_go hmx Try.func32 r32 s32 (by rw [Try.ntmps32]; simp) ?_
  unfold c32
  simp
  first
    | refine callk rfl Try.call36 (befM_p t h) rfl ?_
    | refine callks rfl Try.call36 (befM_p t h) rfl ?_
    | refine callq rfl Try.call36 (befM_p t h) rfl ?_
    | refine callqe rfl Try.call36 (befM_p t h) rfl ?_
  simp
  refine go_while hmx 1 (fun (s : Nat × Nat) => [(4, .os 0 s.2), (5, .v (.i .i64 (s.1 : Int)))]) (fun s => [.arr s.2 1 (vrows ((selTo (fun i => noneTo (befT t) i t.length) s.1).map nrow))]) (fun s => s.1 ≤ t.length) (fun s => t.length - s.1) (0, 0) rfl (by simp) rfl (by simp) (by simp) (by simp) (Nat.zero_le _) ?_
  rintro ⟨i, v⟩ hi
  simp only at hi
  by_cases hil : i < t.length
  · have hI : (i : Int) < (t.length : Int) := by omega
    have hw : IntKind.i64.wrap ((i : Int) + 1) = (i : Int) + 1 := wrap_in (by omega) (by omega)
    have hs := selTo_succ (fun i => noneTo (befT t) i t.length) i
    have hsl := selTo_len (fun i => noneTo (befT t) i t.length) i
    simp [hI]
    refine go_while hmx 1 (fun (j : Nat) => [(6, .v (.b (noneTo (befT t) i j))), (7, .v (.i .i64 (j : Int)))]) (fun j => [.arr v 1 (vrows ((selTo (fun i => noneTo (befT t) i t.length) i).map nrow))]) (fun j => j ≤ t.length) (fun j => t.length - j) 0 rfl (by simp) rfl (by simp) (by simp) (by simp) (Nat.zero_le _) ?_
    intro j hj
    by_cases hjl : j < t.length
    · have hJ : (j : Int) < (t.length : Int) := by omega
      have hw2 : IntKind.i64.wrap ((j : Int) + 1) = (j : Int) + 1 := wrap_in (by omega) (by omega)
      have hs2 := noneTo_succ (befT t) i j
      simp [hJ, hI, hil, hjl, mat_at, mrow, brow, matV]
      exact ⟨j + 1, ⟨hs2.symm, by rw [hw2]; rfl⟩, by omega, by omega⟩
    · obtain rfl : j = t.length := by omega
      simp [hw]
      refine ⟨fun hf => ⟨⟨by omega, by omega⟩, i + 1, v + 1, ⟨rfl, rfl⟩, ⟨rfl, ?_⟩, by omega, by omega⟩, fun hf => ⟨i + 1, v, ⟨rfl, rfl⟩, ⟨rfl, ?_⟩, by omega, by omega⟩⟩
      · rw [hs, if_pos hf]; simp [vrows, nrow]
      · rw [hs, if_neg (by rw [hf]; simp)]
  · obtain rfl : i = t.length := by omega
    simp
theorem heightR_p (t : List Ev) (h : Good t) : PureS Try.prog 33 [.sl 26 (t.map Ev.row)] (.i .i64 (mostT t t.length)) := by
  have hl := h.len
  refine fun_go hmx Try.func33 r33 s33 (by rw [Try.ntmps33]; simp) ?_
  unfold c33
  simp
  first
    | refine callk rfl Try.call36 (befM_p t h) rfl ?_
    | refine callks rfl Try.call36 (befM_p t h) rfl ?_
    | refine callq rfl Try.call36 (befM_p t h) rfl ?_
    | refine callqe rfl Try.call36 (befM_p t h) rfl ?_
  simp
  refine ⟨by omega, ?_⟩
  refine go_while hmx 1 (fun (j : Nat) => [(4, .v (.i .i64 (mostT t j))), (6, .v (.i .i64 (j : Int)))]) (fun j => [.arr 0 1 (vrows ((hstC t j).map irow))]) (fun j => j ≤ t.length) (fun j => t.length - j) 0 rfl (by simp [mostT]) ?_ (by simp) (by simp) (by simp) (Nat.zero_le _) ?_
  · simp [hstC, hvL, vrows, irow]
  intro j hj
  by_cases hjl : j < t.length
  · have hJ : (j : Int) < (t.length : Int) := by omega
    have hw : IntKind.i64.wrap ((j : Int) + 1) = (j : Int) + 1 := wrap_in (by omega) (by omega)
    have hCl := hstC_length (t := t) (j := j) hj
    have hj' : j < (hstC t j).length := by omega
    simp [hJ, hj', vrows_at, irow]
    refine go_while hmx 1 (fun (i : Nat) => [(7, .v (.i .i64 (i : Int)))]) (fun i => [.arr 0 1 (vrows (((hstC t j).set j (hin t j i)).map irow))]) (fun i => i ≤ j) (fun i => j - i) 0 rfl (by simp) ?_ (by simp) (by simp) (by simp) (Nat.zero_le _) ?_
    · simp [hin, vrows, List.map_set, irow]
    intro i hi
    have hat : ((hstC t j).set j (hin t j i))[j]? = some (hin t j i) := List.getElem?_set_self hj'
    have hlow : ∀ k, k < j → ((hstC t j).set j (hin t j i))[k]? = some (hvAt t k) := fun k hk => by
      have := hstJ_low (t := t) (c := 0) hk (by omega)
      rw [hstJ, List.getElem?_set_ne (by omega)] at this
      rw [List.getElem?_set_ne (by omega), this]
    have hSl : ((hstC t j).set j (hin t j i)).length = t.length := by rw [List.length_set, hCl]
    have hss : ∀ x, ((hstC t j).set j (hin t j i)).set j x = (hstC t j).set j x := fun x => List.set_set ..
    have hsm := hin_small (t := t) hi
    have hps := hin_pos t j i
    obtain ⟨S, hS⟩ : ∃ S, (hstC t j).set j (hin t j i) = S := ⟨_, rfl⟩
    rw [hS] at hat hlow hSl hss ⊢
    have hjS : j < S.length := by omega
    have hat' : S[j] = hin t j i := by rw [List.getElem?_eq_getElem hjS] at hat; exact Option.some.inj hat
    by_cases hil : i < j
    · have hI : (i : Int) < (j : Int) := by omega
      have hIt : (i : Int) < (t.length : Int) := by omega
      have hil' : i < t.length := by omega
      have hiS : i < S.length := by omega
      have hw2 : IntKind.i64.wrap ((i : Int) + 1) = (i : Int) + 1 := wrap_in (by omega) (by omega)
      have hi' : S[i] = hvAt t i := by have := hlow i hil; rw [List.getElem?_eq_getElem hiS] at this; exact Option.some.inj this
      have hvs := hvAt_small t i
      have hvp := hvAt_pos t i
      have hw3 : IntKind.i64.wrap (hvAt t i + 1) = hvAt t i + 1 := wrap_in (by omega) (by omega)
      have hsn : hin t j (i + 1) = if befT t i j then max (hin t j i) (hvAt t i + 1) else hin t j i := rfl
      simp [hI, hJ, hIt, hil', hjl, hiS, hjS, mat_at, mrow, brow, matV, vrows_at, hi', hat', hw3, irow]
      have hms : ∀ x : Int, (List.map irow (hstC t j)).set j [AV.i .i64 x] = ((hstC t j).set j x).map irow := fun x => by simp [List.map_set, irow]
      refine ⟨fun h1 h2 => ⟨i + 1, by rw [hw2]; rfl, ?_, by omega, by omega⟩, fun h1 => ⟨i + 1, by rw [hw2]; rfl, ?_, by omega, by omega⟩⟩
      · rw [hms, hsn, if_pos h1, show max (hin t j i) (hvAt t i + 1) = hvAt t i + 1 by omega, ← hss]
        simp [vrows, List.map_set, irow]
      · rw [hms]
        have : hin t j (i + 1) = hin t j i := by
          rw [hsn]
          split
          · rename_i hb; have := h1 hb; omega
          · rfl
        rw [this, hS]
    · obtain rfl : i = j := by omega
      simp [hjS, vrows_at, hat', irow]
      have hSn : S = hstC t (i + 1) := by rw [← hS, hin_all, hstC_succ hjl]
      refine ⟨fun hc => ⟨i + 1, ⟨?_, by rw [hw]; rfl⟩, by rw [hSn], by omega, by omega⟩, fun hc => ⟨i + 1, ⟨?_, by rw [hw]; rfl⟩, by rw [hSn], by omega, by omega⟩⟩
      · rw [mostT, ← hin_all]; omega
      · rw [mostT, ← hin_all]; omega
  · obtain rfl : j = t.length := by omega
    simp
end Go.Sc.Or
