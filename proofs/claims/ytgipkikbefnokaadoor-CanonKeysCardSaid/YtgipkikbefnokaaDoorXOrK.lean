/- Chapter 12: the document's own: what happens before what. No condition. -/
import Derived.Test.YtgipkikbefnokaaDoorXOrA
import Derived.Test.YtgipkikbefnokaaDoorXEvt
set_option linter.constructorNameAsVariable false
namespace Go.Sc.Or
open Go Go.RowKit Go.Av Go.Proofs Go.Sc
set_option linter.unusedSimpArgs false
set_option linter.unusedVariables false
def c45 : ACode :=
  (.seq (.reg none [⟨some 2, none, .q (.mv (.c .nil))⟩])
  (.keep [0]
  (.seq (.reg none [⟨some 9, none, .q (.mv (.t 0))⟩, ⟨some 10, none, .q (.len false (.t 9))⟩, ⟨some 3, none, .q (.mv (.t 10))⟩])
  (.keep [0, 3]
  (.seq (.reg none [⟨some 11, none, .q (.mv (.t 3))⟩, ⟨some 12, none, .m (.mks 1 24 [.nil] (.t 11) (.t 11))⟩, ⟨some 4, none, .q (.mv (.t 12))⟩])
  (.keep [0, 3, 4]
  (.seq (.seq (.reg none [⟨some 5, none, .q (.mv (.c (.i .i64 0)))⟩])
    (.keep [0, 3, 4, 5]
    (.blk 0 (.keep [0, 3, 4, 5]
    (.loop (.fin [0, 3, 4, 5]
      (.seq (.seq (.reg none [⟨some 13, none, .q (.mv (.t 5))⟩, ⟨some 14, none, .q (.mv (.t 3))⟩, ⟨some 15, none, .q (.bin .lss (.t 13) (.t 14))⟩])
        (.keep [0, 3, 4, 5, 15]
        (.cond (.t 15) .skip
        (.exit 0))))
      (.seq (.blk 1 (.reg none [⟨some 18, none, .q (.mv (.t 4))⟩, ⟨some 19, none, .q (.mv (.t 5))⟩, ⟨some 20, none, .q (.mv (.t 3))⟩, ⟨some 21, none, .m (.mks 1 1 [(.b false)] (.t 20) (.t 20))⟩, ⟨some 22, none, .q (.ias 1 (.t 18) (.t 19))⟩, ⟨none, none, .m (.st 1 (.t 22) (.t 21))⟩]))
      (.keep [0, 3, 4, 5]
      (.reg none [⟨some 16, none, .q (.mv (.t 5))⟩, ⟨some 17, none, .q (.bin .add (.t 16) (.c (.i .i64 1)))⟩, ⟨some 5, none, .q (.mv (.t 17))⟩]))))))))))
  (.seq (.seq (.reg none [⟨some 6, none, .q (.mv (.c (.i .i64 0)))⟩])
    (.keep [0, 3, 4, 6]
    (.blk 2 (.keep [0, 3, 4, 6]
    (.loop (.fin [0, 3, 4, 6]
      (.seq (.seq (.reg none [⟨some 23, none, .q (.mv (.t 6))⟩, ⟨some 24, none, .q (.mv (.t 3))⟩, ⟨some 25, none, .q (.bin .lss (.t 23) (.t 24))⟩])
        (.keep [0, 3, 4, 6, 25]
        (.cond (.t 25) .skip
        (.exit 2))))
      (.seq (.blk 3 (.seq (.reg none [⟨some 28, none, .q (.mv (.t 6))⟩, ⟨some 29, none, .q (.bin .sub (.t 28) (.c (.i .i64 1)))⟩, ⟨some 7, none, .q (.mv (.t 29))⟩])
        (.keep [0, 3, 4, 6, 7]
        (.blk 4 (.keep [0, 3, 4, 6, 7]
        (.loop (.fin [0, 3, 4, 6, 7]
          (.seq (.seq (.reg none [⟨some 30, none, .q (.mv (.t 7))⟩, ⟨some 31, none, .q (.bin .geq (.t 30) (.c (.i .i64 0)))⟩])
            (.keep [0, 3, 4, 6, 7, 31]
            (.cond (.t 31) .skip
            (.exit 4))))
          (.seq (.blk 5 (.seq (.seq (.reg (some (16, [])) [⟨some 34, none, .q (.mv (.t 4))⟩, ⟨some 35, none, .q (.mv (.t 7))⟩, ⟨some 36, none, .q (.ias 1 (.t 34) (.t 35))⟩, ⟨some 37, none, .q (.ld none (.t 36))⟩, ⟨some 38, none, .q (.mv (.t 6))⟩, ⟨some 39, none, .q (.ias 1 (.t 37) (.t 38))⟩, ⟨some 40, none, .q (.ld none (.t 39))⟩, ⟨some 41, none, .q (.mv (.t 40))⟩, ⟨some 42, some (41, false), .q (.mv (.t 0))⟩, ⟨some 43, some (41, false), .q (.mv (.t 7))⟩, ⟨some 44, some (41, false), .q (.ias 26 (.t 42) (.t 43))⟩, ⟨some 45, some (41, false), .q (.ld (some 26) (.t 44))⟩, ⟨some 46, some (41, false), .q (.mv (.t 0))⟩, ⟨some 47, some (41, false), .q (.mv (.t 6))⟩, ⟨some 48, some (41, false), .q (.ias 26 (.t 46) (.t 47))⟩, ⟨some 49, some (41, false), .q (.ld (some 26) (.t 48))⟩, ⟨some 50, some (41, false), .call (.f 58) [(.t 45), (.t 49)]⟩, ⟨some 51, some (41, false), .q (.un .not (.t 50))⟩, ⟨some 52, none, .pk (.t 41) (.c (.b true)) (.t 51)⟩])
              (.keep [0, 3, 4, 6, 7, 52]
              (.cond (.t 52) (.exit 5)
              .skip)))
            (.seq (.reg none [⟨some 53, none, .q (.mv (.t 4))⟩, ⟨some 54, none, .q (.mv (.t 7))⟩, ⟨some 55, none, .q (.ias 1 (.t 53) (.t 54))⟩, ⟨some 56, none, .q (.ld none (.t 55))⟩, ⟨some 57, none, .q (.mv (.t 6))⟩, ⟨some 58, none, .q (.ias 1 (.t 56) (.t 57))⟩, ⟨none, none, .m (.st 1 (.t 58) (.c (.b true)))⟩])
            (.keep [0, 3, 4, 6, 7]
            (.seq (.reg none [⟨some 8, none, .q (.mv (.c (.i .i64 0)))⟩])
            (.keep [0, 3, 4, 6, 7, 8]
            (.blk 6 (.keep [0, 3, 4, 6, 7, 8]
            (.loop (.fin [0, 3, 4, 6, 7, 8]
              (.seq (.seq (.reg none [⟨some 59, none, .q (.mv (.t 8))⟩, ⟨some 60, none, .q (.mv (.t 7))⟩, ⟨some 61, none, .q (.bin .lss (.t 59) (.t 60))⟩])
                (.keep [0, 3, 4, 6, 7, 8, 61]
                (.cond (.t 61) .skip
                (.exit 6))))
              (.seq (.blk 7 (.reg (some (22, [])) [⟨some 64, none, .q (.mv (.t 4))⟩, ⟨some 65, none, .q (.mv (.t 8))⟩, ⟨some 66, none, .q (.ias 1 (.t 64) (.t 65))⟩, ⟨some 67, none, .q (.ld none (.t 66))⟩, ⟨some 68, none, .q (.mv (.t 6))⟩, ⟨some 69, none, .q (.mv (.t 4))⟩, ⟨some 70, none, .q (.mv (.t 8))⟩, ⟨some 71, none, .q (.ias 1 (.t 69) (.t 70))⟩, ⟨some 72, none, .q (.ld none (.t 71))⟩, ⟨some 73, none, .q (.mv (.t 6))⟩, ⟨some 74, none, .q (.ias 1 (.t 72) (.t 73))⟩, ⟨some 75, none, .q (.ld none (.t 74))⟩, ⟨some 76, none, .q (.mv (.t 75))⟩, ⟨some 77, some (76, false), .q (.mv (.t 4))⟩, ⟨some 78, some (76, false), .q (.mv (.t 8))⟩, ⟨some 79, some (76, false), .q (.ias 1 (.t 77) (.t 78))⟩, ⟨some 80, some (76, false), .q (.ld none (.t 79))⟩, ⟨some 81, some (76, false), .q (.mv (.t 7))⟩, ⟨some 82, some (76, false), .q (.ias 1 (.t 80) (.t 81))⟩, ⟨some 83, some (76, false), .q (.ld none (.t 82))⟩, ⟨some 84, none, .pk (.t 76) (.c (.b true)) (.t 83)⟩, ⟨some 85, none, .q (.ias 1 (.t 67) (.t 68))⟩, ⟨none, none, .m (.st 1 (.t 85) (.t 84))⟩]))
              (.keep [0, 3, 4, 6, 7, 8]
              (.reg none [⟨some 62, none, .q (.mv (.t 8))⟩, ⟨some 63, none, .q (.bin .add (.t 62) (.c (.i .i64 1)))⟩, ⟨some 8, none, .q (.mv (.t 63))⟩]))))))))))))))
          (.keep [0, 3, 4, 6, 7]
          (.reg none [⟨some 32, none, .q (.mv (.t 7))⟩, ⟨some 33, none, .q (.bin .sub (.t 32) (.c (.i .i64 1)))⟩, ⟨some 7, none, .q (.mv (.t 33))⟩])))))))))))
      (.keep [0, 3, 4, 6]
      (.reg none [⟨some 26, none, .q (.mv (.t 6))⟩, ⟨some 27, none, .q (.bin .add (.t 26) (.c (.i .i64 1)))⟩, ⟨some 6, none, .q (.mv (.t 27))⟩]))))))))))
  (.seq (.reg none [⟨some 86, none, .q (.mv (.t 4))⟩, ⟨some 2, none, .q (.mv (.t 86))⟩])
  .ret)))))))))
theorem r45 : (Tryd.f45.body.bind (resC Tryd.prog Tryd.f45.ntmps)) = some (strip c45) := by kernel_rfl
theorem s45 : Tryd.f45.results.toList.mapM (resRes Tryd.prog) = some [.t 2] := by kernel_rfl
def brow (b : Bool) : List AV := [.b b]
def refsTo (n i : Nat) : List (List RV) := (List.range n).map fun k => if k < i then [RV.os (k + 1) 0] else [.v .nil]
@[simp] theorem refsTo_length (n i : Nat) : (refsTo n i).length = n := by simp [refsTo]
theorem refsTo_get {n i k : Nat} (hk : k < (refsTo n i).length) : (refsTo n i)[k] = if k < i then [RV.os (k + 1) 0] else [.v .nil] := by simp [refsTo]
theorem refsTo_zero (n : Nat) : refsTo n 0 = List.replicate n [.v .nil] := by
  apply List.ext_getElem (by simp)
  intro k h1 h2
  rw [refsTo_get]; simp
theorem refsTo_set {n i : Nat} (hi : i < n) : (refsTo n i).set i [RV.os (i + 1) 0] = refsTo n (i + 1) := by
  apply List.ext_getElem (by simp)
  intro k h1 h2
  rw [List.getElem_set, refsTo_get, refsTo_get]
  by_cases e : i = k
  · subst e; simp
  · rw [if_neg e]
    by_cases h : k < i
    · rw [if_pos h, if_pos (by omega)]
    · rw [if_neg h, if_neg (by omega)]
def mats (M : List (List Bool)) : List AObj := M.map fun r => .arr 0 1 (vrows (r.map brow))
@[simp] theorem mats_length (M : List (List Bool)) : (mats M).length = M.length := by simp [mats]
theorem mats_get {M : List (List Bool)} {k : Nat} {r : List Bool} (h : M[k]? = some r) : (mats M)[k]? = some (.arr 0 1 (vrows (r.map brow))) := by simp [mats, h]
theorem mats_at {M : List (List Bool)} {k : Nat} (h : k < (mats M).length) : (mats M)[k] = .arr 0 1 (vrows ((M[k]'(by simpa using h)).map brow)) := by simp [mats]
theorem mat_at {n : Nat} {f : Nat → Nat → Bool} {k : Nat} (h : k < (mat n f).length) : (mat n f)[k] = (List.range n).map (f k) := by simp [mat]
theorem mats_set (M : List (List Bool)) (k : Nat) (r : List Bool) : (mats M).set k (.arr 0 1 (vrows (r.map brow))) = mats (M.set k r) := by simp [mats, List.map_set]
theorem mats_app (M : List (List Bool)) (r : List Bool) : mats M ++ [.arr 0 1 (vrows (r.map brow))] = mats (M ++ [r]) := by simp [mats]
theorem row_set (r : List Bool) (b : Nat) (x : Bool) : (vrows (r.map brow)).set b [RV.v (.b x)] = vrows ((r.set b x).map brow) := by simp [vrows, List.map_set, brow]
theorem heap_set {n : Nat} {f : Nat → Nat → Bool} {a b : Nat} {x : Bool} : (mats (mat n f)).set a (.arr 0 1 ((vrows (((List.range n).map (f a)).map brow)).set b [RV.v (.b x)])) = mats (mat n (updM f a b x)) := by
  rw [row_set, mats_set, mat_set]
theorem before_r (t : List Ev) (h : Good t) : PureS Tryd.prog 45 [.sl 26 (t.map Ev.row)] (.sl 1 ((mat t.length (befT t)).map fun r => [.sl 1 (r.map brow)])) := by
  have hl := h.len
  refine pure_of ?_
  refine fun_go hmx Tryd.func45 r45 s45 (by rw [Tryd.ntmps45]; simp) ?_
  unfold c45
  simp
  refine ⟨by omega, ?_⟩
  refine go_count hmx 5 0 t.length (fun i h => h = .arr 0 1 (refsTo t.length i) :: mats (List.replicate i (List.replicate t.length false))) (Nat.zero_le _) (by omega) rfl (by simp [refsTo_zero, vrows, mats]) ?_ ?_
  · rintro i h - hil rfl hw
    have hI : (i : Int) < (t.length : Int) := by omega
    simp [hI, hil, refsTo_get]
    refine ⟨⟨by omega, by omega⟩, hw, refsTo_set hil, ?_⟩
    rw [List.replicate_succ', ← mats_app]
    simp [vrows, brow]
  · rintro h rfl
    simp
    have hM0 : List.replicate t.length (List.replicate t.length false) = mat t.length (befC t 0 0) := by
      rw [befC_start]
      apply List.ext_getElem (by simp)
      intro k h1 h2
      simp only [List.getElem_replicate, mat, List.getElem_map]
      apply List.ext_getElem (by simp)
      intro q h3 h4
      simp
    rw [hM0]
    refine go_count hmx 6 0 t.length (fun j h => h = .arr 0 1 (refsTo t.length t.length) :: mats (mat t.length (befC t j j))) (Nat.zero_le _) (by omega) rfl rfl ?_ ?_
    · rintro j h - hjl rfl hwj
      have hJ : (j : Int) < (t.length : Int) := by omega
      have hw0 : IntKind.i64.wrap ((j : Int) - 1) = (j : Int) - 1 := wrap_in (by omega) (by omega)
      simp [hJ, hw0]
      refine go_rounds hmx (fun (m : Nat) σ' => m ≤ j ∧ σ' = ⟨[(0, .v (.sl 26 (t.map Ev.row))), (3, .v (.i .i64 (t.length : Int))), (4, .os 0 0), (6, .v (.i .i64 (j : Int))), (7, .v (.i .i64 ((m : Int) - 1)))], .arr 0 1 (refsTo t.length t.length) :: mats (mat t.length (befC t j m))⟩) (fun m => m) j ⟨Nat.le_refl _, rfl⟩ ?_
      rintro m _ ⟨hm, rfl⟩
      cases m with
      | zero =>
        simp [hwj]
        rw [befC_next h hjl]
      | succ m =>
        have hmt : m < t.length := by omega
        have hmj : m < j := by omega
        have hw1 : IntKind.i64.wrap ((m : Int) - 1) = (m : Int) - 1 := wrap_in (by omega) (by omega)
        have hm1 : ((m : Nat) : Int) + 1 - 1 = (m : Int) := by omega
        have hMI : (m : Int) < (t.length : Int) := by omega
        simp [hm1, hmt, hjl, hMI, hJ, refsTo_get, mats_at, mat_at, vrows_at, brow]
        have hgm : t.getD m default = t[m] := by rw [List.getD_eq_getElem?_getD, List.getElem?_eq_getElem hmt]; rfl
        have hgj : t.getD j default = t[j] := by rw [List.getD_eq_getElem?_getD, List.getElem?_eq_getElem hjl]; rfl
        have hdT : depT t m j = dep t[m] t[j] := by rw [depT, hgm, hgj]
        have hcv : befC t j (m + 1) m j = colT t j (m + 1) m := by unfold befC; rw [if_neg (by omega), if_pos rfl]
        first
          | refine callkg rfl Tryd.call58 rfl (fun _ => (dependentR_p t[m] t[j])) (fun hG => by first | (simp; done) | (simp at hG; done) | simpa using hG) rfl ?_
          | refine callksg rfl Tryd.call58 rfl (fun _ => (dependentR_p t[m] t[j])) (fun hG => by first | (simp; done) | (simp at hG; done) | simpa using hG) rfl ?_
          | refine callqg rfl Tryd.call58 rfl (fun _ => (dependentR_p t[m] t[j])) (fun hG => by first | (simp; done) | (simp at hG; done) | simpa using hG) rfl ?_
        rw [hcv, ← hdT]
        simp
        refine ⟨fun hs => ?_, fun hc hd => ?_⟩
        · simp [hw1]
          exact ⟨m, ⟨by omega, ⟨rfl, by rw [befC_skip h hjl (by omega) hs]⟩⟩, by omega⟩
        · simp [hmt, hjl, hMI, hJ, refsTo_get, mats_at, mat_at, vrows_at, brow]
          refine go_count hmx 8 0 m (fun k h => h = .arr 0 1 (refsTo t.length t.length) :: mats (mat t.length (befK t j m k))) (Nat.zero_le _) (by omega) rfl ?_ ?_ ?_
          · have := heap_set (n := t.length) (f := befC t j (m + 1)) (a := m) (b := j) (x := true)
            rw [befK_start] at this
            rw [← this]
            simp [brow]
          · rintro k h - hkm rfl hwk
            have hkt : k < t.length := by omega
            have hK : (k : Int) < (m : Int) := by omega
            have hKI : (k : Int) < (t.length : Int) := by omega
            have hhs := heap_set (n := t.length) (f := befK t j m k) (a := k) (b := j) (x := befK t j m k k j || befK t j m k k m)
            rw [befK_step hkm (by omega)] at hhs
            simp [hK, hkt, hjl, hmt, hMI, hJ, hKI, refsTo_get, mats_at, mat_at, vrows_at, brow]
            exact ⟨hwk, by rw [← hhs]; simp⟩
          · rintro h rfl
            simp [hw1]
            exact ⟨m, ⟨by omega, ⟨rfl, by rw [befK_all h hmj hd]⟩⟩, by omega⟩
    · rintro h rfl
      simp
      rw [befC_all]
      refine .os rfl (by simp) (fun r row row' hr hr' => ?_) (fun r row row' q x x' hr hr' hx hx' => ?_)
      · have h1 := (List.getElem?_eq_some_iff.1 hr)
        obtain ⟨h1, rfl⟩ := h1
        obtain ⟨h2, rfl⟩ := List.getElem?_eq_some_iff.1 hr'
        rw [refsTo_get]
        simp at h1
        rw [if_pos h1]; simp
      · obtain ⟨h1, rfl⟩ := List.getElem?_eq_some_iff.1 hr
        obtain ⟨h2, rfl⟩ := List.getElem?_eq_some_iff.1 hr'
        simp only [refsTo_length] at h1
        rw [refsTo_get, if_pos h1] at hx
        rcases q with _ | q
        · simp [mat] at hx hx'
          subst hx; subst hx'
          have := Frz.plain (H := AObj.arr 0 1 (refsTo t.length t.length) :: mats (mat t.length (befT t))) (o := r + 1) (ver := 0) (sz := 1) (rows := ((List.range t.length).map (befT t r)).map brow) (by
            rw [List.getElem?_cons_succ, mats_get (mat_get h1)]; rfl)
          rw [List.map_map] at this
          exact this
        · simp at hx
end Go.Sc.Or
/- Chapter 12: the document's own: pasts, edges, clocks, what is last, the height. No condition. -/
set_option linter.constructorNameAsVariable false
namespace Go.Sc.Or
open Go Go.RowKit Go.Av Go.Proofs Go.Sc
set_option linter.unusedSimpArgs false
set_option linter.unusedVariables false
def pnatR (p : Nat × Nat) : List AV := [.i .i64 (p.1 : Int), .i .i64 (p.2 : Int)]
def mrow (r : List Bool) : List AV := [.sl 1 (r.map brow)]
def matV (n : Nat) (f : Nat → Nat → Bool) : AV := .sl 1 ((mat n f).map mrow)
theorem befM_p (t : List Ev) (h : Good t) : PureS Tryd.prog 45 [.sl 26 (t.map Ev.row)] (matV t.length (befT t)) := before_r t h
end Go.Sc.Or
