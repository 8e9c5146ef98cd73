/- Chapter 03: Smear writes over a program's lists, and they stay. No condition. -/
import Derived.Test.YtdjcfjfgdblefaaXSpG
set_option linter.constructorNameAsVariable false
namespace Go.Sc.Sp
open Go Go.RowKit Go.Av Go.Proofs Go.Sc Go.Sc.So
set_option linter.unusedSimpArgs false
set_option linter.unusedVariables false
/-- scarab/scarabplain.Smear -/
def c13 : ACode :=
  (.seq (.reg none [⟨some 1, none, .m (.box (.t 0))⟩])
  (.keep [1]
  (.seq (.seq (.reg none [⟨some 11, none, .q (.fa 0 (.t 1))⟩, ⟨some 12, none, .q (.ld none (.t 11))⟩, ⟨some 13, none, .q (.len false (.t 12))⟩, ⟨some 14, none, .q (.mv (.c (.i .i64 0)))⟩])
    (.keep [1, 13, 14]
    (.blk 0 (.keep [1, 13, 14]
    (.loop (.fin [1, 13, 14]
      (.seq (.reg none [⟨some 15, none, .q (.bin .lss (.t 14) (.t 13))⟩])
      (.keep [1, 13, 14, 15]
      (.seq (.cond (.t 15) .skip
        (.exit 0))
      (.seq (.blk 1 (.seq (.reg none [⟨some 16, none, .q (.mv (.t 14))⟩, ⟨some 2, none, .q (.mv (.t 16))⟩])
        (.keep [1, 2, 13, 14]
        (.reg (some (12, [])) [⟨some 17, none, .q (.fa 0 (.t 1))⟩, ⟨some 18, none, .q (.ld none (.t 17))⟩, ⟨some 19, none, .q (.mv (.t 2))⟩, ⟨some 20, none, .q (.fa 0 (.t 1))⟩, ⟨some 21, none, .q (.ld none (.t 20))⟩, ⟨some 22, none, .q (.mv (.t 2))⟩, ⟨some 23, none, .q (.ias 2 (.t 21) (.t 22))⟩, ⟨some 24, none, .q (.fa 0 (.t 23))⟩, ⟨some 25, none, .q (.ld none (.t 24))⟩, ⟨some 26, none, .q (.un .not (.t 25))⟩, ⟨some 27, none, .q (.bld [(.b false), (.i .i64 0)] [(0, 1, .t 26), (1, 1, .c (.i .i64 99))])⟩, ⟨some 28, none, .q (.ias 2 (.t 18) (.t 19))⟩, ⟨none, none, .m (.st 2 (.t 28) (.t 27))⟩]))))
      (.keep [1, 13, 14]
      (.reg none [⟨some 29, none, .q (.bin .add (.t 14) (.c (.i .i64 1)))⟩, ⟨some 14, none, .q (.mv (.t 29))⟩]))))))))))))
  (.seq (.seq (.reg none [⟨some 30, none, .q (.fa 2 (.t 1))⟩, ⟨some 31, none, .q (.ld none (.t 30))⟩, ⟨some 32, none, .q (.len false (.t 31))⟩, ⟨some 33, none, .q (.mv (.c (.i .i64 0)))⟩])
    (.keep [1, 32, 33]
    (.blk 2 (.keep [1, 32, 33]
    (.loop (.fin [1, 32, 33]
      (.seq (.reg none [⟨some 34, none, .q (.bin .lss (.t 33) (.t 32))⟩])
      (.keep [1, 32, 33, 34]
      (.seq (.cond (.t 34) .skip
        (.exit 2))
      (.seq (.blk 3 (.seq (.reg none [⟨some 35, none, .q (.mv (.t 33))⟩, ⟨some 3, none, .q (.mv (.t 35))⟩])
        (.keep [1, 3, 32, 33]
        (.reg none [⟨some 36, none, .q (.fa 2 (.t 1))⟩, ⟨some 37, none, .q (.ld none (.t 36))⟩, ⟨some 38, none, .q (.mv (.t 3))⟩, ⟨some 39, none, .q (.ias 1 (.t 37) (.t 38))⟩, ⟨none, none, .m (.st 1 (.t 39) (.c (.i .i64 77)))⟩]))))
      (.keep [1, 32, 33]
      (.reg none [⟨some 40, none, .q (.bin .add (.t 33) (.c (.i .i64 1)))⟩, ⟨some 33, none, .q (.mv (.t 40))⟩]))))))))))))
  (.seq (.seq (.reg none [⟨some 41, none, .q (.fa 3 (.t 1))⟩, ⟨some 42, none, .q (.ld none (.t 41))⟩, ⟨some 43, none, .q (.len false (.t 42))⟩, ⟨some 44, none, .q (.mv (.c (.i .i64 0)))⟩])
    (.keep [1, 42, 43, 44]
    (.blk 4 (.keep [1, 42, 43, 44]
    (.loop (.fin [1, 42, 43, 44]
      (.seq (.reg none [⟨some 45, none, .q (.bin .lss (.t 44) (.t 43))⟩])
      (.keep [1, 42, 43, 44, 45]
      (.seq (.cond (.t 45) .skip
        (.exit 4))
      (.seq (.blk 5 (.seq (.reg none [⟨some 46, none, .q (.ias 4 (.t 42) (.t 44))⟩, ⟨some 47, none, .q (.ld (some 4) (.t 46))⟩, ⟨some 5, none, .m (.alloc (.g [(.i .i64 0), (.i .i64 0), .nil, .nil]))⟩, ⟨none, none, .m (.st 4 (.t 5) (.t 47))⟩])
        (.keep [1, 5, 42, 43, 44]
        (.seq (.seq (.reg none [⟨some 48, none, .q (.fa 2 (.t 5))⟩, ⟨some 49, none, .q (.ld none (.t 48))⟩, ⟨some 50, none, .q (.len false (.t 49))⟩, ⟨some 51, none, .q (.mv (.c (.i .i64 0)))⟩])
          (.keep [1, 5, 42, 43, 44, 50, 51]
          (.blk 6 (.keep [1, 5, 42, 43, 44, 50, 51]
          (.loop (.fin [1, 5, 42, 43, 44, 50, 51]
            (.seq (.reg none [⟨some 52, none, .q (.bin .lss (.t 51) (.t 50))⟩])
            (.keep [1, 5, 42, 43, 44, 50, 51, 52]
            (.seq (.cond (.t 52) .skip
              (.exit 6))
            (.seq (.blk 7 (.seq (.reg none [⟨some 53, none, .q (.mv (.t 51))⟩, ⟨some 6, none, .q (.mv (.t 53))⟩])
              (.keep [1, 5, 6, 42, 43, 44, 50, 51]
              (.reg none [⟨some 54, none, .q (.fa 2 (.t 5))⟩, ⟨some 55, none, .q (.ld none (.t 54))⟩, ⟨some 56, none, .q (.mv (.t 6))⟩, ⟨some 57, none, .q (.bld [(.i .i64 0), (.i .i64 0), (.i .i64 0), (.i .i64 0), (.i .i64 0)] [(0, 1, .c (.i .i64 999))])⟩, ⟨some 58, none, .q (.ias 5 (.t 55) (.t 56))⟩, ⟨none, none, .m (.st 5 (.t 58) (.t 57))⟩]))))
            (.keep [1, 5, 42, 43, 44, 50, 51]
            (.reg none [⟨some 59, none, .q (.bin .add (.t 51) (.c (.i .i64 1)))⟩, ⟨some 51, none, .q (.mv (.t 59))⟩]))))))))))))
        (.seq (.reg none [⟨some 60, none, .q (.fa 3 (.t 5))⟩, ⟨some 61, none, .q (.ld none (.t 60))⟩, ⟨some 62, none, .q (.len false (.t 61))⟩, ⟨some 63, none, .q (.mv (.c (.i .i64 0)))⟩])
        (.keep [1, 42, 43, 44, 61, 62, 63]
        (.blk 8 (.keep [1, 42, 43, 44, 61, 62, 63]
        (.loop (.fin [1, 42, 43, 44, 61, 62, 63]
          (.seq (.reg none [⟨some 64, none, .q (.bin .lss (.t 63) (.t 62))⟩])
          (.keep [1, 42, 43, 44, 61, 62, 63, 64]
          (.seq (.cond (.t 64) .skip
            (.exit 8))
          (.seq (.blk 9 (.seq (.reg none [⟨some 65, none, .q (.ias 2 (.t 61) (.t 63))⟩, ⟨some 66, none, .q (.ld (some 2) (.t 65))⟩, ⟨some 8, none, .m (.alloc (.g [.nil, (.i .i64 0)]))⟩, ⟨none, none, .m (.st 2 (.t 8) (.t 66))⟩])
            (.keep [1, 8, 42, 43, 44, 61, 62, 63]
            (.seq (.reg none [⟨some 67, none, .q (.fa 0 (.t 8))⟩, ⟨some 68, none, .q (.ld none (.t 67))⟩, ⟨some 69, none, .q (.len false (.t 68))⟩, ⟨some 70, none, .q (.mv (.c (.i .i64 0)))⟩])
            (.keep [1, 8, 42, 43, 44, 61, 62, 63, 69, 70]
            (.blk 10 (.keep [1, 8, 42, 43, 44, 61, 62, 63, 69, 70]
            (.loop (.fin [1, 8, 42, 43, 44, 61, 62, 63, 69, 70]
              (.seq (.reg none [⟨some 71, none, .q (.bin .lss (.t 70) (.t 69))⟩])
              (.keep [1, 8, 42, 43, 44, 61, 62, 63, 69, 70, 71]
              (.seq (.cond (.t 71) .skip
                (.exit 10))
              (.seq (.blk 11 (.seq (.reg none [⟨some 72, none, .q (.mv (.t 70))⟩, ⟨some 9, none, .q (.mv (.t 72))⟩])
                (.keep [1, 8, 9, 42, 43, 44, 61, 62, 63, 69, 70]
                (.reg none [⟨some 73, none, .q (.fa 0 (.t 8))⟩, ⟨some 74, none, .q (.ld none (.t 73))⟩, ⟨some 75, none, .q (.mv (.t 9))⟩, ⟨some 76, none, .q (.bld [(.b false), (.i .i64 0), (.i .i64 0), (.i .i64 0)] [(1, 1, .c (.i .i64 88))])⟩, ⟨some 77, none, .q (.ias 4 (.t 74) (.t 75))⟩, ⟨none, none, .m (.st 4 (.t 77) (.t 76))⟩]))))
              (.keep [1, 8, 42, 43, 44, 61, 62, 63, 69, 70]
              (.reg none [⟨some 78, none, .q (.bin .add (.t 70) (.c (.i .i64 1)))⟩, ⟨some 70, none, .q (.mv (.t 78))⟩])))))))))))))))
          (.keep [1, 42, 43, 44, 61, 62, 63]
          (.reg none [⟨some 79, none, .q (.bin .add (.t 63) (.c (.i .i64 1)))⟩, ⟨some 63, none, .q (.mv (.t 79))⟩]))))))))))))))))
      (.keep [1, 42, 43, 44]
      (.reg none [⟨some 80, none, .q (.bin .add (.t 44) (.c (.i .i64 1)))⟩, ⟨some 44, none, .q (.mv (.t 80))⟩]))))))))))))
  (.seq (.reg none [⟨some 81, none, .q (.fa 3 (.t 1))⟩, ⟨some 82, none, .q (.ld none (.t 81))⟩, ⟨some 83, none, .q (.len false (.t 82))⟩, ⟨some 84, none, .q (.mv (.c (.i .i64 0)))⟩])
  (.keep [1, 83, 84]
  (.blk 12 (.keep [1, 83, 84]
  (.loop (.fin [1, 83, 84]
    (.seq (.reg none [⟨some 85, none, .q (.bin .lss (.t 84) (.t 83))⟩])
    (.keep [1, 83, 84, 85]
    (.seq (.cond (.t 85) .skip
      (.exit 12))
    (.seq (.blk 13 (.seq (.reg none [⟨some 86, none, .q (.mv (.t 84))⟩, ⟨some 10, none, .q (.mv (.t 86))⟩])
      (.keep [1, 10, 83, 84]
      (.reg none [⟨some 87, none, .q (.fa 3 (.t 1))⟩, ⟨some 88, none, .q (.ld none (.t 87))⟩, ⟨some 89, none, .q (.mv (.t 10))⟩, ⟨some 90, none, .q (.bld [(.i .i64 0), (.i .i64 0), .nil, .nil] [(1, 1, .c (.i .i64 66))])⟩, ⟨some 91, none, .q (.ias 4 (.t 88) (.t 89))⟩, ⟨none, none, .m (.st 4 (.t 91) (.t 90))⟩]))))
    (.keep [1, 83, 84]
    (.reg none [⟨some 92, none, .q (.bin .add (.t 84) (.c (.i .i64 1)))⟩, ⟨some 84, none, .q (.mv (.t 92))⟩])))))))))))))))))
theorem r13 : (Try.f13.body.bind (resC Try.prog Try.f13.ntmps)) = some (strip c13) := by kernel_rfl
theorem s13 : Try.f13.results.toList.mapM (resRes Try.prog) = some [] := by kernel_rfl
/-- The three lists are there yet. -/
def Lens (H : List AObj) (r : RV) (p : Prog) : Prop := ∃ a va b vb c vc R1 R2 R3, r = .gr [.os a va, .v (.i .i64 p.locks), .os b vb, .os c vc] ∧ H[a]? = some (.arr va 2 R1) ∧ R1.length = p.vars.length ∧ H[b]? = some (.arr vb 1 R2) ∧ R2.length = p.chans.length ∧ H[c]? = some (.arr vc 4 R3) ∧ R3.length = p.funcs.length
theorem smear_p (p : Prog) (hp : p.Ok) (r : RV) (K : List AObj) (ho : OwnP2 K r p) : CallS Try.prog 13 [r] K fun _ K' => Lens K' r p := by
  obtain ⟨n, a, va, b, vb, c, vc, rows, rfl, h0, h1, h2, h3, h4, h5⟩ := ho
  obtain ⟨n, h0, hn, h4⟩ : ∃ n, (a < n ∧ b < n ∧ c < n) ∧ n ≤ K.length ∧ OwnFns (above n K) rows p.funcs := by
    rcases hpf : p.funcs with _ | ⟨f, fs⟩
    · rw [hpf] at h4
      have h6 : rows = [] := List.eq_nil_of_length_eq_zero h4.1
      have lt : ∀ {o : Nat} {ob : AObj}, K[o]? = some ob → o < K.length := fun h => (List.getElem?_eq_some_iff.1 h).1
      exact ⟨K.length, ⟨lt h1, lt h2, lt h3⟩, Nat.le_refl _, by simp [h6, OwnFns]⟩
    · rw [hpf] at h4
      have h6 := h4.1
      have hr0 : rows[0]? = some (rows[0]'(by rw [h6]; simp)) := List.getElem?_eq_getElem _
      obtain ⟨q, v, q2, v2, rs, e1, e2, _⟩ := h4.2 0 _ f hr0 rfl
      obtain ⟨k1, k2, _⟩ := at_lt e2
      exact ⟨n, h0, by omega, h4⟩
  have hsh := OwnP2.sh hp h0 hn h1 h2 h3 h4
  generalize hm : K.length = m at hsh
  refine fun_go hmx Try.func13 r13 s13 (by rw [Try.ntmps13]; simp) ?_
  unfold c13
  have hs1 : Sh n m (K ++ [AObj.var [.os a va, .v (.i .i64 p.locks), .os b vb, .os c vc]]) a va b vb c vc p.vars.length p.chans.length p.funcs.length := hsh.over (over_app _ _)
  have hv1 : (K ++ [AObj.var [.os a va, .v (.i .i64 p.locks), .os b vb, .os c vc]])[m]? = some (AObj.var [.os a va, .v (.i .i64 p.locks), .os b vb, .os c vc]) := by rw [← hm]; simp
  have g1 : ∀ X, (K ++ X)[a]? = some (.arr va 2 (vrows (p.vars.map Var.row))) := fun X => by rw [List.getElem?_append_left (List.getElem?_eq_some_iff.1 h1).1]; exact h1
  simp [g1, hm]
  generalize K ++ [AObj.var [.os a va, .v (.i .i64 p.locks), .os b vb, .os c vc]] = h0 at hs1 hv1 ⊢
  refine go_count hmx 14 0 p.vars.length (fun i h => Sh n m h a va b vb c vc p.vars.length p.chans.length p.funcs.length ∧ h[m]? = some (AObj.var [.os a va, .v (.i .i64 p.locks), .os b vb, .os c vc])) (Nat.zero_le _) (hp.fewv.lt (by decide)) rfl ⟨hs1, hv1⟩ ?_ ?_
  · rintro i h - hlt ⟨hs, hv⟩ hw
    obtain ⟨R, e1, e2, e3⟩ := hs.vars
    have hi : i < R.length := by omega
    obtain ⟨x, y, hxy⟩ := e3 R[i] (List.getElem_mem hi)
    have hri : R[i]? = some [.v (.b x), .v (.i .i64 y)] := by rw [List.getElem?_eq_getElem hi, hxy]
    have hltI : (i : Int) < (p.vars.length : Int) := by omega
    simp [hltI, hv, e1, e2, hri, hw, hlt, hxy]
    refine ⟨hs.setVars (by simp [e2]) (fun row hr => ?_), by rw [List.getElem?_set_ne (by have := hs.low; omega)]; exact hv⟩
    rcases List.mem_or_eq_of_mem_set hr with h6 | rfl
    · exact e3 row h6
    · exact ⟨_, _, rfl⟩
  rintro h ⟨hs, hv⟩
  obtain ⟨R2, b1, b2, b3⟩ := hs.chans
  simp [hv, b1, b2]
  refine go_count hmx 33 0 p.chans.length (fun i h => Sh n m h a va b vb c vc p.vars.length p.chans.length p.funcs.length ∧ h[m]? = some (AObj.var [.os a va, .v (.i .i64 p.locks), .os b vb, .os c vc])) (Nat.zero_le _) (hp.fewc.lt (by decide)) rfl ⟨hs, hv⟩ ?_ ?_
  · rintro i h - hlt ⟨hs, hv⟩ hw
    obtain ⟨R, e1, e2, e3⟩ := hs.chans
    have hi : i < R.length := by omega
    have hri : R[i]? = some R[i] := List.getElem?_eq_getElem hi
    have hlen := e3.2 R[i] (List.getElem_mem hi)
    have hltI : (i : Int) < (p.chans.length : Int) := by omega
    simp [hltI, hv, e1, e2, hw, hlt, hlen]
    refine ⟨hs.setChans (by simp [e2]) (wide_set e3 (by simpa using hlen)), by rw [List.getElem?_set_ne (by have := hs.low; omega)]; exact hv⟩
  rintro h ⟨hs, hv⟩
  obtain ⟨R3, c1, c2, c3⟩ := hs.funcs
  simp [hv, c1, c2]
  refine go_count hmx 44 0 p.funcs.length (fun i h => Sh n m h a va b vb c vc p.vars.length p.chans.length p.funcs.length ∧ h[m]? = some (AObj.var [.os a va, .v (.i .i64 p.locks), .os b vb, .os c vc])) (Nat.zero_le _) (hp.fewf.lt (by decide)) rfl ⟨hs, hv⟩ ?_ ?_
  · rintro i h - hlt ⟨hs, hv⟩ hw
    obtain ⟨R3, c1, c2, c3⟩ := hs.funcs
    have hi : i < R3.length := by omega
    obtain ⟨x, y, o, v, o2, v2, R, S, hrow, ho, ho2, e5, w5, e6, hSb, hS⟩ := c3 R3[i] (List.getElem_mem hi)
    have hltI : (i : Int) < (p.funcs.length : Int) := by omega
    have hmh : m < h.length := (List.getElem?_eq_some_iff.1 hv).1
    have g5 : ∀ X, (h ++ X)[o]? = some (.arr v 5 R) := fun X => by rw [List.getElem?_append_left (List.getElem?_eq_some_iff.1 e5).1]; exact e5
    simp [hltI, hv, c1, c2, hw, hlt, hrow, g5]
    have hnm := hs.low
    generalize hfv : h.length = fv at *
    have hRl := w5.1
    refine go_count hmx 51 0 R.length (fun j h2 => (Over n m h h2 ∧ h2[m]? = some (AObj.var [.os a va, .v (.i .i64 p.locks), .os b vb, .os c vc])) ∧ h2[fv]? = some (AObj.var [.v (.i .i64 x), .v (.i .i64 y), .os o v, .os o2 v2]) ∧ ∃ R', h2[o]? = some (.arr v 5 R') ∧ Wide 5 R' ∧ R'.length = R.length) (Nat.zero_le _) hRl rfl ⟨⟨over_app _ _, by rw [List.getElem?_append_left (by omega)]; exact hv⟩, by rw [← hfv]; simp, R, g5 _, w5, rfl⟩ ?_ ?_
    · rintro j h2 - hlt2 ⟨⟨hov, hv2⟩, hf2, R', q1, q2, q3⟩ hw2
      have hj : j < R'.length := by omega
      have hlen := q2.2 R'[j] (List.getElem_mem hj)
      have hjI : (j : Int) < (R.length : Int) := by omega
      simp [hjI, hf2, q1, q3, hw2, hlt2, hlen]
      have hne : o ≠ fv := by omega
      have hom : o ≠ m := by omega
      refine ⟨⟨hov.trans (over_set (.inl rfl) q1 (wide_set q2 (by simpa using hlen))), by rw [List.getElem?_set_ne hom]; exact hv2⟩, by rw [List.getElem?_set_ne hne]; exact hf2, _, by rw [List.getElem?_set_self (List.getElem?_eq_some_iff.1 q1).1], wide_set q2 (by simpa using hlen), by simpa using q3⟩
    rintro h2 ⟨⟨hov, hv2⟩, hf2, R', q1, q2, q3⟩
    have hS2 : h2[o2]? = some (.arr v2 2 S) := by
      rcases hov.2 o2 v2 2 S ho2.2 e6 with h7 | ⟨h8, _⟩
      · exact h7
      · omega
    simp [hf2, hS2]
    have hsel : ∀ row ∈ S, ShSel n m h row := hS
    refine go_count hmx 63 0 S.length (fun k h3 => (Over n m h h3 ∧ h3[m]? = some (AObj.var [.os a va, .v (.i .i64 p.locks), .os b vb, .os c vc]))) (Nat.zero_le _) hSb rfl ⟨hov, hv2⟩ ?_ ?_
    · rintro k h3 - hlt3 ⟨hov3, hv3⟩ hw3
      have hS3 : h3[o2]? = some (.arr v2 2 S) := by
        rcases hov3.2 o2 v2 2 S ho2.2 e6 with h7 | ⟨h8, _⟩
        · exact h7
        · omega
      obtain ⟨q, w, z, Rq, hrow3, hq1, hq2, hq3, hq4⟩ := (hS S[k] (List.getElem_mem hlt3)).over hov3
      have hkI : (k : Int) < (S.length : Int) := by omega
      have hm3 : m < h3.length := (List.getElem?_eq_some_iff.1 hv3).1
      have g7 : ∀ X, (h3 ++ X)[q]? = some (.arr w 4 Rq) := fun X => by rw [List.getElem?_append_left (List.getElem?_eq_some_iff.1 hq3).1]; exact hq3
      simp [hkI, hS3, hw3, hlt3, hrow3, g7]
      generalize hsv : h3.length = sv at *
      refine go_count hmx 70 0 Rq.length (fun l h4 => (Over n m h h4 ∧ h4[m]? = some (AObj.var [.os a va, .v (.i .i64 p.locks), .os b vb, .os c vc])) ∧ h4[sv]? = some (AObj.var [.os q w, .v (.i .i64 z)]) ∧ ∃ R', h4[q]? = some (.arr w 4 R') ∧ Wide 4 R' ∧ R'.length = Rq.length) (Nat.zero_le _) hq4.1 rfl ⟨⟨hov3.trans (over_app _ _), by rw [List.getElem?_append_left (by omega)]; exact hv3⟩, by rw [← hsv]; simp, Rq, g7 _, hq4, rfl⟩ ?_ ?_
      · rintro l h4 - hlt4 ⟨⟨hov4, hv4⟩, hf4, R4, r1, r2, r3⟩ hw4
        have hl4 : l < R4.length := by omega
        have hlen4 := r2.2 R4[l] (List.getElem_mem hl4)
        have hlI : (l : Int) < (Rq.length : Int) := by omega
        simp [hlI, hf4, r1, r3, hw4, hlt4, hlen4]
        have hne : q ≠ sv := by omega
        have hom : q ≠ m := by omega
        refine ⟨⟨hov4.trans (over_set (.inr ⟨rfl, hq1⟩) r1 (wide_set r2 (by simpa using hlen4))), by rw [List.getElem?_set_ne hom]; exact hv4⟩, by rw [List.getElem?_set_ne hne]; exact hf4, _, by rw [List.getElem?_set_self (List.getElem?_eq_some_iff.1 r1).1], wide_set r2 (by simpa using hlen4), by simpa using r3⟩
      rintro h4 ⟨⟨hov4, hv4⟩, hf4, R4, r1, r2, r3⟩
      simp [hw3]
      exact ⟨hov4, hv4⟩
    rintro h3 ⟨hov3, hv3⟩
    simp [hw]
    exact ⟨hs.over hov3, hv3⟩
  rintro h ⟨hs, hv⟩
  have hlow := hs.low
  obtain ⟨R1, a1, a2, a3⟩ := hs.vars
  obtain ⟨R2, b1, b2, b3⟩ := hs.chans
  obtain ⟨R3, c1, c2, c3⟩ := hs.funcs
  have nca : c ≠ a := fun e => by subst e; rw [a1] at c1; cases c1
  have ncb : c ≠ b := fun e => by subst e; rw [b1] at c1; cases c1
  simp [hv, c1, c2]
  refine go_count hmx 84 0 p.funcs.length (fun i h => h[m]? = some (AObj.var [.os a va, .v (.i .i64 p.locks), .os b vb, .os c vc]) ∧ h[a]? = some (.arr va 2 R1) ∧ h[b]? = some (.arr vb 1 R2) ∧ ∃ R3, h[c]? = some (.arr vc 4 R3) ∧ R3.length = p.funcs.length ∧ ∀ row ∈ R3, row.length = 4) (Nat.zero_le _) (hp.fewf.lt (by decide)) rfl ⟨hv, a1, b1, R3, c1, c2, fun row hr => ?_⟩ ?_ ?_
  · obtain ⟨x, y, o, v, o2, v2, R, S, rfl, _⟩ := c3 row hr
    rfl
  · rintro i h - hlt ⟨hv, a1, b1, R3, c1, c2, c3⟩ hw
    have hi : i < R3.length := by omega
    have hlen := c3 R3[i] (List.getElem_mem hi)
    have hltI : (i : Int) < (p.funcs.length : Int) := by omega
    simp [hltI, hv, c1, c2, hw, hlt, hlen]
    refine ⟨by rw [List.getElem?_set_ne (by omega)]; exact hv, by rw [List.getElem?_set_ne nca]; exact a1, by rw [List.getElem?_set_ne ncb]; exact b1, _, by rw [List.getElem?_set_self (List.getElem?_eq_some_iff.1 c1).1], by simpa using c2, fun row hr => ?_⟩
    rcases List.mem_or_eq_of_mem_set hr with h6 | rfl
    · exact c3 row h6
    · simpa using hlen
  rintro h ⟨hv, a1, b1, R3, c1, c2, c3⟩
  simp
  exact ⟨a, va, b, vb, c, vc, R1, R2, R3, rfl, a1, a2, b1, b2, c1, c2⟩
end Go.Sc.Sp
