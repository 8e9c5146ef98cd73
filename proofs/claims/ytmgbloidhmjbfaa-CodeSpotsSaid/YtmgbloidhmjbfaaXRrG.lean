/- Chapter 04: Spot, by the document's text; and the law CodeSpots. No condition. -/
import Derived.Test.YtmgbloidhmjbfaaXRr
import Derived.Test.YtmgbloidhmjbfaaXClF
import Derived.Test.YtmgbloidhmjbfaaXCl
set_option linter.constructorNameAsVariable false
namespace Go.Sc.Cw
open Go Go.RowKit Go.Av Go.Proofs Go.Sc.Oct
set_option linter.unusedSimpArgs false
set_option linter.unusedVariables false
/-- scarab/scarabref04.Spot -/
def c47 : ACode :=
  (.seq (.reg none [⟨some 4, none, .m (.alloc (.g [(.i .i64 0), (.i .i64 0)]))⟩, ⟨some 5, none, .q (.mv (.c (.b false)))⟩])
  (.keep [0, 1, 4]
  (.seq (.reg none [⟨some 14, none, .q (.mv (.t 0))⟩, ⟨some 15, none, .call (.f 99) [(.t 14)]⟩, ⟨some 13, none, .q (.mv (.t 15))⟩, ⟨some 16, none, .q (.ext 0 (.t 13))⟩, ⟨some 17, none, .q (.ext 1 (.t 13))⟩, ⟨some 18, none, .q (.ext 2 (.t 13))⟩, ⟨some 6, none, .m (.alloc (.g [.nil, (.i .i64 0), .nil, .nil]))⟩, ⟨none, none, .m (.st 4 (.t 6) (.t 16))⟩, ⟨some 7, none, .q (.mv (.t 17))⟩, ⟨some 8, none, .q (.mv (.t 18))⟩])
  (.keep [1, 4, 6, 7]
  (.seq (.seq (.reg none [⟨some 19, none, .q (.mv (.t 7))⟩, ⟨some 20, none, .q (.bin .neq (.t 19) (.c (.i .i64 0)))⟩])
    (.keep [1, 4, 6, 20]
    (.cond (.t 20) (.seq (.reg none [⟨some 21, none, .q (.bld [(.i .i64 0), (.i .i64 0)] [])⟩, ⟨none, none, .m (.st 2 (.t 4) (.t 21))⟩, ⟨some 5, none, .q (.mv (.c (.b false)))⟩])
      .ret)
    .skip)))
  (.seq (.seq (.reg none [⟨some 9, none, .q (.mv (.c (.i .i64 0)))⟩])
    (.keep [1, 4, 6, 9]
    (.blk 0 (.keep [1, 4, 6, 9]
    (.loop (.fin [1, 4, 6, 9]
      (.seq (.seq (.reg none [⟨some 22, none, .q (.mv (.t 9))⟩, ⟨some 23, none, .q (.fa 3 (.t 6))⟩, ⟨some 24, none, .q (.ld none (.t 23))⟩, ⟨some 25, none, .q (.len false (.t 24))⟩, ⟨some 26, none, .q (.bin .lss (.t 22) (.t 25))⟩])
        (.keep [1, 4, 6, 9, 26]
        (.cond (.t 26) .skip
        (.exit 0))))
      (.seq (.blk 1 (.seq (.reg none [⟨some 10, none, .q (.mv (.c (.i .i64 0)))⟩])
        (.keep [1, 4, 6, 9, 10]
        (.blk 2 (.keep [1, 4, 6, 9, 10]
        (.loop (.fin [1, 4, 6, 9, 10]
          (.seq (.seq (.reg none [⟨some 29, none, .q (.mv (.t 10))⟩, ⟨some 30, none, .q (.fa 3 (.t 6))⟩, ⟨some 31, none, .q (.ld none (.t 30))⟩, ⟨some 32, none, .q (.mv (.t 9))⟩, ⟨some 33, none, .q (.ias 4 (.t 31) (.t 32))⟩, ⟨some 34, none, .q (.fa 2 (.t 33))⟩, ⟨some 35, none, .q (.ld none (.t 34))⟩, ⟨some 36, none, .q (.len false (.t 35))⟩, ⟨some 37, none, .q (.bin .lss (.t 29) (.t 36))⟩])
            (.keep [1, 4, 6, 9, 10, 37]
            (.cond (.t 37) .skip
            (.exit 2))))
          (.seq (.blk 3 (.seq (.reg none [⟨some 41, none, .q (.ld (some 4) (.t 6))⟩, ⟨some 42, none, .q (.mv (.t 9))⟩, ⟨some 43, none, .q (.mv (.t 10))⟩, ⟨some 44, none, .call (.f 100) [(.t 41), (.t 42), (.t 43)]⟩, ⟨some 40, none, .q (.mv (.t 44))⟩, ⟨some 45, none, .q (.ext 0 (.t 40))⟩, ⟨some 46, none, .q (.ext 1 (.t 40))⟩, ⟨some 11, none, .q (.mv (.t 45))⟩, ⟨some 12, none, .q (.mv (.t 46))⟩])
            (.keep [1, 4, 6, 9, 10, 12]
            (.seq (.reg none [⟨some 47, none, .q (.mv (.t 1))⟩, ⟨some 48, none, .q (.mv (.t 12))⟩, ⟨some 49, none, .q (.bin .geq (.t 47) (.t 48))⟩, ⟨some 50, none, .q (.mv (.t 49))⟩, ⟨some 51, some (50, true), .q (.mv (.t 1))⟩, ⟨some 52, some (50, true), .q (.mv (.t 12))⟩, ⟨some 53, some (50, true), .q (.fa 3 (.t 6))⟩, ⟨some 54, some (50, true), .q (.ld none (.t 53))⟩, ⟨some 55, some (50, true), .q (.mv (.t 9))⟩, ⟨some 56, some (50, true), .q (.ias 4 (.t 54) (.t 55))⟩, ⟨some 57, some (50, true), .q (.fa 2 (.t 56))⟩, ⟨some 58, some (50, true), .q (.ld none (.t 57))⟩, ⟨some 59, some (50, true), .q (.mv (.t 10))⟩, ⟨some 60, some (50, true), .q (.ias 5 (.t 58) (.t 59))⟩, ⟨some 61, some (50, true), .q (.ld (some 5) (.t 60))⟩, ⟨some 62, some (50, true), .call (.f 101) [(.c .nil), (.t 61)]⟩, ⟨some 63, some (50, true), .q (.len false (.t 62))⟩, ⟨some 64, some (50, true), .q (.bin .add (.t 52) (.t 63))⟩, ⟨some 65, some (50, true), .q (.bin .lss (.t 51) (.t 64))⟩, ⟨some 66, none, .pk (.t 50) (.t 65) (.c (.b false))⟩])
            (.keep [1, 4, 6, 9, 10, 66]
            (.cond (.t 66) (.seq (.reg none [⟨some 67, none, .q (.mv (.t 9))⟩, ⟨some 68, none, .q (.mv (.t 10))⟩, ⟨some 69, none, .q (.bld [(.i .i64 0), (.i .i64 0)] [(0, 1, .t 67), (1, 1, .t 68)])⟩, ⟨none, none, .m (.st 2 (.t 4) (.t 69))⟩, ⟨some 5, none, .q (.mv (.c (.b true)))⟩])
              .ret)
            .skip))))))
          (.keep [1, 4, 6, 9, 10]
          (.reg none [⟨some 38, none, .q (.mv (.t 10))⟩, ⟨some 39, none, .q (.bin .add (.t 38) (.c (.i .i64 1)))⟩, ⟨some 10, none, .q (.mv (.t 39))⟩])))))))))))
      (.keep [1, 4, 6, 9]
      (.reg none [⟨some 27, none, .q (.mv (.t 9))⟩, ⟨some 28, none, .q (.bin .add (.t 27) (.c (.i .i64 1)))⟩, ⟨some 9, none, .q (.mv (.t 28))⟩]))))))))))
  (.seq (.reg none [⟨some 70, none, .q (.bld [(.i .i64 0), (.i .i64 0)] [])⟩, ⟨none, none, .m (.st 2 (.t 4) (.t 70))⟩, ⟨some 5, none, .q (.mv (.c (.b false)))⟩])
  .ret)))))))
theorem r47 : (Try.f47.body.bind (resC Try.prog Try.f47.ntmps)) = some (strip c47) := by kernel_rfl
theorem s47 : Try.f47.results.toList.mapM (resRes Try.prog) = some [.c 4 (some 2), .t 5] := by kernel_rfl
/-- scarab/scarablaw04.CodeSpots -/
def c12 : ACode :=
  (.seq (.reg none [⟨some 4, none, .q (.mv (.c (.b false)))⟩])
  (.keep [0, 1]
  (.seq (.reg none [⟨some 10, none, .q (.mv (.t 0))⟩, ⟨some 11, none, .q (.mv (.t 1))⟩, ⟨some 12, none, .call (.f 46) [(.t 10), (.t 11)]⟩, ⟨some 9, none, .q (.mv (.t 12))⟩, ⟨some 13, none, .q (.ext 0 (.t 9))⟩, ⟨some 14, none, .q (.ext 1 (.t 9))⟩, ⟨some 5, none, .m (.alloc (.g [(.i .i64 0), (.i .i64 0)]))⟩, ⟨none, none, .m (.st 2 (.t 5) (.t 13))⟩, ⟨some 6, none, .q (.mv (.t 14))⟩])
  (.keep [0, 1, 5, 6]
  (.seq (.reg none [⟨some 16, none, .q (.mv (.t 0))⟩, ⟨some 17, none, .q (.mv (.t 1))⟩, ⟨some 18, none, .call (.f 47) [(.t 16), (.t 17)]⟩, ⟨some 15, none, .q (.mv (.t 18))⟩, ⟨some 19, none, .q (.ext 0 (.t 15))⟩, ⟨some 20, none, .q (.ext 1 (.t 15))⟩, ⟨some 7, none, .m (.alloc (.g [(.i .i64 0), (.i .i64 0)]))⟩, ⟨none, none, .m (.st 2 (.t 7) (.t 19))⟩, ⟨some 8, none, .q (.mv (.t 20))⟩])
  (.keep [5, 6, 7, 8]
  (.seq (.reg none [⟨some 21, none, .q (.ld (some 2) (.t 5))⟩, ⟨some 22, none, .q (.ld (some 2) (.t 7))⟩, ⟨some 23, none, .q (.eqg false [.i, .i] (.t 21) (.t 22))⟩, ⟨some 24, none, .q (.mv (.t 23))⟩, ⟨some 25, some (24, true), .q (.mv (.t 6))⟩, ⟨some 26, some (24, true), .q (.mv (.t 8))⟩, ⟨some 27, some (24, true), .q (.eqb false (.t 25) (.t 26))⟩, ⟨some 28, none, .pk (.t 24) (.t 27) (.c (.b false))⟩, ⟨some 29, none, .q (.mv (.t 28))⟩, ⟨some 30, some (29, true), .call (.f 41) []⟩, ⟨some 31, none, .pk (.t 29) (.t 30) (.c (.b false))⟩, ⟨some 4, none, .q (.mv (.t 31))⟩])
  .ret)))))))
theorem r12 : (Try.f12.body.bind (resC Try.prog Try.f12.ntmps)) = some (strip c12) := by kernel_rfl
theorem s12 : Try.f12.results.toList.mapM (resRes Try.prog) = some [.t 4] := by kernel_rfl
theorem enC_of (g : Nat) : ∀ (code : List Instr) (pc place : Nat) (e : En), e ∈ enC g pc place code → ∃ i, pc ≤ e.pc ∧ code[e.pc - pc]? = some i ∧ e.len = (instrW i).length
  | [], _, _, e, h => by simp [enC] at h
  | j :: r, pc, place, e, h => by
    rw [enC, List.mem_cons] at h
    rcases h with rfl | h
    · exact ⟨j, Nat.le_refl _, by simp, rfl⟩
    · obtain ⟨i, h1, h2, h3⟩ := enC_of g r _ _ e h
      refine ⟨i, by omega, ?_, h3⟩
      rw [show e.pc - pc = (e.pc - (pc + 1)) + 1 by omega, List.getElem?_cons_succ]
      exact h2
theorem enF_of : ∀ (fs : List Func) (g place : Nat) (e : En), e ∈ enF g place fs → ∃ f i, g ≤ e.g ∧ fs[e.g - g]? = some f ∧ f.code[e.pc]? = some i ∧ e.len = (instrW i).length
  | [], _, _, e, h => by simp [enF] at h
  | f :: r, g, place, e, h => by
    rw [enF, List.mem_append] at h
    rcases h with h | h
    · obtain ⟨i, h1, h2, h3⟩ := enC_of g _ _ _ e h
      have := (enC_in g _ _ _ e h).1
      exact ⟨f, i, by omega, by rw [this, Nat.sub_self]; rfl, by simpa using h2, h3⟩
    · obtain ⟨f', i, h1, h2, h3, h4⟩ := enF_of r _ _ e h
      refine ⟨f', i, by omega, ?_, h3, h4⟩
      rw [show e.g - g = (e.g - (g + 1)) + 1 by omega, List.getElem?_cons_succ]
      exact h2
/-- Whether the place a lies in the bytes of an instruction. -/
def Hit (p : Prog) (a : Int) (n m : Nat) (i : Instr) : Prop := whereN p n m ≤ a ∧ a < whereN p n m + ((instrW i).length : Int)
theorem spot_hit {p : Prog} {a : Int} {n m : Nat} {f : Func} {i : Instr} (h1 : p.funcs[n]? = some f) (h2 : f.code[m]? = some i) (h : Hit p a n m i) : spotS p a = ⟨n, m, true⟩ := by
  obtain ⟨pre, suf, e1, e2, e3⟩ := where_at h1 h2
  obtain ⟨h3, h4⟩ := h
  rw [e1] at h3 h4
  obtain ⟨b, rfl⟩ := Int.eq_ofNat_of_zero_le (show 0 ≤ a by omega)
  exact e3 b (by omega) (by omega)
theorem fold_miss {a : Int} : ∀ (E : List En) (s : SpotS), (∀ e ∈ E, ¬ ((e.pl : Int) ≤ a ∧ a < e.pl + (e.len : Int))) → E.foldl (keyS a) s = s
  | [], _, _ => rfl
  | e :: E, s, h => by
    rw [List.foldl_cons, keyS, if_neg (h e (by simp))]
    exact fold_miss E s fun x hx => h x (by simp [hx])
theorem spot_miss {p : Prog} {a : Int} (h : ∀ (n m : Nat) f i, p.funcs[n]? = some f → f.code[m]? = some i → ¬ Hit p a n m i) : spotS p a = ⟨0, 0, false⟩ := by
  rw [spotS, funsSS_fold p a p.funcs [] 0 _ _ rfl rfl]
  refine fold_miss _ _ fun e he hh => ?_
  obtain ⟨f, i, _, h1, h2, h3⟩ := enF_of _ _ _ e he
  rw [Nat.sub_zero] at h1
  refine h e.g e.pc f i h1 h2 ?_
  have hw : whereN p e.g e.pc = e.pl := by
    rw [whereN, funsSW_fold]
    refine fold_one (P := fun x : En => (x.g : Int) = e.g ∧ (x.pc : Int) = e.pc) (v := fun x => (x.pl : Int)) (e := e) ⟨rfl, rfl⟩ _ _ (fun x hx hP => ?_) (.inl he)
    rcases all_apart _ (enF_apart p.funcs 0 (preW p).length) x hx _ he with h | ⟨h, _⟩
    · exact h
    · omega
  rw [Hit, hw, ← h3]; exact hh
theorem spot_d (bs : List UInt8) (a : Int) (ha : I64 a) : PureS Try.prog 47 [.sl 1 (bs.map brow), .i .i64 a] (spotV bs a) := by
  refine fun_go hmx Try.func47 r47 s47 (by rw [Try.ntmps47]; simp) ?_
  unfold c47
  have hd := decode_d bs
  simp [spotV]
  cases h : decode bs with
  | error x =>
    obtain ⟨e, o⟩ := x
    rw [decV, h] at hd
    have he := decode_en h
    refine callk rfl Try.call99 hd rfl ?_
    simp [noneV, he]
  | ok p =>
    obtain ⟨hc, hw⟩ := decode_ok h
    have hp : p.Ok := decode_pok h
    obtain ⟨hfo, h2⟩ := right_forms hp hc
    have hfl : p.funcs.length < 9223372036854775807 := hp.fewf.lt (by decide)
    rw [decV, h] at hd
    refine callk rfl Try.call99 hd rfl ?_
    simp [Prog.row]
    refine go_each hmx 2 9 p.funcs (fun (_ : Unit) => []) (fun _ => [.var [.v (.i .i64 0), .v (.i .i64 0)], .var (p.row.map .v)]) (fun n _ _ => ∀ (n' m : Nat) f i, n' < n → p.funcs[n']? = some f → f.code[m]? = some i → ¬ Hit p a n' m i) () hfl rfl rfl (by simp [Prog.row]) (by simp) (by simp) (by simp [Prog.row]) (by simp) ?_ ?_
    · rintro n f rest _ hn hx hr hj hw
      have hget : p.funcs[n]? = some f := by rw [List.getElem?_eq_getElem hn, hx]
      have hfm := List.mem_of_getElem? hget
      have hcl : f.code.length < 9223372036854775807 := (hp.funcs f hfm).few.lt (by decide)
      simp [hn, hx, hw, Prog.row, Func.row]
      refine go_each hmx 2 10 f.code (fun (_ : Unit) => []) (fun _ => [.var [.v (.i .i64 0), .v (.i .i64 0)], .var (p.row.map .v)]) (fun m _ _ => ∀ (m' : Nat) i, m' < m → f.code[m']? = some i → ¬ Hit p a n m' i) () hcl rfl rfl (by simp [Prog.row]) (by simp) (by simp) (by simp [Prog.row]) (by simp) ?_ ?_
      · rintro m i rest' _ hm hxi hr' hj2 hw2
        have hgeti : f.code[m]? = some i := by rw [List.getElem?_eq_getElem hm, hxi]
        have him := List.mem_of_getElem? hgeti
        have hib := instrR i (hfo f hfm i him) (((hp.funcs f hfm).code i him).2) [] (by have := len_instr ((hp.funcs f hfm).code i him).2; simp; omega)
        have hip := pure_weak (xs := [.nil, .g i.row]) hib.pure (by simp)
        obtain ⟨pre, suf, e1, e2, _⟩ := where_at hget hgeti
        have hpl : (preW p ++ pre).length ≤ 65000 := by
          have hbw : bodyW p = preW p ++ pre ++ (instrW i ++ suf) := by simp [bodyW, preW, e2]
          rw [hbw, List.length_append] at h2; omega
        have hil := len_instr ((hp.funcs f hfm).code i him).2
        have hww : IntKind.i64.wrap (whereN p n m + ((instrW i).length : Int)) = whereN p n m + ((instrW i).length : Int) := wrap_in (by omega) (by omega)
        have hby : PureS Try.prog 100 [.g p.row, .i .i64 n, .i .i64 m] (.tup [.sl 1 ((progW p).map brow), .i .i64 (whereN p n m)]) := bytesR p hp n m hfo (by omega)
        simp [hn, hx, hm, hxi, hw2, Prog.row, Func.row, Instr.row]
        refine callk rfl Try.call100 hby rfl ?_
        simp [hn, hx, hm, hxi, hw2, Prog.row, Func.row, Instr.row]
        first
          | refine callkg rfl Try.call101 rfl (fun _ => hip) (fun hG => by first | (simp; done) | (simp at hG; done) | simpa using hG) rfl ?_
          | refine callksg rfl Try.call101 rfl (fun _ => hip) (fun hG => by first | (simp; done) | (simp at hG; done) | simpa using hG) rfl ?_
          | refine callqg rfl Try.call101 rfl (fun _ => hip) (fun hG => by first | (simp; done) | (simp at hG; done) | simpa using hG) rfl ?_
        simp [hww]
        refine ⟨fun g1 g2 => ?_, fun g => ?_⟩
        · have := spot_hit hget hgeti ⟨g1, g2⟩
          simp [this]
        · refine ⟨hw2, fun m' i' hlt h3 => ?_⟩
          by_cases hmm : m' < m
          · exact hj2 m' i' hmm h3
          · obtain rfl : m' = m := by omega
            rw [hgeti] at h3; cases h3
            rintro ⟨g1, g2⟩
            have := g g1
            omega
      · rintro _ hj2
        simp [hn, hx, hw, Prog.row, Func.row]
        intro n' m' f' i' hlt h3 h4
        by_cases hnn : n' < n
        · exact hj n' m' f' i' hnn h3 h4
        · obtain rfl : n' = n := by omega
          rw [hget] at h3; cases h3
          exact hj2 m' i' (List.getElem?_eq_some_iff.1 h4).1 h4
    · rintro _ hj
      have := spot_miss (p := p) (a := a) fun n m f i h1 h2 => hj n m f i (List.getElem?_eq_some_iff.1 h1).1 h1 h2
      simp [Prog.row, this]
theorem codeSpots_l (bs : List UInt8) (a : Int) (ha : I64 a) : PureS Try.prog 12 [.sl 1 (bs.map brow), .i .i64 a] (.b true) := by
  refine fun_go hmx Try.func12 r12 s12 (by rw [Try.ntmps12]; simp) ?_
  unfold c12
  have hs := speaks_l
  have h1 := spot_l bs a
  have h2 := spot_d bs a ha
  obtain ⟨f, pc, t, hv⟩ : ∃ f pc t, spotV bs a = .tup [.g [.i .i64 f, .i .i64 pc], .b t] := by
    unfold spotV; split <;> exact ⟨_, _, _, rfl⟩
  rw [hv] at h1 h2
  simp
  refine callk rfl Try.call46 h1 rfl ?_
  simp
  refine callk rfl Try.call47 h2 rfl ?_
  simp
  first
    | refine callkg rfl Try.call41 rfl (fun _ => hs) (fun hG => by first | (simp; done) | (simp at hG; done) | simpa using hG) rfl ?_
    | refine callksg rfl Try.call41 rfl (fun _ => hs) (fun hG => by first | (simp; done) | (simp at hG; done) | simpa using hG) rfl ?_
    | refine callqg rfl Try.call41 rfl (fun _ => hs) (fun hG => by first | (simp; done) | (simp at hG; done) | simpa using hG) rfl ?_
  simp
end Go.Sc.Cw
