/- Chapter 03: the law ProgSpoils. No condition. -/
import Derived.Test.YtdjcfjfgdblefaaXSpB
set_option linter.constructorNameAsVariable false
namespace Go.Sc.Sp
open Go Go.RowKit Go.Av Go.Proofs Go.Sc Go.Sc.So
open Go.Sc.Q03 (check21 right22 flat_told)
set_option linter.unusedSimpArgs false
set_option linter.unusedVariables false
/-- scarab/scarablaw03.ProgSpoils -/
def c6 : ACode :=
  (.seq (.reg none [⟨some 3, none, .m (.box (.t 0))⟩, ⟨some 6, none, .q (.mv (.c (.b false)))⟩])
  (.keep [1, 2, 3]
  (.seq (.reg none [⟨some 17, none, .q (.ld (some 4) (.t 3))⟩, ⟨some 18, none, .call (.f 21) [(.t 17)]⟩, ⟨some 16, none, .q (.mv (.t 18))⟩, ⟨some 19, none, .q (.ext 0 (.t 16))⟩, ⟨some 20, none, .q (.ext 1 (.t 16))⟩, ⟨some 8, none, .m (.alloc (.g [(.i .i64 0), (.i .i64 0)]))⟩, ⟨some 7, none, .q (.mv (.t 19))⟩, ⟨none, none, .m (.st 2 (.t 8) (.t 20))⟩])
  (.keep [1, 2, 3, 7]
  (.seq (.seq (.reg none [⟨some 21, none, .q (.ld (some 4) (.t 3))⟩, ⟨some 22, none, .call (.f 22) [(.t 21)]⟩, ⟨some 23, none, .q (.un .not (.t 22))⟩])
    (.keep [1, 2, 3, 7, 23]
    (.cond (.t 23) (.seq (.reg none [⟨some 24, none, .q (.mv (.t 7))⟩, ⟨some 25, none, .q (.bin .neq (.t 24) (.c (.i .i64 0)))⟩, ⟨some 6, none, .q (.mv (.t 25))⟩])
      .ret)
    .skip)))
  (.seq (.seq (.reg none [⟨some 26, none, .q (.mv (.t 7))⟩, ⟨some 27, none, .q (.bin .neq (.t 26) (.c (.i .i64 0)))⟩])
    (.keep [1, 2, 3, 27]
    (.cond (.t 27) (.seq (.reg none [⟨some 6, none, .q (.mv (.c (.b false)))⟩])
      .ret)
    .skip)))
  (.seq (.reg none [⟨some 28, none, .q (.ld (some 4) (.t 3))⟩, ⟨some 29, none, .call (.f 10) [(.t 28)]⟩, ⟨some 9, none, .m (.alloc (.g [.nil, (.i .i64 0), .nil, .nil]))⟩, ⟨none, none, .m (.st 4 (.t 9) (.t 29))⟩])
  (.keep [1, 2, 9]
  (.seq (.reg none [⟨some 30, none, .q (.mv (.t 1))⟩, ⟨some 31, none, .q (.cvi .u64 (.t 30))⟩, ⟨some 32, none, .q (.fa 3 (.t 9))⟩, ⟨some 33, none, .q (.ld none (.t 32))⟩, ⟨some 34, none, .q (.len false (.t 33))⟩, ⟨some 35, none, .q (.cvi .u64 (.t 34))⟩, ⟨some 36, none, .q (.bin .rem (.t 31) (.t 35))⟩, ⟨some 37, none, .q (.cvi .i64 (.t 36))⟩, ⟨some 10, none, .q (.mv (.t 37))⟩])
  (.keep [1, 2, 9, 10]
  (.seq (.reg none [⟨some 38, none, .q (.mv (.t 1))⟩, ⟨some 39, none, .q (.cvi .u64 (.t 38))⟩, ⟨some 40, none, .q (.bin .quo (.t 39) (.c (.i .u64 8)))⟩, ⟨some 41, none, .q (.fa 3 (.t 9))⟩, ⟨some 42, none, .q (.ld none (.t 41))⟩, ⟨some 43, none, .q (.mv (.t 10))⟩, ⟨some 44, none, .q (.ias 4 (.t 42) (.t 43))⟩, ⟨some 45, none, .q (.fa 2 (.t 44))⟩, ⟨some 46, none, .q (.ld none (.t 45))⟩, ⟨some 47, none, .q (.len false (.t 46))⟩, ⟨some 48, none, .q (.cvi .u64 (.t 47))⟩, ⟨some 49, none, .q (.bin .rem (.t 40) (.t 48))⟩, ⟨some 50, none, .q (.cvi .i64 (.t 49))⟩, ⟨some 11, none, .q (.mv (.t 50))⟩])
  (.keep [2, 9, 10, 11]
  (.seq (.reg none [⟨some 51, none, .q (.fa 3 (.t 9))⟩, ⟨some 52, none, .q (.ld none (.t 51))⟩, ⟨some 53, none, .q (.mv (.t 10))⟩, ⟨some 54, none, .q (.ias 4 (.t 52) (.t 53))⟩, ⟨some 55, none, .q (.fa 2 (.t 54))⟩, ⟨some 56, none, .q (.ld none (.t 55))⟩, ⟨some 57, none, .q (.mv (.t 11))⟩, ⟨some 58, none, .q (.ias 5 (.t 56) (.t 57))⟩, ⟨some 12, none, .q (.mv (.t 58))⟩])
  (.keep [2, 9, 10, 11, 12]
  (.seq (.reg none [⟨some 13, none, .q (.mv (.c (.i .i64 0)))⟩])
  (.keep [2, 9, 10, 11, 12]
  (.seq (.seq (.reg none [⟨some 59, none, .q (.mv (.t 2))⟩, ⟨some 60, none, .q (.cvi .u64 (.t 59))⟩, ⟨some 61, none, .q (.bin .rem (.t 60) (.c (.i .u64 4)))⟩])
    (.keep [9, 10, 11, 12, 61]
    (.blk 0 (.seq (.reg none [⟨some 73, none, .q (.bin .eql (.t 61) (.c (.i .u64 0)))⟩, ⟨some 72, none, .q (.mv (.t 73))⟩])
    (.keep [9, 10, 11, 12, 61, 72]
    (.cond (.t 72) (.seq (.reg none [⟨some 74, none, .q (.mv (.t 12))⟩, ⟨some 75, none, .q (.nck (.t 74))⟩, ⟨some 76, none, .q (.fa 0 (.t 75))⟩, ⟨none, none, .m (.st 1 (.t 76) (.c (.i .i64 66)))⟩])
      (.keep [9, 10, 11]
      (.reg none [⟨some 13, none, .q (.mv (.c (.i .i64 33)))⟩])))
    (.seq (.reg none [⟨some 78, none, .q (.bin .eql (.t 61) (.c (.i .u64 1)))⟩, ⟨some 77, none, .q (.mv (.t 78))⟩])
      (.keep [9, 10, 11, 12, 61, 77]
      (.cond (.t 77) (.seq (.reg none [⟨some 79, none, .q (.mv (.t 12))⟩, ⟨some 80, none, .q (.bld [(.i .i64 0), (.i .i64 0), (.i .i64 0), (.i .i64 0), (.i .i64 0)] [(0, 1, .c (.i .i64 64)), (2, 1, .c (.i .i64 1))])⟩, ⟨some 81, none, .q (.nck (.t 79))⟩, ⟨none, none, .m (.st 5 (.t 81) (.t 80))⟩])
        (.keep [9, 10, 11]
        (.reg none [⟨some 13, none, .q (.mv (.c (.i .i64 34)))⟩])))
      (.seq (.reg none [⟨some 83, none, .q (.bin .eql (.t 61) (.c (.i .u64 2)))⟩, ⟨some 82, none, .q (.mv (.t 83))⟩])
        (.keep [9, 10, 11, 12, 82]
        (.cond (.t 82) (.seq (.reg none [⟨some 84, none, .q (.mv (.t 12))⟩, ⟨some 85, none, .q (.fa 3 (.t 9))⟩, ⟨some 86, none, .q (.ld none (.t 85))⟩, ⟨some 87, none, .q (.mv (.t 10))⟩, ⟨some 88, none, .q (.ias 4 (.t 86) (.t 87))⟩, ⟨some 89, none, .q (.fa 1 (.t 88))⟩, ⟨some 90, none, .q (.ld none (.t 89))⟩, ⟨some 91, none, .q (.bld [(.i .i64 0), (.i .i64 0), (.i .i64 0), (.i .i64 0), (.i .i64 0)] [(0, 1, .c (.i .i64 41)), (1, 1, .t 90)])⟩, ⟨some 92, none, .q (.nck (.t 84))⟩, ⟨none, none, .m (.st 5 (.t 92) (.t 91))⟩])
          (.keep [9, 10, 11]
          (.reg none [⟨some 13, none, .q (.mv (.c (.i .i64 35)))⟩])))
        (.seq (.reg none [⟨some 62, none, .q (.mv (.t 12))⟩, ⟨some 63, none, .q (.fa 3 (.t 9))⟩, ⟨some 64, none, .q (.ld none (.t 63))⟩, ⟨some 65, none, .q (.mv (.t 10))⟩, ⟨some 66, none, .q (.ias 4 (.t 64) (.t 65))⟩, ⟨some 67, none, .q (.fa 2 (.t 66))⟩, ⟨some 68, none, .q (.ld none (.t 67))⟩, ⟨some 69, none, .q (.len false (.t 68))⟩, ⟨some 70, none, .q (.bld [(.i .i64 0), (.i .i64 0), (.i .i64 0), (.i .i64 0), (.i .i64 0)] [(0, 1, .c (.i .i64 42)), (1, 1, .t 69)])⟩, ⟨some 71, none, .q (.nck (.t 62))⟩, ⟨none, none, .m (.st 5 (.t 71) (.t 70))⟩])
          (.keep [9, 10, 11]
          (.reg none [⟨some 13, none, .q (.mv (.c (.i .i64 38)))⟩])))))))))))))))
  (.seq (.reg none [⟨some 94, none, .q (.ld (some 4) (.t 9))⟩, ⟨some 95, none, .call (.f 21) [(.t 94)]⟩, ⟨some 93, none, .q (.mv (.t 95))⟩, ⟨some 96, none, .q (.ext 0 (.t 93))⟩, ⟨some 97, none, .q (.ext 1 (.t 93))⟩, ⟨some 15, none, .m (.alloc (.g [(.i .i64 0), (.i .i64 0)]))⟩, ⟨some 14, none, .q (.mv (.t 96))⟩, ⟨none, none, .m (.st 2 (.t 15) (.t 97))⟩])
  (.keep [10, 11, 13, 14, 15]
  (.seq (.reg none [⟨some 98, none, .q (.mv (.t 14))⟩, ⟨some 99, none, .q (.mv (.t 13))⟩, ⟨some 100, none, .q (.bin .eql (.t 98) (.t 99))⟩, ⟨some 101, none, .q (.mv (.t 100))⟩, ⟨some 102, some (101, true), .q (.ld (some 2) (.t 15))⟩, ⟨some 103, some (101, true), .q (.mv (.t 10))⟩, ⟨some 104, some (101, true), .q (.mv (.t 11))⟩, ⟨some 105, some (101, true), .q (.bld [(.i .i64 0), (.i .i64 0)] [(0, 1, .t 103), (1, 1, .t 104)])⟩, ⟨some 106, some (101, true), .q (.eqg false [.i, .i] (.t 102) (.t 105))⟩, ⟨some 107, none, .pk (.t 101) (.t 106) (.c (.b false))⟩, ⟨some 6, none, .q (.mv (.t 107))⟩])
  .ret))))))))))))))))))))
theorem r6 : (Try.f6.body.bind (resC Try.prog Try.f6.ntmps)) = some (strip c6) := by kernel_rfl
theorem s6 : Try.f6.results.toList.mapM (resRes Try.prog) = some [.t 6] := by kernel_rfl
theorem set_at (H X : List AObj) (o : Nat) (Y : AObj) (h : o < H.length) : ((H ++ X).set o Y)[o]? = some Y := by
  rw [List.getElem?_set_self (by simp; omega)]
theorem set_oth (H X : List AObj) (o : Nat) (Y : AObj) (m : Nat) (ob : AObj) (h : m ≠ o) (hm : H[m]? = some ob) : ((H ++ X).set o Y)[m]? = some ob := by
  rw [List.getElem?_set_ne (Ne.symm h), List.getElem?_append_left (List.getElem?_eq_some_iff.1 hm).1, hm]
theorem vrows_set (code : List Instr) (j : Nat) (x : Instr) : (vrows (code.map Instr.row)).set j (x.row.map .v) = vrows ((code.set j x).map Instr.row) := by simp [vrows, List.map_set]
theorem progSpoils (p : Prog) (pick what : Int) (hp : p.Ok) : PureS Try.prog 6 [.g p.row, .i .i64 pick, .i .i64 what] (.b true) := by
  refine fun_go hmx Try.func6 r6 s6 (by rw [Try.ntmps6]; simp) ?_
  unfold c6
  simp [Prog.row]
  first
    | refine callk rfl Try.call21 (check21 p hp) rfl ?_
    | refine callks rfl Try.call21 (check21 p hp) rfl ?_
    | refine callq rfl Try.call21 (check21 p hp) rfl ?_
  simp [told]
  first
    | refine callk rfl Try.call22 (right22 p hp) rfl ?_
    | refine callks rfl Try.call22 (right22 p hp) rfl ?_
    | refine callq rfl Try.call22 (right22 p hp) rfl ?_
  by_cases h : (check p).1 = 0
  rotate_left
  · simp [h]
  have hrp := right_of h
  have h8 := hrp.funcs
  obtain ⟨u, hu⟩ : ∃ u : Nat, IntKind.u64.wrap pick = (u : Int) := ⟨(IntKind.u64.wrap pick).toNat, by rw [IntKind.wrap_u64]; omega⟩
  have hu64 : (u : Int) < 18446744073709551616 := by rw [← hu, IntKind.wrap_u64]; omega
  obtain ⟨q, hq⟩ : ∃ u : Nat, IntKind.u64.wrap what = (u : Int) := ⟨(IntKind.u64.wrap what).toNat, by rw [IntKind.wrap_u64]; omega⟩
  have e6 : IntKind.u64.wrap ((u : Int) / 8) = (u : Int) / 8 := by rw [IntKind.wrap_u64]; omega
  have hul : IntKind.u64.wrap (p.funcs.length : Int) = (p.funcs.length : Int) := wrap_u64_lt (by omega)
  have hi := Nat.mod_lt u (show 0 < p.funcs.length by omega)
  have e1 : (u : Int).tmod (p.funcs.length : Int) = ((u % p.funcs.length : Nat) : Int) := (Int.ofNat_tmod _ _).symm
  generalize u % p.funcs.length = i at *
  have e2 : IntKind.i64.wrap (i : Int) = (i : Int) := wrap_in (by omega) (by omega)
  have hF : p.funcs[i]? = some (p.funcs.getD i default) := by
    rw [List.getD_eq_getElem?_getD, List.getElem?_eq_getElem hi]; rfl
  have hrf := hrp.func _ (getD_mem (d := default) hi)
  have hFok := hp.funcs _ (getD_mem (d := default) hi)
  generalize hFF : p.funcs.getD i default = F at *
  have hc := hrf.code
  have hcl : IntKind.u64.wrap (F.code.length : Int) = (F.code.length : Int) := wrap_u64_lt (by omega)
  have hj := Nat.mod_lt (u / 8) (show 0 < F.code.length by omega)
  have e3 : (u : Int).tdiv 8 = ((u / 8 : Nat) : Int) := (Int.ofNat_tdiv u 8).symm
  have e4 : ((u / 8 : Nat) : Int).tmod (F.code.length : Int) = ((u / 8 % F.code.length : Nat) : Int) := (Int.ofNat_tmod _ _).symm
  have e7 : ((u : Int) / 8).tmod (F.code.length : Int) = ((u / 8 % F.code.length : Nat) : Int) := by rw [← e4]; rfl
  generalize hjj : u / 8 % F.code.length = j at *
  have e5 : IntKind.i64.wrap (j : Int) = (j : Int) := wrap_in (by omega) (by omega)
  have hne : p.funcs ≠ [] := fun e => by rw [e] at hi; exact absurd hi (Nat.not_lt_zero i)
  have hx : F.code[j]? = some F.code[j] := List.getElem?_eq_getElem hj
  simp [h]
  refine callf [] rfl Try.call10 (plain_own p hp) (by decide) rfl (by simp) (by simp) (by simp [Prog.row]) ?_
  intro r K hO
  dsimp only
  have hO2 := hO.call (H := [AObj.var [RV.v (AV.sl 2 (List.map Var.row p.vars)), RV.v (AV.i IntKind.i64 p.locks), RV.v (AV.sl 1 (List.map irow p.chans)), RV.v (AV.sl 4 (List.map Func.row p.funcs))], AObj.var [RV.v (AV.i IntKind.i64 (check p).2.1), RV.v (AV.i IntKind.i64 (check p).2.2)]])
  generalize putH _ [] K = H2 at hO2 ⊢
  generalize RV.ren _ r = r2 at hO2 ⊢
  obtain ⟨a, va, b, vb, c, vc, rows, rfl, h1, h2, h3, h4, h5⟩ := hO2
  have hrl := h4.1
  have hri : rows[i]? = some rows[i] := List.getElem?_eq_getElem (by omega)
  obtain ⟨o, v, o2, v2, rs, f1, f2, f3, f4⟩ := h4.2 i _ F hri hF
  rw [f1] at hri
  have lt : ∀ {m : Nat} {ob : AObj}, H2[m]? = some ob → m < H2.length := fun h => (List.getElem?_eq_some_iff.1 h).1
  have g3 : ∀ X, (H2 ++ X)[c]? = some (.arr vc 4 rows) := fun X => by rw [List.getElem?_append_left (lt h3)]; exact h3
  have go : ∀ X, (H2 ++ X)[o]? = some (.arr v 5 (vrows (F.code.map Instr.row))) := fun X => by rw [List.getElem?_append_left (lt f2)]; exact f2
  have hrlI : (rows.length : Int) = (p.funcs.length : Int) := by omega
  have hri2 : ∀ hh, rows[i]'hh = [.v (.i .i64 F.params), .v (.i .i64 F.regs), .os o v, .os o2 v2] := fun hh => f1
  have hfc : F.code ≠ [] := fun e => by rw [e] at hj; exact absurd hj (Nat.not_lt_zero j)
  have gset : ∀ X Y hh, (((H2 ++ [X]).set o Y)[H2.length]'hh) = X := fun X Y hh => by
    have hlt := lt f2
    rw [List.getElem_set_ne (by omega)]; simp
  have hck := hFok.code _ (List.getElem_mem hj)
  have hq4 := Nat.mod_lt q (show 0 < 4 by omega)
  have e8 : (q : Int).tmod 4 = ((q % 4 : Nat) : Int) := (Int.ofNat_tmod q 4).symm
  have hql := lt f2
  have hon : ¬ o = H2.length := by omega
  have hcs : q % 4 = 0 ∨ q % 4 = 1 ∨ q % 4 = 2 ∨ q % 4 = 3 := by omega
  rcases hcs with hc4 | hc4 | hc4 | hc4 <;> rw [hc4] at e8
  · have hw : insE p F ⟨66, F.code[j].a, F.code[j].b, F.code[j].c, F.code[j].n⟩ = 33 := insE_op p F F.code[j]
    have hfin := check_put h hi (by rw [hFF]; exact hj) (x := ⟨66, F.code[j].a, F.code[j].b, F.code[j].c, F.code[j].n⟩) (by rw [hFF, hw]; decide)
    rw [hFF, hw] at hfin
    simp [hu, hq, hul, e1, e2, e3, hcl, e4, e5, e6, e7, e8, hne, g3, go, hrlI, hri2, hrl, hi, hj, hfc, gset, vrows_at, Instr.row]
    refine callz rfl Try.call21 (check21 _ (put_ok (i := i) (j := j) (x := ⟨66, F.code[j].a, F.code[j].b, F.code[j].c, F.code[j].n⟩) hp hi (⟨by simp [I64], hck.2.1, hck.2.2.1, hck.2.2.2.1, hck.2.2.2.2⟩))) (flat_told _) ⟨OwnProg.frz (OwnProg.put ⟨a, va, b, vb, c, vc, rows, rfl, h1, h2, h3, h4, h5⟩ rfl h1 h2 h3 h4 h5 hi (by rw [hFF]; exact hri) (by rw [hFF]; exact f2) _ (by rw [hFF, ← vrows_set]; exact set_at _ _ _ _ hql) (fun m ob q1 q2 => set_oth _ _ _ _ m ob q1 q2)), trivial⟩ ?_
    rw [hfin]
    simp [told]
  · have hw : insE p F ⟨64, 0, 1, 0, 0⟩ = 34 := insE_unused p F
    have hfin := check_put h hi (by rw [hFF]; exact hj) (x := ⟨64, 0, 1, 0, 0⟩) (by rw [hFF, hw]; decide)
    rw [hFF, hw] at hfin
    simp [hu, hq, hul, e1, e2, e3, hcl, e4, e5, e6, e7, e8, hne, g3, go, hrlI, hri2, hrl, hi, hj, hfc, gset, vrows_at, Instr.row]
    refine callz rfl Try.call21 (check21 _ (put_ok (i := i) (j := j) (x := ⟨64, 0, 1, 0, 0⟩) hp hi (by simp [I64]))) (flat_told _) ⟨OwnProg.frz (OwnProg.put ⟨a, va, b, vb, c, vc, rows, rfl, h1, h2, h3, h4, h5⟩ rfl h1 h2 h3 h4 h5 hi (by rw [hFF]; exact hri) (by rw [hFF]; exact f2) _ (by rw [hFF, ← vrows_set]; exact set_at _ _ _ _ hql) (fun m ob q1 q2 => set_oth _ _ _ _ m ob q1 q2)), trivial⟩ ?_
    rw [hfin]
    simp [told]
  · have hw : insE p F ⟨41, F.regs, 0, 0, 0⟩ = 35 := insE_reg p F
    have hfin := check_put h hi (by rw [hFF]; exact hj) (x := ⟨41, F.regs, 0, 0, 0⟩) (by rw [hFF, hw]; decide)
    rw [hFF, hw] at hfin
    simp [hu, hq, hul, e1, e2, e3, hcl, e4, e5, e6, e7, e8, hne, g3, go, hrlI, hri2, hrl, hi, hj, hfc, gset, vrows_at, Instr.row]
    refine callz rfl Try.call21 (check21 _ (put_ok (i := i) (j := j) (x := ⟨41, F.regs, 0, 0, 0⟩) hp hi (⟨by simp [I64], hFok.regs, by simp [I64], by simp [I64], by simp [I64]⟩))) (flat_told _) ⟨OwnProg.frz (OwnProg.put ⟨a, va, b, vb, c, vc, rows, rfl, h1, h2, h3, h4, h5⟩ rfl h1 h2 h3 h4 h5 hi (by rw [hFF]; exact hri) (by rw [hFF]; exact f2) _ (by rw [hFF, ← vrows_set]; exact set_at _ _ _ _ hql) (fun m ob q1 q2 => set_oth _ _ _ _ m ob q1 q2)), trivial⟩ ?_
    rw [hfin]
    simp [told]
  · have hw : insE p F ⟨42, (F.code.length : Int), 0, 0, 0⟩ = 38 := insE_target p F
    have hfin := check_put h hi (by rw [hFF]; exact hj) (x := ⟨42, (F.code.length : Int), 0, 0, 0⟩) (by rw [hFF, hw]; decide)
    rw [hFF, hw] at hfin
    simp [hu, hq, hul, e1, e2, e3, hcl, e4, e5, e6, e7, e8, hne, g3, go, hrlI, hri2, hrl, hi, hj, hfc, gset, vrows_at, Instr.row]
    refine callz rfl Try.call21 (check21 _ (put_ok (i := i) (j := j) (x := ⟨42, (F.code.length : Int), 0, 0, 0⟩) hp hi (⟨by simp [I64], (show I64 (F.code.length : Int) from ⟨by omega, by omega⟩), by simp [I64], by simp [I64], by simp [I64]⟩))) (flat_told _) ⟨OwnProg.frz (OwnProg.put ⟨a, va, b, vb, c, vc, rows, rfl, h1, h2, h3, h4, h5⟩ rfl h1 h2 h3 h4 h5 hi (by rw [hFF]; exact hri) (by rw [hFF]; exact f2) _ (by rw [hFF, ← vrows_set]; exact set_at _ _ _ _ hql) (fun m ob q1 q2 => set_oth _ _ _ _ m ob q1 q2)), trivial⟩ ?_
    rw [hfin]
    simp [told]
end Go.Sc.Sp
