/- Chapter 03: a copy in memory of its own. No condition. -/
import Derived.Test.YtdjcfjfgdblefaaXSpD
set_option linter.constructorNameAsVariable false
namespace Go.Sc.Sp
open Go Go.RowKit Go.Av Go.Proofs Go.Sc Go.Sc.So
set_option linter.unusedSimpArgs false
set_option linter.unusedVariables false
/-- scarab/prog.Copy -/
def c11 : ACode :=
  (.seq (.reg none [⟨some 1, none, .m (.box (.t 0))⟩, ⟨some 2, none, .m (.alloc (.g [.nil, (.i .i64 0), .nil, .nil]))⟩])
  (.keep [1, 2]
  (.seq (.rgx 13 [0, 1, 2, 11] [⟨some 7, none, .q (.fa 0 (.t 1))⟩, ⟨some 8, none, .q (.ld none (.t 7))⟩, ⟨some 9, none, .call (.f 31) [(.t 8)]⟩, ⟨some 10, none, .q (.fa 1 (.t 1))⟩, ⟨some 11, none, .q (.ld none (.t 10))⟩, ⟨some 12, none, .q (.fa 2 (.t 1))⟩, ⟨some 13, none, .q (.ld none (.t 12))⟩, ⟨some 14, none, .call (.f 32) [(.t 13)]⟩, ⟨some 15, none, .q (.fa 3 (.t 1))⟩, ⟨some 16, none, .q (.ld none (.t 15))⟩, ⟨some 17, none, .call (.f 33) [(.t 16)]⟩, ⟨some 18, none, .q (.bld [.nil, (.i .i64 0), .nil, .nil] [(0, 1, .t 9), (1, 1, .t 11), (2, 1, .t 14), (3, 1, .t 17)])⟩, ⟨some 3, none, .m (.alloc (.g [.nil, (.i .i64 0), .nil, .nil]))⟩, ⟨none, none, .m (.st 4 (.t 3) (.t 18))⟩])
  (.keep [2, 3]
  (.seq (.seq (.reg none [⟨some 19, none, .q (.fa 3 (.t 3))⟩, ⟨some 20, none, .q (.ld none (.t 19))⟩, ⟨some 21, none, .q (.len false (.t 20))⟩, ⟨some 22, none, .q (.mv (.c (.i .i64 0)))⟩])
    (.keep [2, 3, 20, 21, 22]
    (.blk 0 (.keep [2, 3, 20, 21, 22]
    (.loop (.fin [2, 3, 20, 21, 22]
      (.seq (.reg none [⟨some 23, none, .q (.bin .lss (.t 22) (.t 21))⟩])
      (.keep [2, 3, 20, 21, 22, 23]
      (.seq (.cond (.t 23) .skip
        (.exit 0))
      (.seq (.blk 1 (.seq (.reg none [⟨some 24, none, .q (.mv (.t 22))⟩, ⟨some 25, none, .q (.ias 4 (.t 20) (.t 22))⟩, ⟨some 26, none, .q (.ld (some 4) (.t 25))⟩, ⟨some 5, none, .m (.alloc (.g [(.i .i64 0), (.i .i64 0), .nil, .nil]))⟩, ⟨some 4, none, .q (.mv (.t 24))⟩, ⟨none, none, .m (.st 4 (.t 5) (.t 26))⟩])
        (.keep [2, 3, 4, 5, 20, 21, 22]
        (.seq (.reg none [⟨some 27, none, .q (.fa 2 (.t 5))⟩, ⟨some 28, none, .q (.ld none (.t 27))⟩, ⟨some 29, none, .call (.f 34) [(.t 28)]⟩, ⟨some 30, none, .q (.fa 2 (.t 5))⟩, ⟨none, none, .m (.st 1 (.t 30) (.t 29))⟩])
        (.keep [2, 3, 4, 5, 20, 21, 22]
        (.seq (.reg none [⟨some 31, none, .q (.fa 3 (.t 5))⟩, ⟨some 32, none, .q (.ld none (.t 31))⟩, ⟨some 33, none, .call (.f 35) [(.t 32)]⟩, ⟨some 34, none, .q (.fa 3 (.t 5))⟩, ⟨none, none, .m (.st 1 (.t 34) (.t 33))⟩])
        (.keep [2, 3, 4, 5, 20, 21, 22]
        (.seq (.seq (.reg none [⟨some 35, none, .q (.fa 3 (.t 5))⟩, ⟨some 36, none, .q (.ld none (.t 35))⟩, ⟨some 37, none, .q (.len false (.t 36))⟩, ⟨some 38, none, .q (.mv (.c (.i .i64 0)))⟩])
          (.keep [2, 3, 4, 5, 20, 21, 22, 37, 38]
          (.blk 2 (.keep [2, 3, 4, 5, 20, 21, 22, 37, 38]
          (.loop (.fin [2, 3, 4, 5, 20, 21, 22, 37, 38]
            (.seq (.reg none [⟨some 39, none, .q (.bin .lss (.t 38) (.t 37))⟩])
            (.keep [2, 3, 4, 5, 20, 21, 22, 37, 38, 39]
            (.seq (.cond (.t 39) .skip
              (.exit 2))
            (.seq (.blk 3 (.seq (.reg none [⟨some 40, none, .q (.mv (.t 38))⟩, ⟨some 6, none, .q (.mv (.t 40))⟩])
              (.keep [2, 3, 4, 5, 6, 20, 21, 22, 37, 38]
              (.reg (some (9, [0, 1])) [⟨some 41, none, .q (.fa 3 (.t 5))⟩, ⟨some 42, none, .q (.ld none (.t 41))⟩, ⟨some 43, none, .q (.mv (.t 6))⟩, ⟨some 44, none, .q (.fa 3 (.t 5))⟩, ⟨some 45, none, .q (.ld none (.t 44))⟩, ⟨some 46, none, .q (.mv (.t 6))⟩, ⟨some 47, none, .q (.ias 2 (.t 45) (.t 46))⟩, ⟨some 48, none, .q (.fa 0 (.t 47))⟩, ⟨some 49, none, .q (.ld none (.t 48))⟩, ⟨some 50, none, .call (.f 36) [(.t 49)]⟩, ⟨some 51, none, .q (.ias 2 (.t 42) (.t 43))⟩, ⟨some 52, none, .q (.fa 0 (.t 51))⟩, ⟨none, none, .m (.st 1 (.t 52) (.t 50))⟩]))))
            (.keep [2, 3, 4, 5, 20, 21, 22, 37, 38]
            (.reg none [⟨some 53, none, .q (.bin .add (.t 38) (.c (.i .i64 1)))⟩, ⟨some 38, none, .q (.mv (.t 53))⟩]))))))))))))
        (.reg none [⟨some 54, none, .q (.fa 3 (.t 3))⟩, ⟨some 55, none, .q (.ld none (.t 54))⟩, ⟨some 56, none, .q (.mv (.t 4))⟩, ⟨some 57, none, .q (.ld (some 4) (.t 5))⟩, ⟨some 58, none, .q (.ias 4 (.t 55) (.t 56))⟩, ⟨none, none, .m (.st 4 (.t 58) (.t 57))⟩])))))))))
      (.keep [2, 3, 20, 21, 22]
      (.reg none [⟨some 59, none, .q (.bin .add (.t 22) (.c (.i .i64 1)))⟩, ⟨some 22, none, .q (.mv (.t 59))⟩]))))))))))))
  (.seq (.reg none [⟨some 60, none, .q (.ld (some 4) (.t 3))⟩, ⟨none, none, .m (.st 4 (.t 2) (.t 60))⟩])
  .ret))))))
theorem r11 : (Try.f11.body.bind (resCX true Try.prog Try.f11.ntmps)) = some (strip c11) := by kernel_rfl
theorem s11 : Try.f11.results.toList.mapM (resRes Try.prog) = some [.c 2 (some 4)] := by kernel_rfl
/-- Rows of which the first i are one's own, and the others yet plain. -/
def Half {α : Type} (R : List RV → α → Prop) (pl : α → List AV) (rows : List (List RV)) (l : List α) (i : Nat) : Prop :=
  rows.length = l.length ∧ (∀ (k : Nat) row f, k < i → rows[k]? = some row → l[k]? = some f → R row f) ∧ ∀ (k : Nat) f, i ≤ k → l[k]? = some f → rows[k]? = some ((pl f).map .v)
theorem Half.start {α : Type} (R : List RV → α → Prop) (pl : α → List AV) (l : List α) : Half R pl (vrows (l.map pl)) l 0 := by
  refine ⟨by simp [vrows], fun k row f h => by omega, fun k f _ h => ?_⟩
  simp [vrows, h]
theorem Half.step {α : Type} {R : List RV → α → Prop} {pl : α → List AV} {rows : List (List RV)} {l : List α} {i : Nat} (h : Half R pl rows l i) (hi : i < l.length) {row : List RV} (hr : R row l[i]) : Half R pl (rows.set i row) l (i + 1) := by
  obtain ⟨h1, h2, h3⟩ := h
  refine ⟨by simp [h1], fun k row' f hk hr' hf => ?_, fun k f hk hf => ?_⟩
  · by_cases hki : i = k
    · subst hki
      rw [List.getElem?_set_self (by omega)] at hr'
      rw [List.getElem?_eq_getElem hi] at hf
      cases hr'; cases hf; exact hr
    · rw [List.getElem?_set_ne hki] at hr'
      exact h2 k row' f (by omega) hr' hf
  · rw [List.getElem?_set_ne (by omega)]
    exact h3 k f (by omega) hf
theorem Half.sub {α : Type} {R R' : List RV → α → Prop} {pl : α → List AV} {rows : List (List RV)} {l : List α} {i : Nat} (h : Half R pl rows l i) (hR : ∀ row f, R row f → R' row f) : Half R' pl rows l i :=
  ⟨h.1, fun k row f hk h1 h2 => hR _ _ (h.2.1 k row f hk h1 h2), h.2.2⟩
theorem Half.done {α : Type} {R : List RV → α → Prop} {pl : α → List AV} {rows : List (List RV)} {l : List α} (h : Half R pl rows l l.length) : rows.length = l.length ∧ ∀ (k : Nat) row f, rows[k]? = some row → l[k]? = some f → R row f :=
  ⟨h.1, fun k row f h1 h2 => h.2.1 k row f (List.getElem?_eq_some_iff.1 h2).1 h1 h2⟩
theorem take_snoc {α : Type} {l : List α} {i : Nat} {x : α} (h : i < l.length) : (l.set i x).take (i + 1) = l.take i ++ [x] := by
  rw [List.take_add_one, List.getElem?_set_self h, List.take_set, List.set_eq_of_length_le (by simp; omega)]; rfl
theorem copy_own2 (p : Prog) (hp : p.Ok) : CallS Try.prog 11 [.v (.g p.row)] [] fun r K => OwnP2 K r p := by
  refine fun_go hmx Try.func11 r11 s11 (by rw [Try.ntmps11]; simp) ?_
  unfold c11
  simp [Prog.row]
  refine go_x ?_
  simp
  refine callx rfl Try.call31 (own_var p.vars hp.fewv) rfl ?_
  simp
  refine callx rfl Try.call32 (own_int p.chans hp.fewc) rfl ?_
  simp
  refine callx rfl Try.call33 (own_func p.funcs hp.fewf) rfl ?_
  simp
  refine go_count hmx 22 0 p.funcs.length (fun i h => ∃ rows K, h = AObj.var (p.row.map .v) :: AObj.var [.v .nil, .v (.i .i64 0), .v .nil, .v .nil] :: AObj.none :: AObj.none :: AObj.arr 1 2 (vrows (p.vars.map Var.row)) :: AObj.none :: AObj.none :: AObj.none :: AObj.none :: AObj.arr 1 1 (vrows (p.chans.map irow)) :: AObj.none :: AObj.none :: AObj.arr 1 4 rows :: AObj.none :: AObj.var [.os 4 1, .v (.i .i64 p.locks), .os 9 1, .os 12 1] :: K ∧ Half (OwnFn (beyond 15 K)) Func.row rows p.funcs i ∧ Rise (rows.take i) (15 + K.length)) (Nat.zero_le _) (hp.fewf.lt (by decide)) rfl ⟨_, [], by simp [Prog.row], Half.start _ _ _, by simp [Rise]⟩ ?_ ?_
  · rintro i hp' - hlt ⟨rows, K, rfl, hO, hR⟩ hw
    have hok := hp.funcs p.funcs[i] (List.getElem_mem hlt)
    have hrl : rows.length = p.funcs.length := hO.1
    have hri : rows[i]? = some (p.funcs[i].row.map .v) := hO.2.2 i _ (Nat.le_refl _) (List.getElem?_eq_getElem hlt)
    generalize hx' : p.funcs[i] = f at *
    have hri2 : ∀ hh, rows[i]'hh = f.row.map .v := fun hh => by
      have := List.getElem?_eq_getElem hh; rw [hri] at this; exact (Option.some.inj this).symm
    have hltI : (i : Int) < (p.funcs.length : Int) := by omega
    simp [hlt, hltI, hrl, hri2, hw, Func.row, Prog.row]
    refine callp rfl Try.call34 (own_instr f.code hok.few) rfl ?_
    simp
    refine callp rfl Try.call35 (own_sel f.selects hok.fews) rfl ?_
    simp
    refine go_count hmx 38 0 f.selects.length (fun j h => ∃ srows K2, h = AObj.var (p.row.map .v) :: AObj.var [.v .nil, .v (.i .i64 0), .v .nil, .v .nil] :: AObj.none :: AObj.none :: AObj.arr 1 2 (vrows (p.vars.map Var.row)) :: AObj.none :: AObj.none :: AObj.none :: AObj.none :: AObj.arr 1 1 (vrows (p.chans.map irow)) :: AObj.none :: AObj.none :: AObj.arr 1 4 rows :: AObj.none :: AObj.var [.os 4 1, .v (.i .i64 p.locks), .os 9 1, .os 12 1] ::
      (K ++ (AObj.var [.v (.i .i64 f.params), .v (.i .i64 f.regs), .os (K.length + 1 + 1 + 1 + 1 + 1 + 1 + 1 + 1 + 1 + 1 + 1 + 1 + 1 + 1 + 1 + 1) 1, .os (K.length + 2 + 1 + 1 + 1 + 1 + 1 + 1 + 1 + 1 + 1 + 1 + 1 + 1 + 1 + 1 + 1) 1] :: AObj.arr 1 5 (vrows (f.code.map Instr.row)) :: AObj.arr 1 2 srows :: K2)) ∧ Half (OwnSel (beyond (K.length + 18) K2)) Select.row srows f.selects j) (Nat.zero_le _) (hok.fews.lt (by decide)) rfl ⟨_, [], by simp [Prog.row], Half.start _ _ _⟩ ?_ ?_
    · rintro j hp'' - hlt2 ⟨srows, K2, rfl, hS⟩ hw2
      have hok2 := hok.sel f.selects[j] (List.getElem_mem hlt2)
      have hsl : srows.length = f.selects.length := hS.1
      have hsj : srows[j]? = some (f.selects[j].row.map .v) := hS.2.2 j _ (Nat.le_refl _) (List.getElem?_eq_getElem hlt2)
      generalize hx2 : f.selects[j] = s at *
      have hsj2 : ∀ hh, srows[j]'hh = s.row.map .v := fun hh => by
        have := List.getElem?_eq_getElem hh; rw [hsj] at this; exact (Option.some.inj this).symm
      have hlt2I : (j : Int) < (f.selects.length : Int) := by omega
      simp [hlt2, hlt2I, hsl, hsj2, hw2, Select.row, Prog.row]
      refine callps rfl Try.call36 (own_case s.cases hok2.few) rfl ?_
      simp
      refine ⟨by omega, ⟨by omega, by rw [hsj]; simp [Select.row]⟩, hw2, _, _, ⟨rfl, rfl⟩, ?_⟩
      refine Half.step (Half.sub hS (fun row f => OwnSel.sub (beyond_sub _ _ _))) hlt2 ?_
      rw [hx2, hsj]
      refine ⟨_, 1, rfl, beyond_at (by omega) ?_⟩
      rw [List.getElem?_append_right (by omega)]
      rw [show K.length + (K2.length + 1 + 1 + 1) + 1 + 1 + 1 + 1 + 1 + 1 + 1 + 1 + 1 + 1 + 1 + 1 + 1 + 1 + 1 - (K.length + 18) - K2.length = 0 by omega]
      rfl
    rintro hp'' ⟨srows, K2, rfl, hS⟩
    simp
    refine ⟨by omega, ⟨by omega, by rw [hri]; simp [Func.row]⟩, hw, _, _, ⟨rfl, rfl, rfl⟩, ?_, ?_⟩
    · refine Half.step (Half.sub hO (fun row f => OwnFn.sub (beyond_sub _ _ _))) hlt ?_
      rw [hx', hri]
      refine ⟨_, 1, _, 1, srows, rfl, beyond_at (by omega) ?_, beyond_at (by omega) ?_, OwnSels.sub ?_ hS.done⟩
      · rw [List.getElem?_append_right (by omega)]
        rw [show K.length + 1 + 1 + 1 + 1 + 1 + 1 + 1 + 1 + 1 + 1 + 1 + 1 + 1 + 1 + 1 + 1 - 15 - K.length = 1 by omega]
        rfl
      · rw [List.getElem?_append_right (by omega)]
        rw [show K.length + 2 + 1 + 1 + 1 + 1 + 1 + 1 + 1 + 1 + 1 + 1 + 1 + 1 + 1 + 1 + 1 - 15 - K.length = 2 by omega]
        rfl
      · intro o ob ho
        unfold beyond at ho ⊢
        split at ho
        · cases ho
        · rename_i hno
          rw [if_neg (by omega), List.getElem?_append_right (by omega)]
          rw [show o - 15 - K.length = o - (K.length + 18) + 1 + 1 + 1 by omega]
          exact ho
    · rw [take_snoc (by omega)]
      refine hR.snoc ?_ ?_ <;> rw [hri] <;> simp [codeOf, Func.row] <;> omega
  rintro hp' ⟨rows, K, rfl, hO, hR⟩
  simp
  refine ⟨15, 4, 1, 9, 1, 12, 1, rows, rfl, ⟨by omega, by omega, by omega⟩, rfl, rfl, rfl, OwnFns.sub ?_ hO.done, ?_⟩
  · exact beyond_above 15 [AObj.var (p.row.map .v), _, _, _, _, _, _, _, _, _, _, _, _, _, _] K rfl
  · have := hR.1
    rwa [List.take_of_length_le (by have := hO.1; omega)] at this
end Go.Sc.Sp
