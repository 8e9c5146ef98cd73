/- Chapter 04: where an instruction lies, in plain Lean; and Spot, by the program. No condition. -/
import Derived.Test.YtmgbloidhmjbfaaXRw
import Derived.Test.YtmgbloidhmjbfaaXCw
import Derived.Test.YtmgbloidhmjbfaaXCr
import Derived.Test.YtmgbloidhmjbfaaXScDec
set_option linter.constructorNameAsVariable false
namespace Go.Sc.Cw
open Go Go.RowKit Go.Av Go.Proofs Go.Sc.Oct
set_option linter.unusedSimpArgs false
set_option linter.unusedVariables false
structure En where
  g : Nat
  pc : Nat
  pl : Nat
  len : Nat
def enC (g : Nat) : Nat → Nat → List Instr → List En
  | _, _, [] => []
  | pc, place, i :: r => ⟨g, pc, place, (instrW i).length⟩ :: enC g (pc + 1) (place + (instrW i).length) r
def enF : Nat → Nat → List Func → List En
  | _, _, [] => []
  | g, place, f :: r => enC g 0 (place + (headW f).length) f.code ++ enF (g + 1) (place + (funW f).length) r
theorem codeSW_fold (f0 pc0 : Int) (g : Nat) : ∀ (code : List Instr) (pc place : Nat) (s : Int), codeSW f0 pc0 g pc place code s = (enC g pc place code).foldl (fun s e => if (e.g : Int) = f0 ∧ (e.pc : Int) = pc0 then (e.pl : Int) else s) s
  | [], _, _, _ => rfl
  | i :: r, pc, place, s => by rw [codeSW, codeSW_fold f0 pc0 g r]; rfl
theorem funsSW_fold (f0 pc0 : Int) : ∀ (fs : List Func) (g place : Nat) (s : Int), funsSW f0 pc0 g place fs s = (enF g place fs).foldl (fun s e => if (e.g : Int) = f0 ∧ (e.pc : Int) = pc0 then (e.pl : Int) else s) s
  | [], _, _, _ => rfl
  | f :: r, g, place, s => by rw [funsSW, funsSW_fold f0 pc0 r, codeSW_fold, enF, List.foldl_append]
def keyS (a0 : Int) (s : SpotS) (e : En) : SpotS := if (e.pl : Int) ≤ a0 ∧ a0 < e.pl + (e.len : Int) then ⟨e.g, e.pc, true⟩ else s
theorem codeSS_fold (p0 : Prog) (a0 : Int) (g : Nat) (fn : Func) (hg : p0.funcs[g]? = some fn) : ∀ (code pre : List Instr) (pc place : Nat) (s : SpotS), fn.code = pre ++ code → pc = pre.length → codeSS p0 a0 g pc place code s = (enC g pc place code).foldl (keyS a0) s
  | [], _, _, _, _, _, _ => rfl
  | i :: r, pre, pc, place, s, h, hpc => by
    have hins : insLen p0 g pc = ((instrW i).length : Int) := by simp [insLen, hg, h, hpc]
    rw [codeSS, codeSS_fold p0 a0 g fn hg r (pre ++ [i]) (pc + 1) _ _ (by rw [h]; simp) (by simp [hpc])]
    simp only [enC, List.foldl_cons, keyS, stepS, hins]
theorem funsSS_fold (p0 : Prog) (a0 : Int) : ∀ (fs pre : List Func) (g place : Nat) (s : SpotS), p0.funcs = pre ++ fs → g = pre.length → funsSS p0 a0 g place fs s = (enF g place fs).foldl (keyS a0) s
  | [], _, _, _, _, _, _ => rfl
  | f :: r, pre, g, place, s, h, hg => by
    rw [funsSS, funsSS_fold p0 a0 r (pre ++ [f]) (g + 1) _ _ (by rw [h]; simp) (by simp [hg]), codeSS_fold p0 a0 g f (by rw [h, hg]; simp) f.code [] 0 _ _ rfl rfl, enF, List.foldl_append]
/-- Instructions lie apart. -/
def Apart (x y : En) : Prop := x = y ∨ ((x.g ≠ y.g ∨ x.pc ≠ y.pc) ∧ (x.pl + x.len ≤ y.pl ∨ y.pl + y.len ≤ x.pl))
theorem Apart.symm {x y : En} (h : Apart x y) : Apart y x := by
  rcases h with h | ⟨h1, h2⟩
  · exact .inl h.symm
  · exact .inr ⟨h1.imp Ne.symm Ne.symm, h2.symm⟩
theorem enC_in (g : Nat) : ∀ (code : List Instr) (pc place : Nat) (e : En), e ∈ enC g pc place code → e.g = g ∧ pc ≤ e.pc ∧ place ≤ e.pl ∧ e.pl + e.len ≤ place + (codeW code).length
  | [], _, _, e, h => by simp [enC] at h
  | i :: r, pc, place, e, h => by
    rw [enC, List.mem_cons] at h
    rcases h with rfl | h
    · simp [codeW]
    · have := enC_in g r _ _ e h
      simp [codeW]; omega
theorem enF_in : ∀ (fs : List Func) (g place : Nat) (e : En), e ∈ enF g place fs → g ≤ e.g ∧ place ≤ e.pl ∧ e.pl + e.len ≤ place + (funsW fs).length
  | [], _, _, e, h => by simp [enF] at h
  | f :: r, g, place, e, h => by
    rw [enF, List.mem_append] at h
    rcases h with h | h
    · have := enC_in g _ _ _ e h
      simp [funsW, funW]; omega
    · have := enF_in r _ _ e h
      simp [funsW, funW] at this ⊢; omega
theorem enC_apart (g : Nat) : ∀ (code : List Instr) (pc place : Nat), (enC g pc place code).Pairwise Apart
  | [], _, _ => .nil
  | i :: r, pc, place => by
    rw [enC]
    refine .cons (fun e he => ?_) (enC_apart g r _ _)
    have := enC_in g r _ _ e he
    exact .inr ⟨.inr (by simp only; omega), .inl (by simp only; omega)⟩
theorem enF_apart : ∀ (fs : List Func) (g place : Nat), (enF g place fs).Pairwise Apart
  | [], _, _ => .nil
  | f :: r, g, place => by
    rw [enF]
    refine List.pairwise_append.2 ⟨enC_apart g _ _ _, enF_apart r _ _, fun x hx y hy => ?_⟩
    have h1 := enC_in g _ _ _ x hx
    have h2 := enF_in r _ _ y hy
    simp only [funW, List.length_append] at h2
    exact .inr ⟨.inl (by omega), .inl (by omega)⟩
theorem all_apart : ∀ (l : List En), l.Pairwise Apart → ∀ x ∈ l, ∀ y ∈ l, Apart x y
  | [], _, x, hx, _, _ => by simp at hx
  | z :: l, h, x, hx, y, hy => by
    obtain ⟨h1, h2⟩ := List.pairwise_cons.1 h
    rcases List.mem_cons.1 hx with e1 | hx
    · rcases List.mem_cons.1 hy with e2 | hy
      · exact .inl (e1.trans e2.symm)
      · rw [e1]; exact h1 _ hy
    · rcases List.mem_cons.1 hy with e2 | hy
      · rw [e2]; exact (h1 _ hx).symm
      · exact all_apart l h2 x hx y hy
theorem fold_one {ε σ : Type} {P : ε → Prop} [DecidablePred P] {v : ε → σ} {e : ε} (he : P e) : ∀ (E : List ε) (s : σ), (∀ x ∈ E, P x → x = e) → (e ∈ E ∨ s = v e) → E.foldl (fun s x => if P x then v x else s) s = v e
  | [], s, _, h => by simpa using h
  | x :: E, s, hu, h => by
    rw [List.foldl_cons]
    refine fold_one he E _ (fun y hy => hu y (by simp [hy])) ?_
    by_cases hx : P x
    · have := hu x (by simp) hx
      subst this
      exact .inr (by rw [if_pos hx])
    · rw [if_neg hx]
      rcases h with h | h
      · rcases List.mem_cons.1 h with rfl | h
        · exact absurd he hx
        · exact .inl h
      · exact .inr h
theorem enC_has (g : Nat) : ∀ (code : List Instr) (pc place m : Nat) (i : Instr), code[m]? = some i → ∃ pre suf, ⟨g, pc + m, place + pre.length, (instrW i).length⟩ ∈ enC g pc place code ∧ codeW code = pre ++ (instrW i ++ suf)
  | [], _, _, _, _, h => by simp at h
  | j :: r, pc, place, 0, i, h => by
    simp at h; subst h
    exact ⟨[], codeW r, by simp [enC], by simp [codeW]⟩
  | j :: r, pc, place, m + 1, i, h => by
    obtain ⟨pre, suf, h1, h2⟩ := enC_has g r (pc + 1) (place + (instrW j).length) m i (by simpa using h)
    refine ⟨instrW j ++ pre, suf, ?_, by rw [codeW, h2]; simp⟩
    rw [enC, List.mem_cons]
    refine .inr ?_
    rw [show pc + (m + 1) = pc + 1 + m by omega, List.length_append, ← Nat.add_assoc]
    exact h1
theorem enF_has : ∀ (fs : List Func) (g place n m : Nat) (f : Func) (i : Instr), fs[n]? = some f → f.code[m]? = some i → ∃ pre suf, ⟨g + n, m, place + pre.length, (instrW i).length⟩ ∈ enF g place fs ∧ funsW fs = pre ++ (instrW i ++ suf)
  | [], _, _, _, _, _, _, h, _ => by simp at h
  | f' :: r, g, place, 0, m, f, i, h, hi => by
    simp at h; subst h
    obtain ⟨pre, suf, h1, h2⟩ := enC_has g f'.code 0 (place + (headW f').length) m i hi
    refine ⟨headW f' ++ pre, suf ++ funsW r, ?_, by rw [funsW, funW, h2]; simp⟩
    rw [enF, List.mem_append]
    refine .inl ?_
    rw [Nat.zero_add] at h1
    rw [List.length_append, ← Nat.add_assoc]
    exact h1
  | f' :: r, g, place, n + 1, m, f, i, h, hi => by
    obtain ⟨pre, suf, h1, h2⟩ := enF_has r (g + 1) (place + (funW f').length) n m f i (by simpa using h) hi
    refine ⟨funW f' ++ pre, suf, ?_, by rw [funsW, h2]; simp⟩
    rw [enF, List.mem_append]
    refine .inr ?_
    rw [show g + (n + 1) = g + 1 + n by omega, List.length_append, ← Nat.add_assoc]
    exact h1
def whereN (p : Prog) (f pc : Int) : Int := funsSW f pc 0 (preW p).length p.funcs 0
def spotS (p : Prog) (a : Int) : SpotS := funsSS p a 0 (preW p).length p.funcs ⟨0, 0, false⟩
theorem where_at {p : Prog} {n m : Nat} {f : Func} {i : Instr} (h1 : p.funcs[n]? = some f) (h2 : f.code[m]? = some i) : ∃ pre suf, whereN p n m = ((preW p ++ pre).length : Int) ∧ funsW p.funcs = pre ++ (instrW i ++ suf) ∧ ∀ a : Nat, (preW p ++ pre).length ≤ a → a < (preW p ++ pre).length + (instrW i).length → spotS p a = ⟨n, m, true⟩ := by
  obtain ⟨pre, suf, e1, e2⟩ := enF_has p.funcs 0 (preW p).length n m f i h1 h2
  rw [Nat.zero_add] at e1
  have hap := fun x (hx : x ∈ enF 0 (preW p).length p.funcs) => all_apart _ (enF_apart p.funcs 0 (preW p).length) x hx _ e1
  refine ⟨pre, suf, ?_, e2, fun a ha hb => ?_⟩
  · rw [whereN, funsSW_fold]
    have := fold_one (P := fun e : En => (e.g : Int) = n ∧ (e.pc : Int) = m) (v := fun e => (e.pl : Int)) (e := ⟨n, m, (preW p).length + pre.length, (instrW i).length⟩) ⟨rfl, rfl⟩ (enF 0 (preW p).length p.funcs) 0 (fun x hx hP => ?_) (.inl e1)
    · rw [this]; simp
    · rcases hap x hx with h | ⟨h, _⟩
      · exact h
      · simp only at h; omega
  · rw [spotS, funsSS_fold p a p.funcs [] 0 _ _ rfl rfl]
    rw [List.length_append] at ha hb
    have := fold_one (P := fun e : En => (e.pl : Int) ≤ (a : Int) ∧ (a : Int) < e.pl + (e.len : Int)) (v := fun e => (⟨e.g, e.pc, true⟩ : SpotS)) (e := ⟨n, m, (preW p).length + pre.length, (instrW i).length⟩) ⟨by simp only; omega, by simp only; omega⟩ (enF 0 (preW p).length p.funcs) ⟨0, 0, false⟩ (fun x hx hP => ?_) (.inl e1)
    · exact this
    · rcases hap x hx with h | ⟨_, h⟩
      · exact h
      · simp only at h hP; omega
/-- scarab/code.Spot -/
def c46 : ACode :=
  (.seq (.reg none [⟨some 3, none, .m (.box (.t 1))⟩, ⟨some 4, none, .m (.alloc (.g [(.i .i64 0), (.i .i64 0)]))⟩, ⟨some 5, none, .q (.mv (.c (.b false)))⟩])
  (.keep [0, 3, 4]
  (.seq (.reg none [⟨some 12, none, .q (.mv (.t 0))⟩, ⟨some 13, none, .call (.f 42) [(.t 12)]⟩, ⟨some 11, none, .q (.mv (.t 13))⟩, ⟨some 14, none, .q (.ext 0 (.t 11))⟩, ⟨some 15, none, .q (.ext 1 (.t 11))⟩, ⟨some 16, none, .q (.ext 2 (.t 11))⟩, ⟨some 6, none, .m (.alloc (.g [.nil, (.i .i64 0), .nil, .nil]))⟩, ⟨none, none, .m (.st 4 (.t 6) (.t 14))⟩, ⟨some 7, none, .q (.mv (.t 15))⟩, ⟨some 8, none, .q (.mv (.t 16))⟩])
  (.keep [3, 4, 6, 7]
  (.seq (.seq (.reg none [⟨some 17, none, .q (.mv (.t 7))⟩, ⟨some 18, none, .q (.bin .neq (.t 17) (.c (.i .i64 0)))⟩])
    (.keep [3, 4, 6, 18]
    (.cond (.t 18) (.seq (.reg none [⟨some 19, none, .q (.bld [(.i .i64 0), (.i .i64 0)] [])⟩, ⟨none, none, .m (.st 2 (.t 4) (.t 19))⟩, ⟨some 5, none, .q (.mv (.c (.b false)))⟩])
      .ret)
    .skip)))
  (.seq (.reg none [⟨some 20, none, .q (.bld [(.i .i64 0), (.i .i64 0)] [])⟩, ⟨some 9, none, .m (.alloc (.g [(.i .i64 0), (.i .i64 0)]))⟩, ⟨some 10, none, .m (.alloc (.b false))⟩, ⟨none, none, .m (.st 2 (.t 9) (.t 20))⟩, ⟨none, none, .m (.st 1 (.t 10) (.c (.b false)))⟩])
  (.keep [3, 4, 6, 9, 10]
  (.seq (.reg none [⟨some 21, none, .q (.ld (some 4) (.t 6))⟩, ⟨some 22, none, .q (.mkf 97 [(.t 6), (.t 3), (.t 9), (.t 10)])⟩, ⟨some 23, none, .call (.f 80) [(.t 21), (.t 22)]⟩])
  (.keep [4, 9, 10]
  (.seq (.reg (some (2, [1])) [⟨some 24, none, .q (.ld (some 2) (.t 9))⟩, ⟨some 25, none, .q (.ld none (.t 10))⟩, ⟨none, none, .m (.st 2 (.t 4) (.t 24))⟩, ⟨some 5, none, .q (.mv (.t 25))⟩])
  .ret))))))))))
theorem r46 : (Try.f46.body.bind (resC Try.prog Try.f46.ntmps)) = some (strip c46) := by kernel_rfl
theorem s46 : Try.f46.results.toList.mapM (resRes Try.prog) = some [.c 4 (some 2), .t 5] := by kernel_rfl
def spotV (bs : List UInt8) (a : Int) : AV :=
  match decode bs with
  | .error _ => .tup [.g [.i .i64 0, .i .i64 0], .b false]
  | .ok p => .tup [.g [.i .i64 (spotS p a).f, .i .i64 (spotS p a).pc], .b (spotS p a).found]
theorem all_there {p : Prog} (hp : p.Ok) (h : ∀ f ∈ p.funcs, ∀ i ∈ f.code, form i.op ≠ []) (a : Int) : ∀ (k : Nat) f, p.funcs[k]? = some f → ∀ i : Nat, i < f.code.length → gtS p a k i := by
  intro k f hf i hi
  have hfm := List.mem_of_getElem? hf
  have him : f.code[i] ∈ f.code := List.getElem_mem hi
  exact ⟨k, i, f, f.code[i], rfl, rfl, hf, List.getElem?_eq_getElem hi, h f hfm _ him, ((hp.funcs f hfm).code _ him).2⟩
theorem spot_l (bs : List UInt8) (a : Int) : PureS Try.prog 46 [.sl 1 (bs.map brow), .i .i64 a] (spotV bs a) := by
  refine fun_go hmx Try.func46 r46 s46 (by rw [Try.ntmps46]; simp) ?_
  unfold c46
  have hd := decode_r bs
  simp [spotV]
  cases h : decode bs with
  | error x =>
    obtain ⟨e, o⟩ := x
    rw [decV, h] at hd
    have he := decode_en h
    refine callk rfl Try.call42 hd rfl ?_
    simp [noneV, he]
  | ok p =>
    obtain ⟨hc, hw⟩ := decode_ok h
    have hp : p.Ok := decode_pok h
    obtain ⟨h1, h2⟩ := right_forms hp hc
    rw [decV, h] at hd
    refine callk rfl Try.call42 hd rfl ?_
    simp [Prog.row]
    refine callf [2, 0, 3, 4] rfl Try.call80 (written_S p a ⟨0, 0, false⟩ p (all_there hp h1 a) hp h1 (by omega)) (by decide) rfl (by simp [seeS]) (by simp [objsS, Prog.row]) (by simp [Prog.row, seeS]) ?_
    rintro _ _ ⟨v, rfl, rfl⟩
    simp [objsS]
    exact ⟨⟨rfl, rfl⟩, rfl⟩
end Go.Sc.Cw
