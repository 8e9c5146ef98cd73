/- Chapter 03: a right program in which one instruction is changed, in plain Lean. No condition. -/
import Derived.Test.YtdjcfjfgdblefaaXReg
set_option linter.constructorNameAsVariable false
namespace Go.Sc
open Go Go.Av
set_option linter.unusedSimpArgs false
set_option linter.unusedVariables false
def Func.put (f : Func) (j : Nat) (x : Instr) : Func := { f with code := f.code.set j x }
def Prog.put (p : Prog) (i j : Nat) (x : Instr) : Prog := { p with funcs := p.funcs.set i ((p.funcs.getD i default).put j x) }
/-- Programs of one shape. -/
structure Alike (p q : Prog) : Prop where
  vars : q.vars = p.vars
  locks : q.locks = p.locks
  chans : q.chans = p.chans
  len : q.funcs.length = p.funcs.length
  params : ∀ b, (q.funcs.getD b default).params = (p.funcs.getD b default).params
structure AlikeF (f g : Func) : Prop where
  regs : g.regs = f.regs
  params : g.params = f.params
  sels : g.selects = f.selects
  len : g.code.length = f.code.length
theorem AlikeF.refl (f : Func) : AlikeF f f := ⟨rfl, rfl, rfl, rfl⟩
theorem alike_put (p : Prog) (i j : Nat) (x : Instr) : Alike p (p.put i j x) := by
  refine ⟨rfl, rfl, rfl, by simp [Prog.put], fun b => ?_⟩
  simp only [Prog.put, List.getD_eq_getElem?_getD, List.getElem?_set]
  by_cases h : i = b
  · subst h
    by_cases h2 : i < p.funcs.length
    · simp [h2, Func.put]
    · simp [h2]
  · simp [h]
theorem alikeF_put (f : Func) (j : Nat) (x : Instr) : AlikeF f (f.put j x) := ⟨rfl, rfl, rfl, by simp [Func.put]⟩
section
variable {p q : Prog} {f g : Func} (a : Alike p q) (b : AlikeF f g)
include a b
theorem opE_alike (l n c : Int) : opE q g l n c = opE p f l n c := by
  unfold opE regE tgtE
  rw [a.vars, a.locks, a.chans, a.len, a.params, b.regs, b.sels, b.len]
theorem insE_alike (x : Instr) : insE q g x = insE p f x := by
  unfold insE
  simp only [opE_alike a b]
theorem selsE_alike : selsE q g = selsE p f := by
  have h : selE q g = selE p f := by
    funext s
    have h2 : caseE q g = caseE p f := by
      funext c
      unfold caseE regE tgtE
      rw [a.chans, b.regs, b.len]
    unfold selE tgtE
    rw [h2, b.len]
  unfold selsE
  rw [h, b.sels]
omit a in
theorem formed_alike (m : Bool) : formed m g = formed m f := by
  unfold formed
  rw [b.regs, b.params, b.sels, b.len]
end
theorem wholeE_alike {p q : Prog} (a : Alike p q) : wholeE q = wholeE p := by
  unfold wholeE
  rw [a.vars, a.locks, a.chans, a.len]
theorem firstT_skip {α : Type} {g : Nat → α → Told} : ∀ {xs : List α} {k i : Nat} {x : α} , (∀ (m : Nat) y, m < i → xs[m]? = some y → (g (k + m) y).1 = 0) → xs[i]? = some x → (g (k + i) x).1 ≠ 0 → firstT g k xs = g (k + i) x
  | [], k, i, x, _, h, _ => by simp at h
  | y :: ys, k, 0, x, _, h, hx => by
    simp at h; subst h
    rw [Nat.add_zero] at hx ⊢
    rw [firstT, if_pos hx]
  | y :: ys, k, i + 1, x, h0, h, hx => by
    have hy := h0 0 y (by omega) rfl
    rw [firstT, if_neg (by simpa using hy)]
    have := firstT_skip (g := g) (xs := ys) (k := k + 1) (i := i) (x := x) (fun m z hm hz => by
      have := h0 (m + 1) z (by omega) (by simpa using hz)
      rwa [show k + (m + 1) = k + 1 + m by omega] at this) (by simpa using h) (by rwa [show k + 1 + i = k + (i + 1) by omega])
    rw [this, show k + 1 + i = k + (i + 1) by omega]
theorem check_parts {p : Prog} (h : (check p).1 = 0) : wholeE p = 0 ∧ ∀ (k : Nat) f, p.funcs[k]? = some f → (funcT p k f).1 = 0 := by
  unfold check at h
  split at h
  · rename_i h1; exact absurd h h1
  rename_i h1
  refine ⟨by simpa using h1, fun k f hk => ?_⟩
  have := firstT_zero h k f hk
  rwa [Nat.zero_add] at this
theorem funcT_parts {p : Prog} {k : Nat} {f : Func} (h : (funcT p k f).1 = 0) : formed (k == 0) f = true ∧ selsE p f = 0 ∧ (codeT p f k).1 = 0 ∧ (lastOp f = 42 ∨ lastOp f = 45 ∨ lastOp f = 61) := by
  unfold funcT at h
  split at h
  · cases h
  rename_i a1
  split at h
  · rename_i a2; exact absurd h a2
  rename_i a2
  split at h
  · rename_i a3; exact absurd h a3
  rename_i a3
  split at h
  · rename_i a4
    exact ⟨by simpa using a1, by simpa using a2, by simpa using a3, a4⟩
  · cases h
/-- **WHAT IS SPOILT IS TOLD THERE.** -/
theorem check_put {p : Prog} (h : (check p).1 = 0) {i j : Nat} (hi : i < p.funcs.length) (hj : j < (p.funcs.getD i default).code.length) {x : Instr} (hx : insE p (p.funcs.getD i default) x ≠ 0) : check (p.put i j x) = (insE p (p.funcs.getD i default) x, (i : Int), (j : Int)) := by
  obtain ⟨hw, hf⟩ := check_parts h
  have a := alike_put p i j x
  have hF : p.funcs[i]? = some (p.funcs.getD i default) := by
    rw [List.getD_eq_getElem?_getD, List.getElem?_eq_getElem hi]; rfl
  generalize hFe : p.funcs.getD i default = F at *
  have hq : (p.put i j x).funcs = p.funcs.set i (F.put j x) := by rw [Prog.put, hFe]
  have b := alikeF_put F j x
  obtain ⟨f1, f2, f3, f4⟩ := funcT_parts (hf i F hF)
  have hcode : codeT (p.put i j x) (F.put j x) i = (insE p F x, (i : Int), (j : Int)) := by
    have := firstT_skip (g := fun pc y => (insE (p.put i j x) (F.put j x) y, (i : Int), (pc : Int))) (xs := (F.put j x).code) (k := 0) (i := j) (x := x) (fun m y hm hy => ?_) (by simp [Func.put, hj]) (by simpa [insE_alike a b] using hx)
    · rw [codeT, this]; simp [insE_alike a b]
    · simp only [insE_alike a b]
      have hy' : F.code[m]? = some y := by
        rw [Func.put] at hy
        simpa [List.getElem?_set, show ¬ j = m by omega] using hy
      have := firstT_zero f3 m y hy'
      simpa using this
  have hT : funcT (p.put i j x) i (F.put j x) = (insE p F x, (i : Int), (j : Int)) := by
    rw [funcT, if_neg (by rw [formed_alike b, f1]; decide), if_neg (by rw [selsE_alike a b, f2]; decide), if_pos (by rw [hcode]; exact hx), hcode]
  have hpre : ∀ (k : Nat) f, k < i → p.funcs[k]? = some f → (funcT (p.put i j x) k f).1 = 0 := fun k f hk hkf => by
    obtain ⟨g1, g2, g3, g4⟩ := funcT_parts (hf k f hkf)
    have hc : codeT (p.put i j x) f k = codeT p f k := by
      unfold codeT
      have : (fun (pc : Nat) y => (insE (p.put i j x) f y, (k : Int), (pc : Int))) = fun (pc : Nat) y => (insE p f y, (k : Int), (pc : Int)) := by
        funext pc y; rw [insE_alike a (.refl f)]
      rw [this]
    rw [funcT, if_neg (by rw [g1]; decide), if_neg (by rw [selsE_alike a (.refl f), g2]; decide), if_neg (by rw [hc, g3]; decide), if_pos g4]
  rw [check, if_neg (by rw [wholeE_alike a, hw]; decide)]
  have := firstT_skip (g := funcT (p.put i j x)) (xs := (p.put i j x).funcs) (k := 0) (i := i) (x := F.put j x) (fun m y hm hy => ?_) (by rw [hq]; simp [hi]) (by rw [Nat.zero_add, hT]; exact hx)
  · rw [this, Nat.zero_add, hT]
  · rw [Nat.zero_add]
    rw [hq] at hy
    exact hpre m y hm (by simpa [List.getElem?_set, show ¬ i = m by omega] using hy)
theorem insE_op (p : Prog) (f : Func) (x : Instr) : insE p f { x with op := 66 } = 33 := by rw [insE]; rfl
theorem insE_unused (p : Prog) (f : Func) : insE p f ⟨64, 0, 1, 0, 0⟩ = 34 := by
  rw [insE, show form 64 = [45, 45, 45, 45] from rfl]
  simp
theorem insE_reg (p : Prog) (f : Func) : insE p f ⟨41, f.regs, 0, 0, 0⟩ = 35 := by
  have h : opE p f 114 f.regs 0 = 35 := by simp [opE, regE, within]
  rw [insE, show form 41 = [114, 114, 45, 45] from rfl]
  simp [h]
theorem insE_target (p : Prog) (f : Func) : insE p f ⟨42, f.code.length, 0, 0, 0⟩ = 38 := by
  have h : opE p f 116 f.code.length 0 = 38 := by simp [opE, tgtE, within]
  rw [insE, show form 42 = [116, 45, 45, 45] from rfl]
  simp [h]
theorem put_ok {p : Prog} (hp : p.Ok) {i j : Nat} (hi : i < p.funcs.length) {x : Instr} (hx : I64 x.op ∧ I64 x.a ∧ I64 x.b ∧ I64 x.c ∧ I64 x.n) : (p.put i j x).Ok := by
  have hF := hp.funcs _ (getD_mem (d := default) hi)
  refine ⟨hp.fewv, hp.vars, hp.locks, hp.fewc, hp.chans, by have := hp.fewf; simpa [Few, Prog.put] using this, fun f hf => ?_⟩
  rcases List.mem_or_eq_of_mem_set hf with h | rfl
  · exact hp.funcs f h
  · refine ⟨hF.params, hF.regs, by have := hF.few; simpa [Few, Func.put] using this, hF.fews, fun y hy => ?_, hF.sel⟩
    rcases List.mem_or_eq_of_mem_set hy with h | rfl
    · exact hF.code y h
    · exact hx
end Go.Sc
