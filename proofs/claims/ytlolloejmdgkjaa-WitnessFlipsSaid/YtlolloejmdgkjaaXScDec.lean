/- Chapter 04: bytes read as programs, in plain Lean: there and back. No condition. -/
import Derived.Test.YtlolloejmdgkjaaXScCode
set_option linter.constructorNameAsVariable false
namespace Go.Sc.Cw
open Go Go.Av
set_option linter.unusedSimpArgs false
set_option linter.unusedVariables false

theorem getA_put : ∀ (y k acc : Nat) (suf : List UInt8), (y ≠ 0 ∨ k = 0) → y * 128 ^ k < 18446744073709551616 → getA k acc (putN y ++ suf) = (0, acc + y * 128 ^ k, k + (putN y).length) := by
  intro y
  induction y using Nat.strongRecOn with
  | _ y ih =>
    intro k acc suf hk hb
    have h9 : (128 : Nat) ^ 9 = 9223372036854775808 := by decide
    rw [putN.eq_1 y]
    split
    · rename_i hy
      simp only [List.cons_append, List.nil_append, getA, List.length_cons, List.length_nil]
      rw [u8_toNat (by omega), if_neg (by rintro ⟨rfl, h⟩; rw [h9] at hb; omega), if_neg (by omega), if_neg (by omega)]
    · rename_i hy
      have hk9 : k ≠ 9 := by rintro rfl; rw [h9] at hb; omega
      simp only [List.cons_append, getA, List.length_cons]
      rw [u8_toNat (by omega), if_neg (fun h => hk9 h.1), if_pos (by omega)]
      have e1 : (y / 128) * 128 ^ (k + 1) ≤ y * 128 ^ k := by
        rw [Nat.pow_succ, Nat.mul_comm (128 ^ k) 128, ← Nat.mul_assoc]
        exact Nat.mul_le_mul_right _ (Nat.div_mul_le_self y 128)
      rw [ih (y / 128) (by omega) (k + 1) _ suf (.inl (by omega)) (by omega)]
      have e2 : y * 128 ^ k = (y % 128) * 128 ^ k + (y / 128) * 128 ^ (k + 1) := by
        rw [Nat.pow_succ, Nat.mul_comm (128 ^ k) 128, ← Nat.mul_assoc, ← Nat.add_mul]
        congr 1; omega
      rw [e2]
      simp only [Prod.mk.injEq, true_and]
      constructor
      · rw [show y % 128 + 128 - 128 = y % 128 by omega]; omega
      · omega

theorem getA_take : ∀ (l : List UInt8) (k acc x n : Nat), getA k acc l = (0, x, n) → ∃ y, x = acc + y * 128 ^ k ∧ n - k ≤ l.length ∧ k < n ∧ l.take (n - k) = putN y ∧ (0 < k → y ≠ 0)
  | [], k, acc, x, n, h => by simp [getA] at h
  | c :: l, k, acc, x, n, h => by
    unfold getA at h
    split at h
    · simp at h
    · split at h
      · rename_i h1 h2
        obtain ⟨y, e1, e2, e3, e4, e5⟩ := getA_take l (k + 1) _ x n h
        have hy := e5 (by omega)
        refine ⟨(c.toNat - 128) + 128 * y, ?_, by simp; omega, by omega, ?_, fun _ => by omega⟩
        · rw [e1, Nat.add_mul, Nat.pow_succ, Nat.mul_assoc, ← Nat.mul_assoc y, Nat.mul_comm (y * 128 ^ k) 128]; omega
        · have hc := c.toNat_lt
          rw [show n - k = (n - (k + 1)) + 1 by omega, List.take_succ_cons, e4, putN.eq_1 (c.toNat - 128 + 128 * y), if_neg (by omega)]
          have a1 : (c.toNat - 128 + 128 * y) % 128 + 128 = c.toNat := by omega
          have a2 : (c.toNat - 128 + 128 * y) / 128 = y := by omega
          rw [a1, a2]; simp
      · split at h
        · simp at h
        · rename_i h1 h2 h3
          simp only [Prod.mk.injEq, true_and] at h
          obtain ⟨rfl, rfl⟩ := h
          refine ⟨c.toNat, rfl, by simp, by omega, ?_, fun hk hc => h3 ⟨hc, hk⟩⟩
          rw [show k + 1 - k = 0 + 1 by omega, List.take_succ_cons, putN.eq_1, if_pos (by omega)]; simp

theorem getA_lt' {l : List UInt8} {x n : Nat} (h : getA 0 0 l = (0, x, n)) : x < 18446744073709551616 := by
  have := getA_lt l 0 0 (by omega) (by simp)
  rw [h] at this; exact this

/-! ### Readers -/
inductive Res (α : Type) where
  | err (e : Int) (off : Nat)
  | ok (x : α) (n : Nat)
abbrev Pr (α : Type) := List UInt8 → Res α
def retP {α : Type} (x : α) : Pr α := fun _ => .ok x 0
def bindP {α β : Type} (p : Pr α) (f : α → Pr β) : Pr β := fun l =>
  match p l with
  | .err e o => .err e o
  | .ok x n => match f x (l.drop n) with
    | .err e o => .err e (n + o)
    | .ok y m => .ok y (n + m)
def numP (most : Nat) (above : Int) : Pr Nat := fun l =>
  if (getA 0 0 l).1 ≠ 0 then .err (getA 0 0 l).1 0 else if most < (getA 0 0 l).2.1 then .err above 0 else .ok (getA 0 0 l).2.1 (getA 0 0 l).2.2
def plainP : Pr Int := bindP (numP 2147483647 8) fun x => retP (x : Int)
def truthP : Pr Bool := bindP (numP 1 8) fun x => retP (x == 1)
def signedP : Pr Int := fun l => if (getA 0 0 l).1 ≠ 0 then .err (getA 0 0 l).1 0 else .ok (zagN (getA 0 0 l).2.1) (getA 0 0 l).2.2
def repP {α : Type} (one : Pr α) : Nat → Pr (List α)
  | 0 => retP []
  | n + 1 => bindP one fun x => bindP (repP one n) fun xs => retP (x :: xs)
def listP {α : Type} (most : Nat) (one : Pr α) : Pr (List α) := bindP (numP most 30) fun n => repP one n
def varP : Pr Var := bindP truthP fun a => bindP signedP fun i => retP ⟨a, i⟩
def caseP : Pr Case := bindP truthP fun s => bindP plainP fun c => bindP plainP fun r => bindP plainP fun t => retP ⟨s, c, r - 1, t⟩
def selP : Pr Select := bindP (listP 4 caseP) fun cs => bindP plainP fun e => retP ⟨cs, e - 1⟩
def opP (l : UInt8) : Pr Int := if l = 45 then retP 0 else if l = 110 then signedP else if l = 111 then bindP plainP fun x => retP (x - 1) else plainP
def opsP : List UInt8 → Pr (List Int)
  | [] => retP []
  | l :: ls => bindP (opP l) fun x => bindP (opsP ls) fun xs => retP (x :: xs)
def insOf (op : Int) : List Int → Instr
  | [a, b, c, n] => ⟨op, a, b, c, n⟩
  | _ => ⟨op, 0, 0, 0, 0⟩
def instrP : Pr Instr := fun l =>
  match plainP l with
  | .err e o => .err e o
  | .ok op n =>
    if form op = [] then .err 33 0
    else match opsP (form op) (l.drop n) with
      | .err e o => .err e (n + o)
      | .ok xs m => .ok (insOf op xs) (n + m)
def funP : Pr Func := bindP plainP fun a => bindP plainP fun r => bindP (listP 4 selP) fun s => bindP (listP 64 instrP) fun c => retP ⟨a, r, c, s⟩
def bodyP : Pr Prog := bindP (listP 8 varP) fun v => bindP plainP fun k => bindP (listP 4 plainP) fun c => bindP (listP 8 funP) fun f => retP ⟨v, k, c, f⟩

/-- The program of bytes, or what is wrong and where. -/
def decode (bs : List UInt8) : Except (Int × Nat) Prog :=
  if 65536 < bs.length then .error (2, 0)
  else if bs.take 5 ≠ magicB then .error (40, 0)
  else match bodyP (bs.drop 5) with
    | .err e o => .error (e, 5 + o)
    | .ok p n =>
      if bs.length < 5 + n + 4 then .error (10, 5 + n)
      else if beN (four bs (5 + n)) 0 ≠ sumN (bs.take (5 + n)) then .error (41, 5 + n)
      else if 5 + n + 4 ≠ bs.length then .error (13, 5 + n + 4)
      else if (check p).1 ≠ 0 then .error ((check p).1, 0)
      else .ok p

/-! ### There and back -/
def RT {α : Type} (p : Pr α) (w : List UInt8) (x : α) : Prop := ∀ suf, p (w ++ suf) = .ok x w.length
theorem RT.ret {α : Type} (x : α) : RT (retP x) [] x := fun suf => rfl
theorem RT.bind {α β : Type} {p : Pr α} {f : α → Pr β} {w w' : List UInt8} {x : α} {y : β} (h : RT p w x) (h' : RT (f x) w' y) : RT (bindP p f) (w ++ w') y := fun suf => by
  simp only [bindP]
  rw [List.append_assoc, h (w' ++ suf)]
  simp only [List.drop_left]
  rw [h' suf, List.length_append]
theorem RT.map {α β : Type} {p : Pr α} {f : α → β} {w : List UInt8} {x : α} (h : RT p w x) : RT (bindP p fun x => retP (f x)) w (f x) := by
  have := h.bind (f := fun x => retP (f x)) (RT.ret (f x))
  rwa [List.append_nil] at this
theorem rt_num {x most : Nat} {above : Int} (h : x ≤ most) (hm : most < 18446744073709551616) : RT (numP most above) (putN x) x := fun suf => by
  have := getA_put x 0 0 suf (.inr rfl) (by simp; omega)
  simp only [numP, this]
  simp; omega
theorem u64N_of {x : Int} (h0 : 0 ≤ x) (h1 : x < 18446744073709551616) : u64N x = x.toNat := by unfold u64N; omega
theorem rt_plain {x : Int} (h0 : 0 ≤ x) (h1 : x ≤ 2147483647) : RT plainP (numW x) x := by
  have := RT.map (f := fun x : Nat => (x : Int)) (rt_num (x := u64N x) (most := 2147483647) (above := 8) (by rw [u64N_of h0 (by omega)]; omega) (by omega))
  rw [show ((u64N x : Nat) : Int) = x by rw [u64N_of h0 (by omega)]; omega] at this
  exact this
theorem rt_truth (b : Bool) : RT truthP (flagW b) b := by
  have := RT.map (f := fun x : Nat => x == 1) (rt_num (x := u64N (if b then 1 else 0)) (most := 1) (above := 8) (by cases b <;> decide) (by omega))
  rw [show ((u64N (if b then 1 else 0) : Nat) == 1) = b by cases b <;> decide] at this
  exact this
theorem rt_signed {x : Int} (h : I64 x) : RT signedP (putN (zigN x)) x := fun suf => by
  have := getA_put (zigN x) 0 0 suf (.inr rfl) (by simpa using zig_lt h)
  simp only [signedP, this]
  simp [zag_zig]
theorem rt_count {n most : Nat} (h : n ≤ most) (hm : most ≤ 1000) : RT (numP most 30) (numW n) n := by
  have := rt_num (x := u64N n) (most := most) (above := 30) (by rw [u64N_of (by omega) (by omega)]; omega) (by omega)
  rw [show u64N (n : Int) = n by rw [u64N_of (by omega) (by omega)]; omega] at this
  rw [numW, show u64N (n : Int) = n by rw [u64N_of (by omega) (by omega)]; omega]
  exact this
theorem rt_rep {α : Type} {one : Pr α} {w : α → List UInt8} {ws : List α → List UInt8} (h0 : ws [] = []) (hc : ∀ x xs, ws (x :: xs) = w x ++ ws xs) : ∀ (xs : List α), (∀ x ∈ xs, RT one (w x) x) → RT (repP one xs.length) (ws xs) xs
  | [], _ => by rw [h0]; exact RT.ret []
  | x :: xs, h => by
    rw [hc]
    refine RT.bind (h x (by simp)) ?_
    exact RT.map (f := fun ys => x :: ys) (rt_rep h0 hc xs fun y hy => h y (by simp [hy]))
theorem rt_list {α : Type} {one : Pr α} {w : α → List UInt8} {ws : List α → List UInt8} (h0 : ws [] = []) (hc : ∀ x xs, ws (x :: xs) = w x ++ ws xs) {xs : List α} {most : Nat} (hl : xs.length ≤ most) (hm : most ≤ 1000) (h : ∀ x ∈ xs, RT one (w x) x) : RT (listP most one) (numW xs.length ++ ws xs) xs :=
  RT.bind (rt_count hl hm) (rt_rep h0 hc xs h)
theorem rt_var {v : Var} (h : I64 v.init) : RT varP (flagW v.atomic ++ putN (zigN v.init)) v := by
  refine RT.bind (rt_truth _) ?_
  exact RT.map (f := fun i => (⟨v.atomic, i⟩ : Var)) (rt_signed h)
theorem rt_case {c : Case} (h1 : 0 ≤ c.chan ∧ c.chan ≤ 64) (h2 : -1 ≤ c.reg ∧ c.reg ≤ 64) (h3 : 0 ≤ c.to ∧ c.to ≤ 64) : RT caseP (caseW c) c := by
  refine RT.bind (rt_truth _) (RT.bind (rt_plain h1.1 (by omega)) (RT.bind (rt_plain (x := c.reg + 1) (by omega) (by omega)) ?_))
  have := RT.map (f := fun t => (⟨c.send, c.chan, c.reg + 1 - 1, t⟩ : Case)) (rt_plain (x := c.to) h3.1 (by omega))
  rw [show c.reg + 1 - 1 = c.reg by omega] at this ⊢
  exact this
theorem rt_op {l : UInt8} {x : Int} (h : opR l x) (hi : I64 x) : RT (opP l) (opW l x) x := by
  unfold opP opW
  split
  · rename_i h1; rw [h.1 h1]; exact RT.ret 0
  · rename_i h1
    split
    · exact rt_signed hi
    · rename_i h2
      split
      · rename_i h3
        have := h.2.1 h3
        have := RT.map (f := fun t => t - 1) (rt_plain (x := x + 1) (by omega) (by omega))
        rwa [show x + 1 - 1 = x by omega] at this
      · rename_i h3
        have := h.2.2 h1 h2 h3
        exact rt_plain this.1 (by omega)
theorem rt_ops : ∀ (fs : List UInt8) (xs : List Int), fs.length = xs.length → (∀ q ∈ fs.zip xs, opR q.1 q.2 ∧ I64 q.2) → RT (opsP fs) (opsW (fs.zip xs)) xs
  | [], [], _, _ => RT.ret []
  | l :: fs, x :: xs, hl, h => by
    simp only [opsP, List.zip_cons_cons, opsW]
    refine RT.bind (rt_op (h (l, x) (by simp)).1 (h (l, x) (by simp)).2) ?_
    exact RT.map (f := fun ys => x :: ys) (rt_ops fs xs (by simpa using hl) fun q hq => h q (by simp [hq]))
  | [], _ :: _, hl, _ => by simp at hl
  | _ :: _, [], hl, _ => by simp at hl
theorem rt_instr {i : Instr} (hf : form i.op ≠ []) (ho : ∀ q ∈ (form i.op).zip [i.a, i.b, i.c, i.n], opR q.1 q.2) (hi : I64 i.a ∧ I64 i.b ∧ I64 i.c ∧ I64 i.n) : RT instrP (instrW i) i := fun suf => by
  obtain ⟨l0, l1, l2, l3, hl⟩ : ∃ l0 l1 l2 l3, form i.op = [l0, l1, l2, l3] := (form_four i.op).resolve_left hf
  have hr := form_range hf
  have h1 := rt_plain (x := i.op) (by omega) (by omega) (opsW ((form i.op).zip [i.a, i.b, i.c, i.n]) ++ suf)
  have h2 := rt_ops (form i.op) [i.a, i.b, i.c, i.n] (by rw [hl]; rfl) (fun q hq => ⟨ho q hq, by
    rw [hl] at hq
    simp only [List.zip_cons_cons, List.zip_nil_right, List.mem_cons, List.not_mem_nil, or_false] at hq
    rcases hq with rfl | rfl | rfl | rfl
    · exact hi.1
    · exact hi.2.1
    · exact hi.2.2.1
    · exact hi.2.2.2⟩) suf
  simp only [instrP, instrW, List.append_assoc, h1, if_neg hf, List.drop_left, h2, List.length_append]
  rfl
theorem rt_sel {p : Prog} {f : Func} {s : Select} (hp : RightP p) (hf : RightF p f) (hs : s ∈ f.selects) : RT selP (selW s) s := by
  obtain ⟨⟨h1, h2⟩, h3⟩ := hf.sel s hs
  unfold selE at h3
  split at h3
  · rename_i u; exact absurd h3 u
  rename_i u
  have hc := firstE_zero (show firstE (caseE p f) s.cases = 0 by simpa using u)
  have htgt : ∀ n, tgtE f n = 0 → 0 ≤ n ∧ n ≤ 64 := fun n hn => by
    have := hf.code
    unfold tgtE at hn; split at hn
    · rename_i w; have := within_iff.1 w; omega
    · cases hn
  have he : -1 ≤ s.els ∧ s.els ≤ 64 := by
    split at h3
    · have := htgt _ h3; omega
    · rename_i w; have : s.els = -1 := by simpa using w
      omega
  have hcs : ∀ c ∈ s.cases, RT caseP (caseW c) c := fun c hcm => by
    have := hc c hcm
    unfold caseE at this
    split at this
    · cases this
    rename_i w1
    split at this
    · cases this
    rename_i w2
    split at this
    · cases this
    rename_i w3
    have w1 : objE c.chan p.chans.length = 0 := by simpa using w1
    have a1 := objE_zero.1 w1
    have a2 := hp.chans
    have a3 := htgt _ this
    refine rt_case (by omega) ?_ a3
    by_cases hr : c.reg = -1
    · omega
    · have w4 : regE f c.reg = 0 := Decidable.byContradiction fun hn => w2 ⟨.inr hr, hn⟩
      have a4 := hf.regs
      unfold regE at w4; split at w4
      · rename_i w; have := within_iff.1 w; omega
      · cases w4
  have := RT.bind (f := fun cs => bindP plainP fun e => retP (⟨cs, e - 1⟩ : Select)) (rt_list (ws := casesW) rfl (fun _ _ => rfl) h2 (by omega) hcs)
    (RT.map (f := fun e => (⟨s.cases, e - 1⟩ : Select)) (rt_plain (x := s.els + 1) (by omega) (by omega)))
  rw [show s.els + 1 - 1 = s.els by omega, List.append_assoc] at this
  exact this
theorem rt_fun {p : Prog} {f : Func} (hp : RightP p) (hf : RightF p f) (ho : f.Ok) : RT funP (funW f) f := by
  have h1 := hf.regs
  have h2 := hf.params
  have h3 := hf.code
  have hs := rt_list (one := selP) (w := selW) (ws := selsW) rfl (fun _ _ => rfl) hf.sels (by omega) fun s hs => rt_sel hp hf hs
  have hc := rt_list (one := instrP) (w := instrW) (ws := codeW) rfl (fun _ _ => rfl) h3.2 (by omega) fun i hi => rt_instr (ins_form (hf.ins i hi)) (ins_ops hp hf (hf.ins i hi)) (ho.code i hi).2
  have := RT.bind (f := fun a => bindP plainP fun r => bindP (listP 4 selP) fun s => bindP (listP 64 instrP) fun c => retP (⟨a, r, c, s⟩ : Func)) (rt_plain (x := f.params) h2.1 (by omega))
    (RT.bind (f := fun r => bindP (listP 4 selP) fun s => bindP (listP 64 instrP) fun c => retP (⟨f.params, r, c, s⟩ : Func)) (rt_plain (x := f.regs) h1.1 (by omega))
      (RT.bind (f := fun s => bindP (listP 64 instrP) fun c => retP (⟨f.params, f.regs, c, s⟩ : Func)) hs (RT.map (f := fun c => (⟨f.params, f.regs, c, f.selects⟩ : Func)) hc)))
  simpa [funP, funW, headW] using this
theorem rt_body {p : Prog} (hp : RightP p) (ho : p.Ok) : RT bodyP (bodyW p).tail.tail.tail.tail.tail p := by
  have hv := rt_list (one := varP) (w := fun v => flagW v.atomic ++ putN (zigN v.init)) (ws := varsW) rfl (fun _ _ => by simp [varsW]) hp.vars (by omega) fun v hv => rt_var (ho.vars v hv)
  have hc := rt_list (one := plainP) (w := numW) (ws := chansW) rfl (fun _ _ => rfl) hp.chans (by omega) fun c hc => rt_plain (hp.chan c hc).1 (by have := hp.chan c hc; omega)
  have hf := rt_list (one := funP) (w := funW) (ws := funsW) rfl (fun _ _ => rfl) hp.funcs.2 (by omega) fun f hf => rt_fun hp (hp.func f hf) (ho.funcs f hf)
  have := RT.bind (f := fun v => bindP plainP fun k => bindP (listP 4 plainP) fun c => bindP (listP 8 funP) fun f => retP (⟨v, k, c, f⟩ : Prog)) hv
    (RT.bind (f := fun k => bindP (listP 4 plainP) fun c => bindP (listP 8 funP) fun f => retP (⟨p.vars, k, c, f⟩ : Prog)) (rt_plain (x := p.locks) hp.locks.1 (by have := hp.locks; omega))
      (RT.bind (f := fun c => bindP (listP 8 funP) fun f => retP (⟨p.vars, p.locks, c, f⟩ : Prog)) hc (RT.map (f := fun f => (⟨p.vars, p.locks, p.chans, f⟩ : Prog)) hf)))
  simpa [bodyP, bodyW, magicB] using this
end Go.Sc.Cw
/- Chapter 04: bytes read as programs, in plain Lean: what is read has no other bytes; one byte turned is told. No condition. -/
set_option linter.constructorNameAsVariable false
namespace Go.Sc.Cw
open Go Go.Av
set_option linter.unusedSimpArgs false
set_option linter.unusedVariables false

/-- What is read has the bytes w. -/
def CN {α : Type} (p : Pr α) (w : α → List UInt8) : Prop := ∀ l x n, p l = .ok x n → n ≤ l.length ∧ l.take n = w x
theorem bind_ok {α β : Type} {p : Pr α} {f : α → Pr β} {l : List UInt8} {y : β} {k : Nat} (h : bindP p f l = .ok y k) : ∃ x n m, p l = .ok x n ∧ f x (l.drop n) = .ok y m ∧ k = n + m := by
  unfold bindP at h
  split at h
  · cases h
  · rename_i x n hx
    split at h
    · cases h
    · rename_i y' m hy
      cases h
      exact ⟨x, n, m, hx, hy, rfl⟩
theorem ret_ok {α : Type} {x y : α} {l : List UInt8} {n : Nat} (h : retP x l = .ok y n) : y = x ∧ n = 0 := by cases h; exact ⟨rfl, rfl⟩
theorem CN.bind {α β : Type} {p : Pr α} {f : α → Pr β} {w : α → List UInt8} {w' : β → List UInt8} {ww : β → List UInt8} {g : β → α} (h : CN p w) (h' : ∀ x, CN (f x) w') (hg : ∀ l x y n, f x l = .ok y n → g y = x) (hw : ∀ y, ww y = w (g y) ++ w' y) : CN (bindP p f) ww := fun l y k hk => by
  obtain ⟨x, n, m, h1, h2, rfl⟩ := bind_ok hk
  obtain ⟨a1, a2⟩ := h l x n h1
  obtain ⟨b1, b2⟩ := h' x _ y m h2
  have hgx := hg _ x y m h2
  rw [List.length_drop] at b1
  refine ⟨by omega, ?_⟩
  rw [List.take_add, a2, b2, hw, hgx]
theorem CN.map {α β : Type} {p : Pr α} {w : α → List UInt8} {f : α → β} {ww : β → List UInt8} (h : CN p w) (hw : ∀ l x n, p l = .ok x n → ww (f x) = w x) : CN (bindP p fun x => retP (f x)) ww := fun l y k hk => by
  obtain ⟨x, n, m, h1, h2, rfl⟩ := bind_ok hk
  obtain ⟨rfl, rfl⟩ := ret_ok h2
  obtain ⟨a1, a2⟩ := h l x n h1
  exact ⟨a1, by rw [Nat.add_zero, a2, hw l x n h1]⟩

theorem num_ok {most : Nat} {above : Int} {l : List UInt8} {x n : Nat} (h : numP most above l = .ok x n) : x ≤ most ∧ getA 0 0 l = (0, x, n) := by
  unfold numP at h
  split at h
  · cases h
  · rename_i h1
    split at h
    · cases h
    · rename_i h2
      cases h
      refine ⟨by omega, ?_⟩
      have : (getA 0 0 l).1 = 0 := by simpa using h1
      rw [← this]
theorem cn_num (most : Nat) (above : Int) : CN (numP most above) putN := fun l x n h => by
  obtain ⟨h1, h2⟩ := num_ok h
  obtain ⟨y, e1, e2, e3, e4, _⟩ := getA_take l 0 0 x n h2
  simp at e1 e2 e4
  subst e1
  exact ⟨e2, e4⟩
theorem plain_ok {l : List UInt8} {x : Int} {n : Nat} (h : plainP l = .ok x n) : 0 ≤ x ∧ x ≤ 2147483647 := by
  obtain ⟨y, _, m, h1, h2, _⟩ := bind_ok h
  obtain ⟨rfl, _⟩ := ret_ok h2
  have := (num_ok h1).1
  omega
theorem cn_plain : CN plainP numW := (cn_num 2147483647 8).map fun l x n h => by
  have := (num_ok h).1
  rw [numW, u64N_of (by omega) (by omega)]; rfl
theorem cn_truth : CN truthP flagW := (cn_num 1 8).map fun l x n h => by
  have := (num_ok h).1
  match x, this with
  | 0, _ => rfl
  | 1, _ => rfl
theorem cn_signed : CN signedP (fun x => putN (zigN x)) := fun l x n h => by
  unfold signedP at h
  split at h
  · cases h
  · rename_i h1
    cases h
    have h0 : (getA 0 0 l).1 = 0 := by simpa using h1
    have hg : getA 0 0 l = (0, (getA 0 0 l).2.1, (getA 0 0 l).2.2) := by rw [← h0]
    obtain ⟨y, e1, e2, e3, e4, _⟩ := getA_take l 0 0 _ _ hg
    simp at e1 e2 e4
    refine ⟨e2, ?_⟩
    show _ = putN (zigN (zagN _))
    rw [zig_zag (getA_lt' hg), e4, e1]
theorem signed_ok {l : List UInt8} {x : Int} {n : Nat} (h : signedP l = .ok x n) : I64 x := by
  unfold signedP at h
  split at h
  · cases h
  · rename_i h1
    cases h
    have h0 : (getA 0 0 l).1 = 0 := by simpa using h1
    have hg : getA 0 0 l = (0, (getA 0 0 l).2.1, (getA 0 0 l).2.2) := by rw [← h0]
    exact zag_i64 (getA_lt' hg)
theorem rep_len {α : Type} {one : Pr α} : ∀ (k : Nat) {l : List UInt8} {xs : List α} {n : Nat}, repP one k l = .ok xs n → xs.length = k
  | 0, l, xs, n, h => by obtain ⟨rfl, _⟩ := ret_ok h; rfl
  | k + 1, l, xs, n, h => by
    obtain ⟨x, _, _, _, h2, _⟩ := bind_ok h
    obtain ⟨ys, _, _, h3, h4, _⟩ := bind_ok h2
    obtain ⟨rfl, _⟩ := ret_ok h4
    simp [rep_len k h3]
theorem rep_all {α : Type} {one : Pr α} {q : α → Prop} (hq : ∀ l x n, one l = .ok x n → q x) : ∀ (k : Nat) {l : List UInt8} {xs : List α} {n : Nat}, repP one k l = .ok xs n → ∀ x ∈ xs, q x
  | 0, l, xs, n, h => by obtain ⟨rfl, _⟩ := ret_ok h; simp
  | k + 1, l, xs, n, h => by
    obtain ⟨x, _, _, h1, h2, _⟩ := bind_ok h
    obtain ⟨ys, _, _, h3, h4, _⟩ := bind_ok h2
    obtain ⟨rfl, _⟩ := ret_ok h4
    intro z hz
    rcases List.mem_cons.1 hz with rfl | hz
    · exact hq _ _ _ h1
    · exact rep_all hq k h3 z hz
theorem cn_rep {α : Type} {one : Pr α} {w : α → List UInt8} {ws : List α → List UInt8} (h0 : ws [] = []) (hc : ∀ x xs, ws (x :: xs) = w x ++ ws xs) (h : CN one w) : ∀ k, CN (repP one k) ws
  | 0 => fun l xs n hx => by obtain ⟨rfl, rfl⟩ := ret_ok hx; simp [h0]
  | k + 1 => fun l xs n hx => by
    obtain ⟨x, n1, m1, h1, h2, rfl⟩ := bind_ok hx
    obtain ⟨ys, n2, m2, h3, h4, rfl⟩ := bind_ok h2
    obtain ⟨rfl, rfl⟩ := ret_ok h4
    obtain ⟨a1, a2⟩ := h _ _ _ h1
    obtain ⟨b1, b2⟩ := cn_rep h0 hc h k _ _ _ h3
    rw [List.length_drop] at b1
    refine ⟨by omega, ?_⟩
    rw [Nat.add_zero, List.take_add, a2, b2, hc]
theorem list_ok {α : Type} {one : Pr α} {most : Nat} {l : List UInt8} {xs : List α} {n : Nat} (h : listP most one l = .ok xs n) : xs.length ≤ most ∧ ∃ l' m, repP one xs.length l' = .ok xs m := by
  obtain ⟨k, _, _, h1, h2, _⟩ := bind_ok h
  have := rep_len k h2
  subst this
  exact ⟨(num_ok h1).1, _, _, h2⟩
theorem cn_list {α : Type} {one : Pr α} {w : α → List UInt8} {ws : List α → List UInt8} (h0 : ws [] = []) (hc : ∀ x xs, ws (x :: xs) = w x ++ ws xs) (h : CN one w) {most : Nat} (hm : most ≤ 1000) : CN (listP most one) (fun xs => numW xs.length ++ ws xs) := fun l xs n hx => by
  obtain ⟨k, n1, m1, h1, h2, rfl⟩ := bind_ok hx
  have hk := rep_len k h2
  have hle := (num_ok h1).1
  subst hk
  obtain ⟨a1, a2⟩ := cn_num _ _ _ _ _ h1
  obtain ⟨b1, b2⟩ := cn_rep h0 hc h _ _ _ _ h2
  rw [List.length_drop] at b1
  refine ⟨by omega, ?_⟩
  have e : numW (xs.length : Int) = putN xs.length := by rw [numW, u64N_of (by omega) (by omega)]; rfl
  show _ = numW (xs.length : Int) ++ ws xs
  rw [List.take_add, a2, b2, e]
theorem cn_var : CN varP (fun v => flagW v.atomic ++ putN (zigN v.init)) := fun l v n h => by
  obtain ⟨a, n1, m1, h1, h2, rfl⟩ := bind_ok h
  obtain ⟨i, n2, m2, h3, h4, rfl⟩ := bind_ok h2
  obtain ⟨rfl, rfl⟩ := ret_ok h4
  obtain ⟨a1, a2⟩ := cn_truth _ _ _ h1
  obtain ⟨b1, b2⟩ := cn_signed _ _ _ h3
  rw [List.length_drop] at b1
  exact ⟨by omega, by rw [Nat.add_zero, List.take_add, a2, b2]⟩
theorem cn_case : CN caseP caseW := fun l v n h => by
  obtain ⟨a, n1, m1, h1, k1, rfl⟩ := bind_ok h
  obtain ⟨b, n2, m2, h2, k2, rfl⟩ := bind_ok k1
  obtain ⟨c, n3, m3, h3, k3, rfl⟩ := bind_ok k2
  obtain ⟨d, n4, m4, h4, k4, rfl⟩ := bind_ok k3
  obtain ⟨rfl, rfl⟩ := ret_ok k4
  obtain ⟨a1, a2⟩ := cn_truth _ _ _ h1
  obtain ⟨b1, b2⟩ := cn_plain _ _ _ h2
  obtain ⟨c1, c2⟩ := cn_plain _ _ _ h3
  obtain ⟨d1, d2⟩ := cn_plain _ _ _ h4
  simp only [List.length_drop] at b1 c1 d1
  refine ⟨by omega, ?_⟩
  simp only [caseW]
  rw [show c - 1 + 1 = c by omega, Nat.add_zero, List.take_add, List.take_add, List.take_add, a2, b2, c2, d2]
theorem cn_sel : CN selP selW := fun l v n h => by
  obtain ⟨a, n1, m1, h1, k1, rfl⟩ := bind_ok h
  obtain ⟨b, n2, m2, h2, k2, rfl⟩ := bind_ok k1
  obtain ⟨rfl, rfl⟩ := ret_ok k2
  obtain ⟨a1, a2⟩ := cn_list (ws := casesW) rfl (fun _ _ => rfl) cn_case (by omega) _ _ _ h1
  obtain ⟨b1, b2⟩ := cn_plain _ _ _ h2
  simp only [List.length_drop] at b1
  refine ⟨by omega, ?_⟩
  simp only [selW]
  rw [show b - 1 + 1 = b by omega, Nat.add_zero, List.take_add, a2, b2, List.append_assoc]
theorem cn_op (l : UInt8) : ∀ bs x n, opP l bs = .ok x n → n ≤ bs.length ∧ bs.take n = opW l x ∧ I64 x ∧ (l = 45 → x = 0) := fun bs x n h => by
  unfold opP at h
  unfold opW
  split at h
  · rename_i h1
    obtain ⟨rfl, rfl⟩ := ret_ok h
    rw [if_pos h1]; simp [I64]
  · rename_i h1
    rw [if_neg h1]
    split at h
    · rename_i h2
      rw [if_pos h2]
      obtain ⟨a, b⟩ := cn_signed _ _ _ h
      exact ⟨a, b, signed_ok h, fun e => absurd e h1⟩
    · rename_i h2
      rw [if_neg h2]
      split at h
      · rename_i h3
        rw [if_pos h3]
        obtain ⟨b, n2, m2, h4, h5, rfl⟩ := bind_ok h
        obtain ⟨rfl, rfl⟩ := ret_ok h5
        obtain ⟨b1, b2⟩ := cn_plain _ _ _ h4
        have := plain_ok h4
        rw [show b - 1 + 1 = b by omega]
        exact ⟨by omega, b2, ⟨by omega, by omega⟩, fun e => absurd e h1⟩
      · rename_i h3
        rw [if_neg h3]
        obtain ⟨a, b⟩ := cn_plain _ _ _ h
        have := plain_ok h
        exact ⟨a, b, ⟨by omega, by omega⟩, fun e => absurd e h1⟩
theorem cn_ops : ∀ (fs : List UInt8) bs xs n, opsP fs bs = .ok xs n → n ≤ bs.length ∧ bs.take n = opsW (fs.zip xs) ∧ xs.length = fs.length ∧ ∀ x ∈ xs, I64 x
  | [], bs, xs, n, h => by
    obtain ⟨rfl, rfl⟩ := ret_ok h
    simp [opsW]
  | l :: fs, bs, xs, n, h => by
    obtain ⟨x, n1, m1, h1, k1, rfl⟩ := bind_ok h
    obtain ⟨ys, n2, m2, h2, k2, rfl⟩ := bind_ok k1
    obtain ⟨rfl, rfl⟩ := ret_ok k2
    obtain ⟨a1, a2, a3, _⟩ := cn_op l _ _ _ h1
    obtain ⟨b1, b2, b3, b4⟩ := cn_ops fs _ _ _ h2
    simp only [List.length_drop] at b1
    refine ⟨by omega, ?_, by simp [b3], ?_⟩
    · rw [Nat.add_zero, List.take_add, a2, b2]; rfl
    · intro z hz
      rcases List.mem_cons.1 hz with rfl | hz
      · exact a3
      · exact b4 z hz
theorem instr_ok {bs : List UInt8} {i : Instr} {n : Nat} (h : instrP bs = .ok i n) : n ≤ bs.length ∧ bs.take n = instrW i ∧ form i.op ≠ [] ∧ (I64 i.op ∧ I64 i.a ∧ I64 i.b ∧ I64 i.c ∧ I64 i.n) := by
  unfold instrP at h
  split at h
  · cases h
  rename_i op n1 h1
  split at h
  · cases h
  rename_i hf
  split at h
  · cases h
  rename_i xs m h2
  cases h
  obtain ⟨a1, a2⟩ := cn_plain _ _ _ h1
  obtain ⟨b1, b2, b3, b4⟩ := cn_ops _ _ _ _ h2
  simp only [List.length_drop] at b1
  obtain ⟨l0, l1, l2, l3, hl⟩ : ∃ l0 l1 l2 l3, form op = [l0, l1, l2, l3] := (form_four op).resolve_left hf
  have hx : ∃ a b c d, xs = [a, b, c, d] := by
    rw [hl] at b3
    match xs, b3 with
    | [a, b, c, d], _ => exact ⟨a, b, c, d, rfl⟩
  obtain ⟨a, b, c, d, rfl⟩ := hx
  have hp := plain_ok h1
  refine ⟨by omega, ?_, hf, ⟨by simp only [insOf]; omega, by simp only [insOf]; omega⟩, b4 a (by simp), b4 b (by simp), b4 c (by simp), b4 d (by simp)⟩
  rw [List.take_add, a2, b2]; rfl
theorem cn_instr : CN instrP instrW := fun l i n h => ⟨(instr_ok h).1, (instr_ok h).2.1⟩
theorem cn_fun : CN funP funW := fun l v n h => by
  obtain ⟨a, n1, m1, h1, k1, rfl⟩ := bind_ok h
  obtain ⟨b, n2, m2, h2, k2, rfl⟩ := bind_ok k1
  obtain ⟨c, n3, m3, h3, k3, rfl⟩ := bind_ok k2
  obtain ⟨d, n4, m4, h4, k4, rfl⟩ := bind_ok k3
  obtain ⟨rfl, rfl⟩ := ret_ok k4
  obtain ⟨a1, a2⟩ := cn_plain _ _ _ h1
  obtain ⟨b1, b2⟩ := cn_plain _ _ _ h2
  obtain ⟨c1, c2⟩ := cn_list (ws := selsW) rfl (fun _ _ => rfl) cn_sel (by omega) _ _ _ h3
  obtain ⟨d1, d2⟩ := cn_list (ws := codeW) rfl (fun _ _ => rfl) cn_instr (by omega) _ _ _ h4
  simp only [List.length_drop] at b1 c1 d1
  refine ⟨by omega, ?_⟩
  simp only [funW, headW]
  rw [Nat.add_zero, List.take_add, List.take_add, List.take_add, a2, b2, c2, d2]
  simp
theorem cn_body {l : List UInt8} {p : Prog} {n : Nat} (h : bodyP l = .ok p n) : n ≤ l.length ∧ magicB ++ l.take n = bodyW p := by
  obtain ⟨a, n1, m1, h1, k1, rfl⟩ := bind_ok h
  obtain ⟨b, n2, m2, h2, k2, rfl⟩ := bind_ok k1
  obtain ⟨c, n3, m3, h3, k3, rfl⟩ := bind_ok k2
  obtain ⟨d, n4, m4, h4, k4, rfl⟩ := bind_ok k3
  obtain ⟨rfl, rfl⟩ := ret_ok k4
  obtain ⟨a1, a2⟩ := cn_list (ws := varsW) rfl (fun _ _ => by simp [varsW]) cn_var (by omega) _ _ _ h1
  obtain ⟨b1, b2⟩ := cn_plain _ _ _ h2
  obtain ⟨c1, c2⟩ := cn_list (ws := chansW) rfl (fun _ _ => rfl) cn_plain (by omega) _ _ _ h3
  obtain ⟨d1, d2⟩ := cn_list (ws := funsW) rfl (fun _ _ => rfl) cn_fun (by omega) _ _ _ h4
  simp only [List.length_drop] at b1 c1 d1
  refine ⟨by omega, ?_⟩
  simp only [bodyW]
  rw [Nat.add_zero, List.take_add, List.take_add, List.take_add, a2, b2, c2, d2]
  simp

/-! ### The sum tells of one byte -/
theorem xor_left_cancel {a b c : Nat} (h : a ^^^ b = a ^^^ c) : b = c := by
  have := congrArg (a ^^^ ·) h
  simpa [← Nat.xor_assoc] using this
theorem xor_right_cancel {a b c : Nat} (h : b ^^^ a = c ^^^ a) : b = c := by
  rw [Nat.xor_comm b, Nat.xor_comm c] at h
  exact xor_left_cancel h
theorem stepN_top {c : Nat} (h : c < 4294967296) : (stepN c).testBit 31 = decide (c % 2 = 1) := by
  have hc : (c / 2).testBit 31 = false := Nat.testBit_lt_two_pow (by omega)
  unfold stepN
  split
  · rename_i ho
    rw [Nat.testBit_xor, hc]
    simp [ho]
    decide
  · rename_i ho
    rw [hc]; simp [ho]
theorem stepN_inj {c d : Nat} (hc : c < 4294967296) (hd : d < 4294967296) (h : stepN c = stepN d) : c = d := by
  have ht : decide (c % 2 = 1) = decide (d % 2 = 1) := by rw [← stepN_top hc, ← stepN_top hd, h]
  unfold stepN at h
  by_cases ho : c % 2 = 1
  · have ho' : d % 2 = 1 := by simpa [ho] using ht
    rw [if_pos ho, if_pos ho'] at h
    have := xor_right_cancel h
    omega
  · have ho' : ¬ d % 2 = 1 := by simpa [ho] using ht
    rw [if_neg ho, if_neg ho'] at h
    omega
theorem iter_inj : ∀ (n : Nat) {c d : Nat}, c < 4294967296 → d < 4294967296 → iter stepN n c = iter stepN n d → c = d
  | 0, c, d, _, _, h => h
  | n + 1, c, d, hc, hd, h => stepN_inj hc hd (iter_inj n (stepN_lt hc) (stepN_lt hd) h)
theorem crcB_inj {c d : Nat} (b : UInt8) (hc : c < 4294967296) (hd : d < 4294967296) (h : crcB c b = crcB d b) : c = d := by
  have hb := b.toNat_lt
  exact xor_right_cancel (iter_inj 8 (xor_lt32 hc (by omega)) (xor_lt32 hd (by omega)) h)
theorem crcB_byte {c : Nat} {a b : UInt8} (hc : c < 4294967296) (h : crcB c a = crcB c b) : a = b := by
  have ha := a.toNat_lt
  have hb := b.toNat_lt
  exact UInt8.toNat_inj.1 (xor_left_cancel (iter_inj 8 (xor_lt32 hc (by omega)) (xor_lt32 hc (by omega)) h))
theorem crcL_inj : ∀ (l : List UInt8) {c d : Nat}, c < 4294967296 → d < 4294967296 → crcL l c = crcL l d → c = d
  | [], c, d, _, _, h => h
  | b :: l, c, d, hc, hd, h => crcB_inj b hc hd (crcL_inj l (crcB_lt hc) (crcB_lt hd) h)
theorem crcL_app (l m : List UInt8) (c : Nat) : crcL (l ++ m) c = crcL m (crcL l c) := by simp [crcL]
/-- **ONE BYTE TURNED TURNS THE SUM.** -/
theorem sum_turn {l m : List UInt8} {a b : UInt8} (h : sumN (l ++ a :: m) = sumN (l ++ b :: m)) : a = b := by
  have h0 : (4294967295 : Nat) < 4294967296 := by omega
  have h1 := crcL_lt (l ++ a :: m) h0
  have h2 := crcL_lt (l ++ b :: m) h0
  unfold sumN at h
  have h3 : crcL (l ++ a :: m) 4294967295 = crcL (l ++ b :: m) 4294967295 := by omega
  rw [crcL_app, crcL_app] at h3
  have hl := crcL_lt l h0
  exact crcB_byte hl (crcL_inj m (crcB_lt hl) (crcB_lt hl) h3)

/-! ### Programs -/
theorem be_fix {x : Nat} (h : x < 4294967296) : beN (fixN x) 0 = x := by
  simp only [beN, fixN, List.foldl_cons, List.foldl_nil]
  rw [u8_toNat (by omega), u8_toNat (by omega), u8_toNat (by omega), u8_toNat (by omega)]
  omega
theorem fix_be {l : List UInt8} (h : l.length = 4) : fixN (beN l 0) = l := by
  match l, h with
  | [a, b, c, d], _ =>
    have ha := a.toNat_lt
    have hb := b.toNat_lt
    have hc := c.toNat_lt
    have hd := d.toNat_lt
    simp only [beN, fixN, List.foldl_cons, List.foldl_nil, List.cons.injEq, and_true]
    refine ⟨?_, ?_, ?_, ?_⟩ <;> apply UInt8.toNat_inj.1 <;> rw [u8_toNat (by omega)] <;> omega
theorem progW_length (p : Prog) : (progW p).length = (bodyW p).length + 4 := by simp [progW]
theorem bodyW_magic (p : Prog) : (bodyW p).take 5 = magicB ∧ bodyW p = magicB ++ (bodyW p).drop 5 := by simp [bodyW, magicB]

/-- **WHAT IS READ IS RIGHT, AND HAS NO OTHER BYTES.** -/
theorem decode_ok {bs : List UInt8} {p : Prog} (h : decode bs = .ok p) : (check p).1 = 0 ∧ progW p = bs := by
  unfold decode at h
  split at h
  · cases h
  split at h
  · cases h
  rename_i h1 h2
  split at h
  · cases h
  rename_i q n hb
  split at h
  · cases h
  rename_i h3
  split at h
  · cases h
  rename_i h4
  split at h
  · cases h
  rename_i h5
  split at h
  · cases h
  rename_i h6
  cases h
  obtain ⟨b1, b2⟩ := cn_body hb
  rw [List.length_drop] at b1
  have hm : bs.take 5 = magicB := by simpa using h2
  have hbody : bs.take (5 + n) = bodyW p := by rw [List.take_add, hm, b2]
  refine ⟨by simpa using h6, ?_⟩
  have h4' : beN (four bs (5 + n)) 0 = sumN (bodyW p) := by rw [← hbody]; simpa using h4
  have h5' : 5 + n + 4 = bs.length := by simpa using h5
  have hf := fix_be (four_length (bs := bs) (a := 5 + n) (by omega))
  rw [h4'] at hf
  rw [progW, hf, ← hbody, four, h5', List.take_length, List.take_append_drop]

theorem len_num (x : Int) : (numW x).length ≤ 10 := numW_len x
theorem len_ops : ∀ (q : List (UInt8 × Int)), (∀ x ∈ q, I64 x.2) → (opsW q).length ≤ 10 * q.length
  | [], _ => by simp [opsW]
  | (l, x) :: q, h => by
    have h1 : (opW l x).length ≤ 10 := opW_len (h (l, x) (by simp))
    have h2 := len_ops q fun y hy => h y (by simp [hy])
    simp only [opsW, List.length_append, List.length_cons]; omega
theorem len_instr {i : Instr} (hi : I64 i.a ∧ I64 i.b ∧ I64 i.c ∧ I64 i.n) : (instrW i).length ≤ 50 := by
  have h1 := numW_len i.op
  have h2 := len_ops ((form i.op).zip [i.a, i.b, i.c, i.n]) (by
    intro x hx
    have := (List.of_mem_zip hx).2
    simp only [List.mem_cons, List.not_mem_nil, or_false] at this
    rcases this with e | e | e | e <;> rw [e]
    · exact hi.1
    · exact hi.2.1
    · exact hi.2.2.1
    · exact hi.2.2.2)
  have h3 : ((form i.op).zip [i.a, i.b, i.c, i.n]).length ≤ 4 := by rw [List.length_zip]; exact Nat.min_le_right _ _
  simp only [instrW, List.length_append]; omega
theorem len_list {α : Type} {w : α → List UInt8} {ws : List α → List UInt8} (h0 : ws [] = []) (hc : ∀ x xs, ws (x :: xs) = w x ++ ws xs) {b : Nat} : ∀ (xs : List α), (∀ x ∈ xs, (w x).length ≤ b) → (ws xs).length ≤ b * xs.length
  | [], _ => by simp [h0]
  | x :: xs, h => by
    have h1 := h x (by simp)
    have h2 := len_list h0 hc xs fun y hy => h y (by simp [hy])
    rw [hc, List.length_append, List.length_cons, Nat.mul_add]; omega
theorem len_case (c : Case) : (caseW c).length ≤ 40 := by
  have h1 := numW_len (if c.send then 1 else 0)
  have h2 := numW_len c.chan
  have h3 := numW_len (c.reg + 1)
  have h4 := numW_len c.to
  simp only [caseW, flagW, List.length_append]; omega
theorem len_sel {s : Select} (h : s.cases.length ≤ 4) : (selW s).length ≤ 180 := by
  have h1 := len_list (ws := casesW) rfl (fun _ _ => rfl) (b := 40) s.cases fun c _ => len_case c
  have h2 := numW_len s.cases.length
  have h3 := numW_len (s.els + 1)
  simp only [selW, List.length_append]; omega
theorem len_fun {p : Prog} {f : Func} (hf : RightF p f) (ho : f.Ok) : (funW f).length ≤ 4000 := by
  have h1 := len_list (ws := selsW) rfl (fun _ _ => rfl) (b := 180) f.selects fun s hs => len_sel (hf.sel s hs).1.2
  have h2 := len_list (ws := codeW) rfl (fun _ _ => rfl) (b := 50) f.code fun i hi => len_instr (ho.code i hi).2
  have h3 := hf.sels
  have h4 := hf.code
  have n1 := numW_len f.params
  have n2 := numW_len f.regs
  have n3 := numW_len f.selects.length
  have n4 := numW_len f.code.length
  simp only [funW, headW, List.length_append]; omega
theorem len_body {p : Prog} (hp : RightP p) (ho : p.Ok) : (bodyW p).length ≤ 65000 := by
  have h1 := len_list (w := fun v => flagW v.atomic ++ putN (zigN v.init)) (ws := varsW) rfl (fun _ _ => by simp [varsW]) (b := 20) p.vars fun v hv => by
    have a := numW_len (if v.atomic then 1 else 0)
    have b := putN_ten (zig_lt (ho.vars v hv))
    simp only [flagW, List.length_append]; omega
  have h2 := len_list (ws := chansW) rfl (fun _ _ => rfl) (b := 10) p.chans fun c _ => numW_len c
  have h3 := len_list (ws := funsW) rfl (fun _ _ => rfl) (b := 4000) p.funcs fun f hf => len_fun (hp.func f hf) (ho.funcs f hf)
  have a1 := hp.vars
  have a2 := hp.chans
  have a3 := hp.funcs
  have n1 := numW_len p.vars.length
  have n2 := numW_len p.locks
  have n3 := numW_len p.chans.length
  have n4 := numW_len p.funcs.length
  simp only [bodyW, magicB, List.length_append, List.length_cons, List.length_nil]; omega

/-- **A RIGHT PROGRAM IS READ FROM ITS BYTES.** -/
theorem decode_progW {p : Prog} (h : (check p).1 = 0) (ho : p.Ok) : decode (progW p) = .ok p := by
  have hp := right_of h
  have hl := len_body hp ho
  have hr := rt_body hp ho
  have hm := bodyW_magic p
  have hd : (bodyW p).tail.tail.tail.tail.tail = (bodyW p).drop 5 := by simp [List.tail_drop, ← List.drop_one]
  rw [hd] at hr
  have hlen : 5 ≤ (bodyW p).length := by
    have := congrArg List.length hm.1
    simp [magicB] at this; omega
  unfold decode
  rw [if_neg (by rw [progW_length]; omega)]
  have ht : (progW p).take 5 = magicB := by rw [progW, List.take_append_of_le_length hlen, hm.1]
  rw [if_neg (by simp [ht])]
  have hdp : (progW p).drop 5 = (bodyW p).drop 5 ++ fixN (sumN (bodyW p)) := by rw [progW, List.drop_append_of_le_length hlen]
  rw [hdp, hr]
  simp only [List.length_drop]
  have hn : 5 + ((bodyW p).length - 5) = (bodyW p).length := by omega
  rw [hn, progW_length, if_neg (by omega)]
  have hf : four (progW p) (bodyW p).length = fixN (sumN (bodyW p)) := by
    rw [four, progW, List.take_of_length_le (by simp), List.drop_left]
  have htk : (progW p).take (bodyW p).length = bodyW p := by rw [progW, List.take_left]
  rw [hf, htk, be_fix (sumN_lt _), if_neg (by simp), if_neg (by simp), if_neg (by simp [h])]

/-- **BYTES THAT DIFFER IN ONE ARE NOT BOTH A PROGRAM'S.** -/
theorem turn_told {x y : List UInt8} (l m : List UInt8) (a b : UInt8) (h1 : x ++ fixN (sumN x) = l ++ a :: m) (h2 : y ++ fixN (sumN y) = l ++ b :: m) : a = b := by
  have e1 := congrArg List.length h1
  have e2 := congrArg List.length h2
  simp at e1 e2
  have hxy : x.length = y.length := by omega
  by_cases hl : l.length < x.length
  · have hx : x = l ++ a :: m.take (x.length - l.length - 1) := by
      have := congrArg (List.take x.length) h1
      rw [List.take_left, List.take_append, List.take_of_length_le (by omega)] at this
      refine this.trans ?_
      rw [show x.length - l.length = (x.length - l.length - 1) + 1 by omega, List.take_succ_cons]
      simp
    have hy : y = l ++ b :: m.take (x.length - l.length - 1) := by
      have := congrArg (List.take y.length) h2
      rw [List.take_left, List.take_append, List.take_of_length_le (by omega)] at this
      refine this.trans ?_
      rw [show y.length - l.length = (x.length - l.length - 1) + 1 by omega, List.take_succ_cons]
    have hd1 := congrArg (List.drop x.length) h1
    have hd2 := congrArg (List.drop y.length) h2
    rw [List.drop_left, List.drop_append, List.drop_of_length_le (by omega), List.nil_append, show x.length - l.length = (x.length - l.length - 1) + 1 by omega, List.drop_succ_cons] at hd1
    rw [List.drop_left, List.drop_append, List.drop_of_length_le (by omega), List.nil_append, show y.length - l.length = (x.length - l.length - 1) + 1 by omega, List.drop_succ_cons] at hd2
    have hs : sumN x = sumN y := by rw [← be_fix (sumN_lt x), ← be_fix (sumN_lt y), hd1, hd2]
    rw [hx, hy] at hs
    generalize m.take (x.length - l.length - 1) = m1 at hs
    exact sum_turn hs
  · have hx : x = l.take x.length := by
      have := congrArg (List.take x.length) h1
      rw [List.take_left, List.take_append_of_le_length (by omega)] at this
      exact this
    have hy : y = l.take x.length := by
      have := congrArg (List.take x.length) h2
      rw [hxy, List.take_left, List.take_append_of_le_length (by omega)] at this
      rw [hxy]; exact this
    have : x = y := by rw [hy, ← hx]
    subst this
    rw [h1] at h2
    have := List.append_cancel_left h2
    simp at this
    exact this
end Go.Sc.Cw
/- A program read is one whose numbers fit. No condition. -/
set_option linter.constructorNameAsVariable false
namespace Go.Sc.Cw
open Go Go.Av
set_option linter.unusedSimpArgs false
set_option linter.unusedVariables false
theorem few_of {α : Type} {b n : Nat} {l : List α} (h : l.length ≤ n) (hn : n * b ≤ 140737488351232) : Few b l := by
  have := Nat.mul_le_mul_right b h
  unfold Few
  omega
theorem list_all {α : Type} {one : Pr α} {q : α → Prop} (hq : ∀ l x n, one l = .ok x n → q x) {most : Nat} {l : List UInt8} {xs : List α} {n : Nat} (h : listP most one l = .ok xs n) : xs.length ≤ most ∧ ∀ x ∈ xs, q x := by
  obtain ⟨h1, l', m, h2⟩ := list_ok h
  exact ⟨h1, rep_all hq _ h2⟩
theorem plain_i64 {l : List UInt8} {x : Int} {n : Nat} (h : plainP l = .ok x n) : I64 x := by
  have := plain_ok h
  unfold I64; omega
theorem case_ok {l : List UInt8} {c : Case} {n : Nat} (h : caseP l = .ok c n) : I64 c.chan ∧ I64 c.reg ∧ I64 c.to := by
  obtain ⟨_, _, _, _, h, _⟩ := bind_ok h
  obtain ⟨a, _, _, h1, h, _⟩ := bind_ok h
  obtain ⟨b, _, _, h2, h, _⟩ := bind_ok h
  obtain ⟨c, _, _, h3, h, _⟩ := bind_ok h
  obtain ⟨rfl, _⟩ := ret_ok h
  have := plain_ok h1
  have := plain_ok h2
  have := plain_ok h3
  simp only [I64]; omega
theorem sel_ok {l : List UInt8} {s : Select} {n : Nat} (h : selP l = .ok s n) : s.Ok := by
  obtain ⟨cs, _, _, h1, h, _⟩ := bind_ok h
  obtain ⟨a, _, _, h2, h, _⟩ := bind_ok h
  obtain ⟨rfl, _⟩ := ret_ok h
  obtain ⟨a1, a2⟩ := list_all (q := fun c => I64 c.chan ∧ I64 c.reg ∧ I64 c.to) (fun _ _ _ h => case_ok h) h1
  have := plain_ok h2
  exact ⟨few_of a1 (by omega), by simp only [I64]; omega, a2⟩
theorem fun_ok {l : List UInt8} {f : Func} {n : Nat} (h : funP l = .ok f n) : f.Ok := by
  obtain ⟨a, _, _, h1, h, _⟩ := bind_ok h
  obtain ⟨b, _, _, h2, h, _⟩ := bind_ok h
  obtain ⟨c, _, _, h3, h, _⟩ := bind_ok h
  obtain ⟨d, _, _, h4, h, _⟩ := bind_ok h
  obtain ⟨rfl, _⟩ := ret_ok h
  obtain ⟨a1, a2⟩ := list_all (q := fun s => s.Ok) (fun _ _ _ h => sel_ok h) h3
  obtain ⟨b1, b2⟩ := list_all (q := fun i => I64 i.op ∧ I64 i.a ∧ I64 i.b ∧ I64 i.c ∧ I64 i.n) (fun _ _ _ h => (instr_ok h).2.2.2) h4
  exact ⟨plain_i64 h1, plain_i64 h2, few_of b1 (by omega), few_of a1 (by omega), b2, a2⟩
theorem body_ok {l : List UInt8} {p : Prog} {n : Nat} (h : bodyP l = .ok p n) : p.Ok := by
  obtain ⟨a, _, _, h1, h, _⟩ := bind_ok h
  obtain ⟨b, _, _, h2, h, _⟩ := bind_ok h
  obtain ⟨c, _, _, h3, h, _⟩ := bind_ok h
  obtain ⟨d, _, _, h4, h, _⟩ := bind_ok h
  obtain ⟨rfl, _⟩ := ret_ok h
  obtain ⟨a1, a2⟩ := list_all (q := fun v => I64 v.init) (fun l v n h => by
    obtain ⟨a, _, _, h1, h, _⟩ := bind_ok h
    obtain ⟨b, _, _, h2, h, _⟩ := bind_ok h
    obtain ⟨rfl, _⟩ := ret_ok h
    exact signed_ok h2) h1
  obtain ⟨c1, c2⟩ := list_all (q := fun x => I64 x) (fun _ _ _ h => plain_i64 h) h3
  obtain ⟨d1, d2⟩ := list_all (q := fun f => f.Ok) (fun _ _ _ h => fun_ok h) h4
  exact ⟨few_of a1 (by omega), a2, plain_i64 h2, few_of c1 (by omega), c2, few_of d1 (by omega), d2⟩
end Go.Sc.Cw
/- What is wrong has a number; and a right program is eighteen bytes or more. No condition. -/
set_option linter.constructorNameAsVariable false
namespace Go.Sc.Cw
open Go Go.Av
set_option linter.unusedSimpArgs false
set_option linter.unusedVariables false
def EN {α : Type} (p : Pr α) : Prop := ∀ l e o, p l = .err e o → e ≠ 0
theorem EN.ret {α : Type} (x : α) : EN (retP x) := fun l e o h => by simp [retP] at h
theorem EN.bind {α β : Type} {p : Pr α} {f : α → Pr β} (h : EN p) (h' : ∀ x, EN (f x)) : EN (bindP p f) := fun l e o hx => by
  unfold bindP at hx
  split at hx
  · rename_i hp
    cases hx; exact h _ _ _ hp
  · rename_i hp
    split at hx
    · rename_i hq
      cases hx; exact h' _ _ _ _ hq
    · cases hx
theorem en_num (most : Nat) {above : Int} (ha : above ≠ 0) : EN (numP most above) := fun l e o h => by
  unfold numP at h
  split at h
  · rename_i h1; cases h; exact h1
  · split at h
    · cases h; exact ha
    · cases h
theorem en_plain : EN plainP := (en_num _ (by decide)).bind fun x => .ret _
theorem en_truth : EN truthP := (en_num _ (by decide)).bind fun x => .ret _
theorem en_signed : EN signedP := fun l e o h => by
  unfold signedP at h
  split at h
  · rename_i h1; cases h; exact h1
  · cases h
theorem en_rep {α : Type} {one : Pr α} (h : EN one) : ∀ k, EN (repP one k)
  | 0 => .ret _
  | k + 1 => h.bind fun x => (en_rep h k).bind fun xs => .ret _
theorem en_list {α : Type} {one : Pr α} (h : EN one) (most : Nat) : EN (listP most one) := (en_num _ (by decide)).bind fun n => en_rep h n
theorem en_op (l : UInt8) : EN (opP l) := by
  unfold opP
  split
  · exact .ret _
  · split
    · exact en_signed
    · split
      · exact en_plain.bind fun x => .ret _
      · exact en_plain
theorem en_ops : ∀ ls, EN (opsP ls)
  | [] => .ret _
  | l :: ls => (en_op l).bind fun x => (en_ops ls).bind fun xs => .ret _
theorem en_instr : EN instrP := fun l e o h => by
  unfold instrP at h
  split at h
  · rename_i hp; cases h; exact en_plain _ _ _ hp
  · split at h
    · cases h; decide
    · split at h
      · rename_i hq; cases h; exact en_ops _ _ _ _ hq
      · cases h
theorem en_var : EN varP := en_truth.bind fun _ => en_signed.bind fun _ => .ret _
theorem en_case : EN caseP := en_truth.bind fun _ => en_plain.bind fun _ => en_plain.bind fun _ => en_plain.bind fun _ => .ret _
theorem en_sel : EN selP := (en_list en_case _).bind fun _ => en_plain.bind fun _ => .ret _
theorem en_fun : EN funP := en_plain.bind fun _ => en_plain.bind fun _ => (en_list en_sel _).bind fun _ => (en_list en_instr _).bind fun _ => .ret _
theorem en_body : EN bodyP := (en_list en_var _).bind fun _ => en_plain.bind fun _ => (en_list en_plain _).bind fun _ => (en_list en_fun _).bind fun _ => .ret _
theorem decode_en {bs : List UInt8} {e : Int} {o : Nat} (h : decode bs = .error (e, o)) : e ≠ 0 := by
  unfold decode at h
  split at h
  · cases h; decide
  split at h
  · cases h; decide
  split at h
  · rename_i hb; cases h; exact en_body _ _ _ hb
  split at h
  · cases h; decide
  split at h
  · cases h; decide
  split at h
  · cases h; decide
  split at h
  · rename_i h6; cases h; exact h6
  · cases h
theorem numW_pos (x : Int) : 1 ≤ (numW x).length := putN_pos _
theorem progW_long {p : Prog} (h : (check p).1 = 0) : 18 ≤ (progW p).length := by
  have hr := right_of h
  rw [progW_length]
  obtain ⟨f, fs, hf⟩ : ∃ f fs, p.funcs = f :: fs := by
    cases hp : p.funcs with
    | nil => have := hr.funcs.1; rw [hp] at this; simp at this
    | cons f fs => exact ⟨f, fs, rfl⟩
  have hrf := hr.func f (by rw [hf]; simp)
  obtain ⟨i, is, hi⟩ : ∃ i is, f.code = i :: is := by
    cases hp : f.code with
    | nil => have := hrf.code.1; rw [hp] at this; simp at this
    | cons f fs => exact ⟨f, fs, rfl⟩
  simp only [bodyW, hf, funsW, funW, headW, hi, codeW, instrW, List.length_append]
  have := numW_pos (p.vars.length : Int)
  have := numW_pos p.locks
  have := numW_pos (p.chans.length : Int)
  have := numW_pos f.params
  have := numW_pos f.regs
  have := numW_pos (f.selects.length : Int)
  have := numW_pos i.op
  have h1 := numW_pos ((f :: fs).length : Int)
  have h2 := numW_pos ((i :: is).length : Int)
  have h3 : magicB.length = 5 := rfl
  omega
/-- A byte of a program's bytes turned: no program's bytes. -/
theorem turned {p q : Prog} {at' : Nat} {b : UInt8} (hat : at' < (progW p).length) (hb : (progW p)[at'] ≠ b) : progW q ≠ (progW p).set at' b := by
  intro e
  have h1 : progW p = (progW p).take at' ++ (progW p)[at'] :: (progW p).drop (at' + 1) := by rw [← List.drop_eq_getElem_cons hat, List.take_append_drop]
  have h2 : (progW p).set at' b = (progW p).take at' ++ b :: (progW p).drop (at' + 1) := by rw [List.set_eq_take_append_cons_drop, if_pos hat]
  rw [h2] at e
  generalize (progW p).take at' = l at *
  generalize (progW p).drop (at' + 1) = m at *
  generalize (progW p)[at'] = a at *
  exact hb (turn_told l m a b h1 e)
theorem decode_turned {p : Prog} {at' : Nat} {b : UInt8} (hat : at' < (progW p).length) (hb : (progW p)[at'] ≠ b) : ∃ e o, e ≠ 0 ∧ decode ((progW p).set at' b) = .error (e, o) := by
  cases h : decode ((progW p).set at' b) with
  | ok q => exact absurd (decode_ok h).2 (turned hat hb)
  | error x => exact ⟨x.1, x.2, decode_en h, rfl⟩
theorem decode_pok {bs : List UInt8} {p : Prog} (h : decode bs = .ok p) : p.Ok := by
  unfold decode at h
  split at h
  · cases h
  split at h
  · cases h
  split at h
  · cases h
  rename_i hb
  split at h
  · cases h
  split at h
  · cases h
  split at h
  · cases h
  split at h
  · cases h
  cases h
  exact body_ok hb
theorem progW_inj {p q : Prog} (hp : (check p).1 = 0) (hp' : p.Ok) (hq : (check q).1 = 0) (hq' : q.Ok) (h : progW p = progW q) : p = q := by
  have h1 := decode_progW hp hp'
  rw [h, decode_progW hq hq'] at h1
  cases h1; rfl
end Go.Sc.Cw
