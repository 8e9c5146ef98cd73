/- Chapter 03: what an instruction reads and sets, in plain Lean. No condition. -/
import Derived.Test.YtdjcfjfgdblefaaXSrt
import Derived.Test.YtdjcfjfgdblefaaXSc
set_option linter.constructorNameAsVariable false
namespace Go.Sc
open Go Go.Av
set_option linter.unusedSimpArgs false
set_option linter.unusedVariables false
/-- The registers of a list, rising, each once. -/
def rise8 (l : List Int) : List Int := ((List.range 8).map fun n : Nat => (n : Int)).filter fun x => decide (x ∈ l)
theorem rise8_pw (l : List Int) : (rise8 l).Pairwise (· < ·) :=
  List.Pairwise.filter _ (by decide)
theorem rise8_mem {l : List Int} {x : Int} : x ∈ rise8 l ↔ x ∈ l ∧ 0 ≤ x ∧ x < 8 := by
  simp only [rise8, List.mem_filter, List.mem_map, List.mem_range, decide_eq_true_eq]
  constructor
  · rintro ⟨⟨n, hn, rfl⟩, h⟩; exact ⟨h, by omega, by omega⟩
  · rintro ⟨h, h0, h8⟩; exact ⟨⟨x.toNat, by omega, by omega⟩, h⟩
theorem rise8_nil : rise8 [] = [] := by
  rcases hx : rise8 [] with _ | ⟨a, l⟩
  · rfl
  · have := (rise8_mem (l := []) (x := a)).1 (by rw [hx]; simp)
    simp at this
theorem rise8_len (l : List Int) : (rise8 l).length ≤ 8 := by
  have := List.length_filter_le (fun x => decide (x ∈ l)) ((List.range 8).map fun n : Nat => (n : Int))
  simpa [rise8] using this
theorem rise8_one (x : Int) : (rise8 [x]).length ≤ 1 := by
  have h := rise8_pw [x]
  have hm : ∀ y ∈ rise8 [x], y = x := fun y hy => by simpa using (rise8_mem.1 hy).1
  match rise8 [x], h, hm with
  | [], _, _ => simp
  | [a], _, _ => simp
  | a :: b :: t, h, hm =>
    have h1 := (List.pairwise_cons.1 h).1 b (by simp)
    have := hm a (by simp); have := hm b (by simp); omega
theorem rise8_two (x y : Int) : (rise8 [x, y]).length ≤ 2 := by
  have h := rise8_pw [x, y]
  have hm : ∀ z ∈ rise8 [x, y], z = x ∨ z = y := fun z hz => by simpa using (rise8_mem.1 hz).1
  match rise8 [x, y], h, hm with
  | [], _, _ => simp
  | [a], _, _ => simp
  | [a, b], _, _ => simp
  | a :: b :: c :: t, h, hm =>
    have h1 := (List.pairwise_cons.1 h).1 b (by simp)
    have h2 := (List.pairwise_cons.1 (List.pairwise_cons.1 h).2).1 c (by simp)
    have := hm a (by simp); have := hm b (by simp); have := hm c (by simp); omega
/-- What is sorted, made compact, and without what is below zero, is that. -/
theorem rise8_of {l l' : List Int} (hs : Srt.SortedTo (fun x y => decide (x < y)) l' l'.length) (hp : l'.Perm l) (h8 : ∀ x ∈ l, x < 8) : (Srt.ddL l').filter (fun x => !decide (x < 0)) = rise8 l := by
  refine Srt.rise_eq (List.Pairwise.filter _ (Srt.dd_rises l' hs l'.length (Nat.le_refl _))) (rise8_pw l) fun x => ?_
  rw [List.mem_filter, Srt.ddL, Srt.dd_mem l' _ (Nat.le_refl _), List.take_length, hp.mem_iff, rise8_mem]
  constructor
  · rintro ⟨a, b⟩; have := h8 x a; simp at b; exact ⟨a, by omega, by omega⟩
  · rintro ⟨a, b, c⟩; refine ⟨a, ?_⟩; simp; omega

def readsL (p : Prog) (f : Func) (x : Instr) : List Int :=
  if x.op ≤ 15 ∨ x.op = 41 then [x.b]
  else if x.op ≤ 36 then [x.b, x.c]
  else if x.op = 43 ∨ x.op = 44 ∨ x.op = 63 ∨ x.op = 65 then [x.a]
  else if x.op = 51 ∨ x.op = 54 ∨ x.op = 58 then [x.b]
  else if x.op = 52 then [x.c]
  else if x.op = 53 then [x.c, x.n]
  else if x.op = 61 then ((f.selects.getD x.a.toNat default).cases.filter (·.send)).map (·.reg)
  else if x.op = 62 then (List.range (p.funcs.getD x.b.toNat default).params.toNat).map fun k : Nat => x.c + k
  else []
def setsL (f : Func) (x : Instr) : List Int :=
  if x.op ≤ 41 ∨ x.op = 50 ∨ x.op = 52 ∨ x.op = 53 ∨ x.op = 57 ∨ x.op = 62 then [x.a]
  else if x.op = 59 then [x.a, x.c]
  else if x.op = 61 then ((f.selects.getD x.a.toNat default).cases.filter (fun c => !c.send)).map (·.reg)
  else []
/-- What is asked of a place in a program. -/
def askE (p : Prog) (f pc : Int) : Int :=
  if (check p).1 ≠ 0 then 3
  else if f < 0 ∨ (p.funcs.length : Int) ≤ f ∨ pc < 0 ∨ ((p.funcs.getD f.toNat default).code.length : Int) ≤ pc then 1
  else 0
def insAt (p : Prog) (f pc : Int) : Instr := (p.funcs.getD f.toNat default).code.getD pc.toNat default
def regV (l : List Int) (e : Int) : AV := .tup [.sl 1 (l.map irow), .i .i64 e]
def readsV (p : Prog) (f pc : Int) : List Int := if askE p f pc = 0 then rise8 (readsL p (p.funcs.getD f.toNat default) (insAt p f pc)) else []
def setsV (p : Prog) (f pc : Int) : List Int := if askE p f pc = 0 then rise8 (setsL (p.funcs.getD f.toNat default) (insAt p f pc)) else []

theorem ins_parts {p : Prog} {f : Func} {x : Instr} (h : insE p f x = 0) {l0 l1 l2 l3 : UInt8} (hf : form x.op = [l0, l1, l2, l3]) : opE p f l0.toNat x.a x.b = 0 ∧ opE p f l1.toNat x.b x.b = 0 ∧ opE p f l2.toNat x.c x.b = 0 ∧ opE p f l3.toNat x.n x.b = 0 := by
  rw [insE, hf] at h
  simp only at h
  split at h
  · cases h
  split at h
  · rename_i u1; exact absurd h u1
  rename_i u1
  split at h
  · rename_i u2; exact absurd h u2
  rename_i u2
  split at h
  · rename_i u3; exact absurd h u3
  rename_i u3
  exact ⟨by simpa using u1, by simpa using u2, by simpa using u3, h⟩
theorem op_r {p : Prog} {f : Func} {n b : Int} (h : opE p f 114 n b = 0) : 0 ≤ n ∧ n < f.regs := by
  simp [opE] at h
  unfold regE at h; split at h
  · rename_i w; exact within_iff.1 w
  · cases h
theorem op_w {p : Prog} {f : Func} {n b : Int} (h : opE p f 119 n b = 0) : 0 ≤ n ∧ n < f.regs := by
  simp [opE] at h
  unfold regE at h; split at h
  · rename_i w; exact within_iff.1 w
  · cases h
theorem op_o {p : Prog} {f : Func} {n b : Int} (h : opE p f 111 n b = 0) : n = -1 ∨ (0 ≤ n ∧ n < f.regs) := by
  simp [opE] at h
  by_cases hn : n = -1
  · exact .inl hn
  have h := h hn
  unfold regE at h; split at h
  · rename_i w; exact .inr (within_iff.1 w)
  · cases h
theorem op_s {p : Prog} {f : Func} {n b : Int} (h : opE p f 115 n b = 0) : 0 ≤ n ∧ n < f.selects.length := by
  simp [opE] at h
  exact objE_zero.1 h
theorem op_f {p : Prog} {f : Func} {n b : Int} (h : opE p f 102 n b = 0) : 0 ≤ n ∧ n < p.funcs.length := by
  simp [opE] at h
  exact objE_zero.1 h
theorem op_p {p : Prog} {f : Func} {n b : Int} (hr : 0 ≤ f.regs ∧ f.regs ≤ 8) (hk : 0 ≤ (p.funcs.getD b.toNat default).params ∧ (p.funcs.getD b.toNat default).params ≤ 8) (h : opE p f 112 n b = 0) : ((p.funcs.getD b.toNat default).params = 0 ∧ n = 0) ∨ (0 < (p.funcs.getD b.toNat default).params ∧ 0 ≤ n ∧ n ≤ f.regs - (p.funcs.getD b.toNat default).params) := by
  simp [opE] at h
  simp only [List.getD_eq_getElem?_getD] at hk ⊢
  generalize ((p.funcs[b.toNat]?).getD default).params = k at *
  have hw : IntKind.i64.wrap (f.regs - k) = f.regs - k := wrap_in (by omega) (by omega)
  rw [hw] at h
  by_cases h0 : k = 0
  · exact .inl ⟨h0, h.1 h0⟩
  · exact .inr ⟨by omega, by have := h.2 (by omega); omega, by have := h.2 (by omega); omega⟩
theorem getD_mem {α : Type} {l : List α} {n : Nat} {d : α} (h : n < l.length) : l.getD n d ∈ l := by
  rw [List.getD_eq_getElem?_getD, List.getElem?_eq_getElem h]; exact List.getElem_mem h
theorem sel_regs {p : Prog} {f : Func} (hf : RightF p f) {a : Int} (ha : 0 ≤ a ∧ a < f.selects.length) : (f.selects.getD a.toNat default).cases.length ≤ 4 ∧ ∀ c ∈ (f.selects.getD a.toNat default).cases, -1 ≤ c.reg ∧ c.reg < f.regs ∧ (c.send = true → 0 ≤ c.reg) := by
  have hs := hf.sel _ (getD_mem (d := default) (show a.toNat < f.selects.length by omega))
  refine ⟨hs.1.2, fun c hc => ?_⟩
  have h := hs.2
  unfold selE at h
  split at h
  · rename_i h1; exact absurd h h1
  rename_i h1
  have h2 := firstE_zero (by simpa using h1) c hc
  unfold caseE at h2
  split at h2
  · cases h2
  split at h2
  · cases h2
  rename_i h3
  have hr := hf.regs
  by_cases hreg : regE f c.reg = 0
  · unfold regE at hreg; split at hreg
    · rename_i w; have := within_iff.1 w; exact ⟨by omega, by omega, fun _ => by omega⟩
    · cases hreg
  · have h4 : ¬ (c.send = true ∨ c.reg ≠ -1) := fun hx => h3 ⟨hx, hreg⟩
    have h5 : c.reg = -1 := Decidable.byContradiction fun hx => h4 (.inr hx)
    exact ⟨by omega, by omega, fun hx => absurd (.inl hx) h4⟩
/-- What is needed of an instruction to tell what it reads and sets. -/
structure RegOk (p : Prog) (f : Func) (x : Instr) : Prop where
  op : 1 ≤ x.op ∧ x.op ≤ 65 ∧ (x.op ≤ 36 ∨ 40 ≤ x.op) ∧ (x.op ≤ 45 ∨ 50 ≤ x.op)
  regs : 0 ≤ f.regs ∧ f.regs ≤ 8
  reads : ∀ y ∈ readsL p f x, 0 ≤ y ∧ y < f.regs
  sets : ∀ y ∈ setsL f x, -1 ≤ y ∧ y < f.regs
  sel : x.op = 61 → 0 ≤ x.a ∧ x.a < f.selects.length ∧ (f.selects.getD x.a.toNat default).cases.length ≤ 4
  spawn : x.op = 62 → 0 ≤ x.b ∧ x.b < p.funcs.length ∧ 0 ≤ (p.funcs.getD x.b.toNat default).params ∧ (p.funcs.getD x.b.toNat default).params ≤ 8 ∧ 0 ≤ x.c ∧ x.c ≤ 8
theorem regOk {p : Prog} {f : Func} (hp : RightP p) (hf : RightF p f) {x : Instr} (h : insE p f x = 0) : RegOk p f x := by
  have hfm := ins_form h
  have hop := form_range hfm
  have hg1 : x.op ≤ 36 ∨ 40 ≤ x.op := Decidable.byContradiction fun hc => hfm (by unfold form; repeat' (first | (rw [if_neg (by omega)]) | rfl))
  have hg2 : x.op ≤ 45 ∨ 50 ≤ x.op := Decidable.byContradiction fun hc => hfm (by unfold form; repeat' (first | (rw [if_neg (by omega)]) | rfl))
  have hr := hf.regs
  have hsel : x.op = 61 → 0 ≤ x.a ∧ x.a < f.selects.length := fun e => by
    have := ins_parts h (l0 := 115) (l1 := 45) (l2 := 45) (l3 := 45) (by rw [e]; rfl)
    exact op_s this.1
  have hspawn : x.op = 62 → (x.a = -1 ∨ 0 ≤ x.a ∧ x.a < f.regs) ∧ (0 ≤ x.b ∧ x.b < p.funcs.length) ∧ (0 ≤ (p.funcs.getD x.b.toNat default).params ∧ (p.funcs.getD x.b.toNat default).params ≤ 8) ∧ (((p.funcs.getD x.b.toNat default).params = 0 ∧ x.c = 0) ∨ (0 < (p.funcs.getD x.b.toNat default).params ∧ 0 ≤ x.c ∧ x.c ≤ f.regs - (p.funcs.getD x.b.toNat default).params)) := fun e => by
    obtain ⟨a1, a2, a3, _⟩ := ins_parts h (l0 := 111) (l1 := 102) (l2 := 112) (l3 := 45) (by rw [e]; rfl)
    have hb := op_f a2
    have hm := hp.func _ (getD_mem (d := default) (show x.b.toNat < p.funcs.length by omega))
    have h1 := hm.params
    have h2 := hm.regs
    have hk : 0 ≤ (p.funcs.getD x.b.toNat default).params ∧ (p.funcs.getD x.b.toNat default).params ≤ 8 := ⟨h1.1, by omega⟩
    exact ⟨op_o a1, hb, hk, op_p hr hk a3⟩
  have key : ∀ (fm : List UInt8), form x.op = fm → ∀ l0 l1 l2 l3, fm = [l0, l1, l2, l3] → (l0 = 114 → 0 ≤ x.a ∧ x.a < f.regs) ∧ (l0 = 111 → x.a = -1 ∨ (0 ≤ x.a ∧ x.a < f.regs)) ∧ (l1 = 114 → 0 ≤ x.b ∧ x.b < f.regs) ∧ (l2 = 114 → 0 ≤ x.c ∧ x.c < f.regs) ∧ (l2 = 111 → x.c = -1 ∨ (0 ≤ x.c ∧ x.c < f.regs)) ∧ (l3 = 119 → 0 ≤ x.n ∧ x.n < f.regs) := by
    intro fm h1 l0 l1 l2 l3 h2
    obtain ⟨a1, a2, a3, a4⟩ := ins_parts h (h1.trans h2)
    refine ⟨fun e => ?_, fun e => ?_, fun e => ?_, fun e => ?_, fun e => ?_, fun e => ?_⟩ <;> subst e
    · exact op_r a1
    · exact op_o a1
    · exact op_r a2
    · exact op_r a3
    · exact op_o a3
    · exact op_w a4
  have hun : x.op ≤ 15 → form x.op = [114, 114, 45, 45] := fun e => by unfold form; rw [if_pos (by omega)]
  have hbi : 16 ≤ x.op → x.op ≤ 36 → form x.op = [114, 114, 114, 45] := fun e1 e2 => by unfold form; rw [if_neg (by omega), if_pos (by omega)]
  refine ⟨⟨by omega, by omega, hg1, hg2⟩, hr, ?_, ?_, fun e => ⟨(hsel e).1, (hsel e).2, (sel_regs hf (hsel e)).1⟩, fun e => by obtain ⟨_, b, c, d⟩ := hspawn e; exact ⟨b.1, b.2, c.1, c.2, by omega, by omega⟩⟩
  · intro y hy
    unfold readsL at hy
    split at hy
    · rename_i e
      rw [List.mem_singleton] at hy; subst hy
      rcases e with e | e
      · exact (key _ (hun e) _ _ _ _ rfl).2.2.1 rfl
      · exact (key _ (by rw [e]; rfl) 114 114 45 45 rfl).2.2.1 rfl
    split at hy
    · rename_i e0 e
      have := key _ (hbi (by omega) e) _ _ _ _ rfl
      simp only [List.mem_cons, List.not_mem_nil, or_false] at hy
      rcases hy with rfl | rfl
      · exact this.2.2.1 rfl
      · exact this.2.2.2.1 rfl
    split at hy
    · rename_i e
      rw [List.mem_singleton] at hy; subst hy
      rcases e with e | e | e | e
      · exact (key _ (by rw [e]; rfl) 114 116 45 45 rfl).1 rfl
      · exact (key _ (by rw [e]; rfl) 114 45 45 110 rfl).1 rfl
      · exact (key _ (by rw [e]; rfl) 114 45 45 45 rfl).1 rfl
      · exact (key _ (by rw [e]; rfl) 114 45 45 110 rfl).1 rfl
    split at hy
    · rename_i e
      rw [List.mem_singleton] at hy; subst hy
      rcases e with e | e | e
      · exact (key _ (by rw [e]; rfl) 118 114 45 45 rfl).2.2.1 rfl
      · exact (key _ (by rw [e]; rfl) 97 114 45 45 rfl).2.2.1 rfl
      · exact (key _ (by rw [e]; rfl) 99 114 45 45 rfl).2.2.1 rfl
    split at hy
    · rename_i e
      rw [List.mem_singleton] at hy; subst hy
      exact (key _ (by rw [e]; rfl) 111 97 114 45 rfl).2.2.2.1 rfl
    split at hy
    · rename_i e
      have := key _ (by rw [e]; rfl) 114 97 114 119 rfl
      simp only [List.mem_cons, List.not_mem_nil, or_false] at hy
      rcases hy with rfl | rfl
      · exact this.2.2.2.1 rfl
      · exact this.2.2.2.2.2 rfl
    split at hy
    · rename_i e
      obtain ⟨c, hc, rfl⟩ := List.mem_map.1 hy
      obtain ⟨hc, hs⟩ := List.mem_filter.1 hc
      have := (sel_regs hf (hsel e)).2 c hc
      exact ⟨this.2.2 hs, this.2.1⟩
    split at hy
    · rename_i e
      obtain ⟨k, hk, rfl⟩ := List.mem_map.1 hy
      rw [List.mem_range] at hk
      obtain ⟨_, b, c, d⟩ := hspawn e
      omega
    · simp at hy
  · intro y hy
    unfold setsL at hy
    split at hy
    · rename_i e
      rw [List.mem_singleton] at hy; subst hy
      rcases e with e | e | e | e | e | e
      · by_cases e1 : x.op ≤ 15
        · have := (key _ (hun e1) _ _ _ _ rfl).1 rfl; omega
        by_cases e2 : x.op ≤ 36
        · have := (key _ (hbi (by omega) e2) _ _ _ _ rfl).1 rfl; omega
        have e3 : x.op = 40 ∨ x.op = 41 := by omega
        rcases e3 with e3 | e3
        · have := (key _ (by rw [e3]; rfl) 114 45 45 110 rfl).1 rfl; omega
        · have := (key _ (by rw [e3]; rfl) 114 114 45 45 rfl).1 rfl; omega
      · have := (key _ (by rw [e]; rfl) 114 118 45 45 rfl).1 rfl; omega
      · have := (key _ (by rw [e]; rfl) 111 97 114 45 rfl).2.1 rfl; omega
      · have := (key _ (by rw [e]; rfl) 114 97 114 119 rfl).1 rfl; omega
      · have := (key _ (by rw [e]; rfl) 114 108 45 45 rfl).1 rfl; omega
      · have := (hspawn e).1; omega
    split at hy
    · rename_i e
      have := key _ (by rw [e]; rfl) 111 99 111 45 rfl
      simp only [List.mem_cons, List.not_mem_nil, or_false] at hy
      rcases hy with rfl | rfl
      · have := this.2.1 rfl; omega
      · have := this.2.2.2.2.1 rfl; omega
    split at hy
    · rename_i e
      obtain ⟨c, hc, rfl⟩ := List.mem_map.1 hy
      obtain ⟨hc, hs⟩ := List.mem_filter.1 hc
      have := (sel_regs hf (hsel e)).2 c hc
      exact ⟨this.1, this.2.1⟩
    · simp at hy
/-- A right program's place that may be asked after. -/
theorem ask_ok {p : Prog} {f pc : Int} (h : askE p f pc = 0) : RightP p ∧ (0 ≤ f ∧ f < p.funcs.length) ∧ (0 ≤ pc ∧ pc < (p.funcs.getD f.toNat default).code.length) ∧ RegOk p (p.funcs.getD f.toNat default) (insAt p f pc) := by
  unfold askE at h
  split at h
  · cases h
  rename_i h1
  split at h
  · cases h
  rename_i h2
  have hp := right_of (by simpa using h1)
  have hf := hp.func _ (getD_mem (d := default) (show f.toNat < p.funcs.length by omega))
  exact ⟨hp, by omega, by omega, regOk hp hf (hf.ins _ (getD_mem (by omega)))⟩
end Go.Sc
