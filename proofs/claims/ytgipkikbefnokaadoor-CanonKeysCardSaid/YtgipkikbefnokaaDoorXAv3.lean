/- That the quiet operations tell what evq says. No condition. -/
import Derived.Test.YtgipkikbefnokaaDoorXAv2
import Derived.Laws.Slices
set_option linter.constructorNameAsVariable false
namespace Go.Av
open Go Go.RowKit
set_option linter.unusedSimpArgs false
set_option linter.unusedVariables false

theorem run_sizeOf {P : Program} {t : TypeId} {z : Nat} (h : tSize P t = some z) (w : World) : (sizeOf t).run P w = .ok z w := by
  unfold tSize at h
  obtain ⟨i, hi, rfl⟩ := Option.map_eq_some_iff.1 h
  simp [sizeOf, typeInfo, hi]

theorem aggSize_ok {P : Program} {t : TypeId} {s : Option Nat} (h : aggSize P t = some s) (w : World) :
    (isAgg t).run P w = .ok s.isSome w ∧ ∀ k, s = some k → (sizeOf t).run P w = .ok k w := by
  unfold aggSize at h
  split at h
  · rename_i fs i hu hi
    simp at h; subst h
    exact ⟨by simp [isAgg, run_underlying hu], fun k hk => by cases hk; simp [sizeOf, typeInfo, hi]⟩
  · rename_i n e i hu hi
    simp at h; subst h
    exact ⟨by simp [isAgg, run_underlying hu], fun k hk => by cases hk; simp [sizeOf, typeInfo, hi]⟩
  · rename_i d i hn1 hn2 hu hi
    simp at h; subst h
    refine ⟨?_, fun k hk => by cases hk⟩
    simp only [isAgg, Sem.run_bind, run_underlying hu, Result.andThen_ok]
    cases d <;> simp_all
  · cases h

theorem bsize (s : ByteArray) : s.data.toList.length = s.size := by show s.data.toList.length = s.data.size; exact Array.length_toList
theorem someP {C C' : Prop} {r r' : RV} (h : some (C', r') = some (C, r)) : C' = C ∧ r' = r := by cases h; exact ⟨rfl, rfl⟩
theorem someA {C C' : Prop} {r r' : AV} (h : some (C', r') = some (C, r)) : C' = C ∧ r' = r := by cases h; exact ⟨rfl, rfl⟩

def AV.val : AV → Value
  | .i k n => .int k n
  | _ => undef
def Tabs (P : Program) (e : Env) : Prop := ∀ g cs, tabOf P g = some cs → e.Im g ∧ ∃ t fz, e.w.heap[g]? = some (.cells (cs.map AV.val).toArray t fz)
theorem tab_ints {n : String} {cs : List AV} (h : tabNamed n = some cs) : ∀ a ∈ cs, ∃ k z, a = .i k z := by
  have hm : ∀ (k : IntKind) (l : List Nat), ∀ a ∈ l.map (fun n : Nat => AV.i k (n : Int)), ∃ k z, a = .i k z := fun k l a ha => by
    obtain ⟨x, _, rfl⟩ := List.mem_map.1 ha
    exact ⟨_, _, rfl⟩
  unfold tabNamed at h
  split at h
  · cases h; exact hm _ _
  · split at h
    · cases h; exact hm _ _
    · split at h
      · cases h; exact hm _ _
      · cases h
theorem Tabs.vi {P : Program} {e : Env} (h : Tabs P e) {g : Nat} {cs : List AV} (hg : tabOf P g = some cs) : VI e.w e.Im (.pim cs) (.pointer (some ⟨g, 0, none⟩)) := by
  obtain ⟨h1, t, fz, h2⟩ := h g cs hg
  obtain ⟨gl, _, h3⟩ := Option.bind_eq_some_iff.1 hg
  refine .pim cs g 0 (fun j => (cs.getD j .nil).val) h1 (fun j x hx => ?_) fun j x hx => ?_
  · obtain ⟨k, z, rfl⟩ := tab_ints h3 x (List.mem_of_getElem? hx)
    refine ⟨?_, by simp [List.getD_eq_getElem?_getD, hx, AV.val, Value.oneCell']⟩
    simp [World.cell?, h2, List.getD_eq_getElem?_getD, hx]
  · obtain ⟨k, z, rfl⟩ := tab_ints h3 x (List.mem_of_getElem? hx)
    simp [List.getD_eq_getElem?_getD, hx, AV.val]
    exact .i k z
theorem Tabs.more {P : Program} {e : Env} (h : Tabs P e) {Im : Nat → Prop} (hi : ∀ b, e.Im b → Im b) {ρ : List (Option Loc)} {H : List AObj} : Tabs P ⟨e.w, Im, ρ, H⟩ := fun g cs hg => by
  obtain ⟨h1, t, fz, h2⟩ := h g cs hg
  exact ⟨hi g h1, t, fz, h2⟩
theorem Tabs.mv {P : Program} {e e' : Env} (h : Tabs P e) (m : Mv e e') : Tabs P e' := fun g cs hg => by
  obtain ⟨h1, t, fz, h2⟩ := h g cs hg
  exact ⟨m.im g h1, t, fz, (m.imw g h1).trans h2⟩
def Reads (P : Program) (e : Env) (a : Act) (A : AX → RV) : Prop := ∀ o x, resX P o = some x → VR e (A x) (a.eval o)

section inv
variable {e : Env} {c : Value}
theorem VR.int {k : IntKind} {n : Int} (h : VR e (.v (.i k n)) c) : c = .int k n := by cases h with | v h => cases h; rfl
theorem VR.bo' (h : VR e .bo c) : ∃ x, c = .bool x := by cases h; exact ⟨_, rfl⟩
theorem VR.bool {x : Bool} (h : VR e (.v (.b x)) c) : c = .bool x := by cases h with | v h => cases h; rfl
theorem VR.str {l : List UInt8} (h : VR e (.v (.s l)) c) : ∃ s : ByteArray, c = .string s ∧ s.data.toList = l := by cases h with | v h => cases h; exact ⟨_, rfl, rfl⟩
theorem VR.agg {cs : List AV} (h : VR e (.v (.g cs)) c) : ∃ vs : Array Value, c = .agg vs ∧ vs.size = cs.length ∧ ∀ (j : Nat) x y, cs[j]? = some x → vs[j]? = some y → VI e.w e.Im x y ∧ y.oneCell' = true := by
  cases h with | v h => cases h with | g _ vs hn h1 h => exact ⟨vs, rfl, hn, fun j x y hx hy => ⟨h j x y hx hy, h1 j y hy⟩⟩
theorem VR.aggr {cs : List RV} (h : VR e (.gr cs) c) : ∃ vs : Array Value, c = .agg vs ∧ vs.size = cs.length ∧ ∀ (j : Nat) x y, cs[j]? = some x → vs[j]? = some y → VR e x y ∧ y.oneCell' = true := by
  cases h with | gr hn h1 h => exact ⟨_, rfl, hn, fun j x y hx hy => ⟨h j x y hx hy, h1 j y hy⟩⟩
theorem VR.tupl {cs : List AV} (h : VR e (.v (.tup cs)) c) : ∃ vs : Array Value, c = .tuple vs ∧ vs.size = cs.length ∧ ∀ (j : Nat) x y, cs[j]? = some x → vs[j]? = some y → VI e.w e.Im x y := by
  cases h with | v h => cases h with | tup _ vs hn h => exact ⟨vs, rfl, hn, h⟩
theorem VR.tuplr {cs : List RV} (h : VR e (.tr cs) c) : ∃ vs : Array Value, c = .tuple vs ∧ vs.size = cs.length ∧ ∀ (j : Nat) x y, cs[j]? = some x → vs[j]? = some y → VR e x y := by
  cases h with | tr hn h => exact ⟨_, rfl, hn, h⟩
end inv

theorem array_get {vs : Array Value} {j n : Nat} (hn : vs.size = n) (h : j < n) : ∃ y, vs[j]? = some y := ⟨vs[j]'(by omega), by simp [hn, h]⟩
theorem list_get {α : Type} {l : List α} {j : Nat} (h : j < l.length) (d : α) : l[j]? = some (l.getD j d) := by
  simp [List.getD, h]

theorem part_none {P : Program} {t : TypeId} (h : aggSize P t = some none) {cs : Array Value} {off : Nat} {y : Value} (hy : cs[off]? = some y) (w : World) : (part t cs off).run P w = .ok y w := by
  have := (aggSize_ok h w).1
  simp [part, this, hy]
theorem part_some {P : Program} {t : TypeId} {k : Nat} (h : aggSize P t = some (some k)) {cs : Array Value} {off : Nat} (w : World) : (part t cs off).run P w = .ok (.agg (cs.extract off (off + k))) w := by
  have h1 := (aggSize_ok h w).1
  have h2 := (aggSize_ok h w).2 k rfl
  simp [part, h1, h2]

theorem one_of {α : Type} {Q : α → Value → Prop} {cs : List α} {vs : Array Value} (hn : vs.size = cs.length) (h : ∀ (j : Nat) x y, cs[j]? = some x → vs[j]? = some y → Q x y ∧ y.oneCell' = true) (j : Nat) (c : Value) (hc : vs[j]? = some c) : c.oneCell' = true := by
  have hl : j < cs.length := by rw [← hn]; exact (Array.getElem?_eq_some_iff.1 hc).1
  exact (h j _ c (List.getElem?_eq_getElem hl) hc).2

theorem sub_agg {Q : AV → Value → Prop} {cs : List AV} {vs : Array Value} {off k : Nat} (hn : vs.size = cs.length) (h : ∀ (j : Nat) x y, cs[j]? = some x → vs[j]? = some y → Q x y) (hk : off + k ≤ cs.length) :
    (vs.extract off (off + k)).size = ((cs.drop off).take k).length ∧ ∀ (j : Nat) x y, ((cs.drop off).take k)[j]? = some x → (vs.extract off (off + k))[j]? = some y → Q x y := by
  refine ⟨by simp; omega, fun j x y hx hy => ?_⟩
  rw [List.getElem?_take] at hx
  split at hx
  · rename_i hj
    rw [List.getElem?_drop] at hx
    rw [Array.getElem?_extract] at hy
    split at hy
    · exact h _ x y hx hy
    · cases hy
  · cases hx
theorem sub_aggr {Q : RV → Value → Prop} {cs : List RV} {vs : Array Value} {off k : Nat} (hn : vs.size = cs.length) (h : ∀ (j : Nat) x y, cs[j]? = some x → vs[j]? = some y → Q x y) (hk : off + k ≤ cs.length) :
    (vs.extract off (off + k)).size = ((cs.drop off).take k).length ∧ ∀ (j : Nat) x y, ((cs.drop off).take k)[j]? = some x → (vs.extract off (off + k))[j]? = some y → Q x y := by
  refine ⟨by simp; omega, fun j x y hx hy => ?_⟩
  rw [List.getElem?_take] at hx
  split at hx
  · rename_i hj
    rw [List.getElem?_drop] at hx
    rw [Array.getElem?_extract] at hy
    split at hy
    · exact h _ x y hx hy
    · cases hy
  · cases hx

def Tells (P : Program) (e : Env) (s : Sem Value) (r : RV) : Prop := ∃ c, s.run P e.w = .ok c e.w ∧ VR e r c

theorem bin_ok {P : Program} {e : Env} {op : BinOp} {t : TypeId} {x y : RV} {ox oy : Operand} {a b : Value} {C : Prop} {r : RV} (hx : VR e x a) (hy : VR e y b) (h : evBin op x y = some (C, r)) (hC : C) :
    Tells P e (do eqGuard op t ox oy a b; binOp op t a b) r := by
  unfold evBin at h
  split at h
  · rename_i k n k' m
    obtain rfl := hx.int
    obtain rfl := hy.int
    simp only [Option.map_eq_some_iff] at h
    obtain ⟨⟨C', r'⟩, hb, he⟩ := h
    cases he
    unfold Tells
    simp only [eqGuard_at_int, Sem.run_bind, Sem.run_pure, Result.andThen_ok]
    unfold binI at hb
    split at hb <;> (obtain ⟨rfl, rfl⟩ := someA hb)
    · have h0 : ¬ m < 0 := by omega
      exact ⟨_, by simp [binOp, Op.shift, h0]<;> rfl, .v (.i _ _)⟩
    · have h0 : ¬ m < 0 := by omega
      exact ⟨_, by simp [binOp, Op.shift, h0]<;> rfl, .v (.i _ _)⟩
    · subst hC; exact ⟨_, by simp [binOp, Op.intArith]<;> rfl, .v (.i _ _)⟩
    · subst hC; exact ⟨_, by simp [binOp, Op.intArith]<;> rfl, .v (.i _ _)⟩
    · subst hC; exact ⟨_, by simp [binOp, Op.intArith]<;> rfl, .v (.i _ _)⟩
    · obtain ⟨rfl, h0⟩ := hC; exact ⟨_, by simp [binOp, Op.intDiv, h0]<;> rfl, .v (.i _ _)⟩
    · obtain ⟨rfl, h0⟩ := hC; exact ⟨_, by simp [binOp, Op.intDiv, h0]<;> rfl, .v (.i _ _)⟩
    · subst hC; exact ⟨_, by simp [binOp, Op.intBits]<;> rfl, .v (.i _ _)⟩
    · subst hC; exact ⟨_, by simp [binOp, Op.intBits]<;> rfl, .v (.i _ _)⟩
    · subst hC; exact ⟨_, by simp [binOp, Op.intBits]<;> rfl, .v (.i _ _)⟩
    · subst hC; exact ⟨_, by simp [binOp, Op.intBits]<;> rfl, .v (.i _ _)⟩
    all_goals (subst hC; exact ⟨_, by simp [binOp, Op.intCmp]<;> rfl, .v (.b _)⟩)
  · rename_i l m
    obtain ⟨s, rfl, rfl⟩ := hx.str
    obtain ⟨u, rfl, rfl⟩ := hy.str
    simp only [Option.map_eq_some_iff] at h
    obtain ⟨⟨C', r'⟩, hb, he⟩ := h
    cases he
    unfold Tells
    simp only [eqGuard_at_string, Sem.run_bind, Sem.run_pure, Result.andThen_ok]
    unfold binS at hb
    have hs : s.data.toList.length = s.size := bsize s
    have hu : u.data.toList.length = u.size := bsize u
    split at hb
    · obtain ⟨rfl, rfl⟩ := someA hb
      have h0 : ¬ (9223372036854775807 < (s.size : Int) + u.size) := by omega
      refine ⟨.string (s ++ u), by simp [binOp, Op.stringOp, IntKind.max_i64, h0], ?_⟩
      have e1 : (s ++ u).data.toList = s.data.toList ++ u.data.toList := by simp
      rw [← e1]; exact .v (.s _)
    · obtain ⟨rfl, rfl⟩ := someA hb
      refine ⟨_, by simp [binOp, Op.stringOp]<;> rfl, ?_⟩
      simp only [ByteArray.toList_eq]
      exact .v (.b _)
    · obtain ⟨rfl, rfl⟩ := someA hb
      refine ⟨_, by simp [binOp, Op.stringOp]<;> rfl, ?_⟩
      simp only [ByteArray.toList_eq]
      exact .v (.b _)
    · cases hb
  · cases h

theorem un_ok {P : Program} {e : Env} {op : UnOp} {x : RV} {a : Value} {C : Prop} {r : RV} (hx : VR e x a) (h : evUn op x = some (C, r)) (hC : C) : Tells P e (Op.unary op a) r := by
  unfold evUn at h
  split at h
  · obtain ⟨rfl, rfl⟩ := someP h; obtain rfl := hx.int
    exact ⟨_, rfl, .v (.i _ _)⟩
  · obtain ⟨rfl, rfl⟩ := someP h; obtain rfl := hx.int
    exact ⟨_, rfl, .v (.i _ _)⟩
  · obtain ⟨rfl, rfl⟩ := someP h; obtain rfl := hx.bool
    exact ⟨_, rfl, .v (.b _)⟩
  · cases h

theorem field_ok {P : Program} {e : Env} {t : TypeId} {f : Nat} {fs : Array Field} {fd : Field} {s : Option Nat} {x : RV} {a : Value} {C : Prop} {r : RV} (hu : P.underlying t = some (.struct fs)) (hf : fs[f]? = some fd)
    (hs : aggSize P fd.type = some s) (hx : VR e x a) (h : evPart fd.offset s x = some (C, r)) (hC : C) : Tells P e (Instr.field t a f) r := by
  unfold Tells
  simp only [Instr.field, Sem.run_bind, run_underlying hu, Result.andThen_ok, hf]
  unfold evPart at h
  split at h <;> first | (obtain ⟨rfl, rfl⟩ := someP h) | cases h
  · obtain ⟨vs, rfl, hn, hh⟩ := hx.agg
    obtain ⟨y, hy⟩ := array_get hn hC
    refine ⟨y, by simp [asAgg, part_none hs hy], .v (hh _ _ _ (list_get hC _) hy).1⟩
  · obtain ⟨vs, rfl, hn, hh⟩ := hx.agg
    obtain ⟨h1, h2⟩ := sub_agg hn hh hC
    exact ⟨_, by simp [asAgg, part_some hs]<;> rfl, .v (.g _ _ h1 (one_of h1 h2) (fun j x y hx hy => (h2 j x y hx hy).1))⟩
  · obtain ⟨vs, rfl, hn, hh⟩ := hx.aggr
    obtain ⟨y, hy⟩ := array_get hn hC
    refine ⟨y, by simp [asAgg, part_none hs hy], (hh _ _ _ (list_get hC _) hy).1⟩
  · obtain ⟨vs, rfl, hn, hh⟩ := hx.aggr
    obtain ⟨h1, h2⟩ := sub_aggr hn hh hC
    exact ⟨_, by simp [asAgg, part_some hs]<;> rfl, .gr h1 (one_of h1 h2) (fun j x y hx hy => (h2 j x y hx hy).1)⟩

theorem idx_ok {P : Program} {e : Env} {t el : TypeId} {len z : Nat} {s : Option Nat} {x i : RV} {a b : Value} {C : Prop} {r : RV} (hu : P.underlying t = some (.array len el)) (hs : aggSize P el = some s) (hz : tSize P el = some z)
    (hx : VR e x a) (hi : VR e i b) (h : evIdx len z s.isSome x i = some (C, r)) (hC : C) : Tells P e (Instr.index t a b) r := by
  unfold evIdx at h
  split at h
  · rename_i cs k n
    obtain ⟨vs, rfl, hn, hh⟩ := hx.agg
    obtain rfl := hi.int
    unfold Tells
    simp only [Instr.index, asIntOf, Sem.run_bind, Sem.run_pure, run_underlying hu, Result.andThen_ok]
    split at h <;> (obtain ⟨rfl, rfl⟩ := someP h) <;> obtain ⟨c1, c2, c3⟩ := hC
    · rename_i hsome
      obtain ⟨k', rfl⟩ := Option.isSome_iff_exists.1 hsome
      have ez : k' = z := by
        have := (aggSize_ok hs e.w).2 k' rfl
        rw [run_sizeOf hz] at this; simp at this; exact this.symm
      subst ez
      obtain ⟨h1, h2⟩ := sub_agg hn hh c3
      exact ⟨_, by simp [c1, c2, run_sizeOf hz, part_some hs]<;> rfl, .v (.g _ _ h1 (one_of h1 h2) (fun j x y hx hy => (h2 j x y hx hy).1))⟩
    · rename_i hnone
      obtain rfl : s = none := by cases s <;> simp_all
      obtain ⟨y, hy⟩ := array_get hn c3
      exact ⟨y, by simp [c1, c2, run_sizeOf hz, part_none hs hy], .v (hh _ _ _ (list_get c3 _) hy).1⟩
  · rename_i cs k n
    obtain ⟨vs, rfl, hn, hh⟩ := hx.aggr
    obtain rfl := hi.int
    unfold Tells
    simp only [Instr.index, asIntOf, Sem.run_bind, Sem.run_pure, run_underlying hu, Result.andThen_ok]
    split at h <;> (obtain ⟨rfl, rfl⟩ := someP h) <;> obtain ⟨c1, c2, c3⟩ := hC
    · rename_i hsome
      obtain ⟨k', rfl⟩ := Option.isSome_iff_exists.1 hsome
      have ez : k' = z := by
        have := (aggSize_ok hs e.w).2 k' rfl
        rw [run_sizeOf hz] at this; simp at this; exact this.symm
      subst ez
      obtain ⟨h1, h2⟩ := sub_aggr hn hh c3
      exact ⟨_, by simp [c1, c2, run_sizeOf hz, part_some hs]<;> rfl, .gr h1 (one_of h1 h2) (fun j x y hx hy => (h2 j x y hx hy).1)⟩
    · rename_i hnone
      obtain rfl : s = none := by cases s <;> simp_all
      obtain ⟨y, hy⟩ := array_get hn c3
      exact ⟨y, by simp [c1, c2, run_sizeOf hz, part_none hs hy], (hh _ _ _ (list_get c3 _) hy).1⟩
  · cases h

theorem sidx_ok {P : Program} {e : Env} {t : TypeId} {x i : RV} {a b : Value} {C : Prop} {r : RV} (hu : P.underlying t = some .string) (hx : VR e x a) (hi : VR e i b) (h : evSidx x i = some (C, r)) (hC : C) : Tells P e (Instr.index t a b) r := by
  unfold evSidx at h
  split at h
  · rename_i l k n
    obtain ⟨s, rfl, rfl⟩ := hx.str
    obtain rfl := hi.int
    obtain ⟨rfl, rfl⟩ := someP h
    obtain ⟨c1, c2⟩ := hC
    have c3 : n.toNat < s.size := by rw [bsize] at c2; omega
    unfold Tells
    simp only [Instr.index, asIntOf, Sem.run_bind, Sem.run_pure, run_underlying hu, Result.andThen_ok]
    have e1 : s[n.toNat]? = some s[n.toNat] := by simp [c3]
    have e2 : (s.data.toList[n.toNat]?.getD 0) = s[n.toNat] := by
      have : n.toNat < s.data.toList.length := by rw [bsize]; exact c3
      rw [List.getElem?_eq_getElem this]; simp; rfl
    refine ⟨_, by simp [c1, e1]<;> rfl, ?_⟩
    rw [← e2]
    exact .v (.i _ _)
  · cases h

theorem ext_ok {P : Program} {e : Env} {n : Nat} {x : RV} {a : Value} {C : Prop} {r : RV} (hx : VR e x a) (h : evExt n x = some (C, r)) (hC : C) : Tells P e (Instr.extract a n) r := by
  unfold evExt at h
  split at h <;> first | (obtain ⟨rfl, rfl⟩ := someP h) | cases h
  · obtain ⟨vs, rfl, hn, hh⟩ := hx.tupl
    obtain ⟨y, hy⟩ := array_get hn hC
    exact ⟨y, by simp [Instr.extract, hy], .v (hh _ _ _ (list_get hC _) hy)⟩
  · obtain ⟨vs, rfl, hn, hh⟩ := hx.tuplr
    obtain ⟨y, hy⟩ := array_get hn hC
    exact ⟨y, by simp [Instr.extract, hy], hh _ _ _ (list_get hC _) hy⟩

theorem VR.pim {e : Env} {cs : List AV} {c : Value} (h : VR e (.v (.pim cs)) c) : ∃ (b off : Nat) (f : Nat → Value), c = .pointer (some ⟨b, off, none⟩) ∧ e.Im b ∧ (∀ (j : Nat) x, cs[j]? = some x → e.w.cell? ⟨b, off + j, none⟩ = some (f j) ∧ (f j).oneCell' = true) ∧ (∀ (j : Nat) x, cs[j]? = some x → VI e.w e.Im x (f j)) := by
  cases h with | v h => cases h with | pim _ b off f hb hc h => exact ⟨b, off, f, rfl, hb, hc, h⟩

theorem VR.ptr {e : Env} (g : Good e) {o ver r off : Nat} {c : Value} (h : VR e (.pt o ver r off) c) :
    (∀ cs, e.H[o]? = some (.var cs) → ver = 0 ∧ ∃ l, e.ρ[o]? = some (some l) ∧ c = .pointer (some ⟨l.blk, l.off + off, none⟩)) ∧
    (∀ z rows, e.H[o]? = some (.arr ver z rows) → ∃ l, e.ρ[o]? = some (some l) ∧ c = .pointer (some ⟨l.blk, l.off + r * z + off, none⟩)) := by
  cases h with
  | pt ob lo h1 h2 h _ =>
    refine ⟨fun cs hc => ?_, fun z rows hc => ?_⟩
    · rw [h1] at hc; cases hc
      obtain ⟨rfl, l, rfl, rfl⟩ := h
      exact ⟨rfl, l, h2, rfl⟩
    · rw [h1] at hc; cases hc
      obtain ⟨_, h⟩ := h
      obtain ⟨l, rfl, rfl⟩ := h rfl
      exact ⟨l, h2, rfl⟩

theorem nck_ok {P : Program} {e : Env} (g : Good e) {x : RV} {a : Value} {C : Prop} {r : RV} {o : Oper} {ρ : Operand → Value} {ox : Operand} (ho : o.op = .nilCheck ox) (ha : ρ ox = a) (hx : VR e x a) (h : evNck e.H x = some (C, r)) (hC : C) :
    ∃ c, (execOp ρ o).run P e.w = .ok (.value c) e.w ∧ VR e r c := by
  unfold evNck at h
  split at h
  · obtain ⟨rfl, rfl⟩ := someP h
    obtain ⟨b, off, f, rfl, h1, h2, h3⟩ := hx.pim
    exact ⟨_, by simp [execOp, ho, ha]<;> rfl, hx⟩
  · obtain ⟨rfl, rfl⟩ := someP h
    refine ⟨a, ?_, hx⟩
    cases hx with | v h => cases h with | fn f cs vs hn h => simp [execOp, ho, ha]
  · obtain ⟨rfl, rfl⟩ := someP h
    refine ⟨a, ?_, hx⟩
    cases hx with | fr hn h => simp [execOp, ho, ha]
  · obtain ⟨rfl, rfl⟩ := someP h
    refine ⟨a, ?_, hx⟩
    cases hx with | bf hn h => simp [execOp, ho, ha]
  · rename_i o' ver r' off
    obtain ⟨p1, p2⟩ := hx.ptr g
    split at h <;> first | (obtain ⟨rfl, rfl⟩ := someP h) | cases h
    · rename_i cs hcs
      obtain ⟨rfl, l, hl, rfl⟩ := p1 _ hcs
      exact ⟨_, by simp [execOp, ho, ha]<;> rfl, hx⟩
    · rename_i v z rows hcs
      subst hC
      obtain ⟨l, hl, rfl⟩ := p2 _ _ hcs
      exact ⟨_, by simp [execOp, ho, ha]<;> rfl, hx⟩
  · cases h

theorem mapM_toV {xs : List RV} {cs : List AV} (h : xs.mapM toV = some cs) : xs = cs.map .v := by
  induction xs generalizing cs with
  | nil => simp at h; subst h; rfl
  | cons x xs ih =>
    simp only [List.mapM_cons, Option.bind_eq_bind, Option.bind_eq_some_iff] at h
    obtain ⟨b, hb, m', hm, e⟩ := h
    simp at e; subst e
    rw [ih hm]
    cases x <;> simp [toV] at hb
    subst hb; rfl

theorem vr_v {e : Env} {x : AV} {c : Value} (h : VR e (.v x) c) : VI e.w e.Im x c := by cases h with | v h => exact h

theorem mkf_ok {P : Program} {e : Env} {f : Nat} {xs : List RV} {vs : Array Value} {C : Prop} {r : RV} (hn : vs.size = xs.length) (hv : ∀ (j : Nat) x y, xs[j]? = some x → vs[j]? = some y → VR e x y) (h : evMkf f xs = some (C, r)) :
    VR e r (.func (.func f) #[] vs) := by
  unfold evMkf at h
  split at h <;> first | (obtain ⟨rfl, rfl⟩ := someP h) | cases h
  · rename_i cs hcs
    have := mapM_toV hcs
    subst this
    exact .v (.fn _ _ _ (by simpa using hn) (fun j x y hx hy => vr_v (hv j (.v x) y (by simp [hx]) hy)))
  · exact .fr hn hv

theorem add_none (b o n : Nat) : Addr.add ⟨b, o, none⟩ n = ⟨b, o + n, none⟩ := Addr.add_lit b o n

theorem pim_drop {e : Env} {cs : List AV} {b off n : Nat} {f : Nat → Value} (hb : e.Im b) (h2 : ∀ (j : Nat) x, cs[j]? = some x → e.w.cell? ⟨b, off + j, none⟩ = some (f j) ∧ (f j).oneCell' = true) (h3 : ∀ (j : Nat) x, cs[j]? = some x → VI e.w e.Im x (f j)) :
    VR e (.v (.pim (cs.drop n))) (.pointer (some ⟨b, off + n, none⟩)) :=
  .v (.pim _ _ _ (fun j => f (n + j)) hb (fun j x hx => by rw [List.getElem?_drop] at hx; rw [Nat.add_assoc]; exact h2 _ _ hx) (fun j x hx => by rw [List.getElem?_drop] at hx; exact h3 _ _ hx))

theorem pt_add {e : Env} (g : Good e) {o ver r off n : Nat} {l : Loc} (hl : e.ρ[o]? = some (some l)) : (∀ cs, e.H[o]? = some (.var cs) → VR e (.pt o 0 r (off + n)) (.pointer (some ⟨l.blk, l.off + off + n, none⟩))) ∧
    (∀ z rows, e.H[o]? = some (.arr ver z rows) → VR e (.pt o ver r (off + n)) (.pointer (some ⟨l.blk, l.off + r * z + off + n, none⟩))) :=
  ⟨fun cs hc => .pt _ _ hc hl ⟨rfl, l, rfl, by simp [Nat.add_assoc]⟩ rfl, fun z rows hc => .pt _ _ hc hl ⟨Nat.le_refl _, fun _ => ⟨l, rfl, by simp [Nat.add_assoc]⟩⟩ rfl⟩

theorem fa_ok {P : Program} {e : Env} (g : Good e) {t : TypeId} {f : Nat} {fs : Array Field} {fd : Field} {z : Nat} {x : RV} {a : Value} {C : Prop} {r : RV} (hu : P.underlying t = some (.struct fs)) (hf : fs[f]? = some fd)
    (hz : tSize P fd.type = some z) (hz0 : z ≠ 0) (hx : VR e x a) (h : evFa fd.offset x e.H = some (C, r)) (hC : C) : Tells P e (Instr.fieldAt t a f) r := by
  unfold Tells
  simp only [Instr.fieldAt, Sem.run_bind, run_underlying hu, Result.andThen_ok, hf]
  unfold evFa at h
  split at h
  · obtain ⟨rfl, rfl⟩ := someP h
    obtain ⟨b, off, f', rfl, h1, h2, h3⟩ := hx.pim
    exact ⟨_, by simp [Instr.sureAddr, fieldPlace, run_sizeOf hz, hz0, add_none]<;> rfl, pim_drop h1 h2 h3⟩
  · rename_i o' ver r' off
    obtain ⟨p1, p2⟩ := hx.ptr g
    split at h <;> first | (obtain ⟨rfl, rfl⟩ := someP h) | cases h
    · rename_i cs hcs
      obtain ⟨rfl, l, hl, rfl⟩ := p1 _ hcs
      exact ⟨_, by simp [Instr.sureAddr, fieldPlace, run_sizeOf hz, hz0, add_none]<;> rfl, (pt_add (ver := 0) g hl).1 _ hcs⟩
    · rename_i v z' rows hcs
      subst hC
      obtain ⟨l, hl, rfl⟩ := p2 _ _ hcs
      exact ⟨_, by simp [Instr.sureAddr, fieldPlace, run_sizeOf hz, hz0, add_none]<;> rfl, (pt_add g hl).2 _ _ hcs⟩
  · cases h

theorem iaa_ok {P : Program} {e : Env} (g : Good e) {t el : TypeId} {len z : Nat} {x i : RV} {a b : Value} {C : Prop} {r : RV} (hu : P.underlying t = some (.array len el)) (hz : tSize P el = some z)
    (hx : VR e x a) (hi : VR e i b) (h : evIaa len z x i e.H = some (C, r)) (hC : C) : Tells P e (Instr.indexAt t a b) r := by
  unfold Tells
  unfold evIaa at h
  split at h
  · obtain ⟨rfl, rfl⟩ := someP h
    obtain ⟨b, off, f', rfl, h1, h2, h3⟩ := hx.pim
    obtain rfl := hi.int
    obtain ⟨c1, c2⟩ := hC
    exact ⟨_, by simp [Instr.indexAt, asIntOf, run_underlying hu, Instr.sureAddr, run_sizeOf hz, c1, c2, add_none]<;> rfl, pim_drop h1 h2 h3⟩
  · rename_i o' ver r' off k n
    obtain ⟨p1, p2⟩ := hx.ptr g
    obtain rfl := hi.int
    split at h <;> first | (obtain ⟨rfl, rfl⟩ := someP h) | cases h
    · rename_i cs hcs
      obtain ⟨c1, c2⟩ := hC
      obtain ⟨rfl, l, hl, rfl⟩ := p1 _ hcs
      exact ⟨_, by simp [Instr.indexAt, asIntOf, run_underlying hu, Instr.sureAddr, run_sizeOf hz, c1, c2, add_none]<;> rfl, (pt_add (ver := 0) g hl).1 _ hcs⟩
    · rename_i v z' rows hcs
      obtain ⟨rfl, c1, c2⟩ := hC
      obtain ⟨l, hl, rfl⟩ := p2 _ _ hcs
      exact ⟨_, by simp [Instr.indexAt, asIntOf, run_underlying hu, Instr.sureAddr, run_sizeOf hz, c1, c2, add_none]<;> rfl, (pt_add g hl).2 _ _ hcs⟩
  · cases h

theorem VR.slice {e : Env} (g : Good e) {o ver z : Nat} {rows : List (List RV)} {c : Value} (h : VR e (.os o ver) c) (ho : e.H[o]? = some (.arr ver z rows)) :
    ∃ lo, e.ρ[o]? = some lo ∧ ArrV lo rows.length c := by
  cases h with
  | os ob lo h1 h2 h _ => rw [h1] at ho; cases ho; exact ⟨lo, h2, h.2 rfl⟩

theorem VR.subv {e : Env} (g : Good e) {o ver lo n z : Nat} {rows : List (List RV)} {c : Value} (h : VR e (.sub o ver lo n) c) (ho : e.H[o]? = some (.arr ver z rows)) :
    ∃ lc, e.ρ[o]? = some lc ∧ lo + n ≤ rows.length ∧ SubV lc z lo n c := by
  cases h with
  | sub ob lc h1 h2 h _ => rw [h1] at ho; cases ho; exact ⟨lc, h2, h.2 rfl⟩

theorem ias_ok {P : Program} {e : Env} (g : Good e) {t el : TypeId} {z : Nat} {x i : RV} {a b : Value} {C : Prop} {r : RV} (hu : P.underlying t = some (.slice el)) (hz : tSize P el = some z)
    (hx : VR e x a) (hi : VR e i b) (h : evIas z x i e.H = some (C, r)) (hC : C) : Tells P e (Instr.indexAt t a b) r := by
  unfold Tells
  unfold evIas at h
  split at h
  · rename_i z' rows k n
    obtain ⟨rfl, rfl⟩ := someP h
    obtain ⟨rfl, c1, c2⟩ := hC
    obtain rfl := hi.int
    cases vr_v hx with
    | sl _ _ b off cap f hb hsz hcap hc hh =>
      have hlt : n.toNat < rows.length := by omega
      have hr := list_get hlt []
      refine ⟨_, by simp [Instr.indexAt, asIntOf, run_underlying hu, run_sizeOf hz, c1, c2, add_none]<;> rfl, ?_⟩
      exact .v (.pim _ _ _ (f n.toNat) hb (fun j x hx => hc _ _ _ _ hr hx) (fun j x hx => hh _ _ _ _ hr hx))
    | sle => simp at c2; omega
  · rename_i o ver k n
    split at h
    · rename_i v z' rows ho
      obtain ⟨rfl, rfl⟩ := someP h
      obtain ⟨rfl, rfl, c1, c2⟩ := hC
      obtain rfl := hi.int
      obtain ⟨lo, hlo, hv⟩ := hx.slice g ho
      cases lo with
      | none => obtain ⟨h0, _⟩ := hv; exfalso; omega
      | some l =>
        obtain rfl := hv
        refine ⟨_, by simp [Instr.indexAt, asIntOf, run_underlying hu, run_sizeOf hz, c1, c2, add_none]<;> rfl, ?_⟩
        exact .pt _ _ ho hlo ⟨Nat.le_refl _, fun _ => ⟨l, rfl, by simp⟩⟩ rfl
    · cases h
  · rename_i o ver lo' k kk n
    split at h
    · rename_i v z' rows ho
      obtain ⟨rfl, rfl⟩ := someP h
      obtain ⟨rfl, rfl, c1, c2⟩ := hC
      obtain rfl := hi.int
      obtain ⟨lc, hlo, hle, hv⟩ := hx.subv g ho
      cases lc with
      | none => obtain ⟨h0, _⟩ := hv; exfalso; omega
      | some l =>
        obtain ⟨_, v2, _⟩ := hv
        obtain ⟨cap, _, rfl⟩ := v2 (by omega)
        refine ⟨_, by simp [Instr.indexAt, asIntOf, run_underlying hu, run_sizeOf hz, c1, c2, add_none]<;> rfl, ?_⟩
        exact .pt _ _ ho hlo ⟨Nat.le_refl _, fun _ => ⟨l, rfl, by rw [Nat.add_mul]; simp [Nat.add_assoc]⟩⟩ rfl
    · cases h
  · cases h

theorem len_ok {P : Program} {e : Env} (g : Good e) {t ty : TypeId} {d : TypeDesc} {x : RV} {a : Value} {C : Prop} {r : RV} (hu : P.underlying t = some d)
    (hx : VR e x a) (h : evLen x e.H (isStr d) = some (C, r)) (hC : C) (hd : d = .string ∨ ∃ el, d = .slice el) : Tells P e (Builtin.len_ #[t] ty #[a]) r := by
  unfold Tells
  unfold evLen at h
  rcases hd with rfl | ⟨el, rfl⟩
  · simp only [isStr, if_true] at h
    unfold evLenS at h
    split at h
    · rename_i l
      obtain ⟨rfl, rfl⟩ := someP h
      obtain ⟨s, rfl, rfl⟩ := hx.str
      refine ⟨_, by simp [Builtin.len_, run_underlying hu, goInt]<;> rfl, ?_⟩
      rw [bsize]; exact .v (.i _ _)
    · cases h
  · simp only [isStr, Bool.false_eq_true, if_false] at h
    unfold evLenL at h
    split at h
    · rename_i z rows
      obtain ⟨rfl, rfl⟩ := someP h
      cases vr_v hx with
      | sl _ _ b off cap f hb hsz hcap hc hh => exact ⟨_, by simp [Builtin.len_, run_underlying hu, goInt]<;> rfl, .v (.i _ _)⟩
      | sle => exact ⟨_, by simp [Builtin.len_, run_underlying hu, goInt]<;> rfl, .v (.i _ _)⟩
    · obtain ⟨rfl, rfl⟩ := someP h
      cases vr_v hx with
      | nil => exact ⟨_, by simp [Builtin.len_, run_underlying hu, goInt]<;> rfl, .v (.i _ _)⟩
    · rename_i o ver
      split at h
      · rename_i v z rows ho
        obtain ⟨rfl, rfl⟩ := someP h
        subst hC
        obtain ⟨lo, hlo, hv⟩ := hx.slice g ho
        cases lo with
        | none =>
          obtain ⟨h0, p, rfl⟩ := hv
          refine ⟨_, by simp [Builtin.len_, run_underlying hu, goInt]<;> rfl, ?_⟩
          rw [h0]; exact .v (.i _ _)
        | some l =>
          obtain rfl := hv
          exact ⟨_, by simp [Builtin.len_, run_underlying hu, goInt]<;> rfl, .v (.i _ _)⟩
      · cases h
    · rename_i o ver lo' n
      split at h
      · rename_i v z rows ho
        obtain ⟨rfl, rfl⟩ := someP h
        subst hC
        obtain ⟨lc, hlo, hle, hv⟩ := hx.subv g ho
        cases lc with
        | none =>
          obtain ⟨rfl, p, rfl⟩ := hv
          exact ⟨_, by simp [Builtin.len_, run_underlying hu, goInt]<;> rfl, .v (.i _ _)⟩
        | some l =>
          obtain ⟨_, _, p, cap, rfl⟩ := hv
          exact ⟨_, by simp [Builtin.len_, run_underlying hu, goInt]<;> rfl, .v (.i _ _)⟩
      · cases h
    · cases h

theorem bnd_int {e : Env} {d : Nat} {x : RV} {n : Int} {c : Value} (hx : VR e x c) (h : bnd d (some x) = some n) : ∃ k, c = .int k n := by
  unfold bnd at h
  split at h
  · rename_i h1; cases h1
  · rename_i k m h1; cases h1; cases h; exact ⟨k, hx.int⟩
  · cases h

theorem vi_part {w : World} {Im : Nat → Prop} {z : Nat} {rows : List (List AV)} {b off cap : Nat} {f : Nat → Nat → Value} (hb : Im b) (hsz : ∀ row ∈ rows, row.length = z) (hcap : rows.length ≤ cap)
    (hc : ∀ (r : Nat) row (j : Nat) x, rows[r]? = some row → row[j]? = some x → w.cell? ⟨b, off + r * z + j, none⟩ = some (f r j) ∧ (f r j).oneCell' = true) (hh : ∀ (r : Nat) row (j : Nat) x, rows[r]? = some row → row[j]? = some x → VI w Im x (f r j))
    (l h : Nat) (hl : l ≤ h) (hr : h ≤ rows.length) :
    VI w Im (.sl z ((rows.take h).drop l)) (.slice (some (if cap = l then ⟨b, off, none⟩ else ⟨b, off + l * z, none⟩)) (h - l) (cap - l)) := by
  have e1 : ((rows.take h).drop l).length = h - l := by simp; omega
  by_cases hcl : cap = l
  · have : (rows.take h).drop l = [] := by apply List.eq_nil_of_length_eq_zero; omega
    rw [this]
    have e2 : h - l = 0 := by omega
    rw [e2]; exact .sle _ _ _
  · rw [if_neg hcl, ← e1]
    have hg : ∀ (r : Nat) row, ((rows.take h).drop l)[r]? = some row → rows[l + r]? = some row := fun r row hr' => by
      rw [List.getElem?_drop, List.getElem?_take] at hr'
      split at hr'
      · exact hr'
      · cases hr'
    refine .sl z _ b (off + l * z) (cap - l) (fun r j => f (l + r) j) hb (fun row hm => hsz row (List.mem_of_mem_take (List.mem_of_mem_drop hm))) (by omega) (fun r row j x h1 h2 => ?_) (fun r row j x h1 h2 => hh _ _ _ _ (hg r row h1) h2)
    obtain ⟨this, ho⟩ := hc _ _ _ _ (hg r row h1) h2
    rw [Nat.add_mul] at this
    refine ⟨?_, ho⟩
    rw [← this]
    congr 2
    omega

theorem bounds_run {P : Program} {e : Env} {lo hi : Option RV} {l h : Option Value} (hlo : match lo, l with | none, none => True | some x, some c => VR e x c | _, _ => False) (hhi : match hi, h with | none, none => True | some x, some c => VR e x c | _, _ => False)
    {len : Nat} {nl nh : Int} (hnl : bnd 0 lo = some nl) (hnh : bnd len hi = some nh) (c1 : 0 ≤ nl) (c2 : nl ≤ nh) (c3 : nh ≤ len) (cap : Nat) (hcap : len ≤ cap) : (Instr.sliceBounds true len cap l h none).run P e.w = .ok (nl.toNat, nh.toNat, cap) e.w := by
  have bl : ∀ (y : Nat) (code : BoundsCode), nl ≤ y → ∀ v, l = some v → (Instr.sliceBound v y code).run P e.w = .ok nl.toNat e.w := by
    intro y code hy v hv
    subst hv
    cases lo with
    | none => exact hlo.elim
    | some xl => obtain ⟨k, rfl⟩ := bnd_int hlo hnl; exact run_sliceBound e.w k nl y code c1 hy
  have bh : ∀ (y : Nat) (code : BoundsCode), nh ≤ y → ∀ v, h = some v → (Instr.sliceBound v y code).run P e.w = .ok nh.toNat e.w := by
    intro y code hy v hv
    subst hv
    cases hi with
    | none => exact hhi.elim
    | some xl => obtain ⟨k, rfl⟩ := bnd_int hhi hnh; exact run_sliceBound e.w k nh y code (by omega) hy
  have n0 : l = none → nl = 0 := fun hl => by
    subst hl
    cases lo with
    | none => simpa [bnd] using hnl.symm
    | some _ => exact hlo.elim
  have nn : h = none → nh = len := fun hh => by
    subst hh
    cases hi with
    | none => simpa [bnd] using hnh.symm
    | some _ => exact hhi.elim
  unfold Instr.sliceBounds
  cases h with
  | none =>
    cases l with
    | none => simp [n0 rfl, nn rfl]
    | some v => simp [nn rfl, bl len .sliceB (by omega) v rfl]
  | some v' =>
    cases l with
    | none => simp [n0 rfl, bh cap .sliceAcap (by omega) v' rfl]
    | some v => simp [bh cap .sliceAcap (by omega) v' rfl, bl nh.toNat .sliceB (by omega) v rfl]

theorem sls_ok {P : Program} {e : Env} (g : Good e) {t el : TypeId} {z : Nat} {x : RV} {lo hi : Option RV} {a : Value} {l h : Option Value} {C : Prop} {r : RV} (hu : P.underlying t = some (.slice el)) (hz : tSize P el = some z)
    (hx : VR e x a) (hlo : match lo, l with | none, none => True | some x, some c => VR e x c | _, _ => False) (hhi : match hi, h with | none, none => True | some x, some c => VR e x c | _, _ => False)
    (hev : evSls z x lo hi e.H = some (C, r)) (hC : C) : Tells P e (Instr.sliceAt t a l h none) r := by
  have part : ∀ (ad : Option Addr) (len cap : Nat) (nl nh : Int), bnd 0 lo = some nl → bnd len hi = some nh → 0 ≤ nl → nl ≤ nh → nh ≤ len → len ≤ cap → a = .slice ad len cap → VR e r (.slice (if cap = nl.toNat then ad else ad.map (·.add (nl.toNat * z))) (nh.toNat - nl.toNat) (cap - nl.toNat)) → Tells P e (Instr.sliceAt t a l h none) r := by
    intro ad len cap nl nh h1 h2 h3 h4 h5 h6 h7 h8
    subst h7
    refine ⟨_, ?_, h8⟩
    simp only [Instr.sliceAt, Instr.slice, Sem.run_bind, run_underlying hu, Result.andThen_ok, bounds_run hlo hhi h1 h2 h3 h4 h5 cap h6, run_sizeOf hz, Sem.run_pure]
  unfold evSls at hev
  split at hev
  · rename_i o ver
    split at hev
    · rename_i v z' rows ho
      simp only [Option.bind_eq_some_iff, Option.map_eq_some_iff] at hev
      obtain ⟨nl, hnl, nh, hnh, he⟩ := hev
      cases he
      obtain ⟨rfl, rfl, c1, c2, c3⟩ := hC
      obtain ⟨lc, hlo', hv⟩ := hx.slice g ho
      obtain ⟨hsz, hobj⟩ := g.obj _ _ _ ho hlo'
      cases lc with
      | none =>
        obtain ⟨h0, p, rfl⟩ := hv
        refine part p 0 0 nl nh hnl (by rw [← h0]; exact hnh) c1 c2 (by omega) (Nat.le_refl _) rfl ?_
        have e1 : nl.toNat = 0 := by omega
        have e2 : nh.toNat = 0 := by omega
        rw [e1, e2]
        exact .sub _ _ ho hlo' ⟨Nat.le_refl _, fun _ => ⟨by omega, rfl, p, by simp⟩⟩ rfl
      | some l' =>
        obtain rfl := hv
        obtain ⟨hcap, _, _⟩ := hobj
        refine part _ _ _ nl nh hnl hnh c1 c2 c3 hcap rfl ?_
        refine .sub _ _ ho hlo' ⟨Nat.le_refl _, fun _ => ⟨by omega, fun h0 => ?_, fun hn => ?_, _, _, rfl⟩⟩ rfl
        · rw [h0]; by_cases hc : l'.cap = 0 <;> simp [hc, add_none]
        · refine ⟨l'.cap - nl.toNat, by omega, ?_⟩
          rw [if_neg (by omega)]
          simp [add_none]
    · cases hev
  · rename_i o ver a' k
    split at hev
    · rename_i v z' rows ho
      simp only [Option.bind_eq_some_iff, Option.map_eq_some_iff] at hev
      obtain ⟨nl, hnl, nh, hnh, he⟩ := hev
      cases he
      obtain ⟨rfl, rfl, c1, c2, c3⟩ := hC
      obtain ⟨lc, hlo', hle, hv⟩ := hx.subv g ho
      obtain ⟨hsz, hobj⟩ := g.obj _ _ _ ho hlo'
      cases lc with
      | none =>
        obtain ⟨rfl, p, rfl⟩ := hv
        refine part p 0 0 nl nh hnl hnh c1 c2 (by omega) (Nat.le_refl _) rfl ?_
        have e1 : nl.toNat = 0 := by omega
        have e2 : nh.toNat = 0 := by omega
        rw [e1, e2]
        exact .sub _ _ ho hlo' ⟨Nat.le_refl _, fun _ => ⟨by omega, rfl, p, by simp⟩⟩ rfl
      | some l' =>
        obtain ⟨hcap, _, _⟩ := hobj
        obtain ⟨v1, v2, p, cap, rfl⟩ := hv
        have hkc : k ≤ cap := by
          by_cases hk : k = 0
          · omega
          · obtain ⟨cap', h1, h2⟩ := v2 (by omega)
            cases h2; exact h1
        refine part _ _ _ nl nh hnl hnh c1 c2 c3 hkc rfl ?_
        refine .sub _ _ ho hlo' ⟨Nat.le_refl _, fun _ => ⟨by omega, fun h0 => ?_, fun hn => ?_, _, _, rfl⟩⟩ rfl
        · have e1 : a' = 0 := by omega
          have e2 : nl.toNat = 0 := by omega
          have := v1 e1
          cases this
          rw [e2]; by_cases hc : l'.cap = 0 <;> simp [hc, add_none]
        · have q0 : 0 < k := by omega
          have q1 : nh.toNat - nl.toNat ≤ cap - nl.toNat := by omega
          have q2 : ¬ cap = nl.toNat := by omega
          obtain ⟨cap', _, h2⟩ := v2 q0
          cases h2
          refine ⟨cap - nl.toNat, q1, ?_⟩
          rw [if_neg q2]
          simp [add_none, Nat.add_mul, Nat.add_assoc]
    · cases hev
  · rename_i z' rows
    simp only [Option.bind_eq_some_iff, Option.map_eq_some_iff] at hev
    obtain ⟨nl, hnl, nh, hnh, he⟩ := hev
    cases he
    obtain ⟨rfl, c1, c2, c3⟩ := hC
    cases vr_v hx with
    | sl _ _ b off cap f hb hsz hcap hc hh =>
      have := vi_part (w := e.w) hb hsz hcap hc hh nl.toNat nh.toNat (by omega) (by omega)
      refine part _ _ _ nl nh hnl hnh c1 c2 c3 hcap rfl (.v ?_)
      by_cases hcl : cap = nl.toNat
      · simp [hcl] at this ⊢; exact this
      · simp [hcl, add_none] at this ⊢; exact this
    | sle _ p cap =>
      have h0 : nl.toNat = 0 := by simp at c3; omega
      have h1 : nh.toNat = 0 := by simp at c3; omega
      have el : List.drop nl.toNat (List.take nh.toNat ([] : List (List AV))) = [] := by simp
      refine part _ _ _ nl nh hnl hnh c1 c2 c3 (Nat.zero_le _) rfl ?_
      rw [el, h0, h1]
      exact .v (.sle _ _ _)
  · cases hev

theorem bounds_runA {P : Program} {e : Env} {lo hi : Option RV} {l h : Option Value} (hlo : match lo, l with | none, none => True | some x, some c => VR e x c | _, _ => False) (hhi : match hi, h with | none, none => True | some x, some c => VR e x c | _, _ => False)
    {len : Nat} {nl nh : Int} (hnl : bnd 0 lo = some nl) (hnh : bnd len hi = some nh) (c1 : 0 ≤ nl) (c2 : nl ≤ nh) (c3 : nh ≤ len)   : (Instr.sliceBounds false len len l h none).run P e.w = .ok (nl.toNat, nh.toNat, len) e.w := by
  have bl : ∀ (y : Nat) (code : BoundsCode), nl ≤ y → ∀ v, l = some v → (Instr.sliceBound v y code).run P e.w = .ok nl.toNat e.w := by
    intro y code hy v hv
    subst hv
    cases lo with
    | none => exact hlo.elim
    | some xl => obtain ⟨k, rfl⟩ := bnd_int hlo hnl; exact run_sliceBound e.w k nl y code c1 hy
  have bh : ∀ (y : Nat) (code : BoundsCode), nh ≤ y → ∀ v, h = some v → (Instr.sliceBound v y code).run P e.w = .ok nh.toNat e.w := by
    intro y code hy v hv
    subst hv
    cases hi with
    | none => exact hhi.elim
    | some xl => obtain ⟨k, rfl⟩ := bnd_int hhi hnh; exact run_sliceBound e.w k nh y code (by omega) hy
  have n0 : l = none → nl = 0 := fun hl => by
    subst hl
    cases lo with
    | none => simpa [bnd] using hnl.symm
    | some _ => exact hlo.elim
  have nn : h = none → nh = len := fun hh => by
    subst hh
    cases hi with
    | none => simpa [bnd] using hnh.symm
    | some _ => exact hhi.elim
  unfold Instr.sliceBounds
  cases h with
  | none =>
    cases l with
    | none => simp [n0 rfl, nn rfl]
    | some v => simp [nn rfl, bl len .sliceB (by omega) v rfl]
  | some v' =>
    cases l with
    | none => simp [n0 rfl, bh len .sliceAlen (by omega) v' rfl]
    | some v => simp [bh len .sliceAlen (by omega) v' rfl, bl nh.toNat .sliceB (by omega) v rfl]

theorem rowsOf_length (sz : Nat) : ∀ (n : Nat) (cs : List AV), (rowsOf sz n cs).length = n
  | 0, _ => rfl
  | n + 1, cs => by rw [rowsOf, List.length_cons, rowsOf_length sz n]
theorem rowsOf_get (sz : Nat) : ∀ (n : Nat) (cs : List AV) (r : Nat), r < n → (rowsOf sz n cs)[r]? = some ((cs.drop (r * sz)).take sz)
  | n + 1, cs, 0, _ => by simp [rowsOf]
  | n + 1, cs, r + 1, h => by
    rw [rowsOf, List.getElem?_cons_succ, rowsOf_get sz n (cs.drop sz) r (by omega), List.drop_drop]
    rw [show sz + r * sz = (r + 1) * sz by rw [Nat.add_mul]; omega]
theorem slp_ok {P : Program} {e : Env} (g : Good e) {t el : TypeId} {n z : Nat} {x : RV} {lo hi : Option RV} {a : Value} {l h : Option Value} {C : Prop} {r : RV} (hu : P.underlying t = some (.array n el)) (hz : tSize P el = some z)
    (hx : VR e x a) (hlo : match lo, l with | none, none => True | some x, some c => VR e x c | _, _ => False) (hhi : match hi, h with | none, none => True | some x, some c => VR e x c | _, _ => False)
    (hev : evSlp n z x lo hi = some (C, r)) (hC : C) : Tells P e (Instr.sliceAt t a l h none) r := by
  unfold evSlp at hev
  split at hev
  rotate_left
  · cases hev
  rename_i cs
  simp only [Option.bind_eq_some_iff, Option.map_eq_some_iff] at hev
  obtain ⟨nl, hnl, nh, hnh, he⟩ := hev
  cases he
  obtain ⟨c0, c1, c2, c3⟩ := hC
  obtain ⟨b, off, f, rfl, h1, h2, h3⟩ := hx.pim
  have hrl := rowsOf_length z n cs
  have hge : ∀ (r : Nat) row, (rowsOf z n cs)[r]? = some row → r < n ∧ row = (cs.drop (r * z)).take z := fun r row hr => by
    have hrn : r < n := by have := (List.getElem?_eq_some_iff.1 hr).1; omega
    rw [rowsOf_get z n cs r hrn] at hr
    cases hr; exact ⟨hrn, rfl⟩
  have hrz : ∀ r, r < n → r * z + z ≤ cs.length := fun r hr => by
    have : (r + 1) * z ≤ n * z := Nat.mul_le_mul_right z hr
    rw [Nat.add_mul] at this
    omega
  have hcell : ∀ (r : Nat) row (j : Nat) x, (rowsOf z n cs)[r]? = some row → row[j]? = some x → cs[r * z + j]? = some x ∧ j < z := fun r row j x hr hj => by
    obtain ⟨_, rfl⟩ := hge r row hr
    rw [List.getElem?_take] at hj
    split at hj
    · rename_i hjz
      rw [List.getElem?_drop] at hj
      exact ⟨hj, hjz⟩
    · cases hj
  have hV : VI e.w e.Im (.sl z ((List.take nh.toNat (rowsOf z n cs)).drop nl.toNat)) (.slice (if n = nl.toNat then some ⟨b, off, none⟩ else some ⟨b, off + nl.toNat * z, none⟩) (nh.toNat - nl.toNat) (n - nl.toNat)) := by
    have := vi_part (w := e.w) (z := z) (rows := rowsOf z n cs) (b := b) (off := off) (cap := n) (f := fun r j => f (r * z + j)) h1 (fun row hr => by
      obtain ⟨r, hr⟩ := List.getElem?_of_mem hr
      obtain ⟨hrn, rfl⟩ := hge r row hr
      have := hrz r hrn
      rw [List.length_take, List.length_drop]; omega) (by omega) (fun r row j x hr hj => by
      have hc := hcell r row j x hr hj
      have := h2 _ _ hc.1
      rw [show off + r * z + j = off + (r * z + j) by omega]
      exact this) (fun r row j x hr hj => h3 _ _ (hcell r row j x hr hj).1) nl.toNat nh.toNat (by omega) (by omega)
    by_cases hcl : n = nl.toNat
    · simp [hcl] at this ⊢; exact this
    · simp [hcl, add_none] at this ⊢; exact this
  refine ⟨_, ?_, .v hV⟩
  simp only [Instr.sliceAt, Sem.run_bind, run_underlying hu, Result.andThen_ok, Instr.sureAddr, Sem.run_pure, bounds_runA hlo hhi hnl hnh c1 c2 c3, run_sizeOf hz]
  by_cases hcl : n = nl.toNat
  · simp [hcl]
  · simp [hcl, add_none]

theorem run_loadVar_one {P : Program} {t : TypeId} (h : aggSize P t = some none) {w : World} {p : Addr} {v : Value} (hc : w.cell? p = some v) : (loadVar t p).run P w = .ok v w := by
  have := (aggSize_ok h w).1
  simp [loadVar, this, hc]
theorem run_loadVar_agg {P : Program} {t : TypeId} {k : Nat} (h : aggSize P t = some (some k)) {w : World} {p : Addr} (f : Nat → Value) (hc : ∀ j, j < k → w.cell? (p.add j) = some (f j)) :
    (loadVar t p).run P w = .ok (.agg ((List.range k).map f).toArray) w := by
  have h1 := (aggSize_ok h w).1
  have h2 := (aggSize_ok h w).2 k rfl
  simp [loadVar, h1, h2, run_loadCells w p k f hc]

theorem range_get {f : Nat → Value} {k j : Nat} {y : Value} (h : (((List.range k).map f).toArray)[j]? = some y) : j < k ∧ y = f j := by
  simp only [List.getElem?_toArray, List.getElem?_map, Option.map_eq_some_iff] at h
  obtain ⟨a, ha, rfl⟩ := h
  obtain ⟨hlt, e⟩ := List.getElem?_eq_some_iff.1 ha
  simp at hlt e
  subst e
  exact ⟨hlt, rfl⟩

theorem aggV_ok {e : Env} {cs : List RV} {vs : Array Value} (hn : vs.size = cs.length) (h1 : ∀ (j : Nat) c, vs[j]? = some c → c.oneCell' = true) (h : ∀ (j : Nat) x y, cs[j]? = some x → vs[j]? = some y → VR e x y) : VR e (aggV cs) (.agg vs) := by
  unfold aggV
  split
  · rename_i xs hxs
    have := mapM_toV hxs
    subst this
    exact .v (.g _ _ (by simpa using hn) h1 (fun j x y hx hy => vr_v (h j (.v x) y (by simp [hx]) hy)))
  · exact .gr hn h1 h

theorem ld_ok {P : Program} {e : Env} (g : Good e) {t : TypeId} {s : Option Nat} {x : RV} {a : Value} {C : Prop} {r : RV} (hs : aggSize P t = some s) (hx : VR e x a) (h : evLd s x e.H = some (C, r)) (hC : C) :
    Tells P e (Instr.loadAt t a) r := by
  unfold Tells
  unfold evLd at h
  split at h
  · rename_i cs
    obtain ⟨b, off, f, rfl, h1, h2, h3⟩ := hx.pim
    split at h <;> (obtain ⟨rfl, rfl⟩ := someP h)
    · have hl := list_get hC AV.nil
      have hcell := (h2 _ _ hl).1
      exact ⟨f 0, by simp [Instr.loadAt, Instr.sureAddr]; exact run_loadVar_one hs hcell, .v (h3 _ _ hl)⟩
    · rename_i k
      refine ⟨.agg ((List.range k).map f).toArray, ?_, .v (.g _ _ (by simp; omega) (fun j c hc => ?_) ?_)⟩
      rotate_left
      · obtain ⟨hj, rfl⟩ := range_get hc
        exact (h2 j _ (list_get (by omega) AV.nil)).2
      rotate_left
      · simp [Instr.loadAt, Instr.sureAddr]
        refine run_loadVar_agg hs f (fun j hj => ?_)
        rw [add_none]
        exact (h2 j _ (list_get (by omega) AV.nil)).1
      · intro j x y hx hy
        obtain ⟨hj, rfl⟩ := range_get hy
        rw [List.getElem?_take] at hx
        simp [hj] at hx
        exact h3 _ _ hx
  · rename_i o ver r' off
    obtain ⟨p1, p2⟩ := hx.ptr g
    split at h
    · rename_i cs hcs
      obtain ⟨rfl, l, hl, rfl⟩ := p1 _ hcs
      have hobj := g.obj o _ _ hcs hl
      obtain ⟨l', hl', hcell⟩ := hobj
      cases hl'
      split at h <;> (obtain ⟨rfl, rfl⟩ := someP h)
      · obtain ⟨c, hc1, _, _, hc2⟩ := hcell _ _ (list_get hC RV.any)
        exact ⟨c, by simp [Instr.loadAt, Instr.sureAddr]; exact run_loadVar_one hs hc1, hc2⟩
      · rename_i k
        have hf : ∃ f : Nat → Value, ∀ j, j < k → e.w.cell? ⟨l.blk, l.off + off + j, none⟩ = some (f j) ∧ (f j).oneCell' = true ∧ VR e (cs.getD (off + j) .any) (f j) := by
          have : ∀ j, ∃ c, j < k → e.w.cell? ⟨l.blk, l.off + off + j, none⟩ = some c ∧ c.oneCell' = true ∧ VR e (cs.getD (off + j) .any) c := fun j => by
            by_cases hj : j < k
            · obtain ⟨c, hc1, _, hc3, hc2⟩ := hcell _ _ (list_get (j := off + j) (by omega) RV.any)
              exact ⟨c, fun _ => ⟨by rw [Nat.add_assoc]; exact hc1, hc3, hc2⟩⟩
            · exact ⟨undef, fun h => absurd h hj⟩
          exact ⟨fun j => (this j).choose, fun j => (this j).choose_spec⟩
        obtain ⟨f, hf⟩ := hf
        refine ⟨.agg ((List.range k).map f).toArray, ?_, aggV_ok (by simp; omega) (fun j c hc => by obtain ⟨hj, rfl⟩ := range_get hc; exact (hf j hj).2.1) ?_⟩
        · simp [Instr.loadAt, Instr.sureAddr]
          refine run_loadVar_agg hs f (fun j hj => ?_)
          rw [add_none]
          exact (hf j hj).1
        · intro j x y hx hy
          obtain ⟨hj, rfl⟩ := range_get hy
          have := (hf j hj).2.2
          rw [List.getElem?_take, if_pos hj, List.getElem?_drop] at hx
          rw [List.getD, hx] at this
          exact this
    · rename_i v z rows hcs
      split at h <;> (obtain ⟨rfl, rfl⟩ := someP h)
      · obtain ⟨rfl, c1, c2⟩ := hC
        obtain ⟨l, hl, rfl⟩ := p2 _ _ hcs
        obtain ⟨hsz, hobj⟩ := g.obj o _ _ hcs hl
        obtain ⟨_, _, hcell⟩ := hobj
        obtain ⟨c, hc1, _, hc2⟩ := hcell _ _ _ _ (list_get c1 []) (list_get c2 .any)
        exact ⟨c, by simp [Instr.loadAt, Instr.sureAddr]; exact run_loadVar_one hs hc1, hc2⟩
      · rename_i k
        obtain ⟨rfl, c1, c2⟩ := hC
        obtain ⟨l, hl, rfl⟩ := p2 _ _ hcs
        obtain ⟨hsz, hobj⟩ := g.obj o _ _ hcs hl
        obtain ⟨_, _, hcell⟩ := hobj
        have hr := list_get c1 []
        have hf : ∃ f : Nat → Value, ∀ j, j < k → e.w.cell? ⟨l.blk, l.off + r' * z + off + j, none⟩ = some (f j) ∧ (f j).oneCell' = true ∧ VR e ((rows.getD r' []).getD (off + j) .any) (f j) := by
          have : ∀ j, ∃ c, j < k → e.w.cell? ⟨l.blk, l.off + r' * z + off + j, none⟩ = some c ∧ c.oneCell' = true ∧ VR e ((rows.getD r' []).getD (off + j) .any) c := fun j => by
            by_cases hj : j < k
            · obtain ⟨c, hc1, hc3, hc2⟩ := hcell _ _ _ _ hr (list_get (j := off + j) (by omega) RV.any)
              exact ⟨c, fun _ => ⟨by rw [Nat.add_assoc (l.off + r' * z)]; exact hc1, hc3, hc2⟩⟩
            · exact ⟨undef, fun h => absurd h hj⟩
          exact ⟨fun j => (this j).choose, fun j => (this j).choose_spec⟩
        obtain ⟨f, hf⟩ := hf
        refine ⟨.agg ((List.range k).map f).toArray, ?_, aggV_ok (by simp only [List.length_take, List.length_drop, List.size_toArray, List.length_map, List.length_range]; omega) (fun j c hc => by obtain ⟨hj, rfl⟩ := range_get hc; exact (hf j hj).2.1) ?_⟩
        · simp [Instr.loadAt, Instr.sureAddr]
          refine run_loadVar_agg hs f (fun j hj => ?_)
          rw [add_none]
          exact (hf j hj).1
        · intro j x y hx hy
          obtain ⟨hj, rfl⟩ := range_get hy
          have := (hf j hj).2.2
          rw [List.getElem?_take, if_pos hj, List.getElem?_drop] at hx
          rw [List.getD, hx] at this
          exact this
    · cases h
  · cases h

end Go.Av
