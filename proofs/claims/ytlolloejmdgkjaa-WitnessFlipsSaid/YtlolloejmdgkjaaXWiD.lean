/- Chapter 27: Read, by the program. No condition. -/
import Derived.Test.YtlolloejmdgkjaaXWiC
set_option linter.constructorNameAsVariable false
namespace Go.Sc.Wi
open Go Go.RowKit Go.Av Go.Proofs Go.Sc.Oct Go.Sc Go.Sc.Cw
set_option linter.unusedSimpArgs false
set_option linter.unusedVariables false
def zeroW : Wit := ⟨0, 0, 0, 0, 0, 0, 0, 0, [], 0, 0, 0⟩
def readV (bs : List UInt8) : AV :=
  match readW bs with
  | .error x => .tup [.g zeroW.row, .i .i64 x.1, .i .i64 (x.2 : Int)]
  | .ok w => .tup [.g w.row, .i .i64 0, .i .i64 0]
theorem wk_pair {a b x y : AV} (h : Wk a b) : Wk (.tup [a, x, y]) (.tup [b, x, y]) := by
  refine .tup rfl fun j u v hu hv => ?_
  match j, hu, hv with
  | 0, hu, hv => simp at hu hv; subst hu hv; exact h
  | 1, hu, hv => simp at hu hv; subst hu hv; exact .refl _
  | 2, hu, hv => simp at hu hv; subst hu hv; exact .refl _
  | n + 3, hu, hv => simp at hu
theorem wk_none : Wk (.g [.i .u32 0, .i .i64 0, .i .i64 0, .i .i64 0, .i .i64 0, .i .i64 0, .i .i64 0, .i .i64 0, .nil, .i .i64 0, .i .i64 0, .i .i64 0]) (.g zeroW.row) := by
  refine .g rfl fun j u v hu hv => ?_
  simp only [zeroW, Wit.row] at hv
  match j, hu, hv with
  | 0, hu, hv | 1, hu, hv | 2, hu, hv | 3, hu, hv | 4, hu, hv | 5, hu, hv | 6, hu, hv | 7, hu, hv | 9, hu, hv | 10, hu, hv | 11, hu, hv => simp at hu hv; subst hu hv; exact .refl _
  | 8, hu, hv => simp at hu hv; subst hu hv; exact .nil 2
  | n + 12, hu, hv => simp at hu
theorem no_told (H : List AObj) (e o : Int) : ∃ a, Frz H (.v (.tup [.g [.i .u32 0, .i .i64 0, .i .i64 0, .i .i64 0, .i .i64 0, .i .i64 0, .i .i64 0, .i .i64 0, .nil, .i .i64 0, .i .i64 0, .i .i64 0], .i .i64 e, .i .i64 o])) a ∧ Wk a (.tup [.g zeroW.row, .i .i64 e, .i .i64 o]) := ⟨_, .v _, wk_pair wk_none⟩
theorem read_p (bs : List UInt8) : PureS Try.prog 13 [.sl 1 (bs.map brow)] (readV bs) := by
  refine pure_wk ?_
  refine fun_go hmx Try.func13 r13 s13 (by rw [Try.ntmps13]; simp) ?_
  unfold c13
  have hmap : ∀ l : List UInt8, List.map (byteOf' ∘ brow) l = l := fun l => by rw [← List.map_map]; exact map_byte l
  have hby : ∀ n, ∀ row ∈ List.take n (List.map brow bs), isByte' row := fun n row hr => by
    obtain ⟨b, _, rfl⟩ := List.mem_map.1 (List.mem_of_mem_take hr)
    have := b.toNat_lt
    simp only [brow, isByte']; omega
  unfold readV readW
  by_cases h1 : 65536 < bs.length
  · have h1' : (65536 : Int) < (bs.length : Int) := by omega
    simp [h1, h1']
    exact no_told _ _ _
  have h1' : ¬ (65536 : Int) < (bs.length : Int) := by omega
  by_cases h2 : bs.take 4 = wmagic
  rotate_left
  · simp only [wmagic] at h2
    simp [h1, h1', h2, hmap, wmagic]
    exact ⟨fun h => ⟨h, hby 4⟩, no_told _ _ _⟩
  have hl4 : ¬ (bs.length : Int) < 4 := by
    have := congrArg List.length h2
    simp [wmagic] at this; omega
  have hl4' : (4 : Int) ≤ (bs.length : Int) := by omega
  have h2' : bs.take 4 = [115, 99, 97, 119] := h2
  by_cases h3 : bs.length < 12
  · have h3' : (bs.length : Int) < 12 := by omega
    simp [h1, h1', h2', hmap, wmagic, hl4, hl4', h3, h3']
    exact ⟨hby 4, no_told _ _ _⟩
  have h3' : ¬ (bs.length : Int) < 12 := by omega
  have hw4 : IntKind.i64.wrap ((bs.length : Int) - 4) = ((bs.length - 4 : Nat) : Int) := by rw [wrap_in (by omega) (by omega)]; omega
  simp [h1, h1', h2', hmap, wmagic, hl4, hl4', h3, h3', hw4]
  refine ⟨hby 4, ?_⟩
  have hg1 := gfO bs ((bs.length - 4 : Nat) : Int) (by omega)
  have hfx : fixRd bs ((bs.length - 4 : Nat) : Int) = .tup [.i .u32 (beN (four bs (bs.length - 4)) 0 : Int), .i .i64 (((bs.length - 4 : Nat) : Int) + 4), .i .i64 0] := by
    rw [fixRd, if_neg (by omega), if_neg (by omega), Int.toNat_natCast]
  rw [hfx] at hg1
  refine callk rfl Try.call27 hg1 rfl ?_
  simp
  have hrow : List.take (bs.length - 4) (List.map brow bs) = (bs.take (bs.length - 4)).map brow := List.map_take.symm
  have hbl : (bs.take (bs.length - 4)).length = bs.length - 4 := by rw [List.length_take]; omega
  rw [hrow]
  refine callk rfl Try.call22 (sumO (bs.take (bs.length - 4)) (by omega)) rfl ?_
  by_cases h5 : beN (four bs (bs.length - 4)) 0 = sumN (bs.take (bs.length - 4))
  rotate_left
  · have h5' : ¬ ((beN (four bs (bs.length - 4)) 0 : Nat) : Int) = ((sumN (bs.take (bs.length - 4)) : Nat) : Int) := by omega
    simp [h5, h5']
    exact no_told _ _ _
  simp [h5]
  have hg2 := gfO bs 4 (by omega)
  have hfx2 : fixRd bs 4 = .tup [.i .u32 (beN (four bs 4) 0 : Int), .i .i64 8, .i .i64 0] := by
    rw [fixRd, if_neg (by omega), if_neg (by omega)]; rfl
  rw [hfx2] at hg2
  refine callk rfl Try.call27 hg2 rfl ?_
  have hrow2 : List.drop 8 (List.take (bs.length - 4) (List.map brow bs)) = ((bs.take (bs.length - 4)).drop 8).map brow := by rw [hrow, List.map_drop]
  have h8 : (8 : Int) ≤ ((bs.length - 4 : Nat) : Int) := by omega
  have hend : ((bs.length - 4 : Nat) : Int) ≤ (bs.length : Int) := by omega
  have hBl : ((bs.take (bs.length - 4)).drop 8).length = bs.length - 12 := by rw [List.length_drop, hbl]; omega
  generalize hB : (bs.take (bs.length - 4)).drop 8 = B at *
  simp [hrow2, h8, hend]
  refine callf [] rfl Try.call28 (new_p B (by omega)) (by decide) rfl (by simp) (by simp) (by simp) ?_
  rintro _ _ ⟨rfl, rfl⟩
  simp [orow]
  refine callf [4, 3, 2] rfl Try.call29 (fields_p B ⟨0, 0, 0⟩ (Nat.zero_le _) (by omega) (beN (four bs 4) 0)) (by decide) rfl (by simp) (by simp [wH, orow, witOf, Wit.row, picksOf]) (by simp) ?_
  rintro _ _ ⟨ys, zs, s, v, rfl, hst⟩
  simp [wH, orow, witOf, Wit.row, picksOf]
  have h3p := hst.2.2 rfl
  simp only [List.drop_zero] at h3p
  cases hf : fieldsP B with
  | err e o =>
    rw [hf] at h3p
    simp only at h3p
    obtain ⟨e1, e2, e3⟩ := h3p
    have he : ¬ s.e = 0 := by rw [e1]; exact e2
    simp [he]
    have e3' : 8 + s.bad = 8 + (o : Int) := by rw [e3]; simp
    rw [e1, e3']
    exact no_told _ _ _
  | ok x n =>
    obtain ⟨ys', zs'⟩ := x
    rw [hf] at h3p
    simp only [Prod.mk.injEq] at h3p
    obtain ⟨⟨rfl, rfl⟩, e1, e2, e3⟩ := h3p
    have hle := hst.1
    have hw : IntKind.i64.wrap ((B.length : Int) - s.pos) = (B.length : Int) - s.pos := wrap_in (by omega) (by omega)
    simp [e1]
    refine callf [3] rfl Try.call30 (left_p B s.pos hle (by omega)) (by decide) rfl (by simp) (by simp [orow]) (by simp) ?_
    rintro _ _ ⟨rfl, rfl⟩
    by_cases hrest : n < bs.length - 12
    · have hl : s.pos < B.length := by omega
      have hl' : ¬ B.length ≤ s.pos := by omega
      have hw8 : IntKind.i64.wrap (8 + (s.pos : Int)) = ((8 + n : Nat) : Int) := by rw [wrap_in (by omega) (by omega)]; omega
      simp [hl, hl', orow, hrest]
      refine callq rfl Try.call31 (at_i _ _) rfl ?_
      simp [hw8]
      exact no_told _ _ _
    · have hl : ¬ s.pos < B.length := by omega
      have hl' : B.length ≤ s.pos := by omega
      simp [hl, hl', orow, hrest]
      exact ⟨_, .v _, .refl _⟩
end Go.Sc.Wi
