/- Chapter 03: what is counted of an instruction's registers, in plain Lean. No condition. -/
import Derived.Test.YtdjcfjfgdblefaaXReg
set_option linter.constructorNameAsVariable false
namespace Go.Sc
open Go Go.Av
set_option linter.unusedSimpArgs false
set_option linter.unusedVariables false
def cntRW (fm : List UInt8) : Nat := (fm.filter fun c => c == 114 || c == 119).length
theorem rise8_pos {l : List Int} {y : Int} (h : y ∈ l) (h0 : 0 ≤ y) (h8 : y < 8) : 0 < (rise8 l).length :=
  List.length_pos_of_mem (rise8_mem.2 ⟨h, h0, h8⟩)
theorem touch {p : Prog} {f : Func} {x : Instr} (hi : insE p f x = 0) (ok : RegOk p f x) : (x.op = 61 ∨ x.op = 62 ∨ (rise8 (readsL p f x)).length + (rise8 (setsL f x)).length ≤ cntRW (form x.op) + 2) ∧ (cntRW (form x.op) = 0 ∨ 0 < (rise8 (readsL p f x)).length + (rise8 (setsL f x)).length) := by
  obtain ⟨⟨o1, o65, o36, o45⟩, ⟨r0, r8⟩, hrd, hst, hsel, hspawn⟩ := ok
  have hcases : (x.op ≤ 15) ∨ (16 ≤ x.op ∧ x.op ≤ 36) ∨ x.op = 40 ∨ x.op = 41 ∨ x.op = 42 ∨ x.op = 43 ∨ x.op = 44 ∨ x.op = 45 ∨ x.op = 50 ∨ x.op = 51 ∨ x.op = 52 ∨ x.op = 53 ∨ x.op = 54 ∨ x.op = 55 ∨ x.op = 56 ∨ x.op = 57 ∨ x.op = 58 ∨ x.op = 59 ∨ x.op = 60 ∨ x.op = 61 ∨ x.op = 62 ∨ x.op = 63 ∨ x.op = 64 ∨ x.op = 65 := by omega
  rcases hcases with hop | hop | hop | hop | hop | hop | hop | hop | hop | hop | hop | hop | hop | hop | hop | hop | hop | hop | hop | hop | hop | hop | hop | hop
  · -- unary
    have hR : readsL p f x = [x.b] := by unfold readsL; rw [if_pos (by omega)]
    have hS : setsL f x = [x.a] := by unfold setsL; rw [if_pos (by omega)]
    have hF : cntRW (form x.op) = 2 := by unfold form; rw [if_pos (by omega)]; rfl
    rw [hR] at hrd ⊢
    rw [hS] at hst ⊢
    rw [hF]
    have ha := rise8_one x.b
    have hb := rise8_one x.a
    have hy := hrd x.b (by simp)
    have hz := rise8_pos (l := [x.b]) (y := x.b) (by simp) hy.1 (by omega)
    exact ⟨by omega, .inr (by omega)⟩
  · -- binary
    have hR : readsL p f x = [x.b, x.c] := by unfold readsL; rw [if_neg (by omega), if_pos (by omega)]
    have hS : setsL f x = [x.a] := by unfold setsL; rw [if_pos (by omega)]
    have hF : cntRW (form x.op) = 3 := by unfold form; rw [if_neg (by omega), if_pos (by omega)]; rfl
    rw [hR] at hrd ⊢
    rw [hS] at hst ⊢
    rw [hF]
    have ha := rise8_two x.b x.c
    have hb := rise8_one x.a
    have hy := hrd x.b (by simp)
    have hz := rise8_pos (l := [x.b, x.c]) (y := x.b) (by simp) hy.1 (by omega)
    exact ⟨by omega, .inr (by omega)⟩
  · -- 40
    have hR : readsL p f x = [] := by unfold readsL; simp [hop]
    have hS : setsL f x = [x.a] := by unfold setsL; simp [hop]
    have hF : cntRW (form x.op) = 1 := by rw [hop]; rfl
    rw [hR] at hrd ⊢
    rw [hS] at hst ⊢
    rw [hF]
    have ha : (rise8 []).length = 0 := by rw [rise8_nil]; rfl
    have hb := rise8_one x.a
    have hy := op_r (ins_parts hi (l0 := 114) (l1 := 45) (l2 := 45) (l3 := 110) (by rw [hop]; rfl)).1
    have hz := rise8_pos (l := [x.a]) (y := x.a) (by simp) hy.1 (by omega)
    exact ⟨by omega, .inr (by omega)⟩
  · -- 41
    have hR : readsL p f x = [x.b] := by unfold readsL; simp [hop]
    have hS : setsL f x = [x.a] := by unfold setsL; simp [hop]
    have hF : cntRW (form x.op) = 2 := by rw [hop]; rfl
    rw [hR] at hrd ⊢
    rw [hS] at hst ⊢
    rw [hF]
    have ha := rise8_one x.b
    have hb := rise8_one x.a
    have hy := hrd x.b (by simp)
    have hz := rise8_pos (l := [x.b]) (y := x.b) (by simp) hy.1 (by omega)
    exact ⟨by omega, .inr (by omega)⟩
  · -- 42
    have hR : readsL p f x = [] := by unfold readsL; simp [hop]
    have hS : setsL f x = [] := by unfold setsL; simp [hop]
    have hF : cntRW (form x.op) = 0 := by rw [hop]; rfl
    rw [hR] at hrd ⊢
    rw [hS] at hst ⊢
    rw [hF]
    have ha : (rise8 []).length = 0 := by rw [rise8_nil]; rfl
    have hb : (rise8 []).length = 0 := by rw [rise8_nil]; rfl
    exact ⟨by omega, .inl rfl⟩
  · -- 43
    have hR : readsL p f x = [x.a] := by unfold readsL; simp [hop]
    have hS : setsL f x = [] := by unfold setsL; simp [hop]
    have hF : cntRW (form x.op) = 1 := by rw [hop]; rfl
    rw [hR] at hrd ⊢
    rw [hS] at hst ⊢
    rw [hF]
    have ha := rise8_one x.a
    have hb : (rise8 []).length = 0 := by rw [rise8_nil]; rfl
    have hy := hrd x.a (by simp)
    have hz := rise8_pos (l := [x.a]) (y := x.a) (by simp) hy.1 (by omega)
    exact ⟨by omega, .inr (by omega)⟩
  · -- 44
    have hR : readsL p f x = [x.a] := by unfold readsL; simp [hop]
    have hS : setsL f x = [] := by unfold setsL; simp [hop]
    have hF : cntRW (form x.op) = 1 := by rw [hop]; rfl
    rw [hR] at hrd ⊢
    rw [hS] at hst ⊢
    rw [hF]
    have ha := rise8_one x.a
    have hb : (rise8 []).length = 0 := by rw [rise8_nil]; rfl
    have hy := hrd x.a (by simp)
    have hz := rise8_pos (l := [x.a]) (y := x.a) (by simp) hy.1 (by omega)
    exact ⟨by omega, .inr (by omega)⟩
  · -- 45
    have hR : readsL p f x = [] := by unfold readsL; simp [hop]
    have hS : setsL f x = [] := by unfold setsL; simp [hop]
    have hF : cntRW (form x.op) = 0 := by rw [hop]; rfl
    rw [hR] at hrd ⊢
    rw [hS] at hst ⊢
    rw [hF]
    have ha : (rise8 []).length = 0 := by rw [rise8_nil]; rfl
    have hb : (rise8 []).length = 0 := by rw [rise8_nil]; rfl
    exact ⟨by omega, .inl rfl⟩
  · -- 50
    have hR : readsL p f x = [] := by unfold readsL; simp [hop]
    have hS : setsL f x = [x.a] := by unfold setsL; simp [hop]
    have hF : cntRW (form x.op) = 1 := by rw [hop]; rfl
    rw [hR] at hrd ⊢
    rw [hS] at hst ⊢
    rw [hF]
    have ha : (rise8 []).length = 0 := by rw [rise8_nil]; rfl
    have hb := rise8_one x.a
    have hy := op_r (ins_parts hi (l0 := 114) (l1 := 118) (l2 := 45) (l3 := 45) (by rw [hop]; rfl)).1
    have hz := rise8_pos (l := [x.a]) (y := x.a) (by simp) hy.1 (by omega)
    exact ⟨by omega, .inr (by omega)⟩
  · -- 51
    have hR : readsL p f x = [x.b] := by unfold readsL; simp [hop]
    have hS : setsL f x = [] := by unfold setsL; simp [hop]
    have hF : cntRW (form x.op) = 1 := by rw [hop]; rfl
    rw [hR] at hrd ⊢
    rw [hS] at hst ⊢
    rw [hF]
    have ha := rise8_one x.b
    have hb : (rise8 []).length = 0 := by rw [rise8_nil]; rfl
    have hy := hrd x.b (by simp)
    have hz := rise8_pos (l := [x.b]) (y := x.b) (by simp) hy.1 (by omega)
    exact ⟨by omega, .inr (by omega)⟩
  · -- 52
    have hR : readsL p f x = [x.c] := by unfold readsL; simp [hop]
    have hS : setsL f x = [x.a] := by unfold setsL; simp [hop]
    have hF : cntRW (form x.op) = 1 := by rw [hop]; rfl
    rw [hR] at hrd ⊢
    rw [hS] at hst ⊢
    rw [hF]
    have ha := rise8_one x.c
    have hb := rise8_one x.a
    have hy := hrd x.c (by simp)
    have hz := rise8_pos (l := [x.c]) (y := x.c) (by simp) hy.1 (by omega)
    exact ⟨by omega, .inr (by omega)⟩
  · -- 53
    have hR : readsL p f x = [x.c, x.n] := by unfold readsL; simp [hop]
    have hS : setsL f x = [x.a] := by unfold setsL; simp [hop]
    have hF : cntRW (form x.op) = 3 := by rw [hop]; rfl
    rw [hR] at hrd ⊢
    rw [hS] at hst ⊢
    rw [hF]
    have ha := rise8_two x.c x.n
    have hb := rise8_one x.a
    have hy := hrd x.c (by simp)
    have hz := rise8_pos (l := [x.c, x.n]) (y := x.c) (by simp) hy.1 (by omega)
    exact ⟨by omega, .inr (by omega)⟩
  · -- 54
    have hR : readsL p f x = [x.b] := by unfold readsL; simp [hop]
    have hS : setsL f x = [] := by unfold setsL; simp [hop]
    have hF : cntRW (form x.op) = 1 := by rw [hop]; rfl
    rw [hR] at hrd ⊢
    rw [hS] at hst ⊢
    rw [hF]
    have ha := rise8_one x.b
    have hb : (rise8 []).length = 0 := by rw [rise8_nil]; rfl
    have hy := hrd x.b (by simp)
    have hz := rise8_pos (l := [x.b]) (y := x.b) (by simp) hy.1 (by omega)
    exact ⟨by omega, .inr (by omega)⟩
  · -- 55
    have hR : readsL p f x = [] := by unfold readsL; simp [hop]
    have hS : setsL f x = [] := by unfold setsL; simp [hop]
    have hF : cntRW (form x.op) = 0 := by rw [hop]; rfl
    rw [hR] at hrd ⊢
    rw [hS] at hst ⊢
    rw [hF]
    have ha : (rise8 []).length = 0 := by rw [rise8_nil]; rfl
    have hb : (rise8 []).length = 0 := by rw [rise8_nil]; rfl
    exact ⟨by omega, .inl rfl⟩
  · -- 56
    have hR : readsL p f x = [] := by unfold readsL; simp [hop]
    have hS : setsL f x = [] := by unfold setsL; simp [hop]
    have hF : cntRW (form x.op) = 0 := by rw [hop]; rfl
    rw [hR] at hrd ⊢
    rw [hS] at hst ⊢
    rw [hF]
    have ha : (rise8 []).length = 0 := by rw [rise8_nil]; rfl
    have hb : (rise8 []).length = 0 := by rw [rise8_nil]; rfl
    exact ⟨by omega, .inl rfl⟩
  · -- 57
    have hR : readsL p f x = [] := by unfold readsL; simp [hop]
    have hS : setsL f x = [x.a] := by unfold setsL; simp [hop]
    have hF : cntRW (form x.op) = 1 := by rw [hop]; rfl
    rw [hR] at hrd ⊢
    rw [hS] at hst ⊢
    rw [hF]
    have ha : (rise8 []).length = 0 := by rw [rise8_nil]; rfl
    have hb := rise8_one x.a
    have hy := op_r (ins_parts hi (l0 := 114) (l1 := 108) (l2 := 45) (l3 := 45) (by rw [hop]; rfl)).1
    have hz := rise8_pos (l := [x.a]) (y := x.a) (by simp) hy.1 (by omega)
    exact ⟨by omega, .inr (by omega)⟩
  · -- 58
    have hR : readsL p f x = [x.b] := by unfold readsL; simp [hop]
    have hS : setsL f x = [] := by unfold setsL; simp [hop]
    have hF : cntRW (form x.op) = 1 := by rw [hop]; rfl
    rw [hR] at hrd ⊢
    rw [hS] at hst ⊢
    rw [hF]
    have ha := rise8_one x.b
    have hb : (rise8 []).length = 0 := by rw [rise8_nil]; rfl
    have hy := hrd x.b (by simp)
    have hz := rise8_pos (l := [x.b]) (y := x.b) (by simp) hy.1 (by omega)
    exact ⟨by omega, .inr (by omega)⟩
  · -- 59
    have hR : readsL p f x = [] := by unfold readsL; simp [hop]
    have hS : setsL f x = [x.a, x.c] := by unfold setsL; simp [hop]
    have hF : cntRW (form x.op) = 0 := by rw [hop]; rfl
    rw [hR] at hrd ⊢
    rw [hS] at hst ⊢
    rw [hF]
    have ha : (rise8 []).length = 0 := by rw [rise8_nil]; rfl
    have hb := rise8_two x.a x.c
    exact ⟨by omega, .inl rfl⟩
  · -- 60
    have hR : readsL p f x = [] := by unfold readsL; simp [hop]
    have hS : setsL f x = [] := by unfold setsL; simp [hop]
    have hF : cntRW (form x.op) = 0 := by rw [hop]; rfl
    rw [hR] at hrd ⊢
    rw [hS] at hst ⊢
    rw [hF]
    have ha : (rise8 []).length = 0 := by rw [rise8_nil]; rfl
    have hb : (rise8 []).length = 0 := by rw [rise8_nil]; rfl
    exact ⟨by omega, .inl rfl⟩
  · -- 61
    have hF : cntRW (form x.op) = 0 := by rw [hop]; rfl
    exact ⟨by omega, .inl hF⟩
  · -- 62
    have hF : cntRW (form x.op) = 0 := by rw [hop]; rfl
    exact ⟨by omega, .inl hF⟩
  · -- 63
    have hR : readsL p f x = [x.a] := by unfold readsL; simp [hop]
    have hS : setsL f x = [] := by unfold setsL; simp [hop]
    have hF : cntRW (form x.op) = 1 := by rw [hop]; rfl
    rw [hR] at hrd ⊢
    rw [hS] at hst ⊢
    rw [hF]
    have ha := rise8_one x.a
    have hb : (rise8 []).length = 0 := by rw [rise8_nil]; rfl
    have hy := hrd x.a (by simp)
    have hz := rise8_pos (l := [x.a]) (y := x.a) (by simp) hy.1 (by omega)
    exact ⟨by omega, .inr (by omega)⟩
  · -- 64
    have hR : readsL p f x = [] := by unfold readsL; simp [hop]
    have hS : setsL f x = [] := by unfold setsL; simp [hop]
    have hF : cntRW (form x.op) = 0 := by rw [hop]; rfl
    rw [hR] at hrd ⊢
    rw [hS] at hst ⊢
    rw [hF]
    have ha : (rise8 []).length = 0 := by rw [rise8_nil]; rfl
    have hb : (rise8 []).length = 0 := by rw [rise8_nil]; rfl
    exact ⟨by omega, .inl rfl⟩
  · -- 65
    have hR : readsL p f x = [x.a] := by unfold readsL; simp [hop]
    have hS : setsL f x = [] := by unfold setsL; simp [hop]
    have hF : cntRW (form x.op) = 1 := by rw [hop]; rfl
    rw [hR] at hrd ⊢
    rw [hS] at hst ⊢
    rw [hF]
    have ha := rise8_one x.a
    have hb : (rise8 []).length = 0 := by rw [rise8_nil]; rfl
    have hy := hrd x.a (by simp)
    have hz := rise8_pos (l := [x.a]) (y := x.a) (by simp) hy.1 (by omega)
    exact ⟨by omega, .inr (by omega)⟩
end Go.Sc
