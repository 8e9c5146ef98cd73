/- Arguments that are bytes. No condition. -/
import Derived.Test.YtgipkikbefnokaaDoorXSc2
import Derived.Test.YtgipkikbefnokaaDoorXWd
set_option linter.constructorNameAsVariable false
namespace Go.Sc
open Go Go.Av
theorem fit_byte {x : AV} (h : Fit (.i .u8) x) : ∃ c : UInt8, x = .i .u8 (c.toNat : Int) := by
  simp only [Fit] at h
  obtain ⟨n, rfl, h1, h2⟩ := h
  simp [IntKind.min, IntKind.max, IntKind.signed, IntKind.bits] at h1 h2
  refine ⟨UInt8.ofNat n.toNat, ?_⟩
  rw [u8_toNat (by omega)]
  congr 1; omega
theorem open_byte (xs : List AV) (h : FitL [.i .u8] xs) : ∃ c : UInt8, xs = brow c ∧ True := by
  obtain ⟨x, ys, rfl, h1, h2⟩ := fit_cons h
  obtain rfl := fit_nil h2
  obtain ⟨c, rfl⟩ := fit_byte h1
  exact ⟨c, rfl, trivial⟩
theorem arg_byte {P : Program} {d : Nat} {t : TypeId} {a : AV} (hsh : shT P d t = some [.i .u8]) (hs : (match P.underlying t with | some (.struct _) => false | some (.array _ _) => false | _ => true) = true) (h : ∃ sh xs, shT P d t = some sh ∧ FitL sh xs ∧ a = argV P t xs) : ∃ c : UInt8, a = .i .u8 (c.toNat : Int) ∧ True := by
  obtain ⟨sh, xs, h1, h2, h3⟩ := h
  rw [hsh] at h1
  cases h1
  obtain ⟨c, rfl, _⟩ := open_byte xs h2
  refine ⟨c, ?_, trivial⟩
  rw [h3, argV]
  cases hu : P.underlying t with
  | none => rfl
  | some d => cases d with
    | struct _ => rw [hu] at hs; cases hs
    | array _ _ => rw [hu] at hs; cases hs
    | _ => rfl
theorem arg_bytes {P : Program} {d : Nat} {t : TypeId} {a : AV} (hsh : shT P d t = some [.sl 1 [.i .u8]]) (hs : (match P.underlying t with | some (.struct _) => false | some (.array _ _) => false | _ => true) = true) (h : ∃ sh xs, shT P d t = some sh ∧ FitL sh xs ∧ a = argV P t xs) : ∃ bs : List UInt8, a = .sl 1 (bs.map brow) ∧ bs.length ≤ 140737488351232 := by
  obtain ⟨sh, xs, h1, h2, h3⟩ := h
  rw [hsh] at h1
  cases h1
  obtain ⟨x, ys, rfl, k1, k2⟩ := fit_cons h2
  obtain rfl := fit_nil k2
  obtain ⟨bs, rfl, k3, _⟩ := fit_sl open_byte k1
  refine ⟨bs, ?_, by simpa [Few] using k3⟩
  rw [h3, argV]
  cases hu : P.underlying t with
  | none => rfl
  | some d => cases d with
    | struct _ => rw [hu] at hs; cases hs
    | array _ _ => rw [hu] at hs; cases hs
    | _ => rfl
end Go.Sc
