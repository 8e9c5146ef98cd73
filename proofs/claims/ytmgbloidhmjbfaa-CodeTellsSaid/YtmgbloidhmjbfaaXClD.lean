/- Chapter 04: the law of one byte turned, by the program. No condition. -/
import Derived.Test.YtmgbloidhmjbfaaXCl
set_option linter.constructorNameAsVariable false
namespace Go.Sc.Cw
open Go Go.RowKit Go.Av Go.Proofs Go.Sc.Oct
set_option linter.unusedSimpArgs false
set_option linter.unusedVariables false
/-- scarab/scarablaw04.CodeTells -/
def c10 : ACode :=
  (.seq (.reg none [⟨some 3, none, .m (.box (.t 0))⟩, ⟨some 6, none, .q (.mv (.c (.b false)))⟩])
  (.keep [1, 2, 3]
  (.seq (.seq (.reg none [⟨some 14, none, .q (.ld (some 4) (.t 3))⟩, ⟨some 15, none, .call (.f 29) [(.t 14)]⟩, ⟨some 16, none, .q (.un .not (.t 15))⟩, ⟨some 17, none, .q (.mv (.t 16))⟩, ⟨some 18, some (17, false), .q (.mv (.t 2))⟩, ⟨some 19, some (17, false), .q (.bin .eql (.t 18) (.c (.i .u8 0)))⟩, ⟨some 20, none, .pk (.t 17) (.c (.b true)) (.t 19)⟩])
    (.keep [1, 2, 3, 20]
    (.cond (.t 20) (.seq (.reg none [⟨some 21, none, .call (.f 41) []⟩, ⟨some 6, none, .q (.mv (.t 21))⟩])
      .ret)
    .skip)))
  (.seq (.reg none [⟨some 23, none, .q (.ld (some 4) (.t 3))⟩, ⟨some 24, none, .call (.f 40) [(.t 23)]⟩, ⟨some 22, none, .q (.mv (.t 24))⟩, ⟨some 25, none, .q (.ext 0 (.t 22))⟩, ⟨some 26, none, .q (.ext 1 (.t 22))⟩, ⟨some 7, none, .q (.mv (.t 25))⟩, ⟨some 8, none, .q (.mv (.t 26))⟩])
  (.keep [1, 2, 7, 8]
  (.seq (.seq (.reg none [⟨some 27, none, .q (.mv (.t 8))⟩, ⟨some 28, none, .q (.bin .neq (.t 27) (.c (.i .i64 0)))⟩, ⟨some 29, none, .q (.mv (.t 28))⟩, ⟨some 30, some (29, false), .q (.mv (.t 7))⟩, ⟨some 31, some (29, false), .q (.len false (.t 30))⟩, ⟨some 32, some (29, false), .q (.bin .lss (.t 31) (.c (.i .i64 18)))⟩, ⟨some 33, none, .pk (.t 29) (.c (.b true)) (.t 32)⟩])
    (.keep [1, 2, 7, 33]
    (.cond (.t 33) (.seq (.reg none [⟨some 6, none, .q (.mv (.c (.b false)))⟩])
      .ret)
    .skip)))
  (.seq (.reg none [⟨some 34, none, .q (.mv (.t 1))⟩, ⟨some 35, none, .q (.mv (.t 7))⟩, ⟨some 36, none, .q (.len false (.t 35))⟩, ⟨some 37, none, .q (.bin .rem (.t 34) (.t 36))⟩, ⟨some 9, none, .q (.mv (.t 37))⟩])
  (.keep [2, 7, 9]
  (.seq (.seq (.reg none [⟨some 38, none, .q (.mv (.t 9))⟩, ⟨some 39, none, .q (.bin .lss (.t 38) (.c (.i .i64 0)))⟩])
    (.keep [2, 7, 9, 39]
    (.cond (.t 39) (.reg none [⟨some 40, none, .q (.mv (.t 9))⟩, ⟨some 41, none, .q (.mv (.t 7))⟩, ⟨some 42, none, .q (.len false (.t 41))⟩, ⟨some 43, none, .q (.bin .add (.t 40) (.t 42))⟩, ⟨some 9, none, .q (.mv (.t 43))⟩])
    .skip)))
  (.seq (.reg none [⟨some 44, none, .m (.bsl 0 1 [(.i .u8 0)] [])⟩, ⟨some 45, none, .q (.mv (.t 7))⟩, ⟨some 46, none, .m (.app 1 1 (.t 44) (.t 45))⟩, ⟨some 10, none, .q (.mv (.t 46))⟩])
  (.keep [2, 9, 10]
  (.seq (.reg none [⟨some 47, none, .q (.mv (.t 10))⟩, ⟨some 48, none, .q (.mv (.t 9))⟩, ⟨some 49, none, .q (.mv (.t 10))⟩, ⟨some 50, none, .q (.mv (.t 9))⟩, ⟨some 51, none, .q (.ias 1 (.t 49) (.t 50))⟩, ⟨some 52, none, .q (.ld none (.t 51))⟩, ⟨some 53, none, .q (.mv (.t 2))⟩, ⟨some 54, none, .q (.bin .xor (.t 52) (.t 53))⟩, ⟨some 55, none, .q (.ias 1 (.t 47) (.t 48))⟩, ⟨none, none, .m (.st 1 (.t 55) (.t 54))⟩])
  (.keep [10]
  (.seq (.reg none [⟨some 57, none, .q (.mv (.t 10))⟩, ⟨some 58, none, .call (.f 42) [(.t 57)]⟩, ⟨some 56, none, .q (.mv (.t 58))⟩, ⟨some 59, none, .q (.ext 0 (.t 56))⟩, ⟨some 60, none, .q (.ext 1 (.t 56))⟩, ⟨some 61, none, .q (.ext 2 (.t 56))⟩, ⟨some 11, none, .m (.alloc (.g [.nil, (.i .i64 0), .nil, .nil]))⟩, ⟨none, none, .m (.st 4 (.t 11) (.t 59))⟩, ⟨some 12, none, .q (.mv (.t 60))⟩, ⟨some 13, none, .q (.mv (.t 61))⟩])
  (.keep [11, 12]
  (.seq (.reg none [⟨some 62, none, .q (.mv (.t 12))⟩, ⟨some 63, none, .q (.bin .neq (.t 62) (.c (.i .i64 0)))⟩, ⟨some 64, none, .q (.mv (.t 63))⟩, ⟨some 65, some (64, true), .q (.fa 3 (.t 11))⟩, ⟨some 66, some (64, true), .q (.ld none (.t 65))⟩, ⟨some 67, some (64, true), .q (.len false (.t 66))⟩, ⟨some 68, some (64, true), .q (.bin .eql (.t 67) (.c (.i .i64 0)))⟩, ⟨some 69, none, .pk (.t 64) (.t 68) (.c (.b false))⟩, ⟨some 70, none, .q (.mv (.t 69))⟩, ⟨some 71, some (70, true), .call (.f 41) []⟩, ⟨some 72, none, .pk (.t 70) (.t 71) (.c (.b false))⟩, ⟨some 6, none, .q (.mv (.t 72))⟩])
  .ret))))))))))))))))
theorem r10 : (Try.f10.body.bind (resC Try.prog Try.f10.ntmps)) = some (strip c10) := by kernel_rfl
theorem s10 : Try.f10.results.toList.mapM (resRes Try.prog) = some [.t 6] := by kernel_rfl
theorem none_flat {e : Int} {o : Int} : Flat (.tup [noneV, .i .i64 e, .i .i64 o]) := by
  refine .tup fun x hx => ?_
  simp at hx
  rcases hx with rfl | hx
  · refine .g fun y hy => ?_
    simp at hy
    rcases hy with rfl | rfl | rfl <;> first | exact .nil | exact .i _ _
  · rcases hx with rfl | rfl <;> exact .i _ _
theorem turn_byte (bs : List UInt8) (n : Nat) (hlt : n < bs.length) (c : UInt8) (hc : ¬ c.toNat = 0) : ∃ b, bs[n] ≠ b ∧
    ((vrows (List.map brow bs)).set n ((vrows (List.map brow bs))[n]'(by simpa [vrows] using hlt) |>.set 0 (RV.v (AV.i IntKind.u8 (IntKind.u8.wrap ↑(((bs[n].toNat : Int) % 256).toNat ^^^ ((c.toNat : Int) % 256).toNat)))))) = vrows ((bs.set n b).map brow) := by
  have h1 := bs[n].toNat_lt
  have h2 := c.toNat_lt
  have h3 : bs[n].toNat ^^^ c.toNat < 256 := Nat.xor_lt_two_pow (n := 8) h1 h2
  refine ⟨UInt8.ofNat (bs[n].toNat ^^^ c.toNat), fun e => ?_, ?_⟩
  · have := congrArg UInt8.toNat e
    rw [u8_toNat h3] at this
    have h4 : bs[n].toNat ^^^ bs[n].toNat = bs[n].toNat ^^^ (bs[n].toNat ^^^ c.toNat) := by rw [← this]
    rw [Nat.xor_self, ← Nat.xor_assoc, Nat.xor_self, Nat.zero_xor] at h4
    exact hc h4.symm
  · have e1 : ((bs[n].toNat : Int) % 256).toNat = bs[n].toNat := by omega
    have e2 : ((c.toNat : Int) % 256).toNat = c.toNat := by omega
    rw [e1, e2, wrap_u8_lt h3]
    simp only [vrows, List.map_set, List.getElem_map, brow, u8_toNat h3, List.map_cons, List.map_nil, List.set_cons_zero]
theorem codeTells_l (p : Prog) (hp : p.Ok) (a : Int) (by' : UInt8) (ha : I64 a) : PureS Try.prog 10 [.g p.row, .i .i64 a, .i .u8 (by'.toNat : Int)] (.b true) := by
  refine fun_go hmx Try.func10 r10 s10 (by rw [Try.ntmps10]; simp) ?_
  unfold c10
  have hs := speaks_l
  simp [Prog.row]
  refine callk rfl Try.call29 (Q03.right22 p hp) rfl ?_
  by_cases h1 : (check p).1 = 0
  · simp [h1]
    refine ⟨fun h2 => ?_, fun h2 => ?_⟩
    · refine callk rfl Try.call41 hs rfl ?_
      simp
    · have e1 := encode_w p hp
      rw [encV_right h1] at e1
      have hl := progW_long h1
      have hl2 := len_body (right_of h1) hp
      rw [progW_length] at hl
      have hl3 := progW_length p
      refine callk rfl Try.call40 e1 rfl ?_
      simp
      have hne : progW p ≠ [] := fun e => by rw [e] at hl3; simp at hl3
      have hbr : ∀ (m : Int), -(((progW p).length : Nat) : Int) < m → m < ((progW p).length : Nat) → m < 0 → ∃ n : Nat, IntKind.i64.wrap (m + ((progW p).length : Nat)) = (n : Int) ∧ n < (progW p).length := fun m h1 h2 h3 => by
        refine ⟨(m + ((progW p).length : Nat)).toNat, ?_, by omega⟩
        rw [wrap_in (by omega) (by omega)]; omega
      have hm1 := Int.lt_tmod_of_pos a (b := ((progW p).length : Nat)) (by omega)
      have hm2 := Int.tmod_lt_of_pos a (b := ((progW p).length : Nat)) (by omega)
      generalize a.tmod ((progW p).length : Nat) = m at *
      refine ⟨by omega, fun _ => ⟨hne, fun hneg => ?_, fun hpos => ?_⟩⟩
      · obtain ⟨n, hn, hlt⟩ := hbr m hm1 hm2 hneg
        rw [hn]
        have hget : (progW p)[n]? = some (progW p)[n] := List.getElem?_eq_getElem hlt
        obtain ⟨b, hb1, hb2⟩ := turn_byte (progW p) n hlt by' h2
        obtain ⟨e, o, he, hd⟩ := decode_turned hlt hb1
        have hdd := decode_r ((progW p).set n b)
        rw [decV, hd] at hdd
        simp [hget, brow, hlt]
        refine ⟨⟨by omega, by omega⟩, by simp [vrows, brow], ?_⟩
        refine callz rfl Try.call42 hdd none_flat ⟨frz_rows (l := ((progW p).set n b).map brow) (by simp only [List.getElem?_cons_succ, List.getElem?_cons_zero, hb2]), trivial⟩ ?_
        simp [noneV, he]
        first
          | refine callkg rfl Try.call41 rfl (fun _ => hs) (fun hG => by first | (simp; done) | (simp at hG; done) | simpa using hG) rfl ?_
          | refine callksg rfl Try.call41 rfl (fun _ => hs) (fun hG => by first | (simp; done) | (simp at hG; done) | simpa using hG) rfl ?_
          | refine callqg rfl Try.call41 rfl (fun _ => hs) (fun hG => by first | (simp; done) | (simp at hG; done) | simpa using hG) rfl ?_
        simp
      · obtain ⟨n, rfl⟩ := Int.eq_ofNat_of_zero_le hpos
        have hlt : n < (progW p).length := by omega
        have hget : (progW p)[n]? = some (progW p)[n] := List.getElem?_eq_getElem hlt
        obtain ⟨b, hb1, hb2⟩ := turn_byte (progW p) n hlt by' h2
        obtain ⟨e, o, he, hd⟩ := decode_turned hlt hb1
        have hdd := decode_r ((progW p).set n b)
        rw [decV, hd] at hdd
        simp [hget, brow, hlt]
        refine ⟨⟨by omega, by omega⟩, by simp [vrows, brow], ?_⟩
        refine callz rfl Try.call42 hdd none_flat ⟨frz_rows (l := ((progW p).set n b).map brow) (by simp only [List.getElem?_cons_succ, List.getElem?_cons_zero, hb2]), trivial⟩ ?_
        simp [noneV, he]
        first
          | refine callkg rfl Try.call41 rfl (fun _ => hs) (fun hG => by first | (simp; done) | (simp at hG; done) | simpa using hG) rfl ?_
          | refine callksg rfl Try.call41 rfl (fun _ => hs) (fun hG => by first | (simp; done) | (simp at hG; done) | simpa using hG) rfl ?_
          | refine callqg rfl Try.call41 rfl (fun _ => hs) (fun hG => by first | (simp; done) | (simp at hG; done) | simpa using hG) rfl ?_
        simp
  · simp [h1]
    refine callk rfl Try.call41 hs rfl ?_
    simp
end Go.Sc.Cw
