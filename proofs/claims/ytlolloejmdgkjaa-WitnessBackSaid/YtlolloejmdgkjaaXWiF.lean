/- Chapter 27: Read, by the document's text: the walk. No condition. -/
import Derived.Test.YtlolloejmdgkjaaXWiE
set_option linter.constructorNameAsVariable false
namespace Go.Sc.Wi
open Go Go.RowKit Go.Av Go.Proofs Go.Sc.Oct Go.Sc Go.Sc.Cw
set_option linter.unusedSimpArgs false
set_option linter.unusedVariables false
set_option maxHeartbeats 4000000 in
theorem rread_p (bs : List UInt8) (hbs : bs.length ≤ 140737488351232) : PureS Try.prog 14 [.sl 1 (bs.map brow)] (readV bs) := by
  refine pure_wk ?_
  refine fun_go hmx Try.func14 r14 s14 (by rw [Try.ntmps14]; simp) ?_
  unfold c14
  generalize hV : readV bs = V
  by_cases h1 : 65536 < bs.length
  · have h1' : (65536 : Int) < (bs.length : Int) := by omega
    simp [h1']
    exact no_told' _ _ _ (by rw [← hV]; simp [readV, readW, h1])
  have h1' : ¬ (65536 : Int) < (bs.length : Int) := by omega
  by_cases h4 : bs.length < 4
  · have h4' : (bs.length : Int) < 4 := by omega
    have h2 : ¬ bs.take 4 = wmagic := fun h => by have := congrArg List.length h; simp [wmagic] at this; omega
    have h4n : ¬ (4 : Int) ≤ (bs.length : Int) := by omega
    have hV2 : V = .tup [.g zeroW.row, .i .i64 40, .i .i64 0] := by rw [← hV]; simp [readV, readW, h1, h2]
    clear hV
    match bs, h4 with
    | [], _ =>
      simp
      exact no_told' _ _ _ hV2
    | [b0], _ =>
      simp [brow]
      exact no_told' _ _ _ hV2
    | [b0, b1], _ =>
      simp [brow]
      exact no_told' _ _ _ hV2
    | [b0, b1, b2], _ =>
      simp [brow]
      exact no_told' _ _ _ hV2
  have hl4 : ¬ (bs.length : Int) < 4 := by omega
  have hl4' : (4 : Int) ≤ (bs.length : Int) := by omega
  have hi0 : 0 < bs.length := by omega
  have hi1 : 1 < bs.length := by omega
  have hi2 : 2 < bs.length := by omega
  have hi3 : 3 < bs.length := by omega
  have hI1 : (1 : Int) < (bs.length : Int) := by omega
  have hI2 : (2 : Int) < (bs.length : Int) := by omega
  have hI3 : (3 : Int) < (bs.length : Int) := by omega
  have htk : bs.take 4 = [bs[0], bs[1], bs[2], bs[3]] := by
    match bs, h4 with
    | b0 :: b1 :: b2 :: b3 :: bt, _ => rfl
    | [], h4 | [_], h4 | [_, _], h4 | [_, _, _], h4 => simp at h4
  have hbv : ∀ (b : UInt8) (n : Nat), n < 256 → ((b.toNat : Int) = n ↔ b = UInt8.ofNat n) := fun b n hn => by
    constructor
    · intro h; apply UInt8.toNat_inj.1; rw [u8_toNat hn]; omega
    · intro h; rw [h, u8_toNat hn]
  have hq0 := hbv bs[0] 115 (by omega)
  have hq1 := hbv bs[1] 99 (by omega)
  have hq2 := hbv bs[2] 97 (by omega)
  have hq3 := hbv bs[3] 119 (by omega)
  simp only [Int.cast_ofNat_Int] at hq0 hq1 hq2 hq3
  by_cases h2 : bs.take 4 = wmagic
  rotate_left
  · by_cases c0 : (bs[0].toNat : Int) = 115
    · by_cases c1 : (bs[1].toNat : Int) = 99
      · by_cases c2 : (bs[2].toNat : Int) = 97
        · have c3 : ¬ (bs[3].toNat : Int) = 119 := fun c3 => h2 (by rw [htk, hq0.1 c0, hq1.1 c1, hq2.1 c2, hq3.1 c3]; rfl)
          simp [h1, h1', h2, hl4, hl4', hi0, hi1, hi2, hi3, hI1, hI2, hI3, brow, c0, c1, c2, c3]
          exact no_told' _ _ _ (by rw [← hV]; simp [readV, readW, h1, h2])
        · simp [h1, h1', h2, hl4, hl4', hi0, hi1, hi2, hi3, hI1, hI2, hI3, brow, c0, c1, c2]
          exact no_told' _ _ _ (by rw [← hV]; simp [readV, readW, h1, h2])
      · simp [h1, h1', h2, hl4, hl4', hi0, hi1, hi2, hi3, hI1, hI2, hI3, brow, c0, c1]
        exact no_told' _ _ _ (by rw [← hV]; simp [readV, readW, h1, h2])
    · simp [h1, h1', h2, hl4, hl4', hi0, hi1, hi2, hi3, hI1, hI2, hI3, brow, c0]
      exact no_told' _ _ _ (by rw [← hV]; simp [readV, readW, h1, h2])
  have hb4 : bs[0] = 115 ∧ bs[1] = 99 ∧ bs[2] = 97 ∧ bs[3] = 119 := by
    rw [htk] at h2; simpa [wmagic] using h2
  obtain ⟨q0, q1, q2, q3⟩ := hb4
  have c0 := hq0.2 q0
  have c1 := hq1.2 q1
  have c2 := hq2.2 q2
  have c3 := hq3.2 q3
  by_cases h3 : bs.length < 12
  · have h3' : (bs.length : Int) < 12 := by omega
    simp [h1, h1', h2, hl4, hl4', hi0, hi1, hi2, hi3, hI1, hI2, hI3, brow, c0, c1, c2, c3, h3, h3']
    exact no_told' _ _ _ (by rw [← hV]; simp [readV, readW, h1, h2, h3])
  have h3' : ¬ (bs.length : Int) < 12 := by omega
  have hw4 : IntKind.i64.wrap ((bs.length : Int) - 4) = ((bs.length - 4 : Nat) : Int) := by rw [wrap_in (by omega) (by omega)]; omega
  have hg1' := gfR bs ((bs.length - 4 : Nat) : Int) (by omega)
  have hfx : fixRd bs ((bs.length - 4 : Nat) : Int) = .tup [.i .u32 (beN (four bs (bs.length - 4)) 0 : Int), .i .i64 (((bs.length - 4 : Nat) : Int) + 4), .i .i64 0] := by
    rw [fixRd, if_neg (by omega), if_neg (by omega), Int.toNat_natCast]
  rw [hfx] at hg1'
  simp [h1, h1', h2, hl4, hl4', hi0, hi1, hi2, hi3, hI1, hI2, hI3, brow, c0, c1, c2, c3, h3, h3', hw4]
  refine callk rfl Try.call32 hg1' rfl ?_
  have hrow : List.take (bs.length - 4) (List.map brow bs) = (bs.take (bs.length - 4)).map brow := List.map_take.symm
  have hbl : (bs.take (bs.length - 4)).length = bs.length - 4 := by rw [List.length_take]; omega
  have hend : ((bs.length - 4 : Nat) : Int) ≤ (bs.length : Int) := by omega
  have hsum := sumR (bs.take (bs.length - 4)) (by omega)
  have hg2 := gfR bs 4 (by omega)
  have hfx2 : fixRd bs 4 = .tup [.i .u32 (beN (four bs 4) 0 : Int), .i .i64 8, .i .i64 0] := by
    rw [fixRd, if_neg (by omega), if_neg (by omega)]; rfl
  rw [hfx2] at hg2
  generalize hbody : bs.take (bs.length - 4) = body at *
  simp [hw4, hrow, hend]
  refine callk rfl Try.call26 hsum rfl ?_
  by_cases h5 : beN (four bs (bs.length - 4)) 0 = sumN body
  rotate_left
  · have h5' : ¬ ((beN (four bs (bs.length - 4)) 0 : Nat) : Int) = ((sumN body : Nat) : Int) := by omega
    simp [h5, h5', hw4]
    exact no_told' _ _ _ (by rw [← hV]; simp [readV, readW, h1, h2, h3, hbody, h5])
  simp [h5]
  refine callk rfl Try.call32 hg2 rfl ?_
  simp [hw4, hrow, hend]
  first
    | refine callk rfl Try.call33 (bounds_r) rfl ?_
    | refine callks rfl Try.call33 (bounds_r) rfl ?_
    | refine callq rfl Try.call33 (bounds_r) rfl ?_
  have hbn : bnds.length = 11 := rfl
  simp [hbn]
  have hBl : (body.drop 8).length = bs.length - 12 := by rw [List.length_drop, hbl]; omega
  have hVe : ∀ (e : Int) (o : Nat), fieldsP (body.drop 8) = .err e o → V = .tup [.g zeroW.row, .i .i64 e, .i .i64 ((8 + o : Nat) : Int)] := fun e o hf => by rw [← hV]; simp [readV, readW, h1, h2, h3, hbody, h5, hf]
  have hVr : ∀ ys zs n, fieldsP (body.drop 8) = .ok (ys, zs) n → n < bs.length - 12 → V = .tup [.g zeroW.row, .i .i64 13, .i .i64 ((8 + n : Nat) : Int)] := fun ys zs n hf hn => by rw [← hV]; simp [readV, readW, h1, h2, h3, hbody, h5, hf, hn]
  have hVo : ∀ ys zs n, fieldsP (body.drop 8) = .ok (ys, zs) n → ¬ n < bs.length - 12 → V = .tup [.g (witOf (beN (four bs 4) 0) ys zs).row, .i .i64 0, .i .i64 0] := fun ys zs n hf hn => by rw [← hV]; simp [readV, readW, h1, h2, h3, hbody, h5, hf, hn]
  clear hV
  have hblen : body.length ≤ 65536 := by omega
  have hb8 : 8 ≤ body.length := by omega
  generalize beN (four bs 4) 0 = sm at *
  refine go_each hmx 4 95 bnds (fun (_ : Nat × List Int) => []) (fun b => [.var (List.map RV.v [.i .u32 0, .i .i64 0, .i .i64 0, .i .i64 0, .i .i64 0, .i .i64 0, .i .i64 0, .i .i64 0, .nil, .i .i64 0, .i .i64 0, .i .i64 0]), .var (List.map RV.v [.i .u32 sm, .i .i64 0, .i .i64 0, .i .i64 0, .i .i64 0, .i .i64 0, .i .i64 0, .i .i64 0, .nil, .i .i64 0, .i .i64 0, .i .i64 0]), .var (orow body b.1), .var (xcells b.2)]) (fun i b rest => 8 ≤ b.1 ∧ b.1 ≤ body.length ∧ b.2.length = i ∧ seqP bnds (body.drop 8) = cont (b.1 - 8) b.2 (seqP rest (body.drop b.1))) (8, []) (by simp [hbn]) rfl rfl (by simp [orow, xcells]) (by simp) (by simp) (by simp [orow, xcells, -List.map_append, -List.map_map]) ⟨Nat.le_refl _, hb8, rfl, (cont_start _).symm⟩ ?_ ?_
  · rintro i m rest ⟨p, ys⟩ hi hm _ ⟨hp8, hpl, hyl, hj⟩ hwr
    simp only at hp8 hpl hyl hj
    rw [hbn] at hi
    have hmg : bnds[i]? = some m := by rw [List.getElem?_eq_getElem (by rw [hbn]; exact hi), hm]
    obtain ⟨hm1, hm2⟩ := bnds_get hmg
    have hi' : (i : Int) < 11 := by omega
    simp [hi, hi', hwr, hbn, hm, orow]
    refine callf [2] rfl Try.call34 (ruint_p body p hpl (by omega)) (by decide) rfl (by simp) (by simp [orow]) (by simp) ?_
    intro r K hr
    unfold uintR at hr
    rcases hga : getA 0 0 (body.drop p) with ⟨e, x, n⟩
    rw [hga] at hr
    simp only at hr
    have hp1 : ((p : Nat) : Int) = ((8 + (p - 8) : Nat) : Int) := by omega
    by_cases he0 : e = 0
    · subst he0
      have hx := getA_lt' hga
      have hu := drop_used hga hpl
      rw [if_pos rfl] at hr
      obtain ⟨rfl, rfl⟩ := hr
      by_cases hbad : m.2 < x ∨ x < m.1
      · have hw := wi_of (m := m) hga
        rw [if_neg (by simp), if_pos hbad] at hw
        have hV3 := hVe _ _ (fields_err (hj.trans (cont_err hw)))
        rw [Nat.add_zero, ← hp1] at hV3
        have hor : m.2 < x ∨ (i = 0 ∧ x = 0) := by
          rcases hbad with h | h
          · exact .inl h
          · rw [hm1] at h; split at h <;> omega
        by_cases hbig : m.2 < x
        · simp [orow, hbig]
          exact no_told' _ _ _ hV3
        · obtain ⟨rfl, rfl⟩ := hor.resolve_left hbig
          simp [orow]
          exact no_told' _ _ _ hV3
      · have hw := wi_of (m := m) hga
        rw [if_neg (by simp), if_neg hbad] at hw
        have hn1 : ¬ m.2 < x := by omega
        have hn2 : ¬ (i = 0 ∧ x = 0) := fun h => by obtain ⟨rfl, rfl⟩ := h; simp at hm1; omega
        have hn3 : x ≤ m.2 := by omega
        have hwx : IntKind.i64.wrap (x : Int) = (x : Int) := wrap_in (by omega) (by omega)
        have hxs := xcells_set (ys := ys) (by omega) (x : Int)
        rw [hyl] at hxs
        have hxl := xcells_len (ys := ys) (by omega)
        have hj2 := hj.trans (cont_ok hw)
        rw [List.drop_drop] at hj2
        simp [orow, hn1, hn3, hwx, hxs, hwr, hxl]
        refine ⟨fun a b => absurd ⟨a, b⟩ hn2, fun _ => ⟨hi', by omega, p + n, ys ++ [(x : Int)], ⟨by simp, rfl⟩, by omega, hu, by simp [hyl], ?_⟩⟩
        rw [hj2, show p + n - 8 = p - 8 + n by omega]
    · rw [if_neg he0] at hr
      obtain ⟨rfl, rfl⟩ := hr
      have hw := wi_of (m := m) hga
      rw [if_pos he0] at hw
      have hV3 := hVe _ _ (fields_err (hj.trans (cont_err hw)))
      rw [Nat.add_zero, ← hp1] at hV3
      simp [orow, he0]
      exact no_told' _ _ _ hV3
  · rintro ⟨p, ys⟩ ⟨hp8, hpl, hyl, hj⟩
    simp only [seqP, retP, cont, List.append_nil, Nat.add_zero] at hp8 hpl hyl hj
    have hjw := (seq_ok hj).2.2
    match ys, hyl, hj, hjw with
    | [y0, y1, y2, y3, y4, y5, y6, y7, y8, y9, y10], _, hj, hjw =>
    simp [hbn, xcells]
    have hjw10 : 0 ≤ y10 ∧ y10 ≤ 256 := by
      simp only [bnds, Within] at hjw
      obtain ⟨_, _, _, _, _, _, _, _, _, _, h, _⟩ := hjw
      omega
    obtain ⟨nn, rfl⟩ := Int.eq_ofNat_of_zero_le hjw10.1
    have hpl2 := pairs_length nn
    have hmul : IntKind.i64.wrap (2 * (nn : Int)) = 2 * (nn : Int) := wrap_in (by omega) (by omega)
    have hdd : (body.drop 8).drop (p - 8) = body.drop p := by rw [List.drop_drop]; congr 1; omega
    have hVe2 : ∀ (e : Int) (o : Nat), seqP (pairs nn) (body.drop p) = .err e o → V = .tup [.g zeroW.row, .i .i64 e, .i .i64 ((p + o : Nat) : Int)] := fun e o h => by
      have := hVe _ _ (fields_err2 hj (by simpa [hdd] using h))
      rw [this, show 8 + (p - 8 + o) = p + o by omega]
    have hVk : ∀ (zs : List Int) (k : Nat), seqP (pairs nn) (body.drop p) = .ok zs k → fieldsP (body.drop 8) = .ok ([y0, y1, y2, y3, y4, y5, y6, y7, y8, y9, (nn : Int)], zs) (p - 8 + k) := fun zs k h => fields_ok hj (by simpa [hdd] using h)
    refine go_each hmx 5 16 (pairs nn) (fun (_ : Nat × Nat × List Int) => []) (fun b => [.var (List.map RV.v [.i .u32 0, .i .i64 0, .i .i64 0, .i .i64 0, .i .i64 0, .i .i64 0, .i .i64 0, .i .i64 0, .nil, .i .i64 0, .i .i64 0, .i .i64 0]), .var ((List.map RV.v [.i .u32 sm, .i .i64 y0, .i .i64 y1, .i .i64 y2, .i .i64 y3, .i .i64 y4, .i .i64 y5, .i .i64 y6, .nil, .i .i64 y7, .i .i64 y8, .i .i64 y9]).set 8 (.os 4 b.2.1)), .var (orow body b.1), .var (xcells [y0, y1, y2, y3, y4, y5, y6, y7, y8, y9, (nn : Int)]), .arr b.2.1 2 (vrows ((halves b.2.2).map Pick.row))]) (fun i b rest => p ≤ b.1 ∧ b.1 ≤ body.length ∧ b.2.2.length = i ∧ seqP (pairs nn) (body.drop p) = cont (b.1 - p) b.2.2 (seqP rest (body.drop b.1))) (p, 0, []) (by omega) rfl rfl (by simp [xcells, vrows, halves]) (by simp) (by simp) (by simp [orow, xcells, -List.map_append, -List.map_map]) ⟨Nat.le_refl _, hpl, rfl, by rw [Nat.sub_self]; exact (cont_start _).symm⟩ ?_ ?_
    · rintro i m rest ⟨p', v, zs⟩ hi hm _ ⟨hp8', hpl', hyl', hj'⟩ hwr
      simp only at hp8' hpl' hyl' hj'
      rw [hpl2] at hi
      have hmg : (pairs nn)[i]? = some m := by rw [List.getElem?_eq_getElem (by rw [hpl2]; exact hi), hm]
      have hmp := pairs_get _ _ _ hmg
      have hi' : (i : Int) < 2 * (nn : Int) := by omega
      have hr2 : (i : Int).tmod 2 = ((i % 2 : Nat) : Int) := by rw [Int.tmod_eq_emod_of_nonneg (by omega)]; omega
      simp [hi', hmul, orow, xcells]
      refine callf [2] rfl Try.call34 (ruint_p body p' hpl' (by omega)) (by decide) rfl (by simp) (by simp [orow]) (by simp) ?_
      intro r K hr
      unfold uintR at hr
      rcases hga : getA 0 0 (body.drop p') with ⟨e, x, n⟩
      rw [hga] at hr
      simp only at hr
      have hp1 : ((p' : Nat) : Int) = ((p + (p' - p) : Nat) : Int) := by omega
      by_cases he0 : e = 0
      · subst he0
        have hx := getA_lt' hga
        have hu := drop_used hga hpl'
        rw [if_pos rfl] at hr
        obtain ⟨rfl, rfl⟩ := hr
        have hw := wi_of (m := m) hga
        rw [if_neg (by simp)] at hw
        rcases Nat.mod_two_eq_zero_or_one i with h2 | h2
        · rw [if_pos h2] at hmp
          subst hmp
          have hr2' : (i : Int).tmod 2 = 0 := by rw [hr2, h2]; rfl
          by_cases hbad : 5 < x
          · have hbadI : (5 : Int) < (x : Int) := by omega
            have hbadI2 : ¬ (x : Int) ≤ 5 := by omega
            rw [if_pos (.inl hbad)] at hw
            have hV3 := hVe2 _ _ (hj'.trans (cont_err hw))
            rw [Nat.add_zero, ← hp1] at hV3
            simp [orow, hr2', hbadI, hbadI2]
            exact no_told' _ _ _ hV3
          · rw [if_neg (by simp only; omega)] at hw
            have hj2 := hj'.trans (cont_ok hw)
            rw [List.drop_drop] at hj2
            have hok : (x : Int) ≤ 5 := by omega
            have hbadI : ¬ (5 : Int) < (x : Int) := by omega
            have hwx : IntKind.i64.wrap (x : Int) = (x : Int) := wrap_in (by omega) (by omega)
            obtain ⟨_, g2, g3⟩ := halves_even (i / 2) zs (by omega)
            simp [orow, hr2', hbadI, hok, hwx, hwr]
            refine ⟨⟨by omega, by omega⟩, p' + n, v + 1, zs ++ [(x : Int)], ⟨rfl, by simp, rfl, ?_⟩, by omega, hu, by simp [hyl'], ?_⟩
            · rw [g3]; simp [vrows, Pick.row]
            · rw [hj2, show p' + n - p = p' - p + n by omega]
        · rw [if_neg (by omega)] at hmp
          subst hmp
          have hr2' : (i : Int).tmod 2 = 1 := by rw [hr2, h2]; rfl
          by_cases hbad : 4 < x
          · have hbadI : (4 : Int) < (x : Int) := by omega
            have hbadI2 : ¬ (x : Int) ≤ 4 := by omega
            rw [if_pos (.inl hbad)] at hw
            have hV3 := hVe2 _ _ (hj'.trans (cont_err hw))
            rw [Nat.add_zero, ← hp1] at hV3
            simp [orow, hr2', hbadI, hbadI2]
            exact no_told' _ _ _ hV3
          · rw [if_neg (by simp only; omega)] at hw
            have hj2 := hj'.trans (cont_ok hw)
            rw [List.drop_drop] at hj2
            have hok : (x : Int) ≤ 4 := by omega
            have hbadI : ¬ (4 : Int) < (x : Int) := by omega
            have hwx : IntKind.i64.wrap (x : Int) = (x : Int) := wrap_in (by omega) (by omega)
            obtain ⟨g2, g3⟩ := halves_odd (i / 2) zs (by omega)
            obtain ⟨a, g4, g5⟩ := g3 (x : Int)
            have hq : (i : Int).tdiv 2 = (i : Int) / 2 := by rw [Int.tdiv_eq_ediv_of_nonneg (by omega)]
            have hwq : IntKind.i64.wrap ((i : Int) / 2) = (i : Int) / 2 := wrap_in (by omega) (by omega)
            have hqn : ((i : Int) / 2).toNat = i / 2 := by omega
            have hq0' : (0 : Int) ≤ (i : Int) / 2 := by omega
            have hq1' : (i : Int) / 2 < (halves zs).length := by omega
            have hq2' : i / 2 < (halves zs).length := by omega
            simp [orow, hr2', hbadI, hok, hwx, hwr, hq, hwq, hqn, g2]
            have hrw : (vrows (List.map Pick.row (halves zs)))[i / 2]'(by simp [vrows]; omega) = [.v (.i .i64 a), .v (.i .i64 0)] := by
              have hlt : i / 2 < (halves zs).length := by omega
              rw [List.getElem?_eq_getElem hlt] at g4
              have g4 := Option.some.inj g4
              rw [vrows_at, List.getElem_map, g4]
              rfl
            rw [hrw]
            refine ⟨⟨by omega, by omega⟩, by simp, p' + n, v, zs ++ [(x : Int)], ⟨rfl, by simp, rfl, ?_⟩, by omega, hu, by simp [hyl'], ?_⟩
            · rw [g5, vrows, vrows, List.map_set, List.map_set]; rfl
            · rw [hj2, show p' + n - p = p' - p + n by omega]
      · rw [if_neg he0] at hr
        obtain ⟨rfl, rfl⟩ := hr
        have hw := wi_of (m := m) hga
        rw [if_pos he0] at hw
        have hV3 := hVe2 _ _ (hj'.trans (cont_err hw))
        rw [Nat.add_zero, ← hp1] at hV3
        simp [orow, he0]
        exact no_told' _ _ _ hV3
    · rintro ⟨p', v, zs⟩ ⟨hp8', hpl', hyl', hj'⟩
      simp only [seqP, retP, cont, List.append_nil, Nat.add_zero] at hp8' hpl' hyl' hj'
      rw [hpl2] at hyl'
      have hF := hVk _ _ hj'
      have hh := (halves_even nn zs hyl').1
      simp [hpl2, hmul, xcells, hh]
      refine callf [2] rfl Try.call35 (rend_p body p') (by decide) rfl (by simp [orow]) (by simp [orow]) (by simp) ?_
      rintro _ _ ⟨rfl, rfl⟩
      by_cases hrest : p' < body.length
      · have hV3 := hVr _ _ _ hF (by omega)
        rw [show 8 + (p - 8 + (p' - p)) = p' by omega] at hV3
        simp [hrest, orow]
        exact no_told' _ _ _ hV3
      · have hV3 := hVo _ _ _ hF (by omega)
        simp [hrest, orow]
        rw [hV3]
        exact ⟨_, .v _, .refl _⟩
end Go.Sc.Wi
