/- Functions that give nested memory of their own, with what is one's own lent to them. No condition. -/
import Derived.Test.YtgipkikbefnokaaDoorXAv17
set_option linter.constructorNameAsVariable false
namespace Go.Av
open Go Go.RowKit
set_option linter.unusedSimpArgs false
set_option linter.unusedVariables false
def FlatX : RV → Prop
  | .v a => Flat a
  | .os _ _ => True
  | _ => False
def FlatO : AObj → Prop
  | .none => True
  | .var cs => ∀ x ∈ cs, FlatX x
  | .arr _ _ rows => ∀ row ∈ rows, ∀ x ∈ row, FlatX x
  | .xo _ cs => ∀ x ∈ cs, FlatX x
  | .buf _ _ _ => True
def FlatR : RV → Prop
  | .gr cs => ∀ x ∈ cs, FlatX x
  | x => FlatX x
def Kept (K K' : List AObj) : Prop := K'.length = K.length ∧ ∀ (o : Nat) ob, K'[o]? = some ob → ob = .none ∨ (K[o]? = some ob ∧ FlatO ob)
theorem lend_own {P : Program} {f : Nat} {xs : List AV} {args : List RV} {H : List AObj} {R : RV → List AObj → Prop} (h : CallS P f (xs.map .v) [] R) (hz : FrzL H args xs) (R' : RV → List AObj → Prop)
    (hR : ∀ r K, R r K → FlatR r ∧ ∃ K', Kept K K' ∧ R' r K') : CallS P f args H fun r' H' => ∃ r K', R' r K' ∧ r' = r.ren (H.length + ·) ∧ H' = H ++ K'.map (AObj.ren (H.length + ·)) := by
  intro e vs g tb hHe hn hv
  subst hHe
  obtain ⟨hzl, hzx⟩ := hz.get
  have g0 := freeze_all g
  have hc := h ⟨e.w, fun b => e.Im b ∨ e.own b, [], []⟩ vs g0 (tb.more fun b hb => .inl hb) rfl (by simp; omega) (fun j x y hj hy => by
    rw [List.getElem?_map, Option.map_eq_some_iff] at hj
    obtain ⟨x', hx', rfl⟩ := hj
    have hjl := (List.getElem?_eq_some_iff.1 hx').1
    have ha := list_get (l := args) (j := j) (by omega) RV.any
    exact .v (frz_ok g (hzx j _ x' ha hx') (hv j _ y ha hy)))
  refine hc.mono fun E w' ⟨c, e', r, hE, hw, g', mv, hr, hRr⟩ => ?_
  obtain ⟨hfr, K', ⟨hKl, hK⟩, hR'⟩ := hR r e'.H hRr
  have hn0 : e.ρ.length = e.H.length := g.len
  have hn1 : e'.ρ.length = K'.length := by rw [g'.len, hKl]
  have sm : ∀ b, b < e.w.heap.size → e'.w.heap[b]? = e.w.heap[b]? := fun b hb => by
    by_cases ho : e.own b
    · exact mv.imw b (.inr ho)
    · exact mv.same b hb (fun ⟨o, l, h1, _⟩ => by simp at h1)
  have hnew : ∀ (o : Nat) l, e'.ρ[o]? = some (some l) → e.w.heap.size ≤ l.blk := fun o l hl => by
    rcases mv.ownn l.blk ⟨o, l, hl, rfl⟩ with ⟨o, l, h1, _⟩ | h3
    · simp at h1
    · exact h3
  have hsplit : ∀ (o : Nat) (lo : Option Loc), (e.ρ ++ e'.ρ)[o]? = some lo → (o < e.H.length ∧ e.ρ[o]? = some lo) ∨ (e.H.length ≤ o ∧ e'.ρ[o - e.H.length]? = some lo) := fun o lo ho => by
    by_cases hlt : o < e.H.length
    · rw [List.getElem?_append_left (by omega)] at ho; exact .inl ⟨hlt, ho⟩
    · rw [List.getElem?_append_right (by omega), hn0] at ho; exact .inr ⟨by omega, ho⟩
  have mv' : Mv e ⟨e'.w, e.Im, e.ρ ++ e'.ρ, e.H ++ K'.map (AObj.ren (e.H.length + ·))⟩ := by
    refine ⟨mv.os, mv.tape, mv.output, mv.size, fun b hb _ => sm b hb, fun _ h => h, fun b hb => sm b (g.imlt b hb), fun _ h => .inl h, ?_, ?_⟩
    · intro k x y hx hy
      refine ⟨x, y, ?_, ?_, .refl _ _⟩
      · show (e.H ++ _)[k]? = _
        rw [List.getElem?_append_left (List.getElem?_eq_some_iff.1 hx).1]; exact hx
      · show (e.ρ ++ _)[k]? = _
        rw [List.getElem?_append_left (List.getElem?_eq_some_iff.1 hy).1]; exact hy
    · rintro b ⟨k, l, hk, rfl⟩
      rcases hsplit k _ hk with ⟨_, h1⟩ | ⟨_, h1⟩
      · exact .inl ⟨k, l, h1, rfl⟩
      · exact .inr (hnew _ l h1)
  have hx : ∀ (e2 : Env), e2.ρ = e.ρ ++ e'.ρ → e2.H = e.H ++ K'.map (AObj.ren (e.H.length + ·)) → ∀ x c, FlatX x → VR e' x c → VR e2 (x.ren (e.H.length + ·)) c := by
    intro e2 h2 h3 x c hf hv
    cases x with
    | v a => cases hv with | v h => exact .v (Flat.vi hf h)
    | os o v =>
      cases hv with
      | os ob lo q1 q2 q3 q4 =>
        have hol : o < K'.length := by rw [hKl]; exact (List.getElem?_eq_some_iff.1 q1).1
        have hk := List.getElem?_eq_getElem hol
        simp only [RV.ren]
        refine .os ((K'[o]).ren (e.H.length + ·)) lo ?_ ?_ ?_ q4
        · rw [h3, List.getElem?_append_right (by omega), List.getElem?_map]
          rw [show e.H.length + o - e.H.length = o by omega, hk]; rfl
        · rw [h2, List.getElem?_append_right (by omega), hn0]
          rw [show e.H.length + o - e.H.length = o by omega]; exact q2
        · rcases hK o _ hk with hn | ⟨hn, _⟩
          · rw [hn]; trivial
          · rw [hn] at q1; cases q1; exact q3.ren
    | any => exact hf.elim
    | bo => exact hf.elim
    | sub _ _ _ _ => exact hf.elim
    | pt _ _ _ _ => exact hf.elim
    | fr _ _ => exact hf.elim
    | bf _ _ => exact hf.elim
    | tr _ => exact hf.elim
    | gr _ => exact hf.elim
    | cnd _ _ => exact hf.elim
    | yl _ _ => exact hf.elim
  have gg : Good ⟨e'.w, e.Im, e.ρ ++ e'.ρ, e.H ++ K'.map (AObj.ren (e.H.length + ·))⟩ := by
    refine ⟨by simp [hn0, hn1], ?_, ?_, ?_, fun b hb => Nat.lt_of_lt_of_le (g.imlt b hb) mv.size, ?_⟩
    · intro k k' l l' hk hk' hne
      rcases hsplit k _ hk with ⟨a1, a2⟩ | ⟨a1, a2⟩ <;> rcases hsplit k' _ hk' with ⟨b1, b2⟩ | ⟨b1, b2⟩
      · exact g.inj k k' l l' a2 b2 hne
      · have h3 := hnew _ l' b2; have h4 := g.lt k l a2; omega
      · have h3 := hnew _ l a2; have h4 := g.lt k' l' b2; omega
      · exact g'.inj _ _ l l' a2 b2 (by omega)
    · intro k l hk hi
      rcases hsplit k _ hk with ⟨a1, a2⟩ | ⟨a1, a2⟩
      · exact g.dis k l a2 hi
      · have h3 := hnew _ l a2; have h4 := g.imlt _ hi; omega
    · intro k l hk
      rcases hsplit k _ hk with ⟨a1, a2⟩ | ⟨a1, a2⟩
      · exact Nat.lt_of_lt_of_le (g.lt k l a2) mv.size
      · exact g'.lt _ l a2
    · intro k x y hxk hyk
      rcases hsplit k _ hyk with ⟨a1, a2⟩ | ⟨a1, a2⟩
      · have hxk : (e.H ++ K'.map (AObj.ren (e.H.length + ·)))[k]? = some x := hxk
        rw [List.getElem?_append_left a1] at hxk
        exact (g.obj k x y hxk a2).keep (fun l hl => sm _ (g.lt k l (by rw [a2, hl]))) mv'
      · have hxk : (e.H ++ K'.map (AObj.ren (e.H.length + ·)))[k]? = some x := hxk
        rw [List.getElem?_append_right a1, List.getElem?_map, Option.map_eq_some_iff] at hxk
        obtain ⟨x0, hx0, rfl⟩ := hxk
        rcases hK _ x0 hx0 with rfl | ⟨hk, hf⟩
        · trivial
        · have ho := g'.obj _ x0 y hk a2
          cases x0 with
          | none => trivial
          | var cs =>
            obtain ⟨l, rfl, ho⟩ := ho
            refine ⟨l, rfl, fun j z hz => ?_⟩
            rw [renL_map, List.getElem?_map, Option.map_eq_some_iff] at hz
            obtain ⟨z0, hz, rfl⟩ := hz
            obtain ⟨c, q1, q2, q3, q4⟩ := ho j z0 hz
            exact ⟨c, q1, q2, q3, hx _ rfl rfl z0 c (hf z0 (List.mem_of_getElem? hz)) q4⟩
          | xo kk cs =>
            obtain ⟨l, vs, ob, rfl, q1, q2, q3, q4⟩ := ho
            refine ⟨l, vs, ob, rfl, by simpa using q1, q2, q3, fun j z c hz hc => ?_⟩
            rw [renL_map, List.getElem?_map, Option.map_eq_some_iff] at hz
            obtain ⟨z0, hz, rfl⟩ := hz
            exact hx _ rfl rfl z0 c (hf z0 (List.mem_of_getElem? hz)) (q4 j z0 c hz hc)
          | buf t v bl => exact ho
          | arr v sz rows =>
            obtain ⟨hsz, ho⟩ := ho
            refine ⟨fun row hrow => ?_, ?_⟩
            · obtain ⟨row0, hr0, rfl⟩ := List.mem_map.1 hrow
              rw [renL_length]; exact hsz row0 hr0
            · cases y with
              | none => have ho : rows = [] := ho; subst ho; rfl
              | some l =>
                obtain ⟨k1, k2, k3⟩ := ho
                refine ⟨by simpa using k1, k2, fun r0 row j z hrow hz => ?_⟩
                rw [List.getElem?_map, Option.map_eq_some_iff] at hrow
                obtain ⟨row0, hr0, rfl⟩ := hrow
                rw [renL_map, List.getElem?_map, Option.map_eq_some_iff] at hz
                obtain ⟨z0, hz, rfl⟩ := hz
                obtain ⟨c, q1, q2, q3⟩ := k3 r0 row0 j z0 hr0 hz
                exact ⟨c, q1, q2, hx _ rfl rfl z0 c (hf row0 (List.mem_of_getElem? hr0) z0 (List.mem_of_getElem? hz)) q3⟩
  refine ⟨c, ⟨e'.w, e.Im, e.ρ ++ e'.ρ, e.H ++ K'.map (AObj.ren (e.H.length + ·))⟩, r.ren (e.H.length + ·), hE, hw, gg, mv', ?_, r, K', hR', rfl, rfl⟩
  cases r with
  | gr cs =>
    cases hr with
    | gr hn q1 q2 =>
      simp only [RV.ren]
      refine .gr (by rw [renL_length]; exact hn) q1 (fun j a c' ha hc' => ?_)
      rw [renL_map, List.getElem?_map, Option.map_eq_some_iff] at ha
      obtain ⟨a0, ha, rfl⟩ := ha
      exact hx _ rfl rfl a0 c' (hfr a0 (List.mem_of_getElem? ha)) (q2 j a0 c' ha hc')
  | v a => exact hx _ rfl rfl _ c hfr hr
  | os o v => exact hx _ rfl rfl _ c hfr hr
  | any => exact hfr.elim
  | bo => exact hfr.elim
  | sub _ _ _ _ => exact hfr.elim
  | pt _ _ _ _ => exact hfr.elim
  | fr _ _ => exact hfr.elim
  | bf _ _ => exact hfr.elim
  | tr _ => exact hfr.elim
  | cnd _ _ => exact hfr.elim
  | yl _ _ => exact hfr.elim
section
variable {P : Program} {rd : Option Nat} {k : List Fr} {Q : AE → AS → Prop} {σ : AS} {d : Option Nat} {os : List AO} {f : AX} {args : List AX} {fid : Nat} {caps : Caps} {xs : List AV} {R : RV → List AObj → Prop}
theorem callw (R' : RV → List AObj → Prop) (hf : fnv (ax σ.fr f) = some (fid, caps)) (hc : ∀ vs w, (callFunc fid vs).run P w = .ok (.enter fid vs) w) (h : CallS P fid (xs.map .v) [] R) (hR : ∀ r K, R r K → FlatR r ∧ ∃ K', Kept K K' ∧ R' r K') (hz : FrzL σ.hp (capd caps (args.map (ax σ.fr))) xs)
    (kk : ∀ r K, R' r K → goR P rd os k Q ⟨upd σ.fr d (r.ren (σ.hp.length + ·)), σ.hp ++ K.map (AObj.ren (σ.hp.length + ·))⟩) : goC P rd none f args d os k Q σ := by
  simp only [goC, CallK, hf]
  exact ⟨hc, (lend_own h hz R' hR).mono fun r' H' ⟨r, K, q1, h1, h2⟩ => by subst h1; subst h2; exact kk r K q1⟩
end
end Go.Av
/- A call over a block of the caller's objects. No condition. -/
set_option linter.constructorNameAsVariable false
namespace Go.Av
open Go Go.RowKit
set_option linter.unusedSimpArgs false
set_option linter.unusedVariables false
mutual
theorem ren_same {f g : Nat → Nat} {p : Nat → Prop} (h : ∀ o, p o → f o = g o) : ∀ {x : RV}, RV.dom p x → RV.ren f x = RV.ren g x
  | .v _, _ => by simp [RV.ren]
  | .any, _ => by simp [RV.ren]
  | .bo, _ => by simp [RV.ren]
  | .os o v, hd => by simp only [RV.dom] at hd; simp [RV.ren, h o hd]
  | .pt o _ _ _, hd => by simp only [RV.dom] at hd; simp [RV.ren, h o hd]
  | .sub o _ _ _, hd => by simp only [RV.dom] at hd; simp [RV.ren, h o hd]
  | .fr _ _, hd => by simp only [RV.dom] at hd; simp [RV.ren, renL_same h hd]
  | .bf _ _, hd => by simp only [RV.dom] at hd; simp [RV.ren, renL_same h hd]
  | .tr _, hd => by simp only [RV.dom] at hd; simp [RV.ren, renL_same h hd]
  | .gr cs, hd => by simp only [RV.dom] at hd; simp [RV.ren, renL_same h hd]
  | .cnd _ x, hd => by simp only [RV.dom] at hd; simp [RV.ren, ren_same h hd]
  | .yl _ _, hd => by simp only [RV.dom] at hd
theorem renL_same {f g : Nat → Nat} {p : Nat → Prop} (h : ∀ o, p o → f o = g o) : ∀ {l : List RV}, domL p l → renL f l = renL g l
  | [], _ => by simp [renL]
  | x :: l, hd => by simp only [domL] at hd; simp [renL, ren_same h hd.1, renL_same h hd.2]
end
theorem obj_same {f g : Nat → Nat} {p : Nat → Prop} (h : ∀ o, p o → f o = g o) {ob : AObj} (hd : ob.dom p) : ob.ren f = ob.ren g := by
  cases ob with
  | none => rfl
  | var cs => simp only [AObj.dom] at hd; simp [renL_same h hd]
  | xo k cs => simp only [AObj.dom] at hd; simp [renL_same h hd]
  | buf t v l => rfl
  | arr v sz rows => simp only [AObj.dom] at hd; simp only [ren_arr, AObj.arr.injEq, true_and]; exact List.map_congr_left fun row hr => renL_same h (hd row hr)
theorem amongH_of {H : List AObj} {π : List Nat} {m : Nat} : ∀ {l : List Nat} {K : List AObj}, (∀ (j o : Nat) ob, l[j]? = some o → K[j]? = some ob → ob.dom (· < m) ∧ H[o]? = some (ob.ren (upN π H.length))) → amongH H π m l K
  | [], _, _ => by simp [amongH]
  | _ :: _, [], _ => by simp [amongH]
  | o :: l, ob :: K, h => by
    simp only [amongH]
    exact ⟨h 0 o ob rfl rfl, amongH_of fun j o' ob' h1 h2 => h (j + 1) o' ob' (by simpa using h1) (by simpa using h2)⟩
section
variable {P : Program} {rd : Option Nat} {k : List Fr} {Q : AE → AS → Prop} {σ : AS} {d : Option Nat} {m : Nat} {os : List AO} {f : AX} {args : List AX} {fid : Nat} {caps : Caps} {args0 : List RV} {H0 : List AObj} {R : RV → List AObj → Prop}
theorem callb (n : Nat) (hf : fnv (ax σ.fr f) = some (fid, caps)) (hc : ∀ vs w, (callFunc fid vs).run P w = .ok (.enter fid vs) w) (h : CallS P fid args0 H0 R)
    (hat : ∀ (o : Nat) ob, H0[o]? = some ob → σ.hp[n + o]? = some (ob.ren (n + ·))) (hd : ∀ ob ∈ H0, ob.dom (· < H0.length))
    (ha : domL (· < H0.length) args0) (hx : capd caps (args.map (ax σ.fr)) = renL (n + ·) args0)
    (kk : ∀ r K g H', R r K → (∀ j, j < H0.length → g j = n + j) → σ.hp.length ≤ H'.length → (∀ o, o < n ∨ n + H0.length ≤ o → o < σ.hp.length → H'[o]? = σ.hp[o]?) →
      (∀ (o : Nat) ob, o < H0.length → K[o]? = some ob → H'[n + o]? = some (ob.ren g)) → goR P rd os k Q ⟨upd σ.fr d (RV.ren g r), H'⟩) : goC P rd none f args d os k Q σ := by
  have hg : ∀ j, j < H0.length → upN (List.range' n H0.length) σ.hp.length j = n + j := fun j hj => by
    simp [upN, hj]
  refine callf (List.range' n H0.length) hf hc h (List.nodup_range' ..) (by simp) (by simpa using ha) (amongH_of fun j o ob h1 h2 => ?_) ?_ ?_
  · have hj := (List.getElem?_eq_some_iff.1 h2).1
    have : o = n + j := by
      rw [List.getElem?_range' (by simpa using hj)] at h1
      simpa using (Option.some.inj h1).symm
    subst this
    refine ⟨by simpa using hd ob (List.mem_of_getElem? h2), ?_⟩
    rw [hat j ob h2, obj_same hg (hd ob (List.mem_of_getElem? h2))]
  · rw [hx]; exact (renL_same hg ha).symm
  · intro r K hR
    have hlen := putP_length (List.range' n H0.length) σ.hp (K.map fun ob => ob.ren (upN (List.range' n H0.length) σ.hp.length))
    refine kk r K _ _ hR hg ?_ ?_ ?_
    · simp only [putH, List.length_append, hlen]; omega
    · intro o ho hl
      simp only [putH]
      rw [List.getElem?_append_left (by rw [hlen]; exact hl), putP_out _ _ _ _ (by simp only [List.mem_range'_1]; omega)]
    · intro o ob ho hk
      have hl : n + o < σ.hp.length := by
        have := hat o _ (List.getElem?_eq_getElem ho)
        exact (List.getElem?_eq_some_iff.1 this).1
      simp only [putH]
      rw [List.getElem?_append_left (by rw [hlen]; exact hl)]
      refine putP_in _ _ _ o _ _ (List.nodup_range' ..) ?_ ?_ hl
      · rw [List.getElem?_range' (by simpa using ho)]; simp
      · rw [List.getElem?_map, hk]; rfl
end
end Go.Av
