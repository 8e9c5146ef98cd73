/- Functions that give a list in memory of its own; what is one's own is lent to them; a list may take the place of an older one. No condition. -/
import Derived.Test.YtmgbloidhmjbfaaXAv14
set_option linter.constructorNameAsVariable false
namespace Go.Av
open Go Go.RowKit
set_option linter.unusedSimpArgs false
set_option linter.unusedVariables false

def FrzL (H : List AObj) : List RV → List AV → Prop
  | [], [] => True
  | x :: xs, y :: ys => Frz H x y ∧ FrzL H xs ys
  | _, _ => False
theorem FrzL.get {H : List AObj} : ∀ {xs : List RV} {ys : List AV}, FrzL H xs ys → xs.length = ys.length ∧ ∀ (j : Nat) x y, xs[j]? = some x → ys[j]? = some y → Frz H x y
  | [], [], _ => ⟨rfl, fun j x y h => by simp at h⟩
  | x :: xs, y :: ys, h => by
    obtain ⟨h1, h2⟩ := h
    obtain ⟨h3, h4⟩ := FrzL.get h2
    refine ⟨by simp [h3], fun j a b ha hb => ?_⟩
    cases j with
    | zero => simp at ha hb; subst ha; subst hb; exact h1
    | succ j => exact h4 j a b (by simpa using ha) (by simpa using hb)
  | [], _ :: _, h => h.elim
  | _ :: _, [], h => h.elim
@[simp] theorem frzL_nil (H : List AObj) : FrzL H [] [] = True := rfl
@[simp] theorem frzL_cons (H : List AObj) (x : RV) (xs : List RV) (y : AV) (ys : List AV) : FrzL H (x :: xs) (y :: ys) = (Frz H x y ∧ FrzL H xs ys) := rfl
@[simp] theorem frz_self (H : List AObj) (x : AV) : Frz H (.v x) x ↔ True := by simp [Frz.v]
theorem frz_rows {H : List AObj} {o v sz : Nat} {l : List (List AV)} (h : H[o]? = some (.arr v sz (vrows l))) : Frz H (.os o v) (.sl sz l) := Frz.plain h
theorem frz_nil (H : List AObj) (sz : Nat) : Frz H (.v .nil) (.sl sz []) := .nil sz
theorem frz_pt {H : List AObj} {o : Nat} {cs : List AV} (h : H[o]? = some (.var (cs.map .v))) : Frz H (.pt o 0 0 0) (.pim cs) := by
  have := Frz.pt (r := 0) (off := 0) (cs' := cs) h (by simp) (fun j x x' hx hx' => by
    rw [List.getElem?_map, hx'] at hx
    cases hx
    exact .v _)
  simpa using this
theorem frz_gr {H : List AObj} {cs : List RV} {cs' : List AV} (h : FrzL H cs cs') : Frz H (.gr cs) (.g cs') := .gr h.get.1.symm h.get.2
theorem frz_tr {H : List AObj} {cs : List RV} {cs' : List AV} (h : FrzL H cs cs') : Frz H (.tr cs) (.tup cs') := .tr h.get.1.symm h.get.2

/-- A function that gives a new list of plain rows. -/
def Own1 (P : Program) (f : Nat) (xs : List AV) (sz : Nat) (rows : List (List AV)) : Prop := CallS P f (xs.map .v) [] fun r K => ∃ v, r = .os 0 v ∧ K = [.arr v sz (vrows rows)]

theorem Own1.pure {P : Program} {f : Nat} {xs : List AV} {sz : Nat} {rows : List (List AV)} (h : Own1 P f xs sz rows) : PureS P f xs (.sl sz rows) :=
  pure_of (CallS.mono h fun r K ⟨v, h1, h2⟩ => by subst h1; subst h2; exact frz_rows rfl)

/-- What is told of a new list, with what is one's own lent: the list takes the place of an older one (or comes new). -/
theorem Own1.lent {P : Program} {f : Nat} {xs : List AV} {sz : Nat} {rows : List (List AV)} (h : Own1 P f xs sz rows) (hf : ∀ row ∈ rows, ∀ x ∈ row, Flat x) {H : List AObj} {args : List RV} (hz : FrzL H args xs)
    (o : Nat) (ob' : AObj) (H' : List AObj) (vn : Nat) (hob : ob' = .arr vn sz (vrows rows))
    (hH : (H' = H ++ [ob'] ∧ o = H.length) ∨ (∃ vo szo ro, H[o]? = some (.arr vo szo ro) ∧ vo < vn ∧ H' = H.set o ob')) :
    CallS P f args H fun r' H'' => r' = .os o vn ∧ H'' = H' := by
  intro e vs g hHe hn hv
  subst hHe
  obtain ⟨hzl, hzx⟩ := hz.get
  have g0 := freeze_all g
  have hc := h ⟨e.w, fun b => e.Im b ∨ e.own b, [], []⟩ vs g0 rfl (by simp; omega) (fun j x y hj hy => by
    rw [List.getElem?_map, Option.map_eq_some_iff] at hj
    obtain ⟨x', hx', rfl⟩ := hj
    have hjl := (List.getElem?_eq_some_iff.1 hx').1
    have ha := list_get (l := args) (j := j) (by omega) RV.any
    exact .v (frz_ok g (hzx j _ x' ha hx') (hv j _ y ha hy)))
  refine hc.mono fun E w' ⟨c, e', r, hE, hw, g', mv, hr, v, h1, h2⟩ => ?_
  subst h1
  have e0 : e'.H[0]? = some (.arr v sz (vrows rows)) := by rw [h2]; rfl
  obtain ⟨lo, hlo, hav⟩ := hr.slice g' e0
  obtain ⟨hsz, hobj⟩ := g'.obj _ _ _ e0 hlo
  have sm : ∀ b, b < e.w.heap.size → e'.w.heap[b]? = e.w.heap[b]? := fun b hb => by
    by_cases ho : e.own b
    · exact mv.imw b (.inr ho)
    · exact mv.same b hb (fun ⟨o, l, h1, _⟩ => by simp at h1)
  have hnew : ∀ l, lo = some l → e.w.heap.size ≤ l.blk ∧ l.blk < e'.w.heap.size := fun l hl => by
    refine ⟨?_, g'.lt 0 l (by rw [hlo, hl])⟩
    rcases mv.ownn l.blk ⟨0, l, by rw [hlo, hl], rfl⟩ with ⟨o, l, h1, _⟩ | h3
    · simp at h1
    · exact h3
  -- the list reads so whatever else there is
  have hread : ∀ e2 : Env, e2.w = e'.w → ObjR e2 ob' lo := fun e2 he2 => by
    subst hob
    refine ⟨hsz, ?_⟩
    cases lo with
    | none => exact hobj
    | some l =>
      obtain ⟨k1, k2, k3⟩ := hobj
      refine ⟨k1, fun k hk => ?_, fun r row j x hr hx => ?_⟩
      · obtain ⟨c, h1, h2⟩ := k2 k hk
        exact ⟨c, by rw [he2]; exact h1, by rw [he2]; exact h2⟩
      · obtain ⟨c, h1, h2, h3⟩ := k3 r row j x hr hx
        refine ⟨c, by rw [he2]; exact h1, h2, ?_⟩
        simp only [vrows, List.getElem?_map, Option.map_eq_some_iff] at hr
        obtain ⟨row', hr', rfl⟩ := hr
        rw [List.getElem?_map, Option.map_eq_some_iff] at hx
        obtain ⟨x', hx', rfl⟩ := hx
        cases h3 with | v h3 => exact .v ((hf row' (List.mem_of_getElem? hr') x' (List.mem_of_getElem? hx')).vi h3)
  have hone : c.oneCell' = true := by cases hr; assumption
  have hcv : ∀ n, n = vn → osOK ob' lo n c := fun n hn => by
    subst hn; subst hob
    exact ⟨Nat.le_refl _, fun _ => hav⟩
  rcases hH with ⟨rfl, rfl⟩ | ⟨vo, szo, ro, ho, hlt, rfl⟩
  · have hp := push_ok g e'.w ob' lo mv.os mv.tape mv.output mv.size sm hnew (fun e2 he2 _ => hread e2 he2)
    refine ⟨c, ⟨e'.w, e.Im, e.ρ ++ [lo], e.H ++ [ob']⟩, .os e.H.length vn, hE, hw, hp.1, hp.2, ?_, rfl, rfl⟩
    exact .os ob' lo (by simp) (by simp [← g.len]) (hcv vn rfl) hone
  · have holt : o < e.H.length := (List.getElem?_eq_some_iff.1 ho).1
    have holr : o < e.ρ.length := by rw [g.len]; exact holt
    have mv' : Mv e ⟨e'.w, e.Im, e.ρ.set o lo, e.H.set o ob'⟩ := by
      refine ⟨mv.os, mv.tape, mv.output, mv.size, fun b hb _ => sm b hb, fun _ h => h, fun b hb => sm b (g.imlt b hb), fun _ h => .inl h, ?_, ?_⟩
      · intro k x y hx hy
        by_cases hk : o = k
        · subst hk
          refine ⟨ob', lo, by simp [holt], by simp [holr], ?_⟩
          rw [ho] at hx; cases hx
          subst hob
          exact ⟨vo, szo, ro, rfl, .inl hlt⟩
        · exact ⟨x, y, by simp [List.getElem?_set, hk, hx], by simp [List.getElem?_set, hk, hy], .refl _ _⟩
      · rintro b ⟨k, l, hk, rfl⟩
        have hk : (e.ρ.set o lo)[k]? = some (some l) := hk
        rcases set_get hk with ⟨_, hk⟩ | ⟨_, hk⟩
        · exact .inr (hnew l hk.symm).1
        · exact .inl ⟨k, l, hk, rfl⟩
    have hlk : ∀ (k : Nat) l, (e.ρ.set o lo)[k]? = some (some l) → (k = o ∧ lo = some l) ∨ (k ≠ o ∧ e.ρ[k]? = some (some l)) := fun k l hk => by
      rcases set_get hk with ⟨h1, h2⟩ | ⟨h1, h2⟩
      · exact .inl ⟨h1.symm, h2.symm⟩
      · exact .inr ⟨fun hc => h1 hc.symm, h2⟩
    refine ⟨c, ⟨e'.w, e.Im, e.ρ.set o lo, e.H.set o ob'⟩, .os o vn, hE, hw, ⟨by simp [g.len], ?_, ?_, ?_, fun b hb => Nat.lt_of_lt_of_le (g.imlt b hb) mv.size, ?_⟩, mv', ?_, rfl, rfl⟩
    · intro k k' l l' hk hk' hne
      rcases hlk k l hk with ⟨a1, a2⟩ | ⟨a1, a2⟩ <;> rcases hlk k' l' hk' with ⟨b1, b2⟩ | ⟨b1, b2⟩
      · exact absurd (a1.trans b1.symm) hne
      · have h3 := (hnew l a2).1; have h4 := g.lt k' l' b2; omega
      · have h3 := (hnew l' b2).1; have h4 := g.lt k l a2; omega
      · exact g.inj k k' l l' a2 b2 hne
    · intro k l hk hi
      rcases hlk k l hk with ⟨a1, a2⟩ | ⟨a1, a2⟩
      · have h3 := (hnew l a2).1; have h4 := g.imlt _ hi; omega
      · exact g.dis k l a2 hi
    · intro k l hk
      rcases hlk k l hk with ⟨a1, a2⟩ | ⟨a1, a2⟩
      · exact (hnew l a2).2
      · exact Nat.lt_of_lt_of_le (g.lt k l a2) mv.size
    · intro k x y hx hy
      rcases set_get hx with ⟨h1, rfl⟩ | ⟨h1, hx⟩
      · rcases set_get hy with ⟨_, rfl⟩ | ⟨h2, _⟩
        · exact hread _ rfl
        · exact absurd h1 h2
      · rcases set_get hy with ⟨h2, _⟩ | ⟨_, hy⟩
        · exact absurd h2 h1
        · exact (g.obj k x y hx hy).keep (fun l hl => sm _ (g.lt k l (by rw [hy, hl]))) mv'
    · exact .os ob' lo (by simp [holt]) (by simp [holr]) (hcv vn rfl) hone

section
variable {P : Program} {rd : Option Nat} {k : List Fr} {Q : AE → AS → Prop} {σ : AS} {d : Option Nat} {m : Nat} {os : List AO} {f : AX} {args : List AX} {fid : Nat} {caps : Caps} {xs : List AV} {r : AV} {sz : Nat} {rows : List (List AV)} {l : List (List (Nat × RV) × AO × RV)}
/-- A call that gives a new list. -/
theorem callo (hf : fnv (ax σ.fr f) = some (fid, caps)) (hc : ∀ vs w, (callFunc fid vs).run P w = .ok (.enter fid vs) w) (h : Own1 P fid xs sz rows) (hfl : ∀ row ∈ rows, ∀ x ∈ row, Flat x) (hz : FrzL σ.hp (capd caps (args.map (ax σ.fr))) xs)
    (kk : goR P rd os k Q ⟨upd σ.fr d (.os σ.hp.length 0), σ.hp ++ [.arr 0 sz (vrows rows)]⟩) : goC P rd none f args d os k Q σ := by
  simp only [goC, CallK, hf]
  exact ⟨hc, (h.lent hfl hz σ.hp.length _ _ 0 rfl (.inl ⟨rfl, rfl⟩)).mono fun r' H' ⟨h1, h2⟩ => by subst h1; subst h2; exact kk⟩
/-- A call that gives a new list, in the place of list o. -/
theorem callv (o : Nat) {vo szo : Nat} {ro : List (List RV)} (hf : fnv (ax σ.fr f) = some (fid, caps)) (hc : ∀ vs w, (callFunc fid vs).run P w = .ok (.enter fid vs) w) (h : Own1 P fid xs sz rows) (hfl : ∀ row ∈ rows, ∀ x ∈ row, Flat x) (ho : σ.hp[o]? = some (.arr vo szo ro)) (hz : FrzL σ.hp (capd caps (args.map (ax σ.fr))) xs)
    (kk : goR P rd os k Q ⟨upd σ.fr d (.os o (vo + 1)), σ.hp.set o (.arr (vo + 1) sz (vrows rows))⟩) : goC P rd none f args d os k Q σ := by
  simp only [goC, CallK, hf]
  exact ⟨hc, (h.lent hfl hz o _ _ (vo + 1) rfl (.inr ⟨vo, szo, ro, ho, Nat.lt_succ_self _, rfl⟩)).mono fun r' H' ⟨h1, h2⟩ => by subst h1; subst h2; exact kk⟩
theorem callz (hf : fnv (ax σ.fr f) = some (fid, caps)) (hc : ∀ vs w, (callFunc fid vs).run P w = .ok (.enter fid vs) w) (h : PureS P fid xs r) (hr : Flat r)
    (hz : FrzL σ.hp (capd caps (args.map (ax σ.fr))) xs) (kk : goR P rd os k Q ⟨upd σ.fr d (.v r), σ.hp⟩) : goC P rd none f args d os k Q σ :=
  calll hf hc h hr rfl hz.get.1 hz.get.2 kk
theorem callzs (hf : fnv (ax σ.fr f) = some (fid, caps)) (hc : ∀ vs w, (callFunc fid vs).run P w = .ok (.enter fid vs) w) (h : PureS P fid xs r) (hr : Flat r)
    (hz : FrzL σ.hp (capd caps (args.map (ax σ.fr))) xs) (kk : goS P rd l os k Q ⟨upd σ.fr d (.v r), σ.hp⟩) : goCS P rd l none f args d os k Q σ := by
  simp only [goCS, CallK, hf]
  exact ⟨hc, (lend h hr hz.get.1 hz.get.2).mono fun r' H' ⟨h1, h2⟩ => by subst h1; subst h2; exact ⟨.inl rfl, kk⟩⟩
end

theorem flat_rows {α : Type} {f : α → List AV} {l : List α} (h : ∀ a, ∀ x ∈ f a, Flat x) : ∀ row ∈ l.map f, ∀ x ∈ row, Flat x := by
  intro row hr x hx
  obtain ⟨a, _, rfl⟩ := List.mem_map.1 hr
  exact h a x hx

attribute [simp] tupV evResL

/-- A function's contract, out of its walk, with the objects from n on let go. -/
theorem fun_cut {P : Program} {f : Nat} {fn : Func} {c : ACode} {rs : List ARes} {args : List RV} {H : List AObj} {R : RV → List AObj → Prop} (n : Nat) (hmx : P.follows .mixedOrders = true) (hf : P.funcs[f]? = some fn) (hc : (fn.body.bind (resC P fn.ntmps)) = some (strip c))
    (hr : fn.results.toList.mapM (resRes P) = some rs) (hn : args.length ≤ fn.ntmps) (hl : H.length ≤ n)
    (h : go P none c [] (retQ rs fun r H' => RV.dom (· < n) r ∧ lowH n (H'.take n) ∧ R r (H'.take n)) ⟨zipA 0 args, H⟩) : CallS P f args H R :=
  .cut n hl (fun_go hmx hf hc hr hn h)

/-- A function's contract, out of its walk, with what is kept of its objects. -/
theorem fun_sel {P : Program} {f : Nat} {fn : Func} {c : ACode} {rs : List ARes} {args : List RV} {H : List AObj} {R : RV → List AObj → Prop} (S : List Nat) (hmx : P.follows .mixedOrders = true) (hf : P.funcs[f]? = some fn) (hc : (fn.body.bind (resC P fn.ntmps)) = some (strip c))
    (hr : fn.results.toList.mapM (resRes P) = some rs) (hn : args.length ≤ fn.ntmps) (nd : S.Nodup) (hS : ∀ o, o < H.length → S[o]? = some o)
    (h : go P none c [] (retQ rs fun r H' => RV.dom (· ∈ S) r ∧ (∀ o ∈ S, o < H'.length ∧ ((H'[o]?).getD .none).dom (· ∈ S)) ∧ R (RV.ren (S.idxOf ·) r) (S.map fun o => ((H'[o]?).getD .none).ren (S.idxOf ·))) ⟨zipA 0 args, H⟩) : CallS P f args H R :=
  .sel S nd hS (fun_go hmx hf hc hr hn h)
end Go.Av
