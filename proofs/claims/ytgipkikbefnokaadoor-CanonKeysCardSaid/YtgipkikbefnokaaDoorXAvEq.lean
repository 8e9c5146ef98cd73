/- Two structs or arrays of whole numbers, bools and strings are the same just if their cells are. No condition. -/
import Derived.Laws.StructEq
import Derived.ChangeKeysEq
import Derived.Test.YtgipkikbefnokaaDoorXAv3
import Derived.MapKept
import Derived.WideKeyRuns
set_option linter.constructorNameAsVariable false
namespace Go.Av
open Go Go.RowKit
set_option linter.unusedSimpArgs false
set_option linter.unusedVariables false

def cellEq : CK → Value → Value → Option Bool
  | .i, .int k a, .int k' b => if k = k' then some (a == b) else none
  | .b, .bool a, .bool b => some (a == b)
  | .s, .string a, .string b => some (a.toList == b.toList)
  | _, _, _ => none

def eqC : List CK → List Value → List Value → Option Bool
  | [], [], [] => some true
  | k :: ks, a :: as, b :: bs => (cellEq k a b).bind fun r => (eqC ks as bs).map fun r' => r && r'
  | _, _, _ => none

theorem eqC_append : ∀ {k1 k2 : List CK} {as bs : List Value} {r : Bool}, eqC (k1 ++ k2) as bs = some r →
    ∃ r1 r2, eqC k1 (as.take k1.length) (bs.take k1.length) = some r1 ∧ eqC k2 (as.drop k1.length) (bs.drop k1.length) = some r2 ∧ r = (r1 && r2)
  | [], k2, as, bs, r, h => ⟨true, r, by simp [eqC], by simpa using h, by simp⟩
  | k :: k1, k2, as, bs, r, h => by
    cases as with
    | nil => cases bs <;> simp [eqC] at h
    | cons a as =>
      cases bs with
      | nil => simp [eqC] at h
      | cons b bs =>
        simp only [List.cons_append, eqC, Option.bind_eq_some_iff, Option.map_eq_some_iff] at h
        obtain ⟨r0, h0, r', h', rfl⟩ := h
        obtain ⟨r1, r2, h1, h2, rfl⟩ := eqC_append h'
        exact ⟨r0 && r1, r2, by simp [eqC, h0, h1], by simpa using h2, by simp [Bool.and_assoc]⟩

theorem eqC_len : ∀ {ks : List CK} {as bs : List Value} {r : Bool}, eqC ks as bs = some r → as.length = ks.length ∧ bs.length = ks.length
  | [], [], [], _, _ => ⟨rfl, rfl⟩
  | k :: ks, a :: as, b :: bs, r, h => by
    simp only [eqC, Option.bind_eq_some_iff, Option.map_eq_some_iff] at h
    obtain ⟨_, _, _, h2, _⟩ := h
    have := eqC_len h2
    simp [this]
  | [], _ :: _, [], _, h => by simp [eqC] at h
  | [], [], _ :: _, _, h => by simp [eqC] at h
  | [], _ :: _, _ :: _, _, h => by simp [eqC] at h
  | _ :: _, [], [], _, h => by simp [eqC] at h
  | _ :: _, [], _ :: _, _, h => by simp [eqC] at h
  | _ :: _, _ :: _, [], _, h => by simp [eqC] at h

theorem cellEq_b {a b : Value} {r : Bool} (h : cellEq .b a b = some r) : ∃ x y, a = .bool x ∧ b = .bool y ∧ r = (x == y) := by
  cases a <;> cases b <;> simp [cellEq] at h
  exact ⟨_, _, rfl, rfl, h.symm⟩
theorem cellEq_i {a b : Value} {r : Bool} (h : cellEq .i a b = some r) : ∃ k x y, a = .int k x ∧ b = .int k y ∧ r = (x == y) := by
  cases a <;> cases b <;> simp [cellEq] at h
  obtain ⟨rfl, h⟩ := h
  exact ⟨_, _, _, rfl, rfl, h.symm⟩
theorem cellEq_s {a b : Value} {r : Bool} (h : cellEq .s a b = some r) : ∃ x y, a = .string x ∧ b = .string y ∧ r = (x.toList == y.toList) := by
  cases a <;> cases b <;> simp [cellEq] at h
  exact ⟨_, _, rfl, rfl, h.symm⟩

def EqF (P : Program) (k : Nat) (t : TypeId) (ks : List CK) : Prop :=
  ∀ (w : World) (xs ys : Array Value) (off : Nat) (r : Bool), eqC ks ((xs.toList.drop off).take ks.length) ((ys.toList.drop off).take ks.length) = some r →
    ∃ a b, (part t xs off).run P w = .ok a w ∧ (part t ys off).run P w = .ok b w ∧ (Op.equalIn k t a b).run P w = .ok r w

theorem part_agg {P : Program} {t : TypeId} {z : Nat} (hz : tSize P t = some z) (hu : (∃ fs, P.underlying t = some (.struct fs)) ∨ ∃ n e, P.underlying t = some (.array n e)) (xs : Array Value) (off : Nat) (w : World) : (part t xs off).run P w = .ok (.agg (xs.extract off (off + z))) w := by
  obtain ⟨i, hi, rfl⟩ := Option.map_eq_some_iff.1 hz
  have hs : aggSize P t = some (some i.size) := by
    unfold aggSize
    rcases hu with ⟨fs, hu⟩ | ⟨n, e, hu⟩ <;> rw [hu, hi]
  exact part_some hs w

theorem ext_list (xs : Array Value) (off z : Nat) : (xs.extract off (off + z)).toList = (xs.toList.drop off).take z := by
  rw [Array.toList_extract]; simp [List.extract]

theorem eqFields_ok {P : Program} {rec : TypeId → Option (List CK)} {k : Nat} (IH : ∀ t ks, rec t = some ks → tSize P t = some ks.length → EqF P k t ks) (w : World) (xs ys : Array Value) : ∀ (fs : List Field) (off : Nat) (ks : List CK) (r : Bool), flatF P rec fs off = some ks →
    eqC ks ((xs.toList.drop off).take ks.length) ((ys.toList.drop off).take ks.length) = some r → (Op.eqFields k xs ys fs).run P w = .ok r w
  | [], off, ks, r, h, hr => by
    simp [flatF] at h; subst h
    simp [eqC] at hr; subst hr
    simp [Op.eqFields]
  | f :: fs, off, ks, r, h, hr => by
    simp only [flatF] at h
    split at h
    · rename_i hn
      simp only [Bool.and_eq_true, bne_iff_ne, ne_eq, beq_iff_eq] at hn
      obtain ⟨hn, ho⟩ := hn
      simp only [Option.bind_eq_some_iff] at h
      obtain ⟨k1, hk1, h⟩ := h
      split at h
      · rename_i hz
        obtain ⟨k2, hk2, rfl⟩ := Option.map_eq_some_iff.1 h
        obtain ⟨r1, r2, h1, h2, rfl⟩ := eqC_append hr
        simp only [List.take_take, List.length_append, List.drop_take, List.drop_drop] at h1 h2
        have e1 : min k1.length (k1.length + k2.length) = k1.length := by omega
        have e2 : k1.length + k2.length - k1.length = k2.length := by omega
        rw [e1] at h1
        rw [e2] at h2
        obtain ⟨a, b, p1, p2, p3⟩ := IH f.type k1 hk1 hz w xs ys off r1 h1
        have := eqFields_ok IH w xs ys fs (off + k1.length) k2 r2 hk2 h2
        simp only [Op.eqFields, hn, ne_eq, not_false_eq_true, if_true, Sem.run_bind, ho, p1, p2, p3, Result.andThen_ok]
        cases r1
        · simp
        · simpa using this
      · cases h
    · cases h

theorem eqItems_ok {P : Program} {e : TypeId} {ks : List CK} {k : Nat} (IH : EqF P k e ks) (hc : P.cellsOf e = ks.length) (w : World) (xs ys : Array Value) : ∀ (n i : Nat) (r : Bool),
    eqC (List.replicate n ks).flatten ((xs.toList.drop (i * ks.length)).take (n * ks.length)) ((ys.toList.drop (i * ks.length)).take (n * ks.length)) = some r → (Op.eqItems k e (P.cellsOf e) xs ys (List.range' i n)).run P w = .ok r w
  | 0, i, r, hr => by
    simp [eqC] at hr; subst hr
    simp [Op.eqItems]
  | n + 1, i, r, hr => by
    rw [List.replicate_succ, List.flatten_cons] at hr
    obtain ⟨r1, r2, h1, h2, rfl⟩ := eqC_append hr
    simp only [List.take_take, List.drop_take, List.drop_drop] at h1 h2
    have e1 : min ks.length ((n + 1) * ks.length) = ks.length := by rw [Nat.add_mul]; omega
    have e2 : (n + 1) * ks.length - ks.length = n * ks.length := by rw [Nat.add_mul]; omega
    have e3 : i * ks.length + ks.length = (i + 1) * ks.length := by rw [Nat.add_mul]; omega
    rw [e1] at h1
    rw [e2, e3] at h2
    obtain ⟨a, b, p1, p2, p3⟩ := IH w xs ys (i * ks.length) r1 h1
    have := eqItems_ok IH hc w xs ys n (i + 1) r2 h2
    rw [List.range'_succ]
    simp only [Op.eqItems, Sem.run_bind, hc, p1, p2, p3, Result.andThen_ok]
    rw [hc] at this
    cases r1
    · simp
    · simpa using this

theorem flat_size {P : Program} {rec : TypeId → Option (List CK)} : ∀ (n : Nat) (ks : List CK), (List.replicate n ks).flatten.length = n * ks.length
  | n, ks => by simp

theorem get_cell {l : List Value} {off : Nat} {a : Value} {xs : Array Value} (h : (xs.toList.drop off).take 1 = [a]) : xs[off]? = some a := by
  have : ((xs.toList.drop off).take 1)[0]? = some a := by rw [h]; rfl
  rw [List.getElem?_take] at this
  simpa using this

theorem flat_ok {P : Program} : ∀ (d : Nat) (t : TypeId) (ks : List CK), flatK P d t = some ks → tSize P t = some ks.length → ∀ k, EqF P (k + d) t ks := by
  intro d
  induction d with
  | zero => intro t ks h; simp [flatK] at h
  | succ d ih =>
    intro t ks h hz k w xs ys off r hr
    rw [show k + (d + 1) = (k + d) + 1 from rfl]
    obtain ⟨i, hi, hiz⟩ := Option.map_eq_some_iff.1 hz
    have one : ∀ {dd : TypeDesc} {c : CK}, P.underlying t = some dd → (∀ fs, dd ≠ .struct fs) → (∀ n e, dd ≠ .array n e) → ks = [c] → (∀ a b r, cellEq c a b = some r → (Op.equalIn (k + d + 1) t a b).run P w = .ok r w) →
        ∃ a b, (part t xs off).run P w = .ok a w ∧ (part t ys off).run P w = .ok b w ∧ (Op.equalIn (k + d + 1) t a b).run P w = .ok r w := by
      intro dd c hu h1 h2 hks heq
      subst hks
      have hs : aggSize P t = some none := by unfold aggSize; rw [hu, hi]; cases dd <;> simp_all
      have hl := eqC_len hr
      obtain ⟨a, ha⟩ := List.length_eq_one_iff.1 hl.1
      obtain ⟨b, hb⟩ := List.length_eq_one_iff.1 hl.2
      rw [ha, hb] at hr
      simp only [eqC, Option.bind_eq_some_iff, Option.map_eq_some_iff] at hr
      obtain ⟨r0, h0, r', h', rfl⟩ := hr
      cases h'
      refine ⟨a, b, part_none hs (get_cell (l := []) ha) w, part_none hs (get_cell (l := []) hb) w, ?_⟩
      rw [Bool.and_true]
      exact heq a b r0 h0
    unfold flatK at h
    split at h
    · rename_i hu
      cases h
      refine one hu (by simp) (by simp) rfl ?_
      intro a b r h
      obtain ⟨x, y, rfl, rfl, rfl⟩ := cellEq_b h
      exact run_equalIn_bool' w (k + d) t x y hu
    · rename_i k' hu
      cases h
      refine one hu (by simp) (by simp) rfl ?_
      intro a b r h
      obtain ⟨k2, x, y, rfl, rfl, rfl⟩ := cellEq_i h
      exact run_equalIn_int w (k + d) t k2 k' x y hu
    · rename_i hu
      cases h
      refine one hu (by simp) (by simp) rfl ?_
      intro a b r h
      obtain ⟨x, y, rfl, rfl, rfl⟩ := cellEq_s h
      exact run_equalIn_string w (k + d) t x y hu
    · rename_i fs hu
      split at h
      · cases h
      · rename_i hst
        refine ⟨_, _, part_agg hz (.inl ⟨fs, hu⟩) xs off w, part_agg hz (.inl ⟨fs, hu⟩) ys off w, ?_⟩
        have hfs : P.fieldsOf t = fs := by simp [Program.fieldsOf, hu]
        rw [run_equalIn_struct w (k + d) t _ _ (by rw [hfs]; exact hu) (by simpa using hst), hfs]
        refine eqFields_ok (fun t' ks' h1 h2 => ih t' ks' h1 h2 k) w _ _ fs.toList 0 ks r h ?_
        rw [ext_list, ext_list]
        simpa [List.take_take] using hr
    · rename_i n e hu
      simp only [Option.bind_eq_some_iff] at h
      obtain ⟨k1, hk1, h⟩ := h
      split at h
      · rename_i hze
        cases h
        refine ⟨_, _, part_agg hz (.inr ⟨n, e, hu⟩) xs off w, part_agg hz (.inr ⟨n, e, hu⟩) ys off w, ?_⟩
        obtain ⟨ie, hie, hiez⟩ := Option.map_eq_some_iff.1 hze
        rw [run_equalIn_array w (k + d) _ _ hu hie, List.range_eq_range']
        refine eqItems_ok (ih e k1 hk1 hze k) (by simp [Program.cellsOf, hie, hiez]) w _ _ n 0 r ?_
        rw [ext_list, ext_list]
        rw [flat_size (P := P) (rec := fun _ => none)] at hr
        simpa [List.take_take] using hr
      · cases h
    · cases h

/-! ### Of values -/
theorem cell_ok {w : World} {Im : Nat → Prop} {k : CK} {a b : AV} {x y : Value} (hx : VI w Im a x) (hy : VI w Im b y) (h : fitA1 k a b) : cellEq k x y = some (eqA1 k a b) := by
  unfold fitA1 at h
  split at h
  · cases hx; cases hy; subst h; simp [cellEq, eqA1]
  · cases hx; cases hy; simp [cellEq, eqA1]
  · cases hx; cases hy; simp [cellEq, eqA1, ByteArray.toList_eq]
  · exact h.elim

theorem eqA_ok {w : World} {Im : Nat → Prop} : ∀ {ks : List CK} {as bs : List AV} {xs ys : List Value}, fitA ks as bs → xs.length = as.length → ys.length = bs.length → (∀ (j : Nat) a x, as[j]? = some a → xs[j]? = some x → VI w Im a x) → (∀ (j : Nat) a x, bs[j]? = some a → ys[j]? = some x → VI w Im a x) →
    eqC ks xs ys = some (eqA ks as bs)
  | [], [], [], xs, ys, _, h1, h2, _, _ => by
    obtain rfl : xs = [] := List.eq_nil_of_length_eq_zero (by simpa using h1)
    obtain rfl : ys = [] := List.eq_nil_of_length_eq_zero (by simpa using h2)
    rfl
  | [k], [a], [b], xs, ys, h, h1, h2, hx, hy => by
    obtain ⟨x, rfl⟩ := List.length_eq_one_iff.1 (show xs.length = 1 by simpa using h1)
    obtain ⟨y, rfl⟩ := List.length_eq_one_iff.1 (show ys.length = 1 by simpa using h2)
    simp [eqC, cell_ok (hx 0 a x rfl rfl) (hy 0 b y rfl rfl) h, eqA]
  | k :: k2 :: ks, a :: as, b :: bs, xs, ys, h, h1, h2, hx, hy => by
    cases xs with
    | nil => simp at h1
    | cons x xs =>
      cases ys with
      | nil => simp at h2
      | cons y ys =>
        obtain ⟨h3, h4⟩ := (show fitA1 k a b ∧ fitA (k2 :: ks) as bs from by unfold fitA at h; exact h)
        have ih := eqA_ok (xs := xs) (ys := ys) h4 (by simpa using h1) (by simpa using h2) (fun j a x p q => hx (j + 1) a x (by simpa using p) (by simpa using q)) (fun j a x p q => hy (j + 1) a x (by simpa using p) (by simpa using q))
        rw [eqC, cell_ok (hx 0 a x rfl rfl) (hy 0 b y rfl rfl) h3, ih]
        simp [eqA]
  | [], _ :: _, _, _, _, h, _, _, _, _ => by simp [fitA] at h
  | [], [], _ :: _, _, _, h, _, _, _, _ => by simp [fitA] at h
  | _ :: _, [], _, _, _, h, _, _, _, _ => by simp [fitA] at h
  | _ :: _, _ :: _, [], _, _, h, _, _, _, _ => by simp [fitA] at h
  | [_], _ :: _ :: _, _ :: _, _, _, h, _, _, _, _ => by simp [fitA] at h
  | [_], [_], _ :: _ :: _, _, _, h, _, _, _, _ => by simp [fitA] at h

theorem equal_ok {P : Program} {t : TypeId} {ks : List CK} {d : Nat} (hd : d ≤ 10000) (h : flatK P d t = some ks) (hz : tSize P t = some ks.length) (hu : ∃ k, aggSize P t = some (some k)) {w : World} {Im : Nat → Prop} {as bs : List AV} {a b : Value} (ha : VI w Im (.g as) a) (hb : VI w Im (.g bs) b) (hf : fitA ks as bs) :
    (Op.equal t a b).run P w = .ok (eqA ks as bs) w := by
  cases ha with
  | g _ vs hn _ hv =>
    cases hb with
    | g _ us hm _ hw =>
      have hr := eqA_ok (w := w) (Im := Im) (xs := vs.toList) (ys := us.toList) hf (by simpa using hn) (by simpa using hm) (fun j a x p q => hv j a x p (by simpa using q)) (fun j a x p q => hw j a x p (by simpa using q))
      have hl := eqC_len hr
      obtain ⟨x, y, p1, p2, p3⟩ := flat_ok d t ks h hz (10000 - d) w vs us 0 _ (by rw [List.drop_zero, List.drop_zero, List.take_of_length_le (by omega), List.take_of_length_le (by omega)]; exact hr)
      obtain ⟨k, hk⟩ := hu
      have hkz : k = ks.length := by
        have := (aggSize_ok hk w).2 k rfl
        rw [run_sizeOf hz] at this; simpa using this.symm
      subst hkz
      rw [part_some hk] at p1 p2
      have e1 : vs.extract 0 (0 + ks.length) = vs := by apply Array.ext'; rw [ext_list, List.drop_zero, List.take_of_length_le (Nat.le_of_eq hl.1)]
      have e2 : us.extract 0 (0 + ks.length) = us := by apply Array.ext'; rw [ext_list, List.drop_zero, List.take_of_length_le (Nat.le_of_eq hl.2)]
      rw [e1] at p1
      rw [e2] at p2
      cases p1; cases p2
      rw [show 10000 - d + d = 10000 by omega] at p3
      exact p3

end Go.Av
/- Maps whose keys are whole numbers, bools, strings, or arrays and structs of such: what is found in them. No condition. -/
set_option linter.constructorNameAsVariable false
namespace Go.Av
open Go Go.RowKit
set_option linter.unusedSimpArgs false
set_option linter.unusedVariables false

theorem mpairs_ok : ∀ {cs : List RV} {ps : List (AV × AV)}, mpairs cs = some ps → cs = mrow ps
  | [], ps, h => by simp [mpairs] at h; subst h; rfl
  | [x], ps, h => by cases x <;> simp [mpairs] at h
  | .v k :: .v x :: r, ps, h => by
    simp only [mpairs, Option.map_eq_some_iff] at h
    obtain ⟨ps', h, rfl⟩ := h
    rw [mpairs_ok h]; rfl
  | .v k :: .os _ _ :: r, ps, h => by simp [mpairs] at h
  | .v k :: .sub _ _ _ _ :: r, ps, h => by simp [mpairs] at h
  | .v k :: .pt _ _ _ _ :: r, ps, h => by simp [mpairs] at h
  | .v k :: .fr _ _ :: r, ps, h => by simp [mpairs] at h
  | .v k :: .bf _ _ :: r, ps, h => by simp [mpairs] at h
  | .v k :: .tr _ :: r, ps, h => by simp [mpairs] at h
  | .v k :: .gr _ :: r, ps, h => by simp [mpairs] at h
  | .v k :: .any :: r, ps, h => by simp [mpairs] at h
  | .v k :: .bo :: r, ps, h => by simp [mpairs] at h
  | .v k :: .cnd _ _ :: r, ps, h => by simp [mpairs] at h
  | .v k :: .yl _ _ :: r, ps, h => by simp [mpairs] at h
  | .os _ _ :: _ :: r, ps, h => by simp [mpairs] at h
  | .sub _ _ _ _ :: _ :: r, ps, h => by simp [mpairs] at h
  | .pt _ _ _ _ :: _ :: r, ps, h => by simp [mpairs] at h
  | .fr _ _ :: _ :: r, ps, h => by simp [mpairs] at h
  | .bf _ _ :: _ :: r, ps, h => by simp [mpairs] at h
  | .tr _ :: _ :: r, ps, h => by simp [mpairs] at h
  | .gr _ :: _ :: r, ps, h => by simp [mpairs] at h
  | .any :: _ :: r, ps, h => by simp [mpairs] at h
  | .bo :: _ :: r, ps, h => by simp [mpairs] at h
  | .cnd _ _ :: _ :: r, ps, h => by simp [mpairs] at h
  | .yl _ _ :: _ :: r, ps, h => by simp [mpairs] at h
@[simp] theorem mpairs_mrow : ∀ (ps : List (AV × AV)), mpairs (mrow ps) = some ps
  | [] => rfl
  | p :: ps => by
    show (mpairs (mrow ps)).map ((p.1, p.2) :: ·) = _
    rw [mpairs_mrow ps]; rfl
@[simp] theorem mrow_length (ps : List (AV × AV)) : (mrow ps).length = 2 * ps.length := by
  induction ps with
  | nil => rfl
  | cons p ps ih => show (mrow ps).length + 2 = _; rw [ih]; simp; omega
theorem mrow_cons (p : AV × AV) (ps : List (AV × AV)) : mrow (p :: ps) = .v p.1 :: .v p.2 :: mrow ps := rfl

def MapV (e : Env) (ps : List (AV × AV)) (vs : List Value) : Prop := vs.length = 2 * ps.length ∧ ∀ (j : Nat) x c, (mrow ps)[j]? = some x → vs[j]? = some c → VR e x c
theorem MapV.nil {e : Env} : MapV e [] [] := ⟨rfl, fun j x c h => by simp [mrow] at h⟩
theorem MapV.cons {e : Env} {p : AV × AV} {ps : List (AV × AV)} {a b : Value} {vs : List Value} (h : MapV e (p :: ps) (a :: b :: vs)) : VI e.w e.Im p.1 a ∧ VI e.w e.Im p.2 b ∧ MapV e ps vs := by
  obtain ⟨h1, h2⟩ := h
  refine ⟨vr_v (h2 0 _ _ rfl rfl), vr_v (h2 1 _ _ rfl rfl), by simp at h1; omega, fun j x c hx hc => h2 (j + 2) x c ?_ ?_⟩
  · rw [mrow_cons]; simpa using hx
  · simpa using hc
theorem MapV.mk {e : Env} {p : AV × AV} {ps : List (AV × AV)} {a b : Value} {vs : List Value} (ha : VI e.w e.Im p.1 a) (hb : VI e.w e.Im p.2 b) (h : MapV e ps vs) : MapV e (p :: ps) (a :: b :: vs) := by
  obtain ⟨h1, h2⟩ := h
  refine ⟨by simp; omega, fun j x c hx hc => ?_⟩
  rw [mrow_cons] at hx
  match j with
  | 0 => simp at hx hc; subst hx; subst hc; exact .v ha
  | 1 => simp at hx hc; subst hx; subst hc; exact .v hb
  | j + 2 => exact h2 j x c (by simpa using hx) (by simpa using hc)
theorem MapV.split {e : Env} {p : AV × AV} {ps : List (AV × AV)} {vs : List Value} (h : MapV e (p :: ps) vs) : ∃ a b vs', vs = a :: b :: vs' := by
  obtain ⟨h1, _⟩ := h
  match vs, h1 with
  | a :: b :: vs', _ => exact ⟨a, b, vs', rfl⟩
  | [a], h => simp at h; omega
  | [], h => simp at h
theorem MapV.mapV_nil {e : Env} {vs : List Value} (h : MapV e [] vs) : vs = [] := List.eq_nil_of_length_eq_zero (by simpa using h.1)
theorem MapV.mono {e e' : Env} {ps : List (AV × AV)} {vs : List Value} (h : MapV e ps vs) (hv : ∀ x c, VR e x c → VR e' x c) : MapV e' ps vs := ⟨h.1, fun j x c hx hc => hv x c (h.2 j x c hx hc)⟩

theorem ents_len {e : Env} : ∀ {ps : List (AV × AV)} {vs : List Value} (n : Nat), MapV e ps vs → (entsV n vs).length = ps.length
  | [], vs, n, h => by rw [h.mapV_nil]; rfl
  | p :: ps, vs, n, h => by
    obtain ⟨a, b, vs', rfl⟩ := h.split
    simp [entsV, ents_len (n + 1) h.cons.2.2]
theorem ents_get {e : Env} : ∀ {ps : List (AV × AV)} {vs : List Value} (n : Nat), MapV e ps vs → ∀ (i : Nat) (p : AV × AV), ps[i]? = some p → ∃ a b, (entsV n vs)[i]? = some ⟨a, b, n + i⟩ ∧ VI e.w e.Im p.1 a ∧ VI e.w e.Im p.2 b
  | [], vs, n, h, i, p, hi => by simp at hi
  | q :: ps, vs, n, h, i, p, hi => by
    obtain ⟨a, b, vs', rfl⟩ := h.split
    cases i with
    | zero => simp at hi; subst hi; exact ⟨a, b, by simp [entsV], h.cons.1, h.cons.2.1⟩
    | succ i =>
      obtain ⟨a', b', h1, h2, h3⟩ := ents_get (n + 1) h.cons.2.2 i p (by simpa using hi)
      exact ⟨a', b', by simp only [entsV, List.getElem?_cons_succ, h1]; congr 2; omega, h2, h3⟩

/-! ### Keys -/
theorem run_aggSize_none {P : Program} {t : TypeId} {ks : List CK} {d : Nat} (h : flatK P d t = some ks) (hs : aggSize P t = some none) : ∃ c, ks = [c] ∧ ((c = .b ∧ P.underlying t = some .bool) ∨ (c = .i ∧ ∃ k, P.underlying t = some (.int k)) ∨ (c = .s ∧ P.underlying t = some .string)) := by
  cases d with
  | zero => simp [flatK] at h
  | succ d =>
    unfold flatK at h
    split at h
    · rename_i hu; cases h; exact ⟨.b, rfl, .inl ⟨rfl, hu⟩⟩
    · rename_i k' hu; cases h; exact ⟨.i, rfl, .inr (.inl ⟨rfl, k', hu⟩)⟩
    · rename_i hu; cases h; exact ⟨.s, rfl, .inr (.inr ⟨rfl, hu⟩)⟩
    · rename_i fs hu
      unfold aggSize at hs
      cases hi : P.info? t <;> simp [hu, hi] at hs
    · rename_i n e hu
      unfold aggSize at hs
      cases hi : P.info? t <;> simp [hu, hi] at hs
    · cases h

def ChkF (P : Program) (k : Nat) (t : TypeId) (n : Nat) : Prop :=
  ∀ (w : World) (em : Bool) (xs : Array Value) (off : Nat), off + n ≤ xs.size → ∃ a, (part t xs off).run P w = .ok a w ∧ (Instr.checkKey em k t a).run P w = .ok () w

theorem flatF_len {P : Program} {rec : TypeId → Option (List CK)} : ∀ (fs : List Field) (off : Nat) (ks : List CK), flatF P rec fs off = some ks → ∀ f ∈ fs, f.name ≠ "_" ∧ ∃ k1, rec f.type = some k1 ∧ tSize P f.type = some k1.length ∧ f.offset + k1.length ≤ off + ks.length
  | [], off, ks, h, f, hf => by simp at hf
  | g :: fs, off, ks, h, f, hf => by
    simp only [flatF] at h
    split at h
    · rename_i hn
      simp only [Bool.and_eq_true, bne_iff_ne, ne_eq, beq_iff_eq] at hn
      obtain ⟨hn, ho⟩ := hn
      simp only [Option.bind_eq_some_iff] at h
      obtain ⟨k1, hk1, h⟩ := h
      split at h
      · rename_i hz
        obtain ⟨k2, hk2, rfl⟩ := Option.map_eq_some_iff.1 h
        rcases List.mem_cons.1 hf with rfl | hf
        · exact ⟨hn, k1, hk1, hz, by simp; omega⟩
        · obtain ⟨q1, k3, q2, q3, q4⟩ := flatF_len fs _ k2 hk2 f hf
          exact ⟨q1, k3, q2, q3, by simp; omega⟩
      · cases h
    · cases h

theorem chk_ok {P : Program} : ∀ (d : Nat) (t : TypeId) (ks : List CK), flatK P d t = some ks → tSize P t = some ks.length → ∀ k, ChkF P (k + d) t ks.length := by
  intro d
  induction d with
  | zero => intro t ks h; simp [flatK] at h
  | succ d ih =>
    intro t ks h hz k w em xs off hoff
    rw [show k + (d + 1) = (k + d) + 1 from rfl]
    obtain ⟨i, hi, hiz⟩ := Option.map_eq_some_iff.1 hz
    have one : ∀ {dd : TypeDesc} {c : CK}, P.underlying t = some dd → (∀ fs, dd ≠ .struct fs) → (∀ n e, dd ≠ .array n e) → ks = [c] → (∀ a, (Instr.checkKey em (k + d + 1) t a).run P w = .ok () w) →
        ∃ a, (part t xs off).run P w = .ok a w ∧ (Instr.checkKey em (k + d + 1) t a).run P w = .ok () w := by
      intro dd c hu h1 h2 hks heq
      subst hks
      have hs : aggSize P t = some none := by unfold aggSize; rw [hu, hi]; cases dd <;> simp_all
      simp at hoff
      exact ⟨xs[off], part_none hs (Array.getElem?_eq_getElem (by omega)) w, heq _⟩
    unfold flatK at h
    split at h
    · rename_i hu
      cases h
      exact one hu (by simp) (by simp) rfl fun a => by unfold Instr.checkKey; simp only [Sem.run_bind, run_underlying hu, Result.andThen_ok]; cases a <;> simp
    · rename_i k' hu
      cases h
      exact one hu (by simp) (by simp) rfl fun a => by unfold Instr.checkKey; simp only [Sem.run_bind, run_underlying hu, Result.andThen_ok]; cases a <;> simp
    · rename_i hu
      cases h
      exact one hu (by simp) (by simp) rfl fun a => by unfold Instr.checkKey; simp only [Sem.run_bind, run_underlying hu, Result.andThen_ok]; cases a <;> simp
    · rename_i fs hu
      split at h
      · cases h
      · refine ⟨_, part_agg hz (.inl ⟨fs, hu⟩) xs off w, ?_⟩
        rw [Instr.checkKey]
        simp only [Sem.run_bind, run_underlying hu, Result.andThen_ok]
        rw [← Array.forIn_toList]
        have deep := flatF_len _ _ _ h
        have hsz : (xs.extract off (off + ks.length)).size = ks.length := by simp; omega
        generalize xs.extract off (off + ks.length) = ys at hsz
        generalize fs.toList = L at deep
        clear h
        induction L with
        | nil => simp
        | cons f L ihL =>
          obtain ⟨hn, k1, q1, q2, q3⟩ := deep f (by simp)
          obtain ⟨a, p1, p2⟩ := ih f.type k1 q1 q2 k w em ys f.offset (by omega)
          simp only [List.forIn_cons, Sem.run_bind, hn, ne_eq, not_false_eq_true, if_true, Result.andThen_ok, p1, p2, Sem.run_pure]
          exact ihL (fun f hf => deep f (by simp [hf]))
    · rename_i n e hu
      simp only [Option.bind_eq_some_iff] at h
      obtain ⟨k1, hk1, h⟩ := h
      split at h
      · rename_i hze
        cases h
        refine ⟨_, part_agg hz (.inr ⟨n, e, hu⟩) xs off w, ?_⟩
        rw [Instr.checkKey]
        simp only [Sem.run_bind, run_underlying hu, Result.andThen_ok]
        simp only [Std.Legacy.Range.forIn_eq_forIn_range', Std.Legacy.Range.size, Nat.sub_zero, Nat.add_one_sub_one, Nat.div_one]
        rw [flat_size (P := P) (rec := fun _ => none)] at hoff ⊢
        have hsz : (xs.extract off (off + n * k1.length)).size = n * k1.length := by simp; omega
        generalize xs.extract off (off + n * k1.length) = ys at hsz
        have deep : ∀ j ∈ List.range' 0 n, j < n := fun j hj => by simpa using hj
        generalize List.range' 0 n = L at deep
        clear hz hiz hoff
        induction L with
        | nil => simp
        | cons j L ihL =>
          have hj := deep j (by simp)
          have hjn : j * k1.length + k1.length ≤ n * k1.length := by rw [← Nat.succ_mul]; exact Nat.mul_le_mul_right _ hj
          obtain ⟨a, p1, p2⟩ := ih e k1 hk1 hze k w em ys (j * k1.length) (by omega)
          simp only [List.forIn_cons, Sem.run_bind, run_sizeOf hze, Result.andThen_ok, p1, p2, Sem.run_pure]
          exact ihL (fun y hy => deep y (by simp [hy]))
      · cases h
    · cases h

theorem chkKey_ok {P : Program} {t : TypeId} {ks : List CK} {s : Option Nat} (h : flatK P 40 t = some ks) (hz : tSize P t = some ks.length) (hs : aggSize P t = some s) {w : World} {Im : Nat → Prop} {key : AV} {a : Value} (em : Bool) (ha : VI w Im key a) (hg : isG key = s.isSome) (hl : (keyL key).length = ks.length) :
    (Instr.checkKey em 10000 t a).run P w = .ok () w := by
  cases s with
  | none =>
    obtain ⟨c, rfl, hc⟩ := run_aggSize_none h hs
    rcases hc with ⟨_, hu⟩ | ⟨_, k, hu⟩ | ⟨_, hu⟩ <;> (unfold Instr.checkKey; simp only [Sem.run_bind, run_underlying hu, Result.andThen_ok]; cases a <;> simp)
  | some k =>
    cases ha <;> simp [isG] at hg
    rename_i cs vs hn _ _
    simp only [keyL] at hl
    have hkz : k = ks.length := by
      have := (aggSize_ok hs w).2 k rfl
      rw [run_sizeOf hz] at this; simpa using this.symm
    subst hkz
    obtain ⟨x, p1, p2⟩ := chk_ok 40 t ks h hz (10000 - 40) w em vs 0 (by omega)
    rw [part_some hs] at p1
    have e1 : vs.extract 0 (0 + ks.length) = vs := by apply Array.ext'; rw [ext_list, List.drop_zero, List.take_of_length_le (by simp; omega)]
    rw [e1] at p1
    cases p1
    exact p2

theorem fitA_len : ∀ {ks : List CK} {as bs : List AV}, fitA ks as bs → as.length = ks.length ∧ bs.length = ks.length
  | [], [], [], _ => ⟨rfl, rfl⟩
  | [k], [a], [b], _ => ⟨rfl, rfl⟩
  | k :: k2 :: ks, a :: as, b :: bs, h => by
    have h4 := (show fitA1 k a b ∧ fitA (k2 :: ks) as bs from by unfold fitA at h; exact h).2
    have := fitA_len h4
    simp at this ⊢
    omega
  | [], _ :: _, _, h => by simp [fitA] at h
  | [], [], _ :: _, h => by simp [fitA] at h
  | _ :: _, [], _, h => by simp [fitA] at h
  | _ :: _, _ :: _, [], h => by simp [fitA] at h
  | [_], _ :: _ :: _, _ :: _, h => by simp [fitA] at h
  | [_], [_], _ :: _ :: _, h => by simp [fitA] at h

theorem keyEq_agg {P : Program} {t : TypeId} {ks : List CK} {k : Nat} (h : flatK P 40 t = some ks) (hz : tSize P t = some ks.length) (hs : aggSize P t = some (some k)) {w : World} {Im : Nat → Prop} {x y : AV} {a b : Value} (ha : VI w Im x a) (hb : VI w Im y b) (hx : isG x = true) (hy : isG y = true) (hf : fitA ks (keyL x) (keyL y)) :
    (Op.equal t a b).run P w = .ok (eqK ks x y) w := by
  cases x <;> simp [isG] at hx
  cases y <;> simp [isG] at hy
  exact equal_ok (by decide) h hz ⟨k, hs⟩ ha hb hf
theorem keyEq_one {P : Program} {t : TypeId} {c : CK} {kd : TypeDesc} (hc : (c = .b ∧ kd = .bool) ∨ (c = .i ∧ ∃ k, kd = .int k) ∨ (c = .s ∧ kd = .string)) {w : World} {Im : Nat → Prop} {x y : AV} {a b : Value} (ha : VI w Im x a) (hb : VI w Im y b) (hx : isG x = false) (hy : isG y = false) (hf : fitA [c] (keyL x) (keyL y)) :
    Instr.sameNow kd a b = some (eqK [c] x y) := by
  have kx : keyL x = [x] := by cases x <;> simp_all [keyL, isG]
  have ky : keyL y = [y] := by cases y <;> simp_all [keyL, isG]
  rw [kx, ky] at hf
  have hf : fitA1 c x y := by simpa [fitA] using hf
  simp only [eqK, kx, ky, eqA]
  rcases hc with ⟨rfl, rfl⟩ | ⟨rfl, k, rfl⟩ | ⟨rfl, rfl⟩ <;> (unfold fitA1 at hf; split at hf <;> first | contradiction | skip)
  all_goals (cases ha; cases hb; first | subst hf | skip)
  all_goals first | (simp [Instr.sameNow, eqA1]; done) | (simp [Instr.sameNow, eqA1]; rfl)

def foundV (ks : List CK) (key : AV) (ps : List (AV × AV)) (vs : List Value) (i : Nat) : Option (Nat × Value) := (mfind ks key ps).map fun j => (i + j, vs.getD (2 * j + 1) undef)
theorem foundV_cons {ks : List CK} {key : AV} {p : AV × AV} {ps : List (AV × AV)} {a b : Value} {vs : List Value} {i : Nat} : foundV ks key (p :: ps) (a :: b :: vs) i = if eqK ks key p.1 then some (i, b) else foundV ks key ps vs (i + 1) := by
  simp only [foundV, mfind, List.findIdx?_cons]
  by_cases h : eqK ks key p.1 = true
  · simp [h]
  · simp only [h, Bool.false_eq_true, if_false, Option.map_map]
    congr 1
    funext j
    simp only [Function.comp, Prod.mk.injEq]
    refine ⟨by omega, ?_⟩
    rw [show 2 * (j + 1) + 1 = (2 * j + 1) + 1 + 1 by omega]
    simp
theorem findAsking_ok {P : Program} {e : Env} {t : TypeId} {ks : List CK} {k : Nat} (h : flatK P 40 t = some ks) (hz : tSize P t = some ks.length) (hs : aggSize P t = some (some k)) {key : AV} {a : Value} (ha : VI e.w e.Im key a) :
    ∀ (ps : List (AV × AV)) (vs : List Value) (n i : Nat), MapV e ps vs → fitM true ks key ps → (Instr.findAsking t a (entsV n vs) i).run P e.w = .ok (foundV ks key ps vs i) e.w
  | [], vs, n, i, hm, _ => by rw [hm.mapV_nil]; simp [entsV, Instr.findAsking, foundV, mfind]
  | p :: ps, vs, n, i, hm, hf => by
    obtain ⟨x, y, vs', rfl⟩ := hm.split
    obtain ⟨h1, h2, h3⟩ := hm.cons
    obtain ⟨f1, f2⟩ := hf.2.2 p (by simp)
    have he := keyEq_agg h hz hs ha h1 hf.1 f1 f2
    have ih := findAsking_ok h hz hs ha ps vs' (n + 1) (i + 1) h3 ⟨hf.1, hf.2.1, fun q hq => hf.2.2 q (by simp [hq])⟩
    rw [foundV_cons]
    simp only [entsV, Instr.findAsking, Sem.run_bind, he, Result.andThen_ok]
    by_cases hq : eqK ks key p.1 = true
    · simp [hq]
    · simp only [hq, Bool.false_eq_true, if_false]; exact ih
theorem findNow_ok {P : Program} {e : Env} {t : TypeId} {c : CK} {kd : TypeDesc} (hc : (c = .b ∧ kd = .bool) ∨ (c = .i ∧ ∃ k, kd = .int k) ∨ (c = .s ∧ kd = .string)) {key : AV} {a : Value} (ha : VI e.w e.Im key a) :
    ∀ (ps : List (AV × AV)) (vs : List Value) (n i : Nat), MapV e ps vs → fitM false [c] key ps → Instr.findNow kd a (entsV n vs) i = some (foundV [c] key ps vs i)
  | [], vs, n, i, hm, _ => by rw [hm.mapV_nil]; simp [entsV, Instr.findNow, foundV, mfind]
  | p :: ps, vs, n, i, hm, hf => by
    obtain ⟨x, y, vs', rfl⟩ := hm.split
    obtain ⟨h1, h2, h3⟩ := hm.cons
    obtain ⟨f1, f2⟩ := hf.2.2 p (by simp)
    have he := keyEq_one (P := P) (t := t) hc ha h1 hf.1 f1 f2
    have ih := findNow_ok (P := P) (t := t) hc ha ps vs' (n + 1) (i + 1) h3 ⟨hf.1, hf.2.1, fun q hq => hf.2.2 q (by simp [hq])⟩
    rw [foundV_cons]
    simp only [entsV, Instr.findNow, he]
    by_cases hq : eqK [c] key p.1 = true
    · simp [hq]
    · simp only [hq, Bool.false_eq_true, if_false]; exact ih
theorem findKey_ok {P : Program} {e : Env} {t : TypeId} {ks : List CK} {s : Option Nat} (h : flatK P 40 t = some ks) (hz : tSize P t = some ks.length) (hs : aggSize P t = some s) {key : AV} {a : Value} (ha : VI e.w e.Im key a) {ps : List (AV × AV)} {vs : List Value} (hm : MapV e ps vs) (hf : fitM s.isSome ks key ps) :
    (Instr.findKey t a (entsV 0 vs)).run P e.w = .ok (foundV ks key ps vs 0) e.w := by
  cases s with
  | none =>
    obtain ⟨c, rfl, hc⟩ := run_aggSize_none h hs
    obtain ⟨kd, hu, hc'⟩ : ∃ kd, P.underlying t = some kd ∧ ((c = .b ∧ kd = .bool) ∨ (c = .i ∧ ∃ k, kd = .int k) ∨ (c = .s ∧ kd = .string)) := by
      rcases hc with ⟨hc, hu⟩ | ⟨hc, k, hu⟩ | ⟨hc, hu⟩
      · exact ⟨_, hu, .inl ⟨hc, rfl⟩⟩
      · exact ⟨_, hu, .inr (.inl ⟨hc, k, rfl⟩)⟩
      · exact ⟨_, hu, .inr (.inr ⟨hc, rfl⟩)⟩
    exact MapKept.run_findKey hu (findNow_ok (P := P) (t := t) hc' ha ps vs 0 0 hm hf)
  | some k =>
    rw [run_findKey_eq]
    · exact findAsking_ok h hz hs ha ps vs 0 0 hm hf
    · unfold aggSize at hs
      split at hs
      · rename_i hu _; rw [hu]
      · rename_i hu _; rw [hu]
      · cases hs
      · cases hs

theorem map_mem {e : Env} (g : Good e) {x : RV} {c : Value} {o : Nat} {ps : List (AV × AV)} (h : mapOf e.H x = some (o, ps)) (hx : VR e x c) :
    ∃ l vs, e.H[o]? = some (.xo .mp (mrow ps)) ∧ e.ρ[o]? = some (some l) ∧ c = .map (some l.blk) ∧ MapV e ps vs ∧ e.w.heap[l.blk]? = some (.map (entsV 0 vs).toArray ps.length) := by
  cases x <;> simp only [mapOf] at h <;> try (cases h; done)
  split at h
  · rename_i cs hcs
    obtain ⟨ps', hp, he⟩ := Option.map_eq_some_iff.1 h
    cases he
    obtain rfl := mpairs_ok hp
    cases hx with
    | pt ob lo h1 h2 h _ =>
      rw [h1] at hcs; cases hcs
      obtain ⟨rfl, l, rfl, rfl⟩ := h
      obtain ⟨l', vs, ob, hl, k1, k2, k3, k4⟩ := g.obj _ _ _ h1 h2
      cases hl
      simp only [XK.obj] at k2
      split at k2
      · cases k2
        have hm : MapV e ps vs := ⟨by simpa using k1, k4⟩
        rw [ents_len 0 hm] at k3
        exact ⟨l, vs, h1, h2, rfl, hm, k3⟩
      · cases k2
  · cases h
theorem it_mem {e : Env} (g : Good e) {x : RV} {c : Value} {o om n : Nat} {ps : List (AV × AV)} {seen : List Nat} (h : itOf e.H x = some (o, om, ps, n, seen)) (hx : VR e x c) :
    ∃ l lm vs y, e.H[o]? = some (.xo (.it n seen) [y]) ∧ e.ρ[o]? = some (some l) ∧ c = .pointer (some ⟨l.blk, 0, none⟩) ∧ e.w.heap[l.blk]? = some (.mapIter (some lm.blk) n seen.toArray n) ∧
      e.H[om]? = some (.xo .mp (mrow ps)) ∧ e.ρ[om]? = some (some lm) ∧ MapV e ps vs ∧ e.w.heap[lm.blk]? = some (.map (entsV 0 vs).toArray ps.length) ∧ VR e y (.map (some lm.blk)) := by
  cases x <;> simp only [itOf] at h <;> try (cases h; done)
  split at h
  · rename_i n' seen' y hcs
    obtain ⟨⟨om', ps'⟩, hp, he⟩ := Option.map_eq_some_iff.1 h
    cases he
    cases hx with
    | pt ob lo h1 h2 h _ =>
      rw [h1] at hcs; cases hcs
      obtain ⟨rfl, l, rfl, rfl⟩ := h
      obtain ⟨l', vs, ob, hl, k1, k2, k3, k4⟩ := g.obj _ _ _ h1 h2
      cases hl
      obtain ⟨v, rfl⟩ := List.length_eq_one_iff.1 (show vs.length = 1 by simpa using k1)
      have hy := k4 0 y v rfl rfl
      obtain ⟨lm, vs', q1, q2, rfl, q4, q5⟩ := map_mem g hp hy
      simp only [XK.obj] at k2
      cases k2
      exact ⟨l, lm, vs', y, h1, h2, rfl, k3, q1, q2, q4, q5, hy⟩
  · cases h

theorem zero_ok {P : Program} {t : TypeId} {z : AV} (h : tZero P t = some z) (w : World) (Im : Nat → Prop) : ∃ v, (zeroValue t).run P w = .ok v w ∧ VI w Im z v := by
  unfold tZero at h
  obtain ⟨i, hi, h⟩ := Option.bind_eq_some_iff.1 h
  obtain ⟨v, hv, h⟩ := Option.bind_eq_some_iff.1 h
  exact ⟨v, by simp [zeroValue, typeInfo, hi, hv], cv_ok h⟩
theorem findIdx?_lt {α : Type} {p : α → Bool} {l : List α} {j : Nat} (h : l.findIdx? p = some j) : j < l.length := by
  obtain ⟨h, _⟩ := List.findIdx?_eq_some_iff_findIdx_eq.1 h
  exact h
theorem mapV_val {e : Env} {z : AV} {ps : List (AV × AV)} {vs : List Value} (hm : MapV e ps vs) {j : Nat} (hj : j < ps.length) : VI e.w e.Im (ps.getD j (z, z)).2 (vs.getD (2 * j + 1) undef) := by
  induction ps generalizing vs j with
  | nil => simp at hj
  | cons p ps ih =>
    obtain ⟨a, b, vs', rfl⟩ := hm.split
    obtain ⟨h1, h2, h3⟩ := hm.cons
    cases j with
    | zero => exact h2
    | succ j =>
      have := ih h3 (j := j) (by simpa using hj)
      rw [show 2 * (j + 1) + 1 = (2 * j + 1) + 1 + 1 by omega]
      simpa using this
theorem mlk_ok {P : Program} {e : Env} (g : Good e) {t kt et : TypeId} {ks : List CK} {s : Option Nat} {z : AV} (hu : P.underlying t = some (.map kt et)) (hk : flatK P 40 kt = some ks) (hz : tSize P kt = some ks.length) (hs : aggSize P kt = some s) (hzero : tZero P et = some z) {ok : Bool} {m key : RV} {a b : Value} {C : Prop} {r : RV}
    (hm : VR e m a) (hkey : VR e key b) (h : evMlk s.isSome ok ks z m key e.H = some (C, r)) (hC : C) : Tells P e (Instr.lookup t a b ok) r := by
  cases key <;> simp only [evMlk] at h <;> try (cases h; done)
  rename_i key
  obtain ⟨⟨o, ps⟩, hmo, he⟩ := Option.map_eq_some_iff.1 h
  cases he
  obtain ⟨l, vs, q1, q2, rfl, q4, q5⟩ := map_mem g hmo hm
  have hb := vr_v hkey
  have hc := chkKey_ok (P := P) hk hz hs (entsV 0 vs).toArray.isEmpty hb hC.1 hC.2.1
  have hfi := findKey_ok hk hz hs hb q4 hC
  obtain ⟨zv, hz1, hz2⟩ := zero_ok (P := P) hzero e.w e.Im
  unfold Tells
  unfold Instr.lookup
  simp only [Sem.run_bind, run_underlying hu, Result.andThen_ok, MapKept.run_getObj_map q5, Sem.run_pure, hc, hfi, foundV, mget]
  cases hf : mfind ks key ps with
  | none =>
    simp only [Option.map_none, Sem.run_bind, hz1, Result.andThen_ok, Sem.run_pure]
    cases ok
    · exact ⟨zv, by simp, .v hz2⟩
    · refine ⟨.tuple #[zv, .bool false], by simp, .v (.tup _ _ rfl fun j x c hx hc => ?_)⟩
      match j with
      | 0 => simp at hx hc; subst hx; subst hc; exact hz2
      | 1 => simp at hx hc; subst hx; subst hc; exact .b _
      | j + 2 => simp at hx
  | some j =>
    have hv := mapV_val (z := z) q4 (findIdx?_lt hf)
    simp only [Option.map_some, Sem.run_pure, Result.andThen_ok]
    cases ok
    · exact ⟨_, by simp, .v hv⟩
    · refine ⟨.tuple #[vs.getD (2 * j + 1) undef, .bool true], by simp, .v (.tup _ _ rfl fun i x c hx hc => ?_)⟩
      match i with
      | 0 => simp at hx hc; subst hx; subst hc; simpa using hv
      | 1 => simp at hx hc; subst hx; subst hc; exact .b _
      | i + 2 => simp at hx
theorem find_ents {e : Env} {ps : List (AV × AV)} {vs : List Value} (n : Nat) (hm : MapV e ps vs) {i : Nat} {x : MapEntry} (hx : (entsV n vs)[i]? = some x) : x.born = n + i ∧ (entsV n vs).find? (·.born == n + i) = some x := by
  induction ps generalizing vs n i with
  | nil => rw [hm.mapV_nil] at hx; simp [entsV] at hx
  | cons p ps ih =>
    obtain ⟨a, b, vs', rfl⟩ := hm.split
    cases i with
    | zero => simp [entsV] at hx; subst hx; simp [entsV]
    | succ i =>
      obtain ⟨h1, h2⟩ := ih (n + 1) hm.cons.2.2 (i := i) (by simpa [entsV] using hx)
      refine ⟨by omega, ?_⟩
      simp only [entsV, List.find?_cons]
      have : (n == n + (i + 1)) = false := by simp
      simp only [this]
      rw [show n + (i + 1) = n + 1 + i by omega]
      exact h2
theorem ent_ok {P : Program} {e : Env} (g : Good e) {it : RV} {a : Value} {C : Prop} {r : RV} (hx : VR e it a) (h : evEnt it e.H = some (C, r)) (hC : C) : Tells P e (Instr.entry a) r := by
  unfold evEnt at h
  obtain ⟨⟨o, om, ps, n, seen⟩, hit, h⟩ := Option.bind_eq_some_iff.1 h
  obtain ⟨l, lm, vs, y, q1, q2, rfl, q4, q5, q6, q7, q8, _⟩ := it_mem g hit hx
  simp only at h
  split at h
  · rename_i i hi
    cases h
    obtain ⟨hn, hin⟩ := hC
    have hlt : i < ps.length := by omega
    obtain ⟨k, v, e1, e2, e3⟩ := ents_get 0 q7 i _ (List.getElem?_eq_getElem hlt)
    have hfi := (find_ents 0 q7 e1).2
    have hb : seen.toArray.back? = some i := by rw [List.back?_toArray, hi]
    refine ⟨.tuple #[k, v], ?_, .v (.tup _ _ rfl fun j x c hx hc => ?_)⟩
    · have hg : (getObj l.blk).run P e.w = .ok (.mapIter (some lm.blk) n seen.toArray n) e.w := by simp [getObj, Sem.run, q4]
      simp only [Instr.entry, Sem.run_bind, hg, Result.andThen_ok, hb, MapKept.run_getObj_map q8]
      simp only [Nat.zero_add] at hfi
      simp [hn, hfi]
    · match j with
      | 0 => simp at hx hc; subst hx; subst hc; simpa [hlt] using e2
      | 1 => simp at hx hc; subst hx; subst hc; simpa [hlt] using e3
      | j + 2 => simp at hx
  · cases h
theorem lenm_ok {P : Program} {e : Env} (g : Good e) {t ty kt et : TypeId} (hu : P.underlying t = some (.map kt et)) {x : RV} {a : Value} {C : Prop} {r : RV} (hx : VR e x a) (h : ((mapOf e.H x).map fun (_, ps) => (True, (RV.v (.i .i64 ps.length) : RV))) = some (C, r)) : Tells P e (Builtin.len_ #[t] ty #[a]) r := by
  obtain ⟨⟨o, ps⟩, hmo, he⟩ := Option.map_eq_some_iff.1 h
  cases he
  obtain ⟨l, vs, q1, q2, rfl, q4, q5⟩ := map_mem g hmo hx
  refine ⟨.int .i64 ps.length, ?_, .v (.i _ _)⟩
  simp [Builtin.len_, run_underlying hu, MapKept.run_getObj_map q5, goInt, ents_len 0 q4]
end Go.Av
