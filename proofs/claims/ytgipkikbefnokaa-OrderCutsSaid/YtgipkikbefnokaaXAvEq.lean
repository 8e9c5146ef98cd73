/- Two structs or arrays of whole numbers, bools and strings are the same just if their cells are. No condition. -/
import Derived.Laws.StructEq
import Derived.ChangeKeysEq
import Derived.Test.YtgipkikbefnokaaXAv3
set_option linter.constructorNameAsVariable false
namespace Go.Av
open Go Go.RowKit
set_option linter.unusedSimpArgs false
set_option linter.unusedVariables false

def cellEq : CK → Value → Value → Option Bool
  | .i, .int k a, .int k' b => if k = k' then some (a == b) else none
  | .b, .bool a, .bool b => some (a == b)
  | .s, .string a, .string b => some (a.toList == b.toList)
  | _, _, _ => none

def eqC : List CK → List Value → List Value → Option Bool
  | [], [], [] => some true
  | k :: ks, a :: as, b :: bs => (cellEq k a b).bind fun r => (eqC ks as bs).map fun r' => r && r'
  | _, _, _ => none

theorem eqC_append : ∀ {k1 k2 : List CK} {as bs : List Value} {r : Bool}, eqC (k1 ++ k2) as bs = some r →
    ∃ r1 r2, eqC k1 (as.take k1.length) (bs.take k1.length) = some r1 ∧ eqC k2 (as.drop k1.length) (bs.drop k1.length) = some r2 ∧ r = (r1 && r2)
  | [], k2, as, bs, r, h => ⟨true, r, by simp [eqC], by simpa using h, by simp⟩
  | k :: k1, k2, as, bs, r, h => by
    cases as with
    | nil => cases bs <;> simp [eqC] at h
    | cons a as =>
      cases bs with
      | nil => simp [eqC] at h
      | cons b bs =>
        simp only [List.cons_append, eqC, Option.bind_eq_some_iff, Option.map_eq_some_iff] at h
        obtain ⟨r0, h0, r', h', rfl⟩ := h
        obtain ⟨r1, r2, h1, h2, rfl⟩ := eqC_append h'
        exact ⟨r0 && r1, r2, by simp [eqC, h0, h1], by simpa using h2, by simp [Bool.and_assoc]⟩

theorem eqC_len : ∀ {ks : List CK} {as bs : List Value} {r : Bool}, eqC ks as bs = some r → as.length = ks.length ∧ bs.length = ks.length
  | [], [], [], _, _ => ⟨rfl, rfl⟩
  | k :: ks, a :: as, b :: bs, r, h => by
    simp only [eqC, Option.bind_eq_some_iff, Option.map_eq_some_iff] at h
    obtain ⟨_, _, _, h2, _⟩ := h
    have := eqC_len h2
    simp [this]
  | [], _ :: _, [], _, h => by simp [eqC] at h
  | [], [], _ :: _, _, h => by simp [eqC] at h
  | [], _ :: _, _ :: _, _, h => by simp [eqC] at h
  | _ :: _, [], [], _, h => by simp [eqC] at h
  | _ :: _, [], _ :: _, _, h => by simp [eqC] at h
  | _ :: _, _ :: _, [], _, h => by simp [eqC] at h

theorem cellEq_b {a b : Value} {r : Bool} (h : cellEq .b a b = some r) : ∃ x y, a = .bool x ∧ b = .bool y ∧ r = (x == y) := by
  cases a <;> cases b <;> simp [cellEq] at h
  exact ⟨_, _, rfl, rfl, h.symm⟩
theorem cellEq_i {a b : Value} {r : Bool} (h : cellEq .i a b = some r) : ∃ k x y, a = .int k x ∧ b = .int k y ∧ r = (x == y) := by
  cases a <;> cases b <;> simp [cellEq] at h
  obtain ⟨rfl, h⟩ := h
  exact ⟨_, _, _, rfl, rfl, h.symm⟩
theorem cellEq_s {a b : Value} {r : Bool} (h : cellEq .s a b = some r) : ∃ x y, a = .string x ∧ b = .string y ∧ r = (x.toList == y.toList) := by
  cases a <;> cases b <;> simp [cellEq] at h
  exact ⟨_, _, rfl, rfl, h.symm⟩

/-- What is the same of two parts. -/
def EqF (P : Program) (k : Nat) (t : TypeId) (ks : List CK) : Prop :=
  ∀ (w : World) (xs ys : Array Value) (off : Nat) (r : Bool), eqC ks ((xs.toList.drop off).take ks.length) ((ys.toList.drop off).take ks.length) = some r →
    ∃ a b, (part t xs off).run P w = .ok a w ∧ (part t ys off).run P w = .ok b w ∧ (Op.equalIn k t a b).run P w = .ok r w

theorem part_agg {P : Program} {t : TypeId} {z : Nat} (hz : tSize P t = some z) (hu : (∃ fs, P.underlying t = some (.struct fs)) ∨ ∃ n e, P.underlying t = some (.array n e)) (xs : Array Value) (off : Nat) (w : World) : (part t xs off).run P w = .ok (.agg (xs.extract off (off + z))) w := by
  obtain ⟨i, hi, rfl⟩ := Option.map_eq_some_iff.1 hz
  have hs : aggSize P t = some (some i.size) := by
    unfold aggSize
    rcases hu with ⟨fs, hu⟩ | ⟨n, e, hu⟩ <;> rw [hu, hi]
  exact part_some hs w

theorem ext_list (xs : Array Value) (off z : Nat) : (xs.extract off (off + z)).toList = (xs.toList.drop off).take z := by
  rw [Array.toList_extract]; simp [List.extract]

theorem eqFields_ok {P : Program} {rec : TypeId → Option (List CK)} {k : Nat} (IH : ∀ t ks, rec t = some ks → tSize P t = some ks.length → EqF P k t ks) (w : World) (xs ys : Array Value) : ∀ (fs : List Field) (off : Nat) (ks : List CK) (r : Bool), flatF P rec fs off = some ks →
    eqC ks ((xs.toList.drop off).take ks.length) ((ys.toList.drop off).take ks.length) = some r → (Op.eqFields k xs ys fs).run P w = .ok r w
  | [], off, ks, r, h, hr => by
    simp [flatF] at h; subst h
    simp [eqC] at hr; subst hr
    simp [Op.eqFields]
  | f :: fs, off, ks, r, h, hr => by
    simp only [flatF] at h
    split at h
    · rename_i hn
      simp only [Bool.and_eq_true, bne_iff_ne, ne_eq, beq_iff_eq] at hn
      obtain ⟨hn, ho⟩ := hn
      simp only [Option.bind_eq_some_iff] at h
      obtain ⟨k1, hk1, h⟩ := h
      split at h
      · rename_i hz
        obtain ⟨k2, hk2, rfl⟩ := Option.map_eq_some_iff.1 h
        obtain ⟨r1, r2, h1, h2, rfl⟩ := eqC_append hr
        simp only [List.take_take, List.length_append, List.drop_take, List.drop_drop] at h1 h2
        have e1 : min k1.length (k1.length + k2.length) = k1.length := by omega
        have e2 : k1.length + k2.length - k1.length = k2.length := by omega
        rw [e1] at h1
        rw [e2] at h2
        obtain ⟨a, b, p1, p2, p3⟩ := IH f.type k1 hk1 hz w xs ys off r1 h1
        have := eqFields_ok IH w xs ys fs (off + k1.length) k2 r2 hk2 h2
        simp only [Op.eqFields, hn, ne_eq, not_false_eq_true, if_true, Sem.run_bind, ho, p1, p2, p3, Result.andThen_ok]
        cases r1
        · simp
        · simpa using this
      · cases h
    · cases h

theorem eqItems_ok {P : Program} {e : TypeId} {ks : List CK} {k : Nat} (IH : EqF P k e ks) (hc : P.cellsOf e = ks.length) (w : World) (xs ys : Array Value) : ∀ (n i : Nat) (r : Bool),
    eqC (List.replicate n ks).flatten ((xs.toList.drop (i * ks.length)).take (n * ks.length)) ((ys.toList.drop (i * ks.length)).take (n * ks.length)) = some r → (Op.eqItems k e (P.cellsOf e) xs ys (List.range' i n)).run P w = .ok r w
  | 0, i, r, hr => by
    simp [eqC] at hr; subst hr
    simp [Op.eqItems]
  | n + 1, i, r, hr => by
    rw [List.replicate_succ, List.flatten_cons] at hr
    obtain ⟨r1, r2, h1, h2, rfl⟩ := eqC_append hr
    simp only [List.take_take, List.drop_take, List.drop_drop] at h1 h2
    have e1 : min ks.length ((n + 1) * ks.length) = ks.length := by rw [Nat.add_mul]; omega
    have e2 : (n + 1) * ks.length - ks.length = n * ks.length := by rw [Nat.add_mul]; omega
    have e3 : i * ks.length + ks.length = (i + 1) * ks.length := by rw [Nat.add_mul]; omega
    rw [e1] at h1
    rw [e2, e3] at h2
    obtain ⟨a, b, p1, p2, p3⟩ := IH w xs ys (i * ks.length) r1 h1
    have := eqItems_ok IH hc w xs ys n (i + 1) r2 h2
    rw [List.range'_succ]
    simp only [Op.eqItems, Sem.run_bind, hc, p1, p2, p3, Result.andThen_ok]
    rw [hc] at this
    cases r1
    · simp
    · simpa using this

theorem flat_size {P : Program} {rec : TypeId → Option (List CK)} : ∀ (n : Nat) (ks : List CK), (List.replicate n ks).flatten.length = n * ks.length
  | n, ks => by simp

theorem get_cell {l : List Value} {off : Nat} {a : Value} {xs : Array Value} (h : (xs.toList.drop off).take 1 = [a]) : xs[off]? = some a := by
  have : ((xs.toList.drop off).take 1)[0]? = some a := by rw [h]; rfl
  rw [List.getElem?_take] at this
  simpa using this

theorem flat_ok {P : Program} : ∀ (d : Nat) (t : TypeId) (ks : List CK), flatK P d t = some ks → tSize P t = some ks.length → ∀ k, EqF P (k + d) t ks := by
  intro d
  induction d with
  | zero => intro t ks h; simp [flatK] at h
  | succ d ih =>
    intro t ks h hz k w xs ys off r hr
    rw [show k + (d + 1) = (k + d) + 1 from rfl]
    obtain ⟨i, hi, hiz⟩ := Option.map_eq_some_iff.1 hz
    have one : ∀ {dd : TypeDesc} {c : CK}, P.underlying t = some dd → (∀ fs, dd ≠ .struct fs) → (∀ n e, dd ≠ .array n e) → ks = [c] → (∀ a b r, cellEq c a b = some r → (Op.equalIn (k + d + 1) t a b).run P w = .ok r w) →
        ∃ a b, (part t xs off).run P w = .ok a w ∧ (part t ys off).run P w = .ok b w ∧ (Op.equalIn (k + d + 1) t a b).run P w = .ok r w := by
      intro dd c hu h1 h2 hks heq
      subst hks
      have hs : aggSize P t = some none := by unfold aggSize; rw [hu, hi]; cases dd <;> simp_all
      have hl := eqC_len hr
      obtain ⟨a, ha⟩ := List.length_eq_one_iff.1 hl.1
      obtain ⟨b, hb⟩ := List.length_eq_one_iff.1 hl.2
      rw [ha, hb] at hr
      simp only [eqC, Option.bind_eq_some_iff, Option.map_eq_some_iff] at hr
      obtain ⟨r0, h0, r', h', rfl⟩ := hr
      cases h'
      refine ⟨a, b, part_none hs (get_cell (l := []) ha) w, part_none hs (get_cell (l := []) hb) w, ?_⟩
      rw [Bool.and_true]
      exact heq a b r0 h0
    unfold flatK at h
    split at h
    · rename_i hu
      cases h
      refine one hu (by simp) (by simp) rfl ?_
      intro a b r h
      obtain ⟨x, y, rfl, rfl, rfl⟩ := cellEq_b h
      exact run_equalIn_bool' w (k + d) t x y hu
    · rename_i k' hu
      cases h
      refine one hu (by simp) (by simp) rfl ?_
      intro a b r h
      obtain ⟨k2, x, y, rfl, rfl, rfl⟩ := cellEq_i h
      exact run_equalIn_int w (k + d) t k2 k' x y hu
    · rename_i hu
      cases h
      refine one hu (by simp) (by simp) rfl ?_
      intro a b r h
      obtain ⟨x, y, rfl, rfl, rfl⟩ := cellEq_s h
      exact run_equalIn_string w (k + d) t x y hu
    · rename_i fs hu
      split at h
      · cases h
      · rename_i hst
        refine ⟨_, _, part_agg hz (.inl ⟨fs, hu⟩) xs off w, part_agg hz (.inl ⟨fs, hu⟩) ys off w, ?_⟩
        have hfs : P.fieldsOf t = fs := by simp [Program.fieldsOf, hu]
        rw [run_equalIn_struct w (k + d) t _ _ (by rw [hfs]; exact hu) (by simpa using hst), hfs]
        refine eqFields_ok (fun t' ks' h1 h2 => ih t' ks' h1 h2 k) w _ _ fs.toList 0 ks r h ?_
        rw [ext_list, ext_list]
        simpa [List.take_take] using hr
    · rename_i n e hu
      simp only [Option.bind_eq_some_iff] at h
      obtain ⟨k1, hk1, h⟩ := h
      split at h
      · rename_i hze
        cases h
        refine ⟨_, _, part_agg hz (.inr ⟨n, e, hu⟩) xs off w, part_agg hz (.inr ⟨n, e, hu⟩) ys off w, ?_⟩
        obtain ⟨ie, hie, hiez⟩ := Option.map_eq_some_iff.1 hze
        rw [run_equalIn_array w (k + d) _ _ hu hie, List.range_eq_range']
        refine eqItems_ok (ih e k1 hk1 hze k) (by simp [Program.cellsOf, hie, hiez]) w _ _ n 0 r ?_
        rw [ext_list, ext_list]
        rw [flat_size (P := P) (rec := fun _ => none)] at hr
        simpa [List.take_take] using hr
      · cases h
    · cases h

/-! ### Of values -/
theorem cell_ok {w : World} {Im : Nat → Prop} {k : CK} {a b : AV} {x y : Value} (hx : VI w Im a x) (hy : VI w Im b y) (h : fitA1 k a b) : cellEq k x y = some (eqA1 k a b) := by
  unfold fitA1 at h
  split at h
  · cases hx; cases hy; subst h; simp [cellEq, eqA1]
  · cases hx; cases hy; simp [cellEq, eqA1]
  · cases hx; cases hy; simp [cellEq, eqA1, ByteArray.toList_eq]
  · exact h.elim

theorem eqA_ok {w : World} {Im : Nat → Prop} : ∀ {ks : List CK} {as bs : List AV} {xs ys : List Value}, fitA ks as bs → xs.length = as.length → ys.length = bs.length → (∀ (j : Nat) a x, as[j]? = some a → xs[j]? = some x → VI w Im a x) → (∀ (j : Nat) a x, bs[j]? = some a → ys[j]? = some x → VI w Im a x) →
    eqC ks xs ys = some (eqA ks as bs)
  | [], [], [], xs, ys, _, h1, h2, _, _ => by
    obtain rfl : xs = [] := List.eq_nil_of_length_eq_zero (by simpa using h1)
    obtain rfl : ys = [] := List.eq_nil_of_length_eq_zero (by simpa using h2)
    rfl
  | [k], [a], [b], xs, ys, h, h1, h2, hx, hy => by
    obtain ⟨x, rfl⟩ := List.length_eq_one_iff.1 (show xs.length = 1 by simpa using h1)
    obtain ⟨y, rfl⟩ := List.length_eq_one_iff.1 (show ys.length = 1 by simpa using h2)
    simp [eqC, cell_ok (hx 0 a x rfl rfl) (hy 0 b y rfl rfl) h, eqA]
  | k :: k2 :: ks, a :: as, b :: bs, xs, ys, h, h1, h2, hx, hy => by
    cases xs with
    | nil => simp at h1
    | cons x xs =>
      cases ys with
      | nil => simp at h2
      | cons y ys =>
        obtain ⟨h3, h4⟩ := (show fitA1 k a b ∧ fitA (k2 :: ks) as bs from by unfold fitA at h; exact h)
        have ih := eqA_ok (xs := xs) (ys := ys) h4 (by simpa using h1) (by simpa using h2) (fun j a x p q => hx (j + 1) a x (by simpa using p) (by simpa using q)) (fun j a x p q => hy (j + 1) a x (by simpa using p) (by simpa using q))
        rw [eqC, cell_ok (hx 0 a x rfl rfl) (hy 0 b y rfl rfl) h3, ih]
        simp [eqA]
  | [], _ :: _, _, _, _, h, _, _, _, _ => by simp [fitA] at h
  | [], [], _ :: _, _, _, h, _, _, _, _ => by simp [fitA] at h
  | _ :: _, [], _, _, _, h, _, _, _, _ => by simp [fitA] at h
  | _ :: _, _ :: _, [], _, _, h, _, _, _, _ => by simp [fitA] at h
  | [_], _ :: _ :: _, _ :: _, _, _, h, _, _, _, _ => by simp [fitA] at h
  | [_], [_], _ :: _ :: _, _, _, h, _, _, _, _ => by simp [fitA] at h

/-- **'==' OF AGGREGATES.** -/
theorem equal_ok {P : Program} {t : TypeId} {ks : List CK} {d : Nat} (hd : d ≤ 10000) (h : flatK P d t = some ks) (hz : tSize P t = some ks.length) (hu : ∃ k, aggSize P t = some (some k)) {w : World} {Im : Nat → Prop} {as bs : List AV} {a b : Value} (ha : VI w Im (.g as) a) (hb : VI w Im (.g bs) b) (hf : fitA ks as bs) :
    (Op.equal t a b).run P w = .ok (eqA ks as bs) w := by
  cases ha with
  | g _ vs hn _ hv =>
    cases hb with
    | g _ us hm _ hw =>
      have hr := eqA_ok (w := w) (Im := Im) (xs := vs.toList) (ys := us.toList) hf (by simpa using hn) (by simpa using hm) (fun j a x p q => hv j a x p (by simpa using q)) (fun j a x p q => hw j a x p (by simpa using q))
      have hl := eqC_len hr
      obtain ⟨x, y, p1, p2, p3⟩ := flat_ok d t ks h hz (10000 - d) w vs us 0 _ (by rw [List.drop_zero, List.drop_zero, List.take_of_length_le (by omega), List.take_of_length_le (by omega)]; exact hr)
      obtain ⟨k, hk⟩ := hu
      have hkz : k = ks.length := by
        have := (aggSize_ok hk w).2 k rfl
        rw [run_sizeOf hz] at this; simpa using this.symm
      subst hkz
      rw [part_some hk] at p1 p2
      have e1 : vs.extract 0 (0 + ks.length) = vs := by apply Array.ext'; rw [ext_list, List.drop_zero, List.take_of_length_le (Nat.le_of_eq hl.1)]
      have e2 : us.extract 0 (0 + ks.length) = us := by apply Array.ext'; rw [ext_list, List.drop_zero, List.take_of_length_le (Nat.le_of_eq hl.2)]
      rw [e1] at p1
      rw [e2] at p2
      cases p1; cases p2
      rw [show 10000 - d + d = 10000 by omega] at p3
      exact p3

end Go.Av
