/- A builder that is one's own: what a contract of the kit's over worlds says of it, as a contract of the walk. No condition. -/
import Derived.Test.YtgipkikbefnokaaDoorXAv26
import Derived.Lib.Builder
import Derived.Lib.AppendStr
import Derived.Laws.AppendOwn
import Derived.Shelf.Strings.Builder1
import Derived.Shelf.Strconv.Itoa4
set_option linter.constructorNameAsVariable false
namespace Go.Av
open Go Go.RowKit
set_option linter.unusedSimpArgs false
set_option linter.unusedVariables false
def bytesV (l : List UInt8) : List Value := l.map fun b => .int .u8 (b.toNat : Int)
@[simp] theorem bytesV_length (l : List UInt8) : (bytesV l).length = l.length := by simp [bytesV]
def RowW (w : World) (el : TypeId) (hv : Value) (l : List UInt8) : Prop :=
  (hv = .slice none 0 0 ∧ l = []) ∨ l ≠ [] ∧ ∃ g cap cur, hv = .slice (some ⟨g, 0, none⟩) l.length cap ∧ w.heap[g]? = some (.cells cur el (0, 0)) ∧ l.length ≤ cap ∧ cap ≤ maxLen ∧ cur.size = cap ∧ cur.toList.take l.length = bytesV l
structure Frm (w w' : World) (b : Nat) (row row' : Option Nat) : Prop where
  os : w'.os = w.os
  tape : w'.tape = w.tape
  output : OutW w w'
  size : w.heap.size ≤ w'.heap.size
  same : ∀ k, k < w.heap.size → k ≠ b → some k ≠ row → w'.heap[k]? = w.heap[k]?
  new : ∀ k, row' = some k → row = some k ∨ w.heap.size ≤ k
def Bld (t el : TypeId) (l : List UInt8) (p : RV) (v : Nat) : List AObj := [.buf el v l, .xo (.bv t) [p, .os 0 v]]
theorem bld_open {e : Env} (g : Good e) {t el : TypeId} {l : List UInt8} {p : RV} {v : Nat} (hH : e.H = Bld t el l p v) :
    ∃ lo lb pv hv, e.ρ = [lo, some lb] ∧ e.w.heap[lb.blk]? = some (.cells #[pv, hv] t (0, 0)) ∧ VR e p pv ∧ RowW e.w el hv l ∧ hv.ownBlock = lo.map Loc.blk := by
  have hl : e.ρ.length = 2 := by rw [g.len, hH]; rfl
  obtain ⟨lo, lb', hρ⟩ : ∃ a b, e.ρ = [a, b] := by
    match hx : e.ρ, hl with
    | [a, b], _ => exact ⟨a, b, rfl⟩
  have h0 := g.obj 0 (.buf el v l) lo (by rw [hH]; rfl) (by rw [hρ]; rfl)
  obtain ⟨lb, vs, ob, rfl, h1, h2, h3, h4⟩ := g.obj 1 (.xo (.bv t) [p, .os 0 v]) lb' (by rw [hH]; rfl) (by rw [hρ]; rfl)
  obtain ⟨pv, hv, rfl⟩ : ∃ a b, vs = [a, b] := by
    match vs, h1 with
    | [a, b], _ => exact ⟨a, b, rfl⟩
  simp only [XK.obj, Option.some.injEq] at h2
  subst h2
  have hp := h4 0 p pv rfl rfl
  have hh := h4 1 (.os 0 v) hv rfl rfl
  have hb : BufV lo l.length hv := by
    cases hh with
    | os ob' lo' q1 q2 q3 =>
      rw [hH] at q1
      rw [hρ] at q2
      cases q1
      cases q2
      exact q3.2 rfl
  refine ⟨lo, lb, pv, hv, hρ, h3, hp, ?_, ?_⟩
  · cases lo with
    | none => exact .inl ⟨hb.2, h0⟩
    | some q =>
      obtain ⟨k0, cur, k1, k2, k3, k4, k5⟩ := h0
      exact .inr ⟨k0, q.blk, q.cap, cur, hb, k1, k2, k3, k4, k5⟩
  · cases lo with
    | none => rw [hb.2]; rfl
    | some q => rw [hb]; rfl
theorem bld_mv {e : Env} (g : Good e) {t el : TypeId} {l l' : List UInt8} {p p' : RV} {v : Nat} {lo : Option Loc} {lb : Loc} {hv : Value} (hH : e.H = Bld t el l p v) (hρ : e.ρ = [lo, some lb]) (hrow : hv.ownBlock = lo.map Loc.blk)
    {w' : World} {pv' hv' : Value} (hb : w'.heap[lb.blk]? = some (.cells #[pv', hv'] t (0, 0))) (hr : RowW w' el hv' l') (fr : Frm e.w w' lb.blk hv.ownBlock hv'.ownBlock) (hne : hv'.ownBlock ≠ some lb.blk)
    (hp : p' = .v .np ∧ pv' = .pointer none ∨ p' = .pt 1 0 0 0 ∧ pv' = .pointer (some ⟨lb.blk, 0, none⟩)) :
    ∃ e' : Env, e'.w = w' ∧ e'.H = Bld t el l' p' (v + 1) ∧ Good e' ∧ Mv e e' := by
  obtain ⟨lo', hlo', hbuf⟩ : ∃ lo' : Option Loc, hv'.ownBlock = lo'.map Loc.blk ∧ BufV lo' l'.length hv' ∧ (match lo' with | none => l' = [] | some q => l' ≠ [] ∧ ∃ cur : Array Value, w'.heap[q.blk]? = some (.cells cur el (0, 0)) ∧ l'.length ≤ q.cap ∧ q.cap ≤ maxLen ∧ cur.size = q.cap ∧ cur.toList.take l'.length = bytesV l') := by
    rcases hr with ⟨rfl, rfl⟩ | ⟨k0, g', cap, cur, rfl, k1, k2, k3, k4, k5⟩
    · exact ⟨none, rfl, ⟨rfl, rfl⟩, rfl⟩
    · exact ⟨some ⟨g', cap⟩, rfl, rfl, k0, cur, k1, k2, k3, k4, k5⟩
  have hlb := g.lt 1 lb (by rw [hρ]; rfl)
  have hnb : ¬ e.Im lb.blk := g.dis 1 lb (by rw [hρ]; rfl)
  have hown : ∀ b, e.own b ↔ (lo.map Loc.blk = some b ∨ lb.blk = b) := fun b => by
    unfold Env.own
    rw [hρ]
    constructor
    · rintro ⟨o, q, ho, rfl⟩
      match o with
      | 0 => simp at ho; subst ho; exact .inl rfl
      | 1 => simp at ho; subst ho; exact .inr rfl
      | o + 2 => simp at ho
    · rintro (h | h)
      · obtain ⟨q, hq, rfl⟩ := Option.map_eq_some_iff.1 h
        exact ⟨0, q, by simp [hq], rfl⟩
      · exact ⟨1, lb, rfl, h⟩
  have hnew : ∀ k, lo'.map Loc.blk = some k → (lo.map Loc.blk = some k ∨ e.w.heap.size ≤ k) ∧ k < w'.heap.size := fun k hk => by
    refine ⟨by rw [← hrow]; exact fr.new k (by rw [hlo']; exact hk), ?_⟩
    cases lo' with
    | none => cases hk
    | some q =>
      obtain ⟨_, cur, k1, _⟩ := hbuf.2
      cases hk
      exact (Array.getElem?_eq_some_iff.1 k1).1
  have hdisl : ∀ q, lo = some q → ¬ e.Im q.blk ∧ q.blk < e.w.heap.size := fun q hq => ⟨g.dis 0 q (by rw [hρ, hq]; rfl), g.lt 0 q (by rw [hρ, hq]; rfl)⟩
  have himw : ∀ b, e.Im b → w'.heap[b]? = e.w.heap[b]? := fun b hb => by
    refine fr.same b (g.imlt b hb) (fun h => hnb (h ▸ hb)) fun h => ?_
    rw [hrow] at h
    obtain ⟨q, hq, hqb⟩ := Option.map_eq_some_iff.1 h.symm
    exact (hdisl q hq).1 (hqb ▸ hb)
  have mv : Mv e ⟨w', e.Im, [lo', some lb], Bld t el l' p' (v + 1)⟩ := by
    refine ⟨fr.os, fr.tape, fr.output, fr.size, fun b hbl hno => ?_, fun _ h => h, himw, fun b h => .inl h, ?_, ?_⟩
    · rw [hown] at hno
      exact fr.same b hbl (fun h => hno (.inr h.symm)) fun h => hno (.inl (by rw [← hrow]; exact h.symm))
    · rw [hH, hρ]
      intro o ob lo0 h1 h2
      match o with
      | 0 =>
        simp [Bld] at h1 h2
        subst h1
        exact ⟨_, _, rfl, rfl, v, l, rfl, .inl (by omega)⟩
      | 1 =>
        simp [Bld] at h1 h2
        subst h1 h2
        exact ⟨_, _, rfl, rfl, rfl, _, _, rfl, rfl⟩
      | o + 2 => simp [Bld] at h1
    · rintro b ⟨o, q, ho, rfl⟩
      match o with
      | 0 =>
        simp at ho
        subst ho
        rcases (hnew q.blk rfl).1 with h | h
        · exact .inl ((hown _).2 (.inl h))
        · exact .inr h
      | 1 => simp at ho; subst ho; exact .inl ((hown _).2 (.inr rfl))
      | o + 2 => simp at ho
  refine ⟨⟨w', e.Im, [lo', some lb], Bld t el l' p' (v + 1)⟩, rfl, rfl, ⟨rfl, ?_, ?_, ?_, fun b hb => Nat.lt_of_lt_of_le (g.imlt b hb) fr.size, ?_⟩, mv⟩
  · have hd : ∀ q, lo' = some q → q.blk ≠ lb.blk := fun q hq hc => hne (by rw [hlo', hq]; simp [hc])
    intro o o' q q' ho ho' hoo
    match o, o' with
    | 0, 0 => exact absurd rfl hoo
    | 1, 1 => exact absurd rfl hoo
    | 0, 1 => simp at ho ho'; subst ho'; exact hd q ho
    | 1, 0 => simp at ho ho'; subst ho; exact fun h => hd q' ho' h.symm
    | o + 2, _ => simp at ho
    | 0, o' + 2 => simp at ho'
    | 1, o' + 2 => simp at ho'
  · intro o q ho
    match o with
    | 0 =>
      simp at ho; subst ho
      rcases (hnew q.blk rfl).1 with h | h
      · obtain ⟨q0, hq0, hqb⟩ := Option.map_eq_some_iff.1 h
        rw [← hqb]; exact (hdisl q0 hq0).1
      · exact fun hi => absurd (g.imlt _ hi) (by omega)
    | 1 => simp at ho; subst ho; exact hnb
    | o + 2 => simp at ho
  · intro o q ho
    match o with
    | 0 => simp at ho; subst ho; exact (hnew q.blk rfl).2
    | 1 => simp at ho; subst ho; exact Nat.lt_of_lt_of_le hlb fr.size
    | o + 2 => simp at ho
  · intro o ob lo0 h1 h2
    match o with
    | 0 =>
      simp [Bld] at h1 h2
      subst h1 h2
      exact hbuf.2
    | 1 =>
      simp [Bld] at h1 h2
      subst h1 h2
      refine ⟨lb, [pv', hv'], _, rfl, rfl, rfl, hb, fun j x c hx hc => ?_⟩
      match j with
      | 0 =>
        simp at hx hc; subst hx; subst hc
        rcases hp with ⟨rfl, rfl⟩ | ⟨rfl, rfl⟩
        · exact .v .np
        · exact .pt (.xo (.bv t) [.pt 1 0 0 0, .os 0 (v + 1)]) (some lb) rfl rfl ⟨rfl, lb, rfl, rfl⟩ rfl
      | 1 =>
        simp at hx hc; subst hx; subst hc
        refine .os (.buf el (v + 1) l') lo' rfl rfl ⟨Nat.le_refl _, fun _ => hbuf.1⟩ ?_
        rcases hr with ⟨rfl, _⟩ | ⟨_, g', cap, cur, rfl, _⟩ <;> rfl
      | j + 2 => simp at hx
    | o + 2 => simp [Bld] at h1
end Go.Av
/- What is appended to a builder's list: nothing else of the world turns, and no draw is taken back. No condition. -/
set_option linter.constructorNameAsVariable false
namespace Go.Av
open Go Go.RowKit Go.Lib
set_option linter.unusedSimpArgs false
set_option linter.unusedVariables false
structure App (w w' : World) (row row' : Option Nat) : Prop where
  os : w'.os = w.os
  tape : w'.tape = w.tape
  output : OutW w w'
  size : w.heap.size ≤ w'.heap.size
  same : ∀ k, k < w.heap.size → some k ≠ row → w'.heap[k]? = w.heap[k]?
  new : ∀ k, row' = some k → row = some k ∨ w.heap.size ≤ k
theorem app_grow {w : World} {el : TypeId} {l m : List UInt8} {zs : Array Value} {old : Nat} {row : Option Nat} (hne : l ++ m ≠ []) (h63 : l.length + m.length ≤ maxLen) (hz : zs.size = grownCap w (l.length + m.length) old el - (l.length + m.length)) :
    RowW (w.drew.alloc (.cells ((bytesV l).toArray ++ (bytesV m).toArray ++ zs) el)) el (.slice (some ⟨w.heap.size, 0, none⟩) (l ++ m).length (grownCap w (l.length + m.length) old el)) (l ++ m) ∧
      App w (w.drew.alloc (.cells ((bytesV l).toArray ++ (bytesV m).toArray ++ zs) el)) row (some w.heap.size) := by
  have hge := grownCap_ge w (l.length + m.length) old el
  have hcm := grownCap_le_maxLen w (l.length + m.length) old el h63
  refine ⟨.inr ⟨hne, _, _, _, rfl, heap_alloc_new w.drew _, by rw [List.length_append]; exact hge, hcm, ?_, ?_⟩, ⟨rfl, rfl, ⟨rfl, Nat.le_succ _⟩, by simp, fun k hk _ => heap_alloc_old w.drew _ hk, fun k hk => .inr (by cases hk; exact Nat.le_refl _)⟩⟩
  · simp [hz]; omega
  · simp only [Array.toList_append, bytesV, List.map_append, List.length_append]
    rw [List.take_left' (by simp)]
theorem app_room {w : World} {el : TypeId} {l m : List UInt8} {g cap : Nat} {cur : Array Value} (hne : l ≠ []) (hg : w.heap[g]? = some (.cells cur el (0, 0))) (hcm : cap ≤ maxLen) (hs : cur.size = cap) (ht : cur.toList.take l.length = bytesV l) (hr : l.length + m.length ≤ cap) :
    RowW (w.setRow g (cur.toList.take l.length ++ bytesV m ++ cur.toList.drop (l.length + m.length)).toArray) el (.slice (some ⟨g, 0, none⟩) (l ++ m).length cap) (l ++ m) ∧
      App w (w.setRow g (cur.toList.take l.length ++ bytesV m ++ cur.toList.drop (l.length + m.length)).toArray) (some g) (some g) := by
  refine ⟨.inr ⟨by simp [hne], _, _, _, rfl, setRow_heap w g cur _ el _ hg, by rw [List.length_append]; exact hr, hcm, ?_, ?_⟩, ⟨rfl, rfl, ⟨rfl, Nat.le_refl _⟩, by simp, fun k _ hk => setRow_other w g k _ (fun e => hk (by simp [e])), fun k hk => .inl hk⟩⟩
  · simp only [List.size_toArray, List.length_append, List.length_take, List.length_drop, Array.length_toList, bytesV_length]
    omega
  · rw [ht, List.length_append]
    simp only [bytesV, ← List.map_append]
    rw [List.take_left' (by simp)]
theorem row_own {w : World} {el : TypeId} {l : List UInt8} {g cap : Nat} {cur : Array Value} (k1 : w.heap[g]? = some (.cells cur el (0, 0))) (k2 : l.length ≤ cap) (k3 : cap ≤ maxLen) (k4 : cur.size = cap) (k5 : cur.toList.take l.length = bytesV l) :
    w.ownsRow 0 el 1 (.slice (some ⟨g, 0, none⟩) l.length cap) l.length (bytesV l) := ⟨by simp, .inr ⟨g, cap, cur, rfl, Nat.zero_le _, k1, k2, k3, by simp [k4], by simpa using k5⟩⟩
section
variable {P : Program} (w : World)
theorem run_app_string {t u ty el : TypeId} {i : TypeInfo} (ht : P.underlying t = some (.slice el)) (hu : P.underlying u = some .string) (hi : P.info? el = some i) (hz : i.zero = some (.int .u8 0)) (hsize : i.size = 1) (hby : i.bytes = 1)
    {hv : Value} {l : List UInt8} (hr : RowW w el hv l) (s : ByteArray) (h48 : l.length + s.size ≤ 140737488355328) :
    ∃ hv' w', (Builtin.append_ #[t, u] ty #[hv, .string s]).run P w = .ok hv' w' ∧ RowW w' el hv' (l ++ s.data.toList) ∧ App w w' hv.ownBlock hv'.ownBlock := by
  have hsl : s.data.toList.length = s.size := by simp
  have h63 : l.length + s.data.toList.length ≤ maxLen := by unfold maxLen; omega
  have e1 : strCells s = bytesV s.data.toList := rfl
  have hz1 : (Value.int IntKind.u8 0).cells.size = 1 := rfl
  rcases hr with ⟨rfl, rfl⟩ | ⟨k0, g, cap, cur, rfl, k1, k2, k3, k4, k5⟩
  · by_cases hm : s.size = 0
    · have hn : s.data.toList = [] := List.eq_nil_of_length_eq_zero (by rw [hsl]; exact hm)
      refine ⟨.slice none 0 0, w, ?_, .inl ⟨rfl, by rw [hn]; rfl⟩, ⟨rfl, rfl, ⟨rfl, Nat.le_refl _⟩, Nat.le_refl _, fun _ _ _ => rfl, fun k hk => .inl hk⟩⟩
      have hf := run_firstCells_string (P := P) w 1 s
      rw [hm] at hf
      simp [Builtin.append_, run_underlying ht, run_underlying hu, sizeOf, typeInfo, hi, hsize, Builtin.lenOf, hm, hf]
    · have hr := run_append_nil_string (P := P) w t u ty el i (.int .u8 0) ht hu hi hz s (by omega) (by simp at h48; omega) (by rw [hby]; simp at h48; omega)
      have hgr := app_grow (w := w) (el := el) (l := []) (m := s.data.toList) (zs := Builtin.zeroCells (Value.int .u8 0).cells (grownCap w s.size 0 el - s.size)) (old := 0) (row := Value.ownBlock (.slice none 0 0)) (fun hc => hm (by rw [← hsl]; simpa using congrArg List.length hc)) h63 (by rw [size_zeroCells, hz1]; simp [hsl])
      have e2 : (s.data.map fun b => Value.int .u8 b.toNat) = (bytesV s.data.toList).toArray := by
        apply Array.ext'
        simp [bytesV]
      rw [e2] at hr
      refine ⟨_, _, hr, ?_⟩
      have e3 : (bytesV []).toArray ++ (bytesV s.data.toList).toArray = (bytesV s.data.toList).toArray := by simp [bytesV]
      simp only [List.length_nil, Nat.zero_add, hsl, List.nil_append, e3] at hgr
      exact hgr
  · by_cases hroom : l.length + s.size ≤ cap
    · have hr := run_append_room_string (P := P) w t u ty el i ht hu hi hsize g l.length cap cur k1 s hroom (by omega)
      have := app_room (m := s.data.toList) k0 k1 k3 k4 k5 (by omega)
      rw [e1] at hr
      refine ⟨_, _, hr, ?_⟩
      simpa [hsl, Value.ownBlock] using this
    · have holds : ∀ j u, (bytesV l)[j]? = some u → w.cell? ((⟨g, 0, none⟩ : Addr).add j) = some u := (row_own k1 k2 k3 k4 k5).cells (g := g) rfl
      have hr := run_append_grow_string (P := P) w t u ty el i (.int .u8 0) ht hu hi hz ⟨g, 0, none⟩ l.length cap (bytesV l) (by rw [hsize]; simp) holds s (by omega) (by omega) (by rw [hby]; exact growslice_fits (by omega) (by omega))
      have hgr := app_grow (w := w) (el := el) (l := l) (m := s.data.toList) (zs := Builtin.zeroCells (Value.int .u8 0).cells (grownCap w (l.length + s.size) cap el - (l.length + s.size))) (old := cap) (row := some g) (by simp [k0]) h63 (by rw [size_zeroCells, hz1]; simp [hsl])
      rw [e1] at hr
      refine ⟨_, _, hr, ?_⟩
      simpa [hsl, Value.ownBlock] using hgr
theorem run_app_byte {t ty el : TypeId} {i : TypeInfo} (ht : P.underlying t = some (.slice el)) (hi : P.info? el = some i) (hz : i.zero = some (.int .u8 0)) (hsize : i.size = 1) (hby : i.bytes = 1)
    {hv : Value} {l : List UInt8} (hr : RowW w el hv l) (c : UInt8) (a : Addr) (cap0 : Nat) (hc : w.cell? a = some (.int .u8 (c.toNat : Int))) (h48 : l.length + 1 ≤ 140737488355328) :
    ∃ hv' w', (Builtin.append_ #[t, t] ty #[hv, .slice (some a) 1 cap0]).run P w = .ok hv' w' ∧ RowW w' el hv' (l ++ [c]) ∧ App w w' hv.ownBlock hv'.ownBlock := by
  have h63 : l.length + [c].length ≤ maxLen := by unfold maxLen; simp; omega
  have hz1 : (Value.int IntKind.u8 0).cells.size = 1 := rfl
  have hnews : ∀ (j : Nat) u, (bytesV [c])[j]? = some u → w.cell? (a.add j) = some u := fun j u hj => by
    match j, hj with
    | 0, hj => simp [bytesV] at hj; subst hj; simpa [Addr.add] using hc
  have hone : ∀ u ∈ bytesV [c], u.oneCell' = true := fun u hu => by simp [bytesV] at hu; subst hu; rfl
  have hln : (bytesV [c]).length = 1 * i.size := by rw [hsize]; rfl
  rcases hr with ⟨rfl, rfl⟩ | ⟨k0, g, cap, cur, rfl, k1, k2, k3, k4, k5⟩
  · have hr := run_append_nil (P := P) w t ty el i (.int .u8 0) ht hi hz a 1 cap0 (bytesV [c]) hln hnews (by omega) (by omega) (by rw [hby]; omega)
    have hgr := app_grow (w := w) (el := el) (l := []) (m := [c]) (zs := Builtin.zeroCells (Value.int .u8 0).cells (grownCap w 1 0 el - 1)) (old := 0) (row := Value.ownBlock (.slice none 0 0)) (by simp) h63 (by rw [size_zeroCells, hz1]; simp)
    have e3 : (bytesV []).toArray ++ (bytesV [c]).toArray = (bytesV [c]).toArray := by simp [bytesV]
    refine ⟨_, _, hr, ?_⟩
    simp only [List.length_nil, Nat.zero_add, List.length_singleton, List.nil_append, e3] at hgr
    exact hgr
  · by_cases hroom : l.length + 1 ≤ cap
    · have hr := run_append_room (P := P) w t ty el i ht hi g l.length cap cur k1 a 1 cap0 (bytesV [c]) hln hnews hone hroom (by rw [hsize]; simp; omega)
      have := app_room (m := [c]) k0 k1 k3 k4 k5 (by simpa using hroom)
      refine ⟨_, _, hr, ?_⟩
      simpa [hsize, Value.ownBlock] using this
    · have holds : ∀ j u, (bytesV l)[j]? = some u → w.cell? ((⟨g, 0, none⟩ : Addr).add j) = some u := (row_own k1 k2 k3 k4 k5).cells (g := g) rfl
      have hr := run_append_grow (P := P) w t ty el i (.int .u8 0) ht hi hz ⟨g, 0, none⟩ l.length cap (bytesV l) (by rw [hsize]; simp) holds a 1 cap0 (bytesV [c]) hln hnews (by omega) (by omega) (by rw [hby]; exact growslice_fits (by omega) (by omega))
      have hgr := app_grow (w := w) (el := el) (l := l) (m := [c]) (zs := Builtin.zeroCells (Value.int .u8 0).cells (grownCap w (l.length + 1) cap el - (l.length + 1))) (old := cap) (row := some g) (by simp) h63 (by rw [size_zeroCells, hz1]; simp)
      refine ⟨_, _, hr, ?_⟩
      simpa [Value.ownBlock] using hgr
end
theorem wpList_app_string {P : Program} {w : World} {ops : Array Oper} {rest : List Oper} {o : Oper} {a : Act} {Q : Exit → Act → World → Prop} (hgd : o.guard = none) (sl x : Operand) (t u : TypeId)
    (ho : o.op = .call { callee := .builtin .append, args := #[sl, x], argTypes := #[t, u] }) (el : TypeId) (i : TypeInfo) (ht : P.underlying t = some (.slice el)) (hu : P.underlying u = some .string) (hi : P.info? el = some i) (hz : i.zero = some (.int .u8 0)) (hsize : i.size = 1) (hby : i.bytes = 1)
    (hv : Value) (l : List UInt8) (hs : a.eval sl = hv) (hr : RowW w el hv l) (s : ByteArray) (hx : a.eval x = .string s) (h48 : l.length + s.size ≤ 140737488355328)
    (h : ∀ hv' w', RowW w' el hv' (l ++ s.data.toList) → App w w' hv.ownBlock hv'.ownBlock → wpList P ops Q rest (a.put o.dst hv') w') : wpList P ops Q (o :: rest) a w := by
  refine wpList_plain hgd fun K hK => ?_
  obtain ⟨hv', w', h1, h2, h3⟩ := run_app_string (P := P) w (ty := o.type) ht hu hi hz hsize hby hr s h48
  unfold Oper.wp execOp
  simp only [ho, resolve, invoke, builtin, Sem.run_bind, Sem.run_pure, Result.andThen_ok, List.map_toArray, List.map_cons, List.map_nil, hs, hx, h1]
  exact hK _ _ (h hv' w' h2 h3)
theorem wpList_app_byte {P : Program} {w : World} {ops : Array Oper} {rest : List Oper} {o : Oper} {a : Act} {Q : Exit → Act → World → Prop} (hgd : o.guard = none) (sl x : Operand) (t : TypeId)
    (ho : o.op = .call { callee := .builtin .append, args := #[sl, x], argTypes := #[t, t] }) (el : TypeId) (i : TypeInfo) (ht : P.underlying t = some (.slice el)) (hi : P.info? el = some i) (hz : i.zero = some (.int .u8 0)) (hsize : i.size = 1) (hby : i.bytes = 1)
    (hv : Value) (l : List UInt8) (hs : a.eval sl = hv) (hr : RowW w el hv l) (c : UInt8) (ad : Addr) (cap0 : Nat) (hx : a.eval x = .slice (some ad) 1 cap0) (hc : w.cell? ad = some (.int .u8 (c.toNat : Int))) (h48 : l.length + 1 ≤ 140737488355328)
    (h : ∀ hv' w', RowW w' el hv' (l ++ [c]) → App w w' hv.ownBlock hv'.ownBlock → wpList P ops Q rest (a.put o.dst hv') w') : wpList P ops Q (o :: rest) a w := by
  refine wpList_plain hgd fun K hK => ?_
  obtain ⟨hv', w', h1, h2, h3⟩ := run_app_byte (P := P) w (ty := o.type) ht hi hz hsize hby hr c ad cap0 hc h48
  unfold Oper.wp execOp
  simp only [ho, resolve, invoke, builtin, Sem.run_bind, Sem.run_pure, Result.andThen_ok, List.map_toArray, List.map_cons, List.map_nil, hs, hx, h1]
  exact hK _ _ (h hv' w' h2 h3)
end Go.Av
/- The methods of a builder, and nothing else of the world turns. No condition. -/
set_option linter.constructorNameAsVariable false
set_option linter.unusedVariables false
set_option linter.unusedSimpArgs false
namespace Go.Proofs
open Go.Shelf Go.RowKit Go.Av
variable {P : Program} {ρ : Ren}
structure CpF (w w' : World) (b : Nat) : Prop where
  os : w'.os = w.os
  tape : w'.tape = w.tape
  output : OutW w w'
  size : w'.heap.size = w.heap.size
  same : ∀ k, k ≠ b → w'.heap[k]? = w.heap[k]?
theorem cpF_set (w : World) (b j : Nat) (v : Value) : CpF w (w.setCell ⟨b, j, none⟩ v) b :=
  ⟨rfl, rfl, ⟨rfl, Nat.le_refl _⟩, by simp [World.setCell], fun k hk => Below.heap_setCell _ _ _ _ (fun e => hk (by simpa using e))⟩
theorem copy_strong (L : Lays.n240 P ρ) (X : Builder.X72 P ρ) {b : Nat} {w : World} {pv hv : Value} (hb : w.heap[b]? = some (.cells #[pv, hv] (ρ.t 72) (0, 0))) (hp : pv = .pointer none ∨ pv = .pointer (some ⟨b, 0, none⟩)) :
    Calls P (ρ.f 240) #[.pointer (some ⟨b, 0, none⟩)] w fun E w' => E = .returned (.tuple #[]) ∧ w'.heap[b]? = some (.cells #[.pointer (some ⟨b, 0, none⟩), hv] (ρ.t 72) (0, 0)) ∧ CpF w w' b := by
  rcases hp with rfl | rfl
  · refine (Any.Builder_copyCheck_fresh L X b w (by simp [World.cell?, hb]) (by simp [World.shape?, hb]) (by simp [World.frozen?, hb])).mono ?_
    rintro E w' ⟨rfl, rfl⟩
    exact ⟨rfl, by simp [World.setCell, Array.getElem?_modify, hb], cpF_set _ _ _ _⟩
  · refine (Any.Builder_copyCheck_used L X b w (by simp [World.cell?, hb])).mono ?_
    rintro E w' ⟨rfl, rfl⟩
    exact ⟨rfl, hb, rfl, rfl, ⟨rfl, Nat.le_refl _⟩, rfl, fun _ _ => rfl⟩
theorem bld_put {b : Nat} {T el : TypeId} {w w1 w2 : World} {hv hv' : Value} {l' : List UInt8} (hTe : T ≠ el) (c : CpF w w1 b) (hb1 : w1.heap[b]? = some (.cells #[.pointer (some ⟨b, 0, none⟩), hv] T (0, 0))) (hr : RowW w2 el hv' l') (a : App w1 w2 hv.ownBlock hv'.ownBlock) (hne : hv.ownBlock ≠ some b) :
    w2.heap[b]? = some (.cells #[.pointer (some ⟨b, 0, none⟩), hv] T (0, 0)) ∧ (w2.setCell ⟨b, 1, none⟩ hv').heap[b]? = some (.cells #[.pointer (some ⟨b, 0, none⟩), hv'] T (0, 0)) ∧ RowW (w2.setCell ⟨b, 1, none⟩ hv') el hv' l' ∧ Frm w (w2.setCell ⟨b, 1, none⟩ hv') b hv.ownBlock hv'.ownBlock ∧ hv'.ownBlock ≠ some b := by
  have hlt : b < w1.heap.size := (Array.getElem?_eq_some_iff.1 hb1).1
  have hb2 : w2.heap[b]? = some (.cells #[.pointer (some ⟨b, 0, none⟩), hv] T (0, 0)) := (a.same b hlt fun h => hne h.symm).trans hb1
  have hne' : hv'.ownBlock ≠ some b := by
    rcases hr with ⟨rfl, _⟩ | ⟨_, g, cap, cur, rfl, k1, _⟩
    · simp [Value.ownBlock]
    · intro h
      simp only [Value.ownBlock, Option.some.injEq] at h
      subst h
      rw [hb2] at k1
      simp only [Option.some.injEq, Obj.cells.injEq] at k1
      exact hTe k1.2.1
  have hoth : ∀ k, k ≠ b → (w2.setCell ⟨b, 1, none⟩ hv').heap[k]? = w2.heap[k]? := fun k hk => Below.heap_setCell _ _ _ _ (fun e => hk (by simpa using e))
  have hsz : (w2.setCell ⟨b, 1, none⟩ hv').heap.size = w2.heap.size := by simp [World.setCell]
  refine ⟨hb2, by simp [World.setCell, Array.getElem?_modify, hb2], ?_, ⟨a.os.trans c.os, a.tape.trans c.tape, ⟨a.output.1.trans c.output.1, Nat.le_trans c.output.2 a.output.2⟩, ?_, fun k hk hkb hkr => ?_, fun k hk => ?_⟩, hne'⟩
  · rcases hr with h | ⟨k0, g, cap, cur, rfl, k1, k2⟩
    · exact .inl h
    · exact .inr ⟨k0, g, cap, cur, rfl, (hoth g fun h => hne' (by simp [Value.ownBlock, h])).trans k1, k2⟩
  · rw [hsz, ← c.size]; exact a.size
  · rw [hoth k hkb, a.same k (by rw [c.size]; exact hk) hkr, c.same k hkb]
  · rcases a.new k hk with h | h
    · exact .inl h
    · exact .inr (by rw [← c.size]; exact h)
set_option maxHeartbeats 2000000 in
set_option maxRecDepth 100000 in
theorem ws_strong (L : Lays.n166 P ρ) (X : Builder.Extra P ρ) {b : Nat} {l : List UInt8} {w : World} {pv hv : Value} (s : ByteArray) (hb : w.heap[b]? = some (.cells #[pv, hv] (ρ.t 72) (0, 0))) (hr : RowW w (ρ.t 5) hv l) (hne : hv.ownBlock ≠ some b)
    (hp : pv = .pointer none ∨ pv = .pointer (some ⟨b, 0, none⟩)) (h48 : l.length + s.size ≤ 140737488355328) :
    Calls P (ρ.f 166) #[.pointer (some ⟨b, 0, none⟩), .string s] w fun E w' => E = .returned (.tuple #[.int .i64 s.size, .nilIface]) ∧ ∃ hv', w'.heap[b]? = some (.cells #[.pointer (some ⟨b, 0, none⟩), hv'] (ρ.t 72) (0, 0)) ∧ RowW w' (ρ.t 5) hv' (l ++ s.data.toList) ∧ Frm w w' b hv.ownBlock hv'.ownBlock ∧ hv'.ownBlock ≠ some b := by
  obtain ⟨i0, hi, hz0, hz1, hz2⟩ := info_parts X.infoByte
  have mixed := L.mixed
  have t72 := L.t72; have a72 := L.a72; have z72 := L.z72; have v72 := L.v72; have u72 := run_underlying L.t72
  have t70 := L.t70; have a70 := L.a70; have z70 := L.z70; have v70 := L.v70; have u70 := run_underlying L.t70
  have t37 := L.t37; have a37 := L.a37; have z37 := L.z37; have v37 := L.v37; have u37 := run_underlying L.t37
  have t3 := L.t3; have a3 := L.a3; have z3 := L.z3; have v3 := L.v3; have u3 := run_underlying L.t3
  have t9 := L.t9; have a9 := L.a9; have z9 := L.z9; have v9 := L.v9; have u9 := run_underlying L.t9
  have t4 := L.t4; have a4 := L.a4; have z4 := L.z4; have v4 := L.v4; have u4 := run_underlying L.t4
  have t164 := L.t164; have a164 := L.a164; have z164 := L.z164; have v164 := L.v164; have u164 := run_underlying L.t164
  have t5 := X.t5; have a5 := X.a5; have z5 := X.z5; have v5 := X.v5; have u5 := run_underlying X.t5
  have e240 : ∀ args w, (callFunc (ρ.f 240) args).run P w = .ok (.enter (ρ.f 240) args) w := enters_of L.f240 (by kernel_rfl) rfl
  go_enter L.f166, Body.n166_ntmps ρ
  go_wp2_with (go_at_fn (ρ.f 240); refine (copy_strong { L with } X.toX72 hb hp).mono ?_)
  rintro e w1 ⟨rfl, hb1, cp⟩
  have c0 : w1.cell? ⟨b, 0, none⟩ = some (.pointer (some ⟨b, 0, none⟩)) := by rw [Lib.cell_of_heap hb1]; rfl
  have c1 : w1.cell? ⟨b, 1, none⟩ = some hv := by rw [Lib.cell_of_heap hb1]; rfl
  have hr1 : RowW w1 (ρ.t 5) hv l := by
    rcases hr with h | ⟨k0, g, cap, cur, rfl, k1, k2⟩
    · exact .inl h
    · exact .inr ⟨k0, g, cap, cur, rfl, (cp.same g fun h => hne (by simp [Value.ownBlock, h])).trans k1, k2⟩
  go_wp2_with (at_builtin; refine wpList_app_string rfl _ _ (ρ.t 37) (ρ.t 9) rfl (ρ.t 5) i0 L.t37 L.t9 hi hz0 hz1 hz2 _ l rfl hr1 s rfl h48 ?_)
  intro hv' w2 hr2 ha
  obtain ⟨hb2, q1, q2, q3, q4⟩ := bld_put X.neB5 cp hb1 hr2 ha hne
  have d0 : w2.cell? ⟨b, 0, none⟩ = some (.pointer (some ⟨b, 0, none⟩)) := by rw [Lib.cell_of_heap hb2]; rfl
  have d1 : w2.cell? ⟨b, 1, none⟩ = some hv := by rw [Lib.cell_of_heap hb2]; rfl
  have f1 : w2.frozen? ⟨b, 1, none⟩ = false := Lib.frozen_of_heap hb2 1
  obtain ⟨ao, n', cap, rfl⟩ : ∃ ao n' cap, hv' = .slice ao n' cap := by
    rcases hr2 with ⟨hv, _⟩ | ⟨_, g, cap, cur, hv, _⟩
    · exact ⟨_, _, _, hv⟩
    · exact ⟨_, _, _, hv⟩
  go_wp2
  go_ret2
  exact ⟨rfl, _, q1, q2, q3, q4⟩
set_option maxHeartbeats 2000000 in
set_option maxRecDepth 100000 in
theorem wb_strong (L : Lays.n167 P ρ) (X : Builder.Extra P ρ) {b : Nat} {l : List UInt8} {w : World} {pv hv : Value} (c : UInt8) (hb : w.heap[b]? = some (.cells #[pv, hv] (ρ.t 72) (0, 0))) (hr : RowW w (ρ.t 5) hv l) (hne : hv.ownBlock ≠ some b)
    (hp : pv = .pointer none ∨ pv = .pointer (some ⟨b, 0, none⟩)) (h48 : l.length + 1 ≤ 140737488355328) :
    Calls P (ρ.f 167) #[.pointer (some ⟨b, 0, none⟩), .int .u8 (c.toNat : Int)] w fun E w' => E = .returned .nilIface ∧ ∃ hv', w'.heap[b]? = some (.cells #[.pointer (some ⟨b, 0, none⟩), hv'] (ρ.t 72) (0, 0)) ∧ RowW w' (ρ.t 5) hv' (l ++ [c]) ∧ Frm w w' b hv.ownBlock hv'.ownBlock ∧ hv'.ownBlock ≠ some b := by
  obtain ⟨i0, hi, hz0, hz1, hz2⟩ := info_parts X.infoByte
  have mixed := L.mixed
  have t72 := L.t72; have a72 := L.a72; have z72 := L.z72; have v72 := L.v72; have u72 := run_underlying L.t72
  have t70 := L.t70; have a70 := L.a70; have z70 := L.z70; have v70 := L.v70; have u70 := run_underlying L.t70
  have t5 := L.t5; have a5 := L.a5; have z5 := L.z5; have v5 := L.v5; have u5 := run_underlying L.t5
  have t37 := L.t37; have a37 := L.a37; have z37 := L.z37; have v37 := L.v37; have u37 := run_underlying L.t37
  have t9 := L.t9; have a9 := L.a9; have z9 := L.z9; have v9 := L.v9; have u9 := run_underlying L.t9
  have t4 := L.t4; have a4 := L.a4; have z4 := L.z4; have v4 := L.v4; have u4 := run_underlying L.t4
  have t164 := L.t164; have a164 := L.a164; have z164 := L.z164; have v164 := L.v164; have u164 := run_underlying L.t164
  have e240 : ∀ args w, (callFunc (ρ.f 240) args).run P w = .ok (.enter (ρ.f 240) args) w := enters_of L.f240 (by kernel_rfl) rfl
  go_enter L.f167, Body.n167_ntmps ρ
  go_wp2_with (go_at_fn (ρ.f 240); refine (copy_strong { L with } X.toX72 hb hp).mono ?_)
  rintro e w1 ⟨rfl, hb1, cp⟩
  have c0 : w1.cell? ⟨b, 0, none⟩ = some (.pointer (some ⟨b, 0, none⟩)) := by rw [Lib.cell_of_heap hb1]; rfl
  have c1 : w1.cell? ⟨b, 1, none⟩ = some hv := by rw [Lib.cell_of_heap hb1]; rfl
  have hr1 : RowW w1 (ρ.t 5) hv l := by
    rcases hr with h | ⟨k0, g, cap, cur, rfl, k1, k2⟩
    · exact .inl h
    · exact .inr ⟨k0, g, cap, cur, rfl, (cp.same g fun h => hne (by simp [Value.ownBlock, h])).trans k1, k2⟩
  have hal : ∀ o, RowW (w1.alloc o) (ρ.t 5) hv l := fun o => by
    rcases hr1 with h | ⟨k0, g, cap, cur, rfl, k1, k2⟩
    · exact .inl h
    · exact .inr ⟨k0, g, cap, cur, rfl, (heap_alloc_old w1 o (Array.getElem?_eq_some_iff.1 k1).1).trans k1, k2⟩
  go_wp2_with (at_builtin; refine wpList_app_byte rfl _ _ (ρ.t 37) rfl (ρ.t 5) i0 L.t37 hi hz0 hz1 hz2 _ l rfl (hal _) c ⟨w1.heap.size, 0, none⟩ 1 rfl ?c1 h48 ?_)
  case c1 => simp
  intro hv' w2 hr2 ha0
  have ha : App w1 w2 hv.ownBlock hv'.ownBlock := by
    refine ⟨ha0.os, ha0.tape, ha0.output, ?_, fun k hk hkr => ?_, fun k hk => ?_⟩
    · have := ha0.size; simp at this; omega
    · rw [ha0.same k (by simp; omega) hkr, heap_alloc_old _ _ hk]
    · rcases ha0.new k hk with h | h
      · exact .inl h
      · simp at h; exact .inr (by omega)
  obtain ⟨hb2, q1, q2, q3, q4⟩ := bld_put X.neB5 cp hb1 hr2 ha hne
  have d0 : w2.cell? ⟨b, 0, none⟩ = some (.pointer (some ⟨b, 0, none⟩)) := by rw [Lib.cell_of_heap hb2]; rfl
  have d1 : w2.cell? ⟨b, 1, none⟩ = some hv := by rw [Lib.cell_of_heap hb2]; rfl
  have f1 : w2.frozen? ⟨b, 1, none⟩ = false := Lib.frozen_of_heap hb2 1
  obtain ⟨ao, n', cap, rfl⟩ : ∃ ao n' cap, hv' = .slice ao n' cap := by
    rcases hr2 with ⟨hv, _⟩ | ⟨_, g, cap, cur, hv, _⟩
    · exact ⟨_, _, _, hv⟩
    · exact ⟨_, _, _, hv⟩
  go_wp2
  go_ret
  exact ⟨rfl, _, q1, q2, q3, q4⟩
set_option maxHeartbeats 2000000 in
set_option maxRecDepth 100000 in
theorem str_strong (L : Lays.n169 P ρ) (X : Builder.Extra P ρ) {b : Nat} {l : List UInt8} {w : World} {pv hv : Value} (hb : w.heap[b]? = some (.cells #[pv, hv] (ρ.t 72) (0, 0))) (hr : RowW w (ρ.t 5) hv l) :
    Calls P (ρ.f 169) #[.pointer (some ⟨b, 0, none⟩)] w fun E w' => E = .returned (.string ⟨l.toArray⟩) ∧ w'.os = w.os ∧ w'.tape = w.tape ∧ OutW w w' ∧ w'.heap.size = w.heap.size ∧ ∀ k, some k ≠ hv.ownBlock → w'.heap[k]? = w.heap[k]? := by
  have mixed := L.mixed
  have t72 := L.t72; have a72 := L.a72; have z72 := L.z72; have v72 := L.v72; have u72 := run_underlying L.t72
  have t70 := L.t70; have a70 := L.a70; have z70 := L.z70; have v70 := L.v70; have u70 := run_underlying L.t70
  have t37 := L.t37; have a37 := L.a37; have z37 := L.z37; have v37 := L.v37; have u37 := run_underlying L.t37
  have t127 := L.t127; have a127 := L.a127; have z127 := L.z127; have v127 := L.v127; have u127 := run_underlying L.t127
  have t3 := L.t3; have a3 := L.a3; have z3 := L.z3; have v3 := L.v3; have u3 := run_underlying L.t3
  have t9 := L.t9; have a9 := L.a9; have z9 := L.z9; have v9 := L.v9; have u9 := run_underlying L.t9
  have t5 := X.t5; have a5 := X.a5; have z5 := X.z5; have v5 := X.v5; have u5 := run_underlying X.t5
  have c1 : w.drew.cell? ⟨b, 1, none⟩ = some hv := by
    have : w.drew.heap[b]? = some (.cells #[pv, hv] (ρ.t 72) (0, 0)) := hb
    rw [Lib.cell_of_heap this]; rfl
  rcases hr with ⟨rfl, rfl⟩ | ⟨k0, g, cap, cur, rfl, k1, k2, k3, k4, k5⟩
  · have hUS := Any.unsafeString_none L X
    have hSD : (Builtin.unsafeSliceData_ #[(ρ.t 37)] (ρ.t 127) #[.slice none 0 0]).run P w.drew = .ok (.pointer none) w.drew := rfl
    go_enter L.f169, Body.n169_ntmps ρ
    go_wp2
    go_region_o
    all_goals (go_wp2; go_ret; exact ⟨rfl, rfl, rfl, ⟨rfl, Nat.le_succ _⟩, rfl, fun _ _ => rfl⟩)
  · have hl0 : l.length ≠ 0 := by simpa using k0
    have hown := row_own k1 k2 k3 k4 k5
    have hSD : (Builtin.unsafeSliceData_ #[(ρ.t 37)] (ρ.t 127) #[.slice (some ⟨g, 0, none⟩) l.length cap]).run P w.drew = .ok (.pointer (some ⟨g, 0, none⟩)) w.drew :=
      Lib.run_unsafeSliceData_row _ _ _ _ _ _ (by omega)
    have hUS : (Builtin.unsafeString_ #[(ρ.t 127), (ρ.t 3)] (ρ.t 9) #[.pointer (some ⟨g, 0, none⟩), .int .i64 l.length]).run P w.drew = .ok (.string ⟨l.toArray⟩) (w.drew.freeze ⟨g, 0, none⟩ l.length) := by
      refine Lib.run_unsafeString_row w.drew (ρ.t 127) (ρ.t 3) (ρ.t 9) (ρ.t 5) L.t127 X.cellsByte g cur.size (by have hg' : w.drew.heap[g]? = some (.cells cur (ρ.t 5) (0, 0)) := k1; simp [World.shape?, hg']) l k0 (by omega) (by unfold maxLen at k3; omega) ?_
      intro j x hx
      exact hown.cells (g := g) rfl j (.int .u8 x.toNat) (by simp [bytesV, hx])
    have hfz : ∀ k, some k ≠ some g → (w.drew.freeze ⟨g, 0, none⟩ l.length).heap[k]? = w.heap[k]? := fun k hk => by
      unfold World.freeze
      split
      · rfl
      · simp only [Array.getElem?_modify]
        rw [if_neg (fun h => hk (by simp [h]))]; rfl
    have hfs : (w.drew.freeze ⟨g, 0, none⟩ l.length).heap.size = w.heap.size := by
      unfold World.freeze
      split
      · rfl
      · simp
    have hfo : (w.drew.freeze ⟨g, 0, none⟩ l.length).os = w.os ∧ (w.drew.freeze ⟨g, 0, none⟩ l.length).tape = w.tape ∧ OutW w (w.drew.freeze ⟨g, 0, none⟩ l.length) := by
      unfold World.freeze
      split
      · exact ⟨rfl, rfl, rfl, Nat.le_succ _⟩
      · exact ⟨rfl, rfl, rfl, Nat.le_succ _⟩
    go_enter L.f169, Body.n169_ntmps ρ
    go_wp2
    go_region_o
    all_goals (go_wp2; go_ret; exact ⟨rfl, hfo.1, hfo.2.1, hfo.2.2, hfs, hfz⟩)
end Go.Proofs
/- A builder's methods and numerals, as contracts of the walk. No condition. -/
set_option linter.constructorNameAsVariable false
set_option linter.unusedVariables false
set_option linter.unusedSimpArgs false
namespace Go.Av
open Go Go.Shelf Go.RowKit Go.Proofs
variable {P : Program} {ρ : Ren}
theorem vr_ptr {e : Env} {t el : TypeId} {l : List UInt8} {p : RV} {v : Nat} {lo : Option Loc} {lb : Loc} (hH : e.H = Bld t el l p v) (hρ : e.ρ = [lo, some lb]) {c : Value} (h : VR e (.pt 1 0 0 0) c) : c = .pointer (some ⟨lb.blk, 0, none⟩) := by
  cases h with
  | pt ob lo' q1 q2 q3 =>
    rw [hH] at q1
    rw [hρ] at q2
    cases q1
    cases q2
    obtain ⟨_, l', hl', hc⟩ := q3
    cases hl'
    exact hc
theorem bld_p {e : Env} {t el : TypeId} {l : List UInt8} {p : RV} {v : Nat} {lo : Option Loc} {lb : Loc} (hH : e.H = Bld t el l p v) (hρ : e.ρ = [lo, some lb]) (hp : p = .v .np ∨ p = .pt 1 0 0 0) {pv : Value} (h : VR e p pv) : pv = .pointer none ∨ pv = .pointer (some ⟨lb.blk, 0, none⟩) := by
  rcases hp with rfl | rfl
  · cases h with
    | v h => cases h; exact .inl rfl
  · exact .inr (vr_ptr hH hρ h)
theorem bld_ne {e : Env} (g : Good e) {lo : Option Loc} {lb : Loc} {hv : Value} (hρ : e.ρ = [lo, some lb]) (h : hv.ownBlock = lo.map Loc.blk) : hv.ownBlock ≠ some lb.blk := by
  rw [h]
  cases lo with
  | none => simp
  | some q => exact fun hc => g.inj 0 1 q lb (by rw [hρ]; rfl) (by rw [hρ]; rfl) (by omega) (by simpa using hc)
theorem ws_call (L : Lays.n166 P ρ) (X : Builder.Extra P ρ) (l s : List UInt8) (p : RV) (v : Nat) (hp : p = .v .np ∨ p = .pt 1 0 0 0) (h48 : l.length + s.length ≤ 140737488355328) :
    CallS P (ρ.f 166) [.pt 1 0 0 0, .v (.s s)] (Bld (ρ.t 72) (ρ.t 5) l p v) fun r K => r = .any ∧ K = Bld (ρ.t 72) (ρ.t 5) (l ++ s) (.pt 1 0 0 0) (v + 1) := by
  intro e vs g tb hH hn hv
  obtain ⟨lo, lb, pv, hv0, hρ, hb, hpv, hr, hown⟩ := bld_open g hH
  obtain ⟨c0, hc0⟩ := array_get (vs := vs) (j := 0) hn (by simp)
  obtain ⟨c1, hc1⟩ := array_get (vs := vs) (j := 1) hn (by simp)
  have e0 := vr_ptr hH hρ (hv 0 _ c0 rfl hc0)
  obtain ⟨S, e1, hS⟩ := (hv 1 _ c1 rfl hc1).str
  subst e0 e1
  have hvs : vs = #[.pointer (some ⟨lb.blk, 0, none⟩), .string S] := by
    apply Array.ext (by simpa using hn)
    intro i h1 h2
    match i with
    | 0 => rw [Array.getElem?_eq_getElem h1] at hc0; exact Option.some.inj hc0
    | 1 => rw [Array.getElem?_eq_getElem h1] at hc1; exact Option.some.inj hc1
    | i + 2 => exact absurd h2 (Nat.not_lt.2 (Nat.le_add_left 2 i))
  subst hvs
  have hsz : S.size = s.length := by rw [← hS]; simp
  refine callsIn_wide.2 ((ws_strong L X S hb hr (bld_ne g hρ hown) (bld_p hH hρ hp hpv) (by omega)).mono ?_)
  rintro E w' ⟨rfl, hv', q1, q2, q3, q4⟩
  rw [hS] at q2
  obtain ⟨e', k1, k2, k3, k4⟩ := bld_mv g hH hρ hown q1 q2 q3 q4 (p' := .pt 1 0 0 0) (.inr ⟨rfl, rfl⟩)
  exact ⟨_, e', .any, rfl, k1, k3, k4, .any, rfl, k2⟩
theorem wb_call (L : Lays.n167 P ρ) (X : Builder.Extra P ρ) (l : List UInt8) (b : UInt8) (p : RV) (v : Nat) (hp : p = .v .np ∨ p = .pt 1 0 0 0) (h48 : l.length + 1 ≤ 140737488355328) :
    CallS P (ρ.f 167) [.pt 1 0 0 0, .v (.i .u8 (b.toNat : Int))] (Bld (ρ.t 72) (ρ.t 5) l p v) fun r K => r = .any ∧ K = Bld (ρ.t 72) (ρ.t 5) (l ++ [b]) (.pt 1 0 0 0) (v + 1) := by
  intro e vs g tb hH hn hv
  obtain ⟨lo, lb, pv, hv0, hρ, hb, hpv, hr, hown⟩ := bld_open g hH
  obtain ⟨c0, hc0⟩ := array_get (vs := vs) (j := 0) hn (by simp)
  obtain ⟨c1, hc1⟩ := array_get (vs := vs) (j := 1) hn (by simp)
  have e0 := vr_ptr hH hρ (hv 0 _ c0 rfl hc0)
  have e1 : c1 = .int .u8 (b.toNat : Int) := by
    have h1 := hv 1 _ c1 rfl hc1
    cases h1 with
    | v h => cases h; rfl
  subst e0 e1
  have hvs : vs = #[.pointer (some ⟨lb.blk, 0, none⟩), .int .u8 (b.toNat : Int)] := by
    apply Array.ext (by simpa using hn)
    intro i h1 h2
    match i with
    | 0 => rw [Array.getElem?_eq_getElem h1] at hc0; exact Option.some.inj hc0
    | 1 => rw [Array.getElem?_eq_getElem h1] at hc1; exact Option.some.inj hc1
    | i + 2 => exact absurd h2 (Nat.not_lt.2 (Nat.le_add_left 2 i))
  subst hvs
  refine callsIn_wide.2 ((wb_strong L X b hb hr (bld_ne g hρ hown) (bld_p hH hρ hp hpv) h48).mono ?_)
  rintro E w' ⟨rfl, hv', q1, q2, q3, q4⟩
  obtain ⟨e', k1, k2, k3, k4⟩ := bld_mv g hH hρ hown q1 q2 q3 q4 (p' := .pt 1 0 0 0) (.inr ⟨rfl, rfl⟩)
  exact ⟨_, e', .any, rfl, k1, k3, k4, .any, rfl, k2⟩
theorem str_call (L : Lays.n169 P ρ) (X : Builder.Extra P ρ) (l : List UInt8) (p : RV) (v : Nat) :
    CallS P (ρ.f 169) [.pt 1 0 0 0] (Bld (ρ.t 72) (ρ.t 5) l p v) fun r K => r = .v (.s l) ∧ K = [.none, .none] := by
  intro e vs g tb hH hn hv
  obtain ⟨lo, lb, pv, hv0, hρ, hb, hpv, hr, hown⟩ := bld_open g hH
  obtain ⟨c0, hc0⟩ := array_get (vs := vs) (j := 0) hn (by simp)
  have e0 := vr_ptr hH hρ (hv 0 _ c0 rfl hc0)
  subst e0
  have hvs : vs = #[.pointer (some ⟨lb.blk, 0, none⟩)] := by
    apply Array.ext (by simpa using hn)
    intro i h1 h2
    match i with
    | 0 => rw [Array.getElem?_eq_getElem h1] at hc0; exact Option.some.inj hc0
    | i + 1 => simp at h2
  subst hvs
  refine callsIn_wide.2 ((str_strong L X hb hr).mono ?_)
  rintro E w' ⟨rfl, q1, q2, q3, q4, q5⟩
  have hno : ∀ b, ¬ e.own b → some b ≠ hv0.ownBlock := fun b hb0 hc => by
    rw [hown] at hc
    obtain ⟨q, hq, hqb⟩ := Option.map_eq_some_iff.1 hc.symm
    exact hb0 ⟨0, q, by rw [hρ, hq]; rfl, hqb⟩
  have hnim : ∀ b, e.Im b → ¬ e.own b := fun b hb0 ⟨o, q, ho, hqb⟩ => g.dis o q ho (hqb ▸ hb0)
  refine ⟨_, ⟨w', e.Im, [none, none], [.none, .none]⟩, .v (.s l), rfl, rfl, ⟨rfl, fun o o' q q' ho => ?_, fun o q ho => ?_, fun o q ho => ?_, fun b hb0 => by show b < w'.heap.size; rw [q4]; exact g.imlt b hb0, fun o ob lo0 h1 h2 => ?_⟩, ⟨q1, q2, q3, by rw [q4]; exact Nat.le_refl _, fun b _ hb0 => q5 b (hno b hb0), fun _ h => h, fun b hb0 => q5 b (hno b (hnim b hb0)), fun b h => .inl h, ?_, ?_⟩, .v (.s ⟨l.toArray⟩), rfl, rfl⟩
  · match o with
    | 0 => simp at ho
    | 1 => simp at ho
    | o + 2 => simp at ho
  · match o with
    | 0 => simp at ho
    | 1 => simp at ho
    | o + 2 => simp at ho
  · match o with
    | 0 => simp at ho
    | 1 => simp at ho
    | o + 2 => simp at ho
  · match o with
    | 0 => simp at h1; subst h1; trivial
    | 1 => simp at h1; subst h1; trivial
    | o + 2 => simp at h1
  · rw [hH, hρ]
    intro o ob lo0 h1 h2
    match o with
    | 0 => exact ⟨.none, none, rfl, rfl, trivial⟩
    | 1 => exact ⟨.none, none, rfl, rfl, trivial⟩
    | o + 2 => simp [Bld] at h1
  · rintro b ⟨o, q, ho, _⟩
    match o with
    | 0 => simp at ho
    | 1 => simp at ho
    | o + 2 => simp at ho
theorem format_call (L : LaysM.n173 P ρ) (g : Nat) (hg : P.globalNamed "internal/strconv.uint64pow10" = some g) (ht : tabOf P g = some pow10s) (n : Int) (h0 : -9223372036854775808 ≤ n) (h1 : n ≤ 9223372036854775807) :
    PureS P (ρ.f 173) [.i .i64 n, .i .i64 10] (.s (Lib.itoa n)) := by
  intro e vs g0 tb hH hn hv
  obtain ⟨c0, hc0⟩ := array_get (vs := vs) (j := 0) hn (by simp)
  obtain ⟨c1, hc1⟩ := array_get (vs := vs) (j := 1) hn (by simp)
  have e0 : c0 = .int .i64 n := by
    have h1 := hv 0 _ c0 rfl hc0
    cases h1 with
    | v h => cases h; rfl
  have e1 : c1 = .int .i64 10 := by
    have h1 := hv 1 _ c1 rfl hc1
    cases h1 with
    | v h => cases h; rfl
  subst e0 e1
  have hvs : vs = #[.int .i64 n, .int .i64 10] := by
    apply Array.ext (by simpa using hn)
    intro i h1 h2
    match i with
    | 0 => rw [Array.getElem?_eq_getElem h1] at hc0; exact Option.some.inj hc0
    | 1 => rw [Array.getElem?_eq_getElem h1] at hc1; exact Option.some.inj hc1
    | i + 2 => exact absurd h2 (Nat.not_lt.2 (Nat.le_add_left 2 i))
  subst hvs
  have htab : Lib.TabIs P e.w "internal/strconv.uint64pow10" .u64 Lib.pow10Tab := by
    obtain ⟨_, t, fz, h2⟩ := tb g _ ht
    unfold Lib.TabIs World.var?
    rw [hg]
    simp only [Option.bind_some, h2]
    rfl
  refine callsIn_wide.2 ((Any.strconv_FormatInt_10 L n h0 h1 e.w htab).mono ?_)
  rintro E w' ⟨rfl, k, os, rfl⟩
  have hρ0 : e.ρ = [] := List.eq_nil_of_length_eq_zero (by rw [g0.len, hH]; rfl)
  have hgr : ∀ b, b < e.w.heap.size → (Go.Sort.grow (e.w.drewN k) os).heap[b]? = e.w.heap[b]? := fun b hb => Go.Sort.heap_grow_old (e.w.drewN k) os hb
  have hsz : e.w.heap.size ≤ (Go.Sort.grow (e.w.drewN k) os).heap.size := by rw [Go.Sort.size_grow]; exact Nat.le_add_right _ _
  refine ⟨_, ⟨Go.Sort.grow (e.w.drewN k) os, e.Im, [], []⟩, .v (.s (Lib.itoa n)), rfl, rfl, ⟨rfl, fun o o' q q' ho => by simp at ho, fun o q ho => by simp at ho, fun o q ho => by simp at ho, fun b hb => Nat.lt_of_lt_of_le (g0.imlt b hb) hsz, fun o ob lo0 h1 h2 => by simp at h1⟩,
    ⟨rfl, rfl, ⟨rfl, Nat.le_add_right _ _⟩, hsz, fun b hb _ => hgr b hb, fun _ h => h, fun b hb => hgr b (g0.imlt b hb), fun b h => .inl h, fun o ob lo0 h1 h2 => by rw [hH] at h1; simp at h1, fun b ⟨o, q, ho, _⟩ => by simp at ho⟩, .v (.s ⟨(Lib.itoa n).toArray⟩), rfl⟩
theorem itoa_call (L : LaysM.n171 P ρ) (g : Nat) (hg : P.globalNamed "internal/strconv.uint64pow10" = some g) (ht : tabOf P g = some pow10s) (n : Int) (h0 : -9223372036854775808 ≤ n) (h1 : n ≤ 9223372036854775807) :
    PureS P (ρ.f 171) [.i .i64 n] (.s (Lib.itoa n)) := by
  intro e vs g0 tb hH hn hv
  obtain ⟨c0, hc0⟩ := array_get (vs := vs) (j := 0) hn (by simp)
  have e0 : c0 = .int .i64 n := by
    have h1 := hv 0 _ c0 rfl hc0
    cases h1 with
    | v h => cases h; rfl
  subst e0
  have hvs : vs = #[.int .i64 n] := by
    apply Array.ext (by simpa using hn)
    intro i h1 h2
    match i with
    | 0 => rw [Array.getElem?_eq_getElem h1] at hc0; exact Option.some.inj hc0
    | i + 1 => exact absurd h2 (Nat.not_lt.2 (Nat.le_add_left 1 i))
  subst hvs
  have htab : Lib.TabIs P e.w "internal/strconv.uint64pow10" .u64 Lib.pow10Tab := by
    obtain ⟨_, t, fz, h2⟩ := tb g _ ht
    unfold Lib.TabIs World.var?
    rw [hg]
    simp only [Option.bind_some, h2]
    rfl
  refine callsIn_wide.2 ((Any.strconv_Itoa L n h0 h1 e.w htab).mono ?_)
  rintro E w' ⟨rfl, k, os, rfl⟩
  have hρ0 : e.ρ = [] := List.eq_nil_of_length_eq_zero (by rw [g0.len, hH]; rfl)
  have hgr : ∀ b, b < e.w.heap.size → (Go.Sort.grow (e.w.drewN k) os).heap[b]? = e.w.heap[b]? := fun b hb => Go.Sort.heap_grow_old (e.w.drewN k) os hb
  have hsz : e.w.heap.size ≤ (Go.Sort.grow (e.w.drewN k) os).heap.size := by rw [Go.Sort.size_grow]; exact Nat.le_add_right _ _
  refine ⟨_, ⟨Go.Sort.grow (e.w.drewN k) os, e.Im, [], []⟩, .v (.s (Lib.itoa n)), rfl, rfl, ⟨rfl, fun o o' q q' ho => by simp at ho, fun o q ho => by simp at ho, fun o q ho => by simp at ho, fun b hb => Nat.lt_of_lt_of_le (g0.imlt b hb) hsz, fun o ob lo0 h1 h2 => by simp at h1⟩,
    ⟨rfl, rfl, ⟨rfl, Nat.le_add_right _ _⟩, hsz, fun b hb _ => hgr b hb, fun _ h => h, fun b hb => hgr b (g0.imlt b hb), fun b h => .inl h, fun o ob lo0 h1 h2 => by rw [hH] at h1; simp at h1, fun b ⟨o, q, ho, _⟩ => by simp at ho⟩, .v (.s ⟨(Lib.itoa n).toArray⟩), rfl⟩
end Go.Av
