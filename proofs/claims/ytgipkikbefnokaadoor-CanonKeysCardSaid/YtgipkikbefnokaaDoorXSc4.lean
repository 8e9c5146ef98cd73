/- What a law is handed: lists of events, lists of numbers. No condition. -/
import Derived.Test.YtgipkikbefnokaaDoorXSc3
import Derived.Test.YtgipkikbefnokaaDoorXEvt
set_option linter.constructorNameAsVariable false
namespace Go.Sc
open Go Go.Av Go.RowKit
set_option linter.unusedSimpArgs false
set_option linter.unusedVariables false
def accSh : List Sh := [.i .i64, .i .i64, .b]
def evSh : List Sh := [.i .i64, .i .i64, .i .i64, .i .i64, .i .i64, .i .i64, .i .i64] ++ (accSh ++ (accSh ++ (accSh ++ (accSh ++ (accSh ++ (accSh ++ [.i .i64]))))))
theorem open_num {row : List AV} (h : FitL [.i .i64] row) : ∃ n : Int, row = irow n ∧ I64 n := by
  obtain ⟨x, ys, rfl, k1, k2⟩ := fit_cons h
  obtain rfl := fit_nil k2
  simp only [Fit] at k1
  obtain ⟨n, rfl, h1, h2⟩ := k1
  exact ⟨n, rfl, by simpa [IntKind.min, IntKind.signed, IntKind.bits] using h1, by simpa [IntKind.max, IntKind.signed, IntKind.bits] using h2⟩
theorem open_ev {row : List AV} (h : FitL evSh row) : ∃ e : Or.Ev, row = e.row ∧ True := by
  have hi : ∀ {a : AV}, Fit (.i .i64) a → ∃ n, a = .i .i64 n := fun {a} h => by simp only [Fit] at h; obtain ⟨n, h, _⟩ := h; exact ⟨n, h⟩
  have hb : ∀ {a : AV}, Fit .b a → ∃ n, a = .b n := fun {a} h => by simp only [Fit] at h; exact h
  simp only [evSh, accSh, List.cons_append, List.nil_append] at h
  obtain ⟨_, ys0, rfl, k0, h0⟩ := fit_cons h; obtain ⟨x0, rfl⟩ := hi k0
  obtain ⟨_, ys1, rfl, k1, h1⟩ := fit_cons h0; obtain ⟨x1, rfl⟩ := hi k1
  obtain ⟨_, ys2, rfl, k2, h2⟩ := fit_cons h1; obtain ⟨x2, rfl⟩ := hi k2
  obtain ⟨_, ys3, rfl, k3, h3⟩ := fit_cons h2; obtain ⟨x3, rfl⟩ := hi k3
  obtain ⟨_, ys4, rfl, k4, h4⟩ := fit_cons h3; obtain ⟨x4, rfl⟩ := hi k4
  obtain ⟨_, ys5, rfl, k5, h5⟩ := fit_cons h4; obtain ⟨x5, rfl⟩ := hi k5
  obtain ⟨_, ys6, rfl, k6, h6⟩ := fit_cons h5; obtain ⟨x6, rfl⟩ := hi k6
  obtain ⟨_, ys7, rfl, k7, h7⟩ := fit_cons h6; obtain ⟨p0, rfl⟩ := hi k7
  obtain ⟨_, ys8, rfl, k8, h8⟩ := fit_cons h7; obtain ⟨q0, rfl⟩ := hi k8
  obtain ⟨_, ys9, rfl, k9, h9⟩ := fit_cons h8; obtain ⟨w0, rfl⟩ := hb k9
  obtain ⟨_, ys10, rfl, k10, h10⟩ := fit_cons h9; obtain ⟨p1, rfl⟩ := hi k10
  obtain ⟨_, ys11, rfl, k11, h11⟩ := fit_cons h10; obtain ⟨q1, rfl⟩ := hi k11
  obtain ⟨_, ys12, rfl, k12, h12⟩ := fit_cons h11; obtain ⟨w1, rfl⟩ := hb k12
  obtain ⟨_, ys13, rfl, k13, h13⟩ := fit_cons h12; obtain ⟨p2, rfl⟩ := hi k13
  obtain ⟨_, ys14, rfl, k14, h14⟩ := fit_cons h13; obtain ⟨q2, rfl⟩ := hi k14
  obtain ⟨_, ys15, rfl, k15, h15⟩ := fit_cons h14; obtain ⟨w2, rfl⟩ := hb k15
  obtain ⟨_, ys16, rfl, k16, h16⟩ := fit_cons h15; obtain ⟨p3, rfl⟩ := hi k16
  obtain ⟨_, ys17, rfl, k17, h17⟩ := fit_cons h16; obtain ⟨q3, rfl⟩ := hi k17
  obtain ⟨_, ys18, rfl, k18, h18⟩ := fit_cons h17; obtain ⟨w3, rfl⟩ := hb k18
  obtain ⟨_, ys19, rfl, k19, h19⟩ := fit_cons h18; obtain ⟨p4, rfl⟩ := hi k19
  obtain ⟨_, ys20, rfl, k20, h20⟩ := fit_cons h19; obtain ⟨q4, rfl⟩ := hi k20
  obtain ⟨_, ys21, rfl, k21, h21⟩ := fit_cons h20; obtain ⟨w4, rfl⟩ := hb k21
  obtain ⟨_, ys22, rfl, k22, h22⟩ := fit_cons h21; obtain ⟨p5, rfl⟩ := hi k22
  obtain ⟨_, ys23, rfl, k23, h23⟩ := fit_cons h22; obtain ⟨q5, rfl⟩ := hi k23
  obtain ⟨_, ys24, rfl, k24, h24⟩ := fit_cons h23; obtain ⟨w5, rfl⟩ := hb k24
  obtain ⟨_, ys25, rfl, k25, h25⟩ := fit_cons h24; obtain ⟨x7, rfl⟩ := hi k25
  obtain rfl := fit_nil h25
  exact ⟨⟨x0, x1, x2, x3, x4, x5, x6, ⟨p0, q0, w0⟩, ⟨p1, q1, w1⟩, ⟨p2, q2, w2⟩, ⟨p3, q3, w3⟩, ⟨p4, q4, w4⟩, ⟨p5, q5, w5⟩, x7⟩, rfl, trivial⟩
theorem argV_list {P : Program} {t : TypeId} {x : AV} (hs : (match P.underlying t with | some (.struct _) => false | some (.array _ _) => false | _ => true) = true) : argV P t [x] = x := by
  rw [argV]
  cases hu : P.underlying t with
  | none => rfl
  | some d => cases d with
    | struct _ => rw [hu] at hs; cases hs
    | array _ _ => rw [hu] at hs; cases hs
    | _ => rfl
theorem arg_evs {P : Program} {d : Nat} {t : TypeId} {a : AV} (hsh : shT P d t = some [.sl 208 evSh]) (hs : (match P.underlying t with | some (.struct _) => false | some (.array _ _) => false | _ => true) = true) (h : ∃ sh xs, shT P d t = some sh ∧ FitL sh xs ∧ a = argV P t xs) : ∃ l : List Or.Ev, a = .sl 26 (l.map Or.Ev.row) ∧ l.length < 1000000000000 := by
  obtain ⟨sh, xs, h1, h2, h3⟩ := h
  rw [hsh] at h1
  cases h1
  obtain ⟨x, ys, rfl, k1, k2⟩ := fit_cons h2
  obtain rfl := fit_nil k2
  obtain ⟨l, rfl, k3, _⟩ := fit_sl (fun xs h => open_ev h) k1
  refine ⟨l, by rw [h3, argV_list hs]; rfl, ?_⟩
  simp [Few] at k3
  omega
theorem arg_evf {P : Program} {d : Nat} {t : TypeId} {a : AV} (hsh : shT P d t = some [.sl 208 evSh]) (hs : (match P.underlying t with | some (.struct _) => false | some (.array _ _) => false | _ => true) = true) (h : ∃ sh xs, shT P d t = some sh ∧ FitL sh xs ∧ a = argV P t xs) : ∃ l : List Or.Ev, a = .sl 26 (l.map Or.Ev.row) ∧ l.length ≤ 676622540169 := by
  obtain ⟨sh, xs, h1, h2, h3⟩ := h
  rw [hsh] at h1
  cases h1
  obtain ⟨x, ys, rfl, k1, k2⟩ := fit_cons h2
  obtain rfl := fit_nil k2
  obtain ⟨l, rfl, k3, _⟩ := fit_sl (fun xs h => open_ev h) k1
  refine ⟨l, by rw [h3, argV_list hs]; rfl, ?_⟩
  simp [Few] at k3
  omega
theorem arg_ints {P : Program} {d : Nat} {t : TypeId} {a : AV} (hsh : shT P d t = some [.sl 8 [.i .i64]]) (hs : (match P.underlying t with | some (.struct _) => false | some (.array _ _) => false | _ => true) = true) (h : ∃ sh xs, shT P d t = some sh ∧ FitL sh xs ∧ a = argV P t xs) : ∃ l : List Int, a = .sl 1 (l.map irow) ∧ l.length < 100000000000000 ∧ ∀ n ∈ l, I64 n := by
  obtain ⟨sh, xs, h1, h2, h3⟩ := h
  rw [hsh] at h1
  cases h1
  obtain ⟨x, ys, rfl, k1, k2⟩ := fit_cons h2
  obtain rfl := fit_nil k2
  obtain ⟨l, rfl, k3, k4⟩ := fit_sl (fun xs h => open_num h) k1
  refine ⟨l, by rw [h3, argV_list hs]; rfl, ?_, k4⟩
  simp [Few] at k3
  omega
end Go.Sc
/- What a law is handed: lists of events, whose numbers are in range. No condition. -/
set_option linter.constructorNameAsVariable false
namespace Go.Sc
open Go Go.Av Go.RowKit
set_option linter.unusedSimpArgs false
set_option linter.unusedVariables false
def Or.Ev.B64 (e : Or.Ev) : Prop := ∀ k z, AV.i k z ∈ e.row → I64 z
theorem fit_row : ∀ {sh : List Sh} {row : List AV}, FitL sh row → (∀ s ∈ sh, s = .i .i64 ∨ s = .b) → ∀ k z, AV.i k z ∈ row → I64 z
  | [], row, h, _, k, z, hm => by
    obtain rfl := fit_nil h
    cases hm
  | s :: sh, row, h, hs, k, z, hm => by
    obtain ⟨x, ys, rfl, k1, k2⟩ := fit_cons h
    rcases List.mem_cons.1 hm with hm | hm
    · rcases hs s (by simp) with rfl | rfl
      · simp only [Fit] at k1
        obtain ⟨n, rfl, h1, h2⟩ := k1
        cases hm
        exact ⟨by simpa [IntKind.min, IntKind.signed, IntKind.bits] using h1, by simpa [IntKind.max, IntKind.signed, IntKind.bits] using h2⟩
      · simp only [Fit] at k1
        obtain ⟨n, rfl⟩ := k1
        cases hm
    · exact fit_row k2 (fun s hs' => hs s (by simp [hs'])) k z hm
theorem open_evB {row : List AV} (h : FitL evSh row) : ∃ e : Or.Ev, row = e.row ∧ e.B64 := by
  obtain ⟨e, rfl, _⟩ := open_ev h
  exact ⟨e, rfl, fit_row h (by simp [evSh, accSh])⟩
theorem arg_evb {P : Program} {d : Nat} {t : TypeId} {a : AV} (hsh : shT P d t = some [.sl 208 evSh]) (hs : (match P.underlying t with | some (.struct _) => false | some (.array _ _) => false | _ => true) = true) (h : ∃ sh xs, shT P d t = some sh ∧ FitL sh xs ∧ a = argV P t xs) :
    ∃ l : List Or.Ev, a = .sl 26 (l.map Or.Ev.row) ∧ l.length ≤ 676622540169 ∧ ∀ e ∈ l, e.B64 := by
  obtain ⟨sh, xs, h1, h2, h3⟩ := h
  rw [hsh] at h1
  cases h1
  obtain ⟨x, ys, rfl, k1, k2⟩ := fit_cons h2
  obtain rfl := fit_nil k2
  obtain ⟨l, rfl, k3, k4⟩ := fit_sl (fun xs h => open_evB h) k1
  refine ⟨l, by rw [h3, argV_list hs]; rfl, ?_, k4⟩
  simp [Few] at k3
  omega
end Go.Sc
