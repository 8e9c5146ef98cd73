/- Scarab's data, read: what is handed in as a program is one. No condition. -/
import Derived.Test.YtgipkikbefnokaaDoorXSc
set_option linter.constructorNameAsVariable false
namespace Go.Sc
open Go Go.Av
set_option linter.unusedSimpArgs false
set_option linter.unusedVariables false

def iSh : Sh := .i .i64
def varSh : List Sh := [.b, iSh]
def instrSh : List Sh := [iSh, iSh, iSh, iSh, iSh]
def caseSh : List Sh := [.b, iSh, iSh, iSh]
def selectSh : List Sh := [.sl 32 caseSh, iSh]
def funcSh : List Sh := [iSh, iSh, .sl 40 instrSh, .sl 32 selectSh]
def progSh : List Sh := [.sl 16 varSh, iSh, .sl 8 [iSh], .sl 64 funcSh]

theorem fit_i {x : AV} (h : Fit iSh x) : ∃ n, x = .i .i64 n ∧ I64 n := by
  simp only [iSh, Fit] at h
  obtain ⟨n, rfl, h1, h2⟩ := h
  simp [IntKind.min, IntKind.max, IntKind.signed, IntKind.bits] at h1 h2
  exact ⟨n, rfl, by omega, by omega⟩

theorem fit_rows {α : Type} {f : α → List AV} {Q : α → Prop} {l : List Sh} (h : ∀ xs, FitL l xs → ∃ a, xs = f a ∧ Q a) : ∀ {rows : List (List AV)}, (∀ row ∈ rows, FitL l row) → ∃ as : List α, rows = as.map f ∧ ∀ a ∈ as, Q a
  | [], _ => ⟨[], rfl, by simp⟩
  | row :: rows, hr => by
    obtain ⟨a, h1, h2⟩ := h row (hr row (by simp))
    obtain ⟨al, h3, h4⟩ := fit_rows h (rows := rows) (fun r hr' => hr r (by simp [hr']))
    exact ⟨a :: al, by simp [h1, h3], by simpa using ⟨h2, h4⟩⟩

theorem fit_sl {α : Type} {f : α → List AV} {Q : α → Prop} {l : List Sh} {b : Nat} (h : ∀ xs, FitL l xs → ∃ a, xs = f a ∧ Q a) {x : AV} (hx : Fit (.sl b l) x) : ∃ as : List α, x = .sl l.length (as.map f) ∧ Few b as ∧ ∀ a ∈ as, Q a := by
  simp only [Fit] at hx
  obtain ⟨rows, rfl, h1, h2, h3⟩ := hx
  obtain ⟨as, rfl, h4⟩ := fit_rows h h3
  exact ⟨as, rfl, by simpa [Few] using h1, h4⟩

theorem fit_cons {s : Sh} {ss : List Sh} {xs : List AV} (h : FitL (s :: ss) xs) : ∃ x ys, xs = x :: ys ∧ Fit s x ∧ FitL ss ys := by
  cases xs with
  | nil => simp [FitL] at h
  | cons x ys => simp only [FitL] at h; exact ⟨x, ys, rfl, h.1, h.2⟩
theorem fit_nil {xs : List AV} (h : FitL [] xs) : xs = [] := by
  cases xs with
  | nil => rfl
  | cons x ys => simp [FitL] at h
theorem fit_b {x : AV} (h : Fit .b x) : ∃ b, x = .b b := by simpa [Fit] using h

theorem open_var (xs : List AV) (h : FitL varSh xs) : ∃ v : Var, xs = v.row ∧ I64 v.init := by
  obtain ⟨x, ys, rfl, h1, h⟩ := fit_cons h
  obtain ⟨y, ys, rfl, h2, h⟩ := fit_cons h
  obtain rfl := fit_nil h
  obtain ⟨b, rfl⟩ := fit_b h1
  obtain ⟨n, rfl, k2⟩ := fit_i h2
  exact ⟨⟨b, n⟩, rfl, k2⟩

theorem open_instr (xs : List AV) (h : FitL instrSh xs) : ∃ i : Instr, xs = i.row ∧ (I64 i.op ∧ I64 i.a ∧ I64 i.b ∧ I64 i.c ∧ I64 i.n) := by
  obtain ⟨x1, ys, rfl, h1, h⟩ := fit_cons h
  obtain ⟨x2, ys, rfl, h2, h⟩ := fit_cons h
  obtain ⟨x3, ys, rfl, h3, h⟩ := fit_cons h
  obtain ⟨x4, ys, rfl, h4, h⟩ := fit_cons h
  obtain ⟨x5, ys, rfl, h5, h⟩ := fit_cons h
  obtain rfl := fit_nil h
  obtain ⟨n1, rfl, k1⟩ := fit_i h1
  obtain ⟨n2, rfl, k2⟩ := fit_i h2
  obtain ⟨n3, rfl, k3⟩ := fit_i h3
  obtain ⟨n4, rfl, k4⟩ := fit_i h4
  obtain ⟨n5, rfl, k5⟩ := fit_i h5
  exact ⟨⟨n1, n2, n3, n4, n5⟩, rfl, k1, k2, k3, k4, k5⟩

theorem open_case (xs : List AV) (h : FitL caseSh xs) : ∃ c : Case, xs = c.row ∧ (I64 c.chan ∧ I64 c.reg ∧ I64 c.to) := by
  obtain ⟨x1, ys, rfl, h1, h⟩ := fit_cons h
  obtain ⟨x2, ys, rfl, h2, h⟩ := fit_cons h
  obtain ⟨x3, ys, rfl, h3, h⟩ := fit_cons h
  obtain ⟨x4, ys, rfl, h4, h⟩ := fit_cons h
  obtain rfl := fit_nil h
  obtain ⟨n1, rfl⟩ := fit_b h1
  obtain ⟨n2, rfl, k2⟩ := fit_i h2
  obtain ⟨n3, rfl, k3⟩ := fit_i h3
  obtain ⟨n4, rfl, k4⟩ := fit_i h4
  exact ⟨⟨n1, n2, n3, n4⟩, rfl, k2, k3, k4⟩

theorem open_select (xs : List AV) (h : FitL selectSh xs) : ∃ s : Select, xs = s.row ∧ s.Ok := by
  obtain ⟨x1, ys, rfl, h1, h⟩ := fit_cons h
  obtain ⟨x2, ys, rfl, h2, h⟩ := fit_cons h
  obtain rfl := fit_nil h
  obtain ⟨cs, rfl, k1, k3⟩ := fit_sl open_case h1
  obtain ⟨n2, rfl, k2⟩ := fit_i h2
  exact ⟨⟨cs, n2⟩, rfl, k1, k2, k3⟩

theorem open_func (xs : List AV) (h : FitL funcSh xs) : ∃ f : Func, xs = f.row ∧ f.Ok := by
  obtain ⟨x1, ys, rfl, h1, h⟩ := fit_cons h
  obtain ⟨x2, ys, rfl, h2, h⟩ := fit_cons h
  obtain ⟨x3, ys, rfl, h3, h⟩ := fit_cons h
  obtain ⟨x4, ys, rfl, h4, h⟩ := fit_cons h
  obtain rfl := fit_nil h
  obtain ⟨n1, rfl, k1⟩ := fit_i h1
  obtain ⟨n2, rfl, k2⟩ := fit_i h2
  obtain ⟨is, rfl, k3, k5⟩ := fit_sl open_instr h3
  obtain ⟨ss, rfl, k4, k6⟩ := fit_sl open_select h4
  exact ⟨⟨n1, n2, is, ss⟩, rfl, k1, k2, k3, k4, k5, k6⟩

theorem open_int (xs : List AV) (h : FitL [iSh] xs) : ∃ n : Int, xs = irow n ∧ I64 n := by
  obtain ⟨x1, ys, rfl, h1, h⟩ := fit_cons h
  obtain rfl := fit_nil h
  obtain ⟨n1, rfl, k1⟩ := fit_i h1
  exact ⟨n1, rfl, k1⟩

theorem open_prog (xs : List AV) (h : FitL progSh xs) : ∃ p : Prog, xs = p.row ∧ p.Ok := by
  obtain ⟨x1, ys, rfl, h1, h⟩ := fit_cons h
  obtain ⟨x2, ys, rfl, h2, h⟩ := fit_cons h
  obtain ⟨x3, ys, rfl, h3, h⟩ := fit_cons h
  obtain ⟨x4, ys, rfl, h4, h⟩ := fit_cons h
  obtain rfl := fit_nil h
  obtain ⟨vs, rfl, k1, k5⟩ := fit_sl open_var h1
  obtain ⟨n2, rfl, k2⟩ := fit_i h2
  obtain ⟨cs, rfl, k3, k6⟩ := fit_sl open_int h3
  obtain ⟨fs, rfl, k4, k7⟩ := fit_sl open_func h4
  exact ⟨⟨vs, n2, cs, fs⟩, rfl, k1, k5, k2, k3, k6, k4, k7⟩

theorem arg_prog {P : Program} {d : Nat} {t : TypeId} {a : AV} (hsh : shT P d t = some progSh) (hs : (match P.underlying t with | some (.struct _) => true | _ => false) = true) (h : ∃ sh xs, shT P d t = some sh ∧ FitL sh xs ∧ a = argV P t xs) : ∃ p : Prog, a = .g p.row ∧ p.Ok := by
  obtain ⟨sh, xs, h1, h2, h3⟩ := h
  rw [hsh] at h1
  cases h1
  obtain ⟨p, rfl, hp⟩ := open_prog xs h2
  refine ⟨p, ?_, hp⟩
  rw [h3, argV]
  split at hs
  · rename_i h; rw [h]
  · cases hs

theorem arg_int {P : Program} {d : Nat} {t : TypeId} {a : AV} (hsh : shT P d t = some [iSh]) (hs : (match P.underlying t with | some (.int _) => true | _ => false) = true) (h : ∃ sh xs, shT P d t = some sh ∧ FitL sh xs ∧ a = argV P t xs) : ∃ n : Int, a = .i .i64 n ∧ I64 n := by
  obtain ⟨sh, xs, h1, h2, h3⟩ := h
  rw [hsh] at h1
  cases h1
  obtain ⟨n, rfl, hn⟩ := open_int xs h2
  refine ⟨n, ?_, hn⟩
  rw [h3, argV]
  split at hs
  · rename_i h; rw [h]; rfl
  · cases hs
end Go.Sc
