/- Words for a walk over plain values: what a value reads as (VI: memory that nobody writes; VR: with references into memory of one's own), and a step from one memory to the next (Mv). No condition. -/
import Derived.CallsIn
import Derived.Laws.Sem
import Derived.Below
set_option linter.constructorNameAsVariable false
set_option linter.unusedSimpArgs false
set_option linter.unusedVariables false
namespace Go.Av
open Go Go.RowKit

inductive AV where
  | b (x : Bool)
  | i (k : IntKind) (n : Int)
  | s (x : List UInt8)
  | g (cs : List AV)
  | tup (vs : List AV)
  | sl (sz : Nat) (rows : List (List AV))
  | nil
  | pim (cs : List AV)
  | np
  | fn (f : Nat) (caps : List AV)
  | nf

structure Loc where
  blk : Nat
  cap : Nat
def Loc.off (_ : Loc) : Nat := 0

inductive Sk where
  | none
  | var
  | arr (ver sz n : Nat)
  | xo (im : Bool)
  | buf (e : TypeId) (ver n : Nat)
structure Stt where
  w : World
  Im : Nat → Prop
  ρ : List (Option Loc)
  H : List Sk

inductive RV where
  | v (x : AV)
  | os (o ver : Nat)
  | sub (o ver lo n : Nat)
  | pt (o ver r off : Nat)
  | fr (f : Nat) (caps : List RV)
  | bf (f : Nat) (first : List RV)
  | tr (vs : List RV)
  | gr (cs : List RV)
  | any
  | bo
  | cnd (c : Bool) (x : RV)
  | yl (l : Nat) (s : Stt)

inductive XK where
  | mp
  | bv (t : TypeId)
  | it (n : Nat) (seen : List Nat)
def XK.im : XK → Bool
  | .mp => true
  | .bv _ => false
  | .it _ _ => false
inductive AObj where
  | none
  | var (cs : List RV)
  | arr (ver sz : Nat) (rows : List (List RV))
  | xo (k : XK) (cs : List RV)
  | buf (e : TypeId) (ver : Nat) (l : List UInt8)
def refV (im : Bool) (b : Nat) : Value := if im then .map (some b) else .pointer (some ⟨b, 0, none⟩)
def entsV : Nat → List Value → List MapEntry
  | n, k :: v :: r => ⟨k, v, n⟩ :: entsV (n + 1) r
  | _, _ => []
def XK.obj : XK → List Value → Option Obj
  | .mp, vs => if vs.length % 2 = 0 then some (.map (entsV 0 vs).toArray (entsV 0 vs).length) else none
  | .it n seen, [.map m] => some (.mapIter m n seen.toArray n)
  | .bv t, vs => some (.cells vs.toArray t (0, 0))
  | _, _ => none

section
variable (w : World) (Im : Nat → Prop)
inductive VI : AV → Value → Prop
  | b (x : Bool) : VI (.b x) (.bool x)
  | i (k : IntKind) (n : Int) : VI (.i k n) (.int k n)
  | s (x : ByteArray) : VI (.s x.data.toList) (.string x)
  | g (cs : List AV) (vs : Array Value) (hn : vs.size = cs.length) (h1 : ∀ (j : Nat) c, vs[j]? = some c → c.oneCell' = true) (h : ∀ (j : Nat) a c, cs[j]? = some a → vs[j]? = some c → VI a c) : VI (.g cs) (.agg vs)
  | tup (cs : List AV) (vs : Array Value) (hn : vs.size = cs.length) (h : ∀ (j : Nat) a c, cs[j]? = some a → vs[j]? = some c → VI a c) : VI (.tup cs) (.tuple vs)
  | sl (sz : Nat) (rows : List (List AV)) (b off cap : Nat) (f : Nat → Nat → Value) (hb : Im b) (hsz : ∀ row ∈ rows, row.length = sz) (hcap : rows.length ≤ cap)
      (hc : ∀ (r : Nat) row (j : Nat) x, rows[r]? = some row → row[j]? = some x → w.cell? ⟨b, off + r * sz + j, Option.none⟩ = some (f r j) ∧ (f r j).oneCell' = true)
      (h : ∀ (r : Nat) row (j : Nat) x, rows[r]? = some row → row[j]? = some x → VI x (f r j)) : VI (.sl sz rows) (.slice (some ⟨b, off, Option.none⟩) rows.length cap)
  | sle (sz : Nat) (a : Option Addr) (cap : Nat) : VI (.sl sz []) (.slice a 0 cap)
  | nil (a : Option Addr) : VI .nil (.slice a 0 0)
  | pim (cs : List AV) (b off : Nat) (f : Nat → Value) (hb : Im b)
      (hc : ∀ (j : Nat) x, cs[j]? = some x → w.cell? ⟨b, off + j, Option.none⟩ = some (f j) ∧ (f j).oneCell' = true) (h : ∀ (j : Nat) x, cs[j]? = some x → VI x (f j)) : VI (.pim cs) (.pointer (some ⟨b, off, Option.none⟩))
  | np : VI .np (.pointer Option.none)
  | fn (f : Nat) (cs : List AV) (vs : Array Value) (hn : vs.size = cs.length) (h : ∀ (j : Nat) a c, cs[j]? = some a → vs[j]? = some c → VI a c) : VI (.fn f cs) (.func (.func f) #[] vs)
  | nf : VI .nf .nilFunc
end

theorem cell_eq {w w' : World} {b : Nat} (h : w'.heap[b]? = w.heap[b]?) (o : Nat) : w'.cell? ⟨b, o, none⟩ = w.cell? ⟨b, o, none⟩ := by
  simp only [World.cell?, h]

theorem VI.mono {w w' : World} {Im Im' : Nat → Prop} (hi : ∀ b, Im b → Im' b) (hw : ∀ b, Im b → w'.heap[b]? = w.heap[b]?) {x : AV} {c : Value} (h : VI w Im x c) : VI w' Im' x c := by
  induction h with
  | b x => exact .b x
  | i k n => exact .i k n
  | s x => exact .s x
  | g cs vs hn h1 _ ih => exact .g cs vs hn h1 ih
  | tup cs vs hn _ ih => exact .tup cs vs hn ih
  | sl sz rows b off cap f hb hsz hcap hc _ ih =>
    exact .sl sz rows b off cap f (hi b hb) hsz hcap (fun r row j x h1 h2 => by rw [cell_eq (hw b hb)]; exact hc r row j x h1 h2) ih
  | sle sz a cap => exact .sle sz a cap
  | nil a => exact .nil a
  | pim cs b off f hb hc _ ih => exact .pim cs b off f (hi b hb) (fun j x h1 => by rw [cell_eq (hw b hb)]; exact hc j x h1) ih
  | np => exact .np
  | fn f cs vs hn _ ih => exact .fn f cs vs hn ih
  | nf => exact .nf

def ArrV (lo : Option Loc) (n : Nat) (c : Value) : Prop :=
  match lo with
  | none => n = 0 ∧ ∃ a, c = .slice a 0 0
  | some l => c = .slice (some ⟨l.blk, l.off, none⟩) n l.cap

def BufV (lo : Option Loc) (n : Nat) (c : Value) : Prop :=
  match lo with
  | none => n = 0 ∧ c = .slice none 0 0
  | some l => c = .slice (some ⟨l.blk, 0, none⟩) n l.cap
def osOK (ob : AObj) (lo : Option Loc) (ver : Nat) (c : Value) : Prop :=
  match ob with
  | .none => True
  | .var _ => False
  | .xo _ _ => False
  | .buf _ v l => ver ≤ v ∧ (ver = v → BufV lo l.length c)
  | .arr v _ rows => ver ≤ v ∧ (ver = v → ArrV lo rows.length c)

def SubV (lc : Option Loc) (sz lo n : Nat) (c : Value) : Prop :=
  match lc with
  | none => n = 0 ∧ ∃ a, c = .slice a 0 0
  | some l => (lo = 0 → c = .slice (some ⟨l.blk, l.off, none⟩) n l.cap) ∧ (0 < n → ∃ cap, n ≤ cap ∧ c = .slice (some ⟨l.blk, l.off + lo * sz, none⟩) n cap) ∧ ∃ a cap, c = .slice a n cap
def subOK (ob : AObj) (lc : Option Loc) (ver lo n : Nat) (c : Value) : Prop :=
  match ob with
  | .none => True
  | .var _ => False
  | .xo _ _ => False
  | .buf _ _ _ => False
  | .arr v sz rows => ver ≤ v ∧ (ver = v → lo + n ≤ rows.length ∧ SubV lc sz lo n c)

def ptOK (ob : AObj) (lo : Option Loc) (ver r off : Nat) (c : Value) : Prop :=
  match ob with
  | .none => True
  | .var _ => ver = 0 ∧ ∃ l, lo = some l ∧ c = .pointer (some ⟨l.blk, l.off + off, none⟩)
  | .arr v sz _ => ver ≤ v ∧ (ver = v → ∃ l, lo = some l ∧ c = .pointer (some ⟨l.blk, l.off + r * sz + off, none⟩))
  | .xo k _ => ver = 0 ∧ ∃ l, lo = some l ∧ c = refV k.im l.blk
  | .buf _ _ _ => False

structure Env where
  w : World
  Im : Nat → Prop
  ρ : List (Option Loc)
  H : List AObj

def AObj.sk : AObj → Sk
  | .none => .none
  | .var _ => .var
  | .arr v sz rows => .arr v sz rows.length
  | .xo k _ => .xo k.im
  | .buf e v l => .buf e v l.length
def Env.st (e : Env) : Stt := ⟨e.w, e.Im, e.ρ, e.H.map AObj.sk⟩
def Stt.own (s : Stt) (b : Nat) : Prop := ∃ (o : Nat) (l : Loc), s.ρ[o]? = some (some l) ∧ l.blk = b
def NxtS (a : Sk) (lo : Option Loc) (b : Sk) (lo' : Option Loc) : Prop :=
  match b with
  | .none => True
  | .var => lo' = lo ∧ a = .var
  | .xo im => lo' = lo ∧ a = .xo im
  | .buf t v' n' => ∃ v n, a = .buf t v n ∧ (v < v' ∨ (v = v' ∧ n' = n ∧ lo' = lo))
  | .arr v' sz' n' => ∃ v sz n, a = .arr v sz n ∧ (v < v' ∨ (v = v' ∧ sz' = sz ∧ n' = n ∧ lo' = lo))
theorem NxtS.trans {a b c : Sk} {x y z : Option Loc} (h : NxtS a x b y) (k : NxtS b y c z) : NxtS a x c z := by
  cases c with
  | none => trivial
  | var =>
    obtain ⟨rfl, rfl⟩ := k
    obtain ⟨rfl, rfl⟩ := h
    exact ⟨rfl, rfl⟩
  | xo im =>
    obtain ⟨rfl, rfl⟩ := k
    obtain ⟨rfl, rfl⟩ := h
    exact ⟨rfl, rfl⟩
  | buf t v n =>
    obtain ⟨v', n', rfl, hk⟩ := k
    obtain ⟨v'', n'', rfl, hh⟩ := h
    refine ⟨_, _, rfl, ?_⟩
    rcases hh with hh | ⟨rfl, e1, rfl⟩ <;> rcases hk with hk | ⟨rfl, e2, rfl⟩
    · exact .inl (by omega)
    · exact .inl (by omega)
    · exact .inl (by omega)
    · exact .inr ⟨rfl, by omega, rfl⟩
  | arr v sz n =>
    obtain ⟨v', sz', n', rfl, hk⟩ := k
    obtain ⟨v'', sz'', n'', rfl, hh⟩ := h
    refine ⟨_, _, _, rfl, ?_⟩
    rcases hh with hh | ⟨rfl, rfl, e1, rfl⟩ <;> rcases hk with hk | ⟨rfl, rfl, e2, rfl⟩
    · exact .inl (by omega)
    · exact .inl (by omega)
    · exact .inl (by omega)
    · exact .inr ⟨rfl, rfl, by omega, rfl⟩
structure Bs (l : Nat) (s s' : Stt) : Prop where
  im : ∀ b, s.Im b → s'.Im b
  imw : ∀ b, s.Im b → s'.w.heap[b]? = s.w.heap[b]?
  nx : ∀ (o : Nat) ob lo, s.H[o]? = some ob → s.ρ[o]? = some lo → ∃ ob' lo', s'.H[o]? = some ob' ∧ s'.ρ[o]? = some lo' ∧ NxtS ob lo ob' lo'
  lp : ∃ r, s.w.heap[l]? = some (.loop r) ∧ s'.w.heap[l]? = some (.loop r)
  no : ¬ s'.own l
  ni : ¬ s'.Im l

inductive VR (e : Env) : RV → Value → Prop
  | v {x : AV} {c : Value} (h : VI e.w e.Im x c) : VR e (.v x) c
  | os {o ver : Nat} {c : Value} (ob : AObj) (lo : Option Loc) (h1 : e.H[o]? = some ob) (h2 : e.ρ[o]? = some lo) (h : osOK ob lo ver c) (h1c : c.oneCell' = true) : VR e (.os o ver) c
  | sub {o ver lo n : Nat} {c : Value} (ob : AObj) (lc : Option Loc) (h1 : e.H[o]? = some ob) (h2 : e.ρ[o]? = some lc) (h : subOK ob lc ver lo n c) (h1c : c.oneCell' = true) : VR e (.sub o ver lo n) c
  | pt {o ver r off : Nat} {c : Value} (ob : AObj) (lo : Option Loc) (h1 : e.H[o]? = some ob) (h2 : e.ρ[o]? = some lo) (h : ptOK ob lo ver r off c) (h1c : c.oneCell' = true) : VR e (.pt o ver r off) c
  | fr {f : Nat} {cs : List RV} {vs : Array Value} (hn : vs.size = cs.length) (h : ∀ (j : Nat) a c, cs[j]? = some a → vs[j]? = some c → VR e a c) : VR e (.fr f cs) (.func (.func f) #[] vs)
  | bf {f : Nat} {cs : List RV} {vs : Array Value} (hn : vs.size = cs.length) (h : ∀ (j : Nat) a c, cs[j]? = some a → vs[j]? = some c → VR e a c) : VR e (.bf f cs) (.func (.func f) vs #[])
  | tr {cs : List RV} {vs : Array Value} (hn : vs.size = cs.length) (h : ∀ (j : Nat) a c, cs[j]? = some a → vs[j]? = some c → VR e a c) : VR e (.tr cs) (.tuple vs)
  | gr {cs : List RV} {vs : Array Value} (hn : vs.size = cs.length) (h1 : ∀ (j : Nat) c, vs[j]? = some c → c.oneCell' = true) (h : ∀ (j : Nat) a c, cs[j]? = some a → vs[j]? = some c → VR e a c) : VR e (.gr cs) (.agg vs)
  | any {c : Value} : VR e .any c
  | bo {b : Bool} : VR e .bo (.bool b)
  | cnd {t : Bool} {x : RV} {c : Value} (h : t = true → VR e x c) (h' : t = false → c = undef) : VR e (.cnd t x) c
  | yl {l : Nat} {s : Stt} (h : Bs l s e.st) : VR e (.yl l s) (.func (.yield l) #[] #[])

def Nxt (ob : AObj) (lo : Option Loc) (ob' : AObj) (lo' : Option Loc) : Prop :=
  match ob' with
  | .none => True
  | .var _ => lo' = lo ∧ ∃ cs, ob = .var cs
  | .xo k _ => lo' = lo ∧ ∃ k' cs, ob = .xo k' cs ∧ k'.im = k.im
  | .buf t v' l' => ∃ v l, ob = .buf t v l ∧ (v < v' ∨ (v = v' ∧ l'.length = l.length ∧ lo' = lo))
  | .arr v' sz' rows' => ∃ v sz rows, ob = .arr v sz rows ∧ (v < v' ∨ (v = v' ∧ sz' = sz ∧ rows'.length = rows.length ∧ lo' = lo))

theorem Nxt.refl (ob : AObj) (lo : Option Loc) : Nxt ob lo ob lo := by
  cases ob with
  | none => trivial
  | var cs => exact ⟨rfl, cs, rfl⟩
  | xo k cs => exact ⟨rfl, k, cs, rfl, rfl⟩
  | buf t v l => exact ⟨v, l, rfl, .inr ⟨rfl, rfl, rfl⟩⟩
  | arr v sz rows => exact ⟨v, sz, rows, rfl, .inr ⟨rfl, rfl, rfl, rfl⟩⟩

theorem Nxt.trans {a b c : AObj} {x y z : Option Loc} (h : Nxt a x b y) (k : Nxt b y c z) : Nxt a x c z := by
  cases c with
  | none => trivial
  | var cs =>
    obtain ⟨rfl, cs', rfl⟩ := k
    obtain ⟨rfl, cs'', rfl⟩ := h
    exact ⟨rfl, _, rfl⟩
  | xo q cs =>
    obtain ⟨rfl, q', cs', rfl, e1⟩ := k
    obtain ⟨rfl, q'', cs'', rfl, e2⟩ := h
    exact ⟨rfl, _, _, rfl, e2.trans e1⟩
  | buf t v l =>
    obtain ⟨v', n', rfl, hk⟩ := k
    obtain ⟨v'', n'', rfl, hh⟩ := h
    refine ⟨_, _, rfl, ?_⟩
    rcases hh with hh | ⟨rfl, e1, rfl⟩ <;> rcases hk with hk | ⟨rfl, e2, rfl⟩
    · exact .inl (by omega)
    · exact .inl (by omega)
    · exact .inl (by omega)
    · exact .inr ⟨rfl, by omega, rfl⟩
  | arr v sz rows =>
    obtain ⟨v', sz', rows', rfl, hk⟩ := k
    obtain ⟨v'', sz'', rows'', rfl, hh⟩ := h
    refine ⟨_, _, _, rfl, ?_⟩
    rcases hh with hh | ⟨rfl, rfl, e1, rfl⟩ <;> rcases hk with hk | ⟨rfl, rfl, e2, rfl⟩
    · exact .inl (by omega)
    · exact .inl (by omega)
    · exact .inl (by omega)
    · exact .inr ⟨rfl, rfl, by omega, rfl⟩

def Nx (H : List AObj) (ρ : List (Option Loc)) (H' : List AObj) (ρ' : List (Option Loc)) : Prop :=
  ∀ (o : Nat) ob lo, H[o]? = some ob → ρ[o]? = some lo → ∃ ob' lo', H'[o]? = some ob' ∧ ρ'[o]? = some lo' ∧ Nxt ob lo ob' lo'

theorem Nx.refl (H : List AObj) (ρ : List (Option Loc)) : Nx H ρ H ρ := fun _ ob lo h1 h2 => ⟨ob, lo, h1, h2, .refl ob lo⟩
theorem Nx.trans {H H' H'' : List AObj} {ρ ρ' ρ'' : List (Option Loc)} (h : Nx H ρ H' ρ') (k : Nx H' ρ' H'' ρ'') : Nx H ρ H'' ρ'' := fun o ob lo h1 h2 => by
  obtain ⟨ob', lo', e1, e2, n1⟩ := h o ob lo h1 h2
  obtain ⟨ob'', lo'', e3, e4, n2⟩ := k o ob' lo' e1 e2
  exact ⟨ob'', lo'', e3, e4, n1.trans n2⟩

theorem osOK.next {ob ob' : AObj} {lo lo' : Option Loc} {ver : Nat} {c : Value} (h : osOK ob lo ver c) (n : Nxt ob lo ob' lo') : osOK ob' lo' ver c := by
  cases ob' with
  | none => trivial
  | var cs => obtain ⟨rfl, cs', rfl⟩ := n; exact h.elim
  | xo k cs => obtain ⟨rfl, k', cs', rfl, _⟩ := n; exact h.elim
  | buf t v' l' =>
    obtain ⟨v, l, rfl, hn⟩ := n
    obtain ⟨h1, h2⟩ := h
    rcases hn with hn | ⟨rfl, e, rfl⟩
    · exact ⟨by omega, fun h => by omega⟩
    · exact ⟨h1, fun h => by rw [e]; exact h2 h⟩
  | arr v' sz' rows' =>
    obtain ⟨v, sz, rows, rfl, hn⟩ := n
    obtain ⟨h1, h2⟩ := h
    rcases hn with hn | ⟨rfl, rfl, e, rfl⟩
    · exact ⟨by omega, fun h => by omega⟩
    · exact ⟨h1, fun h => by rw [e]; exact h2 h⟩

theorem subOK.next {ob ob' : AObj} {lc lc' : Option Loc} {ver lo k : Nat} {c : Value} (h : subOK ob lc ver lo k c) (n : Nxt ob lc ob' lc') : subOK ob' lc' ver lo k c := by
  cases ob' with
  | none => trivial
  | var cs => obtain ⟨rfl, cs', rfl⟩ := n; exact h.elim
  | xo k cs => obtain ⟨rfl, k', cs', rfl, _⟩ := n; exact h.elim
  | buf t v' l' => obtain ⟨v, l, rfl, _⟩ := n; exact h.elim
  | arr v' sz' rows' =>
    obtain ⟨v, sz, rows, rfl, hn⟩ := n
    obtain ⟨h1, h2⟩ := h
    rcases hn with hn | ⟨rfl, rfl, e, rfl⟩
    · exact ⟨by omega, fun h => by omega⟩
    · exact ⟨h1, fun h => by rw [e]; exact h2 h⟩

theorem ptOK.next {ob ob' : AObj} {lo lo' : Option Loc} {ver r off : Nat} {c : Value} (h : ptOK ob lo ver r off c) (n : Nxt ob lo ob' lo') : ptOK ob' lo' ver r off c := by
  cases ob' with
  | none => trivial
  | var cs => obtain ⟨rfl, cs', rfl⟩ := n; exact h
  | xo k cs => obtain ⟨rfl, k', cs', rfl, e⟩ := n; simpa [ptOK, e] using h
  | buf t v' l' => obtain ⟨v, l, rfl, _⟩ := n; exact h.elim
  | arr v' sz' rows' =>
    obtain ⟨v, sz, rows, rfl, hn⟩ := n
    obtain ⟨h1, h2⟩ := h
    rcases hn with hn | ⟨rfl, rfl, e, rfl⟩
    · exact ⟨by omega, fun h => by omega⟩
    · exact ⟨h1, h2⟩

theorem VR.mono {e e' : Env} (hi : ∀ b, e.Im b → e'.Im b) (hw : ∀ b, e.Im b → e'.w.heap[b]? = e.w.heap[b]?) (hn : Nx e.H e.ρ e'.H e'.ρ) (hs : ∀ l s, Bs l s e.st → Bs l s e'.st) {x : RV} {c : Value} (h : VR e x c) : VR e' x c := by
  induction h with
  | v h => exact .v (h.mono hi hw)
  | os ob lo h1 h2 h h1c => obtain ⟨ob', lo', e1, e2, n⟩ := hn _ _ _ h1 h2; exact .os ob' lo' e1 e2 (h.next n) h1c
  | sub ob lo h1 h2 h h1c => obtain ⟨ob', lo', e1, e2, n⟩ := hn _ _ _ h1 h2; exact .sub ob' lo' e1 e2 (h.next n) h1c
  | pt ob lo h1 h2 h h1c => obtain ⟨ob', lo', e1, e2, n⟩ := hn _ _ _ h1 h2; exact .pt ob' lo' e1 e2 (h.next n) h1c
  | fr hn' _ ih => exact .fr hn' ih
  | bf hn' _ ih => exact .bf hn' ih
  | tr hn' _ ih => exact .tr hn' ih
  | gr hn' h1 _ ih => exact .gr hn' h1 ih
  | any => exact .any
  | bo => exact .bo
  | cnd _ h' ih => exact .cnd ih h'
  | yl h => exact .yl (hs _ _ h)

def barred (w : World) (a : Addr) : Bool := w.frozen? a || (match w.heap[a.block]? with | some (.cells _ _ (lo, hi)) => decide (hi < lo) | _ => false)
theorem free_of {w : World} {a : Addr} (h : barred w a = false) : w.frozen? a = false := by simp only [barred, Bool.or_eq_false_iff] at h; exact h.1

def ObjR (e : Env) (ob : AObj) (lo : Option Loc) : Prop :=
  match ob with
  | .none => True
  | .var cs => ∃ l, lo = some l ∧ ∀ (j : Nat) x, cs[j]? = some x → ∃ c, e.w.cell? ⟨l.blk, l.off + j, none⟩ = some c ∧ e.w.frozen? ⟨l.blk, l.off + j, none⟩ = false ∧ c.oneCell' = true ∧ VR e x c
  | .xo k cs => ∃ (l : Loc) (vs : List Value) (ob : Obj), lo = some l ∧ vs.length = cs.length ∧ k.obj vs = some ob ∧ e.w.heap[l.blk]? = some ob ∧ ∀ (j : Nat) x c, cs[j]? = some x → vs[j]? = some c → VR e x c
  | .buf t _ l => match lo with
    | none => l = []
    | some q => l ≠ [] ∧ ∃ cur : Array Value, e.w.heap[q.blk]? = some (.cells cur t (0, 0)) ∧ l.length ≤ q.cap ∧ q.cap ≤ maxLen ∧ cur.size = q.cap ∧ cur.toList.take l.length = l.map fun b => Value.int .u8 (b.toNat : Int)
  | .arr _ sz rows => (∀ row ∈ rows, row.length = sz) ∧
    match lo with
    | none => rows = []
    | some l => rows.length ≤ l.cap ∧ (∀ k, k < l.cap * sz → ∃ c, e.w.cell? ⟨l.blk, l.off + k, none⟩ = some c ∧ barred e.w ⟨l.blk, l.off + k, none⟩ = false) ∧
      ∀ (r : Nat) row (j : Nat) x, rows[r]? = some row → row[j]? = some x → ∃ c, e.w.cell? ⟨l.blk, l.off + r * sz + j, none⟩ = some c ∧ c.oneCell' = true ∧ VR e x c

structure Good (e : Env) : Prop where
  len : e.ρ.length = e.H.length
  inj : ∀ (o o' : Nat) l l', e.ρ[o]? = some (some l) → e.ρ[o']? = some (some l') → o ≠ o' → l.blk ≠ l'.blk
  dis : ∀ (o : Nat) l, e.ρ[o]? = some (some l) → ¬ e.Im l.blk
  lt : ∀ (o : Nat) l, e.ρ[o]? = some (some l) → l.blk < e.w.heap.size
  imlt : ∀ b, e.Im b → b < e.w.heap.size
  obj : ∀ (o : Nat) ob lo, e.H[o]? = some ob → e.ρ[o]? = some lo → ObjR e ob lo

def Env.own (e : Env) (b : Nat) : Prop := ∃ (o : Nat) (l : Loc), e.ρ[o]? = some (some l) ∧ l.blk = b

def OutW (w w' : World) : Prop := w'.output = w.output ∧ w.drawn ≤ w'.drawn
structure Mv (e e' : Env) : Prop where
  os : e'.w.os = e.w.os
  tape : e'.w.tape = e.w.tape
  output : OutW e.w e'.w
  size : e.w.heap.size ≤ e'.w.heap.size
  same : ∀ b, b < e.w.heap.size → ¬ e.own b → e'.w.heap[b]? = e.w.heap[b]?
  im : ∀ b, e.Im b → e'.Im b
  imw : ∀ b, e.Im b → e'.w.heap[b]? = e.w.heap[b]?
  imn : ∀ b, e'.Im b → e.Im b ∨ e.own b ∨ e.w.heap.size ≤ b
  nx : Nx e.H e.ρ e'.H e'.ρ
  ownn : ∀ b, e'.own b → e.own b ∨ e.w.heap.size ≤ b

theorem Mv.refl {e : Env} : Mv e e := ⟨rfl, rfl, ⟨rfl, Nat.le_refl _⟩, Nat.le_refl _, fun _ _ _ => rfl, fun _ h => h, fun _ _ => rfl, fun _ h => .inl h, .refl _ _, fun _ h => .inl h⟩

theorem Mv.trans {e e' e'' : Env} (h : Mv e e') (k : Mv e' e'') (g : Good e) : Mv e e'' where
  os := k.os.trans h.os
  tape := k.tape.trans h.tape
  output := ⟨k.output.1.trans h.output.1, Nat.le_trans h.output.2 k.output.2⟩
  size := Nat.le_trans h.size k.size
  same b hb ho := by
    rw [k.same b (Nat.lt_of_lt_of_le hb h.size) (fun hc => (h.ownn b hc).elim ho (fun h2 => absurd hb (by omega))), h.same b hb ho]
  im b hb := k.im b (h.im b hb)
  imw b hb := (k.imw b (h.im b hb)).trans (h.imw b hb)
  imn b hb := by
    rcases k.imn b hb with h1 | h1 | h1
    · exact h.imn b h1
    · rcases h.ownn b h1 with h2 | h2
      · exact .inr (.inl h2)
      · exact .inr (.inr h2)
    · exact .inr (.inr (Nat.le_trans h.size h1))
  nx := h.nx.trans k.nx
  ownn b hb := by
    rcases k.ownn b hb with h1 | h1
    · exact h.ownn b h1
    · exact .inr (Nat.le_trans h.size h1)

theorem nxtS_of {ob ob' : AObj} {lo lo' : Option Loc} (h : Nxt ob lo ob' lo') : NxtS ob.sk lo ob'.sk lo' := by
  cases ob' with
  | none => trivial
  | var cs => obtain ⟨rfl, cs', rfl⟩ := h; exact ⟨rfl, rfl⟩
  | xo k cs => obtain ⟨rfl, k', cs', rfl, e⟩ := h; exact ⟨rfl, by simp [AObj.sk, e]⟩
  | buf t v l =>
    obtain ⟨v', l', rfl, hh⟩ := h
    exact ⟨_, _, rfl, hh⟩
  | arr v sz rows =>
    obtain ⟨v', sz', rows', rfl, hh⟩ := h
    exact ⟨_, _, _, rfl, hh⟩
theorem nxt_of {ob ob' : AObj} {lo lo' : Option Loc} (h : NxtS ob.sk lo ob'.sk lo') : Nxt ob lo ob' lo' := by
  cases ob' with
  | none => trivial
  | var cs =>
    obtain ⟨rfl, h⟩ := h
    cases ob <;> simp [AObj.sk] at h
    exact ⟨rfl, _, rfl⟩
  | xo k cs =>
    obtain ⟨rfl, h⟩ := h
    cases ob <;> simp [AObj.sk] at h
    exact ⟨rfl, _, _, rfl, h⟩
  | buf t v l =>
    obtain ⟨v', n', h, hh⟩ := h
    cases ob <;> simp [AObj.sk] at h
    obtain ⟨rfl, rfl, rfl⟩ := h
    exact ⟨_, _, rfl, hh⟩
  | arr v sz rows =>
    obtain ⟨v', sz', n', h, hh⟩ := h
    cases ob <;> simp [AObj.sk] at h
    obtain ⟨rfl, rfl, rfl⟩ := h
    exact ⟨_, _, _, rfl, hh⟩
theorem Mv.nxS {e e' : Env} (h : Nx e.H e.ρ e'.H e'.ρ) : ∀ (o : Nat) ob lo, e.st.H[o]? = some ob → e.ρ[o]? = some lo → ∃ ob' lo', e'.st.H[o]? = some ob' ∧ e'.ρ[o]? = some lo' ∧ NxtS ob lo ob' lo' := fun o ob lo h1 h2 => by
  simp only [Env.st, List.getElem?_map, Option.map_eq_some_iff] at h1
  obtain ⟨x, hx, rfl⟩ := h1
  obtain ⟨ob', lo', e1, e2, n⟩ := h o x lo hx h2
  exact ⟨ob'.sk, lo', by simp [Env.st, e1], e2, nxtS_of n⟩
theorem Mv.nxOf {e e' : Env} (h : ∀ (o : Nat) ob lo, e.st.H[o]? = some ob → e.ρ[o]? = some lo → ∃ ob' lo', e'.st.H[o]? = some ob' ∧ e'.ρ[o]? = some lo' ∧ NxtS ob lo ob' lo') : Nx e.H e.ρ e'.H e'.ρ := fun o ob lo h1 h2 => by
  obtain ⟨ob', lo', e1, e2, n⟩ := h o ob.sk lo (by simp [Env.st, h1]) h2
  simp only [Env.st, List.getElem?_map, Option.map_eq_some_iff] at e1
  obtain ⟨x, hx, rfl⟩ := e1
  exact ⟨x, lo', hx, e2, nxt_of n⟩
theorem Bs.next {l : Nat} {s : Stt} {e e' : Env} (h : Bs l s e.st) (hi : ∀ b, e.Im b → e'.Im b) (hw : ∀ b, e.Im b → e'.w.heap[b]? = e.w.heap[b]?) (hn : Nx e.H e.ρ e'.H e'.ρ)
    (hl : ∀ r, e.w.heap[l]? = some (.loop r) → ¬ e.own l → ¬ e.Im l → e'.w.heap[l]? = some (.loop r) ∧ ¬ e'.own l ∧ ¬ e'.Im l) : Bs l s e'.st := by
  obtain ⟨r, h1, h2⟩ := h.lp
  obtain ⟨k1, k2, k3⟩ := hl r h2 h.no h.ni
  refine ⟨fun b hb => hi b (h.im b hb), fun b hb => (hw b (h.im b hb)).trans (h.imw b hb), fun o ob lo e1 e2 => ?_, ⟨r, h1, k1⟩, k2, k3⟩
  obtain ⟨ob', lo', e3, e4, n1⟩ := h.nx o ob lo e1 e2
  obtain ⟨ob'', lo'', e5, e6, n2⟩ := Mv.nxS hn o ob' lo' e3 e4
  exact ⟨ob'', lo'', e5, e6, n1.trans n2⟩
theorem Mv.bs {e e' : Env} (h : Mv e e') {l : Nat} {s : Stt} (hb : Bs l s e.st) : Bs l s e'.st := by
  refine hb.next h.im h.imw h.nx fun r h1 h2 h3 => ?_
  have hlt := (Array.getElem?_eq_some_iff.1 h1).1
  refine ⟨(h.same l hlt h2).trans h1, fun hc => ?_, fun hc => ?_⟩
  · rcases h.ownn l hc with hc | hc
    · exact h2 hc
    · omega
  · rcases h.imn l hc with hc | hc | hc
    · exact h3 hc
    · exact h2 hc
    · omega
theorem Mv.vr {e e' : Env} (h : Mv e e') {x : RV} {c : Value} (hx : VR e x c) : VR e' x c := hx.mono h.im h.imw h.nx fun _ _ hb => h.bs hb
theorem Mv.vi {e e' : Env} (h : Mv e e') {x : AV} {c : Value} (hx : VI e.w e.Im x c) : VI e'.w e'.Im x c := hx.mono h.im h.imw

end Go.Av
