/- The operations of a walk over plain values that turn no memory: their short form (AOp), how it is read off the program's text (resOp), what each tells (evq), and that the program tells the same. No condition. -/
import Derived.Test.YtgipkikbefnokaaDoorXAv1
import Derived.Laws.Cells
import Derived.Laws.Strings
set_option linter.constructorNameAsVariable false
namespace Go.Av
open Go Go.RowKit
set_option linter.unusedSimpArgs false
set_option linter.unusedVariables false

inductive CK where
  | i | b | s
  deriving DecidableEq

inductive AX where
  | t (n : Nat)
  | c (v : AV)
  | f (n : Nat)

inductive AOp where
  | mv (x : AX)
  | bin (op : BinOp) (x y : AX)
  | eqg (neg : Bool) (ks : List CK) (x y : AX)
  | eqb (neg : Bool) (x y : AX)
  | un (op : UnOp) (x : AX)
  | cvi (k : IntKind) (x : AX)
  | part (off : Nat) (sz : Option Nat) (x : AX)
  | idx (len sz : Nat) (ag : Bool) (x i : AX)
  | sidx (x i : AX)
  | ext (n : Nat) (x : AX)
  | nck (x : AX)
  | isn (neg sl : Bool) (x : AX)
  | mkf (f : Nat) (caps : List AX)
  | mkb (f : Nat) (first : List AX)
  | mx (big : Bool) (x y : AX)
  | fa (off : Nat) (p : AX)
  | iaa (len sz : Nat) (p i : AX)
  | ias (sz : Nat) (s i : AX)
  | len (str : Bool) (x : AX)
  | lena (n : Nat)
  | sls (sz : Nat) (s : AX) (lo hi : Option AX)
  | slp (n sz : Nat) (p : AX) (lo hi : Option AX)
  | ld (sz : Option Nat) (p : AX)
  | bld (z : List AV) (ps : List (Nat × Nat × AX))
  | b2s (x : AX)
  | mlk (ag ok : Bool) (ks : List CK) (z : AV) (m key : AX)
  | ent (it : AX)
  | lenm (m : AX)

def cv1 : Value → Option AV
  | .bool b => some (.b b)
  | .int k n => some (.i k n)
  | .string s => some (.s s.data.toList)
  | .pointer none => some .np
  | .slice none 0 0 => some .nil
  | .nilFunc => some .nf
  | _ => none
def cv : Value → Option AV
  | .agg cs => (cs.toList.mapM cv1).map .g
  | v => cv1 v

theorem cv1_ok {w : World} {Im : Nat → Prop} {v : Value} {x : AV} (h : cv1 v = some x) : VI w Im x v := by
  unfold cv1 at h
  split at h <;> simp at h <;> subst h
  · exact .b _
  · exact .i _ _
  · exact .s _
  · exact .np
  · exact .nil _
  · exact .nf

theorem cv1_one {v : Value} {x : AV} (h : cv1 v = some x) : v.oneCell' = true := by
  unfold cv1 at h
  split at h <;> first | rfl | cases h

theorem mapM_get {α β : Type} {f : α → Option β} : ∀ {l : List α} {m : List β}, l.mapM f = some m → m.length = l.length ∧ ∀ (j : Nat) x y, l[j]? = some x → m[j]? = some y → f x = some y
  | [], m, h => by simp at h; subst h; exact ⟨rfl, fun j x y h => by simp at h⟩
  | a :: l, m, h => by
    simp only [List.mapM_cons, Option.bind_eq_bind, Option.bind_eq_some_iff] at h
    obtain ⟨b, hb, m', hm, e⟩ := h
    simp at e; subst e
    obtain ⟨h1, h2⟩ := mapM_get hm
    refine ⟨by simp [h1], fun j x y hx hy => ?_⟩
    cases j with
    | zero => simp at hx hy; subst hx; subst hy; exact hb
    | succ j => exact h2 j x y (by simpa using hx) (by simpa using hy)

theorem cv_ok {w : World} {Im : Nat → Prop} {v : Value} {x : AV} (h : cv v = some x) : VI w Im x v := by
  unfold cv at h
  split at h
  · rename_i cs
    simp only [Option.map_eq_some_iff] at h
    obtain ⟨m, hm, rfl⟩ := h
    obtain ⟨h1, h2⟩ := mapM_get hm
    exact .g _ _ (by simp [h1]) (fun j c hc => by
      have hl : j < m.length := by rw [h1]; simpa using (Array.getElem?_eq_some_iff.1 hc).1
      exact cv1_one (h2 j c _ (by simpa using hc) (List.getElem?_eq_getElem hl))) (fun j a c ha hc => cv1_ok (h2 j c a (by simpa using hc) ha))
  · exact cv1_ok h

def deBr64 : List AV := [0, 1, 56, 2, 57, 49, 28, 3, 61, 58, 42, 50, 38, 29, 17, 4, 62, 47, 59, 36, 45, 43, 51, 22, 53, 39, 33, 30, 24, 18, 12, 5, 63, 55, 48, 27, 60, 41, 37, 16, 46, 35, 44, 21, 52, 32, 23, 11, 54, 26, 40, 15, 34, 20, 31, 10, 25, 14, 19, 9, 13, 8, 7, 6].map fun n : Nat => .i .u8 (n : Int)
def deBr32 : List AV := [0, 1, 28, 2, 29, 14, 24, 3, 30, 22, 20, 15, 25, 17, 4, 8, 31, 27, 13, 23, 21, 19, 16, 7, 26, 12, 18, 6, 11, 5, 10, 9].map fun n : Nat => .i .u8 (n : Int)
def pow10s : List AV := [1, 10, 100, 1000, 10000, 100000, 1000000, 10000000, 100000000, 1000000000, 10000000000, 100000000000, 1000000000000, 10000000000000, 100000000000000, 1000000000000000, 10000000000000000, 100000000000000000, 1000000000000000000, 10000000000000000000].map fun n : Nat => .i .u64 (n : Int)
def tabNamed (n : String) : Option (List AV) :=
  if n == "math/bits.deBruijn64tab" then some deBr64
  else if n == "math/bits.deBruijn32tab" then some deBr32
  else if n == "internal/strconv.uint64pow10" then some pow10s
  else none
def tabOf (P : Program) (g : Nat) : Option (List AV) := (P.globals[g]?).bind fun gl => tabNamed gl.name
def resX (P : Program) : Operand → Option AX
  | .tmp t => some (.t t)
  | .const v => (cv v).map .c
  | .func f => some (.f f)
  | .global g => (tabOf P g).map fun cs => .c (.pim cs)

def aggSize (P : Program) (t : TypeId) : Option (Option Nat) :=
  match P.underlying t, P.info? t with
  | some (.struct _), some i | some (.array _ _), some i => some (some i.size)
  | some _, some _ => some none
  | _, _ => none

def tSize (P : Program) (t : TypeId) : Option Nat := (P.info? t).map (·.size)

def isNilX (P : Program) (t : TypeId) (y : Operand) : Option Bool :=
  match y, P.underlying t with
  | .const (.slice none 0 0), some (.slice _) => some true
  | .const (.pointer none), some (.pointer _) => some false
  | _, _ => none
def resNil (P : Program) (op : BinOp) (neg : Bool) (t : TypeId) (yo : Operand) (x y : AX) : AOp :=
  match isNilX P t yo with
  | some sl => .isn neg sl x
  | none => .bin op x y

def resOpt (P : Program) : Option Operand → Option (Option AX)
  | none => some none
  | some x => (resX P x).map some

def flatF (P : Program) (rec : TypeId → Option (List CK)) : List Field → Nat → Option (List CK)
  | [], _ => some []
  | f :: fs, off =>
    if f.name != "_" && f.offset == off then
      (rec f.type).bind fun ks => if tSize P f.type = some ks.length then (flatF P rec fs (off + ks.length)).map fun l => ks ++ l else none
    else none

def flatK (P : Program) : Nat → TypeId → Option (List CK)
  | 0, _ => none
  | d + 1, t =>
    match P.underlying t with
    | some .bool => some [.b]
    | some (.int _) => some [.i]
    | some .string => some [.s]
    | some (.struct fs) => if P.stoodInHeld t then none else flatF P (flatK P d) fs.toList 0
    | some (.array n e) => (flatK P d e).bind fun ks => if tSize P e = some ks.length then some (List.replicate n ks).flatten else none
    | _ => none

def isBoolT (P : Program) (t : TypeId) : Bool :=
  match P.underlying t with
  | some .bool => true
  | _ => false

def resEqb (op : BinOp) (x y : AX) : Option AOp :=
  match op with
  | .eql => some (.eqb false x y)
  | .neq => some (.eqb true x y)
  | _ => none

def resEq (P : Program) (neg : Bool) (t : TypeId) (x y : AX) : Option AOp :=
  (flatK P 40 t).bind fun ks => if tSize P t = some ks.length ∧ P.eqGuardType P.depth t = false then some (.eqg neg ks x y) else none

def tZero (P : Program) (t : TypeId) : Option AV := (P.info? t).bind fun i => i.zero.bind cv
def tZeroL (P : Program) (t : TypeId) : Option (List AV) := (tZero P t).map fun | .g z => z | x => [x]

def resPart (P : Program) (fs : Array Field) (p : Nat × Operand) : Option (Nat × Nat × AX) :=
  (fs[p.1]?).bind fun fd => (tSize P fd.type).bind fun s => (resX P p.2).map fun x => (fd.offset, s, x)
def resItem (P : Program) (s : Nat) (p : Nat × Operand) : Option (Nat × Nat × AX) := (resX P p.2).map fun x => (p.1 * s, s, x)

def resOp (P : Program) : Op → Option AOp
  | .move x | .assign x => (resX P x).map .mv
  | .binOp op t x yo _ => (resX P x).bind fun x => (resX P yo).bind fun y =>
    if isBoolT P t = true then resEqb op x y else
    match op, aggSize P t with
    | .eql, some (some _) => resEq P false t x y
    | .neq, some (some _) => resEq P true t x y
    | .eql, _ => some (resNil P .eql false t yo x y)
    | .neq, _ => some (resNil P .neq true t yo x y)
    | op, _ => some (.bin op x y)
  | .unOp op _ x => (resX P x).map fun x => .un op x
  | .convert src dst x =>
    match P.underlying src, P.underlying dst with
    | some _, some (.int k) => (resX P x).map fun x => .cvi k x
    | some (.slice e), some .string =>
      match P.underlying e with
      | some (.int .u8) => (resX P x).map fun x => .b2s x
      | _ => none
    | _, _ => none
  | .field t x f =>
    match P.underlying t with
    | some (.struct fs) => (fs[f]?).bind fun fd => (aggSize P fd.type).bind fun s => (resX P x).map fun x => .part fd.offset s x
    | _ => none
  | .index t x i =>
    match P.underlying t with
    | some (.array len e) => (aggSize P e).bind fun s => (tSize P e).bind fun z => (resX P x).bind fun x => (resX P i).map fun i => .idx len z s.isSome x i
    | some .string => (resX P x).bind fun x => (resX P i).map fun i => .sidx x i
    | _ => none
  | .extract x n => (resX P x).map fun x => .ext n x
  | .nilCheck x => (resX P x).map fun x => .nck x
  | .makeFunc (.func f) first caps => if first.size = 0 then (caps.toList.mapM (resX P)).map fun cs => .mkf f cs else if caps.size = 0 then (first.toList.mapM (resX P)).map fun cs => .mkb f cs else none
  | .fieldAddr t x f =>
    match P.underlying t with
    | some (.struct fs) => (fs[f]?).bind fun fd => (tSize P fd.type).bind fun z => if z = 0 then none else (resX P x).map fun x => .fa fd.offset x
    | _ => none
  | .indexAddr t x i =>
    match P.underlying t with
    | some (.array len e) => (tSize P e).bind fun z => (resX P x).bind fun x => (resX P i).map fun i => .iaa len z x i
    | some (.slice e) => (tSize P e).bind fun z => (resX P x).bind fun x => (resX P i).map fun i => .ias z x i
    | _ => none
  | .build t ps =>
    (tZero P t).bind fun
      | .g z =>
        match P.underlying t with
        | some (.struct fs) => if fs.toList.all (fun f => (tSize P f.type).isSome) then (ps.toList.mapM (resPart P fs)).map (.bld z) else none
        | some (.array _ e) => (tSize P e).bind fun s => (ps.toList.mapM (resItem P s)).map (.bld z)
        | _ => none
      | _ => none
  | .load t p => (aggSize P t).bind fun s => (resX P p).map fun p => .ld s p
  | .slice t x lo hi none =>
    match P.underlying t with
    | some (.slice e) => (tSize P e).bind fun z => (resX P x).bind fun x => (resOpt P lo).bind fun lo => (resOpt P hi).map fun hi => .sls z x lo hi
    | some (.array n e) => if lo.isSome = true ∨ hi.isSome = true then (tSize P e).bind fun z => (resX P x).bind fun x => (resOpt P lo).bind fun lo => (resOpt P hi).map fun hi => .slp n z x lo hi else none
    | _ => none
  | .lookup t m k ok =>
    match P.underlying t with
    | some (.map kt et) => (flatK P 40 kt).bind fun ks => (tZero P et).bind fun z => (aggSize P kt).bind fun s => if tSize P kt = some ks.length then (resX P m).bind fun m => (resX P k).map fun k => .mlk s.isSome ok ks z m k else none
    | _ => none
  | .entry it => (resX P it).map .ent
  | .call c =>
    match c.callee, c.args.toList, c.argTypes.toList with
    | .builtin .len, [x], [t] =>
      match P.underlying t with
      | some .string => (resX P x).map fun x => .len true x
      | some (.slice _) => (resX P x).map fun x => .len false x
      | some (.array n _) => some (.lena n)
      | some (.map _ _) => (resX P x).map fun x => .lenm x
      | _ => none
    | .builtin .max, [x, y], _ => (resX P x).bind fun x => (resX P y).map fun y => .mx true x y
    | .builtin .min, [x, y], _ => (resX P x).bind fun x => (resX P y).map fun y => .mx false x y
    | _, _, _ => none
  | _ => none

/-! ### What each tells -/
def binI (op : BinOp) (k : IntKind) (a : Int) (yk : IntKind) (b : Int) : Option (Prop × AV) :=
  match op with
  | .shl => some (0 ≤ b, .i k (k.wrap (a * 2 ^ (min b.toNat k.bits))))
  | .shr => some (0 ≤ b, .i k (a.fdiv (2 ^ (min b.toNat k.bits))))
  | .add => some (k = yk, .i k (k.wrap (a + b)))
  | .sub => some (k = yk, .i k (k.wrap (a - b)))
  | .mul => some (k = yk, .i k (k.wrap (a * b)))
  | .quo => some (k = yk ∧ b ≠ 0, .i k (k.wrap (a.tdiv b)))
  | .rem => some (k = yk ∧ b ≠ 0, .i k (a.tmod b))
  | .and => some (k = yk, .i k (k.wrap (BitVec.ofInt k.bits a &&& BitVec.ofInt k.bits b).toNat))
  | .or => some (k = yk, .i k (k.wrap (BitVec.ofInt k.bits a ||| BitVec.ofInt k.bits b).toNat))
  | .xor => some (k = yk, .i k (k.wrap (BitVec.ofInt k.bits a ^^^ BitVec.ofInt k.bits b).toNat))
  | .andNot => some (k = yk, .i k (k.wrap (BitVec.ofInt k.bits a &&& ~~~ BitVec.ofInt k.bits b).toNat))
  | .eql => some (k = yk, .b (a == b))
  | .neq => some (k = yk, .b (a != b))
  | .lss => some (k = yk, .b (decide (a < b)))
  | .leq => some (k = yk, .b (decide (a ≤ b)))
  | .gtr => some (k = yk, .b (decide (a > b)))
  | .geq => some (k = yk, .b (decide (a ≥ b)))

def binS (op : BinOp) (a b : List UInt8) : Option (Prop × AV) :=
  match op with
  | .add => some ((a.length : Int) + b.length ≤ 9223372036854775807, .s (a ++ b))
  | .eql => some (True, .b (a == b))
  | .neq => some (True, .b (!(a == b)))
  | _ => none

def evBin (op : BinOp) (x y : RV) : Option (Prop × RV) :=
  match x, y with
  | .v (.i k a), .v (.i k' b) => (binI op k a k' b).map fun (c, r) => (c, .v r)
  | .v (.s a), .v (.s b) => (binS op a b).map fun (c, r) => (c, .v r)
  | _, _ => none

def eqA1 : CK → AV → AV → Bool
  | .i, .i _ a, .i _ b => a == b
  | .b, .b a, .b b => a == b
  | .s, .s a, .s b => a == b
  | _, _, _ => false
def fitA1 : CK → AV → AV → Prop
  | .i, .i k _, .i k' _ => k = k'
  | .b, .b _, .b _ => True
  | .s, .s _, .s _ => True
  | _, _, _ => False
def eqA : List CK → List AV → List AV → Bool
  | [k], a :: _, b :: _ => eqA1 k a b
  | k :: ks, a :: as, b :: bs => eqA1 k a b && eqA ks as bs
  | _, _, _ => true
def fitA : List CK → List AV → List AV → Prop
  | [], [], [] => True
  | [k], [a], [b] => fitA1 k a b
  | k :: ks, a :: as, b :: bs => fitA1 k a b ∧ fitA ks as bs
  | _, _, _ => False

def evEqg (neg : Bool) (ks : List CK) (x y : RV) : Option (Prop × RV) :=
  match x, y with
  | .v (.g as), .v (.g bs) => some (fitA ks as bs, .v (.b (if neg then !eqA ks as bs else eqA ks as bs)))
  | _, _ => none

def evEqb (neg : Bool) (x y : RV) : Option (Prop × RV) :=
  match x, y with
  | .v (.b a), .v (.b b) => some (True, .v (.b (if neg then a != b else a == b)))
  | _, _ => none

def evUn (op : UnOp) (x : RV) : Option (Prop × RV) :=
  match op, x with
  | .neg, .v (.i k n) => some (True, .v (.i k (k.wrap (0 - n))))
  | .xor, .v (.i k n) => some (True, .v (.i k (k.wrap (BitVec.ofInt k.bits (if k.signed then -1 else k.max) ^^^ BitVec.ofInt k.bits n).toNat)))
  | .not, .v (.b x) => some (True, .v (.b (!x)))
  | _, _ => none

def evPart (off : Nat) (sz : Option Nat) (x : RV) : Option (Prop × RV) :=
  match x, sz with
  | .v (.g cs), none => some (off < cs.length, .v (cs.getD off .nil))
  | .v (.g cs), some k => some (off + k ≤ cs.length, .v (.g ((cs.drop off).take k)))
  | .gr cs, none => some (off < cs.length, cs.getD off .any)
  | .gr cs, some k => some (off + k ≤ cs.length, .gr ((cs.drop off).take k))
  | _, _ => none

def evIdx (len sz : Nat) (ag : Bool) (x i : RV) : Option (Prop × RV) :=
  match x, i with
  | .v (.g cs), .v (.i _ n) =>
    if ag then some (0 ≤ n ∧ n < len ∧ n.toNat * sz + sz ≤ cs.length, .v (.g ((cs.drop (n.toNat * sz)).take sz)))
    else some (0 ≤ n ∧ n < len ∧ n.toNat * sz < cs.length, .v (cs.getD (n.toNat * sz) .nil))
  | .gr cs, .v (.i _ n) =>
    if ag then some (0 ≤ n ∧ n < len ∧ n.toNat * sz + sz ≤ cs.length, .gr ((cs.drop (n.toNat * sz)).take sz))
    else some (0 ≤ n ∧ n < len ∧ n.toNat * sz < cs.length, cs.getD (n.toNat * sz) .any)
  | _, _ => none

def evSidx (x i : RV) : Option (Prop × RV) :=
  match x, i with
  | .v (.s l), .v (.i _ n) => some (0 ≤ n ∧ n < l.length, .v (.i .u8 (l.getD n.toNat 0).toNat))
  | _, _ => none

def evExt (n : Nat) (x : RV) : Option (Prop × RV) :=
  match x with
  | .v (.tup vs) => some (n < vs.length, .v (vs.getD n .nil))
  | .tr vs => some (n < vs.length, vs.getD n .any)
  | _ => none

def evNck (H : List AObj) (x : RV) : Option (Prop × RV) :=
  match x with
  | .v (.pim cs) => some (True, .v (.pim cs))
  | .v (.fn f cs) => some (True, .v (.fn f cs))
  | .fr f cs => some (True, .fr f cs)
  | .bf f cs => some (True, .bf f cs)
  | .pt o ver r off =>
    match H[o]? with
    | some (.var _) => some (True, .pt o ver r off)
    | some (.arr v _ _) => some (ver = v, .pt o ver r off)
    | _ => none
  | _ => none

def toV : RV → Option AV
  | .v x => some x
  | _ => none

def evMkf (f : Nat) (xs : List RV) : Option (Prop × RV) :=
  match xs.mapM toV with
  | some cs => some (True, .v (.fn f cs))
  | none => some (True, .fr f xs)

def evMx (big : Bool) (x y : RV) : Option (Prop × RV) :=
  match x, y with
  | .v (.i k a), .v (.i _ b) => some (True, .v (.i k (if (if big then a < b else b < a) then b else a)))
  | _, _ => none

def evFa (off : Nat) (p : RV) (H : List AObj) : Option (Prop × RV) :=
  match p with
  | .v (.pim cs) => some (True, .v (.pim (cs.drop off)))
  | .pt o ver r f =>
    match H[o]? with
    | some (.var _) => some (True, .pt o ver r (f + off))
    | some (.arr v _ _) => some (ver = v, .pt o ver r (f + off))
    | _ => none
  | _ => none

def evIaa (len sz : Nat) (p i : RV) (H : List AObj) : Option (Prop × RV) :=
  match p, i with
  | .v (.pim cs), .v (.i _ n) => some (0 ≤ n ∧ n < len, .v (.pim (cs.drop (n.toNat * sz))))
  | .pt o ver r f, .v (.i _ n) =>
    match H[o]? with
    | some (.var _) => some (0 ≤ n ∧ n < len, .pt o ver r (f + n.toNat * sz))
    | some (.arr v _ _) => some (ver = v ∧ 0 ≤ n ∧ n < len, .pt o ver r (f + n.toNat * sz))
    | _ => none
  | _, _ => none

def evIas (sz : Nat) (s i : RV) (H : List AObj) : Option (Prop × RV) :=
  match s, i with
  | .v (.sl z rows), .v (.i _ n) => some (z = sz ∧ 0 ≤ n ∧ n < rows.length, .v (.pim (rows.getD n.toNat [])))
  | .os o ver, .v (.i _ n) =>
    match H[o]? with
    | some (.arr v z rows) => some (ver = v ∧ z = sz ∧ 0 ≤ n ∧ n < rows.length, .pt o ver n.toNat 0)
    | _ => none
  | .sub o ver lo k, .v (.i _ n) =>
    match H[o]? with
    | some (.arr v z _) => some (ver = v ∧ z = sz ∧ 0 ≤ n ∧ n < k, .pt o ver (lo + n.toNat) 0)
    | _ => none
  | _, _ => none

def isStr : TypeDesc → Bool
  | .string => true
  | _ => false

def evLenS (x : RV) : Option (Prop × RV) :=
  match x with
  | .v (.s l) => some (True, .v (.i .i64 l.length))
  | _ => none

def evLenL (x : RV) (H : List AObj) : Option (Prop × RV) :=
  match x with
  | .v (.sl _ rows) => some (True, .v (.i .i64 rows.length))
  | .v .nil => some (True, .v (.i .i64 0))
  | .os o ver =>
    match H[o]? with
    | some (.arr v _ rows) => some (ver = v, .v (.i .i64 rows.length))
    | _ => none
  | .sub o ver _ k =>
    match H[o]? with
    | some (.arr v _ _) => some (ver = v, .v (.i .i64 k))
    | _ => none
  | _ => none

def evLen (x : RV) (H : List AObj) (str : Bool) : Option (Prop × RV) := if str then evLenS x else evLenL x H

def bnd (d : Nat) : Option RV → Option Int
  | none => some d
  | some (.v (.i _ n)) => some n
  | _ => none

def evSls (sz : Nat) (s : RV) (lo hi : Option RV) (H : List AObj) : Option (Prop × RV) :=
  match s with
  | .os o ver =>
    match H[o]? with
    | some (.arr v z rows) => (bnd 0 lo).bind fun l => (bnd rows.length hi).map fun h => (ver = v ∧ z = sz ∧ 0 ≤ l ∧ l ≤ h ∧ h ≤ rows.length, .sub o ver l.toNat (h.toNat - l.toNat))
    | _ => none
  | .sub o ver a k =>
    match H[o]? with
    | some (.arr v z _) => (bnd 0 lo).bind fun l => (bnd k hi).map fun h => (ver = v ∧ z = sz ∧ 0 ≤ l ∧ l ≤ h ∧ h ≤ k, .sub o ver (a + l.toNat) (h.toNat - l.toNat))
    | _ => none
  | .v (.sl z rows) => (bnd 0 lo).bind fun l => (bnd rows.length hi).map fun h => (z = sz ∧ 0 ≤ l ∧ l ≤ h ∧ h ≤ rows.length, .v (.sl z ((rows.take h.toNat).drop l.toNat)))
  | _ => none

def rowsOf (sz : Nat) : Nat → List AV → List (List AV)
  | 0, _ => []
  | n + 1, cs => cs.take sz :: rowsOf sz n (cs.drop sz)
def evSlp (n sz : Nat) (p : RV) (lo hi : Option RV) : Option (Prop × RV) :=
  match p with
  | .v (.pim cs) => (bnd 0 lo).bind fun l => (bnd n hi).map fun h => (n * sz ≤ cs.length ∧ 0 ≤ l ∧ l ≤ h ∧ h ≤ n, .v (.sl sz (((rowsOf sz n cs).take h.toNat).drop l.toNat)))
  | _ => none

def aggV (cs : List RV) : RV :=
  match cs.mapM toV with
  | some xs => .v (.g xs)
  | none => .gr cs

def evLd (sz : Option Nat) (p : RV) (H : List AObj) : Option (Prop × RV) :=
  match p with
  | .v (.pim cs) =>
    match sz with
    | none => some (0 < cs.length, .v (cs.getD 0 .nil))
    | some k => some (k ≤ cs.length, .v (.g (cs.take k)))
  | .pt o ver r off =>
    match H[o]? with
    | some (.var cs) =>
      match sz with
      | none => some (off < cs.length, cs.getD off .any)
      | some k => some (off + k ≤ cs.length, aggV ((cs.drop off).take k))
    | some (.arr v _ rows) =>
      match sz with
      | none => some (ver = v ∧ r < rows.length ∧ off < (rows.getD r []).length, (rows.getD r []).getD off .any)
      | some k => some (ver = v ∧ r < rows.length ∧ off + k ≤ (rows.getD r []).length, aggV (((rows.getD r []).drop off).take k))
    | _ => none
  | _ => none

def rcells : RV → Option (List RV)
  | .v (.g cs) => some (cs.map .v)
  | .gr cs => some cs
  | .v (.tup _) => none
  | .tr _ => none
  | .any => none
  | .bo => none
  | .cnd _ _ => none
  | .yl _ _ => none
  | x => some [x]

def putAll {α : Type} : List α → Nat → List α → List α
  | l, _, [] => l
  | l, off, x :: m => putAll (l.set off x) (off + 1) m

def vrows (rows : List (List AV)) : List (List RV) := rows.map fun row => row.map .v
def plainr : List RV → Option (List AV)
  | [] => some []
  | .v x :: l => (plainr l).map fun l => x :: l
  | _ :: _ => none
def plainR : List (List RV) → Option (List (List AV))
  | [] => some []
  | r :: rs => (plainr r).bind fun r => (plainR rs).map fun rs => r :: rs

def fillA : List RV → List (Nat × Nat × RV) → Option (Prop × List RV)
  | cells, [] => some (True, cells)
  | cells, (off, sz, x) :: rest => (rcells x).bind fun m => (fillA (putAll cells off m) rest).map fun (C, l) => ((m.length = sz ∧ off + sz ≤ cells.length) ∧ C, l)

def evBld (z : List AV) (ps : List (Nat × Nat × RV)) : Option (Prop × RV) := (fillA (z.map .v) ps).map fun (C, l) => (C, aggV l)

def byteOf : List RV → UInt8
  | [.v (.i _ n)] => UInt8.ofNat n.toNat
  | _ => 0
def isByte : List RV → Prop
  | [.v (.i .u8 n)] => 0 ≤ n ∧ n < 256
  | _ => False
def byteOf' : List AV → UInt8
  | [.i _ n] => UInt8.ofNat n.toNat
  | _ => 0
def isByte' : List AV → Prop
  | [.i .u8 n] => 0 ≤ n ∧ n < 256
  | _ => False

def evB2s (x : RV) (H : List AObj) : Option (Prop × RV) :=
  match x with
  | .v .nil => some (True, .v (.s []))
  | .v (.sl _ rows) => some (∀ row ∈ rows, isByte' row, .v (.s (rows.map byteOf')))
  | .os o ver =>
    match H[o]? with
    | some (.arr v _ rows) => some (ver = v ∧ ∀ row ∈ rows, isByte row, .v (.s (rows.map byteOf)))
    | _ => none
  | _ => none

def evIsn (H : List AObj) (neg sl : Bool) (x : RV) : Option (Prop × RV) :=
  match sl, x with
  | false, .v .np => some (True, .v (.b (!neg)))
  | false, .v (.pim _) => some (True, .v (.b neg))
  | false, .pt o ver _ _ =>
    match H[o]? with
    | some (.var _) => some (True, .v (.b neg))
    | some (.arr v _ _) => some (ver = v, .v (.b neg))
    | _ => none
  | true, .v (.sl _ (_ :: _)) => some (True, .v (.b neg))
  | true, .v (.sl _ []) => some (True, .bo)
  | true, .v .nil => some (True, .bo)
  | true, .os o ver =>
    match H[o]? with
    | some (.arr v _ (_ :: _)) => some (ver = v, .v (.b neg))
    | some (.arr v _ []) => some (ver = v, .bo)
    | _ => none
  | _, _ => none

/-! ### Maps: their content is keys and values, one behind the other -/
def keyL : AV → List AV
  | .g cs => cs
  | x => [x]
def isG : AV → Bool
  | .g _ => true
  | _ => false
def eqK (ks : List CK) (a b : AV) : Bool := eqA ks (keyL a) (keyL b)
def mrow (ps : List (AV × AV)) : List RV := ps.flatMap fun p => [.v p.1, .v p.2]
def mpairs : List RV → Option (List (AV × AV))
  | [] => some []
  | .v k :: .v x :: r => (mpairs r).map ((k, x) :: ·)
  | _ => none
def fitM (ag : Bool) (ks : List CK) (key : AV) (ps : List (AV × AV)) : Prop := isG key = ag ∧ (keyL key).length = ks.length ∧ ∀ p ∈ ps, isG p.1 = ag ∧ fitA ks (keyL key) (keyL p.1)
def mfind (ks : List CK) (key : AV) (ps : List (AV × AV)) : Option Nat := ps.findIdx? fun p => eqK ks key p.1
def mget (ks : List CK) (z : AV) (key : AV) (ps : List (AV × AV)) : AV :=
  match mfind ks key ps with
  | some i => (ps.getD i (z, z)).2
  | none => z
def mput (ks : List CK) (key val : AV) (ps : List (AV × AV)) : List (AV × AV) :=
  match mfind ks key ps with
  | some i => ps.set i (key, val)
  | none => ps ++ [(key, val)]
def mapOf (H : List AObj) : RV → Option (Nat × List (AV × AV))
  | .pt o _ _ _ =>
    match H[o]? with
    | some (.xo .mp cs) => (mpairs cs).map fun ps => (o, ps)
    | _ => none
  | _ => none
def itOf (H : List AObj) : RV → Option (Nat × Nat × List (AV × AV) × Nat × List Nat)
  | .pt o _ _ _ =>
    match H[o]? with
    | some (.xo (.it n seen) [x]) => (mapOf H x).map fun (om, ps) => (o, om, ps, n, seen)
    | _ => none
  | _ => none
def evMlk (ag ok : Bool) (ks : List CK) (z : AV) (m key : RV) (H : List AObj) : Option (Prop × RV) :=
  match key with
  | .v key => (mapOf H m).map fun (_, ps) => (fitM ag ks key ps, .v (if ok then .tup [mget ks z key ps, .b (mfind ks key ps).isSome] else mget ks z key ps))
  | _ => none
def evEnt (it : RV) (H : List AObj) : Option (Prop × RV) :=
  (itOf H it).bind fun (_, _, ps, n, seen) =>
    match seen.getLast? with
    | some i => some (ps.length = n ∧ i < n, .v (.tup [(ps.getD i (.nil, .nil)).1, (ps.getD i (.nil, .nil)).2]))
    | none => none

def evMup (ag : Bool) (ks : List CK) (m key val : RV) (H : List AObj) : Option (Prop × RV × List AObj) :=
  match key, val with
  | .v key, .v val => (mapOf H m).map fun (o, ps) => (fitM ag ks key ps, .any, H.set o (.xo .mp (mrow (mput ks key val ps))))
  | _, _ => none
def evRng (m : RV) (H : List AObj) : Option (Prop × RV × List AObj) :=
  (mapOf H m).map fun (_, ps) => (True, .pt H.length 0 0 0, H ++ [.xo (.it ps.length []) [m]])
def NxtK (it : RV) (H : List AObj) (K : RV → List AObj → Prop) : Prop :=
  match it, itOf H it with
  | .pt o _ _ _, some (_, _, ps, n, seen) =>
    match H[o]? with
    | some (.xo _ cs) => ps.length = n ∧ ((∀ i, i < n → i ∈ seen) → K (.v (.tup [.b false])) H) ∧ ∀ i, i < n → i ∉ seen → K (.v (.tup [.b true, (ps.getD i (.nil, .nil)).1, (ps.getD i (.nil, .nil)).2])) (H.set o (.xo (.it n (seen ++ [i])) cs))
    | _ => False
  | _, _ => False

def evq (A : AX → RV) (H : List AObj) : AOp → Option (Prop × RV)
  | .mv x => some (True, A x)
  | .bin op x y => evBin op (A x) (A y)
  | .eqg neg ks x y => evEqg neg ks (A x) (A y)
  | .eqb neg x y => evEqb neg (A x) (A y)
  | .un op x => evUn op (A x)
  | .cvi k x => match A x with | .v (.i _ n) => some (True, .v (.i k (k.wrap n))) | _ => none
  | .part off sz x => evPart off sz (A x)
  | .idx len sz ag x i => evIdx len sz ag (A x) (A i)
  | .sidx x i => evSidx (A x) (A i)
  | .ext n x => evExt n (A x)
  | .nck x => evNck H (A x)
  | .isn neg sl x => evIsn H neg sl (A x)
  | .mkf f cs => evMkf f (cs.map A)
  | .mkb f cs => some (True, .bf f (cs.map A))
  | .mx big x y => evMx big (A x) (A y)
  | .fa off p => evFa off (A p) H
  | .iaa len sz p i => evIaa len sz (A p) (A i) H
  | .ias sz s i => evIas sz (A s) (A i) H
  | .len str x => evLen (A x) H str
  | .lena n => some (True, .v (.i .i64 n))
  | .sls sz s lo hi => evSls sz (A s) (lo.map A) (hi.map A) H
  | .slp n sz p lo hi => evSlp n sz (A p) (lo.map A) (hi.map A)
  | .ld sz p => evLd sz (A p) H
  | .bld z ps => evBld z (ps.map fun p => (p.1, p.2.1, A p.2.2))
  | .b2s x => evB2s (A x) H
  | .mlk ag ok ks z m key => evMlk ag ok ks z (A m) (A key) H
  | .ent it => evEnt (A it) H
  | .lenm m => (mapOf H (A m)).map fun (_, ps) => (True, .v (.i .i64 ps.length))

end Go.Av
