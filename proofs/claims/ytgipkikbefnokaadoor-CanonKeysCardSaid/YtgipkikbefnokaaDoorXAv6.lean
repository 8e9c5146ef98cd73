/- The walk: its states, regions, code, calls; and that a program's function does what the walk tells. No condition. -/
import Derived.Test.YtgipkikbefnokaaDoorXAv6r
import Derived.RangeFuncBound
import Derived.RangeFuncRecord
set_option linter.constructorNameAsVariable false
namespace Go.Av
open Go Go.RowKit
set_option linter.unusedSimpArgs false
set_option linter.unusedVariables false

def lk : List (Nat × RV) → Nat → RV
  | [], _ => .any
  | (s, x) :: r, t => if s = t then x else lk r t

structure AS where
  fr : List (Nat × RV)
  hp : List AObj

def ax (fr : List (Nat × RV)) : AX → RV
  | .t n => lk fr n
  | .c v => .v v
  | .f n => .v (.fn n [])

inductive AInst where
  | pk (c a b : AX)
  | q (x : AOp)
  | m (x : MOp)
  | call (f : AX) (args : List AX)
  | nx (it : AX)

structure AO where
  dst : Option Nat
  gd : Option (Nat × Bool)
  op : AInst

inductive Gh where
  | nilT (t sz : Nat)
  | nilC (t j sz : Nat)
  | nilL (t sz : Nat)
  | frzT (t : Nat)
  | frzC (t j : Nat)
  | frzP (t j : Nat)
  | letT (t sz : Nat)
  | cutT (t : Nat)
  | pimT (t : Nat)
  | frzD (t : Nat) (a : AV)

inductive ACode where
  | skip
  | reg (draw : Option (Nat × List Nat)) (ops : List AO)
  | rgx (m : Nat) (ls : List Nat) (ops : List AO)
  | seq (a b : ACode)
  | cond (x : AX) (a b : ACode)
  | blk (id : Nat) (c : ACode)
  | loop (c : ACode)
  | exit (id : Nat)
  | ret
  | keep (l : List Nat) (c : ACode)
  | fin (l : List Nat) (c : ACode)
  | gst (g : Gh) (c : ACode)
  | rf (f : AX) (ps : List Nat) (x y : ACode)

/-! ### Read off the program's text -/
def resCall (P : Program) (op : Op) : Option AInst :=
  match op with
  | .pick c a b => (resX P c).bind fun c => (resX P a).bind fun a => (resX P b).map fun b => .pk c a b
  | .call c =>
    match c.callee with
    | .value f => (resX P f).bind fun f => (c.args.toList.mapM (resX P)).map fun xs => .call f xs
    | _ => none
  | .next x false => (resX P x).map .nx
  | _ => none

def resI (P : Program) (op : Op) : Option AInst :=
  match resOp P op with
  | some q => some (.q q)
  | none =>
    match resM P op with
    | some m => some (.m m)
    | none => resCall P op

def dstOk (N : Nat) : Option Nat → Bool
  | some d => decide (d < N)
  | none => true

def resAO (P : Program) (N : Nat) (ops : Array Oper) (o : Oper) : Option AO :=
  if dstOk N o.dst = true then
    (resI P o.op).bind fun i =>
      match o.guard with
      | none => some ⟨o.dst, none, i⟩
      | some (j, want) => ((ops[j]?).bind (·.dst)).map fun d => ⟨o.dst, some (d, want), i⟩
  else none

def quiets : List AO → Nat
  | [] => 0
  | o :: os => match o.op with | .m _ => 0 | .nx _ => 0 | _ => quiets os + 1

def AOp.xs : AOp → List AX
  | .mv x | .un _ x | .cvi _ x | .part _ _ x | .ext _ x | .nck x | .isn _ _ x | .fa _ x | .len _ x | .ld _ x | .b2s x | .ent x | .lenm x => [x]
  | .mlk _ _ _ _ m k => [m, k]
  | .bin _ x y | .eqg _ _ x y | .eqb _ x y | .idx _ _ _ x y | .sidx x y | .iaa _ _ x y | .ias _ x y => [x, y]
  | .mkf _ cs => cs
  | .mkb _ cs => cs
  | .mx _ x y => [x, y]
  | .lena _ => []
  | .bld _ ps => ps.map fun p => p.2.2
  | .sls _ s lo hi => s :: (lo.toList ++ hi.toList)
  | .slp _ _ s lo hi => s :: (lo.toList ++ hi.toList)

def MOp.xs : MOp → List AX
  | .alloc _ => []
  | .box x => [x]
  | .st _ p x => [p, x]
  | .bsl _ _ _ ps => ps.map fun p => p.2.2
  | .mks _ _ _ l c => [l, c]
  | .app _ _ s x => [s, x]
  | .sla _ p => [p]
  | .cvb x => [x]
  | .clr _ _ x => [x]
  | .mkm => []
  | .alb _ _ => []
  | .mup _ _ m k v => [m, k, v]
  | .rng m => [m]

def AOp.pure : AOp → Bool
  | .mv _ | .bin _ _ _ | .eqg _ _ _ _ | .eqb _ _ _ | .un _ _ | .cvi _ _ | .part _ _ _ | .idx _ _ _ _ _ | .sidx _ _ | .ext _ _ | .mkf _ _ | .mkb _ _ | .mx _ _ _ | .lena _ | .bld _ _ | .len true _ => true
  | _ => false

def AInst.xs : AInst → List AX
  | .pk a b c => [a, b, c]
  | .q y => y.xs
  | .m y => y.xs
  | .call f args => f :: args
  | .nx it => [it]

def AInst.pure : AInst → Bool
  | .pk _ _ _ => true
  | .q y => y.pure
  | .call _ _ => true
  | .m _ => false
  | .nx _ => false

def heavies : List AO → Nat
  | [] => 0
  | o :: os => match o.op with | .m _ => 0 | .call _ _ => 0 | .nx _ => 0 | _ => heavies os + 1

def AO.uses (o : AO) : List Nat := (o.op.xs.filterMap fun | .t n => some n | _ => none) ++ (match o.gd with | some (j, _) => [j] | none => [])

def waits (ops : Array Oper) (i : Nat) : List Nat := match ops[i]? with | some o => (o.after.toList.filter (Region.binds .any)).map (·.on) | none => []

def masks (ops : Array Oper) : Nat → List Nat
  | 0 => []
  | k + 1 => let p := masks ops k; p ++ [(waits ops k).foldl (fun m j => m ||| (1 <<< j) ||| p.getD j 0) 0]

def lateOk (os : List AO) (m i j : Nat) : Bool :=
  decide (j < m) && (match os[i]?, os[j]? with
    | some o, some q => (match q.dst with | some d => !o.uses.contains d && o.dst != some d | none => true) && (List.range m).all fun k => decide (k < j) || (match (os[k]?).bind (·.dst) with | some d => !q.uses.contains d | none => true)
    | _, _ => false)

def lates (ops : Array Oper) (os : List AO) (m : Nat) : List Nat :=
  let M := masks ops ops.size
  (List.range m).filter fun j => (match os[j]? with | some q => !q.op.pure | none => false) && (List.range ops.size).any fun i => decide (m ≤ i) && !(M.getD i 0).testBit j

def twinOk (ops : Array Oper) (os : List AO) (m i j : Nat) : Bool :=
  !(lates ops os m).isEmpty && decide (m ≤ j) && decide (i = j + 1) && (match os[i]?, os[j]? with
    | some ⟨some d, none, .m (.alloc _)⟩, some ⟨some d', none, .m (.alloc _)⟩ => d != d'
    | _, _ => false)

def drawsOk (ops : Array Oper) (os : List AO) (m : Nat) : Bool :=
  let n := ops.size
  let M := masks ops n
  (List.range n).all fun i =>
    (waits ops i).all (· < i) &&
    (if i < m then
      match os[i]? with
      | some o => (List.range n).all fun j =>
        match (os[j]?).bind (·.dst) with
        | some d => (if o.uses.contains d then (if j < i then (M.getD i 0).testBit j else if i < j then (M.getD j 0).testBit i else true) else true) && (if j != i then (o.dst != some d) || (decide (m ≤ j)) else true)
        | none => true
      | none => false
    else (List.range i).all fun j => (M.getD i 0).testBit j || lateOk os m i j || twinOk ops os m i j)

def AO.anyway : AO → Bool
  | ⟨_, _, .q _⟩ => true
  | ⟨_, _, .pk _ _ _⟩ => true
  | ⟨some _, none, .m (.alloc _)⟩ => true
  | ⟨_, none, .call _ _⟩ => true
  | _ => false
def anyways (os : List AO) : Nat := (os.takeWhile AO.anyway).length
def bars (ops : Array Oper) (m : Nat) : List Nat :=
  let M := masks ops ops.size
  (List.range m).filter fun i => (List.range i).all fun j => (M.getD i 0).testBit j
def drawsX (ops : Array Oper) (os : List AO) (m : Nat) : Bool :=
  let n := ops.size
  let M := masks ops n
  drawsOk ops os m && (List.range n).all fun i => decide (i < m) || (List.range i).all fun j => (M.getD i 0).testBit j
def AO.anyway2 : AO → Bool
  | ⟨some _, none, .m (.mks _ _ _ _ _)⟩ => true
  | o => o.anyway
def AO.isCall : AO → Bool
  | ⟨_, _, .call _ _⟩ => true
  | _ => false
def anyways2 (ops : Array Oper) (os : List AO) : Nat :=
  let b := bars ops ops.size
  ((List.range os.length).takeWhile fun i => match os[i]? with | some o => o.anyway2 && !(o.isCall && decide (0 < i) && b.contains i) | none => false).length
def anyX (ops : Array Oper) (os : List AO) : Nat := if drawsX ops os (anyways os) then anyways os else anyways2 ops os
theorem anyX_le (ops : Array Oper) (os : List AO) : anyX ops os ≤ os.length := by
  unfold anyX
  split
  · exact (List.takeWhile_prefix _).length_le
  · have := (List.takeWhile_prefix (l := List.range os.length) fun i => match os[i]? with | some o => o.anyway2 && !(o.isCall && decide (0 < i) && (bars ops ops.size).contains i) | none => false).length_le
    simpa [anyways2] using this

def remapO (n : Nat) (q : List Nat) (o : Oper) : Oper := { o with after := o.after.map fun e => { e with on := q.getD e.on n }, guard := o.guard.map fun g => (q.getD g.1 n, g.2) }
def permOps (q p : List Nat) (ops : Array Oper) : Array Oper := (p.filterMap fun i => (ops[i]?).map (remapO ops.size q)).toArray
def isPerm (n : Nat) (q p : List Nat) : Bool := decide (p.length = n) && decide (q.length = n) && (List.range n).all fun i => decide (p.getD i n < n) && decide (q.getD i n < n) && decide (q.getD (p.getD i n) n = i) && decide (p.getD (q.getD i n) n = i)
def earlies (ops : Array Oper) (os : List AO) : List Nat :=
  let n := ops.size
  let M := masks ops n
  let light := fun i => match os[i]? with | some ⟨_, _, .q _⟩ => true | some ⟨_, _, .pk _ _ _⟩ => true | _ => false
  let early := fun i => light i && (List.range n).all fun j => light j || !(M.getD i 0).testBit j
  (List.range n).filter early ++ (List.range n).filter fun i => !early i
def permReg (P : Program) (N : Nat) (ops : Array Oper) (os : List AO) : Option ACode :=
  let p := earlies ops os
  let q := (List.range ops.size).map fun i => p.idxOf i
  let ops' := permOps q p ops
  if isPerm ops.size q p then (ops'.toList.mapM (resAO P N ops')).bind fun os' => if drawsOk ops' os' (heavies os') then some (.reg (some (heavies os', lates ops' os' (heavies os'))) os') else none
  else none
def mkReg (pf : Bool) (ops : Array Oper) (alt : Option ACode) (draw : Bool) (os : List AO) : Option ACode :=
  if draw then
    if drawsOk ops os (heavies os) then some (.reg (some (heavies os, lates ops os (heavies os))) os)
    else match (if pf then alt else none) with
    | some c => some c
    | none =>
      if pf && drawsX ops os (anyX ops os) then some (.rgx (anyX ops os) (bars ops (anyX ops os)) os)
      else if drawsOk ops os (quiets os) then some (.reg (some (quiets os, lates ops os (quiets os))) os) else none
  else some (.reg none os)

def resCX (pf : Bool) (P : Program) (N : Nat) : Code → Option ACode
  | .skip => some .skip
  | .region _ ops draw => (ops.toList.mapM (resAO P N ops)).bind fun os => mkReg pf ops (permReg P N ops os) draw os
  | .seq a b => (resCX pf P N a).bind fun a => (resCX pf P N b).map fun b => .seq a b
  | .cond x a b => (resX P x).bind fun x => (resCX pf P N a).bind fun a => (resCX pf P N b).map fun b => .cond x a b
  | .block id c => (resCX pf P N c).map (.blk id)
  | .loop c => (resCX pf P N c).map .loop
  | .exit id => some (.exit id)
  | .ret => some .ret
  | .rangeFunc f ps x y => if ps.toList.all (fun p => decide (p < N)) then (resX P f).bind fun f => (resCX pf P N x).bind fun x => (resCX pf P N y).map fun y => .rf f ps.toList x y else none
  | _ => none

abbrev resC (P : Program) (N : Nat) : Code → Option ACode := resCX false P N

def strip : ACode → ACode
  | .keep _ c => strip c
  | .fin _ c => strip c
  | .gst _ c => strip c
  | .seq a b => .seq (strip a) (strip b)
  | .cond x a b => .cond x (strip a) (strip b)
  | .blk id c => .blk id (strip c)
  | .loop c => .loop (strip c)
  | .rf f ps x y => .rf f ps (strip x) (strip y)
  | c => c

/-! ### Guards -/
def opn : RV → RV
  | .cnd _ x => x
  | x => x
def obl : RV → Prop
  | .cnd c _ => c = true
  | _ => True

def gval (x : RV) (want : Bool) : Option Bool :=
  match x with
  | .v (.b t) => some (if want then t else !t)
  | .cnd c (.v (.b t)) => some (c && (if want then t else !t))
  | _ => none

def evPick (c a b : RV) : Option (Prop × RV) :=
  match c, opn a, opn b with
  | .v (.b t), .v (.b x), .v (.b y) => some ((t = true → obl a) ∧ (t = false → obl b), .v (.b (if t then x else y)))
  | _, _, _ => none

def obls (fr : List (Nat × RV)) : List AX → Prop
  | [] => True
  | [x] => obl (ax fr x)
  | x :: l => obl (ax fr x) ∧ obls fr l

def dead (G : Bool) (ob : Prop) : Option (Prop × RV) → Prop × RV
  | some (C, r) => (G = true → ob ∧ C, .cnd G r)
  | none => (G = false, .cnd G (.v (.b false)))
def evo (fr : List (Nat × RV)) (hp : List AObj) (gd : Option (Nat × Bool)) (q : AOp) : Option (Prop × RV) :=
  match gd with
  | none => evq (ax fr) hp q
  | some (j, want) => (gval (lk fr j) want).bind fun G => some (dead G (obls fr q.xs) (evq (fun x => opn (ax fr x)) hp q))

def evPk (fr : List (Nat × RV)) (gd : Option (Nat × Bool)) (c a b : AX) : Option (Prop × RV) :=
  match gd with
  | none => evPick (ax fr c) (ax fr a) (ax fr b)
  | some (j, want) => (gval (lk fr j) want).bind fun G => some (dead G (obl (ax fr c)) (evPick (opn (ax fr c)) (ax fr a) (ax fr b)))

def upd (fr : List (Nat × RV)) (d : Option Nat) (r : RV) : List (Nat × RV) :=
  match d with
  | some d => (d, r) :: fr
  | none => fr

abbrev FW (r : Option Nat) : Fence := { fn := fun _ => True, depth := none, alive := false, round := r }

def CallS (P : Program) (f : Nat) (args : List RV) (H : List AObj) (R : RV → List AObj → Prop) : Prop :=
  ∀ (e : Env) (vs : Array Value), Good e → Tabs P e → e.H = H → vs.size = args.length → (∀ (j : Nat) x y, args[j]? = some x → vs[j]? = some y → VR e x y) →
    CallsIn (FW none) 0 P f vs e.w fun E w' => ∃ (c : Value) (e' : Env) (r : RV), E = .returned c ∧ e'.w = w' ∧ Good e' ∧ Mv e e' ∧ VR e' r c ∧ R r e'.H

def PureS (P : Program) (f : Nat) (args : List AV) (r : AV) : Prop := CallS P f (args.map .v) [] fun r' _ => r' = .v r

theorem CallS.mono {P : Program} {f : Nat} {args : List RV} {H : List AObj} {R R' : RV → List AObj → Prop} (h : CallS P f args H R) (hr : ∀ r H', R r H' → R' r H') : CallS P f args H R' := fun e vs g tb hH hn hv =>
  (h e vs g tb hH hn hv).mono fun _ _ ⟨c, e', r, h1, h2, h3, h4, h5, h6⟩ => ⟨c, e', r, h1, h2, h3, h4, h5, hr _ _ h6⟩

abbrev Caps := List RV × List RV
def capd (c : Caps) (as : List RV) : List RV := c.1 ++ (as ++ c.2)
def fnv : RV → Option (Nat × Caps)
  | .v (.fn f caps) => some (f, [], caps.map .v)
  | .fr f caps => some (f, [], caps)
  | .bf f first => some (f, first, [])
  | _ => none

def yv : RV → Option (Nat × Stt)
  | .yl l s => some (l, s)
  | _ => none
def YieldS (P : Program) (l : Nat) (s : Stt) (args : List RV) (H : List AObj) (R : RV → List AObj → Prop) : Prop :=
  ∀ (e : Env) (vs : Array Value), Good e → Tabs P e → e.H = H → Bs l s e.st → vs.size = args.length → (∀ (j : Nat) x y, args[j]? = some x → vs[j]? = some y → VR e x y) →
    YieldAt (FW none) 0 P l vs e.w fun E w' => ∃ (c : Value) (e' : Env) (r : RV), E = .returned c ∧ e'.w = w' ∧ Good e' ∧ Mv e e' ∧ VR e' r c ∧ R r e'.H
theorem YieldS.mono {P : Program} {l : Nat} {s : Stt} {args : List RV} {H : List AObj} {R R' : RV → List AObj → Prop} (h : YieldS P l s args H R) (hr : ∀ r H', R r H' → R' r H') : YieldS P l s args H R' := fun e vs g tb hH hs hn hv =>
  (h e vs g tb hH hs hn hv).mono fun _ _ ⟨c, e', r, h1, h2, h3, h4, h5, h6⟩ => ⟨c, e', r, h1, h2, h3, h4, h5, hr _ _ h6⟩

def YieldK (P : Program) (σ : AS) (gd : Option (Nat × Bool)) (f : AX) (args : List AX) (dst : Option Nat) (K : AS → Prop) : Prop :=
  match gd with
  | none =>
    match yv (ax σ.fr f) with
    | some (l, s) => YieldS P l s (args.map (ax σ.fr)) σ.hp fun r H' => K ⟨upd σ.fr dst r, H'⟩
    | none => False
  | some (j, want) =>
    match gval (lk σ.fr j) want with
    | some true =>
      obl (ax σ.fr f) ∧ obls σ.fr args ∧
      match fnv (opn (ax σ.fr f)) with
      | some (fid, caps) => (∀ vs w, (callFunc fid vs).run P w = .ok (.enter fid vs) w) ∧ CallS P fid (capd caps (args.map fun x => opn (ax σ.fr x))) σ.hp fun r H' => K ⟨upd σ.fr dst (.cnd true r), H'⟩
      | none =>
        match yv (opn (ax σ.fr f)) with
        | some (l, s) => YieldS P l s (args.map fun x => opn (ax σ.fr x)) σ.hp fun r H' => K ⟨upd σ.fr dst (.cnd true r), H'⟩
        | none => False
    | some false => K ⟨upd σ.fr dst (.cnd false (.v (.b false))), σ.hp⟩
    | none => False
theorem YieldK_mono {P : Program} {σ : AS} {gd : Option (Nat × Bool)} {f : AX} {args : List AX} {dst : Option Nat} {K K' : AS → Prop} (h : ∀ σ, K σ → K' σ) (hk : YieldK P σ gd f args dst K) : YieldK P σ gd f args dst K' := by
  unfold YieldK at hk ⊢
  split at hk
  · split at hk
    · exact hk.mono fun r H' hr => h _ hr
    · exact hk.elim
  · split at hk
    · refine ⟨hk.1, hk.2.1, ?_⟩
      have hk := hk.2.2
      split at hk
      · exact ⟨hk.1, hk.2.mono fun r H' hr => h _ hr⟩
      · split at hk
        · exact hk.mono fun r H' hr => h _ hr
        · exact hk.elim
    · exact h _ hk
    · exact hk.elim

def CallK (P : Program) (σ : AS) (gd : Option (Nat × Bool)) (f : AX) (args : List AX) (dst : Option Nat) (K : AS → Prop) : Prop :=
  match fnv (ax σ.fr f) with
  | some (fid, caps) =>
    (∀ vs w, (callFunc fid vs).run P w = .ok (.enter fid vs) w) ∧
    match gd with
    | none => CallS P fid (capd caps (args.map (ax σ.fr))) σ.hp fun r H' => K ⟨upd σ.fr dst r, H'⟩
    | some (j, want) =>
      match gval (lk σ.fr j) want with
      | some G => ∃ r, (G = true → obls σ.fr args ∧ CallS P fid (capd caps (args.map fun x => opn (ax σ.fr x))) σ.hp fun r' H' => r' = .v r ∧ H' = σ.hp) ∧ K ⟨upd σ.fr dst (.cnd G (.v r)), σ.hp⟩
      | none => False
  | none => YieldK P σ gd f args dst K

def GmK (σ : AS) (jw : Nat × Bool) (q : MOp) (dst : Option Nat) (K : AS → Prop) : Prop :=
  match gval (lk σ.fr jw.1) jw.2 with
  | some true =>
    match evm (fun x => opn (ax σ.fr x)) σ.hp q with
    | some (C, r, H') => obls σ.fr q.xs ∧ C ∧ K ⟨upd σ.fr dst (.cnd true r), H'⟩
    | none => False
  | some false => K ⟨upd σ.fr dst (.cnd false (.v (.b false))), σ.hp⟩
  | none => False
theorem GmK_mono {σ : AS} {jw : Nat × Bool} {q : MOp} {dst : Option Nat} {K K' : AS → Prop} (h : ∀ σ, K σ → K' σ) (hk : GmK σ jw q dst K) : GmK σ jw q dst K' := by
  unfold GmK at hk ⊢
  split at hk
  · split at hk
    · exact ⟨hk.1, hk.2.1, h _ hk.2.2⟩
    · exact hk.elim
  · exact h _ hk
  · exact hk.elim

theorem NxtK_mono {it : RV} {H : List AObj} {K K' : RV → List AObj → Prop} (h : ∀ r H, K r H → K' r H) (hk : NxtK it H K) : NxtK it H K' := by
  unfold NxtK at hk ⊢
  split at hk
  · split at hk
    · exact ⟨hk.1, fun hi => h _ _ (hk.2.1 hi), fun i hi hs => h _ _ (hk.2.2 i hi hs)⟩
    · exact hk.elim
  · exact hk.elim

def evR (P : Program) : List AO → AS → (AS → Prop) → Prop
  | [], σ, K => K σ
  | o :: os, σ, K =>
    match o.op with
    | .pk c a b =>
      match evPk σ.fr o.gd c a b with
      | some (C, r) => C ∧ evR P os ⟨upd σ.fr o.dst r, σ.hp⟩ K
      | none => False
    | .q q =>
      match evo σ.fr σ.hp o.gd q with
      | some (C, r) => C ∧ evR P os ⟨upd σ.fr o.dst r, σ.hp⟩ K
      | none => False
    | .m q =>
      match o.gd, evm (ax σ.fr) σ.hp q with
      | none, some (C, r, H') => C ∧ evR P os ⟨upd σ.fr o.dst r, H'⟩ K
      | none, none => False
      | some jw, _ => GmK σ jw q o.dst fun σ' => evR P os σ' K
    | .call f args => CallK P σ o.gd f args o.dst fun σ' => evR P os σ' K
    | .nx it =>
      match o.gd with
      | none => NxtK (ax σ.fr it) σ.hp fun r H' => evR P os ⟨upd σ.fr o.dst r, H'⟩ K
      | some _ => False

def evQ (P : Program) (σ : AS) (o : AO) (K : RV → Prop) : Prop :=
  match o.op with
  | .pk a b c => match evPk σ.fr o.gd a b c with | some (C, r) => C ∧ K r | none => False
  | .q q => match evo σ.fr σ.hp o.gd q with | some (C, r) => C ∧ K r | none => False
  | .m _ => False
  | .call f args =>
    match fnv (ax σ.fr f) with
    | some (fid, caps) =>
      (∀ vs w, (callFunc fid vs).run P w = .ok (.enter fid vs) w) ∧
      match o.gd with
      | none => ∃ r, (∃ xs : List AV, capd caps (args.map (ax σ.fr)) = xs.map .v ∧ PureS P fid xs r) ∧ K (.v r)
      | some (j, want) =>
        match gval (lk σ.fr j) want with
        | some G => ∃ r, (G = true → obls σ.fr args ∧ ∃ xs : List AV, capd caps (args.map fun x => opn (ax σ.fr x)) = xs.map .v ∧ PureS P fid xs r) ∧ K (.cnd G (.v r))
        | none => False
    | none => False
  | .nx _ => False

def evRD (P : Program) : Nat → List AO → AS → (AS → Prop) → Prop
  | 0, os, σ, K => evR P os σ K
  | _ + 1, [], σ, K => K σ
  | m + 1, o :: os, σ, K => evQ P σ o fun r => evRD P m os ⟨upd σ.fr o.dst r, σ.hp⟩ K

def stab (P : Program) (l : List (List (Nat × RV) × AO × RV)) (H : List AObj) : Prop := ∀ t ∈ l, evQ P ⟨t.1, H⟩ t.2.1 (fun r => r = t.2.2)

def prune (o : AO) (l : List (List (Nat × RV) × AO × RV)) : List (List (Nat × RV) × AO × RV) := l.filter fun t => match t.2.1.dst with | some d => !o.uses.contains d | none => true

def twinQ (P : Program) (l : List (List (Nat × RV) × AO × RV)) : List AO → AS → Prop
  | ⟨some _, none, .m (.alloc _)⟩ :: ⟨some _, none, .m (.alloc z)⟩ :: _, σ => frLow σ.hp.length σ.fr ∧ lowH σ.hp.length σ.hp ∧ match rcells (.v z) with | some cs => stab P l (σ.hp ++ [.var cs]) | none => False
  | _, _ => True

def evRS (P : Program) (tw : Bool) : List (List (Nat × RV) × AO × RV) → List AO → AS → (AS → Prop) → Prop
  | _, [], σ, K => K σ
  | l, o :: os, σ, K => (tw = true → twinQ P l (o :: os) σ) ∧ evR P [o] σ fun σ' => (σ'.hp = σ.hp ∨ stab P (prune o l) σ'.hp) ∧ evRS P tw (prune o l) os σ' K

def evRE (P : Program) (ls : List Nat) : Nat → List (List (Nat × RV) × AO × RV) → Nat → List AO → AS → (AS → Prop) → Prop
  | _, l, 0, os, σ, K => evRS P (!ls.isEmpty) l os σ K
  | _, _, _ + 1, [], σ, K => K σ
  | idx, l, m + 1, o :: os, σ, K => evQ P σ o fun r => evRE P ls (idx + 1) (if idx ∈ ls then (σ.fr, o, r) :: l else l) m os ⟨upd σ.fr o.dst r, σ.hp⟩ K

def xstep (P : Program) (bar : Bool) (H : List AObj) (fr : List (Nat × RV)) (idx : Nat) (o : AO) (r : RV) (ob : AObj) : Prop :=
  (ob = .none ∧ (∀ X, evR P [o] ⟨fr, H ++ X⟩ (fun σ' => σ'.fr = upd fr o.dst r ∧ σ'.hp = H ++ X)) ∧ RV.dom (· < H.length + (if bar then idx else 0)) r) ∨
  (∃ mk : Nat → RV, (∀ f a, RV.ren f (mk a) = mk (f a)) ∧ (∀ p a, p a → RV.dom p (mk a)) ∧ r = mk (H.length + idx) ∧ (∀ p, ob.dom p) ∧
    ∀ X, evR P [o] ⟨fr, H ++ X⟩ (fun σ' => σ'.fr = upd fr o.dst (mk (H ++ X).length) ∧ σ'.hp = (H ++ X) ++ [ob]))
def evRX (P : Program) (ls : List Nat) (H : List AObj) : Nat → List AO → List (Nat × RV) → List AObj → (AS → Prop) → Prop
  | 0, os, fr, obs, K => evR P os ⟨fr, H ++ obs⟩ K
  | _ + 1, [], fr, obs, K => K ⟨fr, H ++ obs⟩
  | m + 1, o :: os, fr, obs, K => ∃ r ob, xstep P (decide (obs.length ∈ ls)) H fr obs.length o r ob ∧ evRX P ls H m os (upd fr o.dst r) (obs ++ [ob]) K

inductive AE where
  | normal
  | exit (id : Nat)
  | ret

def Dfs (e0 e : Env) (D ds : List Deferred) : Prop :=
  ∃ ms : List Nat, ds = ms.map (fun r => { target := .collected r, args := #[] }) ++ D ∧ ms.Nodup ∧ ∀ r ∈ ms, e0.w.heap.size ≤ r ∧ r < e.w.heap.size ∧ e.w.heap[r]? = some (.deferred (some [])) ∧ ¬ e.own r ∧ ¬ e.Im r
theorem Dfs.nil {e0 e : Env} {D : List Deferred} : Dfs e0 e D D := ⟨[], rfl, .nil, fun _ h => by simp at h⟩
theorem Dfs.mv {e0 e e' : Env} {D ds : List Deferred} (h : Dfs e0 e D ds) (mv : Mv e e') : Dfs e0 e' D ds := by
  obtain ⟨ms, h1, h2, h3⟩ := h
  refine ⟨ms, h1, h2, fun r hr => ?_⟩
  obtain ⟨k1, k2, k3, k4, k5⟩ := h3 r hr
  refine ⟨k1, Nat.lt_of_lt_of_le k2 mv.size, (mv.same r k2 k4).trans k3, fun h => ?_, fun h => ?_⟩
  · rcases mv.ownn r h with h | h
    · exact k4 h
    · omega
  · rcases mv.imn r h with h | h | h
    · exact k5 h
    · exact k4 h
    · omega

theorem Dfs.sub {e0 e e' : Env} {D ds : List Deferred} (h : Dfs e0 e D ds) (hw : e'.w = e.w) (hi : ∀ b, e'.Im b → e.Im b) (ho : ∀ b, e'.own b → e.own b) : Dfs e0 e' D ds := by
  obtain ⟨ms, h1, h2, h3⟩ := h
  refine ⟨ms, h1, h2, fun r hr => ?_⟩
  obtain ⟨k1, k2, k3, k4, k5⟩ := h3 r hr
  exact ⟨k1, by rw [hw]; exact k2, by rw [hw]; exact k3, fun h => k4 (ho r h), fun h => k5 (hi r h)⟩

def Rel (e0 : Env) (N : Nat) (D : List Deferred) (σ : AS) (a : Act) (w : World) : Prop :=
  ∃ e : Env, e.w = w ∧ e.H = σ.hp ∧ Good e ∧ Mv e0 e ∧ (∀ t, VR e (lk σ.fr t) (a.tmps.getD t undef)) ∧ a.tmps.size = N ∧ Dfs e0 e D a.defers

def QQ (Q : AE → AS → Prop) (e0 : Env) (N : Nat) (D : List Deferred) : Exit → Act → World → Prop
  | .normal, a, w => ∃ σ, Q .normal σ ∧ Rel e0 N D σ a w
  | .exit id, a, w => ∃ σ, Q (.exit id) σ ∧ Rel e0 N D σ a w
  | .ret, a, w => ∃ σ, Q .ret σ ∧ Rel e0 N D σ a w
  | _, _, _ => False

def LoopK (P : Program) (rd : Option Nat) (c : ACode) (Q : AE → AS → Prop) (σ : AS) : Prop :=
  ∀ (pf : Bool) (N : Nat) (cd : Code), resCX pf P N cd = some (strip c) → ∀ (e0 : Env), Good e0 → Tabs P e0 → ∀ D a w, Rel e0 N D σ a w → (Code.loop cd).wpIn (FW rd) 0 P (QQ Q e0 N D) a w

def RfK (P : Program) (rd : Option Nat) (f : AX) (ps : List Nat) (x y : ACode) (Q : AE → AS → Prop) (σ : AS) : Prop :=
  ∀ (pf : Bool) (N : Nat) (fo : Operand) (pa : Array Tmp) (cx cy : Code), resX P fo = some f → pa.toList = ps → (∀ p ∈ ps, p < N) → resCX pf P N cx = some (strip x) → resCX pf P N cy = some (strip y) →
    ∀ (e0 : Env), Good e0 → Tabs P e0 → ∀ D a w, Rel e0 N D σ a w → (Code.rangeFunc fo pa cx cy).wpIn (FW rd) 0 P (QQ Q e0 N D) a w

def lastNil (rows : List (List RV)) : Bool := match rows.getLast? with | some [.v .nil] => true | _ => false
@[simp] theorem lastNil_put (rows : List (List RV)) : lastNil (rows ++ [[.v .nil]]) = true := by simp [lastNil]
theorem lastNil_of {rows : List (List RV)} (h : lastNil rows = true) : ∃ ys, rows = ys ++ [[.v .nil]] := by
  unfold lastNil at h
  split at h
  · rename_i hl; exact List.getLast?_eq_some_iff.1 hl
  · cases h
theorem relist {e : Env} (g : Good e) {o v sz : Nat} {rows rows' : List (List RV)} {l : Loc} (ho : e.H[o]? = some (.arr v sz rows)) (hl : e.ρ[o]? = some (some l)) (hlen : rows'.length = rows.length) (hsz : ∀ row ∈ rows', row.length = sz)
    (h : ∀ (r : Nat) row' (j : Nat) x', rows'[r]? = some row' → row'[j]? = some x' → ∃ row x, rows[r]? = some row ∧ row[j]? = some x ∧ ∀ c, VR e x c → VR e x' c) :
    Good ⟨e.w, e.Im, e.ρ, e.H.set o (.arr v sz rows')⟩ ∧ Mv e ⟨e.w, e.Im, e.ρ, e.H.set o (.arr v sz rows')⟩ := by
  refine write_ok g e.w ho hl rfl rfl ⟨rfl, Nat.le_refl _⟩ rfl (fun _ _ => rfl) ⟨v, sz, rows, rfl, .inr ⟨rfl, rfl, hlen, rfl⟩⟩ (fun e' he mv => ?_)
  obtain ⟨_, hcap, hroom, hcell⟩ := g.obj o _ _ ho hl
  refine ⟨hsz, by omega, fun k hk => by rw [he]; exact hroom k hk, fun r row' j x' hr hx => ?_⟩
  obtain ⟨row, x, h1, h2, h3⟩ := h r row' j x' hr hx
  obtain ⟨c, k1, k2, k3⟩ := hcell r row j x h1 h2
  exact ⟨c, by rw [he]; exact k1, k2, mv.vr (h3 c k3)⟩

def evG (σ : AS) : Gh → Option (Prop × AS)
  | .nilT t sz =>
    match lk σ.fr t with
    | .v .nil => some (True, ⟨(t, .os σ.hp.length 0) :: σ.fr, σ.hp ++ [.arr 0 sz []]⟩)
    | _ => none
  | .nilC t j sz =>
    match lk σ.fr t with
    | .pt o _ _ off =>
      match σ.hp[o]? with
      | some (.var cs) =>
        match cs[off + j]? with
        | some (.v .nil) => some (True, ⟨σ.fr, σ.hp.set o (.var (cs.set (off + j) (.os σ.hp.length 0))) ++ [.arr 0 sz []]⟩)
        | _ => none
      | _ => none
    | _ => none
  | .nilL t sz =>
    match lk σ.fr t with
    | .os o _ =>
      match σ.hp[o]? with
      | some (.arr v sz' rows) =>
        if lastNil rows = true then some (True, ⟨σ.fr, σ.hp.set o (.arr v sz' (rows.dropLast ++ [[.os σ.hp.length 0]])) ++ [.arr 0 sz []]⟩) else some (True, σ)
      | _ => none
    | _ => none
  | .frzT t =>
    match lk σ.fr t with
    | .os o ver =>
      match σ.hp[o]? with
      | some (.arr v sz rows) =>
        match plainR rows with
        | some l => some (ver = v, ⟨(t, .v (.sl sz l)) :: σ.fr, σ.hp.set o .none⟩)
        | none => none
      | _ => none
    | _ => none
  | .frzC t j =>
    match lk σ.fr t with
    | .pt o _ _ off =>
      match σ.hp[o]? with
      | some (.var cs) =>
        match cs[off + j]? with
        | some (.os o' ver) =>
          match σ.hp[o']? with
          | some (.arr v sz rows) =>
            match plainR rows with
            | some l => some (ver = v, ⟨σ.fr, (σ.hp.set o' .none).set o (.var (cs.set (off + j) (.v (.sl sz l))))⟩)
            | none => none
          | _ => none
        | _ => none
      | _ => none
    | _ => none
  | .frzP t j =>
    match lk σ.fr t with
    | .pt o _ _ off =>
      match σ.hp[o]? with
      | some (.var cs) =>
        match cs[off + j]? with
        | some (.pt o' _ _ off') =>
          match σ.hp[o']? with
          | some (.var cs') =>
            match plainr cs' with
            | some l => some (off' = 0 ∧ l ≠ [] ∧ o' ≠ o, ⟨σ.fr, (σ.hp.set o' .none).set o (.var (cs.set (off + j) (.v (.pim l))))⟩)
            | none => none
          | _ => none
        | _ => none
      | _ => none
    | _ => none
  | .cutT t =>
    match lk σ.fr t with
    | .sub o ver 0 n =>
      match σ.hp[o]? with
      | some (.arr v sz rows) => some (ver = v ∧ 0 < n, ⟨(t, .os o (v + 1)) :: σ.fr, σ.hp.set o (.arr (v + 1) sz (rows.take n))⟩)
      | _ => none
    | .sub _ _ _ _ => none
    | _ => some (True, σ)
  | .frzD t a => some (Frz σ.hp (lk σ.fr t) a, ⟨[(t, .v a)], σ.hp.map fun _ => .none⟩)
  | .pimT t =>
    match lk σ.fr t with
    | .pt o _ _ off =>
      match σ.hp[o]? with
      | some (.var cs) =>
        match plainr cs with
        | some l => some (off = 0 ∧ l ≠ [], ⟨(t, .v (.pim l)) :: σ.fr, σ.hp.set o .none⟩)
        | none => none
      | _ => none
    | _ => none
  | .letT t sz =>
    match lk σ.fr t with
    | .v .nil => some (True, ⟨(t, .v (.sl sz [])) :: σ.fr, σ.hp⟩)
    | .os o ver =>
      match σ.hp[o]? with
      | some (.arr v sz' rows) =>
        match plainR rows with
        | some l => some (ver = v, ⟨(t, .v (.sl sz' l)) :: σ.fr, σ.hp.set o .none⟩)
        | none => none
      | _ => none
    | .sub o ver lo n =>
      match σ.hp[o]? with
      | some (.arr v sz' rows) =>
        match plainR rows with
        | some l => some (ver = v, ⟨(t, .v (.sl sz' ((l.drop lo).take n))) :: σ.fr, σ.hp.set o .none⟩)
        | none => none
      | _ => none
    | _ => some (True, σ)

def wpA (P : Program) (rd : Option Nat) : ACode → (AE → AS → Prop) → AS → Prop
  | .skip, Q, σ => Q .normal σ
  | .reg none ops, Q, σ => evR P ops σ (Q .normal)
  | .reg (some (m, [])) ops, Q, σ => evRD P m ops σ (Q .normal)
  | .reg (some (m, j :: ls)) ops, Q, σ => evRE P (j :: ls) 0 [] m ops σ (Q .normal)
  | .rgx m ls ops, Q, σ => frLow σ.hp.length σ.fr ∧ lowH σ.hp.length σ.hp ∧ evRX P ls σ.hp m ops σ.fr [] (Q .normal)
  | .seq a b, Q, σ => wpA P rd a (fun e σ' => match e with | .normal => wpA P rd b Q σ' | .exit id => Q (.exit id) σ' | .ret => Q .ret σ') σ
  | .cond x a b, Q, σ =>
    match ax σ.fr x with
    | .v (.b t) => (t = true → wpA P rd a Q σ) ∧ (t = false → wpA P rd b Q σ)
    | .bo => wpA P rd a Q σ ∧ wpA P rd b Q σ
    | _ => False
  | .blk id c, Q, σ => wpA P rd c (fun e σ' => match e with | .normal => Q .normal σ' | .exit id' => if id' = id then Q .normal σ' else Q (.exit id') σ' | .ret => Q .ret σ') σ
  | .loop c, Q, σ => LoopK P rd c Q σ
  | .rf f ps x y, Q, σ => RfK P rd f ps x y Q σ
  | .exit id, Q, σ => Q (.exit id) σ
  | .ret, Q, σ => Q .ret σ
  | .keep l c, Q, σ => wpA P rd c Q ⟨l.map fun t => (t, lk σ.fr t), σ.hp⟩
  | .fin l c, Q, σ => wpA P rd c (fun e σ' => match e with | .normal => Q .normal ⟨l.map fun t => (t, lk σ'.fr t), σ'.hp⟩ | .exit id => Q (.exit id) σ' | .ret => Q .ret σ') σ
  | .gst g c, Q, σ =>
    match evG σ g with
    | some (C, σ') => C ∧ wpA P rd c Q σ'
    | none => False

end Go.Av
