/- Chapter 03: the law ProgCopies. No condition. -/
import Derived.Test.YtdjcfjfgdblefaaXSpH
import Derived.Test.YtdjcfjfgdblefaaXT3
import Derived.Test.YtdjcfjfgdblefaaXBlk
set_option linter.constructorNameAsVariable false
namespace Go.Sc.Sp
open Go Go.RowKit Go.Av Go.Proofs Go.Sc Go.Sc.So
open Go.Sc.Q03 (refSame refSameFunc)
set_option linter.unusedSimpArgs false
set_option linter.unusedVariables false
/-- scarab/scarablaw03.ProgCopies -/
def c3 : ACode :=
  (.seq (.reg none [⟨some 1, none, .m (.box (.t 0))⟩, ⟨some 2, none, .q (.mv (.c (.b false)))⟩])
  (.keep [1]
  (.seq (.reg none [⟨some 6, none, .q (.ld (some 4) (.t 1))⟩, ⟨some 7, none, .call (.f 10) [(.t 6)]⟩, ⟨some 3, none, .m (.alloc (.g [.nil, (.i .i64 0), .nil, .nil]))⟩, ⟨none, none, .m (.st 4 (.t 3) (.t 7))⟩])
  (.keep [1, 3]
  (.seq (.reg none [⟨some 8, none, .q (.ld (some 4) (.t 3))⟩, ⟨some 9, none, .call (.f 11) [(.t 8)]⟩, ⟨some 4, none, .m (.alloc (.g [.nil, (.i .i64 0), .nil, .nil]))⟩, ⟨none, none, .m (.st 4 (.t 4) (.t 9))⟩])
  (.keep [1, 3, 4]
  (.seq (.reg none [⟨some 10, none, .q (.ld (some 4) (.t 3))⟩, ⟨some 11, none, .call (.f 11) [(.t 10)]⟩, ⟨some 5, none, .m (.alloc (.g [.nil, (.i .i64 0), .nil, .nil]))⟩, ⟨none, none, .m (.st 4 (.t 5) (.t 11))⟩])
  (.keep [1, 3, 4, 5]
  (.seq (.seq (.reg none [⟨some 12, none, .q (.ld (some 4) (.t 4))⟩, ⟨some 13, none, .q (.ld (some 4) (.t 1))⟩, ⟨some 14, none, .call (.f 12) [(.t 12), (.t 13)]⟩, ⟨some 15, none, .q (.un .not (.t 14))⟩, ⟨some 16, none, .q (.mv (.t 15))⟩, ⟨some 17, some (16, false), .q (.ld (some 4) (.t 5))⟩, ⟨some 18, some (16, false), .q (.ld (some 4) (.t 1))⟩, ⟨some 19, some (16, false), .call (.f 12) [(.t 17), (.t 18)]⟩, ⟨some 20, some (16, false), .q (.un .not (.t 19))⟩, ⟨some 21, none, .pk (.t 16) (.c (.b true)) (.t 20)⟩])
    (.keep [1, 3, 4, 5, 21]
    (.cond (.t 21) (.seq (.reg none [⟨some 2, none, .q (.mv (.c (.b false)))⟩])
      .ret)
    .skip)))
  (.seq (.reg none [⟨some 22, none, .q (.ld (some 4) (.t 4))⟩, ⟨some 23, none, .call (.f 13) [(.t 22)]⟩])
  (.keep [1, 3, 4, 5]
  (.seq (.reg none [⟨some 24, none, .q (.fa 0 (.t 4))⟩, ⟨some 25, none, .q (.ld none (.t 24))⟩, ⟨some 26, none, .q (.bld [(.b false), (.i .i64 0)] [(1, 1, .c (.i .i64 5))])⟩, ⟨some 27, none, .m (.bsl 1 2 [(.b false), (.i .i64 0)] [(0, 2, .t 26)])⟩, ⟨some 28, none, .m (.app 2 16 (.t 25) (.t 27))⟩, ⟨some 29, none, .q (.fa 0 (.t 4))⟩, ⟨none, none, .m (.st 1 (.t 29) (.t 28))⟩])
  (.keep [1, 3, 4, 5]
  (.seq (.reg none [⟨some 30, none, .q (.fa 2 (.t 4))⟩, ⟨some 31, none, .q (.ld none (.t 30))⟩, ⟨some 32, none, .m (.bsl 1 1 [(.i .i64 0)] [(0, 1, .c (.i .i64 5))])⟩, ⟨some 33, none, .m (.app 1 8 (.t 31) (.t 32))⟩, ⟨some 34, none, .q (.fa 2 (.t 4))⟩, ⟨none, none, .m (.st 1 (.t 34) (.t 33))⟩])
  (.keep [1, 3, 4, 5]
  (.seq (.reg none [⟨some 35, none, .q (.fa 3 (.t 4))⟩, ⟨some 36, none, .q (.ld none (.t 35))⟩, ⟨some 37, none, .q (.bld [(.i .i64 0), (.i .i64 0), .nil, .nil] [])⟩, ⟨some 38, none, .m (.bsl 1 4 [(.i .i64 0), (.i .i64 0), .nil, .nil] [(0, 4, .t 37)])⟩, ⟨some 39, none, .m (.app 4 64 (.t 36) (.t 38))⟩, ⟨some 40, none, .q (.fa 3 (.t 4))⟩, ⟨none, none, .m (.st 1 (.t 40) (.t 39))⟩])
  (.keep [1, 3, 5]
  (.seq (.seq (.reg none [⟨some 41, none, .q (.ld (some 4) (.t 3))⟩, ⟨some 42, none, .q (.ld (some 4) (.t 1))⟩, ⟨some 43, none, .call (.f 12) [(.t 41), (.t 42)]⟩, ⟨some 44, none, .q (.un .not (.t 43))⟩, ⟨some 45, none, .q (.mv (.t 44))⟩, ⟨some 46, some (45, false), .q (.ld (some 4) (.t 5))⟩, ⟨some 47, some (45, false), .q (.ld (some 4) (.t 1))⟩, ⟨some 48, some (45, false), .call (.f 12) [(.t 46), (.t 47)]⟩, ⟨some 49, some (45, false), .q (.un .not (.t 48))⟩, ⟨some 50, none, .pk (.t 45) (.c (.b true)) (.t 49)⟩])
    (.keep [1, 3, 5, 50]
    (.cond (.t 50) (.seq (.reg none [⟨some 2, none, .q (.mv (.c (.b false)))⟩])
      .ret)
    .skip)))
  (.seq (.reg none [⟨some 51, none, .q (.ld (some 4) (.t 3))⟩, ⟨some 52, none, .call (.f 13) [(.t 51)]⟩])
  (.keep [1, 5]
  (.seq (.reg none [⟨some 53, none, .q (.ld (some 4) (.t 5))⟩, ⟨some 54, none, .q (.ld (some 4) (.t 1))⟩, ⟨some 55, none, .call (.f 12) [(.t 53), (.t 54)]⟩, ⟨some 2, none, .q (.mv (.t 55))⟩])
  .ret)))))))))))))))))))))
theorem r3 : (Try.f3.body.bind (resC Try.prog Try.f3.ntmps)) = some (strip c3) := by kernel_rfl
theorem s3 : Try.f3.results.toList.mapM (resRes Try.prog) = some [.t 2] := by kernel_rfl
/-- A program's list of objects lies in the heap, from n on. -/
def At (n : Nat) (K H : List AObj) : Prop := Moved n (fun o => K[o]?) (fun o => H[o]?)
theorem at_new (H K : List AObj) : At H.length K (H ++ K.map (AObj.ren (H.length + ·))) := by
  intro o ob h
  simp only at h ⊢
  rw [List.getElem?_append_right (by omega), List.getElem?_map, show H.length + o - H.length = o by omega, h]; rfl
theorem At.app {n : Nat} {K H : List AObj} (h : At n K H) (X : List AObj) : At n K (H ++ X) := by
  intro o ob ho
  have h1 := h o ob ho
  simp only at h1 ⊢
  rw [List.getElem?_append_left (List.getElem?_eq_some_iff.1 h1).1]; exact h1
theorem At.frz {n : Nat} {K H : List AObj} {r : RV} {p : Prog} (h : At n K H) (o : OwnP2 K r p) : Frz H (r.ren (n + ·)) (.g p.row) := (o.one.moved h).frz
theorem At.out {n : Nat} {K H H' : List AObj} (h : At n K H) (hh : ∀ o, n ≤ o → o < n + K.length → o < H.length → H'[o]? = H[o]?) : At n K H' := by
  intro o ob ho
  have h1 := h o ob ho
  simp only at h1 ho ⊢
  have h2 := (List.getElem?_eq_some_iff.1 ho).1
  have h3 := (List.getElem?_eq_some_iff.1 h1).1
  rw [hh _ (by omega) (by omega) h3]; exact h1
theorem look_app {H : List AObj} {o : Nat} {ob : AObj} (h : H[o]? = some ob) (X : List AObj) : (H ++ X)[o]? = some ob := by
  rw [List.getElem?_append_left (List.getElem?_eq_some_iff.1 h).1]; exact h
theorem look_lt {H : List AObj} {o : Nat} {ob : AObj} (h : H[o]? = some ob) : o < H.length := (List.getElem?_eq_some_iff.1 h).1
theorem appd {H : List AObj} {u v : Nat} {J A V : AObj} {H' : List AObj} (h : ((H ++ [J]).set u A).set v V = H') (hv : v < H.length) : H'.length = H.length + 1 ∧ H'[v]? = some V ∧ ∀ o, o ≠ u → o ≠ v → o < H.length → H'[o]? = H[o]? := by
  subst h
  refine ⟨by simp, by rw [List.getElem?_set_self (by simp; omega)], fun o h1 h2 h3 => ?_⟩
  rw [List.getElem?_set_ne (Ne.symm h2), List.getElem?_set_ne (Ne.symm h1), List.getElem?_append_left h3]
def Nice (p : Prog) (r : RV) (K : List AObj) : Prop := OwnP2 K r p ∧ ∀ ob ∈ K, ob.dom (· < K.length)
theorem same_r (x y : Prog) (hx : x.Ok) : PureS Try.prog 12 [.g x.row, .g y.row] (.b (decide (x = y))) := refSame x y hx (fun f hf g _ => refSameFunc f g (hx.funcs f hf))
theorem progCopies (p : Prog) (hp : p.Ok) : PureS Try.prog 3 [.g p.row] (.b true) := by
  refine fun_go hmx Try.func3 r3 s3 (by rw [Try.ntmps3]; simp) ?_
  unfold c3
  simp [Prog.row]
  refine callw (xs := [.g p.row]) (R := fun r K => OwnP2 K r p) (Nice p) rfl Try.call10 (plain_own2 p hp) (fun r K h => OwnP2.kept h) ⟨.v _, trivial⟩ ?_
  rintro rc Kc ⟨hc, dc⟩
  dsimp only
  have ac := at_new [AObj.var [RV.v (AV.sl 2 (List.map Var.row p.vars)), RV.v (AV.i IntKind.i64 p.locks), RV.v (AV.sl 1 (List.map irow p.chans)), RV.v (AV.sl 4 (List.map Func.row p.funcs))]] Kc
  have z0 : ∀ X, (([AObj.var [RV.v (AV.sl 2 (List.map Var.row p.vars)), RV.v (AV.i IntKind.i64 p.locks), RV.v (AV.sl 1 (List.map irow p.chans)), RV.v (AV.sl 4 (List.map Func.row p.funcs))]] ++ Kc.map (AObj.ren (List.length [AObj.var [RV.v (AV.sl 2 (List.map Var.row p.vars)), RV.v (AV.i IntKind.i64 p.locks), RV.v (AV.sl 1 (List.map irow p.chans)), RV.v (AV.sl 4 (List.map Func.row p.funcs))]] + ·))) ++ X)[0]? = some (AObj.var (p.row.map .v)) := fun X => rfl
  have hl0 : (([AObj.var [RV.v (AV.sl 2 (List.map Var.row p.vars)), RV.v (AV.i IntKind.i64 p.locks), RV.v (AV.sl 1 (List.map irow p.chans)), RV.v (AV.sl 4 (List.map Func.row p.funcs))]] ++ Kc.map (AObj.ren (List.length [AObj.var [RV.v (AV.sl 2 (List.map Var.row p.vars)), RV.v (AV.i IntKind.i64 p.locks), RV.v (AV.sl 1 (List.map irow p.chans)), RV.v (AV.sl 4 (List.map Func.row p.funcs))]] + ·)))).length = 1 + Kc.length := by simp; omega
  generalize hHc : [AObj.var [RV.v (AV.sl 2 (List.map Var.row p.vars)), RV.v (AV.i IntKind.i64 p.locks), RV.v (AV.sl 1 (List.map irow p.chans)), RV.v (AV.sl 4 (List.map Func.row p.funcs))]] ++ Kc.map (AObj.ren _) = Hc at ac z0 hl0 ⊢
  have fc := fun X => (ac.app X).frz hc
  obtain ⟨n1, ca, cva, cb, cvb, cc, cvc, crows, rfl, hc'⟩ := id hc
  simp [renL, RV.ren] at fc ⊢
  simp only [List.length_cons, List.length_nil, Nat.zero_add] at ac
  -- the first copy
  refine callw (xs := [.g p.row]) (R := fun r K => OwnP2 K r p) (Nice p) rfl Try.call11 (copy_own2 p hp) (fun r K h => OwnP2.kept h) ⟨fc _, trivial⟩ ?_
  rintro ra Ka ⟨ha, da⟩
  dsimp only
  have hvc : ∀ X, ((Hc ++ [AObj.var [RV.os (1 + ca) cva, RV.v (AV.i IntKind.i64 p.locks), RV.os (1 + cb) cvb, RV.os (1 + cc) cvc]]) ++ X)[Hc.length]? = some (AObj.var [RV.os (1 + ca) cva, RV.v (AV.i IntKind.i64 p.locks), RV.os (1 + cb) cvb, RV.os (1 + cc) cvc]) := fun X => by simp
  have z1 : ∀ X, ((Hc ++ [AObj.var [RV.os (1 + ca) cva, RV.v (AV.i IntKind.i64 p.locks), RV.os (1 + cb) cvb, RV.os (1 + cc) cvc]]) ++ X)[0]? = some (AObj.var (p.row.map .v)) := fun X => by rw [List.append_assoc]; exact z0 _
  have ac1 := ac.app [AObj.var [RV.os (1 + ca) cva, RV.v (AV.i IntKind.i64 p.locks), RV.os (1 + cb) cvb, RV.os (1 + cc) cvc]]
  have hl1 : (Hc ++ [AObj.var [RV.os (1 + ca) cva, RV.v (AV.i IntKind.i64 p.locks), RV.os (1 + cb) cvb, RV.os (1 + cc) cvc]]).length = Hc.length + 1 := by simp
  generalize hH1 : Hc ++ [AObj.var [RV.os (1 + ca) cva, RV.v (AV.i IntKind.i64 p.locks), RV.os (1 + cb) cvb, RV.os (1 + cc) cvc]] = H1 at hvc z1 ac1 hl1 ⊢
  have aa := at_new H1 Ka
  have ac2 := ac1.app (Ka.map (AObj.ren (H1.length + ·)))
  have hvc2 : ∀ X, ((H1 ++ Ka.map (AObj.ren (H1.length + ·))) ++ X)[Hc.length]? = some (AObj.var [RV.os (1 + ca) cva, RV.v (AV.i IntKind.i64 p.locks), RV.os (1 + cb) cvb, RV.os (1 + cc) cvc]) := fun X => by rw [List.append_assoc]; exact hvc _
  have z2 : ∀ X, ((H1 ++ Ka.map (AObj.ren (H1.length + ·))) ++ X)[0]? = some (AObj.var (p.row.map .v)) := fun X => by rw [List.append_assoc]; exact z1 _
  have hl2 : (H1 ++ Ka.map (AObj.ren (H1.length + ·))).length = H1.length + Ka.length := by simp
  generalize hH2 : H1 ++ Ka.map (AObj.ren (H1.length + ·)) = H2 at aa ac2 hvc2 z2 hl2 ⊢
  generalize hna : H1.length = na at *
  generalize hnc : Hc.length = nc at *
  obtain ⟨n2, aa1, ava, ab, avb, ac', avc, arows, rfl, ha'⟩ := id ha
  have fc2 := fun X => (ac2.app X).frz hc
  have fa2 := fun X => (aa.app X).frz ha
  simp [renL, RV.ren] at fc2 fa2
  simp [renL, RV.ren, hvc2]
  -- the second copy
  refine callw (xs := [.g p.row]) (R := fun r K => OwnP2 K r p) (Nice p) rfl Try.call11 (copy_own2 p hp) (fun r K h => OwnP2.kept h) ⟨fc2 _, trivial⟩ ?_
  rintro rb Kb ⟨hb, db⟩
  dsimp only
  have hva3 : ∀ X, ((H2 ++ [AObj.var [RV.os (na + aa1) ava, RV.v (AV.i IntKind.i64 p.locks), RV.os (na + ab) avb, RV.os (na + ac') avc]]) ++ X)[H2.length]? = some (AObj.var [RV.os (na + aa1) ava, RV.v (AV.i IntKind.i64 p.locks), RV.os (na + ab) avb, RV.os (na + ac') avc]) := fun X => by simp
  have hvc3 : ∀ X, ((H2 ++ [AObj.var [RV.os (na + aa1) ava, RV.v (AV.i IntKind.i64 p.locks), RV.os (na + ab) avb, RV.os (na + ac') avc]]) ++ X)[nc]? = some (AObj.var [RV.os (1 + ca) cva, RV.v (AV.i IntKind.i64 p.locks), RV.os (1 + cb) cvb, RV.os (1 + cc) cvc]) := fun X => by rw [List.append_assoc]; exact hvc2 _
  have z3 : ∀ X, ((H2 ++ [AObj.var [RV.os (na + aa1) ava, RV.v (AV.i IntKind.i64 p.locks), RV.os (na + ab) avb, RV.os (na + ac') avc]]) ++ X)[0]? = some (AObj.var (p.row.map .v)) := fun X => by rw [List.append_assoc]; exact z2 _
  have ac3 := ac2.app [AObj.var [RV.os (na + aa1) ava, RV.v (AV.i IntKind.i64 p.locks), RV.os (na + ab) avb, RV.os (na + ac') avc]]
  have aa3 := aa.app [AObj.var [RV.os (na + aa1) ava, RV.v (AV.i IntKind.i64 p.locks), RV.os (na + ab) avb, RV.os (na + ac') avc]]
  have hl3 : (H2 ++ [AObj.var [RV.os (na + aa1) ava, RV.v (AV.i IntKind.i64 p.locks), RV.os (na + ab) avb, RV.os (na + ac') avc]]).length = H2.length + 1 := by simp
  generalize hH3 : H2 ++ [AObj.var [RV.os (na + aa1) ava, RV.v (AV.i IntKind.i64 p.locks), RV.os (na + ab) avb, RV.os (na + ac') avc]] = H3 at hva3 hvc3 z3 ac3 aa3 hl3 ⊢
  have ab4 := at_new H3 Kb
  have ac4 := ac3.app (Kb.map (AObj.ren (H3.length + ·)))
  have aa4 := aa3.app (Kb.map (AObj.ren (H3.length + ·)))
  have hva4 : ∀ X, ((H3 ++ Kb.map (AObj.ren (H3.length + ·))) ++ X)[H2.length]? = some (AObj.var [RV.os (na + aa1) ava, RV.v (AV.i IntKind.i64 p.locks), RV.os (na + ab) avb, RV.os (na + ac') avc]) := fun X => by rw [List.append_assoc]; exact hva3 _
  have hvc4 : ∀ X, ((H3 ++ Kb.map (AObj.ren (H3.length + ·))) ++ X)[nc]? = some (AObj.var [RV.os (1 + ca) cva, RV.v (AV.i IntKind.i64 p.locks), RV.os (1 + cb) cvb, RV.os (1 + cc) cvc]) := fun X => by rw [List.append_assoc]; exact hvc3 _
  have z4 : ∀ X, ((H3 ++ Kb.map (AObj.ren (H3.length + ·))) ++ X)[0]? = some (AObj.var (p.row.map .v)) := fun X => by rw [List.append_assoc]; exact z3 _
  have hl4 : (H3 ++ Kb.map (AObj.ren (H3.length + ·))).length = H3.length + Kb.length := by simp
  generalize hH4 : H3 ++ Kb.map (AObj.ren (H3.length + ·)) = H4 at ab4 ac4 aa4 hva4 hvc4 z4 hl4 ⊢
  generalize hnb : H3.length = nb at *
  generalize hnva : H2.length = nva at *
  obtain ⟨n3, ba, bva, bb, bvb, bc, bvc, brows, rfl, hb'⟩ := id hb
  have fc4 := fun X => (ac4.app X).frz hc
  have fa4 := fun X => (aa4.app X).frz ha
  have fb4 := fun X => (ab4.app X).frz hb
  simp [renL, RV.ren] at fc4 fa4 fb4
  have z5 : ∀ X hh, (H4 ++ X)[0]'hh = AObj.var (p.row.map .v) := fun X hh => by
    have h6 := z4 X
    rw [List.getElem?_eq_getElem hh] at h6
    exact Option.some.inj h6
  simp [renL, RV.ren, hva4, z4, z5, Prog.row]
  -- both are the same
  refine callz rfl Try.call12 (same_r p p hp) (.b _) ⟨fa4 _, .v _, trivial⟩ ?_
  simp [z4, z5, Prog.row]
  refine callzg rfl Try.call12 rfl (fun _ => same_r p p hp) (.b _) (by simp) (fun _ => ⟨fb4 _, .v _, trivial⟩) ?_
  simp [hva4]
  -- what is a's is written over
  refine callb na rfl Try.call13 (smear_p p hp _ Ka ha) (aa4.app _) da ?_ ?_ ?_
  · simp [domL, RV.dom, look_lt ha'.2.1, look_lt ha'.2.2.1, look_lt ha'.2.2.2.1]
  · simp [renL, RV.ren, hva4]
  intro r K5 g H5 hL hg hlen hout hin
  obtain ⟨xa, xva, xb, xvb, xc, xvc, R1, R2, R3, heq, k1, l1, k2, l2, k3, l3⟩ := hL
  simp only [RV.gr.injEq, List.cons.injEq, RV.os.injEq, and_true, true_and] at heq
  obtain ⟨⟨rfl, rfl⟩, ⟨rfl, rfl⟩, rfl, rfl⟩ := heq
  have i1 := hin _ _ (look_lt ha'.2.1) k1
  have i2 := hin _ _ (look_lt ha'.2.2.1) k2
  have i3 := hin _ _ (look_lt ha'.2.2.2.1) k3
  have e0 := hout 0 (by omega) (by simp)
  have ec := hout nc (by omega) (by simp; omega)
  have eva := hout nva (by omega) (by simp; omega)
  have evb := hout H4.length (by omega) (by simp)
  have ac5 : At 1 Kc H5 := (ac4.app _).out fun o h1 h2 h3 => hout o (by omega) h3
  have ab5 : At nb Kb H5 := (ab4.app _).out fun o h1 h2 h3 => hout o (by omega) h3
  rw [hvc4] at ec
  rw [hva4] at eva
  rw [z4] at e0
  simp only [List.getElem?_append_right (Nat.le_refl _), Nat.sub_self, List.getElem?_cons_zero] at evb
  simp only [ren_arr] at i1 i2 i3
  have dab : na + aa1 ≠ na + ab := fun h => by rw [h, i2] at i1; cases i1
  have dac : na + aa1 ≠ na + ac' := fun h => by rw [h, i3] at i1; cases i1
  have dbc : na + ab ≠ na + ac' := fun h => by rw [h, i3] at i2; cases i2
  have sa : na + aa1 ≠ nva := by have := look_lt ha'.2.1; omega
  have sb : na + ab ≠ nva := by have := look_lt ha'.2.2.1; omega
  have sc : na + ac' ≠ nva := by have := look_lt ha'.2.2.2.1; omega
  have hv := hp.fewv
  have hvc' := hp.fewc
  have hvf := hp.fewf
  unfold Few at hv hvc' hvf
  simp [look_app eva, look_app i1, eva, i1]
  refine ⟨⟨by omega, by omega⟩, ?_⟩
  simp [List.getElem?_set_ne sa, look_app eva]
  generalize hH6 : ((H5 ++ [AObj.arr 0 2 _]).set (na + aa1) _).set nva _ = H6
  obtain ⟨len6, v6, k6⟩ := appd hH6 (look_lt eva)
  have i26 := (k6 _ dab.symm sb (look_lt i2)).trans i2
  have i36 := (k6 _ dac.symm sc (look_lt i3)).trans i3
  simp [look_app v6, v6, look_app i26, i26]
  refine ⟨⟨by omega, by omega⟩, ?_⟩
  simp [List.getElem?_set_ne sb, look_app v6]
  generalize hH7 : ((H6 ++ [AObj.arr 0 1 _]).set (na + ab) _).set nva _ = H7
  obtain ⟨len7, v7, k7⟩ := appd hH7 (look_lt v6)
  have i37 := (k7 _ dbc.symm sc (look_lt i36)).trans i36
  simp [look_app v7, v7, look_app i37, i37]
  refine ⟨⟨by omega, by omega⟩, ?_⟩
  simp [List.getElem?_set_ne sc, look_app v7]
  generalize hH8 : ((H7 ++ [AObj.arr 0 4 _]).set (na + ac') _).set nva _ = H8
  obtain ⟨len8, v8, k8⟩ := appd hH8 (look_lt v7)
  have l5 := look_lt i1
  have l52 := look_lt i2
  have l53 := look_lt i3
  have x1 := look_lt ha'.2.1
  have x2 := look_lt ha'.2.2.1
  have x3 := look_lt ha'.2.2.2.1
  have k : ∀ o, o < na ∨ nva < o → o < H5.length → H8[o]? = H5[o]? := fun o ho hl => by
    rw [k8 o (by omega) (by omega) (by omega), k7 o (by omega) (by omega) (by omega), k6 o (by omega) (by omega) hl]
  have ec8 := (k _ (by omega) (look_lt ec)).trans ec
  have e08 := (k _ (by omega) (look_lt e0)).trans e0
  have evb8 := (k _ (by omega) (look_lt evb)).trans evb
  have ac8 : At 1 Kc H8 := ac5.out fun o h1 h2 h3 => k o (by omega) h3
  have ab8 : At nb Kb H8 := ab5.out fun o h1 h2 h3 => k o (by omega) h3
  have fc8 := fun X => (ac8.app X).frz hc
  have fb8 := fun X => (ab8.app X).frz hb
  simp [renL, RV.ren] at fc8 fb8
  have z8 : ∀ X hh, (H8 ++ X)[0]'hh = AObj.var (p.row.map .v) := fun X hh => by
    have h6 := look_app e08 X
    rw [List.getElem?_eq_getElem hh] at h6
    exact Option.some.inj h6
  simp [look_app ec8, ec8, look_app e08, e08, z8, Prog.row]
  refine callz rfl Try.call12 (same_r p p hp) (.b _) ⟨by simpa using fc8 [], .v _, trivial⟩ ?_
  simp [e08, evb8, Prog.row]
  refine callzg rfl Try.call12 rfl (fun _ => same_r p p hp) (.b _) (by simp) (fun _ => ⟨by simpa using fb8 [], .v _, trivial⟩) ?_
  simp [ec8]
  -- what is c's is written over
  refine callb 1 rfl Try.call13 (smear_p p hp _ Kc hc) ac8 dc ?_ ?_ ?_
  · simp [domL, RV.dom, look_lt hc'.2.1, look_lt hc'.2.2.1, look_lt hc'.2.2.2.1]
  · simp [renL, RV.ren]
  intro r K9 g9 H9 _ _ hlen9 hout9 _
  have e09 := (hout9 0 (by omega) (look_lt e08)).trans e08
  have evb9 := (hout9 H4.length (by omega) (look_lt evb8)).trans evb8
  have ab9 : At nb Kb H9 := ab8.out fun o h1 h2 h3 => hout9 o (by omega) h3
  have fb9 := (ab9.frz hb)
  simp [renL, RV.ren] at fb9
  have z9 : ∀ hh, H9[0]'hh = AObj.var (p.row.map .v) := fun hh => by
    rw [List.getElem?_eq_getElem hh] at e09
    exact Option.some.inj e09
  simp [e09, evb9, z9, Prog.row]
  refine callz rfl Try.call12 (same_r p p hp) (.b _) ⟨fb9, .v _, trivial⟩ ?_
  simp

end Go.Sc.Sp
