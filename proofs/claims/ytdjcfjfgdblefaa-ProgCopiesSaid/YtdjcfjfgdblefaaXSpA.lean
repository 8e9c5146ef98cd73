/- Chapter 03: a program in memory of its own. No condition. -/
import Derived.Test.YtdjcfjfgdblefaaXSoG
set_option linter.constructorNameAsVariable false
namespace Go.Sc.Sp
open Go Go.RowKit Go.Av Go.Proofs Go.Sc Go.Sc.So
set_option linter.unusedSimpArgs false
set_option linter.unusedVariables false
/-- scarab/scarabplain.Prog -/
def c10 : ACode :=
  (.seq (.reg none [⟨some 1, none, .m (.box (.t 0))⟩, ⟨some 2, none, .m (.alloc (.g [.nil, (.i .i64 0), .nil, .nil]))⟩])
  (.keep [1, 2]
  (.seq (.reg none [⟨some 3, none, .m (.alloc (.g [.nil, (.i .i64 0), .nil, .nil]))⟩])
  (.gst (.nilC 3 0 2)
  (.gst (.nilC 3 2 1)
  (.gst (.nilC 3 3 4)
  (.keep [1, 2, 3]
  (.seq (.reg none [⟨some 10, none, .q (.fa 1 (.t 1))⟩, ⟨some 11, none, .q (.ld none (.t 10))⟩, ⟨some 12, none, .q (.fa 1 (.t 3))⟩, ⟨none, none, .m (.st 1 (.t 12) (.t 11))⟩])
  (.keep [1, 2, 3]
  (.seq (.reg none [⟨some 13, none, .q (.fa 0 (.t 3))⟩, ⟨some 14, none, .q (.ld none (.t 13))⟩, ⟨some 15, none, .q (.fa 0 (.t 1))⟩, ⟨some 16, none, .q (.ld none (.t 15))⟩, ⟨some 17, none, .m (.app 2 16 (.t 14) (.t 16))⟩, ⟨some 18, none, .q (.fa 0 (.t 3))⟩, ⟨none, none, .m (.st 1 (.t 18) (.t 17))⟩])
  (.keep [1, 2, 3]
  (.seq (.reg none [⟨some 19, none, .q (.fa 2 (.t 3))⟩, ⟨some 20, none, .q (.ld none (.t 19))⟩, ⟨some 21, none, .q (.fa 2 (.t 1))⟩, ⟨some 22, none, .q (.ld none (.t 21))⟩, ⟨some 23, none, .m (.app 1 8 (.t 20) (.t 22))⟩, ⟨some 24, none, .q (.fa 2 (.t 3))⟩, ⟨none, none, .m (.st 1 (.t 24) (.t 23))⟩])
  (.keep [1, 2, 3]
  (.seq (.seq (.reg none [⟨some 25, none, .q (.fa 3 (.t 1))⟩, ⟨some 26, none, .q (.ld none (.t 25))⟩, ⟨some 27, none, .q (.len false (.t 26))⟩, ⟨some 28, none, .q (.mv (.c (.i .i64 0)))⟩])
    (.keep [2, 3, 26, 27, 28]
    (.blk 0 (.keep [2, 3, 26, 27, 28]
    (.loop (.fin [2, 3, 26, 27, 28]
      (.seq (.reg none [⟨some 29, none, .q (.bin .lss (.t 28) (.t 27))⟩])
      (.keep [2, 3, 26, 27, 28, 29]
      (.seq (.cond (.t 29) .skip
        (.exit 0))
      (.seq (.blk 1 (.seq (.reg none [⟨some 30, none, .q (.ias 4 (.t 26) (.t 28))⟩, ⟨some 31, none, .q (.ld (some 4) (.t 30))⟩, ⟨some 5, none, .m (.alloc (.g [(.i .i64 0), (.i .i64 0), .nil, .nil]))⟩, ⟨none, none, .m (.st 4 (.t 5) (.t 31))⟩])
        (.keep [2, 3, 5, 26, 27, 28]
        (.seq (.reg none [⟨some 6, none, .m (.alloc (.g [(.i .i64 0), (.i .i64 0), .nil, .nil]))⟩])
        (.gst (.nilC 6 2 5)
        (.gst (.nilC 6 3 2)
        (.keep [2, 3, 5, 6, 26, 27, 28]
        (.seq (.reg none [⟨some 32, none, .q (.fa 0 (.t 5))⟩, ⟨some 33, none, .q (.ld none (.t 32))⟩, ⟨some 34, none, .q (.fa 0 (.t 6))⟩, ⟨none, none, .m (.st 1 (.t 34) (.t 33))⟩])
        (.keep [2, 3, 5, 6, 26, 27, 28]
        (.seq (.reg none [⟨some 35, none, .q (.fa 1 (.t 5))⟩, ⟨some 36, none, .q (.ld none (.t 35))⟩, ⟨some 37, none, .q (.fa 1 (.t 6))⟩, ⟨none, none, .m (.st 1 (.t 37) (.t 36))⟩])
        (.keep [2, 3, 5, 6, 26, 27, 28]
        (.seq (.reg none [⟨some 38, none, .q (.fa 2 (.t 6))⟩, ⟨some 39, none, .q (.ld none (.t 38))⟩, ⟨some 40, none, .q (.fa 2 (.t 5))⟩, ⟨some 41, none, .q (.ld none (.t 40))⟩, ⟨some 42, none, .m (.app 5 40 (.t 39) (.t 41))⟩, ⟨some 43, none, .q (.fa 2 (.t 6))⟩, ⟨none, none, .m (.st 1 (.t 43) (.t 42))⟩])
        (.keep [2, 3, 5, 6, 26, 27, 28]
        (.seq (.seq (.reg none [⟨some 44, none, .q (.fa 3 (.t 5))⟩, ⟨some 45, none, .q (.ld none (.t 44))⟩, ⟨some 46, none, .q (.len false (.t 45))⟩, ⟨some 47, none, .q (.mv (.c (.i .i64 0)))⟩])
          (.keep [2, 3, 6, 26, 27, 28, 45, 46, 47]
          (.blk 2 (.keep [2, 3, 6, 26, 27, 28, 45, 46, 47]
          (.loop (.fin [2, 3, 6, 26, 27, 28, 45, 46, 47]
            (.seq (.reg none [⟨some 48, none, .q (.bin .lss (.t 47) (.t 46))⟩])
            (.keep [2, 3, 6, 26, 27, 28, 45, 46, 47, 48]
            (.seq (.cond (.t 48) .skip
              (.exit 2))
            (.seq (.blk 3 (.seq (.reg none [⟨some 49, none, .q (.ias 2 (.t 45) (.t 47))⟩, ⟨some 50, none, .q (.ld (some 2) (.t 49))⟩, ⟨some 8, none, .m (.alloc (.g [.nil, (.i .i64 0)]))⟩, ⟨none, none, .m (.st 2 (.t 8) (.t 50))⟩])
              (.keep [2, 3, 6, 8, 26, 27, 28, 45, 46, 47]
              (.seq (.reg none [⟨some 9, none, .m (.alloc (.g [.nil, (.i .i64 0)]))⟩])
              (.gst (.nilC 9 0 4)
              (.keep [2, 3, 6, 8, 9, 26, 27, 28, 45, 46, 47]
              (.seq (.reg none [⟨some 51, none, .q (.fa 1 (.t 8))⟩, ⟨some 52, none, .q (.ld none (.t 51))⟩, ⟨some 53, none, .q (.fa 1 (.t 9))⟩, ⟨none, none, .m (.st 1 (.t 53) (.t 52))⟩])
              (.keep [2, 3, 6, 8, 9, 26, 27, 28, 45, 46, 47]
              (.seq (.reg none [⟨some 54, none, .q (.fa 0 (.t 9))⟩, ⟨some 55, none, .q (.ld none (.t 54))⟩, ⟨some 56, none, .q (.fa 0 (.t 8))⟩, ⟨some 57, none, .q (.ld none (.t 56))⟩, ⟨some 58, none, .m (.app 4 32 (.t 55) (.t 57))⟩, ⟨some 59, none, .q (.fa 0 (.t 9))⟩, ⟨none, none, .m (.st 1 (.t 59) (.t 58))⟩])
              (.keep [2, 3, 6, 9, 26, 27, 28, 45, 46, 47]
              (.reg none [⟨some 60, none, .q (.fa 3 (.t 6))⟩, ⟨some 61, none, .q (.ld none (.t 60))⟩, ⟨some 62, none, .q (.ld (some 2) (.t 9))⟩, ⟨some 63, none, .m (.bsl 1 2 [.nil, (.i .i64 0)] [(0, 2, .t 62)])⟩, ⟨some 64, none, .m (.app 2 32 (.t 61) (.t 63))⟩, ⟨some 65, none, .q (.fa 3 (.t 6))⟩, ⟨none, none, .m (.st 1 (.t 65) (.t 64))⟩])))))))))))
            (.keep [2, 3, 6, 26, 27, 28, 45, 46, 47]
            (.reg none [⟨some 66, none, .q (.bin .add (.t 47) (.c (.i .i64 1)))⟩, ⟨some 47, none, .q (.mv (.t 66))⟩]))))))))))))
        (.reg none [⟨some 67, none, .q (.fa 3 (.t 3))⟩, ⟨some 68, none, .q (.ld none (.t 67))⟩, ⟨some 69, none, .q (.ld (some 4) (.t 6))⟩, ⟨some 70, none, .m (.bsl 1 4 [(.i .i64 0), (.i .i64 0), .nil, .nil] [(0, 4, .t 69)])⟩, ⟨some 71, none, .m (.app 4 64 (.t 68) (.t 70))⟩, ⟨some 72, none, .q (.fa 3 (.t 3))⟩, ⟨none, none, .m (.st 1 (.t 72) (.t 71))⟩])))))))))))))))
      (.keep [2, 3, 26, 27, 28]
      (.reg none [⟨some 73, none, .q (.bin .add (.t 28) (.c (.i .i64 1)))⟩, ⟨some 28, none, .q (.mv (.t 73))⟩]))))))))))))
  (.seq (.reg none [⟨some 74, none, .q (.ld (some 4) (.t 3))⟩, ⟨none, none, .m (.st 4 (.t 2) (.t 74))⟩])
  .ret)))))))))))))))
theorem r10 : (Try.f10.body.bind (resC Try.prog Try.f10.ntmps)) = some (strip c10) := by kernel_rfl
theorem s10 : Try.f10.results.toList.mapM (resRes Try.prog) = some [.c 2 (some 4)] := by kernel_rfl
abbrev Get := Nat → Option AObj
def OwnSel (g : Get) (row : List RV) (s : Select) : Prop := ∃ o v, row = [.os o v, .v (.i .i64 s.els)] ∧ g o = some (.arr v 4 (vrows (s.cases.map Case.row)))
def OwnSels (g : Get) (rows : List (List RV)) (l : List Select) : Prop := rows.length = l.length ∧ ∀ (k : Nat) row s, rows[k]? = some row → l[k]? = some s → OwnSel g row s
def OwnFn (g : Get) (row : List RV) (f : Func) : Prop := ∃ o v o2 v2 rows, row = [.v (.i .i64 f.params), .v (.i .i64 f.regs), .os o v, .os o2 v2] ∧ g o = some (.arr v 5 (vrows (f.code.map Instr.row))) ∧ g o2 = some (.arr v2 2 rows) ∧ OwnSels g rows f.selects
def OwnFns (g : Get) (rows : List (List RV)) (l : List Func) : Prop := rows.length = l.length ∧ ∀ (k : Nat) row f, rows[k]? = some row → l[k]? = some f → OwnFn g row f
/-- The list that a function's code is. -/
def codeOf : List RV → Nat
  | [_, _, .os o _, _] => o
  | _ => 0
def Sub (g g' : Get) : Prop := ∀ o ob, g o = some ob → g' o = some ob
theorem OwnSel.sub {g g' : Get} (h : Sub g g') {row s} (o : OwnSel g row s) : OwnSel g' row s := by
  obtain ⟨a, v, h1, h2⟩ := o; exact ⟨a, v, h1, h _ _ h2⟩
theorem OwnSels.sub {g g' : Get} (h : Sub g g') {row s} (o : OwnSels g row s) : OwnSels g' row s := ⟨o.1, fun k a b h1 h2 => (o.2 k a b h1 h2).sub h⟩
theorem OwnFn.sub {g g' : Get} (h : Sub g g') {row s} (o : OwnFn g row s) : OwnFn g' row s := by
  obtain ⟨a, v, b, w, rows, h1, h2, h3, h4⟩ := o; exact ⟨a, v, b, w, rows, h1, h _ _ h2, h _ _ h3, h4.sub h⟩
theorem OwnFns.sub {g g' : Get} (h : Sub g g') {row s} (o : OwnFns g row s) : OwnFns g' row s := ⟨o.1, fun k a b h1 h2 => (o.2 k a b h1 h2).sub h⟩
theorem get_snoc {α β : Type} {R : α → β → Prop} {rows : List α} {l : List β} {n : Nat} (hn : n < l.length) (h : rows.length = (l.take n).length ∧ ∀ (k : Nat) row f, rows[k]? = some row → (l.take n)[k]? = some f → R row f) {row : α} (hr : R row l[n]) : (rows ++ [row]).length = (l.take (n + 1)).length ∧ ∀ (k : Nat) row' f, (rows ++ [row])[k]? = some row' → (l.take (n + 1))[k]? = some f → R row' f := by
  have h0 : rows.length = n := by rw [h.1, List.length_take]; omega
  refine ⟨by simp; omega, fun k row' f h1 h2 => ?_⟩
  rw [List.take_add_one, List.getElem?_eq_getElem hn] at h2
  by_cases hk : k < n
  · rw [List.getElem?_append_left (by omega)] at h1
    rw [List.getElem?_append_left (by simp; omega)] at h2
    exact h.2 k row' f h1 h2
  · have hkn : k = n := by
      have := (List.getElem?_eq_some_iff.1 h1).1
      simp at this; omega
    subst hkn
    rw [List.getElem?_append_right (by omega)] at h1
    rw [List.getElem?_append_right (by simp; omega)] at h2
    have e1 : k - rows.length = 0 := by omega
    have e2 : k - (List.take k l).length = 0 := by simp; omega
    rw [e1] at h1; rw [e2] at h2
    simp at h1 h2
    subst h1; subst h2; exact hr
/-- What lies behind the first n objects. -/
def beyond (n : Nat) (K : List AObj) : Get := fun o => if o < n then none else K[o - n]?
theorem beyond_sub (n : Nat) (K L : List AObj) : Sub (beyond n K) (beyond n (K ++ L)) := by
  intro o ob h
  unfold beyond at h ⊢
  split at h
  · cases h
  · rename_i h1
    rw [if_neg h1, List.getElem?_append_left (List.getElem?_eq_some_iff.1 h).1]; exact h
theorem beyond_lift (n m : Nat) (K : List AObj) (A : List AObj) (hm : n + A.length = m) (L : List AObj) : Sub (beyond m L) (beyond n (A ++ L)) := by
  intro o ob h
  unfold beyond at h ⊢
  split at h
  · cases h
  · rename_i h1
    rw [if_neg (by omega), List.getElem?_append_right (by omega)]
    rw [← h]; congr 1; omega
def OwnProg (H : List AObj) (r : RV) (p : Prog) : Prop := ∃ a va b vb c vc rows, r = .gr [.os a va, .v (.i .i64 p.locks), .os b vb, .os c vc] ∧ H[a]? = some (.arr va 2 (vrows (p.vars.map Var.row))) ∧ H[b]? = some (.arr vb 1 (vrows (p.chans.map irow))) ∧ H[c]? = some (.arr vc 4 rows) ∧ OwnFns (fun o => H[o]?) rows p.funcs ∧ (rows.map codeOf).Pairwise (· < ·)
/-- What lies at n and behind. -/
def above (n : Nat) (H : List AObj) : Get := fun o => if o < n then none else H[o]?
/-- The same, and the three lists are none of the others. -/
def OwnP2 (H : List AObj) (r : RV) (p : Prog) : Prop := ∃ n a va b vb c vc rows, r = .gr [.os a va, .v (.i .i64 p.locks), .os b vb, .os c vc] ∧ (a < n ∧ b < n ∧ c < n) ∧ H[a]? = some (.arr va 2 (vrows (p.vars.map Var.row))) ∧ H[b]? = some (.arr vb 1 (vrows (p.chans.map irow))) ∧ H[c]? = some (.arr vc 4 rows) ∧ OwnFns (above n H) rows p.funcs ∧ (rows.map codeOf).Pairwise (· < ·)
theorem OwnP2.one {H : List AObj} {r : RV} {p : Prog} (h : OwnP2 H r p) : OwnProg H r p := by
  obtain ⟨n, a, va, b, vb, c, vc, rows, h0, _, h1, h2, h3, h4, h5⟩ := h
  refine ⟨a, va, b, vb, c, vc, rows, h0, h1, h2, h3, h4.sub (fun o ob h => ?_), h5⟩
  unfold above at h
  split at h
  · cases h
  · exact h
def Rise (rows : List (List RV)) (n : Nat) : Prop := (rows.map codeOf).Pairwise (· < ·) ∧ ∀ row ∈ rows, codeOf row < n
theorem Rise.snoc {rows : List (List RV)} {n m : Nat} {row : List RV} (h : Rise rows n) (h1 : n ≤ codeOf row) (h2 : codeOf row < m) : Rise (rows ++ [row]) m := by
  refine ⟨?_, fun r hr => ?_⟩
  · rw [List.map_append, List.pairwise_append]
    refine ⟨h.1, by simp, fun x hx y hy => ?_⟩
    obtain ⟨r, hr, rfl⟩ := List.mem_map.1 hx
    simp at hy; subst hy
    have := h.2 r hr; omega
  · rcases List.mem_append.1 hr with hr | hr
    · have := h.2 r hr; omega
    · simp at hr; subst hr; exact h2
theorem beyond_all (n : Nat) (A K : List AObj) (hn : A.length = n) : Sub (beyond n K) (fun o => (A ++ K)[o]?) := by
  intro o ob h
  unfold beyond at h
  split at h
  · cases h
  · simp only
    rw [List.getElem?_append_right (by omega), hn]; exact h
theorem beyond_above (n : Nat) (A K : List AObj) (hn : A.length = n) : Sub (beyond n K) (above n (A ++ K)) := by
  intro o ob h
  have h1 := beyond_all n A K hn o ob h
  unfold beyond at h
  split at h
  · cases h
  · rename_i hno
    unfold above; rw [if_neg hno]; exact h1
theorem beyond_at {n o : Nat} {K : List AObj} {ob : AObj} (h1 : n ≤ o) (h2 : K[o - n]? = some ob) : beyond n K o = some ob := by
  unfold beyond; rw [if_neg (by omega)]; exact h2
theorem plain_own2 (p : Prog) (hp : p.Ok) : CallS Try.prog 10 [.v (.g p.row)] [] fun r K => OwnP2 K r p := by
  refine fun_go hmx Try.func10 r10 s10 (by rw [Try.ntmps10]; simp) ?_
  unfold c10
  simp [Prog.row]
  refine ⟨⟨by have := hp.fewv; unfold Few at this; omega, by have := hp.fewv.lt (by decide); omega⟩, ⟨by have := hp.fewc; unfold Few at this; omega, by have := hp.fewc.lt (by decide); omega⟩, ?_⟩
  refine go_count hmx 28 0 p.funcs.length (fun i h => ∃ ver rows K, h = AObj.var (p.row.map .v) :: AObj.var [.v .nil, .v (.i .i64 0), .v .nil, .v .nil] :: AObj.var [.os 3 1, .v (.i .i64 p.locks), .os 4 1, .os 5 ver] :: AObj.arr 1 2 (vrows (p.vars.map Var.row)) :: AObj.arr 1 1 (vrows (p.chans.map irow)) :: AObj.arr ver 4 rows :: K ∧ OwnFns (beyond 6 K) rows (p.funcs.take i) ∧ Rise rows (6 + K.length)) (Nat.zero_le _) (hp.fewf.lt (by decide)) rfl ⟨0, [], [], by simp [Prog.row], by simp [OwnFns], by simp [Rise]⟩ ?_ ?_
  · rintro i hp' - hlt ⟨ver, rows, K, rfl, hO, hR⟩ hw
    have hok := hp.funcs p.funcs[i] (List.getElem_mem hlt)
    generalize hx' : p.funcs[i] = f at *
    simp [hlt, hx', hw, Func.row, Prog.row]
    refine ⟨⟨by have := hok.few; unfold Few at this; omega, by have := hok.few.lt (by decide); omega⟩, ?_⟩
    refine go_count hmx 47 0 f.selects.length (fun j h => ∃ w srows K2, h = AObj.var (p.row.map .v) :: AObj.var [.v .nil, .v (.i .i64 0), .v .nil, .v .nil] :: AObj.var [.os 3 1, .v (.i .i64 p.locks), .os 4 1, .os 5 ver] :: AObj.arr 1 2 (vrows (p.vars.map Var.row)) :: AObj.arr 1 1 (vrows (p.chans.map irow)) :: AObj.arr ver 4 rows ::
      (K ++ (AObj.var (f.row.map .v) :: AObj.var [.v (.i .i64 f.params), .v (.i .i64 f.regs), .os (K.length + 2 + 1 + 1 + 1 + 1 + 1 + 1) 1, .os (K.length + 3 + 1 + 1 + 1 + 1 + 1 + 1) w] :: AObj.arr 1 5 (vrows (f.code.map Instr.row)) :: AObj.arr w 2 srows :: K2)) ∧ OwnSels (beyond (K.length + 10) K2) srows (f.selects.take j)) (Nat.zero_le _) (hok.fews.lt (by decide)) rfl ⟨0, [], [], by simp [Prog.row, Func.row], by simp [OwnSels]⟩ ?_ ?_
    · rintro j hp'' - hlt2 ⟨w, srows, K2, rfl, hS⟩ hw2
      have hok2 := hok.sel f.selects[j] (List.getElem_mem hlt2)
      generalize hx2 : f.selects[j] = s at *
      simp [hlt2, hx2, hw2, Select.row, Func.row, Prog.row]
      have q1 := hok2.few
      have q2 := hok.fews
      unfold Few at q1 q2
      have q3 : srows.length = j := by rw [hS.1, List.length_take]; omega
      refine ⟨by omega, by omega, _, _, _, ⟨rfl, ⟨rfl, rfl⟩, rfl⟩, ?_⟩
      refine get_snoc (R := OwnSel _) hlt2 (OwnSels.sub (beyond_sub _ _ _) hS) ?_
      rw [hx2]
      refine ⟨_, 1, rfl, beyond_at (by omega) ?_⟩
      rw [List.getElem?_append_right (by omega)]
      rw [show K.length + (K2.length + 2 + 1 + 1 + 1 + 1) + 1 + 1 + 1 + 1 + 1 + 1 - (K.length + 10) - K2.length = 2 by omega]
      rfl
    rintro hp'' ⟨w, srows, K2, rfl, hS⟩
    simp [Func.row, Prog.row]
    have q2 := hp.fewf
    unfold Few at q2
    have q3 : rows.length = i := by rw [hO.1, List.length_take]; omega
    rw [List.take_length] at hS
    refine ⟨by omega, hw, _, _, _, ⟨rfl, ⟨rfl, rfl⟩, rfl⟩, ?_, ?_⟩
    · refine get_snoc (R := OwnFn _) hlt (OwnFns.sub (beyond_sub _ _ _) hO) ?_
      rw [hx']
      refine ⟨_, 1, _, w, srows, rfl, beyond_at (by omega) ?_, beyond_at (by omega) ?_, hS.sub ?_⟩
      · rw [List.getElem?_append_right (by omega)]
        rw [show K.length + 2 + 1 + 1 + 1 + 1 + 1 + 1 - 6 - K.length = 2 by omega]
        rfl
      · rw [List.getElem?_append_right (by omega)]
        rw [show K.length + 3 + 1 + 1 + 1 + 1 + 1 + 1 - 6 - K.length = 3 by omega]
        rfl
      · intro o ob ho
        have h1 := beyond_sub _ _ [AObj.arr 0 4 [[RV.v (AV.i .i64 f.params), RV.v (AV.i .i64 f.regs), RV.os (K.length + 2 + 1 + 1 + 1 + 1 + 1 + 1) 1, RV.os (K.length + 3 + 1 + 1 + 1 + 1 + 1 + 1) w]]] o ob ho
        unfold beyond at h1 ⊢
        split at h1
        · cases h1
        · rename_i hno
          rw [if_neg (by omega), List.getElem?_append_right (by omega)]
          rw [show o - 6 - K.length = o - (K.length + 10) + 1 + 1 + 1 + 1 by omega]
          exact h1
    · exact hR.snoc (by simp [codeOf]; omega) (by simp [codeOf]; omega)
  rintro hp' ⟨ver, rows, K, rfl, hO, hR⟩
  simp
  rw [List.take_length] at hO
  refine ⟨6, 3, 1, 4, 1, 5, ver, rows, rfl, ⟨by omega, by omega, by omega⟩, rfl, rfl, rfl, hO.sub ?_, hR.1⟩
  exact beyond_above 6 [AObj.var (p.row.map .v), _, _, _, _, _] K rfl
theorem plain_own (p : Prog) (hp : p.Ok) : CallS Try.prog 10 [.v (.g p.row)] [] fun r K => OwnProg K r p := (plain_own2 p hp).mono fun _ _ h => h.one
end Go.Sc.Sp
