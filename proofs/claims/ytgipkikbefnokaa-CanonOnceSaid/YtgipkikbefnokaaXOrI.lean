/- Chapter 12: pairs in order, sorts. No condition. -/
import Derived.Test.YtgipkikbefnokaaXOrG
import Derived.Test.YtgipkikbefnokaaXOrS
import Derived.Test.YtgipkikbefnokaaXAv23
set_option linter.constructorNameAsVariable false
namespace Go.Sc.Or
open Go Go.RowKit Go.Av Go.Proofs Go.Sc Go.Shelf Go.Sort
set_option linter.unusedSimpArgs false
set_option linter.unusedVariables false
def c124 : ACode :=
  (.seq (.reg none [⟨some 2, none, .q (.mv (.c (.b false)))⟩])
  (.keep [0]
  (.seq (.reg none [⟨some 3, none, .q (.mv (.t 0))⟩, ⟨some 4, none, .q (.mv (.t 0))⟩, ⟨some 5, none, .q (.bin .neq (.t 3) (.t 4))⟩, ⟨some 2, none, .q (.mv (.t 5))⟩])
  .ret)))
theorem r124 : (Try.f124.body.bind (resC Try.prog Try.f124.ntmps)) = some (strip c124) := by kernel_rfl
theorem s124 : Try.f124.results.toList.mapM (resRes Try.prog) = some [.t 2] := by kernel_rfl
def c100 : ACode :=
  (.seq (.reg none [⟨some 4, none, .q (.mv (.c (.i .i64 0)))⟩])
  (.keep [0, 1]
  (.seq (.reg none [⟨some 7, none, .q (.mv (.t 0))⟩, ⟨some 8, none, .call (.f 124) [(.t 7)]⟩, ⟨some 5, none, .q (.mv (.t 8))⟩])
  (.keep [0, 1, 5]
  (.seq (.reg none [⟨some 9, none, .q (.mv (.t 1))⟩, ⟨some 10, none, .call (.f 124) [(.t 9)]⟩, ⟨some 6, none, .q (.mv (.t 10))⟩])
  (.keep [0, 1, 5, 6]
  (.seq (.seq (.reg none [⟨some 11, none, .q (.mv (.t 5))⟩])
    (.keep [0, 1, 6, 11]
    (.cond (.t 11) (.seq (.seq (.reg none [⟨some 12, none, .q (.mv (.t 6))⟩])
        (.keep [12]
        (.cond (.t 12) (.seq (.reg none [⟨some 4, none, .q (.mv (.c (.i .i64 0)))⟩])
          .ret)
        .skip)))
      (.seq (.reg none [⟨some 4, none, .q (.mv (.c (.i .i64 (-1))))⟩])
      .ret))
    .skip)))
  (.seq (.seq (.reg none [⟨some 13, none, .q (.mv (.t 6))⟩])
    (.keep [0, 1, 13]
    (.cond (.t 13) (.seq (.reg none [⟨some 4, none, .q (.mv (.c (.i .i64 1)))⟩])
      .ret)
    .skip)))
  (.seq (.seq (.reg none [⟨some 14, none, .q (.mv (.t 0))⟩, ⟨some 15, none, .q (.mv (.t 1))⟩, ⟨some 16, none, .q (.bin .lss (.t 14) (.t 15))⟩])
    (.keep [0, 1, 16]
    (.cond (.t 16) (.seq (.reg none [⟨some 4, none, .q (.mv (.c (.i .i64 (-1))))⟩])
      .ret)
    .skip)))
  (.seq (.seq (.reg none [⟨some 17, none, .q (.mv (.t 0))⟩, ⟨some 18, none, .q (.mv (.t 1))⟩, ⟨some 19, none, .q (.bin .gtr (.t 17) (.t 18))⟩])
    (.keep [19]
    (.cond (.t 19) (.seq (.reg none [⟨some 4, none, .q (.mv (.c (.i .i64 1)))⟩])
      .ret)
    .skip)))
  (.seq (.reg none [⟨some 4, none, .q (.mv (.c (.i .i64 0)))⟩])
  .ret)))))))))))
theorem r100 : (Try.f100.body.bind (resC Try.prog Try.f100.ntmps)) = some (strip c100) := by kernel_rfl
theorem s100 : Try.f100.results.toList.mapM (resRes Try.prog) = some [.t 4] := by kernel_rfl
def c67 : ACode :=
  (.seq (.reg none [⟨some 4, none, .q (.mv (.c (.i .i64 0)))⟩])
  (.keep [0, 1]
  (.seq (.seq (.reg none [⟨some 9, none, .q (.mv (.t 0))⟩, ⟨some 10, none, .q (.len false (.t 9))⟩, ⟨some 11, none, .q (.mv (.c (.i .i64 0)))⟩])
    (.keep [0, 1, 9, 10, 11]
    (.blk 0 (.keep [0, 1, 9, 10, 11]
    (.loop (.fin [0, 1, 9, 10, 11]
      (.seq (.reg none [⟨some 12, none, .q (.bin .lss (.t 11) (.t 10))⟩])
      (.keep [0, 1, 9, 10, 11, 12]
      (.seq (.cond (.t 12) .skip
        (.exit 0))
      (.seq (.blk 1 (.seq (.reg none [⟨some 13, none, .q (.mv (.t 11))⟩, ⟨some 14, none, .q (.ias 1 (.t 9) (.t 11))⟩, ⟨some 15, none, .q (.ld none (.t 14))⟩, ⟨some 5, none, .q (.mv (.t 13))⟩, ⟨some 6, none, .q (.mv (.t 15))⟩])
        (.keep [0, 1, 5, 6, 9, 10, 11]
        (.seq (.seq (.reg none [⟨some 16, none, .q (.mv (.t 5))⟩, ⟨some 17, none, .q (.mv (.t 1))⟩, ⟨some 18, none, .q (.len false (.t 17))⟩, ⟨some 19, none, .q (.bin .geq (.t 16) (.t 18))⟩])
          (.keep [0, 1, 5, 6, 9, 10, 11, 19]
          (.cond (.t 19) (.seq (.reg none [⟨some 4, none, .q (.mv (.c (.i .i64 1)))⟩])
            .ret)
          .skip)))
        (.seq (.reg none [⟨some 20, none, .q (.mv (.t 1))⟩, ⟨some 21, none, .q (.mv (.t 5))⟩, ⟨some 22, none, .q (.ias 1 (.t 20) (.t 21))⟩, ⟨some 23, none, .q (.ld none (.t 22))⟩, ⟨some 7, none, .q (.mv (.t 23))⟩])
        (.keep [0, 1, 6, 7, 9, 10, 11]
        (.seq (.reg none [⟨some 24, none, .q (.mv (.t 6))⟩, ⟨some 25, none, .q (.mv (.t 7))⟩, ⟨some 26, none, .call (.f 100) [(.t 24), (.t 25)]⟩, ⟨some 8, none, .q (.mv (.t 26))⟩])
        (.keep [0, 1, 8, 9, 10, 11]
        (.seq (.reg none [⟨some 27, none, .q (.mv (.t 8))⟩, ⟨some 28, none, .q (.bin .neq (.t 27) (.c (.i .i64 0)))⟩])
        (.keep [0, 1, 8, 9, 10, 11, 28]
        (.cond (.t 28) (.seq (.reg none [⟨some 29, none, .q (.mv (.t 8))⟩, ⟨some 4, none, .q (.mv (.t 29))⟩])
          .ret)
        .skip)))))))))))
      (.keep [0, 1, 9, 10, 11]
      (.reg none [⟨some 30, none, .q (.bin .add (.t 11) (.c (.i .i64 1)))⟩, ⟨some 11, none, .q (.mv (.t 30))⟩]))))))))))))
  (.seq (.seq (.reg none [⟨some 31, none, .q (.mv (.t 0))⟩, ⟨some 32, none, .q (.len false (.t 31))⟩, ⟨some 33, none, .q (.mv (.t 1))⟩, ⟨some 34, none, .q (.len false (.t 33))⟩, ⟨some 35, none, .q (.bin .lss (.t 32) (.t 34))⟩])
    (.keep [35]
    (.cond (.t 35) (.seq (.reg none [⟨some 4, none, .q (.mv (.c (.i .i64 (-1))))⟩])
      .ret)
    .skip)))
  (.seq (.reg none [⟨some 4, none, .q (.mv (.c (.i .i64 0)))⟩])
  .ret)))))
theorem r67 : (Try.f67.body.bind (resC Try.prog Try.f67.ntmps)) = some (strip c67) := by kernel_rfl
theorem s67 : Try.f67.results.toList.mapM (resRes Try.prog) = some [.t 4] := by kernel_rfl
def cmp1 (a b : Int) : Int := if a < b then -1 else if b < a then 1 else 0
def cmp2 (p q : Int × Int) : Int := if cmp1 p.1 q.1 = 0 then cmp1 p.2 q.2 else cmp1 p.1 q.1
def prow (p : Int × Int) : List AV := [.i .i64 p.1, .i .i64 p.2]
theorem nan_p (x : Int) : PureS Try.prog 124 [.i .i64 x] (.b false) := by
  refine fun_go hmx Try.func124 r124 s124 (by rw [Try.ntmps124]; simp) ?_
  unfold c124
  simp
theorem cmpare_p (x y : Int) : PureS Try.prog 100 [.i .i64 x, .i .i64 y] (.i .i64 (cmp1 x y)) := by
  refine fun_go hmx Try.func100 r100 s100 (by rw [Try.ntmps100]; simp) ?_
  unfold c100
  simp
  first
    | refine callk rfl Try.call124 (nan_p x) rfl ?_
    | refine callks rfl Try.call124 (nan_p x) rfl ?_
    | refine callq rfl Try.call124 (nan_p x) rfl ?_
    | refine callqe rfl Try.call124 (nan_p x) rfl ?_
  simp
  first
    | refine callk rfl Try.call124 (nan_p y) rfl ?_
    | refine callks rfl Try.call124 (nan_p y) rfl ?_
    | refine callq rfl Try.call124 (nan_p y) rfl ?_
    | refine callqe rfl Try.call124 (nan_p y) rfl ?_
  simp
  unfold cmp1
  refine ⟨fun h => by rw [if_pos h], fun h => ⟨fun h2 => by rw [if_neg (by omega), if_pos h2], fun h2 => by rw [if_neg (by omega), if_neg (by omega)]⟩⟩
theorem compare2_p (p q : Int × Int) : PureS Try.prog 67 [.sl 1 [[.i .i64 p.1], [.i .i64 p.2]], .sl 1 [[.i .i64 q.1], [.i .i64 q.2]]] (.i .i64 (cmp2 p q)) := by
  refine fun_go hmx Try.func67 r67 s67 (by rw [Try.ntmps67]; simp) ?_
  unfold c67
  simp
  refine go_unroll hmx 3 ?_
  rw [goU_succ]
  simp
  first
    | refine callk rfl Try.call100 (cmpare_p _ _) rfl ?_
    | refine callks rfl Try.call100 (cmpare_p _ _) rfl ?_
    | refine callq rfl Try.call100 (cmpare_p _ _) rfl ?_
    | refine callqe rfl Try.call100 (cmpare_p _ _) rfl ?_
  simp
  unfold cmp2
  refine ⟨fun h => ?_, fun h => ?_⟩
  · rw [if_neg h]
  · rw [if_pos h]
    rw [goU_succ]
    simp
    first
      | refine callk rfl Try.call100 (cmpare_p _ _) rfl ?_
      | refine callks rfl Try.call100 (cmpare_p _ _) rfl ?_
      | refine callq rfl Try.call100 (cmpare_p _ _) rfl ?_
      | refine callqe rfl Try.call100 (cmpare_p _ _) rfl ?_
    simp
    intro h2
    rw [goU_succ]
    simp
    exact h2.symm
def penc (p : Int × Int) : List Value := [.int .i64 p.1, .int .i64 p.2]
theorem pair_enc : RowEnc prow penc 2 := ⟨fun _ => rfl, fun _ => rfl, fun x j a v h1 h2 => by
  rcases j with _ | _ | j
  · simp [prow, penc] at h1 h2; subst h1; subst h2; exact detV_i _ _
  · simp [prow, penc] at h1 h2; subst h1; subst h2; exact detV_i _ _
  · simp [prow] at h1, fun x v hv => by simp [penc] at hv; rcases hv with rfl | rfl <;> rfl⟩
theorem vi_pair {w : World} {Im : Nat → Prop} {b : Nat} (hb : Im b) (p : Int × Int) (hc : ∀ j, w.cell? ⟨b, j, none⟩ = (penc p).toArray[j]?) : VI w Im (.sl 1 [[.i .i64 p.1], [.i .i64 p.2]]) (.slice (some ⟨b, 0, none⟩) 2 2) := by
  have key : ∀ (r : Nat) row (j : Nat) x, ([[AV.i .i64 p.1], [.i .i64 p.2]] : List (List AV))[r]? = some row → row[j]? = some x → (r = 0 ∧ j = 0 ∧ x = .i .i64 p.1) ∨ (r = 1 ∧ j = 0 ∧ x = .i .i64 p.2) := fun r row j x hr hx => by
    rcases r with _ | _ | r
    · simp at hr; subst hr
      rcases j with _ | j
      · simp at hx; exact .inl ⟨rfl, rfl, hx.symm⟩
      · simp at hx
    · simp at hr; subst hr
      rcases j with _ | j
      · simp at hx; exact .inr ⟨rfl, rfl, hx.symm⟩
      · simp at hx
    · simp at hr
  refine .sl 1 _ b 0 2 (fun r j => (penc p).getD r undef) hb (by simp) (by simp) (fun r row j x hr hx => ?_) (fun r row j x hr hx => ?_)
  · rcases key r row j x hr hx with ⟨rfl, rfl, rfl⟩ | ⟨rfl, rfl, rfl⟩
    · rw [hc]; exact ⟨rfl, rfl⟩
    · rw [hc]; exact ⟨rfl, rfl⟩
  · rcases key r row j x hr hx with ⟨rfl, rfl, rfl⟩ | ⟨rfl, rfl, rfl⟩
    · exact .i _ _
    · exact .i _ _
theorem closure_w (x y : Int × Int) (w : World) : Calls Try.prog 66 #[.agg (penc x).toArray, .agg (penc y).toArray] w fun e w' => e = .returned (.int .i64 (cmp2 x y)) ∧ ∃ q os, w' = grow (w.drewN q) os := by
  have mixed := hmx
  have c1 : ∀ j, ((w.alloc (Obj.cells (penc x).toArray 36)).alloc (Obj.cells (penc y).toArray 36)).cell? ⟨w.heap.size, j, none⟩ = (penc x).toArray[j]? := fun j => by
    rw [World.cell?_alloc_lt _ _ _ (by simp)]; simp
  have c2 : ∀ j, ((w.alloc (Obj.cells (penc x).toArray 36)).alloc (Obj.cells (penc y).toArray 36)).cell? ⟨w.heap.size + 1, j, none⟩ = (penc y).toArray[j]? := fun j => by
    simp
  have hW : (w.alloc (Obj.cells (penc x).toArray 36)).alloc (Obj.cells (penc y).toArray 36) = grow w #[Obj.cells (penc x).toArray 36, Obj.cells (penc y).toArray 36] := by
    rw [alloc_eq_grow, alloc_eq_grow, grow_grow]; rfl
  have hcon : ∀ n os, Calls Try.prog 67 #[.slice (some ⟨w.heap.size, 0, none⟩) 2 2, .slice (some ⟨w.heap.size + 1, 0, none⟩) 2 2] (grow (((w.alloc (Obj.cells (penc x).toArray 36)).alloc (Obj.cells (penc y).toArray 36)).drewN n) os) fun e w' => e = .returned (.int .i64 (cmp2 x y)) ∧ ∃ q os', w' = grow ((grow (((w.alloc (Obj.cells (penc x).toArray 36)).alloc (Obj.cells (penc y).toArray 36)).drewN n) os).drewN q) os' := fun n os => by
    refine (compare2_p x y).grows _ (fun b => b = w.heap.size ∨ b = w.heap.size + 1) (by rintro b (rfl | rfl) <;> simp <;> omega) _ rfl ?_
    intro j a c ha hc
    rcases j with _ | _ | j
    · simp at ha hc; subst ha; subst hc
      exact vi_pair (.inl rfl) x fun j => by rw [cell?_grow _ _ _ (by simp; omega)]; exact c1 j
    · simp at ha hc; subst ha; subst hc
      exact vi_pair (.inr rfl) y fun j => by rw [cell?_grow _ _ _ (by simp)]; exact c2 j
    · simp at ha
  generalize cmp2 x y = r at hcon ⊢
  clear c1 c2
  have HW : Hid _ := hW
  clear hW
  go_enter Try.func66, Try.ntmps66
  go_wp2
  generalize (w.alloc (Obj.cells (penc x).toArray 36)).alloc (Obj.cells (penc y).toArray 36) = W at hcon HW ⊢
  refine wp_region_quiet_grown (by assumption) (by kernel_rfl) ?_
  refine wpQuiet_step (fun K hK => ?_)
  go_simp
  refine hK _ ?_
  clear hK K
  refine wpQuiet_step (fun K hK => ?_)
  go_simp
  refine hK _ ?_
  clear hK K
  refine wpQuiet_step (fun K hK => ?_)
  go_simp
  refine Exists.intro _ ⟨fun _ => Calls.grown_of (hcon _ _), hK _ ?_⟩
  clear hK K
  refine wpQuiet_step (fun K hK => ?_)
  go_simp
  refine hK _ ?_
  clear hK K
  refine wpQuiet_nil ?_
  intro _ hw'
  obtain ⟨⟨nq, osq⟩, hw''⟩ := hw'
  subst hw''
  go_wp2
  go_ret
  refine ⟨rfl, nq, #[Obj.cells (penc x).toArray 36, Obj.cells (penc y).toArray 36] ++ osq, ?_⟩
  rw [HW.out]
  show grow (grow (w.drewN nq) _) osq = _
  rw [grow_grow]
def sortPairs (l : List (Int × Int)) : List (Int × Int) := l.mergeSort fun x y => !(ltOf cmp2) y x
theorem cmp1_lt {a b : Int} : cmp1 a b < 0 ↔ a < b := by unfold cmp1; split; · omega
                                                         · split <;> omega
theorem cmp1_eq {a b : Int} : cmp1 a b = 0 ↔ a = b := by unfold cmp1; split; · omega
                                                         · split <;> omega
theorem cmp2_lt {p q : Int × Int} : ltOf cmp2 p q = true ↔ p.1 < q.1 ∨ p.1 = q.1 ∧ p.2 < q.2 := by
  unfold ltOf cmp2
  rw [decide_eq_true_eq]
  by_cases h : p.1 = q.1
  · rw [if_pos (cmp1_eq.2 h), cmp1_lt]; omega
  · rw [if_neg (fun hc => h (cmp1_eq.1 hc)), cmp1_lt]; omega
theorem cmp2_nlt {p q : Int × Int} : ltOf cmp2 p q = false ↔ q.1 < p.1 ∨ q.1 = p.1 ∧ q.2 ≤ p.2 := by
  rw [Bool.eq_false_iff, Ne, cmp2_lt]; omega
theorem cmp2_swo : SWO (ltOf cmp2) := ⟨fun x => by rw [cmp2_nlt]; omega, fun x y z h1 h2 => by rw [cmp2_lt] at *; omega, fun x y z h1 h2 => by rw [cmp2_nlt] at *; omega⟩
theorem cmp2_tot (x y : Int × Int) (h1 : ltOf cmp2 x y = false) (h2 : ltOf cmp2 y x = false) : x = y := by
  rw [cmp2_nlt] at *
  exact Prod.ext (by omega) (by omega)
theorem sortPairs_p (l : List (Int × Int)) (hl : l.length < 1000000) (v : Nat) : CallS Try.prog 65 [.os 0 v, .v (.fn 66 [])] [.arr v 2 (vrows (l.map prow))] fun r K => r = .v (.tup []) ∧ K = [.arr v 2 (vrows ((sortPairs l).map prow))] := by
  have fnv : ∀ (w : World) (Im : Nat → Prop) c, VI w Im (.fn 66 []) c → c = .func (.func 66) #[] #[] := fun w Im c h => by
    cases h with
    | fn f cs vs hn h => rw [Array.eq_empty_of_size_eq_zero hn]
  refine sort_bridge pair_enc [.fn 66 []] (List.length_mergeSort _) v (fun blk cap e vs g hn hv _ hH hblk h0 => ?_) (fun p cap w vs hn h0 => ?_)
  · obtain ⟨c, hc⟩ := array_get (vs := vs) (j := 0) hn (by simp)
    have hvs : vs = #[.func (.func 66) #[] #[]] := by
      have := fnv _ _ c (hv 0 _ c rfl hc)
      subst this
      apply Array.ext (by simpa using hn)
      intro i h1 h2
      simp at h2
      subst h2
      rw [Array.getElem?_eq_getElem h1] at hc
      exact Option.some.inj hc
    subst hvs
    have := AnyQ.slices_SortFunc_total layP 2 Try.isAgg36 Try.sizeOf36 penc (fun _ => rfl) pair_enc.one cmp2 cmp2_swo 66 #[] blk 0 cap l.toArray e.w Try.call66 (fun m os dk hdk x y => by simpa using closure_w x y _) hH hblk (by simp; omega) cmp2_tot
    simp [sortWorldK] at this
    simp
    exact this
  · subst h0
    obtain ⟨c, hc⟩ := array_get (vs := vs) (j := 0) hn (by simp)
    have hvs : vs = #[c] := by
      apply Array.ext (by simpa using hn)
      intro i h1 h2
      simp at h2
      subst h2
      rw [Array.getElem?_eq_getElem h1] at hc
      exact Option.some.inj hc
    subst hvs
    exact AnyF.slices_SortFunc_none layP p cap c w
end Go.Sc.Or
/- Chapter 12: Edges. No condition. -/
set_option linter.constructorNameAsVariable false
namespace Go.Sc.Or
open Go Go.RowKit Go.Av Go.Proofs Go.Sc
set_option linter.unusedSimpArgs false
set_option linter.unusedVariables false
def c63 : ACode :=
  (.seq (.reg none [⟨some 4, none, .q (.mv (.c (.b false)))⟩])
  (.keep [0, 1, 2]
  (.seq (.reg none [⟨some 5, none, .q (.ld (some 2) (.t 1))⟩, ⟨some 6, none, .q (.ld none (.t 2))⟩, ⟨some 7, none, .q (.mv (.t 0))⟩, ⟨some 8, none, .call (.f 64) [(.t 5), (.t 6), (.t 7)]⟩, ⟨some 4, none, .q (.mv (.t 8))⟩])
  .ret)))
theorem r63 : (Try.f63.body.bind (resC Try.prog Try.f63.ntmps)) = some (strip c63) := by kernel_rfl
theorem s63 : Try.f63.results.toList.mapM (resRes Try.prog) = some [.t 4] := by kernel_rfl
def c97 : ACode :=
  (.seq (.reg none [⟨some 4, none, .q (.mv (.c (.i .i64 0)))⟩])
  (.keep [0, 1]
  (.seq (.seq (.reg none [⟨some 6, none, .q (.mv (.t 0))⟩, ⟨some 7, none, .q (.len false (.t 6))⟩, ⟨some 8, none, .q (.mv (.c (.i .i64 0)))⟩])
    (.keep [0, 1, 7, 8]
    (.blk 0 (.keep [0, 1, 7, 8]
    (.loop (.fin [0, 1, 7, 8]
      (.seq (.reg none [⟨some 9, none, .q (.bin .lss (.t 8) (.t 7))⟩])
      (.keep [0, 1, 7, 8, 9]
      (.seq (.cond (.t 9) .skip
        (.exit 0))
      (.seq (.blk 1 (.seq (.reg none [⟨some 10, none, .q (.mv (.t 8))⟩, ⟨some 5, none, .q (.mv (.t 10))⟩])
        (.keep [0, 1, 5, 7, 8]
        (.seq (.reg none [⟨some 11, none, .q (.mv (.t 1))⟩, ⟨some 12, none, .q (.mv (.t 0))⟩, ⟨some 13, none, .q (.mv (.t 5))⟩, ⟨some 14, none, .q (.ias 1 (.t 12) (.t 13))⟩, ⟨some 15, none, .q (.ld none (.t 14))⟩, ⟨some 16, none, .call (.t 11) [(.t 15)]⟩])
        (.keep [0, 1, 5, 7, 8, 16]
        (.cond (.t 16) (.seq (.reg none [⟨some 17, none, .q (.mv (.t 5))⟩, ⟨some 4, none, .q (.mv (.t 17))⟩])
          .ret)
        .skip))))))
      (.keep [0, 1, 7, 8]
      (.reg none [⟨some 18, none, .q (.bin .add (.t 8) (.c (.i .i64 1)))⟩, ⟨some 8, none, .q (.mv (.t 18))⟩]))))))))))))
  (.seq (.reg none [⟨some 4, none, .q (.mv (.c (.i .i64 (-1))))⟩])
  .ret))))
theorem r97 : (Try.f97.body.bind (resC Try.prog Try.f97.ntmps)) = some (strip c97) := by kernel_rfl
theorem s97 : Try.f97.results.toList.mapM (resRes Try.prog) = some [.t 4] := by kernel_rfl
def c62 : ACode :=
  (.seq (.reg none [⟨some 4, none, .q (.mv (.c (.b false)))⟩])
  (.keep [0, 1]
  (.seq (.reg none [⟨some 5, none, .q (.mv (.t 0))⟩, ⟨some 6, none, .q (.mv (.t 1))⟩, ⟨some 7, none, .call (.f 97) [(.t 5), (.t 6)]⟩, ⟨some 8, none, .q (.bin .geq (.t 7) (.c (.i .i64 0)))⟩, ⟨some 4, none, .q (.mv (.t 8))⟩])
  .ret)))
theorem r62 : (Try.f62.body.bind (resC Try.prog Try.f62.ntmps)) = some (strip c62) := by kernel_rfl
theorem s62 : Try.f62.results.toList.mapM (resRes Try.prog) = some [.t 4] := by kernel_rfl
def c21 : ACode :=
  (.seq (.reg none [⟨some 2, none, .q (.mv (.c .nil))⟩, ⟨some 3, none, .q (.mv (.c (.i .i64 0)))⟩])
  (.keep [0]
  (.seq (.reg none [⟨some 11, none, .q (.mv (.t 0))⟩, ⟨some 12, none, .call (.f 60) [(.t 11), (.c .nil)]⟩, ⟨some 10, none, .q (.mv (.t 12))⟩, ⟨some 13, none, .q (.ext 0 (.t 10))⟩, ⟨some 14, none, .q (.ext 1 (.t 10))⟩, ⟨some 4, none, .m (.alloc (.g [.nil, .nil]))⟩, ⟨none, none, .m (.st 2 (.t 4) (.t 13))⟩, ⟨some 5, none, .q (.mv (.t 14))⟩])
  (.keep [0, 4, 5]
  (.seq (.seq (.gst (.pimT 4)
      (.reg none [⟨some 15, none, .q (.mv (.t 5))⟩, ⟨some 16, none, .q (.bin .neq (.t 15) (.c (.i .i64 0)))⟩]))
    (.keep [0, 4, 5, 16]
    (.cond (.t 16) (.seq (.reg none [⟨some 17, none, .q (.mv (.t 5))⟩, ⟨some 2, none, .q (.mv (.c .nil))⟩, ⟨some 3, none, .q (.mv (.t 17))⟩])
      .ret)
    .skip)))
  (.seq (.reg none [⟨some 6, none, .m (.alloc .nil)⟩])
  (.keep [0, 4, 6]
  (.seq (.seq (.gst (.nilC 6 0 2)
      (.reg none [⟨some 18, none, .q (.mv (.t 0))⟩, ⟨some 19, none, .q (.len false (.t 18))⟩, ⟨some 20, none, .q (.mv (.c (.i .i64 0)))⟩]))
    (.keep [4, 6, 19, 20]
    (.blk 0 (.keep [4, 6, 19, 20]
    (.loop (.fin [4, 6, 19, 20]
      (.seq (.reg none [⟨some 21, none, .q (.bin .lss (.t 20) (.t 19))⟩])
      (.keep [4, 6, 19, 20, 21]
      (.seq (.cond (.t 21) .skip
        (.exit 0))
      (.seq (.blk 1 (.seq (.reg none [⟨some 22, none, .q (.mv (.t 20))⟩, ⟨some 7, none, .m (.alloc (.i .i64 0))⟩, ⟨none, none, .m (.st 1 (.t 7) (.t 22))⟩])
        (.keep [4, 6, 7, 19, 20]
        (.seq (.reg none [⟨some 8, none, .m (.alloc .nil)⟩])
        (.keep [4, 6, 7, 8, 19, 20]
        (.seq (.gst (.nilC 8 0 1)
          (.reg none [⟨some 23, none, .q (.ld (some 2) (.t 4))⟩, ⟨some 24, none, .q (.ld none (.t 7))⟩, ⟨some 25, none, .call (.f 61) [(.t 23), (.t 24)]⟩]))
        (.keep [4, 6, 7, 8, 19, 20, 25]
        (.blk 2 (.keep [4, 6, 7, 8, 19, 20, 25]
        (.rf (.t 25) [26] (.keep [4, 6, 7, 8, 26]
          (.reg none [⟨some 9, none, .m (.alloc (.i .i64 0))⟩, ⟨none, none, .m (.st 1 (.t 9) (.t 26))⟩]))
        (.keep [4, 6, 7, 8, 9]
          (.blk 3 (.seq (.gst (.pimT 9)
            (.reg none [⟨some 27, none, .q (.ld none (.t 8))⟩, ⟨some 28, none, .q (.mkf 63 [(.t 4), (.t 9)])⟩, ⟨some 29, none, .call (.f 62) [(.t 27), (.t 28)]⟩, ⟨some 30, none, .q (.un .not (.t 29))⟩]))
          (.keep [6, 7, 8, 9, 30]
          (.cond (.t 30) (.seq (.reg none [⟨some 31, none, .q (.ld none (.t 8))⟩, ⟨some 32, none, .q (.ld none (.t 9))⟩, ⟨some 33, none, .m (.bsl 1 1 [(.i .i64 0)] [(0, 1, .t 32)])⟩, ⟨some 34, none, .m (.app 1 8 (.t 31) (.t 33))⟩, ⟨none, none, .m (.st 1 (.t 8) (.t 34))⟩])
            (.keep [6, 7, 9]
            (.reg none [⟨some 35, none, .q (.ld none (.t 6))⟩, ⟨some 36, none, .q (.ld none (.t 9))⟩, ⟨some 37, none, .q (.ld none (.t 7))⟩, ⟨some 38, none, .q (.bld [(.i .i64 0), (.i .i64 0)] [(0, 1, .t 36), (1, 1, .t 37)])⟩, ⟨some 39, none, .m (.bsl 1 2 [(.i .i64 0), (.i .i64 0)] [(0, 2, .t 38)])⟩, ⟨some 40, none, .m (.app 2 16 (.t 35) (.t 39))⟩, ⟨none, none, .m (.st 1 (.t 6) (.t 40))⟩])))
          .skip)))))))))))))))
      (.keep [4, 6, 19, 20]
      (.reg none [⟨some 41, none, .q (.bin .add (.t 20) (.c (.i .i64 1)))⟩, ⟨some 20, none, .q (.mv (.t 41))⟩]))))))))))))
  (.seq (.reg none [⟨some 42, none, .q (.ld none (.t 6))⟩, ⟨some 43, none, .call (.f 65) [(.t 42), (.f 66)]⟩])
  (.keep [6]
  (.seq (.gst (.frzC 6 0)
    (.reg none [⟨some 44, none, .q (.ld none (.t 6))⟩, ⟨some 2, none, .q (.mv (.t 44))⟩, ⟨some 3, none, .q (.mv (.c (.i .i64 0)))⟩]))
  .ret)))))))))))
theorem r21 : (Try.f21.body.bind (resC Try.prog Try.f21.ntmps)) = some (strip c21) := by kernel_rfl
theorem s21 : Try.f21.results.toList.mapM (resRes Try.prog) = some [.t 2, .t 3] := by kernel_rfl
theorem edges1_p (t : List Ev) (h : Good t) (i k : Nat) (hi : i < t.length) (hk : k < t.length) : PureS Try.prog 63 [.i .i64 (k : Int), .pim [.sl 26 (t.map Ev.row), .sl 6 ((clk t t.length).map crow)], .pim [.i .i64 (i : Int)]] (.b (befT t i k)) := by
  refine fun_go hmx Try.func63 r63 s63 (by rw [Try.ntmps63]; simp) ?_
  unfold c63
  simp
  first
    | refine callk rfl Try.call64 (before_p t h i k hi hk) rfl ?_
    | refine callks rfl Try.call64 (before_p t h i k hi hk) rfl ?_
    | refine callq rfl Try.call64 (before_p t h i k hi hk) rfl ?_
    | refine callqe rfl Try.call64 (before_p t h i k hi hk) rfl ?_
  simp
theorem index_n (l : List Nat) (hl : l.length < 1000000) (gid : Nat) (caps : List AV) (T : Nat → Bool) (hT : ∀ n ∈ l, PureS Try.prog gid (.i .i64 (n : Int) :: caps) (.b (T n))) (hc : ∀ vs w, (callFunc gid vs).run Try.prog w = .ok (.enter gid vs) w) :
    PureS Try.prog 97 [.sl 1 (l.map nrow), .fn gid caps] (.i .i64 (ixF T l)) := by
  refine fun_go hmx Try.func97 r97 s97 (by rw [Try.ntmps97]; simp) ?_
  unfold c97
  simp
  refine go_count hmx 8 0 l.length (fun k h => h = [] ∧ ∀ j (hj : j < l.length), j < k → T l[j] = false) (Nat.zero_le _) (by omega) rfl ⟨rfl, fun j hj h => absurd h (by omega)⟩ ?_ ?_
  · rintro k h - hlt ⟨rfl, hf⟩ hw
    have hI : (k : Int) < (l.length : Int) := by omega
    simp [hI, hlt, nrow]
    refine callk rfl hc (hT l[k] (List.getElem_mem hlt)) rfl ?_
    simp [hw]
    refine ⟨fun ht => (ixF_found hlt hf ht).symm, fun ht => fun j hj hjk => ?_⟩
    by_cases e1 : j = k
    · subst e1; exact ht
    · exact hf j hj (by omega)
  · rintro h ⟨rfl, hf⟩
    simp
    exact (ixF_none fun j hj => hf j hj hj).symm
theorem contains_n (l : List Nat) (hl : l.length < 1000000) (gid : Nat) (caps : List AV) (T : Nat → Bool) (hT : ∀ n ∈ l, PureS Try.prog gid (.i .i64 (n : Int) :: caps) (.b (T n))) (hc : ∀ vs w, (callFunc gid vs).run Try.prog w = .ok (.enter gid vs) w) :
    PureS Try.prog 62 [.sl 1 (l.map nrow), .fn gid caps] (.b (l.any T)) := by
  refine fun_go hmx Try.func62 r62 s62 (by rw [Try.ntmps62]; simp) ?_
  unfold c62
  simp
  first
    | refine callk rfl Try.call97 (index_n l hl gid caps T hT hc) rfl ?_
    | refine callks rfl Try.call97 (index_n l hl gid caps T hT hc) rfl ?_
    | refine callq rfl Try.call97 (index_n l hl gid caps T hT hc) rfl ?_
    | refine callqe rfl Try.call97 (index_n l hl gid caps T hT hc) rfl ?_
  simp [ixF_any]
def pnat (p : Nat × Nat) : List AV := [.i .i64 (p.1 : Int), .i .i64 (p.2 : Int)]
theorem edges_all (t : List Ev) (ht : t.length < 4611686018427387904) : PureS Try.prog 21 [.sl 26 (t.map Ev.row)] (.tup [if checkT t = 0 then .sl 2 ((sortPairs ((edgeTo t t.length).map fun p => ((p.1 : Int), (p.2 : Int)))).map prow) else .nil, .i .i64 (checkT t)]) := by
  refine fun_go hmx Try.func21 r21 s21 (by rw [Try.ntmps21]; simp) ?_
  unfold c21
  simp
  first
    | refine callk rfl Try.call60 (asked_nil t ht) rfl ?_
    | refine callks rfl Try.call60 (asked_nil t ht) rfl ?_
    | refine callq rfl Try.call60 (asked_nil t ht) rfl ?_
    | refine callqe rfl Try.call60 (asked_nil t ht) rfl ?_
  by_cases h0 : checkT t = 0
  rotate_left
  · simp [askV, askT, h0]
  have hG := good_of h0
  have hl := hG.len
  simp [askV, askT, h0, tabV]
  refine go_while hmx 3 (fun (s : Nat × Nat) => [(20, .v (.i .i64 (s.1 : Int)))]) (fun s => [.none, .var [.os 2 s.2], .arr s.2 2 (vrows ((edgeTo t s.1).map pnat))]) (fun s => s.1 ≤ t.length) (fun s => t.length - s.1) (0, 0) rfl (by simp) rfl (by simp) (by simp) (by simp) (Nat.zero_le _) ?_
  rintro ⟨j, v⟩ hj
  simp only at hj
  by_cases hjl : j < t.length
  · have hI : (j : Int) < (t.length : Int) := by omega
    have hw : IntKind.i64.wrap ((j : Int) + 1) = (j : Int) + 1 := wrap_in (by omega) (by omega)
    simp [hI]
    first
      | refine callk rfl Try.call61 (past_p t j) rfl ?_
      | refine callks rfl Try.call61 (past_p t j) rfl ?_
      | refine callq rfl Try.call61 (past_p t j) rfl ?_
      | refine callqe rfl Try.call61 (past_p t j) rfl ?_
    simp
    refine go_rf hmx rfl Try.call96 (past_iter t hG j hjl) (by simp [nrow]) (fun c h => ∃ v v2, h = [.none, .var [.os 2 v], .arr v 2 (vrows ((edgeC t j c).map pnat)), .var [.v (.i .i64 (j : Int))], .var [.os 5 v2], .arr v2 1 (vrows ((nearC t j c).map nrow))]) ?_ ⟨v, 0, by simp [edgeC, nearC, vrows]⟩ ?_ ?_ ?_
    · rintro c h ⟨v, v2, rfl⟩
      simp
    · simp
    · rintro l c h hc ⟨v, v2, rfl⟩
      have hcl : c < (pastR t j).length := by simpa using hc
      have hx := List.getElem?_eq_getElem hcl
      generalize hgx : (pastR t j)[c] = x at hx
      have hxj := past_lt (List.mem_of_getElem? hx)
      have hst := nearC_step hx
      have hnl := nearC_len t j c
      have hel := edgeC_len (t := t) (j := j) (c := c)
      have hjj : j * j ≤ 256 * 256 := Nat.mul_le_mul (by omega) (by omega)
      have hmem : ∀ k ∈ nearC t j c, k < t.length := fun k hk => by have := past_lt (nearC_mem hk); omega
      have hes : edgeC t j (c + 1) = if (nearC t j c).any (fun k => befT t x k) then edgeC t j c else edgeC t j c ++ [(x, j)] := by
        rw [edgeC, hst, nearStep, edgeC]
        split <;> simp
      unfold nearStep at hst
      simp [nrow, hgx]
      refine callz rfl Try.call62 (contains_n (nearC t j c) (by omega) 63 [.pim [.sl 26 (t.map Ev.row), .sl 6 ((clk t t.length).map crow)], .pim [.i .i64 (x : Int)]] (fun k => befT t x k) (fun k hk => edges1_p t hG x k (by omega) (hmem k hk)) Try.call63) (.b _) ⟨frz_rows rfl, .v _, trivial⟩ ?_
      cases hb : (nearC t j c).any fun k => befT t x k with
      | true =>
        rw [hb] at hst hes
        simp
        refine ⟨[.none, .var [.os 2 v], .arr v 2 (vrows ((edgeC t j c).map pnat)), .var [.v (.i .i64 (j : Int))], .var [.os 5 v2], .arr v2 1 (vrows ((nearC t j c).map nrow))], ⟨_, rfl⟩, v, v2, ?_⟩
        rw [hst, hes]; rfl
      | false =>
        rw [hb] at hst hes
        simp
        refine ⟨⟨by omega, by omega⟩, ⟨by omega, by omega⟩, ?_⟩
        refine ⟨[.none, .var [.os 2 (v + 1)], .arr (v + 1) 2 (vrows ((edgeC t j c).map pnat) ++ [[.v (.i .i64 (x : Int)), .v (.i .i64 (j : Int))]]), .var [.v (.i .i64 (j : Int))], .var [.os 5 (v2 + 1)], .arr (v2 + 1) 1 (vrows ((nearC t j c).map nrow) ++ [[.v (.i .i64 (x : Int))]])], ⟨_, rfl⟩, v + 1, v2 + 1, ?_⟩
        rw [hst, hes]
        simp [vrows, nrow, pnat]
    · rintro h ⟨v, v2, rfl⟩
      simp only [List.length_map]
      simp [hw]
      refine ⟨j + 1, rfl, ?_, by omega, by omega⟩
      rw [edgeC, nearC_all]; rfl
  · obtain rfl : j = t.length := by omega
    have hel := edgeTo_len t t.length
    have hjj : t.length * t.length ≤ 256 * 256 := Nat.mul_le_mul (by omega) (by omega)
    have hpn : (edgeTo t t.length).map pnat = ((edgeTo t t.length).map fun p : Nat × Nat => ((p.1 : Int), (p.2 : Int))).map prow := by simp [prow, pnat]
    rw [hpn]
    simp
    refine callf [2] rfl Try.call65 (sortPairs_p ((edgeTo t t.length).map fun p : Nat × Nat => ((p.1 : Int), (p.2 : Int))) (by simp; omega) v) (by decide) rfl (by simp) (by simp) (by simp) ?_
    rintro _ _ ⟨rfl, rfl⟩
    simp
end Go.Sc.Or
