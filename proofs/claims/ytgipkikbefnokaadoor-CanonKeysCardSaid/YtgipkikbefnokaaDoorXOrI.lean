/- Chapter 12: pairs in order, sorts. No condition. -/
import Derived.Test.YtgipkikbefnokaaDoorXOrG
import Derived.Test.YtgipkikbefnokaaDoorXOrS
import Derived.Test.YtgipkikbefnokaaDoorXAv23
set_option linter.constructorNameAsVariable false
namespace Go.Sc.Or
open Go Go.RowKit Go.Av Go.Proofs Go.Sc Go.Shelf Go.Sort
set_option linter.unusedSimpArgs false
set_option linter.unusedVariables false
def cmp1 (a b : Int) : Int := if a < b then -1 else if b < a then 1 else 0
def cmp2 (p q : Int × Int) : Int := if cmp1 p.1 q.1 = 0 then cmp1 p.2 q.2 else cmp1 p.1 q.1
def prow (p : Int × Int) : List AV := [.i .i64 p.1, .i .i64 p.2]
def penc (p : Int × Int) : List Value := [.int .i64 p.1, .int .i64 p.2]
theorem pair_enc : RowEnc prow penc 2 := ⟨fun _ => rfl, fun _ => rfl, fun x j a v h1 h2 => by
  rcases j with _ | _ | j
  · simp [prow, penc] at h1 h2; subst h1; subst h2; exact detV_i _ _
  · simp [prow, penc] at h1 h2; subst h1; subst h2; exact detV_i _ _
  · simp [prow] at h1, fun x v hv => by simp [penc] at hv; rcases hv with rfl | rfl <;> rfl⟩
theorem vi_pair {w : World} {Im : Nat → Prop} {b : Nat} (hb : Im b) (p : Int × Int) (hc : ∀ j, w.cell? ⟨b, j, none⟩ = (penc p).toArray[j]?) : VI w Im (.sl 1 [[.i .i64 p.1], [.i .i64 p.2]]) (.slice (some ⟨b, 0, none⟩) 2 2) := by
  have key : ∀ (r : Nat) row (j : Nat) x, ([[AV.i .i64 p.1], [.i .i64 p.2]] : List (List AV))[r]? = some row → row[j]? = some x → (r = 0 ∧ j = 0 ∧ x = .i .i64 p.1) ∨ (r = 1 ∧ j = 0 ∧ x = .i .i64 p.2) := fun r row j x hr hx => by
    rcases r with _ | _ | r
    · simp at hr; subst hr
      rcases j with _ | j
      · simp at hx; exact .inl ⟨rfl, rfl, hx.symm⟩
      · simp at hx
    · simp at hr; subst hr
      rcases j with _ | j
      · simp at hx; exact .inr ⟨rfl, rfl, hx.symm⟩
      · simp at hx
    · simp at hr
  refine .sl 1 _ b 0 2 (fun r j => (penc p).getD r undef) hb (by simp) (by simp) (fun r row j x hr hx => ?_) (fun r row j x hr hx => ?_)
  · rcases key r row j x hr hx with ⟨rfl, rfl, rfl⟩ | ⟨rfl, rfl, rfl⟩
    · rw [hc]; exact ⟨rfl, rfl⟩
    · rw [hc]; exact ⟨rfl, rfl⟩
  · rcases key r row j x hr hx with ⟨rfl, rfl, rfl⟩ | ⟨rfl, rfl, rfl⟩
    · exact .i _ _
    · exact .i _ _
def sortPairs (l : List (Int × Int)) : List (Int × Int) := l.mergeSort fun x y => !(ltOf cmp2) y x
theorem cmp1_lt {a b : Int} : cmp1 a b < 0 ↔ a < b := by unfold cmp1; split; · omega
                                                         · split <;> omega
theorem cmp1_eq {a b : Int} : cmp1 a b = 0 ↔ a = b := by unfold cmp1; split; · omega
                                                         · split <;> omega
theorem cmp2_lt {p q : Int × Int} : ltOf cmp2 p q = true ↔ p.1 < q.1 ∨ p.1 = q.1 ∧ p.2 < q.2 := by
  unfold ltOf cmp2
  rw [decide_eq_true_eq]
  by_cases h : p.1 = q.1
  · rw [if_pos (cmp1_eq.2 h), cmp1_lt]; omega
  · rw [if_neg (fun hc => h (cmp1_eq.1 hc)), cmp1_lt]; omega
theorem cmp2_nlt {p q : Int × Int} : ltOf cmp2 p q = false ↔ q.1 < p.1 ∨ q.1 = p.1 ∧ q.2 ≤ p.2 := by
  rw [Bool.eq_false_iff, Ne, cmp2_lt]; omega
theorem cmp2_swo : SWO (ltOf cmp2) := ⟨fun x => by rw [cmp2_nlt]; omega, fun x y z h1 h2 => by rw [cmp2_lt] at *; omega, fun x y z h1 h2 => by rw [cmp2_nlt] at *; omega⟩
theorem cmp2_tot (x y : Int × Int) (h1 : ltOf cmp2 x y = false) (h2 : ltOf cmp2 y x = false) : x = y := by
  rw [cmp2_nlt] at *
  exact Prod.ext (by omega) (by omega)
end Go.Sc.Or
/- Chapter 12: Edges. No condition. -/
set_option linter.constructorNameAsVariable false
namespace Go.Sc.Or
open Go Go.RowKit Go.Av Go.Proofs Go.Sc
set_option linter.unusedSimpArgs false
set_option linter.unusedVariables false
def c56 : ACode :=
  (.seq (.reg none [⟨some 4, none, .q (.mv (.c (.i .i64 0)))⟩])
  (.keep [0, 1]
  (.seq (.seq (.reg none [⟨some 6, none, .q (.mv (.t 0))⟩, ⟨some 7, none, .q (.len false (.t 6))⟩, ⟨some 8, none, .q (.mv (.c (.i .i64 0)))⟩])
    (.keep [0, 1, 7, 8]
    (.blk 0 (.keep [0, 1, 7, 8]
    (.loop (.fin [0, 1, 7, 8]
      (.seq (.reg none [⟨some 9, none, .q (.bin .lss (.t 8) (.t 7))⟩])
      (.keep [0, 1, 7, 8, 9]
      (.seq (.cond (.t 9) .skip
        (.exit 0))
      (.seq (.blk 1 (.seq (.reg none [⟨some 10, none, .q (.mv (.t 8))⟩, ⟨some 5, none, .q (.mv (.t 10))⟩])
        (.keep [0, 1, 5, 7, 8]
        (.seq (.reg none [⟨some 11, none, .q (.mv (.t 1))⟩, ⟨some 12, none, .q (.mv (.t 0))⟩, ⟨some 13, none, .q (.mv (.t 5))⟩, ⟨some 14, none, .q (.ias 1 (.t 12) (.t 13))⟩, ⟨some 15, none, .q (.ld none (.t 14))⟩, ⟨some 16, none, .call (.t 11) [(.t 15)]⟩])
        (.keep [0, 1, 5, 7, 8, 16]
        (.cond (.t 16) (.seq (.reg none [⟨some 17, none, .q (.mv (.t 5))⟩, ⟨some 4, none, .q (.mv (.t 17))⟩])
          .ret)
        .skip))))))
      (.keep [0, 1, 7, 8]
      (.reg none [⟨some 18, none, .q (.bin .add (.t 8) (.c (.i .i64 1)))⟩, ⟨some 8, none, .q (.mv (.t 18))⟩]))))))))))))
  (.seq (.reg none [⟨some 4, none, .q (.mv (.c (.i .i64 (-1))))⟩])
  .ret))))
theorem r56 : (Tryd.f56.body.bind (resC Tryd.prog Tryd.f56.ntmps)) = some (strip c56) := by kernel_rfl
theorem s56 : Tryd.f56.results.toList.mapM (resRes Tryd.prog) = some [.t 4] := by kernel_rfl
def c41 : ACode :=
  (.seq (.reg none [⟨some 4, none, .q (.mv (.c (.b false)))⟩])
  (.keep [0, 1]
  (.seq (.reg none [⟨some 5, none, .q (.mv (.t 0))⟩, ⟨some 6, none, .q (.mv (.t 1))⟩, ⟨some 7, none, .call (.f 56) [(.t 5), (.t 6)]⟩, ⟨some 8, none, .q (.bin .geq (.t 7) (.c (.i .i64 0)))⟩, ⟨some 4, none, .q (.mv (.t 8))⟩])
  .ret)))
theorem r41 : (Tryd.f41.body.bind (resC Tryd.prog Tryd.f41.ntmps)) = some (strip c41) := by kernel_rfl
theorem s41 : Tryd.f41.results.toList.mapM (resRes Tryd.prog) = some [.t 4] := by kernel_rfl
theorem index_n (l : List Nat) (hl : l.length < 1000000) (gid : Nat) (caps : List AV) (T : Nat → Bool) (hT : ∀ n ∈ l, PureS Tryd.prog gid (.i .i64 (n : Int) :: caps) (.b (T n))) (hc : ∀ vs w, (callFunc gid vs).run Tryd.prog w = .ok (.enter gid vs) w) :
    PureS Tryd.prog 56 [.sl 1 (l.map nrow), .fn gid caps] (.i .i64 (ixF T l)) := by
  refine fun_go hmx Tryd.func56 r56 s56 (by rw [Tryd.ntmps56]; simp) ?_
  unfold c56
  simp
  refine go_count hmx 8 0 l.length (fun k h => h = [] ∧ ∀ j (hj : j < l.length), j < k → T l[j] = false) (Nat.zero_le _) (by omega) rfl ⟨rfl, fun j hj h => absurd h (by omega)⟩ ?_ ?_
  · rintro k h - hlt ⟨rfl, hf⟩ hw
    have hI : (k : Int) < (l.length : Int) := by omega
    simp [hI, hlt, nrow]
    refine callk rfl hc (hT l[k] (List.getElem_mem hlt)) rfl ?_
    simp [hw]
    refine ⟨fun ht => (ixF_found hlt hf ht).symm, fun ht => fun j hj hjk => ?_⟩
    by_cases e1 : j = k
    · subst e1; exact ht
    · exact hf j hj (by omega)
  · rintro h ⟨rfl, hf⟩
    simp
    exact (ixF_none fun j hj => hf j hj hj).symm
theorem contains_n (l : List Nat) (hl : l.length < 1000000) (gid : Nat) (caps : List AV) (T : Nat → Bool) (hT : ∀ n ∈ l, PureS Tryd.prog gid (.i .i64 (n : Int) :: caps) (.b (T n))) (hc : ∀ vs w, (callFunc gid vs).run Tryd.prog w = .ok (.enter gid vs) w) :
    PureS Tryd.prog 41 [.sl 1 (l.map nrow), .fn gid caps] (.b (l.any T)) := by
  refine fun_go hmx Tryd.func41 r41 s41 (by rw [Tryd.ntmps41]; simp) ?_
  unfold c41
  simp
  first
    | refine callk rfl Tryd.call56 (index_n l hl gid caps T hT hc) rfl ?_
    | refine callks rfl Tryd.call56 (index_n l hl gid caps T hT hc) rfl ?_
    | refine callq rfl Tryd.call56 (index_n l hl gid caps T hT hc) rfl ?_
    | refine callqe rfl Tryd.call56 (index_n l hl gid caps T hT hc) rfl ?_
  simp [ixF_any]
def pnat (p : Nat × Nat) : List AV := [.i .i64 (p.1 : Int), .i .i64 (p.2 : Int)]
end Go.Sc.Or
