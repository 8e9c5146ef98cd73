/- Chapter 12: what every statement asks first. No condition. -/
import Derived.Test.YtgipkikbefnokaaDoorXOrI
import Derived.Test.YtgipkikbefnokaaDoorXOrK
import Derived.Test.YtgipkikbefnokaaDoorXEvt
set_option linter.constructorNameAsVariable false
namespace Go.Sc.Or
open Go Go.RowKit Go.Av Go.Proofs Go.Sc Go.Sort
set_option linter.unusedSimpArgs false
set_option linter.unusedVariables false
def c26 : ACode :=
  (.seq (.reg none [⟨some 4, none, .q (.mv (.c (.b false)))⟩])
  (.keep [0, 1]
  (.seq (.seq (.reg none [⟨some 6, none, .q (.mv (.t 0))⟩, ⟨some 7, none, .q (.len false (.t 6))⟩, ⟨some 8, none, .q (.mv (.t 1))⟩, ⟨some 9, none, .q (.len false (.t 8))⟩, ⟨some 10, none, .q (.bin .neq (.t 7) (.t 9))⟩])
    (.keep [0, 1, 10]
    (.cond (.t 10) (.seq (.reg none [⟨some 4, none, .q (.mv (.c (.b false)))⟩])
      .ret)
    .skip)))
  (.seq (.seq (.reg none [⟨some 11, none, .q (.mv (.t 0))⟩, ⟨some 12, none, .q (.len false (.t 11))⟩, ⟨some 13, none, .q (.mv (.c (.i .i64 0)))⟩])
    (.keep [0, 1, 12, 13]
    (.blk 0 (.keep [0, 1, 12, 13]
    (.loop (.fin [0, 1, 12, 13]
      (.seq (.reg none [⟨some 14, none, .q (.bin .lss (.t 13) (.t 12))⟩])
      (.keep [0, 1, 12, 13, 14]
      (.seq (.cond (.t 14) .skip
        (.exit 0))
      (.seq (.blk 1 (.seq (.reg none [⟨some 15, none, .q (.mv (.t 13))⟩, ⟨some 5, none, .q (.mv (.t 15))⟩])
        (.keep [0, 1, 5, 12, 13]
        (.seq (.reg (some (9, [])) [⟨some 16, none, .q (.mv (.t 0))⟩, ⟨some 17, none, .q (.mv (.t 5))⟩, ⟨some 18, none, .q (.ias 1 (.t 16) (.t 17))⟩, ⟨some 19, none, .q (.ld none (.t 18))⟩, ⟨some 20, none, .q (.mv (.t 1))⟩, ⟨some 21, none, .q (.mv (.t 5))⟩, ⟨some 22, none, .q (.ias 1 (.t 20) (.t 21))⟩, ⟨some 23, none, .q (.ld none (.t 22))⟩, ⟨some 24, none, .q (.bin .neq (.t 19) (.t 23))⟩])
        (.keep [0, 1, 12, 13, 24]
        (.cond (.t 24) (.seq (.reg none [⟨some 4, none, .q (.mv (.c (.b false)))⟩])
          .ret)
        .skip))))))
      (.keep [0, 1, 12, 13]
      (.reg none [⟨some 25, none, .q (.bin .add (.t 13) (.c (.i .i64 1)))⟩, ⟨some 13, none, .q (.mv (.t 25))⟩]))))))))))))
  (.seq (.reg none [⟨some 4, none, .q (.mv (.c (.b true)))⟩])
  .ret)))))
theorem r26 : (Tryd.f26.body.bind (resC Tryd.prog Tryd.f26.ntmps)) = some (strip c26) := by kernel_rfl
theorem s26 : Tryd.f26.results.toList.mapM (resRes Tryd.prog) = some [.t 4] := by kernel_rfl
def castP (p : Nat × Nat) : Int × Int := ((p.1 : Int), (p.2 : Int))
theorem edges_list {t : List Ev} (h : Good t) : sortPairs ((edgeTo t t.length).map fun p => ((p.1 : Int), (p.2 : Int))) = (edR (befT t) t.length t.length).map castP := by
  have hp : ((edgeTo t t.length).map fun p : Nat × Nat => ((p.1 : Int), (p.2 : Int))).Perm ((edR (befT t) t.length t.length).map castP) := (edges_perm h).map _
  have hs : ((edR (befT t) t.length t.length).map castP).Pairwise fun x y => (!(ltOf cmp2) y x) = true := by
    refine List.Pairwise.map _ (fun a b hab => ?_) (edR_sorted (befT t) t.length t.length)
    rw [Bool.not_eq_true', cmp2_nlt]
    unfold castP
    unfold ltP at hab
    simp only
    omega
  unfold sortPairs
  have tr : ∀ a b c : Int × Int, (!(ltOf cmp2) b a) = true → (!(ltOf cmp2) c b) = true → (!(ltOf cmp2) c a) = true := fun a b c h1 h2 => by
    rw [Bool.not_eq_true'] at *
    exact cmp2_swo.ntrans c b a h2 h1
  have to : ∀ a b : Int × Int, ((!(ltOf cmp2) b a) || (!(ltOf cmp2) a b)) = true := fun a b => by
    cases h1 : ltOf cmp2 b a with
    | false => rfl
    | true =>
      have : ltOf cmp2 a b = false := by rw [cmp2_lt] at h1; rw [cmp2_nlt]; omega
      rw [this]; rfl
  have hm := List.pairwise_mergeSort tr to ((edgeTo t t.length).map fun p : Nat × Nat => ((p.1 : Int), (p.2 : Int)))
  refine List.Perm.eq_of_pairwise (fun a b _ _ h1 h2 => ?_) hm hs ((List.mergeSort_perm _ _).trans hp)
  rw [Bool.not_eq_true'] at h1 h2
  exact cmp2_tot a b h2 h1
theorem same_ints (a b : List Int) (ha : a.length < 1000000) : PureS Tryd.prog 26 [.sl 1 (a.map irow), .sl 1 (b.map irow)] (.b (decide (a = b))) := by
  refine fun_go hmx Tryd.func26 r26 s26 (by rw [Tryd.ntmps26]; simp) ?_
  unfold c26
  simp
  refine ⟨fun hl hc => hl (by rw [hc]), fun hl => ?_⟩
  have hl : a.length = b.length := by omega
  refine go_while hmx 0 (fun (k : Nat) => [(13, .v (.i .i64 (k : Int)))]) (fun _ => []) (fun k => k ≤ a.length ∧ a.take k = b.take k) (fun k => a.length - k) 0 rfl (by simp) rfl (by simp) (by simp) (by simp) ⟨Nat.zero_le _, by simp⟩ ?_
  rintro k ⟨hk, he⟩
  by_cases hkl : k < a.length
  · have hI : (k : Int) < (a.length : Int) := by omega
    have hIb : (k : Int) < (b.length : Int) := by omega
    have hkb : k < b.length := by omega
    have hw : IntKind.i64.wrap ((k : Int) + 1) = (k : Int) + 1 := wrap_in (by omega) (by omega)
    simp [hI, hIb, hkl, hkb, irow]
    refine ⟨fun hn hc => hn (by subst hc; rfl), fun hn => ⟨k + 1, by rw [hw]; rfl, ⟨by omega, ?_⟩, by omega⟩⟩
    rw [List.take_succ_eq_append_getElem hkl, List.take_succ_eq_append_getElem hkb, he, hn]
  · obtain rfl : k = a.length := by omega
    rw [List.take_length, hl, List.take_length] at he
    simp
    exact he
def stE (g v : Int) : Ev := ⟨g, 0, 0, 51, 0, 0, 0, ⟨1, v, true⟩, ⟨5, g, true⟩, .zero, .zero, .zero, .zero, 2⟩
def T3 : List Ev := [stE 0 0, stE 1 1, stE 0 1]
theorem t3_right : checkT T3 = 0 := by decide
theorem t3_edges : edR (befT T3) 3 3 = [(0, 2), (1, 2)] := by decide
theorem t3_apart : befT T3 0 1 = false := by decide
theorem t3_high : mostT T3 3 = 2 := by decide
end Go.Sc.Or
