/- Chapter 13: each event's past. No condition. -/
import Derived.Test.YtgipkikbefnokaaDoorXOrO
import Derived.Test.YtgipkikbefnokaaDoorXEv6
import Derived.Test.YtgipkikbefnokaaDoorXAv25
set_option linter.constructorNameAsVariable false
namespace Go.Sc.Or
open Go Go.RowKit Go.Av Go.Proofs Go.Sc Go.Shelf Go.Sort Go.Sc.Srt
set_option linter.unusedSimpArgs false
set_option linter.unusedVariables false
def c39 : ACode :=
  (.seq (.reg none [⟨some 2, none, .q (.mv (.c .nil))⟩])
  (.keep [0]
  (.seq (.reg none [⟨some 3, none, .q (.mv (.c .nil))⟩])
  (.gst (.nilT 3 1)
  (.keep [0, 3]
  (.seq (.seq (.reg none [⟨some 7, none, .q (.mv (.t 0))⟩, ⟨some 8, none, .q (.len false (.t 7))⟩, ⟨some 9, none, .q (.mv (.c (.i .i64 0)))⟩])
    (.keep [0, 3, 8, 9]
    (.blk 0 (.keep [0, 3, 8, 9]
    (.loop (.fin [0, 3, 8, 9]
      (.seq (.reg none [⟨some 10, none, .q (.bin .lss (.t 9) (.t 8))⟩])
      (.keep [0, 3, 8, 9, 10]
      (.seq (.cond (.t 10) .skip
        (.exit 0))
      (.seq (.blk 1 (.seq (.reg none [⟨some 11, none, .q (.mv (.t 9))⟩, ⟨some 4, none, .q (.mv (.t 11))⟩])
        (.keep [0, 3, 4, 8, 9]
        (.seq (.reg none [⟨some 13, none, .q (.mv (.t 0))⟩, ⟨some 14, none, .q (.mv (.t 4))⟩, ⟨some 15, none, .call (.f 55) [(.t 13), (.t 14)]⟩, ⟨some 12, none, .q (.mv (.t 15))⟩, ⟨some 16, none, .q (.ext 0 (.t 12))⟩, ⟨some 17, none, .q (.ext 1 (.t 12))⟩, ⟨some 5, none, .q (.mv (.t 16))⟩, ⟨some 6, none, .q (.mv (.t 17))⟩])
        (.keep [0, 3, 5, 8, 9]
        (.reg none [⟨some 18, none, .q (.mv (.t 3))⟩, ⟨some 19, none, .q (.mv (.t 5))⟩, ⟨some 20, none, .m (.bsl 1 1 [.nil] [(0, 1, .t 19)])⟩, ⟨some 21, none, .m (.app 1 24 (.t 18) (.t 20))⟩, ⟨some 3, none, .q (.mv (.t 21))⟩]))))))
      (.keep [0, 3, 8, 9]
      (.reg none [⟨some 22, none, .q (.bin .add (.t 9) (.c (.i .i64 1)))⟩, ⟨some 9, none, .q (.mv (.t 22))⟩]))))))))))))
  (.seq (.gst (.letT 3 1)
    (.reg none [⟨some 23, none, .q (.mv (.t 3))⟩, ⟨some 2, none, .q (.mv (.t 23))⟩]))
  .ret)))))))
theorem r39 : (Tryd.f39.body.bind (resC Tryd.prog Tryd.f39.ntmps)) = some (strip c39) := by kernel_rfl
theorem s39 : Tryd.f39.results.toList.mapM (resRes Tryd.prog) = some [.t 2] := by kernel_rfl
def c19 : ACode :=
  (.seq (.reg none [⟨some 4, none, .q (.mv (.c .nil))⟩])
  (.keep [0, 1]
  (.seq (.reg none [⟨some 5, none, .q (.mv (.c .nil))⟩])
  (.gst (.nilT 5 26)
  (.keep [0, 1, 5]
  (.seq (.seq (.reg none [⟨some 8, none, .q (.mv (.t 1))⟩, ⟨some 9, none, .q (.len false (.t 8))⟩, ⟨some 10, none, .q (.mv (.c (.i .i64 0)))⟩])
    (.keep [0, 5, 8, 9, 10]
    (.blk 0 (.keep [0, 5, 8, 9, 10]
    (.loop (.fin [0, 5, 8, 9, 10]
      (.seq (.reg none [⟨some 11, none, .q (.bin .lss (.t 10) (.t 9))⟩])
      (.keep [0, 5, 8, 9, 10, 11]
      (.seq (.cond (.t 11) .skip
        (.exit 0))
      (.seq (.blk 1 (.seq (.reg none [⟨some 12, none, .q (.ias 1 (.t 8) (.t 10))⟩, ⟨some 13, none, .q (.ld none (.t 12))⟩, ⟨some 7, none, .q (.mv (.t 13))⟩])
        (.keep [0, 5, 7, 8, 9, 10]
        (.reg none [⟨some 14, none, .q (.mv (.t 5))⟩, ⟨some 15, none, .q (.mv (.t 0))⟩, ⟨some 16, none, .q (.mv (.t 7))⟩, ⟨some 17, none, .q (.ias 26 (.t 15) (.t 16))⟩, ⟨some 18, none, .q (.ld (some 26) (.t 17))⟩, ⟨some 19, none, .m (.bsl 1 26 [(.i .i64 0), (.i .i64 0), (.i .i64 0), (.i .i64 0), (.i .i64 0), (.i .i64 0), (.i .i64 0), (.i .i64 0), (.i .i64 0), (.b false), (.i .i64 0), (.i .i64 0), (.b false), (.i .i64 0), (.i .i64 0), (.b false), (.i .i64 0), (.i .i64 0), (.b false), (.i .i64 0), (.i .i64 0), (.b false), (.i .i64 0), (.i .i64 0), (.b false), (.i .i64 0)] [(0, 26, .t 18)])⟩, ⟨some 20, none, .m (.app 26 208 (.t 14) (.t 19))⟩, ⟨some 5, none, .q (.mv (.t 20))⟩]))))
      (.keep [0, 5, 8, 9, 10]
      (.reg none [⟨some 21, none, .q (.bin .add (.t 10) (.c (.i .i64 1)))⟩, ⟨some 10, none, .q (.mv (.t 21))⟩]))))))))))))
  (.seq (.gst (.letT 5 26)
    (.reg none [⟨some 22, none, .q (.mv (.t 5))⟩, ⟨some 4, none, .q (.mv (.t 22))⟩]))
  .ret)))))))
theorem r19 : (Tryd.f19.body.bind (resC Tryd.prog Tryd.f19.ntmps)) = some (strip c19) := by kernel_rfl
theorem s19 : Tryd.f19.results.toList.mapM (resRes Tryd.prog) = some [.t 4] := by kernel_rfl
def c30 : ACode :=
  (.seq (.reg none [⟨some 4, none, .q (.mv (.c .nil))⟩])
  (.keep [0, 1]
  (.seq (.reg none [⟨some 5, none, .q (.mv (.c .nil))⟩])
  (.gst (.nilT 5 26)
  (.keep [0, 1, 5]
  (.seq (.seq (.reg none [⟨some 8, none, .q (.mv (.t 1))⟩, ⟨some 9, none, .q (.len false (.t 8))⟩, ⟨some 10, none, .q (.mv (.c (.i .i64 0)))⟩])
    (.keep [0, 5, 8, 9, 10]
    (.blk 0 (.keep [0, 5, 8, 9, 10]
    (.loop (.fin [0, 5, 8, 9, 10]
      (.seq (.reg none [⟨some 11, none, .q (.bin .lss (.t 10) (.t 9))⟩])
      (.keep [0, 5, 8, 9, 10, 11]
      (.seq (.cond (.t 11) .skip
        (.exit 0))
      (.seq (.blk 1 (.seq (.reg none [⟨some 12, none, .q (.ias 1 (.t 8) (.t 10))⟩, ⟨some 13, none, .q (.ld none (.t 12))⟩, ⟨some 7, none, .q (.mv (.t 13))⟩])
        (.keep [0, 5, 7, 8, 9, 10]
        (.reg none [⟨some 14, none, .q (.mv (.t 5))⟩, ⟨some 15, none, .q (.mv (.t 0))⟩, ⟨some 16, none, .q (.mv (.t 7))⟩, ⟨some 17, none, .q (.ias 26 (.t 15) (.t 16))⟩, ⟨some 18, none, .q (.ld (some 26) (.t 17))⟩, ⟨some 19, none, .m (.bsl 1 26 [(.i .i64 0), (.i .i64 0), (.i .i64 0), (.i .i64 0), (.i .i64 0), (.i .i64 0), (.i .i64 0), (.i .i64 0), (.i .i64 0), (.b false), (.i .i64 0), (.i .i64 0), (.b false), (.i .i64 0), (.i .i64 0), (.b false), (.i .i64 0), (.i .i64 0), (.b false), (.i .i64 0), (.i .i64 0), (.b false), (.i .i64 0), (.i .i64 0), (.b false), (.i .i64 0)] [(0, 26, .t 18)])⟩, ⟨some 20, none, .m (.app 26 208 (.t 14) (.t 19))⟩, ⟨some 5, none, .q (.mv (.t 20))⟩]))))
      (.keep [0, 5, 8, 9, 10]
      (.reg none [⟨some 21, none, .q (.bin .add (.t 10) (.c (.i .i64 1)))⟩, ⟨some 10, none, .q (.mv (.t 21))⟩]))))))))))))
  (.seq (.gst (.letT 5 26)
    (.reg none [⟨some 22, none, .q (.mv (.t 5))⟩, ⟨some 4, none, .q (.mv (.t 22))⟩]))
  .ret)))))))
theorem r30 : (Tryd.f30.body.bind (resC Tryd.prog Tryd.f30.ntmps)) = some (strip c30) := by kernel_rfl
theorem s30 : Tryd.f30.results.toList.mapM (resRes Tryd.prog) = some [.t 4] := by kernel_rfl
def laidN (t : List Ev) (l : List Nat) : List Ev := l.map fun i => t.getD i default
def prowT (t : List Ev) (j : Nat) : List AV := [.sl 1 ((pastR t j).reverse.map nrow)]
theorem before13_p (t : List Ev) (h0 : checkT t = 0) : PureS Tryd.prog 39 [.sl 26 (t.map Ev.row)] (.sl 1 ((List.range t.length).map (prowT t))) := by
  have h := good_of h0
  have hlen := h.len
  refine fun_go hmx Tryd.func39 r39 s39 (by rw [Tryd.ntmps39]; simp) ?_
  unfold c39
  simp
  refine go_while hmx 1 (fun (s : Nat × Nat) => [(3, .os 0 s.2), (9, .v (.i .i64 (s.1 : Int)))]) (fun s => [.arr s.2 1 (vrows ((List.range s.1).map (prowT t)))]) (fun s => s.1 ≤ t.length) (fun s => t.length - s.1) (0, 0) rfl (by simp) rfl (by simp) (by simp) (by simp) (Nat.zero_le _) ?_
  rintro ⟨j, v⟩ hj
  simp only at hj
  by_cases hjl : j < t.length
  · have hI : (j : Int) < (t.length : Int) := by omega
    have hw : IntKind.i64.wrap ((j : Int) + 1) = (j : Int) + 1 := wrap_in (by omega) (by omega)
    have hA : askT t [(j : Int)] = 0 := ask_right h0 (by simp; omega)
    simp [hI]
    first
      | refine callk rfl Tryd.call55 (past_all t (by omega) (j : Int)) rfl ?_
      | refine callks rfl Tryd.call55 (past_all t (by omega) (j : Int)) rfl ?_
      | refine callq rfl Tryd.call55 (past_all t (by omega) (j : Int)) rfl ?_
      | refine callqe rfl Tryd.call55 (past_all t (by omega) (j : Int)) rfl ?_
    simp [hA, hw, -List.map_reverse]
    refine ⟨by omega, j + 1, v + 1, ⟨rfl, rfl⟩, ⟨rfl, ?_⟩, by omega, by omega⟩
    rw [List.range_succ]
    simp [vrows, prowT, -List.map_reverse]
  · obtain rfl : j = t.length := by omega
    simp
theorem laid_p (t : List Ev) (l : List Nat) (hl : l.length < 1000000) (hp : ∀ i ∈ l, i < t.length) : PureS Tryd.prog 19 [.sl 26 (t.map Ev.row), .sl 1 (l.map nrow)] (.sl 26 ((laidN t l).map Ev.row)) := by
  refine fun_go hmx Tryd.func19 r19 s19 (by rw [Tryd.ntmps19]; simp) ?_
  unfold c19
  simp
  refine go_while hmx 1 (fun (s : Nat × Nat) => [(5, .os 0 s.2), (10, .v (.i .i64 (s.1 : Int)))]) (fun s => [.arr s.2 26 (vrows ((laidN t (l.take s.1)).map Ev.row))]) (fun s => s.1 ≤ l.length) (fun s => l.length - s.1) (0, 0) rfl (by simp) (by simp [laidN, vrows]) (by simp) (by simp) (by simp) (Nat.zero_le _) ?_
  rintro ⟨k, v⟩ hk
  simp only at hk
  by_cases hkl : k < l.length
  · have hI : (k : Int) < (l.length : Int) := by omega
    have hw : IntKind.i64.wrap ((k : Int) + 1) = (k : Int) + 1 := wrap_in (by omega) (by omega)
    have hn : l[k] < t.length := hp _ (List.getElem_mem hkl)
    have hN : (l[k] : Int) < (t.length : Int) := by omega
    have hlen : (laidN t (l.take k)).length = k := by simp [laidN]; omega
    simp [hI, hkl, hn, hN, hw, hlen, nrow]
    refine ⟨by omega, k + 1, v + 1, ⟨rfl, rfl⟩, ⟨rfl, ?_⟩, by omega, by omega⟩
    have hg : t.getD l[k] default = t[l[k]] := by rw [List.getD_eq_getElem?_getD, List.getElem?_eq_getElem hn]; rfl
    have hst : laidN t (l.take (k + 1)) = laidN t (l.take k) ++ [t[l[k]]] := by
      unfold laidN
      rw [List.take_succ_eq_append_getElem hkl, List.map_append, List.map_cons, hg]
      rfl
    rw [hst]
    simp [vrows]
    rw [putAll_all (by simp)]
    exact List.take_of_length_le (by simp)
  · obtain rfl : k = l.length := by omega
    simp
theorem laidR_p (t : List Ev) (l : List Nat) (hl : l.length < 1000000) (hp : ∀ i ∈ l, i < t.length) : PureS Tryd.prog 30 [.sl 26 (t.map Ev.row), .sl 1 (l.map nrow)] (.sl 26 ((laidN t l).map Ev.row)) := by
  refine fun_go hmx Tryd.func30 r30 s30 (by rw [Tryd.ntmps30]; simp) ?_
  unfold c30
  simp
  refine go_while hmx 1 (fun (s : Nat × Nat) => [(5, .os 0 s.2), (10, .v (.i .i64 (s.1 : Int)))]) (fun s => [.arr s.2 26 (vrows ((laidN t (l.take s.1)).map Ev.row))]) (fun s => s.1 ≤ l.length) (fun s => l.length - s.1) (0, 0) rfl (by simp) (by simp [laidN, vrows]) (by simp) (by simp) (by simp) (Nat.zero_le _) ?_
  rintro ⟨k, v⟩ hk
  simp only at hk
  by_cases hkl : k < l.length
  · have hI : (k : Int) < (l.length : Int) := by omega
    have hw : IntKind.i64.wrap ((k : Int) + 1) = (k : Int) + 1 := wrap_in (by omega) (by omega)
    have hn : l[k] < t.length := hp _ (List.getElem_mem hkl)
    have hN : (l[k] : Int) < (t.length : Int) := by omega
    have hlen : (laidN t (l.take k)).length = k := by simp [laidN]; omega
    simp [hI, hkl, hn, hN, hw, hlen, nrow]
    refine ⟨by omega, k + 1, v + 1, ⟨rfl, rfl⟩, ⟨rfl, ?_⟩, by omega, by omega⟩
    have hg : t.getD l[k] default = t[l[k]] := by rw [List.getD_eq_getElem?_getD, List.getElem?_eq_getElem hn]; rfl
    have hst : laidN t (l.take (k + 1)) = laidN t (l.take k) ++ [t[l[k]]] := by
      unfold laidN
      rw [List.take_succ_eq_append_getElem hkl, List.map_append, List.map_cons, hg]
      rfl
    rw [hst]
    simp [vrows]
    rw [putAll_all (by simp)]
    exact List.take_of_length_le (by simp)
  · obtain rfl : k = l.length := by omega
    simp
end Go.Sc.Or
/- Chapter 13: what stands ahead of a cut. No condition. -/
set_option linter.constructorNameAsVariable false
namespace Go.Sc.Or
open Go Go.RowKit Go.Av Go.Proofs Go.Sc
set_option linter.unusedSimpArgs false
set_option linter.unusedVariables false
def c44 : ACode :=
  (.seq (.reg none [⟨some 2, none, .m (.box (.t 0))⟩, ⟨some 3, none, .m (.box (.t 1))⟩, ⟨some 4, none, .q (.mv (.c (.b false)))⟩])
  (.keep [2, 3]
  (.seq (.seq (.reg none [⟨some 7, none, .q (.ld (some 6) (.t 2))⟩, ⟨some 8, none, .q (.mv (.c (.i .i64 0)))⟩])
    (.keep [3, 7, 8]
    (.blk 0 (.keep [3, 7, 8]
    (.loop (.fin [3, 7, 8]
      (.seq (.reg none [⟨some 9, none, .q (.bin .lss (.t 8) (.c (.i .i64 6)))⟩])
      (.keep [3, 7, 8, 9]
      (.seq (.cond (.t 9) .skip
        (.exit 0))
      (.seq (.blk 1 (.seq (.reg none [⟨some 10, none, .q (.mv (.t 8))⟩, ⟨some 11, none, .q (.idx 6 1 false (.t 7) (.t 8))⟩, ⟨some 5, none, .q (.mv (.t 10))⟩, ⟨some 6, none, .q (.mv (.t 11))⟩])
        (.keep [3, 5, 6, 7, 8]
        (.seq (.reg none [⟨some 12, none, .q (.mv (.t 6))⟩, ⟨some 13, none, .q (.mv (.t 5))⟩, ⟨some 14, none, .q (.iaa 6 1 (.t 3) (.t 13))⟩, ⟨some 15, none, .q (.ld none (.t 14))⟩, ⟨some 16, none, .q (.bin .gtr (.t 12) (.t 15))⟩])
        (.keep [3, 7, 8, 16]
        (.cond (.t 16) (.seq (.reg none [⟨some 4, none, .q (.mv (.c (.b false)))⟩])
          .ret)
        .skip))))))
      (.keep [3, 7, 8]
      (.reg none [⟨some 17, none, .q (.bin .add (.t 8) (.c (.i .i64 1)))⟩, ⟨some 8, none, .q (.mv (.t 17))⟩]))))))))))))
  (.seq (.reg none [⟨some 4, none, .q (.mv (.c (.b true)))⟩])
  .ret))))
theorem r44 : (Tryd.f44.body.bind (resC Tryd.prog Tryd.f44.ntmps)) = some (strip c44) := by kernel_rfl
theorem s44 : Tryd.f44.results.toList.mapM (resRes Tryd.prog) = some [.t 4] := by kernel_rfl
theorem ready_p (a d : Clk) (ha : a.length = 6) (hd : d.length = 6) : PureS Tryd.prog 44 [.g (crow a), .g (crow d)] (.b (underTo a d 6)) := by
  have h6 : 6 ≤ a.length := by omega
  refine fun_go hmx Tryd.func44 r44 s44 (by rw [Tryd.ntmps44]; simp) ?_
  unfold c44
  simp [take_avs6 ha, h6]
  refine go_while hmx 2 (fun (k : Nat) => [(8, .v (.i .i64 (k : Int)))]) (fun _ => [.var (avs (AV.i .i64) a), .var (avs (AV.i .i64) d)]) (fun k => k ≤ 6 ∧ underTo a d k = true) (fun k => 6 - k) 0 rfl (by simp) rfl (by simp) (by simp) (by simp) ⟨Nat.zero_le _, rfl⟩ ?_
  rintro k ⟨hk, hu⟩
  by_cases hkl : k < 6
  · have hI : (k : Int) < 6 := by omega
    have hw : IntKind.i64.wrap ((k : Int) + 1) = (k : Int) + 1 := wrap_in (by omega) (by omega)
    have hka : k < a.length := by omega
    have hkd : k < d.length := by omega
    have hs := underTo_succ a d k
    have ga : a.getD k 0 = a[k] := by rw [List.getD_eq_getElem?_getD, List.getElem?_eq_getElem hka]; rfl
    have gd : d.getD k 0 = d[k] := by rw [List.getD_eq_getElem?_getD, List.getElem?_eq_getElem hkd]; rfl
    simp [hI, hkl, ags, ha, hd, hka, hkd]
    refine ⟨fun hc => ?_, fun hc => ⟨k + 1, by rw [hw]; rfl, ⟨by omega, ?_⟩, by omega⟩⟩
    · rw [Bool.eq_false_iff, Ne, underTo_iff]
      intro h
      have := h k hkl
      rw [ga, gd] at this
      omega
    · rw [hs, hu, ga, gd]; simpa using hc
  · obtain rfl : k = 6 := by omega
    simp [hu]
end Go.Sc.Or
/- Chapter 13: an event of a goroutine that touches itself alone; a trace of one's own. No condition. -/
set_option linter.constructorNameAsVariable false
namespace Go.Sc.Or
open Go Go.RowKit Go.Av Go.Proofs Go.Sc
set_option linter.unusedSimpArgs false
set_option linter.unusedVariables false
def c24 : ACode :=
  (.seq (.reg none [⟨some 2, none, .m (.alloc (.g [(.i .i64 0), (.i .i64 0), (.i .i64 0), (.i .i64 0), (.i .i64 0), (.i .i64 0), (.i .i64 0), (.i .i64 0), (.i .i64 0), (.b false), (.i .i64 0), (.i .i64 0), (.b false), (.i .i64 0), (.i .i64 0), (.b false), (.i .i64 0), (.i .i64 0), (.b false), (.i .i64 0), (.i .i64 0), (.b false), (.i .i64 0), (.i .i64 0), (.b false), (.i .i64 0)]))⟩])
  (.keep [0, 2]
  (.seq (.reg none [⟨some 4, none, .q (.mv (.t 0))⟩, ⟨some 5, none, .q (.bld [(.i .i64 0), (.i .i64 0), (.i .i64 0), (.i .i64 0), (.i .i64 0), (.i .i64 0), (.i .i64 0), (.i .i64 0), (.i .i64 0), (.b false), (.i .i64 0), (.i .i64 0), (.b false), (.i .i64 0), (.i .i64 0), (.b false), (.i .i64 0), (.i .i64 0), (.b false), (.i .i64 0), (.i .i64 0), (.b false), (.i .i64 0), (.i .i64 0), (.b false), (.i .i64 0)] [(0, 1, .t 4), (3, 1, .c (.i .i64 64)), (25, 1, .c (.i .i64 1))])⟩, ⟨some 3, none, .m (.alloc (.g [(.i .i64 0), (.i .i64 0), (.i .i64 0), (.i .i64 0), (.i .i64 0), (.i .i64 0), (.i .i64 0), (.i .i64 0), (.i .i64 0), (.b false), (.i .i64 0), (.i .i64 0), (.b false), (.i .i64 0), (.i .i64 0), (.b false), (.i .i64 0), (.i .i64 0), (.b false), (.i .i64 0), (.i .i64 0), (.b false), (.i .i64 0), (.i .i64 0), (.b false), (.i .i64 0)]))⟩, ⟨none, none, .m (.st 26 (.t 3) (.t 5))⟩])
  (.keep [0, 2, 3]
  (.seq (.reg none [⟨some 6, none, .q (.mv (.t 0))⟩, ⟨some 7, none, .q (.bld [(.i .i64 0), (.i .i64 0), (.b false)] [(0, 1, .c (.i .i64 5)), (1, 1, .t 6), (2, 1, .c (.b true))])⟩, ⟨some 8, none, .q (.fa 7 (.t 3))⟩, ⟨some 9, none, .q (.iaa 6 3 (.t 8) (.c (.i .i64 0)))⟩, ⟨none, none, .m (.st 3 (.t 9) (.t 7))⟩])
  (.keep [2, 3]
  (.seq (.reg none [⟨some 10, none, .q (.ld (some 26) (.t 3))⟩, ⟨none, none, .m (.st 26 (.t 2) (.t 10))⟩])
  .ret)))))))
theorem r24 : (Tryd.f24.body.bind (resC Tryd.prog Tryd.f24.ntmps)) = some (strip c24) := by kernel_rfl
theorem s24 : Tryd.f24.results.toList.mapM (resRes Tryd.prog) = some [.c 2 (some 26)] := by kernel_rfl
def c9 : ACode :=
  (.seq (.reg none [⟨some 2, none, .q (.mv (.c .nil))⟩])
  (.keep [0]
  (.seq (.reg none [⟨some 3, none, .q (.mv (.c .nil))⟩])
  (.keep [0, 3]
  (.seq (.gst (.nilT 3 26)
    (.reg none [⟨some 4, none, .q (.mv (.t 3))⟩, ⟨some 5, none, .q (.mv (.t 0))⟩, ⟨some 6, none, .m (.app 26 208 (.t 4) (.t 5))⟩, ⟨some 2, none, .q (.mv (.t 6))⟩]))
  .ret)))))
theorem r9 : (Tryd.f9.body.bind (resC Tryd.prog Tryd.f9.ntmps)) = some (strip c9) := by kernel_rfl
theorem s9 : Tryd.f9.results.toList.mapM (resRes Tryd.prog) = some [.t 2] := by kernel_rfl
def yiE (g : Int) : Ev := ⟨g, 0, 0, 64, 0, 0, 0, ⟨5, g, true⟩, .zero, .zero, .zero, .zero, .zero, 1⟩
theorem yield_p (g : Int) : PureS Tryd.prog 24 [.i .i64 g] (.g (yiE g).row) := by
  refine fun_go hmx Tryd.func24 r24 s24 (by rw [Tryd.ntmps24]; simp) ?_
  unfold c24
  simp
  rfl
theorem own_p (t : List Ev) (ht : t.length ≤ 676622540169) : Own1 Tryd.prog 9 [.sl 26 (t.map Ev.row)] 26 (t.map Ev.row) := by
  unfold Own1
  refine fun_go hmx Tryd.func9 r9 s9 (by rw [Tryd.ntmps9]; simp) ?_
  unfold c9
  simp
  omega
theorem yi_right : checkT [yiE 1, yiE 0] = 0 := by decide
end Go.Sc.Or
/- Chapter 13: how many orders a trace has. No condition. -/
set_option linter.constructorNameAsVariable false
namespace Go.Sc.Or
open Go Go.RowKit Go.Av Go.Proofs Go.Sc
set_option linter.unusedSimpArgs false
set_option linter.unusedVariables false
def c25 : ACode :=
  (.seq (.reg none [⟨some 4, none, .q (.mv (.c (.i .i64 0)))⟩, ⟨some 5, none, .q (.mv (.c (.i .i64 0)))⟩])
  (.keep [0, 1]
  (.seq (.seq (.reg none [⟨some 22, none, .q (.mv (.t 0))⟩, ⟨some 23, none, .call (.f 15) [(.t 22)]⟩, ⟨some 6, none, .q (.mv (.t 23))⟩])
    (.keep [0, 1, 6]
    (.seq (.reg none [⟨some 24, none, .q (.mv (.t 6))⟩, ⟨some 25, none, .q (.bin .neq (.t 24) (.c (.i .i64 0)))⟩])
    (.keep [0, 1, 6, 25]
    (.cond (.t 25) (.seq (.reg none [⟨some 26, none, .q (.mv (.t 6))⟩, ⟨some 4, none, .q (.mv (.c (.i .i64 0)))⟩, ⟨some 5, none, .q (.mv (.t 26))⟩])
      .ret)
    .skip)))))
  (.seq (.seq (.reg none [⟨some 27, none, .q (.mv (.t 1))⟩, ⟨some 28, none, .q (.bin .lss (.t 27) (.c (.i .i64 1)))⟩, ⟨some 29, none, .q (.mv (.t 28))⟩, ⟨some 30, some (29, false), .q (.mv (.t 1))⟩, ⟨some 31, some (29, false), .q (.bin .gtr (.t 30) (.c (.i .i64 10000)))⟩, ⟨some 32, none, .pk (.t 29) (.c (.b true)) (.t 31)⟩])
    (.keep [0, 1, 32]
    (.cond (.t 32) (.seq (.reg none [⟨some 4, none, .q (.mv (.c (.i .i64 0)))⟩, ⟨some 5, none, .q (.mv (.c (.i .i64 1)))⟩])
      .ret)
    .skip)))
  (.seq (.reg none [⟨some 34, none, .q (.mv (.t 0))⟩, ⟨some 35, none, .call (.f 43) [(.t 34)]⟩, ⟨some 33, none, .q (.mv (.t 35))⟩, ⟨some 36, none, .q (.ext 0 (.t 33))⟩, ⟨some 37, none, .q (.ext 1 (.t 33))⟩, ⟨some 7, none, .q (.mv (.t 36))⟩, ⟨some 8, none, .q (.mv (.t 37))⟩])
  (.keep [0, 1, 7]
  (.seq (.reg none [⟨some 38, none, .q (.bld [.nil, .nil, .nil, .nil, .nil, .nil] [])⟩, ⟨some 9, none, .m (.alloc (.g [.nil, .nil, .nil, .nil, .nil, .nil]))⟩, ⟨none, none, .m (.st 6 (.t 9) (.t 38))⟩])
  (.gst (.nilC 9 0 1)
  (.gst (.nilC 9 1 1)
  (.gst (.nilC 9 2 1)
  (.gst (.nilC 9 3 1)
  (.gst (.nilC 9 4 1)
  (.gst (.nilC 9 5 1)
  (.keep [0, 1, 7, 9]
  (.seq (.seq (.reg none [⟨some 39, none, .q (.mv (.t 0))⟩, ⟨some 40, none, .q (.len false (.t 39))⟩, ⟨some 41, none, .q (.mv (.c (.i .i64 0)))⟩])
    (.keep [0, 1, 7, 9, 39, 40, 41]
    (.blk 0 (.keep [0, 1, 7, 9, 39, 40, 41]
    (.loop (.fin [0, 1, 7, 9, 39, 40, 41]
      (.seq (.reg none [⟨some 42, none, .q (.bin .lss (.t 41) (.t 40))⟩])
      (.keep [0, 1, 7, 9, 39, 40, 41, 42]
      (.seq (.cond (.t 42) .skip
        (.exit 0))
      (.seq (.blk 1 (.seq (.reg none [⟨some 43, none, .q (.mv (.t 41))⟩, ⟨some 44, none, .q (.ias 26 (.t 39) (.t 41))⟩, ⟨some 45, none, .q (.ld (some 26) (.t 44))⟩, ⟨some 11, none, .m (.alloc (.g [(.i .i64 0), (.i .i64 0), (.i .i64 0), (.i .i64 0), (.i .i64 0), (.i .i64 0), (.i .i64 0), (.i .i64 0), (.i .i64 0), (.b false), (.i .i64 0), (.i .i64 0), (.b false), (.i .i64 0), (.i .i64 0), (.b false), (.i .i64 0), (.i .i64 0), (.b false), (.i .i64 0), (.i .i64 0), (.b false), (.i .i64 0), (.i .i64 0), (.b false), (.i .i64 0)]))⟩, ⟨some 10, none, .q (.mv (.t 43))⟩, ⟨none, none, .m (.st 26 (.t 11) (.t 45))⟩])
        (.keep [0, 1, 7, 9, 10, 11, 39, 40, 41]
        (.reg (some (7, [0, 1, 2, 3, 4, 5])) [⟨some 46, none, .q (.fa 0 (.t 11))⟩, ⟨some 47, none, .q (.ld none (.t 46))⟩, ⟨some 48, none, .q (.fa 0 (.t 11))⟩, ⟨some 49, none, .q (.ld none (.t 48))⟩, ⟨some 50, none, .q (.iaa 6 1 (.t 9) (.t 49))⟩, ⟨some 51, none, .q (.ld none (.t 50))⟩, ⟨some 52, none, .q (.mv (.t 10))⟩, ⟨some 53, none, .m (.bsl 1 1 [(.i .i64 0)] [(0, 1, .t 52)])⟩, ⟨some 54, none, .m (.app 1 8 (.t 51) (.t 53))⟩, ⟨some 55, none, .q (.iaa 6 1 (.t 9) (.t 47))⟩, ⟨none, none, .m (.st 1 (.t 55) (.t 54))⟩]))))
      (.keep [0, 1, 7, 9, 39, 40, 41]
      (.reg none [⟨some 56, none, .q (.bin .add (.t 41) (.c (.i .i64 1)))⟩, ⟨some 41, none, .q (.mv (.t 56))⟩]))))))))))))
  (.seq (.gst (.frzC 9 5)
    (.gst (.frzC 9 4)
    (.gst (.frzC 9 3)
    (.gst (.frzC 9 2)
    (.gst (.frzC 9 1)
    (.gst (.frzC 9 0)
    (.reg none [⟨some 57, none, .m (.mkm)⟩, ⟨some 58, none, .q (.bld [(.i .i64 0), (.i .i64 0), (.i .i64 0), (.i .i64 0), (.i .i64 0), (.i .i64 0)] [])⟩, ⟨none, none, .m (.mup true [.i, .i, .i, .i, .i, .i] (.t 57) (.t 58) (.c (.i .i64 1)))⟩, ⟨some 59, none, .q (.mv (.t 57))⟩, ⟨some 12, none, .q (.mv (.t 59))⟩])))))))
  (.keep [0, 1, 7, 9, 12]
  (.seq (.seq (.reg none [⟨some 60, none, .q (.mv (.t 0))⟩, ⟨some 61, none, .q (.len false (.t 60))⟩, ⟨some 62, none, .q (.mv (.c (.i .i64 0)))⟩])
    (.keep [1, 7, 9, 12, 61, 62]
    (.blk 2 (.keep [1, 7, 9, 12, 61, 62]
    (.loop (.fin [1, 7, 9, 12, 61, 62]
      (.seq (.reg none [⟨some 63, none, .q (.bin .lss (.t 62) (.t 61))⟩])
      (.keep [1, 7, 9, 12, 61, 62, 63]
      (.seq (.cond (.t 63) .skip
        (.exit 2))
      (.seq (.blk 3 (.seq (.reg none [⟨some 64, none, .m (.mkm)⟩, ⟨some 13, none, .q (.mv (.t 64))⟩])
        (.keep [1, 7, 9, 12, 13, 61, 62]
        (.seq (.seq (.reg none [⟨some 65, none, .q (.mv (.t 12))⟩, ⟨some 66, none, .m (.rng (.t 65))⟩])
          (.keep [1, 7, 9, 13, 61, 62, 66]
          (.blk 4 (.keep [1, 7, 9, 13, 61, 62, 66]
          (.loop (.fin [1, 7, 9, 13, 61, 62, 66]
            (.seq (.reg none [⟨some 67, none, .nx (.t 66)⟩, ⟨some 68, none, .q (.ext 0 (.t 67))⟩])
            (.keep [1, 7, 9, 13, 61, 62, 66, 68]
            (.seq (.cond (.t 68) .skip
              (.exit 4))
            (.blk 5 (.seq (.reg none [⟨some 69, none, .q (.ent (.t 66))⟩, ⟨some 70, none, .q (.ext 0 (.t 69))⟩, ⟨some 71, none, .q (.ext 1 (.t 69))⟩, ⟨some 14, none, .m (.alloc (.g [(.i .i64 0), (.i .i64 0), (.i .i64 0), (.i .i64 0), (.i .i64 0), (.i .i64 0)]))⟩, ⟨none, none, .m (.st 6 (.t 14) (.t 70))⟩, ⟨some 15, none, .q (.mv (.t 71))⟩])
            (.keep [1, 7, 9, 13, 14, 15, 61, 62, 66]
            (.seq (.reg none [⟨some 72, none, .q (.ld (some 6) (.t 9))⟩, ⟨some 73, none, .q (.mv (.c (.i .i64 0)))⟩])
            (.keep [1, 7, 9, 13, 14, 15, 61, 62, 66, 72, 73]
            (.blk 6 (.keep [1, 7, 9, 13, 14, 15, 61, 62, 66, 72, 73]
            (.loop (.fin [1, 7, 9, 13, 14, 15, 61, 62, 66, 72, 73]
              (.seq (.reg none [⟨some 74, none, .q (.bin .lss (.t 73) (.c (.i .i64 6)))⟩])
              (.keep [1, 7, 9, 13, 14, 15, 61, 62, 66, 72, 73, 74]
              (.seq (.cond (.t 74) .skip
                (.exit 6))
              (.seq (.blk 7 (.seq (.reg none [⟨some 75, none, .q (.mv (.t 73))⟩, ⟨some 76, none, .q (.idx 6 1 false (.t 72) (.t 73))⟩, ⟨some 16, none, .q (.mv (.t 75))⟩, ⟨some 17, none, .q (.mv (.t 76))⟩])
                (.keep [1, 7, 9, 13, 14, 15, 16, 17, 61, 62, 66, 72, 73]
                (.seq (.seq (.reg none [⟨some 77, none, .q (.mv (.t 16))⟩, ⟨some 78, none, .q (.iaa 6 1 (.t 14) (.t 77))⟩, ⟨some 79, none, .q (.ld none (.t 78))⟩, ⟨some 80, none, .q (.mv (.t 17))⟩, ⟨some 81, none, .q (.len false (.t 80))⟩, ⟨some 82, none, .q (.bin .eql (.t 79) (.t 81))⟩])
                  (.keep [1, 7, 9, 13, 14, 15, 16, 17, 61, 62, 66, 72, 73, 82]
                  (.cond (.t 82) (.exit 7)
                  .skip)))
                (.seq (.reg none [⟨some 83, none, .q (.ld (some 6) (.t 14))⟩, ⟨some 18, none, .m (.alloc (.g [(.i .i64 0), (.i .i64 0), (.i .i64 0), (.i .i64 0), (.i .i64 0), (.i .i64 0)]))⟩, ⟨none, none, .m (.st 6 (.t 18) (.t 83))⟩])
                (.keep [1, 7, 9, 13, 14, 15, 16, 17, 18, 61, 62, 66, 72, 73]
                (.seq (.reg none [⟨some 84, none, .q (.mv (.t 16))⟩, ⟨some 85, none, .q (.iaa 6 1 (.t 18) (.t 84))⟩, ⟨some 86, none, .q (.ld none (.t 85))⟩, ⟨some 87, none, .q (.bin .add (.t 86) (.c (.i .i64 1)))⟩, ⟨some 88, none, .q (.iaa 6 1 (.t 18) (.t 84))⟩, ⟨none, none, .m (.st 1 (.t 88) (.t 87))⟩])
                (.keep [1, 7, 9, 13, 14, 15, 16, 17, 18, 61, 62, 66, 72, 73]
                (.seq (.reg (some (10, [])) [⟨some 89, none, .q (.mv (.t 7))⟩, ⟨some 90, none, .q (.mv (.t 17))⟩, ⟨some 91, none, .q (.mv (.t 16))⟩, ⟨some 92, none, .q (.iaa 6 1 (.t 14) (.t 91))⟩, ⟨some 93, none, .q (.ld none (.t 92))⟩, ⟨some 94, none, .q (.ias 1 (.t 90) (.t 93))⟩, ⟨some 95, none, .q (.ld none (.t 94))⟩, ⟨some 96, none, .q (.ias 6 (.t 89) (.t 95))⟩, ⟨some 97, none, .q (.ld (some 6) (.t 96))⟩, ⟨some 98, none, .q (.ld (some 6) (.t 18))⟩, ⟨some 99, none, .call (.f 44) [(.t 97), (.t 98)]⟩])
                (.keep [1, 7, 9, 13, 14, 15, 18, 61, 62, 66, 72, 73, 99]
                (.cond (.t 99) (.reg (some (9, [])) [⟨some 100, none, .q (.mv (.t 13))⟩, ⟨some 101, none, .q (.ld (some 6) (.t 18))⟩, ⟨some 102, none, .q (.mv (.t 13))⟩, ⟨some 103, none, .q (.ld (some 6) (.t 18))⟩, ⟨some 104, none, .q (.mlk true false [.i, .i, .i, .i, .i, .i] (.i .i64 0) (.t 102) (.t 103))⟩, ⟨some 105, none, .q (.mv (.t 15))⟩, ⟨some 106, none, .q (.bin .add (.t 104) (.t 105))⟩, ⟨some 107, none, .q (.mv (.t 1))⟩, ⟨some 108, none, .q (.mx false (.t 106) (.t 107))⟩, ⟨none, none, .m (.mup true [.i, .i, .i, .i, .i, .i] (.t 100) (.t 101) (.t 108))⟩])
                .skip)))))))))))
              (.keep [1, 7, 9, 13, 14, 15, 61, 62, 66, 72, 73]
              (.reg none [⟨some 109, none, .q (.bin .add (.t 73) (.c (.i .i64 1)))⟩, ⟨some 73, none, .q (.mv (.t 109))⟩]))))))))))))))))))))))))
        (.reg none [⟨some 110, none, .q (.mv (.t 13))⟩, ⟨some 12, none, .q (.mv (.t 110))⟩])))))
      (.keep [1, 7, 9, 12, 61, 62]
      (.reg none [⟨some 111, none, .q (.bin .add (.t 62) (.c (.i .i64 1)))⟩, ⟨some 62, none, .q (.mv (.t 111))⟩]))))))))))))
  (.seq (.reg none [⟨some 19, none, .q (.mv (.c (.i .i64 0)))⟩])
  (.keep [1, 12, 19]
  (.seq (.seq (.reg none [⟨some 112, none, .q (.mv (.t 12))⟩, ⟨some 113, none, .m (.rng (.t 112))⟩])
    (.keep [1, 19, 113]
    (.blk 8 (.keep [1, 19, 113]
    (.loop (.fin [1, 19, 113]
      (.seq (.reg none [⟨some 114, none, .nx (.t 113)⟩, ⟨some 115, none, .q (.ext 0 (.t 114))⟩])
      (.keep [1, 19, 113, 115]
      (.seq (.cond (.t 115) .skip
        (.exit 8))
      (.blk 9 (.seq (.reg none [⟨some 116, none, .q (.ent (.t 113))⟩, ⟨some 117, none, .q (.ext 1 (.t 116))⟩, ⟨some 21, none, .q (.mv (.t 117))⟩])
      (.keep [1, 19, 21, 113]
      (.reg none [⟨some 118, none, .q (.mv (.t 19))⟩, ⟨some 119, none, .q (.mv (.t 21))⟩, ⟨some 120, none, .q (.bin .add (.t 118) (.t 119))⟩, ⟨some 121, none, .q (.mv (.t 1))⟩, ⟨some 122, none, .q (.mx false (.t 120) (.t 121))⟩, ⟨some 19, none, .q (.mv (.t 122))⟩])))))))))))))
  (.seq (.reg none [⟨some 123, none, .q (.mv (.t 19))⟩, ⟨some 4, none, .q (.mv (.t 123))⟩, ⟨some 5, none, .q (.mv (.c (.i .i64 0)))⟩])
  .ret))))))))))))))))))))))
theorem r25 : (Tryd.f25.body.bind (resC Tryd.prog Tryd.f25.ntmps)) = some (strip c25) := by kernel_rfl
theorem s25 : Tryd.f25.results.toList.mapM (resRes Tryd.prog) = some [.t 4, .t 5] := by kernel_rfl
def ownV (v : Nat → Nat) : List RV := (List.range 6).map fun g => .os (g + 1) (v g)
def ownA (t : List Ev) (v : Nat → Nat) (k : Nat) : List AObj := (List.range 6).map fun g => .arr (v g) 1 (vrows ((selTo (fun i => decide (goN t i = g)) k).map nrow))
@[simp] theorem ownV_length (v : Nat → Nat) : (ownV v).length = 6 := by simp [ownV]
@[simp] theorem ownA_length (t : List Ev) (v : Nat → Nat) (k : Nat) : (ownA t v k).length = 6 := by simp [ownA]
@[simp] theorem ownV_at {v : Nat → Nat} {g : Nat} (h : g < (ownV v).length) : (ownV v)[g] = .os (g + 1) (v g) := by simp [ownV]
@[simp] theorem ownA_at {t : List Ev} {v : Nat → Nat} {k g : Nat} (h : g < (ownA t v k).length) : (ownA t v k)[g] = .arr (v g) 1 (vrows ((selTo (fun i => decide (goN t i = g)) k).map nrow)) := by simp [ownA]
theorem ownV_set (v : Nat → Nat) (g n : Nat) : (ownV v).set g (.os (g + 1) n) = ownV fun x => if x = g then n else v x := by
  apply List.ext_getElem (by simp)
  intro x h1 h2
  rw [List.getElem_set, ownV_at, ownV_at]
  by_cases e : g = x
  · subst e; simp
  · rw [if_neg e, if_neg (fun h => e h.symm)]
theorem ownA_set (t : List Ev) (v : Nat → Nat) (k n : Nat) : (ownA t v k).set (goN t k) (.arr n 1 (vrows ((selTo (fun i => decide (goN t i = goN t k)) k).map nrow) ++ [[.v (.i .i64 (k : Int))]])) = ownA t (fun x => if x = goN t k then n else v x) (k + 1) := by
  apply List.ext_getElem (by simp)
  intro x h1 h2
  rw [List.getElem_set, ownA_at, ownA_at, selTo_succ]
  by_cases e : goN t k = x
  · subst e; simp [vrows, nrow]
  · rw [if_neg e, if_neg (fun h => e h.symm)]; simp [e]
theorem own_low (t : List Ev) (v : Nat → Nat) (k : Nat) : lowH 7 (.var (ownV v) :: ownA t v k) := by
  rw [lowH_cons]
  refine ⟨?_, fun ob hob => ?_⟩
  · simp only [AObj.dom, domL_mem]
    intro x hx
    obtain ⟨g, hg, rfl⟩ := List.mem_map.1 hx
    have := List.mem_range.1 hg
    simp only [RV.dom]; omega
  · obtain ⟨g, hg, rfl⟩ := List.mem_map.1 hob
    simp
theorem ownV_all (v : Nat → Nat) : ownV v = [.os 1 (v 0), .os 2 (v 1), .os 3 (v 2), .os 4 (v 3), .os 5 (v 4), .os 6 (v 5)] := rfl
theorem ownA_all (t : List Ev) (v : Nat → Nat) : ownA t v t.length = [.arr (v 0) 1 (vrows ((ownL t 0).map nrow)), .arr (v 1) 1 (vrows ((ownL t 1).map nrow)), .arr (v 2) 1 (vrows ((ownL t 2).map nrow)), .arr (v 3) 1 (vrows ((ownL t 3).map nrow)), .arr (v 4) 1 (vrows ((ownL t 4).map nrow)), .arr (v 5) 1 (vrows ((ownL t 5).map nrow))] := rfl
theorem ownV_nil : ownV (fun _ => 0) = [.os 1 0, .os 2 0, .os 3 0, .os 4 0, .os 5 0, .os 6 0] := rfl
theorem ownA_nil (t : List Ev) : ownA t (fun _ => 0) 0 = [.arr 0 1 [], .arr 0 1 [], .arr 0 1 [], .arr 0 1 [], .arr 0 1 [], .arr 0 1 []] := rfl
theorem ev_put (e : Ev) {l : List RV} (h : l.length = 26) : putAll l 0 (e.row.map RV.v) = e.row.map RV.v := putAll_all (by simp [h])
theorem ev_go (e : Ev) : (e.row.map RV.v)[0]? = some (.v (.i .i64 e.go)) := rfl
def qrow (m : Nat) (q : Clk × Nat) : AV × AV := (.g (crow q.1), .i .i64 ((min q.2 m : Nat) : Int))
def ownP (t : List Ev) : List AV := (List.range 6).map fun g => .sl 1 ((ownL t g).map nrow)
@[simp] theorem ownP_length (t : List Ev) : (ownP t).length = 6 := by simp [ownP]
@[simp] theorem ownP_at {t : List Ev} {g : Nat} (h : g < (ownP t).length) : (ownP t)[g] = .sl 1 ((ownL t g).map nrow) := by simp [ownP]
@[simp] theorem ownP_load (t : List Ev) : ((ownP t).map RV.v |>.take 6).mapM toV = some (ownP t) := by
  rw [List.take_of_length_le (by simp), mapM_toV']
theorem crow_eq {d c : Clk} (hd : d.length = 6) (hc : c.length = 6) : eqK [.i, .i, .i, .i, .i, .i] (.g (crow d)) (.g (crow c)) = decide (c = d) := by
  have := eqA_ints (a := d) (b := c) (by omega)
  rw [hd] at this
  refine this.trans ?_
  rw [decide_eq_decide]
  exact eq_comm
theorem crow_fit {d : Clk} {m : Nat} {qs : List (Clk × Nat)} (hd : d.length = 6) (h6 : ∀ q ∈ qs, q.1.length = 6) : fitM true [.i, .i, .i, .i, .i, .i] (.g (crow d)) (qs.map (qrow m)) := by
  have hi : ∀ (c : Clk), ∀ x ∈ crow c, ∃ z, x = .i .i64 z := fun c x hx => by
    obtain ⟨z, _, rfl⟩ := List.mem_map.1 hx
    exact ⟨z, rfl⟩
  refine ⟨rfl, by simp [keyL, hd], fun p hp => ?_⟩
  obtain ⟨q, hq, rfl⟩ := List.mem_map.1 hp
  exact ⟨rfl, fitA_ints (n := 6) (hi d) (hi q.1) (by show (crow d).length = 6; simp [hd]) (by show (crow q.1).length = 6; simp [h6 q hq])⟩
def oldQ (m : Nat) (d : Clk) : List (Clk × Nat) → Nat
  | [] => 0
  | q :: qs => if q.1 = d then min q.2 m else oldQ m d qs
theorem oldQ_le (m : Nat) (d : Clk) : ∀ qs, oldQ m d qs ≤ m
  | [] => Nat.zero_le _
  | q :: qs => by rw [oldQ]; split <;> first | omega | exact oldQ_le m d qs
theorem get_q {m : Nat} {d : Clk} (hd : d.length = 6) : ∀ {qs : List (Clk × Nat)}, (∀ q ∈ qs, q.1.length = 6) → mget [.i, .i, .i, .i, .i, .i] (.i .i64 0) (.g (crow d)) (qs.map (qrow m)) = .i .i64 (oldQ m d qs : Nat)
  | [], _ => rfl
  | q :: qs, h => by
    rw [List.map_cons, mget_cons, oldQ, qrow, crow_eq hd (h q (by simp))]
    by_cases e : q.1 = d
    · simp [e]
    · simp only [e, decide_false, Bool.false_eq_true, if_false]
      exact get_q hd fun y hy => h y (by simp [hy])
theorem put_q {m w : Nat} {d : Clk} (hd : d.length = 6) : ∀ {qs : List (Clk × Nat)}, (∀ q ∈ qs, q.1.length = 6) → mput [.i, .i, .i, .i, .i, .i] (.g (crow d)) (.i .i64 ((min (oldQ m d qs + min w m) m : Nat) : Int)) (qs.map (qrow m)) = (putQ d w qs).map (qrow m)
  | [], _ => by
    simp only [List.map_nil, mput_nil, putQ, List.map_cons, qrow, oldQ]
    rw [show min (0 + min w m) m = min w m by omega]
  | q :: qs, h => by
    rw [List.map_cons, mput_cons, putQ, oldQ, qrow, crow_eq hd (h q (by simp))]
    by_cases e : q.1 = d
    · simp only [e, decide_true, if_true, List.map_cons, qrow]
      rw [show min (min q.2 m + min w m) m = min (q.2 + w) m by omega]
    · simp only [e, decide_false, Bool.false_eq_true, if_false, List.map_cons]
      rw [put_q hd fun y hy => h y (by simp [hy])]
      rfl
theorem seen_more {seen : List Nat} {i n : Nat} (hnd : seen.Nodup) (hsl : ∀ i ∈ seen, i < n) (hi : i < n) (his : i ∉ seen) : (seen ++ [i]).Nodup ∧ (∀ j ∈ seen ++ [i], j < n) ∧ n - (seen ++ [i]).length < n - seen.length := by
  have h1 : (seen ++ [i]).Nodup := by
    rw [List.nodup_append]
    refine ⟨hnd, by simp, fun a ha b hb => ?_⟩
    rw [List.mem_singleton.1 hb]
    exact fun hh => his (hh ▸ ha)
  have h2 : ∀ j ∈ seen ++ [i], j < n := fun j hj => by
    rcases List.mem_append.1 hj with hj | hj
    · exact hsl j hj
    · rw [List.mem_singleton.1 hj]; exact hi
  have := List.Nodup.length_le_of_subset h1 (l₂ := List.range n) fun j hj => List.mem_range.2 (h2 j hj)
  refine ⟨h1, h2, ?_⟩
  simp at this ⊢
  omega
def cntR (t : List Ev) (most : Int) : AV := if checkT t = 0 then (if 1 ≤ most ∧ most ≤ 10000 then .tup [.i .i64 (min (allW t : Int) most), .i .i64 0] else .tup [.i .i64 0, .i .i64 1]) else .tup [.i .i64 0, .i .i64 (checkT t)]
theorem count_p (t : List Ev) (most : Int) (ht : t.length < 1000000000000) : PureS Tryd.prog 25 [.sl 26 (t.map Ev.row), .i .i64 most] (cntR t most) := by
  refine fun_go hmx Tryd.func25 r25 s25 (by rw [Tryd.ntmps25]; simp) ?_
  unfold c25
  simp
  first
    | refine callk rfl Tryd.call15 (check_p t (by omega)) rfl ?_
    | refine callks rfl Tryd.call15 (check_p t (by omega)) rfl ?_
    | refine callq rfl Tryd.call15 (check_p t (by omega)) rfl ?_
    | refine callqe rfl Tryd.call15 (check_p t (by omega)) rfl ?_
  unfold cntR
  by_cases h0 : checkT t = 0
  rotate_left
  · simp [h0]
  simp [h0]
  refine ⟨fun hm => ?_, fun hm1 hm2 => ?_⟩
  · omega
  rw [if_pos ⟨hm1, hm2⟩]
  have h := good_of h0
  have hlen := h.len
  first
    | refine callk rfl Tryd.call43 (clocks_all t (by omega)) rfl ?_
    | refine callks rfl Tryd.call43 (clocks_all t (by omega)) rfl ?_
    | refine callq rfl Tryd.call43 (clocks_all t (by omega)) rfl ?_
    | refine callqe rfl Tryd.call43 (clocks_all t (by omega)) rfl ?_
  simp [h0]

  refine go_while hmx 7 (fun (s : Nat × (Nat → Nat)) => [(41, .v (.i .i64 (s.1 : Int)))]) (fun s => .var (ownV s.2) :: ownA t s.2 s.1) (fun s => s.1 ≤ t.length) (fun s => t.length - s.1) (0, fun _ => 0) rfl (by simp) rfl (by simp) (by simp) (fun s => own_low t s.2 s.1) (Nat.zero_le _) ?_
  rintro ⟨k, v⟩ hk
  simp only at hk
  by_cases hkl : k < t.length
  · have hI : (k : Int) < (t.length : Int) := by omega
    have hw : IntKind.i64.wrap ((k : Int) + 1) = (k : Int) + 1 := wrap_in (by omega) (by omega)
    have hgo := h.go hkl
    obtain ⟨g, hg⟩ : ∃ g : Nat, (t.getD k default).go = (g : Int) := ⟨(t.getD k default).go.toNat, by omega⟩
    have hgn : goN t k = g := by unfold goN; omega
    rw [hg] at hgo
    simp only [Int.toNat_natCast] at hgo
    have hgi : t.getD k default = t[k] := by rw [List.getD_eq_getElem?_getD, List.getElem?_eq_getElem hkl]; rfl
    rw [hgi] at hg
    have hg6 := hgo.2
    have he0 : ∀ (h : 0 < t[k].row.length), t[k].row[0] = .i .i64 (g : Int) := fun _ => by show AV.i .i64 t[k].go = _; rw [hg]
    have hap : ∀ X, (ownA t v k ++ X)[g]? = some (.arr (v g) 1 (vrows ((selTo (fun i => decide (goN t i = g)) k).map nrow))) := fun X => by
      rw [List.getElem?_append_left (by simpa using hg6)]; simp [hg6]
    have hgi6 : (g : Int) < 6 := by omega
    simp [hI, hkl, ev_put, he0, hg6, hap, hgi6]
    have hsl := selTo_len (fun i => decide (goN t i = g)) k
    refine ⟨by omega, by omega, k + 1, hw, ⟨_, ownV_set v g _, ?_⟩, by omega, by omega⟩
    have := ownA_set t v k (v g + 1)
    rw [hgn] at this
    exact this
  · obtain rfl : k = t.length := by omega
    rw [ownV_all, ownA_all]
    obtain ⟨m, rfl⟩ : ∃ m : Nat, most = (m : Int) := ⟨most.toNat, by omega⟩
    simp [fitM, mput, mfind, isG, keyL]
    have hm0 : 1 ≤ m := by omega
    refine go_grow hmx 8 (fun (s : Nat × List AObj × List (Clk × Nat)) => [(12, .pt (s.2.1.length + 7) 0 0 0), (62, .v (.i .i64 (s.1 : Int)))]) (fun s => .var ((ownP t).map RV.v) :: .none :: .none :: .none :: .none :: .none :: .none :: (s.2.1 ++ [.xo .mp (Av.mrow (s.2.2.map (qrow m)))]))
      (fun s => s.1 ≤ t.length ∧ (∀ q ∈ s.2.2, CutOk t s.1 q.1) ∧ Wt t (t.length - s.1) s.2.2 = allW t ∧ ∀ ob ∈ s.2.1, ∀ p, ob.dom p) (fun s => t.length - s.1) (0, [], [(zeroC, 1)]) rfl (by simp) ?_ (by simp) (by simp) (by simp) ?_ ?_ ?_
    · show _ = AObj.var ((ownP t).map RV.v) :: .none :: .none :: .none :: .none :: .none :: .none :: ([] ++ [.xo .mp (Av.mrow ([(zeroC, 1)].map (qrow m)))])
      simp only [List.map_cons, List.map_nil, qrow, Nat.min_eq_left hm0]
      rfl
    · rintro ⟨r, pre, qs⟩ ⟨_, _, _, hpre⟩
      simp [RV.dom]
      exact fun ob hob => hpre ob hob _
    · refine ⟨Nat.zero_le _, fun q hq => ?_, ?_, fun ob hob => by simp at hob⟩
      · rw [List.mem_singleton.1 hq]; exact CutOk.zero t
      · simp only [Wt, cut_zero, allW, Nat.sub_zero]; omega
    rintro ⟨r, pre, qs⟩ ⟨hr, hq, hW, hpre⟩
    simp only at hr hq hW hpre
    by_cases hrl : r < t.length
    · have hI : (r : Int) < (t.length : Int) := by omega
      have hw : IntKind.i64.wrap ((r : Int) + 1) = (r : Int) + 1 := wrap_in (by omega) (by omega)
      simp [hI]
      refine go_while hmx (pre.length + 10) (fun (_ : List (Clk × Nat) × List Nat) => []) (fun s => .var ((ownP t).map RV.v) :: .none :: .none :: .none :: .none :: .none :: .none :: (pre ++ [.xo .mp (Av.mrow (qs.map (qrow m))), .xo .mp (Av.mrow (s.1.map (qrow m))), .xo (.it qs.length s.2) [.pt (pre.length + 7) 0 0 0]]))
        (fun s => (∀ q ∈ s.1, CutOk t (r + 1) q.1) ∧ s.2.Nodup ∧ (∀ i ∈ s.2, i < qs.length) ∧ Wt t (t.length - (r + 1)) s.1 = (s.2.map fun i => (qs.getD i ([], 0)).2 * waysT t (t.length - r) (cutP t (qs.getD i ([], 0)).1)).sum) (fun s => qs.length - s.2.length) ([], []) (by simp) (by simp) rfl (by simp) (by simp) ?_ ?_ ?_
      · intro b
        simp [RV.dom]
        exact fun ob hob => hpre ob hob _
      · exact ⟨fun q hq => by simp at hq, List.nodup_nil, fun i hi => by simp at hi, rfl⟩
      rintro ⟨q2, seen⟩ ⟨hq2, hnd, hsl, hW2⟩
      simp only at hq2 hnd hsl hW2
      simp
      refine ⟨fun hall => ?_, fun i hi his => ?_⟩
      · have hk1 : t.length - r = t.length - (r + 1) + 1 := by omega
        refine ⟨r + 1, pre ++ [.xo .mp (Av.mrow (qs.map (qrow m)))], ⟨by simp, hw⟩, q2, ?_, ⟨by omega, fun a b hab => hq2 (a, b) hab, ?_, ?_⟩, by omega⟩
        · rw [List.length_append, List.length_singleton, Nat.add_assoc, take_more]
          simp
        · rw [hW2, sum_seen hnd hsl hall, ← Wt_get, hW]
        · intro ob hob p
          rcases List.mem_append.1 hob with hob | hob
          · exact hpre ob hob p
          · rw [List.mem_singleton.1 hob]; simp
      · obtain ⟨c, w, hcw⟩ : ∃ c w, qs[i] = (c, w) := ⟨qs[i].1, qs[i].2, rfl⟩
        have hc : CutOk t r c := by have := hq qs[i] (List.getElem_mem hi); rw [hcw] at this; exact this
        have hc6 := hc.len
        simp [hcw, qrow, hi, hc6]
        refine go_while hmx (pre.length + 11) (fun (s : Nat × List (Clk × Nat)) => [(73, .v (.i .i64 (s.1 : Int)))]) (fun s => .var ((ownP t).map RV.v) :: .none :: .none :: .none :: .none :: .none :: .none :: (pre ++ [.xo .mp (Av.mrow (qs.map (qrow m))), .xo .mp (Av.mrow (s.2.map (qrow m))), .xo (.it qs.length (seen ++ [i])) [.pt (pre.length + 7) 0 0 0], .var (avs (AV.i .i64) c)]))
          (fun s => s.1 ≤ 6 ∧ (∀ q ∈ s.2, CutOk t (r + 1) q.1) ∧ Wt t (t.length - (r + 1)) s.2 = Wt t (t.length - (r + 1)) q2 + w * sumTo (stepW t (t.length - (r + 1)) c) s.1) (fun s => 6 - s.1) (0, q2) (by simp) (by simp) ?_ (by simp) (by simp) ?_ ⟨Nat.zero_le _, hq2, by simp [sumTo]⟩ ?_
        · simp
          exact putAll_all (by simp [hc6])
        · intro b
          simp [RV.dom]
          exact fun ob hob => hpre ob hob _
        rintro ⟨g, q3⟩ ⟨hg, hq3, hW3⟩
        simp only at hg hq3 hW3
        by_cases hgl : g < 6
        · have hgI : (g : Int) < 6 := by omega
          simp [hgI, hgl, hc6]
          have hwg : IntKind.i64.wrap ((g : Int) + 1) = (g : Int) + 1 := wrap_in (by omega) (by omega)
          have hcg : c.getD g 0 = c[g]'(by omega) := by rw [List.getD_eq_getElem?_getD, List.getElem?_eq_getElem (by omega)]; rfl
          have hcn := hc.nn g hgl
          have hco := hc.own g hgl
          rw [hcg] at hcn hco
          have hol := selTo_len (fun i => decide (goN t i = g)) t.length
          have hol : (ownL t g).length ≤ t.length := hol
          refine ⟨fun he => ?_, fun he => ?_⟩
          · refine ⟨g + 1, hwg, q3, List.take_of_length_le (by simp), ⟨by omega, fun a b hab => hq3 (a, b) hab, ?_⟩, by omega⟩
            have hz : stepW t (t.length - (r + 1)) c g = 0 := by
              unfold stepW
              rw [hcg, he, Int.toNat_natCast, List.getElem?_eq_none (Nat.le_refl _)]
            rw [hW3, sumTo, hz]; rfl
          · obtain ⟨x, hx⟩ : ∃ x : Nat, c[g]'(by omega) = (x : Int) := ⟨(c[g]'(by omega)).toNat, by omega⟩
            have hxl : x < (ownL t g).length := by omega
            obtain ⟨e, hoe⟩ : ∃ e, (ownL t g)[x] = e := ⟨_, rfl⟩
            obtain ⟨b1, b2, b3⟩ := own_back (show (ownL t g)[x]? = some e by rw [List.getElem?_eq_getElem hxl, hoe])
            have hclk : ∀ hh, (clk t t.length)[e]'hh = clkAt t e := fun hh => by
              have := stC_low (t := t) b1 (Nat.le_refl _)
              rw [stC_all, List.getElem?_eq_getElem hh] at this
              exact Option.some.inj this
            have hwx : IntKind.i64.wrap ((x : Int) + 1) = (x : Int) + 1 := wrap_in (by omega) (by omega)
            have heI : (e : Int) < (t.length : Int) := by omega
            have hxI : (x : Int) < ((ownL t g).length : Int) := by omega
            have hg5 : g ≤ 5 := by omega
            have hd6 : (c.set g ((x : Int) + 1)).length = 6 := by simp [hc6]
            have htc : List.take 6 (crow (clkAt t e)) = crow (clkAt t e) := List.take_of_length_le (by simp)
            have hq6 : ∀ q ∈ q3, q.1.length = 6 := fun q hq => (hq3 q hq).len
            have hol3 := oldQ_le m (c.set g ((x : Int) + 1)) q3
            have hwo : IntKind.i64.wrap ((oldQ m (c.set g ((x : Int) + 1)) q3 : Int) + (min w m : Nat)) = (oldQ m (c.set g ((x : Int) + 1)) q3 : Int) + (min w m : Nat) := wrap_in (by omega) (by omega)
            have hpc : ∀ {l : List RV}, l.length = 6 → putAll l 0 (avs (AV.i .i64) c) = avs (AV.i .i64) c := fun hl => putAll_all (by simp [hc6, hl])
            simp [take_avs6 hc6, hc6, hgI, hgl, hx, hwx, hxl, hxI, hoe, hclk, b1, heI, hpc, hg5, nrow, take_avs6 hd6, htc]
            first
              | refine callk rfl Tryd.call44 (ready_p (clkAt t e) (c.set g ((x : Int) + 1)) (by simp) (by simp [hc6])) rfl ?_
              | refine callks rfl Tryd.call44 (ready_p (clkAt t e) (c.set g ((x : Int) + 1)) (by simp) (by simp [hc6])) rfl ?_
              | refine callq rfl Tryd.call44 (ready_p (clkAt t e) (c.set g ((x : Int) + 1)) (by simp) (by simp [hc6])) rfl ?_
              | refine callqe rfl Tryd.call44 (ready_p (clkAt t e) (c.set g ((x : Int) + 1)) (by simp) (by simp [hc6])) rfl ?_
            have htk : tickC c g = c.set g ((x : Int) + 1) := by rw [tickC, hcg, hx]
            have hst : stepW t (t.length - (r + 1)) c g = if underTo (clkAt t e) (c.set g ((x : Int) + 1)) 6 then waysT t (t.length - (r + 1)) (cutP t (c.set g ((x : Int) + 1))) else 0 := by
              unfold stepW
              rw [hcg, hx, Int.toNat_natCast, List.getElem?_eq_getElem hxl, hoe, htk]
              rfl
            simp
            refine ⟨fun hu => ?_, fun hu => ?_⟩
            · have hfit : fitM true [.i, .i, .i, .i, .i, .i] (.g (ags (AV.i .i64) (c.set g ((x : Int) + 1)))) (q3.map (qrow m)) := crow_fit hd6 hq6
              have hget : mget [.i, .i, .i, .i, .i, .i] (.i .i64 0) (.g (ags (AV.i .i64) (c.set g ((x : Int) + 1)))) (q3.map (qrow m)) = .i .i64 (oldQ m (c.set g ((x : Int) + 1)) q3 : Nat) := get_q hd6 hq6
              simp [take_avs6 hd6, hc6, hfit, hget, hwo]
              have hva : (if (m : Int) < (oldQ m (c.set g ((x : Int) + 1)) q3 : Int) + (min w m : Nat) then (m : Int) else (oldQ m (c.set g ((x : Int) + 1)) q3 : Int) + (min w m : Nat)) = ((min (oldQ m (c.set g ((x : Int) + 1)) q3 + min w m) m : Nat) : Int) := by split <;> omega
              have hput : mput [.i, .i, .i, .i, .i, .i] (.g (ags (AV.i .i64) (c.set g ((x : Int) + 1)))) (.i .i64 (if (m : Int) < (oldQ m (c.set g ((x : Int) + 1)) q3 : Int) + (min w m : Nat) then (m : Int) else (oldQ m (c.set g ((x : Int) + 1)) q3 : Int) + (min w m : Nat))) (q3.map (qrow m)) = (putQ (c.set g ((x : Int) + 1)) w q3).map (qrow m) := by
                rw [hva]; exact put_q hd6 hq6
              rw [hput]
              have hct := hc.tick hgl (by rw [hcg]; omega)
              rw [htk] at hct
              refine ⟨g + 1, hwg, putQ (c.set g ((x : Int) + 1)) w q3, take_more _ _ 4, ⟨by omega, fun a b hab => putQ_mem (P := CutOk t (r + 1)) hct hq3 (a, b) hab, ?_⟩, by omega⟩
              rw [Wt_put, hW3, sumTo, hst, if_pos hu, Nat.mul_add]; omega
            · refine ⟨g + 1, hwg, q3, take_more _ _ 4, ⟨by omega, fun a b hab => hq3 (a, b) hab, ?_⟩, by omega⟩
              rw [hW3, sumTo, hst, if_neg (by rw [hu]; decide)]; rfl
        · obtain rfl : g = 6 := by omega
          simp
          have hk1 : t.length - r = t.length - (r + 1) + 1 := by omega
          have hwc := ways_cut h hc6 hc.nn (t.length - (r + 1))
          obtain ⟨m1, m2, m3⟩ := seen_more hnd hsl hi his
          refine ⟨q3, seen ++ [i], take_more _ _ 3, ⟨fun a b hab => hq3 (a, b) hab, m1, m2, ?_⟩, m3⟩
          rw [List.map_append, List.sum_append]
          simp only [List.map_cons, List.map_nil, List.sum_cons, List.sum_nil, List.getElem?_eq_getElem hi, Option.getD_some, hcw]
          rw [hk1, hwc, hW3, hW2]
          simp only [hk1, List.getD_eq_getElem?_getD]
          rfl
    · obtain rfl : r = t.length := by omega
      simp
      refine go_while hmx (pre.length + 9) (fun (s : Nat × List Nat) => [(19, .v (.i .i64 ((min s.1 m : Nat) : Int)))]) (fun s => .var ((ownP t).map RV.v) :: .none :: .none :: .none :: .none :: .none :: .none :: (pre ++ [.xo .mp (Av.mrow (qs.map (qrow m))), .xo (.it qs.length s.2) [.pt (pre.length + 7) 0 0 0]]))
        (fun s => s.2.Nodup ∧ (∀ i ∈ s.2, i < qs.length) ∧ s.1 = (s.2.map fun i => (qs.getD i ([], 0)).2 * waysT t 0 (cutP t (qs.getD i ([], 0)).1)).sum) (fun s => qs.length - s.2.length) (0, []) (by simp) (by simp) rfl (by simp) (by simp) ?_ ?_ ?_
      · intro b
        simp [RV.dom]
        exact fun ob hob => hpre ob hob _
      · exact ⟨List.nodup_nil, fun i hi => by simp at hi, rfl⟩
      rintro ⟨all, seen⟩ ⟨hnd, hsl, hW2⟩
      simp only at hnd hsl hW2
      simp
      refine ⟨fun hall => ?_, fun i hi his => ?_⟩
      · rw [hW2, sum_seen hnd hsl hall, ← Wt_get]
        rw [Nat.sub_self] at hW
        rw [hW]; omega
      · obtain ⟨c, w, hcw⟩ : ∃ c w, qs[i] = (c, w) := ⟨qs[i].1, qs[i].2, rfl⟩
        have hwa : IntKind.i64.wrap (((min all m : Nat) : Int) + (min w m : Nat)) = ((min all m : Nat) : Int) + (min w m : Nat) := wrap_in (by omega) (by omega)
        simp [hcw, qrow, hi, hwa]
        obtain ⟨m1, m2, m3⟩ := seen_more hnd hsl hi his
        refine ⟨all + w, by split <;> omega, seen ++ [i], take_more _ _ 2, ⟨m1, m2, ?_⟩, m3⟩
        rw [List.map_append, List.sum_append]
        simp only [List.map_cons, List.map_nil, List.sum_cons, List.sum_nil, List.getElem?_eq_getElem hi, Option.getD_some, hcw]
        rw [hW2]
        simp only [waysT, List.getD_eq_getElem?_getD]
        omega
end Go.Sc.Or
