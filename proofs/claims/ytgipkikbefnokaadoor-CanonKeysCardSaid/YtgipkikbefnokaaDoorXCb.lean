/- Chapter 13: the document's own count. No condition. -/
import Derived.Test.YtgipkikbefnokaaDoorXCa
import Derived.Test.YtgipkikbefnokaaDoorXAv26
import Derived.Test.YtgipkikbefnokaaDoorXEv6
set_option linter.constructorNameAsVariable false
namespace Go.Sc.Or
open Go Go.RowKit Go.Av Go.Proofs Go.Sc
set_option linter.unusedSimpArgs false
set_option linter.unusedVariables false
def frTo (t : List Ev) (p : List Bool) (i j : Nat) : Bool := !p.getD i false && (List.range j).all fun k => p.getD k false || !befT t k i
theorem frTo_succ (t : List Ev) (p : List Bool) (i j : Nat) : frTo t p i (j + 1) = (frTo t p i j && (p.getD j false || !befT t j i)) := by
  simp [frTo, List.range_succ, List.all_append, Bool.and_assoc]
theorem frTo_all (t : List Ev) (p : List Bool) (i : Nat) : frTo t p i i = freeP t p i := rfl
theorem frTo_low {t : List Ev} {p : List Bool} {i j : Nat} (hj : j ≤ i) (h : frTo t p i j = false) : freeP t p i = false := by
  rw [← frTo_all, Bool.eq_false_iff, Ne]
  intro hc
  rw [Bool.eq_false_iff] at h
  refine h ?_
  simp only [frTo, Bool.and_eq_true, List.all_eq_true, List.mem_range] at hc ⊢
  exact ⟨hc.1, fun k hk => hc.2 k (by omega)⟩
end Go.Sc.Or
/- Chapter 13: the canonical order. No condition. -/
set_option linter.constructorNameAsVariable false
namespace Go.Sc.Or
open Go Go.RowKit Go.Av Go.Proofs Go.Sc
set_option linter.unusedSimpArgs false
set_option linter.unusedVariables false
def c42 : ACode :=
  (.seq (.reg none [⟨some 3, none, .q (.mv (.c (.b false)))⟩])
  (.keep [0, 1]
  (.seq (.reg none [⟨some 4, none, .q (.ld none (.t 1))⟩, ⟨some 5, none, .q (.mv (.t 0))⟩, ⟨some 6, none, .q (.ias 1 (.t 4) (.t 5))⟩, ⟨some 7, none, .q (.ld none (.t 6))⟩, ⟨some 8, none, .q (.un .not (.t 7))⟩, ⟨some 3, none, .q (.mv (.t 8))⟩])
  .ret)))
theorem r42 : (Tryd.f42.body.bind (resC Tryd.prog Tryd.f42.ntmps)) = some (strip c42) := by kernel_rfl
theorem s42 : Tryd.f42.results.toList.mapM (resRes Tryd.prog) = some [.t 3] := by kernel_rfl
def c40 : ACode :=
  (.seq (.reg none [⟨some 4, none, .q (.mv (.c (.b false)))⟩])
  (.keep [0, 1, 2]
  (.seq (.reg none [⟨some 5, none, .q (.ld none (.t 1))⟩, ⟨some 6, none, .q (.mv (.t 0))⟩, ⟨some 7, none, .q (.ias 1 (.t 5) (.t 6))⟩, ⟨some 8, none, .q (.ld none (.t 7))⟩, ⟨some 9, none, .q (.un .not (.t 8))⟩, ⟨some 10, none, .q (.mv (.t 9))⟩, ⟨some 11, some (10, true), .q (.ld none (.t 2))⟩, ⟨some 12, some (10, true), .q (.mv (.t 0))⟩, ⟨some 13, some (10, true), .q (.ias 1 (.t 11) (.t 12))⟩, ⟨some 14, some (10, true), .q (.ld none (.t 13))⟩, ⟨some 15, some (10, true), .q (.mkf 42 [(.t 1)])⟩, ⟨some 16, some (10, true), .call (.f 41) [(.t 14), (.t 15)]⟩, ⟨some 17, some (10, true), .q (.un .not (.t 16))⟩, ⟨some 18, none, .pk (.t 10) (.t 17) (.c (.b false))⟩, ⟨some 4, none, .q (.mv (.t 18))⟩])
  .ret)))
theorem r40 : (Tryd.f40.body.bind (resC Tryd.prog Tryd.f40.ntmps)) = some (strip c40) := by kernel_rfl
theorem s40 : Tryd.f40.results.toList.mapM (resRes Tryd.prog) = some [.t 4] := by kernel_rfl
def c20 : ACode :=
  (.seq (.reg none [⟨some 2, none, .q (.mv (.c .nil))⟩])
  (.keep [0]
  (.seq (.reg none [⟨some 9, none, .q (.mv (.t 0))⟩, ⟨some 10, none, .call (.f 39) [(.t 9)]⟩, ⟨some 3, none, .m (.alloc .nil)⟩, ⟨none, none, .m (.st 1 (.t 3) (.t 10))⟩])
  (.keep [0, 3]
  (.seq (.reg none [⟨some 11, none, .q (.mv (.t 0))⟩, ⟨some 12, none, .q (.len false (.t 11))⟩, ⟨some 13, none, .m (.mks 1 1 [(.b false)] (.t 12) (.t 12))⟩, ⟨some 4, none, .m (.alloc .nil)⟩, ⟨none, none, .m (.st 1 (.t 4) (.t 13))⟩])
  (.keep [0, 3, 4]
  (.seq (.reg none [⟨some 14, none, .q (.mkf 40 [(.t 4), (.t 3)])⟩, ⟨some 5, none, .q (.mv (.t 14))⟩])
  (.keep [0, 4, 5]
  (.seq (.reg none [⟨some 6, none, .q (.mv (.c .nil))⟩])
  (.gst (.nilT 6 1)
  (.keep [0, 4, 5, 6]
  (.seq (.seq (.reg none [⟨some 15, none, .q (.mv (.t 0))⟩, ⟨some 16, none, .q (.len false (.t 15))⟩, ⟨some 17, none, .q (.mv (.c (.i .i64 0)))⟩])
    (.keep [0, 4, 5, 6, 16, 17]
    (.blk 0 (.keep [0, 4, 5, 6, 16, 17]
    (.loop (.fin [0, 4, 5, 6, 16, 17]
      (.seq (.reg none [⟨some 18, none, .q (.bin .lss (.t 17) (.t 16))⟩])
      (.keep [0, 4, 5, 6, 16, 17, 18]
      (.seq (.cond (.t 18) .skip
        (.exit 0))
      (.seq (.blk 1 (.seq (.reg none [⟨some 7, none, .q (.mv (.c (.i .i64 (-1))))⟩])
        (.keep [0, 4, 5, 6, 7, 16, 17]
        (.seq (.seq (.reg none [⟨some 19, none, .q (.mv (.t 0))⟩, ⟨some 20, none, .q (.len false (.t 19))⟩, ⟨some 21, none, .q (.mv (.c (.i .i64 0)))⟩])
          (.keep [0, 4, 5, 6, 7, 16, 17, 20, 21]
          (.blk 2 (.keep [0, 4, 5, 6, 7, 16, 17, 20, 21]
          (.loop (.fin [0, 4, 5, 6, 7, 16, 17, 20, 21]
            (.seq (.reg none [⟨some 22, none, .q (.bin .lss (.t 21) (.t 20))⟩])
            (.keep [0, 4, 5, 6, 7, 16, 17, 20, 21, 22]
            (.seq (.cond (.t 22) .skip
              (.exit 2))
            (.seq (.blk 3 (.seq (.reg none [⟨some 23, none, .q (.mv (.t 21))⟩, ⟨some 8, none, .q (.mv (.t 23))⟩])
              (.keep [0, 4, 5, 6, 7, 8, 16, 17, 20, 21]
              (.seq (.rgx 20 [0, 2, 3, 4, 5, 6, 7, 9, 10, 11, 17, 18, 19] [⟨some 24, none, .q (.mv (.t 5))⟩, ⟨some 25, none, .q (.mv (.t 8))⟩, ⟨some 26, none, .call (.t 24) [(.t 25)]⟩, ⟨some 27, none, .q (.mv (.t 26))⟩, ⟨some 28, some (27, true), .q (.mv (.t 7))⟩, ⟨some 29, some (27, true), .q (.bin .lss (.t 28) (.c (.i .i64 0)))⟩, ⟨some 30, some (27, true), .q (.mv (.t 29))⟩, ⟨some 31, some (30, false), .q (.mv (.t 0))⟩, ⟨some 32, some (30, false), .q (.mv (.t 8))⟩, ⟨some 33, some (30, false), .q (.ias 26 (.t 31) (.t 32))⟩, ⟨some 34, some (30, false), .q (.fa 0 (.t 33))⟩, ⟨some 35, some (30, false), .q (.ld none (.t 34))⟩, ⟨some 36, some (30, false), .q (.mv (.t 0))⟩, ⟨some 37, some (30, false), .q (.mv (.t 7))⟩, ⟨some 38, some (30, false), .q (.ias 26 (.t 36) (.t 37))⟩, ⟨some 39, some (30, false), .q (.fa 0 (.t 38))⟩, ⟨some 40, some (30, false), .q (.ld none (.t 39))⟩, ⟨some 41, some (30, false), .q (.bin .lss (.t 35) (.t 40))⟩, ⟨some 42, some (27, true), .pk (.t 30) (.c (.b true)) (.t 41)⟩, ⟨some 43, none, .pk (.t 27) (.t 42) (.c (.b false))⟩])
              (.keep [0, 4, 5, 6, 7, 8, 16, 17, 20, 21, 43]
              (.cond (.t 43) (.reg none [⟨some 44, none, .q (.mv (.t 8))⟩, ⟨some 7, none, .q (.mv (.t 44))⟩])
              .skip))))))
            (.keep [0, 4, 5, 6, 7, 16, 17, 20, 21]
            (.reg none [⟨some 45, none, .q (.bin .add (.t 21) (.c (.i .i64 1)))⟩, ⟨some 21, none, .q (.mv (.t 45))⟩]))))))))))))
        (.seq (.reg none [⟨some 46, none, .q (.ld none (.t 4))⟩, ⟨some 47, none, .q (.mv (.t 7))⟩, ⟨some 48, none, .q (.ias 1 (.t 46) (.t 47))⟩, ⟨none, none, .m (.st 1 (.t 48) (.c (.b true)))⟩])
        (.keep [0, 4, 5, 6, 7, 16, 17]
        (.reg none [⟨some 49, none, .q (.mv (.t 6))⟩, ⟨some 50, none, .q (.mv (.t 7))⟩, ⟨some 51, none, .m (.bsl 1 1 [(.i .i64 0)] [(0, 1, .t 50)])⟩, ⟨some 52, none, .m (.app 1 8 (.t 49) (.t 51))⟩, ⟨some 6, none, .q (.mv (.t 52))⟩])))))))
      (.keep [0, 4, 5, 6, 16, 17]
      (.reg none [⟨some 53, none, .q (.bin .add (.t 17) (.c (.i .i64 1)))⟩, ⟨some 17, none, .q (.mv (.t 53))⟩]))))))))))))
  (.seq (.gst (.letT 6 1)
    (.reg none [⟨some 54, none, .q (.mv (.t 6))⟩, ⟨some 2, none, .q (.mv (.t 54))⟩]))
  .ret)))))))))))))
theorem r20 : (Tryd.f20.body.bind (resCX true Tryd.prog Tryd.f20.ntmps)) = some (strip c20) := by kernel_rfl
theorem s20 : Tryd.f20.results.toList.mapM (resRes Tryd.prog) = some [.t 2] := by kernel_rfl
def c31 : ACode :=
  (.seq (.reg none [⟨some 2, none, .q (.mv (.c .nil))⟩])
  (.keep [0]
  (.seq (.reg none [⟨some 10, none, .q (.mv (.t 0))⟩, ⟨some 11, none, .call (.f 45) [(.t 10)]⟩, ⟨some 3, none, .q (.mv (.t 11))⟩])
  (.keep [0, 3]
  (.seq (.reg none [⟨some 12, none, .q (.mv (.t 0))⟩, ⟨some 13, none, .q (.len false (.t 12))⟩, ⟨some 14, none, .m (.mks 1 1 [(.b false)] (.t 13) (.t 13))⟩, ⟨some 4, none, .q (.mv (.t 14))⟩])
  (.keep [0, 3, 4]
  (.seq (.reg none [⟨some 5, none, .q (.mv (.c .nil))⟩])
  (.gst (.nilT 5 1)
  (.keep [0, 3, 4, 5]
  (.seq (.blk 0 (.keep [0, 3, 4, 5]
    (.loop (.fin [0, 3, 4, 5]
      (.seq (.seq (.reg none [⟨some 15, none, .q (.mv (.t 5))⟩, ⟨some 16, none, .q (.len false (.t 15))⟩, ⟨some 17, none, .q (.mv (.t 0))⟩, ⟨some 18, none, .q (.len false (.t 17))⟩, ⟨some 19, none, .q (.bin .lss (.t 16) (.t 18))⟩])
        (.keep [0, 3, 4, 5, 19]
        (.cond (.t 19) .skip
        (.exit 0))))
      (.blk 1 (.seq (.reg none [⟨some 6, none, .q (.mv (.c (.i .i64 (-1))))⟩])
      (.keep [0, 3, 4, 5, 6]
      (.seq (.seq (.reg none [⟨some 20, none, .q (.mv (.t 0))⟩, ⟨some 21, none, .q (.len false (.t 20))⟩, ⟨some 22, none, .q (.mv (.c (.i .i64 0)))⟩])
        (.keep [0, 3, 4, 5, 6, 21, 22]
        (.blk 2 (.keep [0, 3, 4, 5, 6, 21, 22]
        (.loop (.fin [0, 3, 4, 5, 6, 21, 22]
          (.seq (.reg none [⟨some 23, none, .q (.bin .lss (.t 22) (.t 21))⟩])
          (.keep [0, 3, 4, 5, 6, 21, 22, 23]
          (.seq (.cond (.t 23) .skip
            (.exit 2))
          (.seq (.blk 3 (.seq (.reg none [⟨some 24, none, .q (.mv (.t 22))⟩, ⟨some 7, none, .q (.mv (.t 24))⟩])
            (.keep [0, 3, 4, 5, 6, 7, 21, 22]
            (.seq (.reg none [⟨some 25, none, .q (.mv (.t 4))⟩, ⟨some 26, none, .q (.mv (.t 7))⟩, ⟨some 27, none, .q (.ias 1 (.t 25) (.t 26))⟩, ⟨some 28, none, .q (.ld none (.t 27))⟩, ⟨some 29, none, .q (.un .not (.t 28))⟩, ⟨some 8, none, .q (.mv (.t 29))⟩])
            (.keep [0, 3, 4, 5, 6, 7, 8, 21, 22]
            (.seq (.seq (.reg none [⟨some 9, none, .q (.mv (.c (.i .i64 0)))⟩])
              (.keep [0, 3, 4, 5, 6, 7, 8, 9, 21, 22]
              (.blk 4 (.keep [0, 3, 4, 5, 6, 7, 8, 9, 21, 22]
              (.loop (.fin [0, 3, 4, 5, 6, 7, 8, 9, 21, 22]
                (.seq (.seq (.reg none [⟨some 30, none, .q (.mv (.t 9))⟩, ⟨some 31, none, .q (.mv (.t 7))⟩, ⟨some 32, none, .q (.bin .lss (.t 30) (.t 31))⟩, ⟨some 33, none, .q (.mv (.t 32))⟩, ⟨some 34, some (33, true), .q (.mv (.t 8))⟩, ⟨some 35, none, .pk (.t 33) (.t 34) (.c (.b false))⟩])
                  (.keep [0, 3, 4, 5, 6, 7, 8, 9, 21, 22, 35]
                  (.cond (.t 35) .skip
                  (.exit 4))))
                (.seq (.blk 5 (.reg none [⟨some 38, none, .q (.mv (.t 4))⟩, ⟨some 39, none, .q (.mv (.t 9))⟩, ⟨some 40, none, .q (.ias 1 (.t 38) (.t 39))⟩, ⟨some 41, none, .q (.ld none (.t 40))⟩, ⟨some 42, none, .q (.mv (.t 41))⟩, ⟨some 43, some (42, false), .q (.mv (.t 3))⟩, ⟨some 44, some (42, false), .q (.mv (.t 9))⟩, ⟨some 45, some (42, false), .q (.ias 1 (.t 43) (.t 44))⟩, ⟨some 46, some (42, false), .q (.ld none (.t 45))⟩, ⟨some 47, some (42, false), .q (.mv (.t 7))⟩, ⟨some 48, some (42, false), .q (.ias 1 (.t 46) (.t 47))⟩, ⟨some 49, some (42, false), .q (.ld none (.t 48))⟩, ⟨some 50, some (42, false), .q (.un .not (.t 49))⟩, ⟨some 51, none, .pk (.t 42) (.c (.b true)) (.t 50)⟩, ⟨some 8, none, .q (.mv (.t 51))⟩]))
                (.keep [0, 3, 4, 5, 6, 7, 8, 9, 21, 22]
                (.reg none [⟨some 36, none, .q (.mv (.t 9))⟩, ⟨some 37, none, .q (.bin .add (.t 36) (.c (.i .i64 1)))⟩, ⟨some 9, none, .q (.mv (.t 37))⟩]))))))))))
            (.seq (.reg (some (18, [])) [⟨some 52, none, .q (.mv (.t 8))⟩, ⟨some 53, none, .q (.mv (.t 52))⟩, ⟨some 54, some (53, true), .q (.mv (.t 6))⟩, ⟨some 55, some (53, true), .q (.bin .lss (.t 54) (.c (.i .i64 0)))⟩, ⟨some 56, some (53, true), .q (.mv (.t 55))⟩, ⟨some 57, some (56, false), .q (.mv (.t 0))⟩, ⟨some 58, some (56, false), .q (.mv (.t 7))⟩, ⟨some 59, some (56, false), .q (.ias 26 (.t 57) (.t 58))⟩, ⟨some 60, some (56, false), .q (.fa 0 (.t 59))⟩, ⟨some 61, some (56, false), .q (.ld none (.t 60))⟩, ⟨some 62, some (56, false), .q (.mv (.t 0))⟩, ⟨some 63, some (56, false), .q (.mv (.t 6))⟩, ⟨some 64, some (56, false), .q (.ias 26 (.t 62) (.t 63))⟩, ⟨some 65, some (56, false), .q (.fa 0 (.t 64))⟩, ⟨some 66, some (56, false), .q (.ld none (.t 65))⟩, ⟨some 67, some (56, false), .q (.bin .lss (.t 61) (.t 66))⟩, ⟨some 68, some (53, true), .pk (.t 56) (.c (.b true)) (.t 67)⟩, ⟨some 69, none, .pk (.t 53) (.t 68) (.c (.b false))⟩])
            (.keep [0, 3, 4, 5, 6, 7, 21, 22, 69]
            (.cond (.t 69) (.reg none [⟨some 70, none, .q (.mv (.t 7))⟩, ⟨some 6, none, .q (.mv (.t 70))⟩])
            .skip)))))))))
          (.keep [0, 3, 4, 5, 6, 21, 22]
          (.reg none [⟨some 71, none, .q (.bin .add (.t 22) (.c (.i .i64 1)))⟩, ⟨some 22, none, .q (.mv (.t 71))⟩]))))))))))))
      (.seq (.reg none [⟨some 72, none, .q (.mv (.t 4))⟩, ⟨some 73, none, .q (.mv (.t 6))⟩, ⟨some 74, none, .q (.ias 1 (.t 72) (.t 73))⟩, ⟨none, none, .m (.st 1 (.t 74) (.c (.b true)))⟩])
      (.keep [0, 3, 4, 5, 6]
      (.reg none [⟨some 75, none, .q (.mv (.t 5))⟩, ⟨some 76, none, .q (.mv (.t 6))⟩, ⟨some 77, none, .m (.bsl 1 1 [(.i .i64 0)] [(0, 1, .t 76)])⟩, ⟨some 78, none, .m (.app 1 8 (.t 75) (.t 77))⟩, ⟨some 5, none, .q (.mv (.t 78))⟩]))))))))))))
  (.keep [5]
  (.seq (.reg none [⟨some 79, none, .q (.mv (.t 5))⟩, ⟨some 2, none, .q (.mv (.t 79))⟩])
  .ret))))))))))))
theorem r31 : (Tryd.f31.body.bind (resC Tryd.prog Tryd.f31.ntmps)) = some (strip c31) := by kernel_rfl
theorem s31 : Tryd.f31.results.toList.mapM (resRes Tryd.prog) = some [.t 2] := by kernel_rfl
def c23 : ACode :=
  (.seq (.reg none [⟨some 2, none, .q (.mv (.c .nil))⟩, ⟨some 3, none, .q (.mv (.c (.i .i64 0)))⟩])
  (.keep [0]
  (.seq (.seq (.reg none [⟨some 5, none, .q (.mv (.t 0))⟩, ⟨some 6, none, .call (.f 15) [(.t 5)]⟩, ⟨some 4, none, .q (.mv (.t 6))⟩])
    (.keep [0, 4]
    (.seq (.reg none [⟨some 7, none, .q (.mv (.t 4))⟩, ⟨some 8, none, .q (.bin .neq (.t 7) (.c (.i .i64 0)))⟩])
    (.keep [0, 4, 8]
    (.cond (.t 8) (.seq (.reg none [⟨some 9, none, .q (.mv (.t 4))⟩, ⟨some 2, none, .q (.mv (.c .nil))⟩, ⟨some 3, none, .q (.mv (.t 9))⟩])
      .ret)
    .skip)))))
  (.seq (.reg none [⟨some 10, none, .q (.mv (.t 0))⟩, ⟨some 11, none, .call (.f 20) [(.t 10)]⟩, ⟨some 2, none, .q (.mv (.t 11))⟩, ⟨some 3, none, .q (.mv (.c (.i .i64 0)))⟩])
  .ret))))
theorem r23 : (Tryd.f23.body.bind (resC Tryd.prog Tryd.f23.ntmps)) = some (strip c23) := by kernel_rfl
theorem s23 : Tryd.f23.results.toList.mapM (resRes Tryd.prog) = some [.t 2, .t 3] := by kernel_rfl
theorem frz_var1 {H : List AObj} {o r : Nat} {x : RV} {a : AV} (h : H[o]? = some (.var [x])) (hx : Frz H x a) : Frz H (.pt o 0 r 0) (.pim [a]) := by
  refine .pt (cs' := [a]) h rfl fun j y y' hy hy' => ?_
  match j with
  | 0 => simp at hy hy'; subst hy; subst hy'; exact hx
  | j + 1 => simp at hy
def standV (p : List Bool) : AV := .pim [.sl 1 (p.map brow)]
theorem free1_p (p : List Bool) (j : Nat) (hj : j < p.length) : PureS Tryd.prog 42 [.i .i64 (j : Int), standV p] (.b (!p.getD j false)) := by
  have hJ : (j : Int) < (p.length : Int) := by omega
  have gj : p.getD j false = p[j] := by rw [List.getD_eq_getElem?_getD, List.getElem?_eq_getElem hj]; rfl
  refine fun_go hmx Tryd.func42 r42 s42 (by rw [Tryd.ntmps42]; simp) ?_
  unfold c42
  simp [standV, hj, hJ, brow]
theorem free_p (t : List Ev) (hlt : t.length < 1000) (p : List Bool) (hp : p.length = t.length) (j : Nat) (hj : j < t.length) : PureS Tryd.prog 40 [.i .i64 (j : Int), standV p, .pim [.sl 1 ((List.range t.length).map (prowT t))]] (.b (freeP t p j)) := by
  have hjp : j < p.length := by omega
  have hJ : (j : Int) < (p.length : Int) := by omega
  have hJt : (j : Int) < (t.length : Int) := by omega
  have gj : p.getD j false = p[j] := by rw [List.getD_eq_getElem?_getD, List.getElem?_eq_getElem hjp]; rfl
  have hf : freeP t p j = (!p[j] && !((pastR t j).reverse.any fun i => !p.getD i false)) := by
    rw [Bool.eq_iff_iff, freeP_iff]
    simp only [Bool.and_eq_true, Bool.not_eq_true', List.any_eq_false, List.mem_reverse, mem_past, gj, Bool.not_eq_false]
    refine and_congr_right fun _ => ⟨fun h i hi => ?_, fun h i hi hb => ?_⟩
    · rw [h i (bef_lt hi) hi]
    · simpa using h i hb
  refine fun_go hmx Tryd.func40 r40 s40 (by rw [Tryd.ntmps40]; simp) ?_
  unfold c40
  have hpl : (pastR t j).reverse.length < 1000000 := by
    have := pastD_len (p := fun k => befT t k j) j
    simp [pastR]; omega
  simp [standV, hjp, hJ, hj, hJt, brow, prowT, -List.map_reverse]
  first
    | refine callkg rfl Tryd.call41 rfl (fun _ => (contains_n (pastR t j).reverse hpl 42 [standV p] (fun i => !p.getD i false) (fun n hn => free1_p p n (by have := bef_lt (mem_past.1 (List.mem_reverse.1 hn)); omega)) Tryd.call42)) (fun hG => by first | (simp; done) | (simp at hG; done) | simpa using hG) rfl ?_
    | refine callksg rfl Tryd.call41 rfl (fun _ => (contains_n (pastR t j).reverse hpl 42 [standV p] (fun i => !p.getD i false) (fun n hn => free1_p p n (by have := bef_lt (mem_past.1 (List.mem_reverse.1 hn)); omega)) Tryd.call42)) (fun hG => by first | (simp; done) | (simp at hG; done) | simpa using hG) rfl ?_
    | refine callqg rfl Tryd.call41 rfl (fun _ => (contains_n (pastR t j).reverse hpl 42 [standV p] (fun i => !p.getD i false) (fun n hn => free1_p p n (by have := bef_lt (mem_past.1 (List.mem_reverse.1 hn)); omega)) Tryd.call42)) (fun hG => by first | (simp; done) | (simp at hG; done) | simpa using hG) rfl ?_
  rw [List.any_reverse] at hf
  simp [hf]
theorem form_p (t : List Ev) (h0 : checkT t = 0) : PureS Tryd.prog 20 [.sl 26 (t.map Ev.row)] (.sl 1 ((formT t).map nrow)) := by
  have h := good_of h0
  have hlen := h.len
  refine fun_go hmx Tryd.func20 r20 s20 (by rw [Tryd.ntmps20]; simp) ?_
  unfold c20
  simp
  first
    | refine callk rfl Tryd.call39 (before13_p t h0) rfl ?_
    | refine callks rfl Tryd.call39 (before13_p t h0) rfl ?_
    | refine callq rfl Tryd.call39 (before13_p t h0) rfl ?_
    | refine callqe rfl Tryd.call39 (before13_p t h0) rfl ?_
  simp
  refine ⟨by omega, ?_⟩
  refine go_while hmx 4 (fun (s : Nat × Nat) => [(6, .os 3 s.2), (17, .v (.i .i64 (s.1 : Int)))]) (fun s => [.var [.v (.sl 1 ((List.range t.length).map (prowT t)))], .arr 0 1 (vrows ((plP t (formL t s.1)).map brow)), .var [.os 1 0], .arr s.2 1 (vrows ((formL t s.1).map nrow))]) (fun s => s.1 ≤ t.length) (fun s => t.length - s.1) (0, 0) rfl (by simp) (by simp [formL, plP_nil, vrows, brow]) (by simp [RV.dom]) (by simp) (by simp [RV.dom]) (Nat.zero_le _) ?_
  rintro ⟨k, vo⟩ hk
  simp only at hk
  by_cases hkl : k < t.length
  · have hI : (k : Int) < (t.length : Int) := by omega
    have hw : IntKind.i64.wrap ((k : Int) + 1) = (k : Int) + 1 := wrap_in (by omega) (by omega)
    obtain ⟨h1, h2, h3⟩ := form_step t k hk
    obtain ⟨b, b1, b2, b3, b4, b5⟩ := h3 hkl
    simp [hI]
    refine go_while hmx 4 (fun (j : Nat) => [(7, .v (.i .i64 (bestTo t (plP t (formL t k)) j))), (21, .v (.i .i64 (j : Int)))]) (fun _ => [.var [.v (.sl 1 ((List.range t.length).map (prowT t)))], .arr 0 1 (vrows ((plP t (formL t k)).map brow)), .var [.os 1 0], .arr vo 1 (vrows ((formL t k).map nrow))]) (fun j => j ≤ t.length) (fun j => t.length - j) 0 rfl (by simp [bestTo]) rfl (by simp [RV.dom]) (by simp) (by simp [RV.dom]) (Nat.zero_le _) ?_
    rintro j hj
    by_cases hjl : j < t.length
    · have hJ : (j : Int) < (t.length : Int) := by omega
      have hwj : IntKind.i64.wrap ((j : Int) + 1) = (j : Int) + 1 := wrap_in (by omega) (by omega)
      simp [hJ]
      refine go_x ?_
      simp [RV.dom]
      refine callxz rfl Tryd.call40 (free_p t (by omega) (plP t (formL t k)) (by simp) j hjl) (.b _) ⟨.v _, frz_var1 rfl (frz_rows rfl), frz_var1 rfl (.v _), trivial⟩ ?_
      have hrow : ∀ (i : Nat) (hi : i < t.length) (h : 0 < t[i].row.length), t[i].row[0] = .i .i64 t[i].go := fun _ _ _ => rfl
      have hgo : ∀ (i : Nat) (hi : i < t.length), goI t i = t[i].go := fun i hi => by unfold goI; rw [List.getD_eq_getElem?_getD, List.getElem?_eq_getElem hi]; rfl
      have hbs : bestTo t (plP t (formL t k)) (j + 1) = if freeP t (plP t (formL t k)) j && (decide (bestTo t (plP t (formL t k)) j < 0) || decide (goI t j < goI t (bestTo t (plP t (formL t k)) j).toNat)) then (j : Int) else bestTo t (plP t (formL t k)) j := rfl
      rcases bestTo_is t (plP t (formL t k)) j with ⟨e1, _⟩ | ⟨c, c1, c2, _, _⟩
      · have h0l : 0 < t.length := by omega
        simp [e1, hjl, h0l, hrow, RV.dom]
        rw [e1] at hbs
        refine ⟨fun hf => ⟨j + 1, ⟨?_, hwj⟩, by omega, by omega⟩, fun hf => ⟨j + 1, ⟨?_, hwj⟩, by omega, by omega⟩⟩
        · rw [hbs, hf]; simp
        · rw [hbs, hf]; simp
      · have hcl : c < t.length := by omega
        have hcI : (c : Int) < (t.length : Int) := by omega
        have hcn : ¬ ((c : Int) < 0) := by omega
        rw [c2, Int.toNat_natCast, hgo j hjl, hgo c hcl] at hbs
        simp [c2, hcl, hcI, hcn, hjl, hJ, hrow, RV.dom]
        refine ⟨fun hf hlt => ⟨j + 1, ⟨?_, hwj⟩, by omega, by omega⟩, fun hn => ⟨j + 1, ⟨?_, hwj⟩, by omega, by omega⟩⟩
        · rw [hbs, hf]; simp [hlt]
        · rw [hbs]
          cases hf : freeP t (plP t (formL t k)) j with
          | false => simp
          | true =>
            have := hn hf
            simp [hcn, show ¬ t[j].go < t[c].go by omega]
    · obtain rfl : j = t.length := by omega
      have hbI : (b : Int) < (t.length : Int) := by omega
      simp [b2, b1, hbI, hw, brow, vrows_at]
      refine ⟨by omega, k + 1, vo + 1, ⟨rfl, rfl⟩, ⟨?_, rfl, ?_⟩, by omega, by omega⟩
      · rw [b3, ← plP_set]
        simp [vrows, brow, List.map_set]
      · rw [b3]; simp [vrows, nrow]
  · obtain rfl : k = t.length := by omega
    simp
    rfl
theorem order_p (t : List Ev) (h0 : checkT t = 0) : PureS Tryd.prog 31 [.sl 26 (t.map Ev.row)] (.sl 1 ((formT t).map nrow)) := by
  have h := good_of h0
  have hlen := h.len
  refine pure_of ?_
  refine fun_go hmx Tryd.func31 r31 s31 (by rw [Tryd.ntmps31]; simp) ?_
  unfold c31
  simp
  first
    | refine callk rfl Tryd.call45 (befM_p t h) rfl ?_
    | refine callks rfl Tryd.call45 (befM_p t h) rfl ?_
    | refine callq rfl Tryd.call45 (befM_p t h) rfl ?_
    | refine callqe rfl Tryd.call45 (befM_p t h) rfl ?_
  simp
  refine ⟨by omega, ?_⟩
  refine go_while hmx 2 (fun (s : Nat × Nat) => [(5, .os 1 s.2)]) (fun s => [.arr 0 1 (vrows ((plP t (formL t s.1)).map brow)), .arr s.2 1 (vrows ((formL t s.1).map nrow))]) (fun s => s.1 ≤ t.length) (fun s => t.length - s.1) (0, 0) rfl (by simp) (by simp [formL, plP_nil, vrows, brow]) (by simp [RV.dom]) (by simp) (by simp [RV.dom]) (Nat.zero_le _) ?_
  rintro ⟨k, vo⟩ hk
  simp only at hk
  by_cases hkl : k < t.length
  · have hI : (k : Int) < (t.length : Int) := by omega
    obtain ⟨h1, h2, h3⟩ := form_step t k hk
    obtain ⟨b, b1, b2, b3, b4, b5⟩ := h3 hkl
    simp [hI, hkl]
    refine go_while hmx 2 (fun (j : Nat) => [(6, .v (.i .i64 (bestTo t (plP t (formL t k)) j))), (22, .v (.i .i64 (j : Int)))]) (fun _ => [.arr 0 1 (vrows ((plP t (formL t k)).map brow)), .arr vo 1 (vrows ((formL t k).map nrow))]) (fun j => j ≤ t.length) (fun j => t.length - j) 0 rfl (by simp [bestTo]) rfl (by simp [RV.dom]) (by simp) (by simp [RV.dom]) (Nat.zero_le _) ?_
    rintro j hj
    by_cases hjl : j < t.length
    · have hJ : (j : Int) < (t.length : Int) := by omega
      have hwj : IntKind.i64.wrap ((j : Int) + 1) = (j : Int) + 1 := wrap_in (by omega) (by omega)
      have hp : (plP t (formL t k)).length = t.length := by simp
      generalize plP t (formL t k) = p at *
      have hjp : j < p.length := by omega
      have hJp : (j : Int) < (p.length : Int) := by omega
      simp [hJ, hjl, hjp, hJp, brow, vrows_at]
      refine go_while hmx 2 (fun (i : Nat) => [(8, .v (.b (frTo t p j i))), (9, .v (.i .i64 (i : Int)))]) (fun _ => [.arr 0 1 (vrows (p.map brow)), .arr vo 1 (vrows ((formL t k).map nrow))]) (fun i => i ≤ j) (fun i => j - i) 0 rfl (by simp [frTo, hjp]) rfl (by simp) (by simp) (by simp) (Nat.zero_le _) ?_
      have hrow : ∀ (i : Nat) (hi : i < t.length) (h : 0 < t[i].row.length), t[i].row[0] = .i .i64 t[i].go := fun _ _ _ => rfl
      have hgo : ∀ (i : Nat) (hi : i < t.length), goI t i = t[i].go := fun i hi => by unfold goI; rw [List.getD_eq_getElem?_getD, List.getElem?_eq_getElem hi]; rfl
      have hbs : bestTo t p (j + 1) = if freeP t p j && (decide (bestTo t p j < 0) || decide (goI t j < goI t (bestTo t p j).toNat)) then (j : Int) else bestTo t p j := rfl
      rintro i hi
      have hend : ∀ (f : Bool), freeP t p j = f → True := fun _ _ => trivial
      by_cases hij : i < j
      · have hII : (i : Int) < (j : Int) := by omega
        have hip : i < p.length := by omega
        have hit : i < t.length := by omega
        have hIp : (i : Int) < (p.length : Int) := by omega
        have hIt : (i : Int) < (t.length : Int) := by omega
        have hwi : IntKind.i64.wrap ((i : Int) + 1) = (i : Int) + 1 := wrap_in (by omega) (by omega)
        have gi : p.getD i false = p[i] := by rw [List.getD_eq_getElem?_getD, List.getElem?_eq_getElem hip]; rfl
        have h0l : 0 < t.length := by omega
        rcases bestTo_is t p j with ⟨e1, _⟩ | ⟨c, c1, c2, _, _⟩
        · simp [hII, hip, hIp, brow, vrows_at, matV, mat_at, mrow, hit, hjl, hIt, hJ, e1, h0l, hrow]
          rw [e1] at hbs
          refine ⟨fun hf => ⟨i + 1, ⟨by rw [frTo_succ, hf, gi]; rfl, hwi⟩, by omega, by omega⟩, fun hf => ?_⟩
          simp [hf]
          refine ⟨j + 1, ⟨?_, hwj⟩, by omega, by omega⟩
          rw [hbs, frTo_low hi hf]; simp
        · have hcl : c < t.length := by omega
          have hcI : (c : Int) < (t.length : Int) := by omega
          have hcn : ¬ ((c : Int) < 0) := by omega
          rw [c2, Int.toNat_natCast, hgo j hjl, hgo c hcl] at hbs
          simp [hII, hip, hIp, brow, vrows_at, matV, mat_at, mrow, hit, hjl, hIt, hJ, c2, hcl, hcI, hcn, hrow]
          refine ⟨fun hf => ⟨i + 1, ⟨by rw [frTo_succ, hf, gi]; rfl, hwi⟩, by omega, by omega⟩, fun hf => ?_⟩
          simp [hf]
          refine ⟨j + 1, ⟨?_, hwj⟩, by omega, by omega⟩
          rw [hbs, frTo_low hi hf]; simp
      · obtain rfl : i = j := by omega
        have h0l : 0 < t.length := by omega
        rcases bestTo_is t p i with ⟨e1, _⟩ | ⟨c, c1, c2, _, _⟩
        · simp [frTo_all, e1, h0l, hjl, hrow]
          rw [e1] at hbs
          refine ⟨fun hf => ⟨i + 1, ⟨?_, hwj⟩, by omega, by omega⟩, fun hf => ⟨i + 1, ⟨?_, hwj⟩, by omega, by omega⟩⟩
          · rw [hbs, hf]; simp
          · rw [hbs, hf]; simp
        · have hcl : c < t.length := by omega
          have hcI : (c : Int) < (t.length : Int) := by omega
          have hcn : ¬ ((c : Int) < 0) := by omega
          rw [c2, Int.toNat_natCast, hgo i hjl, hgo c hcl] at hbs
          simp [frTo_all, c2, hcl, hcI, hcn, hjl, hJ, hrow]
          refine ⟨fun hf hlt => ⟨i + 1, ⟨?_, hwj⟩, by omega, by omega⟩, fun hn => ⟨i + 1, ⟨?_, hwj⟩, by omega, by omega⟩⟩
          · rw [hbs, hf]; simp [hlt]
          · rw [hbs]
            cases hf : freeP t p i with
            | false => simp
            | true =>
              have := hn hf
              simp [hcn, show ¬ t[i].go < t[c].go by omega]
    · obtain rfl : j = t.length := by omega
      have hbI : (b : Int) < (t.length : Int) := by omega
      simp [b2, b1, hbI, brow, vrows_at]
      refine ⟨by omega, k + 1, ⟨?_, ?_⟩, by omega, by omega⟩
      · rw [b3, ← plP_set]
        simp [vrows, brow, List.map_set]
      · rw [b3]; simp [vrows, nrow]
  · obtain rfl : k = t.length := by omega
    simp
    exact frz_rows rfl
def formR (t : List Ev) : AV := .tup [if checkT t = 0 then .sl 1 ((formT t).map nrow) else .nil, .i .i64 (checkT t)]
theorem Form_p (t : List Ev) (ht : t.length < 1000000000000) : PureS Tryd.prog 23 [.sl 26 (t.map Ev.row)] (formR t) := by
  unfold formR
  refine fun_go hmx Tryd.func23 r23 s23 (by rw [Tryd.ntmps23]; simp) ?_
  unfold c23
  simp
  first
    | refine callk rfl Tryd.call15 (check_p t (by omega)) rfl ?_
    | refine callks rfl Tryd.call15 (check_p t (by omega)) rfl ?_
    | refine callq rfl Tryd.call15 (check_p t (by omega)) rfl ?_
    | refine callqe rfl Tryd.call15 (check_p t (by omega)) rfl ?_
  by_cases h0 : checkT t = 0
  rotate_left
  · simp [h0]
  simp [h0]
  first
    | refine callk rfl Tryd.call20 (form_p t h0) rfl ?_
    | refine callks rfl Tryd.call20 (form_p t h0) rfl ?_
    | refine callq rfl Tryd.call20 (form_p t h0) rfl ?_
    | refine callqe rfl Tryd.call20 (form_p t h0) rfl ?_
  simp
end Go.Sc.Or
/- Chapter 13: what every statement asks first; every Count. No condition. -/
set_option linter.constructorNameAsVariable false
namespace Go.Sc.Or
open Go Go.RowKit Go.Av Go.Proofs Go.Sc
set_option linter.unusedSimpArgs false
set_option linter.unusedVariables false
def c8 : ACode :=
  (.seq (.reg none [⟨some 0, none, .q (.mv (.c (.b false)))⟩])
  (.keep []
  (.seq (.reg none [⟨some 6, none, .call (.f 24) [(.c (.i .i64 1))]⟩, ⟨some 7, none, .call (.f 24) [(.c (.i .i64 0))]⟩, ⟨some 8, none, .m (.bsl 2 26 [(.i .i64 0), (.i .i64 0), (.i .i64 0), (.i .i64 0), (.i .i64 0), (.i .i64 0), (.i .i64 0), (.i .i64 0), (.i .i64 0), (.b false), (.i .i64 0), (.i .i64 0), (.b false), (.i .i64 0), (.i .i64 0), (.b false), (.i .i64 0), (.i .i64 0), (.b false), (.i .i64 0), (.i .i64 0), (.b false), (.i .i64 0), (.i .i64 0), (.b false), (.i .i64 0)] [(0, 26, .t 6), (26, 26, .t 7)])⟩, ⟨some 9, none, .call (.f 23) [(.t 8)]⟩, ⟨some 5, none, .q (.mv (.t 9))⟩, ⟨some 10, none, .q (.ext 0 (.t 5))⟩, ⟨some 11, none, .q (.ext 1 (.t 5))⟩, ⟨some 1, none, .q (.mv (.t 10))⟩, ⟨some 2, none, .q (.mv (.t 11))⟩])
  (.keep [1, 2]
  (.seq (.reg none [⟨some 13, none, .call (.f 24) [(.c (.i .i64 1))]⟩, ⟨some 14, none, .call (.f 24) [(.c (.i .i64 0))]⟩, ⟨some 15, none, .m (.bsl 2 26 [(.i .i64 0), (.i .i64 0), (.i .i64 0), (.i .i64 0), (.i .i64 0), (.i .i64 0), (.i .i64 0), (.i .i64 0), (.i .i64 0), (.b false), (.i .i64 0), (.i .i64 0), (.b false), (.i .i64 0), (.i .i64 0), (.b false), (.i .i64 0), (.i .i64 0), (.b false), (.i .i64 0), (.i .i64 0), (.b false), (.i .i64 0), (.i .i64 0), (.b false), (.i .i64 0)] [(0, 26, .t 13), (26, 26, .t 14)])⟩, ⟨some 16, none, .call (.f 25) [(.t 15), (.c (.i .i64 9))]⟩, ⟨some 12, none, .q (.mv (.t 16))⟩, ⟨some 17, none, .q (.ext 0 (.t 12))⟩, ⟨some 18, none, .q (.ext 1 (.t 12))⟩, ⟨some 3, none, .q (.mv (.t 17))⟩, ⟨some 4, none, .q (.mv (.t 18))⟩])
  (.keep [1, 2, 3, 4]
  (.seq (.reg none [⟨some 19, none, .q (.mv (.t 2))⟩, ⟨some 20, none, .q (.bin .eql (.t 19) (.c (.i .i64 0)))⟩, ⟨some 21, none, .q (.mv (.t 20))⟩, ⟨some 22, some (21, true), .q (.mv (.t 4))⟩, ⟨some 23, some (21, true), .q (.bin .eql (.t 22) (.c (.i .i64 0)))⟩, ⟨some 24, none, .pk (.t 21) (.t 23) (.c (.b false))⟩, ⟨some 25, none, .q (.mv (.t 24))⟩, ⟨some 26, some (25, true), .q (.mv (.t 3))⟩, ⟨some 27, some (25, true), .q (.bin .eql (.t 26) (.c (.i .i64 2)))⟩, ⟨some 28, none, .pk (.t 25) (.t 27) (.c (.b false))⟩, ⟨some 29, none, .q (.mv (.t 28))⟩, ⟨some 30, some (29, true), .q (.mv (.t 1))⟩, ⟨some 31, some (29, true), .m (.bsl 2 1 [(.i .i64 0)] [(0, 1, .c (.i .i64 1)), (1, 1, .c (.i .i64 0))])⟩, ⟨some 32, some (29, true), .call (.f 26) [(.t 30), (.t 31)]⟩, ⟨some 33, none, .pk (.t 29) (.t 32) (.c (.b false))⟩, ⟨some 0, none, .q (.mv (.t 33))⟩])
  .ret)))))))
theorem r8 : (Tryd.f8.body.bind (resC Tryd.prog Tryd.f8.ntmps)) = some (strip c8) := by kernel_rfl
theorem s8 : Tryd.f8.results.toList.mapM (resRes Tryd.prog) = some [.t 0] := by kernel_rfl
def Yi : List Ev := [yiE 1, yiE 0]
theorem yi_form : formT Yi = [1, 0] := by decide
theorem yi_ways : allW Yi = 2 := by decide
theorem small_p : PureS Tryd.prog 8 [] (.b true) := by
  have hr : checkT Yi = 0 := yi_right
  refine fun_go hmx Tryd.func8 r8 s8 (by rw [Tryd.ntmps8]; simp) ?_
  unfold c8
  simp
  first
    | refine callk rfl Tryd.call24 (yield_p 1) rfl ?_
    | refine callks rfl Tryd.call24 (yield_p 1) rfl ?_
    | refine callq rfl Tryd.call24 (yield_p 1) rfl ?_
    | refine callqe rfl Tryd.call24 (yield_p 1) rfl ?_
  simp
  first
    | refine callk rfl Tryd.call24 (yield_p 0) rfl ?_
    | refine callks rfl Tryd.call24 (yield_p 0) rfl ?_
    | refine callq rfl Tryd.call24 (yield_p 0) rfl ?_
    | refine callqe rfl Tryd.call24 (yield_p 0) rfl ?_
  simp
  simp [yiE, Ev.row, Ev.cells, Acc.row, Acc.zero]
  refine callg1 0 0 [] [] rfl Tryd.call23 (Form_p Yi (by decide)) rfl rfl ?_
  rw [formR, hr, yi_form]
  simp
  first
    | refine callk rfl Tryd.call24 (yield_p 1) rfl ?_
    | refine callks rfl Tryd.call24 (yield_p 1) rfl ?_
    | refine callq rfl Tryd.call24 (yield_p 1) rfl ?_
    | refine callqe rfl Tryd.call24 (yield_p 1) rfl ?_
  simp
  first
    | refine callk rfl Tryd.call24 (yield_p 0) rfl ?_
    | refine callks rfl Tryd.call24 (yield_p 0) rfl ?_
    | refine callq rfl Tryd.call24 (yield_p 0) rfl ?_
    | refine callqe rfl Tryd.call24 (yield_p 0) rfl ?_
  simp [yiE, Ev.row, Ev.cells, Acc.row, Acc.zero]
  refine callg1 1 0 [] [.i .i64 9] rfl Tryd.call25 (count_p Yi 9 (by decide)) rfl rfl ?_
  rw [cntR, hr, yi_ways]
  have hmin : min (2 : Int) 9 = 2 := by decide
  simp [hmin]
  have hs := same_ints [1, 0] [1, 0] (by decide)
  refine callzg rfl Tryd.call26 rfl (fun _ => hs) (.b _) (by simp [obl]) (fun _ => ⟨.v _, Frz.plain rfl, trivial⟩) ?_
  simp
end Go.Sc.Or
