/- Chapter 03: lists, functions, programs are compared. No condition. -/
import Derived.Test.YtdjcfjfgdblefaaQ03d
import Derived.Test.YtdjcfjfgdblefaaProg
import Derived.KernelRfl
set_option linter.constructorNameAsVariable false
namespace Go.Sc.Q03
open Go Go.RowKit Go.Av Go.Proofs
set_option linter.unusedSimpArgs false
set_option linter.unusedVariables false

/-- scarab/scarabplain.Prog -/
def c10 : ACode :=
  (.seq (.reg none [⟨some 1, none, .m (.box (.t 0))⟩, ⟨some 2, none, .m (.alloc (.g [.nil, (.i .i64 0), .nil, .nil]))⟩])
  (.keep [1, 2]
  (.seq (.reg none [⟨some 3, none, .m (.alloc (.g [.nil, (.i .i64 0), .nil, .nil]))⟩])
  (.gst (.nilC 3 3 4)
  (.keep [1, 2, 3]
  (.seq (.reg none [⟨some 10, none, .q (.fa 1 (.t 1))⟩, ⟨some 11, none, .q (.ld none (.t 10))⟩, ⟨some 12, none, .q (.fa 1 (.t 3))⟩, ⟨none, none, .m (.st 1 (.t 12) (.t 11))⟩])
  (.keep [1, 2, 3]
  (.seq (.reg none [⟨some 13, none, .q (.fa 0 (.t 3))⟩, ⟨some 14, none, .q (.ld none (.t 13))⟩, ⟨some 15, none, .q (.fa 0 (.t 1))⟩, ⟨some 16, none, .q (.ld none (.t 15))⟩, ⟨some 17, none, .m (.app 2 16 (.t 14) (.t 16))⟩, ⟨some 18, none, .q (.fa 0 (.t 3))⟩, ⟨none, none, .m (.st 1 (.t 18) (.t 17))⟩])
  (.keep [1, 2, 3]
  (.seq (.reg none [⟨some 19, none, .q (.fa 2 (.t 3))⟩, ⟨some 20, none, .q (.ld none (.t 19))⟩, ⟨some 21, none, .q (.fa 2 (.t 1))⟩, ⟨some 22, none, .q (.ld none (.t 21))⟩, ⟨some 23, none, .m (.app 1 8 (.t 20) (.t 22))⟩, ⟨some 24, none, .q (.fa 2 (.t 3))⟩, ⟨none, none, .m (.st 1 (.t 24) (.t 23))⟩])
  (.keep [1, 2, 3]
  (.seq (.seq (.reg none [⟨some 25, none, .q (.fa 3 (.t 1))⟩, ⟨some 26, none, .q (.ld none (.t 25))⟩, ⟨some 27, none, .q (.len false (.t 26))⟩, ⟨some 28, none, .q (.mv (.c (.i .i64 0)))⟩])
    (.keep [2, 3, 26, 27, 28]
    (.blk 0 (.keep [2, 3, 26, 27, 28]
    (.loop (.fin [2, 3, 26, 27, 28]
      (.seq (.reg none [⟨some 29, none, .q (.bin .lss (.t 28) (.t 27))⟩])
      (.keep [2, 3, 26, 27, 28, 29]
      (.seq (.cond (.t 29) .skip
        (.exit 0))
      (.seq (.blk 1 (.seq (.reg none [⟨some 30, none, .q (.ias 4 (.t 26) (.t 28))⟩, ⟨some 31, none, .q (.ld (some 4) (.t 30))⟩, ⟨some 5, none, .m (.alloc (.g [(.i .i64 0), (.i .i64 0), .nil, .nil]))⟩, ⟨none, none, .m (.st 4 (.t 5) (.t 31))⟩])
        (.keep [2, 3, 5, 26, 27, 28]
        (.seq (.reg none [⟨some 6, none, .m (.alloc (.g [(.i .i64 0), (.i .i64 0), .nil, .nil]))⟩])
        (.gst (.nilC 6 3 2)
        (.keep [2, 3, 5, 6, 26, 27, 28]
        (.seq (.reg none [⟨some 32, none, .q (.fa 0 (.t 5))⟩, ⟨some 33, none, .q (.ld none (.t 32))⟩, ⟨some 34, none, .q (.fa 0 (.t 6))⟩, ⟨none, none, .m (.st 1 (.t 34) (.t 33))⟩])
        (.keep [2, 3, 5, 6, 26, 27, 28]
        (.seq (.reg none [⟨some 35, none, .q (.fa 1 (.t 5))⟩, ⟨some 36, none, .q (.ld none (.t 35))⟩, ⟨some 37, none, .q (.fa 1 (.t 6))⟩, ⟨none, none, .m (.st 1 (.t 37) (.t 36))⟩])
        (.keep [2, 3, 5, 6, 26, 27, 28]
        (.seq (.reg none [⟨some 38, none, .q (.fa 2 (.t 6))⟩, ⟨some 39, none, .q (.ld none (.t 38))⟩, ⟨some 40, none, .q (.fa 2 (.t 5))⟩, ⟨some 41, none, .q (.ld none (.t 40))⟩, ⟨some 42, none, .m (.app 5 40 (.t 39) (.t 41))⟩, ⟨some 43, none, .q (.fa 2 (.t 6))⟩, ⟨none, none, .m (.st 1 (.t 43) (.t 42))⟩])
        (.keep [2, 3, 5, 6, 26, 27, 28]
        (.seq (.seq (.reg none [⟨some 44, none, .q (.fa 3 (.t 5))⟩, ⟨some 45, none, .q (.ld none (.t 44))⟩, ⟨some 46, none, .q (.len false (.t 45))⟩, ⟨some 47, none, .q (.mv (.c (.i .i64 0)))⟩])
          (.keep [2, 3, 6, 26, 27, 28, 45, 46, 47]
          (.blk 2 (.keep [2, 3, 6, 26, 27, 28, 45, 46, 47]
          (.loop (.fin [2, 3, 6, 26, 27, 28, 45, 46, 47]
            (.seq (.reg none [⟨some 48, none, .q (.bin .lss (.t 47) (.t 46))⟩])
            (.keep [2, 3, 6, 26, 27, 28, 45, 46, 47, 48]
            (.seq (.cond (.t 48) .skip
              (.exit 2))
            (.seq (.blk 3 (.seq (.reg none [⟨some 49, none, .q (.ias 2 (.t 45) (.t 47))⟩, ⟨some 50, none, .q (.ld (some 2) (.t 49))⟩, ⟨some 8, none, .m (.alloc (.g [.nil, (.i .i64 0)]))⟩, ⟨none, none, .m (.st 2 (.t 8) (.t 50))⟩])
              (.keep [2, 3, 6, 8, 26, 27, 28, 45, 46, 47]
              (.seq (.reg none [⟨some 9, none, .m (.alloc (.g [.nil, (.i .i64 0)]))⟩])
              (.keep [2, 3, 6, 8, 9, 26, 27, 28, 45, 46, 47]
              (.seq (.reg none [⟨some 51, none, .q (.fa 1 (.t 8))⟩, ⟨some 52, none, .q (.ld none (.t 51))⟩, ⟨some 53, none, .q (.fa 1 (.t 9))⟩, ⟨none, none, .m (.st 1 (.t 53) (.t 52))⟩])
              (.keep [2, 3, 6, 8, 9, 26, 27, 28, 45, 46, 47]
              (.seq (.reg none [⟨some 54, none, .q (.fa 0 (.t 9))⟩, ⟨some 55, none, .q (.ld none (.t 54))⟩, ⟨some 56, none, .q (.fa 0 (.t 8))⟩, ⟨some 57, none, .q (.ld none (.t 56))⟩, ⟨some 58, none, .m (.app 4 32 (.t 55) (.t 57))⟩, ⟨some 59, none, .q (.fa 0 (.t 9))⟩, ⟨none, none, .m (.st 1 (.t 59) (.t 58))⟩])
              (.keep [2, 3, 6, 9, 26, 27, 28, 45, 46, 47]
              (.reg none [⟨some 60, none, .q (.fa 3 (.t 6))⟩, ⟨some 61, none, .q (.ld none (.t 60))⟩, ⟨some 62, none, .q (.ld (some 2) (.t 9))⟩, ⟨some 63, none, .m (.bsl 1 2 [.nil, (.i .i64 0)] [(0, 2, .t 62)])⟩, ⟨some 64, none, .m (.app 2 32 (.t 61) (.t 63))⟩, ⟨some 65, none, .q (.fa 3 (.t 6))⟩, ⟨none, none, .m (.st 1 (.t 65) (.t 64))⟩]))))))))))
            (.keep [2, 3, 6, 26, 27, 28, 45, 46, 47]
            (.reg none [⟨some 66, none, .q (.bin .add (.t 47) (.c (.i .i64 1)))⟩, ⟨some 47, none, .q (.mv (.t 66))⟩]))))))))))))
        (.gst (.frzC 6 3)
        (.reg none [⟨some 67, none, .q (.fa 3 (.t 3))⟩, ⟨some 68, none, .q (.ld none (.t 67))⟩, ⟨some 69, none, .q (.ld (some 4) (.t 6))⟩, ⟨some 70, none, .m (.bsl 1 4 [(.i .i64 0), (.i .i64 0), .nil, .nil] [(0, 4, .t 69)])⟩, ⟨some 71, none, .m (.app 4 64 (.t 68) (.t 70))⟩, ⟨some 72, none, .q (.fa 3 (.t 3))⟩, ⟨none, none, .m (.st 1 (.t 72) (.t 71))⟩])))))))))))))))
      (.keep [2, 3, 26, 27, 28]
      (.reg none [⟨some 73, none, .q (.bin .add (.t 28) (.c (.i .i64 1)))⟩, ⟨some 28, none, .q (.mv (.t 73))⟩]))))))))))))
  (.seq (.gst (.frzC 3 3)
    (.reg none [⟨some 74, none, .q (.ld (some 4) (.t 3))⟩, ⟨none, none, .m (.st 4 (.t 2) (.t 74))⟩]))
  .ret)))))))))))))
theorem r10 : (Try.f10.body.bind (resC Try.prog Try.f10.ntmps)) = some (strip c10) := by kernel_rfl
theorem s10 : Try.f10.results.toList.mapM (resRes Try.prog) = some [.c 2 (some 4)] := by kernel_rfl

theorem plainProg (p : Prog) (hp : p.Ok) : PureS Try.prog 10 [.g p.row] (.g p.row) := by
  refine fun_go hmx Try.func10 r10 s10 (by rw [Try.ntmps10]; simp) ?_
  unfold c10
  simp [Prog.row]
  refine ⟨⟨by have := hp.fewv; unfold Few at this; omega, by have := hp.fewv.lt (by decide); omega⟩, ⟨by have := hp.fewc; unfold Few at this; omega, by have := hp.fewc.lt (by decide); omega⟩, ?_⟩
  refine go_count hmx 28 0 p.funcs.length (fun i h => ∃ ver K, h = AObj.var (p.row.map .v) :: AObj.var [.v .nil, .v (.i .i64 0), .v .nil, .v .nil] :: AObj.var [.v (.sl 2 (p.vars.map Var.row)), .v (.i .i64 p.locks), .v (.sl 1 (p.chans.map irow)), .os 3 ver] :: AObj.arr ver 4 (vrows ((p.funcs.take i).map Func.row)) :: K) (Nat.zero_le _) (hp.fewf.lt (by decide)) rfl ⟨0, [], rfl⟩ ?_ ?_
  · rintro i hp' - hlt ⟨ver, K, rfl⟩ hw
    have hok := hp.funcs p.funcs[i] (List.getElem_mem hlt)
    generalize hx' : p.funcs[i] = f at *
    simp [hlt, hx', hw, Func.row]
    refine ⟨⟨by have := hok.few; unfold Few at this; omega, by have := hok.few.lt (by decide); omega⟩, ?_⟩
    refine go_count hmx 47 0 f.selects.length (fun j h => ∃ ver2 K2, h = AObj.var (p.row.map .v) :: AObj.var [.v .nil, .v (.i .i64 0), .v .nil, .v .nil] :: AObj.var [.v (.sl 2 (p.vars.map Var.row)), .v (.i .i64 p.locks), .v (.sl 1 (p.chans.map irow)), .os 3 ver] :: AObj.arr ver 4 (vrows (List.take i (List.map Func.row p.funcs))) ::
      (K ++ (AObj.var (f.row.map .v) :: AObj.var [.v (.i .i64 f.params), .v (.i .i64 f.regs), .v (.sl 5 (f.code.map Instr.row)), .os (K.length + 2 + 1 + 1 + 1 + 1) ver2] :: AObj.arr ver2 2 (vrows (List.take j (f.selects.map Select.row))) :: K2))) (Nat.zero_le _) (hok.fews.lt (by decide)) rfl ⟨0, [], rfl⟩ ?_ ?_
    · rintro j hp'' - hlt2 ⟨ver2, K2, rfl⟩ hw2
      have hok2 := hok.sel f.selects[j] (List.getElem_mem hlt2)
      generalize hx2 : f.selects[j] = s at *
      simp [hlt2, hx2, hw2, Select.row]
      have q1 := hok2.few
      have q2 := hok.fews
      unfold Few at q1 q2
      refine ⟨⟨by omega, by omega⟩, ⟨by omega, by omega⟩, vrows_snoc hlt2 ?_⟩
      rw [hx2]
      rfl
    rintro hp'' ⟨ver2, K2, rfl⟩
    simp
    have q1 := hok.few
    have q2 := hp.fewf
    unfold Few at q1 q2
    refine ⟨⟨by omega, by omega⟩, hw, vrows_snoc hlt ?_⟩
    rw [hx']
    simp [Func.row, List.take_of_length_le]
  rintro hp' ⟨ver, K, rfl⟩
  simp
end Go.Sc.Q03
