/- Chapter 03: lists copied into memory of their own. No condition. -/
import Derived.Test.YtdjcfjfgdblefaaXSpC
import Derived.Test.YtdjcfjfgdblefaaXLend
import Derived.Test.YtdjcfjfgdblefaaXAv19
set_option linter.constructorNameAsVariable false
namespace Go.Sc.Sp
open Go Go.RowKit Go.Av Go.Proofs Go.Sc Go.Sc.So
set_option linter.unusedSimpArgs false
set_option linter.unusedVariables false
/-- scarab/prog.own[scarab/api.Var] -/
def c31 : ACode :=
  (.seq (.reg none [⟨some 2, none, .q (.mv (.c .nil))⟩])
  (.keep [0]
  (.seq (.reg none [⟨some 3, none, .q (.mv (.t 0))⟩, ⟨some 4, none, .q (.len false (.t 3))⟩, ⟨some 5, none, .m (.mks 2 16 [(.b false), (.i .i64 0)] (.c (.i .i64 0)) (.t 4))⟩, ⟨some 6, none, .q (.mv (.t 0))⟩, ⟨some 7, none, .m (.app 2 16 (.t 5) (.t 6))⟩, ⟨some 2, none, .q (.mv (.t 7))⟩])
  .ret)))
theorem r31 : (Try.f31.body.bind (resC Try.prog Try.f31.ntmps)) = some (strip c31) := by kernel_rfl
theorem s31 : Try.f31.results.toList.mapM (resRes Try.prog) = some [.t 2] := by kernel_rfl
/-- scarab/prog.own[int] -/
def c32 : ACode :=
  (.seq (.reg none [⟨some 2, none, .q (.mv (.c .nil))⟩])
  (.keep [0]
  (.seq (.reg none [⟨some 3, none, .q (.mv (.t 0))⟩, ⟨some 4, none, .q (.len false (.t 3))⟩, ⟨some 5, none, .m (.mks 1 8 [(.i .i64 0)] (.c (.i .i64 0)) (.t 4))⟩, ⟨some 6, none, .q (.mv (.t 0))⟩, ⟨some 7, none, .m (.app 1 8 (.t 5) (.t 6))⟩, ⟨some 2, none, .q (.mv (.t 7))⟩])
  .ret)))
theorem r32 : (Try.f32.body.bind (resC Try.prog Try.f32.ntmps)) = some (strip c32) := by kernel_rfl
theorem s32 : Try.f32.results.toList.mapM (resRes Try.prog) = some [.t 2] := by kernel_rfl
/-- scarab/prog.own[scarab/api.Func] -/
def c33 : ACode :=
  (.seq (.reg none [⟨some 2, none, .q (.mv (.c .nil))⟩])
  (.keep [0]
  (.seq (.reg none [⟨some 3, none, .q (.mv (.t 0))⟩, ⟨some 4, none, .q (.len false (.t 3))⟩, ⟨some 5, none, .m (.mks 4 64 [(.i .i64 0), (.i .i64 0), .nil, .nil] (.c (.i .i64 0)) (.t 4))⟩, ⟨some 6, none, .q (.mv (.t 0))⟩, ⟨some 7, none, .m (.app 4 64 (.t 5) (.t 6))⟩, ⟨some 2, none, .q (.mv (.t 7))⟩])
  .ret)))
theorem r33 : (Try.f33.body.bind (resC Try.prog Try.f33.ntmps)) = some (strip c33) := by kernel_rfl
theorem s33 : Try.f33.results.toList.mapM (resRes Try.prog) = some [.t 2] := by kernel_rfl
/-- scarab/prog.own[scarab/api.Instr] -/
def c34 : ACode :=
  (.seq (.reg none [⟨some 2, none, .q (.mv (.c .nil))⟩])
  (.keep [0]
  (.seq (.reg none [⟨some 3, none, .q (.mv (.t 0))⟩, ⟨some 4, none, .q (.len false (.t 3))⟩, ⟨some 5, none, .m (.mks 5 40 [(.i .i64 0), (.i .i64 0), (.i .i64 0), (.i .i64 0), (.i .i64 0)] (.c (.i .i64 0)) (.t 4))⟩, ⟨some 6, none, .q (.mv (.t 0))⟩, ⟨some 7, none, .m (.app 5 40 (.t 5) (.t 6))⟩, ⟨some 2, none, .q (.mv (.t 7))⟩])
  .ret)))
theorem r34 : (Try.f34.body.bind (resC Try.prog Try.f34.ntmps)) = some (strip c34) := by kernel_rfl
theorem s34 : Try.f34.results.toList.mapM (resRes Try.prog) = some [.t 2] := by kernel_rfl
/-- scarab/prog.own[scarab/api.Select] -/
def c35 : ACode :=
  (.seq (.reg none [⟨some 2, none, .q (.mv (.c .nil))⟩])
  (.keep [0]
  (.seq (.reg none [⟨some 3, none, .q (.mv (.t 0))⟩, ⟨some 4, none, .q (.len false (.t 3))⟩, ⟨some 5, none, .m (.mks 2 32 [.nil, (.i .i64 0)] (.c (.i .i64 0)) (.t 4))⟩, ⟨some 6, none, .q (.mv (.t 0))⟩, ⟨some 7, none, .m (.app 2 32 (.t 5) (.t 6))⟩, ⟨some 2, none, .q (.mv (.t 7))⟩])
  .ret)))
theorem r35 : (Try.f35.body.bind (resC Try.prog Try.f35.ntmps)) = some (strip c35) := by kernel_rfl
theorem s35 : Try.f35.results.toList.mapM (resRes Try.prog) = some [.t 2] := by kernel_rfl
/-- scarab/prog.own[scarab/api.Case] -/
def c36 : ACode :=
  (.seq (.reg none [⟨some 2, none, .q (.mv (.c .nil))⟩])
  (.keep [0]
  (.seq (.reg none [⟨some 3, none, .q (.mv (.t 0))⟩, ⟨some 4, none, .q (.len false (.t 3))⟩, ⟨some 5, none, .m (.mks 4 32 [(.b false), (.i .i64 0), (.i .i64 0), (.i .i64 0)] (.c (.i .i64 0)) (.t 4))⟩, ⟨some 6, none, .q (.mv (.t 0))⟩, ⟨some 7, none, .m (.app 4 32 (.t 5) (.t 6))⟩, ⟨some 2, none, .q (.mv (.t 7))⟩])
  .ret)))
theorem r36 : (Try.f36.body.bind (resC Try.prog Try.f36.ntmps)) = some (strip c36) := by kernel_rfl
theorem s36 : Try.f36.results.toList.mapM (resRes Try.prog) = some [.t 2] := by kernel_rfl
theorem own_var (l : List Var) (hl : Few 16 l) : CallS Try.prog 31 ([AV.sl 2 (l.map Var.row)].map .v) [] fun r K => r = .os 0 1 ∧ K = [.arr 1 2 (vrows (l.map Var.row))] := by
  refine fun_sel [0] hmx Try.func31 r31 s31 (by rw [Try.ntmps31]; simp) (by first | exact Nat.le_refl _ | decide | simp) (by simp) ?_
  unfold c31
  have h1 := hl.lt (by decide)
  unfold Few at hl
  simp
  omega
theorem own_int (l : List Int) (hl : Few 8 l) : CallS Try.prog 32 ([AV.sl 1 (l.map irow)].map .v) [] fun r K => r = .os 0 1 ∧ K = [.arr 1 1 (vrows (l.map irow))] := by
  refine fun_sel [0] hmx Try.func32 r32 s32 (by rw [Try.ntmps32]; simp) (by first | exact Nat.le_refl _ | decide | simp) (by simp) ?_
  unfold c32
  have h1 := hl.lt (by decide)
  unfold Few at hl
  simp
  omega
theorem own_func (l : List Func) (hl : Few 64 l) : CallS Try.prog 33 ([AV.sl 4 (l.map Func.row)].map .v) [] fun r K => r = .os 0 1 ∧ K = [.arr 1 4 (vrows (l.map Func.row))] := by
  refine fun_sel [0] hmx Try.func33 r33 s33 (by rw [Try.ntmps33]; simp) (by first | exact Nat.le_refl _ | decide | simp) (by simp) ?_
  unfold c33
  have h1 := hl.lt (by decide)
  unfold Few at hl
  simp
  omega
theorem own_instr (l : List Instr) (hl : Few 40 l) : CallS Try.prog 34 ([AV.sl 5 (l.map Instr.row)].map .v) [] fun r K => r = .os 0 1 ∧ K = [.arr 1 5 (vrows (l.map Instr.row))] := by
  refine fun_sel [0] hmx Try.func34 r34 s34 (by rw [Try.ntmps34]; simp) (by first | exact Nat.le_refl _ | decide | simp) (by simp) ?_
  unfold c34
  have h1 := hl.lt (by decide)
  unfold Few at hl
  simp
  omega
theorem own_sel (l : List Select) (hl : Few 32 l) : CallS Try.prog 35 ([AV.sl 2 (l.map Select.row)].map .v) [] fun r K => r = .os 0 1 ∧ K = [.arr 1 2 (vrows (l.map Select.row))] := by
  refine fun_sel [0] hmx Try.func35 r35 s35 (by rw [Try.ntmps35]; simp) (by first | exact Nat.le_refl _ | decide | simp) (by simp) ?_
  unfold c35
  have h1 := hl.lt (by decide)
  unfold Few at hl
  simp
  omega
theorem own_case (l : List Case) (hl : Few 32 l) : CallS Try.prog 36 ([AV.sl 4 (l.map Case.row)].map .v) [] fun r K => r = .os 0 1 ∧ K = [.arr 1 4 (vrows (l.map Case.row))] := by
  refine fun_sel [0] hmx Try.func36 r36 s36 (by rw [Try.ntmps36]; simp) (by first | exact Nat.le_refl _ | decide | simp) (by simp) ?_
  unfold c36
  have h1 := hl.lt (by decide)
  unfold Few at hl
  simp
  omega
end Go.Sc.Sp
