/- Chapter 03: the law ProgTouches. No condition. -/
import Derived.Test.YtdjcfjfgdblefaaXSoF
import Derived.Test.YtdjcfjfgdblefaaXReg2
set_option linter.constructorNameAsVariable false
namespace Go.Sc.So
open Go Go.RowKit Go.Av Go.Proofs Go.Sc Go.Sc.Srt Go.Sc.Q03
set_option linter.unusedSimpArgs false
set_option linter.unusedVariables false
/-- scarab/scarablaw03.ProgTouches -/
def c9 : ACode :=
  (.seq (.reg none [⟨some 2, none, .m (.box (.t 0))⟩, ⟨some 4, none, .q (.mv (.c (.b false)))⟩])
  (.keep [1, 2]
  (.seq (.seq (.reg none [⟨some 21, none, .q (.ld (some 4) (.t 2))⟩, ⟨some 22, none, .call (.f 22) [(.t 21)]⟩, ⟨some 23, none, .q (.un .not (.t 22))⟩])
    (.keep [1, 2, 23]
    (.cond (.t 23) (.seq (.reg none [⟨some 25, none, .q (.ld (some 4) (.t 2))⟩, ⟨some 26, none, .call (.f 26) [(.t 25), (.c (.i .i64 0)), (.c (.i .i64 0))]⟩, ⟨some 24, none, .q (.mv (.t 26))⟩, ⟨some 27, none, .q (.ext 0 (.t 24))⟩, ⟨some 28, none, .q (.ext 1 (.t 24))⟩, ⟨some 5, none, .q (.mv (.t 27))⟩, ⟨some 6, none, .q (.mv (.t 28))⟩])
      (.keep [6]
      (.seq (.reg none [⟨some 29, none, .q (.mv (.t 6))⟩, ⟨some 30, none, .q (.bin .eql (.t 29) (.c (.i .i64 3)))⟩, ⟨some 31, none, .q (.mv (.t 30))⟩, ⟨some 32, some (31, true), .call (.f 25) []⟩, ⟨some 33, none, .pk (.t 31) (.t 32) (.c (.b false))⟩, ⟨some 4, none, .q (.mv (.t 33))⟩])
      .ret)))
    .skip)))
  (.seq (.reg none [⟨some 34, none, .q (.mv (.t 1))⟩, ⟨some 35, none, .q (.cvi .u64 (.t 34))⟩, ⟨some 36, none, .q (.fa 3 (.t 2))⟩, ⟨some 37, none, .q (.ld none (.t 36))⟩, ⟨some 38, none, .q (.len false (.t 37))⟩, ⟨some 39, none, .q (.cvi .u64 (.t 38))⟩, ⟨some 40, none, .q (.bin .rem (.t 35) (.t 39))⟩, ⟨some 41, none, .q (.cvi .i64 (.t 40))⟩, ⟨some 7, none, .q (.mv (.t 41))⟩])
  (.keep [1, 2, 7]
  (.seq (.reg none [⟨some 42, none, .q (.mv (.t 1))⟩, ⟨some 43, none, .q (.cvi .u64 (.t 42))⟩, ⟨some 44, none, .q (.bin .quo (.t 43) (.c (.i .u64 8)))⟩, ⟨some 45, none, .q (.fa 3 (.t 2))⟩, ⟨some 46, none, .q (.ld none (.t 45))⟩, ⟨some 47, none, .q (.mv (.t 7))⟩, ⟨some 48, none, .q (.ias 4 (.t 46) (.t 47))⟩, ⟨some 49, none, .q (.fa 2 (.t 48))⟩, ⟨some 50, none, .q (.ld none (.t 49))⟩, ⟨some 51, none, .q (.len false (.t 50))⟩, ⟨some 52, none, .q (.cvi .u64 (.t 51))⟩, ⟨some 53, none, .q (.bin .rem (.t 44) (.t 52))⟩, ⟨some 54, none, .q (.cvi .i64 (.t 53))⟩, ⟨some 8, none, .q (.mv (.t 54))⟩])
  (.keep [2, 7, 8]
  (.seq (.reg none [⟨some 56, none, .q (.ld (some 4) (.t 2))⟩, ⟨some 57, none, .q (.mv (.t 7))⟩, ⟨some 58, none, .q (.mv (.t 8))⟩, ⟨some 59, none, .call (.f 26) [(.t 56), (.t 57), (.t 58)]⟩, ⟨some 55, none, .q (.mv (.t 59))⟩, ⟨some 60, none, .q (.ext 0 (.t 55))⟩, ⟨some 61, none, .q (.ext 1 (.t 55))⟩, ⟨some 9, none, .q (.mv (.t 60))⟩, ⟨some 10, none, .q (.mv (.t 61))⟩])
  (.keep [2, 7, 8, 9, 10]
  (.seq (.reg none [⟨some 63, none, .q (.ld (some 4) (.t 2))⟩, ⟨some 64, none, .q (.mv (.t 7))⟩, ⟨some 65, none, .q (.mv (.t 8))⟩, ⟨some 66, none, .call (.f 28) [(.t 63), (.t 64), (.t 65)]⟩, ⟨some 62, none, .q (.mv (.t 66))⟩, ⟨some 67, none, .q (.ext 0 (.t 62))⟩, ⟨some 68, none, .q (.ext 1 (.t 62))⟩, ⟨some 11, none, .q (.mv (.t 67))⟩, ⟨some 12, none, .q (.mv (.t 68))⟩])
  (.keep [2, 7, 8, 9, 10, 11, 12]
  (.seq (.seq (.reg none [⟨some 69, none, .q (.mv (.t 10))⟩, ⟨some 70, none, .q (.bin .neq (.t 69) (.c (.i .i64 0)))⟩, ⟨some 71, none, .q (.mv (.t 70))⟩, ⟨some 72, some (71, false), .q (.mv (.t 12))⟩, ⟨some 73, some (71, false), .q (.bin .neq (.t 72) (.c (.i .i64 0)))⟩, ⟨some 74, none, .pk (.t 71) (.c (.b true)) (.t 73)⟩])
    (.keep [2, 7, 8, 9, 11, 74]
    (.cond (.t 74) (.seq (.reg none [⟨some 4, none, .q (.mv (.c (.b false)))⟩])
      .ret)
    .skip)))
  (.seq (.seq (.reg none [⟨some 75, none, .q (.mv (.t 9))⟩, ⟨some 76, none, .q (.mv (.t 11))⟩, ⟨some 77, none, .m (.bsl 2 1 [.nil] [(0, 1, .t 75), (1, 1, .t 76)])⟩, ⟨some 78, none, .q (.len false (.t 77))⟩, ⟨some 79, none, .q (.mv (.c (.i .i64 0)))⟩])
    (.keep [2, 7, 8, 9, 11, 77, 78, 79]
    (.blk 0 (.keep [2, 7, 8, 9, 11, 77, 78, 79]
    (.loop (.fin [2, 7, 8, 9, 11, 77, 78, 79]
      (.seq (.reg none [⟨some 80, none, .q (.bin .lss (.t 79) (.t 78))⟩])
      (.keep [2, 7, 8, 9, 11, 77, 78, 79, 80]
      (.seq (.cond (.t 80) .skip
        (.exit 0))
      (.seq (.blk 1 (.seq (.reg none [⟨some 81, none, .q (.ias 1 (.t 77) (.t 79))⟩, ⟨some 82, none, .q (.ld none (.t 81))⟩, ⟨some 14, none, .q (.mv (.t 82))⟩])
        (.keep [2, 7, 8, 9, 11, 14, 77, 78, 79]
        (.seq (.reg none [⟨some 83, none, .q (.mv (.t 14))⟩, ⟨some 84, none, .q (.len false (.t 83))⟩, ⟨some 85, none, .q (.mv (.c (.i .i64 0)))⟩])
        (.keep [2, 7, 8, 9, 11, 14, 77, 78, 79, 83, 84, 85]
        (.blk 2 (.keep [2, 7, 8, 9, 11, 14, 77, 78, 79, 83, 84, 85]
        (.loop (.fin [2, 7, 8, 9, 11, 14, 77, 78, 79, 83, 84, 85]
          (.seq (.reg none [⟨some 86, none, .q (.bin .lss (.t 85) (.t 84))⟩])
          (.keep [2, 7, 8, 9, 11, 14, 77, 78, 79, 83, 84, 85, 86]
          (.seq (.cond (.t 86) .skip
            (.exit 2))
          (.seq (.blk 3 (.seq (.reg none [⟨some 87, none, .q (.mv (.t 85))⟩, ⟨some 88, none, .q (.ias 1 (.t 83) (.t 85))⟩, ⟨some 89, none, .q (.ld none (.t 88))⟩, ⟨some 15, none, .q (.mv (.t 87))⟩, ⟨some 16, none, .q (.mv (.t 89))⟩])
            (.keep [2, 7, 8, 9, 11, 14, 15, 16, 77, 78, 79, 83, 84, 85]
            (.seq (.reg none [⟨some 90, none, .q (.mv (.t 16))⟩, ⟨some 91, none, .q (.bin .lss (.t 90) (.c (.i .i64 0)))⟩, ⟨some 92, none, .q (.mv (.t 91))⟩, ⟨some 93, some (92, false), .q (.mv (.t 16))⟩, ⟨some 94, some (92, false), .q (.fa 3 (.t 2))⟩, ⟨some 95, some (92, false), .q (.ld none (.t 94))⟩, ⟨some 96, some (92, false), .q (.mv (.t 7))⟩, ⟨some 97, some (92, false), .q (.ias 4 (.t 95) (.t 96))⟩, ⟨some 98, some (92, false), .q (.fa 1 (.t 97))⟩, ⟨some 99, some (92, false), .q (.ld none (.t 98))⟩, ⟨some 100, some (92, false), .q (.bin .geq (.t 93) (.t 99))⟩, ⟨some 101, none, .pk (.t 92) (.c (.b true)) (.t 100)⟩, ⟨some 102, none, .q (.mv (.t 101))⟩, ⟨some 103, some (102, false), .q (.mv (.t 15))⟩, ⟨some 104, some (102, false), .q (.bin .gtr (.t 103) (.c (.i .i64 0)))⟩, ⟨some 105, some (102, false), .q (.mv (.t 104))⟩, ⟨some 106, some (105, true), .q (.mv (.t 14))⟩, ⟨some 107, some (105, true), .q (.mv (.t 15))⟩, ⟨some 108, some (105, true), .q (.bin .sub (.t 107) (.c (.i .i64 1)))⟩, ⟨some 109, some (105, true), .q (.ias 1 (.t 106) (.t 108))⟩, ⟨some 110, some (105, true), .q (.ld none (.t 109))⟩, ⟨some 111, some (105, true), .q (.mv (.t 16))⟩, ⟨some 112, some (105, true), .q (.bin .geq (.t 110) (.t 111))⟩, ⟨some 113, some (102, false), .pk (.t 105) (.t 112) (.c (.b false))⟩, ⟨some 114, none, .pk (.t 102) (.c (.b true)) (.t 113)⟩])
            (.keep [2, 7, 8, 9, 11, 14, 77, 78, 79, 83, 84, 85, 114]
            (.cond (.t 114) (.seq (.reg none [⟨some 4, none, .q (.mv (.c (.b false)))⟩])
              .ret)
            .skip))))))
          (.keep [2, 7, 8, 9, 11, 14, 77, 78, 79, 83, 84, 85]
          (.reg none [⟨some 115, none, .q (.bin .add (.t 85) (.c (.i .i64 1)))⟩, ⟨some 85, none, .q (.mv (.t 115))⟩])))))))))))))))
      (.keep [2, 7, 8, 9, 11, 77, 78, 79]
      (.reg none [⟨some 116, none, .q (.bin .add (.t 79) (.c (.i .i64 1)))⟩, ⟨some 79, none, .q (.mv (.t 116))⟩]))))))))))))
  (.seq (.reg none [⟨some 117, none, .q (.fa 3 (.t 2))⟩, ⟨some 118, none, .q (.ld none (.t 117))⟩, ⟨some 119, none, .q (.mv (.t 7))⟩, ⟨some 120, none, .q (.ias 4 (.t 118) (.t 119))⟩, ⟨some 121, none, .q (.fa 2 (.t 120))⟩, ⟨some 122, none, .q (.ld none (.t 121))⟩, ⟨some 123, none, .q (.mv (.t 8))⟩, ⟨some 124, none, .q (.ias 5 (.t 122) (.t 123))⟩, ⟨some 125, none, .q (.fa 0 (.t 124))⟩, ⟨some 126, none, .q (.ld none (.t 125))⟩, ⟨some 127, none, .call (.f 15) [(.t 126)]⟩, ⟨some 17, none, .q (.mv (.t 127))⟩])
  (.keep [2, 7, 8, 9, 11, 17]
  (.seq (.reg none [⟨some 18, none, .q (.mv (.c (.i .i64 0)))⟩])
  (.keep [2, 7, 8, 9, 11, 17, 18]
  (.seq (.seq (.reg none [⟨some 19, none, .q (.mv (.c (.i .i64 0)))⟩])
    (.keep [2, 7, 8, 9, 11, 17, 18, 19]
    (.blk 4 (.keep [2, 7, 8, 9, 11, 17, 18, 19]
    (.loop (.fin [2, 7, 8, 9, 11, 17, 18, 19]
      (.seq (.seq (.reg none [⟨some 128, none, .q (.mv (.t 19))⟩, ⟨some 129, none, .q (.mv (.t 17))⟩, ⟨some 130, none, .q (.len true (.t 129))⟩, ⟨some 131, none, .q (.bin .lss (.t 128) (.t 130))⟩])
        (.keep [2, 7, 8, 9, 11, 17, 18, 19, 131]
        (.cond (.t 131) .skip
        (.exit 4))))
      (.seq (.blk 5 (.seq (.reg none [⟨some 134, none, .q (.mv (.t 17))⟩, ⟨some 135, none, .q (.mv (.t 19))⟩, ⟨some 136, none, .q (.sidx (.t 134) (.t 135))⟩, ⟨some 137, none, .q (.bin .eql (.t 136) (.c (.i .u8 114)))⟩, ⟨some 138, none, .q (.mv (.t 137))⟩, ⟨some 139, some (138, false), .q (.mv (.t 17))⟩, ⟨some 140, some (138, false), .q (.mv (.t 19))⟩, ⟨some 141, some (138, false), .q (.sidx (.t 139) (.t 140))⟩, ⟨some 142, some (138, false), .q (.bin .eql (.t 141) (.c (.i .u8 119)))⟩, ⟨some 143, none, .pk (.t 138) (.c (.b true)) (.t 142)⟩])
        (.keep [2, 7, 8, 9, 11, 17, 18, 19, 143]
        (.cond (.t 143) (.reg none [⟨some 144, none, .q (.mv (.t 18))⟩, ⟨some 145, none, .q (.bin .add (.t 144) (.c (.i .i64 1)))⟩, ⟨some 18, none, .q (.mv (.t 145))⟩])
        .skip))))
      (.keep [2, 7, 8, 9, 11, 17, 18, 19]
      (.reg none [⟨some 132, none, .q (.mv (.t 19))⟩, ⟨some 133, none, .q (.bin .add (.t 132) (.c (.i .i64 1)))⟩, ⟨some 19, none, .q (.mv (.t 133))⟩]))))))))))
  (.seq (.reg none [⟨some 146, none, .q (.fa 3 (.t 2))⟩, ⟨some 147, none, .q (.ld none (.t 146))⟩, ⟨some 148, none, .q (.mv (.t 7))⟩, ⟨some 149, none, .q (.ias 4 (.t 147) (.t 148))⟩, ⟨some 150, none, .q (.fa 2 (.t 149))⟩, ⟨some 151, none, .q (.ld none (.t 150))⟩, ⟨some 152, none, .q (.mv (.t 8))⟩, ⟨some 153, none, .q (.ias 5 (.t 151) (.t 152))⟩, ⟨some 154, none, .q (.fa 0 (.t 153))⟩, ⟨some 155, none, .q (.ld none (.t 154))⟩, ⟨some 20, none, .q (.mv (.t 155))⟩])
  (.keep [9, 11, 17, 18, 20]
  (.seq (.reg none [⟨some 156, none, .q (.mv (.t 17))⟩, ⟨some 157, none, .q (.len true (.t 156))⟩, ⟨some 158, none, .q (.bin .eql (.t 157) (.c (.i .i64 4)))⟩, ⟨some 159, none, .q (.mv (.t 158))⟩, ⟨some 160, some (159, true), .q (.mv (.t 20))⟩, ⟨some 161, some (159, true), .q (.bin .eql (.t 160) (.c (.i .i64 61)))⟩, ⟨some 162, some (159, true), .q (.mv (.t 161))⟩, ⟨some 163, some (162, false), .q (.mv (.t 20))⟩, ⟨some 164, some (162, false), .q (.bin .eql (.t 163) (.c (.i .i64 62)))⟩, ⟨some 165, some (159, true), .pk (.t 162) (.c (.b true)) (.t 164)⟩, ⟨some 166, some (159, true), .q (.mv (.t 165))⟩, ⟨some 167, some (166, false), .q (.mv (.t 9))⟩, ⟨some 168, some (166, false), .q (.len false (.t 167))⟩, ⟨some 169, some (166, false), .q (.mv (.t 11))⟩, ⟨some 170, some (166, false), .q (.len false (.t 169))⟩, ⟨some 171, some (166, false), .q (.bin .add (.t 168) (.t 170))⟩, ⟨some 172, some (166, false), .q (.mv (.t 18))⟩, ⟨some 173, some (166, false), .q (.bin .add (.t 172) (.c (.i .i64 2)))⟩, ⟨some 174, some (166, false), .q (.bin .leq (.t 171) (.t 173))⟩, ⟨some 175, some (159, true), .pk (.t 166) (.c (.b true)) (.t 174)⟩, ⟨some 176, none, .pk (.t 159) (.t 175) (.c (.b false))⟩, ⟨some 177, none, .q (.mv (.t 176))⟩, ⟨some 178, some (177, true), .q (.mv (.t 18))⟩, ⟨some 179, some (177, true), .q (.bin .eql (.t 178) (.c (.i .i64 0)))⟩, ⟨some 180, some (177, true), .q (.mv (.t 179))⟩, ⟨some 181, some (180, false), .q (.mv (.t 9))⟩, ⟨some 182, some (180, false), .q (.len false (.t 181))⟩, ⟨some 183, some (180, false), .q (.mv (.t 11))⟩, ⟨some 184, some (180, false), .q (.len false (.t 183))⟩, ⟨some 185, some (180, false), .q (.bin .add (.t 182) (.t 184))⟩, ⟨some 186, some (180, false), .q (.bin .gtr (.t 185) (.c (.i .i64 0)))⟩, ⟨some 187, some (177, true), .pk (.t 180) (.c (.b true)) (.t 186)⟩, ⟨some 188, none, .pk (.t 177) (.t 187) (.c (.b false))⟩, ⟨some 4, none, .q (.mv (.t 188))⟩])
  .ret)))))))))))))))))))))
theorem r9 : (Try.f9.body.bind (resC Try.prog Try.f9.ntmps)) = some (strip c9) := by kernel_rfl
theorem s9 : Try.f9.results.toList.mapM (resRes Try.prog) = some [.t 4] := by kernel_rfl
theorem pair_at (A B : List Int) (i : Nat) (x : List Int) (hi : i < [A, B].length) (hx : [A, B][i] = x) : [[RV.v (AV.sl 1 (A.map irow))], [RV.v (AV.sl 1 (B.map irow))]][i]? = some [RV.v (AV.sl 1 (x.map irow))] := by
  match i, hi with
  | 0, _ => simp at hx; simp [hx]
  | 1, _ => simp at hx; simp [hx]
theorem progTouches (p : Prog) (pick : Int) (hp : p.Ok) : PureS Try.prog 9 [.g p.row, .i .i64 pick] (.b true) := by
  refine fun_go hmx Try.func9 r9 s9 (by rw [Try.ntmps9]; simp) ?_
  unfold c9
  simp [Prog.row]
  first
    | refine callk rfl Try.call22 (right22 p hp) rfl ?_
    | refine callks rfl Try.call22 (right22 p hp) rfl ?_
    | refine callq rfl Try.call22 (right22 p hp) rfl ?_
  by_cases h : (check p).1 = 0
  rotate_left
  · have e : askE p 0 0 = 3 := by rw [askE, if_pos h]
    simp [h]
    first
      | refine callk rfl Try.call26 (reads_p p 0 0 hp) rfl ?_
    simp [regV, e]
    refine callkg rfl Try.call25 rfl (fun _ => small25) (by simp) rfl ?_
    simp
  have hrp := right_of h
  have h8 := hrp.funcs
  obtain ⟨u, hu⟩ : ∃ u : Nat, IntKind.u64.wrap pick = (u : Int) := ⟨(IntKind.u64.wrap pick).toNat, by rw [IntKind.wrap_u64]; omega⟩
  have hu64 : (u : Int) < 18446744073709551616 := by rw [← hu, IntKind.wrap_u64]; omega
  have e6 : IntKind.u64.wrap ((u : Int) / 8) = (u : Int) / 8 := by rw [IntKind.wrap_u64]; omega
  have hul : IntKind.u64.wrap (p.funcs.length : Int) = (p.funcs.length : Int) := wrap_u64_lt (by omega)
  have hi := Nat.mod_lt u (show 0 < p.funcs.length by omega)
  have e1 : (u : Int).tmod (p.funcs.length : Int) = ((u % p.funcs.length : Nat) : Int) := (Int.ofNat_tmod _ _).symm
  generalize u % p.funcs.length = i at *
  have e2 : IntKind.i64.wrap (i : Int) = (i : Int) := wrap_in (by omega) (by omega)
  have hF : p.funcs[i]? = some p.funcs[i] := List.getElem?_eq_getElem hi
  have hrf := hrp.func _ (List.getElem_mem hi)
  generalize hFF : p.funcs[i] = F at *
  have hc := hrf.code
  have hcl : IntKind.u64.wrap (F.code.length : Int) = (F.code.length : Int) := wrap_u64_lt (by omega)
  have hj := Nat.mod_lt (u / 8) (show 0 < F.code.length by omega)
  have e3 : (u : Int).tdiv 8 = ((u / 8 : Nat) : Int) := (Int.ofNat_tdiv u 8).symm
  have e4 : ((u / 8 : Nat) : Int).tmod (F.code.length : Int) = ((u / 8 % F.code.length : Nat) : Int) := (Int.ofNat_tmod _ _).symm
  have e7 : ((u : Int) / 8).tmod (F.code.length : Int) = ((u / 8 % F.code.length : Nat) : Int) := by rw [← e4]; rfl
  generalize hjj : u / 8 % F.code.length = j at *
  have e5 : IntKind.i64.wrap (j : Int) = (j : Int) := wrap_in (by omega) (by omega)
  have hne : p.funcs ≠ [] := fun e => by rw [e] at hi; exact absurd hi (Nat.not_lt_zero i)
  have hx : F.code[j]? = some F.code[j] := List.getElem?_eq_getElem hj
  have hfd : p.funcs.getD (i : Int).toNat default = F := by rw [Int.toNat_natCast, List.getD_eq_getElem?_getD, hF]; rfl
  have hins : insAt p i j = F.code[j] := by
    rw [insAt, hfd, Int.toNat_natCast, List.getD_eq_getElem?_getD, hx]; rfl
  have hask : askE p i j = 0 := ask0 h (by rw [hfd]; omega)
  have hok := (ask_ok hask).2.2.2
  rw [hfd, hins] at hok
  have ht := touch (hrf.ins _ (List.getElem_mem hj)) hok
  have hRV : readsV p i j = rise8 (readsL p F F.code[j]) := by rw [readsV, if_pos hask, hfd, hins]
  have hSV : setsV p i j = rise8 (setsL F F.code[j]) := by rw [setsV, if_pos hask, hfd, hins]
  have hra : ∀ y ∈ readsV p i j, 0 ≤ y ∧ y < F.regs := fun y hy => by rw [hRV] at hy; exact hok.reads y (rise8_mem.1 hy).1
  have hrb : ∀ y ∈ setsV p i j, 0 ≤ y ∧ y < F.regs := fun y hy => by
    rw [hSV] at hy; obtain ⟨q1, q2, q3⟩ := rise8_mem.1 hy; exact ⟨q2, (hok.sets y q1).2⟩
  have hpa : (readsV p i j).Pairwise (· < ·) := by rw [hRV]; exact rise8_pw _
  have hpb : (setsV p i j).Pairwise (· < ·) := by rw [hSV]; exact rise8_pw _
  have hfm0 := ins_form (hrf.ins _ (List.getElem_mem hj))
  have hf4 : (form F.code[j].op).length = 4 := by
    obtain ⟨l0, l1, l2, l3, e⟩ := (form_four F.code[j].op).resolve_left hfm0
    rw [e]; rfl
  have hla := readsV_len p i j
  have hlb := setsV_len p i j
  rw [← hRV, ← hSV] at ht
  generalize hxx : F.code[j] = x at *
  simp [h, hu, hul, e1, e2, hF, hFF, Func.row, hi, e3, hcl, e4, e5, e6, e7, hne]
  refine ⟨by intro e; rw [e] at hj; exact absurd hj (Nat.not_lt_zero j), ?_⟩
  first
    | refine callk rfl Try.call26 (reads_p p i j hp) rfl ?_
    | refine callks rfl Try.call26 (reads_p p i j hp) rfl ?_
    | refine callq rfl Try.call26 (reads_p p i j hp) rfl ?_
  simp [regV, hask]
  first
    | refine callk rfl Try.call28 (sets_p p i j hp) rfl ?_
    | refine callks rfl Try.call28 (sets_p p i j hp) rfl ?_
    | refine callq rfl Try.call28 (sets_p p i j hp) rfl ?_
  simp [regV, hask]
  generalize readsV p i j = A at *
  generalize setsV p i j = B at *
  refine go_each hmx 2 79 [A, B] (fun (_ : Unit) => []) (fun _ => [.var (p.row.map .v), .arr 0 1 [[.v (.sl 1 (A.map irow))], [.v (.sl 1 (B.map irow))]]]) (fun _ _ _ => True) () (by simp) rfl rfl rfl (by simp) (by simp) (by simp [Prog.row]) trivial ?_ ?_
  · rintro k l rest _ hk hl hr - hw
    have hg := pair_at A B k l hk hl
    have hlm : l ∈ [A, B] := by rw [← hl]; exact List.getElem_mem _
    have hl8 : l.length ≤ 8 := by simp at hlm; rcases hlm with rfl | rfl <;> assumption
    have hlr : ∀ y ∈ l, 0 ≤ y ∧ y < F.regs := by simp at hlm; rcases hlm with rfl | rfl <;> assumption
    have hlp : l.Pairwise (· < ·) := by simp at hlm; rcases hlm with rfl | rfl <;> assumption
    have hk2 : k < 2 := by simpa using hk
    have hkI : (k : Int) < 2 := by omega
    have hg2 : ∀ hh, [[RV.v (AV.sl 1 (A.map irow))], [RV.v (AV.sl 1 (B.map irow))]][k]'hh = [RV.v (AV.sl 1 (l.map irow))] := fun hh => by
      have := List.getElem?_eq_getElem hh; rw [hg] at this; exact (Option.some.inj this).symm
    simp [hk2, hkI, hg2, Prog.row]
    refine go_each hmx 2 85 l (fun (_ : Unit) => []) (fun _ => [.var (p.row.map .v), .arr 0 1 [[.v (.sl 1 (A.map irow))], [.v (.sl 1 (B.map irow))]]]) (fun _ _ _ => True) () (by omega) rfl rfl rfl (by simp) (by simp) (by simp [Prog.row]) trivial ?_ ?_
    · rintro m y rest2 _ hm hy hr2 - hw2
      have hy2 := hlr y (by rw [← hy]; exact List.getElem_mem _)
      have hgy : l[m]? = some y := by rw [List.getElem?_eq_getElem hm, hy]
      have hnr : ¬ F.regs ≤ y := by omega
      have hny : ¬ y < 0 := by omega
      have hm0 : 0 < l.length := by omega
      cases m with
      | zero =>
        have wm : IntKind.i64.wrap (-1) = -1 := by decide
        simp [hm, hy, hgy, irow, Prog.row, hi, hF, hFF, Func.row, hy2, hw2, wm, hm0, hnr, hny]
      | succ m =>
        have hm2 : m < l.length := by omega
        have hmI : (m : Int) + 1 < (l.length : Int) := by omega
        have hmJ : (m : Int) < (l.length : Int) := by omega
        have wm : IntKind.i64.wrap (m : Int) = (m : Int) := wrap_in (by omega) (by omega)
        have hgz : l[m]? = some l[m] := List.getElem?_eq_getElem hm2
        have hzy : l[m] < y := by rw [← hy]; exact List.pairwise_iff_getElem.1 hlp m (m + 1) hm2 hm (by omega)
        have hzy2 : ¬ y ≤ l[m] := by omega
        have hm3 : (0 : Int) ≤ (m : Int) + 1 := by omega
        have hw3 : IntKind.i64.wrap ((m : Int) + 1 + 1) = (m : Int) + 1 + 1 := wrap_in (by omega) (by omega)
        simp [hm, hy, hgy, hgz, irow, Prog.row, hi, hF, hFF, Func.row, hy2, hw3, wm, hmI, hmJ, hm2, hzy2, hnr, hny, hm3]
    · rintro _ -
      simp [hw, Prog.row]
  · rintro _ -
    simp [Prog.row, hi, hF, hFF, Func.row, hj, hx, hxx, Instr.row]
    refine callk rfl Try.call15 (form15 x.op) rfl ?_
    simp
    refine go_each hmx 2 19 (form x.op) (fun (n : Nat) => [(18, .v (.i .i64 (n : Int)))]) (fun _ => [.var (p.row.map .v), .arr 0 1 [[.v (.sl 1 (A.map irow))], [.v (.sl 1 (B.map irow))]]]) (fun _ n rest => n + cntRW rest = cntRW (form x.op)) 0 (by rw [hf4]; decide) rfl (by simp) rfl (by simp) (by simp) (by simp [Prog.row]) (by simp) ?_ ?_
    · rintro m y rest2 n hm hy hr2 hj2 hw2
      have hgy : (form x.op)[m]? = some y := by rw [List.getElem?_eq_getElem hm, hy]
      have hm4 : m < 4 := by omega
      have hmI : (m : Int) < 4 := by omega
      have hcn : cntRW (form x.op) ≤ 4 := by rw [← hf4]; exact List.length_filter_le _ _
      have hn4 : n ≤ 4 := by omega
      have hwn : IntKind.i64.wrap ((n : Int) + 1) = ((n + 1 : Nat) : Int) := by rw [wrap_in (by omega) (by omega)]; omega
      have hwn2 : IntKind.i64.wrap ((n : Int) + 1) = (n : Int) + 1 := wrap_in (by omega) (by omega)
      simp [hm, hy, hgy, hf4, hw2, hm4, hmI, hwn2]
      have hcy : cntRW (y :: rest2) = (if y = 114 ∨ y = 119 then 1 else 0) + cntRW rest2 := by
        by_cases hq : y = 114 ∨ y = 119
        · rw [if_pos hq, cntRW, List.filter_cons_of_pos (by simpa using hq), List.length_cons, cntRW]; omega
        · rw [if_neg hq, cntRW, List.filter_cons_of_neg (by simpa using hq), cntRW]; omega
      have k1 : (y.toNat : Int) = 114 ↔ y = 114 := by rw [← UInt8.toNat_inj]; simp; omega
      have k2 : (y.toNat : Int) = 119 ↔ y = 119 := by rw [← UInt8.toNat_inj]; simp; omega
      rw [k1, k2]
      rw [hcy] at hj2
      refine ⟨fun hq => ⟨n + 1, by omega, ?_⟩, fun q1 q2 => ⟨n, rfl, ?_⟩⟩
      · rw [if_pos hq] at hj2; omega
      · rw [if_neg (by rintro (e | e); exact q1 e; exact q2 e)] at hj2; omega
    · rintro n hj2
      simp [hf4, Prog.row, hi, hF, hFF, Func.row, hj, hx, hxx, Instr.row]
      have hn0 : n = cntRW (form x.op) := by simpa [cntRW] using hj2
      have w1 : IntKind.i64.wrap ((A.length : Int) + (B.length : Int)) = (A.length : Int) + (B.length : Int) := wrap_in (by omega) (by omega)
      have hcn : cntRW (form x.op) ≤ 4 := by rw [← hf4]; exact List.length_filter_le _ _
      have w2 : IntKind.i64.wrap ((n : Int) + 2) = (n : Int) + 2 := wrap_in (by omega) (by omega)
      rw [w1, w2]
      obtain ⟨t1, t2⟩ := ht
      omega
end Go.Sc.So
