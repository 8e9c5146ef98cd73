/- Chapter 13: a trace's key, the plain way. No condition. -/
import Derived.Test.YtgipkikbefnokaaDoorXKeB
set_option linter.constructorNameAsVariable false
namespace Go.Sc.Or
open Go Go.RowKit Go.Av Go.Proofs Go.Sc Go.Lib
set_option linter.unusedSimpArgs false
set_option linter.unusedVariables false
def c32 : ACode :=
  (.seq (.reg none [⟨some 1, none, .m (.box (.t 0))⟩, ⟨some 2, none, .q (.mv (.c (.s [])))⟩])
  (.keep [1]
  (.seq (.reg (some (34, [])) [⟨some 7, none, .q (.fa 0 (.t 1))⟩, ⟨some 8, none, .q (.ld none (.t 7))⟩, ⟨some 9, none, .call (.f 46) [(.t 8)]⟩, ⟨some 10, none, .q (.bin .add (.t 9) (.c (.s [44])))⟩, ⟨some 11, none, .q (.fa 1 (.t 1))⟩, ⟨some 12, none, .q (.ld none (.t 11))⟩, ⟨some 13, none, .call (.f 46) [(.t 12)]⟩, ⟨some 14, none, .q (.bin .add (.t 10) (.t 13))⟩, ⟨some 15, none, .q (.bin .add (.t 14) (.c (.s [44])))⟩, ⟨some 16, none, .q (.fa 2 (.t 1))⟩, ⟨some 17, none, .q (.ld none (.t 16))⟩, ⟨some 18, none, .call (.f 46) [(.t 17)]⟩, ⟨some 19, none, .q (.bin .add (.t 15) (.t 18))⟩, ⟨some 20, none, .q (.bin .add (.t 19) (.c (.s [44])))⟩, ⟨some 21, none, .q (.fa 3 (.t 1))⟩, ⟨some 22, none, .q (.ld none (.t 21))⟩, ⟨some 23, none, .call (.f 46) [(.t 22)]⟩, ⟨some 24, none, .q (.bin .add (.t 20) (.t 23))⟩, ⟨some 25, none, .q (.bin .add (.t 24) (.c (.s [44])))⟩, ⟨some 26, none, .q (.fa 4 (.t 1))⟩, ⟨some 27, none, .q (.ld none (.t 26))⟩, ⟨some 28, none, .call (.f 46) [(.t 27)]⟩, ⟨some 29, none, .q (.bin .add (.t 25) (.t 28))⟩, ⟨some 30, none, .q (.bin .add (.t 29) (.c (.s [44])))⟩, ⟨some 31, none, .q (.fa 5 (.t 1))⟩, ⟨some 32, none, .q (.ld none (.t 31))⟩, ⟨some 33, none, .call (.f 18) [(.t 32), (.c (.i .i64 10))]⟩, ⟨some 34, none, .q (.bin .add (.t 30) (.t 33))⟩, ⟨some 35, none, .q (.bin .add (.t 34) (.c (.s [44])))⟩, ⟨some 36, none, .q (.fa 6 (.t 1))⟩, ⟨some 37, none, .q (.ld none (.t 36))⟩, ⟨some 38, none, .call (.f 18) [(.t 37), (.c (.i .i64 10))]⟩, ⟨some 39, none, .q (.bin .add (.t 35) (.t 38))⟩, ⟨some 3, none, .q (.mv (.t 39))⟩])
  (.keep [1, 3]
  (.seq (.seq (.reg none [⟨some 4, none, .q (.mv (.c (.i .i64 0)))⟩])
    (.keep [1, 3, 4]
    (.blk 0 (.keep [1, 3, 4]
    (.loop (.fin [1, 3, 4]
      (.seq (.seq (.reg none [⟨some 40, none, .q (.mv (.t 4))⟩, ⟨some 41, none, .q (.fa 25 (.t 1))⟩, ⟨some 42, none, .q (.ld none (.t 41))⟩, ⟨some 43, none, .q (.bin .lss (.t 40) (.t 42))⟩])
        (.keep [1, 3, 4, 43]
        (.cond (.t 43) .skip
        (.exit 0))))
      (.seq (.blk 1 (.seq (.reg none [⟨some 46, none, .q (.mv (.t 4))⟩, ⟨some 47, none, .q (.fa 7 (.t 1))⟩, ⟨some 48, none, .q (.iaa 6 3 (.t 47) (.t 46))⟩, ⟨some 49, none, .q (.ld (some 3) (.t 48))⟩, ⟨some 5, none, .m (.alloc (.g [(.i .i64 0), (.i .i64 0), (.b false)]))⟩, ⟨none, none, .m (.st 3 (.t 5) (.t 49))⟩])
        (.keep [1, 3, 4, 5]
        (.seq (.reg none [⟨some 6, none, .q (.mv (.c (.s [44, 48])))⟩])
        (.keep [1, 3, 4, 5, 6]
        (.seq (.seq (.reg none [⟨some 50, none, .q (.fa 2 (.t 5))⟩, ⟨some 51, none, .q (.ld none (.t 50))⟩])
          (.keep [1, 3, 4, 5, 6, 51]
          (.cond (.t 51) (.reg none [⟨some 6, none, .q (.mv (.c (.s [44, 49])))⟩])
          .skip)))
        (.reg (some (14, [])) [⟨some 52, none, .q (.mv (.t 3))⟩, ⟨some 53, none, .q (.bin .add (.t 52) (.c (.s [58])))⟩, ⟨some 54, none, .q (.fa 0 (.t 5))⟩, ⟨some 55, none, .q (.ld none (.t 54))⟩, ⟨some 56, none, .call (.f 46) [(.t 55)]⟩, ⟨some 57, none, .q (.bin .add (.t 53) (.t 56))⟩, ⟨some 58, none, .q (.bin .add (.t 57) (.c (.s [44])))⟩, ⟨some 59, none, .q (.fa 1 (.t 5))⟩, ⟨some 60, none, .q (.ld none (.t 59))⟩, ⟨some 61, none, .call (.f 46) [(.t 60)]⟩, ⟨some 62, none, .q (.bin .add (.t 58) (.t 61))⟩, ⟨some 63, none, .q (.mv (.t 6))⟩, ⟨some 64, none, .q (.bin .add (.t 62) (.t 63))⟩, ⟨some 3, none, .q (.mv (.t 64))⟩])))))))
      (.keep [1, 3, 4]
      (.reg none [⟨some 44, none, .q (.mv (.t 4))⟩, ⟨some 45, none, .q (.bin .add (.t 44) (.c (.i .i64 1)))⟩, ⟨some 4, none, .q (.mv (.t 45))⟩]))))))))))
  (.seq (.reg none [⟨some 65, none, .q (.mv (.t 3))⟩, ⟨some 66, none, .q (.bin .add (.t 65) (.c (.s [59])))⟩, ⟨some 2, none, .q (.mv (.t 66))⟩])
  .ret))))))
theorem r32 : (Tryd.f32.body.bind (resC Tryd.prog Tryd.f32.ntmps)) = some (strip c32) := by kernel_rfl
theorem s32 : Tryd.f32.results.toList.mapM (resRes Tryd.prog) = some [.t 2] := by kernel_rfl
def c13 : ACode :=
  (.seq (.reg none [⟨some 2, none, .q (.mv (.c (.s [])))⟩, ⟨some 3, none, .q (.mv (.c (.i .i64 0)))⟩])
  (.keep [0]
  (.seq (.reg none [⟨some 8, none, .q (.mv (.t 0))⟩, ⟨some 9, none, .call (.f 6) [(.t 8)]⟩, ⟨some 4, none, .q (.mv (.t 9))⟩])
  (.keep [0, 4]
  (.seq (.seq (.reg none [⟨some 10, none, .q (.mv (.t 4))⟩, ⟨some 11, none, .q (.bin .neq (.t 10) (.c (.i .i64 0)))⟩])
    (.keep [0, 4, 11]
    (.cond (.t 11) (.seq (.reg none [⟨some 12, none, .q (.mv (.t 4))⟩, ⟨some 2, none, .q (.mv (.c (.s [])))⟩, ⟨some 3, none, .q (.mv (.t 12))⟩])
      .ret)
    .skip)))
  (.seq (.reg none [⟨some 5, none, .q (.mv (.c (.s [])))⟩])
  (.keep [0, 5]
  (.seq (.seq (.reg none [⟨some 13, none, .q (.mv (.t 0))⟩, ⟨some 14, none, .call (.f 31) [(.t 13)]⟩, ⟨some 15, none, .q (.len false (.t 14))⟩, ⟨some 16, none, .q (.mv (.c (.i .i64 0)))⟩])
    (.keep [0, 5, 14, 15, 16]
    (.blk 0 (.keep [0, 5, 14, 15, 16]
    (.loop (.fin [0, 5, 14, 15, 16]
      (.seq (.reg none [⟨some 17, none, .q (.bin .lss (.t 16) (.t 15))⟩])
      (.keep [0, 5, 14, 15, 16, 17]
      (.seq (.cond (.t 17) .skip
        (.exit 0))
      (.seq (.blk 1 (.seq (.reg none [⟨some 18, none, .q (.ias 1 (.t 14) (.t 16))⟩, ⟨some 19, none, .q (.ld none (.t 18))⟩, ⟨some 7, none, .q (.mv (.t 19))⟩])
        (.keep [0, 5, 7, 14, 15, 16]
        (.reg none [⟨some 20, none, .q (.mv (.t 5))⟩, ⟨some 21, none, .q (.mv (.t 0))⟩, ⟨some 22, none, .q (.mv (.t 7))⟩, ⟨some 23, none, .q (.ias 26 (.t 21) (.t 22))⟩, ⟨some 24, none, .q (.ld (some 26) (.t 23))⟩, ⟨some 25, none, .call (.f 32) [(.t 24)]⟩, ⟨some 26, none, .q (.bin .add (.t 20) (.t 25))⟩, ⟨some 5, none, .q (.mv (.t 26))⟩]))))
      (.keep [0, 5, 14, 15, 16]
      (.reg none [⟨some 27, none, .q (.bin .add (.t 16) (.c (.i .i64 1)))⟩, ⟨some 16, none, .q (.mv (.t 27))⟩]))))))))))))
  (.seq (.reg none [⟨some 28, none, .q (.mv (.t 5))⟩, ⟨some 2, none, .q (.mv (.t 28))⟩, ⟨some 3, none, .q (.mv (.c (.i .i64 0)))⟩])
  .ret)))))))))
theorem r13 : (Tryd.f13.body.bind (resC Tryd.prog Tryd.f13.ntmps)) = some (strip c13) := by kernel_rfl
theorem s13 : Tryd.f13.results.toList.mapM (resRes Tryd.prog) = some [.t 2, .t 3] := by kernel_rfl
theorem itoa1 : itoa 1 = [49] := by decide +kernel
theorem itoa0 : itoa 0 = [48] := by decide +kernel
theorem line_p (e : Ev) (hB : e.B64) (hR : rightE e = true) : PureS Tryd.prog 32 [.g e.row] (.s (lineB e)) := by
  have r1 : ∀ h, e.row[1]'h = .i .i64 e.fn := fun _ => rfl
  have r2 : ∀ h, e.row[2]'h = .i .i64 e.pc := fun _ => rfl
  have r3 : ∀ h, e.row[3]'h = .i .i64 e.op := fun _ => rfl
  have r4 : ∀ h, e.row[4]'h = .i .i64 e.alt := fun _ => rfl
  have r5 : ∀ h, e.row[5]'h = .i .i64 e.val := fun _ => rfl
  have r6 : ∀ h, e.row[6]'h = .i .i64 e.tag := fun _ => rfl
  have r25 : ∀ h, e.row[25]'h = .i .i64 e.n := fun _ => rfl
  have hn16 := right_go hR
  have hv := b64_ev hB
  simp only [evI, List.mem_cons, List.not_mem_nil, or_false, forall_eq_or_imp, forall_eq] at hv
  obtain ⟨v0, v1, v2, v3, v4, v5, v6⟩ := hv
  have l0 := itoa_len v0
  have l1 := itoa_len v1
  have l2 := itoa_len v2
  have l3 := itoa_len v3
  have l4 := itoa_len v4
  have l5 := itoa_len v5
  have l6 := itoa_len v6
  refine fun_go hmx Tryd.func32 r32 s32 (by rw [Tryd.ntmps32]; simp) ?_
  unfold c32
  simp
  first
    | refine callk rfl Tryd.call46 (itS e.go v0.1 v0.2) rfl ?_
    | refine callks rfl Tryd.call46 (itS e.go v0.1 v0.2) rfl ?_
    | refine callq rfl Tryd.call46 (itS e.go v0.1 v0.2) rfl ?_
    | refine callqe rfl Tryd.call46 (itS e.go v0.1 v0.2) rfl ?_
  simp [r1, r2, r3, r4, r5, r6]
  refine ⟨by first | omega | exact ⟨by omega, by omega⟩, ?_⟩
  first
    | refine callk rfl Tryd.call46 (itS e.fn v1.1 v1.2) rfl ?_
    | refine callks rfl Tryd.call46 (itS e.fn v1.1 v1.2) rfl ?_
    | refine callq rfl Tryd.call46 (itS e.fn v1.1 v1.2) rfl ?_
    | refine callqe rfl Tryd.call46 (itS e.fn v1.1 v1.2) rfl ?_
  simp [r1, r2, r3, r4, r5, r6]
  refine ⟨by omega, by omega, ?_⟩
  first
    | refine callk rfl Tryd.call46 (itS e.pc v2.1 v2.2) rfl ?_
    | refine callks rfl Tryd.call46 (itS e.pc v2.1 v2.2) rfl ?_
    | refine callq rfl Tryd.call46 (itS e.pc v2.1 v2.2) rfl ?_
    | refine callqe rfl Tryd.call46 (itS e.pc v2.1 v2.2) rfl ?_
  simp [r1, r2, r3, r4, r5, r6]
  refine ⟨by omega, by omega, ?_⟩
  first
    | refine callk rfl Tryd.call46 (itS e.op v3.1 v3.2) rfl ?_
    | refine callks rfl Tryd.call46 (itS e.op v3.1 v3.2) rfl ?_
    | refine callq rfl Tryd.call46 (itS e.op v3.1 v3.2) rfl ?_
    | refine callqe rfl Tryd.call46 (itS e.op v3.1 v3.2) rfl ?_
  simp [r1, r2, r3, r4, r5, r6]
  refine ⟨by omega, by omega, ?_⟩
  first
    | refine callk rfl Tryd.call46 (itS e.alt v4.1 v4.2) rfl ?_
    | refine callks rfl Tryd.call46 (itS e.alt v4.1 v4.2) rfl ?_
    | refine callq rfl Tryd.call46 (itS e.alt v4.1 v4.2) rfl ?_
    | refine callqe rfl Tryd.call46 (itS e.alt v4.1 v4.2) rfl ?_
  simp [r1, r2, r3, r4, r5, r6]
  refine ⟨by omega, by omega, ?_⟩
  first
    | refine callk rfl Tryd.call18 (fiS e.val v5.1 v5.2) rfl ?_
    | refine callks rfl Tryd.call18 (fiS e.val v5.1 v5.2) rfl ?_
    | refine callq rfl Tryd.call18 (fiS e.val v5.1 v5.2) rfl ?_
    | refine callqe rfl Tryd.call18 (fiS e.val v5.1 v5.2) rfl ?_
  simp [r1, r2, r3, r4, r5, r6]
  refine ⟨by omega, by omega, ?_⟩
  first
    | refine callk rfl Tryd.call18 (fiS e.tag v6.1 v6.2) rfl ?_
    | refine callks rfl Tryd.call18 (fiS e.tag v6.1 v6.2) rfl ?_
    | refine callq rfl Tryd.call18 (fiS e.tag v6.1 v6.2) rfl ?_
    | refine callqe rfl Tryd.call18 (fiS e.tag v6.1 v6.2) rfl ?_
  simp [r1, r2, r3, r4, r5, r6]
  refine ⟨by omega, ?_⟩
  have hj6 := touched_six e
  have hnn : e.touched.length = e.n.toNat := by have := touched_len hR; omega
  have hev : joinI (evI e) = itoa e.go ++ (44 :: (itoa e.fn ++ (44 :: (itoa e.pc ++ (44 :: (itoa e.op ++ (44 :: (itoa e.alt ++ (44 :: (itoa e.val ++ (44 :: itoa e.tag))))))))))) := by simp [joinI, evI]
  have hje := joinI_len (b64_ev hB)
  have hel : (evI e).length = 7 := rfl
  refine go_while hmx 1 (fun (j : Nat) => [(3, .v (.s (joinI (evI e) ++ accsB (e.touched.take j)))), (4, .v (.i .i64 (j : Int)))]) (fun _ => [.var (e.row.map RV.v)]) (fun j => j ≤ e.touched.length) (fun j => e.touched.length - j) 0 rfl (by simp [hev, accsB]) rfl (by simp) (by simp) (by simp) (Nat.zero_le _) ?_
  intro j hj
  by_cases hjl : j < e.touched.length
  · have hJ : (j : Int) < e.n := by omega
    have hJ6 : (j : Int) < 6 := by omega
    have hj6' : j < 6 := by omega
    have hwj : IntKind.i64.wrap ((j : Int) + 1) = (j : Int) + 1 := wrap_in (by omega) (by omega)
    obtain ⟨a, ha⟩ : ∃ a, e.touched[j] = a := ⟨_, rfl⟩
    have ham : a ∈ e.touched := ha ▸ List.getElem_mem hjl
    have hac := b64_acc hB ham
    simp only [accI, List.mem_cons, List.not_mem_nil, or_false, forall_eq_or_imp, forall_eq] at hac
    obtain ⟨w0, w1, _⟩ := hac
    have q0 := itoa_len w0
    have q1 := itoa_len w1
    have hsj := accsB_snoc (e.touched.take j) a
    rw [← ha, ← List.take_succ_eq_append_getElem hjl, ha] at hsj
    have hjs := accsB_len hB (l := e.touched.take j) fun b hb => List.mem_of_mem_take hb
    have hjt : (e.touched.take j).length ≤ 6 := by rw [List.length_take]; omega
    have haa : e.all.getD j default = a := by
      have hja : j < e.all.length := by simp; omega
      rw [← ha]
      simp only [Ev.touched, List.getElem_take]
      rw [List.getD_eq_getElem?_getD, List.getElem?_eq_getElem hja]; rfl
    have hcell : List.take 3 (List.drop (7 + j * 3) (List.map RV.v e.row)) = [.v (.i .i64 a.k), .v (.i .i64 a.n), .v (.b a.w)] := by
      rw [← haa]
      match j, hj6' with
      | 0, _ => rfl
      | 1, _ => rfl
      | 2, _ => rfl
      | 3, _ => rfl
      | 4, _ => rfl
      | 5, _ => rfl
    simp [hJ, hJ6, hj6', r25, hcell]
    refine ⟨by omega, fun haw => ?_, fun haw => ?_⟩
    · refine ⟨by omega, ?_⟩
      first
        | refine callk rfl Tryd.call46 (itS a.k w0.1 w0.2) rfl ?_
        | refine callks rfl Tryd.call46 (itS a.k w0.1 w0.2) rfl ?_
        | refine callq rfl Tryd.call46 (itS a.k w0.1 w0.2) rfl ?_
        | refine callqe rfl Tryd.call46 (itS a.k w0.1 w0.2) rfl ?_
      simp
      refine ⟨by omega, by omega, ?_⟩
      first
        | refine callk rfl Tryd.call46 (itS a.n w1.1 w1.2) rfl ?_
        | refine callks rfl Tryd.call46 (itS a.n w1.1 w1.2) rfl ?_
        | refine callq rfl Tryd.call46 (itS a.n w1.1 w1.2) rfl ?_
        | refine callqe rfl Tryd.call46 (itS a.n w1.1 w1.2) rfl ?_
      simp
      refine ⟨by omega, by omega, j + 1, ⟨?_, hwj⟩, by omega, by omega⟩
      rw [hsj]; simp [accB, accI, joinI, haw, itoa1]
    · refine ⟨by omega, ?_⟩
      first
        | refine callk rfl Tryd.call46 (itS a.k w0.1 w0.2) rfl ?_
        | refine callks rfl Tryd.call46 (itS a.k w0.1 w0.2) rfl ?_
        | refine callq rfl Tryd.call46 (itS a.k w0.1 w0.2) rfl ?_
        | refine callqe rfl Tryd.call46 (itS a.k w0.1 w0.2) rfl ?_
      simp
      refine ⟨by omega, by omega, ?_⟩
      first
        | refine callk rfl Tryd.call46 (itS a.n w1.1 w1.2) rfl ?_
        | refine callks rfl Tryd.call46 (itS a.n w1.1 w1.2) rfl ?_
        | refine callq rfl Tryd.call46 (itS a.n w1.1 w1.2) rfl ?_
        | refine callqe rfl Tryd.call46 (itS a.n w1.1 w1.2) rfl ?_
      simp
      refine ⟨by omega, by omega, j + 1, ⟨?_, hwj⟩, by omega, by omega⟩
      rw [hsj]; simp [accB, accI, joinI, haw, itoa0]
  · obtain rfl : j = e.touched.length := by omega
    have hJ : ¬ (e.touched.length : Int) < e.n := by omega
    have hja2 := accsB_len hB (l := e.touched) fun b hb => hb
    simp [hJ, r25]
    exact ⟨by omega, by simp [lineB]⟩
theorem keyR_p (t : List Ev) (ht : t.length < 1000000000000) (hI : ∀ e ∈ t, e.B64) : PureS Tryd.prog 13 [.sl 26 (t.map Ev.row)] (keyR t) := by
  unfold keyR
  refine fun_go hmx Tryd.func13 r13 s13 (by rw [Tryd.ntmps13]; simp) ?_
  unfold c13
  simp
  first
    | refine callk rfl Tryd.call6 (checkR_p t (by omega)) rfl ?_
    | refine callks rfl Tryd.call6 (checkR_p t (by omega)) rfl ?_
    | refine callq rfl Tryd.call6 (checkR_p t (by omega)) rfl ?_
    | refine callqe rfl Tryd.call6 (checkR_p t (by omega)) rfl ?_
  by_cases h0 : checkT t = 0
  rotate_left
  · simp [h0]
  have h := good_of h0
  have hlen := h.len
  simp [h0]
  first
    | refine callk rfl Tryd.call31 (order_p t h0) rfl ?_
    | refine callks rfl Tryd.call31 (order_p t h0) rfl ?_
    | refine callq rfl Tryd.call31 (order_p t h0) rfl ?_
    | refine callqe rfl Tryd.call31 (order_p t h0) rfl ?_
  simp
  have hcI := canonL_b64 hI
  have hcR := canonL_right h
  have hct : (canonL t).length = t.length := canonL_length t
  refine go_while hmx 0 (fun (k : Nat) => [(5, .v (.s (keyB ((canonL t).take k)))), (16, .v (.i .i64 (k : Int)))]) (fun _ => []) (fun k => k ≤ t.length) (fun k => t.length - k) 0 rfl (by simp [keyB]) rfl (by simp) (by simp) (by simp) (Nat.zero_le _) ?_
  intro k hk
  by_cases hkl : k < t.length
  · have hI' : (k : Int) < (t.length : Int) := by omega
    have hw : IntKind.i64.wrap ((k : Int) + 1) = (k : Int) + 1 := wrap_in (by omega) (by omega)
    have hkc : k < (canonL t).length := by omega
    have hkf : k < (formT t).length := by simp; omega
    obtain ⟨e, hee⟩ : ∃ e, (canonL t)[k] = e := ⟨_, rfl⟩
    obtain ⟨x, hxe⟩ : ∃ x, (formT t)[k] = x := ⟨_, rfl⟩
    have hx : x < t.length := by rw [← hxe]; exact formT_lt _ (List.getElem_mem hkf)
    have hX : (x : Int) < (t.length : Int) := by omega
    have hxt : t[x] = e := by
      rw [← hee]
      simp only [canonL, List.getElem_map, hxe]
      rw [List.getD_eq_getElem?_getD, List.getElem?_eq_getElem hx]; rfl
    have hem : e ∈ canonL t := hee ▸ List.getElem_mem hkc
    have hsn := keyB_snoc ((canonL t).take k) e
    rw [← hee, ← List.take_succ_eq_append_getElem hkc, hee] at hsn
    have hkL := keyB_len (l := (canonL t).take k) fun f hf => hcI f (List.mem_of_mem_take hf)
    have hkL2 : ((canonL t).take k).length ≤ 256 := by rw [List.length_take]; omega
    have hll := lineB_len (hcI e hem)
    simp [hI', hkl, nrow, hxe, hx, hX, hxt]
    first
      | refine callk rfl Tryd.call32 (line_p e (hcI e hem) (hcR e hem)) rfl ?_
      | refine callks rfl Tryd.call32 (line_p e (hcI e hem) (hcR e hem)) rfl ?_
      | refine callq rfl Tryd.call32 (line_p e (hcI e hem) (hcR e hem)) rfl ?_
      | refine callqe rfl Tryd.call32 (line_p e (hcI e hem) (hcR e hem)) rfl ?_
    simp
    exact ⟨by omega, k + 1, ⟨hsn.symm, hw⟩, by omega, by omega⟩
  · obtain rfl : k = t.length := by omega
    simp
    rw [← hct, List.take_length]
end Go.Sc.Or
