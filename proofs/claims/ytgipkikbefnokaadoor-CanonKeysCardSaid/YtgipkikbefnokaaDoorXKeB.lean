/- Chapter 13: a trace's key. No condition. -/
import Derived.Test.YtgipkikbefnokaaDoorXKeA
import Derived.Test.YtgipkikbefnokaaDoorXCaS
import Derived.Test.YtgipkikbefnokaaDoorXEvt16
set_option linter.constructorNameAsVariable false
namespace Go.Sc.Or
open Go Go.RowKit Go.Av Go.Proofs Go.Sc Go.Lib
set_option linter.unusedSimpArgs false
set_option linter.unusedVariables false
def c16 : ACode :=
  (.seq (.reg none [⟨some 7, none, .q (.mv (.t 1))⟩, ⟨some 8, none, .q (.len false (.t 7))⟩, ⟨some 9, none, .q (.mv (.c (.i .i64 0)))⟩])
  (.keep [0, 2, 7, 8, 9]
  (.blk 0 (.keep [0, 2, 7, 8, 9]
  (.loop (.fin [0, 2, 7, 8, 9]
    (.seq (.reg none [⟨some 10, none, .q (.bin .lss (.t 9) (.t 8))⟩])
    (.keep [0, 2, 7, 8, 9, 10]
    (.seq (.cond (.t 10) .skip
      (.exit 0))
    (.seq (.blk 1 (.seq (.reg none [⟨some 11, none, .q (.mv (.t 9))⟩, ⟨some 12, none, .q (.ias 1 (.t 7) (.t 9))⟩, ⟨some 13, none, .q (.ld none (.t 12))⟩, ⟨some 5, none, .q (.mv (.t 11))⟩, ⟨some 6, none, .q (.mv (.t 13))⟩])
      (.keep [0, 2, 5, 6, 7, 8, 9]
      (.seq (.seq (.reg none [⟨some 14, none, .q (.mv (.t 5))⟩, ⟨some 15, none, .q (.bin .gtr (.t 14) (.c (.i .i64 0)))⟩])
        (.keep [0, 2, 6, 7, 8, 9, 15]
        (.cond (.t 15) (.reg none [⟨some 16, none, .q (.mv (.t 0))⟩, ⟨some 17, none, .call (.f 17) [(.t 2), (.t 16)]⟩])
        .skip)))
      (.reg none [⟨some 18, none, .q (.mv (.t 6))⟩, ⟨some 19, none, .call (.f 18) [(.t 18), (.c (.i .i64 10))]⟩, ⟨some 20, none, .call (.f 17) [(.t 2), (.t 19)]⟩])))))
    (.keep [0, 2, 7, 8, 9]
    (.reg none [⟨some 21, none, .q (.bin .add (.t 9) (.c (.i .i64 1)))⟩, ⟨some 9, none, .q (.mv (.t 21))⟩]))))))))))))
theorem r16 : (Tryd.f16.body.bind (resC Tryd.prog Tryd.f16.ntmps)) = some (strip c16) := by kernel_rfl
theorem s16 : Tryd.f16.results.toList.mapM (resRes Tryd.prog) = some [] := by kernel_rfl
def c7 : ACode :=
  (.seq (.reg none [⟨some 2, none, .q (.mv (.c (.s [])))⟩, ⟨some 3, none, .q (.mv (.c (.i .i64 0)))⟩])
  (.keep [0]
  (.seq (.seq (.reg none [⟨some 12, none, .q (.mv (.t 0))⟩, ⟨some 13, none, .call (.f 15) [(.t 12)]⟩, ⟨some 4, none, .q (.mv (.t 13))⟩])
    (.keep [0, 4]
    (.seq (.reg none [⟨some 14, none, .q (.mv (.t 4))⟩, ⟨some 15, none, .q (.bin .neq (.t 14) (.c (.i .i64 0)))⟩])
    (.keep [0, 4, 15]
    (.cond (.t 15) (.seq (.reg none [⟨some 16, none, .q (.mv (.t 4))⟩, ⟨some 2, none, .q (.mv (.c (.s [])))⟩, ⟨some 3, none, .q (.mv (.t 16))⟩])
      .ret)
    .skip)))))
  (.seq (.reg none [⟨some 5, none, .m (.alb 51 5)⟩])
  (.keep [0, 5]
  (.seq (.reg none [⟨some 17, none, .q (.mkf 16 [(.t 5)])⟩, ⟨some 6, none, .q (.mv (.t 17))⟩])
  (.keep [0, 5, 6]
  (.seq (.seq (.reg none [⟨some 18, none, .q (.mv (.t 0))⟩, ⟨some 19, none, .q (.mv (.t 0))⟩, ⟨some 20, none, .call (.f 20) [(.t 19)]⟩, ⟨some 21, none, .call (.f 19) [(.t 18), (.t 20)]⟩, ⟨some 22, none, .q (.len false (.t 21))⟩, ⟨some 23, none, .q (.mv (.c (.i .i64 0)))⟩])
    (.keep [5, 6, 21, 22, 23]
    (.blk 0 (.keep [5, 6, 21, 22, 23]
    (.loop (.fin [5, 6, 21, 22, 23]
      (.seq (.reg none [⟨some 24, none, .q (.bin .lss (.t 23) (.t 22))⟩])
      (.keep [5, 6, 21, 22, 23, 24]
      (.seq (.cond (.t 24) .skip
        (.exit 0))
      (.seq (.blk 1 (.seq (.reg none [⟨some 25, none, .q (.ias 26 (.t 21) (.t 23))⟩, ⟨some 26, none, .q (.ld (some 26) (.t 25))⟩, ⟨some 8, none, .m (.alloc (.g [(.i .i64 0), (.i .i64 0), (.i .i64 0), (.i .i64 0), (.i .i64 0), (.i .i64 0), (.i .i64 0), (.i .i64 0), (.i .i64 0), (.b false), (.i .i64 0), (.i .i64 0), (.b false), (.i .i64 0), (.i .i64 0), (.b false), (.i .i64 0), (.i .i64 0), (.b false), (.i .i64 0), (.i .i64 0), (.b false), (.i .i64 0), (.i .i64 0), (.b false), (.i .i64 0)]))⟩, ⟨none, none, .m (.st 26 (.t 8) (.t 26))⟩])
        (.keep [5, 6, 8, 21, 22, 23]
        (.seq (.gst (.pimT 8)
          (.reg none [⟨some 27, none, .q (.mv (.t 6))⟩, ⟨some 28, none, .q (.fa 0 (.t 8))⟩, ⟨some 29, none, .q (.ld none (.t 28))⟩, ⟨some 30, none, .q (.fa 1 (.t 8))⟩, ⟨some 31, none, .q (.ld none (.t 30))⟩, ⟨some 32, none, .q (.fa 2 (.t 8))⟩, ⟨some 33, none, .q (.ld none (.t 32))⟩, ⟨some 34, none, .q (.fa 3 (.t 8))⟩, ⟨some 35, none, .q (.ld none (.t 34))⟩, ⟨some 36, none, .q (.fa 4 (.t 8))⟩, ⟨some 37, none, .q (.ld none (.t 36))⟩, ⟨some 38, none, .q (.fa 5 (.t 8))⟩, ⟨some 39, none, .q (.ld none (.t 38))⟩, ⟨some 40, none, .q (.fa 6 (.t 8))⟩, ⟨some 41, none, .q (.ld none (.t 40))⟩, ⟨some 42, none, .m (.bsl 7 1 [(.i .i64 0)] [(0, 1, .t 29), (1, 1, .t 31), (2, 1, .t 33), (3, 1, .t 35), (4, 1, .t 37), (5, 1, .t 39), (6, 1, .t 41)])⟩, ⟨some 43, none, .call (.t 27) [(.c (.s [44])), (.t 42)]⟩]))
        (.keep [5, 6, 8, 21, 22, 23]
        (.seq (.seq (.reg none [⟨some 44, none, .q (.fa 7 (.t 8))⟩, ⟨some 45, none, .q (.fa 25 (.t 8))⟩, ⟨some 46, none, .q (.ld none (.t 45))⟩, ⟨some 47, none, .q (.slp 6 3 (.t 44) none (some (.t 46)))⟩, ⟨some 48, none, .q (.len false (.t 47))⟩, ⟨some 49, none, .q (.mv (.c (.i .i64 0)))⟩])
          (.keep [5, 6, 21, 22, 23, 47, 48, 49]
          (.blk 2 (.keep [5, 6, 21, 22, 23, 47, 48, 49]
          (.loop (.fin [5, 6, 21, 22, 23, 47, 48, 49]
            (.seq (.reg none [⟨some 50, none, .q (.bin .lss (.t 49) (.t 48))⟩])
            (.keep [5, 6, 21, 22, 23, 47, 48, 49, 50]
            (.seq (.cond (.t 50) .skip
              (.exit 2))
            (.seq (.blk 3 (.seq (.reg none [⟨some 51, none, .q (.ias 3 (.t 47) (.t 49))⟩, ⟨some 52, none, .q (.ld (some 3) (.t 51))⟩, ⟨some 10, none, .m (.alloc (.g [(.i .i64 0), (.i .i64 0), (.b false)]))⟩, ⟨none, none, .m (.st 3 (.t 10) (.t 52))⟩])
              (.keep [5, 6, 10, 21, 22, 23, 47, 48, 49]
              (.seq (.reg none [⟨some 11, none, .q (.mv (.c (.i .i64 0)))⟩])
              (.keep [5, 6, 10, 11, 21, 22, 23, 47, 48, 49]
              (.seq (.seq (.reg none [⟨some 53, none, .q (.fa 2 (.t 10))⟩, ⟨some 54, none, .q (.ld none (.t 53))⟩])
                (.keep [5, 6, 10, 11, 21, 22, 23, 47, 48, 49, 54]
                (.cond (.t 54) (.reg none [⟨some 11, none, .q (.mv (.c (.i .i64 1)))⟩])
                .skip)))
              (.seq (.reg none [⟨some 55, none, .call (.f 21) [(.t 5), (.c (.i .u8 58))]⟩])
              (.keep [5, 6, 10, 11, 21, 22, 23, 47, 48, 49]
              (.reg none [⟨some 56, none, .q (.mv (.t 6))⟩, ⟨some 57, none, .q (.fa 0 (.t 10))⟩, ⟨some 58, none, .q (.ld none (.t 57))⟩, ⟨some 59, none, .q (.fa 1 (.t 10))⟩, ⟨some 60, none, .q (.ld none (.t 59))⟩, ⟨some 61, none, .q (.mv (.t 11))⟩, ⟨some 62, none, .m (.bsl 3 1 [(.i .i64 0)] [(0, 1, .t 58), (1, 1, .t 60), (2, 1, .t 61)])⟩, ⟨some 63, none, .call (.t 56) [(.c (.s [44])), (.t 62)]⟩])))))))))
            (.keep [5, 6, 21, 22, 23, 47, 48, 49]
            (.reg none [⟨some 64, none, .q (.bin .add (.t 49) (.c (.i .i64 1)))⟩, ⟨some 49, none, .q (.mv (.t 64))⟩]))))))))))))
        (.reg none [⟨some 65, none, .call (.f 21) [(.t 5), (.c (.i .u8 59))]⟩])))))))
      (.keep [5, 6, 21, 22, 23]
      (.reg none [⟨some 66, none, .q (.bin .add (.t 23) (.c (.i .i64 1)))⟩, ⟨some 23, none, .q (.mv (.t 66))⟩]))))))))))))
  (.seq (.reg none [⟨some 67, none, .call (.f 22) [(.t 5)]⟩, ⟨some 2, none, .q (.mv (.t 67))⟩, ⟨some 3, none, .q (.mv (.c (.i .i64 0)))⟩])
  .ret)))))))))
theorem r7 : (Tryd.f7.body.bind (resC Tryd.prog Tryd.f7.ntmps)) = some (strip c7) := by kernel_rfl
theorem s7 : Tryd.f7.results.toList.mapM (resRes Tryd.prog) = some [.t 2, .t 3] := by kernel_rfl
@[simp] theorem dom_buf (p : Nat → Prop) (e : TypeId) (v : Nat) (l : List UInt8) : AObj.dom p (.buf e v l) ↔ True := Iff.rfl
def pB (b : Bool) : RV := if b then .pt 1 0 0 0 else .v .np
@[simp] theorem pB_true : pB true = .pt 1 0 0 0 := rfl
theorem pB_or (b : Bool) : pB b = .v .np ∨ pB b = .pt 1 0 0 0 := by cases b <;> simp [pB]
@[simp] theorem pB_dom (n : Nat) (b : Bool) : RV.dom (· < n + 2) (pB b) := by cases b <;> simp [pB, RV.dom]
@[simp] theorem pB_ren (π : List Nat) (n : Nat) (b : Bool) : RV.ren (upN (0 :: 1 :: π) n) (pB b) = pB b := by cases b <;> simp [pB, RV.ren, upN]
theorem wb58 (l : List UInt8) (v : Nat) (h48 : l.length + 1 ≤ 140737488355328) : CallS Tryd.prog 21 [.pt 1 0 0 0, .v (.i .u8 58)] (BldS l (.pt 1 0 0 0) v) fun r K => r = .any ∧ K = BldS (l ++ [58]) (.pt 1 0 0 0) (v + 1) := wbS l 58 (.pt 1 0 0 0) v (.inr rfl) h48
theorem wb59 (l : List UInt8) (v : Nat) (h48 : l.length + 1 ≤ 140737488355328) : CallS Tryd.prog 21 [.pt 1 0 0 0, .v (.i .u8 59)] (BldS l (.pt 1 0 0 0) v) fun r K => r = .any ∧ K = BldS (l ++ [59]) (.pt 1 0 0 0) (v + 1) := wbS l 59 (.pt 1 0 0 0) v (.inr rfl) h48
theorem put_p (l : List UInt8) (ns : List Int) (b : Bool) (v v0 : Nat) (h0 : ns ≠ []) (hn : ns.length ≤ 10) (hI : ∀ n ∈ ns, I64 n) (h48 : l.length ≤ 1000000) :
    CallS Tryd.prog 16 [.v (.s [44]), .os 2 v0, .pt 1 0 0 0] (BldS l (pB b) v ++ [.arr v0 1 (vrows (ns.map irow))]) fun r K => ∃ v', K = BldS (l ++ joinI ns) (.pt 1 0 0 0) v' ++ [.arr v0 1 (vrows (ns.map irow))] := by
  refine fun_cut 3 hmx Tryd.func16 r16 s16 (by rw [Tryd.ntmps16]; simp) (by first | exact Nat.le_refl _ | decide | simp) ?_
  unfold c16
  simp [BldS]
  have hpos : 0 < ns.length := List.length_pos_iff.2 h0
  refine go_while hmx 3 (fun (s : Nat × Bool × Nat) => [(9, .v (.i .i64 (s.1 : Int)))]) (fun s => [.buf 5 s.2.2 (l ++ joinI (ns.take s.1)), .xo (.bv 51) [pB s.2.1, .os 0 s.2.2], .arr v0 1 (vrows (ns.map irow))]) (fun s => s.1 ≤ ns.length ∧ (0 < s.1 → s.2.1 = true)) (fun s => ns.length - s.1) (0, b, v) rfl (by simp) (by simp [joinI]) (by simp [RV.dom]) (by simp) (by simp [RV.dom]) ⟨Nat.zero_le _, fun h => absurd h (by omega)⟩ ?_
  rintro ⟨k, q, u⟩ ⟨hk, hq0⟩
  simp only at hk hq0
  by_cases hkl : k < ns.length
  · have hI' : (k : Int) < (ns.length : Int) := by omega
    have hw : IntKind.i64.wrap ((k : Int) + 1) = (k : Int) + 1 := wrap_in (by omega) (by omega)
    have hnk := hI _ (List.getElem_mem hkl)
    have hsn := joinI_snoc (ns.take k) ns[k]
    have hj1 := joinI_len (l := ns.take k) fun n hn => hI n (List.mem_of_mem_take hn)
    have hj2 := itoa_len hnk
    have hkl2 : (ns.take k).length ≤ 10 := by rw [List.length_take]; omega
    rw [← List.take_succ_eq_append_getElem hkl] at hsn
    simp [hI', hkl, irow, vrows_at]
    refine ⟨fun hk0 => ?_, fun hk0 => ?_⟩
    · refine callf [0, 1] rfl Tryd.call17 (wsS (l ++ joinI (ns.take k)) [44] (pB q) u (pB_or q) (by simp; omega)) (by simp [RV.dom]) rfl (by simp [BldS, RV.dom]) (by simp [BldS, RV.dom]) (by simp [BldS]) ?_
      rintro r _ ⟨rfl, rfl⟩
      simp [BldS]
      first
        | refine callk rfl Tryd.call18 (fiS ns[k] hnk.1 hnk.2) rfl ?_
        | refine callks rfl Tryd.call18 (fiS ns[k] hnk.1 hnk.2) rfl ?_
        | refine callq rfl Tryd.call18 (fiS ns[k] hnk.1 hnk.2) rfl ?_
        | refine callqe rfl Tryd.call18 (fiS ns[k] hnk.1 hnk.2) rfl ?_
      simp
      refine callf [0, 1] rfl Tryd.call17 (wsS (l ++ (joinI (ns.take k) ++ [44])) (itoa ns[k]) (.pt 1 0 0 0) (u + 1) (.inr rfl) (by simp; omega)) (by simp [RV.dom]) rfl (by simp [BldS, RV.dom]) (by simp [BldS, RV.dom]) (by simp [BldS]) ?_
      rintro r _ ⟨rfl, rfl⟩
      simp [BldS, hw]
      refine ⟨k + 1, by simp, .inr ⟨?_, by omega, by omega⟩⟩
      rw [hsn, if_neg (by intro hc; have := congrArg List.length hc; rw [List.length_take, List.length_nil] at this; omega)]
      simp
    · subst hk0
      simp
      first
        | refine callk rfl Tryd.call18 (fiS ns[0] hnk.1 hnk.2) rfl ?_
        | refine callks rfl Tryd.call18 (fiS ns[0] hnk.1 hnk.2) rfl ?_
        | refine callq rfl Tryd.call18 (fiS ns[0] hnk.1 hnk.2) rfl ?_
        | refine callqe rfl Tryd.call18 (fiS ns[0] hnk.1 hnk.2) rfl ?_
      simp
      refine callf [0, 1] rfl Tryd.call17 (wsS l (itoa ns[0]) (pB q) u (pB_or q) (by omega)) (by simp [RV.dom]) rfl (by simp [BldS, RV.dom]) (by simp [BldS, RV.dom, joinI]) (by simp [BldS]) ?_
      rintro r _ ⟨rfl, rfl⟩
      simp [BldS]
      have hsn0 : joinI (ns.take 1) = itoa ns[0] := by simpa [joinI] using hsn
      exact ⟨1, rfl, .inr ⟨hsn0.symm, by omega, by omega⟩⟩
  · obtain rfl : k = ns.length := by omega
    simp [hq0 hpos, RV.dom]
def keyR (t : List Ev) : AV := .tup [.s (if checkT t = 0 then keyB (canonL t) else []), .i .i64 (checkT t)]
theorem key_p (t : List Ev) (ht : t.length < 1000000000000) (hI : ∀ e ∈ t, e.B64) : PureS Tryd.prog 7 [.sl 26 (t.map Ev.row)] (keyR t) := by
  unfold keyR
  refine fun_go hmx Tryd.func7 r7 s7 (by rw [Tryd.ntmps7]; simp) ?_
  unfold c7
  simp
  first
    | refine callk rfl Tryd.call15 (check_p t (by omega)) rfl ?_
    | refine callks rfl Tryd.call15 (check_p t (by omega)) rfl ?_
    | refine callq rfl Tryd.call15 (check_p t (by omega)) rfl ?_
    | refine callqe rfl Tryd.call15 (check_p t (by omega)) rfl ?_
  by_cases h0 : checkT t = 0
  rotate_left
  · simp [h0]
  have hlen := (good_of h0).len
  simp [h0]
  first
    | refine callk rfl Tryd.call20 (form_p t h0) rfl ?_
    | refine callks rfl Tryd.call20 (form_p t h0) rfl ?_
    | refine callq rfl Tryd.call20 (form_p t h0) rfl ?_
    | refine callqe rfl Tryd.call20 (form_p t h0) rfl ?_
  simp
  first
    | refine callk rfl Tryd.call19 (canon_p t h0) rfl ?_
    | refine callks rfl Tryd.call19 (canon_p t h0) rfl ?_
    | refine callq rfl Tryd.call19 (canon_p t h0) rfl ?_
    | refine callqe rfl Tryd.call19 (canon_p t h0) rfl ?_
  simp
  have hcI := canonL_b64 hI
  have hcl : (canonL t).length ≤ 256 := by simp; omega
  have hcR := canonL_right (good_of h0)
  have hct : (canonL t).length = t.length := canonL_length t
  generalize canonL t = c at *
  refine go_while hmx 2 (fun (s : Nat × Bool × Nat) => [(23, .v (.i .i64 (s.1 : Int)))]) (fun s => [.buf 5 s.2.2 (keyB (c.take s.1)), .xo (.bv 51) [pB s.2.1, .os 0 s.2.2]]) (fun s => s.1 ≤ t.length) (fun s => t.length - s.1) (0, false, 0) rfl (by simp) (by simp [keyB, pB]) (by simp [RV.dom]) (by simp) (by simp [RV.dom]) (Nat.zero_le _) ?_
  rintro ⟨k, q, u⟩ hk
  simp only at hk
  by_cases hkl : k < t.length
  · have hI' : (k : Int) < (t.length : Int) := by omega
    have hIc : (k : Int) < (c.length : Int) := by omega
    have hkc : k < c.length := by omega
    have hw : IntKind.i64.wrap ((k : Int) + 1) = (k : Int) + 1 := wrap_in (by omega) (by omega)
    obtain ⟨e, hee⟩ : ∃ e, c[k] = e := ⟨_, rfl⟩
    have hem : e ∈ c := hee ▸ List.getElem_mem hkc
    have heB := hcI e hem
    have heR := hcR e hem
    have hsn := keyB_snoc (c.take k) e
    rw [← hee, ← List.take_succ_eq_append_getElem hkc, hee] at hsn
    have hkL := keyB_len (l := c.take k) fun f hf => hcI f (List.mem_of_mem_take hf)
    have hkL2 : (c.take k).length ≤ 256 := by rw [List.length_take]; omega
    have r1 : ∀ h, e.row[1]'h = .i .i64 e.fn := fun _ => rfl
    have r2 : ∀ h, e.row[2]'h = .i .i64 e.pc := fun _ => rfl
    have r3 : ∀ h, e.row[3]'h = .i .i64 e.op := fun _ => rfl
    have r4 : ∀ h, e.row[4]'h = .i .i64 e.alt := fun _ => rfl
    have r5 : ∀ h, e.row[5]'h = .i .i64 e.val := fun _ => rfl
    have r6 : ∀ h, e.row[6]'h = .i .i64 e.tag := fun _ => rfl
    have r25 : ∀ h, e.row[25]'h = .i .i64 e.n := fun _ => rfl
    simp [hI', hkl, hee, hIc, hkc, ev_put, r1, r2, r3, r4, r5, r6, r25]
    refine callf [0, 1, 3] rfl Tryd.call16 (put_p (keyB (c.take k)) (evI e) q u 0 (by simp [evI]) (by simp [evI]) (b64_ev heB) (by omega)) (by simp [RV.dom]) rfl (by simp [BldS, RV.dom]) (by simp [BldS, RV.dom, evI, vrows, irow]) (by simp [BldS]) ?_
    rintro r _ ⟨v1, rfl⟩
    simp [BldS, r25]
    have hn16 := right_go heR
    refine ⟨⟨by omega, by omega⟩, ?_⟩
    have hto : List.take e.n.toNat (rowsOf 3 6 (List.drop 7 e.row)) = e.touched.map Acc.row := by
      rw [show rowsOf 3 6 (List.drop 7 e.row) = e.all.map Acc.row from rfl, ← List.map_take, Ev.touched]
      congr 2; omega
    have hmn : min e.n.toNat (rowsOf 3 6 (List.drop 7 e.row)).length = e.touched.length := by
      have := congrArg List.length hto
      rw [List.length_take, List.length_map] at this
      exact this
    rw [hto, hmn]
    have hj6 := touched_six e
    have hja := joinI_len (b64_ev heB)
    have hje : (evI e).length = 7 := rfl
    refine go_while hmx 4 (fun (s : Nat × Nat) => [(49, .v (.i .i64 (s.1 : Int)))]) (fun s => [.buf 5 s.2 (keyB (c.take k) ++ (joinI (evI e) ++ accsB (e.touched.take s.1))), .xo (.bv 51) [.pt 1 0 0 0, .os 0 s.2], .none, .arr 0 1 (vrows ((evI e).map irow))]) (fun s => s.1 ≤ e.touched.length) (fun s => e.touched.length - s.1) (0, v1) rfl (by simp) (by simp [accsB]) (by simp [RV.dom]) (by simp) (by simp [RV.dom]) (Nat.zero_le _) ?_
    rintro ⟨j, v2⟩ hj
    simp only at hj
    by_cases hjl : j < e.touched.length
    · have hJ : (j : Int) < (e.touched.length : Int) := by omega
      have hwj : IntKind.i64.wrap ((j : Int) + 1) = (j : Int) + 1 := wrap_in (by omega) (by omega)
      obtain ⟨a, ha⟩ : ∃ a, e.touched[j] = a := ⟨_, rfl⟩
      have ham : a ∈ e.touched := ha ▸ List.getElem_mem hjl
      have hac := b64_acc heB ham
      have hsj := accsB_snoc (e.touched.take j) a
      rw [← ha, ← List.take_succ_eq_append_getElem hjl, ha] at hsj
      have hjs := accsB_len heB (l := e.touched.take j) fun b hb => List.mem_of_mem_take hb
      have hjt : (e.touched.take j).length ≤ 6 := by rw [List.length_take]; omega
      simp [hJ, hjl, ha, Acc.row]
      refine ⟨fun haw => ?_, fun haw => ?_⟩
      · refine callf [0, 1] rfl Tryd.call21 (wb58 (keyB (c.take k) ++ (joinI (evI e) ++ accsB (e.touched.take j))) v2 (by simp; omega)) (by simp [RV.dom]) rfl (by simp [BldS, RV.dom]) (by simp [BldS, RV.dom]) (by simp [BldS]) ?_
        rintro r _ ⟨rfl, rfl⟩
        simp [BldS]
        refine callf [0, 1, 5] rfl Tryd.call16 (put_p (keyB (c.take k) ++ (joinI (evI e) ++ (accsB (e.touched.take j) ++ [58]))) (accI a) true (v2 + 1) 0 (by simp [accI]) (by simp [accI]) hac (by simp; omega)) (by simp [RV.dom]) rfl (by simp [BldS, RV.dom, pB]) (by simp [BldS, RV.dom, accI, vrows, irow, haw]) (by simp [BldS]) ?_
        rintro r _ ⟨v3, rfl⟩
        simp [BldS, hwj]
        refine ⟨j + 1, rfl, ?_, by omega, by omega⟩
        rw [hsj]; simp [accB]
      · refine callf [0, 1] rfl Tryd.call21 (wb58 (keyB (c.take k) ++ (joinI (evI e) ++ accsB (e.touched.take j))) v2 (by simp; omega)) (by simp [RV.dom]) rfl (by simp [BldS, RV.dom]) (by simp [BldS, RV.dom]) (by simp [BldS]) ?_
        rintro r _ ⟨rfl, rfl⟩
        simp [BldS]
        refine callf [0, 1, 5] rfl Tryd.call16 (put_p (keyB (c.take k) ++ (joinI (evI e) ++ (accsB (e.touched.take j) ++ [58]))) (accI a) true (v2 + 1) 0 (by simp [accI]) (by simp [accI]) hac (by simp; omega)) (by simp [RV.dom]) rfl (by simp [BldS, RV.dom, pB]) (by simp [BldS, RV.dom, accI, vrows, irow, haw]) (by simp [BldS]) ?_
        rintro r _ ⟨v3, rfl⟩
        simp [BldS, hwj]
        refine ⟨j + 1, rfl, ?_, by omega, by omega⟩
        rw [hsj]; simp [accB]
    · obtain rfl : j = e.touched.length := by omega
      have hja2 := accsB_len heB (l := e.touched) fun b hb => hb
      simp
      refine callf [0, 1] rfl Tryd.call21 (wb59 (keyB (c.take k) ++ (joinI (evI e) ++ accsB e.touched)) v2 (by simp; omega)) (by simp [RV.dom]) rfl (by simp [BldS, RV.dom]) (by simp [BldS, RV.dom]) (by simp [BldS]) ?_
      rintro r _ ⟨rfl, rfl⟩
      simp [BldS, hw]
      refine ⟨k + 1, rfl, ?_, by omega, by omega⟩
      rw [hsn]; simp [lineB]
  · obtain rfl : k = t.length := by omega
    simp
    rw [← hct, List.take_length]
    refine callf [0, 1] rfl Tryd.call22 (stS (keyB c) (pB q) u) (by simp [RV.dom]) rfl (by simp [BldS, RV.dom]) (by simp [BldS, RV.dom]) (by simp [BldS]) ?_
    rintro r _ ⟨rfl, rfl⟩
    simp
end Go.Sc.Or
