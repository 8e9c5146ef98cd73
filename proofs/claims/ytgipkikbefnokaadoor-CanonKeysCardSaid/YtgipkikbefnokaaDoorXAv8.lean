/- That the walk tells the truth: regions, code, functions. No condition. -/
import Derived.Test.YtgipkikbefnokaaDoorXAv7
import Derived.Deep.LoopGhost
import Derived.OrdersIn
import Derived.Test.YtgipkikbefnokaaDoorXAv4
set_option linter.constructorNameAsVariable false
namespace Go.Av
open Go Go.RowKit
set_option linter.unusedSimpArgs false
set_option linter.unusedVariables false

theorem evm_congr' {A B : AX → RV} {H : List AObj} {q : MOp} (h : ∀ x ∈ q.xs, A x = B x) : evm A H q = evm B H q := by
  cases q <;> simp_all [evm, MOp.xs]
  case bsl n sz z ps =>
    congr 2
    apply List.map_congr_left
    rintro ⟨x1, x2, x⟩ hx
    simp only [h x x1 x2 hx]

def Matched (P : Program) (N : Nat) (ops : Array Oper) : List Nat → List AO → Prop
  | [], [] => True
  | i :: is, q :: qs => (∃ o, ops[i]? = some o ∧ resAO P N ops o = some q) ∧ Matched P N ops is qs
  | _, _ => False

theorem callsIn_round {P : Program} {rd : Option Nat} {f : Nat} {vs : Array Value} {w : World} {R : Ending → World → Prop} (h : CallsIn (FW none) 0 P f vs w R) : CallsIn (FW rd) 0 P f vs w R := h

theorem call_run {P : Program} {e : Env} {a : Act} {A : AX → RV} {c : Call} {fo : Operand} {args : List AX} {o : Oper} {fid : Nat} {caps : Caps} {rf : RV} (ho : o.op = .call c) (hcal : c.callee = .value fo) (hargs : c.args.toList.mapM (resX P) = some args)
    (hf : VR e rf (a.eval fo)) (hA : ∀ x y, resX P x = some y → x ∈ c.args.toList → VR e (A y) (a.eval x)) (hfn : fnv rf = some (fid, caps)) (hcall : ∀ vs w, (callFunc fid vs).run P w = .ok (.enter fid vs) w) :
    ∃ vs : Array Value, (execOp a.eval o).run P e.w = .ok (.enter fid vs) e.w ∧ vs.size = (capd caps (args.map A)).length ∧ ∀ (j : Nat) x y, (capd caps (args.map A))[j]? = some x → vs[j]? = some y → VR e x y := by
  obtain ⟨h1, h2⟩ := mapM_get hargs
  have hval : ∃ (bv cv : Array Value), a.eval fo = .func (.func fid) bv cv ∧ (bv.size = caps.1.length ∧ ∀ (j : Nat) x y, caps.1[j]? = some x → bv[j]? = some y → VR e x y) ∧ cv.size = caps.2.length ∧ ∀ (j : Nat) x y, caps.2[j]? = some x → cv[j]? = some y → VR e x y := by
    unfold fnv at hfn
    split at hfn
    · rename_i f' cs
      cases hfn
      have hvi := vr_v hf
      generalize a.eval fo = val at hvi
      cases hvi with
      | fn _ _ vs hn h =>
        refine ⟨#[], vs, rfl, ⟨rfl, fun j x y hx => by simp at hx⟩, by simpa using hn, fun j x y hx hy => ?_⟩
        rw [List.getElem?_map, Option.map_eq_some_iff] at hx
        obtain ⟨x', hx', rfl⟩ := hx
        exact .v (h j x' y hx' hy)
    · rename_i f' cs
      cases hfn
      generalize a.eval fo = val at hf
      cases hf with
      | fr hn h => exact ⟨#[], _, rfl, ⟨rfl, fun j x y hx => by simp at hx⟩, hn, h⟩
    · rename_i f' cs
      cases hfn
      generalize a.eval fo = val at hf
      cases hf with
      | bf hn h => exact ⟨_, #[], rfl, ⟨hn, h⟩, rfl, fun j x y hx => by simp at hx⟩
    · cases hfn
  obtain ⟨bv, cv, hcv, ⟨hbn, hbr⟩, hcn, hcr⟩ := hval
  obtain ⟨pre, post⟩ := caps
  simp only at hbn hbr hcn hcr
  refine ⟨(bv ++ c.args.map a.eval) ++ cv, ?_, ?_, ?_⟩
  · simp [execOp, ho, resolve, hcal, hcv, Deferred.ofValue, invoke, hcall]
  · simp [h1, hcn, hbn, capd, Nat.add_assoc]
  · intro j x y hx hy
    have hlen : (args.map A).length = (c.args.map a.eval).size := by simp [h1]
    simp only [capd] at hx
    rw [Array.append_assoc] at hy
    by_cases hj0 : j < pre.length
    · rw [List.getElem?_append_left hj0] at hx
      rw [Array.getElem?_append_left (by omega)] at hy
      exact hbr j x y hx hy
    rw [List.getElem?_append_right (by omega)] at hx
    rw [Array.getElem?_append_right (by omega), hbn] at hy
    by_cases hj : j - pre.length < (args.map A).length
    · rw [List.getElem?_append_left hj, List.getElem?_map, Option.map_eq_some_iff] at hx
      obtain ⟨x', hx', rfl⟩ := hx
      rw [Array.getElem?_append_left (by omega), Array.getElem?_map, Option.map_eq_some_iff] at hy
      obtain ⟨y', hy', rfl⟩ := hy
      have hy'' : c.args.toList[j - pre.length]? = some y' := by simpa using hy'
      exact hA y' x' (h2 _ y' x' hy'' hx') (List.mem_of_getElem? hy'')
    · rw [List.getElem?_append_right (by omega)] at hx
      rw [Array.getElem?_append_right (by omega)] at hy
      rw [hlen] at hx
      exact hcr _ x y hx hy

theorem uponIn_call {P : Program} {rd : Option Nat} {o : Oper} {a : Act} {w : World} {fid : Nat} {vs : Array Value} {next : Act → World → Prop} {Q : Exit → Act → World → Prop} (hd : ∀ c, o.op ≠ .defer c) (h : (execOp a.eval o).run P w = .ok (.enter fid vs) w)
    {R : Value → World → Prop} (hc : CallsIn (FW none) 0 P fid vs w fun E w' => ∃ c, E = .returned c ∧ R c w') (hn : ∀ c w', R c w' → next (a.put o.dst c) w') : o.wpIn (FW rd) 0 P a w next Q := by
  refine ⟨wide_about, ?_⟩
  rw [semAt_plain hd, h]
  refine ⟨fun h => by simp at h, callsIn_round (hc.mono ?_)⟩
  rintro E w' ⟨c, rfl, hr⟩
  exact hn c w' hr

theorem roundIn_round {P : Program} {rd : Option Nat} {l : Nat} {f : FuncId} {tmps : Array Value} {x y : Code} {w : World} {R : Ending → World → Prop} (h : RoundIn (FW none) 0 P l f tmps x y w R) : RoundIn (FW rd) 0 P l f tmps x y w R := h

theorem yield_run {P : Program} {e : Env} {a : Act} {A : AX → RV} {c : Call} {fo : Operand} {args : List AX} {o : Oper} {l : Nat} {s : Stt} {rf : RV} (ho : o.op = .call c) (hcal : c.callee = .value fo) (hargs : c.args.toList.mapM (resX P) = some args)
    (hf : VR e rf (a.eval fo)) (hA : ∀ x y, resX P x = some y → x ∈ c.args.toList → VR e (A y) (a.eval x)) (hy : yv rf = some (l, s)) :
    Bs l s e.st ∧ ∃ vs : Array Value, (∀ w, (execOp a.eval o).run P w = (Instr.yield l vs).run P w) ∧ vs.size = (args.map A).length ∧ ∀ (j : Nat) x y, (args.map A)[j]? = some x → vs[j]? = some y → VR e x y := by
  obtain ⟨h1, h2⟩ := mapM_get hargs
  cases rf <;> simp [yv] at hy
  obtain ⟨rfl, rfl⟩ := hy
  generalize hval : a.eval fo = val at hf
  cases hf with
  | yl hs =>
    refine ⟨hs, c.args.map a.eval, fun w => ?_, by simp [h1], fun j x y hx hy => ?_⟩
    · simp [execOp, ho, resolve, hcal, hval, Deferred.ofValue, invoke]
    · rw [List.getElem?_map, Option.map_eq_some_iff] at hx
      obtain ⟨x', hx', rfl⟩ := hx
      rw [Array.getElem?_map, Option.map_eq_some_iff] at hy
      obtain ⟨y', hy', rfl⟩ := hy
      have hy'' : c.args.toList[j]? = some y' := by simpa using hy'
      exact hA y' x' (h2 _ y' x' hy'' hx') (List.mem_of_getElem? hy'')

theorem uponIn_yield {P : Program} {rd : Option Nat} {o : Oper} {a : Act} {w : World} {l : Nat} {vs : Array Value} {next : Act → World → Prop} {Q : Exit → Act → World → Prop} (hd : ∀ c, o.op ≠ .defer c) (h : (execOp a.eval o).run P w = (Instr.yield l vs).run P w)
    {R : Value → World → Prop} (hc : YieldAt (FW none) 0 P l vs w fun E w' => ∃ c, E = .returned c ∧ R c w') (hn : ∀ c w', R c w' → next (a.put o.dst c) w') : o.wpIn (FW rd) 0 P a w next Q := by
  obtain ⟨fn, tmps, x, y, hr, hc⟩ := hc
  refine ⟨wide_about, ?_⟩
  rw [semAt_plain hd, h, hr]
  refine ⟨fun h => by simp at h, roundIn_round (hc.mono ?_)⟩
  rintro E w' ⟨c, rfl, hr⟩
  exact hn c w' hr

theorem evR_ok {P : Program} {rd : Option Nat} {ops : Array Oper} {N : Nat} {D : List Deferred} {e0 : Env} (g0 : Good e0) (t0 : Tabs P e0) {Q : Exit → Act → World → Prop} :
    ∀ (idx : List Nat) (os : List AO) (K : AS → Prop), (∀ σ a w, K σ → Rel e0 N D σ a w → Q .normal a w) → Matched P N ops idx os → ∀ σ a w, evR P os σ K → Rel e0 N D σ a w → wpOpsIn (FW rd) 0 P ops Q idx a w := by
  intro idx
  induction idx with
  | nil =>
    intro os K hK hm σ a w hev hr
    cases os with
    | nil => exact hK σ a w hev hr
    | cons => exact hm.elim
  | cons i idx ih =>
    intro os K hK hm σ a w hev hr
    cases os with
    | nil => exact hm.elim
    | cons q os =>
      obtain ⟨⟨o, ho, hres⟩, hm⟩ := hm
      obtain ⟨ins, hins, hqop, hqd, hdst, hgd⟩ := dst_ok hres
      obtain ⟨e, rfl, hH, g, mv, hf, hN, hD⟩ := hr
      have hA := reads_ax (t0.mv mv) hf
      have hndef := resOp_defer (P := P) (op := o.op) (by rw [hins]; rfl)
      have next : ∀ {fr : List (Nat × RV)} {H : List AObj} (e' : Env) (r : RV) (c : Value), fr = σ.fr → e'.H = H → Good e' → Mv e e' → VR e' r c → evR P os ⟨upd fr q.dst r, H⟩ K → wpOpsIn (FW rd) 0 P ops Q idx (a.put o.dst c) e'.w := by
        intro fr H e' r c hfr hH' g' mv' hr' hev'
        subst hfr
        rw [hqd] at hev'
        exact ih os K hK hm _ _ _ hev' (rel_put g0 hH' g' mv mv' hf hN hD hdst hr')
      simp only [wpOpsIn, ho]
      cases hgo : o.guard with
      | none =>
        have hq0 : q.gd = none := by
          rcases hgd with ⟨_, h⟩ | ⟨j, want, d, h, _⟩
          · exact h
          · rw [hgo] at h; cases h
        have hw : Region.wanted o (yielded ops a.tmps) = true := by simp [Region.wanted, hgo]
        rw [hw, if_pos rfl]
        cases hop : q.op with
        | pk x y z =>
          simp only [evR, hop, evPk, hq0] at hev
          split at hev
          · rename_i C r hpk
            obtain ⟨oc, ox, oy, hoop, h1, h2, h3⟩ := pk_ok (P := P) (e := e) hA (resI_c (by rw [hins, ← hqop, hop]) (by simp) (by simp))
            obtain ⟨c, hrun, hvr⟩ := pick_ok (P := P) (A := ax σ.fr) (B := ax σ.fr) (hA _ _ h1) (hA _ _ h2) (hA _ _ h3) hoop hpk hev.1
            exact uponIn_val hndef hrun (next e r c rfl hH g .refl hvr hev.2)
          · exact hev.elim
        | q x =>
          simp only [evR, hop, evo, hq0] at hev
          split at hev
          · rename_i C r hq
            obtain ⟨c, hrun, hvr⟩ := evq_ok g hA (resI_q (by rw [hins, ← hqop, hop])) (by rw [hH]; exact hq) hev.1
            exact uponIn_val hndef hrun (next e r c rfl hH g .refl hvr hev.2)
          · exact hev.elim
        | m x =>
          simp only [evR, hop, hq0] at hev
          split at hev
          · rename_i C r H' _ hq
            obtain ⟨e', hH', g', mv', hh⟩ := evm_ok g hA (resI_m (by rw [hins, ← hqop, hop])) (by rw [hH]; exact hq) hev.1
            rcases hh with ⟨c, hrun, hvr⟩ | ⟨hrun, rfl⟩
            · exact uponIn_val hndef hrun (next e' r c rfl hH' g' mv' hvr hev.2)
            · exact ⟨wide_about, by rw [semAt_plain hndef, hrun]; exact next e' .any undef rfl hH' g' mv' .any hev.2⟩
          · exact hev.elim
          · contradiction
        | nx it =>
          simp only [evR, hop, hq0] at hev
          obtain ⟨x, hx, hx'⟩ := nx_of (resI_c (by rw [hins, ← hqop, hop]) (by simp) (by simp))
          rw [← hH] at hev
          obtain ⟨e', r, c, hrun, g', mv', hvr, hev'⟩ := nxt_ok (P := P) (ty := o.type) g (hA _ _ hx') hev
          exact uponIn_val hndef (w' := e'.w) (by simp [execOp, hx, hrun]) (next e' r c rfl rfl g' mv' hvr hev')
        | call f args =>
          simp only [evR, hop, CallK, hq0] at hev
          split at hev
          rotate_left
          · simp only [YieldK] at hev
            split at hev
            rotate_left
            · exact hev.elim
            rename_i l s hy
            obtain ⟨c, fo, hoop, hcal, hfo, hargs⟩ := call_of (resI_c (by rw [hins, ← hqop, hop]) (by simp) (by simp))
            obtain ⟨hs, vs, hrun, hn, hv⟩ := yield_run (P := P) hoop hcal hargs (hA _ _ hfo) (fun x y h _ => hA x y h) hy
            refine uponIn_yield (R := fun c w' => ∃ (e' : Env) (r : RV), e'.w = w' ∧ Good e' ∧ Mv e e' ∧ VR e' r c ∧ evR P os ⟨upd σ.fr q.dst r, e'.H⟩ K) hndef (hrun _) ((hev e vs g (t0.mv mv) hH hs hn hv).mono ?_) ?_
            · rintro E w' ⟨c, e', r, h1, h2, h3, h4, h5, h6⟩
              exact ⟨c, h1, e', r, h2, h3, h4, h5, h6⟩
            · rintro c w' ⟨e', r, rfl, g', mv', hvr, hev'⟩
              exact next e' r c rfl rfl g' mv' hvr hev'
          rename_i fid caps hfn
          obtain ⟨hcall, hcs⟩ := hev
          obtain ⟨c, fo, hoop, hcal, hfo, hargs⟩ := call_of (resI_c (by rw [hins, ← hqop, hop]) (by simp) (by simp))
          obtain ⟨vs, hrun, hn, hv⟩ := call_run (P := P) hoop hcal hargs (hA _ _ hfo) (fun x y h _ => hA x y h) hfn hcall
          refine uponIn_call (R := fun c w' => ∃ (e' : Env) (r : RV), e'.w = w' ∧ Good e' ∧ Mv e e' ∧ VR e' r c ∧ evR P os ⟨upd σ.fr q.dst r, e'.H⟩ K) hndef hrun ((hcs e vs g (t0.mv mv) hH hn hv).mono ?_) ?_
          · rintro E w' ⟨c, e', r, h1, h2, h3, h4, h5, h6⟩
            exact ⟨c, h1, e', r, h2, h3, h4, h5, h6⟩
          · rintro c w' ⟨e', r, rfl, g', mv', hvr, hev'⟩
            exact next e' r c rfl rfl g' mv' hvr hev'
      | some jw =>
        obtain ⟨j, want⟩ := jw
        obtain ⟨d, hdd, hq1⟩ : ∃ d, (ops[j]?).bind (·.dst) = some d ∧ q.gd = some (d, want) := by
          rcases hgd with ⟨h, _⟩ | ⟨j', want', d, h, h1, h2⟩
          · rw [hgo] at h; cases h
          · rw [hgo] at h; cases h; exact ⟨d, h1, h2⟩
        have guarded : ∀ (G : Bool) (r : RV), gval (lk σ.fr d) want = some G → (G = true → ∀ K' : Act → World → Prop, (∀ c e', e'.H = σ.hp → Good e' → Mv e e' → VR e' r c → K' (a.put o.dst c) e'.w) → o.wpIn (FW rd) 0 P a e.w K' Q) → evR P os ⟨upd σ.fr q.dst (.cnd G r), σ.hp⟩ K →
            (if Region.wanted o (yielded ops a.tmps) = true then o.wpIn (FW rd) 0 P a e.w (wpOpsIn (FW rd) 0 P ops Q idx) Q else (∀ f, o.about P e.w a.eval = some f → (FW rd).fn f) ∧ wpOpsIn (FW rd) 0 P ops Q idx (a.put o.dst undef) e.w) := by
          intro G r hG hrun hev'
          rw [wanted_ok hN hf hgo hdd hG]
          cases G with
          | true =>
            rw [if_pos rfl]
            exact hrun rfl _ (fun c e' h1 h2 h3 h4 => next e' (.cnd true r) c rfl h1 h2 h3 (.cnd (fun _ => h4) (fun h => by cases h)) hev')
          | false =>
            rw [if_neg (by simp)]
            exact ⟨wide_about, next e (.cnd false r) undef rfl hH g .refl (.cnd (fun h => by cases h) (fun _ => rfl)) hev'⟩
        cases hop : q.op with
        | pk x y z =>
          simp only [evR, hop, evPk, hq1] at hev
          split at hev
          · rename_i C r hpk
            simp only [Option.bind_eq_some_iff, Option.some.injEq] at hpk
            obtain ⟨G, hG, he⟩ := hpk
            cases hqq : evPick (opn (ax σ.fr x)) (ax σ.fr y) (ax σ.fr z) with
            | none =>
              rw [hqq] at he
              cases he
              exact guarded G (.v (.b false)) hG (fun hGt => by have := hev.1; rw [hGt] at this; cases this) hev.2
            | some Cr =>
            obtain ⟨C', r'⟩ := Cr
            rw [hqq] at he
            cases he
            refine guarded G r' hG (fun hGt K' hK' => ?_) hev.2
            obtain ⟨hob, hC⟩ := hev.1 hGt
            have hpk := hqq
            obtain ⟨oc, ox, oy, hoop, h1, h2, h3⟩ := pk_ok (P := P) (e := e) hA (resI_c (by rw [hins, ← hqop, hop]) (by simp) (by simp))
            obtain ⟨c, hrun, hvr⟩ := pick_ok (P := P) (A := ax σ.fr) (B := fun x => opn (ax σ.fr x)) (opn_vr (hA _ _ h1) hob) (hA _ _ h2) (hA _ _ h3) hoop hpk hC
            exact uponIn_val hndef hrun (hK' c e hH g .refl hvr)
          · exact hev.elim
        | q x =>
          simp only [evR, hop, evo, hq1] at hev
          split at hev
          · rename_i C r hq
            simp only [Option.bind_eq_some_iff, Option.some.injEq] at hq
            obtain ⟨G, hG, he⟩ := hq
            cases hqq : evq (fun x => opn (ax σ.fr x)) σ.hp x with
            | none =>
              rw [hqq] at he
              cases he
              exact guarded G (.v (.b false)) hG (fun hGt => by have := hev.1; rw [hGt] at this; cases this) hev.2
            | some Cr =>
            obtain ⟨C', r'⟩ := Cr
            rw [hqq] at he
            cases he
            refine guarded G r' hG (fun hGt K' hK' => ?_) hev.2
            obtain ⟨hob, hC⟩ := hev.1 hGt
            classical
            have hq' : evq (fun x => if obl (ax σ.fr x) then opn (ax σ.fr x) else .any) e.H x = some (C', r') := by
              rw [hH, ← hqq]
              exact evq_congr (fun y hy => by rw [if_pos (obls_mem hob y hy)])
            obtain ⟨c, hrun, hvr⟩ := evq_ok g (reads_opn hA) (resI_q (by rw [hins, ← hqop, hop])) hq' hC
            exact uponIn_val hndef hrun (hK' c e hH g .refl hvr)
          · exact hev.elim
        | m x =>
          simp only [evR, hop, hq1, GmK] at hev
          split at hev
          · rename_i hG
            split at hev
            rotate_left
            · exact hev.elim
            rename_i C r H' hq
            obtain ⟨hob, hC, hev⟩ := hev
            rw [wanted_ok hN hf hgo hdd hG, if_pos rfl]
            classical
            have hq' : evm (fun x => if obl (ax σ.fr x) then opn (ax σ.fr x) else .any) e.H x = some (C, r, H') := by
              rw [hH, ← hq]
              exact evm_congr' (fun y hy => by rw [if_pos (obls_mem hob y hy)])
            obtain ⟨e', hH', g', mv', hh⟩ := evm_ok g (reads_opn hA) (resI_m (by rw [hins, ← hqop, hop])) hq' hC
            rcases hh with ⟨c, hrun, hvr⟩ | ⟨hrun, rfl⟩
            · exact uponIn_val hndef hrun (next e' (.cnd true r) c rfl hH' g' mv' (.cnd (fun _ => hvr) (fun h => by cases h)) hev)
            · exact ⟨wide_about, by rw [semAt_plain hndef, hrun]; exact next e' (.cnd true .any) undef rfl hH' g' mv' (.cnd (fun _ => .any) (fun h => by cases h)) hev⟩
          · rename_i hG
            rw [wanted_ok hN hf hgo hdd hG, if_neg (by simp)]
            exact ⟨wide_about (rd := rd), next e (.cnd false (.v (.b false))) undef rfl hH g .refl (.cnd (fun h => by cases h) (fun _ => rfl)) hev⟩
          · exact hev.elim
        | nx it =>
          simp only [evR, hop, hq1] at hev
        | call f args =>
          simp only [evR, hop, CallK, hq1] at hev
          split at hev
          rotate_left
          · simp only [YieldK] at hev
            split at hev
            · rename_i hG
              obtain ⟨hobf, hob, hev⟩ := hev
              rw [wanted_ok hN hf hgo hdd hG, if_pos rfl]
              obtain ⟨c, fo, hoop, hcal, hfo, hargs⟩ := call_of (resI_c (by rw [hins, ← hqop, hop]) (by simp) (by simp))
              obtain ⟨h1, h2⟩ := mapM_get hargs
              have hmem : ∀ x y, resX P x = some y → x ∈ c.args.toList → VR e (opn (ax σ.fr y)) (a.eval x) := by
                intro x y hxy hx
                have : y ∈ args := by
                  obtain ⟨k, hk, rfl⟩ := List.getElem_of_mem hx
                  have hk' : k < args.length := by omega
                  have := h2 k _ args[k] (List.getElem?_eq_getElem hk) (List.getElem?_eq_getElem hk')
                  rw [hxy] at this; cases this
                  exact List.getElem_mem hk'
                exact opn_vr (hA x y hxy) (obls_mem hob y this)
              split at hev
              · rename_i fid caps hfn
                obtain ⟨hcall, hcs⟩ := hev
                obtain ⟨vs, hrun, hn, hv⟩ := call_run (P := P) (A := fun x => opn (ax σ.fr x)) hoop hcal hargs (opn_vr (hA _ _ hfo) hobf) hmem hfn hcall
                refine uponIn_call (R := fun c w' => ∃ (e' : Env) (r : RV), e'.w = w' ∧ Good e' ∧ Mv e e' ∧ VR e' r c ∧ evR P os ⟨upd σ.fr q.dst (.cnd true r), e'.H⟩ K) hndef hrun ((hcs e vs g (t0.mv mv) hH hn hv).mono ?_) ?_
                · rintro E w' ⟨c, e', r, h1, h2, h3, h4, h5, h6⟩
                  exact ⟨c, h1, e', r, h2, h3, h4, h5, h6⟩
                · rintro c w' ⟨e', r, rfl, g', mv', hvr, hev'⟩
                  exact next e' (.cnd true r) c rfl rfl g' mv' (.cnd (fun _ => hvr) (fun h => by cases h)) hev'
              · split at hev
                rotate_left
                · exact hev.elim
                rename_i l s hy
                obtain ⟨hs, vs, hrun, hn, hv⟩ := yield_run (P := P) (A := fun x => opn (ax σ.fr x)) hoop hcal hargs (opn_vr (hA _ _ hfo) hobf) hmem hy
                refine uponIn_yield (R := fun c w' => ∃ (e' : Env) (r : RV), e'.w = w' ∧ Good e' ∧ Mv e e' ∧ VR e' r c ∧ evR P os ⟨upd σ.fr q.dst (.cnd true r), e'.H⟩ K) hndef (hrun _) ((hev e vs g (t0.mv mv) hH hs hn hv).mono ?_) ?_
                · rintro E w' ⟨c, e', r, h1, h2, h3, h4, h5, h6⟩
                  exact ⟨c, h1, e', r, h2, h3, h4, h5, h6⟩
                · rintro c w' ⟨e', r, rfl, g', mv', hvr, hev'⟩
                  exact next e' (.cnd true r) c rfl rfl g' mv' (.cnd (fun _ => hvr) (fun h => by cases h)) hev'
            · rename_i hG
              rw [wanted_ok hN hf hgo hdd hG, if_neg (by simp)]
              exact ⟨wide_about (rd := rd), next e (.cnd false (.v (.b false))) undef rfl hH g .refl (.cnd (fun h => by cases h) (fun _ => rfl)) hev⟩
            · exact hev.elim
          rename_i fid caps hfn
          obtain ⟨hcall, hev⟩ := hev
          split at hev
          rotate_left
          · exact hev.elim
          rename_i G hG
          obtain ⟨r, hpure, hev'⟩ := hev
          refine guarded G (.v r) hG (fun hGt K' hK' => ?_) hev'
          obtain ⟨hob, hps⟩ := hpure hGt
          obtain ⟨c, fo, hoop, hcal, hfo, hargs⟩ := call_of (resI_c (by rw [hins, ← hqop, hop]) (by simp) (by simp))
          obtain ⟨h1, h2⟩ := mapM_get hargs
          have hmem : ∀ x y, resX P x = some y → x ∈ c.args.toList → VR e (opn (ax σ.fr y)) (a.eval x) := by
            intro x y hxy hx
            have : y ∈ args := by
              obtain ⟨k, hk, rfl⟩ := List.getElem_of_mem hx
              have hk' : k < args.length := by omega
              have := h2 k _ args[k] (List.getElem?_eq_getElem hk) (List.getElem?_eq_getElem hk')
              rw [hxy] at this; cases this
              exact List.getElem_mem hk'
            exact opn_vr (hA x y hxy) (obls_mem hob y this)
          obtain ⟨vs, hrun, hn, hv⟩ := call_run (P := P) (A := fun x => opn (ax σ.fr x)) hoop hcal hargs (hA _ _ hfo) hmem hfn hcall
          refine uponIn_call (R := fun c w' => ∃ (e' : Env), e'.w = w' ∧ Good e' ∧ Mv e e' ∧ VR e' (.v r) c ∧ e'.H = σ.hp) hndef hrun ((hps e vs g (t0.mv mv) hH hn hv).mono ?_) ?_
          · rintro E w' ⟨c, e', r', h1, h2, h3, h4, h5, rfl, h7⟩
            exact ⟨c, h1, e', h2, h3, h4, h5, h7⟩
          · rintro c w' ⟨e', rfl, g', mv', hvr, hH'⟩
            exact hK' c e' hH' g' mv' hvr

theorem matched_of {P : Program} {N : Nat} {ops : Array Oper} : ∀ (l : List Oper) (os : List AO) (k : Nat), l.mapM (resAO P N ops) = some os → (∀ (j : Nat) o, l[j]? = some o → ops[k + j]? = some o) → Matched P N ops (List.range' k l.length) os := by
  intro l
  induction l with
  | nil => intro os k h _; simp at h; subst h; trivial
  | cons o l ih =>
    intro os k h hk
    simp only [List.mapM_cons, Option.bind_eq_bind, Option.bind_eq_some_iff] at h
    obtain ⟨q, hq, os', hos, e⟩ := h
    simp at e; subst e
    simp only [List.length_cons, List.range'_succ]
    refine ⟨⟨o, by simpa using hk 0 o (by simp), hq⟩, ih os' (k + 1) hos (fun j o' ho' => ?_)⟩
    have := hk (j + 1) o' (by simpa using ho')
    rw [show k + 1 + j = k + (j + 1) by omega]; exact this

theorem QQ.mono {Q Q' : AE → AS → Prop} {e0 : Env} {N : Nat} {D : List Deferred} (h : ∀ e σ, Q e σ → Q' e σ) {e : Exit} {a : Act} {w : World} (hq : QQ Q e0 N D e a w) : QQ Q' e0 N D e a w := by
  cases e with
  | normal => obtain ⟨σ, h1, h2⟩ := hq; exact ⟨σ, h _ _ h1, h2⟩
  | exit id => obtain ⟨σ, h1, h2⟩ := hq; exact ⟨σ, h _ _ h1, h2⟩
  | ret => obtain ⟨σ, h1, h2⟩ := hq; exact ⟨σ, h _ _ h1, h2⟩
  | goto l => exact hq.elim
  | panic c => exact hq.elim
  | outgrown => exact hq.elim

theorem lk_keep {fr : List (Nat × RV)} {l : List Nat} {e : Env} {v : Value} {t : Nat} (h : VR e (lk fr t) v) : VR e (lk (l.map fun t => (t, lk fr t)) t) v := by
  induction l with
  | nil => exact .any
  | cons s l ih =>
    simp only [List.map_cons, lk]
    split
    · rename_i hst; subst hst; exact h
    · exact ih

end Go.Av
/- A region that draws its order tells the same in whatever order. No condition. -/
set_option linter.constructorNameAsVariable false
namespace Go.Av
open Go Go.RowKit
set_option linter.unusedSimpArgs false
set_option linter.unusedVariables false

theorem lk_eq {fr fr' : List (Nat × RV)} {x : AX} (h : ∀ t, x = .t t → lk fr t = lk fr' t) : ax fr x = ax fr' x := by
  cases x with
  | t n => exact h n rfl
  | c v => rfl
  | f n => rfl

theorem obls_congr {fr fr' : List (Nat × RV)} : ∀ {l : List AX}, (∀ x ∈ l, ax fr x = ax fr' x) → (obls fr l ↔ obls fr' l)
  | [], _ => Iff.rfl
  | [x], h => by simp [obls, h x (by simp)]
  | x :: y :: l, h => by simp only [obls, h x (by simp)]; rw [obls_congr (fun z hz => h z (by simp at hz; simp [hz]))]

theorem evQ_congr {P : Program} {fr fr' : List (Nat × RV)} {H : List AObj} {o : AO} {K : RV → Prop} (h : ∀ t ∈ o.uses, lk fr t = lk fr' t) (hq : evQ P ⟨fr, H⟩ o K) : evQ P ⟨fr', H⟩ o K := by
  have hx : ∀ x ∈ o.op.xs, ax fr x = ax fr' x := fun x hx => lk_eq (fun t ht => h t (by subst ht; exact List.mem_append_left _ (List.mem_filterMap.2 ⟨_, hx, rfl⟩)))
  have hg : ∀ j w, o.gd = some (j, w) → lk fr j = lk fr' j := fun j w hj => h j (List.mem_append_right _ (by rw [hj]; simp))
  obtain ⟨dst, gd, op⟩ := o
  cases op with
  | pk a b c =>
    simp only [AInst.xs] at hx
    simp only [evQ, evPk] at hq ⊢
    rw [hx a (by simp), hx b (by simp), hx c (by simp)] at hq
    cases gd with
    | none => exact hq
    | some jw => obtain ⟨j, w⟩ := jw; simp only [hg j w rfl] at hq; exact hq
  | q y =>
    simp only [AInst.xs] at hx
    simp only [evQ, evo] at hq ⊢
    cases gd with
    | none => rw [evq_congr hx] at hq; exact hq
    | some jw =>
      obtain ⟨j, w⟩ := jw
      simp only [hg j w rfl, evq_congr (A := fun x => opn (ax fr x)) (B := fun x => opn (ax fr' x)) (fun x h => by rw [hx x h]), obls_congr hx] at hq
      exact hq
  | nx it => exact hq.elim
  | m y => exact hq.elim
  | call f args =>
    simp only [AInst.xs] at hx
    simp only [evQ] at hq ⊢
    have ha : args.map (ax fr) = args.map (ax fr') := List.map_congr_left (fun x h => hx x (by simp [h]))
    have hb : (args.map fun x => opn (ax fr x)) = args.map fun x => opn (ax fr' x) := List.map_congr_left (fun x h => by rw [hx x (by simp [h])])
    rw [hx f (by simp), ha, hb] at hq
    cases gd with
    | none => exact hq
    | some jw =>
      obtain ⟨j, w⟩ := jw
      have hob : obls fr args ↔ obls fr' args := obls_congr (fun x h => hx x (by simp [h]))
      simp only [hg j w rfl, hob] at hq ⊢
      exact hq

theorem evQ_get {P : Program} {σ : AS} {o : AO} {K : RV → Prop} (h : evQ P σ o K) : ∃ r, K r ∧ evQ P σ o (fun r' => r' = r) := by
  unfold evQ at h ⊢
  split at h
  · split at h
    · exact ⟨_, h.2, h.1, rfl⟩
    · exact h.elim
  · split at h
    · exact ⟨_, h.2, h.1, rfl⟩
    · exact h.elim
  · exact h.elim
  · split at h
    · obtain ⟨hc, h⟩ := h
      split at h
      · obtain ⟨r, h1, h2⟩ := h; exact ⟨_, h2, hc, r, h1, rfl⟩
      · split at h
        · obtain ⟨r, h1, h2⟩ := h; exact ⟨_, h2, hc, r, h1, rfl⟩
        · exact h.elim
    · exact h.elim
  · exact h.elim

theorem evQ_evR {P : Program} {σ : AS} {o : AO} {r : RV} (h : evQ P σ o (fun r' => r' = r)) : evR P [o] σ (fun σ' => σ' = ⟨upd σ.fr o.dst r, σ.hp⟩) := by
  obtain ⟨dst, gd, op⟩ := o
  cases op with
  | pk a b c =>
    simp only [evQ] at h
    simp only [evR]
    split at h
    · obtain ⟨h1, rfl⟩ := h; exact ⟨h1, rfl⟩
    · exact h.elim
  | q y =>
    simp only [evQ] at h
    simp only [evR]
    split at h
    · obtain ⟨h1, rfl⟩ := h; exact ⟨h1, rfl⟩
    · exact h.elim
  | m y => exact h.elim
  | nx it => exact h.elim
  | call f args =>
    simp only [evQ] at h
    simp only [evR, CallK]
    split at h
    · obtain ⟨hc, h⟩ := h
      refine ⟨hc, ?_⟩
      cases gd with
      | none =>
        obtain ⟨r', ⟨xs, hxs, hp⟩, rfl⟩ := h
        simp only
        rw [hxs]
        exact (hp.frame σ.hp).mono fun r'' H' ⟨h1, h2⟩ => by subst h1; subst h2; rfl
      | some jw =>
        obtain ⟨j, w⟩ := jw
        simp only at h ⊢
        split at h
        · obtain ⟨r', h1, rfl⟩ := h
          refine ⟨r', fun hG => ?_, rfl⟩
          obtain ⟨ho, xs, hxs, hp⟩ := h1 hG
          rw [hxs]
          exact ⟨ho, hp.frame σ.hp⟩
        · exact h.elim
    · exact h.elim

theorem wpOpIn_Q {F : Fence} {n : Nat} {P : Program} {ops : Array Oper} {Q Q' : Exit → Act → World → Prop} {i : Nat} {K : Act → World → Prop} {a : Act} {w : World} (h : ∀ e, e ≠ .normal → ∀ a w, Q e a w → Q' e a w) (hh : wpOpIn F n P ops Q i K a w) : wpOpIn F n P ops Q' i K a w := by
  unfold wpOpIn at *
  split
  · simpa [*] using hh
  · rename_i o ho
    simp only [ho] at hh
    split
    · rename_i hw
      simp only [hw, if_true] at hh
      refine ⟨hh.1, ?_⟩
      have hh := hh.2
      have hl : LetsOut Q → LetsOut Q' := fun ⟨a, w, hq⟩ => ⟨a, w, h _ (by simp) a w hq⟩
      generalize (o.semAt F.round a.eval).run P w = r at *
      cases r with
      | ok x w' =>
        cases x <;> simp only [Oper.uponIn] at hh ⊢ <;>
          first
            | exact hh
            | exact ⟨hh.1, CallsIn.mono hh.2 (fun e w'' he => by cases e <;> first | exact he | exact h _ (by simp) _ _ he | exact hl he)⟩
            | exact ⟨hh.1, RoundIn.mono hh.2 (fun e w'' he => by cases e <;> first | exact he | exact h _ (by simp) _ _ he | exact hl he)⟩
      | halt x w' => cases x <;> simp only [Oper.uponIn] at hh ⊢ <;> first | exact hh | exact h _ (by simp) _ _ hh
    · rename_i hw; simp only [hw] at hh; exact hh

theorem one_ok {P : Program} {rd : Option Nat} {ops : Array Oper} {N : Nat} {D : List Deferred} {e0 : Env} (g0 : Good e0) (t0 : Tabs P e0) {Q : Exit → Act → World → Prop} (hQ : ∀ e, e ≠ .normal → ∀ a w, ¬ Q e a w ∨ True)
    {i : Nat} {o : Oper} {q : AO} (ho : ops[i]? = some o) (hres : resAO P N ops o = some q) {σ : AS} {r : RV} (h : evQ P σ q (fun r' => r' = r)) {a : Act} {w : World} (hr : Rel e0 N D σ a w) {K : Act → World → Prop}
    (hK : ∀ a' w', Rel e0 N D ⟨upd σ.fr q.dst r, σ.hp⟩ a' w' → K a' w') : wpOpIn (FW rd) 0 P ops Q i K a w := by
  have := evR_ok (P := P) (rd := rd) (ops := ops) (N := N) (D := D) g0 t0 (Q := fun e a w => match e with | .normal => K a w | _ => False) [i] [q] (fun σ' => σ' = ⟨upd σ.fr q.dst r, σ.hp⟩)
    (fun σ' a' w' h1 h2 => by subst h1; exact hK a' w' h2) ⟨⟨o, ho, hres⟩, trivial⟩ σ a w (evQ_evR h) hr
  rw [wpOpsIn_cons] at this
  refine wpOpIn_Q ?_ this
  intro e he a w hf
  cases e with
  | normal => exact absurd rfl he
  | exit id => exact hf.elim
  | goto l => exact hf.elim
  | ret => exact hf.elim
  | panic c => exact hf.elim
  | outgrown => exact hf.elim

theorem Rel.congr {e0 : Env} {N : Nat} {D : List Deferred} {fr fr' : List (Nat × RV)} {H : List AObj} {a : Act} {w : World} (h : ∀ t, lk fr t = lk fr' t) (hr : Rel e0 N D ⟨fr, H⟩ a w) : Rel e0 N D ⟨fr', H⟩ a w := by
  obtain ⟨e, h1, h2, h3, h4, h5, h6⟩ := hr
  exact ⟨e, h1, h2, h3, h4, fun t => by rw [← h t]; exact h5 t, h6⟩

def frS (D : Nat → Bool) (os : List AO) (rs : List RV) (fr : List (Nat × RV)) : Nat → List (Nat × RV)
  | 0 => fr
  | k + 1 => if D k then upd (frS D os rs fr k) ((os[k]?).bind (·.dst)) (rs.getD k .any) else frS D os rs fr k

section
variable {D : Nat → Bool} {os : List AO} {rs : List RV} {fr : List (Nat × RV)}
theorem frS_out {t : Nat} : ∀ k, (∀ j, j < k → D j = true → (os[j]?).bind (·.dst) ≠ some t) → lk (frS D os rs fr k) t = lk fr t
  | 0, _ => rfl
  | k + 1, h => by
    have ih := frS_out k (fun j hj => h j (by omega))
    simp only [frS]
    split
    · rename_i hk
      have := h k (by omega) hk
      generalize (os[k]?).bind (·.dst) = d at this
      cases d with
      | none => exact ih
      | some s => simp only [upd, lk]; rw [if_neg (fun hc => this (by rw [hc]))]; exact ih
    · exact ih
theorem frS_in {t j : Nat} : ∀ k, j < k → D j = true → (os[j]?).bind (·.dst) = some t → (∀ j', j' < k → j' ≠ j → (os[j']?).bind (·.dst) ≠ some t) → lk (frS D os rs fr k) t = rs.getD j .any
  | 0, h, _, _, _ => by omega
  | k + 1, hj, hD, hd, hu => by
    simp only [frS]
    by_cases hjk : j = k
    · subst hjk
      rw [if_pos hD, hd]
      simp [upd, lk]
    · have ih := frS_in k (by omega) hD hd (fun j' h1 h2 => hu j' (by omega) h2)
      split
      · have := hu k (by omega) (fun hc => hjk hc.symm)
        generalize (os[k]?).bind (·.dst) = d at this
        cases d with
        | none => exact ih
        | some s => simp only [upd, lk]; rw [if_neg (fun hc => this (by rw [hc]))]; exact ih
      · exact ih
end

theorem evRD_get {P : Program} {K : AS → Prop} {H : List AObj} : ∀ (m : Nat) (os : List AO) (fr : List (Nat × RV)), m ≤ os.length → evRD P m os ⟨fr, H⟩ K →
    ∃ rs : List RV, (∀ i, i < m → ∃ o, os[i]? = some o ∧ evQ P ⟨frS (fun _ => true) os rs fr i, H⟩ o (fun r => r = rs.getD i .any)) ∧ evR P (os.drop m) ⟨frS (fun _ => true) os rs fr m, H⟩ K := by
  intro m
  induction m with
  | zero => intro os fr _ h; exact ⟨[], fun i hi => by omega, h⟩
  | succ m ih =>
    intro os fr hl h
    cases os with
    | nil => simp at hl
    | cons o os =>
      obtain ⟨r, hK, hq⟩ := evQ_get h
      obtain ⟨rs, h1, h2⟩ := ih os _ (by simpa using hl) hK
      have hfr : ∀ k, frS (fun _ => true) (o :: os) (r :: rs) fr (k + 1) = frS (fun _ => true) os rs (upd fr o.dst r) k := by
        intro k
        induction k with
        | zero => simp [frS]
        | succ k ihk => rw [frS, ihk]; simp [frS]
      refine ⟨r :: rs, fun i hi => ?_, by rw [hfr]; exact h2⟩
      cases i with
      | zero => exact ⟨o, rfl, by simpa [frS] using hq⟩
      | succ i =>
        obtain ⟨o', ho', hq'⟩ := h1 i (by omega)
        exact ⟨o', by simpa using ho', by rw [hfr]; simpa using hq'⟩

theorem evRE_get {P : Program} {K : AS → Prop} {H : List AObj} {ls : List Nat} : ∀ (m : Nat) (os : List AO) (fr : List (Nat × RV)) (idx : Nat) (l : List (List (Nat × RV) × AO × RV)), m ≤ os.length → evRE P ls idx l m os ⟨fr, H⟩ K →
    ∃ rs : List RV, (∀ i, i < m → ∃ o, os[i]? = some o ∧ evQ P ⟨frS (fun _ => true) os rs fr i, H⟩ o (fun r => r = rs.getD i .any)) ∧ ∃ l', (∀ x ∈ l, x ∈ l') ∧
      (∀ i o, i < m → os[i]? = some o → idx + i ∈ ls → (frS (fun _ => true) os rs fr i, o, rs.getD i .any) ∈ l') ∧ evRS P (!ls.isEmpty) l' (os.drop m) ⟨frS (fun _ => true) os rs fr m, H⟩ K := by
  intro m
  induction m with
  | zero => intro os fr idx l _ h; exact ⟨[], fun i hi => by omega, l, fun x hx => hx, fun i o hi => by omega, by simpa [evRE, frS] using h⟩
  | succ m ih =>
    intro os fr idx l hl h
    cases os with
    | nil => simp at hl
    | cons o os =>
      simp only [evRE] at h
      obtain ⟨r, hK, hq⟩ := evQ_get h
      obtain ⟨rs, h1, l', k1, k2, h2⟩ := ih os _ _ _ (by simpa using hl) hK
      have hfr : ∀ k, frS (fun _ => true) (o :: os) (r :: rs) fr (k + 1) = frS (fun _ => true) os rs (upd fr o.dst r) k := by
        intro k
        induction k with
        | zero => simp [frS]
        | succ k ihk => rw [frS, ihk]; simp [frS]
      refine ⟨r :: rs, fun i hi => ?_, l', fun x hx => k1 x (by split <;> simp [hx]), fun i o' hi ho' hls => ?_, by rw [hfr]; exact h2⟩
      · cases i with
        | zero => exact ⟨o, rfl, by simpa [frS] using hq⟩
        | succ i =>
          obtain ⟨o', ho', hq'⟩ := h1 i (by omega)
          exact ⟨o', by simpa using ho', by rw [hfr]; simpa using hq'⟩
      · cases i with
        | zero =>
          simp at ho'; subst ho'
          refine k1 _ ?_
          rw [if_pos (by simpa using hls)]
          simp [frS]
        | succ i =>
          have := k2 i o' (by omega) (by simpa using ho') (by rw [show idx + 1 + i = idx + (i + 1) by omega]; exact hls)
          rw [hfr]; simpa using this

theorem evRS_of {P : Program} {K : AS → Prop} : ∀ {os : List AO} {σ : AS}, evR P os σ K → evRS P false [] os σ K
  | [], σ, h => h
  | o :: os, σ, h => by
    have h' : evR P [o] σ (fun σ' => evR P os σ' K) := h
    have mono : ∀ {K1 K2 : AS → Prop}, (∀ σ, K1 σ → K2 σ) → evR P [o] σ K1 → evR P [o] σ K2 := fun {K1 K2} hk hh => by
      unfold evR at hh ⊢
      split at hh
      · split at hh
        · exact ⟨hh.1, hk _ hh.2⟩
        · exact hh.elim
      · split at hh
        · exact ⟨hh.1, hk _ hh.2⟩
        · exact hh.elim
      · split at hh
        · exact ⟨hh.1, hk _ hh.2⟩
        · exact hh.elim
        · exact GmK_mono (fun σ' h' => hk σ' h') hh
      · unfold CallK at hh ⊢
        split at hh
        · obtain ⟨h1, h2⟩ := hh
          refine ⟨h1, ?_⟩
          split at h2
          · exact h2.mono fun r H' hr => hk _ hr
          · split at h2
            · obtain ⟨r, h3, h4⟩ := h2
              exact ⟨r, h3, hk _ h4⟩
            · exact h2.elim
        · exact YieldK_mono (fun σ' h' => hk σ' h') hh
      · split at hh
        · exact NxtK_mono (fun r H' h' => hk _ h') hh
        · exact hh.elim
    simp only [evRS]
    refine ⟨fun h => absurd h (by decide), mono (fun σ' hs => ⟨.inr fun t ht => by simp [prune] at ht, evRS_of hs⟩) h'⟩

theorem evRE_of {P : Program} {K : AS → Prop} : ∀ {m : Nat} {os : List AO} {σ : AS} {idx : Nat}, evRD P m os σ K → evRE P [] idx [] m os σ K
  | 0, os, σ, idx, h => by simp only [evRE]; exact evRS_of h
  | m + 1, [], σ, idx, h => by simp only [evRE]; exact h
  | m + 1, o :: os, σ, idx, h => by
    simp only [evRE]
    have h' : evQ P σ o fun r => evRD P m os ⟨upd σ.fr o.dst r, σ.hp⟩ K := h
    obtain ⟨r, h1, h2⟩ := evQ_get h'
    have mono : ∀ {K1 K2 : RV → Prop}, (∀ r, K1 r → K2 r) → evQ P σ o K1 → evQ P σ o K2 := fun {K1 K2} hk hh => by
      unfold evQ at hh ⊢
      split at hh
      · split at hh
        · exact ⟨hh.1, hk _ hh.2⟩
        · exact hh.elim
      · split at hh
        · exact ⟨hh.1, hk _ hh.2⟩
        · exact hh.elim
      · exact hh
      · split at hh
        · obtain ⟨k1, k2⟩ := hh
          refine ⟨k1, ?_⟩
          split at k2
          · obtain ⟨r, k3, k4⟩ := k2
            exact ⟨r, k3, hk _ k4⟩
          · split at k2
            · obtain ⟨r, k3, k4⟩ := k2
              exact ⟨r, k3, hk _ k4⟩
            · exact k2.elim
        · exact hh.elim
      · exact hh.elim
    exact mono (fun r' hr => by subst hr; simpa using evRE_of (idx := idx + 1) h1) h2

theorem evR_split {P : Program} {o : AO} {os : List AO} {σ : AS} {K : AS → Prop} (h : evR P (o :: os) σ K) : evR P [o] σ (fun σ' => evR P os σ' K) := h

theorem quiets_le : ∀ os, quiets os ≤ os.length
  | [] => Nat.le_refl _
  | o :: os => by
    have := quiets_le os
    simp only [quiets]
    split
    · omega
    · omega
    · simp only [List.length_cons]; omega

theorem heavies_le : ∀ os, heavies os ≤ os.length
  | [] => Nat.le_refl _
  | o :: os => by
    have := heavies_le os
    simp only [heavies]
    split
    · omega
    · omega
    · omega
    · simp only [List.length_cons]; omega

theorem countP_flip {p p' : Nat → Bool} {n i : Nat} (hi : i < n) (h1 : p i = true) (h2 : p' i = false) (h : ∀ j, j ≠ i → p' j = p j) : (List.range n).countP p' + 1 = (List.range n).countP p := by
  induction n with
  | zero => omega
  | succ n ih =>
    rw [List.range_succ, List.countP_append, List.countP_append]
    by_cases hn : i = n
    · subst hn
      have : (List.range i).countP p' = (List.range i).countP p := List.countP_congr (fun j hj => by rw [h j (by have := List.mem_range.1 hj; omega)])
      simp [this, h1, h2]
    · have := ih (by omega)
      simp [h n (fun hc => hn hc.symm)]
      omega

theorem ready_mem {ops : Array Oper} {L : Array Bool} {i : Nat} : i ∈ Region.ready .any ops L ↔ i < ops.size ∧ L.getD i true = false ∧ ∀ j ∈ waits ops i, L.getD j false = true := by
  unfold Region.ready waits
  simp only [List.mem_filter, List.mem_range, Bool.and_eq_true, Bool.not_eq_true']
  constructor
  · rintro ⟨h1, h2, h3⟩
    refine ⟨h1, h2, fun j hj => ?_⟩
    have ho : ops[i]? = some ops[i] := by simp [h1]
    rw [ho] at h3 hj
    simp only [Option.map_some, Option.getD_some, Array.all_eq_true', Bool.or_eq_true, Bool.not_eq_true'] at h3
    simp only [List.mem_map, List.mem_filter] at hj
    obtain ⟨e, ⟨he, hb⟩, rfl⟩ := hj
    rcases h3 e (by simpa using he) with h | h
    · rw [h] at hb; cases hb
    · exact h
  · rintro ⟨h1, h2, h3⟩
    refine ⟨h1, h2, ?_⟩
    have ho : ops[i]? = some ops[i] := by simp [h1]
    rw [ho] at h3 ⊢
    simp only [Option.map_some, Option.getD_some, Array.all_eq_true', Bool.or_eq_true, Bool.not_eq_true']
    intro e he
    by_cases hb : Region.binds .any e = true
    · exact .inr (h3 e.on (List.mem_map.2 ⟨e, List.mem_filter.2 ⟨by simpa using he, hb⟩, rfl⟩))
    · exact .inl (by simpa using hb)

end Go.Av
/- Operations that look at no memory, taken late. No condition. -/
set_option linter.constructorNameAsVariable false
namespace Go.Av
open Go Go.RowKit
set_option linter.unusedSimpArgs false
set_option linter.unusedVariables false

theorem evq_pure {A : AX → RV} {H H' : List AObj} {q : AOp} (h : q.pure = true) : evq A H q = evq A H' q := by
  cases q <;> first | rfl | (simp [AOp.pure] at h; done) | skip
  case len str x => cases str <;> first | rfl | (simp [AOp.pure] at h)

theorem evQ_pure {P : Program} {fr : List (Nat × RV)} {H H' : List AObj} {o : AO} {K : RV → Prop} (h : o.op.pure = true) (hq : evQ P ⟨fr, H⟩ o K) : evQ P ⟨fr, H'⟩ o K := by
  obtain ⟨dst, gd, op⟩ := o
  cases op with
  | pk a b c => exact hq
  | q y =>
    simp only [evQ, evo] at hq ⊢
    cases gd with
    | none => rw [evq_pure (H' := H') h] at hq; exact hq
    | some jw => obtain ⟨j, w⟩ := jw; simp only [evq_pure (H := H) (H' := H') h] at hq; exact hq
  | m y => simp [AInst.pure] at h
  | nx it => simp [AInst.pure] at h
  | call f args => exact hq

theorem evm_congr {A B : AX → RV} {H : List AObj} {q : MOp} (h : ∀ x ∈ q.xs, A x = B x) : evm A H q = evm B H q := by
  cases q <;> simp_all [evm, MOp.xs]
  case bsl n sz z ps =>
    congr 2
    apply List.map_congr_left
    rintro ⟨x1, x2, x⟩ hx
    simp only [h x x1 x2 hx]

theorem evR_one {P : Program} {fr fr' : List (Nat × RV)} {H : List AObj} {o : AO} {os : List AO} {K : AS → Prop} (hu : ∀ t ∈ o.uses, lk fr t = lk fr' t) (h : evR P (o :: os) ⟨fr, H⟩ K) :
    evR P [o] ⟨fr', H⟩ (fun σ' => ∃ r, σ'.fr = upd fr' o.dst r ∧ evR P os ⟨upd fr o.dst r, σ'.hp⟩ K) := by
  have hx : ∀ x ∈ o.op.xs, ax fr x = ax fr' x := fun x hx => lk_eq (fun t ht => hu t (by subst ht; exact List.mem_append_left _ (List.mem_filterMap.2 ⟨_, hx, rfl⟩)))
  have hg : ∀ j w, o.gd = some (j, w) → lk fr j = lk fr' j := fun j w hj => hu j (List.mem_append_right _ (by rw [hj]; simp))
  obtain ⟨dst, gd, op⟩ := o
  cases op with
  | pk a b c =>
    simp only [AInst.xs] at hx
    simp only [evR, evPk] at h ⊢
    rw [hx a (by simp), hx b (by simp), hx c (by simp)] at h
    cases gd with
    | none =>
      simp only at h ⊢
      split at h
      · exact ⟨h.1, _, rfl, h.2⟩
      · exact h.elim
    | some jw =>
      obtain ⟨j, w⟩ := jw
      simp only [hg j w rfl] at h ⊢
      split at h
      · exact ⟨h.1, _, rfl, h.2⟩
      · exact h.elim
  | q y =>
    simp only [AInst.xs] at hx
    simp only [evR, evo] at h ⊢
    cases gd with
    | none =>
      rw [evq_congr hx] at h
      simp only at h ⊢
      split at h
      · exact ⟨h.1, _, rfl, h.2⟩
      · exact h.elim
    | some jw =>
      obtain ⟨j, w⟩ := jw
      simp only [hg j w rfl, evq_congr (A := fun x => opn (ax fr x)) (B := fun x => opn (ax fr' x)) (fun x h => by rw [hx x h]), obls_congr hx] at h
      simp only at h ⊢
      split at h
      · exact ⟨h.1, _, rfl, h.2⟩
      · exact h.elim
  | m y =>
    simp only [AInst.xs] at hx
    simp only [evR] at h ⊢
    cases gd with
    | none =>
      rw [evm_congr hx] at h
      split at h
      · exact ⟨h.1, _, rfl, h.2⟩
      · exact h.elim
      · contradiction
    | some jw =>
      obtain ⟨j, w⟩ := jw
      have hob : obls fr y.xs ↔ obls fr' y.xs := obls_congr hx
      simp only [GmK, hg j w rfl, evm_congr (A := fun x => opn (ax fr x)) (B := fun x => opn (ax fr' x)) (fun x h => by rw [hx x h]), hob] at h ⊢
      split at h
      · split at h
        · exact ⟨h.1, h.2.1, _, rfl, h.2.2⟩
        · exact h.elim
      · exact ⟨_, rfl, h⟩
      · exact h.elim
  | nx it =>
    simp only [AInst.xs] at hx
    simp only [evR] at h ⊢
    rw [hx it (by simp)] at h
    cases gd with
    | none => exact NxtK_mono (fun r H' h' => ⟨r, rfl, h'⟩) h
    | some jw => exact h.elim
  | call f args =>
    simp only [AInst.xs] at hx
    simp only [evR, CallK] at h ⊢
    have ha : args.map (ax fr) = args.map (ax fr') := List.map_congr_left (fun x h => hx x (by simp [h]))
    have hb : (args.map fun x => opn (ax fr x)) = args.map fun x => opn (ax fr' x) := List.map_congr_left (fun x h => by rw [hx x (by simp [h])])
    rw [hx f (by simp), ha, hb] at h
    split at h
    · obtain ⟨hc, h⟩ := h
      refine ⟨hc, ?_⟩
      cases gd with
      | none => exact h.mono fun r H' hk => ⟨r, rfl, hk⟩
      | some jw =>
        obtain ⟨j, w⟩ := jw
        have hob : obls fr args ↔ obls fr' args := obls_congr (fun x h => hx x (by simp [h]))
        simp only [hg j w rfl, hob] at h ⊢
        split at h
        · obtain ⟨r, h1, h2⟩ := h
          exact ⟨r, h1, _, rfl, h2⟩
        · exact h.elim
    · simp only [YieldK] at h ⊢
      rw [hx f (by simp), ha, hb] at h
      cases gd with
      | none =>
        simp only at h ⊢
        split at h
        · exact h.mono fun r H' hk => ⟨r, rfl, hk⟩
        · exact h.elim
      | some jw =>
        obtain ⟨j, w⟩ := jw
        have hob : obls fr args ↔ obls fr' args := obls_congr (fun x h => hx x (by simp [h]))
        simp only [hg j w rfl, hob] at h ⊢
        split at h
        · refine ⟨h.1, h.2.1, ?_⟩
          have h := h.2.2
          split at h
          · exact ⟨h.1, h.2.mono fun r H' hk => ⟨_, rfl, hk⟩⟩
          · split at h
            · exact h.mono fun r H' hk => ⟨_, rfl, hk⟩
            · exact h.elim
        · exact ⟨_, rfl, h⟩
        · exact h.elim
end Go.Av
/- Two new variables in another order: their names change about. No condition. -/
set_option linter.constructorNameAsVariable false
namespace Go.Av
open Go Go.RowKit
set_option linter.unusedSimpArgs false
set_option linter.unusedVariables false
theorem frLow_lk {n : Nat} : ∀ {fr : List (Nat × RV)} (h : frLow n fr) (t : Nat), RV.dom (· < n) (lk fr t)
  | [], _, t => by simp [lk, RV.dom]
  | (s, x) :: fr, h, t => by
    rw [frLow_cons] at h
    rw [lk]
    split
    · exact h.1
    · exact frLow_lk h.2 t
mutual
theorem RV.dom_lt {n m : Nat} : ∀ {x : RV}, RV.dom (· < n) x → n ≤ m → RV.dom (· < m) x
  | .v _, _, _ => by simp [RV.dom]
  | .any, _, _ => by simp [RV.dom]
  | .bo, _, _ => by simp [RV.dom]
  | .os _ _, hx, h => by simp only [RV.dom] at hx ⊢; omega
  | .sub _ _ _ _, hx, h => by simp only [RV.dom] at hx ⊢; omega
  | .pt _ _ _ _, hx, h => by simp only [RV.dom] at hx ⊢; omega
  | .fr _ _, hx, h => by simp only [RV.dom] at hx ⊢; exact domL_lt hx h
  | .bf _ _, hx, h => by simp only [RV.dom] at hx ⊢; exact domL_lt hx h
  | .tr _, hx, h => by simp only [RV.dom] at hx ⊢; exact domL_lt hx h
  | .gr _, hx, h => by simp only [RV.dom] at hx ⊢; exact domL_lt hx h
  | .cnd _ _, hx, h => by simp only [RV.dom] at hx ⊢; exact RV.dom_lt hx h
  | .yl _ _, hx, h => by simp only [RV.dom] at hx
theorem domL_lt {n m : Nat} : ∀ {l : List RV}, domL (· < n) l → n ≤ m → domL (· < m) l
  | [], _, _ => by simp [domL]
  | x :: l, hx, h => by simp only [domL] at hx ⊢; exact ⟨RV.dom_lt hx.1 h, domL_lt hx.2 h⟩
end
def sw (n o : Nat) : Nat := if o = n then n + 1 else if o = n + 1 then n else o
theorem sw_lt {n o : Nat} (h : o < n) : sw n o = o := by unfold sw; rw [if_neg (by omega), if_neg (by omega)]
theorem sw_n (n : Nat) : sw n n = n + 1 := by simp [sw]
theorem sw_s (n : Nat) : sw n (n + 1) = n := by simp [sw]
theorem rel_swap {e0 : Env} {N : Nat} {D : List Deferred} {g1 g2 : List (Nat × RV)} {H : List AObj} {c1 c2 : List RV} {a : Act} {w : World} (h : Rel e0 N D ⟨g1, H ++ [.var c2, .var c1]⟩ a w) (hn : e0.H.length ≤ H.length) (hl : lowH H.length H)
    (h1 : ∀ p, domL p c1) (h2 : ∀ p, domL p c2) (hg : ∀ t, lk g2 t = .any ∨ (RV.dom (· < H.length + 2) (lk g1 t) ∧ lk g2 t = RV.ren (sw H.length) (lk g1 t))) : Rel e0 N D ⟨g2, H ++ [.var c1, .var c2]⟩ a w := by
  obtain ⟨e, rfl, hH, g, mv, hf, hN, hD⟩ := h
  simp only at hH hf
  generalize hn' : H.length = n at *
  have hlen : e.H.length = n + 2 := by rw [hH]; simp [hn']
  have hρl : e.ρ.length = n + 2 := by rw [g.len, hlen]
  have swsw : ∀ o, o < n + 2 → sw n (sw n o) = o ∧ sw n o < n + 2 := fun o ho => by
    by_cases h1 : o = n
    · subst h1; rw [sw_n, sw_s]; exact ⟨rfl, by omega⟩
    · by_cases h2 : o = n + 1
      · subst h2; rw [sw_s, sw_n]; exact ⟨rfl, by omega⟩
      · have e := sw_lt (n := n) (o := o) (by omega)
        rw [e, e]; exact ⟨rfl, ho⟩
  have r1 : renL (sw n) c1 = c1 := renL_id (p := fun _ => False) (fun _ h => h.elim) (h1 _)
  have r2 : renL (sw n) c2 = c2 := renL_id (p := fun _ => False) (fun _ h => h.elim) (h2 _)
  have getH : ∀ o ob, o < n + 2 → e.H[o]? = some ob → (H ++ [.var c1, .var c2])[sw n o]? = some (ob.ren (sw n)) ∧ ob.dom (· < n + 2) := fun o ob ho hob => by
    rw [hH] at hob
    by_cases hlt : o < n
    · rw [List.getElem?_append_left (by omega)] at hob
      have hd := hl ob (List.mem_of_getElem? hob)
      rw [sw_lt hlt, List.getElem?_append_left (by omega), hob, AObj.ren_id (f := sw n) (p := (· < n)) (fun o ho => sw_lt ho) hd]
      exact ⟨rfl, AObj.dom_ren (g := id) (fun o (ho : o < n) => (by simp only [id]; omega : id o < n + 2)) hd |> fun h => by rwa [AObj.ren_id (f := id) (p := (· < n)) (fun _ _ => rfl) hd] at h⟩
    · rw [List.getElem?_append_right (by omega), hn'] at hob
      by_cases h3 : o = n
      · subst h3
        simp at hob; subst hob
        rw [sw_n, List.getElem?_append_right (by omega), hn']
        simp [AObj.ren, r2, AObj.dom, h2]
      · obtain rfl : o = n + 1 := by omega
        rw [show n + 1 - n = 1 by omega] at hob
        simp at hob; subst hob
        rw [sw_s, List.getElem?_append_right (by omega), hn']
        simp [AObj.ren, r1, AObj.dom, h1]
  have hρ' : ∀ o lo, o < n + 2 → e.ρ[o]? = some lo → ((List.range (n + 2)).map fun k => (e.ρ[sw n k]?).getD none)[sw n o]? = some lo := fun o lo ho hlo => by
    rw [List.getElem?_map, List.getElem?_range (swsw o ho).2]
    simp [(swsw o ho).1, hlo]
  have := view_ok g mv (sw n) (· < n + 2) (H ++ [.var c1, .var c2]) ((List.range (n + 2)).map fun k => (e.ρ[sw n k]?).getD none) (by simp [hn']) (fun o ob ho hob => (getH o ob ho hob).1) hρ'
    (fun k ob lo k1 k2 => by
      have hk : k < n + 2 := by have := (List.getElem?_eq_some_iff.1 k1).1; simp [hn'] at this; omega
      obtain ⟨ob0, hob0⟩ : ∃ ob0, e.H[sw n k]? = some ob0 := ⟨_, List.getElem?_eq_getElem (by rw [hlen]; exact (swsw k hk).2)⟩
      obtain ⟨lo0, hlo0⟩ : ∃ lo0, e.ρ[sw n k]? = some lo0 := ⟨_, List.getElem?_eq_getElem (by rw [hρl]; exact (swsw k hk).2)⟩
      have q1 := getH _ _ (swsw k hk).2 hob0
      have q2 := hρ' _ _ (swsw k hk).2 hlo0
      rw [(swsw k hk).1] at q1 q2
      rw [k1] at q1; rw [k2] at q2
      obtain ⟨q1, q3⟩ := q1
      cases q1; cases q2
      exact ⟨sw n k, ob0, (swsw k hk).2, (swsw k hk).1, hob0, rfl, q3, hlo0⟩)
    (fun o ho => ⟨by omega, sw_lt (by omega)⟩)
  refine ⟨⟨e.w, e.Im, (List.range (n + 2)).map fun k => (e.ρ[sw n k]?).getD none, H ++ [.var c1, .var c2]⟩, rfl, rfl, this.1, this.2.1, fun t => ?_, hN, hD.sub rfl (fun _ h => h) ?_⟩
  rotate_left
  · rintro b ⟨k, l, hk, rfl⟩
    simp only [List.getElem?_map, Option.map_eq_some_iff] at hk
    obtain ⟨j, _, hk⟩ := hk
    cases hj : e.ρ[sw n j]? with
    | none => rw [hj] at hk; cases hk
    | some lo => rw [hj] at hk; exact ⟨_, l, by rw [hj]; exact congrArg some hk, rfl⟩
  rcases hg t with hg | ⟨hg1, hg2⟩
  · simp only; rw [hg]; exact .any
  · simp only; rw [hg2]; exact this.2.2 _ _ (hf t) hg1
theorem rel_len' {e0 : Env} {N : Nat} {D : List Deferred} {σ : AS} {a : Act} {w : World} (g0 : Good e0) (h : Rel e0 N D σ a w) : e0.H.length ≤ σ.hp.length := by
  obtain ⟨e, rfl, hH, g, mv, _⟩ := h
  apply Nat.le_of_not_lt
  intro hc
  have h1 := List.getElem?_eq_getElem hc
  have h2 := List.getElem?_eq_getElem (l := e0.ρ) (i := σ.hp.length) (by rw [g0.len]; exact hc)
  obtain ⟨ob, _, h3, _⟩ := mv.nx _ _ _ h1 h2
  have := (List.getElem?_eq_some_iff.1 h3).1
  rw [hH] at this; omega
theorem rcells_dom {z : AV} {c : List RV} (h : rcells (.v z) = some c) (p : Nat → Prop) : domL p c := by
  rw [domL_mem]
  intro x hx
  cases z <;> simp [rcells] at h <;> first | (subst h; simp at hx; first | (obtain ⟨y, _, rfl⟩ := hx; simp [RV.dom]) | (subst hx; simp [RV.dom])) | cases h
theorem lk_any (g : List (Nat × RV)) (t : Nat) : ∀ (ts : List Nat), lk (ts.map (fun t => (t, RV.any)) ++ g) t = if t ∈ ts then .any else lk g t
  | [] => by simp
  | s :: ts => by
    simp only [List.map_cons, List.cons_append, lk, lk_any g t ts, List.mem_cons]
    by_cases h : s = t
    · subst h; simp
    · simp [h, Ne.symm h]
theorem prune_alloc (d : Nat) (z : AV) (l : List (List (Nat × RV) × AO × RV)) : prune ⟨some d, none, .m (.alloc z)⟩ l = l := by
  simp only [prune, AO.uses, AInst.xs, MOp.xs]
  apply List.filter_eq_self.2
  intro t _
  split <;> simp
end Go.Av
/- A region that draws its order: the whole. No condition. -/
set_option linter.constructorNameAsVariable false
namespace Go.Av
open Go Go.RowKit
set_option linter.unusedSimpArgs false
set_option linter.unusedVariables false

inductive Bef (ops : Array Oper) (i : Nat) : Nat → Prop
  | base {j : Nat} (h : j ∈ waits ops i) : Bef ops i j
  | step {k j : Nat} (h : Bef ops i k) (h' : j ∈ waits ops k) : Bef ops i j

theorem Bef.trans {ops : Array Oper} {i k j : Nat} (h : Bef ops i k) (h' : Bef ops k j) : Bef ops i j := by
  induction h' with
  | base h' => exact .step h h'
  | step _ h'' ih => exact .step ih h''

theorem masks_len (ops : Array Oper) : ∀ k, (masks ops k).length = k
  | 0 => rfl
  | k + 1 => by simp [masks, masks_len ops k]

theorem fold_bit {p : List Nat} {j : Nat} : ∀ (l : List Nat) (m : Nat), (l.foldl (fun m j => m ||| (1 <<< j) ||| p.getD j 0) m).testBit j = true → m.testBit j = true ∨ ∃ w ∈ l, w = j ∨ (p.getD w 0).testBit j = true
  | [], m, h => .inl h
  | w :: l, m, h => by
    rw [List.foldl_cons] at h
    rcases fold_bit l _ h with h | ⟨v, hv, h⟩
    · rw [Nat.testBit_or, Nat.testBit_or, Bool.or_eq_true, Bool.or_eq_true] at h
      rcases h with (h | h) | h
      · exact .inl h
      · refine .inr ⟨w, by simp, .inl ?_⟩
        rw [Nat.one_shiftLeft, Nat.testBit_two_pow] at h
        simpa using h
      · exact .inr ⟨w, by simp, .inr h⟩
    · exact .inr ⟨v, by simp [hv], h⟩

theorem masks_bef (ops : Array Oper) : ∀ (k i j : Nat), ((masks ops k).getD i 0).testBit j = true → Bef ops i j
  | 0, i, j, h => by simp [masks] at h
  | k + 1, i, j, h => by
    simp only [masks] at h
    by_cases hi : i < k
    · refine masks_bef ops k i j ?_
      have : i < (masks ops k).length := by rw [masks_len]; exact hi
      simpa [List.getD, List.getElem?_append_left this] using h
    · by_cases hk : i = k
      · subst hk
        have : (masks ops i ++ [(waits ops i).foldl (fun m j => m ||| (1 <<< j) ||| (masks ops i).getD j 0) 0]).getD i 0 = (waits ops i).foldl (fun m j => m ||| (1 <<< j) ||| (masks ops i).getD j 0) 0 := by
          have hl := masks_len ops i
          rw [List.getD, List.getElem?_append_right (by omega), hl, Nat.sub_self]
          rfl
        rw [this] at h
        rcases fold_bit _ _ h with h | ⟨w, hw, h⟩
        · simp at h
        · rcases h with rfl | h
          · exact .base hw
          · exact (Bef.base hw).trans (masks_bef ops i w j h)
      · have hl := masks_len ops k
        rw [List.getD, List.getElem?_eq_none (by simp; omega)] at h
        simp at h

def Twin (ops : Array Oper) (os : List AO) (m i j : Nat) : Prop := i = j + 1 ∧ m ≤ j ∧ (lates ops os m).isEmpty = false ∧ ∃ d d' z z', os[i]? = some ⟨some d, none, .m (.alloc z)⟩ ∧ os[j]? = some ⟨some d', none, .m (.alloc z')⟩ ∧ d ≠ d'
theorem twinOk_ok {ops : Array Oper} {os : List AO} {m i j : Nat} (h : twinOk ops os m i j = true) : Twin ops os m i j := by
  simp only [twinOk, Bool.and_eq_true, decide_eq_true_eq, Bool.not_eq_true'] at h
  obtain ⟨⟨⟨h1, h2⟩, h3⟩, h4⟩ := h
  split at h4
  · rename_i d z d' z' e1 e2
    exact ⟨h3, h2, h1, d, d', z, z', e1, e2, by simpa using h4⟩
  · cases h4

theorem drawsOk_ok {ops : Array Oper} {os : List AO} {m : Nat} (hq : m ≤ os.length) (h : drawsOk ops os m = true) (hlen : os.length = ops.size) :
    (∀ i, i < ops.size → ∀ j ∈ waits ops i, j < i) ∧
    (∀ i, i < m → ∀ o, os[i]? = some o → ∀ j, j < ops.size → ∀ d, (os[j]?).bind (·.dst) = some d → d ∈ o.uses → (j < i → Bef ops i j) ∧ (i < j → Bef ops j i)) ∧
    (∀ i j, i < m → j < m → i ≠ j → ∀ d, (os[j]?).bind (·.dst) = some d → (os[i]?).bind (·.dst) ≠ some d) ∧
    (∀ i, m ≤ i → i < ops.size → ∀ j, j < i → Bef ops i j ∨ (j < m ∧ ∃ o q, os[i]? = some o ∧ os[j]? = some q ∧ (q.op.pure = true ∨ j ∈ lates ops os m) ∧ (∀ d, q.dst = some d → d ∉ o.uses ∧ o.dst ≠ some d) ∧ ∀ k, k < m → j ≤ k → ∀ d, (os[k]?).bind (·.dst) = some d → d ∉ q.uses) ∨ Twin ops os m i j) := by
  simp only [drawsOk, List.all_eq_true, List.mem_range, Bool.and_eq_true, decide_eq_true_eq] at h
  refine ⟨fun i hi j hj => ?_, fun i hi o ho j hj d hd hu => ?_, fun i j hi hj hij d hd hc => ?_, fun i hi hin j hj => ?_⟩
  · exact (h i hi).1 j hj
  · have h2 := (h i (by omega)).2
    rw [if_pos hi, ho] at h2
    simp only [List.all_eq_true, List.mem_range] at h2
    have h3 := h2 j hj
    rw [hd] at h3
    simp only [Bool.and_eq_true] at h3
    have h4 := h3.1
    rw [if_pos (by simpa using hu)] at h4
    refine ⟨fun hlt => ?_, fun hlt => ?_⟩
    · rw [if_pos hlt] at h4; exact masks_bef ops _ _ _ h4
    · rw [if_neg (by omega), if_pos hlt] at h4; exact masks_bef ops _ _ _ h4
  · have h2 := (h i (by omega)).2
    have hil : i < os.length := by omega
    rw [if_pos hi, List.getElem?_eq_getElem hil] at h2
    simp only [List.all_eq_true, List.mem_range] at h2
    have h3 := h2 j (by omega)
    rw [hd] at h3
    simp only [Bool.and_eq_true] at h3
    have h4 := h3.2
    rw [if_pos (by simp; omega)] at h4
    simp only [Bool.or_eq_true, decide_eq_true_eq] at h4
    rcases h4 with h4 | h4
    · rw [List.getElem?_eq_getElem hil] at hc
      simp only [Option.bind_some] at hc
      rw [hc] at h4; simp at h4
    · omega
  · have h2 := (h i hin).2
    rw [if_neg (by omega)] at h2
    simp only [List.all_eq_true, List.mem_range] at h2
    have h3 := h2 j hj
    by_cases hbit : ((masks ops ops.size).getD i 0).testBit j = true
    · exact .inl (masks_bef ops _ _ _ hbit)
    · rw [Bool.or_eq_true, Bool.or_eq_true] at h3
      rcases h3 with h3 | h3
      rotate_left
      · exact .inr (.inr (twinOk_ok h3))
      have h3 := h3.resolve_left hbit
      simp only [lateOk, Bool.and_eq_true, decide_eq_true_eq] at h3
      obtain ⟨hjq, h3⟩ := h3
      refine .inr (.inl ⟨hjq, ?_⟩)
      split at h3
      · rename_i o q ho hq'
        simp only [Bool.and_eq_true] at h3
        refine ⟨o, q, ho, hq', ?_, fun d hd => ?_, fun k hk hjk d hd hu => ?_⟩
        · by_cases hp : q.op.pure = true
          · exact .inl hp
          · refine .inr ?_
            simp only [lates, List.mem_filter, List.mem_range, Bool.and_eq_true, List.any_eq_true, decide_eq_true_eq, Bool.not_eq_true']
            refine ⟨hjq, ?_, i, hin, hi, by simpa using hbit⟩
            rw [hq']; simpa using hp
        · have h4 := h3.1
          rw [hd] at h4
          simpa using h4
        · have h4 := List.all_eq_true.1 h3.2 k (List.mem_range.2 hk)
          rw [hd] at h4
          simp only [Bool.or_eq_true, decide_eq_true_eq, Bool.not_eq_true', List.contains_eq_mem, decide_eq_false_iff_not] at h4
          rcases h4 with h4 | h4
          · omega
          · exact h4 hu
      · cases h3

theorem matched_at {P : Program} {N : Nat} {ops : Array Oper} {os : List AO} (h : ops.toList.mapM (resAO P N ops) = some os) : os.length = ops.size ∧ ∀ (i : Nat) q, os[i]? = some q → ∃ o, ops[i]? = some o ∧ resAO P N ops o = some q := by
  obtain ⟨h1, h2⟩ := mapM_get h
  refine ⟨by simpa using h1, fun i q hq => ?_⟩
  have hi : i < ops.size := by
    have := (List.getElem?_eq_some_iff.1 hq).1
    rw [h1] at this; simpa using this
  refine ⟨ops[i], by simp [hi], h2 i ops[i] q (by simp [hi]) hq⟩

theorem evRD_ok {P : Program} {rd : Option Nat} {ops : Array Oper} {N : Nat} {D : List Deferred} {e0 : Env} (g0 : Good e0) (t0 : Tabs P e0) {Q : Exit → Act → World → Prop} {os : List AO} (hos : ops.toList.mapM (resAO P N ops) = some os) {m : Nat} (hq : m ≤ os.length) (hd : drawsOk ops os m = true)
    {K : AS → Prop} (hK : ∀ σ a w, K σ → Rel e0 N D σ a w → Q .normal a w) {fr : List (Nat × RV)} {H : List AObj} (hev : evRE P (lates ops os m) 0 [] m os ⟨fr, H⟩ K) {a : Act} {w : World} (hr : Rel e0 N D ⟨fr, H⟩ a w) :
    wpAnyIn (FW rd) 0 P .any ops Q ops.size (Array.replicate ops.size false) a w := by
  obtain ⟨hlen, hat⟩ := matched_at hos
  obtain ⟨d1, d2, d3, d4⟩ := drawsOk_ok hq hd hlen
  have d2w := d2
  obtain ⟨rs, hrs, l, _, hmem, htail⟩ := evRE_get _ _ _ _ _ hq hev
  have hmem : ∀ i o, i < m → os[i]? = some o → i ∈ lates ops os m → (frS (fun _ => true) os rs fr i, o, rs.getD i .any) ∈ l := fun i o h1 h2 h3 => hmem i o h1 h2 (by rw [Nat.zero_add]; exact h3)
  -- the state of the machine when the operations of L are done
  let S : Array Bool → Act → World → Prop := fun L a w =>
    ((∀ i, m ≤ i → i < ops.size → L.getD i false = false) ∧ Rel e0 N D ⟨frS (fun j => L.getD j false) os rs fr m, H⟩ a w) ∨
    (∃ k, m ≤ k ∧ k ≤ ops.size ∧ (∀ j, m ≤ j → j < ops.size → (L.getD j false = true ↔ j < k)) ∧ ∃ (gr gr' : List (Nat × RV)) (H' : List AObj) (lc : List (List (Nat × RV) × AO × RV)), evRS P (!(lates ops os m).isEmpty) lc (os.drop k) ⟨gr, H'⟩ K ∧ Rel e0 N D ⟨gr', H'⟩ a w ∧
      (∀ t, (∀ j, j < m → L.getD j false = false → (os[j]?).bind (·.dst) ≠ some t) → lk gr' t = lk gr t) ∧
      (∀ j, j < m → L.getD j false = false → ∃ q, os[j]? = some q ∧ evQ P ⟨frS (fun _ => true) os rs fr j, H'⟩ q (fun r => r = rs.getD j .any) ∧ (∀ d, q.dst = some d → lk gr d = rs.getD j .any) ∧ (∀ t ∈ q.uses, lk (frS (fun _ => true) os rs fr j) t = lk gr t) ∧ ∀ k, k < m → j ≤ k → ∀ d, (os[k]?).bind (·.dst) = some d → d ∉ q.uses) ∧
      (∀ j o, j < m → L.getD j false = false → os[j]? = some o → j ∈ lates ops os m → (frS (fun _ => true) os rs fr j, o, rs.getD j .any) ∈ lc)) ∨
    (∃ k, m ≤ k ∧ k + 1 < ops.size ∧ (∀ j, m ≤ j → j < ops.size → (L.getD j false = true ↔ j < k ∨ j = k + 1)) ∧ ∃ (d1 d2 : Nat) (z1 z2 : AV) (c2 : List RV) (gr gr' : List (Nat × RV)) (H' : List AObj) (lc : List (List (Nat × RV) × AO × RV)),
      os[k]? = some ⟨some d1, none, .m (.alloc z1)⟩ ∧ os[k + 1]? = some ⟨some d2, none, .m (.alloc z2)⟩ ∧ d2 ≠ d1 ∧ rcells (.v z2) = some c2 ∧ evRS P (!(lates ops os m).isEmpty) lc (os.drop k) ⟨gr, H'⟩ K ∧ frLow H'.length gr ∧ lowH H'.length H' ∧ e0.H.length ≤ H'.length ∧ Rel e0 N D ⟨gr', H' ++ [.var c2]⟩ a w ∧
      lk gr' d2 = .pt H'.length 0 0 0 ∧
      (∀ t, t ≠ d2 → (∀ j, j < m → L.getD j false = false → (os[j]?).bind (·.dst) ≠ some t) → lk gr' t = lk gr t) ∧
      (∀ j, j < m → L.getD j false = false → ∃ q, os[j]? = some q ∧ evQ P ⟨frS (fun _ => true) os rs fr j, H' ++ [.var c2]⟩ q (fun r => r = rs.getD j .any) ∧ (∀ d, q.dst = some d → lk gr d = rs.getD j .any ∧ d ≠ d2) ∧ (∀ t ∈ q.uses, lk (frS (fun _ => true) os rs fr j) t = lk gr t ∧ t ≠ d2) ∧ ∀ k, k < m → j ≤ k → ∀ d, (os[k]?).bind (·.dst) = some d → d ∉ q.uses) ∧
      (∀ j o, j < m → L.getD j false = false → os[j]? = some o → j ∈ lates ops os m → (frS (fun _ => true) os rs fr j, o, rs.getD j .any) ∈ lc))
  have uniq : ∀ {i j : Nat} {t : Nat}, i < m → j < m → (os[i]?).bind (·.dst) = some t → (os[j]?).bind (·.dst) = some t → i = j := fun {i j t} hi hj h1 h2 => by
    by_cases h : i = j
    · exact h
    · exact absurd h1 (d3 i j hi hj h t h2)
  -- all of the first m done: the frame is the text's own
  have allm : ∀ (L : Array Bool), (∀ j, j < m → L.getD j false = true) → ∀ k, k ≤ m → frS (fun j => L.getD j false) os rs fr k = frS (fun _ => true) os rs fr k := by
    intro L hL k
    induction k with
    | zero => intro _; rfl
    | succ k ih => intro hk; simp only [frS, hL k (by omega), ih (by omega), if_true]
  have key : ∀ (fuel : Nat) (L : Array Bool) (a : Act) (w : World), L.size = ops.size → (∀ i, i < ops.size → L.getD i false = true → ∀ j ∈ waits ops i, L.getD j false = true) →
      (List.range ops.size).countP (fun i => !L.getD i false) = fuel → S L a w → wpAnyIn (FW rd) 0 P .any ops Q fuel L a w := by
    -- nothing is ready: all is done
    have fin : ∀ (L : Array Bool) (a : Act) (w : World), L.size = ops.size → (∀ i, i < ops.size → L.getD i false = true) → S L a w → Q .normal a w := by
      intro L a w hs hall hS
      rcases hS with ⟨h1, h2⟩ | ⟨k, h1, h2, h3, gr, gr', H', lc, h4, h5, h6, h7, h8⟩ | ⟨k, h1, h2, h3, _⟩
      rotate_right
      · have := (h3 k h1 (by omega)).1 (hall k (by omega)); omega
      · have hmn : m = ops.size := by
          by_cases h : m < ops.size
          · have := h1 m (Nat.le_refl _) h; rw [hall m h] at this; cases this
          · omega
        have he : os.drop m = [] := by apply List.drop_eq_nil_of_le; omega
        rw [he] at htail
        have := allm L (fun j hj => hall j (by omega)) m (Nat.le_refl _)
        rw [this] at h2
        exact hK _ a w htail h2
      · have hk : k = ops.size := by
          by_cases h : k < ops.size
          · have := (h3 k h1 h).1 (hall k h); omega
          · omega
        have he : os.drop k = [] := by apply List.drop_eq_nil_of_le; omega
        rw [he] at h4
        exact hK _ a w h4 (h5.congr (fun t => h6 t (fun j hj hf => by rw [hall j (by omega)] at hf; cases hf)))
    have done : ∀ (L : Array Bool), L.size = ops.size → Region.ready .any ops L = [] → ∀ i, i < ops.size → L.getD i false = true := by
      intro L hs hr i
      induction i using Nat.strongRecOn with
      | _ i ih =>
        intro hi
        cases hL : L.getD i false with
        | true => rfl
        | false =>
          exfalso
          have : i ∈ Region.ready .any ops L := ready_mem.2 ⟨hi, by simp [Array.getD, hs, hi] at hL ⊢; exact hL, fun j hj => ih j (d1 i hi j hj) (by have := d1 i hi j hj; omega)⟩
          rw [hr] at this; cases this
    intro fuel
    induction fuel with
    | zero =>
      intro L a w hs hcl hc hS
      have hall : ∀ i, i < ops.size → L.getD i false = true := fun i hi => by
        have := List.countP_eq_zero.1 hc i (List.mem_range.2 hi)
        simpa using this
      refine ⟨?_, fin L a w hs hall hS⟩
      apply List.eq_nil_iff_forall_not_mem.2
      intro i hi
      obtain ⟨h1, h2, _⟩ := ready_mem.1 hi
      have := hall i h1
      simp [Array.getD, hs, h1] at this h2
      rw [this] at h2; cases h2
    | succ fuel ih =>
      intro L a w hs hcl hc hS
      refine ⟨fun hr => fin L a w hs (done L hs hr) hS, fun i hi => ?_⟩
      obtain ⟨hin, hiL, hiw⟩ := ready_mem.1 hi
      have bdone : ∀ {k j : Nat}, L.getD k false = true → k < ops.size → Bef ops k j → j < k ∧ L.getD j false = true := fun {k j} hk hkn hb => by
        induction hb with
        | base h => exact ⟨d1 k hkn _ h, hcl k hkn hk _ h⟩
        | step _ h' ih => exact ⟨by have := d1 _ (by omega) _ h'; omega, hcl _ (by omega) ih.2 _ h'⟩
      have bnow : ∀ {j : Nat}, Bef ops i j → j < i ∧ L.getD j false = true := fun {j} hb => by
        induction hb with
        | base h => exact ⟨d1 i hin _ h, hiw _ h⟩
        | step _ h' ih => exact ⟨by have := d1 _ (by omega) _ h'; omega, hcl _ (by omega) ih.2 _ h'⟩
      have hiF : L.getD i false = false := by simp [Array.getD, hs, hin] at hiL ⊢; exact hiL
      -- the list with i done
      have hget : ∀ j, (L.setIfInBounds i true).getD j false = (if j = i then true else L.getD j false) := fun j => by
        by_cases hj : j = i
        · subst hj; simp [Array.getD, hs, hin]
        · rw [if_neg hj]; simp [Array.getElem?_setIfInBounds, Ne.symm hj]
      have hs' : (L.setIfInBounds i true).size = ops.size := by simpa using hs
      have hcl' : ∀ k, k < ops.size → (L.setIfInBounds i true).getD k false = true → ∀ j ∈ waits ops k, (L.setIfInBounds i true).getD j false = true := fun k hk h j hj => by
        rw [hget] at h ⊢
        by_cases hji : j = i
        · rw [if_pos hji]
        · rw [if_neg hji]
          by_cases hki : k = i
          · subst hki; exact hiw j hj
          · rw [if_neg hki] at h; exact hcl k hk h j hj
      have hc' : (List.range ops.size).countP (fun j => !(L.setIfInBounds i true).getD j false) = fuel := by
        have := countP_flip (p := fun j => !L.getD j false) (p' := fun j => !(L.setIfInBounds i true).getD j false) hin (by simp only [hiF]; rfl) (by simp only [hget, if_pos]; rfl) (fun j hj => by simp only [hget, if_neg hj])
        omega
      have gone : ∀ {Kk : Act → World → Prop}, wpOpsIn (FW rd) 0 P ops (fun e a w => match e with | .normal => Kk a w | _ => False) [i] a w → wpOpIn (FW rd) 0 P ops Q i Kk a w := by
        intro Kk this
        rw [wpOpsIn_cons] at this
        refine wpOpIn_Q ?_ this
        intro e he a w hf
        cases e with
        | normal => exact absurd rfl he
        | exit id => exact hf.elim
        | goto l => exact hf.elim
        | ret => exact hf.elim
        | panic c => exact hf.elim
        | outgrown => exact hf.elim
      have tailstep : ∀ (gr gr' : List (Nat × RV)) (H' : List AObj) (lc : List (List (Nat × RV) × AO × RV)), m ≤ i → (∀ j, m ≤ j → j < ops.size → (L.getD j false = true ↔ j < i)) → evRS P (!(lates ops os m).isEmpty) lc (os.drop i) ⟨gr, H'⟩ K → Rel e0 N D ⟨gr', H'⟩ a w →
          (∀ t, (∀ j, j < m → L.getD j false = false → (os[j]?).bind (·.dst) ≠ some t) → lk gr' t = lk gr t) →
          (∀ j, j < m → L.getD j false = false → ∃ q, os[j]? = some q ∧ evQ P ⟨frS (fun _ => true) os rs fr j, H'⟩ q (fun r => r = rs.getD j .any) ∧ (∀ d, q.dst = some d → lk gr d = rs.getD j .any) ∧ (∀ t ∈ q.uses, lk (frS (fun _ => true) os rs fr j) t = lk gr t) ∧ ∀ k, k < m → j ≤ k → ∀ d, (os[k]?).bind (·.dst) = some d → d ∉ q.uses) →
          (∀ j o, j < m → L.getD j false = false → os[j]? = some o → j ∈ lates ops os m → (frS (fun _ => true) os rs fr j, o, rs.getD j .any) ∈ lc) →
          wpOpIn (FW rd) 0 P ops Q i (wpAnyIn (FW rd) 0 P .any ops Q fuel (L.setIfInBounds i true)) a w := by
        intro gr gr' H' lc hmi hL hev hrel hag hpe hlc
        have hil : i < os.length := by omega
        obtain ⟨o, ho, hres⟩ := hat i _ (List.getElem?_eq_getElem hil)
        rw [List.drop_eq_getElem_cons hil] at hev
        obtain ⟨_, hev⟩ := hev
        have late : ∀ j, j < m → L.getD j false = false → ∃ q, os[j]? = some q ∧ (q.op.pure = true ∨ j ∈ lates ops os m) ∧ ∀ d, q.dst = some d → d ∉ os[i].uses ∧ os[i].dst ≠ some d := fun j hj hf => by
          rcases d4 i hmi hin j (by omega) with h | ⟨_, o2, q2, e1, e2, e3, e4, _⟩ | ht
          · have := (bnow h).2; rw [hf] at this; cases this
          · rw [List.getElem?_eq_getElem hil] at e1; cases e1
            exact ⟨q2, e2, e3, e4⟩
          · have := ht.2.1; omega
        have huse : ∀ t ∈ os[i].uses, lk gr t = lk gr' t := fun t ht => (hag t (fun j hj hf hc => by
          obtain ⟨q2, e1, _, e2⟩ := late j hj hf
          rw [e1] at hc
          exact (e2 t hc).1 ht)).symm
        have hone := evR_one (os := []) huse hev
        have hpr : ∀ j q, j < m → L.getD j false = false → os[j]? = some q → j ∈ lates ops os m → (frS (fun _ => true) os rs fr j, q, rs.getD j .any) ∈ prune os[i] lc := fun j q hj hf hq hls => by
          refine List.mem_filter.2 ⟨hlc j q hj hf hq hls, ?_⟩
          obtain ⟨q2, l1, _, l2⟩ := late j hj hf
          rw [hq] at l1; cases l1
          simp only
          cases hd : q.dst with
          | none => rfl
          | some d => simpa using (l2 d hd).1
        have hLg : ∀ j, j < m → (L.setIfInBounds i true).getD j false = L.getD j false := fun j hj => by rw [hget, if_neg (by omega)]
        have := evR_ok (P := P) (rd := rd) (ops := ops) (N := N) (D := D) g0 t0 (Q := fun e a w => match e with | .normal => wpAnyIn (FW rd) 0 P .any ops Q fuel (L.setIfInBounds i true) a w | _ => False) [i] [os[i]] (fun σ' => ∃ r, σ'.fr = upd gr' os[i].dst r ∧ (σ'.hp = H' ∨ stab P (prune os[i] lc) σ'.hp) ∧ evRS P (!(lates ops os m).isEmpty) (prune os[i] lc) (os.drop (i + 1)) ⟨upd gr os[i].dst r, σ'.hp⟩ K)
          (fun σ' a' w' ⟨r, e1, est, e2⟩ h2 => ih _ a' w' hs' hcl' hc' (.inr (.inl ⟨i + 1, by omega, by omega, fun j hmj hj => by
              rw [hget]
              by_cases hji : j = i
              · rw [if_pos hji]; simp; omega
              · rw [if_neg hji, hL j hmj hj]; omega, upd gr os[i].dst r, σ'.fr, σ'.hp, prune os[i] lc, e2, h2, fun t ht => by
                rw [e1]
                have hx := hag t (fun j hj hf => ht j hj (by rw [hLg j hj]; exact hf))
                generalize os[i].dst = d
                cases d with
                | none => exact hx
                | some s => simp only [upd, lk]; split
                            · rfl
                            · exact hx, fun j hj hf => by
                rw [hLg j hj] at hf
                obtain ⟨q, p1, p2, p3, p4, p5⟩ := hpe j hj hf
                obtain ⟨q2, l1, lp, l2⟩ := late j hj hf
                rw [p1] at l1; cases l1
                refine ⟨q, p1, est.elim (fun he => by rw [he]; exact p2) (fun est => lp.elim (fun hp => evQ_pure hp p2) (fun hp => est _ (hpr j q hj hf p1 hp))), fun d hd => ?_, fun t ht => ?_, p5⟩
                · have := (l2 d hd).2
                  rw [← p3 d hd]
                  generalize os[i].dst = x at this
                  cases x with
                  | none => rfl
                  | some s => simp only [upd, lk]; rw [if_neg (fun hc => this (by rw [hc]))]
                · rw [p4 t ht]
                  have hne : os[i].dst ≠ some t := fun hc => by
                    have := (d2 j hj q p1 i hin t (by rw [List.getElem?_eq_getElem hil]; exact hc) ht).2 (by omega)
                    have := (bnow this).2; rw [hf] at this; cases this
                  generalize os[i].dst = x at hne
                  cases x with
                  | none => rfl
                  | some s => simp only [upd, lk]; rw [if_neg (fun hc => hne (by rw [hc]))], fun j q hj hf hq hls => hpr j q hj (by rw [hLg j hj] at hf; exact hf) hq hls⟩)))
          ⟨⟨o, ho, hres⟩, trivial⟩ ⟨gr', H'⟩ a w hone hrel
        exact gone this
      have tail : ∀ (k : Nat) (gr gr' : List (Nat × RV)) (H' : List AObj) (lc : List (List (Nat × RV) × AO × RV)), m ≤ k → m ≤ i → (∀ j, m ≤ j → j < ops.size → (L.getD j false = true ↔ j < k)) → evRS P (!(lates ops os m).isEmpty) lc (os.drop k) ⟨gr, H'⟩ K → Rel e0 N D ⟨gr', H'⟩ a w →
          (∀ t, (∀ j, j < m → L.getD j false = false → (os[j]?).bind (·.dst) ≠ some t) → lk gr' t = lk gr t) →
          (∀ j, j < m → L.getD j false = false → ∃ q, os[j]? = some q ∧ evQ P ⟨frS (fun _ => true) os rs fr j, H'⟩ q (fun r => r = rs.getD j .any) ∧ (∀ d, q.dst = some d → lk gr d = rs.getD j .any) ∧ (∀ t ∈ q.uses, lk (frS (fun _ => true) os rs fr j) t = lk gr t) ∧ ∀ k, k < m → j ≤ k → ∀ d, (os[k]?).bind (·.dst) = some d → d ∉ q.uses) →
          (∀ j o, j < m → L.getD j false = false → os[j]? = some o → j ∈ lates ops os m → (frS (fun _ => true) os rs fr j, o, rs.getD j .any) ∈ lc) →
          wpOpIn (FW rd) 0 P ops Q i (wpAnyIn (FW rd) 0 P .any ops Q fuel (L.setIfInBounds i true)) a w := by
        intro k gr gr' H' lc hmk hmi hL hev hrel hag hpe hlc
        by_cases hik : i = k
        · subst hik; exact tailstep gr gr' H' lc hmi hL hev hrel hag hpe hlc
        have hki : k < i := by
          have : ¬ i < k := fun hc => by rw [(hL i hmi hin).2 hc] at hiF; cases hiF
          omega
        rcases d4 i hmi hin k hki with hw | ⟨hw, _⟩ | ht
        · have := (hL k hmk (by omega)).1 (bnow hw).2; omega
        · omega
        obtain ⟨rfl, _, hne, d2, d1, z2, z1, hi2, hk1, hdd⟩ := ht
        have hkl : k < os.length := by omega
        have hkl2 : k + 1 < os.length := by omega
        have ek : os[k] = ⟨some d1, none, .m (.alloc z1)⟩ := by rw [List.getElem?_eq_getElem hkl] at hk1; exact Option.some.inj hk1
        have ei : os[k + 1] = ⟨some d2, none, .m (.alloc z2)⟩ := by rw [List.getElem?_eq_getElem hkl2] at hi2; exact Option.some.inj hi2
        have hdk : os.drop k = ⟨some d1, none, .m (.alloc z1)⟩ :: ⟨some d2, none, .m (.alloc z2)⟩ :: os.drop (k + 2) := by
          rw [List.drop_eq_getElem_cons hkl, List.drop_eq_getElem_cons hkl2, ek, ei]
        have hev0 := hev
        rw [hdk] at hev
        obtain ⟨htq, _⟩ := hev
        obtain ⟨hfl, hlh, hst⟩ := htq (by simp [hne])
        cases hr : rcells (.v z2) with
        | none => rw [hr] at hst; exact hst.elim
        | some c2 =>
        rw [hr] at hst
        have late : ∀ j, j < m → L.getD j false = false → ∃ q, os[j]? = some q ∧ (q.op.pure = true ∨ j ∈ lates ops os m) ∧ ∀ d, q.dst = some d → d ≠ d2 := fun j hj hf => by
          rcases d4 (k + 1) hmi hin j (by omega) with h | ⟨_, o2, q2, e1, e2, e3, e4, _⟩ | ht
          · have := (bnow h).2; rw [hf] at this; cases this
          · rw [hi2] at e1; cases e1
            exact ⟨q2, e2, e3, fun d hd hc => (e4 d hd).2 (by rw [hc])⟩
          · have := ht.2.1; omega
        obtain ⟨o, ho, hres⟩ := hat (k + 1) _ hi2
        have hLg : ∀ j, j < m → (L.setIfInBounds (k + 1) true).getD j false = L.getD j false := fun j hj => by rw [hget, if_neg (by omega)]
        have := evR_ok (P := P) (rd := rd) (ops := ops) (N := N) (D := D) g0 t0 (Q := fun e a w => match e with | .normal => wpAnyIn (FW rd) 0 P .any ops Q fuel (L.setIfInBounds (k + 1) true) a w | _ => False) [k + 1] [⟨some d2, none, .m (.alloc z2)⟩] (fun σ' => σ' = ⟨upd gr' (some d2) (.pt H'.length 0 0 0), H' ++ [.var c2]⟩)
          (fun σ' a' w' he h2 => by
            subst he
            refine ih _ a' w' hs' hcl' hc' (.inr (.inr ⟨k, hmk, hin, fun j hmj hj => ?_, d1, d2, z1, z2, c2, gr, _, H', lc, hk1, hi2, hdd, hr, hev0, hfl, hlh, rel_len' g0 hrel, h2, by simp [upd, lk], fun t ht hp => ?_, fun j hj hf => ?_, fun j o hj hf ho hls => hlc j o hj (by rw [hLg j hj] at hf; exact hf) ho hls⟩))
            · rw [hget]
              by_cases hji : j = k + 1
              · rw [if_pos hji]; simp [hji]
              · rw [if_neg hji, hL j hmj hj]; omega
            · simp only [upd, lk]
              rw [if_neg (fun h => ht h.symm)]
              exact hag t (fun j hj hf => hp j hj (by rw [hLg j hj]; exact hf))
            · rw [hLg j hj] at hf
              obtain ⟨q, p1, p2, p3, p4, p5⟩ := hpe j hj hf
              obtain ⟨q2, l1, lp, l2⟩ := late j hj hf
              rw [p1] at l1; cases l1
              refine ⟨q, p1, lp.elim (fun hp => evQ_pure hp p2) (fun hp => hst _ (hlc j q hj hf p1 hp)), fun d hd => ⟨p3 d hd, l2 d hd⟩, fun t ht => ⟨p4 t ht, fun hc => ?_⟩, p5⟩
              have := (d2w j hj q p1 (k + 1) hin t (by rw [hi2]; simp [hc]) ht).2 (by omega)
              have := (bnow this).2; rw [hf] at this; cases this)
          ⟨⟨o, ho, hres⟩, trivial⟩ ⟨gr', H'⟩ a w (by simp [evR, evm, hr]) hrel
        exact gone this
      rcases hS with ⟨h1, h2⟩ | ⟨k, h1, h2, h3, gr, gr', H', lc, h4, h5, h6, h7, h8⟩ | ⟨k, h1, h2, h3, e1, e2, z1, z2, c2, gr, gr', H', lc, hk1, hk2, hdd, hr, hev, hfl, hlh, hlen, hrel, hd2, h6, h7, h8⟩
      · by_cases him : i < m
        · -- one of the quiet ones
          obtain ⟨q, hq', hev'⟩ := hrs i him
          obtain ⟨o, ho, hres⟩ := hat i q hq'
          have agree : ∀ t ∈ q.uses, lk (frS (fun _ => true) os rs fr i) t = lk (frS (fun j => L.getD j false) os rs fr m) t := by
            intro t ht
            by_cases hex : ∃ j, j < m ∧ (os[j]?).bind (·.dst) = some t
            · obtain ⟨j, hjm, hjd⟩ := hex
              obtain ⟨w1, w2⟩ := d2 i him q hq' j (by omega) t hjd ht
              have hu : ∀ n, n ≤ m → ∀ j', j' < n → j' ≠ j → (os[j']?).bind (·.dst) ≠ some t := fun n hn j' hj' hne hc => hne (uniq (by omega) hjm hc hjd)
              by_cases hji : j < i
              · have hjL := (bnow (w1 hji)).2
                rw [frS_in i hji rfl hjd (hu i (by omega)), frS_in m hjm hjL hjd (hu m (Nat.le_refl _))]
              · have hjL : L.getD j false = false := by
                  cases hjj : L.getD j false with
                  | false => rfl
                  | true =>
                    by_cases hij : i < j
                    · have := (bdone hjj (by omega) (w2 hij)).2; rw [hiF] at this; cases this
                    · have : i = j := by omega
                      subst this; rw [hiF] at hjj; cases hjj
                rw [frS_out i (fun j' hj' _ hc => by have := uniq (by omega) hjm hc hjd; omega), frS_out m (fun j' hj' hL' hc => by
                  have := uniq hj' hjm hc hjd; subst this; rw [hjL] at hL'; cases hL')]
            · rw [frS_out i (fun j' hj' _ hc => hex ⟨j', by omega, hc⟩), frS_out m (fun j' hj' _ hc => hex ⟨j', hj', hc⟩)]
          refine one_ok g0 t0 (fun _ _ _ _ => .inr trivial) ho hres (evQ_congr agree hev') h2 (fun a' w' hrel => ih _ a' w' hs' hcl' hc' (.inl ⟨fun j hj hjn => by rw [hget, if_neg (by omega)]; exact h1 j hj hjn, hrel.congr ?_⟩))
          intro t
          have hqd : (os[i]?).bind (·.dst) = q.dst := by rw [hq']; rfl
          by_cases hdt : q.dst = some t
          · rw [hdt]
            simp only [upd, lk, if_true]
            rw [frS_in m him (by rw [hget, if_pos rfl]) (by rw [hqd, hdt]) (fun j' hj' hne hc => hne (uniq hj' him hc (by rw [hqd, hdt])))]
          · have e1 : lk (upd (frS (fun j => L.getD j false) os rs fr m) q.dst (rs.getD i .any)) t = lk (frS (fun j => L.getD j false) os rs fr m) t := by
              generalize q.dst = d at hdt
              cases d with
              | none => rfl
              | some s => simp only [upd, lk]; rw [if_neg (fun hc => hdt (by rw [hc]))]
            rw [e1]
            by_cases hex : ∃ j, j < m ∧ (os[j]?).bind (·.dst) = some t
            · obtain ⟨j, hjm, hjd⟩ := hex
              have hji : j ≠ i := fun hc => by subst hc; rw [hqd] at hjd; exact hdt hjd
              have hu : ∀ j', j' < m → j' ≠ j → (os[j']?).bind (·.dst) ≠ some t := fun j' hj' hne hc => hne (uniq hj' hjm hc hjd)
              cases hjL : L.getD j false with
              | true => rw [frS_in m hjm hjL hjd hu, frS_in m hjm (by rw [hget, if_neg hji]; exact hjL) hjd hu]
              | false =>
                rw [frS_out m (fun j' hj' hL' hc => by have := uniq hj' hjm hc hjd; subst this; rw [hjL] at hL'; cases hL'),
                  frS_out m (fun j' hj' hL' hc => by have := uniq hj' hjm hc hjd; subst this; rw [hget, if_neg hji, hjL] at hL'; cases hL')]
            · rw [frS_out m (fun j' hj' _ hc => hex ⟨j', hj', hc⟩), frS_out m (fun j' hj' _ hc => hex ⟨j', hj', hc⟩)]
        · have hmi : m ≤ i := by omega
          have later : ∀ (j k : Nat) (t : Nat), j ≤ k → (∀ k', j ≤ k' → k' < k → (os[k']?).bind (·.dst) ≠ some t) → lk (frS (fun _ => true) os rs fr j) t = lk (frS (fun _ => true) os rs fr k) t := by
            intro j k t hjk
            induction k with
            | zero => intro _; obtain rfl : j = 0 := by omega
                      rfl
            | succ k ihk =>
              intro hno
              by_cases hj : j = k + 1
              · subst hj; rfl
              · rw [ihk (by omega) (fun k' h1 h2 => hno k' h1 (by omega))]
                have := hno k (by omega) (by omega)
                simp only [frS, if_true]
                generalize (os[k]?).bind (·.dst) = d at this
                cases d with
                | none => rfl
                | some s => simp only [upd, lk]; rw [if_neg (fun hc => this (by rw [hc]))]
          refine tail m _ _ H l (Nat.le_refl _) hmi (fun j hmj hj => by rw [h1 j hmj hj]; simp; omega) htail h2 (fun t ht => ?_) (fun j hj hf => ?_) (fun j o hj _ ho hls => hmem j o hj ho hls)
          · by_cases hex : ∃ j, j < m ∧ (os[j]?).bind (·.dst) = some t
            · obtain ⟨j, hjm, hjd⟩ := hex
              have hu : ∀ j', j' < m → j' ≠ j → (os[j']?).bind (·.dst) ≠ some t := fun j' hj' hne hc => hne (uniq hj' hjm hc hjd)
              have hjL : L.getD j false = true := by
                cases hjj : L.getD j false with
                | true => rfl
                | false => exact absurd hjd (ht j hjm hjj)
              rw [frS_in m hjm hjL hjd hu, frS_in m hjm rfl hjd hu]
            · rw [frS_out m (fun j' hj' _ hc => hex ⟨j', hj', hc⟩), frS_out m (fun j' hj' _ hc => hex ⟨j', hj', hc⟩)]
          · rcases d4 i hmi hin j (by omega) with hw | ⟨_, o2, q2, e1, e2, e3, e4, e5⟩ | ht
            rotate_right
            · have := ht.2.1; omega
            · have := (bnow hw).2; rw [hf] at this; cases this
            · obtain ⟨q3, e6, e7⟩ := hrs j hj
              rw [e2] at e6; cases e6
              refine ⟨q2, e2, e7, fun d hd => ?_, fun t ht => later j m t (by omega) (fun k' hk1 hk2 hc => e5 k' hk2 hk1 t hc ht), e5⟩
              have hjd : (os[j]?).bind (·.dst) = some d := by rw [e2]; exact hd
              exact frS_in m hj rfl hjd (fun j' hj' hne hc => hne (uniq hj' hj hc hjd))
      · by_cases him : i < m
        · -- one that is late
          obtain ⟨q, p1, p2, p3, p4, p5⟩ := h7 i him hiF
          obtain ⟨q', hq', hev'⟩ := hrs i him
          rw [p1] at hq'; cases hq'
          obtain ⟨o, ho, hres⟩ := hat i q p1
          have agree : ∀ t ∈ q.uses, lk (frS (fun _ => true) os rs fr i) t = lk gr' t := fun t ht => by
            rw [p4 t ht]
            refine (h6 t (fun j hj hf hc => ?_)).symm
            by_cases hij : i ≤ j
            · exact p5 j hj hij t hc ht
            · have := (bnow ((d2 i him q p1 j (by omega) t hc ht).1 (by omega))).2
              rw [hf] at this; cases this
          refine one_ok g0 t0 (fun _ _ _ _ => .inr trivial) ho hres (evQ_congr agree p2) h5 (fun a' w' hrel => ih _ a' w' hs' hcl' hc' (.inr (.inl ⟨k, h1, h2, fun j hmj hj => by rw [hget, if_neg (by omega)]; exact h3 j hmj hj, gr, _, H', lc, h4, hrel, fun t ht => ?_, fun j hj hf => ?_, fun j o hj hf ho hls => ?_⟩)))
          · by_cases hdt : q.dst = some t
            · rw [hdt]; simp only [upd, lk, if_true]; exact (p3 t hdt).symm
            · have hx : lk gr' t = lk gr t := h6 t (fun j hj hf hc => by
                by_cases hji : j = i
                · subst hji; rw [p1] at hc; exact hdt hc
                · exact ht j hj (by rw [hget, if_neg hji]; exact hf) hc)
              simp only
              generalize q.dst = d at hdt
              cases d with
              | none => exact hx
              | some s => simp only [upd, lk]; rw [if_neg (fun hc => hdt (by rw [hc]))]; exact hx
          · by_cases hji : j = i
            · subst hji; rw [hget, if_pos rfl] at hf; cases hf
            · rw [hget, if_neg hji] at hf; exact h7 j hj hf
          · by_cases hji : j = i
            · subst hji; rw [hget, if_pos rfl] at hf; cases hf
            · rw [hget, if_neg hji] at hf; exact h8 j o hj hf ho hls
        · exact tail k gr gr' H' lc h1 (by omega) h3 h4 h5 h6 h7 h8
      · have bdone' : ∀ {j : Nat}, j < m → L.getD j false = false → Bef ops (k + 1) j → False := fun {j} hj hf hb => by
          have := (bdone ((h3 (k + 1) (by omega) h2).2 (.inr rfl)) h2 hb).2
          rw [hf] at this; cases this
        by_cases him : i < m
        · obtain ⟨q, p1, p2, p3, p4, p5⟩ := h7 i him hiF
          obtain ⟨o, ho, hres⟩ := hat i q p1
          have agree : ∀ t ∈ q.uses, lk (frS (fun _ => true) os rs fr i) t = lk gr' t := fun t ht => by
            rw [(p4 t ht).1]
            refine (h6 t (p4 t ht).2 (fun j hj hf hc => ?_)).symm
            by_cases hij : i ≤ j
            · exact p5 j hj hij t hc ht
            · have := (bnow ((d2 i him q p1 j (by omega) t hc ht).1 (by omega))).2
              rw [hf] at this; cases this
          refine one_ok g0 t0 (fun _ _ _ _ => .inr trivial) ho hres (evQ_congr agree p2) hrel (fun a' w' hrel' => ih _ a' w' hs' hcl' hc' (.inr (.inr ⟨k, h1, h2, fun j hmj hj => by rw [hget, if_neg (by omega)]; exact h3 j hmj hj, e1, e2, z1, z2, c2, gr, _, H', lc, hk1, hk2, hdd, hr, hev, hfl, hlh, hlen, hrel', ?_, fun t hte ht => ?_, fun j hj hf => ?_, fun j o hj hf ho hls => ?_⟩)))
          · have := fun d hd => (p3 d hd).2
            simp only
            generalize q.dst = d at this
            cases d with
            | none => exact hd2
            | some s => simp only [upd, lk]; rw [if_neg (this s rfl)]; exact hd2
          · by_cases hdt : q.dst = some t
            · rw [hdt]; simp only [upd, lk, if_true]; exact (p3 t hdt).1.symm
            · have hx : lk gr' t = lk gr t := h6 t hte (fun j hj hf hc => by
                by_cases hji : j = i
                · subst hji; rw [p1] at hc; exact hdt hc
                · exact ht j hj (by rw [hget, if_neg hji]; exact hf) hc)
              simp only
              generalize q.dst = d at hdt
              cases d with
              | none => exact hx
              | some s => simp only [upd, lk]; rw [if_neg (fun hc => hdt (by rw [hc]))]; exact hx
          · by_cases hji : j = i
            · subst hji; rw [hget, if_pos rfl] at hf; cases hf
            · rw [hget, if_neg hji] at hf; exact h7 j hj hf
          · by_cases hji : j = i
            · subst hji; rw [hget, if_pos rfl] at hf; cases hf
            · rw [hget, if_neg hji] at hf; exact h8 j o hj hf ho hls
        · have hmi : m ≤ i := by omega
          have hik : i = k := by
            have q1 : ¬ (i < k ∨ i = k + 1) := fun hc => by rw [(h3 i hmi hin).2 hc] at hiF; cases hiF
            by_cases hlt : k < i
            · rcases d4 i hmi hin k hlt with hw | ⟨hw, _⟩ | ht
              · have := (h3 k h1 (by omega)).1 (bnow hw).2; omega
              · omega
              · have := ht.1; omega
            · omega
          subst hik
          have hkl : i < os.length := by omega
          have hkl2 : i + 1 < os.length := by omega
          have ek : os[i] = ⟨some e1, none, .m (.alloc z1)⟩ := by rw [List.getElem?_eq_getElem hkl] at hk1; exact Option.some.inj hk1
          have ei : os[i + 1] = ⟨some e2, none, .m (.alloc z2)⟩ := by rw [List.getElem?_eq_getElem hkl2] at hk2; exact Option.some.inj hk2
          have hdk : os.drop i = ⟨some e1, none, .m (.alloc z1)⟩ :: ⟨some e2, none, .m (.alloc z2)⟩ :: os.drop (i + 2) := by
            rw [List.drop_eq_getElem_cons hkl, List.drop_eq_getElem_cons hkl2, ek, ei]
          rw [hdk] at hev
          obtain ⟨_, hv⟩ := hev
          cases hr1 : rcells (.v z1) with
          | none => simp [evR, evm, hr1] at hv
          | some c1 =>
          simp only [evR, evm, hr1, Option.map_some, prune_alloc] at hv
          obtain ⟨_, hst1, _, hv2⟩ := hv
          simp only [evR, evm, hr, Option.map_some, prune_alloc] at hv2
          obtain ⟨_, hst2, hv3⟩ := hv2
          have hst3 : stab P lc (H' ++ [.var c1] ++ [.var c2]) := hst2.resolve_left (fun h => by have := congrArg List.length h; simp at this)
          have late : ∀ j, j < m → L.getD j false = false → ∃ q, os[j]? = some q ∧ (q.op.pure = true ∨ j ∈ lates ops os m) ∧ ∀ d, q.dst = some d → d ≠ e1 := fun j hj hf => by
            rcases d4 i hmi hin j (by omega) with h | ⟨_, o2, q2, f1, f2, f3, f4, _⟩ | ht
            · have := (bnow h).2; rw [hf] at this; cases this
            · rw [hk1] at f1; cases f1
              exact ⟨q2, f2, f3, fun d hd hc => (f4 d hd).2 (by rw [hc])⟩
            · have := ht.2.1; omega
          have hLg : ∀ j, j < m → (L.setIfInBounds i true).getD j false = L.getD j false := fun j hj => by rw [hget, if_neg (by omega)]
          obtain ⟨o, ho, hres⟩ := hat i _ hk1
          let ts : List Nat := (List.range m).filterMap fun j => if L.getD j false = true then none else (os[j]?).bind (·.dst)
          have hts : ∀ t, t ∈ ts ↔ ∃ j, j < m ∧ L.getD j false = false ∧ (os[j]?).bind (·.dst) = some t := fun t => by
            simp only [ts, List.mem_filterMap, List.mem_range]
            constructor
            · rintro ⟨j, hj, h⟩
              split at h
              · cases h
              · rename_i hne; exact ⟨j, hj, by simpa using hne, h⟩
            · rintro ⟨j, hj, hf, h⟩
              exact ⟨j, hj, by rw [if_neg (by rw [hf]; simp)]; exact h⟩
          have := evR_ok (P := P) (rd := rd) (ops := ops) (N := N) (D := D) g0 t0 (Q := fun e a w => match e with | .normal => wpAnyIn (FW rd) 0 P .any ops Q fuel (L.setIfInBounds i true) a w | _ => False) [i] [⟨some e1, none, .m (.alloc z1)⟩] (fun σ' => σ' = ⟨upd gr' (some e1) (.pt (H'.length + 1) 0 0 0), H' ++ [.var c2, .var c1]⟩)
            (fun σ' a' w' he hrel2 => by
              subst he
              refine ih _ a' w' hs' hcl' hc' (.inr (.inl ⟨i + 2, by omega, by omega, fun j hmj hj => ?_, _, ts.map (fun t => (t, RV.any)) ++ upd (upd gr (some e1) (.pt H'.length 0 0 0)) (some e2) (.pt (H' ++ [AObj.var c1]).length 0 0 0), _, lc, hv3, ?_, fun t ht => ?_, fun j hj hf => ?_, fun j o hj hf ho hls => h8 j o hj (by rw [hLg j hj] at hf; exact hf) ho hls⟩))
              · rw [hget]
                by_cases hji : j = i
                · rw [if_pos hji]; simp; omega
                · rw [if_neg hji, h3 j hmj hj]; omega
              · rw [show H' ++ [AObj.var c1] ++ [AObj.var c2] = H' ++ [.var c1, .var c2] by simp]
                refine rel_swap hrel2 hlen hlh (rcells_dom hr1) (rcells_dom hr) (fun t => ?_)
                rw [lk_any]
                by_cases htt : t ∈ ts
                · rw [if_pos htt]; exact .inl rfl
                rw [if_neg htt]
                refine .inr ?_
                simp only [upd, lk, List.length_append, List.length_cons, List.length_nil]
                by_cases ht1 : e1 = t
                · subst ht1
                  rw [if_pos rfl, if_neg hdd, if_pos rfl]
                  simp [RV.dom, RV.ren, sw]
                · by_cases ht2 : e2 = t
                  · subst ht2
                    rw [if_neg ht1, if_pos rfl, hd2]
                    simp [RV.dom, RV.ren, sw]
                  · rw [if_neg ht1, if_neg ht2, if_neg ht1, h6 t (fun h => ht2 h.symm) (fun j hj hf hc => htt ((hts t).2 ⟨j, hj, hf, hc⟩))]
                    have hlow := frLow_lk hfl t
                    exact ⟨RV.dom_lt hlow (by omega), (ren_id (f := sw H'.length) (p := (· < H'.length)) (fun o ho => sw_lt ho) hlow).symm⟩
              · rw [lk_any, if_neg (fun htt => by
                  obtain ⟨j, hj, hf, hc⟩ := (hts t).1 htt
                  exact ht j hj (by rw [hLg j hj]; exact hf) hc)]
              · rw [hLg j hj] at hf
                obtain ⟨q, p1, p2, p3, p4, p5⟩ := h7 j hj hf
                obtain ⟨q2, l1, lp, l2⟩ := late j hj hf
                rw [p1] at l1; cases l1
                refine ⟨q, p1, lp.elim (fun hp => evQ_pure hp p2) (fun hp => hst3 _ (h8 j q hj hf p1 hp)), fun d hd => ?_, fun t ht => ?_, p5⟩
                · simp only [upd, lk]
                  rw [if_neg (fun h => (p3 d hd).2 h.symm), if_neg (fun h => l2 d hd h.symm)]
                  exact (p3 d hd).1
                · simp only [upd, lk]
                  rw [if_neg (fun h => (p4 t ht).2 h.symm), if_neg (fun h => ?_)]
                  · exact (p4 t ht).1
                  · subst h
                    have := (d2w j hj q p1 i hin e1 (by rw [hk1]; rfl) ht).2 (by omega)
                    have := (bnow this).2; rw [hf] at this; cases this)
            ⟨⟨o, ho, hres⟩, trivial⟩ ⟨gr', H' ++ [.var c2]⟩ a w (by simp [evR, evm, hr1]) hrel
          exact gone this
  refine key _ _ a w (by simp) (fun i hi h => by simp [Array.getD, hi] at h) ?_ (.inl ⟨fun i _ hi => by simp [Array.getD, hi], hr.congr (fun t => ?_)⟩)
  · rw [List.countP_eq_length.2]
    · simp
    · intro i hi; have := List.mem_range.1 hi; simp [Array.getD, this]
  · rw [frS_out m (fun j hj hL => ?_)]
    have hjn : j < ops.size := by omega
    simp [Array.getD, hjn] at hL

end Go.Av
/- A region in which memory is made in any order. No condition. -/
set_option linter.constructorNameAsVariable false
namespace Go.Av
open Go Go.RowKit
set_option linter.unusedSimpArgs false
set_option linter.unusedVariables false

theorem evRX_get {P : Program} {K : AS → Prop} {H : List AObj} {ls : List Nat} : ∀ (m : Nat) (os : List AO) (fr : List (Nat × RV)) (obs : List AObj), m ≤ os.length → evRX P ls H m os fr obs K →
    ∃ (rs : List RV) (obs' : List AObj), obs'.length = m ∧ (∀ i, i < m → ∃ o, os[i]? = some o ∧ xstep P (decide (obs.length + i ∈ ls)) H (frS (fun _ => true) os rs fr i) (obs.length + i) o (rs.getD i .any) (obs'.getD i .none)) ∧
      evR P (os.drop m) ⟨frS (fun _ => true) os rs fr m, H ++ (obs ++ obs')⟩ K := by
  intro m
  induction m with
  | zero => intro os fr obs _ h; exact ⟨[], [], rfl, fun i hi => by omega, by simpa [evRX, frS] using h⟩
  | succ m ih =>
    intro os fr obs hl h
    cases os with
    | nil => simp at hl
    | cons o os =>
      obtain ⟨r, ob, hx, hK⟩ := h
      obtain ⟨rs, obs', hlen, h1, h2⟩ := ih os _ _ (by simpa using hl) hK
      have hfr : ∀ k, frS (fun _ => true) (o :: os) (r :: rs) fr (k + 1) = frS (fun _ => true) os rs (upd fr o.dst r) k := by
        intro k
        induction k with
        | zero => simp [frS]
        | succ k ihk => rw [frS, ihk]; simp [frS]
      refine ⟨r :: rs, ob :: obs', by simp [hlen], fun i hi => ?_, ?_⟩
      · cases i with
        | zero => exact ⟨o, rfl, by simpa [frS] using hx⟩
        | succ i =>
          obtain ⟨o', ho', hq'⟩ := h1 i (by omega)
          refine ⟨o', by simpa using ho', ?_⟩
          rw [hfr]
          have e : (obs ++ [ob]).length + i = obs.length + (i + 1) := by simp; omega
          rw [e] at hq'
          simpa using hq'
      · rw [hfr]
        simpa using h2

theorem rel_place {e0 : Env} {N : Nat} {D : List Deferred} {g1 g2 : List (Nat × RV)} {HL : List AObj} {ob : AObj} {k : Nat} {a : Act} {w : World} (h : Rel e0 N D ⟨g1, HL ++ [ob]⟩ a w) (hk : k < HL.length) (hn : e0.H.length ≤ k)
    (hd : ∀ j x, j ≠ k → HL[j]? = some x → x.dom fun o => o ≠ k ∧ o < HL.length) (hob : ∀ p, ob.dom p)
    (hg : ∀ t, RV.dom (fun o => o ≠ k ∧ o < HL.length + 1) (lk g1 t) ∧ lk g2 t = RV.ren (fun o => if o = HL.length then k else o) (lk g1 t)) : Rel e0 N D ⟨g2, HL.set k ob⟩ a w := by
  obtain ⟨e, rfl, hH, g, mv, hf, hN, hD⟩ := h
  simp only at hH hf
  have hlen : e.H.length = HL.length + 1 := by rw [hH]; simp
  have hρl : e.ρ.length = HL.length + 1 := by rw [g.len, hlen]
  have fid : ∀ o, o < HL.length → (if o = HL.length then k else o) = o := fun o ho => by rw [if_neg (by omega)]
  have hob' : ob.ren (fun o => if o = HL.length then k else o) = ob := AObj.ren_id (p := fun _ => False) (fun _ h => h.elim) (hob _)
  have hold : ∀ o x, o ≠ k → o < HL.length → e.H[o]? = some x → HL[o]? = some x := fun o x _ h2 h3 => by
    rw [hH, List.getElem?_append_left h2] at h3; exact h3
  have hnew : ∀ x, e.H[HL.length]? = some x → x = ob := fun x h3 => by
    rw [hH, List.getElem?_append_right (Nat.le_refl _)] at h3; simpa using h3.symm
  have hren : ∀ o x, o ≠ k → o < HL.length → HL[o]? = some x → x.ren (fun o => if o = HL.length then k else o) = x := fun o x h1 h2 h3 => AObj.ren_id (p := fun o => o ≠ k ∧ o < HL.length) (fun o ho => fid o ho.2) (hd o x h1 h3)
  have hdom : ∀ (x : AObj), (x.dom fun o => o ≠ k ∧ o < HL.length) → x.dom fun o => o ≠ k ∧ o < HL.length + 1 := fun x hx => by
    have := AObj.dom_ren (g := id) (q := fun o => o ≠ k ∧ o < HL.length + 1) (fun o (ho : o ≠ k ∧ o < HL.length) => ⟨ho.1, Nat.lt_succ_of_lt ho.2⟩) hx
    rwa [AObj.ren_id (f := id) (p := fun o => o ≠ k ∧ o < HL.length) (fun _ _ => rfl) hx] at this
  have hkl : k < ((e.ρ.take HL.length).length) := by simp [hρl]; omega
  have hset : ∀ o, o ≠ k → o < HL.length → ((e.ρ.take HL.length).set k ((e.ρ[HL.length]?).getD none))[o]? = e.ρ[o]? := fun o h1 h2 => by
    rw [List.getElem?_set_ne (Ne.symm h1), List.getElem?_take_of_lt h2]
  have hsetk : ((e.ρ.take HL.length).set k ((e.ρ[HL.length]?).getD none))[k]? = e.ρ[HL.length]? := by
    rw [List.getElem?_set_self hkl, List.getElem?_eq_getElem (by omega)]; rfl
  have := view_ok g mv (fun o => if o = HL.length then k else o) (fun o => o ≠ k ∧ o < HL.length + 1) (HL.set k ob) ((e.ρ.take HL.length).set k ((e.ρ[HL.length]?).getD none)) (by simp [hρl])
    (fun o x ⟨h1, h2⟩ hx => by
      by_cases ho : o = HL.length
      · subst ho
        rw [if_pos rfl, List.getElem?_set_self hk, hnew x hx, hob']
      · have h3 : o < HL.length := by omega
        have h4 := hold o x h1 h3 hx
        rw [if_neg ho, List.getElem?_set_ne (Ne.symm h1), h4, hren o x h1 h3 h4])
    (fun o lo ⟨h1, h2⟩ hx => by
      by_cases ho : o = HL.length
      · subst ho
        simp only [if_true]
        rw [hsetk]; exact hx
      · simp only [if_neg ho]
        rw [hset o h1 (by omega)]; exact hx)
    (fun j x lo hj1 hj2 => by
      have hjl : j < HL.length := by have := (List.getElem?_eq_some_iff.1 hj1).1; simpa using this
      by_cases hjk : j = k
      · subst hjk
        rw [List.getElem?_set_self hk] at hj1
        cases hj1
        rw [hsetk] at hj2
        exact ⟨HL.length, ob, ⟨by omega, by omega⟩, by simp, by rw [hH, List.getElem?_append_right (Nat.le_refl _)]; simp, hob'.symm, hob _, hj2⟩
      · rw [List.getElem?_set_ne (Ne.symm hjk)] at hj1
        rw [hset j hjk hjl] at hj2
        exact ⟨j, x, ⟨hjk, by omega⟩, fid j hjl, by rw [hH, List.getElem?_append_left hjl]; exact hj1, (hren j x hjk hjl hj1).symm, hdom x (hd j x hjk hj1), hj2⟩)
    (fun o ho => ⟨⟨by omega, by omega⟩, fid o (by omega)⟩)
  exact ⟨⟨e.w, e.Im, (e.ρ.take HL.length).set k ((e.ρ[HL.length]?).getD none), HL.set k ob⟩, rfl, rfl, this.1, this.2.1, fun t => by simp only; rw [(hg t).2]; exact this.2.2 _ _ (hf t) (hg t).1, hN, hD.sub rfl (fun _ h => h) (by
    rintro b ⟨j, l, hj, rfl⟩
    have hj : ((e.ρ.take HL.length).set k ((e.ρ[HL.length]?).getD none))[j]? = some (some l) := hj
    by_cases hjk : j = k
    · subst hjk
      rw [hsetk] at hj
      exact ⟨_, l, hj, rfl⟩
    · rw [List.getElem?_set_ne (Ne.symm hjk)] at hj
      have hjl : j < HL.length := by have := (List.getElem?_eq_some_iff.1 hj).1; simp at this; omega
      rw [List.getElem?_take_of_lt hjl] at hj
      exact ⟨_, l, hj, rfl⟩)⟩

mutual
theorem RV.dom_sub {p q : Nat → Prop} (h : ∀ o, p o → q o) : ∀ {x : RV}, RV.dom p x → RV.dom q x
  | .v _, _ => by simp [RV.dom]
  | .any, _ => by simp [RV.dom]
  | .bo, _ => by simp [RV.dom]
  | .os _ _, hx => by simp only [RV.dom] at hx ⊢; exact h _ hx
  | .sub _ _ _ _, hx => by simp only [RV.dom] at hx ⊢; exact h _ hx
  | .pt _ _ _ _, hx => by simp only [RV.dom] at hx ⊢; exact h _ hx
  | .fr _ _, hx => by simp only [RV.dom] at hx ⊢; exact domL_sub h hx
  | .bf _ _, hx => by simp only [RV.dom] at hx ⊢; exact domL_sub h hx
  | .tr _, hx => by simp only [RV.dom] at hx ⊢; exact domL_sub h hx
  | .gr _, hx => by simp only [RV.dom] at hx ⊢; exact domL_sub h hx
  | .cnd _ _, hx => by simp only [RV.dom] at hx ⊢; exact RV.dom_sub h hx
  | .yl _ _, hx => by simp only [RV.dom] at hx
theorem domL_sub {p q : Nat → Prop} (h : ∀ o, p o → q o) : ∀ {l : List RV}, domL p l → domL q l
  | [], _ => by simp [domL]
  | x :: l, hx => by simp only [domL] at hx ⊢; exact ⟨RV.dom_sub h hx.1, domL_sub h hx.2⟩
end
theorem rel_nones {e0 : Env} {N : Nat} {D : List Deferred} {fr : List (Nat × RV)} {H : List AObj} {a : Act} {w : World} (g0 : Good e0) (m : Nat) (h : Rel e0 N D ⟨fr, H⟩ a w) : Rel e0 N D ⟨fr, H ++ List.replicate m .none⟩ a w := by
  obtain ⟨e, rfl, hH, g, mv, hf, hN, hD⟩ := h
  simp only at hH hf
  have hsp : ∀ (o : Nat) l, (e.ρ ++ List.replicate m none)[o]? = some (some l) → e.ρ[o]? = some (some l) := fun o l ho => by
    by_cases hlt : o < e.ρ.length
    · rwa [List.getElem?_append_left hlt] at ho
    · rw [List.getElem?_append_right (by omega), List.getElem?_replicate] at ho
      split at ho
      · cases ho
      · cases ho
  have mv2 : Mv e ⟨e.w, e.Im, e.ρ ++ List.replicate m none, e.H ++ List.replicate m .none⟩ := by
    refine ⟨rfl, rfl, ⟨rfl, Nat.le_refl _⟩, Nat.le_refl _, fun _ _ _ => rfl, fun _ h => h, fun _ _ => rfl, fun _ h => .inl h, ?_, ?_⟩
    · intro k x y hx hy
      refine ⟨x, y, ?_, ?_, .refl _ _⟩
      · show (e.H ++ _)[k]? = _
        rw [List.getElem?_append_left (List.getElem?_eq_some_iff.1 hx).1]; exact hx
      · show (e.ρ ++ _)[k]? = _
        rw [List.getElem?_append_left (List.getElem?_eq_some_iff.1 hy).1]; exact hy
    · rintro b ⟨k, l, hk, rfl⟩
      exact .inl ⟨k, l, hsp k l hk, rfl⟩
  refine ⟨⟨e.w, e.Im, e.ρ ++ List.replicate m none, e.H ++ List.replicate m .none⟩, rfl, by simp [hH], ⟨by simp [g.len], ?_, ?_, ?_, g.imlt, ?_⟩, mv.trans mv2 g0, fun t => mv2.vr (hf t), hN, hD.mv mv2⟩
  · intro o o' l l' h1 h2 h3
    exact g.inj o o' l l' (hsp _ _ h1) (hsp _ _ h2) h3
  · intro o l h1; exact g.dis o l (hsp _ _ h1)
  · intro o l h1; exact g.lt o l (hsp _ _ h1)
  · intro o x lo h1 h2
    by_cases hlt : o < e.H.length
    · have h1 : (e.H ++ List.replicate m .none)[o]? = some x := h1
      have h2 : (e.ρ ++ List.replicate m none)[o]? = some lo := h2
      rw [List.getElem?_append_left hlt] at h1
      rw [List.getElem?_append_left (by rw [g.len]; exact hlt)] at h2
      exact (g.obj o x lo h1 h2).keep (fun l _ => rfl) mv2
    · have h1 : (e.H ++ List.replicate m .none)[o]? = some x := h1
      rw [List.getElem?_append_right (by omega), List.getElem?_replicate] at h1
      split at h1
      · cases h1; trivial
      · cases h1

theorem drawsX_ok {ops : Array Oper} {os : List AO} {m : Nat} (h : drawsX ops os m = true) : drawsOk ops os m = true ∧ ∀ i, m ≤ i → i < ops.size → ∀ j, j < i → Bef ops i j := by
  simp only [drawsX, Bool.and_eq_true, List.all_eq_true, List.mem_range, Bool.or_eq_true, decide_eq_true_eq] at h
  exact ⟨h.1, fun i hi hn j hj => masks_bef ops _ _ _ ((h.2 i hn).resolve_left (by omega) j hj)⟩
theorem bars_ok {ops : Array Oper} {m i : Nat} (h : i ∈ bars ops m) : ∀ j, j < i → Bef ops i j := by
  simp only [bars, List.mem_filter, List.mem_range, List.all_eq_true] at h
  exact fun j hj => masks_bef ops _ _ _ (h.2 j hj)

theorem evRX_ok {P : Program} {rd : Option Nat} {ops : Array Oper} {N : Nat} {D : List Deferred} {e0 : Env} (g0 : Good e0) (t0 : Tabs P e0) {Q : Exit → Act → World → Prop} {os : List AO} (hos : ops.toList.mapM (resAO P N ops) = some os) {m : Nat} (hq : m ≤ os.length) (hd : drawsX ops os m = true)
    {K : AS → Prop} (hK : ∀ σ a w, K σ → Rel e0 N D σ a w → Q .normal a w) {fr : List (Nat × RV)} {H : List AObj} (hfl : frLow H.length fr) (hlh : lowH H.length H) (hev : evRX P (bars ops m) H m os fr [] K) {a : Act} {w : World} (hr : Rel e0 N D ⟨fr, H⟩ a w) :
    wpAnyIn (FW rd) 0 P .any ops Q ops.size (Array.replicate ops.size false) a w := by
  obtain ⟨hlen, hat⟩ := matched_at hos
  obtain ⟨hd0, d4⟩ := drawsX_ok hd
  obtain ⟨d1, d2, d3, _⟩ := drawsOk_ok hq hd0 hlen
  obtain ⟨rs, obs, hol, hrs, htail⟩ := evRX_get _ _ _ _ hq hev
  simp only [List.length_nil, Nat.zero_add, List.nil_append] at hrs htail
  have hHe : e0.H.length ≤ H.length := rel_len' g0 hr
  have hr := rel_nones g0 m hr
  -- what has been made
  let made : (Nat → Bool) → List AObj := fun L => (List.range m).map fun j => if L j then obs.getD j .none else .none
  have madel : ∀ L, (made L).length = m := fun L => by simp [made]
  have made_at : ∀ (L : Nat → Bool) j, j < m → (made L)[j]? = some (if L j then obs.getD j .none else .none) := fun L j hj => by
    simp only [made]
    rw [List.getElem?_map, List.getElem?_range hj]; rfl
  have made_all : ∀ (L : Nat → Bool), (∀ j, j < m → L j = true) → made L = obs := fun L hL => by
    apply List.ext_getElem?
    intro j
    by_cases hj : j < m
    · rw [made_at L j hj, hL j hj, if_pos rfl, List.getD_eq_getElem?_getD, List.getElem?_eq_getElem (by omega)]; rfl
    · rw [List.getElem?_eq_none (by rw [madel]; omega), List.getElem?_eq_none (by omega)]
  have obdom : ∀ j, j < m → ∀ p, (obs.getD j .none).dom p := fun j hj p => by
    obtain ⟨o, _, hx⟩ := hrs j hj
    rcases hx with ⟨h1, _⟩ | ⟨mk, _, _, _, h1, _⟩
    · rw [h1]; trivial
    · exact h1 p
  let S : Array Bool → Act → World → Prop := fun L a w =>
    ((∀ i, m ≤ i → i < ops.size → L.getD i false = false) ∧ Rel e0 N D ⟨frS (fun j => L.getD j false) os rs fr m, H ++ made (fun j => L.getD j false)⟩ a w) ∨
    (∃ k, m ≤ k ∧ k ≤ ops.size ∧ (∀ j, j < ops.size → (L.getD j false = true ↔ j < k)) ∧ ∃ σ, evR P (os.drop k) σ K ∧ Rel e0 N D σ a w)
  have uniq : ∀ {i j : Nat} {t : Nat}, i < m → j < m → (os[i]?).bind (·.dst) = some t → (os[j]?).bind (·.dst) = some t → i = j := fun {i j t} hi hj h1 h2 => by
    by_cases h : i = j
    · exact h
    · exact absurd h1 (d3 i j hi hj h t h2)
  have allm : ∀ (L : Array Bool), (∀ j, j < m → L.getD j false = true) → ∀ k, k ≤ m → frS (fun j => L.getD j false) os rs fr k = frS (fun _ => true) os rs fr k := by
    intro L hL k
    induction k with
    | zero => intro _; rfl
    | succ k ih => intro hk; simp only [frS, hL k (by omega), ih (by omega), if_true]
  have key : ∀ (fuel : Nat) (L : Array Bool) (a : Act) (w : World), L.size = ops.size → (∀ i, i < ops.size → L.getD i false = true → ∀ j ∈ waits ops i, L.getD j false = true) →
      (List.range ops.size).countP (fun i => !L.getD i false) = fuel → S L a w → wpAnyIn (FW rd) 0 P .any ops Q fuel L a w := by
    have fin : ∀ (L : Array Bool) (a : Act) (w : World), L.size = ops.size → (∀ i, i < ops.size → L.getD i false = true) → S L a w → Q .normal a w := by
      intro L a w hs hall hS
      rcases hS with ⟨h1, h2⟩ | ⟨k, h1, h2, h3, σ, h4, h5⟩
      · have hmn : m = ops.size := by
          by_cases h : m < ops.size
          · have := h1 m (Nat.le_refl _) h; rw [hall m h] at this; cases this
          · omega
        have he : os.drop m = [] := by apply List.drop_eq_nil_of_le; omega
        rw [he] at htail
        rw [allm L (fun j hj => hall j (by omega)) m (Nat.le_refl _), made_all _ (fun j hj => hall j (by omega))] at h2
        exact hK _ a w htail h2
      · have hk : k = ops.size := by
          by_cases h : k < ops.size
          · have := (h3 k h).1 (hall k h); omega
          · omega
        have he : os.drop k = [] := by apply List.drop_eq_nil_of_le; omega
        rw [he] at h4
        exact hK _ a w h4 h5
    have done : ∀ (L : Array Bool), L.size = ops.size → Region.ready .any ops L = [] → ∀ i, i < ops.size → L.getD i false = true := by
      intro L hs hr i
      induction i using Nat.strongRecOn with
      | _ i ih =>
        intro hi
        cases hL : L.getD i false with
        | true => rfl
        | false =>
          exfalso
          have : i ∈ Region.ready .any ops L := ready_mem.2 ⟨hi, by simp [Array.getD, hs, hi] at hL ⊢; exact hL, fun j hj => ih j (d1 i hi j hj) (by have := d1 i hi j hj; omega)⟩
          rw [hr] at this; cases this
    intro fuel
    induction fuel with
    | zero =>
      intro L a w hs hcl hc hS
      have hall : ∀ i, i < ops.size → L.getD i false = true := fun i hi => by
        have := List.countP_eq_zero.1 hc i (List.mem_range.2 hi)
        simpa using this
      refine ⟨?_, fin L a w hs hall hS⟩
      apply List.eq_nil_iff_forall_not_mem.2
      intro i hi
      obtain ⟨h1, h2, _⟩ := ready_mem.1 hi
      have := hall i h1
      simp [Array.getD, hs, h1] at this h2
      rw [this] at h2; cases h2
    | succ fuel ih =>
      intro L a w hs hcl hc hS
      refine ⟨fun hr => fin L a w hs (done L hs hr) hS, fun i hi => ?_⟩
      obtain ⟨hin, hiL, hiw⟩ := ready_mem.1 hi
      have bdone : ∀ {k j : Nat}, L.getD k false = true → k < ops.size → Bef ops k j → j < k ∧ L.getD j false = true := fun {k j} hk hkn hb => by
        induction hb with
        | base h => exact ⟨d1 k hkn _ h, hcl k hkn hk _ h⟩
        | step _ h' ih => exact ⟨by have := d1 _ (by omega) _ h'; omega, hcl _ (by omega) ih.2 _ h'⟩
      have bnow : ∀ {j : Nat}, Bef ops i j → j < i ∧ L.getD j false = true := fun {j} hb => by
        induction hb with
        | base h => exact ⟨d1 i hin _ h, hiw _ h⟩
        | step _ h' ih => exact ⟨by have := d1 _ (by omega) _ h'; omega, hcl _ (by omega) ih.2 _ h'⟩
      have hiF : L.getD i false = false := by simp [Array.getD, hs, hin] at hiL ⊢; exact hiL
      have hget : ∀ j, (L.setIfInBounds i true).getD j false = (if j = i then true else L.getD j false) := fun j => by
        by_cases hj : j = i
        · subst hj; simp [Array.getD, hs, hin]
        · rw [if_neg hj]; simp [Array.getElem?_setIfInBounds, Ne.symm hj]
      have hs' : (L.setIfInBounds i true).size = ops.size := by simpa using hs
      have hcl' : ∀ k, k < ops.size → (L.setIfInBounds i true).getD k false = true → ∀ j ∈ waits ops k, (L.setIfInBounds i true).getD j false = true := fun k hk h j hj => by
        rw [hget] at h ⊢
        by_cases hji : j = i
        · rw [if_pos hji]
        · rw [if_neg hji]
          by_cases hki : k = i
          · subst hki; exact hiw j hj
          · rw [if_neg hki] at h; exact hcl k hk h j hj
      have hc' : (List.range ops.size).countP (fun j => !(L.setIfInBounds i true).getD j false) = fuel := by
        have := countP_flip (p := fun j => !L.getD j false) (p' := fun j => !(L.setIfInBounds i true).getD j false) hin (by simp only [hiF]; rfl) (by simp only [hget, if_pos]; rfl) (fun j hj => by simp only [hget, if_neg hj])
        omega
      have gone : ∀ {Kk : Act → World → Prop}, wpOpsIn (FW rd) 0 P ops (fun e a w => match e with | .normal => Kk a w | _ => False) [i] a w → wpOpIn (FW rd) 0 P ops Q i Kk a w := by
        intro Kk this
        rw [wpOpsIn_cons] at this
        refine wpOpIn_Q ?_ this
        intro e he a w hf
        cases e with
        | normal => exact absurd rfl he
        | exit id => exact hf.elim
        | goto l => exact hf.elim
        | ret => exact hf.elim
        | panic c => exact hf.elim
        | outgrown => exact hf.elim
      -- one of the tail
      have tail : ∀ (σ : AS), m ≤ i → (∀ j, j < ops.size → (L.getD j false = true ↔ j < i)) → evR P (os.drop i) σ K → Rel e0 N D σ a w → wpOpIn (FW rd) 0 P ops Q i (wpAnyIn (FW rd) 0 P .any ops Q fuel (L.setIfInBounds i true)) a w := by
        intro σ hmi hL hev hrel
        have hil : i < os.length := by omega
        obtain ⟨o, ho, hres⟩ := hat i _ (List.getElem?_eq_getElem hil)
        rw [List.drop_eq_getElem_cons hil] at hev
        have hev' : evR P [os[i]] σ (fun σ' => evR P (os.drop (i + 1)) σ' K) := hev
        have := evR_ok (P := P) (rd := rd) (ops := ops) (N := N) (D := D) g0 t0 (Q := fun e a w => match e with | .normal => wpAnyIn (FW rd) 0 P .any ops Q fuel (L.setIfInBounds i true) a w | _ => False) [i] [os[i]] (fun σ' => evR P (os.drop (i + 1)) σ' K)
          (fun σ' a' w' h1 h2 => ih _ a' w' hs' hcl' hc' (.inr ⟨i + 1, by omega, by omega, fun j hj => by
            rw [hget]
            by_cases hji : j = i
            · rw [if_pos hji]; simp; omega
            · rw [if_neg hji, hL j hj]; omega, σ', h1, h2⟩)) ⟨⟨o, ho, hres⟩, trivial⟩ σ a w hev' hrel
        exact gone this
      rcases hS with ⟨h1, h2⟩ | ⟨k, h1, h2, h3, σ, h4, h5⟩
      · by_cases him : i < m
        · obtain ⟨q, hq', hx⟩ := hrs i him
          obtain ⟨o, ho, hres⟩ := hat i q hq'
          have hqd : (os[i]?).bind (·.dst) = q.dst := by rw [hq']; rfl
          have agree : ∀ t ∈ q.uses, lk (frS (fun _ => true) os rs fr i) t = lk (frS (fun j => L.getD j false) os rs fr m) t := by
            intro t ht
            by_cases hex : ∃ j, j < m ∧ (os[j]?).bind (·.dst) = some t
            · obtain ⟨j, hjm, hjd⟩ := hex
              obtain ⟨w1, w2⟩ := d2 i him q hq' j (by omega) t hjd ht
              have hu : ∀ n, n ≤ m → ∀ j', j' < n → j' ≠ j → (os[j']?).bind (·.dst) ≠ some t := fun n hn j' hj' hne hc => hne (uniq (by omega) hjm hc hjd)
              by_cases hji : j < i
              · have hjL := (bnow (w1 hji)).2
                rw [frS_in i hji rfl hjd (hu i (by omega)), frS_in m hjm hjL hjd (hu m (Nat.le_refl _))]
              · have hjL : L.getD j false = false := by
                  cases hjj : L.getD j false with
                  | false => rfl
                  | true =>
                    by_cases hij : i < j
                    · have := (bdone hjj (by omega) (w2 hij)).2; rw [hiF] at this; cases this
                    · have : i = j := by omega
                      subst this; rw [hiF] at hjj; cases hjj
                rw [frS_out i (fun j' hj' _ hc => by have := uniq (by omega) hjm hc hjd; omega), frS_out m (fun j' hj' hL' hc => by
                  have := uniq hj' hjm hc hjd; subst this; rw [hjL] at hL'; cases hL')]
            · rw [frS_out i (fun j' hj' _ hc => hex ⟨j', by omega, hc⟩), frS_out m (fun j' hj' _ hc => hex ⟨j', hj', hc⟩)]
          -- the frame once i is done
          have hframe : ∀ t, lk (upd (frS (fun j => L.getD j false) os rs fr m) q.dst (rs.getD i .any)) t = lk (frS (fun j => (L.setIfInBounds i true).getD j false) os rs fr m) t := by
            intro t
            by_cases hdt : q.dst = some t
            · rw [hdt]
              simp only [upd, lk, if_true]
              rw [frS_in m him (by rw [hget, if_pos rfl]) (by rw [hqd, hdt]) (fun j' hj' hne hc => hne (uniq hj' him hc (by rw [hqd, hdt])))]
            · have e1 : lk (upd (frS (fun j => L.getD j false) os rs fr m) q.dst (rs.getD i .any)) t = lk (frS (fun j => L.getD j false) os rs fr m) t := by
                generalize q.dst = d at hdt
                cases d with
                | none => rfl
                | some s => simp only [upd, lk]; rw [if_neg (fun hc => hdt (by rw [hc]))]
              rw [e1]
              by_cases hex : ∃ j, j < m ∧ (os[j]?).bind (·.dst) = some t
              · obtain ⟨j, hjm, hjd⟩ := hex
                have hji : j ≠ i := fun hc => by subst hc; rw [hqd] at hjd; exact hdt hjd
                have hu : ∀ j', j' < m → j' ≠ j → (os[j']?).bind (·.dst) ≠ some t := fun j' hj' hne hc => hne (uniq hj' hjm hc hjd)
                cases hjL : L.getD j false with
                | true => rw [frS_in m hjm hjL hjd hu, frS_in m hjm (by rw [hget, if_neg hji]; exact hjL) hjd hu]
                | false =>
                  rw [frS_out m (fun j' hj' hL' hc => by have := uniq hj' hjm hc hjd; subst this; rw [hjL] at hL'; cases hL'),
                    frS_out m (fun j' hj' hL' hc => by have := uniq hj' hjm hc hjd; subst this; rw [hget, if_neg hji, hjL] at hL'; cases hL')]
              · rw [frS_out m (fun j' hj' _ hc => hex ⟨j', hj', hc⟩), frS_out m (fun j' hj' _ hc => hex ⟨j', hj', hc⟩)]
          have hno : ∀ j, m ≤ j → j < ops.size → (L.setIfInBounds i true).getD j false = false := fun j hj hjn => by rw [hget, if_neg (by omega)]; exact h1 j hj hjn
          rcases hx with ⟨hob, hqv, hqd2⟩ | ⟨mk, mk1, mk2, hr', hobd, hmem⟩
          · -- a quiet one
            have hmade : made (fun j => (L.setIfInBounds i true).getD j false) = made (fun j => L.getD j false) := by
              simp only [made]
              refine List.map_congr_left fun j hj => ?_
              simp only [hget]
              by_cases hji : j = i
              · subst hji; simp only [hob, ite_self]
              · simp only [if_neg hji]
            have hone := evR_one (os := []) agree (hqv (made fun j => L.getD j false))
            have := evR_ok (P := P) (rd := rd) (ops := ops) (N := N) (D := D) g0 t0 (Q := fun e a w => match e with | .normal => wpAnyIn (FW rd) 0 P .any ops Q fuel (L.setIfInBounds i true) a w | _ => False) [i] [q] (fun σ' => ∃ r, σ'.fr = upd (frS (fun j => L.getD j false) os rs fr m) q.dst r ∧ (upd (frS (fun _ => true) os rs fr i) q.dst r = upd (frS (fun _ => true) os rs fr i) q.dst (rs.getD i .any) ∧ σ'.hp = H ++ made fun j => L.getD j false))
              (fun σ' a' w' ⟨r, s1, s2, s3⟩ hrel => ih _ a' w' hs' hcl' hc' (.inl ⟨hno, by
                have hgg : σ'.fr = upd (frS (fun j => L.getD j false) os rs fr m) q.dst (rs.getD i .any) := by
                  rw [s1]
                  generalize q.dst = d at s2
                  cases d with
                  | none => rfl
                  | some s =>
                    simp only [upd, List.cons.injEq, Prod.mk.injEq, true_and, and_true] at s2
                    rw [s2]
                obtain ⟨σf, σh⟩ := σ'
                simp only at hgg s3
                subst hgg s3
                rw [hmade]
                exact hrel.congr hframe⟩))
              ⟨⟨o, ho, hres⟩, trivial⟩ _ a w hone h2
            exact gone this
          · -- one that makes an object
            have hone := evR_one (os := []) agree (hmem (made fun j => L.getD j false))
            have hHl : (H ++ made fun j => L.getD j false).length = H.length + m := by simp [madel]
            have := evR_ok (P := P) (rd := rd) (ops := ops) (N := N) (D := D) g0 t0 (Q := fun e a w => match e with | .normal => wpAnyIn (FW rd) 0 P .any ops Q fuel (L.setIfInBounds i true) a w | _ => False) [i] [q] (fun σ' => ∃ r, σ'.fr = upd (frS (fun j => L.getD j false) os rs fr m) q.dst r ∧ (upd (frS (fun _ => true) os rs fr i) q.dst r = upd (frS (fun _ => true) os rs fr i) q.dst (mk (H.length + m)) ∧ σ'.hp = (H ++ made fun j => L.getD j false) ++ [obs.getD i .none]))
              (fun σ' a' w' ⟨r, s1, s2, s3⟩ hrel => ih _ a' w' hs' hcl' hc' (.inl ⟨hno, by
                have hgg : σ'.fr = upd (frS (fun j => L.getD j false) os rs fr m) q.dst (mk (H.length + m)) := by
                  rw [s1]
                  generalize q.dst = d at s2
                  cases d with
                  | none => rfl
                  | some s =>
                    simp only [upd, List.cons.injEq, Prod.mk.injEq, true_and, and_true] at s2
                    rw [s2]
                obtain ⟨σf, σh⟩ := σ'
                simp only at hgg s3
                subst hgg s3
                have hset : H ++ made (fun j => (L.setIfInBounds i true).getD j false) = (H ++ made fun j => L.getD j false).set (H.length + i) (obs.getD i .none) := by
                  rw [List.set_append_right _ _ (by omega)]
                  congr 1
                  apply List.ext_getElem?
                  intro j
                  rw [show H.length + i - H.length = i by omega]
                  by_cases hj : j < m
                  · rw [made_at _ j hj]
                    simp only [hget]
                    by_cases hji : j = i
                    · subst hji; rw [List.getElem?_set_self (by rw [madel]; exact hj)]; simp
                    · rw [List.getElem?_set_ne (Ne.symm hji), made_at _ j hj]
                      simp only [if_neg hji]
                  · rw [List.getElem?_eq_none (by rw [madel]; omega), List.getElem?_eq_none (by rw [List.length_set, madel]; omega)]
                rw [hset]
                refine rel_place hrel (by omega) (Nat.le_trans ?_ (Nat.le_add_right _ _)) (fun j x hjk hx => ?_) hobd (fun t => ?_)
                · exact hHe
                · by_cases hj : j < H.length
                  · rw [List.getElem?_append_left hj] at hx
                    have := hlh x (List.mem_of_getElem? hx)
                    have h6 := AObj.dom_ren (g := id) (q := fun o => o ≠ H.length + i ∧ o < (H ++ made fun j => L.getD j false).length) (fun o (ho : o < H.length) => ⟨by simp only [id]; omega, by simp only [id]; rw [hHl]; omega⟩) this
                    rwa [AObj.ren_id (f := id) (p := (· < H.length)) (fun _ _ => rfl) this] at h6
                  · rw [List.getElem?_append_right (by omega)] at hx
                    have hjm : j - H.length < m := by have := (List.getElem?_eq_some_iff.1 hx).1; rwa [madel] at this
                    rw [made_at _ _ hjm] at hx
                    cases hx
                    split
                    · exact obdom _ hjm _
                    · trivial
                · rw [hHl]
                  by_cases hdt : q.dst = some t
                  · have e3 := hframe t
                    rw [hdt] at e3 ⊢
                    simp only [upd, lk, if_true] at e3 ⊢
                    rw [← e3, hr']
                    exact ⟨mk2 _ _ ⟨by omega, by omega⟩, by rw [mk1]; simp⟩
                  · have e1 : ∀ r, lk (upd (frS (fun j => L.getD j false) os rs fr m) q.dst r) t = lk (frS (fun j => L.getD j false) os rs fr m) t := fun r => by
                      generalize q.dst = d at hdt
                      cases d with
                      | none => rfl
                      | some s => simp only [upd, lk]; rw [if_neg (fun hc => hdt (by rw [hc]))]
                    have e3 := hframe t
                    rw [e1] at e3 ⊢
                    have hdom : RV.dom (fun o => o ≠ H.length + i ∧ o < H.length + m) (lk (frS (fun j => L.getD j false) os rs fr m) t) := by
                      have up : ∀ {x : RV}, RV.dom (fun o => o < H.length) x → RV.dom (fun o => o ≠ H.length + i ∧ o < H.length + m) x := fun {x} hx => RV.dom_sub (fun o ho => ⟨by omega, by omega⟩) hx
                      by_cases hex : ∃ j, j < m ∧ L.getD j false = true ∧ (os[j]?).bind (·.dst) = some t
                      · obtain ⟨j, hjm, hjL, hjd⟩ := hex
                        rw [frS_in m hjm hjL hjd (fun j' hj' hne hc => hne (uniq hj' hjm hc hjd))]
                        have hji : j ≠ i := fun hc => by subst hc; rw [hiF] at hjL; cases hjL
                        obtain ⟨q2, _, hx2⟩ := hrs j hjm
                        rcases hx2 with ⟨_, _, hb⟩ | ⟨mk', _, mk2', hr2, _, _⟩
                        · by_cases hbar : j ∈ bars ops m
                          · rw [if_pos (by simpa using hbar)] at hb
                            refine RV.dom_sub (fun o ho => ⟨fun hc => ?_, by omega⟩) hb
                            have hij : i < j := by omega
                            have := (bdone hjL (by omega) (bars_ok hbar i hij)).2
                            rw [hiF] at this; cases this
                          · rw [if_neg (by simpa using hbar)] at hb
                            exact up hb
                        · rw [hr2]; exact mk2' _ _ ⟨by omega, by omega⟩
                      · rw [frS_out m (fun j hj hjL hc => hex ⟨j, hj, hjL, hc⟩)]
                        exact up (frLow_lk hfl t)
                    refine ⟨RV.dom_sub (fun o ho => ⟨ho.1, by omega⟩) hdom, ?_⟩
                    rw [← e3]
                    exact (ren_id (p := fun o => o ≠ H.length + i ∧ o < H.length + m) (fun o ho => by rw [if_neg (by omega)]) hdom).symm⟩))
              ⟨⟨o, ho, hres⟩, trivial⟩ _ a w (by rw [← hHl]; exact hone) h2
            exact gone this
        · have hmi : m ≤ i := by omega
          have hall : ∀ j, j < i → L.getD j false = true := fun j hj => (bnow (d4 i hmi hin j hj)).2
          have him' : i = m := by
            by_cases h : i = m
            · exact h
            · have := hall m (by omega); rw [h1 m (Nat.le_refl _) (by omega)] at this; cases this
          subst him'
          rw [allm L hall i (Nat.le_refl _), made_all _ hall] at h2
          refine tail _ hmi (fun j hj => ⟨fun h => ?_, fun h => hall j h⟩) htail h2
          by_cases hjm : j < i
          · exact hjm
          · rw [h1 j (by omega) hj] at h; cases h
      · have hik : i = k := by
          have q1 : ¬ i < k := fun hc => by rw [(h3 i hin).2 hc] at hiF; cases hiF
          by_cases hki : k < i
          · have hmi : m ≤ i := by omega
            have := (h3 k (by omega)).1 (bnow (d4 i hmi hin k hki)).2; omega
          · omega
        subst hik
        exact tail σ h1 h3 h4 h5
  refine key _ _ a w (by simp) (fun i hi h => by simp [Array.getD, hi] at h) ?_ (.inl ⟨fun i _ hi => by simp [Array.getD, hi], ?_⟩)
  · rw [List.countP_eq_length.2]
    · simp
    · intro i hi; have := List.mem_range.1 hi; simp [Array.getD, this]
  · have hmd : made (fun j => (Array.replicate ops.size false).getD j false) = List.replicate m .none := by
      apply List.ext_getElem?
      intro j
      by_cases hj : j < m
      · rw [made_at _ j hj]
        have hjn : j < ops.size := by omega
        simp [Array.getD, hjn, List.getElem?_replicate, hj]
      · rw [List.getElem?_eq_none (by rw [madel]; omega), List.getElem?_eq_none (by simp; omega)]
    rw [hmd]
    refine hr.congr fun t => ?_
    rw [frS_out m (fun j hj hL => ?_)]
    have hjn : j < ops.size := by omega
    simp [Array.getD, hjn] at hL
end Go.Av
/- A region whose operations are told in another order. No condition. -/
set_option linter.constructorNameAsVariable false
namespace Go.Av
open Go Go.RowKit
set_option linter.unusedSimpArgs false
set_option linter.unusedVariables false
theorem isPerm_ok {n : Nat} {q p : List Nat} (h : isPerm n q p = true) : p.length = n ∧ q.length = n ∧ ∀ i, i < n → p.getD i n < n ∧ q.getD i n < n ∧ q.getD (p.getD i n) n = i ∧ p.getD (q.getD i n) n = i := by
  unfold isPerm at h
  simp only [Bool.and_eq_true, decide_eq_true_eq, List.all_eq_true, List.mem_range] at h
  exact ⟨h.1.1, h.1.2, fun i hi => ⟨(h.2 i hi).1.1.1, (h.2 i hi).1.1.2, (h.2 i hi).1.2, (h.2 i hi).2⟩⟩
theorem permOps_list {q p : List Nat} {ops : Array Oper} (hp : ∀ i ∈ p, i < ops.size) : p.filterMap (fun i => (ops[i]?).map (remapO ops.size q)) = p.map fun i => remapO ops.size q (ops[i]?.getD default) := by
  induction p with
  | nil => rfl
  | cons a p ih =>
    have ha := hp a (by simp)
    rw [List.filterMap_cons, Array.getElem?_eq_getElem ha]
    simp only [Option.map_some, List.map_cons, Option.getD_some]
    rw [ih fun i hi => hp i (by simp [hi]), Array.getElem?_eq_getElem ha]
    rfl
section
variable {n : Nat} {q p : List Nat} {ops : Array Oper} (hP : isPerm ops.size q p = true)
include hP
theorem perm_mem : ∀ i ∈ p, i < ops.size := fun i hi => by
  obtain ⟨h1, _, h3⟩ := isPerm_ok hP
  obtain ⟨k, hk, rfl⟩ := List.getElem_of_mem hi
  have := (h3 k (by omega)).1
  rw [List.getD_eq_getElem?_getD, List.getElem?_eq_getElem hk] at this
  exact this
theorem perm_size : (permOps q p ops).size = ops.size := by
  unfold permOps
  rw [permOps_list (perm_mem hP)]
  simp [(isPerm_ok hP).1]
theorem perm_get {i : Nat} (hi : i < ops.size) : (permOps q p ops)[q.getD i ops.size]? = (ops[i]?).map (remapO ops.size q) := by
  obtain ⟨h1, h2, h3⟩ := isPerm_ok hP
  obtain ⟨_, hq, _, hpq⟩ := h3 i hi
  unfold permOps
  rw [permOps_list (perm_mem hP)]
  have hk : q.getD i ops.size < p.length := by omega
  rw [List.getD_eq_getElem?_getD, List.getElem?_eq_getElem hk, Option.getD_some] at hpq
  simp only [List.getElem?_toArray, List.getElem?_map, List.getElem?_eq_getElem hk, hpq, Option.map_some, Array.getElem?_eq_getElem hi, Option.getD_some]
theorem perm_none {j : Nat} (hj : ¬ j < ops.size) : q.getD j ops.size = ops.size := by
  obtain ⟨_, h2, _⟩ := isPerm_ok hP
  rw [List.getD_eq_getElem?_getD, List.getElem?_eq_none (by omega)]; rfl
theorem perm_waits {i : Nat} (hi : i < ops.size) : waits (permOps q p ops) (q.getD i ops.size) = (waits ops i).map fun j => q.getD j ops.size := by
  unfold waits
  rw [perm_get hP hi, Array.getElem?_eq_getElem hi]
  simp only [Option.map_some, remapO, Array.toList_map]
  rw [List.filter_map, List.map_map, List.map_map]
  have : (Region.binds Region.Mode.any ∘ fun e : Edge => { e with on := q.getD e.on ops.size }) = Region.binds Region.Mode.any := by
    funext e; rfl
  rw [this]
  rfl
theorem perm_yielded (tmps : Array Value) (j : Nat) : yielded (permOps q p ops) tmps (q.getD j ops.size) = yielded ops tmps j := by
  unfold yielded
  by_cases hj : j < ops.size
  · rw [perm_get hP hj, Array.getElem?_eq_getElem hj]
    rfl
  · rw [perm_none hP hj, Array.getElem?_eq_none (by rw [perm_size hP]; omega), Array.getElem?_eq_none (by omega)]
theorem perm_op {F : Fence} {m : Nat} {P : Program} {Q : Exit → Act → World → Prop} {i : Nat} (hi : i < ops.size) {K : Act → World → Prop} {a : Act} {w : World} (h : wpOpIn F m P (permOps q p ops) Q (q.getD i ops.size) K a w) : wpOpIn F m P ops Q i K a w := by
  unfold wpOpIn at h ⊢
  rw [perm_get hP hi, Array.getElem?_eq_getElem hi] at h
  rw [Array.getElem?_eq_getElem hi]
  simp only [Option.map_some] at h ⊢
  have hw : Region.wanted (remapO ops.size q ops[i]) (yielded (permOps q p ops) a.tmps) = Region.wanted ops[i] (yielded ops a.tmps) := by
    unfold Region.wanted remapO
    cases ops[i].guard with
    | none => rfl
    | some g => simp only [Option.map_some]; rw [perm_yielded hP]
  rw [hw] at h
  exact h
theorem perm_any {F : Fence} {m : Nat} {P : Program} {Q : Exit → Act → World → Prop} : ∀ (fuel : Nat) (L L' : Array Bool) (a : Act) (w : World), L.size = ops.size → L'.size = ops.size → (∀ i, i < ops.size → L'.getD (q.getD i ops.size) false = L.getD i false) →
    wpAnyIn F m P .any (permOps q p ops) Q fuel L' a w → wpAnyIn F m P .any ops Q fuel L a w := by
  obtain ⟨hp1, hq1, h3⟩ := isPerm_ok hP
  have rdy : ∀ (L L' : Array Bool), L.size = ops.size → L'.size = ops.size → (∀ i, i < ops.size → L'.getD (q.getD i ops.size) false = L.getD i false) → ∀ i, i < ops.size → (q.getD i ops.size ∈ Region.ready .any (permOps q p ops) L' ↔ i ∈ Region.ready .any ops L) := fun L L' hs hs' hL i hi => by
    rw [ready_mem, ready_mem, perm_size hP, perm_waits hP hi]
    have e1 : L'.getD (q.getD i ops.size) true = L.getD i true := by
      have := hL i hi
      have hqi := (h3 i hi).2.1
      simp only [Array.getD, hs, hs', hi, hqi, dite_true] at this ⊢
      exact this
    have e2 : ∀ j, L'.getD (q.getD j ops.size) false = L.getD j false := fun j => by
      by_cases hj : j < ops.size
      · exact hL j hj
      · rw [perm_none hP hj]
        simp [Array.getD, hs, hs', hj]
    rw [e1]
    constructor
    · rintro ⟨_, k2, k3⟩
      exact ⟨hi, k2, fun j hj => by rw [← e2]; exact k3 _ (List.mem_map.2 ⟨j, hj, rfl⟩)⟩
    · rintro ⟨_, k2, k3⟩
      refine ⟨(h3 i hi).2.1, k2, fun j hj => ?_⟩
      obtain ⟨j', hj', rfl⟩ := List.mem_map.1 hj
      rw [e2]; exact k3 j' hj'
  have nil : ∀ (L L' : Array Bool), L.size = ops.size → L'.size = ops.size → (∀ i, i < ops.size → L'.getD (q.getD i ops.size) false = L.getD i false) → (Region.ready .any (permOps q p ops) L' = [] ↔ Region.ready .any ops L = []) := fun L L' hs hs' hL => by
    constructor
    · intro h
      rw [List.eq_nil_iff_forall_not_mem] at h ⊢
      intro i hi
      have hin := (ready_mem.1 hi).1
      exact h _ ((rdy L L' hs hs' hL i hin).2 hi)
    · intro h
      rw [List.eq_nil_iff_forall_not_mem] at h ⊢
      intro k hk
      have hkn := (ready_mem.1 hk).1
      rw [perm_size hP] at hkn
      obtain ⟨hp, _, hqp, _⟩ := h3 k hkn
      rw [← hqp] at hk
      exact h _ ((rdy L L' hs hs' hL _ hp).1 hk)
  intro fuel
  induction fuel with
  | zero =>
    intro L L' a w hs hs' hL h
    exact ⟨(nil L L' hs hs' hL).1 h.1, h.2⟩
  | succ fuel ih =>
    intro L L' a w hs hs' hL h
    refine ⟨fun hr => h.1 ((nil L L' hs hs' hL).2 hr), fun i hi => ?_⟩
    have hin := (ready_mem.1 hi).1
    have := h.2 _ ((rdy L L' hs hs' hL i hin).2 hi)
    have h4 := perm_op hP hin this
    refine wpOpIn_mono (fun a w hk => ih _ _ a w (by simpa using hs) (by simpa using hs') (fun j hj => ?_) hk) h4
    have hqi := (h3 i hin).2.1
    have hqj := (h3 j hj).2.1
    have hL2 := hL j hj
    simp only [Array.getD, hs, hs', hj, hqj, dite_true, Array.size_setIfInBounds] at hL2 ⊢
    simp only [Array.getInternal_eq_getElem] at hL2 ⊢
    rw [Array.getElem_setIfInBounds, Array.getElem_setIfInBounds]
    by_cases hij : i = j
    · subst hij; simp
    · have : ¬ q.getD i ops.size = q.getD j ops.size := fun hc => hij (by rw [← (h3 i hin).2.2.2, ← (h3 j hj).2.2.2, hc])
      rw [if_neg hij, if_neg this]
      exact hL2
end
end Go.Av
/- That the walk tells the truth: regions, code, functions. No condition. -/
set_option linter.constructorNameAsVariable false
namespace Go.Av
open Go Go.RowKit
set_option linter.unusedSimpArgs false
set_option linter.unusedVariables false

theorem permReg_ok {P : Program} {N : Nat} {ops : Array Oper} {os : List AO} {c : ACode} (h : permReg P N ops os = some c) : ∃ q p os', isPerm ops.size q p = true ∧ (permOps q p ops).toList.mapM (resAO P N (permOps q p ops)) = some os' ∧ drawsOk (permOps q p ops) os' (heavies os') = true ∧ c = .reg (some (heavies os', lates (permOps q p ops) os' (heavies os'))) os' := by
  unfold permReg at h
  simp only at h
  split at h
  · rename_i hp
    rw [Option.bind_eq_some_iff] at h
    obtain ⟨os', h1, h2⟩ := h
    split at h2
    · rename_i hd
      cases h2
      exact ⟨_, _, os', hp, h1, hd, rfl⟩
    · cases h2
  · cases h
theorem alt_some {pf : Bool} {alt : Option ACode} {c : ACode} (h : (if pf = true then alt else none) = some c) : alt = some c := by
  split at h
  · exact h
  · cases h
theorem resC_region {pf : Bool} {P : Program} {N id : Nat} {ops : Array Oper} {draw : Bool} {c : ACode} (h : resCX pf P N (.region id ops draw) = some c) : (∃ d os, c = .reg d os) ∨ ∃ m ls os, c = .rgx m ls os := by
  simp only [resCX, Option.bind_eq_some_iff] at h
  obtain ⟨os, _, h⟩ := h
  unfold mkReg at h
  split at h
  · split at h
    · cases h; exact .inl ⟨_, _, rfl⟩
    · split at h
      · rename_i ha
        cases h
        obtain ⟨_, _, os', _, _, _, rfl⟩ := permReg_ok (alt_some ha)
        exact .inl ⟨_, _, rfl⟩
      · split at h
        · cases h; exact .inr ⟨_, _, _, rfl⟩
        · split at h
          · cases h; exact .inl ⟨_, _, rfl⟩
          · cases h
  · cases h; exact .inl ⟨_, _, rfl⟩

theorem evG_ok {N : Nat} {e0 : Env} (g0 : Good e0) {D : List Deferred} {σ σ' : AS} {q : Gh} {C : Prop} (h : evG σ q = some (C, σ')) (hC : C) {a : Act} {w : World} (hr : Rel e0 N D σ a w) : Rel e0 N D σ' a w := by
  obtain ⟨fr, hp⟩ := σ
  obtain ⟨e, rfl, hH, g, mv, hf, hN, hD⟩ := hr
  simp only at hH hf
  subst hH
  have put : ∀ (e' : Env), e'.w = e.w → Good e' → Mv e e' → ∀ (t : Nat) (x : RV), VR e' x (a.tmps.getD t undef) → Rel e0 N D ⟨(t, x) :: fr, e'.H⟩ a e.w := fun e' hw g' mv' t x hx => by
    refine ⟨e', hw, rfl, g', mv.trans mv' g0, fun t' => ?_, hN, hD.mv mv'⟩
    by_cases ht : t = t'
    · subst ht; rw [lk, if_pos rfl]; exact hx
    · rw [lk, if_neg ht]; exact mv'.vr (hf t')
  have same : ∀ (e' : Env), e'.w = e.w → Good e' → Mv e e' → Rel e0 N D ⟨fr, e'.H⟩ a e.w := fun e' hw g' mv' => ⟨e', hw, rfl, g', mv.trans mv' g0, fun t' => mv'.vr (hf t'), hN, hD.mv mv'⟩
  cases q with
  | nilT t sz =>
    simp only [evG] at h
    split at h
    · rename_i hnil
      cases h
      have hv := hf t
      rw [hnil] at hv
      have hp := push_ok g e.w (.arr 0 sz []) none rfl rfl ⟨rfl, Nat.le_refl _⟩ (Nat.le_refl _) (fun b _ => rfl) (fun l hl => by cases hl) (fun e' he mv => ⟨by simp, rfl⟩)
      refine put ⟨e.w, e.Im, e.ρ ++ [none], e.H ++ [.arr 0 sz []]⟩ rfl hp.1 hp.2 t (.os e.H.length 0) ?_
      generalize a.tmps.getD t undef = c at hv
      cases vr_v hv with
      | nil p => exact .os (.arr 0 sz []) none (by simp) (by simp [← g.len]) ⟨Nat.le_refl _, fun _ => ⟨rfl, p, rfl⟩⟩ rfl
    · cases h
  | nilC t j sz =>
    simp only [evG] at h
    split at h
    · rename_i o ver r off hpt
      have hv := hf t
      rw [hpt] at hv
      split at h
      · rename_i cs hcs
        split at h
        · rename_i hnil
          cases h
          obtain ⟨p1, _⟩ := hv.ptr g
          obtain ⟨_, l, hl, _⟩ := p1 _ hcs
          have hp := push_ok g e.w (.arr 0 sz []) none rfl rfl ⟨rfl, Nat.le_refl _⟩ (Nat.le_refl _) (fun b _ => rfl) (fun l hl => by cases hl) (fun e' he mv => ⟨by simp, rfl⟩)
          have hlt : o < e.H.length := (List.getElem?_eq_some_iff.1 hcs).1
          have hltr : o < e.ρ.length := (List.getElem?_eq_some_iff.1 hl).1
          have ho2 : (e.H ++ [.arr 0 sz []])[o]? = some (.var cs) := by rw [List.getElem?_append_left hlt]; exact hcs
          have hl2 : (e.ρ ++ [none])[o]? = some (some l) := by rw [List.getElem?_append_left hltr]; exact hl
          have hr := retell (cs' := cs.set (off + j) (.os e.H.length 0)) hp.1 ho2 hl2 (fun k x' hx' => by
            rcases set_get hx' with ⟨rfl, rfl⟩ | ⟨hk, hx'⟩
            · refine .inr ⟨(List.getElem?_eq_some_iff.1 hnil).1, fun c hc => ?_⟩
              obtain ⟨l', hl', hcell⟩ := g.obj o _ _ hcs hl
              cases hl'
              obtain ⟨c0, k1, _, _, k2⟩ := hcell _ _ hnil
              have : e.w.cell? ⟨l.blk, l.off + (off + j), none⟩ = some c := hc
              rw [k1] at this
              cases this
              cases vr_v k2 with
              | nil p => exact .os (.arr 0 sz []) none (by simp) (by simp [← g.len]) ⟨Nat.le_refl _, fun _ => ⟨rfl, p, rfl⟩⟩ rfl
            · exact .inl hx')
          have := same ⟨e.w, e.Im, e.ρ ++ [none], (e.H ++ [AObj.arr 0 sz []]).set o (AObj.var (cs.set (off + j) (.os e.H.length 0)))⟩ rfl hr.1 (hp.2.trans hr.2 g)
          simpa [List.set_append_left _ _ hlt] using this
        · cases h
      · cases h
    · cases h
  | nilL t sz =>
    simp only [evG] at h
    split at h
    · rename_i o ver hos
      have hv := hf t
      rw [hos] at hv
      split at h
      · rename_i v sz' rows ho
        split at h
        · rename_i hlast
          cases h
          obtain ⟨ys, rfl⟩ := lastNil_of hlast
          obtain ⟨lo, hlo⟩ : ∃ lo, e.ρ[o]? = some lo := ⟨_, List.getElem?_eq_getElem (by rw [g.len]; exact (List.getElem?_eq_some_iff.1 ho).1)⟩
          have hob := g.obj o _ _ ho hlo
          cases lo with
          | none => obtain ⟨_, h⟩ := hob; simp at h
          | some l =>
            have hp := push_ok g e.w (.arr 0 sz []) none rfl rfl ⟨rfl, Nat.le_refl _⟩ (Nat.le_refl _) (fun b _ => rfl) (fun l hl => by cases hl) (fun e' he mv => ⟨by simp, rfl⟩)
            have hlt : o < e.H.length := (List.getElem?_eq_some_iff.1 ho).1
            have hltr : o < e.ρ.length := (List.getElem?_eq_some_iff.1 hlo).1
            have ho2 : (e.H ++ [.arr 0 sz []])[o]? = some (.arr v sz' (ys ++ [[.v .nil]])) := by rw [List.getElem?_append_left hlt]; exact ho
            have hl2 : (e.ρ ++ [none])[o]? = some (some l) := by rw [List.getElem?_append_left hltr]; exact hlo
            have hr := relist (rows' := ys ++ [[.os e.H.length 0]]) hp.1 ho2 hl2 (by simp) (fun row hm => by
              rcases List.mem_append.1 hm with hm | hm
              · exact hob.1 row (List.mem_append_left _ hm)
              · have := hob.1 [.v .nil] (by simp)
                simp at hm this
                subst hm; simpa using this) (fun r row' j x' hr hx => by
              rw [List.getElem?_append] at hr
              split at hr
              · rename_i hrl
                exact ⟨row', x', by rw [List.getElem?_append_left hrl]; exact hr, hx, fun c hc => hc⟩
              · rename_i hrl
                have hr0 : r - ys.length = 0 := by
                  have := (List.getElem?_eq_some_iff.1 hr).1
                  simp at this; omega
                rw [hr0] at hr
                simp at hr
                subst hr
                cases j with
                | succ j => simp at hx
                | zero =>
                  simp at hx; subst hx
                  refine ⟨[.v .nil], .v .nil, by rw [List.getElem?_append_right (by omega), hr0]; rfl, rfl, fun c hc => ?_⟩
                  cases vr_v hc with
                  | nil p => exact .os (.arr 0 sz []) none (by simp) (by simp [← g.len]) ⟨Nat.le_refl _, fun _ => ⟨rfl, p, rfl⟩⟩ rfl)
            have := same ⟨e.w, e.Im, e.ρ ++ [none], (e.H ++ [AObj.arr 0 sz []]).set o (AObj.arr v sz' (ys ++ [[.os e.H.length 0]]))⟩ rfl hr.1 (hp.2.trans hr.2 g)
            simpa [List.set_append_left _ _ hlt] using this
        · cases h
          exact same e rfl g .refl
      · cases h
    · cases h
  | frzT t =>
    simp only [evG] at h
    split at h
    · rename_i o ver hos
      have hv := hf t
      rw [hos] at hv
      split at h
      · rename_i v sz rows ho
        split at h
        · rename_i l hl
          cases h
          subst hC
          rw [rows_plain hl] at ho
          obtain ⟨e', hw', hH', g', mv', hv'⟩ := freeze_one g ho hv
          have := put e' hw' g' mv' t _ (.v hv')
          rw [hH'] at this
          exact this
        · cases h
      · cases h
    · cases h
  | letT t sz =>
    simp only [evG] at h
    split at h
    · rename_i hnil
      cases h
      have hv := hf t
      rw [hnil] at hv
      refine put e rfl g .refl t (.v (.sl sz [])) (.v ?_)
      generalize a.tmps.getD t undef = c at hv
      cases vr_v hv with
      | nil p => exact .sle _ _ _
    · rename_i o ver hos
      have hv := hf t
      rw [hos] at hv
      split at h
      · rename_i v sz rows ho
        split at h
        · rename_i l hl
          cases h
          subst hC
          rw [rows_plain hl] at ho
          obtain ⟨e', hw', hH', g', mv', hv'⟩ := freeze_one g ho hv
          have := put e' hw' g' mv' t _ (.v hv')
          rw [hH'] at this
          exact this
        · cases h
      · cases h
    · rename_i o ver lo n hos
      have hv := hf t
      rw [hos] at hv
      split at h
      · rename_i v sz rows ho
        split at h
        · rename_i l hl
          cases h
          subst hC
          rw [rows_plain hl] at ho
          obtain ⟨e', hw', hH', g', mv', hv'⟩ := freeze_sub g ho hv
          have := put e' hw' g' mv' t _ (.v hv')
          rw [hH'] at this
          exact this
        · cases h
      · cases h
    · cases h
      exact ⟨e, rfl, rfl, g, mv, hf, hN, hD⟩
  | cutT t =>
    simp only [evG] at h
    split at h
    · rename_i o ver n hos
      have hv := hf t
      rw [hos] at hv
      split at h
      · rename_i v sz rows ho
        cases h
        obtain ⟨rfl, h0⟩ := hC
        obtain ⟨e', hw', hH', g', mv', hv'⟩ := cut_arr g ho hv h0
        have := put e' hw' g' mv' t _ hv'
        rw [hH'] at this
        exact this
      · cases h
    · cases h
    · cases h
      exact ⟨e, rfl, rfl, g, mv, hf, hN, hD⟩
  | frzD t a' =>
    simp only [evG, Option.some.injEq, Prod.mk.injEq] at h
    obtain ⟨rfl, rfl⟩ := h
    have gA := freeze_all g
    have hva := frz_ok g hC (hf t)
    obtain ⟨e', he'⟩ : ∃ e' : Env, e' = ⟨e.w, fun b => e.Im b ∨ e.own b, e.ρ.map fun _ => none, e.H.map fun _ => .none⟩ := ⟨_, rfl⟩
    have nown : ∀ b, ¬ e'.own b := fun b ⟨o, l, ho, _⟩ => by
      rw [he'] at ho
      simp at ho
    have mv' : Mv e e' := by
      refine ⟨by rw [he'], by rw [he'], by rw [he']; exact ⟨rfl, Nat.le_refl _⟩, by rw [he']; exact Nat.le_refl _, fun b _ _ => by rw [he'], fun b hb => by rw [he']; exact .inl hb, fun b _ => by rw [he'], fun b hb => by rw [he'] at hb; exact hb.elim .inl fun h => .inr (.inl h), fun o x lo h1 h2 => ?_, fun b hb => absurd hb (nown b)⟩
      exact ⟨.none, none, by rw [he']; simp [h1], by rw [he']; simp [h2], trivial⟩
    have g' : Good e' := by
      refine ⟨by rw [he']; simp [g.len], fun o o' l l' h => absurd ⟨o, l, h, rfl⟩ (nown l.blk), fun o l h => absurd ⟨o, l, h, rfl⟩ (nown l.blk), fun o l h => absurd ⟨o, l, h, rfl⟩ (nown l.blk), fun b hb => by rw [he'] at hb ⊢; exact gA.imlt b hb, fun o ob lo h1 h2 => ?_⟩
      rw [he'] at h1
      simp at h1
      obtain ⟨_, rfl⟩ := h1
      trivial
    refine ⟨e', by rw [he'], by rw [he'], g', mv.trans mv' g0, fun t' => ?_, hN, hD.mv mv'⟩
    by_cases ht : t = t'
    · subst ht
      rw [lk, if_pos rfl]
      exact .v (by rw [he']; exact hva)
    · rw [lk, if_neg ht]; exact .any
  | pimT t =>
    simp only [evG] at h
    split at h
    · rename_i o ver r off hpt
      have hv := hf t
      rw [hpt] at hv
      split at h
      · rename_i cs ho
        split at h
        · rename_i l hl
          cases h
          obtain ⟨hoff, hlne⟩ := hC
          rw [plainr_ok hl] at ho
          obtain ⟨e', hw', hH', g', mv', hv'⟩ := freeze_ptr g ho hv hoff hlne
          have := put e' hw' g' mv' t (.v (.pim l)) (.v hv')
          simpa [hH'] using this
        · cases h
      · cases h
    · cases h
  | frzP t j =>
    simp only [evG] at h
    split at h
    · rename_i o ver r off hpt
      have hv := hf t
      rw [hpt] at hv
      split at h
      · rename_i cs hcs
        split at h
        · rename_i o' ver' r' off' hos
          split at h
          · rename_i cs' ho
            split at h
            · rename_i l hl
              cases h
              obtain ⟨hoff, hlne, hne⟩ := hC
              rw [plainr_ok hl] at ho
              obtain ⟨p1, _⟩ := hv.ptr g
              obtain ⟨_, lo, hlo, _⟩ := p1 _ hcs
              obtain ⟨l', hl', hcell⟩ := g.obj o _ _ hcs hlo
              cases hl'
              obtain ⟨c0, k1, _, _, hv0⟩ := hcell _ _ hos
              obtain ⟨e', hw', hH', g', mv', hv'⟩ := freeze_ptr g ho hv0 hoff hlne
              obtain ⟨ob2, lo2, n1, n2, n3⟩ := mv'.nx o _ _ hcs hlo
              have ho2 : e'.H[o]? = some (.var cs) := by rw [hH', List.getElem?_set_ne hne]; exact hcs
              rw [ho2] at n1
              cases n1
              obtain ⟨rfl, _⟩ := n3
              have hr := retell (cs' := cs.set (off + j) (.v (.pim l))) g' ho2 n2 (fun k x' hx' => by
                rcases set_get hx' with ⟨rfl, rfl⟩ | ⟨hk, hx'⟩
                · refine .inr ⟨(List.getElem?_eq_some_iff.1 hos).1, fun c hc => ?_⟩
                  rw [hw', k1] at hc
                  cases hc
                  exact .v hv'
                · exact .inl hx')
              have := same ⟨e'.w, e'.Im, e'.ρ, e'.H.set o (.var (cs.set (off + j) (.v (.pim l))))⟩ hw' hr.1 (mv'.trans hr.2 g)
              simpa [hH'] using this
            · cases h
          · cases h
        · cases h
      · cases h
    · cases h
  | frzC t j =>
    simp only [evG] at h
    split at h
    · rename_i o ver r off hpt
      have hv := hf t
      rw [hpt] at hv
      split at h
      · rename_i cs hcs
        split at h
        · rename_i o' ver' hos
          split at h
          · rename_i v sz rows ho
            split at h
            · rename_i l hl
              cases h
              subst hC
              rw [rows_plain hl] at ho
              obtain ⟨p1, _⟩ := hv.ptr g
              obtain ⟨_, lo, hlo, _⟩ := p1 _ hcs
              obtain ⟨l', hl', hcell⟩ := g.obj o _ _ hcs hlo
              cases hl'
              obtain ⟨c0, k1, _, _, hv0⟩ := hcell _ _ hos
              have hne : o' ≠ o := fun hc => by subst hc; rw [hcs] at ho; cases ho
              obtain ⟨e', hw', hH', g', mv', hv'⟩ := freeze_one g ho hv0
              obtain ⟨ob2, lo2, n1, n2, n3⟩ := mv'.nx o _ _ hcs hlo
              have ho2 : e'.H[o]? = some (.var cs) := by rw [hH', List.getElem?_set_ne hne]; exact hcs
              rw [ho2] at n1
              cases n1
              obtain ⟨rfl, _⟩ := n3
              have hr := retell (cs' := cs.set (off + j) (.v (.sl sz l))) g' ho2 n2 (fun k x' hx' => by
                rcases set_get hx' with ⟨rfl, rfl⟩ | ⟨hk, hx'⟩
                · refine .inr ⟨(List.getElem?_eq_some_iff.1 hos).1, fun c hc => ?_⟩
                  rw [hw', k1] at hc
                  cases hc
                  exact .v hv'
                · exact .inl hx')
              have := same ⟨e'.w, e'.Im, e'.ρ, e'.H.set o (.var (cs.set (off + j) (.v (.sl sz l))))⟩ hw' hr.1 (mv'.trans hr.2 g)
              simpa [hH'] using this
            · cases h
          · cases h
        · cases h
      · cases h
    · cases h

theorem anyways_le (os : List AO) : anyways os ≤ os.length := (List.takeWhile_prefix _).length_le

theorem wpA_ok {pf : Bool} {P : Program} {rd : Option Nat} {N : Nat} {e0 : Env} (hmx : P.follows .mixedOrders = true) (g0 : Good e0) (t0 : Tabs P e0) {D : List Deferred} : ∀ (c : ACode) (cd : Code), resCX pf P N cd = some (strip c) → ∀ (Q : AE → AS → Prop) σ, wpA P rd c Q σ → ∀ a w, Rel e0 N D σ a w → cd.wpIn (FW rd) 0 P (QQ Q e0 N D) a w := by
  intro c
  induction c with
  | skip =>
    intro cd hc Q σ h a w hr
    cases cd <;> try first | (simp [resCX, strip, Option.bind_eq_some_iff] at hc; done) | (exfalso; rcases resC_region hc with ⟨d, os, he⟩ | ⟨m, ls, os, he⟩ <;> simp [strip] at he; done)
    exact wpIn_skip ⟨σ, h, hr⟩
  | reg b os =>
    intro cd hc Q σ h a w hr
    cases cd <;> try (simp [resCX, strip, Option.bind_eq_some_iff] at hc; done)
    rename_i id ops draw
    simp only [resCX, Option.bind_eq_some_iff] at hc
    obtain ⟨os', hos, hc⟩ := hc
    cases draw with
    | true =>
      have all0 : ∀ m, m ≤ os'.length → drawsOk ops os' m = true → wpA P rd (.reg (some (m, lates ops os' m)) os') Q σ → (Code.region id ops true).wpIn (FW rd) 0 P (QQ Q e0 N D) a w := by
        intro m hml hd h
        have hev : evRE P (lates ops os' m) 0 [] m os' σ (Q .normal) := by
          generalize lates ops os' m = l at h
          cases l with
          | nil => simp only [wpA] at h; exact evRE_of h
          | cons j ls => simp only [wpA] at h; exact h
        refine wpIn_region_any hmx ?_
        refine evRD_ok (K := Q .normal) g0 t0 hos hml hd (fun σ a w h1 h2 => ⟨σ, h1, h2⟩) hev ?_
        obtain ⟨e, rfl, hH, g, mv, hf, hN, hD⟩ := hr
        have mvd : Mv e ⟨{ e.w with drawn := e.w.drawn + 1 }, e.Im, e.ρ, e.H⟩ := ⟨rfl, rfl, ⟨rfl, Nat.le_succ _⟩, Nat.le_refl _, fun _ _ _ => rfl, fun _ h => h, fun _ _ => rfl, fun _ h => .inl h, .refl _ _, fun _ h => .inl h⟩
        exact ⟨⟨{ e.w with drawn := e.w.drawn + 1 }, e.Im, e.ρ, e.H⟩, rfl, hH, ⟨g.len, g.inj, g.dis, g.lt, g.imlt, fun o ob lo h1 h2 => (g.obj o ob lo h1 h2).keep (fun l _ => rfl) mvd⟩, mv.trans mvd g0, fun t => mvd.vr (hf t), hN, hD.mv mvd⟩
      have all : ∀ (q p : List Nat) (os' : List AO), isPerm ops.size q p = true → (permOps q p ops).toList.mapM (resAO P N (permOps q p ops)) = some os' → ∀ m, m ≤ os'.length → drawsOk (permOps q p ops) os' m = true → wpA P rd (.reg (some (m, lates (permOps q p ops) os' m)) os') Q σ → (Code.region id ops true).wpIn (FW rd) 0 P (QQ Q e0 N D) a w := by
        intro q p os' hP hos m hml hd h
        have hev : evRE P (lates (permOps q p ops) os' m) 0 [] m os' σ (Q .normal) := by
          generalize lates (permOps q p ops) os' m = l at h
          cases l with
          | nil => simp only [wpA] at h; exact evRE_of h
          | cons j ls => simp only [wpA] at h; exact h
        refine wpIn_region_any hmx ?_
        refine perm_any hP ops.size _ (Array.replicate ops.size false) _ _ (by simp) (by simp) (fun i hi => by simp [Array.getD, hi]) ?_
        have hsz := perm_size hP
        rw [← hsz]
        refine evRD_ok (K := Q .normal) g0 t0 hos hml hd (fun σ a w h1 h2 => ⟨σ, h1, h2⟩) hev ?_
        obtain ⟨e, rfl, hH, g, mv, hf, hN, hD⟩ := hr
        have mvd : Mv e ⟨{ e.w with drawn := e.w.drawn + 1 }, e.Im, e.ρ, e.H⟩ := ⟨rfl, rfl, ⟨rfl, Nat.le_succ _⟩, Nat.le_refl _, fun _ _ _ => rfl, fun _ h => h, fun _ _ => rfl, fun _ h => .inl h, .refl _ _, fun _ h => .inl h⟩
        exact ⟨⟨{ e.w with drawn := e.w.drawn + 1 }, e.Im, e.ρ, e.H⟩, rfl, hH, ⟨g.len, g.inj, g.dis, g.lt, g.imlt, fun o ob lo h1 h2 => (g.obj o ob lo h1 h2).keep (fun l _ => rfl) mvd⟩, mv.trans mvd g0, fun t => mvd.vr (hf t), hN, hD.mv mvd⟩
      simp only [mkReg, if_true] at hc
      split at hc
      · rename_i hd
        simp only [strip] at hc
        cases hc
        exact all0 _ (heavies_le _) hd h
      · split at hc
        · rename_i c0 ha
          obtain ⟨q, p, os2, hP, hos2, hd2, rfl⟩ := permReg_ok (alt_some ha)
          simp only [strip] at hc
          cases hc
          exact all q p _ hP hos2 _ (heavies_le _) hd2 h
        split at hc
        · simp [strip] at hc
        split at hc
        · rename_i hd
          simp only [strip] at hc
          cases hc
          exact all0 _ (quiets_le _) hd h
        · cases hc
    | false =>
      simp only [mkReg, Bool.false_eq_true, if_false, strip] at hc
      cases hc
      refine wpIn_region ?_
      have hm := matched_of (P := P) (N := N) (ops := ops) ops.toList os 0 hos (fun j o ho => by simpa using ho)
      have : List.range ops.size = List.range' 0 ops.toList.length := by rw [List.range_eq_range']; simp
      rw [this]
      exact evR_ok g0 t0 _ _ (Q .normal) (fun σ a w h1 h2 => ⟨σ, h1, h2⟩) hm σ a w h hr
  | rgx m ls os =>
    intro cd hc Q σ h a w hr
    cases cd <;> try (simp [resCX, strip, Option.bind_eq_some_iff] at hc; done)
    rename_i id ops draw
    simp only [resCX, Option.bind_eq_some_iff] at hc
    obtain ⟨os', hos, hc⟩ := hc
    cases draw with
    | false => simp [mkReg, strip] at hc
    | true =>
      simp only [mkReg, if_true] at hc
      split at hc
      · simp [strip] at hc
      split at hc
      · rename_i c0 ha
        obtain ⟨q, p, os2, hP, hos2, hd2, rfl⟩ := permReg_ok (alt_some ha)
        simp [strip] at hc
      split at hc
      rotate_left
      · split at hc
        · simp [strip] at hc
        · cases hc
      rename_i hd
      rw [Bool.and_eq_true] at hd
      simp only [strip] at hc
      cases hc
      obtain ⟨hfl, hlh, hev⟩ := h
      refine wpIn_region_any hmx ?_
      obtain ⟨fr, H⟩ := σ
      refine evRX_ok (K := Q .normal) g0 t0 hos (anyX_le _ _) hd.2 (fun σ a w h1 h2 => ⟨σ, h1, h2⟩) hfl hlh hev ?_
      obtain ⟨e, rfl, hH, g, mv, hf, hN, hD⟩ := hr
      have mvd : Mv e ⟨{ e.w with drawn := e.w.drawn + 1 }, e.Im, e.ρ, e.H⟩ := ⟨rfl, rfl, ⟨rfl, Nat.le_succ _⟩, Nat.le_refl _, fun _ _ _ => rfl, fun _ h => h, fun _ _ => rfl, fun _ h => .inl h, .refl _ _, fun _ h => .inl h⟩
      exact ⟨⟨{ e.w with drawn := e.w.drawn + 1 }, e.Im, e.ρ, e.H⟩, rfl, hH, ⟨g.len, g.inj, g.dis, g.lt, g.imlt, fun o ob lo h1 h2 => (g.obj o ob lo h1 h2).keep (fun l _ => rfl) mvd⟩, mv.trans mvd g0, fun t => mvd.vr (hf t), hN, hD.mv mvd⟩
  | seq x y ihx ihy =>
    intro cd hc Q σ h a w hr
    cases cd <;> try first | (simp [resCX, strip, Option.bind_eq_some_iff] at hc; done) | (exfalso; rcases resC_region hc with ⟨d, os, he⟩ | ⟨m, ls, os, he⟩ <;> simp [strip] at he; done)
    rename_i cx cy
    simp only [resCX, strip, Option.bind_eq_some_iff, Option.map_eq_some_iff] at hc
    obtain ⟨x', hx, y', hy, he⟩ := hc
    cases he
    refine wpIn_seq (wpIn_mono (ihx cx hx _ σ h a w hr) ?_)
    intro e a' w' hq
    cases e with
    | normal => obtain ⟨σ', h1, h2⟩ := hq; exact ihy cy hy Q σ' h1 a' w' h2
    | exit id => exact hq
    | ret => exact hq
    | goto l => exact hq.elim
    | panic c => exact hq.elim
    | outgrown => exact hq.elim
  | cond x y z ihy ihz =>
    intro cd hc Q σ h a w hr
    cases cd <;> try first | (simp [resCX, strip, Option.bind_eq_some_iff] at hc; done) | (exfalso; rcases resC_region hc with ⟨d, os, he⟩ | ⟨m, ls, os, he⟩ <;> simp [strip] at he; done)
    rename_i ox cy cz
    simp only [resCX, strip, Option.bind_eq_some_iff, Option.map_eq_some_iff] at hc
    obtain ⟨x', hx, y', hy, z', hz, he⟩ := hc
    cases he
    simp only [wpA] at h
    split at h
    · rename_i t ht
      obtain ⟨e, he, hH, g, mv, hf, hN, hD⟩ := hr
      have hv := reads_ax (t0.mv mv) hf ox _ hx
      rw [ht] at hv
      refine wpIn_cond hv.bool ?_
      cases t with
      | true => exact ihy cy hy Q σ (h.1 rfl) a w ⟨e, he, hH, g, mv, hf, hN, hD⟩
      | false => exact ihz cz hz Q σ (h.2 rfl) a w ⟨e, he, hH, g, mv, hf, hN, hD⟩
    · rename_i ht
      obtain ⟨e, he, hH, g, mv, hf, hN, hD⟩ := hr
      have hv := reads_ax (t0.mv mv) hf ox _ hx
      rw [ht] at hv
      obtain ⟨t, hbt⟩ := hv.bo'
      refine wpIn_cond hbt ?_
      cases t with
      | true => exact ihy cy hy Q σ h.1 a w ⟨e, he, hH, g, mv, hf, hN, hD⟩
      | false => exact ihz cz hz Q σ h.2 a w ⟨e, he, hH, g, mv, hf, hN, hD⟩
    · exact h.elim
  | blk id c ih =>
    intro cd hc Q σ h a w hr
    cases cd <;> try first | (simp [resCX, strip, Option.bind_eq_some_iff] at hc; done) | (exfalso; rcases resC_region hc with ⟨d, os, he⟩ | ⟨m, ls, os, he⟩ <;> simp [strip] at he; done)
    rename_i id' cc
    simp only [resCX, strip, Option.map_eq_some_iff] at hc
    obtain ⟨c', hc', he⟩ := hc
    cases he
    refine wpIn_block (wpIn_mono (ih cc hc' _ σ h a w hr) ?_)
    intro e a' w' hq
    cases e with
    | normal => exact hq
    | exit k =>
      obtain ⟨σ', h1, h2⟩ := hq
      simp only [Exit.inBlock]
      by_cases hk : k = id
      · rw [if_pos hk]; simp only [hk, if_true] at h1; exact ⟨σ', h1, h2⟩
      · rw [if_neg hk]; simp only [hk, if_false] at h1; exact ⟨σ', h1, h2⟩
    | ret => exact hq
    | goto l => exact hq.elim
    | panic c => exact hq.elim
    | outgrown => exact hq.elim
  | loop c ih =>
    intro cd hc Q σ h a w hr
    cases cd <;> try first | (simp [resCX, strip, Option.bind_eq_some_iff] at hc; done) | (exfalso; rcases resC_region hc with ⟨d, os, he⟩ | ⟨m, ls, os, he⟩ <;> simp [strip] at he; done)
    simp only [resCX, strip, Option.map_eq_some_iff] at hc
    obtain ⟨c', hc', he⟩ := hc
    cases he
    exact h pf N _ hc' e0 g0 t0 D a w hr
  | rf f ps x y ihx ihy =>
    intro cd hc Q σ h a w hr
    cases cd <;> try first | (simp [resCX, strip, Option.bind_eq_some_iff] at hc; done) | (exfalso; rcases resC_region hc with ⟨d, os, he⟩ | ⟨m, ls, os, he⟩ <;> simp [strip] at he; done)
    rename_i fo pa cx cy
    simp only [resCX, strip] at hc
    split at hc
    · rename_i hp
      simp only [Option.bind_eq_some_iff, Option.map_eq_some_iff] at hc
      obtain ⟨f', hf', x', hx, y', hy, he⟩ := hc
      cases he
      exact h pf N fo pa cx cy hf' rfl (fun p hp' => by simpa using List.all_eq_true.1 hp p hp') hx hy e0 g0 t0 D a w hr
    · cases hc
  | exit id =>
    intro cd hc Q σ h a w hr
    cases cd <;> try first | (simp [resCX, strip, Option.bind_eq_some_iff] at hc; done) | (exfalso; rcases resC_region hc with ⟨d, os, he⟩ | ⟨m, ls, os, he⟩ <;> simp [strip] at he; done)
    simp [resCX, strip] at hc
    subst hc
    exact wpIn_exit ⟨σ, h, hr⟩
  | ret =>
    intro cd hc Q σ h a w hr
    cases cd <;> try first | (simp [resCX, strip, Option.bind_eq_some_iff] at hc; done) | (exfalso; rcases resC_region hc with ⟨d, os, he⟩ | ⟨m, ls, os, he⟩ <;> simp [strip] at he; done)
    exact wpIn_ret ⟨σ, h, hr⟩
  | keep l c ih =>
    intro cd hc Q σ h a w hr
    refine ih cd hc Q _ h a w ?_
    obtain ⟨e, he, hH, g, mv, hf, hN, hD⟩ := hr
    exact ⟨e, he, hH, g, mv, fun t => lk_keep (hf t), hN, hD⟩
  | gst q c ih =>
    intro cd hc Q σ h a w hr
    simp only [wpA] at h
    split at h
    · rename_i C σ' hev
      obtain ⟨hC, h⟩ := h
      exact ih cd hc Q _ h a w (evG_ok g0 hev hC hr)
    · exact h.elim
  | fin l c ih =>
    intro cd hc Q σ h a w hr
    refine wpIn_mono (ih cd hc _ σ h a w hr) ?_
    intro e a' w' hq
    cases e with
    | normal =>
      obtain ⟨σ', h1, e, he, hH, g, mv, hf, hN, hD⟩ := hq
      exact ⟨_, h1, e, he, hH, g, mv, fun t => lk_keep (hf t), hN, hD⟩
    | exit id => exact hq
    | ret => exact hq
    | goto l => exact hq.elim
    | panic c => exact hq.elim
    | outgrown => exact hq.elim

theorem loop_ok {P : Program} (hmx : P.follows .mixedOrders = true) {rd : Option Nat} {c : ACode} {Q : AE → AS → Prop} {σ : AS} {α : Type} (I : α → AS → Prop) (μ : α → Nat) (x0 : α) (h0 : I x0 σ)
    (round : ∀ x σ, I x σ → wpA P rd c (fun e σ' => match e with | .normal => ∃ x', I x' σ' ∧ μ x' < μ x | .exit id => Q (.exit id) σ' | .ret => Q .ret σ') σ) : LoopK P rd c Q σ := by
  intro pf N cd hc e0 g0 t0 D a w hr
  refine wpIn_loop (fun a w => ∃ n x σ, μ x = n ∧ I x σ ∧ Rel e0 N D σ a w) (fun a w => Go.leastOf fun n => ∃ x σ, μ x = n ∧ I x σ ∧ Rel e0 N D σ a w) ⟨_, x0, σ, rfl, h0, hr⟩ ?_
  intro a w hI
  obtain ⟨⟨x, σ, hx, hi, hr⟩, _⟩ := Go.leastOf_spec hI
  refine wpIn_mono (wpA_ok hmx g0 t0 c cd hc _ σ (round x σ hi) a w hr) ?_
  intro e a' w' hq
  cases e with
  | normal =>
    obtain ⟨σ', ⟨x', hi', hlt⟩, hr'⟩ := hq
    refine ⟨⟨_, x', σ', rfl, hi', hr'⟩, ?_⟩
    have h2 := (Go.leastOf_spec (p := fun n => ∃ x σ, μ x = n ∧ I x σ ∧ Rel e0 N D σ a' w') ⟨_, x', σ', rfl, hi', hr'⟩).2 _ ⟨x', σ', rfl, hi', hr'⟩
    omega
  | exit id => exact hq
  | ret => exact hq
  | goto l => exact hq.elim
  | panic c => exact hq.elim
  | outgrown => exact hq.elim

end Go.Av
