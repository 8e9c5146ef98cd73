/- That the walk tells the truth: regions, code, functions. No condition. -/
import Derived.Test.YtdjcfjfgdblefaaAv7
import Derived.Deep.LoopGhost
set_option linter.constructorNameAsVariable false
namespace Go.Av
open Go Go.RowKit
set_option linter.unusedSimpArgs false
set_option linter.unusedVariables false

def Matched (P : Program) (N : Nat) (ops : Array Oper) : List Nat → List AO → Prop
  | [], [] => True
  | i :: is, q :: qs => (∃ o, ops[i]? = some o ∧ resAO P N ops o = some q) ∧ Matched P N ops is qs
  | _, _ => False

theorem callsIn_round {P : Program} {rd : Option Nat} {f : Nat} {vs : Array Value} {w : World} {R : Ending → World → Prop} (h : CallsIn (FW none) 0 P f vs w R) : CallsIn (FW rd) 0 P f vs w R := h

/-- The pieces of a call: the function, what is handed to it. -/
theorem call_run {P : Program} {e : Env} {a : Act} {A : AX → RV} {c : Call} {fo : Operand} {args : List AX} {o : Oper} {fid : Nat} {caps : List RV} {rf : RV} (ho : o.op = .call c) (hcal : c.callee = .value fo) (hargs : c.args.toList.mapM resX = some args)
    (hf : VR e rf (a.eval fo)) (hA : ∀ x y, resX x = some y → x ∈ c.args.toList → VR e (A y) (a.eval x)) (hfn : fnv rf = some (fid, caps)) (hcall : ∀ vs w, (callFunc fid vs).run P w = .ok (.enter fid vs) w) :
    ∃ vs : Array Value, (execOp a.eval o).run P e.w = .ok (.enter fid vs) e.w ∧ vs.size = (args.map A ++ caps).length ∧ ∀ (j : Nat) x y, (args.map A ++ caps)[j]? = some x → vs[j]? = some y → VR e x y := by
  obtain ⟨h1, h2⟩ := mapM_get hargs
  have hval : ∃ cv : Array Value, a.eval fo = .func (.func fid) #[] cv ∧ cv.size = caps.length ∧ ∀ (j : Nat) x y, caps[j]? = some x → cv[j]? = some y → VR e x y := by
    unfold fnv at hfn
    split at hfn
    · rename_i f' cs
      cases hfn
      have hvi := vr_v hf
      generalize a.eval fo = val at hvi
      cases hvi with
      | fn _ _ vs hn h =>
        refine ⟨vs, rfl, by simpa using hn, fun j x y hx hy => ?_⟩
        rw [List.getElem?_map, Option.map_eq_some_iff] at hx
        obtain ⟨x', hx', rfl⟩ := hx
        exact .v (h j x' y hx' hy)
    · rename_i f' cs
      cases hfn
      generalize a.eval fo = val at hf
      cases hf with
      | fr hn h => exact ⟨_, rfl, hn, h⟩
    · cases hfn
  obtain ⟨cv, hcv, hcn, hcr⟩ := hval
  refine ⟨c.args.map a.eval ++ cv, ?_, ?_, ?_⟩
  · simp [execOp, ho, resolve, hcal, hcv, Deferred.ofValue, invoke, hcall]
  · simp [h1, hcn]
  · intro j x y hx hy
    have hlen : (args.map A).length = (c.args.map a.eval).size := by simp [h1]
    by_cases hj : j < (args.map A).length
    · rw [List.getElem?_append_left hj, List.getElem?_map, Option.map_eq_some_iff] at hx
      obtain ⟨x', hx', rfl⟩ := hx
      rw [Array.getElem?_append_left (by omega), Array.getElem?_map, Option.map_eq_some_iff] at hy
      obtain ⟨y', hy', rfl⟩ := hy
      have hy'' : c.args.toList[j]? = some y' := by simpa using hy'
      exact hA y' x' (h2 j y' x' hy'' hx') (List.mem_of_getElem? hy'')
    · rw [List.getElem?_append_right (by omega)] at hx
      rw [Array.getElem?_append_right (by omega)] at hy
      rw [hlen] at hx
      exact hcr _ x y hx hy

theorem uponIn_call {P : Program} {rd : Option Nat} {o : Oper} {a : Act} {w : World} {fid : Nat} {vs : Array Value} {next : Act → World → Prop} {Q : Exit → Act → World → Prop} (hd : ∀ c, o.op ≠ .defer c) (h : (execOp a.eval o).run P w = .ok (.enter fid vs) w)
    {R : Value → World → Prop} (hc : CallsIn (FW none) 0 P fid vs w fun E w' => ∃ c, E = .returned c ∧ R c w') (hn : ∀ c w', R c w' → next (a.put o.dst c) w') : o.wpIn (FW rd) 0 P a w next Q := by
  refine ⟨wide_about, ?_⟩
  rw [semAt_plain hd, h]
  refine ⟨fun h => by simp at h, callsIn_round (hc.mono ?_)⟩
  rintro E w' ⟨c, rfl, hr⟩
  exact hn c w' hr

theorem evR_ok {P : Program} {rd : Option Nat} {ops : Array Oper} {N : Nat} {D : List Deferred} {e0 : Env} (g0 : Good e0) {Q : Exit → Act → World → Prop} :
    ∀ (idx : List Nat) (os : List AO) (K : AS → Prop), (∀ σ a w, K σ → Rel e0 N D σ a w → Q .normal a w) → Matched P N ops idx os → ∀ σ a w, evR P os σ K → Rel e0 N D σ a w → wpOpsIn (FW rd) 0 P ops Q idx a w := by
  intro idx
  induction idx with
  | nil =>
    intro os K hK hm σ a w hev hr
    cases os with
    | nil => exact hK σ a w hev hr
    | cons => exact hm.elim
  | cons i idx ih =>
    intro os K hK hm σ a w hev hr
    cases os with
    | nil => exact hm.elim
    | cons q os =>
      obtain ⟨⟨o, ho, hres⟩, hm⟩ := hm
      obtain ⟨ins, hins, hqop, hqd, hdst, hgd⟩ := dst_ok hres
      obtain ⟨e, rfl, hH, g, mv, hf, hN, hD⟩ := hr
      have hA := reads_ax hf
      have hndef := resOp_defer (P := P) (op := o.op) (by rw [hins]; rfl)
      have next : ∀ {fr : List (Nat × RV)} {H : List AObj} (e' : Env) (r : RV) (c : Value), fr = σ.fr → e'.H = H → Good e' → Mv e e' → VR e' r c → evR P os ⟨upd fr q.dst r, H⟩ K → wpOpsIn (FW rd) 0 P ops Q idx (a.put o.dst c) e'.w := by
        intro fr H e' r c hfr hH' g' mv' hr' hev'
        subst hfr
        rw [hqd] at hev'
        exact ih os K hK hm _ _ _ hev' (rel_put g0 hH' g' mv mv' hf hN hD hdst hr')
      simp only [wpOpsIn, ho]
      cases hgo : o.guard with
      | none =>
        have hq0 : q.gd = none := by
          rcases hgd with ⟨_, h⟩ | ⟨j, want, d, h, _⟩
          · exact h
          · rw [hgo] at h; cases h
        have hw : Region.wanted o (yielded ops a.tmps) = true := by simp [Region.wanted, hgo]
        rw [hw, if_pos rfl]
        cases hop : q.op with
        | pk x y z =>
          simp only [evR, hop, evPk, hq0] at hev
          split at hev
          · rename_i C r hpk
            obtain ⟨oc, ox, oy, hoop, h1, h2, h3⟩ := pk_ok (P := P) (e := e) hA (resI_c (by rw [hins, ← hqop, hop]) (by simp) (by simp))
            obtain ⟨c, hrun, hvr⟩ := pick_ok (P := P) (A := ax σ.fr) (B := ax σ.fr) (hA _ _ h1) (hA _ _ h2) (hA _ _ h3) hoop hpk hev.1
            exact uponIn_val hndef hrun (next e r c rfl hH g .refl hvr hev.2)
          · exact hev.elim
        | q x =>
          simp only [evR, hop, evo, hq0] at hev
          split at hev
          · rename_i C r hq
            obtain ⟨c, hrun, hvr⟩ := evq_ok g hA (resI_q (by rw [hins, ← hqop, hop])) (by rw [hH]; exact hq) hev.1
            exact uponIn_val hndef hrun (next e r c rfl hH g .refl hvr hev.2)
          · exact hev.elim
        | m x =>
          simp only [evR, hop, hq0] at hev
          split at hev
          · rename_i C r H' _ hq
            obtain ⟨e', hH', g', mv', hh⟩ := evm_ok g hA (resI_m (by rw [hins, ← hqop, hop])) (by rw [hH]; exact hq) hev.1
            rcases hh with ⟨c, hrun, hvr⟩ | ⟨hrun, rfl⟩
            · exact uponIn_val hndef hrun (next e' r c rfl hH' g' mv' hvr hev.2)
            · exact ⟨wide_about, by rw [semAt_plain hndef, hrun]; exact next e' .any undef rfl hH' g' mv' .any hev.2⟩
          · exact hev.elim
        | call f args =>
          simp only [evR, hop, CallK, hq0] at hev
          split at hev
          rotate_left
          · exact hev.elim
          rename_i fid caps hfn
          obtain ⟨hcall, hcs⟩ := hev
          obtain ⟨c, fo, hoop, hcal, hfo, hargs⟩ := call_of (resI_c (by rw [hins, ← hqop, hop]) (by simp) (by simp))
          obtain ⟨vs, hrun, hn, hv⟩ := call_run (P := P) hoop hcal hargs (hA _ _ hfo) (fun x y h _ => hA x y h) hfn hcall
          refine uponIn_call (R := fun c w' => ∃ (e' : Env) (r : RV), e'.w = w' ∧ Good e' ∧ Mv e e' ∧ VR e' r c ∧ evR P os ⟨upd σ.fr q.dst r, e'.H⟩ K) hndef hrun ((hcs e vs g hH hn hv).mono ?_) ?_
          · rintro E w' ⟨c, e', r, h1, h2, h3, h4, h5, h6⟩
            exact ⟨c, h1, e', r, h2, h3, h4, h5, h6⟩
          · rintro c w' ⟨e', r, rfl, g', mv', hvr, hev'⟩
            exact next e' r c rfl rfl g' mv' hvr hev'
      | some jw =>
        obtain ⟨j, want⟩ := jw
        obtain ⟨d, hdd, hq1⟩ : ∃ d, (ops[j]?).bind (·.dst) = some d ∧ q.gd = some (d, want) := by
          rcases hgd with ⟨h, _⟩ | ⟨j', want', d, h, h1, h2⟩
          · rw [hgo] at h; cases h
          · rw [hgo] at h; cases h; exact ⟨d, h1, h2⟩
        have guarded : ∀ (G : Bool) (r : RV), gval (lk σ.fr d) want = some G → (G = true → ∀ K' : Act → World → Prop, (∀ c e', e'.H = σ.hp → Good e' → Mv e e' → VR e' r c → K' (a.put o.dst c) e'.w) → o.wpIn (FW rd) 0 P a e.w K' Q) → evR P os ⟨upd σ.fr q.dst (.cnd G r), σ.hp⟩ K →
            (if Region.wanted o (yielded ops a.tmps) = true then o.wpIn (FW rd) 0 P a e.w (wpOpsIn (FW rd) 0 P ops Q idx) Q else (∀ f, o.about P e.w a.eval = some f → (FW rd).fn f) ∧ wpOpsIn (FW rd) 0 P ops Q idx (a.put o.dst undef) e.w) := by
          intro G r hG hrun hev'
          rw [wanted_ok hN hf hgo hdd hG]
          cases G with
          | true =>
            rw [if_pos rfl]
            exact hrun rfl _ (fun c e' h1 h2 h3 h4 => next e' (.cnd true r) c rfl h1 h2 h3 (.cnd (fun _ => h4) (fun h => by cases h)) hev')
          | false =>
            rw [if_neg (by simp)]
            exact ⟨wide_about, next e (.cnd false r) undef rfl hH g .refl (.cnd (fun h => by cases h) (fun _ => rfl)) hev'⟩
        cases hop : q.op with
        | pk x y z =>
          simp only [evR, hop, evPk, hq1] at hev
          split at hev
          · rename_i C r hpk
            simp only [Option.bind_eq_some_iff, Option.map_eq_some_iff] at hpk
            obtain ⟨G, hG, ⟨C', r'⟩, hpk, he⟩ := hpk
            cases he
            refine guarded G r' hG (fun hGt K' hK' => ?_) hev.2
            obtain ⟨hob, hC⟩ := hev.1 hGt
            obtain ⟨oc, ox, oy, hoop, h1, h2, h3⟩ := pk_ok (P := P) (e := e) hA (resI_c (by rw [hins, ← hqop, hop]) (by simp) (by simp))
            obtain ⟨c, hrun, hvr⟩ := pick_ok (P := P) (A := ax σ.fr) (B := fun x => opn (ax σ.fr x)) (opn_vr (hA _ _ h1) hob) (hA _ _ h2) (hA _ _ h3) hoop hpk hC
            exact uponIn_val hndef hrun (hK' c e hH g .refl hvr)
          · exact hev.elim
        | q x =>
          simp only [evR, hop, evo, hq1] at hev
          split at hev
          · rename_i C r hq
            simp only [Option.bind_eq_some_iff, Option.map_eq_some_iff] at hq
            obtain ⟨G, hG, ⟨C', r'⟩, hq, he⟩ := hq
            cases he
            refine guarded G r' hG (fun hGt K' hK' => ?_) hev.2
            obtain ⟨hob, hC⟩ := hev.1 hGt
            classical
            have hq' : evq (fun x => if obl (ax σ.fr x) then opn (ax σ.fr x) else .any) e.H x = some (C', r') := by
              rw [hH, ← hq]
              exact evq_congr (fun y hy => by rw [if_pos (obls_mem hob y hy)])
            obtain ⟨c, hrun, hvr⟩ := evq_ok g (reads_opn hA) (resI_q (by rw [hins, ← hqop, hop])) hq' hC
            exact uponIn_val hndef hrun (hK' c e hH g .refl hvr)
          · exact hev.elim
        | m x => simp only [evR, hop, hq1] at hev
        | call f args =>
          simp only [evR, hop, CallK, hq1] at hev
          split at hev
          rotate_left
          · exact hev.elim
          rename_i fid caps hfn
          obtain ⟨hcall, hev⟩ := hev
          split at hev
          rotate_left
          · exact hev.elim
          rename_i G hG
          obtain ⟨r, hpure, hev'⟩ := hev
          refine guarded G (.v r) hG (fun hGt K' hK' => ?_) hev'
          obtain ⟨hob, xs, hxs, hps⟩ := hpure hGt
          obtain ⟨c, fo, hoop, hcal, hfo, hargs⟩ := call_of (resI_c (by rw [hins, ← hqop, hop]) (by simp) (by simp))
          obtain ⟨h1, h2⟩ := mapM_get hargs
          have hmem : ∀ x y, resX x = some y → x ∈ c.args.toList → VR e (opn (ax σ.fr y)) (a.eval x) := by
            intro x y hxy hx
            have : y ∈ args := by
              obtain ⟨k, hk, rfl⟩ := List.getElem_of_mem hx
              have hk' : k < args.length := by omega
              have := h2 k _ args[k] (List.getElem?_eq_getElem hk) (List.getElem?_eq_getElem hk')
              rw [hxy] at this; cases this
              exact List.getElem_mem hk'
            exact opn_vr (hA x y hxy) (obls_mem hob y this)
          obtain ⟨vs, hrun, hn, hv⟩ := call_run (P := P) (A := fun x => opn (ax σ.fr x)) hoop hcal hargs (hA _ _ hfo) hmem hfn hcall
          rw [hxs] at hn hv
          refine uponIn_call (R := fun c w' => ∃ (e' : Env), e'.w = w' ∧ Good e' ∧ Mv e e' ∧ VR e' (.v r) c ∧ e'.H = σ.hp) hndef hrun ((hps.frame σ.hp e vs g hH hn hv).mono ?_) ?_
          · rintro E w' ⟨c, e', r', h1, h2, h3, h4, h5, rfl, h7⟩
            exact ⟨c, h1, e', h2, h3, h4, h5, h7⟩
          · rintro c w' ⟨e', rfl, g', mv', hvr, hH'⟩
            exact hK' c e' hH' g' mv' hvr

theorem matched_of {P : Program} {N : Nat} {ops : Array Oper} : ∀ (l : List Oper) (os : List AO) (k : Nat), l.mapM (resAO P N ops) = some os → (∀ (j : Nat) o, l[j]? = some o → ops[k + j]? = some o) → Matched P N ops (List.range' k l.length) os := by
  intro l
  induction l with
  | nil => intro os k h _; simp at h; subst h; trivial
  | cons o l ih =>
    intro os k h hk
    simp only [List.mapM_cons, Option.bind_eq_bind, Option.bind_eq_some_iff] at h
    obtain ⟨q, hq, os', hos, e⟩ := h
    simp at e; subst e
    simp only [List.length_cons, List.range'_succ]
    refine ⟨⟨o, by simpa using hk 0 o (by simp), hq⟩, ih os' (k + 1) hos (fun j o' ho' => ?_)⟩
    have := hk (j + 1) o' (by simpa using ho')
    rw [show k + 1 + j = k + (j + 1) by omega]; exact this

theorem QQ.mono {Q Q' : AE → AS → Prop} {e0 : Env} {N : Nat} {D : List Deferred} (h : ∀ e σ, Q e σ → Q' e σ) {e : Exit} {a : Act} {w : World} (hq : QQ Q e0 N D e a w) : QQ Q' e0 N D e a w := by
  cases e with
  | normal => obtain ⟨σ, h1, h2⟩ := hq; exact ⟨σ, h _ _ h1, h2⟩
  | exit id => obtain ⟨σ, h1, h2⟩ := hq; exact ⟨σ, h _ _ h1, h2⟩
  | ret => obtain ⟨σ, h1, h2⟩ := hq; exact ⟨σ, h _ _ h1, h2⟩
  | goto l => exact hq.elim
  | panic c => exact hq.elim
  | outgrown => exact hq.elim

theorem lk_keep {fr : List (Nat × RV)} {l : List Nat} {e : Env} {v : Value} {t : Nat} (h : VR e (lk fr t) v) : VR e (lk (l.map fun t => (t, lk fr t)) t) v := by
  induction l with
  | nil => exact .any
  | cons s l ih =>
    simp only [List.map_cons, lk]
    split
    · rename_i hst; subst hst; exact h
    · exact ih

end Go.Av
