/- The engine: abstract values and states, and that the evaluator says what the model does. -/
import Derived.Test.YtdclcamgmepjpaaGreatTrXc35523c1
set_option linter.unusedVariables false
set_option linter.unusedSimpArgs false
set_option linter.unnecessarySimpa false
set_option autoImplicit false
/- The engine, part 35: a call that may panic, from a weaker state; the contract of a function that defers. -/
namespace Go.Tr
theorem CallPt.wk {P : Program} {f : FuncId} {args : List AV} {H : HP} (H1 : HP) {K : AV → HP → Prop} {KP : CV → HP → Prop} (hw : Wk H.length [] H [] H1) (h : CallPt P f args H1 K KP) : CallPt P f args H K KP := by
  unfold CallPt at h ⊢
  refine ⟨h.1, fun w S κ vs hh hvs => ?_⟩
  unfold Wk at hw
  obtain ⟨κ1, S1, a1, _, a3, a4, a5, _, a7, a8⟩ := hw w S κ { tmps := #[], defers := [] } hh (fun t => by simp [lk, AVR]) (Nat.le_refl _)
  have hbind : ∀ i, κ i ≠ .none → κ1 i = κ i := fun i hi => by
    rcases Nat.lt_or_ge i H.length with hl | hl
    · exact a3 i hl
    · exact absurd (hh.out i hl) hi
  have key : ∀ {H' : HP} {w' : World} {S' : Nat → Prop} {κ' : Nat → Bind}, Mem H1.length κ1 w S1 (fun B => ∃ i, ownAt κ1 H1 i = some B) H' w' S' κ' → Mem H.length κ w S (fun B => ∃ i, ownAt κ H i = some B) H' w' S' κ' := by
    intro H' w' S' κ' m
    refine ⟨m.hr, ⟨m.fr.os, m.fr.tape, m.fr.output, m.fr.size, fun B hB hO => m.fr.keep B hB (fun ⟨i, hi⟩ => hO (a5 i B hi)), fun B hB hS => a7 B (m.fr.shut B hB hS), fun B hB hS hO => ?_⟩,
      fun i hi => by rw [m.kp i (by omega)]; exact a3 i hi, by have := m.len; omega, fun i B hi hB => ?_⟩
    · by_cases h1 : S1 B
      · exact m.fr.held B hB h1 (fun ⟨i, hi⟩ => hO (a5 i B hi))
      · exact absurd (a8 B hS h1) hO
    · obtain ⟨j, hj⟩ := m.ow i B hi hB
      exact a5 j B hj
  refine (h.2 w S1 κ1 vs a1 (AVRs.mono (fun B off u h1 h2 => ⟨fun h => h1 (a7 B h), h2⟩) hbind args hvs)).mono ?_
  rintro e w' (⟨v, r, H', κ', S', rfl, hk, m, hr⟩ | ⟨x, V, H', κ', S', rfl, hk, m, hx⟩)
  · exact .inl ⟨v, r, H', κ', S', rfl, hk, key m, hr⟩
  · exact .inr ⟨x, V, H', κ', S', rfl, hk, key m, hx⟩
theorem aw_cut {P : Program} {E : Env} {c : Code} {tm : TM} {H : HP} {Q : AEx → TM → HP → Prop} (a b : Code) (hc : c = .seq a b) (h : ∀ C, C = b → aw P E (.seq a C) tm H Q) : aw P E c tm H Q := by
  rw [hc]
  exact h b rfl
section
variable {P : Program} {E : Env}
theorem call_dfr (he : EnvOk P E) (hmix : P.follows .mixedOrders = true) {f : FuncId} {fn : Func} {c : Code} (hf : P.funcs[f]? = some fn) (hb : fn.body = some c) (hcb : callable P f = true) (hok : codeOk fn.ntmps c = true)
    {args : List AV} (hlen : Nat.ble args.length fn.ntmps = true) (hargs : argOk args = true) {H : HP} (hn0 : E.n0 = H.length) (hrnd : E.rnd = true) (m : Fin5) (ts : List Nat) {K : AV → HP → Prop}
    (h : awd P E (finF m E fn K) ts c (argTM 0 args) H) (hpan : E.pan = none := by rfl) : CallSt P f args H K := by
  unfold CallSt
  refine ⟨hcb, fun w S κ vs hh hvs => ?_⟩
  have hl : args.length ≤ fn.ntmps := Nat.le_of_ble_eq_true hlen
  have hvl := hvs.len
  have hi : Inv E.n0 (fn.ntmps, []) κ w S (fun B => ∃ i, ownAt κ H i = some B) (argTM 0 args) H { tmps := vs.toArray ++ Array.replicate (fn.ntmps - vs.toArray.size) undef, defers := [] } w S κ :=
    ⟨by rw [hn0]; exact Mem.refl hh, fun t => by
      rw [lk_argTM, getD_args (by omega)]
      simp only [Nat.zero_le, if_true, Nat.sub_zero]
      exact hvs.getD t, rfl, by simp; omega⟩
  exact (callsIn_calls (r := none) (n := 0)).1 (callsIn_of_wp_marks hf hb trivial (awd_spec he hmix hrnd hn0 m hpan ts c hok h (argTM_nw hargs) hi))
end
end Go.Tr
