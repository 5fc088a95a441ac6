import Derived.Test.YtalabpeelbkclaaRows
import Derived.WalkKit
import Derived.ProofKit
import Derived.OpenShut
import Derived.ShutString
import Derived.ChangeOld
import Derived.Below
import Derived.SizedLaws
import Derived.Test.YtalabpeelbkclaaTrT
/- The law TermShifts returns true for every term and two numbers that are handed in, and they read as before. No conditions beyond the row's own. -/
set_option linter.unusedVariables false
set_option linter.unusedSimpArgs false
set_option linter.unnecessarySimpa false
set_option autoImplicit false
/- The rows: what is handed in, as a term. -/
namespace Go.Tr
open Go.Proofs Go.ChangeShapes Go.WideShapes Go.ChangeAt Go.RowKit
def noS : Nat → Prop := fun _ => False
theorem choose_list {α : Type} {R : Nat → α → Prop} : ∀ (n : Nat), (∀ i, i < n → ∃ t, R i t) → ∃ ts : List α, ts.length = n ∧ ∀ (i : Nat) t, ts[i]? = some t → R i t
  | 0, _ => ⟨[], rfl, fun i t h => by simp at h⟩
  | n + 1, h => by
    obtain ⟨ts, h1, h2⟩ := choose_list n fun i hi => h i (by omega)
    obtain ⟨t, ht⟩ := h n (by omega)
    refine ⟨ts ++ [t], by simp [h1], fun i u hu => ?_⟩
    rcases Nat.lt_or_ge i ts.length with hi | hi
    · rw [List.getElem?_append_left hi] at hu
      exact h2 i u hu
    · rw [List.getElem?_append_right hi] at hu
      have : i - ts.length = 0 := by
        have := (List.getElem?_eq_some_iff.1 hu).1
        simp at this
        omega
      rw [this] at hu
      simp at hu
      subst hu
      have : i = n := by omega
      subst this
      exact ht
theorem spot_of {w : World} {a : Addr} {v : Value} (h : w.cell? a = some v) : a.spot = none ∧ cellAt w.heap a.block a.off = some v := by
  obtain ⟨B, off, sp⟩ := a
  unfold World.cell? at h
  cases sp with
  | none =>
    refine ⟨rfl, ?_⟩
    simp only [Option.isSome_none, Bool.false_eq_true, if_false] at h
    unfold cellAt
    simp only
    split at h <;> simp_all
  | some q =>
    simp only [Option.isSome_some, if_true] at h
    split at h <;> cases h
theorem add_spot {a : Addr} (h : a.spot = none) (i : Nat) : a.add i = ⟨a.block, a.off + i, none⟩ := by
  obtain ⟨B, off, sp⟩ := a
  simp only at h
  subst h
  exact Addr.add_lit ..
theorem tc_len : ∀ t : Term, (tc t).length = 4
  | .mk k l n ts => rfl
theorem tcs_sz : ∀ (ts : List Term), ∀ e ∈ tcs ts, e.length = 4
  | [], e, h => by simp [tcs] at h
  | t :: r, e, h => by
    simp only [tcs, List.mem_cons] at h
    rcases h with rfl | h
    · exact tc_len t
    · exact tcs_sz r e h
theorem rows_of {h : Array Obj} {B : Nat} : ∀ (ts : List Term) (off : Nat), (∀ (i : Nat) t, ts[i]? = some t → ∃ cs, CellsV h noS (tc t) cs ∧ ∀ j v, cs[j]? = some v → cellAt h B (off + i * 4 + j) = some v) → RowsR h noS (tcs ts) B off
  | [], off, _ => by simp [tcs, RowsR]
  | t :: r, off, hx => by
    simp only [tcs, RowsR]
    obtain ⟨cs, h1, h2⟩ := hx 0 t (by simp)
    refine ⟨CellsR_of h1 (fun h => h) (fun j v hv => by simpa using h2 j v hv), ?_⟩
    rw [tc_len]
    refine rows_of r (off + 4) fun i u hu => ?_
    obtain ⟨cs, h1, h2⟩ := hx (i + 1) u (by simpa using hu)
    exact ⟨cs, h1, fun j v hv => by rw [show off + 4 + i * 4 + j = off + (i + 1) * 4 + j by omega]; exact h2 j v hv⟩
theorem weights_mem {H : Type} {P : Program} {e : TypeId} : ∀ {l : List (DataW H)} {d : DataW H}, d ∈ l → ∀ n ∈ d.weights P e, n ∈ DataW.weightsAll P e l
  | [], d, h, _, _ => by cases h
  | x :: r, d, h, n, hn => by
    simp only [DataW.weightsAll, List.mem_append]
    rcases List.mem_cons.1 h with rfl | h
    · exact .inl hn
    · exact .inr (weights_mem h n hn)
theorem weights_slice {H : Type} {P : Program} {t e : TypeId} (ht : P.underlying t = some (.slice e)) (el sp : List (DataW H)) : (DataW.slice el sp).weights P t = (el.length + sp.length) * P.bytesOf e :: (DataW.weightsAll P e el ++ DataW.weightsAll P e sp) := by
  rw [DataW.weights, ht]
theorem weights_struct {H : Type} {P : Program} {t : TypeId} {fs : Array Field} (ht : P.underlying t = some (.struct fs)) (ps : List (DataW H)) : (DataW.agg ps).weights P t = DataW.weightsEach P (fs.toList.map (·.type)) ps := by
  rw [DataW.weights, ht]
theorem cvr_int {h : Array Obj} {S : Nat → Prop} {k : IntKind} {n : Int} : CVR h S (.int k n) (.int k n) := by unfold CVR; rfl
theorem cv_nil {h : Array Obj} {S : Nat → Prop} : CellsV h S [] [] := by unfold CellsV; rfl
theorem cvr_nil {h : Array Obj} : CVR h noS (.sl 4 48 []) (.slice none 0 0) := by
  unfold CVR
  exact ⟨none, 0, 0, rfl, rfl, Nat.le_refl _, by rw [List.length_nil, Nat.zero_mul]; exact Nat.zero_le _, fun e he => absurd he List.not_mem_nil, fun _ => ⟨rfl, rfl⟩, fun ad h => by cases h⟩
theorem cvr_slice {h : Array Obj} {a : Addr} {len cap : Nat} {es : List (List CV)} (h1 : len = es.length) (h2 : len ≤ cap) (h3 : es.length * 48 ≤ 140737488355328) (h4 : ∀ e ∈ es, e.length = 4)
    (h5 : es = [] ∨ (a.spot = none ∧ RowsR h noS es a.block a.off)) : CVR h noS (.sl 4 48 es) (.slice (some a) len cap) := by
  unfold CVR
  exact ⟨some a, len, cap, rfl, h1, h2, h3, h4, fun h => (by cases h), fun ad had => by cases had; exact h5⟩
theorem c3_ : Try.prog.cellsOf 3 = 1 := by kernel_rfl
theorem c22_ : Try.prog.cellsOf 22 = 1 := by kernel_rfl
theorem c24_ : Try.prog.cellsOf 24 = 4 := by kernel_rfl
theorem b24_ : Try.prog.bytesOf 24 = 48 := by kernel_rfl
theorem len4 {α : Type} {l : List α} (h : l.length = 4) : ∃ a b c d, l = [a, b, c, d] := by
  match l, h with
  | [a, b, c, d], _ => exact ⟨a, b, c, d, rfl⟩
theorem open_term {H : Type} {enc : TypeId × Value → H} {W : World} : ∀ (fuel : Nat) {cs : List Value} {x : DataW H × List MemPlace}, DataW.trod enc Try.prog W 0 (fun _ => true) true fuel 24 cs = some x →
    (∀ n ∈ x.1.weights Try.prog 24, n ≤ reachBytes) → ∃ t : Term, CellsV W.heap noS (tc t) cs := by
  intro fuel
  induction fuel using Nat.strongRecOn with
  | _ fuel ih =>
  intro cs x h hw
  obtain ⟨xs, n, rfl, rfl, hcl, hxl, hat⟩ := DataW.trod_struct Try.underlying24 h
  rw [c24_] at hcl
  obtain ⟨v0, v1, v2, v3, rfl⟩ := len4 hcl
  obtain ⟨x0, x1, x2, x3, rfl⟩ := len4 (show xs.length = 4 from hxl)
  have h0 : DataW.trod enc Try.prog W 0 (fun _ => true) true n 3 (([v0, v1, v2, v3].drop 0).take (Try.prog.cellsOf 3)) = some x0 := hat 0 _ rfl
  rw [c3_] at h0
  replace h0 : DataW.trod enc Try.prog W 0 (fun _ => true) true n 3 [v0] = some x0 := h0
  have h1 : DataW.trod enc Try.prog W 0 (fun _ => true) true n 3 (([v0, v1, v2, v3].drop 1).take (Try.prog.cellsOf 3)) = some x1 := hat 1 _ rfl
  rw [c3_] at h1
  replace h1 : DataW.trod enc Try.prog W 0 (fun _ => true) true n 3 [v1] = some x1 := h1
  have h2 : DataW.trod enc Try.prog W 0 (fun _ => true) true n 3 (([v0, v1, v2, v3].drop 2).take (Try.prog.cellsOf 3)) = some x2 := hat 2 _ rfl
  rw [c3_] at h2
  replace h2 : DataW.trod enc Try.prog W 0 (fun _ => true) true n 3 [v2] = some x2 := h2
  have h3 : DataW.trod enc Try.prog W 0 (fun _ => true) true n 22 (([v0, v1, v2, v3].drop 3).take (Try.prog.cellsOf 22)) = some x3 := hat 3 _ rfl
  rw [c22_] at h3
  replace h3 : DataW.trod enc Try.prog W 0 (fun _ => true) true n 22 [v3] = some x3 := h3
  obtain ⟨k, e0, _, _⟩ := DataW.trod_int Try.underlying3 h0
  obtain ⟨l, e1, _, _⟩ := DataW.trod_int Try.underlying3 h1
  obtain ⟨m, e2, _, _⟩ := DataW.trod_int Try.underlying3 h2
  obtain rfl := (List.cons.inj e0).1
  obtain rfl := (List.cons.inj e1).1
  obtain rfl := (List.cons.inj e2).1
  have hw3 : ∀ n ∈ x3.1.weights Try.prog 22, n ≤ reachBytes := fun q hq => hw q (by
    rw [List.map_cons, List.map_cons, List.map_cons, List.map_cons, List.map_nil, weights_struct Try.underlying24]
    show q ∈ DataW.weightsEach Try.prog [3, 3, 3, 22] _
    simp only [DataW.weightsEach, List.mem_append]
    exact .inr (.inr (.inr (.inl hq))))
  have fin : ∀ (ts : List Term), CVR W.heap noS (.sl 4 48 (tcs ts)) v3 → ∃ t : Term, CellsV W.heap noS (tc t) [.int .i64 k, .int .i64 l, .int .i64 m, v3] := fun ts hv =>
    ⟨.mk k l m ts, ⟨_, _, rfl, cvr_int, _, _, rfl, cvr_int, _, _, rfl, cvr_int, _, _, rfl, hv, cv_nil⟩⟩
  rcases DataW.trod_slice Try.underlying22 h3 with ⟨hc, _⟩ | ⟨a, len, cap, elems, rest, n', rfl, hc, rfl, _, hlc, _, hel, hat2, _, _⟩
  · injection hc with hc
    subst hc
    exact fin [] cvr_nil
  · injection hc with hc
    subst hc
    rw [weights_slice Try.underlying22] at hw3
    have hb : ((elems.map (·.1)).length + (rest.map (·.1)).length) * Try.prog.bytesOf 24 ≤ reachBytes := hw3 _ (List.mem_cons.2 (.inl rfl))
    rw [b24_, List.length_map, List.length_map, hel] at hb
    obtain ⟨ts, ht1, ht2⟩ := choose_list (R := fun i t => ∃ cs, W.cells? 0 (a.add (i * 4)) 4 = some cs ∧ CellsV W.heap noS (tc t) cs) len fun i hi => by
      have h4 := hat2 i hi
      rw [c24_] at h4
      have hil : i < elems.length := by omega
      rw [List.getElem?_eq_getElem hil, Option.bind_eq_some_iff] at h4
      obtain ⟨cs, h5, h6⟩ := h4
      obtain ⟨t, ht⟩ := ih n' (by omega) h6 (fun q hq => hw3 q (List.mem_cons_of_mem _ (List.mem_append.2 (.inl (weights_mem (d := elems[i].1) (List.mem_map.2 ⟨_, List.getElem_mem hil, rfl⟩) q hq)))))
      exact ⟨t, cs, h5, ht⟩
    refine fin ts ?_
    refine cvr_slice (by rw [len_tcs, ht1]) hlc ?_ (tcs_sz ts) ?_
    · rw [len_tcs, ht1]
      have : reachBytes = 140737488351232 := by decide
      omega
    · rcases Nat.eq_zero_or_pos len with h0 | hpos
      · left
        have : ts = [] := List.eq_nil_of_length_eq_zero (by omega)
        rw [this]
        rfl
      · right
        have key : ∀ (i : Nat) t, ts[i]? = some t → ∃ cs, CellsV W.heap noS (tc t) cs ∧ ∀ j v, cs[j]? = some v → W.cell? ((a.add (i * 4)).add j) = some v := fun i t hi => by
          obtain ⟨cs, h5, h6⟩ := ht2 i t hi
          obtain ⟨_, h7, h8⟩ := World.cells?_some h5
          exact ⟨cs, h6, fun j v hv => by rw [h8 j (by have := (List.getElem?_eq_some_iff.1 hv).1; omega)]; exact hv⟩
        have hsp : a.spot = none := by
          obtain ⟨cs, h5, h6⟩ := key 0 ts[0] (by simp)
          have h7 := h5.len
          rw [tc_len] at h7
          have h8 := h6 0 (cs[0]'(by omega)) (List.getElem?_eq_getElem (by omega))
          simpa [Addr.add] using (spot_of h8).1
        refine ⟨hsp, rows_of ts a.off fun i t hi => ?_⟩
        obtain ⟨cs, h5, h6⟩ := key i t hi
        refine ⟨cs, h5, fun j v hv => ?_⟩
        have h7 := h6 j v hv
        rw [add_spot hsp, Addr.add_lit] at h7
        exact (spot_of h7).2
end Go.Tr
/- The row of TermChecks. -/
namespace Go.Tr
open Go.Proofs Go.Proofs.Ytalabpeelbkclaa Go.ChangeShapes Go.WideShapes Go.ChangeAt Go.RowKit
theorem own : ownKnob Try.prog.godebug = none := by kernel_rfl
theorem laidOut : laidOutB Try.prog = true := by kernel_rfl
theorem below_of {w w' : World} {S S' O : Nat → Prop} (h : FrameR w S O w' S') (hO : ∀ B, ¬ O B) : Below w.heap.size w w' :=
  ⟨h.os, h.tape, h.output, h.size, fun k hk => h.keep k hk (hO k)⟩
theorem tv_avr {h : Array Obj} {κ : Nat → Bind} {t : Term} {cs : Array Value} (hc : CellsV h noS (tc t) cs.toList) : AVR h noS κ (tv t) (.agg cs) := by
  obtain ⟨k, l, n, ts⟩ := t
  rw [tv_mk]
  simp only [AVR]
  refine ⟨cs, rfl, ?_⟩
  have key : ∀ (xs : List CV) (vs : List Value), CellsV h noS xs vs → AVRs h noS κ (xs.map .c) vs := by
    intro xs
    induction xs with
    | nil => intro vs hv; simp only [CellsV] at hv; simpa only [List.map_nil, AVRs] using hv
    | cons x r ih =>
      intro vs hv
      simp only [CellsV] at hv
      obtain ⟨v, q, rfl, h1, h2⟩ := hv
      simp only [List.map_cons, AVRs, AVR]
      exact ⟨v, q, rfl, h1, ih q h2⟩
  exact key [.int .i64 k, .int .i64 l, .int .i64 n, .sl 4 48 (tcs ts)] _ hc
/-- A law's call, from what is handed in. -/
theorem law_calls {f : FuncId} {args : List AV} {W : World} {vs : List Value} (h : CallSt Try.prog f args [] (fun r H' => r = .c (.bool true) ∧ H' = [])) (hv : AVRs W.heap noS (fun _ => .none) args vs) :
    Calls Try.prog f vs.toArray W fun e W' => e = .returned (.bool true) ∧ Below W.heap.size W W' := by
  unfold CallSt at h
  have hh : HR W.heap noS (fun _ => .none) [] := ⟨fun i e hi => by simp at hi, fun _ _ => rfl, fun i B hi => by simp [ownAt] at hi, fun i j B hi => by simp [ownAt] at hi, fun B hB => hB.elim⟩
  refine (h.2 W noS _ vs hh hv).mono ?_
  rintro e w' ⟨v, r, H', κ', S', rfl, ⟨rfl, rfl⟩, m, hr⟩
  simp only [AVR, CVR] at hr
  subst hr
  exact ⟨rfl, below_of m.fr fun B ⟨i, hi⟩ => by simp [ownAt] at hi⟩
theorem okWide_agg {P : Program} {w : World} {r : Reach} {base : Nat} {t : TypeId} {v : Value} {fs : Array Field} (ht : P.underlying t = some (.struct fs)) (h : Value.okWide P w r base t v) : ∃ cs, v = .agg cs := by
  unfold Value.okWide at h
  rw [ht] at h
  obtain ⟨cs, h, _⟩ := h
  exact ⟨cs, h⟩
set_option maxRecDepth 100000 in
theorem arg_term {H : Type} {enc : TypeId × Value → H} {W : World} {base : Nat} {v : Value} {d : DataW H} {ps : List MemPlace} (hval : Value.okWide Try.prog W .any base 24 v) (h : DataW.Trod enc Try.prog W 0 (fun _ => true) true 24 v d ps)
    (hw : ∀ n ∈ d.weights Try.prog 24, n ≤ reachBytes) : ∃ t : Term, AVR W.heap noS (fun _ => .none) (tv t) v := by
  obtain ⟨fuel, hf⟩ := h
  obtain ⟨t, ht⟩ := open_term (x := (d, ps)) fuel hf hw
  obtain ⟨cs, rfl⟩ := okWide_agg Try.underlying24 hval
  exact ⟨t, tv_avr ht⟩
set_option maxRecDepth 100000 in
theorem lifted (os : Os) (started : os.Started) (H : Type) (enc : TypeId × Value → H) :
    ReturnsInHanded {} Try.checked os 3 .any (Rows.termChecksSpec.pre6 enc Try.prog Try.f3 Rows.termChecksRow.domain false) (Rows.termChecksSpec.post enc Try.prog Try.f3 false true false false) := by
  refine returnsInHanded_of_change_sized (C := Try.checked) own started (by kernel_rfl) Try.func3
    (ChangeSpec.witness6 (enc := enc) (C := Try.checked) false ⟨#[], #[.agg #[.int .i64 0, .int .i64 0, .int .i64 0, .slice none 0 0]], []⟩ 8 (by kernel_rfl) (by kernel_rfl) (by kernel_rfl) (by kernel_rfl)) ?_
  intro W base args ds gs before hval0 hW hcnd hsz0 _
  have hsz : (DataW.weightsEach Try.prog (Try.f3.params.toList ++ Rows.termChecksSpec.plain.varTypes Try.prog) (ds ++ gs)).all (· ≤ reachBytes) = true := hsz0
  have hval : ∀ (j : Nat) t v, Try.f3.params[j]? = some t → args[j]? = some v → Value.okWide Try.prog W .any base t v := hval0
  have hW' := hW
  obtain ⟨p, q, hA0, hV, rfl, hfz, hnd⟩ := hW
  have hA : DataW.TrodAll enc Try.prog W 0 (fun _ => true) true Try.f3.params.toList args.toList ds p := hA0
  rw [Try.params3] at hA hval hsz
  obtain ⟨v0, vs0, d0, ds0, p0, q0, hargs, rfl, rfl, h0, r0⟩ := trodAll_cons hA
  obtain ⟨rfl, rfl, rfl⟩ := trodAll_nil r0
  obtain rfl : args = #[v0] := by cases args; simp_all
  obtain ⟨rfl, rfl⟩ := trodVars_none hV
  have lt0 : ∀ x ∈ p0, x.block < W.heap.size := by obtain ⟨m, hm⟩ := h0; exact DataW.trod_lt m _ _ _ hm
  have w0 : ∀ n ∈ d0.weights Try.prog 24, n ≤ reachBytes := fun n hn => by
    have := List.all_eq_true.1 hsz n (List.mem_append.2 (.inl hn))
    simpa using this
  obtain ⟨t0, a0⟩ := arg_term (hval 0 24 v0 rfl rfl) h0 w0
  clear hA0 hval0 hsz0 hsz
  refine (law_calls (vs := [v0]) (c3 t0) ⟨_, _, rfl, a0, rfl⟩).mono fun e W' ⟨he, bel⟩ => ?_
  subst he
  exact ⟨_, rfl, _, _, _, [], _, [], hW', trodAll_mk1 (shut_bool Try.underlying4 _), trodAll_cons_mk (Below.trod laidOut (by kernel_rfl) (of_decide_eq_true (by kernel_rfl)) h0 bel lt0) trodAll_mk0, rfl, bel.frame _, fun h => by cases h⟩
theorem over : Rows.termChecksRow.holds Try.pinned (OpenSpec.ofChange Rows.termChecksSpec) :=
  OpenClaim.holds_of_wide 3 Try.f3 rfl rfl rfl rfl rfl rfl rfl ⟨rfl, rfl, rfl, rfl, rfl⟩ rfl rfl rfl rfl rfl (by kernel_rfl) Try.func3 (by kernel_rfl)
    (of_decide_eq_true (by kernel_rfl)) (by unfold Func.isWrapper; first | (rw [if_pos (by decide +kernel)]; kernel_rfl) | (rw [if_neg (by decide +kernel)]; exact ⟨rfl, rfl⟩))
    (fun os started H enc _ => lifted os started H enc)
theorem proved : Rows.TermChecksSaid := over
end Go.Tr
/- The row of TermShifts. -/
namespace Go.Tr.Shifts
open Go.Tr Go.Proofs Go.Proofs.Ytalabpeelbkclaa Go.ChangeShapes Go.WideShapes Go.ChangeAt Go.RowKit
set_option maxRecDepth 100000 in
theorem lifted (os : Os) (started : os.Started) (H : Type) (enc : TypeId × Value → H) :
    ReturnsInHanded {} Try.checked os 4 .any (Rows.termShiftsSpec.pre6 enc Try.prog Try.f4 Rows.termShiftsRow.domain false) (Rows.termShiftsSpec.post enc Try.prog Try.f4 false true false false) := by
  refine returnsInHanded_of_change_sized (C := Try.checked) own started (by kernel_rfl) Try.func4
    (ChangeSpec.witness6 (enc := enc) (C := Try.checked) false ⟨#[], #[.agg #[.int .i64 0, .int .i64 0, .int .i64 0, .slice none 0 0], .int .i64 0, .int .i64 0], []⟩ 8 (by kernel_rfl) (by kernel_rfl) (by kernel_rfl) (by kernel_rfl)) ?_
  intro W base args ds gs before hval0 hW hcnd hsz0 _
  have hsz : (DataW.weightsEach Try.prog (Try.f4.params.toList ++ Rows.termShiftsSpec.plain.varTypes Try.prog) (ds ++ gs)).all (· ≤ reachBytes) = true := hsz0
  have hval : ∀ (j : Nat) t v, Try.f4.params[j]? = some t → args[j]? = some v → Value.okWide Try.prog W .any base t v := hval0
  have hW' := hW
  obtain ⟨p, q, hA0, hV, rfl, hfz, hnd⟩ := hW
  have hA : DataW.TrodAll enc Try.prog W 0 (fun _ => true) true Try.f4.params.toList args.toList ds p := hA0
  rw [Try.params4] at hA hval hsz
  obtain ⟨v0, vs0, d0, ds0, p0, q0, hargs, rfl, rfl, h0, r0⟩ := trodAll_cons hA
  obtain ⟨v1, vs1, d1, ds1, p1, q1, rfl, rfl, rfl, h1, r1⟩ := trodAll_cons r0
  obtain ⟨v2, vs2, d2, ds2, p2, q2, rfl, rfl, rfl, h2, r2⟩ := trodAll_cons r1
  obtain ⟨rfl, rfl, rfl⟩ := trodAll_nil r2
  obtain rfl : args = #[v0, v1, v2] := by cases args; simp_all
  obtain ⟨rfl, rfl⟩ := trodVars_none hV
  have lt0 : ∀ x ∈ p0, x.block < W.heap.size := by obtain ⟨m, hm⟩ := h0; exact DataW.trod_lt m _ _ _ hm
  have w0 : ∀ n ∈ d0.weights Try.prog 24, n ≤ reachBytes := fun n hn => by
    have := List.all_eq_true.1 hsz n (List.mem_append.2 (.inl hn))
    simpa using this
  obtain ⟨t0, a0⟩ := arg_term (hval 0 24 v0 rfl rfl) h0 w0
  obtain ⟨n1, rfl, rfl, rfl, w1⟩ := open_int Try.underlying3 (hval 1 3 v1 rfl rfl) h1
  obtain ⟨n2, rfl, rfl, rfl, w2⟩ := open_int Try.underlying3 (hval 2 3 v2 rfl rfl) h2
  clear hA0 hval0 hsz0 hsz
  refine (law_calls (vs := [v0, .int .i64 n1, .int .i64 n2]) (c4 t0 n1 n2) ⟨_, _, rfl, a0, _, _, rfl, cvr_int, _, _, rfl, cvr_int, rfl⟩).mono fun e W' ⟨he, bel⟩ => ?_
  subst he
  exact ⟨_, rfl, _, _, _, [], _, [], hW', trodAll_mk1 (shut_bool Try.underlying4 _), trodAll_cons_mk (Below.trod laidOut (by kernel_rfl) (of_decide_eq_true (by kernel_rfl)) h0 bel lt0) (trodAll_cons_mk (shut_int Try.underlying3 w1) (trodAll_cons_mk (shut_int Try.underlying3 w2) trodAll_mk0)), rfl, bel.frame _, fun h => by cases h⟩
theorem over : Rows.termShiftsRow.holds Try.pinned (OpenSpec.ofChange Rows.termShiftsSpec) :=
  OpenClaim.holds_of_wide 4 Try.f4 rfl rfl rfl rfl rfl rfl rfl ⟨rfl, rfl, rfl, rfl, rfl⟩ rfl rfl rfl rfl rfl (by kernel_rfl) Try.func4 (by kernel_rfl)
    (of_decide_eq_true (by kernel_rfl)) (by unfold Func.isWrapper; first | (rw [if_pos (by decide +kernel)]; kernel_rfl) | (rw [if_neg (by decide +kernel)]; exact ⟨rfl, rfl⟩))
    (fun os started H enc _ => lifted os started H enc)
theorem proved : Rows.TermShiftsSaid := over
end Go.Tr.Shifts
namespace Go.Proofs.Ytalabpeelbkclaa
theorem termShifts_holds : Rows.TermShiftsSaid := Go.Tr.Shifts.proved
end Go.Proofs.Ytalabpeelbkclaa
