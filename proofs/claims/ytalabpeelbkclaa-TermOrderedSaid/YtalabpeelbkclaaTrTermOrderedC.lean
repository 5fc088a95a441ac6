/- What each function computes, and the plain laws of it, for the law TermOrdered. -/
import Derived.Test.YtalabpeelbkclaaChecked
import Derived.Test.YtalabpeelbkclaaRows
import Derived.Test.YtalabpeelbkclaaTrTermOrderedB
set_option linter.unusedVariables false
set_option linter.unusedSimpArgs false
set_option linter.unnecessarySimpa false
set_option autoImplicit false
/- The seat's types; terms. -/
namespace Go.Tr
open Go.Proofs
def iz : Value := .int .i64 0
def tab : List (Nat × TyD) := [
  (3, ⟨1, 8, .int .i64, [.int .i64 0], [3]⟩),
  (4, ⟨1, 1, .bool, [.bool false], [4]⟩),
  (24, ⟨4, 48, .struct [(0, 3), (1, 3), (2, 3), (3, 22)], [.int .i64 0, .int .i64 0, .int .i64 0, .slice none 0 0], [3, 3, 3, 22]⟩),
  (22, ⟨1, 24, .slice 24, [.slice none 0 0], [22]⟩),
  (25, ⟨1, 8, .int .i64, [.int .i64 0], [25]⟩),
  (39, ⟨1, 8, .int .u64, [.int .u64 0], [39]⟩),
  (42, ⟨7, 72, .struct [(0, 24), (4, 3), (5, 3), (6, 3)], [.int .i64 0, .int .i64 0, .int .i64 0, .slice none 0 0, .int .i64 0, .int .i64 0, .int .i64 0], [3, 3, 3, 22, 3, 3, 3]⟩),
  (45, ⟨1, 24, .slice 47, [.slice none 0 0], [45]⟩),
  (47, ⟨2, 32, .struct [(0, 45), (1, 3)], [.slice none 0 0, .int .i64 0], [45, 3]⟩),
  (49, ⟨12, 160, .struct [(0, 24), (4, 24), (8, 47), (10, 47)], [.int .i64 0, .int .i64 0, .int .i64 0, .slice none 0 0, .int .i64 0, .int .i64 0, .int .i64 0, .slice none 0 0, .slice none 0 0, .int .i64 0, .slice none 0 0, .int .i64 0], [3, 3, 3, 22, 3, 3, 3, 22, 45, 3, 45, 3]⟩),
  (71, ⟨1, 24, .slice 3, [.slice none 0 0], [71]⟩)]
def keep (f : FuncId) : Bool := false
def env (n : Nat) : Env := ⟨lkT tab, keep, n⟩
theorem env_ok (n : Nat) : EnvOk Try.prog (env n) := EnvOk.of (l := tab) rfl (by kernel_rfl)
/-- Arguments are handed as they are. -/
def envK (n : Nat) : Env := ⟨lkT tab, fun _ => true, n⟩
theorem envK_ok (n : Nat) : EnvOk Try.prog (envK n) := EnvOk.of (l := tab) rfl (by kernel_rfl)
theorem mixed : Try.prog.follows .mixedOrders = true := by kernel_rfl
inductive Term where
  | mk (k l n : Int) (ts : List Term)
namespace Term
def k : Term → Int | mk a _ _ _ => a
def l : Term → Int | mk _ a _ _ => a
def n : Term → Int | mk _ _ a _ => a
def ts : Term → List Term | mk _ _ _ a => a
end Term
mutual
/-- A term's cells. -/
def tc : Term → List CV
  | .mk k l n ts => [.int .i64 k, .int .i64 l, .int .i64 n, .sl 4 48 (tcs ts)]
def tcs : List Term → List (List CV)
  | [] => []
  | t :: r => tc t :: tcs r
end
/-- A term as a value. -/
def tv (t : Term) : AV := .agg [.c (.int .i64 t.k), .c (.int .i64 t.l), .c (.int .i64 t.n), .c (.sl 4 48 (tcs t.ts))]
def bodyOf (f : Func) : Code := f.body.getD .skip
theorem funcs_at (i : Nat) {f : Func} (h : Try.funcs[i]? = some f) : Try.prog.funcs[i]? = some f := h
end Go.Tr
/- term.proper. -/
namespace Go.Tr
open Go.Proofs
theorem Term.ind {C : Term → Prop} (h : ∀ t : Term, (∀ u ∈ t.ts, C u) → C t) : ∀ t, C t
  | .mk k l n ts => h _ fun u hu => Term.ind h u
  termination_by t => SizeOf.sizeOf t
  decreasing_by
  have := List.sizeOf_lt_of_mem (show u ∈ ts from hu)
  simp; omega
def headOk (k l n : Int) (m : Nat) : Bool :=
  (decide (k = 1) && (decide (l = 0) && decide (n = 0) && decide ((m : Int) = 0))) ||
  (decide (k = 2) && (decide (l = 0) && decide (n = 0) && decide ((m : Int) = 2))) ||
  (decide (k = 3) && (decide (l = 0) && decide (n = 0) && decide ((m : Int) = 1))) ||
  (decide (k = 4) && (decide (1 ≤ l) && decide (l ≤ 3) && decide (0 ≤ n) && decide (n ≤ 9999)))
mutual
def propT : Term → Int → Int → Bool × Int
  | .mk k l n ts, d, c => if 600 < c + 1 ∨ 40 < d then (false, c + 1) else
    match headOk k l n ts.length with
    | true => propL ts d (c + 1)
    | false => (false, c + 1)
def propL : List Term → Int → Int → Bool × Int
  | [], _, c => (true, c)
  | t :: r, d, c => match propT t (d + 1) c with
    | (true, c') => propL r d c'
    | (false, c') => (false, c')
end
theorem len_tcs : ∀ ts : List Term, (tcs ts).length = ts.length
  | [] => rfl
  | t :: r => by simp [tcs, len_tcs r]
def I64 (n : Int) : AV := .c (.int .i64 n)
theorem tcs_at : ∀ (ts : List Term) (i : Nat) (u : Term), ts[i]? = some u → (tcs ts)[i]? = some (tc u)
  | [], _, _, h => by simp at h
  | t :: r, 0, u, h => by simp at h; subst h; simp [tcs]
  | t :: r, i + 1, u, h => by simp only [tcs, List.getElem?_cons_succ]; exact tcs_at r i u (by simpa using h)
theorem propL_drop (ts : List Term) (i : Nat) (u : Term) (d c : Int) (h : ts[i]? = some u) : propL (ts.drop i) d c = match propT u (d + 1) c with
  | (true, c') => propL (ts.drop (i + 1)) d c'
  | (false, c') => (false, c') := by
  have hi := (List.getElem?_eq_some_iff.1 h).1
  have : ts.drop i = u :: ts.drop (i + 1) := by
    rw [List.drop_eq_getElem_cons hi]
    congr 1
    rw [List.getElem?_eq_getElem hi] at h
    injection h
  rw [this, propL]
mutual
theorem propT_bd : ∀ (t : Term) (d c : Int), 0 ≤ c ∧ c ≤ 600 → 0 ≤ (propT t d c).2 ∧ ((propT t d c).1 = true → (propT t d c).2 ≤ 600)
  | .mk k l n ts, d, c, hc => by
    unfold propT
    split
    · simp; omega
    · rename_i h
      split
      · exact propL_bd ts d (c + 1) (by omega)
      · simp; omega
theorem propL_bd : ∀ (ts : List Term) (d c : Int), 0 ≤ c ∧ c ≤ 600 → 0 ≤ (propL ts d c).2 ∧ ((propL ts d c).1 = true → (propL ts d c).2 ≤ 600)
  | [], d, c, hc => by simp [propL]; omega
  | t :: r, d, c, hc => by
    have h := propT_bd t (d + 1) c hc
    unfold propL
    generalize propT t (d + 1) c = x at *
    obtain ⟨b, c'⟩ := x
    cases b
    · simpa using h
    · exact propL_bd r d c' ⟨h.1, h.2 rfl⟩
end
theorem c47 (t : Term) : ∀ (d c : Int), 0 ≤ d ∧ d ≤ 41 → 0 ≤ c ∧ c ≤ 600 → CallSt Try.prog 47 [tv t, .c (.int .i64 d), .ptr 0 0] [.box [.c (.int .i64 c)]] (fun r H' => r = .c (.bool (propT t d c).1) ∧ H' = [.box [.c (.int .i64 (propT t d c).2)]]) := by
  induction t using Term.ind with
  | _ t ih =>
  intro d c hd hc
  obtain ⟨k, l, n, ts⟩ := t
  replace ih : ∀ u, u ∈ ts → _ := ih
  refine call_pure (E := env 1) (fn := Try.f47) (c := bodyOf Try.f47) (env_ok 1) mixed (by kernel_rfl) (by kernel_rfl) (by kernel_rfl) (by kernel_rfl) (by kernel_rfl) (by kernel_rfl) rfl ?_
  conv => whnf
  refine ⟨?_, ?_⟩
  · exact ⟨by omega, by omega⟩
  conv => whnf
  refine ⟨fun h1 => ?_, fun h1 => ?_⟩
  · conv => whnf
    refine ⟨rfl, ?_⟩
    conv => whnf
    refine ⟨rfl, ?_⟩
    simp only [Bool.or_eq_true, decide_eq_true_eq] at h1
    unfold propT
    rw [if_pos h1]
    exact ⟨rfl, rfl⟩
  simp only [Bool.or_eq_false_iff, decide_eq_false_iff_not] at h1
  conv => whnf
  intro hlen
  replace hlen : (tcs ts).length * 48 ≤ 140737488355328 := hlen
  rw [len_tcs] at hlen
  conv => whnf
  refine ⟨fun h2 => ?_, fun h2 => ?_⟩
  replace h2 : k = 1 := of_decide_eq_true h2
  rotate_left
  replace h2 : ¬ k = 1 := of_decide_eq_false h2
  conv => whnf
  refine ⟨fun h3 => ?_, fun h3 => ?_⟩
  replace h3 : k = 2 := of_decide_eq_true h3
  rotate_left
  replace h3 : ¬ k = 2 := of_decide_eq_false h3
  conv => whnf
  refine ⟨fun h4 => ?_, fun h4 => ?_⟩
  replace h4 : k = 3 := of_decide_eq_true h4
  rotate_left
  replace h4 : ¬ k = 3 := of_decide_eq_false h4
  conv => whnf
  refine ⟨fun h5 => ?_, fun h5 => ?_⟩
  replace h5 : k = 4 := of_decide_eq_true h5
  rotate_left
  replace h5 : ¬ k = 4 := of_decide_eq_false h5
  conv => whnf
  · refine ⟨rfl, ?_⟩
    conv => whnf
    refine ⟨rfl, ?_⟩
    unfold propT
    rw [if_neg (by omega), show headOk k l n ts.length = false by simp [headOk, h2, h3, h4, h5]]
    exact ⟨rfl, rfl⟩
  all_goals conv => whnf
  all_goals
    refine loop_intro (fun m tm H => ∃ (i : Nat) (b : Bool) (c' : Int), ts.length = m + i ∧ (0 ≤ c' ∧ (b = true → c' ≤ 600)) ∧ (match b with | true => propL (ts.drop i) d c' | false => (false, c')) = propT (.mk k l n ts) d c ∧
      tm = [(9, .c (.int .i64 i)), (8, .c (.bool b)), (7, .c (.int .i64 (tcs ts).length)), (3, .ptr 1 0), (1, .c (.int .i64 d)), (2, .ptr 0 0), (6, .c (.bool false))] ∧ H = [.box [.c (.int .i64 c')], .box [.c (.int .i64 k), .c (.int .i64 l), .c (.int .i64 n), .c (.sl 4 48 (tcs ts))]])
      ts.length _ _ ⟨0, _, _, by omega, ?_, ?_, rfl, rfl⟩ (Wk.sel [0, 1] (by decide) (by decide) (by decide) ⟨rfl, rfl, trivial⟩ ⟨rfl, rfl, rfl, rfl, rfl, rfl, rfl, trivial⟩ rfl) ?_
    · exact ⟨by omega, fun _ => by omega⟩
    · unfold propT
      rw [if_neg (by omega)]
      simp only [len_tcs, Term.l, Term.n, Term.ts, List.drop_zero, headOk]
      simp [*]
      rfl
    · rintro m tm H ⟨i, b, c', hi, hc', hR, rfl, rfl⟩
      conv => whnf
      refine ⟨fun hb => ?_, fun hb => ?_⟩
      · simp only [len_tcs, Bool.and_eq_true, decide_eq_true_eq] at hb
        obtain ⟨hb, rfl⟩ := hb
        have hlt : i < ts.length := by omega
        obtain ⟨u, hu⟩ : ∃ u, ts[i]? = some u := ⟨ts[i], List.getElem?_eq_getElem hlt⟩
        have hm := List.mem_of_getElem? hu
        have hd' := propL_drop ts i u d c' hu
        have hcd := propT_bd u (d + 1) c' ⟨hc'.1, hc'.2 rfl⟩
        have huc := tcs_at ts i u hu
        obtain ⟨k', l', n', us⟩ := u
        conv => whnf
        refine ⟨_, ⟨by omega, by simpa using huc⟩, ?_⟩
        conv => whnf
        refine ⟨Nat.le_refl 4, ?_⟩
        conv => whnf
        refine ⟨⟨by omega, by omega⟩, ?_⟩
        conv => whnf
        refine CallSt.use (ih _ hm (d + 1) c' ⟨by omega, by omega⟩ ⟨hc'.1, hc'.2 rfl⟩) [0] ⟨rfl, trivial⟩ (by decide) rfl ?_
        rintro _ _ ⟨rfl, rfl⟩ _
        conv => whnf
        refine ⟨⟨by omega, by omega⟩, ?_⟩
        conv => whnf
        refine ⟨m - 1, _, _, by omega, ⟨i + 1, _, _, by omega, hcd, ?_, rfl, rfl⟩, Wk.sel [0, 1] (by decide) (by decide) (by decide) ⟨rfl, rfl, trivial⟩ ⟨rfl, rfl, rfl, rfl, rfl, rfl, rfl, trivial⟩ rfl⟩
        rw [← hR]
        simp only
        rw [hd']
        generalize propT (Term.mk k' l' n' us) (d + 1) c' = x at *
        obtain ⟨y, z⟩ := x
        cases y <;> rfl
      · conv => whnf
        refine ⟨rfl, ?_⟩
        conv => whnf
        refine ⟨rfl, ?_⟩
        simp only [len_tcs, Bool.and_eq_false_iff, decide_eq_false_iff_not] at hb
        cases b with
        | false =>
          simp only at hR
          rw [← hR]
          exact ⟨rfl, rfl⟩
        | true =>
          have : ts.length ≤ i := by
            rcases hb with hb | hb
            · omega
            · cases hb
          rw [List.drop_eq_nil_of_le this] at hR
          simp only [propL] at hR
          rw [← hR]
          exact ⟨rfl, rfl⟩
end Go.Tr
/- What is handed in, as terms. -/
namespace Go.Tr
open Go.Proofs
theorem tcs_map : ∀ ts : List Term, tcs ts = ts.map tc
  | [] => rfl
  | t :: r => by rw [tcs, tcs_map r]; rfl
theorem sh_term : ∀ (n : Nat) {xs : List CV}, Sh (lkT tab) n 24 xs → ∃ t, xs = tc t := by
  intro n
  induction n using Nat.strongRecOn with
  | _ n ih =>
  intro xs h
  obtain ⟨m, rfl, a, b, rfl, h0, c, d, rfl, h1, e, f, rfl, h2, g, i, rfl, h3, rfl⟩ := sh_struct (fs := [(0, 3), (1, 3), (2, 3), (3, 22)]) rfl h
  obtain ⟨k, rfl, _⟩ := sh_int (k := .i64) rfl h0
  obtain ⟨l, rfl, _⟩ := sh_int (k := .i64) rfl h1
  obtain ⟨n, rfl, _⟩ := sh_int (k := .i64) rfl h2
  obtain ⟨m2, es, rfl, rfl, _, h4⟩ := sh_slice (e := 24) rfl h3
  obtain ⟨ts, rfl⟩ := map_choose (f := tc) es fun r hr => ih m2 (by omega) (h4 r hr)
  exact ⟨.mk k l n ts, by rw [← tcs_map]; rfl⟩
theorem sh_terms {n : Nat} {xs : List CV} (h : Sh (lkT tab) n 22 xs) : ∃ ts : List Term, xs = [.sl 4 48 (tcs ts)] ∧ ts.length * 48 ≤ 140737488351232 := by
  obtain ⟨m2, es, rfl, rfl, h5, h4⟩ := sh_slice (e := 24) rfl h
  obtain ⟨ts, rfl⟩ := map_choose (f := tc) es fun r hr => sh_term m2 (h4 r hr)
  refine ⟨ts, by rw [← tcs_map]; rfl, ?_⟩
  rw [List.length_map] at h5
  exact h5
theorem tv_av (k : List (Nat × TypeId)) (t : Term) : avOf (.struct k) (tc t) = tv t := by cases t; rfl
def argTypes : List TypeId := [3, 22, 24]
theorem arg_ok : argTypes.all (cl1 (lkT tab) argTypes) = true := by decide
theorem own : ownKnob Try.prog.godebug = none := by kernel_rfl
theorem laidOut : laidOutB Try.prog = true := by kernel_rfl
theorem wf_in {n : Int} (h : (Lit.int .i64 n).wf = true) : inR n := by
  simp only [Lit.wf, Bool.and_eq_true, decide_eq_true_eq] at h
  rw [show IntKind.i64.min = -9223372036854775808 by decide, show IntKind.i64.max = 9223372036854775807 by decide] at h
  exact h
section
variable {H : Type} {enc : TypeId × Value → H} {W : World} {base : Nat} {v : Value} {d : DataW H} {ps : List MemPlace}
set_option maxRecDepth 100000 in
theorem arg_term (hval : Value.okWide Try.prog W .any base 24 v) (h : DataW.Trod enc Try.prog W 0 (fun _ => true) true 24 v d ps)
    (hw : ∀ n ∈ d.weights Try.prog 24, n ≤ reachBytes) : ∃ t : Term, AVR W.heap noS (fun _ => .none) (tv t) v := by
  obtain ⟨fuel, xs, hs, a⟩ := open_arg (env_ok 0) arg_ok (by decide) hval h hw
  obtain ⟨t, rfl⟩ := sh_term fuel hs
  exact ⟨t, by rw [← tv_av [(0, 3), (1, 3), (2, 3), (3, 22)]]; exact a⟩
set_option maxRecDepth 100000 in
theorem arg_terms (hval : Value.okWide Try.prog W .any base 22 v) (h : DataW.Trod enc Try.prog W 0 (fun _ => true) true 22 v d ps)
    (hw : ∀ n ∈ d.weights Try.prog 22, n ≤ reachBytes) : ∃ ts : List Term, AVR W.heap noS (fun _ => .none) (.c (.sl 4 48 (tcs ts))) v ∧ ts.length * 48 ≤ 140737488351232 := by
  obtain ⟨fuel, xs, hs, a⟩ := open_arg (env_ok 0) arg_ok (by decide) hval h hw
  obtain ⟨ts, rfl, hl⟩ := sh_terms hs
  exact ⟨ts, a, hl⟩
end
end Go.Tr
/- Depths, nodes. -/
namespace Go.Tr
open Go.Proofs
def mx (a b : Int) : Int := if a < b then b else a
def mn (a b : Int) : Int := if b < a then b else a
mutual
def dpT : Term → Int
  | .mk _ _ _ ts => 1 + dpL ts
def dpL : List Term → Int
  | [] => 0
  | t :: r => mx (dpT t) (dpL r)
end
mutual
theorem dpT_pos : ∀ t : Term, 1 ≤ dpT t
  | .mk _ _ _ ts => by
    have := dpL_pos ts
    unfold dpT
    omega
theorem dpL_pos : ∀ ts : List Term, 0 ≤ dpL ts
  | [] => by simp [dpL]
  | t :: r => by
    have h1 := dpT_pos t
    have h2 := dpL_pos r
    unfold dpL mx
    split <;> omega
end
theorem drop_at {α : Type} {ts : List α} {i : Nat} {u : α} (h : ts[i]? = some u) : ts.drop i = u :: ts.drop (i + 1) := by
  have hi := (List.getElem?_eq_some_iff.1 h).1
  rw [List.drop_eq_getElem_cons hi]
  congr 1
  rw [List.getElem?_eq_getElem hi] at h
  injection h
theorem dpL_mem : ∀ (ts : List Term) (u : Term), u ∈ ts → dpT u ≤ dpL ts
  | [], u, h => by cases h
  | t :: r, u, h => by
    rcases List.mem_cons.1 h with rfl | h
    · unfold dpL mx; split <;> omega
    · have := dpL_mem r u h
      unfold dpL mx; split <;> omega
theorem mx_nil {a : Int} (h : 0 ≤ a) : mx a (dpL []) = a := by
  rw [dpL]
  unfold mx
  exact if_neg (by omega)
theorem c48 (t : Term) : dpT t ≤ 1000 → CallSt Try.prog 48 [tv t] [] (fun r H' => r = .c (.int .i64 (dpT t)) ∧ H' = []) := by
  induction t using Term.ind with
  | _ t ih =>
  intro hb
  obtain ⟨k, l, n, ts⟩ := t
  replace ih : ∀ u, u ∈ ts → _ := ih
  refine call_pure (E := env 0) (fn := Try.f48) (c := bodyOf Try.f48) (env_ok 0) mixed (by kernel_rfl) (by kernel_rfl) (by kernel_rfl) (by kernel_rfl) (by kernel_rfl) (by kernel_rfl) rfl ?_
  conv => whnf
  intro hlen
  replace hlen : (tcs ts).length * 48 ≤ 140737488355328 := hlen
  rw [len_tcs] at hlen
  conv => whnf
  unfold dpT at hb
  refine loop_intro (fun m tm H => ∃ (i : Nat) (a : Int), ts.length = m + i ∧ 0 ≤ a ∧ mx a (dpL (ts.drop i)) = dpL ts ∧
      tm = [(9, .c (.int .i64 i)), (3, .c (.int .i64 a)), (7, .c (.sl 4 48 (tcs ts))), (8, .c (.int .i64 (tcs ts).length))] ∧ H = [])
      ts.length _ _ ⟨0, _, by omega, Int.le_refl 0, ?_, rfl, rfl⟩ (Wk.sel [] (by decide) (by decide) (by decide) trivial ⟨rfl, rfl, rfl, rfl, trivial⟩ rfl) ?_
  · have := dpL_pos ts
    simp only [List.drop_zero, mx]
    split <;> omega
  · rintro m tm H ⟨i, a, hi, ha, hR, rfl, rfl⟩
    conv => whnf
    refine ⟨fun hb => ?_, fun hb => ?_⟩
    · replace hb : (i : Int) < (tcs ts).length := of_decide_eq_true hb
      rw [len_tcs] at hb
      have hlt : i < ts.length := by omega
      obtain ⟨u, hu⟩ : ∃ u, ts[i]? = some u := ⟨ts[i], List.getElem?_eq_getElem hlt⟩
      have hm := List.mem_of_getElem? hu
      have huc := tcs_at ts i u hu
      have hdr := drop_at hu
      have hub := dpL_mem ts u hm
      have hup := dpT_pos u
      have hc := ih u hm (by omega)
      obtain ⟨k', l', n', us⟩ := u
      conv => whnf
      refine ⟨_, ⟨by omega, by simpa using huc⟩, ?_⟩
      conv => whnf
      refine ⟨Nat.le_refl 4, ?_⟩
      conv => whnf
      refine CallSt.use hc [] trivial (by decide) rfl ?_
      rintro _ _ ⟨rfl, rfl⟩ _
      conv => whnf
      refine ⟨⟨by omega, by omega⟩, ?_⟩
      conv => whnf
      refine ⟨m - 1, _, _, by omega, ⟨i + 1, mx a (dpT (.mk k' l' n' us)), by omega, ?_, ?_, rfl, rfl⟩, Wk.sel [] (by decide) (by decide) (by decide) trivial ⟨rfl, rfl, rfl, rfl, trivial⟩ rfl⟩
      · unfold mx; split <;> omega
      · rw [← hR, hdr, dpL]
        simp only [mx]
        repeat' split
        all_goals omega
    · replace hb : ¬ (i : Int) < (tcs ts).length := of_decide_eq_false hb
      rw [len_tcs] at hb
      have : ts.length ≤ i := by omega
      rw [List.drop_eq_nil_of_le this] at hR
      have hp := dpL_pos ts
      rw [mx_nil ha] at hR
      have hae : a = dpL ts := hR
      conv => whnf
      refine ⟨⟨by omega, by omega⟩, ?_⟩
      conv => whnf
      refine ⟨rfl, ?_⟩
      conv => whnf
      refine ⟨rfl, ?_⟩
      rw [hae, dpT]
      exact ⟨rfl, rfl⟩
theorem c53 (t : Term) : dpT t ≤ 1000 → CallSt Try.prog 53 [tv t] [] (fun r H' => r = .c (.int .i64 (dpT t)) ∧ H' = []) := by
  induction t using Term.ind with
  | _ t ih =>
  intro hb
  obtain ⟨k, l, n, ts⟩ := t
  replace ih : ∀ u, u ∈ ts → _ := ih
  refine call_pure (E := env 0) (fn := Try.f53) (c := bodyOf Try.f53) (env_ok 0) mixed (by kernel_rfl) (by kernel_rfl) (by kernel_rfl) (by kernel_rfl) (by kernel_rfl) (by kernel_rfl) rfl ?_
  conv => whnf
  unfold dpT at hb
  refine loop_intro (fun m tm H => ∃ (i : Nat) (a : Int), ts.length = m + i ∧ 0 ≤ a ∧ mx a (dpL (ts.drop i)) = dpL ts ∧
      tm = [(4, .c (.int .i64 i)), (3, .c (.int .i64 a)), (1, .ptr 0 0)] ∧ H = [.box [.c (.int .i64 k), .c (.int .i64 l), .c (.int .i64 n), .c (.sl 4 48 (tcs ts))]])
      ts.length _ _ ⟨0, _, by omega, Int.le_refl 0, ?_, rfl, rfl⟩ (Wk.sel [0] (by decide) (by decide) (by decide) ⟨rfl, trivial⟩ ⟨rfl, rfl, rfl, trivial⟩ rfl) ?_
  · have := dpL_pos ts
    simp only [List.drop_zero, mx]
    split <;> omega
  · rintro m tm H ⟨i, a, hi, ha, hR, rfl, rfl⟩
    conv => whnf
    intro hlen
    replace hlen : (tcs ts).length * 48 ≤ 140737488355328 := hlen
    rw [len_tcs] at hlen
    conv => whnf
    refine ⟨fun hb => ?_, fun hb => ?_⟩
    · replace hb : (i : Int) < (tcs ts).length := of_decide_eq_true hb
      rw [len_tcs] at hb
      have hlt : i < ts.length := by omega
      obtain ⟨u, hu⟩ : ∃ u, ts[i]? = some u := ⟨ts[i], List.getElem?_eq_getElem hlt⟩
      have hm := List.mem_of_getElem? hu
      have huc := tcs_at ts i u hu
      have hdr := drop_at hu
      have hub := dpL_mem ts u hm
      have hup := dpT_pos u
      have hc := ih u hm (by omega)
      obtain ⟨k', l', n', us⟩ := u
      conv => whnf
      refine ⟨_, ⟨by omega, by simpa using huc⟩, ?_⟩
      conv => whnf
      refine ⟨Nat.le_refl 4, ?_⟩
      conv => whnf
      refine CallSt.use hc [] trivial (by decide) rfl ?_
      rintro _ _ ⟨rfl, rfl⟩ _
      conv => whnf
      refine ⟨⟨by omega, by omega⟩, ?_⟩
      conv => whnf
      refine ⟨m - 1, _, _, by omega, ⟨i + 1, mx a (dpT (.mk k' l' n' us)), by omega, ?_, ?_, rfl, rfl⟩, Wk.sel [0] (by decide) (by decide) (by decide) ⟨rfl, trivial⟩ ⟨rfl, rfl, rfl, trivial⟩ rfl⟩
      · unfold mx; split <;> omega
      · rw [← hR, hdr, dpL]
        simp only [mx]
        repeat' split
        all_goals omega
    · replace hb : ¬ (i : Int) < (tcs ts).length := of_decide_eq_false hb
      rw [len_tcs] at hb
      have : ts.length ≤ i := by omega
      rw [List.drop_eq_nil_of_le this] at hR
      have hp := dpL_pos ts
      rw [mx_nil ha] at hR
      have hae : a = dpL ts := hR
      conv => whnf
      refine ⟨⟨by omega, by omega⟩, ?_⟩
      conv => whnf
      refine ⟨rfl, ?_⟩
      conv => whnf
      refine ⟨rfl, ?_⟩
      rw [hae, dpT, Int.add_comm]
      exact ⟨rfl, rfl⟩
mutual
def ndT : Term → Int → Int
  | .mk _ _ _ ts, b => mn (ndL ts b 1) (b + 1)
def ndL : List Term → Int → Int → Int
  | [], _, n => n
  | t :: r, b, n => if n ≤ b then ndL r b (n + ndT t (b - n)) else n
end
mutual
theorem ndT_bd : ∀ (t : Term) (b : Int), 0 ≤ b → 1 ≤ ndT t b ∧ ndT t b ≤ b + 1
  | .mk _ _ _ ts, b, hb => by
    have := ndL_bd ts b 1 (by omega)
    unfold ndT mn
    split <;> omega
theorem ndL_bd : ∀ (ts : List Term) (b n : Int), 1 ≤ n ∧ n ≤ b + 1 → 1 ≤ ndL ts b n ∧ ndL ts b n ≤ b + 1
  | [], b, n, h => by simp only [ndL]; omega
  | t :: r, b, n, h => by
    unfold ndL
    split
    · have := ndT_bd t (b - n) (by omega)
      exact ndL_bd r b _ (by omega)
    · omega
end
theorem c49 (t : Term) : ∀ b, 0 ≤ b ∧ b ≤ 1000 → CallSt Try.prog 49 [tv t, .c (.int .i64 b)] [] (fun r H' => r = .c (.int .i64 (ndT t b)) ∧ H' = []) := by
  induction t using Term.ind with
  | _ t ih =>
  intro b hb
  obtain ⟨k, l, n, ts⟩ := t
  replace ih : ∀ u, u ∈ ts → _ := ih
  refine call_pure (E := env 0) (fn := Try.f49) (c := bodyOf Try.f49) (env_ok 0) mixed (by kernel_rfl) (by kernel_rfl) (by kernel_rfl) (by kernel_rfl) (by kernel_rfl) (by kernel_rfl) rfl ?_
  conv => whnf
  refine loop_intro (fun m tm H => ∃ (i : Nat) (a : Int), ts.length = m + i ∧ (1 ≤ a ∧ a ≤ b + 1) ∧ ndL (ts.drop i) b a = ndL ts b 1 ∧
      tm = [(6, .c (.int .i64 i)), (5, .c (.int .i64 a)), (2, .ptr 0 0), (1, .c (.int .i64 b))] ∧ H = [.box [.c (.int .i64 k), .c (.int .i64 l), .c (.int .i64 n), .c (.sl 4 48 (tcs ts))]])
      ts.length _ _ ⟨0, _, by omega, ⟨Int.le_refl 1, by omega⟩, rfl, rfl, rfl⟩ (Wk.sel [0] (by decide) (by decide) (by decide) ⟨rfl, trivial⟩ ⟨rfl, rfl, rfl, rfl, trivial⟩ rfl) ?_
  rintro m tm H ⟨i, a, hi, ha, hR, rfl, rfl⟩
  conv => whnf
  intro hlen
  replace hlen : (tcs ts).length * 48 ≤ 140737488355328 := hlen
  rw [len_tcs] at hlen
  conv => whnf
  refine ⟨fun hc => ?_, fun hc => ?_⟩
  · simp only [len_tcs, Bool.and_eq_true, decide_eq_true_eq] at hc
    obtain ⟨hc, hab⟩ := hc
    have hlt : i < ts.length := by omega
    obtain ⟨u, hu⟩ : ∃ u, ts[i]? = some u := ⟨ts[i], List.getElem?_eq_getElem hlt⟩
    have hm := List.mem_of_getElem? hu
    have huc := tcs_at ts i u hu
    have hdr := drop_at hu
    have hub := ndT_bd u (b - a) (by omega)
    have hcc := ih u hm (b - a) ⟨by omega, by omega⟩
    obtain ⟨k', l', n', us⟩ := u
    conv => whnf
    refine ⟨_, ⟨by omega, by simpa using huc⟩, ?_⟩
    conv => whnf
    refine ⟨Nat.le_refl 4, ?_⟩
    conv => whnf
    refine ⟨⟨by omega, by omega⟩, ?_⟩
    conv => whnf
    refine CallSt.use hcc [] trivial (by decide) rfl ?_
    rintro _ _ ⟨rfl, rfl⟩ _
    conv => whnf
    refine ⟨⟨by omega, by omega⟩, ?_⟩
    conv => whnf
    refine ⟨⟨by omega, by omega⟩, ?_⟩
    conv => whnf
    refine ⟨m - 1, _, _, by omega, ⟨i + 1, a + ndT (.mk k' l' n' us) (b - a), by omega, by omega, ?_, rfl, rfl⟩, Wk.sel [0] (by decide) (by decide) (by decide) ⟨rfl, trivial⟩ ⟨rfl, rfl, rfl, rfl, trivial⟩ rfl⟩
    rw [← hR, hdr, ndL, if_pos hab]
  · conv => whnf
    refine ⟨⟨by omega, by omega⟩, ?_⟩
    conv => whnf
    refine ⟨rfl, ?_⟩
    conv => whnf
    refine ⟨rfl, ?_⟩
    have hae : ndL ts b 1 = a := by
      rw [← hR]
      rcases Nat.lt_or_ge i ts.length with h | h
      · have : ¬ a ≤ b := by
          intro h2
          have h3 : (i : Int) < (tcs ts).length := by rw [len_tcs]; omega
          simp [h2, h3] at hc
        rw [List.drop_eq_getElem_cons h, ndL, if_neg this]
      · rw [List.drop_eq_nil_of_le h, ndL]
    rw [ndT, hae]
    exact ⟨rfl, rfl⟩
def fmB (k l n : Int) (m : Nat) : Bool :=
  if k = 1 then !(!decide ((m : Int) = 0) || !decide (l = 0) || !decide (n = 0))
  else if k = 2 then !(!decide ((m : Int) = 2) || !decide (l = 0) || !decide (n = 0))
  else if k = 3 then !(!decide ((m : Int) = 1) || !decide (l = 0) || !decide (n = 0))
  else if k = 4 then !(decide (l < 1) || decide (3 < l) || decide (n < 0) || decide (9999 < n))
  else false
mutual
def fmT : Term → Int → Bool
  | .mk k l n ts, d => !decide (40 < d) && fmB k l n ts.length && fmL ts d
def fmL : List Term → Int → Bool
  | [], _ => true
  | t :: r, d => fmT t (d + 1) && fmL r d
end
theorem c50 (t : Term) : ∀ d, 0 ≤ d ∧ d ≤ 41 → CallSt Try.prog 50 [tv t, .c (.int .i64 d)] [] (fun r H' => r = .c (.bool (fmT t d)) ∧ H' = []) := by
  induction t using Term.ind with
  | _ t ih =>
  intro d hd
  obtain ⟨k, l, n, ts⟩ := t
  replace ih : ∀ u, u ∈ ts → _ := ih
  refine call_pure (E := env 0) (fn := Try.f50) (c := bodyOf Try.f50) (env_ok 0) mixed (by kernel_rfl) (by kernel_rfl) (by kernel_rfl) (by kernel_rfl) (by kernel_rfl) (by kernel_rfl) rfl ?_
  conv => whnf
  refine ⟨fun h1 => ?_, fun h1 => ?_⟩
  · conv => whnf
    refine ⟨rfl, ?_⟩
    conv => whnf
    refine ⟨rfl, ?_⟩
    simp only [fmT]
    rw [h1]
    exact ⟨rfl, rfl⟩
  replace h1' := of_decide_eq_false h1
  have noB : ∀ v, fmB k l n ts.length = v → fmT (.mk k l n ts) d = (v && fmL ts d) := fun v hv => by rw [fmT, hv, h1]; rfl
  conv => whnf
  refine ⟨fun h2 => ?_, fun h2 => ?_⟩
  replace h2 : k = 1 := of_decide_eq_true h2
  rotate_left
  replace h2 : ¬ k = 1 := of_decide_eq_false h2
  conv => whnf
  refine ⟨fun h3 => ?_, fun h3 => ?_⟩
  replace h3 : k = 2 := of_decide_eq_true h3
  rotate_left
  replace h3 : ¬ k = 2 := of_decide_eq_false h3
  conv => whnf
  refine ⟨fun h4 => ?_, fun h4 => ?_⟩
  replace h4 : k = 3 := of_decide_eq_true h4
  rotate_left
  replace h4 : ¬ k = 3 := of_decide_eq_false h4
  conv => whnf
  refine ⟨fun h5 => ?_, fun h5 => ?_⟩
  replace h5 : k = 4 := of_decide_eq_true h5
  rotate_left
  replace h5 : ¬ k = 4 := of_decide_eq_false h5
  conv => whnf
  · refine ⟨rfl, ?_⟩
    conv => whnf
    refine ⟨rfl, ?_⟩
    rw [noB false (by simp [fmB, *])]
    exact ⟨rfl, rfl⟩
  all_goals conv => whnf
  · intro hlen
    clear hlen
    conv => whnf
    refine ⟨fun h6 => ?_, fun h6 => ?_⟩
    all_goals simp only [Term.k, Term.l, Term.n, Term.ts, len_tcs] at h6
    · conv => whnf
      refine ⟨rfl, ?_⟩
      conv => whnf
      refine ⟨rfl, ?_⟩
      rw [noB false (by rw [fmB, if_pos h2]; exact congrArg not h6)]
      exact ⟨rfl, rfl⟩
    conv => whnf
    refine loop_intro (fun m tm H => ∃ (i : Nat), ts.length = m + i ∧ fmL (ts.drop i) d = fmT (.mk k l n ts) d ∧
      tm = [(5, .c (.int .i64 i)), (2, .ptr 0 0), (1, .c (.int .i64 d)), (4, .c (.bool false))] ∧ H = [.box [.c (.int .i64 k), .c (.int .i64 l), .c (.int .i64 n), .c (.sl 4 48 (tcs ts))]])
      ts.length _ _ ⟨0, by omega, ?_, rfl, rfl⟩ (Wk.sel [0] (by decide) (by decide) (by decide) ⟨rfl, trivial⟩ ⟨rfl, rfl, rfl, rfl, trivial⟩ rfl) ?_
    · rw [noB true (by rw [fmB, if_pos h2]; exact congrArg not h6), Bool.true_and]; rfl
    · rintro m tm H ⟨i, hi, hR, rfl, rfl⟩
      conv => whnf
      intro hlen
      replace hlen : (tcs ts).length * 48 ≤ 140737488355328 := hlen
      rw [len_tcs] at hlen
      conv => whnf
      refine ⟨fun hc => ?_, fun hc => ?_⟩
      · replace hc : (i : Int) < (tcs ts).length := of_decide_eq_true hc
        rw [len_tcs] at hc
        have hlt : i < ts.length := by omega
        obtain ⟨u, hu⟩ : ∃ u, ts[i]? = some u := ⟨ts[i], List.getElem?_eq_getElem hlt⟩
        have hm := List.mem_of_getElem? hu
        have huc := tcs_at ts i u hu
        have hdr := drop_at hu
        have hcc := ih u hm (d + 1) ⟨by omega, by omega⟩
        obtain ⟨k', l', n', us⟩ := u
        rw [hdr, fmL] at hR
        conv => whnf
        refine ⟨_, ⟨by omega, by simpa using huc⟩, ?_⟩
        conv => whnf
        refine ⟨Nat.le_refl 4, ?_⟩
        conv => whnf
        refine ⟨⟨by omega, by omega⟩, ?_⟩
        conv => whnf
        refine CallSt.use hcc [] trivial (by decide) rfl ?_
        rintro _ _ ⟨rfl, rfl⟩ _
        conv => whnf
        refine ⟨fun hf => ?_, fun hf => ?_⟩
        · conv => whnf
          refine ⟨rfl, ?_⟩
          conv => whnf
          refine ⟨rfl, ?_⟩
          rw [← hR, show fmT (.mk k' l' n' us) (d + 1) = false by simpa using hf]
          exact ⟨rfl, rfl⟩
        · conv => whnf
          refine ⟨⟨by omega, by omega⟩, ?_⟩
          conv => whnf
          refine ⟨m - 1, _, _, by omega, ⟨i + 1, by omega, ?_, rfl, rfl⟩, Wk.sel [0] (by decide) (by decide) (by decide) ⟨rfl, trivial⟩ ⟨rfl, rfl, rfl, rfl, trivial⟩ rfl⟩
          rw [← hR, show fmT (.mk k' l' n' us) (d + 1) = true by simpa using hf, Bool.true_and]
      · replace hc : ¬ (i : Int) < (tcs ts).length := of_decide_eq_false hc
        rw [len_tcs] at hc
        conv => whnf
        refine ⟨rfl, ?_⟩
        conv => whnf
        refine ⟨rfl, ?_⟩
        rw [← hR, List.drop_eq_nil_of_le (by omega)]
        exact ⟨rfl, rfl⟩
  · intro hlen
    clear hlen
    conv => whnf
    refine ⟨fun h6 => ?_, fun h6 => ?_⟩
    all_goals simp only [Term.k, Term.l, Term.n, Term.ts, len_tcs] at h6
    · conv => whnf
      refine ⟨rfl, ?_⟩
      conv => whnf
      refine ⟨rfl, ?_⟩
      rw [noB false (by rw [fmB, if_neg h2, if_pos h3]; exact congrArg not h6)]
      exact ⟨rfl, rfl⟩
    conv => whnf
    refine loop_intro (fun m tm H => ∃ (i : Nat), ts.length = m + i ∧ fmL (ts.drop i) d = fmT (.mk k l n ts) d ∧
      tm = [(5, .c (.int .i64 i)), (2, .ptr 0 0), (1, .c (.int .i64 d)), (4, .c (.bool false))] ∧ H = [.box [.c (.int .i64 k), .c (.int .i64 l), .c (.int .i64 n), .c (.sl 4 48 (tcs ts))]])
      ts.length _ _ ⟨0, by omega, ?_, rfl, rfl⟩ (Wk.sel [0] (by decide) (by decide) (by decide) ⟨rfl, trivial⟩ ⟨rfl, rfl, rfl, rfl, trivial⟩ rfl) ?_
    · rw [noB true (by rw [fmB, if_neg h2, if_pos h3]; exact congrArg not h6), Bool.true_and]; rfl
    · rintro m tm H ⟨i, hi, hR, rfl, rfl⟩
      conv => whnf
      intro hlen
      replace hlen : (tcs ts).length * 48 ≤ 140737488355328 := hlen
      rw [len_tcs] at hlen
      conv => whnf
      refine ⟨fun hc => ?_, fun hc => ?_⟩
      · replace hc : (i : Int) < (tcs ts).length := of_decide_eq_true hc
        rw [len_tcs] at hc
        have hlt : i < ts.length := by omega
        obtain ⟨u, hu⟩ : ∃ u, ts[i]? = some u := ⟨ts[i], List.getElem?_eq_getElem hlt⟩
        have hm := List.mem_of_getElem? hu
        have huc := tcs_at ts i u hu
        have hdr := drop_at hu
        have hcc := ih u hm (d + 1) ⟨by omega, by omega⟩
        obtain ⟨k', l', n', us⟩ := u
        rw [hdr, fmL] at hR
        conv => whnf
        refine ⟨_, ⟨by omega, by simpa using huc⟩, ?_⟩
        conv => whnf
        refine ⟨Nat.le_refl 4, ?_⟩
        conv => whnf
        refine ⟨⟨by omega, by omega⟩, ?_⟩
        conv => whnf
        refine CallSt.use hcc [] trivial (by decide) rfl ?_
        rintro _ _ ⟨rfl, rfl⟩ _
        conv => whnf
        refine ⟨fun hf => ?_, fun hf => ?_⟩
        · conv => whnf
          refine ⟨rfl, ?_⟩
          conv => whnf
          refine ⟨rfl, ?_⟩
          rw [← hR, show fmT (.mk k' l' n' us) (d + 1) = false by simpa using hf]
          exact ⟨rfl, rfl⟩
        · conv => whnf
          refine ⟨⟨by omega, by omega⟩, ?_⟩
          conv => whnf
          refine ⟨m - 1, _, _, by omega, ⟨i + 1, by omega, ?_, rfl, rfl⟩, Wk.sel [0] (by decide) (by decide) (by decide) ⟨rfl, trivial⟩ ⟨rfl, rfl, rfl, rfl, trivial⟩ rfl⟩
          rw [← hR, show fmT (.mk k' l' n' us) (d + 1) = true by simpa using hf, Bool.true_and]
      · replace hc : ¬ (i : Int) < (tcs ts).length := of_decide_eq_false hc
        rw [len_tcs] at hc
        conv => whnf
        refine ⟨rfl, ?_⟩
        conv => whnf
        refine ⟨rfl, ?_⟩
        rw [← hR, List.drop_eq_nil_of_le (by omega)]
        exact ⟨rfl, rfl⟩
  · intro hlen
    clear hlen
    conv => whnf
    refine ⟨fun h6 => ?_, fun h6 => ?_⟩
    all_goals simp only [Term.k, Term.l, Term.n, Term.ts, len_tcs] at h6
    · conv => whnf
      refine ⟨rfl, ?_⟩
      conv => whnf
      refine ⟨rfl, ?_⟩
      rw [noB false (by rw [fmB, if_neg h2, if_neg h3, if_pos h4]; exact congrArg not h6)]
      exact ⟨rfl, rfl⟩
    conv => whnf
    refine loop_intro (fun m tm H => ∃ (i : Nat), ts.length = m + i ∧ fmL (ts.drop i) d = fmT (.mk k l n ts) d ∧
      tm = [(5, .c (.int .i64 i)), (2, .ptr 0 0), (1, .c (.int .i64 d)), (4, .c (.bool false))] ∧ H = [.box [.c (.int .i64 k), .c (.int .i64 l), .c (.int .i64 n), .c (.sl 4 48 (tcs ts))]])
      ts.length _ _ ⟨0, by omega, ?_, rfl, rfl⟩ (Wk.sel [0] (by decide) (by decide) (by decide) ⟨rfl, trivial⟩ ⟨rfl, rfl, rfl, rfl, trivial⟩ rfl) ?_
    · rw [noB true (by rw [fmB, if_neg h2, if_neg h3, if_pos h4]; exact congrArg not h6), Bool.true_and]; rfl
    · rintro m tm H ⟨i, hi, hR, rfl, rfl⟩
      conv => whnf
      intro hlen
      replace hlen : (tcs ts).length * 48 ≤ 140737488355328 := hlen
      rw [len_tcs] at hlen
      conv => whnf
      refine ⟨fun hc => ?_, fun hc => ?_⟩
      · replace hc : (i : Int) < (tcs ts).length := of_decide_eq_true hc
        rw [len_tcs] at hc
        have hlt : i < ts.length := by omega
        obtain ⟨u, hu⟩ : ∃ u, ts[i]? = some u := ⟨ts[i], List.getElem?_eq_getElem hlt⟩
        have hm := List.mem_of_getElem? hu
        have huc := tcs_at ts i u hu
        have hdr := drop_at hu
        have hcc := ih u hm (d + 1) ⟨by omega, by omega⟩
        obtain ⟨k', l', n', us⟩ := u
        rw [hdr, fmL] at hR
        conv => whnf
        refine ⟨_, ⟨by omega, by simpa using huc⟩, ?_⟩
        conv => whnf
        refine ⟨Nat.le_refl 4, ?_⟩
        conv => whnf
        refine ⟨⟨by omega, by omega⟩, ?_⟩
        conv => whnf
        refine CallSt.use hcc [] trivial (by decide) rfl ?_
        rintro _ _ ⟨rfl, rfl⟩ _
        conv => whnf
        refine ⟨fun hf => ?_, fun hf => ?_⟩
        · conv => whnf
          refine ⟨rfl, ?_⟩
          conv => whnf
          refine ⟨rfl, ?_⟩
          rw [← hR, show fmT (.mk k' l' n' us) (d + 1) = false by simpa using hf]
          exact ⟨rfl, rfl⟩
        · conv => whnf
          refine ⟨⟨by omega, by omega⟩, ?_⟩
          conv => whnf
          refine ⟨m - 1, _, _, by omega, ⟨i + 1, by omega, ?_, rfl, rfl⟩, Wk.sel [0] (by decide) (by decide) (by decide) ⟨rfl, trivial⟩ ⟨rfl, rfl, rfl, rfl, trivial⟩ rfl⟩
          rw [← hR, show fmT (.mk k' l' n' us) (d + 1) = true by simpa using hf, Bool.true_and]
      · replace hc : ¬ (i : Int) < (tcs ts).length := of_decide_eq_false hc
        rw [len_tcs] at hc
        conv => whnf
        refine ⟨rfl, ?_⟩
        conv => whnf
        refine ⟨rfl, ?_⟩
        rw [← hR, List.drop_eq_nil_of_le (by omega)]
        exact ⟨rfl, rfl⟩
  · refine ⟨fun h6 => ?_, fun h6 => ?_⟩
    all_goals simp only [Term.k, Term.l, Term.n, Term.ts, len_tcs] at h6
    · conv => whnf
      refine ⟨rfl, ?_⟩
      conv => whnf
      refine ⟨rfl, ?_⟩
      rw [noB false (by rw [fmB, if_neg h2, if_neg h3, if_neg h4, if_pos h5]; exact congrArg not h6)]
      exact ⟨rfl, rfl⟩
    conv => whnf
    refine loop_intro (fun m tm H => ∃ (i : Nat), ts.length = m + i ∧ fmL (ts.drop i) d = fmT (.mk k l n ts) d ∧
      tm = [(5, .c (.int .i64 i)), (2, .ptr 0 0), (1, .c (.int .i64 d)), (4, .c (.bool false))] ∧ H = [.box [.c (.int .i64 k), .c (.int .i64 l), .c (.int .i64 n), .c (.sl 4 48 (tcs ts))]])
      ts.length _ _ ⟨0, by omega, ?_, rfl, rfl⟩ (Wk.sel [0] (by decide) (by decide) (by decide) ⟨rfl, trivial⟩ ⟨rfl, rfl, rfl, rfl, trivial⟩ rfl) ?_
    · rw [noB true (by rw [fmB, if_neg h2, if_neg h3, if_neg h4, if_pos h5]; exact congrArg not h6), Bool.true_and]; rfl
    · rintro m tm H ⟨i, hi, hR, rfl, rfl⟩
      conv => whnf
      intro hlen
      replace hlen : (tcs ts).length * 48 ≤ 140737488355328 := hlen
      rw [len_tcs] at hlen
      conv => whnf
      refine ⟨fun hc => ?_, fun hc => ?_⟩
      · replace hc : (i : Int) < (tcs ts).length := of_decide_eq_true hc
        rw [len_tcs] at hc
        have hlt : i < ts.length := by omega
        obtain ⟨u, hu⟩ : ∃ u, ts[i]? = some u := ⟨ts[i], List.getElem?_eq_getElem hlt⟩
        have hm := List.mem_of_getElem? hu
        have huc := tcs_at ts i u hu
        have hdr := drop_at hu
        have hcc := ih u hm (d + 1) ⟨by omega, by omega⟩
        obtain ⟨k', l', n', us⟩ := u
        rw [hdr, fmL] at hR
        conv => whnf
        refine ⟨_, ⟨by omega, by simpa using huc⟩, ?_⟩
        conv => whnf
        refine ⟨Nat.le_refl 4, ?_⟩
        conv => whnf
        refine ⟨⟨by omega, by omega⟩, ?_⟩
        conv => whnf
        refine CallSt.use hcc [] trivial (by decide) rfl ?_
        rintro _ _ ⟨rfl, rfl⟩ _
        conv => whnf
        refine ⟨fun hf => ?_, fun hf => ?_⟩
        · conv => whnf
          refine ⟨rfl, ?_⟩
          conv => whnf
          refine ⟨rfl, ?_⟩
          rw [← hR, show fmT (.mk k' l' n' us) (d + 1) = false by simpa using hf]
          exact ⟨rfl, rfl⟩
        · conv => whnf
          refine ⟨⟨by omega, by omega⟩, ?_⟩
          conv => whnf
          refine ⟨m - 1, _, _, by omega, ⟨i + 1, by omega, ?_, rfl, rfl⟩, Wk.sel [0] (by decide) (by decide) (by decide) ⟨rfl, trivial⟩ ⟨rfl, rfl, rfl, rfl, trivial⟩ rfl⟩
          rw [← hR, show fmT (.mk k' l' n' us) (d + 1) = true by simpa using hf, Bool.true_and]
      · replace hc : ¬ (i : Int) < (tcs ts).length := of_decide_eq_false hc
        rw [len_tcs] at hc
        conv => whnf
        refine ⟨rfl, ?_⟩
        conv => whnf
        refine ⟨rfl, ?_⟩
        rw [← hR, List.drop_eq_nil_of_le (by omega)]
        exact ⟨rfl, rfl⟩
end Go.Tr
/- Check, Size, Proper. -/
namespace Go.Tr
open Go.Proofs
def prop (t : Term) : Bool := (propT t 1 0).1
theorem c14 (t : Term) : CallSt Try.prog 14 [tv t] [] (fun r H' => r = .c (.int .i64 (if prop t then 0 else 2)) ∧ H' = []) := by
  obtain ⟨k, l, n, ts⟩ := t
  refine call_pure (E := env 0) (fn := Try.f14) (c := bodyOf Try.f14) (env_ok 0) mixed (by kernel_rfl) (by kernel_rfl) (by kernel_rfl) (by kernel_rfl) (by kernel_rfl) (by kernel_rfl) rfl ?_
  conv => whnf
  refine CallSt.use (c47 (.mk k l n ts) 1 0 (by omega) (by omega)) [1] ⟨rfl, trivial⟩ (by decide) rfl ?_
  rintro _ _ ⟨rfl, rfl⟩ _
  conv => whnf
  refine ⟨fun h => ?_, fun h => ?_⟩
  · conv => whnf
    refine ⟨rfl, ?_⟩
    conv => whnf
    refine ⟨rfl, ?_⟩
    rw [if_neg (by unfold prop; simpa using h)]
    exact ⟨rfl, rfl⟩
  · conv => whnf
    refine ⟨rfl, ?_⟩
    conv => whnf
    refine ⟨rfl, ?_⟩
    rw [if_pos (by unfold prop; simpa using h)]
    exact ⟨rfl, rfl⟩
mutual
theorem propT_dp : ∀ (t : Term) (d c : Int), (propT t d c).1 = true → dpT t ≤ 41 - d
  | .mk k l n ts, d, c, h => by
    unfold propT at h
    split at h
    · cases h
    · split at h
      · have := propL_dp ts d (c + 1) h (by omega)
        unfold dpT
        omega
      · cases h
theorem propL_dp : ∀ (ts : List Term) (d c : Int), (propL ts d c).1 = true → d ≤ 40 → dpL ts ≤ 40 - d
  | [], d, c, h, hd => by simp only [dpL]; omega
  | t :: r, d, c, h, hd => by
    have h1 := propT_dp t (d + 1) c
    unfold propL at h
    generalize propT t (d + 1) c = x at *
    obtain ⟨b, c'⟩ := x
    cases b
    · cases h
    · have h2 := propL_dp r d c' h hd
      have := h1 rfl
      unfold dpL mx
      split <;> omega
end
theorem c15 (t : Term) : CallSt Try.prog 15 [tv t] [] (fun r H' => r = (if prop t then .tup [.c (.int .i64 (propT t 1 0).2), .c (.int .i64 (dpT t)), .c (.int .i64 0)] else .tup [.c (.int .i64 0), .c (.int .i64 0), .c (.int .i64 2)]) ∧ H' = []) := by
  have hdp := propT_dp t 1 0
  obtain ⟨k, l, n, ts⟩ := t
  refine call_pure (E := env 0) (fn := Try.f15) (c := bodyOf Try.f15) (env_ok 0) mixed (by kernel_rfl) (by kernel_rfl) (by kernel_rfl) (by kernel_rfl) (by kernel_rfl) (by kernel_rfl) rfl ?_
  conv => whnf
  refine CallSt.use (c47 (.mk k l n ts) 1 0 (by omega) (by omega)) [1] ⟨rfl, trivial⟩ (by decide) rfl ?_
  rintro _ _ ⟨rfl, rfl⟩ _
  conv => whnf
  refine ⟨fun h => ?_, fun h => ?_⟩
  · conv => whnf
    refine ⟨rfl, ?_⟩
    conv => whnf
    refine ⟨rfl, ?_⟩
    rw [if_neg (by unfold prop; simpa using h)]
    exact ⟨rfl, rfl⟩
  · have h' : (propT (.mk k l n ts) 1 0).1 = true := by simpa using h
    have hdp := hdp h'
    conv => whnf
    refine draw_intro true (by kernel_rfl) ?_
    conv => whnf
    refine CallSt.use (c48 (.mk k l n ts) (by omega)) [] trivial (by decide) rfl ?_
    rintro _ _ ⟨rfl, rfl⟩ _
    conv => whnf
    refine ⟨rfl, ?_⟩
    conv => whnf
    refine ⟨rfl, ?_⟩
    rw [if_pos (by unfold prop; exact h')]
    exact ⟨rfl, rfl⟩
def rprop (t : Term) : Bool := decide (ndT t 600 ≤ 600) && fmT t 1
theorem c16 (t : Term) : CallSt Try.prog 16 [tv t] [] (fun r H' => r = .c (.bool (rprop t)) ∧ H' = []) := by
  obtain ⟨k, l, n, ts⟩ := t
  refine call_pure (E := env 0) (fn := Try.f16) (c := bodyOf Try.f16) (env_ok 0) mixed (by kernel_rfl) (by kernel_rfl) (by kernel_rfl) (by kernel_rfl) (by kernel_rfl) (by kernel_rfl) rfl ?_
  conv => whnf
  refine CallSt.use (c49 (.mk k l n ts) 600 (by omega)) [] trivial (by decide) rfl ?_
  rintro _ _ ⟨rfl, rfl⟩ _
  conv => whnf
  refine ⟨fun h => ?_, fun h => ?_⟩
  · conv => whnf
    refine CallSt.use (c50 (.mk k l n ts) 1 (by omega)) [] trivial (by decide) rfl ?_
    rintro _ _ ⟨rfl, rfl⟩ _
    conv => whnf
    refine ⟨rfl, ?_⟩
    conv => whnf
    refine ⟨rfl, ?_⟩
    have h' := of_decide_eq_true h
    rw [rprop, decide_eq_true h']
    exact ⟨rfl, rfl⟩
  · conv => whnf
    refine ⟨rfl, ?_⟩
    conv => whnf
    refine ⟨rfl, ?_⟩
    have h' := of_decide_eq_false h
    rw [rprop, decide_eq_false h']
    exact ⟨rfl, rfl⟩
theorem c18 (t : Term) (hd : dpT t ≤ 1000) : CallSt Try.prog 18 [tv t] [] (fun r H' => r = .tup [.c (.int .i64 (ndT t 600)), .c (.int .i64 (dpT t))] ∧ H' = []) := by
  obtain ⟨k, l, n, ts⟩ := t
  refine call_pure (E := env 0) (fn := Try.f18) (c := bodyOf Try.f18) (env_ok 0) mixed (by kernel_rfl) (by kernel_rfl) (by kernel_rfl) (by kernel_rfl) (by kernel_rfl) (by kernel_rfl) rfl ?_
  conv => whnf
  refine draw_intro true (by kernel_rfl) ?_
  conv => whnf
  refine CallSt.use (c49 (.mk k l n ts) 600 (by omega)) [] trivial (by decide) rfl ?_
  rintro _ _ ⟨rfl, rfl⟩ _
  conv => whnf
  refine CallSt.use (c53 (.mk k l n ts) hd) [] trivial (by decide) rfl ?_
  rintro _ _ ⟨rfl, rfl⟩ _
  conv => whnf
  refine ⟨rfl, ?_⟩
  conv => whnf
  exact ⟨rfl, rfl, rfl⟩
end Go.Tr
/- App, Lam, Under, Same, gives. -/
namespace Go.Tr
open Go.Proofs
theorem c46 (a b : Int) (ts : List Term) : CallSt Try.prog 46 [.c (.int .i64 a), .c (.int .i64 b), .c (.sl 4 48 (tcs ts))] [] (fun r H' => r = tv (.mk 4 a b ts) ∧ H' = []) := by
  refine call_pure (E := env 0) (fn := Try.f46) (c := bodyOf Try.f46) (env_ok 0) mixed (by kernel_rfl) (by kernel_rfl) (by kernel_rfl) (by kernel_rfl) (by kernel_rfl) (by kernel_rfl) rfl ?_
  conv => whnf
  refine ⟨rfl, ?_⟩
  conv => whnf
  exact ⟨rfl, rfl, rfl⟩
theorem c52 (t : Term) : CallSt Try.prog 52 [tv t] [] (fun r H' => r = tv (.mk 3 0 0 [t]) ∧ H' = []) := by
  obtain ⟨k, l, n, ts⟩ := t
  refine call_pure (E := env 0) (fn := Try.f52) (c := bodyOf Try.f52) (env_ok 0) mixed (by kernel_rfl) (by kernel_rfl) (by kernel_rfl) (by kernel_rfl) (by kernel_rfl) (by kernel_rfl) rfl ?_
  conv => whnf
  refine ⟨by decide, ?_⟩
  conv => whnf
  refine ⟨by decide, ?_⟩
  conv => whnf
  refine ⟨rfl, ?_⟩
  conv => whnf
  exact ⟨rfl, rfl, rfl⟩
theorem c51 (n : Int) : CallSt Try.prog 51 [.c (.int .i64 n)] [] (fun r H' => r = tv (.mk 4 1 n []) ∧ H' = []) := by
  refine call_pure (E := env 0) (fn := Try.f51) (c := bodyOf Try.f51) (env_ok 0) mixed (by kernel_rfl) (by kernel_rfl) (by kernel_rfl) (by kernel_rfl) (by kernel_rfl) (by kernel_rfl) rfl ?_
  conv => whnf
  refine CallSt.use (c46 1 n []) [] trivial (by decide) rfl ?_
  rintro _ _ ⟨rfl, rfl⟩ _
  conv => whnf
  refine ⟨rfl, ?_⟩
  conv => whnf
  exact ⟨rfl, rfl, rfl⟩
theorem tv_mk (k l n : Int) (ts : List Term) : tv (.mk k l n ts) = .agg [.c (.int .i64 k), .c (.int .i64 l), .c (.int .i64 n), .c (.sl 4 48 (tcs ts))] := rfl
def unT (k i : Int) : Int := if k = 3 ∨ (k = 2 ∧ i = 1) then 1 else 0
theorem unT_bd (k i : Int) : 0 ≤ unT k i ∧ unT k i ≤ 1 := by unfold unT; split <;> omega
theorem c77 (t : Term) (i : Int) : CallSt Try.prog 77 [tv t, .c (.int .i64 i)] [] (fun r H' => r = .c (.int .i64 (unT t.k i)) ∧ H' = []) := by
  obtain ⟨k, l, n, ts⟩ := t
  rw [tv_mk]
  refine call_pure (E := env 0) (fn := Try.f77) (c := bodyOf Try.f77) (env_ok 0) mixed (by kernel_rfl) (by kernel_rfl) (by kernel_rfl) (by kernel_rfl) (by kernel_rfl) (by kernel_rfl) rfl ?_
  have key : (decide (k = 3) || (decide (k = 2) && decide (i = 1))) = decide (unT k i = 1) := by
    unfold unT
    by_cases h1 : k = 3 <;> by_cases h2 : k = 2 <;> by_cases h3 : i = 1 <;> simp [h1, h2, h3]
  conv => whnf
  refine ⟨fun h => ?_, fun h => ?_⟩
  · conv => whnf
    refine ⟨rfl, ?_⟩
    conv => whnf
    refine ⟨rfl, ?_⟩
    have h2 := of_decide_eq_true (key.symm.trans h)
    simp only [Term.k]
    rw [h2]
    exact ⟨rfl, rfl⟩
  · conv => whnf
    refine ⟨rfl, ?_⟩
    conv => whnf
    refine ⟨rfl, ?_⟩
    have h2 := of_decide_eq_false (key.symm.trans h)
    simp only [Term.k]
    rw [show unT k i = 0 by have := unT_bd k i; omega]
    exact ⟨rfl, rfl⟩
mutual
def sameT : Term → Term → Bool
  | .mk k l n ts, .mk k' l' n' us => decide (k = k') && decide (l = l') && decide (n = n') && decide (ts.length = us.length) && sameL ts us
def sameL : List Term → List Term → Bool
  | t :: r, u :: s => sameT t u && sameL r s
  | _, _ => true
end
mutual
theorem sameT_iff : ∀ (t u : Term), sameT t u = true ↔ t = u
  | .mk k l n ts, .mk k' l' n' us => by
    unfold sameT
    simp only [Bool.and_eq_true, decide_eq_true_eq, Term.mk.injEq]
    constructor
    · rintro ⟨⟨⟨⟨h1, h2⟩, h3⟩, h4⟩, h5⟩
      exact ⟨h1, h2, h3, (sameL_iff ts us h4).1 h5⟩
    · rintro ⟨h1, h2, h3, h4⟩
      exact ⟨⟨⟨⟨h1, h2⟩, h3⟩, by rw [h4]⟩, (sameL_iff ts us (by rw [h4])).2 h4⟩
theorem sameL_iff : ∀ (ts us : List Term), ts.length = us.length → (sameL ts us = true ↔ ts = us)
  | [], [], _ => by simp [sameL]
  | t :: r, u :: s, h => by
    unfold sameL
    simp only [Bool.and_eq_true, List.cons.injEq]
    rw [sameT_iff t u, sameL_iff r s (by simpa using h)]
  | [], _ :: _, h => by simp at h
  | _ :: _, [], h => by simp at h
end
theorem c23 (t : Term) : ∀ u : Term, CallSt Try.prog 23 [tv t, tv u] [] (fun r H' => r = .c (.bool (sameT t u)) ∧ H' = []) := by
  induction t using Term.ind with
  | _ t ih =>
  intro u
  obtain ⟨k, l, n, ts⟩ := t
  obtain ⟨k2, l2, n2, us⟩ := u
  replace ih : ∀ u, u ∈ ts → _ := ih
  rw [tv_mk, tv_mk]
  refine call_pure (E := env 0) (fn := Try.f23) (c := bodyOf Try.f23) (env_ok 0) mixed (by kernel_rfl) (by kernel_rfl) (by kernel_rfl) (by kernel_rfl) (by kernel_rfl) (by kernel_rfl) rfl ?_
  conv => whnf
  intro hl1
  conv => whnf
  intro hl2
  clear hl1 hl2
  conv => whnf
  have key : (!decide (k = k2) || !decide (l = l2) || !decide (n = n2) || !decide (((tcs ts).length : Int) = (tcs us).length)) = !(decide (k = k2) && decide (l = l2) && decide (n = n2) && decide (ts.length = us.length)) := by
    rw [len_tcs, len_tcs, show decide ((ts.length : Int) = us.length) = decide (ts.length = us.length) by simp only [Int.natCast_inj]]
    simp only [Bool.not_and]
  refine ⟨fun h => ?_, fun h => ?_⟩
  · conv => whnf
    refine ⟨rfl, ?_⟩
    conv => whnf
    refine ⟨rfl, ?_⟩
    have h2 := key.symm.trans h
    rw [Bool.not_eq_true'] at h2
    unfold sameT
    rw [h2]
    exact ⟨rfl, rfl⟩
  · have h2 := key.symm.trans h
    rw [Bool.not_eq_false'] at h2
    have hle : ts.length = us.length := by
      simp only [Bool.and_eq_true, decide_eq_true_eq] at h2
      exact h2.2
    have hs : sameT (.mk k l n ts) (.mk k2 l2 n2 us) = sameL ts us := by rw [sameT, h2, Bool.true_and]
    conv => whnf
    refine loop_intro (fun m tm H => ∃ (i : Nat), ts.length = m + i ∧ sameL (ts.drop i) (us.drop i) = sameL ts us ∧
      tm = [(5, .c (.int .i64 i)), (2, .ptr 0 0), (3, .ptr 1 0), (4, .c (.bool false))] ∧ H = [.box [.c (.int .i64 k), .c (.int .i64 l), .c (.int .i64 n), .c (.sl 4 48 (tcs ts))], .box [.c (.int .i64 k2), .c (.int .i64 l2), .c (.int .i64 n2), .c (.sl 4 48 (tcs us))]])
      ts.length _ _ ⟨0, by omega, rfl, rfl, rfl⟩ (Wk.sel [0, 1] (by decide) (by decide) (by decide) ⟨rfl, rfl, trivial⟩ ⟨rfl, rfl, rfl, rfl, trivial⟩ rfl) ?_
    rintro m tm H ⟨i, hi, hR, rfl, rfl⟩
    conv => whnf
    intro hlen
    replace hlen : (tcs ts).length * 48 ≤ 140737488355328 := hlen
    rw [len_tcs] at hlen
    conv => whnf
    refine ⟨fun hc => ?_, fun hc => ?_⟩
    · replace hc : (i : Int) < (tcs ts).length := of_decide_eq_true hc
      rw [len_tcs] at hc
      have hlt : i < ts.length := by omega
      obtain ⟨u, hu⟩ : ∃ u, ts[i]? = some u := ⟨ts[i], List.getElem?_eq_getElem hlt⟩
      obtain ⟨v, hv⟩ : ∃ v, us[i]? = some v := ⟨us[i], List.getElem?_eq_getElem (by omega)⟩
      have hm := List.mem_of_getElem? hu
      have huc := tcs_at ts i u hu
      have hvc := tcs_at us i v hv
      rw [drop_at hu, drop_at hv, sameL] at hR
      have hcc := ih u hm v
      obtain ⟨k', l', n', us'⟩ := u
      obtain ⟨k3, l3, n3, us3⟩ := v
      conv => whnf
      refine draw_intro true (by kernel_rfl) ?_
      conv => whnf
      refine ⟨_, ⟨by omega, by simpa using huc⟩, ?_⟩
      conv => whnf
      refine ⟨Nat.le_refl 4, ?_⟩
      conv => whnf
      refine ⟨_, ⟨by omega, by simpa using hvc⟩, ?_⟩
      conv => whnf
      refine ⟨Nat.le_refl 4, ?_⟩
      conv => whnf
      refine CallSt.use hcc [] trivial (by decide) rfl ?_
      rintro _ _ ⟨rfl, rfl⟩ _
      conv => whnf
      refine ⟨fun hf => ?_, fun hf => ?_⟩
      · conv => whnf
        refine ⟨rfl, ?_⟩
        conv => whnf
        refine ⟨rfl, ?_⟩
        rw [hs, ← hR, show sameT (.mk k' l' n' us') (.mk k3 l3 n3 us3) = false by simpa using hf]
        exact ⟨rfl, rfl⟩
      · conv => whnf
        refine ⟨⟨by omega, by omega⟩, ?_⟩
        conv => whnf
        refine ⟨m - 1, _, _, by omega, ⟨i + 1, by omega, ?_, rfl, rfl⟩, Wk.sel [0, 1] (by decide) (by decide) (by decide) ⟨rfl, rfl, trivial⟩ ⟨rfl, rfl, rfl, rfl, trivial⟩ rfl⟩
        rw [← hR, show sameT (.mk k' l' n' us') (.mk k3 l3 n3 us3) = true by simpa using hf, Bool.true_and]
    · replace hc : ¬ (i : Int) < (tcs ts).length := of_decide_eq_false hc
      rw [len_tcs] at hc
      conv => whnf
      refine ⟨rfl, ?_⟩
      conv => whnf
      refine ⟨rfl, ?_⟩
      rw [hs, ← hR, List.drop_eq_nil_of_le (by omega), List.drop_eq_nil_of_le (by omega)]
      exact ⟨rfl, rfl⟩
theorem c21 (t u : Term) (e f : Int) : CallSt Try.prog 21 [tv t, .c (.int .i64 e), tv u, .c (.int .i64 f)] [] (fun r H' => r = .c (.bool (sameT t u && decide (e = f))) ∧ H' = []) := by
  have hc := c23 t u
  obtain ⟨k, l, n, ts⟩ := t
  obtain ⟨k2, l2, n2, us⟩ := u
  refine call_pure (E := env 0) (fn := Try.f21) (c := bodyOf Try.f21) (env_ok 0) mixed (by kernel_rfl) (by kernel_rfl) (by kernel_rfl) (by kernel_rfl) (by kernel_rfl) (by kernel_rfl) rfl ?_
  conv => whnf
  refine CallSt.use hc [] trivial (by decide) rfl ?_
  rintro _ _ ⟨rfl, rfl⟩ _
  conv => whnf
  refine ⟨rfl, ?_⟩
  conv => whnf
  exact ⟨rfl, rfl, rfl⟩
end Go.Tr
/- Each, Map. -/
namespace Go.Tr
open Go.Proofs
mutual
def eachT {σ : Type} (step : σ → Term → Int → σ) : Term → Int → σ → σ
  | .mk k l n ts, i, s => eachL step k i 0 ts (step s (.mk k l n ts) i)
def eachL {σ : Type} (step : σ → Term → Int → σ) (k i : Int) : Int → List Term → σ → σ
  | _, [], s => s
  | j, t :: r, s => eachL step k i (j + 1) r (eachT step t (i + unT k j) s)
end
theorem c54 {σ : Type} (f : FuncId) (x0 x1 x2 x3 : σ → CV) (step : σ → Term → Int → σ) (ok : Term → Int → Prop) (hok : ∀ t i, ok t i → (0 ≤ i ∧ i ≤ 1000000000) ∧ ∀ (j : Nat) u, t.ts[j]? = some u → ok u (i + unT t.k j))
    (hf : ∀ s t i, ok t i → CallSt Try.prog f [tv t, .c (.int .i64 i), .ptr 0 0, .ptr 1 0, .ptr 2 0, .ptr 3 0] [.box [.c (x0 s)], .box [.c (x1 s)], .box [.c (x2 s)], .box [.c (x3 s)]]
      (fun r H' => r = .tup [] ∧ H' = [.box [.c (x0 (step s t i))], .box [.c (x1 (step s t i))], .box [.c (x2 (step s t i))], .box [.c (x3 (step s t i))]])) (t : Term) :
    ∀ (i : Int) (s : σ), ok t i → CallSt Try.prog 54 [tv t, .c (.int .i64 i), .fn f [.ptr 0 0, .ptr 1 0, .ptr 2 0, .ptr 3 0]] [.box [.c (x0 s)], .box [.c (x1 s)], .box [.c (x2 s)], .box [.c (x3 s)]]
      (fun r H' => r = .tup [] ∧ H' = [.box [.c (x0 (eachT step t i s))], .box [.c (x1 (eachT step t i s))], .box [.c (x2 (eachT step t i s))], .box [.c (x3 (eachT step t i s))]]) := by
  induction t using Term.ind with
  | _ t ih =>
  intro i s hti
  have hff := hf s t i hti
  obtain ⟨hib, hch⟩ := hok t i hti
  obtain ⟨k, l, n, ts⟩ := t
  replace ih : ∀ u, u ∈ ts → _ := ih
  rw [tv_mk]
  refine call_pure (E := env 4) (fn := Try.f54) (c := bodyOf Try.f54) (env_ok 4) mixed (by kernel_rfl) (by kernel_rfl) (by kernel_rfl) (by kernel_rfl) (by kernel_rfl) (by kernel_rfl) rfl ?_
  conv => whnf
  refine CallSt.use hff [0, 1, 2, 3] ⟨rfl, rfl, rfl, rfl, trivial⟩ (by decide) rfl ?_
  rintro _ _ ⟨rfl, rfl⟩ _
  conv => whnf
  intro hlen
  replace hlen : (tcs ts).length * 48 ≤ 140737488355328 := hlen
  rw [len_tcs] at hlen
  conv => whnf
  refine loop_intro (fun m tm H => ∃ (j : Nat) (s' : σ), ts.length = m + j ∧ eachL step k i j (ts.drop j) s' = eachT step (.mk k l n ts) i s ∧
      tm = [(15, .c (.int .i64 j)), (13, .c (.sl 4 48 (tcs ts))), (14, .c (.int .i64 (tcs ts).length)), (1, .c (.int .i64 i)), (2, .fn f [.ptr 0 0, .ptr 1 0, .ptr 2 0, .ptr 3 0]), (3, .ptr 4 0)] ∧
      H = [.box [.c (x0 s')], .box [.c (x1 s')], .box [.c (x2 s')], .box [.c (x3 s')], .box [.c (.int .i64 k), .c (.int .i64 l), .c (.int .i64 n), .c (.sl 4 48 (tcs ts))]])
      ts.length _ _ ⟨0, _, by omega, rfl, rfl, rfl⟩ (Wk.sel [0, 1, 2, 3, 4] (by decide) (by decide) (by decide) ⟨rfl, rfl, rfl, rfl, rfl, trivial⟩ ⟨rfl, rfl, rfl, rfl, rfl, rfl, trivial⟩ rfl) ?_
  rintro m tm H ⟨j, s', hj, hR, rfl, rfl⟩
  conv => whnf
  refine ⟨fun hc => ?_, fun hc => ?_⟩
  · replace hc : (j : Int) < (tcs ts).length := of_decide_eq_true hc
    rw [len_tcs] at hc
    have hlt : j < ts.length := by omega
    obtain ⟨u, hu⟩ : ∃ u, ts[j]? = some u := ⟨ts[j], List.getElem?_eq_getElem hlt⟩
    have hm := List.mem_of_getElem? hu
    have huc := tcs_at ts j u hu
    have hcc := ih u hm (i + unT k j) s' (hch j u hu)
    have hun := c77 (.mk k l n ts) j
    have hub := unT_bd k j
    rw [drop_at hu, eachL] at hR
    obtain ⟨k', l', n', us⟩ := u
    conv => whnf
    refine ⟨_, ⟨by omega, by simpa using huc⟩, ?_⟩
    conv => whnf
    refine ⟨Nat.le_refl 4, ?_⟩
    conv => whnf
    refine draw_intro true (by kernel_rfl) ?_
    conv => whnf
    refine CallSt.use hun [] trivial (by decide) rfl ?_
    rintro _ _ ⟨rfl, rfl⟩ _
    conv => whnf
    refine ⟨⟨by simp only [Term.k]; omega, by simp only [Term.k]; omega⟩, ?_⟩
    conv => whnf
    refine CallSt.use hcc [0, 1, 2, 3] ⟨rfl, rfl, rfl, rfl, trivial⟩ (by decide) rfl ?_
    rintro _ _ ⟨rfl, rfl⟩ _
    conv => whnf
    refine ⟨⟨by omega, by omega⟩, ?_⟩
    conv => whnf
    refine ⟨m - 1, _, _, by omega, ⟨j + 1, _, by omega, hR, rfl, rfl⟩, Wk.sel [0, 1, 2, 3, 4] (by decide) (by decide) (by decide) ⟨rfl, rfl, rfl, rfl, rfl, trivial⟩ ⟨rfl, rfl, rfl, rfl, rfl, rfl, trivial⟩ rfl⟩
  · replace hc : ¬ (j : Int) < (tcs ts).length := of_decide_eq_false hc
    rw [len_tcs] at hc
    conv => whnf
    refine ⟨rfl, ?_⟩
    conv => whnf
    refine ⟨rfl, ?_⟩
    rw [List.drop_eq_nil_of_le (by omega), eachL] at hR
    rw [← hR]
    exact ⟨rfl, rfl⟩
mutual
def mapT (g : Int → Int → Int → Int → Int × Int × Int) : Term → Int → Term
  | .mk k l n ts, i => .mk (g k l n i).1 (g k l n i).2.1 (g k l n i).2.2 (mapL g k i 0 ts)
def mapL (g : Int → Int → Int → Int → Int × Int × Int) (k i : Int) : Int → List Term → List Term
  | _, [] => []
  | j, t :: r => mapT g t (i + unT k j) :: mapL g k i (j + 1) r
end
theorem tcs_snoc (ts : List Term) (u : Term) : tcs ts ++ [tc u] = tcs (ts ++ [u]) := by
  induction ts with
  | nil => simp [tcs]
  | cons t r ih => simp only [tcs, List.cons_append, ih]
theorem mapL_len (g : Int → Int → Int → Int → Int × Int × Int) (k i : Int) : ∀ (ts : List Term) (j : Int), (mapL g k i j ts).length = ts.length
  | [], j => by simp [mapL]
  | t :: r, j => by simp [mapL, mapL_len g k i r]
theorem c78 (f : FuncId) (x0 x1 : CV) (g : Int → Int → Int → Int → Int × Int × Int) (ok : Term → Int → Prop) (hok : ∀ t i, ok t i → (0 ≤ i ∧ i ≤ 1000000000) ∧ ∀ (j : Nat) u, t.ts[j]? = some u → ok u (i + unT t.k j))
    (hf : ∀ t i, ok t i → CallSt Try.prog f [.agg [.c (.int .i64 t.k), .c (.int .i64 t.l), .c (.int .i64 t.n), .nil], .c (.int .i64 i), .ptr 0 0, .ptr 1 0] [.box [.c x0], .box [.c x1]]
      (fun r H' => r = .agg [.c (.int .i64 (g t.k t.l t.n i).1), .c (.int .i64 (g t.k t.l t.n i).2.1), .c (.int .i64 (g t.k t.l t.n i).2.2), .nil] ∧ H' = [.box [.c x0], .box [.c x1]])) (t : Term) :
    ∀ (i : Int), ok t i → CallSt Try.prog 78 [tv t, .c (.int .i64 i), .fn f [.ptr 0 0, .ptr 1 0]] [.box [.c x0], .box [.c x1]]
      (fun r H' => r = tv (mapT g t i) ∧ H' = [.box [.c x0], .box [.c x1]]) := by
  induction t using Term.ind with
  | _ t ih =>
  intro i hti
  have hff := hf t i hti
  obtain ⟨hib, hch⟩ := hok t i hti
  obtain ⟨k, l, n, ts⟩ := t
  replace ih : ∀ u, u ∈ ts → _ := ih
  rw [tv_mk]
  refine call_pure (E := envK 2) (fn := Try.f78) (c := bodyOf Try.f78) (envK_ok 2) mixed (by kernel_rfl) (by kernel_rfl) (by kernel_rfl) (by kernel_rfl) (by kernel_rfl) (by kernel_rfl) rfl ?_
  conv => whnf
  refine CallSt.use hff [0, 1] ⟨rfl, rfl, trivial⟩ (by decide) rfl ?_
  rintro _ _ ⟨rfl, rfl⟩ _
  simp only [Term.k, Term.l, Term.n]
  generalize hg : g k l n i = y
  obtain ⟨y1, y2, y3⟩ := y
  conv => whnf
  intro hlen
  replace hlen : (tcs ts).length * 48 ≤ 140737488355328 := hlen
  rw [len_tcs] at hlen
  conv => whnf
  refine loop_intro (fun m tm H => ∃ (j : Nat) (us : List Term), ts.length = m + j ∧ us.length = j ∧ us ++ mapL g k i j (ts.drop j) = mapL g k i 0 ts ∧
      tm = [(23, .c (.int .i64 j)), (21, .c (.sl 4 48 (tcs ts))), (22, .c (.int .i64 (tcs ts).length)), (1, .c (.int .i64 i)), (2, .fn f [.ptr 0 0, .ptr 1 0]), (3, .ptr 2 0), (6, .ptr 3 0), (7, .ptr 4 0)] ∧
      H = [.box [.c x0], .box [.c x1], .box [.c (.int .i64 k), .c (.int .i64 l), .c (.int .i64 n), .c (.sl 4 48 (tcs ts))], .box [.c (.int .i64 0), .c (.int .i64 0), .c (.int .i64 0), .nil],
        .box [.c (.int .i64 y1), .c (.int .i64 y2), .c (.int .i64 y3), .own 5], .row 24 4 48 (tcs us)])
      ts.length _ _ ⟨0, [], by omega, rfl, rfl, rfl, rfl⟩ ?_ ?_
  · refine Wk.trans (H1 := [.box [.c x0], .box [.c x1], .box [.c (.int .i64 k), .c (.int .i64 l), .c (.int .i64 n), .c (.sl 4 48 (tcs ts))], .box [.c (.int .i64 0), .c (.int .i64 0), .c (.int .i64 0), .nil],
        .box [.c (.int .i64 y1), .c (.int .i64 y2), .c (.int .i64 y3), .nil]]) ?_ (Wk.nilrow' 4 3 24 4 48 rfl rfl rfl rfl)
    exact Wk.sel [0, 1, 2, 3, 4] (by decide) (by decide) (by decide) ⟨rfl, rfl, rfl, rfl, rfl, trivial⟩ ⟨rfl, rfl, rfl, rfl, rfl, rfl, rfl, rfl, trivial⟩ rfl
  rintro m tm H ⟨j, us, hj, hus, hR, rfl, rfl⟩
  conv => whnf
  refine ⟨fun hc => ?_, fun hc => ?_⟩
  · replace hc : (j : Int) < (tcs ts).length := of_decide_eq_true hc
    rw [len_tcs] at hc
    have hlt : j < ts.length := by omega
    obtain ⟨u, hu⟩ : ∃ u, ts[j]? = some u := ⟨ts[j], List.getElem?_eq_getElem hlt⟩
    have hm := List.mem_of_getElem? hu
    have huc := tcs_at ts j u hu
    have hcc := ih u hm (i + unT k j) (hch j u hu)
    have hun := c77 (.mk k l n ts) j
    have hub := unT_bd k j
    rw [drop_at hu, mapL] at hR
    obtain ⟨k', l', n', us'⟩ := u
    conv => whnf
    refine ⟨_, ⟨by omega, by simpa using huc⟩, ?_⟩
    conv => whnf
    refine ⟨Nat.le_refl 4, ?_⟩
    conv => whnf
    refine draw_intro true (by kernel_rfl) ?_
    conv => whnf
    refine CallSt.use hun [] trivial (by decide) rfl ?_
    rintro _ _ ⟨rfl, rfl⟩ _
    conv => whnf
    refine ⟨⟨by simp only [Term.k]; omega, by simp only [Term.k]; omega⟩, ?_⟩
    conv => whnf
    refine CallSt.use hcc [0, 1] ⟨rfl, rfl, trivial⟩ (by decide) rfl ?_
    rintro _ _ ⟨rfl, rfl⟩ _
    generalize hv : mapT g (.mk k' l' n' us') (i + unT k j) = v at *
    obtain ⟨k3, l3, n3, us3⟩ := v
    conv => whnf
    refine ⟨by decide, ?_⟩
    conv => whnf
    refine ⟨by decide, ?_⟩
    conv => whnf
    have hl1 : (tcs us).length = j := by rw [len_tcs, hus]
    have hl2 : ((tcs us).length + 1) * 48 ≤ 140737488355328 := by omega
    have hl3 : (tcs us).length + 1 ≤ 9223372036854775807 := by omega
    refine ⟨hl2, hl3, ?_⟩
    conv => whnf
    refine ⟨⟨by omega, by omega⟩, ?_⟩
    conv => whnf
    refine ⟨m - 1, _, _, by omega, ⟨j + 1, us ++ [.mk k3 l3 n3 us3], by omega, by simp [hus], ?_, rfl, rfl⟩, Wk.sel [0, 1, 2, 3, 4, 8] (by decide) (by decide) (by decide) ⟨rfl, rfl, rfl, rfl, rfl, ?_, trivial⟩ ⟨rfl, rfl, rfl, rfl, rfl, rfl, rfl, rfl, trivial⟩ rfl⟩
    · rw [← hR, List.append_assoc]
      rfl
    · rw [← tcs_snoc]
      rfl
  · replace hc : ¬ (j : Int) < (tcs ts).length := of_decide_eq_false hc
    rw [len_tcs] at hc
    conv => whnf
    refine ⟨rfl, ?_⟩
    conv => whnf
    refine ⟨rfl, ?_⟩
    rw [List.drop_eq_nil_of_le (by omega), mapL, List.append_nil] at hR
    rw [mapT, hg, ← hR]
    exact ⟨rfl, rfl⟩
end Go.Tr
/- Shift. -/
namespace Go.Tr
open Go.Proofs
mutual
def bnT : Term → Prop
  | .mk _ _ n ts => (-1000000 ≤ n ∧ n ≤ 1000000) ∧ bnL ts
def bnL : List Term → Prop
  | [] => True
  | t :: r => bnT t ∧ bnL r
end
theorem bnL_mem : ∀ {ts : List Term}, bnL ts → ∀ u ∈ ts, bnT u
  | [], _, u, h => by cases h
  | t :: r, hb, u, h => by
    rw [bnL] at hb
    rcases List.mem_cons.1 h with rfl | h
    · exact hb.1
    · exact bnL_mem hb.2 u h
def okT (t : Term) (i : Int) : Prop := bnT t ∧ 0 ≤ i ∧ i + dpT t ≤ 1000000
theorem okT_step (t : Term) (i : Int) (h : okT t i) : (0 ≤ i ∧ i ≤ 1000000000) ∧ ∀ (j : Nat) u, t.ts[j]? = some u → okT u (i + unT t.k j) := by
  obtain ⟨h1, h2, h3⟩ := h
  have hp := dpT_pos t
  refine ⟨by omega, fun j u hu => ?_⟩
  obtain ⟨k, l, n, ts⟩ := t
  have hm := List.mem_of_getElem? hu
  simp only [Term.ts] at hm
  rw [bnT] at h1
  rw [dpT] at h3
  have hub := unT_bd k j
  have hd := dpL_mem ts u hm
  exact ⟨bnL_mem h1.2 u hm, by simp only [Term.k]; omega, by simp only [Term.k]; omega⟩
theorem bnT_n {t : Term} (h : bnT t) : -1000000 ≤ t.n ∧ t.n ≤ 1000000 := by
  obtain ⟨k, l, n, ts⟩ := t
  rw [bnT] at h
  exact h.1
def shB (fr : Int) (k l n i : Int) : Bool := decide (k = 4) && decide (l = 1) && decide (fr ≤ n - i)
def shStep (fr by_ : Int) (s : Bool × Bool) (t : Term) (i : Int) : Bool × Bool :=
  match shB fr t.k t.l t.n i with
  | true => (s.1 || (decide (by_ < 0) && decide (t.n - i < fr - by_)), s.2 || decide (9999 < t.n + by_))
  | false => s
theorem c55 (fr by_ : Int) (hfr : 0 ≤ fr ∧ fr ≤ 9999) (hby : -9999 ≤ by_ ∧ by_ ≤ 9999) (s : Bool × Bool) (t : Term) (i : Int) (h : okT t i) :
    CallSt Try.prog 55 [tv t, .c (.int .i64 i), .ptr 0 0, .ptr 1 0, .ptr 2 0, .ptr 3 0] [.box [.c (.int .i64 fr)], .box [.c (.bool s.1)], .box [.c (.int .i64 by_)], .box [.c (.bool s.2)]]
      (fun r H' => r = .tup [] ∧ H' = [.box [.c (.int .i64 fr)], .box [.c (.bool (shStep fr by_ s t i).1)], .box [.c (.int .i64 by_)], .box [.c (.bool (shStep fr by_ s t i).2)]]) := by
  have hn := bnT_n h.1
  have hi := (okT_step t i h).1
  obtain ⟨k, l, n, ts⟩ := t
  simp only [Term.n] at hn
  rw [tv_mk]
  obtain ⟨s1, s2⟩ := s
  refine call_pure (E := env 4) (fn := Try.f55) (c := bodyOf Try.f55) (env_ok 4) mixed (by kernel_rfl) (by kernel_rfl) (by kernel_rfl) (by kernel_rfl) (by kernel_rfl) (by kernel_rfl) rfl ?_
  conv => whnf
  refine ⟨⟨by omega, by omega⟩, ?_⟩
  conv => whnf
  refine ⟨fun hb => ?_, fun hb => ?_⟩
  · replace hb : shB fr k l n i = true := hb
    conv => whnf
    refine ⟨fun _ => ⟨by omega, by omega⟩, ?_⟩
    conv => whnf
    refine ⟨fun _ => ⟨by omega, by omega⟩, ?_⟩
    conv => whnf
    refine ⟨rfl, ?_⟩
    conv => whnf
    refine ⟨rfl, ?_⟩
    simp only [shStep, Term.k, Term.l, Term.n, hb]
    exact ⟨trivial, rfl⟩
  · replace hb : shB fr k l n i = false := hb
    conv => whnf
    refine ⟨rfl, ?_⟩
    conv => whnf
    refine ⟨rfl, ?_⟩
    simp only [shStep, Term.k, Term.l, Term.n, hb]
    exact ⟨trivial, rfl⟩
def mvG (fr by_ : Int) (k l n i : Int) : Int × Int × Int := (k, l, match shB fr k l n i with | true => n + by_ | false => n)
theorem c79 (fr by_ : Int) (hfr : 0 ≤ fr ∧ fr ≤ 9999) (hby : -9999 ≤ by_ ∧ by_ ≤ 9999) (t : Term) (i : Int) (h : okT t i) :
    CallSt Try.prog 79 [.agg [.c (.int .i64 t.k), .c (.int .i64 t.l), .c (.int .i64 t.n), .nil], .c (.int .i64 i), .ptr 0 0, .ptr 1 0] [.box [.c (.int .i64 fr)], .box [.c (.int .i64 by_)]]
      (fun r H' => r = .agg [.c (.int .i64 (mvG fr by_ t.k t.l t.n i).1), .c (.int .i64 (mvG fr by_ t.k t.l t.n i).2.1), .c (.int .i64 (mvG fr by_ t.k t.l t.n i).2.2), .nil] ∧ H' = [.box [.c (.int .i64 fr)], .box [.c (.int .i64 by_)]]) := by
  have hn := bnT_n h.1
  have hi := (okT_step t i h).1
  obtain ⟨k, l, n, ts⟩ := t
  simp only [Term.n, Term.k, Term.l] at hn ⊢
  refine call_trim (E := env 2) (fn := Try.f79) (c := bodyOf Try.f79) (env_ok 2) mixed (by kernel_rfl) (by kernel_rfl) (by kernel_rfl) (by kernel_rfl) (by kernel_rfl) (by kernel_rfl) rfl ?_
  conv => whnf
  refine ⟨fun _ => ⟨by omega, by omega⟩, ?_⟩
  conv => whnf
  refine ⟨fun hb => ?_, fun hb => ?_⟩
  · replace hb : shB fr k l n i = true := hb
    conv => whnf
    refine ⟨⟨by omega, by omega⟩, ?_⟩
    conv => whnf
    refine ⟨rfl, ?_⟩
    conv => whnf
    refine ⟨rfl, ?_⟩
    simp only [mvG, hb]
    exact ⟨rfl, rfl⟩
  · replace hb : shB fr k l n i = false := hb
    conv => whnf
    refine ⟨rfl, ?_⟩
    conv => whnf
    refine ⟨rfl, ?_⟩
    simp only [mvG, hb]
    exact ⟨rfl, rfl⟩
theorem c56 (fr by_ : Int) (hfr : 0 ≤ fr ∧ fr ≤ 9999) (hby : -9999 ≤ by_ ∧ by_ ≤ 9999) (t : Term) (h : okT t 0) :
    CallSt Try.prog 56 [tv t, .c (.int .i64 by_), .c (.int .i64 fr)] [] (fun r H' => r = tv (mapT (mvG fr by_) t 0) ∧ H' = []) := by
  have hc := c78 79 (.int .i64 fr) (.int .i64 by_) (mvG fr by_) okT okT_step (fun t i hti => c79 fr by_ hfr hby t i hti) t 0 h
  obtain ⟨k, l, n, ts⟩ := t
  refine call_pure (E := env 0) (fn := Try.f56) (c := bodyOf Try.f56) (env_ok 0) mixed (by kernel_rfl) (by kernel_rfl) (by kernel_rfl) (by kernel_rfl) (by kernel_rfl) (by kernel_rfl) rfl ?_
  conv => whnf
  refine CallSt.use hc [2, 1] ⟨rfl, rfl, trivial⟩ (by decide) rfl ?_
  rintro _ _ ⟨rfl, rfl⟩ _
  conv => whnf
  refine ⟨rfl, ?_⟩
  conv => whnf
  exact ⟨rfl, rfl, rfl⟩
end Go.Tr
/- Shift; awake. -/
namespace Go.Tr
open Go.Proofs
theorem headOk_n {k l n : Int} {m : Nat} (h : headOk k l n m = true) : 0 ≤ n ∧ n ≤ 9999 := by
  simp only [headOk, Bool.or_eq_true, Bool.and_eq_true, decide_eq_true_eq] at h
  omega
mutual
theorem propT_bn : ∀ (t : Term) (d c : Int), (propT t d c).1 = true → bnT t
  | .mk k l n ts, d, c, h => by
    unfold propT at h
    split at h
    · cases h
    · split at h
      · rename_i hh
        have := headOk_n hh
        rw [bnT]
        exact ⟨by omega, propL_bn ts d (c + 1) h⟩
      · cases h
theorem propL_bn : ∀ (ts : List Term) (d c : Int), (propL ts d c).1 = true → bnL ts
  | [], d, c, h => by rw [bnL]; trivial
  | t :: r, d, c, h => by
    have h1 := propT_bn t (d + 1) c
    unfold propL at h
    generalize propT t (d + 1) c = x at *
    obtain ⟨b, c'⟩ := x
    cases b
    · cases h
    · rw [bnL]
      exact ⟨h1 rfl, propL_bn r d c' h⟩
end
theorem prop_ok {t : Term} (h : prop t = true) : okT t 0 := by
  have h1 := propT_bn t 1 0 h
  have h2 := propT_dp t 1 0 h
  exact ⟨h1, by omega, by omega⟩
def zT : Term := .mk 0 0 0 []
def shBad (t : Term) (by_ fr : Int) : Bool := !prop t || decide (by_ < -9999) || decide (9999 < by_) || decide (fr < 0) || decide (9999 < fr)
def shEach (t : Term) (by_ fr : Int) : Bool × Bool := eachT (shStep fr by_) t 0 (false, false)
def shiftF (t : Term) (by_ fr : Int) : Term × Int :=
  match shBad t by_ fr with
  | true => (zT, 2)
  | false => match (shEach t by_ fr).1 with
    | true => (zT, 27)
    | false => match (shEach t by_ fr).2 with
      | true => (zT, 5)
      | false => (mapT (mvG fr by_) t 0, 0)
theorem c19 (t : Term) (by_ fr : Int) : CallSt Try.prog 19 [tv t, .c (.int .i64 by_), .c (.int .i64 fr)] [] (fun r H' => r = .tup [tv (shiftF t by_ fr).1, .c (.int .i64 (shiftF t by_ fr).2)] ∧ H' = []) := by
  have h14 := c14 t
  have hmv : ∀ (_ : prop t = true) (_ : 0 ≤ fr ∧ fr ≤ 9999) (_ : -9999 ≤ by_ ∧ by_ ≤ 9999), _ := fun h1 h2 h3 => c56 fr by_ h2 h3 t (prop_ok h1)
  have hea : ∀ (_ : prop t = true) (_ : 0 ≤ fr ∧ fr ≤ 9999) (_ : -9999 ≤ by_ ∧ by_ ≤ 9999), _ := fun h1 h2 h3 =>
    c54 55 (fun _ => .int .i64 fr) (fun s => .bool s.1) (fun _ => .int .i64 by_) (fun s => .bool s.2) (shStep fr by_) okT okT_step (fun s t i hti => c55 fr by_ h2 h3 s t i hti) t 0 (false, false) (prop_ok h1)
  have hbd : (decide (¬ (if prop t then (0 : Int) else 2) = 0) || decide (by_ < -9999) || decide (9999 < by_) || decide (fr < 0) || decide (9999 < fr)) = shBad t by_ fr := by
    unfold shBad
    cases prop t <;> rfl
  have hsh : ∀ b, shBad t by_ fr = b → shiftF t by_ fr = match b with
    | true => (zT, 2)
    | false => match (shEach t by_ fr).1 with
      | true => (zT, 27)
      | false => match (shEach t by_ fr).2 with
        | true => (zT, 5)
        | false => (mapT (mvG fr by_) t 0, 0) := fun b hb => by unfold shiftF; rw [hb]
  have hok : shBad t by_ fr = false → prop t = true ∧ (0 ≤ fr ∧ fr ≤ 9999) ∧ (-9999 ≤ by_ ∧ by_ ≤ 9999) := fun h => by
    unfold shBad at h
    simp only [Bool.or_eq_false_iff, decide_eq_false_iff_not, Bool.not_eq_false'] at h
    exact ⟨h.1.1.1.1, by omega, by omega⟩
  generalize shBad t by_ fr = bad at *
  unfold shEach at hsh
  generalize eachT (shStep fr by_) t 0 (false, false) = es at *
  generalize mapT (mvG fr by_) t 0 = v at *
  generalize shiftF t by_ fr = res at *
  generalize hq : (if prop t then (0 : Int) else 2) = q at *
  obtain ⟨k, l, n, ts⟩ := t
  rw [tv_mk] at *
  refine call_pure (E := env 0) (fn := Try.f19) (c := bodyOf Try.f19) (env_ok 0) mixed (by kernel_rfl) (by kernel_rfl) (by kernel_rfl) (by kernel_rfl) (by kernel_rfl) (by kernel_rfl) rfl ?_
  conv => whnf
  refine CallSt.use h14 [] trivial (by decide) rfl ?_
  rintro _ _ ⟨rfl, rfl⟩ _
  conv => whnf
  refine ⟨fun hb => ?_, fun hb => ?_⟩
  · conv => whnf
    refine ⟨rfl, ?_⟩
    conv => whnf
    refine ⟨rfl, ?_⟩
    have h1 : bad = true := by
      rw [← hbd, ← hb]
      simp only [decide_not]
    rw [hsh true h1]
    exact ⟨rfl, rfl⟩
  have h1 : bad = false := by
    rw [← hbd, ← hb]
    simp only [decide_not]
  obtain ⟨g1, g2, g3⟩ := hok h1
  have hsh := hsh false h1
  conv => whnf
  refine CallSt.use (hea g1 g2 g3) [2, 4, 1, 5] ⟨rfl, rfl, rfl, rfl, trivial⟩ (by decide) rfl ?_
  rintro _ _ ⟨rfl, rfl⟩ _
  obtain ⟨e1, e2⟩ := es
  conv => whnf
  refine ⟨fun hb1 => ?_, fun hb1 => ?_⟩
  · conv => whnf
    refine ⟨rfl, ?_⟩
    conv => whnf
    refine ⟨rfl, ?_⟩
    replace hb1 : e1 = true := hb1
    subst hb1
    rw [hsh]
    exact ⟨rfl, rfl⟩
  replace hb1 : e1 = false := hb1
  subst hb1
  conv => whnf
  refine ⟨fun hb2 => ?_, fun hb2 => ?_⟩
  · conv => whnf
    refine ⟨rfl, ?_⟩
    conv => whnf
    refine ⟨rfl, ?_⟩
    replace hb2 : e2 = true := hb2
    subst hb2
    rw [hsh]
    exact ⟨rfl, rfl⟩
  replace hb2 : e2 = false := hb2
  subst hb2
  conv => whnf
  refine CallSt.use (hmv g1 g2 g3) [] trivial (by decide) rfl ?_
  rintro _ _ ⟨rfl, rfl⟩ _
  obtain ⟨k2, l2, n2, ts2⟩ := v
  conv => whnf
  refine ⟨rfl, ?_⟩
  conv => whnf
  refine ⟨rfl, ?_⟩
  rw [hsh]
  exact ⟨rfl, rfl⟩

theorem c17 : CallSt Try.prog 17 [] [] (fun r H' => r = .c (.bool true) ∧ H' = []) := by
  have a1 := c51 0
  have a2 := c46 2 2 [.mk 4 1 0 []]
  have a3 := c46 2 2 [.mk 4 2 2 [.mk 4 1 0 []]]
  have a4 := c15 (.mk 4 2 2 [.mk 4 2 2 [.mk 4 1 0 []]])
  rw [show prop (.mk 4 2 2 [.mk 4 2 2 [.mk 4 1 0 []]]) = true by decide, show (propT (.mk 4 2 2 [.mk 4 2 2 [.mk 4 1 0 []]]) 1 0).2 = 3 by decide, show dpT (.mk 4 2 2 [.mk 4 2 2 [.mk 4 1 0 []]]) = 3 by decide] at a4
  have b1 := c51 1
  have b2 := c46 1 0 [.mk 4 1 1 []]
  have b3 := c52 (.mk 4 1 0 [.mk 4 1 1 []])
  have b4 := c19 (.mk 3 0 0 [.mk 4 1 0 [.mk 4 1 1 []]]) 2 0
  rw [show shiftF (.mk 3 0 0 [.mk 4 1 0 [.mk 4 1 1 []]]) 2 0 = (.mk 3 0 0 [.mk 4 1 0 [.mk 4 1 3 []]], 0) by rfl] at b4
  have d1 := c51 3
  have d2 := c46 1 0 [.mk 4 1 3 []]
  have d3 := c52 (.mk 4 1 0 [.mk 4 1 3 []])
  have d4 := c21 (.mk 3 0 0 [.mk 4 1 0 [.mk 4 1 3 []]]) (.mk 3 0 0 [.mk 4 1 0 [.mk 4 1 3 []]]) 0 0
  rw [show (sameT (.mk 3 0 0 [.mk 4 1 0 [.mk 4 1 3 []]]) (.mk 3 0 0 [.mk 4 1 0 [.mk 4 1 3 []]]) && decide ((0 : Int) = 0)) = true by decide] at d4
  refine call_pure (E := env 0) (fn := Try.f17) (c := bodyOf Try.f17) (env_ok 0) mixed (by kernel_rfl) (by kernel_rfl) (by kernel_rfl) (by kernel_rfl) (by kernel_rfl) (by kernel_rfl) rfl ?_
  conv => whnf
  refine CallSt.use a1 [] trivial (by decide) rfl ?_
  rintro _ _ ⟨rfl, rfl⟩ _
  conv => whnf
  refine ⟨by decide, ?_⟩
  conv => whnf
  refine ⟨by decide, ?_⟩
  conv => whnf
  refine CallSt.use a2 [] trivial (by decide) rfl ?_
  rintro _ _ ⟨rfl, rfl⟩ _
  conv => whnf
  refine ⟨by decide, ?_⟩
  conv => whnf
  refine ⟨by decide, ?_⟩
  conv => whnf
  refine CallSt.use a3 [] trivial (by decide) rfl ?_
  rintro _ _ ⟨rfl, rfl⟩ _
  conv => whnf
  refine CallSt.use a4 [] trivial (by decide) rfl ?_
  rintro _ _ ⟨rfl, rfl⟩ _
  conv => whnf
  refine CallSt.use b1 [] trivial (by decide) rfl ?_
  rintro _ _ ⟨rfl, rfl⟩ _
  conv => whnf
  refine ⟨by decide, ?_⟩
  conv => whnf
  refine ⟨by decide, ?_⟩
  conv => whnf
  refine CallSt.use b2 [] trivial (by decide) rfl ?_
  rintro _ _ ⟨rfl, rfl⟩ _
  conv => whnf
  refine CallSt.use b3 [] trivial (by decide) rfl ?_
  rintro _ _ ⟨rfl, rfl⟩ _
  conv => whnf
  refine CallSt.use b4 [] trivial (by decide) rfl ?_
  rintro _ _ ⟨rfl, rfl⟩ _
  conv => whnf
  refine draw_intro true (by kernel_rfl) ?_
  conv => whnf
  refine ⟨fun _ => ?_, fun h => absurd h (by decide)⟩
  conv => whnf
  refine CallSt.use d1 [] trivial (by decide) rfl ?_
  rintro _ _ ⟨rfl, rfl⟩ _
  conv => whnf
  refine ⟨by decide, ?_⟩
  conv => whnf
  refine ⟨by decide, ?_⟩
  conv => whnf
  refine CallSt.use d2 [] trivial (by decide) rfl ?_
  rintro _ _ ⟨rfl, rfl⟩ _
  conv => whnf
  refine CallSt.use d3 [] trivial (by decide) rfl ?_
  rintro _ _ ⟨rfl, rfl⟩ _
  conv => whnf
  refine CallSt.use d4 [] trivial (by decide) rfl ?_
  rintro _ _ ⟨rfl, rfl⟩ _
  conv => whnf
  refine ⟨rfl, ?_⟩
  conv => whnf
  exact ⟨rfl, rfl, rfl⟩
end Go.Tr
/- The law TermChecks. -/
namespace Go.Tr
open Go.Proofs
mutual
def szT : Term → Int
  | .mk _ _ _ ts => 1 + szL ts
def szL : List Term → Int
  | [] => 0
  | t :: r => szT t + szL r
end
mutual
theorem szT_pos : ∀ t : Term, 1 ≤ szT t
  | .mk _ _ _ ts => by have := szL_pos ts; unfold szT; omega
theorem szL_pos : ∀ ts : List Term, 0 ≤ szL ts
  | [] => by simp [szL]
  | t :: r => by have h1 := szT_pos t; have h2 := szL_pos r; unfold szL; omega
end
mutual
theorem ndT_sz : ∀ (t : Term) (b : Int), 0 ≤ b → (szT t ≤ b → ndT t b = szT t) ∧ (b < szT t → ndT t b = b + 1)
  | .mk k l n ts, b, hb => by
    have h := ndL_sz ts b 1 (by omega)
    have h2 := ndL_bd ts b 1 (by omega)
    unfold ndT szT mn
    constructor
    · intro h3
      rw [h.1 (by omega), if_neg (by omega)]
    · intro h3
      have := h.2 (by omega)
      split <;> omega
theorem ndL_sz : ∀ (ts : List Term) (b n : Int), 1 ≤ n ∧ n ≤ b + 1 → (n + szL ts ≤ b → ndL ts b n = n + szL ts) ∧ (b < n + szL ts → b < ndL ts b n)
  | [], b, n, hn => by simp only [ndL, szL]; omega
  | t :: r, b, n, hn => by
    have hp := szT_pos t
    have hr := szL_pos r
    unfold ndL szL
    by_cases h : n ≤ b
    · rw [if_pos h]
      have h1 := ndT_sz t (b - n) (by omega)
      by_cases h2 : szT t ≤ b - n
      · rw [h1.1 h2]
        have h3 := ndL_sz r b (n + szT t) (by omega)
        constructor
        · intro h4; rw [h3.1 (by omega)]; omega
        · intro h4; exact h3.2 (by omega)
      · rw [h1.2 (by omega)]
        have h3 := ndL_sz r b (n + (b - n + 1)) (by omega)
        constructor
        · intro h4; omega
        · intro h4; exact h3.2 (by omega)
    · rw [if_neg h]
      omega
end
theorem headOk_fmB (k l n : Int) (m : Nat) : headOk k l n m = fmB k l n m := by
  rw [Bool.eq_iff_iff]
  unfold headOk fmB
  simp only [Bool.or_eq_true, Bool.and_eq_true, decide_eq_true_eq]
  by_cases h1 : k = 1
  · rw [if_pos h1]
    simp only [Bool.not_eq_true', Bool.or_eq_false_iff, Bool.not_eq_false', decide_eq_true_eq]
    omega
  · rw [if_neg h1]
    by_cases h2 : k = 2
    · rw [if_pos h2]
      simp only [Bool.not_eq_true', Bool.or_eq_false_iff, Bool.not_eq_false', decide_eq_true_eq]
      omega
    · rw [if_neg h2]
      by_cases h3 : k = 3
      · rw [if_pos h3]
        simp only [Bool.not_eq_true', Bool.or_eq_false_iff, Bool.not_eq_false', decide_eq_true_eq]
        omega
      · rw [if_neg h3]
        by_cases h4 : k = 4
        · rw [if_pos h4]
          simp only [Bool.not_eq_true', Bool.or_eq_false_iff, decide_eq_false_iff_not]
          omega
        · rw [if_neg h4]
          simp only [Bool.false_eq_true, iff_false]
          omega
mutual
theorem propT_yes : ∀ (t : Term) (d c : Int), fmT t d = true → c + szT t ≤ 600 → propT t d c = (true, c + szT t)
  | .mk k l n ts, d, c, hf, hs => by
    have hp := szL_pos ts
    rw [szT] at hs ⊢
    unfold fmT at hf
    simp only [Bool.and_eq_true, Bool.not_eq_true', decide_eq_false_iff_not] at hf
    unfold propT
    rw [if_neg (by omega), headOk_fmB, hf.1.2]
    simp only
    rw [propL_yes ts d (c + 1) hf.2 (by omega)]
    congr 1
    omega
theorem propL_yes : ∀ (ts : List Term) (d c : Int), fmL ts d = true → c + szL ts ≤ 600 → propL ts d c = (true, c + szL ts)
  | [], d, c, _, _ => by simp [propL, szL]
  | t :: r, d, c, hf, hs => by
    have hp := szL_pos r
    rw [szL] at hs ⊢
    unfold fmL at hf
    simp only [Bool.and_eq_true] at hf
    unfold propL
    rw [propT_yes t (d + 1) c hf.1 (by omega)]
    simp only
    rw [propL_yes r d _ hf.2 (by omega)]
    congr 1
    omega
end
mutual
theorem propT_no : ∀ (t : Term) (d c : Int), 0 ≤ c → c ≤ 600 → (propT t d c).1 = true → fmT t d = true ∧ c + szT t ≤ 600 ∧ (propT t d c).2 = c + szT t
  | .mk k l n ts, d, c, h0, hc, h => by
    unfold propT at h ⊢
    split at h
    · cases h
    · rename_i hn
      rw [if_neg hn]
      split at h
      · rename_i hh
        have := propL_no ts d (c + 1) (by omega) (by omega) h
        rw [szT, fmT, ← headOk_fmB, hh, this.1]
        refine ⟨by simp; omega, by omega, by omega⟩
      · cases h
theorem propL_no : ∀ (ts : List Term) (d c : Int), 0 ≤ c → c ≤ 600 → (propL ts d c).1 = true → fmL ts d = true ∧ c + szL ts ≤ 600 ∧ (propL ts d c).2 = c + szL ts
  | [], d, c, h0, hc, h => by simp only [fmL, szL, propL, true_and]; omega
  | t :: r, d, c, h0, hc, h => by
    have h1 := propT_no t (d + 1) c h0 hc
    have hb := propT_bd t (d + 1) c ⟨h0, hc⟩
    unfold propL at h ⊢
    generalize propT t (d + 1) c = x at *
    obtain ⟨b, c'⟩ := x
    cases b
    · cases h
    · simp only at h ⊢
      obtain ⟨a1, a2, a3⟩ := h1 rfl
      simp only at a3 hb
      have h2 := propL_no r d c' (by omega) (hb.2 trivial) h
      rw [fmL, szL, a1, h2.1]
      refine ⟨rfl, by omega, by omega⟩
end
theorem prop_rprop (t : Term) : prop t = rprop t := by
  rw [Bool.eq_iff_iff]
  unfold prop rprop
  simp only [Bool.and_eq_true, decide_eq_true_eq]
  have hs := ndT_sz t 600 (by omega)
  constructor
  · intro h
    obtain ⟨h1, h2, h3⟩ := propT_no t 1 0 (by omega) (by omega) h
    exact ⟨by rw [hs.1 (by omega)]; omega, h1⟩
  · rintro ⟨h1, h2⟩
    have : szT t ≤ 600 := by
      rcases Int.lt_or_le 600 (szT t) with h | h
      · have := hs.2 h; omega
      · exact h
    rw [propT_yes t 1 0 h2 (by omega)]
theorem prop_nd {t : Term} (h : prop t = true) : (propT t 1 0).2 = ndT t 600 := by
  obtain ⟨h1, h2, h3⟩ := propT_no t 1 0 (by omega) (by omega) h
  rw [h3, (ndT_sz t 600 (by omega)).1 (by omega)]
  omega
theorem c3 (t : Term) : CallSt Try.prog 3 [tv t] [] (fun r H' => r = .c (.bool true) ∧ H' = []) := by
  have a1 := c14 t
  have a2 := c15 t
  have a3 := c16 t
  rw [← prop_rprop] at a3
  have a4 : prop t = true → _ := fun h => c18 t (by have := propT_dp t 1 0 h; omega)
  have hnd := @prop_nd t
  generalize prop t = p at *
  generalize (propT t 1 0).2 = c at *
  generalize ndT t 600 = c2 at *
  generalize dpT t = d at *
  have a5 := c17
  obtain ⟨k, l, n, ts⟩ := t
  rw [tv_mk] at *
  refine call_pure (E := env 0) (fn := Try.f3) (c := bodyOf Try.f3) (env_ok 0) mixed (by kernel_rfl) (by kernel_rfl) (by kernel_rfl) (by kernel_rfl) (by kernel_rfl) (by kernel_rfl) rfl ?_
  cases p with
  | false =>
    conv => whnf
    refine CallSt.use a1 [] trivial (by decide) rfl ?_
    rintro _ _ ⟨rfl, rfl⟩ _
    conv => whnf
    refine CallSt.use a2 [] trivial (by decide) rfl ?_
    rintro _ _ ⟨rfl, rfl⟩ _
    conv => whnf
    refine CallSt.use a3 [] trivial (by decide) rfl ?_
    rintro _ _ ⟨rfl, rfl⟩ _
    conv => whnf
    refine ⟨fun _ => ?_, fun h => absurd h (by decide)⟩
    conv => whnf
    refine ⟨fun _ => ?_, fun h => absurd h (by decide)⟩
    conv => whnf
    refine CallSt.use a5 [] trivial (by decide) rfl ?_
    rintro _ _ ⟨rfl, rfl⟩ _
    conv => whnf
    refine ⟨rfl, ?_⟩
    conv => whnf
    exact ⟨rfl, rfl, rfl⟩
  | true =>
    obtain rfl := hnd rfl
    replace a4 := a4 rfl
    conv => whnf
    refine CallSt.use a1 [] trivial (by decide) rfl ?_
    rintro _ _ ⟨rfl, rfl⟩ _
    conv => whnf
    refine CallSt.use a2 [] trivial (by decide) rfl ?_
    rintro _ _ ⟨rfl, rfl⟩ _
    conv => whnf
    refine CallSt.use a3 [] trivial (by decide) rfl ?_
    rintro _ _ ⟨rfl, rfl⟩ _
    conv => whnf
    refine ⟨fun h => absurd h (by decide), fun _ => ?_⟩
    conv => whnf
    refine CallSt.use a4 [] trivial (by decide) rfl ?_
    rintro _ _ ⟨rfl, rfl⟩ _
    conv => whnf
    refine ⟨fun hq => ?_, fun h => absurd h (by simp)⟩
    conv => whnf
    refine CallSt.use a5 [] trivial (by decide) rfl ?_
    rintro _ _ ⟨rfl, rfl⟩ _
    conv => whnf
    refine ⟨rfl, ?_⟩
    conv => whnf
    refine ⟨rfl, ?_⟩
    exact ⟨rfl, rfl⟩
end Go.Tr
/- The reference's Shift. -/
namespace Go.Tr
open Go.Proofs
theorem c80 (t : Term) (i : Int) : CallSt Try.prog 80 [tv t, .c (.int .i64 i)] [] (fun r H' => r = .c (.int .i64 (unT t.k i)) ∧ H' = []) := by
  obtain ⟨k, l, n, ts⟩ := t
  rw [tv_mk]
  refine call_pure (E := env 0) (fn := Try.f80) (c := bodyOf Try.f80) (env_ok 0) mixed (by kernel_rfl) (by kernel_rfl) (by kernel_rfl) (by kernel_rfl) (by kernel_rfl) (by kernel_rfl) rfl ?_
  have key : (decide (k = 3) || (decide (k = 2) && decide (i = 1))) = decide (unT k i = 1) := by
    unfold unT
    by_cases h1 : k = 3 <;> by_cases h2 : k = 2 <;> by_cases h3 : i = 1 <;> simp [h1, h2, h3]
  conv => whnf
  refine ⟨fun h => ?_, fun h => ?_⟩
  · conv => whnf
    refine ⟨rfl, ?_⟩
    conv => whnf
    refine ⟨rfl, ?_⟩
    have h2 := of_decide_eq_true (key.symm.trans h)
    simp only [Term.k]
    rw [h2]
    exact ⟨rfl, rfl⟩
  · conv => whnf
    refine ⟨rfl, ?_⟩
    conv => whnf
    refine ⟨rfl, ?_⟩
    have h2 := of_decide_eq_false (key.symm.trans h)
    simp only [Term.k]
    rw [show unT k i = 0 by have := unT_bd k i; omega]
    exact ⟨rfl, rfl⟩
def lowB (k l n a b : Int) : Bool := decide (k = 4) && decide (l = 1) && decide (a ≤ n) && decide (n ≤ b)
mutual
def lowT : Term → Int → Int → Bool
  | .mk k l n ts, a, b => lowB k l n a b || lowL k 0 ts a b
def lowL (k : Int) : Int → List Term → Int → Int → Bool
  | _, [], _, _ => false
  | j, t :: r, a, b => lowT t (a + unT k j) (b + unT k j) || lowL k (j + 1) r a b
end
theorem c57 (t : Term) : ∀ (a b : Int), (-1000000 ≤ a ∧ a + dpT t ≤ 1000000) → (-1000000 ≤ b ∧ b + dpT t ≤ 1000000) → CallSt Try.prog 57 [tv t, .c (.int .i64 a), .c (.int .i64 b)] [] (fun r H' => r = .c (.bool (lowT t a b)) ∧ H' = []) := by
  induction t using Term.ind with
  | _ t ih =>
  intro a b ha hb
  obtain ⟨k, l, n, ts⟩ := t
  replace ih : ∀ u, u ∈ ts → _ := ih
  rw [dpT] at ha hb
  rw [tv_mk]
  refine call_pure (E := env 0) (fn := Try.f57) (c := bodyOf Try.f57) (env_ok 0) mixed (by kernel_rfl) (by kernel_rfl) (by kernel_rfl) (by kernel_rfl) (by kernel_rfl) (by kernel_rfl) rfl ?_
  conv => whnf
  refine ⟨fun h => ?_, fun h => ?_⟩
  · replace h : lowB k l n a b = true := h
    conv => whnf
    refine ⟨rfl, ?_⟩
    conv => whnf
    refine ⟨rfl, ?_⟩
    rw [lowT, h]
    exact ⟨rfl, rfl⟩
  replace h : lowB k l n a b = false := h
  have hlo : lowT (.mk k l n ts) a b = lowL k 0 ts a b := by rw [lowT, h, Bool.false_or]
  conv => whnf
  refine loop_intro (fun m tm H => ∃ (j : Nat), ts.length = m + j ∧ lowL k j (ts.drop j) a b = lowL k 0 ts a b ∧
      tm = [(7, .c (.int .i64 j)), (3, .ptr 0 0), (1, .c (.int .i64 a)), (2, .c (.int .i64 b)), (6, .c (.bool false))] ∧ H = [.box [.c (.int .i64 k), .c (.int .i64 l), .c (.int .i64 n), .c (.sl 4 48 (tcs ts))]])
      ts.length _ _ ⟨0, by omega, rfl, rfl, rfl⟩ (Wk.sel [0] (by decide) (by decide) (by decide) ⟨rfl, trivial⟩ ⟨rfl, rfl, rfl, rfl, rfl, trivial⟩ rfl) ?_
  rintro m tm H ⟨j, hj, hR, rfl, rfl⟩
  conv => whnf
  intro hlen
  replace hlen : (tcs ts).length * 48 ≤ 140737488355328 := hlen
  rw [len_tcs] at hlen
  conv => whnf
  refine ⟨fun hc => ?_, fun hc => ?_⟩
  · replace hc : (j : Int) < (tcs ts).length := of_decide_eq_true hc
    rw [len_tcs] at hc
    have hlt : j < ts.length := by omega
    obtain ⟨u, hu⟩ : ∃ u, ts[j]? = some u := ⟨ts[j], List.getElem?_eq_getElem hlt⟩
    have hm := List.mem_of_getElem? hu
    have huc := tcs_at ts j u hu
    have hub := unT_bd k j
    have hdp := dpL_mem ts u hm
    have hdq := dpT_pos u
    have hcc := ih u hm (a + unT k j) (b + unT k j) ⟨by omega, by omega⟩ ⟨by omega, by omega⟩
    have hun := c80 (.mk k l n ts) j
    rw [drop_at hu, lowL] at hR
    obtain ⟨k', l', n', us⟩ := u
    conv => whnf
    refine CallSt.use hun [] trivial (by decide) rfl ?_
    rintro _ _ ⟨rfl, rfl⟩ _
    conv => whnf
    refine ⟨_, ⟨by omega, by simpa using huc⟩, ?_⟩
    conv => whnf
    refine ⟨Nat.le_refl 4, ?_⟩
    conv => whnf
    refine ⟨⟨by simp only [Term.k]; omega, by simp only [Term.k]; omega⟩, ?_⟩
    conv => whnf
    refine ⟨⟨by simp only [Term.k]; omega, by simp only [Term.k]; omega⟩, ?_⟩
    conv => whnf
    refine CallSt.use hcc [] trivial (by decide) rfl ?_
    rintro _ _ ⟨rfl, rfl⟩ _
    conv => whnf
    refine ⟨fun hf => ?_, fun hf => ?_⟩
    · conv => whnf
      refine ⟨rfl, ?_⟩
      conv => whnf
      refine ⟨rfl, ?_⟩
      rw [hlo, ← hR, hf]
      exact ⟨rfl, rfl⟩
    · conv => whnf
      refine ⟨⟨by omega, by omega⟩, ?_⟩
      conv => whnf
      refine ⟨m - 1, _, _, by omega, ⟨j + 1, by omega, ?_, rfl, rfl⟩, Wk.sel [0] (by decide) (by decide) (by decide) ⟨rfl, trivial⟩ ⟨rfl, rfl, rfl, rfl, rfl, trivial⟩ rfl⟩
      rw [← hR, hf, Bool.false_or]
      rfl
  · replace hc : ¬ (j : Int) < (tcs ts).length := of_decide_eq_false hc
    rw [len_tcs] at hc
    conv => whnf
    refine ⟨rfl, ?_⟩
    conv => whnf
    refine ⟨rfl, ?_⟩
    rw [hlo, ← hR, List.drop_eq_nil_of_le (by omega), lowL]
    exact ⟨rfl, rfl⟩
end Go.Tr
/- The reference's moved. -/
namespace Go.Tr
open Go.Proofs
theorem shB_of (fr k l n i : Int) {b : Bool} (h : (decide (k = 4) && decide (l = 1) && decide (fr + i ≤ n)) = b) : shB fr k l n i = b := by
  rw [← h]
  unfold shB
  congr 1
  exact decide_eq_decide.2 ⟨fun h => by omega, fun h => by omega⟩
theorem c58 (fr by_ : Int) (hfr : 0 ≤ fr ∧ fr ≤ 9999) (hby : -9999 ≤ by_ ∧ by_ ≤ 9999) (t : Term) : ∀ (i : Int), okT t i →
    CallSt Try.prog 58 [tv t, .c (.int .i64 by_), .c (.int .i64 (fr + i))] [] (fun r H' => r = tv (mapT (mvG fr by_) t i) ∧ H' = []) := by
  induction t using Term.ind with
  | _ t ih =>
  intro i hti
  have hn := bnT_n hti.1
  obtain ⟨hib, hch⟩ := okT_step t i hti
  have hi2 := hti.2
  have hdp0 := dpT_pos t
  obtain ⟨k, l, n, ts⟩ := t
  replace ih : ∀ u, u ∈ ts → _ := ih
  simp only [Term.n] at hn
  rw [tv_mk]
  refine call_pure (E := env 0) (fn := Try.f58) (c := bodyOf Try.f58) (env_ok 0) mixed (by kernel_rfl) (by kernel_rfl) (by kernel_rfl) (by kernel_rfl) (by kernel_rfl) (by kernel_rfl) rfl ?_
  have hmap : ∀ b, shB fr k l n i = b → mapT (mvG fr by_) (.mk k l n ts) i = .mk k l (match b with | true => n + by_ | false => n) (mapL (mvG fr by_) k i 0 ts) := fun b hb => by
    rw [mapT]
    simp only [mvG, hb]
    all_goals (cases b <;> rfl)
  conv => whnf
  refine ⟨fun h => ?_, fun h => ?_⟩
  all_goals replace h := hmap _ (shB_of fr k l n i h)
  all_goals conv => whnf
  · refine ⟨⟨by omega, by omega⟩, ?_⟩
    conv => whnf
    generalize hnn : (n + by_ : Int) = y at *
    refine loop_intro (fun m tm H => ∃ (j : Nat) (us : List Term), ts.length = m + j ∧ us.length = j ∧ us ++ mapL (mvG fr by_) k i j (ts.drop j) = mapL (mvG fr by_) k i 0 ts ∧
        tm = [(8, .c (.int .i64 j)), (3, .ptr 0 0), (6, .ptr 1 0), (7, .ptr 2 0), (1, .c (.int .i64 by_)), (2, .c (.int .i64 (fr + i)))] ∧
        H = [.box [.c (.int .i64 k), .c (.int .i64 l), .c (.int .i64 n), .c (.sl 4 48 (tcs ts))], .box [.c (.int .i64 0), .c (.int .i64 0), .c (.int .i64 0), .nil],
          .box [.c (.int .i64 k), .c (.int .i64 l), .c (.int .i64 y), .own 3], .row 24 4 48 (tcs us)])
      ts.length _ _ ⟨0, [], by omega, rfl, rfl, rfl, rfl⟩ ?_ ?_
    · refine Wk.trans (H1 := [.box [.c (.int .i64 k), .c (.int .i64 l), .c (.int .i64 n), .c (.sl 4 48 (tcs ts))], .box [.c (.int .i64 0), .c (.int .i64 0), .c (.int .i64 0), .nil],
          .box [.c (.int .i64 k), .c (.int .i64 l), .c (.int .i64 y), .nil]]) ?_ (Wk.nilrow' 2 3 24 4 48 rfl rfl rfl rfl)
      exact Wk.sel [0, 1, 2] (by decide) (by decide) (by decide) ⟨rfl, rfl, by first | rfl | (rw [← hnn]; rfl), trivial⟩ ⟨rfl, rfl, rfl, rfl, rfl, rfl, trivial⟩ rfl
    rintro m tm H ⟨j, us, hj, hus, hR, rfl, rfl⟩
    conv => whnf
    intro hlen
    replace hlen : (tcs ts).length * 48 ≤ 140737488355328 := hlen
    rw [len_tcs] at hlen
    conv => whnf
    refine ⟨fun hc => ?_, fun hc => ?_⟩
    · replace hc : (j : Int) < (tcs ts).length := of_decide_eq_true hc
      rw [len_tcs] at hc
      have hlt : j < ts.length := by omega
      obtain ⟨u, hu⟩ : ∃ u, ts[j]? = some u := ⟨ts[j], List.getElem?_eq_getElem hlt⟩
      have hm := List.mem_of_getElem? hu
      have huc := tcs_at ts j u hu
      have hub := unT_bd k j
      have hcc := ih u hm (i + unT k j) (hch j u hu)
      rw [← Int.add_assoc] at hcc
      have hun := c80 (.mk k l n ts) j
      rw [drop_at hu, mapL] at hR
      obtain ⟨k', l', n', us'⟩ := u
      conv => whnf
      refine draw_intro true (by kernel_rfl) ?_
      conv => whnf
      refine ⟨_, ⟨by omega, by simpa using huc⟩, ?_⟩
      conv => whnf
      refine ⟨Nat.le_refl 4, ?_⟩
      conv => whnf
      refine CallSt.use hun [] trivial (by decide) rfl ?_
      rintro _ _ ⟨rfl, rfl⟩ _
      conv => whnf
      refine ⟨⟨by simp only [Term.k]; omega, by simp only [Term.k]; omega⟩, ?_⟩
      conv => whnf
      refine CallSt.use hcc [] trivial (by decide) rfl ?_
      rintro _ _ ⟨rfl, rfl⟩ _
      generalize hv : mapT (mvG fr by_) (.mk k' l' n' us') (i + unT k j) = v at *
      obtain ⟨k3, l3, n3, us3⟩ := v
      conv => whnf
      refine ⟨by decide, ?_⟩
      conv => whnf
      refine ⟨by decide, ?_⟩
      conv => whnf
      have hl1 : (tcs us).length = j := by rw [len_tcs, hus]
      have hl2 : ((tcs us).length + 1) * 48 ≤ 140737488355328 := by omega
      have hl3 : (tcs us).length + 1 ≤ 9223372036854775807 := by omega
      refine ⟨hl2, hl3, ?_⟩
      conv => whnf
      refine ⟨⟨by omega, by omega⟩, ?_⟩
      conv => whnf
      refine ⟨m - 1, _, _, by omega, ⟨j + 1, us ++ [.mk k3 l3 n3 us3], by omega, by simp [hus], ?_, rfl, rfl⟩, Wk.sel [0, 1, 2, 5] (by decide) (by decide) (by decide) ⟨rfl, rfl, rfl, ?_, trivial⟩ ⟨rfl, rfl, rfl, rfl, rfl, rfl, trivial⟩ rfl⟩
      · rw [← hR, List.append_assoc]
        rfl
      · rw [← tcs_snoc]
        rfl
    · replace hc : ¬ (j : Int) < (tcs ts).length := of_decide_eq_false hc
      rw [len_tcs] at hc
      conv => whnf
      refine ⟨rfl, ?_⟩
      conv => whnf
      refine ⟨rfl, ?_⟩
      rw [List.drop_eq_nil_of_le (by omega), mapL, List.append_nil] at hR
      rw [h, ← hR]
      exact ⟨rfl, rfl⟩
  ·
    refine loop_intro (fun m tm H => ∃ (j : Nat) (us : List Term), ts.length = m + j ∧ us.length = j ∧ us ++ mapL (mvG fr by_) k i j (ts.drop j) = mapL (mvG fr by_) k i 0 ts ∧
        tm = [(8, .c (.int .i64 j)), (3, .ptr 0 0), (6, .ptr 1 0), (7, .ptr 2 0), (1, .c (.int .i64 by_)), (2, .c (.int .i64 (fr + i)))] ∧
        H = [.box [.c (.int .i64 k), .c (.int .i64 l), .c (.int .i64 n), .c (.sl 4 48 (tcs ts))], .box [.c (.int .i64 0), .c (.int .i64 0), .c (.int .i64 0), .nil],
          .box [.c (.int .i64 k), .c (.int .i64 l), .c (.int .i64 n), .own 3], .row 24 4 48 (tcs us)])
      ts.length _ _ ⟨0, [], by omega, rfl, rfl, rfl, rfl⟩ ?_ ?_
    · refine Wk.trans (H1 := [.box [.c (.int .i64 k), .c (.int .i64 l), .c (.int .i64 n), .c (.sl 4 48 (tcs ts))], .box [.c (.int .i64 0), .c (.int .i64 0), .c (.int .i64 0), .nil],
          .box [.c (.int .i64 k), .c (.int .i64 l), .c (.int .i64 n), .nil]]) ?_ (Wk.nilrow' 2 3 24 4 48 rfl rfl rfl rfl)
      exact Wk.sel [0, 1, 2] (by decide) (by decide) (by decide) ⟨rfl, rfl, rfl, trivial⟩ ⟨rfl, rfl, rfl, rfl, rfl, rfl, trivial⟩ rfl
    rintro m tm H ⟨j, us, hj, hus, hR, rfl, rfl⟩
    conv => whnf
    intro hlen
    replace hlen : (tcs ts).length * 48 ≤ 140737488355328 := hlen
    rw [len_tcs] at hlen
    conv => whnf
    refine ⟨fun hc => ?_, fun hc => ?_⟩
    · replace hc : (j : Int) < (tcs ts).length := of_decide_eq_true hc
      rw [len_tcs] at hc
      have hlt : j < ts.length := by omega
      obtain ⟨u, hu⟩ : ∃ u, ts[j]? = some u := ⟨ts[j], List.getElem?_eq_getElem hlt⟩
      have hm := List.mem_of_getElem? hu
      have huc := tcs_at ts j u hu
      have hub := unT_bd k j
      have hcc := ih u hm (i + unT k j) (hch j u hu)
      rw [← Int.add_assoc] at hcc
      have hun := c80 (.mk k l n ts) j
      rw [drop_at hu, mapL] at hR
      obtain ⟨k', l', n', us'⟩ := u
      conv => whnf
      refine draw_intro true (by kernel_rfl) ?_
      conv => whnf
      refine ⟨_, ⟨by omega, by simpa using huc⟩, ?_⟩
      conv => whnf
      refine ⟨Nat.le_refl 4, ?_⟩
      conv => whnf
      refine CallSt.use hun [] trivial (by decide) rfl ?_
      rintro _ _ ⟨rfl, rfl⟩ _
      conv => whnf
      refine ⟨⟨by simp only [Term.k]; omega, by simp only [Term.k]; omega⟩, ?_⟩
      conv => whnf
      refine CallSt.use hcc [] trivial (by decide) rfl ?_
      rintro _ _ ⟨rfl, rfl⟩ _
      generalize hv : mapT (mvG fr by_) (.mk k' l' n' us') (i + unT k j) = v at *
      obtain ⟨k3, l3, n3, us3⟩ := v
      conv => whnf
      refine ⟨by decide, ?_⟩
      conv => whnf
      refine ⟨by decide, ?_⟩
      conv => whnf
      have hl1 : (tcs us).length = j := by rw [len_tcs, hus]
      have hl2 : ((tcs us).length + 1) * 48 ≤ 140737488355328 := by omega
      have hl3 : (tcs us).length + 1 ≤ 9223372036854775807 := by omega
      refine ⟨hl2, hl3, ?_⟩
      conv => whnf
      refine ⟨⟨by omega, by omega⟩, ?_⟩
      conv => whnf
      refine ⟨m - 1, _, _, by omega, ⟨j + 1, us ++ [.mk k3 l3 n3 us3], by omega, by simp [hus], ?_, rfl, rfl⟩, Wk.sel [0, 1, 2, 5] (by decide) (by decide) (by decide) ⟨rfl, rfl, rfl, ?_, trivial⟩ ⟨rfl, rfl, rfl, rfl, rfl, rfl, trivial⟩ rfl⟩
      · rw [← hR, List.append_assoc]
        rfl
      · rw [← tcs_snoc]
        rfl
    · replace hc : ¬ (j : Int) < (tcs ts).length := of_decide_eq_false hc
      rw [len_tcs] at hc
      conv => whnf
      refine ⟨rfl, ?_⟩
      conv => whnf
      refine ⟨rfl, ?_⟩
      rw [List.drop_eq_nil_of_le (by omega), mapL, List.append_nil] at hR
      rw [h, ← hR]
      exact ⟨rfl, rfl⟩
end Go.Tr
/- The reference's Shift; the law TermShifts, but for the plain law. -/
namespace Go.Tr
open Go.Proofs
def rBad (t : Term) (by_ fr : Int) : Bool := !rprop t || decide (by_ < -9999) || decide (9999 < by_) || decide (fr < 0) || decide (9999 < fr)
def rLow (t : Term) (by_ fr : Int) : Bool := decide (by_ < 0) && lowT t fr (fr - by_ - 1)
def rshiftF (t : Term) (by_ fr : Int) : Term × Int :=
  match rBad t by_ fr with
  | true => (zT, 2)
  | false => match rLow t by_ fr with
    | true => (zT, 27)
    | false => match rprop (mapT (mvG fr by_) t 0) with
      | true => (mapT (mvG fr by_) t 0, 0)
      | false => (zT, 5)
theorem c20 (t : Term) (by_ fr : Int) : CallSt Try.prog 20 [tv t, .c (.int .i64 by_), .c (.int .i64 fr)] [] (fun r H' => r = .tup [tv (rshiftF t by_ fr).1, .c (.int .i64 (rshiftF t by_ fr).2)] ∧ H' = []) := by
  have h16 := c16 t
  have hsh : ∀ b, rBad t by_ fr = b → rshiftF t by_ fr = match b with
    | true => (zT, 2)
    | false => match rLow t by_ fr with
      | true => (zT, 27)
      | false => match rprop (mapT (mvG fr by_) t 0) with
        | true => (mapT (mvG fr by_) t 0, 0)
        | false => (zT, 5) := fun b hb => by unfold rshiftF; rw [hb]
  have hok : rBad t by_ fr = false → (okT t 0 ∧ dpT t ≤ 40) ∧ (0 ≤ fr ∧ fr ≤ 9999) ∧ (-9999 ≤ by_ ∧ by_ ≤ 9999) := fun h => by
    unfold rBad at h
    simp only [Bool.or_eq_false_iff, decide_eq_false_iff_not, Bool.not_eq_false'] at h
    have hp : prop t = true := by rw [prop_rprop]; exact h.1.1.1.1
    exact ⟨⟨prop_ok hp, by have := propT_dp t 1 0 hp; omega⟩, by omega, by omega⟩
  have hmv : ∀ (_ : okT t 0 ∧ dpT t ≤ 40) (_ : 0 ≤ fr ∧ fr ≤ 9999) (_ : -9999 ≤ by_ ∧ by_ ≤ 9999), _ := fun h1 h2 h3 => c58 fr by_ h2 h3 t 0 h1.1
  rw [Int.add_zero] at hmv
  have hlow : ∀ (_ : okT t 0 ∧ dpT t ≤ 40) (_ : 0 ≤ fr ∧ fr ≤ 9999) (_ : -9999 ≤ by_ ∧ by_ ≤ 9999), _ := fun h1 h2 h3 => c57 t fr (fr - by_ - 1) ⟨by omega, by have := h1.2; omega⟩ ⟨by omega, by have := h1.2; omega⟩
  have hv16 := c16 (mapT (mvG fr by_) t 0)
  have hbd : (!rprop t || decide (by_ < -9999) || decide (9999 < by_) || decide (fr < 0) || decide (9999 < fr)) = rBad t by_ fr := rfl
  have hrl : (decide (by_ < 0) && lowT t fr (fr - by_ - 1)) = rLow t by_ fr := rfl
  generalize rBad t by_ fr = bad at *
  generalize rLow t by_ fr = lo at *
  generalize lowT t fr (fr - by_ - 1) = lw at *
  generalize rprop (mapT (mvG fr by_) t 0) = pv at *
  generalize mapT (mvG fr by_) t 0 = v at *
  generalize rshiftF t by_ fr = res at *
  generalize rprop t = pt at *
  generalize (okT t 0 ∧ dpT t ≤ 40) = okk at *
  obtain ⟨k, l, n, ts⟩ := t
  obtain ⟨k2, l2, n2, ts2⟩ := v
  rw [tv_mk] at *
  refine call_pure (E := env 0) (fn := Try.f20) (c := bodyOf Try.f20) (env_ok 0) mixed (by kernel_rfl) (by kernel_rfl) (by kernel_rfl) (by kernel_rfl) (by kernel_rfl) (by kernel_rfl) rfl ?_
  conv => whnf
  refine CallSt.use h16 [] trivial (by decide) rfl ?_
  rintro _ _ ⟨rfl, rfl⟩ _
  conv => whnf
  refine ⟨fun hb => ?_, fun hb => ?_⟩
  · conv => whnf
    refine ⟨rfl, ?_⟩
    conv => whnf
    refine ⟨rfl, ?_⟩
    rw [hsh true (hbd.symm.trans hb)]
    exact ⟨rfl, rfl⟩
  have h1 : bad = false := hbd.symm.trans hb
  obtain ⟨g1, g2, g3⟩ := hok h1
  have hsh := hsh false h1
  conv => whnf
  refine ⟨fun _ => ⟨by omega, by omega⟩, ?_⟩
  conv => whnf
  refine ⟨fun _ => ⟨by omega, by omega⟩, ?_⟩
  conv => whnf
  refine ⟨fun hby => ?_, fun hby => ?_⟩
  · conv => whnf
    refine CallSt.use (hlow g1 g2 g3) [] trivial (by decide) rfl ?_
    rintro _ _ ⟨rfl, rfl⟩ _
    conv => whnf
    refine ⟨fun hw => ?_, fun hw => ?_⟩
    · have hl : lo = true := by
        rw [← hrl, hby]
        exact hw
      conv => whnf
      refine ⟨rfl, ?_⟩
      conv => whnf
      refine ⟨rfl, ?_⟩
      rw [hsh, hl]
      exact ⟨rfl, rfl⟩
    have hl : lo = false := by
      rw [← hrl, hby]
      exact hw
    conv => whnf
    refine CallSt.use (hmv g1 g2 g3) [] trivial (by decide) rfl ?_
    rintro _ _ ⟨rfl, rfl⟩ _
    conv => whnf
    refine CallSt.use hv16 [] trivial (by decide) rfl ?_
    rintro _ _ ⟨rfl, rfl⟩ _
    conv => whnf
    refine ⟨fun hp => ?_, fun hp => ?_⟩
    · conv => whnf
      refine ⟨rfl, ?_⟩
      conv => whnf
      refine ⟨rfl, ?_⟩
      have hp2 : pv = false := by simpa using hp
      rw [hsh, hl, hp2]
      exact ⟨rfl, rfl⟩
    · conv => whnf
      refine ⟨rfl, ?_⟩
      conv => whnf
      refine ⟨rfl, ?_⟩
      have hp2 : pv = true := by simpa using hp
      rw [hsh, hl, hp2]
      exact ⟨rfl, rfl⟩
  · have hl : lo = false := by
      rw [← hrl, hby]
      rfl
    conv => whnf
    refine ⟨fun h => absurd h (by decide), fun _ => ?_⟩
    conv => whnf
    refine CallSt.use (hmv g1 g2 g3) [] trivial (by decide) rfl ?_
    rintro _ _ ⟨rfl, rfl⟩ _
    conv => whnf
    refine CallSt.use hv16 [] trivial (by decide) rfl ?_
    rintro _ _ ⟨rfl, rfl⟩ _
    conv => whnf
    refine ⟨fun hp => ?_, fun hp => ?_⟩
    · conv => whnf
      refine ⟨rfl, ?_⟩
      conv => whnf
      refine ⟨rfl, ?_⟩
      have hp2 : pv = false := by simpa using hp
      rw [hsh, hl, hp2]
      exact ⟨rfl, rfl⟩
    · conv => whnf
      refine ⟨rfl, ?_⟩
      conv => whnf
      refine ⟨rfl, ?_⟩
      have hp2 : pv = true := by simpa using hp
      rw [hsh, hl, hp2]
      exact ⟨rfl, rfl⟩
end Go.Tr
/- The plain law of TermShifts. -/
namespace Go.Tr
open Go.Proofs
mutual
def ovT (fr by_ : Int) : Term → Int → Bool
  | .mk k l n ts, i => (shB fr k l n i && decide (9999 < n + by_)) || ovL fr by_ k i 0 ts
def ovL (fr by_ : Int) (k i : Int) : Int → List Term → Bool
  | _, [] => false
  | j, t :: r => ovT fr by_ t (i + unT k j) || ovL fr by_ k i (j + 1) r
end
theorem lowB_shB (fr by_ k l n i : Int) : lowB k l n (fr + i) (fr - by_ - 1 + i) = (shB fr k l n i && decide (n - i < fr - by_)) := by
  unfold lowB shB
  rw [Bool.eq_iff_iff]
  simp only [Bool.and_eq_true, decide_eq_true_eq]
  omega
mutual
theorem eachT_sh (fr by_ : Int) : ∀ (t : Term) (i : Int) (s : Bool × Bool), eachT (shStep fr by_) t i s = (s.1 || (decide (by_ < 0) && lowT t (fr + i) (fr - by_ - 1 + i)), s.2 || ovT fr by_ t i)
  | .mk k l n ts, i, s => by
    rw [eachT, eachL_sh fr by_ k i ts 0, lowT, ovT, lowB_shB]
    simp only [shStep, Term.k, Term.l, Term.n]
    cases shB fr k l n i
    · simp
    · simp only [Bool.true_and, Bool.and_or_distrib_left, Bool.or_assoc]
      rfl
theorem eachL_sh (fr by_ k i : Int) : ∀ (ts : List Term) (j : Int) (s : Bool × Bool), eachL (shStep fr by_) k i j ts s = (s.1 || (decide (by_ < 0) && lowL k j ts (fr + i) (fr - by_ - 1 + i)), s.2 || ovL fr by_ k i j ts)
  | [], j, s => by simp [eachL, lowL, ovL]
  | t :: r, j, s => by
    rw [eachL, eachL_sh fr by_ k i r, eachT_sh fr by_ t, lowL, ovL]
    simp only [Bool.and_or_distrib_left, Bool.or_assoc, Int.add_assoc]
end
theorem shEach_eq (t : Term) (by_ fr : Int) : shEach t by_ fr = (rLow t by_ fr, ovT fr by_ t 0) := by
  unfold shEach rLow
  rw [eachT_sh]
  simp
mutual
theorem szT_map (g : Int → Int → Int → Int → Int × Int × Int) : ∀ (t : Term) (i : Int), szT (mapT g t i) = szT t
  | .mk k l n ts, i => by rw [mapT, szT, szT, szL_map g k i ts 0]
theorem szL_map (g : Int → Int → Int → Int → Int × Int × Int) (k i : Int) : ∀ (ts : List Term) (j : Int), szL (mapL g k i j ts) = szL ts
  | [], j => by rw [mapL]
  | t :: r, j => by rw [mapL, szL, szL, szT_map g t, szL_map g k i r]
end
theorem fmB_mv {fr by_ k l n i : Int} {m : Nat} (hfr : 0 ≤ fr) (hi : 0 ≤ i) (hf : fmB k l n m = true) (hs : shB fr k l n i = true) (hlo : (decide (by_ < 0) && decide (n - i < fr - by_)) = false) :
    fmB k l (n + by_) m = !decide (9999 < n + by_) := by
  unfold shB at hs
  simp only [Bool.and_eq_true, decide_eq_true_eq] at hs
  obtain ⟨⟨rfl, rfl⟩, h3⟩ := hs
  have h4 : ¬ (n + by_ < 0) := by
    intro h
    simp only [Bool.and_eq_false_iff, decide_eq_false_iff_not] at hlo
    omega
  unfold fmB
  rw [if_neg (by decide), if_neg (by decide), if_neg (by decide), if_pos rfl, decide_eq_false h4]
  rfl
mutual
theorem fmT_mv (fr by_ : Int) (hfr : 0 ≤ fr) : ∀ (t : Term) (i d : Int), 0 ≤ i → fmT t d = true → (decide (by_ < 0) && lowT t (fr + i) (fr - by_ - 1 + i)) = false → fmT (mapT (mvG fr by_) t i) d = !ovT fr by_ t i
  | .mk k l n ts, i, d, hi, hf, hlo => by
    unfold fmT at hf
    simp only [Bool.and_eq_true] at hf
    rw [lowT, lowB_shB, Bool.and_or_distrib_left, Bool.or_eq_false_iff] at hlo
    have hL := fmL_mv fr by_ hfr k i ts 0 d hi hf.2 hlo.2
    rw [mapT, fmT, mapL_len, hf.1.1, Bool.true_and, hL, ovT, Bool.not_or]
    simp only [mvG]
    cases hs : shB fr k l n i with
    | true =>
      rw [hs, Bool.true_and] at hlo
      rw [fmB_mv hfr hi hf.1.2 hs hlo.1]
      rfl
    | false =>
      rw [hf.1.2]
      rfl
theorem fmL_mv (fr by_ : Int) (hfr : 0 ≤ fr) (k i : Int) : ∀ (ts : List Term) (j d : Int), 0 ≤ i → fmL ts d = true → (decide (by_ < 0) && lowL k j ts (fr + i) (fr - by_ - 1 + i)) = false → fmL (mapL (mvG fr by_) k i j ts) d = !ovL fr by_ k i j ts
  | [], j, d, hi, hf, hlo => by rw [mapL, ovL, fmL]; rfl
  | t :: r, j, d, hi, hf, hlo => by
    unfold fmL at hf
    simp only [Bool.and_eq_true] at hf
    rw [lowL, Bool.and_or_distrib_left, Bool.or_eq_false_iff, Int.add_assoc, Int.add_assoc] at hlo
    have hu := unT_bd k j
    have h1 := fmT_mv fr by_ hfr t (i + unT k j) (d + 1) (by omega) hf.1 hlo.1
    have h2 := fmL_mv fr by_ hfr k i r (j + 1) d hi hf.2 hlo.2
    rw [mapL, fmL, h1, h2, ovL, Bool.not_or]
end
theorem rprop_iff (t : Term) : rprop t = (decide (szT t ≤ 600) && fmT t 1) := by
  unfold rprop
  congr 1
  have hs := ndT_sz t 600 (by omega)
  refine decide_eq_decide.2 ⟨fun h => ?_, fun h => by rw [hs.1 h]; exact h⟩
  rcases Int.lt_or_le 600 (szT t) with h2 | h2
  · have := hs.2 h2; omega
  · exact h2
theorem shift_eq (t : Term) (by_ fr : Int) : shiftF t by_ fr = rshiftF t by_ fr := by
  unfold shiftF rshiftF
  have hb : shBad t by_ fr = rBad t by_ fr := by unfold shBad rBad; rw [prop_rprop]
  rw [hb, shEach_eq]
  cases hbad : rBad t by_ fr with
  | true => rfl
  | false =>
    simp only
    cases hlo : rLow t by_ fr with
    | true => rfl
    | false =>
      simp only
      unfold rBad at hbad
      simp only [Bool.or_eq_false_iff, decide_eq_false_iff_not, Bool.not_eq_false'] at hbad
      obtain ⟨⟨⟨⟨hp, _⟩, _⟩, hfr⟩, _⟩ := hbad
      rw [rprop_iff, Bool.and_eq_true] at hp
      have h1 := fmT_mv fr by_ (by omega) t 0 1 (by omega) hp.2 (by rw [Int.add_zero, Int.add_zero]; exact hlo)
      rw [rprop_iff, szT_map, hp.1, h1, Bool.true_and]
      cases ovT fr by_ t 0 <;> rfl
end Go.Tr
/- The law TermShifts. -/
namespace Go.Tr
open Go.Proofs
theorem c4 (t : Term) (by_ fr : Int) : CallSt Try.prog 4 [tv t, .c (.int .i64 by_), .c (.int .i64 fr)] [] (fun r H' => r = .c (.bool true) ∧ H' = []) := by
  have a1 := c19 t by_ fr
  have a2 := c20 t by_ fr
  rw [← shift_eq] at a2
  generalize shiftF t by_ fr = x at *
  obtain ⟨u, e⟩ := x
  have a3 := c21 u u e e
  rw [show (sameT u u && decide (e = e)) = true by rw [(sameT_iff u u).2 rfl]; simp] at a3
  have a4 := c17
  obtain ⟨k, l, n, ts⟩ := t
  obtain ⟨k2, l2, n2, ts2⟩ := u
  rw [tv_mk] at *
  refine call_pure (E := env 0) (fn := Try.f4) (c := bodyOf Try.f4) (env_ok 0) mixed (by kernel_rfl) (by kernel_rfl) (by kernel_rfl) (by kernel_rfl) (by kernel_rfl) (by kernel_rfl) rfl ?_
  conv => whnf
  refine CallSt.use a1 [] trivial (by decide) rfl ?_
  rintro _ _ ⟨rfl, rfl⟩ _
  conv => whnf
  refine CallSt.use a2 [] trivial (by decide) rfl ?_
  rintro _ _ ⟨rfl, rfl⟩ _
  conv => whnf
  refine CallSt.use a3 [] trivial (by decide) rfl ?_
  rintro _ _ ⟨rfl, rfl⟩ _
  conv => whnf
  refine ⟨fun _ => ?_, fun h => absurd h (by decide)⟩
  conv => whnf
  refine CallSt.use a4 [] trivial (by decide) rfl ?_
  rintro _ _ ⟨rfl, rfl⟩ _
  conv => whnf
  refine ⟨rfl, ?_⟩
  conv => whnf
  exact ⟨rfl, rfl, rfl⟩
end Go.Tr
/- TermFull. -/
namespace Go.Tr
open Go.Proofs
theorem third (n : Int) : ∃ m : Int, IntKind.i64.wrap ((IntKind.u64.wrap n).tmod 3) = m ∧ (m = 0 ∨ m = 1 ∨ m = 2) := by
  refine ⟨_, rfl, ?_⟩
  have h0 : 0 ≤ IntKind.u64.wrap n := by
    simp only [IntKind.wrap, IntKind.bits, IntKind.signed, Bool.false_and, Bool.false_eq_true, if_false]
    exact Int.emod_nonneg _ (by decide)
  have h1 : (IntKind.u64.wrap n).tmod 3 = (IntKind.u64.wrap n) % 3 := Int.tmod_eq_emod_of_nonneg h0
  rw [h1]
  generalize IntKind.u64.wrap n = u
  have h2 : IntKind.i64.wrap (u % 3) = u % 3 := wrap_in ⟨by omega, by omega⟩
  rw [h2]
  omega
def lamN : Nat → Term → Term
  | 0, t => t
  | m + 1, t => .mk 3 0 0 [lamN m t]
def fullA : Term := .mk 4 2 0 []
theorem c5 (n : Int) : CallSt Try.prog 5 [.c (.int .i64 n)] [] (fun r H' => r = .c (.bool true) ∧ H' = []) := by
  obtain ⟨q, hq, hq3⟩ := third n
  refine call_pure (E := env 0) (fn := Try.f5) (c := bodyOf Try.f5) (env_ok 0) mixed (by kernel_rfl) (by kernel_rfl) (by kernel_rfl) (by kernel_rfl) (by kernel_rfl) (by kernel_rfl) rfl ?_
  conv => whnf
  refine ⟨fun h => absurd h (by decide), ?_⟩
  conv => whnf
  refine ⟨⟨by omega, by omega⟩, ?_⟩
  conv => whnf
  refine loop_intro (fun m tm H => ∃ (i : Nat) (k l n : Int) (us : List Term), (38 + q : Int) = m + i ∧ Term.mk k l n us = lamN i fullA ∧
      tm = [(15, .c (.int .i64 i)), (14, .c (.int .i64 (38 + q))), (0, .c (.int .i64 q)), (3, .ptr 0 0), (2, .c (.bool false))] ∧
      H = [.box [.c (.int .i64 k), .c (.int .i64 l), .c (.int .i64 n), .own 1], .row 24 4 48 (tcs us)])
      (38 + q).toNat _ _ ⟨0, 4, 2, 0, [], by omega, rfl, rfl, rfl⟩ ?_ ?_
  · refine Wk.trans (H1 := [.box [.c (.int .i64 4), .c (.int .i64 2), .c (.int .i64 0), .nil]]) ?_ (Wk.nilrow' 0 3 24 4 48 rfl rfl rfl rfl)
    exact Wk.sel [0] (by decide) (by decide) (by decide) ⟨rfl, trivial⟩ ⟨rfl, by rw [← hq]; rfl, by rw [← hq]; rfl, rfl, rfl, trivial⟩ rfl
  rintro m tm H ⟨i, k, l, n', us, hi, hT, rfl, rfl⟩
  conv => whnf
  refine ⟨fun hc => ?_, fun hc => ?_⟩
  · replace hc : (i : Int) < 38 + q := of_decide_eq_true hc
    conv => whnf
    refine ⟨by decide, ?_⟩
    conv => whnf
    refine ⟨by decide, ?_⟩
    conv => whnf
    refine ⟨⟨by omega, by omega⟩, ?_⟩
    conv => whnf
    refine ⟨m - 1, _, _, by omega, ⟨i + 1, 3, 0, 0, [.mk k l n' us], by omega, by rw [hT]; rfl, rfl, rfl⟩, Wk.sel [0, 2] (by decide) (by decide) (by decide) ⟨rfl, rfl, trivial⟩ ⟨rfl, rfl, rfl, rfl, rfl, trivial⟩ rfl⟩
  replace hc : ¬ (i : Int) < 38 + q := of_decide_eq_false hc
  obtain rfl : i = (38 + q).toNat := by omega
  conv => whnf
  refine ⟨⟨by omega, by omega⟩, ?_⟩
  conv => whnf
  refine loop_intro (fun m tm H => ∃ (i : Nat), (598 + q : Int) = m + i ∧
      tm = [(4, .own 2), (23, .c (.int .i64 i)), (22, .c (.int .i64 (598 + q))), (0, .c (.int .i64 q)), (3, .ptr 0 0), (2, .c (.bool false))] ∧
      H = [.box [.c (.int .i64 k), .c (.int .i64 l), .c (.int .i64 n'), .own 1], .row 24 4 48 (tcs us), .row 24 4 48 (tcs (List.replicate i (.mk 1 0 0 [])))])
      (598 + q).toNat _ _ ⟨0, by omega, rfl, rfl⟩ ?_ ?_
  · refine Wk.trans (tm1 := [(23, .c (.int .i64 0)), (22, .c (.int .i64 (598 + q))), (0, .c (.int .i64 q)), (3, .ptr 0 0), (2, .c (.bool false)), (4, .nil)])
      (H1 := [.box [.c (.int .i64 k), .c (.int .i64 l), .c (.int .i64 n'), .own 1], .row 24 4 48 (tcs us)]) ?_ (Wk.trans (Wk.niltmp 4 24 4 48 rfl rfl) ?_)
    · exact Wk.sel [0, 1] (by decide) (by decide) (by decide) ⟨rfl, rfl, trivial⟩ ⟨rfl, rfl, rfl, rfl, rfl, rfl, trivial⟩ rfl
    · exact Wk.sel [0, 1, 2] (by decide) (by decide) (by decide) ⟨rfl, rfl, rfl, trivial⟩ ⟨rfl, rfl, rfl, rfl, rfl, rfl, trivial⟩ rfl
  rintro m2 tm H ⟨j, hj, rfl, rfl⟩
  conv => whnf
  refine ⟨fun hc2 => ?_, fun hc2 => ?_⟩
  · replace hc2 : (j : Int) < 598 + q := of_decide_eq_true hc2
    conv => whnf
    refine ⟨by decide, ?_⟩
    conv => whnf
    refine ⟨by decide, ?_⟩
    conv => whnf
    have hl1 : (tcs (List.replicate j (Term.mk 1 0 0 []))).length = j := by rw [len_tcs, List.length_replicate]
    have hl2 : ((tcs (List.replicate j (Term.mk 1 0 0 []))).length + 1) * 48 ≤ 140737488355328 := by omega
    have hl3 : (tcs (List.replicate j (Term.mk 1 0 0 []))).length + 1 ≤ 9223372036854775807 := by omega
    refine ⟨hl2, hl3, ?_⟩
    conv => whnf
    refine ⟨⟨by omega, by omega⟩, ?_⟩
    conv => whnf
    refine ⟨m2 - 1, _, _, by omega, ⟨j + 1, by omega, rfl, rfl⟩, Wk.sel [0, 1, 4] (by decide) (by decide) (by decide) ⟨rfl, rfl, ?_, trivial⟩ ⟨rfl, rfl, rfl, rfl, rfl, rfl, trivial⟩ rfl⟩
    rw [List.replicate_succ', ← tcs_snoc]
    rfl
  replace hc2 : ¬ (j : Int) < 598 + q := of_decide_eq_false hc2
  obtain rfl : j = (598 + q).toNat := by omega
  have p1 : prop (lamN (38 + q).toNat fullA) = decide (q < 2) := by rcases hq3 with rfl | rfl | rfl <;> kernel_rfl
  have p2 : prop (.mk 4 1 0 (List.replicate (598 + q).toNat (.mk 1 0 0 []))) = decide (q < 2) := by rcases hq3 with rfl | rfl | rfl <;> kernel_rfl
  have p3 : prop (.mk 4 3 (9998 + q) []) = decide (q < 2) := by rcases hq3 with rfl | rfl | rfl <;> kernel_rfl
  have a1 := c14 (.mk k l n' us)
  rw [hT, p1, ← hT] at a1
  have a2 := c14 (.mk 4 1 0 (List.replicate (598 + q).toNat (.mk 1 0 0 [])))
  rw [p2] at a2
  have a3 := c14 (.mk 4 3 (9998 + q) [])
  rw [p3] at a3
  conv => whnf
  refine ⟨⟨by omega, by omega⟩, ?_⟩
  conv => whnf
  refine ⟨fun h2 => ?_, fun h2 => ?_⟩
  · have h3 : decide (q < 2) = true := h2
    rw [h3] at a1 a2 a3
    conv => whnf
    refine CallSt.use a1 [] trivial (by decide) rfl ?_
    rintro _ _ ⟨rfl, rfl⟩ _
    conv => whnf
    refine ⟨fun _ => ?_, fun h => absurd h (by decide)⟩
    conv => whnf
    refine CallSt.use a2 [] trivial (by decide) rfl ?_
    rintro _ _ ⟨rfl, rfl⟩ _
    conv => whnf
    refine ⟨fun _ => ?_, fun h => absurd h (by decide)⟩
    conv => whnf
    refine CallSt.use a3 [] trivial (by decide) rfl ?_
    rintro _ _ ⟨rfl, rfl⟩ _
    conv => whnf
    refine ⟨fun _ => ?_, fun h => absurd h (by decide)⟩
    conv => whnf
    refine CallSt.use c17 [] trivial (by decide) rfl ?_
    rintro _ _ ⟨rfl, rfl⟩ _
    conv => whnf
    refine ⟨rfl, ?_⟩
    conv => whnf
    exact ⟨rfl, rfl, rfl⟩
  · have h3 : decide (q < 2) = false := h2
    rw [h3] at a1 a2 a3
    conv => whnf
    refine CallSt.use a1 [] trivial (by decide) rfl ?_
    rintro _ _ ⟨rfl, rfl⟩ _
    conv => whnf
    refine ⟨fun _ => ?_, fun h => absurd h (by decide)⟩
    conv => whnf
    refine CallSt.use a2 [] trivial (by decide) rfl ?_
    rintro _ _ ⟨rfl, rfl⟩ _
    conv => whnf
    refine ⟨fun _ => ?_, fun h => absurd h (by decide)⟩
    conv => whnf
    refine CallSt.use a3 [] trivial (by decide) rfl ?_
    rintro _ _ ⟨rfl, rfl⟩ _
    conv => whnf
    refine ⟨fun _ => ?_, fun h => absurd h (by decide)⟩
    conv => whnf
    refine CallSt.use c17 [] trivial (by decide) rfl ?_
    rintro _ _ ⟨rfl, rfl⟩ _
    conv => whnf
    refine ⟨rfl, ?_⟩
    conv => whnf
    exact ⟨rfl, rfl, rfl⟩
end Go.Tr
/- Same, SameSimple: both sides. -/
namespace Go.Tr
open Go.Proofs
theorem c59 (ts us : List Term) (hf : ∀ t ∈ ts, ∀ u, CallSt Try.prog 22 [tv t, tv u] [] (fun r H' => r = .c (.bool (sameT t u)) ∧ H' = [])) :
    CallSt Try.prog 59 [.c (.sl 4 48 (tcs ts)), .c (.sl 4 48 (tcs us)), .fn 22 []] [] (fun r H' => r = .c (.bool (decide (ts.length = us.length) && sameL ts us)) ∧ H' = []) := by
  refine call_pure (E := env 0) (fn := Try.f59) (c := bodyOf Try.f59) (env_ok 0) mixed (by kernel_rfl) (by kernel_rfl) (by kernel_rfl) (by kernel_rfl) (by kernel_rfl) (by kernel_rfl) rfl ?_
  conv => whnf
  intro hl1
  conv => whnf
  intro hl2
  clear hl2
  replace hl1 : (tcs ts).length * 48 ≤ 140737488355328 := hl1
  rw [len_tcs] at hl1
  conv => whnf
  have key : (!decide (((tcs ts).length : Int) = (tcs us).length)) = !decide (ts.length = us.length) := by
    rw [len_tcs, len_tcs]; simp only [Int.natCast_inj]
  refine ⟨fun h => ?_, fun h => ?_⟩
  · replace h := key.symm.trans h
    rw [Bool.not_eq_true'] at h
    conv => whnf
    refine ⟨rfl, ?_⟩
    conv => whnf
    refine ⟨rfl, ?_⟩
    rw [h]
    exact ⟨rfl, rfl⟩
  replace h := key.symm.trans h
  rw [Bool.not_eq_false'] at h
  have hle : ts.length = us.length := of_decide_eq_true h
  conv => whnf
  intro _
  conv => whnf
  refine loop_intro (fun m tm H => ∃ (i : Nat), ts.length = m + i ∧ sameL (ts.drop i) (us.drop i) = sameL ts us ∧
      tm = [(17, .c (.int .i64 (i))), (15, .c (.sl 4 48 (tcs ts))), (16, .c (.int .i64 ((tcs ts).length))), (1, .c (.sl 4 48 (tcs us))), (2, .fn 22 []), (6, .c (.bool false))] ∧ H = [])
      ts.length _ _ ⟨0, by omega, rfl, rfl, rfl⟩ (Wk.sel [] (by decide) (by decide) (by decide) trivial ⟨rfl, rfl, rfl, rfl, rfl, rfl, trivial⟩ rfl) ?_
  rintro m tm H ⟨i, hi, hR, rfl, rfl⟩
  conv => whnf
  refine ⟨fun hc => ?_, fun hc => ?_⟩
  · replace hc : (i : Int) < (tcs ts).length := of_decide_eq_true hc
    rw [len_tcs] at hc
    have hlt : i < ts.length := by omega
    obtain ⟨u, hu⟩ : ∃ u, ts[i]? = some u := ⟨ts[i], List.getElem?_eq_getElem hlt⟩
    obtain ⟨v, hv⟩ : ∃ v, us[i]? = some v := ⟨us[i], List.getElem?_eq_getElem (by omega)⟩
    have hm := List.mem_of_getElem? hu
    have huc := tcs_at ts i u hu
    have hvc := tcs_at us i v hv
    rw [drop_at hu, drop_at hv, sameL] at hR
    have hcc := hf u hm v
    obtain ⟨k', l', n', us'⟩ := u
    obtain ⟨k3, l3, n3, us3⟩ := v
    conv => whnf
    refine ⟨_, ⟨by omega, by simpa using huc⟩, ?_⟩
    conv => whnf
    refine ⟨Nat.le_refl 4, ?_⟩
    conv => whnf
    refine ⟨_, ⟨by omega, by simpa using hvc⟩, ?_⟩
    conv => whnf
    refine ⟨Nat.le_refl 4, ?_⟩
    conv => whnf
    try (refine draw_intro true (by kernel_rfl) ?_; conv => whnf)
    refine CallSt.use hcc [] trivial (by decide) rfl ?_
    rintro _ _ ⟨rfl, rfl⟩ _
    conv => whnf
    refine ⟨fun hf => ?_, fun hf => ?_⟩
    · conv => whnf
      refine ⟨rfl, ?_⟩
      conv => whnf
      refine ⟨rfl, ?_⟩
      rw [← hR, show sameT (.mk k' l' n' us') (.mk k3 l3 n3 us3) = false by simpa using hf, Bool.false_and, Bool.and_false]
      exact ⟨rfl, rfl⟩
    · conv => whnf
      refine ⟨⟨by omega, by omega⟩, ?_⟩
      conv => whnf
      refine ⟨m - 1, _, _, by omega, ⟨i + 1, by omega, ?_, rfl, rfl⟩, Wk.sel [] (by decide) (by decide) (by decide) trivial ⟨rfl, rfl, rfl, rfl, rfl, rfl, trivial⟩ rfl⟩
      rw [← hR, show sameT (.mk k' l' n' us') (.mk k3 l3 n3 us3) = true by simpa using hf, Bool.true_and]
  · replace hc : ¬ (i : Int) < (tcs ts).length := of_decide_eq_false hc
    rw [len_tcs] at hc
    conv => whnf
    refine ⟨rfl, ?_⟩
    conv => whnf
    refine ⟨rfl, ?_⟩
    rw [h, ← hR, List.drop_eq_nil_of_le (by omega), sameL]
    exact ⟨rfl, rfl⟩
    all_goals simp
theorem c22 (t : Term) : ∀ u : Term, CallSt Try.prog 22 [tv t, tv u] [] (fun r H' => r = .c (.bool (sameT t u)) ∧ H' = []) := by
  induction t using Term.ind with
  | _ t ih =>
  intro u
  obtain ⟨k, l, n, ts⟩ := t
  obtain ⟨k2, l2, n2, us⟩ := u
  replace ih : ∀ u, u ∈ ts → _ := ih
  have hc := c59 ts us ih
  rw [tv_mk, tv_mk]
  refine call_pure (E := env 0) (fn := Try.f22) (c := bodyOf Try.f22) (env_ok 0) mixed (by kernel_rfl) (by kernel_rfl) (by kernel_rfl) (by kernel_rfl) (by kernel_rfl) (by kernel_rfl) rfl ?_
  conv => whnf
  refine ⟨fun h => ?_, fun h => ?_⟩
  · conv => whnf
    try (refine draw_intro true (by kernel_rfl) ?_; conv => whnf)
    refine CallSt.use hc [] trivial (by decide) rfl ?_
    rintro _ _ ⟨rfl, rfl⟩ _
    conv => whnf
    refine ⟨rfl, ?_⟩
    conv => whnf
    refine ⟨rfl, ?_⟩
    rw [sameT, h, Bool.true_and]
    exact ⟨rfl, rfl⟩
  · conv => whnf
    refine ⟨rfl, ?_⟩
    conv => whnf
    refine ⟨rfl, ?_⟩
    rw [sameT, h]
    exact ⟨rfl, rfl⟩
/-- A simple type. -/
inductive Smp where
  | mk (ys : List Smp) (c : Int)
namespace Smp
def xs : Smp → List Smp | mk a _ => a
def c : Smp → Int | mk _ a => a
end Smp
theorem Smp.ind {C : Smp → Prop} (h : ∀ t : Smp, (∀ u ∈ t.xs, C u) → C t) : ∀ t, C t
  | .mk ys c => h _ fun u hu => Smp.ind h u
  termination_by t => SizeOf.sizeOf t
  decreasing_by
  have := List.sizeOf_lt_of_mem (show u ∈ ys from hu)
  simp; omega
mutual
def sc : Smp → List CV
  | .mk ys c => [.sl 2 32 (scs ys), .int .i64 c]
def scs : List Smp → List (List CV)
  | [] => []
  | t :: r => sc t :: scs r
end
def sv (t : Smp) : AV := .agg [.c (.sl 2 32 (scs t.xs)), .c (.int .i64 t.c)]
theorem sv_mk (ys : List Smp) (c : Int) : sv (.mk ys c) = .agg [.c (.sl 2 32 (scs ys)), .c (.int .i64 c)] := rfl
theorem len_scs : ∀ ts : List Smp, (scs ts).length = ts.length
  | [] => rfl
  | t :: r => by simp [scs, len_scs r]
theorem scs_at : ∀ (ts : List Smp) (i : Nat) (u : Smp), ts[i]? = some u → (scs ts)[i]? = some (sc u)
  | [], _, _, h => by simp at h
  | t :: r, 0, u, h => by simp at h; subst h; simp [scs]
  | t :: r, i + 1, u, h => by simp only [scs, List.getElem?_cons_succ]; exact scs_at r i u (by simpa using h)
theorem scs_snoc (ts : List Smp) (u : Smp) : scs ts ++ [sc u] = scs (ts ++ [u]) := by
  induction ts with
  | nil => simp [scs]
  | cons t r ih => simp only [scs, List.cons_append, ih]
mutual
def sameS : Smp → Smp → Bool
  | .mk ys c, .mk bs c' => decide (c = c') && (decide (ys.length = bs.length) && sameSL ys bs)
def sameSL : List Smp → List Smp → Bool
  | t :: r, u :: s => sameS t u && sameSL r s
  | _, _ => true
end
mutual
theorem sameS_iff : ∀ (t u : Smp), sameS t u = true ↔ t = u
  | .mk ys c, .mk bs c' => by
    unfold sameS
    simp only [Bool.and_eq_true, decide_eq_true_eq, Smp.mk.injEq]
    constructor
    · rintro ⟨h1, h4, h5⟩
      exact ⟨(sameSL_iff ys bs h4).1 h5, h1⟩
    · rintro ⟨h1, h2⟩
      exact ⟨h2, by rw [h1], (sameSL_iff ys bs (by rw [h1])).2 h1⟩
theorem sameSL_iff : ∀ (ts us : List Smp), ts.length = us.length → (sameSL ts us = true ↔ ts = us)
  | [], [], _ => by simp [sameSL]
  | t :: r, u :: s, h => by
    unfold sameSL
    simp only [Bool.and_eq_true, List.cons.injEq]
    rw [sameS_iff t u, sameSL_iff r s (by simpa using h)]
  | [], _ :: _, h => by simp at h
  | _ :: _, [], h => by simp at h
end
theorem c60 (ts us : List Smp) (hf : ∀ t ∈ ts, ∀ u, CallSt Try.prog 24 [sv t, sv u] [] (fun r H' => r = .c (.bool (sameS t u)) ∧ H' = [])) :
    CallSt Try.prog 60 [.c (.sl 2 32 (scs ts)), .c (.sl 2 32 (scs us)), .fn 24 []] [] (fun r H' => r = .c (.bool (decide (ts.length = us.length) && sameSL ts us)) ∧ H' = []) := by
  refine call_pure (E := env 0) (fn := Try.f60) (c := bodyOf Try.f60) (env_ok 0) mixed (by kernel_rfl) (by kernel_rfl) (by kernel_rfl) (by kernel_rfl) (by kernel_rfl) (by kernel_rfl) rfl ?_
  conv => whnf
  intro hl1
  conv => whnf
  intro hl2
  clear hl2
  replace hl1 : (scs ts).length * 32 ≤ 140737488355328 := hl1
  rw [len_scs] at hl1
  conv => whnf
  have key : (!decide (((scs ts).length : Int) = (scs us).length)) = !decide (ts.length = us.length) := by
    rw [len_scs, len_scs]; simp only [Int.natCast_inj]
  refine ⟨fun h => ?_, fun h => ?_⟩
  · replace h := key.symm.trans h
    rw [Bool.not_eq_true'] at h
    conv => whnf
    refine ⟨rfl, ?_⟩
    conv => whnf
    refine ⟨rfl, ?_⟩
    rw [h]
    exact ⟨rfl, rfl⟩
  replace h := key.symm.trans h
  rw [Bool.not_eq_false'] at h
  have hle : ts.length = us.length := of_decide_eq_true h
  conv => whnf
  intro _
  conv => whnf
  refine loop_intro (fun m tm H => ∃ (i : Nat), ts.length = m + i ∧ sameSL (ts.drop i) (us.drop i) = sameSL ts us ∧
      tm = [(17, .c (.int .i64 (i))), (15, .c (.sl 2 32 (scs ts))), (16, .c (.int .i64 ((scs ts).length))), (1, .c (.sl 2 32 (scs us))), (2, .fn 24 []), (6, .c (.bool false))] ∧ H = [])
      ts.length _ _ ⟨0, by omega, rfl, rfl, rfl⟩ (Wk.sel [] (by decide) (by decide) (by decide) trivial ⟨rfl, rfl, rfl, rfl, rfl, rfl, trivial⟩ rfl) ?_
  rintro m tm H ⟨i, hi, hR, rfl, rfl⟩
  conv => whnf
  refine ⟨fun hc => ?_, fun hc => ?_⟩
  · replace hc : (i : Int) < (scs ts).length := of_decide_eq_true hc
    rw [len_scs] at hc
    have hlt : i < ts.length := by omega
    obtain ⟨u, hu⟩ : ∃ u, ts[i]? = some u := ⟨ts[i], List.getElem?_eq_getElem hlt⟩
    obtain ⟨v, hv⟩ : ∃ v, us[i]? = some v := ⟨us[i], List.getElem?_eq_getElem (by omega)⟩
    have hm := List.mem_of_getElem? hu
    have huc := scs_at ts i u hu
    have hvc := scs_at us i v hv
    rw [drop_at hu, drop_at hv, sameSL] at hR
    have hcc := hf u hm v
    obtain ⟨us', n'⟩ := u
    obtain ⟨us3, n3⟩ := v
    conv => whnf
    refine ⟨_, ⟨by omega, by simpa using huc⟩, ?_⟩
    conv => whnf
    refine ⟨Nat.le_refl 2, ?_⟩
    conv => whnf
    refine ⟨_, ⟨by omega, by simpa using hvc⟩, ?_⟩
    conv => whnf
    refine ⟨Nat.le_refl 2, ?_⟩
    conv => whnf
    try (refine draw_intro true (by kernel_rfl) ?_; conv => whnf)
    refine CallSt.use hcc [] trivial (by decide) rfl ?_
    rintro _ _ ⟨rfl, rfl⟩ _
    conv => whnf
    refine ⟨fun hf => ?_, fun hf => ?_⟩
    · conv => whnf
      refine ⟨rfl, ?_⟩
      conv => whnf
      refine ⟨rfl, ?_⟩
      rw [← hR, show sameS (.mk us' n') (.mk us3 n3) = false by simpa using hf, Bool.false_and, Bool.and_false]
      exact ⟨rfl, rfl⟩
    · conv => whnf
      refine ⟨⟨by omega, by omega⟩, ?_⟩
      conv => whnf
      refine ⟨m - 1, _, _, by omega, ⟨i + 1, by omega, ?_, rfl, rfl⟩, Wk.sel [] (by decide) (by decide) (by decide) trivial ⟨rfl, rfl, rfl, rfl, rfl, rfl, trivial⟩ rfl⟩
      rw [← hR, show sameS (.mk us' n') (.mk us3 n3) = true by simpa using hf, Bool.true_and]
  · replace hc : ¬ (i : Int) < (scs ts).length := of_decide_eq_false hc
    rw [len_scs] at hc
    conv => whnf
    refine ⟨rfl, ?_⟩
    conv => whnf
    refine ⟨rfl, ?_⟩
    rw [h, ← hR, List.drop_eq_nil_of_le (by omega), sameSL]
    exact ⟨rfl, rfl⟩
    all_goals simp
theorem c24 (t : Smp) : ∀ u : Smp, CallSt Try.prog 24 [sv t, sv u] [] (fun r H' => r = .c (.bool (sameS t u)) ∧ H' = []) := by
  induction t using Smp.ind with
  | _ t ih =>
  intro u
  obtain ⟨ts, n⟩ := t
  obtain ⟨us, n2⟩ := u
  replace ih : ∀ u, u ∈ ts → _ := ih
  have hc := c60 ts us ih
  rw [sv_mk, sv_mk]
  refine call_pure (E := env 0) (fn := Try.f24) (c := bodyOf Try.f24) (env_ok 0) mixed (by kernel_rfl) (by kernel_rfl) (by kernel_rfl) (by kernel_rfl) (by kernel_rfl) (by kernel_rfl) rfl ?_
  conv => whnf
  refine ⟨fun h => ?_, fun h => ?_⟩
  · conv => whnf
    try (refine draw_intro true (by kernel_rfl) ?_; conv => whnf)
    refine CallSt.use hc [] trivial (by decide) rfl ?_
    rintro _ _ ⟨rfl, rfl⟩ _
    conv => whnf
    refine ⟨rfl, ?_⟩
    conv => whnf
    refine ⟨rfl, ?_⟩
    rw [sameS, h, Bool.true_and]
    exact ⟨rfl, rfl⟩
  · conv => whnf
    refine ⟨rfl, ?_⟩
    conv => whnf
    refine ⟨rfl, ?_⟩
    rw [sameS, h]
    exact ⟨rfl, rfl⟩
theorem c25 (t : Smp) : ∀ u : Smp, CallSt Try.prog 25 [sv t, sv u] [] (fun r H' => r = .c (.bool (sameS t u)) ∧ H' = []) := by
  induction t using Smp.ind with
  | _ t ih =>
  intro u
  obtain ⟨ts, n⟩ := t
  obtain ⟨us, n2⟩ := u
  replace ih : ∀ u, u ∈ ts → _ := ih
  rw [sv_mk, sv_mk]
  refine call_pure (E := env 0) (fn := Try.f25) (c := bodyOf Try.f25) (env_ok 0) mixed (by kernel_rfl) (by kernel_rfl) (by kernel_rfl) (by kernel_rfl) (by kernel_rfl) (by kernel_rfl) rfl ?_
  conv => whnf
  intro hl1
  conv => whnf
  intro hl2
  clear hl1 hl2
  conv => whnf
  have key : (!decide (n = n2) || !decide (((scs ts).length : Int) = (scs us).length)) = !(decide (n = n2) && decide (ts.length = us.length)) := by
    rw [len_scs, len_scs, show decide ((ts.length : Int) = us.length) = decide (ts.length = us.length) by simp only [Int.natCast_inj]]
    simp only [Bool.not_and]
  refine ⟨fun h => ?_, fun h => ?_⟩
  · conv => whnf
    refine ⟨rfl, ?_⟩
    conv => whnf
    refine ⟨rfl, ?_⟩
    have h2 := key.symm.trans h
    rw [Bool.not_eq_true'] at h2
    unfold sameS
    rw [← Bool.and_assoc, h2]
    exact ⟨rfl, rfl⟩
  · have h2 := key.symm.trans h
    rw [Bool.not_eq_false'] at h2
    have hle : ts.length = us.length := by
      simp only [Bool.and_eq_true, decide_eq_true_eq] at h2
      exact h2.2
    have hs : sameS (.mk ts n) (.mk us n2) = sameSL ts us := by rw [sameS, ← Bool.and_assoc, h2, Bool.true_and]
    conv => whnf
    refine loop_intro (fun m tm H => ∃ (i : Nat), ts.length = m + i ∧ sameSL (ts.drop i) (us.drop i) = sameSL ts us ∧
      tm = [(5, .c (.int .i64 (i))), (2, .ptr 0 0), (3, .ptr 1 0), (4, .c (.bool false))] ∧ H = [.box [.c (.sl 2 32 (scs ts)), .c (.int .i64 (n))], .box [.c (.sl 2 32 (scs us)), .c (.int .i64 (n2))]])
      ts.length _ _ ⟨0, by omega, rfl, rfl, rfl⟩ (Wk.sel [0, 1] (by decide) (by decide) (by decide) ⟨rfl, rfl, trivial⟩ ⟨rfl, rfl, rfl, rfl, trivial⟩ rfl) ?_
    rintro m tm H ⟨i, hi, hR, rfl, rfl⟩
    conv => whnf
    intro hlen
    replace hlen : (scs ts).length * 32 ≤ 140737488355328 := hlen
    rw [len_scs] at hlen
    conv => whnf
    refine ⟨fun hc => ?_, fun hc => ?_⟩
    · replace hc : (i : Int) < (scs ts).length := of_decide_eq_true hc
      rw [len_scs] at hc
      have hlt : i < ts.length := by omega
      obtain ⟨u, hu⟩ : ∃ u, ts[i]? = some u := ⟨ts[i], List.getElem?_eq_getElem hlt⟩
      obtain ⟨v, hv⟩ : ∃ v, us[i]? = some v := ⟨us[i], List.getElem?_eq_getElem (by omega)⟩
      have hm := List.mem_of_getElem? hu
      have huc := scs_at ts i u hu
      have hvc := scs_at us i v hv
      rw [drop_at hu, drop_at hv, sameSL] at hR
      have hcc := ih u hm v
      obtain ⟨us', n'⟩ := u
      obtain ⟨us3, n3⟩ := v
      conv => whnf
      refine draw_intro true (by kernel_rfl) ?_
      conv => whnf
      refine ⟨_, ⟨by omega, by simpa using huc⟩, ?_⟩
      conv => whnf
      refine ⟨Nat.le_refl 2, ?_⟩
      conv => whnf
      refine ⟨_, ⟨by omega, by simpa using hvc⟩, ?_⟩
      conv => whnf
      refine ⟨Nat.le_refl 2, ?_⟩
      conv => whnf
      try (refine draw_intro true (by kernel_rfl) ?_; conv => whnf)
      refine CallSt.use hcc [] trivial (by decide) rfl ?_
      rintro _ _ ⟨rfl, rfl⟩ _
      conv => whnf
      refine ⟨fun hf => ?_, fun hf => ?_⟩
      · conv => whnf
        refine ⟨rfl, ?_⟩
        conv => whnf
        refine ⟨rfl, ?_⟩
        rw [hs, ← hR, show sameS (.mk us' n') (.mk us3 n3) = false by simpa using hf]
        exact ⟨rfl, rfl⟩
      · conv => whnf
        refine ⟨⟨by omega, by omega⟩, ?_⟩
        conv => whnf
        refine ⟨m - 1, _, _, by omega, ⟨i + 1, by omega, ?_, rfl, rfl⟩, Wk.sel [0, 1] (by decide) (by decide) (by decide) ⟨rfl, rfl, trivial⟩ ⟨rfl, rfl, rfl, rfl, trivial⟩ rfl⟩
        rw [← hR, show sameS (.mk us' n') (.mk us3 n3) = true by simpa using hf, Bool.true_and]
    · replace hc : ¬ (i : Int) < (scs ts).length := of_decide_eq_false hc
      rw [len_scs] at hc
      conv => whnf
      refine ⟨rfl, ?_⟩
      conv => whnf
      refine ⟨rfl, ?_⟩
      rw [hs, ← hR, List.drop_eq_nil_of_le (by omega), List.drop_eq_nil_of_le (by omega)]
      exact ⟨rfl, rfl⟩
theorem sameT_comm (a b : Term) : sameT a b = sameT b a := by
  rw [Bool.eq_iff_iff, sameT_iff, sameT_iff]
  exact eq_comm
theorem sameS_self (a : Smp) : sameS a a = true := (sameS_iff a a).2 rfl
theorem sameT_self (a : Term) : sameT a a = true := (sameT_iff a a).2 rfl
end Go.Tr
/- The order of terms: both sides. -/
namespace Go.Tr
open Go.Proofs
def sgn (a b : Int) : Int := if a < b then -1 else if b < a then 1 else 0
def orI : List Int → Int
  | [] => 0
  | x :: r => if x = 0 then orI r else x
mutual
def ordT : Term → Term → Int
  | .mk k l n ts, .mk k2 l2 n2 us => orI [sgn k k2, sgn l l2, sgn n n2, sgn ts.length us.length, ordL ts us]
def ordL : List Term → List Term → Int
  | [], [] => 0
  | [], _ :: _ => -1
  | _ :: _, [] => 1
  | t :: r, u :: s => if ordT t u = 0 then ordL r s else ordT t u
end
theorem sgn_bd (a b : Int) : -1 ≤ sgn a b ∧ sgn a b ≤ 1 := by unfold sgn; split <;> (try split) <;> omega
theorem orI_bd : ∀ (l : List Int), (∀ x ∈ l, -1 ≤ x ∧ x ≤ 1) → -1 ≤ orI l ∧ orI l ≤ 1
  | [], _ => by simp [orI]
  | x :: r, h => by
    unfold orI
    split
    · exact orI_bd r fun y hy => h y (List.mem_cons_of_mem _ hy)
    · exact h x (by simp)
mutual
theorem ordT_bd : ∀ (t u : Term), -1 ≤ ordT t u ∧ ordT t u ≤ 1
  | .mk k l n ts, .mk k2 l2 n2 us => by
    rw [ordT]
    refine orI_bd _ fun x hx => ?_
    simp only [List.mem_cons, List.not_mem_nil, or_false] at hx
    rcases hx with rfl | rfl | rfl | rfl | rfl
    · exact sgn_bd _ _
    · exact sgn_bd _ _
    · exact sgn_bd _ _
    · exact sgn_bd _ _
    · exact ordL_bd ts us
theorem ordL_bd : ∀ (t u : List Term), -1 ≤ ordL t u ∧ ordL t u ≤ 1
  | [], [] => by simp [ordL]
  | [], _ :: _ => by simp [ordL]
  | _ :: _, [] => by simp [ordL]
  | t :: r, u :: s => by
    rw [ordL]
    split
    · exact ordL_bd r s
    · exact ordT_bd t u
end
def ic (x : Int) : List CV := [.int .i64 x]
def ics (l : List Int) : List (List CV) := l.map ic
theorem len_ics (l : List Int) : (ics l).length = l.length := List.length_map _
theorem ics_at {l : List Int} {i : Nat} {x : Int} (h : l[i]? = some x) : (ics l)[i]? = some (ic x) := by unfold ics; rw [List.getElem?_map, h]; rfl
theorem orI_drop {l : List Int} {i : Nat} {x : Int} (h : l[i]? = some x) : orI (l.drop i) = if x = 0 then orI (l.drop (i + 1)) else x := by
  rw [drop_at h]; rfl
theorem c91 (x : Int) : CallSt Try.prog 91 [.c (.int .i64 (x))] [] (fun r H' => r = .c (.bool false) ∧ H' = []) := by
  refine call_pure (E := env 0) (fn := Try.f91) (c := bodyOf Try.f91) (env_ok 0) mixed (by kernel_rfl) (by kernel_rfl) (by kernel_rfl) (by kernel_rfl) (by kernel_rfl) (by kernel_rfl) rfl ?_
  conv => whnf
  repeat (first | (refine And.intro rfl ?_; conv => whnf) | (refine And.intro (by decide) ?_; conv => whnf) | (refine draw_intro true (by kernel_rfl) ?_; conv => whnf) | (refine And.intro ⟨by omega, by omega⟩ ?_; conv => whnf) | (refine And.intro (by omega) ?_; conv => whnf) | (refine And.intro (fun _ => ?_) (fun h => absurd h ?_); rotate_left; (focus (first | decide | (simp; done))); conv => whnf) | (refine And.intro (fun h => absurd h ?_) (fun _ => ?_); (focus (first | decide | (simp; done))); conv => whnf))
  first | rfl | (rw [show (!decide (x = x)) = false by simp]; exact ⟨rfl, rfl⟩) | (refine ⟨?_, ?_⟩ <;> simp)
theorem c84 (a b : Int) : CallSt Try.prog 84 [.c (.int .i64 (a)), .c (.int .i64 (b))] [] (fun r H' => r = .c (.int .i64 (sgn a b)) ∧ H' = []) := by
  refine call_pure (E := env 0) (fn := Try.f84) (c := bodyOf Try.f84) (env_ok 0) mixed (by kernel_rfl) (by kernel_rfl) (by kernel_rfl) (by kernel_rfl) (by kernel_rfl) (by kernel_rfl) rfl ?_
  conv => whnf
  try (refine draw_intro true (by kernel_rfl) ?_; conv => whnf)
  refine CallSt.use (c91 a) [] trivial (by decide) rfl ?_
  rintro _ _ ⟨rfl, rfl⟩ _
  conv => whnf
  try (refine draw_intro true (by kernel_rfl) ?_; conv => whnf)
  refine CallSt.use (c91 b) [] trivial (by decide) rfl ?_
  rintro _ _ ⟨rfl, rfl⟩ _
  conv => whnf
  repeat (first | (refine And.intro rfl ?_; conv => whnf) | (refine And.intro (by decide) ?_; conv => whnf) | (refine draw_intro true (by kernel_rfl) ?_; conv => whnf) | (refine And.intro ⟨by omega, by omega⟩ ?_; conv => whnf) | (refine And.intro (by omega) ?_; conv => whnf) | (refine And.intro (fun _ => ?_) (fun h => absurd h ?_); rotate_left; (focus (first | decide | (simp; done))); conv => whnf) | (refine And.intro (fun h => absurd h ?_) (fun _ => ?_); (focus (first | decide | (simp; done))); conv => whnf))
  unfold sgn
  refine ⟨fun h => ?_, fun h => ?_⟩
  · replace h := of_decide_eq_true h
    rw [if_pos h]
    conv => whnf
    repeat (first | (refine And.intro rfl ?_; conv => whnf) | (refine And.intro (by decide) ?_; conv => whnf) | (refine draw_intro true (by kernel_rfl) ?_; conv => whnf) | (refine And.intro ⟨by omega, by omega⟩ ?_; conv => whnf) | (refine And.intro (by omega) ?_; conv => whnf) | (refine And.intro (fun _ => ?_) (fun h => absurd h ?_); rotate_left; (focus (first | decide | (simp; done))); conv => whnf) | (refine And.intro (fun h => absurd h ?_) (fun _ => ?_); (focus (first | decide | (simp; done))); conv => whnf))
    first | rfl | exact ⟨rfl, rfl⟩ | exact ⟨rfl, rfl, rfl⟩
  · replace h := of_decide_eq_false h
    rw [if_neg h]
    conv => whnf
    refine ⟨fun h2 => ?_, fun h2 => ?_⟩
    · replace h2 := of_decide_eq_true h2
      rw [if_pos h2]
      conv => whnf
      repeat (first | (refine And.intro rfl ?_; conv => whnf) | (refine And.intro (by decide) ?_; conv => whnf) | (refine draw_intro true (by kernel_rfl) ?_; conv => whnf) | (refine And.intro ⟨by omega, by omega⟩ ?_; conv => whnf) | (refine And.intro (by omega) ?_; conv => whnf) | (refine And.intro (fun _ => ?_) (fun h => absurd h ?_); rotate_left; (focus (first | decide | (simp; done))); conv => whnf) | (refine And.intro (fun h => absurd h ?_) (fun _ => ?_); (focus (first | decide | (simp; done))); conv => whnf))
      first | rfl | exact ⟨rfl, rfl⟩ | exact ⟨rfl, rfl, rfl⟩
    · replace h2 := of_decide_eq_false h2
      rw [if_neg h2]
      conv => whnf
      repeat (first | (refine And.intro rfl ?_; conv => whnf) | (refine And.intro (by decide) ?_; conv => whnf) | (refine draw_intro true (by kernel_rfl) ?_; conv => whnf) | (refine And.intro ⟨by omega, by omega⟩ ?_; conv => whnf) | (refine And.intro (by omega) ?_; conv => whnf) | (refine And.intro (fun _ => ?_) (fun h => absurd h ?_); rotate_left; (focus (first | decide | (simp; done))); conv => whnf) | (refine And.intro (fun h => absurd h ?_) (fun _ => ?_); (focus (first | decide | (simp; done))); conv => whnf))
      first | rfl | exact ⟨rfl, rfl⟩ | exact ⟨rfl, rfl, rfl⟩
theorem c70 (a b : Int) : CallSt Try.prog 70 [.c (.int .i64 (a)), .c (.int .i64 (b))] [] (fun r H' => r = .c (.int .i64 (sgn a b)) ∧ H' = []) := by
  refine call_pure (E := env 0) (fn := Try.f70) (c := bodyOf Try.f70) (env_ok 0) mixed (by kernel_rfl) (by kernel_rfl) (by kernel_rfl) (by kernel_rfl) (by kernel_rfl) (by kernel_rfl) rfl ?_
  conv => whnf
  unfold sgn
  refine ⟨fun h => ?_, fun h => ?_⟩
  · replace h := of_decide_eq_true h
    rw [if_pos h]
    conv => whnf
    repeat (first | (refine And.intro rfl ?_; conv => whnf) | (refine And.intro (by decide) ?_; conv => whnf) | (refine draw_intro true (by kernel_rfl) ?_; conv => whnf) | (refine And.intro ⟨by omega, by omega⟩ ?_; conv => whnf) | (refine And.intro (by omega) ?_; conv => whnf) | (refine And.intro (fun _ => ?_) (fun h => absurd h ?_); rotate_left; (focus (first | decide | (simp; done))); conv => whnf) | (refine And.intro (fun h => absurd h ?_) (fun _ => ?_); (focus (first | decide | (simp; done))); conv => whnf))
    first | rfl | exact ⟨rfl, rfl⟩ | exact ⟨rfl, rfl, rfl⟩
  · replace h := of_decide_eq_false h
    rw [if_neg h]
    conv => whnf
    refine ⟨fun h2 => ?_, fun h2 => ?_⟩
    · replace h2 := of_decide_eq_true h2
      rw [if_pos h2]
      conv => whnf
      repeat (first | (refine And.intro rfl ?_; conv => whnf) | (refine And.intro (by decide) ?_; conv => whnf) | (refine draw_intro true (by kernel_rfl) ?_; conv => whnf) | (refine And.intro ⟨by omega, by omega⟩ ?_; conv => whnf) | (refine And.intro (by omega) ?_; conv => whnf) | (refine And.intro (fun _ => ?_) (fun h => absurd h ?_); rotate_left; (focus (first | decide | (simp; done))); conv => whnf) | (refine And.intro (fun h => absurd h ?_) (fun _ => ?_); (focus (first | decide | (simp; done))); conv => whnf))
      first | rfl | exact ⟨rfl, rfl⟩ | exact ⟨rfl, rfl, rfl⟩
    · replace h2 := of_decide_eq_false h2
      rw [if_neg h2]
      conv => whnf
      repeat (first | (refine And.intro rfl ?_; conv => whnf) | (refine And.intro (by decide) ?_; conv => whnf) | (refine draw_intro true (by kernel_rfl) ?_; conv => whnf) | (refine And.intro ⟨by omega, by omega⟩ ?_; conv => whnf) | (refine And.intro (by omega) ?_; conv => whnf) | (refine And.intro (fun _ => ?_) (fun h => absurd h ?_); rotate_left; (focus (first | decide | (simp; done))); conv => whnf) | (refine And.intro (fun h => absurd h ?_) (fun _ => ?_); (focus (first | decide | (simp; done))); conv => whnf))
      first | rfl | exact ⟨rfl, rfl⟩ | exact ⟨rfl, rfl, rfl⟩
theorem c83 (l : List Int) : CallSt Try.prog 83 [.c (.sl 1 8 (ics l))] [] (fun r H' => r = .c (.int .i64 (orI l)) ∧ H' = []) := by
  refine call_pure (E := env 0) (fn := Try.f83) (c := bodyOf Try.f83) (env_ok 0) mixed (by kernel_rfl) (by kernel_rfl) (by kernel_rfl) (by kernel_rfl) (by kernel_rfl) (by kernel_rfl) rfl ?_
  conv => whnf
  intro hlen
  replace hlen : (ics l).length * 8 ≤ 140737488355328 := hlen
  rw [len_ics] at hlen
  conv => whnf
  refine loop_intro (fun m tm H => ∃ (i : Nat), l.length = m + i ∧ orI (l.drop i) = orI l ∧
      tm = [(8, .c (.int .i64 (i))), (6, .c (.sl 1 8 (ics l))), (7, .c (.int .i64 ((ics l).length))), (3, .c (.int .i64 (0))), (2, .c (.int .i64 (0)))] ∧ H = [])
      l.length _ _ ⟨0, by omega, rfl, rfl, rfl⟩ (Wk.sel [] (by decide) (by decide) (by decide) trivial ⟨rfl, rfl, rfl, rfl, rfl, trivial⟩ rfl) ?_
  rintro m tm H ⟨i, hi, hR, rfl, rfl⟩
  conv => whnf
  refine ⟨fun hc => ?_, fun hc => ?_⟩
  · replace hc : (i : Int) < (ics l).length := of_decide_eq_true hc
    rw [len_ics] at hc
    obtain ⟨x, hx⟩ : ∃ x, l[i]? = some x := ⟨l[i]'(by omega), List.getElem?_eq_getElem (by omega)⟩
    have hxc := ics_at hx
    rw [orI_drop hx] at hR
    conv => whnf
    refine ⟨_, ⟨by omega, by simpa using hxc⟩, ?_⟩
    conv => whnf
    refine ⟨Nat.le_refl 1, ?_⟩
    conv => whnf
    refine ⟨fun h0 => ?_, fun h0 => ?_⟩
    · have h1 : ¬ x = 0 := by
        have : (!decide (x = 0)) = true := h0
        simpa using this
      rw [if_neg h1] at hR
      rw [← hR]
      conv => whnf
      repeat (first | (refine And.intro rfl ?_; conv => whnf) | (refine And.intro (by decide) ?_; conv => whnf) | (refine draw_intro true (by kernel_rfl) ?_; conv => whnf) | (refine And.intro ⟨by omega, by omega⟩ ?_; conv => whnf) | (refine And.intro (by omega) ?_; conv => whnf) | (refine And.intro (fun _ => ?_) (fun h => absurd h ?_); rotate_left; (focus (first | decide | (simp; done))); conv => whnf) | (refine And.intro (fun h => absurd h ?_) (fun _ => ?_); (focus (first | decide | (simp; done))); conv => whnf))
      first | rfl | exact ⟨rfl, rfl⟩ | exact ⟨rfl, rfl, rfl⟩
    · have h1 : x = 0 := by
        have : (!decide (x = 0)) = false := h0
        simpa using this
      rw [if_pos h1] at hR
      conv => whnf
      refine ⟨⟨by omega, by omega⟩, ?_⟩
      conv => whnf
      exact ⟨m - 1, _, _, by omega, ⟨i + 1, by omega, hR, rfl, rfl⟩, Wk.sel [] (by decide) (by decide) (by decide) trivial ⟨rfl, rfl, rfl, rfl, rfl, trivial⟩ rfl⟩
  · replace hc : ¬ (i : Int) < (ics l).length := of_decide_eq_false hc
    rw [len_ics] at hc
    rw [List.drop_eq_nil_of_le (by omega)] at hR
    rw [← hR]
    conv => whnf
    repeat (first | (refine And.intro rfl ?_; conv => whnf) | (refine And.intro (by decide) ?_; conv => whnf) | (refine draw_intro true (by kernel_rfl) ?_; conv => whnf) | (refine And.intro ⟨by omega, by omega⟩ ?_; conv => whnf) | (refine And.intro (by omega) ?_; conv => whnf) | (refine And.intro (fun _ => ?_) (fun h => absurd h ?_); rotate_left; (focus (first | decide | (simp; done))); conv => whnf) | (refine And.intro (fun h => absurd h ?_) (fun _ => ?_); (focus (first | decide | (simp; done))); conv => whnf))
    first | rfl | exact ⟨rfl, rfl⟩ | exact ⟨rfl, rfl, rfl⟩
theorem c85 (ts us : List Term) (hf : ∀ t ∈ ts, ∀ u, CallSt Try.prog 69 [tv t, tv u] [] (fun r H' => r = .c (.int .i64 (ordT t u)) ∧ H' = [])) :
    CallSt Try.prog 85 [.c (.sl 4 48 (tcs ts)), .c (.sl 4 48 (tcs us)), .fn 69 []] [] (fun r H' => r = .c (.int .i64 (ordL ts us)) ∧ H' = []) := by
  refine call_pure (E := env 0) (fn := Try.f85) (c := bodyOf Try.f85) (env_ok 0) mixed (by kernel_rfl) (by kernel_rfl) (by kernel_rfl) (by kernel_rfl) (by kernel_rfl) (by kernel_rfl) rfl ?_
  conv => whnf
  intro hl1
  replace hl1 : (tcs ts).length * 48 ≤ 140737488355328 := hl1
  rw [len_tcs] at hl1
  conv => whnf
  refine loop_intro (fun m tm H => ∃ (i : Nat), ts.length = m + i ∧ i ≤ us.length ∧ ordL (ts.drop i) (us.drop i) = ordL ts us ∧
      tm = [(13, .c (.int .i64 (i))), (11, .c (.sl 4 48 (tcs ts))), (12, .c (.int .i64 ((tcs ts).length))), (0, .c (.sl 4 48 (tcs ts))), (1, .c (.sl 4 48 (tcs us))), (2, .fn 69 []), (6, .c (.int .i64 (0)))] ∧ H = [])
      ts.length _ _ ⟨0, by omega, by omega, rfl, rfl, rfl⟩ (Wk.sel [] (by decide) (by decide) (by decide) trivial ⟨rfl, rfl, rfl, rfl, rfl, rfl, rfl, trivial⟩ rfl) ?_
  rintro m tm H ⟨i, hi, hiu, hR, rfl, rfl⟩
  conv => whnf
  refine ⟨fun hc => ?_, fun hc => ?_⟩
  · replace hc : (i : Int) < (tcs ts).length := of_decide_eq_true hc
    rw [len_tcs] at hc
    have hlt : i < ts.length := by omega
    obtain ⟨u, hu⟩ : ∃ u, ts[i]? = some u := ⟨ts[i], List.getElem?_eq_getElem hlt⟩
    have hm := List.mem_of_getElem? hu
    have huc := tcs_at ts i u hu
    have hcc := hf u hm
    rw [drop_at hu] at hR
    obtain ⟨k', l', n', us'⟩ := u
    conv => whnf
    refine ⟨_, ⟨by omega, by simpa using huc⟩, ?_⟩
    conv => whnf
    refine ⟨Nat.le_refl 4, ?_⟩
    conv => whnf
    intro _
    conv => whnf
    refine ⟨fun hd => ?_, fun hd => ?_⟩
    · replace hd : ((tcs us).length : Int) ≤ i := of_decide_eq_true hd
      rw [len_tcs] at hd
      rw [show us.drop i = [] from List.drop_eq_nil_of_le (by omega), ordL] at hR
      rw [← hR]
      conv => whnf
      repeat (first | (refine And.intro rfl ?_; conv => whnf) | (refine And.intro (by decide) ?_; conv => whnf) | (refine draw_intro true (by kernel_rfl) ?_; conv => whnf) | (refine And.intro ⟨by omega, by omega⟩ ?_; conv => whnf) | (refine And.intro (by omega) ?_; conv => whnf) | (refine And.intro (fun _ => ?_) (fun h => absurd h ?_); rotate_left; (focus (first | decide | (simp; done))); conv => whnf) | (refine And.intro (fun h => absurd h ?_) (fun _ => ?_); (focus (first | decide | (simp; done))); conv => whnf))
      first | rfl | exact ⟨rfl, rfl⟩ | exact ⟨rfl, rfl, rfl⟩
    · replace hd : ¬ ((tcs us).length : Int) ≤ i := of_decide_eq_false hd
      rw [len_tcs] at hd
      obtain ⟨v, hv⟩ : ∃ v, us[i]? = some v := ⟨us[i], List.getElem?_eq_getElem (by omega)⟩
      have hvc := tcs_at us i v hv
      have hcc := hcc v
      rw [drop_at hv, ordL] at hR
      generalize ordT (.mk k' l' n' us') v = c at *
      obtain ⟨k3, l3, n3, us3⟩ := v
      conv => whnf
      refine ⟨_, ⟨by omega, by simpa using hvc⟩, ?_⟩
      conv => whnf
      refine ⟨Nat.le_refl 4, ?_⟩
      conv => whnf
      try (refine draw_intro true (by kernel_rfl) ?_; conv => whnf)
      refine CallSt.use hcc [] trivial (by decide) rfl ?_
      rintro _ _ ⟨rfl, rfl⟩ _
      conv => whnf
      refine ⟨fun h0 => ?_, fun h0 => ?_⟩
      · have h1 : ¬ c = 0 := by
          have : (!decide (c = 0)) = true := h0
          simpa using this
        rw [if_neg h1] at hR
        rw [← hR]
        conv => whnf
        repeat (first | (refine And.intro rfl ?_; conv => whnf) | (refine And.intro (by decide) ?_; conv => whnf) | (refine draw_intro true (by kernel_rfl) ?_; conv => whnf) | (refine And.intro ⟨by omega, by omega⟩ ?_; conv => whnf) | (refine And.intro (by omega) ?_; conv => whnf) | (refine And.intro (fun _ => ?_) (fun h => absurd h ?_); rotate_left; (focus (first | decide | (simp; done))); conv => whnf) | (refine And.intro (fun h => absurd h ?_) (fun _ => ?_); (focus (first | decide | (simp; done))); conv => whnf))
        first | rfl | exact ⟨rfl, rfl⟩ | exact ⟨rfl, rfl, rfl⟩
      · have h1 : c = 0 := by
          have : (!decide (c = 0)) = false := h0
          simpa using this
        rw [if_pos h1] at hR
        conv => whnf
        refine ⟨⟨by omega, by omega⟩, ?_⟩
        conv => whnf
        exact ⟨m - 1, _, _, by omega, ⟨i + 1, by omega, by omega, hR, rfl, rfl⟩, Wk.sel [] (by decide) (by decide) (by decide) trivial ⟨rfl, rfl, rfl, rfl, rfl, rfl, rfl, trivial⟩ rfl⟩
  · replace hc : ¬ (i : Int) < (tcs ts).length := of_decide_eq_false hc
    rw [len_tcs] at hc
    rw [show ts.drop i = [] from List.drop_eq_nil_of_le (by omega)] at hR
    conv => whnf
    intro _
    conv => whnf
    intro _
    conv => whnf
    refine ⟨fun hd => ?_, fun hd => ?_⟩
    · replace hd : ((tcs ts).length : Int) < (tcs us).length := of_decide_eq_true hd
      rw [len_tcs, len_tcs] at hd
      obtain ⟨v, hv⟩ : ∃ v, us[i]? = some v := ⟨us[i]'(by omega), List.getElem?_eq_getElem (by omega)⟩
      rw [drop_at hv, ordL] at hR
      rw [← hR]
      conv => whnf
      repeat (first | (refine And.intro rfl ?_; conv => whnf) | (refine And.intro (by decide) ?_; conv => whnf) | (refine draw_intro true (by kernel_rfl) ?_; conv => whnf) | (refine And.intro ⟨by omega, by omega⟩ ?_; conv => whnf) | (refine And.intro (by omega) ?_; conv => whnf) | (refine And.intro (fun _ => ?_) (fun h => absurd h ?_); rotate_left; (focus (first | decide | (simp; done))); conv => whnf) | (refine And.intro (fun h => absurd h ?_) (fun _ => ?_); (focus (first | decide | (simp; done))); conv => whnf))
      first | rfl | exact ⟨rfl, rfl⟩ | exact ⟨rfl, rfl, rfl⟩
    · replace hd : ¬ ((tcs ts).length : Int) < (tcs us).length := of_decide_eq_false hd
      rw [len_tcs, len_tcs] at hd
      rw [show us.drop i = [] from List.drop_eq_nil_of_le (by omega), ordL] at hR
      rw [← hR]
      conv => whnf
      repeat (first | (refine And.intro rfl ?_; conv => whnf) | (refine And.intro (by decide) ?_; conv => whnf) | (refine draw_intro true (by kernel_rfl) ?_; conv => whnf) | (refine And.intro ⟨by omega, by omega⟩ ?_; conv => whnf) | (refine And.intro (by omega) ?_; conv => whnf) | (refine And.intro (fun _ => ?_) (fun h => absurd h ?_); rotate_left; (focus (first | decide | (simp; done))); conv => whnf) | (refine And.intro (fun h => absurd h ?_) (fun _ => ?_); (focus (first | decide | (simp; done))); conv => whnf))
      first | rfl | exact ⟨rfl, rfl⟩ | exact ⟨rfl, rfl, rfl⟩
theorem c69 (t : Term) : ∀ u : Term, CallSt Try.prog 69 [tv t, tv u] [] (fun r H' => r = .c (.int .i64 (ordT t u)) ∧ H' = []) := by
  induction t using Term.ind with
  | _ t ih =>
  intro u
  obtain ⟨k, l, n, ts⟩ := t
  obtain ⟨k2, l2, n2, us⟩ := u
  replace ih : ∀ u, u ∈ ts → _ := ih
  have hc := c85 ts us ih
  have a1 := c84 k k2
  have a2 := c84 l l2
  have a3 := c84 n n2
  have a4 := c84 (tcs ts).length (tcs us).length
  have a5 := c83 [sgn k k2, sgn l l2, sgn n n2, sgn (tcs ts).length (tcs us).length, ordL ts us]
  have hr : ordT (.mk k l n ts) (.mk k2 l2 n2 us) = orI [sgn k k2, sgn l l2, sgn n n2, sgn (tcs ts).length (tcs us).length, ordL ts us] := by rw [ordT, len_tcs, len_tcs]
  rw [tv_mk, tv_mk, hr]
  refine call_pure (E := env 0) (fn := Try.f69) (c := bodyOf Try.f69) (env_ok 0) mixed (by kernel_rfl) (by kernel_rfl) (by kernel_rfl) (by kernel_rfl) (by kernel_rfl) (by kernel_rfl) rfl ?_
  conv => whnf
  refine draw_intro true (by kernel_rfl) ?_
  conv => whnf
  intro _
  conv => whnf
  intro _
  conv => whnf
  try (refine draw_intro true (by kernel_rfl) ?_; conv => whnf)
  refine CallSt.use a1 [] trivial (by decide) rfl ?_
  rintro _ _ ⟨rfl, rfl⟩ _
  conv => whnf
  try (refine draw_intro true (by kernel_rfl) ?_; conv => whnf)
  refine CallSt.use a2 [] trivial (by decide) rfl ?_
  rintro _ _ ⟨rfl, rfl⟩ _
  conv => whnf
  try (refine draw_intro true (by kernel_rfl) ?_; conv => whnf)
  refine CallSt.use a3 [] trivial (by decide) rfl ?_
  rintro _ _ ⟨rfl, rfl⟩ _
  conv => whnf
  try (refine draw_intro true (by kernel_rfl) ?_; conv => whnf)
  refine CallSt.use a4 [] trivial (by decide) rfl ?_
  rintro _ _ ⟨rfl, rfl⟩ _
  conv => whnf
  try (refine draw_intro true (by kernel_rfl) ?_; conv => whnf)
  refine CallSt.use hc [] trivial (by decide) rfl ?_
  rintro _ _ ⟨rfl, rfl⟩ _
  conv => whnf
  repeat (first | (refine And.intro rfl ?_; conv => whnf) | (refine And.intro (by decide) ?_; conv => whnf) | (refine draw_intro true (by kernel_rfl) ?_; conv => whnf) | (refine And.intro ⟨by omega, by omega⟩ ?_; conv => whnf) | (refine And.intro (by omega) ?_; conv => whnf) | (refine And.intro (fun _ => ?_) (fun h => absurd h ?_); rotate_left; (focus (first | decide | (simp; done))); conv => whnf) | (refine And.intro (fun h => absurd h ?_) (fun _ => ?_); (focus (first | decide | (simp; done))); conv => whnf))
  try (refine draw_intro true (by kernel_rfl) ?_; conv => whnf)
  refine CallSt.use a5 [] trivial (by decide) rfl ?_
  rintro _ _ ⟨rfl, rfl⟩ _
  conv => whnf
  repeat (first | (refine And.intro rfl ?_; conv => whnf) | (refine And.intro (by decide) ?_; conv => whnf) | (refine draw_intro true (by kernel_rfl) ?_; conv => whnf) | (refine And.intro ⟨by omega, by omega⟩ ?_; conv => whnf) | (refine And.intro (by omega) ?_; conv => whnf) | (refine And.intro (fun _ => ?_) (fun h => absurd h ?_); rotate_left; (focus (first | decide | (simp; done))); conv => whnf) | (refine And.intro (fun h => absurd h ?_) (fun _ => ?_); (focus (first | decide | (simp; done))); conv => whnf))
  first | rfl | exact ⟨rfl, rfl⟩ | exact ⟨rfl, rfl, rfl⟩
end Go.Tr
/- Compare: the program's, the reference's. -/
namespace Go.Tr
open Go.Proofs
theorem orI_app : ∀ (l r : List Int), orI (l ++ r) = if orI l = 0 then orI r else orI l
  | [], r => by simp [orI]
  | x :: l, r => by
    rw [List.cons_append, orI, orI, orI_app l r]
    by_cases h : x = 0
    · rw [if_pos h, if_pos h]
    · rw [if_neg h, if_neg h, if_neg h]
theorem orI_zero : ∀ {l : List Int}, orI l = 0 → ∀ x ∈ l, x = 0
  | [], _, x, hx => by cases hx
  | y :: l, h, x, hx => by
    rw [orI] at h
    by_cases h0 : y = 0
    · rw [if_pos h0] at h
      rcases List.mem_cons.1 hx with rfl | hx
      · exact h0
      · exact orI_zero h x hx
    · rw [if_neg h0] at h
      exact absurd h h0
theorem sgn_zero {a b : Int} (h : sgn a b = 0) : a = b := by unfold sgn at h; split at h <;> (try split at h) <;> omega
theorem c35 (t u : Term) : CallSt Try.prog 35 [tv t, tv u] [] (fun r H' => r = .tup [.c (.int .i64 ((if prop t && prop u then ordT t u else 0))), .c (.int .i64 ((if prop t && prop u then 0 else 2)))] ∧ H' = []) := by
  have c1 := c14 t
  have c2 := c14 u
  have c3 := c69 t u
  generalize prop t = p at *
  generalize prop u = q at *
  generalize ordT t u = x at *
  obtain ⟨k, l, n, ts⟩ := t
  obtain ⟨k2, l2, n2, us⟩ := u
  rw [tv_mk, tv_mk] at *
  refine call_pure (E := env 0) (fn := Try.f35) (c := bodyOf Try.f35) (env_ok 0) mixed (by kernel_rfl) (by kernel_rfl) (by kernel_rfl) (by kernel_rfl) (by kernel_rfl) (by kernel_rfl) rfl ?_
  conv => whnf
  cases p with
  | false =>
    try (refine draw_intro true (by kernel_rfl) ?_; conv => whnf)
    refine CallSt.use c1 [] trivial (by decide) rfl ?_
    rintro _ _ ⟨rfl, rfl⟩ _
    conv => whnf
    repeat (first | (refine And.intro rfl ?_; conv => whnf) | (refine And.intro (by decide) ?_; conv => whnf) | (refine draw_intro true (by kernel_rfl) ?_; conv => whnf) | (refine And.intro ⟨by omega, by omega⟩ ?_; conv => whnf) | (refine And.intro (by omega) ?_; conv => whnf) | (refine And.intro (fun _ => ?_) (fun h => absurd h ?_); rotate_left; (focus (first | decide | (simp; done))); conv => whnf) | (refine And.intro (fun h => absurd h ?_) (fun _ => ?_); (focus (first | decide | (simp; done))); conv => whnf))
    rfl
  | true =>
    cases q with
    | false =>
      try (refine draw_intro true (by kernel_rfl) ?_; conv => whnf)
      refine CallSt.use c1 [] trivial (by decide) rfl ?_
      rintro _ _ ⟨rfl, rfl⟩ _
      conv => whnf
      repeat (first | (refine And.intro rfl ?_; conv => whnf) | (refine And.intro (by decide) ?_; conv => whnf) | (refine draw_intro true (by kernel_rfl) ?_; conv => whnf) | (refine And.intro ⟨by omega, by omega⟩ ?_; conv => whnf) | (refine And.intro (by omega) ?_; conv => whnf) | (refine And.intro (fun _ => ?_) (fun h => absurd h ?_); rotate_left; (focus (first | decide | (simp; done))); conv => whnf) | (refine And.intro (fun h => absurd h ?_) (fun _ => ?_); (focus (first | decide | (simp; done))); conv => whnf))
      try (refine draw_intro true (by kernel_rfl) ?_; conv => whnf)
      refine CallSt.use c2 [] trivial (by decide) rfl ?_
      rintro _ _ ⟨rfl, rfl⟩ _
      conv => whnf
      repeat (first | (refine And.intro rfl ?_; conv => whnf) | (refine And.intro (by decide) ?_; conv => whnf) | (refine draw_intro true (by kernel_rfl) ?_; conv => whnf) | (refine And.intro ⟨by omega, by omega⟩ ?_; conv => whnf) | (refine And.intro (by omega) ?_; conv => whnf) | (refine And.intro (fun _ => ?_) (fun h => absurd h ?_); rotate_left; (focus (first | decide | (simp; done))); conv => whnf) | (refine And.intro (fun h => absurd h ?_) (fun _ => ?_); (focus (first | decide | (simp; done))); conv => whnf))
      rfl
    | true =>
      try (refine draw_intro true (by kernel_rfl) ?_; conv => whnf)
      refine CallSt.use c1 [] trivial (by decide) rfl ?_
      rintro _ _ ⟨rfl, rfl⟩ _
      conv => whnf
      repeat (first | (refine And.intro rfl ?_; conv => whnf) | (refine And.intro (by decide) ?_; conv => whnf) | (refine draw_intro true (by kernel_rfl) ?_; conv => whnf) | (refine And.intro ⟨by omega, by omega⟩ ?_; conv => whnf) | (refine And.intro (by omega) ?_; conv => whnf) | (refine And.intro (fun _ => ?_) (fun h => absurd h ?_); rotate_left; (focus (first | decide | (simp; done))); conv => whnf) | (refine And.intro (fun h => absurd h ?_) (fun _ => ?_); (focus (first | decide | (simp; done))); conv => whnf))
      try (refine draw_intro true (by kernel_rfl) ?_; conv => whnf)
      refine CallSt.use c2 [] trivial (by decide) rfl ?_
      rintro _ _ ⟨rfl, rfl⟩ _
      conv => whnf
      repeat (first | (refine And.intro rfl ?_; conv => whnf) | (refine And.intro (by decide) ?_; conv => whnf) | (refine draw_intro true (by kernel_rfl) ?_; conv => whnf) | (refine And.intro ⟨by omega, by omega⟩ ?_; conv => whnf) | (refine And.intro (by omega) ?_; conv => whnf) | (refine And.intro (fun _ => ?_) (fun h => absurd h ?_); rotate_left; (focus (first | decide | (simp; done))); conv => whnf) | (refine And.intro (fun h => absurd h ?_) (fun _ => ?_); (focus (first | decide | (simp; done))); conv => whnf))
      try (refine draw_intro true (by kernel_rfl) ?_; conv => whnf)
      refine CallSt.use c3 [] trivial (by decide) rfl ?_
      rintro _ _ ⟨rfl, rfl⟩ _
      conv => whnf
      repeat (first | (refine And.intro rfl ?_; conv => whnf) | (refine And.intro (by decide) ?_; conv => whnf) | (refine draw_intro true (by kernel_rfl) ?_; conv => whnf) | (refine And.intro ⟨by omega, by omega⟩ ?_; conv => whnf) | (refine And.intro (by omega) ?_; conv => whnf) | (refine And.intro (fun _ => ?_) (fun h => absurd h ?_); rotate_left; (focus (first | decide | (simp; done))); conv => whnf) | (refine And.intro (fun h => absurd h ?_) (fun _ => ?_); (focus (first | decide | (simp; done))); conv => whnf))
      first | rfl | exact ⟨rfl, rfl⟩ | exact ⟨rfl, rfl, rfl⟩
theorem c36 (t : Term) : ∀ u : Term, CallSt Try.prog 36 [tv t, tv u] [] (fun r H' => r = .c (.int .i64 (ordT t u)) ∧ H' = []) := by
  induction t using Term.ind with
  | _ t ih =>
  intro u
  obtain ⟨k, l, n, ts⟩ := t
  obtain ⟨k2, l2, n2, us⟩ := u
  replace ih : ∀ u, u ∈ ts → _ := ih
  have a1 := c70 k k2
  have a2 := c70 l l2
  have a3 := c70 n n2
  have a4 := c70 (tcs ts).length (tcs us).length
  have hr : ordT (.mk k l n ts) (.mk k2 l2 n2 us) = if orI [sgn k k2, sgn l l2, sgn n n2, sgn (tcs ts).length (tcs us).length] = 0 then ordL ts us else orI [sgn k k2, sgn l l2, sgn n n2, sgn (tcs ts).length (tcs us).length] := by
    rw [ordT, len_tcs, len_tcs]
    have := orI_app [sgn k k2, sgn l l2, sgn n n2, sgn ts.length us.length] [ordL ts us]
    rw [show [sgn k k2, sgn l l2, sgn n n2, sgn ts.length us.length] ++ [ordL ts us] = [sgn k k2, sgn l l2, sgn n n2, sgn ts.length us.length, ordL ts us] from rfl] at this
    rw [this]
    rw [show orI [ordL ts us] = ordL ts us by unfold orI; split <;> simp_all [orI]]
  have hle : orI [sgn k k2, sgn l l2, sgn n n2, sgn (tcs ts).length (tcs us).length] = 0 → ts.length = us.length := fun h => by
    have := sgn_zero (orI_zero h (sgn (tcs ts).length (tcs us).length) (by simp))
    rw [len_tcs, len_tcs] at this
    omega
  rw [tv_mk, tv_mk, hr]
  refine call_pure (E := env 0) (fn := Try.f36) (c := bodyOf Try.f36) (env_ok 0) mixed (by kernel_rfl) (by kernel_rfl) (by kernel_rfl) (by kernel_rfl) (by kernel_rfl) (by kernel_rfl) rfl ?_
  conv => whnf
  refine draw_intro true (by kernel_rfl) ?_
  conv => whnf
  intro hl1
  conv => whnf
  intro _
  conv => whnf
  try (refine draw_intro true (by kernel_rfl) ?_; conv => whnf)
  refine CallSt.use a1 [] trivial (by decide) rfl ?_
  rintro _ _ ⟨rfl, rfl⟩ _
  conv => whnf
  try (refine draw_intro true (by kernel_rfl) ?_; conv => whnf)
  refine CallSt.use a2 [] trivial (by decide) rfl ?_
  rintro _ _ ⟨rfl, rfl⟩ _
  conv => whnf
  try (refine draw_intro true (by kernel_rfl) ?_; conv => whnf)
  refine CallSt.use a3 [] trivial (by decide) rfl ?_
  rintro _ _ ⟨rfl, rfl⟩ _
  conv => whnf
  try (refine draw_intro true (by kernel_rfl) ?_; conv => whnf)
  refine CallSt.use a4 [] trivial (by decide) rfl ?_
  rintro _ _ ⟨rfl, rfl⟩ _
  conv => whnf
  repeat (first | (refine And.intro rfl ?_; conv => whnf) | (refine And.intro (by decide) ?_; conv => whnf) | (refine draw_intro true (by kernel_rfl) ?_; conv => whnf) | (refine And.intro ⟨by omega, by omega⟩ ?_; conv => whnf) | (refine And.intro (by omega) ?_; conv => whnf) | (refine And.intro (fun _ => ?_) (fun h => absurd h ?_); rotate_left; (focus (first | decide | (simp; done))); conv => whnf) | (refine And.intro (fun h => absurd h ?_) (fun _ => ?_); (focus (first | decide | (simp; done))); conv => whnf))
  generalize hL : [sgn k k2, sgn l l2, sgn n n2, sgn (tcs ts).length (tcs us).length] = L at *
  have hL4 : L.length = 4 := by rw [← hL]; rfl
  refine loop_intro (fun m tm H => ∃ (i : Nat), L.length = m + i ∧ orI (L.drop i) = orI L ∧
      tm = [(6, .c (.int .i64 (i))), (5, .own 2), (2, .ptr 0 0), (3, .ptr 1 0), (4, .c (.int .i64 (0)))] ∧ H = [.box [.c (.int .i64 (k)), .c (.int .i64 (l)), .c (.int .i64 (n)), .c (.sl 4 48 (tcs ts))], .box [.c (.int .i64 (k2)), .c (.int .i64 (l2)), .c (.int .i64 (n2)), .c (.sl 4 48 (tcs us))], .row 3 1 8 (ics L)])
      L.length _ _ ⟨0, by omega, rfl, rfl, rfl⟩ ?_ ?_
  · exact Wk.sel [0, 1, 2] (by decide) (by decide) (by decide) ⟨rfl, rfl, by rw [← hL]; rfl, trivial⟩ ⟨rfl, rfl, rfl, rfl, rfl, trivial⟩ rfl
  rintro m tm H ⟨i, hi, hR, rfl, rfl⟩
  conv => whnf
  intro _
  conv => whnf
  refine ⟨fun hc => ?_, fun hc => ?_⟩
  · replace hc : (i : Int) < (ics L).length := of_decide_eq_true hc
    rw [len_ics] at hc
    obtain ⟨x, hx⟩ : ∃ x, L[i]? = some x := ⟨L[i]'(by omega), List.getElem?_eq_getElem (by omega)⟩
    have hxc := ics_at hx
    rw [orI_drop hx] at hR
    conv => whnf
    refine ⟨⟨by omega, by rw [len_ics]; omega⟩, ?_⟩
    conv => whnf
    refine ⟨ic x, by simpa using hxc, Nat.le_refl 1, ?_⟩
    conv => whnf
    refine ⟨fun h0 => ?_, fun h0 => ?_⟩
    · have h1 : ¬ x = 0 := by
        have : (!decide (x = 0)) = true := h0
        simpa using this
      rw [if_neg h1] at hR
      rw [← hR, if_neg h1]
      conv => whnf
      refine ⟨⟨by omega, by rw [len_ics]; omega⟩, ?_⟩
      conv => whnf
      refine ⟨ic x, by simpa using hxc, Nat.le_refl 1, ?_⟩
      conv => whnf
      repeat (first | (refine And.intro rfl ?_; conv => whnf) | (refine And.intro (by decide) ?_; conv => whnf) | (refine draw_intro true (by kernel_rfl) ?_; conv => whnf) | (refine And.intro ⟨by omega, by omega⟩ ?_; conv => whnf) | (refine And.intro (by omega) ?_; conv => whnf) | (refine And.intro (fun _ => ?_) (fun h => absurd h ?_); rotate_left; (focus (first | decide | (simp; done))); conv => whnf) | (refine And.intro (fun h => absurd h ?_) (fun _ => ?_); (focus (first | decide | (simp; done))); conv => whnf))
      first | rfl | exact ⟨rfl, rfl⟩ | exact ⟨rfl, rfl, rfl⟩
    · have h1 : x = 0 := by
        have : (!decide (x = 0)) = false := h0
        simpa using this
      rw [if_pos h1] at hR
      conv => whnf
      refine ⟨⟨by omega, by omega⟩, ?_⟩
      conv => whnf
      exact ⟨m - 1, _, _, by omega, ⟨i + 1, by omega, hR, rfl, rfl⟩, Wk.sel [0, 1, 2] (by decide) (by decide) (by decide) ⟨rfl, rfl, rfl, trivial⟩ ⟨rfl, rfl, rfl, rfl, rfl, trivial⟩ rfl⟩
  replace hc : ¬ (i : Int) < (ics L).length := of_decide_eq_false hc
  rw [len_ics] at hc
  rw [List.drop_eq_nil_of_le (by omega)] at hR
  have hz : orI L = 0 := hR.symm
  have hle := hle hz
  rw [if_pos hz]
  conv => whnf
  refine loop_intro (fun m tm H => ∃ (i : Nat), ts.length = m + i ∧ ordL (ts.drop i) (us.drop i) = ordL ts us ∧
      tm = [(7, .c (.int .i64 (i))), (2, .ptr 0 0), (3, .ptr 1 0), (4, .c (.int .i64 (0)))] ∧ H = [.box [.c (.int .i64 (k)), .c (.int .i64 (l)), .c (.int .i64 (n)), .c (.sl 4 48 (tcs ts))], .box [.c (.int .i64 (k2)), .c (.int .i64 (l2)), .c (.int .i64 (n2)), .c (.sl 4 48 (tcs us))]])
      ts.length _ _ ⟨0, by omega, rfl, rfl, rfl⟩ (Wk.sel [0, 1] (by decide) (by decide) (by decide) ⟨rfl, rfl, trivial⟩ ⟨rfl, rfl, rfl, rfl, trivial⟩ rfl) ?_
  clear hl1
  rintro m tm H ⟨i, hi, hR, rfl, rfl⟩
  conv => whnf
  intro hl1
  replace hl1 : (tcs ts).length * 48 ≤ 140737488355328 := hl1
  rw [len_tcs] at hl1
  conv => whnf
  refine ⟨fun hc => ?_, fun hc => ?_⟩
  · replace hc : (i : Int) < (tcs ts).length := of_decide_eq_true hc
    rw [len_tcs] at hc
    have hlt : i < ts.length := by omega
    obtain ⟨u, hu⟩ : ∃ u, ts[i]? = some u := ⟨ts[i], List.getElem?_eq_getElem hlt⟩
    obtain ⟨v, hv⟩ : ∃ v, us[i]? = some v := ⟨us[i], List.getElem?_eq_getElem (by omega)⟩
    have hm := List.mem_of_getElem? hu
    have huc := tcs_at ts i u hu
    have hvc := tcs_at us i v hv
    have hcc := ih u hm v
    rw [drop_at hu, drop_at hv, ordL] at hR
    generalize ordT u v = c at *
    obtain ⟨k', l', n', us'⟩ := u
    obtain ⟨k3, l3, n3, us3⟩ := v
    conv => whnf
    refine draw_intro true (by kernel_rfl) ?_
    conv => whnf
    refine ⟨_, ⟨by omega, by simpa using huc⟩, ?_⟩
    conv => whnf
    refine ⟨Nat.le_refl 4, ?_⟩
    conv => whnf
    refine ⟨_, ⟨by omega, by simpa using hvc⟩, ?_⟩
    conv => whnf
    refine ⟨Nat.le_refl 4, ?_⟩
    conv => whnf
    try (refine draw_intro true (by kernel_rfl) ?_; conv => whnf)
    refine CallSt.use hcc [] trivial (by decide) rfl ?_
    rintro _ _ ⟨rfl, rfl⟩ _
    conv => whnf
    refine ⟨fun h0 => ?_, fun h0 => ?_⟩
    · have h1 : ¬ c = 0 := by
        have : (!decide (c = 0)) = true := h0
        simpa using this
      rw [if_neg h1] at hR
      rw [← hR]
      conv => whnf
      repeat (first | (refine And.intro rfl ?_; conv => whnf) | (refine And.intro (by decide) ?_; conv => whnf) | (refine draw_intro true (by kernel_rfl) ?_; conv => whnf) | (refine And.intro ⟨by omega, by omega⟩ ?_; conv => whnf) | (refine And.intro (by omega) ?_; conv => whnf) | (refine And.intro (fun _ => ?_) (fun h => absurd h ?_); rotate_left; (focus (first | decide | (simp; done))); conv => whnf) | (refine And.intro (fun h => absurd h ?_) (fun _ => ?_); (focus (first | decide | (simp; done))); conv => whnf))
      first | rfl | exact ⟨rfl, rfl⟩ | exact ⟨rfl, rfl, rfl⟩
    · have h1 : c = 0 := by
        have : (!decide (c = 0)) = false := h0
        simpa using this
      rw [if_pos h1] at hR
      conv => whnf
      refine ⟨⟨by omega, by omega⟩, ?_⟩
      conv => whnf
      exact ⟨m - 1, _, _, by omega, ⟨i + 1, by omega, hR, rfl, rfl⟩, Wk.sel [0, 1] (by decide) (by decide) (by decide) ⟨rfl, rfl, trivial⟩ ⟨rfl, rfl, rfl, rfl, trivial⟩ rfl⟩
  · replace hc : ¬ (i : Int) < (tcs ts).length := of_decide_eq_false hc
    rw [len_tcs] at hc
    rw [List.drop_eq_nil_of_le (by omega), List.drop_eq_nil_of_le (by omega)] at hR
    rw [← hR]
    conv => whnf
    repeat (first | (refine And.intro rfl ?_; conv => whnf) | (refine And.intro (by decide) ?_; conv => whnf) | (refine draw_intro true (by kernel_rfl) ?_; conv => whnf) | (refine And.intro ⟨by omega, by omega⟩ ?_; conv => whnf) | (refine And.intro (by omega) ?_; conv => whnf) | (refine And.intro (fun _ => ?_) (fun h => absurd h ?_); rotate_left; (focus (first | decide | (simp; done))); conv => whnf) | (refine And.intro (fun h => absurd h ?_) (fun _ => ?_); (focus (first | decide | (simp; done))); conv => whnf))
    first | rfl | exact ⟨rfl, rfl⟩ | exact ⟨rfl, rfl, rfl⟩
end Go.Tr
/- The order of terms: its laws; TermOrdered. -/
namespace Go.Tr
open Go.Proofs
theorem sgn_cases (a b : Int) : (a < b ∧ sgn a b = -1) ∨ (a = b ∧ sgn a b = 0) ∨ (b < a ∧ sgn a b = 1) := by
  unfold sgn
  split
  · exact .inl ⟨by omega, rfl⟩
  · split
    · exact .inr (.inr ⟨by omega, rfl⟩)
    · exact .inr (.inl ⟨by omega, rfl⟩)
theorem sgn_neg (a b : Int) : sgn b a = -sgn a b := by
  rcases sgn_cases a b with h | h | h <;> rcases sgn_cases b a with g | g | g <;> omega
theorem orI_neg : ∀ (l : List Int), orI (l.map fun x => -x) = -orI l
  | [] => by simp [orI]
  | x :: r => by
    rw [List.map_cons, orI, orI, orI_neg r]
    by_cases h : x = 0
    · rw [if_pos h, if_pos (by omega)]
    · rw [if_neg h, if_neg (by omega)]
mutual
theorem ordT_neg : ∀ t u : Term, ordT u t = -ordT t u
  | .mk k l n ts, .mk k2 l2 n2 us => by
    rw [ordT, ordT, ← orI_neg]
    simp only [List.map_cons, List.map_nil]
    rw [sgn_neg k k2, sgn_neg l l2, sgn_neg n n2, sgn_neg ts.length us.length, ordL_neg ts us]
theorem ordL_neg : ∀ t u : List Term, ordL u t = -ordL t u
  | [], [] => by simp [ordL]
  | [], _ :: _ => by simp [ordL]
  | _ :: _, [] => by simp [ordL]
  | t :: r, u :: s => by
    rw [ordL, ordL, ordT_neg t u, ordL_neg r s]
    by_cases h : ordT t u = 0
    · rw [if_pos h, if_pos (by omega)]
    · rw [if_neg h, if_neg (by omega)]
end
mutual
theorem ordT_eq : ∀ t u : Term, ordT t u = 0 → t = u
  | .mk k l n ts, .mk k2 l2 n2 us, h => by
    rw [ordT] at h
    have h1 := orI_zero h
    rw [sgn_zero (h1 (sgn k k2) (by simp)), sgn_zero (h1 (sgn l l2) (by simp)), sgn_zero (h1 (sgn n n2) (by simp)), ordL_eq ts us (h1 _ (by simp))]
theorem ordL_eq : ∀ t u : List Term, ordL t u = 0 → t = u
  | [], [], _ => rfl
  | [], _ :: _, h => by simp [ordL] at h
  | _ :: _, [], h => by simp [ordL] at h
  | t :: r, u :: s, h => by
    rw [ordL] at h
    by_cases h0 : ordT t u = 0
    · rw [if_pos h0] at h
      rw [ordT_eq t u h0, ordL_eq r s h]
    · rw [if_neg h0] at h
      exact absurd h h0
end
theorem ordT_self (t : Term) : ordT t t = 0 := by
  have := ordT_neg t t
  omega
def Cmp (x y z : Int) : Prop := (x ≤ 0 → y ≤ 0 → z ≤ 0) ∧ (x ≤ 0 → y ≤ 0 → z = 0 → x = 0 ∧ y = 0) ∧ (x = 0 → y = 0 → z = 0)
theorem cmp_sgn (a b c : Int) : Cmp (sgn a b) (sgn b c) (sgn a c) := by
  unfold Cmp
  rcases sgn_cases a b with h | h | h <;> rcases sgn_cases b c with g | g | g <;> rcases sgn_cases a c with f | f | f <;> omega
theorem cmp_lex {x y z p q r : Int} (h1 : Cmp x y z) (h2 : x = 0 → y = 0 → Cmp p q r) : Cmp (if x = 0 then p else x) (if y = 0 then q else y) (if z = 0 then r else z) := by
  obtain ⟨a, b, c⟩ := h1
  have cs : ∀ u v : Int, (u = 0 ∧ (if u = 0 then v else u) = v) ∨ (u ≠ 0 ∧ (if u = 0 then v else u) = u) := fun u v => by
    by_cases h : u = 0
    · exact .inl ⟨h, if_pos h⟩
    · exact .inr ⟨h, if_neg h⟩
  by_cases hxy : x = 0 ∧ y = 0
  · obtain ⟨hx, hy⟩ := hxy
    rw [if_pos hx, if_pos hy, if_pos (c hx hy)]
    exact h2 hx hy
  · have key : x ≤ 0 → y ≤ 0 → z < 0 := fun h h' => by
      have h3 := a h h'
      by_cases hz : z = 0
      · exact absurd (b h h' hz) hxy
      · omega
    have hx := cs x p
    have hy := cs y q
    have hz := cs z r
    generalize (if x = 0 then p else x) = X at *
    generalize (if y = 0 then q else y) = Y at *
    generalize (if z = 0 then r else z) = Z at *
    refine ⟨fun g1 g2 => ?_, fun g1 g2 g3 => ?_, fun g1 g2 => ?_⟩
    · have := key (by omega) (by omega); omega
    · have := key (by omega) (by omega); omega
    · exact absurd ⟨by omega, by omega⟩ hxy
theorem cmp_cons {x y z : Int} {p q r : List Int} (h1 : Cmp x y z) (h2 : x = 0 → y = 0 → Cmp (orI p) (orI q) (orI r)) : Cmp (orI (x :: p)) (orI (y :: q)) (orI (z :: r)) := by
  simp only [orI]
  exact cmp_lex h1 h2
mutual
theorem cmpT : ∀ a b c : Term, Cmp (ordT a b) (ordT b c) (ordT a c)
  | .mk k l n ts, .mk k2 l2 n2 us, .mk k3 l3 n3 vs => by
    rw [ordT, ordT, ordT]
    refine cmp_cons (cmp_sgn _ _ _) fun _ _ => cmp_cons (cmp_sgn _ _ _) fun _ _ => cmp_cons (cmp_sgn _ _ _) fun _ _ => cmp_cons (cmp_sgn _ _ _) fun _ _ => ?_
    rw [show ∀ x, orI [x] = x from fun x => by unfold orI; split <;> simp_all [orI], show ∀ x, orI [x] = x from fun x => by unfold orI; split <;> simp_all [orI], show ∀ x, orI [x] = x from fun x => by unfold orI; split <;> simp_all [orI]]
    exact cmpL ts us vs
theorem cmpL : ∀ a b c : List Term, Cmp (ordL a b) (ordL b c) (ordL a c)
  | [], [], [] => by simp [Cmp, ordL]
  | [], [], _ :: _ => by simp [Cmp, ordL]
  | [], _ :: _, [] => by simp [Cmp, ordL]
  | [], _ :: _, _ :: _ => by simp [Cmp, ordL]
  | _ :: _, [], [] => by simp [Cmp, ordL]
  | _ :: _, [], _ :: _ => by simp [Cmp, ordL]
  | _ :: _, _ :: _, [] => by simp [Cmp, ordL]
  | t :: p, u :: q, v :: r => by
    rw [ordL, ordL, ordL]
    exact cmp_lex (cmpT t u v) fun _ _ => cmpL p q r
end
theorem ord_sides (a b c : Term) : ((decide (0 < ordT a b) || decide (0 < ordT b c) || decide (ordT a c ≤ 0)) && (decide (ordT a b < 0) || decide (ordT b c < 0) || decide (0 ≤ ordT a c))) = true := by
  have h1 := (cmpT a b c).1
  have h2 := (cmpT c b a).1
  rw [ordT_neg b c, ordT_neg a b, ordT_neg a c] at h2
  simp only [Bool.and_eq_true, Bool.or_eq_true, decide_eq_true_eq]
  omega
set_option maxRecDepth 20000 in
theorem c10 (a b c : Term) : CallSt Try.prog 10 [tv a, tv b, tv c] [] (fun r H' => r = .c (.bool true) ∧ H' = []) := by
  have c1 := c35 a b
  have c2 := c16 a
  have c3 := c16 b
  have c4 := c16 c
  have c5 := c35 b a
  have c6 := c36 a b
  have c7 := c22 a b
  have c8 := c35 b c
  have c9 := c35 a c
  have c17 := c17
  rw [← prop_rprop] at c2 c3 c4
  have hb1 := ordT_bd a b
  have hn := ordT_neg a b
  have hs : sameT a b = decide (ordT a b = 0) := by
    rw [Bool.eq_iff_iff, sameT_iff, decide_eq_true_eq]
    exact ⟨fun h => by rw [h, ordT_self], ordT_eq a b⟩
  have hsd := ord_sides a b c
  rw [hs] at c7
  rw [hn] at c5
  generalize prop a = pa at *
  generalize prop b = pb at *
  generalize prop c = pc at *
  generalize ordT a b = x at *
  generalize ordT b c = y at *
  generalize ordT a c = z at *
  obtain ⟨k, l, n, ts⟩ := a
  obtain ⟨k2, l2, n2, us⟩ := b
  obtain ⟨k3, l3, n3, vs⟩ := c
  rw [tv_mk, tv_mk, tv_mk] at *
  clear hs hn
  refine call_pure (E := env 0) (fn := Try.f10) (c := bodyOf Try.f10) (env_ok 0) mixed (by kernel_rfl) (by kernel_rfl) (by kernel_rfl) (by kernel_rfl) (by kernel_rfl) (by kernel_rfl) rfl ?_
  conv => whnf
  cases pa with
  | false =>
    try (refine draw_intro true (by kernel_rfl) ?_; conv => whnf)
    refine CallSt.use c1 [] trivial (by decide) rfl ?_
    rintro _ _ ⟨rfl, rfl⟩ _
    conv => whnf
    try (refine draw_intro true (by kernel_rfl) ?_; conv => whnf)
    refine CallSt.use c2 [] trivial (by decide) rfl ?_
    rintro _ _ ⟨rfl, rfl⟩ _
    conv => whnf
    repeat (first | (refine And.intro rfl ?_; conv => whnf) | (refine And.intro (by decide) ?_; conv => whnf) | (refine draw_intro true (by kernel_rfl) ?_; conv => whnf) | (refine And.intro ⟨by omega, by omega⟩ ?_; conv => whnf) | (refine And.intro (by omega) ?_; conv => whnf) | (refine And.intro (fun _ => ⟨by omega, by omega⟩) ?_; conv => whnf) | (refine And.intro (fun _ => ?_) (fun h => absurd h ?_); rotate_left; (focus (first | decide | (simp; done))); conv => whnf) | (refine And.intro (fun h => absurd h ?_) (fun _ => ?_); (focus (first | decide | (simp; done))); conv => whnf))
    try (refine draw_intro true (by kernel_rfl) ?_; conv => whnf)
    refine CallSt.use c17 [] trivial (by decide) rfl ?_
    rintro _ _ ⟨rfl, rfl⟩ _
    conv => whnf
    repeat (first | (refine And.intro rfl ?_; conv => whnf) | (refine And.intro (by decide) ?_; conv => whnf) | (refine draw_intro true (by kernel_rfl) ?_; conv => whnf) | (refine And.intro ⟨by omega, by omega⟩ ?_; conv => whnf) | (refine And.intro (by omega) ?_; conv => whnf) | (refine And.intro (fun _ => ⟨by omega, by omega⟩) ?_; conv => whnf) | (refine And.intro (fun _ => ?_) (fun h => absurd h ?_); rotate_left; (focus (first | decide | (simp; done))); conv => whnf) | (refine And.intro (fun h => absurd h ?_) (fun _ => ?_); (focus (first | decide | (simp; done))); conv => whnf))
    first | rfl | exact ⟨rfl, rfl⟩ | exact ⟨rfl, rfl, rfl⟩
  | true =>
  cases pb with
  | false =>
    try (refine draw_intro true (by kernel_rfl) ?_; conv => whnf)
    refine CallSt.use c1 [] trivial (by decide) rfl ?_
    rintro _ _ ⟨rfl, rfl⟩ _
    conv => whnf
    try (refine draw_intro true (by kernel_rfl) ?_; conv => whnf)
    refine CallSt.use c2 [] trivial (by decide) rfl ?_
    rintro _ _ ⟨rfl, rfl⟩ _
    conv => whnf
    repeat (first | (refine And.intro rfl ?_; conv => whnf) | (refine And.intro (by decide) ?_; conv => whnf) | (refine draw_intro true (by kernel_rfl) ?_; conv => whnf) | (refine And.intro ⟨by omega, by omega⟩ ?_; conv => whnf) | (refine And.intro (by omega) ?_; conv => whnf) | (refine And.intro (fun _ => ⟨by omega, by omega⟩) ?_; conv => whnf) | (refine And.intro (fun _ => ?_) (fun h => absurd h ?_); rotate_left; (focus (first | decide | (simp; done))); conv => whnf) | (refine And.intro (fun h => absurd h ?_) (fun _ => ?_); (focus (first | decide | (simp; done))); conv => whnf))
    try (refine draw_intro true (by kernel_rfl) ?_; conv => whnf)
    refine CallSt.use c3 [] trivial (by decide) rfl ?_
    rintro _ _ ⟨rfl, rfl⟩ _
    conv => whnf
    repeat (first | (refine And.intro rfl ?_; conv => whnf) | (refine And.intro (by decide) ?_; conv => whnf) | (refine draw_intro true (by kernel_rfl) ?_; conv => whnf) | (refine And.intro ⟨by omega, by omega⟩ ?_; conv => whnf) | (refine And.intro (by omega) ?_; conv => whnf) | (refine And.intro (fun _ => ⟨by omega, by omega⟩) ?_; conv => whnf) | (refine And.intro (fun _ => ?_) (fun h => absurd h ?_); rotate_left; (focus (first | decide | (simp; done))); conv => whnf) | (refine And.intro (fun h => absurd h ?_) (fun _ => ?_); (focus (first | decide | (simp; done))); conv => whnf))
    try (refine draw_intro true (by kernel_rfl) ?_; conv => whnf)
    refine CallSt.use c17 [] trivial (by decide) rfl ?_
    rintro _ _ ⟨rfl, rfl⟩ _
    conv => whnf
    repeat (first | (refine And.intro rfl ?_; conv => whnf) | (refine And.intro (by decide) ?_; conv => whnf) | (refine draw_intro true (by kernel_rfl) ?_; conv => whnf) | (refine And.intro ⟨by omega, by omega⟩ ?_; conv => whnf) | (refine And.intro (by omega) ?_; conv => whnf) | (refine And.intro (fun _ => ⟨by omega, by omega⟩) ?_; conv => whnf) | (refine And.intro (fun _ => ?_) (fun h => absurd h ?_); rotate_left; (focus (first | decide | (simp; done))); conv => whnf) | (refine And.intro (fun h => absurd h ?_) (fun _ => ?_); (focus (first | decide | (simp; done))); conv => whnf))
    first | rfl | exact ⟨rfl, rfl⟩ | exact ⟨rfl, rfl, rfl⟩
  | true =>
  simp only [Bool.and_true, Bool.true_and, if_true] at c1 c5
  try (refine draw_intro true (by kernel_rfl) ?_; conv => whnf)
  refine CallSt.use c1 [] trivial (by decide) rfl ?_
  rintro _ _ ⟨rfl, rfl⟩ _
  conv => whnf
  try (refine draw_intro true (by kernel_rfl) ?_; conv => whnf)
  refine CallSt.use c2 [] trivial (by decide) rfl ?_
  rintro _ _ ⟨rfl, rfl⟩ _
  conv => whnf
  repeat (first | (refine And.intro rfl ?_; conv => whnf) | (refine And.intro (by decide) ?_; conv => whnf) | (refine draw_intro true (by kernel_rfl) ?_; conv => whnf) | (refine And.intro ⟨by omega, by omega⟩ ?_; conv => whnf) | (refine And.intro (by omega) ?_; conv => whnf) | (refine And.intro (fun _ => ⟨by omega, by omega⟩) ?_; conv => whnf) | (refine And.intro (fun _ => ?_) (fun h => absurd h ?_); rotate_left; (focus (first | decide | (simp; done))); conv => whnf) | (refine And.intro (fun h => absurd h ?_) (fun _ => ?_); (focus (first | decide | (simp; done))); conv => whnf))
  try (refine draw_intro true (by kernel_rfl) ?_; conv => whnf)
  refine CallSt.use c3 [] trivial (by decide) rfl ?_
  rintro _ _ ⟨rfl, rfl⟩ _
  conv => whnf
  repeat (first | (refine And.intro rfl ?_; conv => whnf) | (refine And.intro (by decide) ?_; conv => whnf) | (refine draw_intro true (by kernel_rfl) ?_; conv => whnf) | (refine And.intro ⟨by omega, by omega⟩ ?_; conv => whnf) | (refine And.intro (by omega) ?_; conv => whnf) | (refine And.intro (fun _ => ⟨by omega, by omega⟩) ?_; conv => whnf) | (refine And.intro (fun _ => ?_) (fun h => absurd h ?_); rotate_left; (focus (first | decide | (simp; done))); conv => whnf) | (refine And.intro (fun h => absurd h ?_) (fun _ => ?_); (focus (first | decide | (simp; done))); conv => whnf))
  try (refine draw_intro true (by kernel_rfl) ?_; conv => whnf)
  refine CallSt.use c5 [] trivial (by decide) rfl ?_
  rintro _ _ ⟨rfl, rfl⟩ _
  conv => whnf
  repeat (first | (refine And.intro rfl ?_; conv => whnf) | (refine And.intro (by decide) ?_; conv => whnf) | (refine draw_intro true (by kernel_rfl) ?_; conv => whnf) | (refine And.intro ⟨by omega, by omega⟩ ?_; conv => whnf) | (refine And.intro (by omega) ?_; conv => whnf) | (refine And.intro (fun _ => ⟨by omega, by omega⟩) ?_; conv => whnf) | (refine And.intro (fun _ => ?_) (fun h => absurd h ?_); rotate_left; (focus (first | decide | (simp; done))); conv => whnf) | (refine And.intro (fun h => absurd h ?_) (fun _ => ?_); (focus (first | decide | (simp; done))); conv => whnf))
  try (refine draw_intro true (by kernel_rfl) ?_; conv => whnf)
  refine CallSt.use c6 [] trivial (by decide) rfl ?_
  rintro _ _ ⟨rfl, rfl⟩ _
  conv => whnf
  repeat (first | (refine And.intro rfl ?_; conv => whnf) | (refine And.intro (by decide) ?_; conv => whnf) | (refine draw_intro true (by kernel_rfl) ?_; conv => whnf) | (refine And.intro ⟨by omega, by omega⟩ ?_; conv => whnf) | (refine And.intro (by omega) ?_; conv => whnf) | (refine And.intro (fun _ => ⟨by omega, by omega⟩) ?_; conv => whnf) | (refine And.intro (fun _ => ?_) (fun h => absurd h ?_); rotate_left; (focus (first | decide | (simp; done))); conv => whnf) | (refine And.intro (fun h => absurd h ?_) (fun _ => ?_); (focus (first | decide | (simp; done))); conv => whnf))
  try (refine draw_intro true (by kernel_rfl) ?_; conv => whnf)
  refine CallSt.use c7 [] trivial (by decide) rfl ?_
  rintro _ _ ⟨rfl, rfl⟩ _
  conv => whnf
  repeat (first | (refine And.intro rfl ?_; conv => whnf) | (refine And.intro (by decide) ?_; conv => whnf) | (refine draw_intro true (by kernel_rfl) ?_; conv => whnf) | (refine And.intro ⟨by omega, by omega⟩ ?_; conv => whnf) | (refine And.intro (by omega) ?_; conv => whnf) | (refine And.intro (fun _ => ⟨by omega, by omega⟩) ?_; conv => whnf) | (refine And.intro (fun _ => ?_) (fun h => absurd h ?_); rotate_left; (focus (first | decide | (simp; done))); conv => whnf) | (refine And.intro (fun h => absurd h ?_) (fun _ => ?_); (focus (first | decide | (simp; done))); conv => whnf))
  cases pc with
  | false =>
    try (refine draw_intro true (by kernel_rfl) ?_; conv => whnf)
    refine CallSt.use c4 [] trivial (by decide) rfl ?_
    rintro _ _ ⟨rfl, rfl⟩ _
    conv => whnf
    repeat (first | (refine And.intro rfl ?_; conv => whnf) | (refine And.intro (by decide) ?_; conv => whnf) | (refine draw_intro true (by kernel_rfl) ?_; conv => whnf) | (refine And.intro ⟨by omega, by omega⟩ ?_; conv => whnf) | (refine And.intro (by omega) ?_; conv => whnf) | (refine And.intro (fun _ => ⟨by omega, by omega⟩) ?_; conv => whnf) | (refine And.intro (fun _ => ?_) (fun h => absurd h ?_); rotate_left; (focus (first | decide | (simp; done))); conv => whnf) | (refine And.intro (fun h => absurd h ?_) (fun _ => ?_); (focus (first | decide | (simp; done))); conv => whnf))
    try (refine draw_intro true (by kernel_rfl) ?_; conv => whnf)
    refine CallSt.use c17 [] trivial (by decide) rfl ?_
    rintro _ _ ⟨rfl, rfl⟩ _
    conv => whnf
    repeat (first | (refine And.intro rfl ?_; conv => whnf) | (refine And.intro (by decide) ?_; conv => whnf) | (refine draw_intro true (by kernel_rfl) ?_; conv => whnf) | (refine And.intro ⟨by omega, by omega⟩ ?_; conv => whnf) | (refine And.intro (by omega) ?_; conv => whnf) | (refine And.intro (fun _ => ⟨by omega, by omega⟩) ?_; conv => whnf) | (refine And.intro (fun _ => ?_) (fun h => absurd h ?_); rotate_left; (focus (first | decide | (simp; done))); conv => whnf) | (refine And.intro (fun h => absurd h ?_) (fun _ => ?_); (focus (first | decide | (simp; done))); conv => whnf))
    first | rfl | exact ⟨rfl, rfl⟩ | exact ⟨rfl, rfl, rfl⟩
  | true =>
    simp only [Bool.and_true, Bool.true_and, if_true] at c8 c9
    try (refine draw_intro true (by kernel_rfl) ?_; conv => whnf)
    refine CallSt.use c4 [] trivial (by decide) rfl ?_
    rintro _ _ ⟨rfl, rfl⟩ _
    conv => whnf
    repeat (first | (refine And.intro rfl ?_; conv => whnf) | (refine And.intro (by decide) ?_; conv => whnf) | (refine draw_intro true (by kernel_rfl) ?_; conv => whnf) | (refine And.intro ⟨by omega, by omega⟩ ?_; conv => whnf) | (refine And.intro (by omega) ?_; conv => whnf) | (refine And.intro (fun _ => ⟨by omega, by omega⟩) ?_; conv => whnf) | (refine And.intro (fun _ => ?_) (fun h => absurd h ?_); rotate_left; (focus (first | decide | (simp; done))); conv => whnf) | (refine And.intro (fun h => absurd h ?_) (fun _ => ?_); (focus (first | decide | (simp; done))); conv => whnf))
    try (refine draw_intro true (by kernel_rfl) ?_; conv => whnf)
    refine CallSt.use c8 [] trivial (by decide) rfl ?_
    rintro _ _ ⟨rfl, rfl⟩ _
    conv => whnf
    repeat (first | (refine And.intro rfl ?_; conv => whnf) | (refine And.intro (by decide) ?_; conv => whnf) | (refine draw_intro true (by kernel_rfl) ?_; conv => whnf) | (refine And.intro ⟨by omega, by omega⟩ ?_; conv => whnf) | (refine And.intro (by omega) ?_; conv => whnf) | (refine And.intro (fun _ => ⟨by omega, by omega⟩) ?_; conv => whnf) | (refine And.intro (fun _ => ?_) (fun h => absurd h ?_); rotate_left; (focus (first | decide | (simp; done))); conv => whnf) | (refine And.intro (fun h => absurd h ?_) (fun _ => ?_); (focus (first | decide | (simp; done))); conv => whnf))
    try (refine draw_intro true (by kernel_rfl) ?_; conv => whnf)
    refine CallSt.use c9 [] trivial (by decide) rfl ?_
    rintro _ _ ⟨rfl, rfl⟩ _
    conv => whnf
    refine ⟨fun _ => ?_, fun h => ?_⟩
    · conv => whnf
      try (refine draw_intro true (by kernel_rfl) ?_; conv => whnf)
      refine CallSt.use c17 [] trivial (by decide) rfl ?_
      rintro _ _ ⟨rfl, rfl⟩ _
      conv => whnf
      repeat (first | (refine And.intro rfl ?_; conv => whnf) | (refine And.intro (by decide) ?_; conv => whnf) | (refine draw_intro true (by kernel_rfl) ?_; conv => whnf) | (refine And.intro ⟨by omega, by omega⟩ ?_; conv => whnf) | (refine And.intro (by omega) ?_; conv => whnf) | (refine And.intro (fun _ => ⟨by omega, by omega⟩) ?_; conv => whnf) | (refine And.intro (fun _ => ?_) (fun h => absurd h ?_); rotate_left; (focus (first | decide | (simp; done))); conv => whnf) | (refine And.intro (fun h => absurd h ?_) (fun _ => ?_); (focus (first | decide | (simp; done))); conv => whnf))
      first | rfl | exact ⟨rfl, rfl⟩ | exact ⟨rfl, rfl, rfl⟩
    · rw [← Bool.not_eq_true] at h
      refine absurd ?_ h
      simp only [Bool.and_eq_true, Bool.or_eq_true, decide_eq_true_eq] at hsd ⊢
      exact ⟨⟨⟨trivial, trivial⟩, hsd.1⟩, hsd.2⟩
end Go.Tr
