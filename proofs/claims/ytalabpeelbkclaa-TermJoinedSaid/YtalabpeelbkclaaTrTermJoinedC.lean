/- What each function computes, and the plain laws of it, for the law TermJoined. -/
import Derived.Test.YtalabpeelbkclaaChecked
import Derived.Test.YtalabpeelbkclaaRows
import Derived.Test.YtalabpeelbkclaaTrTermJoinedB
set_option linter.unusedVariables false
set_option linter.unusedSimpArgs false
set_option linter.unnecessarySimpa false
set_option autoImplicit false
/- The seat's types; terms. -/
namespace Go.Tr
open Go.Proofs
def iz : Value := .int .i64 0
def tab : List (Nat × TyD) := [
  (3, ⟨1, 8, .int .i64, [.int .i64 0], [3]⟩),
  (4, ⟨1, 1, .bool, [.bool false], [4]⟩),
  (24, ⟨4, 48, .struct [(0, 3), (1, 3), (2, 3), (3, 22)], [.int .i64 0, .int .i64 0, .int .i64 0, .slice none 0 0], [3, 3, 3, 22]⟩),
  (22, ⟨1, 24, .slice 24, [.slice none 0 0], [22]⟩),
  (25, ⟨1, 8, .int .i64, [.int .i64 0], [25]⟩),
  (39, ⟨1, 8, .int .u64, [.int .u64 0], [39]⟩),
  (42, ⟨7, 72, .struct [(0, 24), (4, 3), (5, 3), (6, 3)], [.int .i64 0, .int .i64 0, .int .i64 0, .slice none 0 0, .int .i64 0, .int .i64 0, .int .i64 0], [3, 3, 3, 22, 3, 3, 3]⟩),
  (45, ⟨1, 24, .slice 47, [.slice none 0 0], [45]⟩),
  (47, ⟨2, 32, .struct [(0, 45), (1, 3)], [.slice none 0 0, .int .i64 0], [45, 3]⟩),
  (49, ⟨12, 160, .struct [(0, 24), (4, 24), (8, 47), (10, 47)], [.int .i64 0, .int .i64 0, .int .i64 0, .slice none 0 0, .int .i64 0, .int .i64 0, .int .i64 0, .slice none 0 0, .slice none 0 0, .int .i64 0, .slice none 0 0, .int .i64 0], [3, 3, 3, 22, 3, 3, 3, 22, 45, 3, 45, 3]⟩),
  (71, ⟨1, 24, .slice 3, [.slice none 0 0], [71]⟩)]
def keep (f : FuncId) : Bool := false
def env (n : Nat) : Env := ⟨lkT tab, keep, n, false⟩
theorem env_ok (n : Nat) : EnvOk Try.prog (env n) := EnvOk.of (l := tab) rfl (by kernel_rfl)
/-- Arguments are handed as they are. -/
def envK (n : Nat) : Env := ⟨lkT tab, fun _ => true, n, false⟩
theorem envK_ok (n : Nat) : EnvOk Try.prog (envK n) := EnvOk.of (l := tab) rfl (by kernel_rfl)
theorem mixed : Try.prog.follows .mixedOrders = true := by kernel_rfl
inductive Term where
  | mk (k l n : Int) (ts : List Term)
namespace Term
def k : Term → Int | mk a _ _ _ => a
def l : Term → Int | mk _ a _ _ => a
def n : Term → Int | mk _ _ a _ => a
def ts : Term → List Term | mk _ _ _ a => a
end Term
mutual
/-- A term's cells. -/
def tc : Term → List CV
  | .mk k l n ts => [.int .i64 k, .int .i64 l, .int .i64 n, .sl 4 48 (tcs ts)]
def tcs : List Term → List (List CV)
  | [] => []
  | t :: r => tc t :: tcs r
end
/-- A term as a value. -/
def tv (t : Term) : AV := .agg [.c (.int .i64 t.k), .c (.int .i64 t.l), .c (.int .i64 t.n), .c (.sl 4 48 (tcs t.ts))]
def bodyOf (f : Func) : Code := f.body.getD .skip
theorem funcs_at (i : Nat) {f : Func} (h : Try.funcs[i]? = some f) : Try.prog.funcs[i]? = some f := h
end Go.Tr
/- term.proper. -/
namespace Go.Tr
open Go.Proofs
theorem Term.ind {C : Term → Prop} (h : ∀ t : Term, (∀ u ∈ t.ts, C u) → C t) : ∀ t, C t
  | .mk k l n ts => h _ fun u hu => Term.ind h u
  termination_by t => SizeOf.sizeOf t
  decreasing_by
  have := List.sizeOf_lt_of_mem (show u ∈ ts from hu)
  simp; omega
def headOk (k l n : Int) (m : Nat) : Bool :=
  (decide (k = 1) && (decide (l = 0) && decide (n = 0) && decide ((m : Int) = 0))) ||
  (decide (k = 2) && (decide (l = 0) && decide (n = 0) && decide ((m : Int) = 2))) ||
  (decide (k = 3) && (decide (l = 0) && decide (n = 0) && decide ((m : Int) = 1))) ||
  (decide (k = 4) && (decide (1 ≤ l) && decide (l ≤ 3) && decide (0 ≤ n) && decide (n ≤ 9999)))
mutual
def propT : Term → Int → Int → Bool × Int
  | .mk k l n ts, d, c => if 600 < c + 1 ∨ 40 < d then (false, c + 1) else
    match headOk k l n ts.length with
    | true => propL ts d (c + 1)
    | false => (false, c + 1)
def propL : List Term → Int → Int → Bool × Int
  | [], _, c => (true, c)
  | t :: r, d, c => match propT t (d + 1) c with
    | (true, c') => propL r d c'
    | (false, c') => (false, c')
end
theorem len_tcs : ∀ ts : List Term, (tcs ts).length = ts.length
  | [] => rfl
  | t :: r => by simp [tcs, len_tcs r]
def I64 (n : Int) : AV := .c (.int .i64 n)
theorem tcs_at : ∀ (ts : List Term) (i : Nat) (u : Term), ts[i]? = some u → (tcs ts)[i]? = some (tc u)
  | [], _, _, h => by simp at h
  | t :: r, 0, u, h => by simp at h; subst h; simp [tcs]
  | t :: r, i + 1, u, h => by simp only [tcs, List.getElem?_cons_succ]; exact tcs_at r i u (by simpa using h)
theorem propL_drop (ts : List Term) (i : Nat) (u : Term) (d c : Int) (h : ts[i]? = some u) : propL (ts.drop i) d c = match propT u (d + 1) c with
  | (true, c') => propL (ts.drop (i + 1)) d c'
  | (false, c') => (false, c') := by
  have hi := (List.getElem?_eq_some_iff.1 h).1
  have : ts.drop i = u :: ts.drop (i + 1) := by
    rw [List.drop_eq_getElem_cons hi]
    congr 1
    rw [List.getElem?_eq_getElem hi] at h
    injection h
  rw [this, propL]
mutual
theorem propT_bd : ∀ (t : Term) (d c : Int), 0 ≤ c ∧ c ≤ 600 → 0 ≤ (propT t d c).2 ∧ ((propT t d c).1 = true → (propT t d c).2 ≤ 600)
  | .mk k l n ts, d, c, hc => by
    unfold propT
    split
    · simp; omega
    · rename_i h
      split
      · exact propL_bd ts d (c + 1) (by omega)
      · simp; omega
theorem propL_bd : ∀ (ts : List Term) (d c : Int), 0 ≤ c ∧ c ≤ 600 → 0 ≤ (propL ts d c).2 ∧ ((propL ts d c).1 = true → (propL ts d c).2 ≤ 600)
  | [], d, c, hc => by simp [propL]; omega
  | t :: r, d, c, hc => by
    have h := propT_bd t (d + 1) c hc
    unfold propL
    generalize propT t (d + 1) c = x at *
    obtain ⟨b, c'⟩ := x
    cases b
    · simpa using h
    · exact propL_bd r d c' ⟨h.1, h.2 rfl⟩
end
theorem c47 (t : Term) : ∀ (d c : Int), 0 ≤ d ∧ d ≤ 41 → 0 ≤ c ∧ c ≤ 600 → CallSt Try.prog 47 [tv t, .c (.int .i64 d), .ptr 0 0] [.box [.c (.int .i64 c)]] (fun r H' => r = .c (.bool (propT t d c).1) ∧ H' = [.box [.c (.int .i64 (propT t d c).2)]]) := by
  induction t using Term.ind with
  | _ t ih =>
  intro d c hd hc
  obtain ⟨k, l, n, ts⟩ := t
  replace ih : ∀ u, u ∈ ts → _ := ih
  refine call_pure (E := env 1) (fn := Try.f47) (c := bodyOf Try.f47) (env_ok 1) mixed (by kernel_rfl) (by kernel_rfl) (by kernel_rfl) (by kernel_rfl) (by kernel_rfl) (by kernel_rfl) rfl ?_
  conv => whnf
  refine ⟨?_, ?_⟩
  · exact ⟨by omega, by omega⟩
  conv => whnf
  refine ⟨fun h1 => ?_, fun h1 => ?_⟩
  · conv => whnf
    refine ⟨rfl, ?_⟩
    conv => whnf
    refine ⟨rfl, ?_⟩
    simp only [Bool.or_eq_true, decide_eq_true_eq] at h1
    unfold propT
    rw [if_pos h1]
    exact ⟨rfl, rfl⟩
  simp only [Bool.or_eq_false_iff, decide_eq_false_iff_not] at h1
  conv => whnf
  intro hlen
  replace hlen : (tcs ts).length * 48 ≤ 140737488355328 := hlen
  rw [len_tcs] at hlen
  conv => whnf
  refine ⟨fun h2 => ?_, fun h2 => ?_⟩
  replace h2 : k = 1 := of_decide_eq_true h2
  rotate_left
  replace h2 : ¬ k = 1 := of_decide_eq_false h2
  conv => whnf
  refine ⟨fun h3 => ?_, fun h3 => ?_⟩
  replace h3 : k = 2 := of_decide_eq_true h3
  rotate_left
  replace h3 : ¬ k = 2 := of_decide_eq_false h3
  conv => whnf
  refine ⟨fun h4 => ?_, fun h4 => ?_⟩
  replace h4 : k = 3 := of_decide_eq_true h4
  rotate_left
  replace h4 : ¬ k = 3 := of_decide_eq_false h4
  conv => whnf
  refine ⟨fun h5 => ?_, fun h5 => ?_⟩
  replace h5 : k = 4 := of_decide_eq_true h5
  rotate_left
  replace h5 : ¬ k = 4 := of_decide_eq_false h5
  conv => whnf
  · refine ⟨rfl, ?_⟩
    conv => whnf
    refine ⟨rfl, ?_⟩
    unfold propT
    rw [if_neg (by omega), show headOk k l n ts.length = false by simp [headOk, h2, h3, h4, h5]]
    exact ⟨rfl, rfl⟩
  all_goals conv => whnf
  all_goals
    refine loop_intro (fun m tm H => ∃ (i : Nat) (b : Bool) (c' : Int), ts.length = m + i ∧ (0 ≤ c' ∧ (b = true → c' ≤ 600)) ∧ (match b with | true => propL (ts.drop i) d c' | false => (false, c')) = propT (.mk k l n ts) d c ∧
      tm = [(9, .c (.int .i64 i)), (8, .c (.bool b)), (7, .c (.int .i64 (tcs ts).length)), (3, .ptr 1 0), (1, .c (.int .i64 d)), (2, .ptr 0 0), (6, .c (.bool false))] ∧ H = [.box [.c (.int .i64 c')], .box [.c (.int .i64 k), .c (.int .i64 l), .c (.int .i64 n), .c (.sl 4 48 (tcs ts))]])
      ts.length _ _ ⟨0, _, _, by omega, ?_, ?_, rfl, rfl⟩ (Wk.sel [0, 1] (by decide) (by decide) (by decide) ⟨rfl, rfl, trivial⟩ ⟨rfl, rfl, rfl, rfl, rfl, rfl, rfl, trivial⟩ rfl) ?_
    · exact ⟨by omega, fun _ => by omega⟩
    · unfold propT
      rw [if_neg (by omega)]
      simp only [len_tcs, Term.l, Term.n, Term.ts, List.drop_zero, headOk]
      simp [*]
      rfl
    · rintro m tm H ⟨i, b, c', hi, hc', hR, rfl, rfl⟩
      conv => whnf
      refine ⟨fun hb => ?_, fun hb => ?_⟩
      · simp only [len_tcs, Bool.and_eq_true, decide_eq_true_eq] at hb
        obtain ⟨hb, rfl⟩ := hb
        have hlt : i < ts.length := by omega
        obtain ⟨u, hu⟩ : ∃ u, ts[i]? = some u := ⟨ts[i], List.getElem?_eq_getElem hlt⟩
        have hm := List.mem_of_getElem? hu
        have hd' := propL_drop ts i u d c' hu
        have hcd := propT_bd u (d + 1) c' ⟨hc'.1, hc'.2 rfl⟩
        have huc := tcs_at ts i u hu
        obtain ⟨k', l', n', us⟩ := u
        conv => whnf
        refine ⟨_, ⟨by omega, by simpa using huc⟩, ?_⟩
        conv => whnf
        refine ⟨Nat.le_refl 4, ?_⟩
        conv => whnf
        refine ⟨⟨by omega, by omega⟩, ?_⟩
        conv => whnf
        refine CallSt.use (ih _ hm (d + 1) c' ⟨by omega, by omega⟩ ⟨hc'.1, hc'.2 rfl⟩) [0] ⟨rfl, trivial⟩ (by decide) rfl ?_
        rintro _ _ ⟨rfl, rfl⟩ _
        conv => whnf
        refine ⟨⟨by omega, by omega⟩, ?_⟩
        conv => whnf
        refine ⟨m - 1, _, _, by omega, ⟨i + 1, _, _, by omega, hcd, ?_, rfl, rfl⟩, Wk.sel [0, 1] (by decide) (by decide) (by decide) ⟨rfl, rfl, trivial⟩ ⟨rfl, rfl, rfl, rfl, rfl, rfl, rfl, trivial⟩ rfl⟩
        rw [← hR]
        simp only
        rw [hd']
        generalize propT (Term.mk k' l' n' us) (d + 1) c' = x at *
        obtain ⟨y, z⟩ := x
        cases y <;> rfl
      · conv => whnf
        refine ⟨rfl, ?_⟩
        conv => whnf
        refine ⟨rfl, ?_⟩
        simp only [len_tcs, Bool.and_eq_false_iff, decide_eq_false_iff_not] at hb
        cases b with
        | false =>
          simp only at hR
          rw [← hR]
          exact ⟨rfl, rfl⟩
        | true =>
          have : ts.length ≤ i := by
            rcases hb with hb | hb
            · omega
            · cases hb
          rw [List.drop_eq_nil_of_le this] at hR
          simp only [propL] at hR
          rw [← hR]
          exact ⟨rfl, rfl⟩
end Go.Tr
/- What is handed in, as terms. -/
namespace Go.Tr
open Go.Proofs
theorem tcs_map : ∀ ts : List Term, tcs ts = ts.map tc
  | [] => rfl
  | t :: r => by rw [tcs, tcs_map r]; rfl
theorem sh_term : ∀ (n : Nat) {xs : List CV}, Sh (lkT tab) n 24 xs → ∃ t, xs = tc t := by
  intro n
  induction n using Nat.strongRecOn with
  | _ n ih =>
  intro xs h
  obtain ⟨m, rfl, a, b, rfl, h0, c, d, rfl, h1, e, f, rfl, h2, g, i, rfl, h3, rfl⟩ := sh_struct (fs := [(0, 3), (1, 3), (2, 3), (3, 22)]) rfl h
  obtain ⟨k, rfl, _⟩ := sh_int (k := .i64) rfl h0
  obtain ⟨l, rfl, _⟩ := sh_int (k := .i64) rfl h1
  obtain ⟨n, rfl, _⟩ := sh_int (k := .i64) rfl h2
  obtain ⟨m2, es, rfl, rfl, _, h4⟩ := sh_slice (e := 24) rfl h3
  obtain ⟨ts, rfl⟩ := map_choose (f := tc) es fun r hr => ih m2 (by omega) (h4 r hr)
  exact ⟨.mk k l n ts, by rw [← tcs_map]; rfl⟩
theorem sh_terms {n : Nat} {xs : List CV} (h : Sh (lkT tab) n 22 xs) : ∃ ts : List Term, xs = [.sl 4 48 (tcs ts)] ∧ ts.length * 48 ≤ 140737488351232 := by
  obtain ⟨m2, es, rfl, rfl, h5, h4⟩ := sh_slice (e := 24) rfl h
  obtain ⟨ts, rfl⟩ := map_choose (f := tc) es fun r hr => sh_term m2 (h4 r hr)
  refine ⟨ts, by rw [← tcs_map]; rfl, ?_⟩
  rw [List.length_map] at h5
  exact h5
theorem tv_av (k : List (Nat × TypeId)) (t : Term) : avOf (.struct k) (tc t) = tv t := by cases t; rfl
def argTypes : List TypeId := [3, 22, 24]
theorem arg_ok : argTypes.all (cl1 (lkT tab) argTypes) = true := by decide
theorem own : ownKnob Try.prog.godebug = none := by kernel_rfl
theorem laidOut : laidOutB Try.prog = true := by kernel_rfl
theorem wf_in {n : Int} (h : (Lit.int .i64 n).wf = true) : inR n := by
  simp only [Lit.wf, Bool.and_eq_true, decide_eq_true_eq] at h
  rw [show IntKind.i64.min = -9223372036854775808 by decide, show IntKind.i64.max = 9223372036854775807 by decide] at h
  exact h
section
variable {H : Type} {enc : TypeId × Value → H} {W : World} {base : Nat} {v : Value} {d : DataW H} {ps : List MemPlace}
set_option maxRecDepth 100000 in
theorem arg_term (hval : Value.okWide Try.prog W .any base 24 v) (h : DataW.Trod enc Try.prog W 0 (fun _ => true) true 24 v d ps)
    (hw : ∀ n ∈ d.weights Try.prog 24, n ≤ reachBytes) : ∃ t : Term, AVR W.heap noS (fun _ => .none) (tv t) v := by
  obtain ⟨fuel, xs, hs, a⟩ := open_arg (env_ok 0) arg_ok (by decide) hval h hw
  obtain ⟨t, rfl⟩ := sh_term fuel hs
  exact ⟨t, by rw [← tv_av [(0, 3), (1, 3), (2, 3), (3, 22)]]; exact a⟩
set_option maxRecDepth 100000 in
theorem arg_terms (hval : Value.okWide Try.prog W .any base 22 v) (h : DataW.Trod enc Try.prog W 0 (fun _ => true) true 22 v d ps)
    (hw : ∀ n ∈ d.weights Try.prog 22, n ≤ reachBytes) : ∃ ts : List Term, AVR W.heap noS (fun _ => .none) (.c (.sl 4 48 (tcs ts))) v ∧ ts.length * 48 ≤ 140737488351232 := by
  obtain ⟨fuel, xs, hs, a⟩ := open_arg (env_ok 0) arg_ok (by decide) hval h hw
  obtain ⟨ts, rfl, hl⟩ := sh_terms hs
  exact ⟨ts, a, hl⟩
end
end Go.Tr
/- Depths, nodes. -/
namespace Go.Tr
open Go.Proofs
def mx (a b : Int) : Int := if a < b then b else a
def mn (a b : Int) : Int := if b < a then b else a
mutual
def dpT : Term → Int
  | .mk _ _ _ ts => 1 + dpL ts
def dpL : List Term → Int
  | [] => 0
  | t :: r => mx (dpT t) (dpL r)
end
mutual
theorem dpT_pos : ∀ t : Term, 1 ≤ dpT t
  | .mk _ _ _ ts => by
    have := dpL_pos ts
    unfold dpT
    omega
theorem dpL_pos : ∀ ts : List Term, 0 ≤ dpL ts
  | [] => by simp [dpL]
  | t :: r => by
    have h1 := dpT_pos t
    have h2 := dpL_pos r
    unfold dpL mx
    split <;> omega
end
theorem drop_at {α : Type} {ts : List α} {i : Nat} {u : α} (h : ts[i]? = some u) : ts.drop i = u :: ts.drop (i + 1) := by
  have hi := (List.getElem?_eq_some_iff.1 h).1
  rw [List.drop_eq_getElem_cons hi]
  congr 1
  rw [List.getElem?_eq_getElem hi] at h
  injection h
theorem dpL_mem : ∀ (ts : List Term) (u : Term), u ∈ ts → dpT u ≤ dpL ts
  | [], u, h => by cases h
  | t :: r, u, h => by
    rcases List.mem_cons.1 h with rfl | h
    · unfold dpL mx; split <;> omega
    · have := dpL_mem r u h
      unfold dpL mx; split <;> omega
theorem mx_nil {a : Int} (h : 0 ≤ a) : mx a (dpL []) = a := by
  rw [dpL]
  unfold mx
  exact if_neg (by omega)
theorem c48 (t : Term) : dpT t ≤ 1000 → CallSt Try.prog 48 [tv t] [] (fun r H' => r = .c (.int .i64 (dpT t)) ∧ H' = []) := by
  induction t using Term.ind with
  | _ t ih =>
  intro hb
  obtain ⟨k, l, n, ts⟩ := t
  replace ih : ∀ u, u ∈ ts → _ := ih
  refine call_pure (E := env 0) (fn := Try.f48) (c := bodyOf Try.f48) (env_ok 0) mixed (by kernel_rfl) (by kernel_rfl) (by kernel_rfl) (by kernel_rfl) (by kernel_rfl) (by kernel_rfl) rfl ?_
  conv => whnf
  intro hlen
  replace hlen : (tcs ts).length * 48 ≤ 140737488355328 := hlen
  rw [len_tcs] at hlen
  conv => whnf
  unfold dpT at hb
  refine loop_intro (fun m tm H => ∃ (i : Nat) (a : Int), ts.length = m + i ∧ 0 ≤ a ∧ mx a (dpL (ts.drop i)) = dpL ts ∧
      tm = [(9, .c (.int .i64 i)), (3, .c (.int .i64 a)), (7, .c (.sl 4 48 (tcs ts))), (8, .c (.int .i64 (tcs ts).length))] ∧ H = [])
      ts.length _ _ ⟨0, _, by omega, Int.le_refl 0, ?_, rfl, rfl⟩ (Wk.sel [] (by decide) (by decide) (by decide) trivial ⟨rfl, rfl, rfl, rfl, trivial⟩ rfl) ?_
  · have := dpL_pos ts
    simp only [List.drop_zero, mx]
    split <;> omega
  · rintro m tm H ⟨i, a, hi, ha, hR, rfl, rfl⟩
    conv => whnf
    refine ⟨fun hb => ?_, fun hb => ?_⟩
    · replace hb : (i : Int) < (tcs ts).length := of_decide_eq_true hb
      rw [len_tcs] at hb
      have hlt : i < ts.length := by omega
      obtain ⟨u, hu⟩ : ∃ u, ts[i]? = some u := ⟨ts[i], List.getElem?_eq_getElem hlt⟩
      have hm := List.mem_of_getElem? hu
      have huc := tcs_at ts i u hu
      have hdr := drop_at hu
      have hub := dpL_mem ts u hm
      have hup := dpT_pos u
      have hc := ih u hm (by omega)
      obtain ⟨k', l', n', us⟩ := u
      conv => whnf
      refine ⟨_, ⟨by omega, by simpa using huc⟩, ?_⟩
      conv => whnf
      refine ⟨Nat.le_refl 4, ?_⟩
      conv => whnf
      refine CallSt.use hc [] trivial (by decide) rfl ?_
      rintro _ _ ⟨rfl, rfl⟩ _
      conv => whnf
      refine ⟨⟨by omega, by omega⟩, ?_⟩
      conv => whnf
      refine ⟨m - 1, _, _, by omega, ⟨i + 1, mx a (dpT (.mk k' l' n' us)), by omega, ?_, ?_, rfl, rfl⟩, Wk.sel [] (by decide) (by decide) (by decide) trivial ⟨rfl, rfl, rfl, rfl, trivial⟩ rfl⟩
      · unfold mx; split <;> omega
      · rw [← hR, hdr, dpL]
        simp only [mx]
        repeat' split
        all_goals omega
    · replace hb : ¬ (i : Int) < (tcs ts).length := of_decide_eq_false hb
      rw [len_tcs] at hb
      have : ts.length ≤ i := by omega
      rw [List.drop_eq_nil_of_le this] at hR
      have hp := dpL_pos ts
      rw [mx_nil ha] at hR
      have hae : a = dpL ts := hR
      conv => whnf
      refine ⟨⟨by omega, by omega⟩, ?_⟩
      conv => whnf
      refine ⟨rfl, ?_⟩
      conv => whnf
      refine ⟨rfl, ?_⟩
      rw [hae, dpT]
      exact ⟨rfl, rfl⟩
theorem c53 (t : Term) : dpT t ≤ 1000 → CallSt Try.prog 53 [tv t] [] (fun r H' => r = .c (.int .i64 (dpT t)) ∧ H' = []) := by
  induction t using Term.ind with
  | _ t ih =>
  intro hb
  obtain ⟨k, l, n, ts⟩ := t
  replace ih : ∀ u, u ∈ ts → _ := ih
  refine call_pure (E := env 0) (fn := Try.f53) (c := bodyOf Try.f53) (env_ok 0) mixed (by kernel_rfl) (by kernel_rfl) (by kernel_rfl) (by kernel_rfl) (by kernel_rfl) (by kernel_rfl) rfl ?_
  conv => whnf
  unfold dpT at hb
  refine loop_intro (fun m tm H => ∃ (i : Nat) (a : Int), ts.length = m + i ∧ 0 ≤ a ∧ mx a (dpL (ts.drop i)) = dpL ts ∧
      tm = [(4, .c (.int .i64 i)), (3, .c (.int .i64 a)), (1, .ptr 0 0)] ∧ H = [.box [.c (.int .i64 k), .c (.int .i64 l), .c (.int .i64 n), .c (.sl 4 48 (tcs ts))]])
      ts.length _ _ ⟨0, _, by omega, Int.le_refl 0, ?_, rfl, rfl⟩ (Wk.sel [0] (by decide) (by decide) (by decide) ⟨rfl, trivial⟩ ⟨rfl, rfl, rfl, trivial⟩ rfl) ?_
  · have := dpL_pos ts
    simp only [List.drop_zero, mx]
    split <;> omega
  · rintro m tm H ⟨i, a, hi, ha, hR, rfl, rfl⟩
    conv => whnf
    intro hlen
    replace hlen : (tcs ts).length * 48 ≤ 140737488355328 := hlen
    rw [len_tcs] at hlen
    conv => whnf
    refine ⟨fun hb => ?_, fun hb => ?_⟩
    · replace hb : (i : Int) < (tcs ts).length := of_decide_eq_true hb
      rw [len_tcs] at hb
      have hlt : i < ts.length := by omega
      obtain ⟨u, hu⟩ : ∃ u, ts[i]? = some u := ⟨ts[i], List.getElem?_eq_getElem hlt⟩
      have hm := List.mem_of_getElem? hu
      have huc := tcs_at ts i u hu
      have hdr := drop_at hu
      have hub := dpL_mem ts u hm
      have hup := dpT_pos u
      have hc := ih u hm (by omega)
      obtain ⟨k', l', n', us⟩ := u
      conv => whnf
      refine ⟨_, ⟨by omega, by simpa using huc⟩, ?_⟩
      conv => whnf
      refine ⟨Nat.le_refl 4, ?_⟩
      conv => whnf
      refine CallSt.use hc [] trivial (by decide) rfl ?_
      rintro _ _ ⟨rfl, rfl⟩ _
      conv => whnf
      refine ⟨⟨by omega, by omega⟩, ?_⟩
      conv => whnf
      refine ⟨m - 1, _, _, by omega, ⟨i + 1, mx a (dpT (.mk k' l' n' us)), by omega, ?_, ?_, rfl, rfl⟩, Wk.sel [0] (by decide) (by decide) (by decide) ⟨rfl, trivial⟩ ⟨rfl, rfl, rfl, trivial⟩ rfl⟩
      · unfold mx; split <;> omega
      · rw [← hR, hdr, dpL]
        simp only [mx]
        repeat' split
        all_goals omega
    · replace hb : ¬ (i : Int) < (tcs ts).length := of_decide_eq_false hb
      rw [len_tcs] at hb
      have : ts.length ≤ i := by omega
      rw [List.drop_eq_nil_of_le this] at hR
      have hp := dpL_pos ts
      rw [mx_nil ha] at hR
      have hae : a = dpL ts := hR
      conv => whnf
      refine ⟨⟨by omega, by omega⟩, ?_⟩
      conv => whnf
      refine ⟨rfl, ?_⟩
      conv => whnf
      refine ⟨rfl, ?_⟩
      rw [hae, dpT, Int.add_comm]
      exact ⟨rfl, rfl⟩
mutual
def ndT : Term → Int → Int
  | .mk _ _ _ ts, b => mn (ndL ts b 1) (b + 1)
def ndL : List Term → Int → Int → Int
  | [], _, n => n
  | t :: r, b, n => if n ≤ b then ndL r b (n + ndT t (b - n)) else n
end
mutual
theorem ndT_bd : ∀ (t : Term) (b : Int), 0 ≤ b → 1 ≤ ndT t b ∧ ndT t b ≤ b + 1
  | .mk _ _ _ ts, b, hb => by
    have := ndL_bd ts b 1 (by omega)
    unfold ndT mn
    split <;> omega
theorem ndL_bd : ∀ (ts : List Term) (b n : Int), 1 ≤ n ∧ n ≤ b + 1 → 1 ≤ ndL ts b n ∧ ndL ts b n ≤ b + 1
  | [], b, n, h => by simp only [ndL]; omega
  | t :: r, b, n, h => by
    unfold ndL
    split
    · have := ndT_bd t (b - n) (by omega)
      exact ndL_bd r b _ (by omega)
    · omega
end
theorem c49 (t : Term) : ∀ b, 0 ≤ b ∧ b ≤ 1000 → CallSt Try.prog 49 [tv t, .c (.int .i64 b)] [] (fun r H' => r = .c (.int .i64 (ndT t b)) ∧ H' = []) := by
  induction t using Term.ind with
  | _ t ih =>
  intro b hb
  obtain ⟨k, l, n, ts⟩ := t
  replace ih : ∀ u, u ∈ ts → _ := ih
  refine call_pure (E := env 0) (fn := Try.f49) (c := bodyOf Try.f49) (env_ok 0) mixed (by kernel_rfl) (by kernel_rfl) (by kernel_rfl) (by kernel_rfl) (by kernel_rfl) (by kernel_rfl) rfl ?_
  conv => whnf
  refine loop_intro (fun m tm H => ∃ (i : Nat) (a : Int), ts.length = m + i ∧ (1 ≤ a ∧ a ≤ b + 1) ∧ ndL (ts.drop i) b a = ndL ts b 1 ∧
      tm = [(6, .c (.int .i64 i)), (5, .c (.int .i64 a)), (2, .ptr 0 0), (1, .c (.int .i64 b))] ∧ H = [.box [.c (.int .i64 k), .c (.int .i64 l), .c (.int .i64 n), .c (.sl 4 48 (tcs ts))]])
      ts.length _ _ ⟨0, _, by omega, ⟨Int.le_refl 1, by omega⟩, rfl, rfl, rfl⟩ (Wk.sel [0] (by decide) (by decide) (by decide) ⟨rfl, trivial⟩ ⟨rfl, rfl, rfl, rfl, trivial⟩ rfl) ?_
  rintro m tm H ⟨i, a, hi, ha, hR, rfl, rfl⟩
  conv => whnf
  intro hlen
  replace hlen : (tcs ts).length * 48 ≤ 140737488355328 := hlen
  rw [len_tcs] at hlen
  conv => whnf
  refine ⟨fun hc => ?_, fun hc => ?_⟩
  · simp only [len_tcs, Bool.and_eq_true, decide_eq_true_eq] at hc
    obtain ⟨hc, hab⟩ := hc
    have hlt : i < ts.length := by omega
    obtain ⟨u, hu⟩ : ∃ u, ts[i]? = some u := ⟨ts[i], List.getElem?_eq_getElem hlt⟩
    have hm := List.mem_of_getElem? hu
    have huc := tcs_at ts i u hu
    have hdr := drop_at hu
    have hub := ndT_bd u (b - a) (by omega)
    have hcc := ih u hm (b - a) ⟨by omega, by omega⟩
    obtain ⟨k', l', n', us⟩ := u
    conv => whnf
    refine ⟨_, ⟨by omega, by simpa using huc⟩, ?_⟩
    conv => whnf
    refine ⟨Nat.le_refl 4, ?_⟩
    conv => whnf
    refine ⟨⟨by omega, by omega⟩, ?_⟩
    conv => whnf
    refine CallSt.use hcc [] trivial (by decide) rfl ?_
    rintro _ _ ⟨rfl, rfl⟩ _
    conv => whnf
    refine ⟨⟨by omega, by omega⟩, ?_⟩
    conv => whnf
    refine ⟨⟨by omega, by omega⟩, ?_⟩
    conv => whnf
    refine ⟨m - 1, _, _, by omega, ⟨i + 1, a + ndT (.mk k' l' n' us) (b - a), by omega, by omega, ?_, rfl, rfl⟩, Wk.sel [0] (by decide) (by decide) (by decide) ⟨rfl, trivial⟩ ⟨rfl, rfl, rfl, rfl, trivial⟩ rfl⟩
    rw [← hR, hdr, ndL, if_pos hab]
  · conv => whnf
    refine ⟨⟨by omega, by omega⟩, ?_⟩
    conv => whnf
    refine ⟨rfl, ?_⟩
    conv => whnf
    refine ⟨rfl, ?_⟩
    have hae : ndL ts b 1 = a := by
      rw [← hR]
      rcases Nat.lt_or_ge i ts.length with h | h
      · have : ¬ a ≤ b := by
          intro h2
          have h3 : (i : Int) < (tcs ts).length := by rw [len_tcs]; omega
          simp [h2, h3] at hc
        rw [List.drop_eq_getElem_cons h, ndL, if_neg this]
      · rw [List.drop_eq_nil_of_le h, ndL]
    rw [ndT, hae]
    exact ⟨rfl, rfl⟩
def fmB (k l n : Int) (m : Nat) : Bool :=
  if k = 1 then !(!decide ((m : Int) = 0) || !decide (l = 0) || !decide (n = 0))
  else if k = 2 then !(!decide ((m : Int) = 2) || !decide (l = 0) || !decide (n = 0))
  else if k = 3 then !(!decide ((m : Int) = 1) || !decide (l = 0) || !decide (n = 0))
  else if k = 4 then !(decide (l < 1) || decide (3 < l) || decide (n < 0) || decide (9999 < n))
  else false
mutual
def fmT : Term → Int → Bool
  | .mk k l n ts, d => !decide (40 < d) && fmB k l n ts.length && fmL ts d
def fmL : List Term → Int → Bool
  | [], _ => true
  | t :: r, d => fmT t (d + 1) && fmL r d
end
theorem c50 (t : Term) : ∀ d, 0 ≤ d ∧ d ≤ 41 → CallSt Try.prog 50 [tv t, .c (.int .i64 d)] [] (fun r H' => r = .c (.bool (fmT t d)) ∧ H' = []) := by
  induction t using Term.ind with
  | _ t ih =>
  intro d hd
  obtain ⟨k, l, n, ts⟩ := t
  replace ih : ∀ u, u ∈ ts → _ := ih
  refine call_pure (E := env 0) (fn := Try.f50) (c := bodyOf Try.f50) (env_ok 0) mixed (by kernel_rfl) (by kernel_rfl) (by kernel_rfl) (by kernel_rfl) (by kernel_rfl) (by kernel_rfl) rfl ?_
  conv => whnf
  refine ⟨fun h1 => ?_, fun h1 => ?_⟩
  · conv => whnf
    refine ⟨rfl, ?_⟩
    conv => whnf
    refine ⟨rfl, ?_⟩
    simp only [fmT]
    rw [h1]
    exact ⟨rfl, rfl⟩
  replace h1' := of_decide_eq_false h1
  have noB : ∀ v, fmB k l n ts.length = v → fmT (.mk k l n ts) d = (v && fmL ts d) := fun v hv => by rw [fmT, hv, h1]; rfl
  conv => whnf
  refine ⟨fun h2 => ?_, fun h2 => ?_⟩
  replace h2 : k = 1 := of_decide_eq_true h2
  rotate_left
  replace h2 : ¬ k = 1 := of_decide_eq_false h2
  conv => whnf
  refine ⟨fun h3 => ?_, fun h3 => ?_⟩
  replace h3 : k = 2 := of_decide_eq_true h3
  rotate_left
  replace h3 : ¬ k = 2 := of_decide_eq_false h3
  conv => whnf
  refine ⟨fun h4 => ?_, fun h4 => ?_⟩
  replace h4 : k = 3 := of_decide_eq_true h4
  rotate_left
  replace h4 : ¬ k = 3 := of_decide_eq_false h4
  conv => whnf
  refine ⟨fun h5 => ?_, fun h5 => ?_⟩
  replace h5 : k = 4 := of_decide_eq_true h5
  rotate_left
  replace h5 : ¬ k = 4 := of_decide_eq_false h5
  conv => whnf
  · refine ⟨rfl, ?_⟩
    conv => whnf
    refine ⟨rfl, ?_⟩
    rw [noB false (by simp [fmB, *])]
    exact ⟨rfl, rfl⟩
  all_goals conv => whnf
  · intro hlen
    clear hlen
    conv => whnf
    refine ⟨fun h6 => ?_, fun h6 => ?_⟩
    all_goals simp only [Term.k, Term.l, Term.n, Term.ts, len_tcs] at h6
    · conv => whnf
      refine ⟨rfl, ?_⟩
      conv => whnf
      refine ⟨rfl, ?_⟩
      rw [noB false (by rw [fmB, if_pos h2]; exact congrArg not h6)]
      exact ⟨rfl, rfl⟩
    conv => whnf
    refine loop_intro (fun m tm H => ∃ (i : Nat), ts.length = m + i ∧ fmL (ts.drop i) d = fmT (.mk k l n ts) d ∧
      tm = [(5, .c (.int .i64 i)), (2, .ptr 0 0), (1, .c (.int .i64 d)), (4, .c (.bool false))] ∧ H = [.box [.c (.int .i64 k), .c (.int .i64 l), .c (.int .i64 n), .c (.sl 4 48 (tcs ts))]])
      ts.length _ _ ⟨0, by omega, ?_, rfl, rfl⟩ (Wk.sel [0] (by decide) (by decide) (by decide) ⟨rfl, trivial⟩ ⟨rfl, rfl, rfl, rfl, trivial⟩ rfl) ?_
    · rw [noB true (by rw [fmB, if_pos h2]; exact congrArg not h6), Bool.true_and]; rfl
    · rintro m tm H ⟨i, hi, hR, rfl, rfl⟩
      conv => whnf
      intro hlen
      replace hlen : (tcs ts).length * 48 ≤ 140737488355328 := hlen
      rw [len_tcs] at hlen
      conv => whnf
      refine ⟨fun hc => ?_, fun hc => ?_⟩
      · replace hc : (i : Int) < (tcs ts).length := of_decide_eq_true hc
        rw [len_tcs] at hc
        have hlt : i < ts.length := by omega
        obtain ⟨u, hu⟩ : ∃ u, ts[i]? = some u := ⟨ts[i], List.getElem?_eq_getElem hlt⟩
        have hm := List.mem_of_getElem? hu
        have huc := tcs_at ts i u hu
        have hdr := drop_at hu
        have hcc := ih u hm (d + 1) ⟨by omega, by omega⟩
        obtain ⟨k', l', n', us⟩ := u
        rw [hdr, fmL] at hR
        conv => whnf
        refine ⟨_, ⟨by omega, by simpa using huc⟩, ?_⟩
        conv => whnf
        refine ⟨Nat.le_refl 4, ?_⟩
        conv => whnf
        refine ⟨⟨by omega, by omega⟩, ?_⟩
        conv => whnf
        refine CallSt.use hcc [] trivial (by decide) rfl ?_
        rintro _ _ ⟨rfl, rfl⟩ _
        conv => whnf
        refine ⟨fun hf => ?_, fun hf => ?_⟩
        · conv => whnf
          refine ⟨rfl, ?_⟩
          conv => whnf
          refine ⟨rfl, ?_⟩
          rw [← hR, show fmT (.mk k' l' n' us) (d + 1) = false by simpa using hf]
          exact ⟨rfl, rfl⟩
        · conv => whnf
          refine ⟨⟨by omega, by omega⟩, ?_⟩
          conv => whnf
          refine ⟨m - 1, _, _, by omega, ⟨i + 1, by omega, ?_, rfl, rfl⟩, Wk.sel [0] (by decide) (by decide) (by decide) ⟨rfl, trivial⟩ ⟨rfl, rfl, rfl, rfl, trivial⟩ rfl⟩
          rw [← hR, show fmT (.mk k' l' n' us) (d + 1) = true by simpa using hf, Bool.true_and]
      · replace hc : ¬ (i : Int) < (tcs ts).length := of_decide_eq_false hc
        rw [len_tcs] at hc
        conv => whnf
        refine ⟨rfl, ?_⟩
        conv => whnf
        refine ⟨rfl, ?_⟩
        rw [← hR, List.drop_eq_nil_of_le (by omega)]
        exact ⟨rfl, rfl⟩
  · intro hlen
    clear hlen
    conv => whnf
    refine ⟨fun h6 => ?_, fun h6 => ?_⟩
    all_goals simp only [Term.k, Term.l, Term.n, Term.ts, len_tcs] at h6
    · conv => whnf
      refine ⟨rfl, ?_⟩
      conv => whnf
      refine ⟨rfl, ?_⟩
      rw [noB false (by rw [fmB, if_neg h2, if_pos h3]; exact congrArg not h6)]
      exact ⟨rfl, rfl⟩
    conv => whnf
    refine loop_intro (fun m tm H => ∃ (i : Nat), ts.length = m + i ∧ fmL (ts.drop i) d = fmT (.mk k l n ts) d ∧
      tm = [(5, .c (.int .i64 i)), (2, .ptr 0 0), (1, .c (.int .i64 d)), (4, .c (.bool false))] ∧ H = [.box [.c (.int .i64 k), .c (.int .i64 l), .c (.int .i64 n), .c (.sl 4 48 (tcs ts))]])
      ts.length _ _ ⟨0, by omega, ?_, rfl, rfl⟩ (Wk.sel [0] (by decide) (by decide) (by decide) ⟨rfl, trivial⟩ ⟨rfl, rfl, rfl, rfl, trivial⟩ rfl) ?_
    · rw [noB true (by rw [fmB, if_neg h2, if_pos h3]; exact congrArg not h6), Bool.true_and]; rfl
    · rintro m tm H ⟨i, hi, hR, rfl, rfl⟩
      conv => whnf
      intro hlen
      replace hlen : (tcs ts).length * 48 ≤ 140737488355328 := hlen
      rw [len_tcs] at hlen
      conv => whnf
      refine ⟨fun hc => ?_, fun hc => ?_⟩
      · replace hc : (i : Int) < (tcs ts).length := of_decide_eq_true hc
        rw [len_tcs] at hc
        have hlt : i < ts.length := by omega
        obtain ⟨u, hu⟩ : ∃ u, ts[i]? = some u := ⟨ts[i], List.getElem?_eq_getElem hlt⟩
        have hm := List.mem_of_getElem? hu
        have huc := tcs_at ts i u hu
        have hdr := drop_at hu
        have hcc := ih u hm (d + 1) ⟨by omega, by omega⟩
        obtain ⟨k', l', n', us⟩ := u
        rw [hdr, fmL] at hR
        conv => whnf
        refine ⟨_, ⟨by omega, by simpa using huc⟩, ?_⟩
        conv => whnf
        refine ⟨Nat.le_refl 4, ?_⟩
        conv => whnf
        refine ⟨⟨by omega, by omega⟩, ?_⟩
        conv => whnf
        refine CallSt.use hcc [] trivial (by decide) rfl ?_
        rintro _ _ ⟨rfl, rfl⟩ _
        conv => whnf
        refine ⟨fun hf => ?_, fun hf => ?_⟩
        · conv => whnf
          refine ⟨rfl, ?_⟩
          conv => whnf
          refine ⟨rfl, ?_⟩
          rw [← hR, show fmT (.mk k' l' n' us) (d + 1) = false by simpa using hf]
          exact ⟨rfl, rfl⟩
        · conv => whnf
          refine ⟨⟨by omega, by omega⟩, ?_⟩
          conv => whnf
          refine ⟨m - 1, _, _, by omega, ⟨i + 1, by omega, ?_, rfl, rfl⟩, Wk.sel [0] (by decide) (by decide) (by decide) ⟨rfl, trivial⟩ ⟨rfl, rfl, rfl, rfl, trivial⟩ rfl⟩
          rw [← hR, show fmT (.mk k' l' n' us) (d + 1) = true by simpa using hf, Bool.true_and]
      · replace hc : ¬ (i : Int) < (tcs ts).length := of_decide_eq_false hc
        rw [len_tcs] at hc
        conv => whnf
        refine ⟨rfl, ?_⟩
        conv => whnf
        refine ⟨rfl, ?_⟩
        rw [← hR, List.drop_eq_nil_of_le (by omega)]
        exact ⟨rfl, rfl⟩
  · intro hlen
    clear hlen
    conv => whnf
    refine ⟨fun h6 => ?_, fun h6 => ?_⟩
    all_goals simp only [Term.k, Term.l, Term.n, Term.ts, len_tcs] at h6
    · conv => whnf
      refine ⟨rfl, ?_⟩
      conv => whnf
      refine ⟨rfl, ?_⟩
      rw [noB false (by rw [fmB, if_neg h2, if_neg h3, if_pos h4]; exact congrArg not h6)]
      exact ⟨rfl, rfl⟩
    conv => whnf
    refine loop_intro (fun m tm H => ∃ (i : Nat), ts.length = m + i ∧ fmL (ts.drop i) d = fmT (.mk k l n ts) d ∧
      tm = [(5, .c (.int .i64 i)), (2, .ptr 0 0), (1, .c (.int .i64 d)), (4, .c (.bool false))] ∧ H = [.box [.c (.int .i64 k), .c (.int .i64 l), .c (.int .i64 n), .c (.sl 4 48 (tcs ts))]])
      ts.length _ _ ⟨0, by omega, ?_, rfl, rfl⟩ (Wk.sel [0] (by decide) (by decide) (by decide) ⟨rfl, trivial⟩ ⟨rfl, rfl, rfl, rfl, trivial⟩ rfl) ?_
    · rw [noB true (by rw [fmB, if_neg h2, if_neg h3, if_pos h4]; exact congrArg not h6), Bool.true_and]; rfl
    · rintro m tm H ⟨i, hi, hR, rfl, rfl⟩
      conv => whnf
      intro hlen
      replace hlen : (tcs ts).length * 48 ≤ 140737488355328 := hlen
      rw [len_tcs] at hlen
      conv => whnf
      refine ⟨fun hc => ?_, fun hc => ?_⟩
      · replace hc : (i : Int) < (tcs ts).length := of_decide_eq_true hc
        rw [len_tcs] at hc
        have hlt : i < ts.length := by omega
        obtain ⟨u, hu⟩ : ∃ u, ts[i]? = some u := ⟨ts[i], List.getElem?_eq_getElem hlt⟩
        have hm := List.mem_of_getElem? hu
        have huc := tcs_at ts i u hu
        have hdr := drop_at hu
        have hcc := ih u hm (d + 1) ⟨by omega, by omega⟩
        obtain ⟨k', l', n', us⟩ := u
        rw [hdr, fmL] at hR
        conv => whnf
        refine ⟨_, ⟨by omega, by simpa using huc⟩, ?_⟩
        conv => whnf
        refine ⟨Nat.le_refl 4, ?_⟩
        conv => whnf
        refine ⟨⟨by omega, by omega⟩, ?_⟩
        conv => whnf
        refine CallSt.use hcc [] trivial (by decide) rfl ?_
        rintro _ _ ⟨rfl, rfl⟩ _
        conv => whnf
        refine ⟨fun hf => ?_, fun hf => ?_⟩
        · conv => whnf
          refine ⟨rfl, ?_⟩
          conv => whnf
          refine ⟨rfl, ?_⟩
          rw [← hR, show fmT (.mk k' l' n' us) (d + 1) = false by simpa using hf]
          exact ⟨rfl, rfl⟩
        · conv => whnf
          refine ⟨⟨by omega, by omega⟩, ?_⟩
          conv => whnf
          refine ⟨m - 1, _, _, by omega, ⟨i + 1, by omega, ?_, rfl, rfl⟩, Wk.sel [0] (by decide) (by decide) (by decide) ⟨rfl, trivial⟩ ⟨rfl, rfl, rfl, rfl, trivial⟩ rfl⟩
          rw [← hR, show fmT (.mk k' l' n' us) (d + 1) = true by simpa using hf, Bool.true_and]
      · replace hc : ¬ (i : Int) < (tcs ts).length := of_decide_eq_false hc
        rw [len_tcs] at hc
        conv => whnf
        refine ⟨rfl, ?_⟩
        conv => whnf
        refine ⟨rfl, ?_⟩
        rw [← hR, List.drop_eq_nil_of_le (by omega)]
        exact ⟨rfl, rfl⟩
  · refine ⟨fun h6 => ?_, fun h6 => ?_⟩
    all_goals simp only [Term.k, Term.l, Term.n, Term.ts, len_tcs] at h6
    · conv => whnf
      refine ⟨rfl, ?_⟩
      conv => whnf
      refine ⟨rfl, ?_⟩
      rw [noB false (by rw [fmB, if_neg h2, if_neg h3, if_neg h4, if_pos h5]; exact congrArg not h6)]
      exact ⟨rfl, rfl⟩
    conv => whnf
    refine loop_intro (fun m tm H => ∃ (i : Nat), ts.length = m + i ∧ fmL (ts.drop i) d = fmT (.mk k l n ts) d ∧
      tm = [(5, .c (.int .i64 i)), (2, .ptr 0 0), (1, .c (.int .i64 d)), (4, .c (.bool false))] ∧ H = [.box [.c (.int .i64 k), .c (.int .i64 l), .c (.int .i64 n), .c (.sl 4 48 (tcs ts))]])
      ts.length _ _ ⟨0, by omega, ?_, rfl, rfl⟩ (Wk.sel [0] (by decide) (by decide) (by decide) ⟨rfl, trivial⟩ ⟨rfl, rfl, rfl, rfl, trivial⟩ rfl) ?_
    · rw [noB true (by rw [fmB, if_neg h2, if_neg h3, if_neg h4, if_pos h5]; exact congrArg not h6), Bool.true_and]; rfl
    · rintro m tm H ⟨i, hi, hR, rfl, rfl⟩
      conv => whnf
      intro hlen
      replace hlen : (tcs ts).length * 48 ≤ 140737488355328 := hlen
      rw [len_tcs] at hlen
      conv => whnf
      refine ⟨fun hc => ?_, fun hc => ?_⟩
      · replace hc : (i : Int) < (tcs ts).length := of_decide_eq_true hc
        rw [len_tcs] at hc
        have hlt : i < ts.length := by omega
        obtain ⟨u, hu⟩ : ∃ u, ts[i]? = some u := ⟨ts[i], List.getElem?_eq_getElem hlt⟩
        have hm := List.mem_of_getElem? hu
        have huc := tcs_at ts i u hu
        have hdr := drop_at hu
        have hcc := ih u hm (d + 1) ⟨by omega, by omega⟩
        obtain ⟨k', l', n', us⟩ := u
        rw [hdr, fmL] at hR
        conv => whnf
        refine ⟨_, ⟨by omega, by simpa using huc⟩, ?_⟩
        conv => whnf
        refine ⟨Nat.le_refl 4, ?_⟩
        conv => whnf
        refine ⟨⟨by omega, by omega⟩, ?_⟩
        conv => whnf
        refine CallSt.use hcc [] trivial (by decide) rfl ?_
        rintro _ _ ⟨rfl, rfl⟩ _
        conv => whnf
        refine ⟨fun hf => ?_, fun hf => ?_⟩
        · conv => whnf
          refine ⟨rfl, ?_⟩
          conv => whnf
          refine ⟨rfl, ?_⟩
          rw [← hR, show fmT (.mk k' l' n' us) (d + 1) = false by simpa using hf]
          exact ⟨rfl, rfl⟩
        · conv => whnf
          refine ⟨⟨by omega, by omega⟩, ?_⟩
          conv => whnf
          refine ⟨m - 1, _, _, by omega, ⟨i + 1, by omega, ?_, rfl, rfl⟩, Wk.sel [0] (by decide) (by decide) (by decide) ⟨rfl, trivial⟩ ⟨rfl, rfl, rfl, rfl, trivial⟩ rfl⟩
          rw [← hR, show fmT (.mk k' l' n' us) (d + 1) = true by simpa using hf, Bool.true_and]
      · replace hc : ¬ (i : Int) < (tcs ts).length := of_decide_eq_false hc
        rw [len_tcs] at hc
        conv => whnf
        refine ⟨rfl, ?_⟩
        conv => whnf
        refine ⟨rfl, ?_⟩
        rw [← hR, List.drop_eq_nil_of_le (by omega)]
        exact ⟨rfl, rfl⟩
end Go.Tr
/- Check, Size, Proper. -/
namespace Go.Tr
open Go.Proofs
def prop (t : Term) : Bool := (propT t 1 0).1
theorem c14 (t : Term) : CallSt Try.prog 14 [tv t] [] (fun r H' => r = .c (.int .i64 (if prop t then 0 else 2)) ∧ H' = []) := by
  obtain ⟨k, l, n, ts⟩ := t
  refine call_pure (E := env 0) (fn := Try.f14) (c := bodyOf Try.f14) (env_ok 0) mixed (by kernel_rfl) (by kernel_rfl) (by kernel_rfl) (by kernel_rfl) (by kernel_rfl) (by kernel_rfl) rfl ?_
  conv => whnf
  refine CallSt.use (c47 (.mk k l n ts) 1 0 (by omega) (by omega)) [1] ⟨rfl, trivial⟩ (by decide) rfl ?_
  rintro _ _ ⟨rfl, rfl⟩ _
  conv => whnf
  refine ⟨fun h => ?_, fun h => ?_⟩
  · conv => whnf
    refine ⟨rfl, ?_⟩
    conv => whnf
    refine ⟨rfl, ?_⟩
    rw [if_neg (by unfold prop; simpa using h)]
    exact ⟨rfl, rfl⟩
  · conv => whnf
    refine ⟨rfl, ?_⟩
    conv => whnf
    refine ⟨rfl, ?_⟩
    rw [if_pos (by unfold prop; simpa using h)]
    exact ⟨rfl, rfl⟩
mutual
theorem propT_dp : ∀ (t : Term) (d c : Int), (propT t d c).1 = true → dpT t ≤ 41 - d
  | .mk k l n ts, d, c, h => by
    unfold propT at h
    split at h
    · cases h
    · split at h
      · have := propL_dp ts d (c + 1) h (by omega)
        unfold dpT
        omega
      · cases h
theorem propL_dp : ∀ (ts : List Term) (d c : Int), (propL ts d c).1 = true → d ≤ 40 → dpL ts ≤ 40 - d
  | [], d, c, h, hd => by simp only [dpL]; omega
  | t :: r, d, c, h, hd => by
    have h1 := propT_dp t (d + 1) c
    unfold propL at h
    generalize propT t (d + 1) c = x at *
    obtain ⟨b, c'⟩ := x
    cases b
    · cases h
    · have h2 := propL_dp r d c' h hd
      have := h1 rfl
      unfold dpL mx
      split <;> omega
end
theorem c15 (t : Term) : CallSt Try.prog 15 [tv t] [] (fun r H' => r = (if prop t then .tup [.c (.int .i64 (propT t 1 0).2), .c (.int .i64 (dpT t)), .c (.int .i64 0)] else .tup [.c (.int .i64 0), .c (.int .i64 0), .c (.int .i64 2)]) ∧ H' = []) := by
  have hdp := propT_dp t 1 0
  obtain ⟨k, l, n, ts⟩ := t
  refine call_pure (E := env 0) (fn := Try.f15) (c := bodyOf Try.f15) (env_ok 0) mixed (by kernel_rfl) (by kernel_rfl) (by kernel_rfl) (by kernel_rfl) (by kernel_rfl) (by kernel_rfl) rfl ?_
  conv => whnf
  refine CallSt.use (c47 (.mk k l n ts) 1 0 (by omega) (by omega)) [1] ⟨rfl, trivial⟩ (by decide) rfl ?_
  rintro _ _ ⟨rfl, rfl⟩ _
  conv => whnf
  refine ⟨fun h => ?_, fun h => ?_⟩
  · conv => whnf
    refine ⟨rfl, ?_⟩
    conv => whnf
    refine ⟨rfl, ?_⟩
    rw [if_neg (by unfold prop; simpa using h)]
    exact ⟨rfl, rfl⟩
  · have h' : (propT (.mk k l n ts) 1 0).1 = true := by simpa using h
    have hdp := hdp h'
    conv => whnf
    refine draw_intro true (by kernel_rfl) ?_
    conv => whnf
    refine CallSt.use (c48 (.mk k l n ts) (by omega)) [] trivial (by decide) rfl ?_
    rintro _ _ ⟨rfl, rfl⟩ _
    conv => whnf
    refine ⟨rfl, ?_⟩
    conv => whnf
    refine ⟨rfl, ?_⟩
    rw [if_pos (by unfold prop; exact h')]
    exact ⟨rfl, rfl⟩
def rprop (t : Term) : Bool := decide (ndT t 600 ≤ 600) && fmT t 1
theorem c16 (t : Term) : CallSt Try.prog 16 [tv t] [] (fun r H' => r = .c (.bool (rprop t)) ∧ H' = []) := by
  obtain ⟨k, l, n, ts⟩ := t
  refine call_pure (E := env 0) (fn := Try.f16) (c := bodyOf Try.f16) (env_ok 0) mixed (by kernel_rfl) (by kernel_rfl) (by kernel_rfl) (by kernel_rfl) (by kernel_rfl) (by kernel_rfl) rfl ?_
  conv => whnf
  refine CallSt.use (c49 (.mk k l n ts) 600 (by omega)) [] trivial (by decide) rfl ?_
  rintro _ _ ⟨rfl, rfl⟩ _
  conv => whnf
  refine ⟨fun h => ?_, fun h => ?_⟩
  · conv => whnf
    refine CallSt.use (c50 (.mk k l n ts) 1 (by omega)) [] trivial (by decide) rfl ?_
    rintro _ _ ⟨rfl, rfl⟩ _
    conv => whnf
    refine ⟨rfl, ?_⟩
    conv => whnf
    refine ⟨rfl, ?_⟩
    have h' := of_decide_eq_true h
    rw [rprop, decide_eq_true h']
    exact ⟨rfl, rfl⟩
  · conv => whnf
    refine ⟨rfl, ?_⟩
    conv => whnf
    refine ⟨rfl, ?_⟩
    have h' := of_decide_eq_false h
    rw [rprop, decide_eq_false h']
    exact ⟨rfl, rfl⟩
theorem c18 (t : Term) (hd : dpT t ≤ 1000) : CallSt Try.prog 18 [tv t] [] (fun r H' => r = .tup [.c (.int .i64 (ndT t 600)), .c (.int .i64 (dpT t))] ∧ H' = []) := by
  obtain ⟨k, l, n, ts⟩ := t
  refine call_pure (E := env 0) (fn := Try.f18) (c := bodyOf Try.f18) (env_ok 0) mixed (by kernel_rfl) (by kernel_rfl) (by kernel_rfl) (by kernel_rfl) (by kernel_rfl) (by kernel_rfl) rfl ?_
  conv => whnf
  refine draw_intro true (by kernel_rfl) ?_
  conv => whnf
  refine CallSt.use (c49 (.mk k l n ts) 600 (by omega)) [] trivial (by decide) rfl ?_
  rintro _ _ ⟨rfl, rfl⟩ _
  conv => whnf
  refine CallSt.use (c53 (.mk k l n ts) hd) [] trivial (by decide) rfl ?_
  rintro _ _ ⟨rfl, rfl⟩ _
  conv => whnf
  refine ⟨rfl, ?_⟩
  conv => whnf
  exact ⟨rfl, rfl, rfl⟩
end Go.Tr
/- App, Lam, Under, Same, gives. -/
namespace Go.Tr
open Go.Proofs
theorem c46 (a b : Int) (ts : List Term) : CallSt Try.prog 46 [.c (.int .i64 a), .c (.int .i64 b), .c (.sl 4 48 (tcs ts))] [] (fun r H' => r = tv (.mk 4 a b ts) ∧ H' = []) := by
  refine call_pure (E := env 0) (fn := Try.f46) (c := bodyOf Try.f46) (env_ok 0) mixed (by kernel_rfl) (by kernel_rfl) (by kernel_rfl) (by kernel_rfl) (by kernel_rfl) (by kernel_rfl) rfl ?_
  conv => whnf
  refine ⟨rfl, ?_⟩
  conv => whnf
  exact ⟨rfl, rfl, rfl⟩
theorem c52 (t : Term) : CallSt Try.prog 52 [tv t] [] (fun r H' => r = tv (.mk 3 0 0 [t]) ∧ H' = []) := by
  obtain ⟨k, l, n, ts⟩ := t
  refine call_pure (E := env 0) (fn := Try.f52) (c := bodyOf Try.f52) (env_ok 0) mixed (by kernel_rfl) (by kernel_rfl) (by kernel_rfl) (by kernel_rfl) (by kernel_rfl) (by kernel_rfl) rfl ?_
  conv => whnf
  refine ⟨by decide, ?_⟩
  conv => whnf
  refine ⟨by decide, ?_⟩
  conv => whnf
  refine ⟨rfl, ?_⟩
  conv => whnf
  exact ⟨rfl, rfl, rfl⟩
theorem c51 (n : Int) : CallSt Try.prog 51 [.c (.int .i64 n)] [] (fun r H' => r = tv (.mk 4 1 n []) ∧ H' = []) := by
  refine call_pure (E := env 0) (fn := Try.f51) (c := bodyOf Try.f51) (env_ok 0) mixed (by kernel_rfl) (by kernel_rfl) (by kernel_rfl) (by kernel_rfl) (by kernel_rfl) (by kernel_rfl) rfl ?_
  conv => whnf
  refine CallSt.use (c46 1 n []) [] trivial (by decide) rfl ?_
  rintro _ _ ⟨rfl, rfl⟩ _
  conv => whnf
  refine ⟨rfl, ?_⟩
  conv => whnf
  exact ⟨rfl, rfl, rfl⟩
theorem tv_mk (k l n : Int) (ts : List Term) : tv (.mk k l n ts) = .agg [.c (.int .i64 k), .c (.int .i64 l), .c (.int .i64 n), .c (.sl 4 48 (tcs ts))] := rfl
def unT (k i : Int) : Int := if k = 3 ∨ (k = 2 ∧ i = 1) then 1 else 0
theorem unT_bd (k i : Int) : 0 ≤ unT k i ∧ unT k i ≤ 1 := by unfold unT; split <;> omega
theorem c77 (t : Term) (i : Int) : CallSt Try.prog 77 [tv t, .c (.int .i64 i)] [] (fun r H' => r = .c (.int .i64 (unT t.k i)) ∧ H' = []) := by
  obtain ⟨k, l, n, ts⟩ := t
  rw [tv_mk]
  refine call_pure (E := env 0) (fn := Try.f77) (c := bodyOf Try.f77) (env_ok 0) mixed (by kernel_rfl) (by kernel_rfl) (by kernel_rfl) (by kernel_rfl) (by kernel_rfl) (by kernel_rfl) rfl ?_
  have key : (decide (k = 3) || (decide (k = 2) && decide (i = 1))) = decide (unT k i = 1) := by
    unfold unT
    by_cases h1 : k = 3 <;> by_cases h2 : k = 2 <;> by_cases h3 : i = 1 <;> simp [h1, h2, h3]
  conv => whnf
  refine ⟨fun h => ?_, fun h => ?_⟩
  · conv => whnf
    refine ⟨rfl, ?_⟩
    conv => whnf
    refine ⟨rfl, ?_⟩
    have h2 := of_decide_eq_true (key.symm.trans h)
    simp only [Term.k]
    rw [h2]
    exact ⟨rfl, rfl⟩
  · conv => whnf
    refine ⟨rfl, ?_⟩
    conv => whnf
    refine ⟨rfl, ?_⟩
    have h2 := of_decide_eq_false (key.symm.trans h)
    simp only [Term.k]
    rw [show unT k i = 0 by have := unT_bd k i; omega]
    exact ⟨rfl, rfl⟩
mutual
def sameT : Term → Term → Bool
  | .mk k l n ts, .mk k' l' n' us => decide (k = k') && decide (l = l') && decide (n = n') && decide (ts.length = us.length) && sameL ts us
def sameL : List Term → List Term → Bool
  | t :: r, u :: s => sameT t u && sameL r s
  | _, _ => true
end
mutual
theorem sameT_iff : ∀ (t u : Term), sameT t u = true ↔ t = u
  | .mk k l n ts, .mk k' l' n' us => by
    unfold sameT
    simp only [Bool.and_eq_true, decide_eq_true_eq, Term.mk.injEq]
    constructor
    · rintro ⟨⟨⟨⟨h1, h2⟩, h3⟩, h4⟩, h5⟩
      exact ⟨h1, h2, h3, (sameL_iff ts us h4).1 h5⟩
    · rintro ⟨h1, h2, h3, h4⟩
      exact ⟨⟨⟨⟨h1, h2⟩, h3⟩, by rw [h4]⟩, (sameL_iff ts us (by rw [h4])).2 h4⟩
theorem sameL_iff : ∀ (ts us : List Term), ts.length = us.length → (sameL ts us = true ↔ ts = us)
  | [], [], _ => by simp [sameL]
  | t :: r, u :: s, h => by
    unfold sameL
    simp only [Bool.and_eq_true, List.cons.injEq]
    rw [sameT_iff t u, sameL_iff r s (by simpa using h)]
  | [], _ :: _, h => by simp at h
  | _ :: _, [], h => by simp at h
end
theorem c23 (t : Term) : ∀ u : Term, CallSt Try.prog 23 [tv t, tv u] [] (fun r H' => r = .c (.bool (sameT t u)) ∧ H' = []) := by
  induction t using Term.ind with
  | _ t ih =>
  intro u
  obtain ⟨k, l, n, ts⟩ := t
  obtain ⟨k2, l2, n2, us⟩ := u
  replace ih : ∀ u, u ∈ ts → _ := ih
  rw [tv_mk, tv_mk]
  refine call_pure (E := env 0) (fn := Try.f23) (c := bodyOf Try.f23) (env_ok 0) mixed (by kernel_rfl) (by kernel_rfl) (by kernel_rfl) (by kernel_rfl) (by kernel_rfl) (by kernel_rfl) rfl ?_
  conv => whnf
  intro hl1
  conv => whnf
  intro hl2
  clear hl1 hl2
  conv => whnf
  have key : (!decide (k = k2) || !decide (l = l2) || !decide (n = n2) || !decide (((tcs ts).length : Int) = (tcs us).length)) = !(decide (k = k2) && decide (l = l2) && decide (n = n2) && decide (ts.length = us.length)) := by
    rw [len_tcs, len_tcs, show decide ((ts.length : Int) = us.length) = decide (ts.length = us.length) by simp only [Int.natCast_inj]]
    simp only [Bool.not_and]
  refine ⟨fun h => ?_, fun h => ?_⟩
  · conv => whnf
    refine ⟨rfl, ?_⟩
    conv => whnf
    refine ⟨rfl, ?_⟩
    have h2 := key.symm.trans h
    rw [Bool.not_eq_true'] at h2
    unfold sameT
    rw [h2]
    exact ⟨rfl, rfl⟩
  · have h2 := key.symm.trans h
    rw [Bool.not_eq_false'] at h2
    have hle : ts.length = us.length := by
      simp only [Bool.and_eq_true, decide_eq_true_eq] at h2
      exact h2.2
    have hs : sameT (.mk k l n ts) (.mk k2 l2 n2 us) = sameL ts us := by rw [sameT, h2, Bool.true_and]
    conv => whnf
    refine loop_intro (fun m tm H => ∃ (i : Nat), ts.length = m + i ∧ sameL (ts.drop i) (us.drop i) = sameL ts us ∧
      tm = [(5, .c (.int .i64 i)), (2, .ptr 0 0), (3, .ptr 1 0), (4, .c (.bool false))] ∧ H = [.box [.c (.int .i64 k), .c (.int .i64 l), .c (.int .i64 n), .c (.sl 4 48 (tcs ts))], .box [.c (.int .i64 k2), .c (.int .i64 l2), .c (.int .i64 n2), .c (.sl 4 48 (tcs us))]])
      ts.length _ _ ⟨0, by omega, rfl, rfl, rfl⟩ (Wk.sel [0, 1] (by decide) (by decide) (by decide) ⟨rfl, rfl, trivial⟩ ⟨rfl, rfl, rfl, rfl, trivial⟩ rfl) ?_
    rintro m tm H ⟨i, hi, hR, rfl, rfl⟩
    conv => whnf
    intro hlen
    replace hlen : (tcs ts).length * 48 ≤ 140737488355328 := hlen
    rw [len_tcs] at hlen
    conv => whnf
    refine ⟨fun hc => ?_, fun hc => ?_⟩
    · replace hc : (i : Int) < (tcs ts).length := of_decide_eq_true hc
      rw [len_tcs] at hc
      have hlt : i < ts.length := by omega
      obtain ⟨u, hu⟩ : ∃ u, ts[i]? = some u := ⟨ts[i], List.getElem?_eq_getElem hlt⟩
      obtain ⟨v, hv⟩ : ∃ v, us[i]? = some v := ⟨us[i], List.getElem?_eq_getElem (by omega)⟩
      have hm := List.mem_of_getElem? hu
      have huc := tcs_at ts i u hu
      have hvc := tcs_at us i v hv
      rw [drop_at hu, drop_at hv, sameL] at hR
      have hcc := ih u hm v
      obtain ⟨k', l', n', us'⟩ := u
      obtain ⟨k3, l3, n3, us3⟩ := v
      conv => whnf
      refine draw_intro true (by kernel_rfl) ?_
      conv => whnf
      refine ⟨_, ⟨by omega, by simpa using huc⟩, ?_⟩
      conv => whnf
      refine ⟨Nat.le_refl 4, ?_⟩
      conv => whnf
      refine ⟨_, ⟨by omega, by simpa using hvc⟩, ?_⟩
      conv => whnf
      refine ⟨Nat.le_refl 4, ?_⟩
      conv => whnf
      refine CallSt.use hcc [] trivial (by decide) rfl ?_
      rintro _ _ ⟨rfl, rfl⟩ _
      conv => whnf
      refine ⟨fun hf => ?_, fun hf => ?_⟩
      · conv => whnf
        refine ⟨rfl, ?_⟩
        conv => whnf
        refine ⟨rfl, ?_⟩
        rw [hs, ← hR, show sameT (.mk k' l' n' us') (.mk k3 l3 n3 us3) = false by simpa using hf]
        exact ⟨rfl, rfl⟩
      · conv => whnf
        refine ⟨⟨by omega, by omega⟩, ?_⟩
        conv => whnf
        refine ⟨m - 1, _, _, by omega, ⟨i + 1, by omega, ?_, rfl, rfl⟩, Wk.sel [0, 1] (by decide) (by decide) (by decide) ⟨rfl, rfl, trivial⟩ ⟨rfl, rfl, rfl, rfl, trivial⟩ rfl⟩
        rw [← hR, show sameT (.mk k' l' n' us') (.mk k3 l3 n3 us3) = true by simpa using hf, Bool.true_and]
    · replace hc : ¬ (i : Int) < (tcs ts).length := of_decide_eq_false hc
      rw [len_tcs] at hc
      conv => whnf
      refine ⟨rfl, ?_⟩
      conv => whnf
      refine ⟨rfl, ?_⟩
      rw [hs, ← hR, List.drop_eq_nil_of_le (by omega), List.drop_eq_nil_of_le (by omega)]
      exact ⟨rfl, rfl⟩
theorem c21 (t u : Term) (e f : Int) : CallSt Try.prog 21 [tv t, .c (.int .i64 e), tv u, .c (.int .i64 f)] [] (fun r H' => r = .c (.bool (sameT t u && decide (e = f))) ∧ H' = []) := by
  have hc := c23 t u
  obtain ⟨k, l, n, ts⟩ := t
  obtain ⟨k2, l2, n2, us⟩ := u
  refine call_pure (E := env 0) (fn := Try.f21) (c := bodyOf Try.f21) (env_ok 0) mixed (by kernel_rfl) (by kernel_rfl) (by kernel_rfl) (by kernel_rfl) (by kernel_rfl) (by kernel_rfl) rfl ?_
  conv => whnf
  refine CallSt.use hc [] trivial (by decide) rfl ?_
  rintro _ _ ⟨rfl, rfl⟩ _
  conv => whnf
  refine ⟨rfl, ?_⟩
  conv => whnf
  exact ⟨rfl, rfl, rfl⟩
end Go.Tr
/- Each, Map. -/
namespace Go.Tr
open Go.Proofs
mutual
def eachT {σ : Type} (step : σ → Term → Int → σ) : Term → Int → σ → σ
  | .mk k l n ts, i, s => eachL step k i 0 ts (step s (.mk k l n ts) i)
def eachL {σ : Type} (step : σ → Term → Int → σ) (k i : Int) : Int → List Term → σ → σ
  | _, [], s => s
  | j, t :: r, s => eachL step k i (j + 1) r (eachT step t (i + unT k j) s)
end
theorem c54 {σ : Type} (f : FuncId) (x0 x1 x2 x3 : σ → CV) (step : σ → Term → Int → σ) (ok : Term → Int → Prop) (hok : ∀ t i, ok t i → (0 ≤ i ∧ i ≤ 1000000000) ∧ ∀ (j : Nat) u, t.ts[j]? = some u → ok u (i + unT t.k j))
    (hf : ∀ s t i, ok t i → CallSt Try.prog f [tv t, .c (.int .i64 i), .ptr 0 0, .ptr 1 0, .ptr 2 0, .ptr 3 0] [.box [.c (x0 s)], .box [.c (x1 s)], .box [.c (x2 s)], .box [.c (x3 s)]]
      (fun r H' => r = .tup [] ∧ H' = [.box [.c (x0 (step s t i))], .box [.c (x1 (step s t i))], .box [.c (x2 (step s t i))], .box [.c (x3 (step s t i))]])) (t : Term) :
    ∀ (i : Int) (s : σ), ok t i → CallSt Try.prog 54 [tv t, .c (.int .i64 i), .fn f [.ptr 0 0, .ptr 1 0, .ptr 2 0, .ptr 3 0]] [.box [.c (x0 s)], .box [.c (x1 s)], .box [.c (x2 s)], .box [.c (x3 s)]]
      (fun r H' => r = .tup [] ∧ H' = [.box [.c (x0 (eachT step t i s))], .box [.c (x1 (eachT step t i s))], .box [.c (x2 (eachT step t i s))], .box [.c (x3 (eachT step t i s))]]) := by
  induction t using Term.ind with
  | _ t ih =>
  intro i s hti
  have hff := hf s t i hti
  obtain ⟨hib, hch⟩ := hok t i hti
  obtain ⟨k, l, n, ts⟩ := t
  replace ih : ∀ u, u ∈ ts → _ := ih
  rw [tv_mk]
  refine call_pure (E := env 4) (fn := Try.f54) (c := bodyOf Try.f54) (env_ok 4) mixed (by kernel_rfl) (by kernel_rfl) (by kernel_rfl) (by kernel_rfl) (by kernel_rfl) (by kernel_rfl) rfl ?_
  conv => whnf
  refine CallSt.use hff [0, 1, 2, 3] ⟨rfl, rfl, rfl, rfl, trivial⟩ (by decide) rfl ?_
  rintro _ _ ⟨rfl, rfl⟩ _
  conv => whnf
  intro hlen
  replace hlen : (tcs ts).length * 48 ≤ 140737488355328 := hlen
  rw [len_tcs] at hlen
  conv => whnf
  refine loop_intro (fun m tm H => ∃ (j : Nat) (s' : σ), ts.length = m + j ∧ eachL step k i j (ts.drop j) s' = eachT step (.mk k l n ts) i s ∧
      tm = [(15, .c (.int .i64 j)), (13, .c (.sl 4 48 (tcs ts))), (14, .c (.int .i64 (tcs ts).length)), (1, .c (.int .i64 i)), (2, .fn f [.ptr 0 0, .ptr 1 0, .ptr 2 0, .ptr 3 0]), (3, .ptr 4 0)] ∧
      H = [.box [.c (x0 s')], .box [.c (x1 s')], .box [.c (x2 s')], .box [.c (x3 s')], .box [.c (.int .i64 k), .c (.int .i64 l), .c (.int .i64 n), .c (.sl 4 48 (tcs ts))]])
      ts.length _ _ ⟨0, _, by omega, rfl, rfl, rfl⟩ (Wk.sel [0, 1, 2, 3, 4] (by decide) (by decide) (by decide) ⟨rfl, rfl, rfl, rfl, rfl, trivial⟩ ⟨rfl, rfl, rfl, rfl, rfl, rfl, trivial⟩ rfl) ?_
  rintro m tm H ⟨j, s', hj, hR, rfl, rfl⟩
  conv => whnf
  refine ⟨fun hc => ?_, fun hc => ?_⟩
  · replace hc : (j : Int) < (tcs ts).length := of_decide_eq_true hc
    rw [len_tcs] at hc
    have hlt : j < ts.length := by omega
    obtain ⟨u, hu⟩ : ∃ u, ts[j]? = some u := ⟨ts[j], List.getElem?_eq_getElem hlt⟩
    have hm := List.mem_of_getElem? hu
    have huc := tcs_at ts j u hu
    have hcc := ih u hm (i + unT k j) s' (hch j u hu)
    have hun := c77 (.mk k l n ts) j
    have hub := unT_bd k j
    rw [drop_at hu, eachL] at hR
    obtain ⟨k', l', n', us⟩ := u
    conv => whnf
    refine ⟨_, ⟨by omega, by simpa using huc⟩, ?_⟩
    conv => whnf
    refine ⟨Nat.le_refl 4, ?_⟩
    conv => whnf
    refine draw_intro true (by kernel_rfl) ?_
    conv => whnf
    refine CallSt.use hun [] trivial (by decide) rfl ?_
    rintro _ _ ⟨rfl, rfl⟩ _
    conv => whnf
    refine ⟨⟨by simp only [Term.k]; omega, by simp only [Term.k]; omega⟩, ?_⟩
    conv => whnf
    refine CallSt.use hcc [0, 1, 2, 3] ⟨rfl, rfl, rfl, rfl, trivial⟩ (by decide) rfl ?_
    rintro _ _ ⟨rfl, rfl⟩ _
    conv => whnf
    refine ⟨⟨by omega, by omega⟩, ?_⟩
    conv => whnf
    refine ⟨m - 1, _, _, by omega, ⟨j + 1, _, by omega, hR, rfl, rfl⟩, Wk.sel [0, 1, 2, 3, 4] (by decide) (by decide) (by decide) ⟨rfl, rfl, rfl, rfl, rfl, trivial⟩ ⟨rfl, rfl, rfl, rfl, rfl, rfl, trivial⟩ rfl⟩
  · replace hc : ¬ (j : Int) < (tcs ts).length := of_decide_eq_false hc
    rw [len_tcs] at hc
    conv => whnf
    refine ⟨rfl, ?_⟩
    conv => whnf
    refine ⟨rfl, ?_⟩
    rw [List.drop_eq_nil_of_le (by omega), eachL] at hR
    rw [← hR]
    exact ⟨rfl, rfl⟩
mutual
def mapT (g : Int → Int → Int → Int → Int × Int × Int) : Term → Int → Term
  | .mk k l n ts, i => .mk (g k l n i).1 (g k l n i).2.1 (g k l n i).2.2 (mapL g k i 0 ts)
def mapL (g : Int → Int → Int → Int → Int × Int × Int) (k i : Int) : Int → List Term → List Term
  | _, [] => []
  | j, t :: r => mapT g t (i + unT k j) :: mapL g k i (j + 1) r
end
theorem tcs_snoc (ts : List Term) (u : Term) : tcs ts ++ [tc u] = tcs (ts ++ [u]) := by
  induction ts with
  | nil => simp [tcs]
  | cons t r ih => simp only [tcs, List.cons_append, ih]
theorem mapL_len (g : Int → Int → Int → Int → Int × Int × Int) (k i : Int) : ∀ (ts : List Term) (j : Int), (mapL g k i j ts).length = ts.length
  | [], j => by simp [mapL]
  | t :: r, j => by simp [mapL, mapL_len g k i r]
theorem c78 (f : FuncId) (x0 x1 : CV) (g : Int → Int → Int → Int → Int × Int × Int) (ok : Term → Int → Prop) (hok : ∀ t i, ok t i → (0 ≤ i ∧ i ≤ 1000000000) ∧ ∀ (j : Nat) u, t.ts[j]? = some u → ok u (i + unT t.k j))
    (hf : ∀ t i, ok t i → CallSt Try.prog f [.agg [.c (.int .i64 t.k), .c (.int .i64 t.l), .c (.int .i64 t.n), .nil], .c (.int .i64 i), .ptr 0 0, .ptr 1 0] [.box [.c x0], .box [.c x1]]
      (fun r H' => r = .agg [.c (.int .i64 (g t.k t.l t.n i).1), .c (.int .i64 (g t.k t.l t.n i).2.1), .c (.int .i64 (g t.k t.l t.n i).2.2), .nil] ∧ H' = [.box [.c x0], .box [.c x1]])) (t : Term) :
    ∀ (i : Int), ok t i → CallSt Try.prog 78 [tv t, .c (.int .i64 i), .fn f [.ptr 0 0, .ptr 1 0]] [.box [.c x0], .box [.c x1]]
      (fun r H' => r = tv (mapT g t i) ∧ H' = [.box [.c x0], .box [.c x1]]) := by
  induction t using Term.ind with
  | _ t ih =>
  intro i hti
  have hff := hf t i hti
  obtain ⟨hib, hch⟩ := hok t i hti
  obtain ⟨k, l, n, ts⟩ := t
  replace ih : ∀ u, u ∈ ts → _ := ih
  rw [tv_mk]
  refine call_pure (E := envK 2) (fn := Try.f78) (c := bodyOf Try.f78) (envK_ok 2) mixed (by kernel_rfl) (by kernel_rfl) (by kernel_rfl) (by kernel_rfl) (by kernel_rfl) (by kernel_rfl) rfl ?_
  conv => whnf
  refine CallSt.use hff [0, 1] ⟨rfl, rfl, trivial⟩ (by decide) rfl ?_
  rintro _ _ ⟨rfl, rfl⟩ _
  simp only [Term.k, Term.l, Term.n]
  generalize hg : g k l n i = y
  obtain ⟨y1, y2, y3⟩ := y
  conv => whnf
  intro hlen
  replace hlen : (tcs ts).length * 48 ≤ 140737488355328 := hlen
  rw [len_tcs] at hlen
  conv => whnf
  refine loop_intro (fun m tm H => ∃ (j : Nat) (us : List Term), ts.length = m + j ∧ us.length = j ∧ us ++ mapL g k i j (ts.drop j) = mapL g k i 0 ts ∧
      tm = [(23, .c (.int .i64 j)), (21, .c (.sl 4 48 (tcs ts))), (22, .c (.int .i64 (tcs ts).length)), (1, .c (.int .i64 i)), (2, .fn f [.ptr 0 0, .ptr 1 0]), (3, .ptr 2 0), (6, .ptr 3 0), (7, .ptr 4 0)] ∧
      H = [.box [.c x0], .box [.c x1], .box [.c (.int .i64 k), .c (.int .i64 l), .c (.int .i64 n), .c (.sl 4 48 (tcs ts))], .box [.c (.int .i64 0), .c (.int .i64 0), .c (.int .i64 0), .nil],
        .box [.c (.int .i64 y1), .c (.int .i64 y2), .c (.int .i64 y3), .own 5], .row 24 4 48 (tcs us)])
      ts.length _ _ ⟨0, [], by omega, rfl, rfl, rfl, rfl⟩ ?_ ?_
  · refine Wk.trans (H1 := [.box [.c x0], .box [.c x1], .box [.c (.int .i64 k), .c (.int .i64 l), .c (.int .i64 n), .c (.sl 4 48 (tcs ts))], .box [.c (.int .i64 0), .c (.int .i64 0), .c (.int .i64 0), .nil],
        .box [.c (.int .i64 y1), .c (.int .i64 y2), .c (.int .i64 y3), .nil]]) ?_ (Wk.nilrow' 4 3 24 4 48 rfl rfl rfl rfl)
    exact Wk.sel [0, 1, 2, 3, 4] (by decide) (by decide) (by decide) ⟨rfl, rfl, rfl, rfl, rfl, trivial⟩ ⟨rfl, rfl, rfl, rfl, rfl, rfl, rfl, rfl, trivial⟩ rfl
  rintro m tm H ⟨j, us, hj, hus, hR, rfl, rfl⟩
  conv => whnf
  refine ⟨fun hc => ?_, fun hc => ?_⟩
  · replace hc : (j : Int) < (tcs ts).length := of_decide_eq_true hc
    rw [len_tcs] at hc
    have hlt : j < ts.length := by omega
    obtain ⟨u, hu⟩ : ∃ u, ts[j]? = some u := ⟨ts[j], List.getElem?_eq_getElem hlt⟩
    have hm := List.mem_of_getElem? hu
    have huc := tcs_at ts j u hu
    have hcc := ih u hm (i + unT k j) (hch j u hu)
    have hun := c77 (.mk k l n ts) j
    have hub := unT_bd k j
    rw [drop_at hu, mapL] at hR
    obtain ⟨k', l', n', us'⟩ := u
    conv => whnf
    refine ⟨_, ⟨by omega, by simpa using huc⟩, ?_⟩
    conv => whnf
    refine ⟨Nat.le_refl 4, ?_⟩
    conv => whnf
    refine draw_intro true (by kernel_rfl) ?_
    conv => whnf
    refine CallSt.use hun [] trivial (by decide) rfl ?_
    rintro _ _ ⟨rfl, rfl⟩ _
    conv => whnf
    refine ⟨⟨by simp only [Term.k]; omega, by simp only [Term.k]; omega⟩, ?_⟩
    conv => whnf
    refine CallSt.use hcc [0, 1] ⟨rfl, rfl, trivial⟩ (by decide) rfl ?_
    rintro _ _ ⟨rfl, rfl⟩ _
    generalize hv : mapT g (.mk k' l' n' us') (i + unT k j) = v at *
    obtain ⟨k3, l3, n3, us3⟩ := v
    conv => whnf
    refine ⟨by decide, ?_⟩
    conv => whnf
    refine ⟨by decide, ?_⟩
    conv => whnf
    have hl1 : (tcs us).length = j := by rw [len_tcs, hus]
    have hl2 : ((tcs us).length + 1) * 48 ≤ 140737488355328 := by omega
    have hl3 : (tcs us).length + 1 ≤ 9223372036854775807 := by omega
    refine ⟨hl2, hl3, ?_⟩
    conv => whnf
    refine ⟨⟨by omega, by omega⟩, ?_⟩
    conv => whnf
    refine ⟨m - 1, _, _, by omega, ⟨j + 1, us ++ [.mk k3 l3 n3 us3], by omega, by simp [hus], ?_, rfl, rfl⟩, Wk.sel [0, 1, 2, 3, 4, 8] (by decide) (by decide) (by decide) ⟨rfl, rfl, rfl, rfl, rfl, ?_, trivial⟩ ⟨rfl, rfl, rfl, rfl, rfl, rfl, rfl, rfl, trivial⟩ rfl⟩
    · rw [← hR, List.append_assoc]
      rfl
    · rw [← tcs_snoc]
      rfl
  · replace hc : ¬ (j : Int) < (tcs ts).length := of_decide_eq_false hc
    rw [len_tcs] at hc
    conv => whnf
    refine ⟨rfl, ?_⟩
    conv => whnf
    refine ⟨rfl, ?_⟩
    rw [List.drop_eq_nil_of_le (by omega), mapL, List.append_nil] at hR
    rw [mapT, hg, ← hR]
    exact ⟨rfl, rfl⟩
end Go.Tr
/- Shift. -/
namespace Go.Tr
open Go.Proofs
mutual
def bnT : Term → Prop
  | .mk _ _ n ts => (-1000000 ≤ n ∧ n ≤ 1000000) ∧ bnL ts
def bnL : List Term → Prop
  | [] => True
  | t :: r => bnT t ∧ bnL r
end
theorem bnL_mem : ∀ {ts : List Term}, bnL ts → ∀ u ∈ ts, bnT u
  | [], _, u, h => by cases h
  | t :: r, hb, u, h => by
    rw [bnL] at hb
    rcases List.mem_cons.1 h with rfl | h
    · exact hb.1
    · exact bnL_mem hb.2 u h
def okT (t : Term) (i : Int) : Prop := bnT t ∧ 0 ≤ i ∧ i + dpT t ≤ 1000000
theorem okT_step (t : Term) (i : Int) (h : okT t i) : (0 ≤ i ∧ i ≤ 1000000000) ∧ ∀ (j : Nat) u, t.ts[j]? = some u → okT u (i + unT t.k j) := by
  obtain ⟨h1, h2, h3⟩ := h
  have hp := dpT_pos t
  refine ⟨by omega, fun j u hu => ?_⟩
  obtain ⟨k, l, n, ts⟩ := t
  have hm := List.mem_of_getElem? hu
  simp only [Term.ts] at hm
  rw [bnT] at h1
  rw [dpT] at h3
  have hub := unT_bd k j
  have hd := dpL_mem ts u hm
  exact ⟨bnL_mem h1.2 u hm, by simp only [Term.k]; omega, by simp only [Term.k]; omega⟩
theorem bnT_n {t : Term} (h : bnT t) : -1000000 ≤ t.n ∧ t.n ≤ 1000000 := by
  obtain ⟨k, l, n, ts⟩ := t
  rw [bnT] at h
  exact h.1
def shB (fr : Int) (k l n i : Int) : Bool := decide (k = 4) && decide (l = 1) && decide (fr ≤ n - i)
def shStep (fr by_ : Int) (s : Bool × Bool) (t : Term) (i : Int) : Bool × Bool :=
  match shB fr t.k t.l t.n i with
  | true => (s.1 || (decide (by_ < 0) && decide (t.n - i < fr - by_)), s.2 || decide (9999 < t.n + by_))
  | false => s
theorem c55 (fr by_ : Int) (hfr : 0 ≤ fr ∧ fr ≤ 9999) (hby : -9999 ≤ by_ ∧ by_ ≤ 9999) (s : Bool × Bool) (t : Term) (i : Int) (h : okT t i) :
    CallSt Try.prog 55 [tv t, .c (.int .i64 i), .ptr 0 0, .ptr 1 0, .ptr 2 0, .ptr 3 0] [.box [.c (.int .i64 fr)], .box [.c (.bool s.1)], .box [.c (.int .i64 by_)], .box [.c (.bool s.2)]]
      (fun r H' => r = .tup [] ∧ H' = [.box [.c (.int .i64 fr)], .box [.c (.bool (shStep fr by_ s t i).1)], .box [.c (.int .i64 by_)], .box [.c (.bool (shStep fr by_ s t i).2)]]) := by
  have hn := bnT_n h.1
  have hi := (okT_step t i h).1
  obtain ⟨k, l, n, ts⟩ := t
  simp only [Term.n] at hn
  rw [tv_mk]
  obtain ⟨s1, s2⟩ := s
  refine call_pure (E := env 4) (fn := Try.f55) (c := bodyOf Try.f55) (env_ok 4) mixed (by kernel_rfl) (by kernel_rfl) (by kernel_rfl) (by kernel_rfl) (by kernel_rfl) (by kernel_rfl) rfl ?_
  conv => whnf
  refine ⟨⟨by omega, by omega⟩, ?_⟩
  conv => whnf
  refine ⟨fun hb => ?_, fun hb => ?_⟩
  · replace hb : shB fr k l n i = true := hb
    conv => whnf
    refine ⟨fun _ => ⟨by omega, by omega⟩, ?_⟩
    conv => whnf
    refine ⟨fun _ => ⟨by omega, by omega⟩, ?_⟩
    conv => whnf
    refine ⟨rfl, ?_⟩
    conv => whnf
    refine ⟨rfl, ?_⟩
    simp only [shStep, Term.k, Term.l, Term.n, hb]
    exact ⟨trivial, rfl⟩
  · replace hb : shB fr k l n i = false := hb
    conv => whnf
    refine ⟨rfl, ?_⟩
    conv => whnf
    refine ⟨rfl, ?_⟩
    simp only [shStep, Term.k, Term.l, Term.n, hb]
    exact ⟨trivial, rfl⟩
def mvG (fr by_ : Int) (k l n i : Int) : Int × Int × Int := (k, l, match shB fr k l n i with | true => n + by_ | false => n)
theorem c79 (fr by_ : Int) (hfr : 0 ≤ fr ∧ fr ≤ 9999) (hby : -9999 ≤ by_ ∧ by_ ≤ 9999) (t : Term) (i : Int) (h : okT t i) :
    CallSt Try.prog 79 [.agg [.c (.int .i64 t.k), .c (.int .i64 t.l), .c (.int .i64 t.n), .nil], .c (.int .i64 i), .ptr 0 0, .ptr 1 0] [.box [.c (.int .i64 fr)], .box [.c (.int .i64 by_)]]
      (fun r H' => r = .agg [.c (.int .i64 (mvG fr by_ t.k t.l t.n i).1), .c (.int .i64 (mvG fr by_ t.k t.l t.n i).2.1), .c (.int .i64 (mvG fr by_ t.k t.l t.n i).2.2), .nil] ∧ H' = [.box [.c (.int .i64 fr)], .box [.c (.int .i64 by_)]]) := by
  have hn := bnT_n h.1
  have hi := (okT_step t i h).1
  obtain ⟨k, l, n, ts⟩ := t
  simp only [Term.n, Term.k, Term.l] at hn ⊢
  refine call_trim (E := env 2) (fn := Try.f79) (c := bodyOf Try.f79) (env_ok 2) mixed (by kernel_rfl) (by kernel_rfl) (by kernel_rfl) (by kernel_rfl) (by kernel_rfl) (by kernel_rfl) rfl ?_
  conv => whnf
  refine ⟨fun _ => ⟨by omega, by omega⟩, ?_⟩
  conv => whnf
  refine ⟨fun hb => ?_, fun hb => ?_⟩
  · replace hb : shB fr k l n i = true := hb
    conv => whnf
    refine ⟨⟨by omega, by omega⟩, ?_⟩
    conv => whnf
    refine ⟨rfl, ?_⟩
    conv => whnf
    refine ⟨rfl, ?_⟩
    simp only [mvG, hb]
    exact ⟨rfl, rfl⟩
  · replace hb : shB fr k l n i = false := hb
    conv => whnf
    refine ⟨rfl, ?_⟩
    conv => whnf
    refine ⟨rfl, ?_⟩
    simp only [mvG, hb]
    exact ⟨rfl, rfl⟩
theorem c56 (fr by_ : Int) (hfr : 0 ≤ fr ∧ fr ≤ 9999) (hby : -9999 ≤ by_ ∧ by_ ≤ 9999) (t : Term) (h : okT t 0) :
    CallSt Try.prog 56 [tv t, .c (.int .i64 by_), .c (.int .i64 fr)] [] (fun r H' => r = tv (mapT (mvG fr by_) t 0) ∧ H' = []) := by
  have hc := c78 79 (.int .i64 fr) (.int .i64 by_) (mvG fr by_) okT okT_step (fun t i hti => c79 fr by_ hfr hby t i hti) t 0 h
  obtain ⟨k, l, n, ts⟩ := t
  refine call_pure (E := env 0) (fn := Try.f56) (c := bodyOf Try.f56) (env_ok 0) mixed (by kernel_rfl) (by kernel_rfl) (by kernel_rfl) (by kernel_rfl) (by kernel_rfl) (by kernel_rfl) rfl ?_
  conv => whnf
  refine CallSt.use hc [2, 1] ⟨rfl, rfl, trivial⟩ (by decide) rfl ?_
  rintro _ _ ⟨rfl, rfl⟩ _
  conv => whnf
  refine ⟨rfl, ?_⟩
  conv => whnf
  exact ⟨rfl, rfl, rfl⟩
end Go.Tr
/- Shift; awake. -/
namespace Go.Tr
open Go.Proofs
theorem headOk_n {k l n : Int} {m : Nat} (h : headOk k l n m = true) : 0 ≤ n ∧ n ≤ 9999 := by
  simp only [headOk, Bool.or_eq_true, Bool.and_eq_true, decide_eq_true_eq] at h
  omega
mutual
theorem propT_bn : ∀ (t : Term) (d c : Int), (propT t d c).1 = true → bnT t
  | .mk k l n ts, d, c, h => by
    unfold propT at h
    split at h
    · cases h
    · split at h
      · rename_i hh
        have := headOk_n hh
        rw [bnT]
        exact ⟨by omega, propL_bn ts d (c + 1) h⟩
      · cases h
theorem propL_bn : ∀ (ts : List Term) (d c : Int), (propL ts d c).1 = true → bnL ts
  | [], d, c, h => by rw [bnL]; trivial
  | t :: r, d, c, h => by
    have h1 := propT_bn t (d + 1) c
    unfold propL at h
    generalize propT t (d + 1) c = x at *
    obtain ⟨b, c'⟩ := x
    cases b
    · cases h
    · rw [bnL]
      exact ⟨h1 rfl, propL_bn r d c' h⟩
end
theorem prop_ok {t : Term} (h : prop t = true) : okT t 0 := by
  have h1 := propT_bn t 1 0 h
  have h2 := propT_dp t 1 0 h
  exact ⟨h1, by omega, by omega⟩
def zT : Term := .mk 0 0 0 []
def shBad (t : Term) (by_ fr : Int) : Bool := !prop t || decide (by_ < -9999) || decide (9999 < by_) || decide (fr < 0) || decide (9999 < fr)
def shEach (t : Term) (by_ fr : Int) : Bool × Bool := eachT (shStep fr by_) t 0 (false, false)
def shiftF (t : Term) (by_ fr : Int) : Term × Int :=
  match shBad t by_ fr with
  | true => (zT, 2)
  | false => match (shEach t by_ fr).1 with
    | true => (zT, 27)
    | false => match (shEach t by_ fr).2 with
      | true => (zT, 5)
      | false => (mapT (mvG fr by_) t 0, 0)
theorem c19 (t : Term) (by_ fr : Int) : CallSt Try.prog 19 [tv t, .c (.int .i64 by_), .c (.int .i64 fr)] [] (fun r H' => r = .tup [tv (shiftF t by_ fr).1, .c (.int .i64 (shiftF t by_ fr).2)] ∧ H' = []) := by
  have h14 := c14 t
  have hmv : ∀ (_ : prop t = true) (_ : 0 ≤ fr ∧ fr ≤ 9999) (_ : -9999 ≤ by_ ∧ by_ ≤ 9999), _ := fun h1 h2 h3 => c56 fr by_ h2 h3 t (prop_ok h1)
  have hea : ∀ (_ : prop t = true) (_ : 0 ≤ fr ∧ fr ≤ 9999) (_ : -9999 ≤ by_ ∧ by_ ≤ 9999), _ := fun h1 h2 h3 =>
    c54 55 (fun _ => .int .i64 fr) (fun s => .bool s.1) (fun _ => .int .i64 by_) (fun s => .bool s.2) (shStep fr by_) okT okT_step (fun s t i hti => c55 fr by_ h2 h3 s t i hti) t 0 (false, false) (prop_ok h1)
  have hbd : (decide (¬ (if prop t then (0 : Int) else 2) = 0) || decide (by_ < -9999) || decide (9999 < by_) || decide (fr < 0) || decide (9999 < fr)) = shBad t by_ fr := by
    unfold shBad
    cases prop t <;> rfl
  have hsh : ∀ b, shBad t by_ fr = b → shiftF t by_ fr = match b with
    | true => (zT, 2)
    | false => match (shEach t by_ fr).1 with
      | true => (zT, 27)
      | false => match (shEach t by_ fr).2 with
        | true => (zT, 5)
        | false => (mapT (mvG fr by_) t 0, 0) := fun b hb => by unfold shiftF; rw [hb]
  have hok : shBad t by_ fr = false → prop t = true ∧ (0 ≤ fr ∧ fr ≤ 9999) ∧ (-9999 ≤ by_ ∧ by_ ≤ 9999) := fun h => by
    unfold shBad at h
    simp only [Bool.or_eq_false_iff, decide_eq_false_iff_not, Bool.not_eq_false'] at h
    exact ⟨h.1.1.1.1, by omega, by omega⟩
  generalize shBad t by_ fr = bad at *
  unfold shEach at hsh
  generalize eachT (shStep fr by_) t 0 (false, false) = es at *
  generalize mapT (mvG fr by_) t 0 = v at *
  generalize shiftF t by_ fr = res at *
  generalize hq : (if prop t then (0 : Int) else 2) = q at *
  obtain ⟨k, l, n, ts⟩ := t
  rw [tv_mk] at *
  refine call_pure (E := env 0) (fn := Try.f19) (c := bodyOf Try.f19) (env_ok 0) mixed (by kernel_rfl) (by kernel_rfl) (by kernel_rfl) (by kernel_rfl) (by kernel_rfl) (by kernel_rfl) rfl ?_
  conv => whnf
  refine CallSt.use h14 [] trivial (by decide) rfl ?_
  rintro _ _ ⟨rfl, rfl⟩ _
  conv => whnf
  refine ⟨fun hb => ?_, fun hb => ?_⟩
  · conv => whnf
    refine ⟨rfl, ?_⟩
    conv => whnf
    refine ⟨rfl, ?_⟩
    have h1 : bad = true := by
      rw [← hbd, ← hb]
      simp only [decide_not]
    rw [hsh true h1]
    exact ⟨rfl, rfl⟩
  have h1 : bad = false := by
    rw [← hbd, ← hb]
    simp only [decide_not]
  obtain ⟨g1, g2, g3⟩ := hok h1
  have hsh := hsh false h1
  conv => whnf
  refine CallSt.use (hea g1 g2 g3) [2, 4, 1, 5] ⟨rfl, rfl, rfl, rfl, trivial⟩ (by decide) rfl ?_
  rintro _ _ ⟨rfl, rfl⟩ _
  obtain ⟨e1, e2⟩ := es
  conv => whnf
  refine ⟨fun hb1 => ?_, fun hb1 => ?_⟩
  · conv => whnf
    refine ⟨rfl, ?_⟩
    conv => whnf
    refine ⟨rfl, ?_⟩
    replace hb1 : e1 = true := hb1
    subst hb1
    rw [hsh]
    exact ⟨rfl, rfl⟩
  replace hb1 : e1 = false := hb1
  subst hb1
  conv => whnf
  refine ⟨fun hb2 => ?_, fun hb2 => ?_⟩
  · conv => whnf
    refine ⟨rfl, ?_⟩
    conv => whnf
    refine ⟨rfl, ?_⟩
    replace hb2 : e2 = true := hb2
    subst hb2
    rw [hsh]
    exact ⟨rfl, rfl⟩
  replace hb2 : e2 = false := hb2
  subst hb2
  conv => whnf
  refine CallSt.use (hmv g1 g2 g3) [] trivial (by decide) rfl ?_
  rintro _ _ ⟨rfl, rfl⟩ _
  obtain ⟨k2, l2, n2, ts2⟩ := v
  conv => whnf
  refine ⟨rfl, ?_⟩
  conv => whnf
  refine ⟨rfl, ?_⟩
  rw [hsh]
  exact ⟨rfl, rfl⟩

theorem c17 : CallSt Try.prog 17 [] [] (fun r H' => r = .c (.bool true) ∧ H' = []) := by
  have a1 := c51 0
  have a2 := c46 2 2 [.mk 4 1 0 []]
  have a3 := c46 2 2 [.mk 4 2 2 [.mk 4 1 0 []]]
  have a4 := c15 (.mk 4 2 2 [.mk 4 2 2 [.mk 4 1 0 []]])
  rw [show prop (.mk 4 2 2 [.mk 4 2 2 [.mk 4 1 0 []]]) = true by decide, show (propT (.mk 4 2 2 [.mk 4 2 2 [.mk 4 1 0 []]]) 1 0).2 = 3 by decide, show dpT (.mk 4 2 2 [.mk 4 2 2 [.mk 4 1 0 []]]) = 3 by decide] at a4
  have b1 := c51 1
  have b2 := c46 1 0 [.mk 4 1 1 []]
  have b3 := c52 (.mk 4 1 0 [.mk 4 1 1 []])
  have b4 := c19 (.mk 3 0 0 [.mk 4 1 0 [.mk 4 1 1 []]]) 2 0
  rw [show shiftF (.mk 3 0 0 [.mk 4 1 0 [.mk 4 1 1 []]]) 2 0 = (.mk 3 0 0 [.mk 4 1 0 [.mk 4 1 3 []]], 0) by rfl] at b4
  have d1 := c51 3
  have d2 := c46 1 0 [.mk 4 1 3 []]
  have d3 := c52 (.mk 4 1 0 [.mk 4 1 3 []])
  have d4 := c21 (.mk 3 0 0 [.mk 4 1 0 [.mk 4 1 3 []]]) (.mk 3 0 0 [.mk 4 1 0 [.mk 4 1 3 []]]) 0 0
  rw [show (sameT (.mk 3 0 0 [.mk 4 1 0 [.mk 4 1 3 []]]) (.mk 3 0 0 [.mk 4 1 0 [.mk 4 1 3 []]]) && decide ((0 : Int) = 0)) = true by decide] at d4
  refine call_pure (E := env 0) (fn := Try.f17) (c := bodyOf Try.f17) (env_ok 0) mixed (by kernel_rfl) (by kernel_rfl) (by kernel_rfl) (by kernel_rfl) (by kernel_rfl) (by kernel_rfl) rfl ?_
  conv => whnf
  refine CallSt.use a1 [] trivial (by decide) rfl ?_
  rintro _ _ ⟨rfl, rfl⟩ _
  conv => whnf
  refine ⟨by decide, ?_⟩
  conv => whnf
  refine ⟨by decide, ?_⟩
  conv => whnf
  refine CallSt.use a2 [] trivial (by decide) rfl ?_
  rintro _ _ ⟨rfl, rfl⟩ _
  conv => whnf
  refine ⟨by decide, ?_⟩
  conv => whnf
  refine ⟨by decide, ?_⟩
  conv => whnf
  refine CallSt.use a3 [] trivial (by decide) rfl ?_
  rintro _ _ ⟨rfl, rfl⟩ _
  conv => whnf
  refine CallSt.use a4 [] trivial (by decide) rfl ?_
  rintro _ _ ⟨rfl, rfl⟩ _
  conv => whnf
  refine CallSt.use b1 [] trivial (by decide) rfl ?_
  rintro _ _ ⟨rfl, rfl⟩ _
  conv => whnf
  refine ⟨by decide, ?_⟩
  conv => whnf
  refine ⟨by decide, ?_⟩
  conv => whnf
  refine CallSt.use b2 [] trivial (by decide) rfl ?_
  rintro _ _ ⟨rfl, rfl⟩ _
  conv => whnf
  refine CallSt.use b3 [] trivial (by decide) rfl ?_
  rintro _ _ ⟨rfl, rfl⟩ _
  conv => whnf
  refine CallSt.use b4 [] trivial (by decide) rfl ?_
  rintro _ _ ⟨rfl, rfl⟩ _
  conv => whnf
  refine draw_intro true (by kernel_rfl) ?_
  conv => whnf
  refine ⟨fun _ => ?_, fun h => absurd h (by decide)⟩
  conv => whnf
  refine CallSt.use d1 [] trivial (by decide) rfl ?_
  rintro _ _ ⟨rfl, rfl⟩ _
  conv => whnf
  refine ⟨by decide, ?_⟩
  conv => whnf
  refine ⟨by decide, ?_⟩
  conv => whnf
  refine CallSt.use d2 [] trivial (by decide) rfl ?_
  rintro _ _ ⟨rfl, rfl⟩ _
  conv => whnf
  refine CallSt.use d3 [] trivial (by decide) rfl ?_
  rintro _ _ ⟨rfl, rfl⟩ _
  conv => whnf
  refine CallSt.use d4 [] trivial (by decide) rfl ?_
  rintro _ _ ⟨rfl, rfl⟩ _
  conv => whnf
  refine ⟨rfl, ?_⟩
  conv => whnf
  exact ⟨rfl, rfl, rfl⟩
end Go.Tr
/- The law TermChecks. -/
namespace Go.Tr
open Go.Proofs
mutual
def szT : Term → Int
  | .mk _ _ _ ts => 1 + szL ts
def szL : List Term → Int
  | [] => 0
  | t :: r => szT t + szL r
end
mutual
theorem szT_pos : ∀ t : Term, 1 ≤ szT t
  | .mk _ _ _ ts => by have := szL_pos ts; unfold szT; omega
theorem szL_pos : ∀ ts : List Term, 0 ≤ szL ts
  | [] => by simp [szL]
  | t :: r => by have h1 := szT_pos t; have h2 := szL_pos r; unfold szL; omega
end
mutual
theorem ndT_sz : ∀ (t : Term) (b : Int), 0 ≤ b → (szT t ≤ b → ndT t b = szT t) ∧ (b < szT t → ndT t b = b + 1)
  | .mk k l n ts, b, hb => by
    have h := ndL_sz ts b 1 (by omega)
    have h2 := ndL_bd ts b 1 (by omega)
    unfold ndT szT mn
    constructor
    · intro h3
      rw [h.1 (by omega), if_neg (by omega)]
    · intro h3
      have := h.2 (by omega)
      split <;> omega
theorem ndL_sz : ∀ (ts : List Term) (b n : Int), 1 ≤ n ∧ n ≤ b + 1 → (n + szL ts ≤ b → ndL ts b n = n + szL ts) ∧ (b < n + szL ts → b < ndL ts b n)
  | [], b, n, hn => by simp only [ndL, szL]; omega
  | t :: r, b, n, hn => by
    have hp := szT_pos t
    have hr := szL_pos r
    unfold ndL szL
    by_cases h : n ≤ b
    · rw [if_pos h]
      have h1 := ndT_sz t (b - n) (by omega)
      by_cases h2 : szT t ≤ b - n
      · rw [h1.1 h2]
        have h3 := ndL_sz r b (n + szT t) (by omega)
        constructor
        · intro h4; rw [h3.1 (by omega)]; omega
        · intro h4; exact h3.2 (by omega)
      · rw [h1.2 (by omega)]
        have h3 := ndL_sz r b (n + (b - n + 1)) (by omega)
        constructor
        · intro h4; omega
        · intro h4; exact h3.2 (by omega)
    · rw [if_neg h]
      omega
end
theorem headOk_fmB (k l n : Int) (m : Nat) : headOk k l n m = fmB k l n m := by
  rw [Bool.eq_iff_iff]
  unfold headOk fmB
  simp only [Bool.or_eq_true, Bool.and_eq_true, decide_eq_true_eq]
  by_cases h1 : k = 1
  · rw [if_pos h1]
    simp only [Bool.not_eq_true', Bool.or_eq_false_iff, Bool.not_eq_false', decide_eq_true_eq]
    omega
  · rw [if_neg h1]
    by_cases h2 : k = 2
    · rw [if_pos h2]
      simp only [Bool.not_eq_true', Bool.or_eq_false_iff, Bool.not_eq_false', decide_eq_true_eq]
      omega
    · rw [if_neg h2]
      by_cases h3 : k = 3
      · rw [if_pos h3]
        simp only [Bool.not_eq_true', Bool.or_eq_false_iff, Bool.not_eq_false', decide_eq_true_eq]
        omega
      · rw [if_neg h3]
        by_cases h4 : k = 4
        · rw [if_pos h4]
          simp only [Bool.not_eq_true', Bool.or_eq_false_iff, decide_eq_false_iff_not]
          omega
        · rw [if_neg h4]
          simp only [Bool.false_eq_true, iff_false]
          omega
mutual
theorem propT_yes : ∀ (t : Term) (d c : Int), fmT t d = true → c + szT t ≤ 600 → propT t d c = (true, c + szT t)
  | .mk k l n ts, d, c, hf, hs => by
    have hp := szL_pos ts
    rw [szT] at hs ⊢
    unfold fmT at hf
    simp only [Bool.and_eq_true, Bool.not_eq_true', decide_eq_false_iff_not] at hf
    unfold propT
    rw [if_neg (by omega), headOk_fmB, hf.1.2]
    simp only
    rw [propL_yes ts d (c + 1) hf.2 (by omega)]
    congr 1
    omega
theorem propL_yes : ∀ (ts : List Term) (d c : Int), fmL ts d = true → c + szL ts ≤ 600 → propL ts d c = (true, c + szL ts)
  | [], d, c, _, _ => by simp [propL, szL]
  | t :: r, d, c, hf, hs => by
    have hp := szL_pos r
    rw [szL] at hs ⊢
    unfold fmL at hf
    simp only [Bool.and_eq_true] at hf
    unfold propL
    rw [propT_yes t (d + 1) c hf.1 (by omega)]
    simp only
    rw [propL_yes r d _ hf.2 (by omega)]
    congr 1
    omega
end
mutual
theorem propT_no : ∀ (t : Term) (d c : Int), 0 ≤ c → c ≤ 600 → (propT t d c).1 = true → fmT t d = true ∧ c + szT t ≤ 600 ∧ (propT t d c).2 = c + szT t
  | .mk k l n ts, d, c, h0, hc, h => by
    unfold propT at h ⊢
    split at h
    · cases h
    · rename_i hn
      rw [if_neg hn]
      split at h
      · rename_i hh
        have := propL_no ts d (c + 1) (by omega) (by omega) h
        rw [szT, fmT, ← headOk_fmB, hh, this.1]
        refine ⟨by simp; omega, by omega, by omega⟩
      · cases h
theorem propL_no : ∀ (ts : List Term) (d c : Int), 0 ≤ c → c ≤ 600 → (propL ts d c).1 = true → fmL ts d = true ∧ c + szL ts ≤ 600 ∧ (propL ts d c).2 = c + szL ts
  | [], d, c, h0, hc, h => by simp only [fmL, szL, propL, true_and]; omega
  | t :: r, d, c, h0, hc, h => by
    have h1 := propT_no t (d + 1) c h0 hc
    have hb := propT_bd t (d + 1) c ⟨h0, hc⟩
    unfold propL at h ⊢
    generalize propT t (d + 1) c = x at *
    obtain ⟨b, c'⟩ := x
    cases b
    · cases h
    · simp only at h ⊢
      obtain ⟨a1, a2, a3⟩ := h1 rfl
      simp only at a3 hb
      have h2 := propL_no r d c' (by omega) (hb.2 trivial) h
      rw [fmL, szL, a1, h2.1]
      refine ⟨rfl, by omega, by omega⟩
end
theorem prop_rprop (t : Term) : prop t = rprop t := by
  rw [Bool.eq_iff_iff]
  unfold prop rprop
  simp only [Bool.and_eq_true, decide_eq_true_eq]
  have hs := ndT_sz t 600 (by omega)
  constructor
  · intro h
    obtain ⟨h1, h2, h3⟩ := propT_no t 1 0 (by omega) (by omega) h
    exact ⟨by rw [hs.1 (by omega)]; omega, h1⟩
  · rintro ⟨h1, h2⟩
    have : szT t ≤ 600 := by
      rcases Int.lt_or_le 600 (szT t) with h | h
      · have := hs.2 h; omega
      · exact h
    rw [propT_yes t 1 0 h2 (by omega)]
theorem prop_nd {t : Term} (h : prop t = true) : (propT t 1 0).2 = ndT t 600 := by
  obtain ⟨h1, h2, h3⟩ := propT_no t 1 0 (by omega) (by omega) h
  rw [h3, (ndT_sz t 600 (by omega)).1 (by omega)]
  omega
theorem c3 (t : Term) : CallSt Try.prog 3 [tv t] [] (fun r H' => r = .c (.bool true) ∧ H' = []) := by
  have a1 := c14 t
  have a2 := c15 t
  have a3 := c16 t
  rw [← prop_rprop] at a3
  have a4 : prop t = true → _ := fun h => c18 t (by have := propT_dp t 1 0 h; omega)
  have hnd := @prop_nd t
  generalize prop t = p at *
  generalize (propT t 1 0).2 = c at *
  generalize ndT t 600 = c2 at *
  generalize dpT t = d at *
  have a5 := c17
  obtain ⟨k, l, n, ts⟩ := t
  rw [tv_mk] at *
  refine call_pure (E := env 0) (fn := Try.f3) (c := bodyOf Try.f3) (env_ok 0) mixed (by kernel_rfl) (by kernel_rfl) (by kernel_rfl) (by kernel_rfl) (by kernel_rfl) (by kernel_rfl) rfl ?_
  cases p with
  | false =>
    conv => whnf
    refine CallSt.use a1 [] trivial (by decide) rfl ?_
    rintro _ _ ⟨rfl, rfl⟩ _
    conv => whnf
    refine CallSt.use a2 [] trivial (by decide) rfl ?_
    rintro _ _ ⟨rfl, rfl⟩ _
    conv => whnf
    refine CallSt.use a3 [] trivial (by decide) rfl ?_
    rintro _ _ ⟨rfl, rfl⟩ _
    conv => whnf
    refine ⟨fun _ => ?_, fun h => absurd h (by decide)⟩
    conv => whnf
    refine ⟨fun _ => ?_, fun h => absurd h (by decide)⟩
    conv => whnf
    refine CallSt.use a5 [] trivial (by decide) rfl ?_
    rintro _ _ ⟨rfl, rfl⟩ _
    conv => whnf
    refine ⟨rfl, ?_⟩
    conv => whnf
    exact ⟨rfl, rfl, rfl⟩
  | true =>
    obtain rfl := hnd rfl
    replace a4 := a4 rfl
    conv => whnf
    refine CallSt.use a1 [] trivial (by decide) rfl ?_
    rintro _ _ ⟨rfl, rfl⟩ _
    conv => whnf
    refine CallSt.use a2 [] trivial (by decide) rfl ?_
    rintro _ _ ⟨rfl, rfl⟩ _
    conv => whnf
    refine CallSt.use a3 [] trivial (by decide) rfl ?_
    rintro _ _ ⟨rfl, rfl⟩ _
    conv => whnf
    refine ⟨fun h => absurd h (by decide), fun _ => ?_⟩
    conv => whnf
    refine CallSt.use a4 [] trivial (by decide) rfl ?_
    rintro _ _ ⟨rfl, rfl⟩ _
    conv => whnf
    refine ⟨fun hq => ?_, fun h => absurd h (by simp)⟩
    conv => whnf
    refine CallSt.use a5 [] trivial (by decide) rfl ?_
    rintro _ _ ⟨rfl, rfl⟩ _
    conv => whnf
    refine ⟨rfl, ?_⟩
    conv => whnf
    refine ⟨rfl, ?_⟩
    exact ⟨rfl, rfl⟩
end Go.Tr
/- The reference's Shift. -/
namespace Go.Tr
open Go.Proofs
theorem c80 (t : Term) (i : Int) : CallSt Try.prog 80 [tv t, .c (.int .i64 i)] [] (fun r H' => r = .c (.int .i64 (unT t.k i)) ∧ H' = []) := by
  obtain ⟨k, l, n, ts⟩ := t
  rw [tv_mk]
  refine call_pure (E := env 0) (fn := Try.f80) (c := bodyOf Try.f80) (env_ok 0) mixed (by kernel_rfl) (by kernel_rfl) (by kernel_rfl) (by kernel_rfl) (by kernel_rfl) (by kernel_rfl) rfl ?_
  have key : (decide (k = 3) || (decide (k = 2) && decide (i = 1))) = decide (unT k i = 1) := by
    unfold unT
    by_cases h1 : k = 3 <;> by_cases h2 : k = 2 <;> by_cases h3 : i = 1 <;> simp [h1, h2, h3]
  conv => whnf
  refine ⟨fun h => ?_, fun h => ?_⟩
  · conv => whnf
    refine ⟨rfl, ?_⟩
    conv => whnf
    refine ⟨rfl, ?_⟩
    have h2 := of_decide_eq_true (key.symm.trans h)
    simp only [Term.k]
    rw [h2]
    exact ⟨rfl, rfl⟩
  · conv => whnf
    refine ⟨rfl, ?_⟩
    conv => whnf
    refine ⟨rfl, ?_⟩
    have h2 := of_decide_eq_false (key.symm.trans h)
    simp only [Term.k]
    rw [show unT k i = 0 by have := unT_bd k i; omega]
    exact ⟨rfl, rfl⟩
def lowB (k l n a b : Int) : Bool := decide (k = 4) && decide (l = 1) && decide (a ≤ n) && decide (n ≤ b)
mutual
def lowT : Term → Int → Int → Bool
  | .mk k l n ts, a, b => lowB k l n a b || lowL k 0 ts a b
def lowL (k : Int) : Int → List Term → Int → Int → Bool
  | _, [], _, _ => false
  | j, t :: r, a, b => lowT t (a + unT k j) (b + unT k j) || lowL k (j + 1) r a b
end
theorem c57 (t : Term) : ∀ (a b : Int), (-1000000 ≤ a ∧ a + dpT t ≤ 1000000) → (-1000000 ≤ b ∧ b + dpT t ≤ 1000000) → CallSt Try.prog 57 [tv t, .c (.int .i64 a), .c (.int .i64 b)] [] (fun r H' => r = .c (.bool (lowT t a b)) ∧ H' = []) := by
  induction t using Term.ind with
  | _ t ih =>
  intro a b ha hb
  obtain ⟨k, l, n, ts⟩ := t
  replace ih : ∀ u, u ∈ ts → _ := ih
  rw [dpT] at ha hb
  rw [tv_mk]
  refine call_pure (E := env 0) (fn := Try.f57) (c := bodyOf Try.f57) (env_ok 0) mixed (by kernel_rfl) (by kernel_rfl) (by kernel_rfl) (by kernel_rfl) (by kernel_rfl) (by kernel_rfl) rfl ?_
  conv => whnf
  refine ⟨fun h => ?_, fun h => ?_⟩
  · replace h : lowB k l n a b = true := h
    conv => whnf
    refine ⟨rfl, ?_⟩
    conv => whnf
    refine ⟨rfl, ?_⟩
    rw [lowT, h]
    exact ⟨rfl, rfl⟩
  replace h : lowB k l n a b = false := h
  have hlo : lowT (.mk k l n ts) a b = lowL k 0 ts a b := by rw [lowT, h, Bool.false_or]
  conv => whnf
  refine loop_intro (fun m tm H => ∃ (j : Nat), ts.length = m + j ∧ lowL k j (ts.drop j) a b = lowL k 0 ts a b ∧
      tm = [(7, .c (.int .i64 j)), (3, .ptr 0 0), (1, .c (.int .i64 a)), (2, .c (.int .i64 b)), (6, .c (.bool false))] ∧ H = [.box [.c (.int .i64 k), .c (.int .i64 l), .c (.int .i64 n), .c (.sl 4 48 (tcs ts))]])
      ts.length _ _ ⟨0, by omega, rfl, rfl, rfl⟩ (Wk.sel [0] (by decide) (by decide) (by decide) ⟨rfl, trivial⟩ ⟨rfl, rfl, rfl, rfl, rfl, trivial⟩ rfl) ?_
  rintro m tm H ⟨j, hj, hR, rfl, rfl⟩
  conv => whnf
  intro hlen
  replace hlen : (tcs ts).length * 48 ≤ 140737488355328 := hlen
  rw [len_tcs] at hlen
  conv => whnf
  refine ⟨fun hc => ?_, fun hc => ?_⟩
  · replace hc : (j : Int) < (tcs ts).length := of_decide_eq_true hc
    rw [len_tcs] at hc
    have hlt : j < ts.length := by omega
    obtain ⟨u, hu⟩ : ∃ u, ts[j]? = some u := ⟨ts[j], List.getElem?_eq_getElem hlt⟩
    have hm := List.mem_of_getElem? hu
    have huc := tcs_at ts j u hu
    have hub := unT_bd k j
    have hdp := dpL_mem ts u hm
    have hdq := dpT_pos u
    have hcc := ih u hm (a + unT k j) (b + unT k j) ⟨by omega, by omega⟩ ⟨by omega, by omega⟩
    have hun := c80 (.mk k l n ts) j
    rw [drop_at hu, lowL] at hR
    obtain ⟨k', l', n', us⟩ := u
    conv => whnf
    refine CallSt.use hun [] trivial (by decide) rfl ?_
    rintro _ _ ⟨rfl, rfl⟩ _
    conv => whnf
    refine ⟨_, ⟨by omega, by simpa using huc⟩, ?_⟩
    conv => whnf
    refine ⟨Nat.le_refl 4, ?_⟩
    conv => whnf
    refine ⟨⟨by simp only [Term.k]; omega, by simp only [Term.k]; omega⟩, ?_⟩
    conv => whnf
    refine ⟨⟨by simp only [Term.k]; omega, by simp only [Term.k]; omega⟩, ?_⟩
    conv => whnf
    refine CallSt.use hcc [] trivial (by decide) rfl ?_
    rintro _ _ ⟨rfl, rfl⟩ _
    conv => whnf
    refine ⟨fun hf => ?_, fun hf => ?_⟩
    · conv => whnf
      refine ⟨rfl, ?_⟩
      conv => whnf
      refine ⟨rfl, ?_⟩
      rw [hlo, ← hR, hf]
      exact ⟨rfl, rfl⟩
    · conv => whnf
      refine ⟨⟨by omega, by omega⟩, ?_⟩
      conv => whnf
      refine ⟨m - 1, _, _, by omega, ⟨j + 1, by omega, ?_, rfl, rfl⟩, Wk.sel [0] (by decide) (by decide) (by decide) ⟨rfl, trivial⟩ ⟨rfl, rfl, rfl, rfl, rfl, trivial⟩ rfl⟩
      rw [← hR, hf, Bool.false_or]
      rfl
  · replace hc : ¬ (j : Int) < (tcs ts).length := of_decide_eq_false hc
    rw [len_tcs] at hc
    conv => whnf
    refine ⟨rfl, ?_⟩
    conv => whnf
    refine ⟨rfl, ?_⟩
    rw [hlo, ← hR, List.drop_eq_nil_of_le (by omega), lowL]
    exact ⟨rfl, rfl⟩
end Go.Tr
/- The reference's moved. -/
namespace Go.Tr
open Go.Proofs
theorem shB_of (fr k l n i : Int) {b : Bool} (h : (decide (k = 4) && decide (l = 1) && decide (fr + i ≤ n)) = b) : shB fr k l n i = b := by
  rw [← h]
  unfold shB
  congr 1
  exact decide_eq_decide.2 ⟨fun h => by omega, fun h => by omega⟩
theorem c58 (fr by_ : Int) (hfr : 0 ≤ fr ∧ fr ≤ 9999) (hby : -9999 ≤ by_ ∧ by_ ≤ 9999) (t : Term) : ∀ (i : Int), okT t i →
    CallSt Try.prog 58 [tv t, .c (.int .i64 by_), .c (.int .i64 (fr + i))] [] (fun r H' => r = tv (mapT (mvG fr by_) t i) ∧ H' = []) := by
  induction t using Term.ind with
  | _ t ih =>
  intro i hti
  have hn := bnT_n hti.1
  obtain ⟨hib, hch⟩ := okT_step t i hti
  have hi2 := hti.2
  have hdp0 := dpT_pos t
  obtain ⟨k, l, n, ts⟩ := t
  replace ih : ∀ u, u ∈ ts → _ := ih
  simp only [Term.n] at hn
  rw [tv_mk]
  refine call_pure (E := env 0) (fn := Try.f58) (c := bodyOf Try.f58) (env_ok 0) mixed (by kernel_rfl) (by kernel_rfl) (by kernel_rfl) (by kernel_rfl) (by kernel_rfl) (by kernel_rfl) rfl ?_
  have hmap : ∀ b, shB fr k l n i = b → mapT (mvG fr by_) (.mk k l n ts) i = .mk k l (match b with | true => n + by_ | false => n) (mapL (mvG fr by_) k i 0 ts) := fun b hb => by
    rw [mapT]
    simp only [mvG, hb]
    all_goals (cases b <;> rfl)
  conv => whnf
  refine ⟨fun h => ?_, fun h => ?_⟩
  all_goals replace h := hmap _ (shB_of fr k l n i h)
  all_goals conv => whnf
  · refine ⟨⟨by omega, by omega⟩, ?_⟩
    conv => whnf
    generalize hnn : (n + by_ : Int) = y at *
    refine loop_intro (fun m tm H => ∃ (j : Nat) (us : List Term), ts.length = m + j ∧ us.length = j ∧ us ++ mapL (mvG fr by_) k i j (ts.drop j) = mapL (mvG fr by_) k i 0 ts ∧
        tm = [(8, .c (.int .i64 j)), (3, .ptr 0 0), (6, .ptr 1 0), (7, .ptr 2 0), (1, .c (.int .i64 by_)), (2, .c (.int .i64 (fr + i)))] ∧
        H = [.box [.c (.int .i64 k), .c (.int .i64 l), .c (.int .i64 n), .c (.sl 4 48 (tcs ts))], .box [.c (.int .i64 0), .c (.int .i64 0), .c (.int .i64 0), .nil],
          .box [.c (.int .i64 k), .c (.int .i64 l), .c (.int .i64 y), .own 3], .row 24 4 48 (tcs us)])
      ts.length _ _ ⟨0, [], by omega, rfl, rfl, rfl, rfl⟩ ?_ ?_
    · refine Wk.trans (H1 := [.box [.c (.int .i64 k), .c (.int .i64 l), .c (.int .i64 n), .c (.sl 4 48 (tcs ts))], .box [.c (.int .i64 0), .c (.int .i64 0), .c (.int .i64 0), .nil],
          .box [.c (.int .i64 k), .c (.int .i64 l), .c (.int .i64 y), .nil]]) ?_ (Wk.nilrow' 2 3 24 4 48 rfl rfl rfl rfl)
      exact Wk.sel [0, 1, 2] (by decide) (by decide) (by decide) ⟨rfl, rfl, by first | rfl | (rw [← hnn]; rfl), trivial⟩ ⟨rfl, rfl, rfl, rfl, rfl, rfl, trivial⟩ rfl
    rintro m tm H ⟨j, us, hj, hus, hR, rfl, rfl⟩
    conv => whnf
    intro hlen
    replace hlen : (tcs ts).length * 48 ≤ 140737488355328 := hlen
    rw [len_tcs] at hlen
    conv => whnf
    refine ⟨fun hc => ?_, fun hc => ?_⟩
    · replace hc : (j : Int) < (tcs ts).length := of_decide_eq_true hc
      rw [len_tcs] at hc
      have hlt : j < ts.length := by omega
      obtain ⟨u, hu⟩ : ∃ u, ts[j]? = some u := ⟨ts[j], List.getElem?_eq_getElem hlt⟩
      have hm := List.mem_of_getElem? hu
      have huc := tcs_at ts j u hu
      have hub := unT_bd k j
      have hcc := ih u hm (i + unT k j) (hch j u hu)
      rw [← Int.add_assoc] at hcc
      have hun := c80 (.mk k l n ts) j
      rw [drop_at hu, mapL] at hR
      obtain ⟨k', l', n', us'⟩ := u
      conv => whnf
      refine draw_intro true (by kernel_rfl) ?_
      conv => whnf
      refine ⟨_, ⟨by omega, by simpa using huc⟩, ?_⟩
      conv => whnf
      refine ⟨Nat.le_refl 4, ?_⟩
      conv => whnf
      refine CallSt.use hun [] trivial (by decide) rfl ?_
      rintro _ _ ⟨rfl, rfl⟩ _
      conv => whnf
      refine ⟨⟨by simp only [Term.k]; omega, by simp only [Term.k]; omega⟩, ?_⟩
      conv => whnf
      refine CallSt.use hcc [] trivial (by decide) rfl ?_
      rintro _ _ ⟨rfl, rfl⟩ _
      generalize hv : mapT (mvG fr by_) (.mk k' l' n' us') (i + unT k j) = v at *
      obtain ⟨k3, l3, n3, us3⟩ := v
      conv => whnf
      refine ⟨by decide, ?_⟩
      conv => whnf
      refine ⟨by decide, ?_⟩
      conv => whnf
      have hl1 : (tcs us).length = j := by rw [len_tcs, hus]
      have hl2 : ((tcs us).length + 1) * 48 ≤ 140737488355328 := by omega
      have hl3 : (tcs us).length + 1 ≤ 9223372036854775807 := by omega
      refine ⟨hl2, hl3, ?_⟩
      conv => whnf
      refine ⟨⟨by omega, by omega⟩, ?_⟩
      conv => whnf
      refine ⟨m - 1, _, _, by omega, ⟨j + 1, us ++ [.mk k3 l3 n3 us3], by omega, by simp [hus], ?_, rfl, rfl⟩, Wk.sel [0, 1, 2, 5] (by decide) (by decide) (by decide) ⟨rfl, rfl, rfl, ?_, trivial⟩ ⟨rfl, rfl, rfl, rfl, rfl, rfl, trivial⟩ rfl⟩
      · rw [← hR, List.append_assoc]
        rfl
      · rw [← tcs_snoc]
        rfl
    · replace hc : ¬ (j : Int) < (tcs ts).length := of_decide_eq_false hc
      rw [len_tcs] at hc
      conv => whnf
      refine ⟨rfl, ?_⟩
      conv => whnf
      refine ⟨rfl, ?_⟩
      rw [List.drop_eq_nil_of_le (by omega), mapL, List.append_nil] at hR
      rw [h, ← hR]
      exact ⟨rfl, rfl⟩
  ·
    refine loop_intro (fun m tm H => ∃ (j : Nat) (us : List Term), ts.length = m + j ∧ us.length = j ∧ us ++ mapL (mvG fr by_) k i j (ts.drop j) = mapL (mvG fr by_) k i 0 ts ∧
        tm = [(8, .c (.int .i64 j)), (3, .ptr 0 0), (6, .ptr 1 0), (7, .ptr 2 0), (1, .c (.int .i64 by_)), (2, .c (.int .i64 (fr + i)))] ∧
        H = [.box [.c (.int .i64 k), .c (.int .i64 l), .c (.int .i64 n), .c (.sl 4 48 (tcs ts))], .box [.c (.int .i64 0), .c (.int .i64 0), .c (.int .i64 0), .nil],
          .box [.c (.int .i64 k), .c (.int .i64 l), .c (.int .i64 n), .own 3], .row 24 4 48 (tcs us)])
      ts.length _ _ ⟨0, [], by omega, rfl, rfl, rfl, rfl⟩ ?_ ?_
    · refine Wk.trans (H1 := [.box [.c (.int .i64 k), .c (.int .i64 l), .c (.int .i64 n), .c (.sl 4 48 (tcs ts))], .box [.c (.int .i64 0), .c (.int .i64 0), .c (.int .i64 0), .nil],
          .box [.c (.int .i64 k), .c (.int .i64 l), .c (.int .i64 n), .nil]]) ?_ (Wk.nilrow' 2 3 24 4 48 rfl rfl rfl rfl)
      exact Wk.sel [0, 1, 2] (by decide) (by decide) (by decide) ⟨rfl, rfl, rfl, trivial⟩ ⟨rfl, rfl, rfl, rfl, rfl, rfl, trivial⟩ rfl
    rintro m tm H ⟨j, us, hj, hus, hR, rfl, rfl⟩
    conv => whnf
    intro hlen
    replace hlen : (tcs ts).length * 48 ≤ 140737488355328 := hlen
    rw [len_tcs] at hlen
    conv => whnf
    refine ⟨fun hc => ?_, fun hc => ?_⟩
    · replace hc : (j : Int) < (tcs ts).length := of_decide_eq_true hc
      rw [len_tcs] at hc
      have hlt : j < ts.length := by omega
      obtain ⟨u, hu⟩ : ∃ u, ts[j]? = some u := ⟨ts[j], List.getElem?_eq_getElem hlt⟩
      have hm := List.mem_of_getElem? hu
      have huc := tcs_at ts j u hu
      have hub := unT_bd k j
      have hcc := ih u hm (i + unT k j) (hch j u hu)
      rw [← Int.add_assoc] at hcc
      have hun := c80 (.mk k l n ts) j
      rw [drop_at hu, mapL] at hR
      obtain ⟨k', l', n', us'⟩ := u
      conv => whnf
      refine draw_intro true (by kernel_rfl) ?_
      conv => whnf
      refine ⟨_, ⟨by omega, by simpa using huc⟩, ?_⟩
      conv => whnf
      refine ⟨Nat.le_refl 4, ?_⟩
      conv => whnf
      refine CallSt.use hun [] trivial (by decide) rfl ?_
      rintro _ _ ⟨rfl, rfl⟩ _
      conv => whnf
      refine ⟨⟨by simp only [Term.k]; omega, by simp only [Term.k]; omega⟩, ?_⟩
      conv => whnf
      refine CallSt.use hcc [] trivial (by decide) rfl ?_
      rintro _ _ ⟨rfl, rfl⟩ _
      generalize hv : mapT (mvG fr by_) (.mk k' l' n' us') (i + unT k j) = v at *
      obtain ⟨k3, l3, n3, us3⟩ := v
      conv => whnf
      refine ⟨by decide, ?_⟩
      conv => whnf
      refine ⟨by decide, ?_⟩
      conv => whnf
      have hl1 : (tcs us).length = j := by rw [len_tcs, hus]
      have hl2 : ((tcs us).length + 1) * 48 ≤ 140737488355328 := by omega
      have hl3 : (tcs us).length + 1 ≤ 9223372036854775807 := by omega
      refine ⟨hl2, hl3, ?_⟩
      conv => whnf
      refine ⟨⟨by omega, by omega⟩, ?_⟩
      conv => whnf
      refine ⟨m - 1, _, _, by omega, ⟨j + 1, us ++ [.mk k3 l3 n3 us3], by omega, by simp [hus], ?_, rfl, rfl⟩, Wk.sel [0, 1, 2, 5] (by decide) (by decide) (by decide) ⟨rfl, rfl, rfl, ?_, trivial⟩ ⟨rfl, rfl, rfl, rfl, rfl, rfl, trivial⟩ rfl⟩
      · rw [← hR, List.append_assoc]
        rfl
      · rw [← tcs_snoc]
        rfl
    · replace hc : ¬ (j : Int) < (tcs ts).length := of_decide_eq_false hc
      rw [len_tcs] at hc
      conv => whnf
      refine ⟨rfl, ?_⟩
      conv => whnf
      refine ⟨rfl, ?_⟩
      rw [List.drop_eq_nil_of_le (by omega), mapL, List.append_nil] at hR
      rw [h, ← hR]
      exact ⟨rfl, rfl⟩
end Go.Tr
/- The reference's Shift; the law TermShifts, but for the plain law. -/
namespace Go.Tr
open Go.Proofs
def rBad (t : Term) (by_ fr : Int) : Bool := !rprop t || decide (by_ < -9999) || decide (9999 < by_) || decide (fr < 0) || decide (9999 < fr)
def rLow (t : Term) (by_ fr : Int) : Bool := decide (by_ < 0) && lowT t fr (fr - by_ - 1)
def rshiftF (t : Term) (by_ fr : Int) : Term × Int :=
  match rBad t by_ fr with
  | true => (zT, 2)
  | false => match rLow t by_ fr with
    | true => (zT, 27)
    | false => match rprop (mapT (mvG fr by_) t 0) with
      | true => (mapT (mvG fr by_) t 0, 0)
      | false => (zT, 5)
theorem c20 (t : Term) (by_ fr : Int) : CallSt Try.prog 20 [tv t, .c (.int .i64 by_), .c (.int .i64 fr)] [] (fun r H' => r = .tup [tv (rshiftF t by_ fr).1, .c (.int .i64 (rshiftF t by_ fr).2)] ∧ H' = []) := by
  have h16 := c16 t
  have hsh : ∀ b, rBad t by_ fr = b → rshiftF t by_ fr = match b with
    | true => (zT, 2)
    | false => match rLow t by_ fr with
      | true => (zT, 27)
      | false => match rprop (mapT (mvG fr by_) t 0) with
        | true => (mapT (mvG fr by_) t 0, 0)
        | false => (zT, 5) := fun b hb => by unfold rshiftF; rw [hb]
  have hok : rBad t by_ fr = false → (okT t 0 ∧ dpT t ≤ 40) ∧ (0 ≤ fr ∧ fr ≤ 9999) ∧ (-9999 ≤ by_ ∧ by_ ≤ 9999) := fun h => by
    unfold rBad at h
    simp only [Bool.or_eq_false_iff, decide_eq_false_iff_not, Bool.not_eq_false'] at h
    have hp : prop t = true := by rw [prop_rprop]; exact h.1.1.1.1
    exact ⟨⟨prop_ok hp, by have := propT_dp t 1 0 hp; omega⟩, by omega, by omega⟩
  have hmv : ∀ (_ : okT t 0 ∧ dpT t ≤ 40) (_ : 0 ≤ fr ∧ fr ≤ 9999) (_ : -9999 ≤ by_ ∧ by_ ≤ 9999), _ := fun h1 h2 h3 => c58 fr by_ h2 h3 t 0 h1.1
  rw [Int.add_zero] at hmv
  have hlow : ∀ (_ : okT t 0 ∧ dpT t ≤ 40) (_ : 0 ≤ fr ∧ fr ≤ 9999) (_ : -9999 ≤ by_ ∧ by_ ≤ 9999), _ := fun h1 h2 h3 => c57 t fr (fr - by_ - 1) ⟨by omega, by have := h1.2; omega⟩ ⟨by omega, by have := h1.2; omega⟩
  have hv16 := c16 (mapT (mvG fr by_) t 0)
  have hbd : (!rprop t || decide (by_ < -9999) || decide (9999 < by_) || decide (fr < 0) || decide (9999 < fr)) = rBad t by_ fr := rfl
  have hrl : (decide (by_ < 0) && lowT t fr (fr - by_ - 1)) = rLow t by_ fr := rfl
  generalize rBad t by_ fr = bad at *
  generalize rLow t by_ fr = lo at *
  generalize lowT t fr (fr - by_ - 1) = lw at *
  generalize rprop (mapT (mvG fr by_) t 0) = pv at *
  generalize mapT (mvG fr by_) t 0 = v at *
  generalize rshiftF t by_ fr = res at *
  generalize rprop t = pt at *
  generalize (okT t 0 ∧ dpT t ≤ 40) = okk at *
  obtain ⟨k, l, n, ts⟩ := t
  obtain ⟨k2, l2, n2, ts2⟩ := v
  rw [tv_mk] at *
  refine call_pure (E := env 0) (fn := Try.f20) (c := bodyOf Try.f20) (env_ok 0) mixed (by kernel_rfl) (by kernel_rfl) (by kernel_rfl) (by kernel_rfl) (by kernel_rfl) (by kernel_rfl) rfl ?_
  conv => whnf
  refine CallSt.use h16 [] trivial (by decide) rfl ?_
  rintro _ _ ⟨rfl, rfl⟩ _
  conv => whnf
  refine ⟨fun hb => ?_, fun hb => ?_⟩
  · conv => whnf
    refine ⟨rfl, ?_⟩
    conv => whnf
    refine ⟨rfl, ?_⟩
    rw [hsh true (hbd.symm.trans hb)]
    exact ⟨rfl, rfl⟩
  have h1 : bad = false := hbd.symm.trans hb
  obtain ⟨g1, g2, g3⟩ := hok h1
  have hsh := hsh false h1
  conv => whnf
  refine ⟨fun _ => ⟨by omega, by omega⟩, ?_⟩
  conv => whnf
  refine ⟨fun _ => ⟨by omega, by omega⟩, ?_⟩
  conv => whnf
  refine ⟨fun hby => ?_, fun hby => ?_⟩
  · conv => whnf
    refine CallSt.use (hlow g1 g2 g3) [] trivial (by decide) rfl ?_
    rintro _ _ ⟨rfl, rfl⟩ _
    conv => whnf
    refine ⟨fun hw => ?_, fun hw => ?_⟩
    · have hl : lo = true := by
        rw [← hrl, hby]
        exact hw
      conv => whnf
      refine ⟨rfl, ?_⟩
      conv => whnf
      refine ⟨rfl, ?_⟩
      rw [hsh, hl]
      exact ⟨rfl, rfl⟩
    have hl : lo = false := by
      rw [← hrl, hby]
      exact hw
    conv => whnf
    refine CallSt.use (hmv g1 g2 g3) [] trivial (by decide) rfl ?_
    rintro _ _ ⟨rfl, rfl⟩ _
    conv => whnf
    refine CallSt.use hv16 [] trivial (by decide) rfl ?_
    rintro _ _ ⟨rfl, rfl⟩ _
    conv => whnf
    refine ⟨fun hp => ?_, fun hp => ?_⟩
    · conv => whnf
      refine ⟨rfl, ?_⟩
      conv => whnf
      refine ⟨rfl, ?_⟩
      have hp2 : pv = false := by simpa using hp
      rw [hsh, hl, hp2]
      exact ⟨rfl, rfl⟩
    · conv => whnf
      refine ⟨rfl, ?_⟩
      conv => whnf
      refine ⟨rfl, ?_⟩
      have hp2 : pv = true := by simpa using hp
      rw [hsh, hl, hp2]
      exact ⟨rfl, rfl⟩
  · have hl : lo = false := by
      rw [← hrl, hby]
      rfl
    conv => whnf
    refine ⟨fun h => absurd h (by decide), fun _ => ?_⟩
    conv => whnf
    refine CallSt.use (hmv g1 g2 g3) [] trivial (by decide) rfl ?_
    rintro _ _ ⟨rfl, rfl⟩ _
    conv => whnf
    refine CallSt.use hv16 [] trivial (by decide) rfl ?_
    rintro _ _ ⟨rfl, rfl⟩ _
    conv => whnf
    refine ⟨fun hp => ?_, fun hp => ?_⟩
    · conv => whnf
      refine ⟨rfl, ?_⟩
      conv => whnf
      refine ⟨rfl, ?_⟩
      have hp2 : pv = false := by simpa using hp
      rw [hsh, hl, hp2]
      exact ⟨rfl, rfl⟩
    · conv => whnf
      refine ⟨rfl, ?_⟩
      conv => whnf
      refine ⟨rfl, ?_⟩
      have hp2 : pv = true := by simpa using hp
      rw [hsh, hl, hp2]
      exact ⟨rfl, rfl⟩
end Go.Tr
/- The plain law of TermShifts. -/
namespace Go.Tr
open Go.Proofs
mutual
def ovT (fr by_ : Int) : Term → Int → Bool
  | .mk k l n ts, i => (shB fr k l n i && decide (9999 < n + by_)) || ovL fr by_ k i 0 ts
def ovL (fr by_ : Int) (k i : Int) : Int → List Term → Bool
  | _, [] => false
  | j, t :: r => ovT fr by_ t (i + unT k j) || ovL fr by_ k i (j + 1) r
end
theorem lowB_shB (fr by_ k l n i : Int) : lowB k l n (fr + i) (fr - by_ - 1 + i) = (shB fr k l n i && decide (n - i < fr - by_)) := by
  unfold lowB shB
  rw [Bool.eq_iff_iff]
  simp only [Bool.and_eq_true, decide_eq_true_eq]
  omega
mutual
theorem eachT_sh (fr by_ : Int) : ∀ (t : Term) (i : Int) (s : Bool × Bool), eachT (shStep fr by_) t i s = (s.1 || (decide (by_ < 0) && lowT t (fr + i) (fr - by_ - 1 + i)), s.2 || ovT fr by_ t i)
  | .mk k l n ts, i, s => by
    rw [eachT, eachL_sh fr by_ k i ts 0, lowT, ovT, lowB_shB]
    simp only [shStep, Term.k, Term.l, Term.n]
    cases shB fr k l n i
    · simp
    · simp only [Bool.true_and, Bool.and_or_distrib_left, Bool.or_assoc]
      rfl
theorem eachL_sh (fr by_ k i : Int) : ∀ (ts : List Term) (j : Int) (s : Bool × Bool), eachL (shStep fr by_) k i j ts s = (s.1 || (decide (by_ < 0) && lowL k j ts (fr + i) (fr - by_ - 1 + i)), s.2 || ovL fr by_ k i j ts)
  | [], j, s => by simp [eachL, lowL, ovL]
  | t :: r, j, s => by
    rw [eachL, eachL_sh fr by_ k i r, eachT_sh fr by_ t, lowL, ovL]
    simp only [Bool.and_or_distrib_left, Bool.or_assoc, Int.add_assoc]
end
theorem shEach_eq (t : Term) (by_ fr : Int) : shEach t by_ fr = (rLow t by_ fr, ovT fr by_ t 0) := by
  unfold shEach rLow
  rw [eachT_sh]
  simp
mutual
theorem szT_map (g : Int → Int → Int → Int → Int × Int × Int) : ∀ (t : Term) (i : Int), szT (mapT g t i) = szT t
  | .mk k l n ts, i => by rw [mapT, szT, szT, szL_map g k i ts 0]
theorem szL_map (g : Int → Int → Int → Int → Int × Int × Int) (k i : Int) : ∀ (ts : List Term) (j : Int), szL (mapL g k i j ts) = szL ts
  | [], j => by rw [mapL]
  | t :: r, j => by rw [mapL, szL, szL, szT_map g t, szL_map g k i r]
end
theorem fmB_mv {fr by_ k l n i : Int} {m : Nat} (hfr : 0 ≤ fr) (hi : 0 ≤ i) (hf : fmB k l n m = true) (hs : shB fr k l n i = true) (hlo : (decide (by_ < 0) && decide (n - i < fr - by_)) = false) :
    fmB k l (n + by_) m = !decide (9999 < n + by_) := by
  unfold shB at hs
  simp only [Bool.and_eq_true, decide_eq_true_eq] at hs
  obtain ⟨⟨rfl, rfl⟩, h3⟩ := hs
  have h4 : ¬ (n + by_ < 0) := by
    intro h
    simp only [Bool.and_eq_false_iff, decide_eq_false_iff_not] at hlo
    omega
  unfold fmB
  rw [if_neg (by decide), if_neg (by decide), if_neg (by decide), if_pos rfl, decide_eq_false h4]
  rfl
mutual
theorem fmT_mv (fr by_ : Int) (hfr : 0 ≤ fr) : ∀ (t : Term) (i d : Int), 0 ≤ i → fmT t d = true → (decide (by_ < 0) && lowT t (fr + i) (fr - by_ - 1 + i)) = false → fmT (mapT (mvG fr by_) t i) d = !ovT fr by_ t i
  | .mk k l n ts, i, d, hi, hf, hlo => by
    unfold fmT at hf
    simp only [Bool.and_eq_true] at hf
    rw [lowT, lowB_shB, Bool.and_or_distrib_left, Bool.or_eq_false_iff] at hlo
    have hL := fmL_mv fr by_ hfr k i ts 0 d hi hf.2 hlo.2
    rw [mapT, fmT, mapL_len, hf.1.1, Bool.true_and, hL, ovT, Bool.not_or]
    simp only [mvG]
    cases hs : shB fr k l n i with
    | true =>
      rw [hs, Bool.true_and] at hlo
      rw [fmB_mv hfr hi hf.1.2 hs hlo.1]
      rfl
    | false =>
      rw [hf.1.2]
      rfl
theorem fmL_mv (fr by_ : Int) (hfr : 0 ≤ fr) (k i : Int) : ∀ (ts : List Term) (j d : Int), 0 ≤ i → fmL ts d = true → (decide (by_ < 0) && lowL k j ts (fr + i) (fr - by_ - 1 + i)) = false → fmL (mapL (mvG fr by_) k i j ts) d = !ovL fr by_ k i j ts
  | [], j, d, hi, hf, hlo => by rw [mapL, ovL, fmL]; rfl
  | t :: r, j, d, hi, hf, hlo => by
    unfold fmL at hf
    simp only [Bool.and_eq_true] at hf
    rw [lowL, Bool.and_or_distrib_left, Bool.or_eq_false_iff, Int.add_assoc, Int.add_assoc] at hlo
    have hu := unT_bd k j
    have h1 := fmT_mv fr by_ hfr t (i + unT k j) (d + 1) (by omega) hf.1 hlo.1
    have h2 := fmL_mv fr by_ hfr k i r (j + 1) d hi hf.2 hlo.2
    rw [mapL, fmL, h1, h2, ovL, Bool.not_or]
end
theorem rprop_iff (t : Term) : rprop t = (decide (szT t ≤ 600) && fmT t 1) := by
  unfold rprop
  congr 1
  have hs := ndT_sz t 600 (by omega)
  refine decide_eq_decide.2 ⟨fun h => ?_, fun h => by rw [hs.1 h]; exact h⟩
  rcases Int.lt_or_le 600 (szT t) with h2 | h2
  · have := hs.2 h2; omega
  · exact h2
theorem shift_eq (t : Term) (by_ fr : Int) : shiftF t by_ fr = rshiftF t by_ fr := by
  unfold shiftF rshiftF
  have hb : shBad t by_ fr = rBad t by_ fr := by unfold shBad rBad; rw [prop_rprop]
  rw [hb, shEach_eq]
  cases hbad : rBad t by_ fr with
  | true => rfl
  | false =>
    simp only
    cases hlo : rLow t by_ fr with
    | true => rfl
    | false =>
      simp only
      unfold rBad at hbad
      simp only [Bool.or_eq_false_iff, decide_eq_false_iff_not, Bool.not_eq_false'] at hbad
      obtain ⟨⟨⟨⟨hp, _⟩, _⟩, hfr⟩, _⟩ := hbad
      rw [rprop_iff, Bool.and_eq_true] at hp
      have h1 := fmT_mv fr by_ (by omega) t 0 1 (by omega) hp.2 (by rw [Int.add_zero, Int.add_zero]; exact hlo)
      rw [rprop_iff, szT_map, hp.1, h1, Bool.true_and]
      cases ovT fr by_ t 0 <;> rfl
end Go.Tr
/- The law TermShifts. -/
namespace Go.Tr
open Go.Proofs
theorem c4 (t : Term) (by_ fr : Int) : CallSt Try.prog 4 [tv t, .c (.int .i64 by_), .c (.int .i64 fr)] [] (fun r H' => r = .c (.bool true) ∧ H' = []) := by
  have a1 := c19 t by_ fr
  have a2 := c20 t by_ fr
  rw [← shift_eq] at a2
  generalize shiftF t by_ fr = x at *
  obtain ⟨u, e⟩ := x
  have a3 := c21 u u e e
  rw [show (sameT u u && decide (e = e)) = true by rw [(sameT_iff u u).2 rfl]; simp] at a3
  have a4 := c17
  obtain ⟨k, l, n, ts⟩ := t
  obtain ⟨k2, l2, n2, ts2⟩ := u
  rw [tv_mk] at *
  refine call_pure (E := env 0) (fn := Try.f4) (c := bodyOf Try.f4) (env_ok 0) mixed (by kernel_rfl) (by kernel_rfl) (by kernel_rfl) (by kernel_rfl) (by kernel_rfl) (by kernel_rfl) rfl ?_
  conv => whnf
  refine CallSt.use a1 [] trivial (by decide) rfl ?_
  rintro _ _ ⟨rfl, rfl⟩ _
  conv => whnf
  refine CallSt.use a2 [] trivial (by decide) rfl ?_
  rintro _ _ ⟨rfl, rfl⟩ _
  conv => whnf
  refine CallSt.use a3 [] trivial (by decide) rfl ?_
  rintro _ _ ⟨rfl, rfl⟩ _
  conv => whnf
  refine ⟨fun _ => ?_, fun h => absurd h (by decide)⟩
  conv => whnf
  refine CallSt.use a4 [] trivial (by decide) rfl ?_
  rintro _ _ ⟨rfl, rfl⟩ _
  conv => whnf
  refine ⟨rfl, ?_⟩
  conv => whnf
  exact ⟨rfl, rfl, rfl⟩
end Go.Tr
/- TermFull. -/
namespace Go.Tr
open Go.Proofs
theorem third (n : Int) : ∃ m : Int, IntKind.i64.wrap ((IntKind.u64.wrap n).tmod 3) = m ∧ (m = 0 ∨ m = 1 ∨ m = 2) := by
  refine ⟨_, rfl, ?_⟩
  have h0 : 0 ≤ IntKind.u64.wrap n := by
    simp only [IntKind.wrap, IntKind.bits, IntKind.signed, Bool.false_and, Bool.false_eq_true, if_false]
    exact Int.emod_nonneg _ (by decide)
  have h1 : (IntKind.u64.wrap n).tmod 3 = (IntKind.u64.wrap n) % 3 := Int.tmod_eq_emod_of_nonneg h0
  rw [h1]
  generalize IntKind.u64.wrap n = u
  have h2 : IntKind.i64.wrap (u % 3) = u % 3 := wrap_in ⟨by omega, by omega⟩
  rw [h2]
  omega
def lamN : Nat → Term → Term
  | 0, t => t
  | m + 1, t => .mk 3 0 0 [lamN m t]
def fullA : Term := .mk 4 2 0 []
theorem c5 (n : Int) : CallSt Try.prog 5 [.c (.int .i64 n)] [] (fun r H' => r = .c (.bool true) ∧ H' = []) := by
  obtain ⟨q, hq, hq3⟩ := third n
  refine call_pure (E := env 0) (fn := Try.f5) (c := bodyOf Try.f5) (env_ok 0) mixed (by kernel_rfl) (by kernel_rfl) (by kernel_rfl) (by kernel_rfl) (by kernel_rfl) (by kernel_rfl) rfl ?_
  conv => whnf
  refine ⟨fun h => absurd h (by decide), ?_⟩
  conv => whnf
  refine ⟨⟨by omega, by omega⟩, ?_⟩
  conv => whnf
  refine loop_intro (fun m tm H => ∃ (i : Nat) (k l n : Int) (us : List Term), (38 + q : Int) = m + i ∧ Term.mk k l n us = lamN i fullA ∧
      tm = [(15, .c (.int .i64 i)), (14, .c (.int .i64 (38 + q))), (0, .c (.int .i64 q)), (3, .ptr 0 0), (2, .c (.bool false))] ∧
      H = [.box [.c (.int .i64 k), .c (.int .i64 l), .c (.int .i64 n), .own 1], .row 24 4 48 (tcs us)])
      (38 + q).toNat _ _ ⟨0, 4, 2, 0, [], by omega, rfl, rfl, rfl⟩ ?_ ?_
  · refine Wk.trans (H1 := [.box [.c (.int .i64 4), .c (.int .i64 2), .c (.int .i64 0), .nil]]) ?_ (Wk.nilrow' 0 3 24 4 48 rfl rfl rfl rfl)
    exact Wk.sel [0] (by decide) (by decide) (by decide) ⟨rfl, trivial⟩ ⟨rfl, by rw [← hq]; rfl, by rw [← hq]; rfl, rfl, rfl, trivial⟩ rfl
  rintro m tm H ⟨i, k, l, n', us, hi, hT, rfl, rfl⟩
  conv => whnf
  refine ⟨fun hc => ?_, fun hc => ?_⟩
  · replace hc : (i : Int) < 38 + q := of_decide_eq_true hc
    conv => whnf
    refine ⟨by decide, ?_⟩
    conv => whnf
    refine ⟨by decide, ?_⟩
    conv => whnf
    refine ⟨⟨by omega, by omega⟩, ?_⟩
    conv => whnf
    refine ⟨m - 1, _, _, by omega, ⟨i + 1, 3, 0, 0, [.mk k l n' us], by omega, by rw [hT]; rfl, rfl, rfl⟩, Wk.sel [0, 2] (by decide) (by decide) (by decide) ⟨rfl, rfl, trivial⟩ ⟨rfl, rfl, rfl, rfl, rfl, trivial⟩ rfl⟩
  replace hc : ¬ (i : Int) < 38 + q := of_decide_eq_false hc
  obtain rfl : i = (38 + q).toNat := by omega
  conv => whnf
  refine ⟨⟨by omega, by omega⟩, ?_⟩
  conv => whnf
  refine loop_intro (fun m tm H => ∃ (i : Nat), (598 + q : Int) = m + i ∧
      tm = [(4, .own 2), (23, .c (.int .i64 i)), (22, .c (.int .i64 (598 + q))), (0, .c (.int .i64 q)), (3, .ptr 0 0), (2, .c (.bool false))] ∧
      H = [.box [.c (.int .i64 k), .c (.int .i64 l), .c (.int .i64 n'), .own 1], .row 24 4 48 (tcs us), .row 24 4 48 (tcs (List.replicate i (.mk 1 0 0 [])))])
      (598 + q).toNat _ _ ⟨0, by omega, rfl, rfl⟩ ?_ ?_
  · refine Wk.trans (tm1 := [(23, .c (.int .i64 0)), (22, .c (.int .i64 (598 + q))), (0, .c (.int .i64 q)), (3, .ptr 0 0), (2, .c (.bool false)), (4, .nil)])
      (H1 := [.box [.c (.int .i64 k), .c (.int .i64 l), .c (.int .i64 n'), .own 1], .row 24 4 48 (tcs us)]) ?_ (Wk.trans (Wk.niltmp 4 24 4 48 rfl rfl) ?_)
    · exact Wk.sel [0, 1] (by decide) (by decide) (by decide) ⟨rfl, rfl, trivial⟩ ⟨rfl, rfl, rfl, rfl, rfl, rfl, trivial⟩ rfl
    · exact Wk.sel [0, 1, 2] (by decide) (by decide) (by decide) ⟨rfl, rfl, rfl, trivial⟩ ⟨rfl, rfl, rfl, rfl, rfl, rfl, trivial⟩ rfl
  rintro m2 tm H ⟨j, hj, rfl, rfl⟩
  conv => whnf
  refine ⟨fun hc2 => ?_, fun hc2 => ?_⟩
  · replace hc2 : (j : Int) < 598 + q := of_decide_eq_true hc2
    conv => whnf
    refine ⟨by decide, ?_⟩
    conv => whnf
    refine ⟨by decide, ?_⟩
    conv => whnf
    have hl1 : (tcs (List.replicate j (Term.mk 1 0 0 []))).length = j := by rw [len_tcs, List.length_replicate]
    have hl2 : ((tcs (List.replicate j (Term.mk 1 0 0 []))).length + 1) * 48 ≤ 140737488355328 := by omega
    have hl3 : (tcs (List.replicate j (Term.mk 1 0 0 []))).length + 1 ≤ 9223372036854775807 := by omega
    refine ⟨hl2, hl3, ?_⟩
    conv => whnf
    refine ⟨⟨by omega, by omega⟩, ?_⟩
    conv => whnf
    refine ⟨m2 - 1, _, _, by omega, ⟨j + 1, by omega, rfl, rfl⟩, Wk.sel [0, 1, 4] (by decide) (by decide) (by decide) ⟨rfl, rfl, ?_, trivial⟩ ⟨rfl, rfl, rfl, rfl, rfl, rfl, trivial⟩ rfl⟩
    rw [List.replicate_succ', ← tcs_snoc]
    rfl
  replace hc2 : ¬ (j : Int) < 598 + q := of_decide_eq_false hc2
  obtain rfl : j = (598 + q).toNat := by omega
  have p1 : prop (lamN (38 + q).toNat fullA) = decide (q < 2) := by rcases hq3 with rfl | rfl | rfl <;> kernel_rfl
  have p2 : prop (.mk 4 1 0 (List.replicate (598 + q).toNat (.mk 1 0 0 []))) = decide (q < 2) := by rcases hq3 with rfl | rfl | rfl <;> kernel_rfl
  have p3 : prop (.mk 4 3 (9998 + q) []) = decide (q < 2) := by rcases hq3 with rfl | rfl | rfl <;> kernel_rfl
  have a1 := c14 (.mk k l n' us)
  rw [hT, p1, ← hT] at a1
  have a2 := c14 (.mk 4 1 0 (List.replicate (598 + q).toNat (.mk 1 0 0 [])))
  rw [p2] at a2
  have a3 := c14 (.mk 4 3 (9998 + q) [])
  rw [p3] at a3
  conv => whnf
  refine ⟨⟨by omega, by omega⟩, ?_⟩
  conv => whnf
  refine ⟨fun h2 => ?_, fun h2 => ?_⟩
  · have h3 : decide (q < 2) = true := h2
    rw [h3] at a1 a2 a3
    conv => whnf
    refine CallSt.use a1 [] trivial (by decide) rfl ?_
    rintro _ _ ⟨rfl, rfl⟩ _
    conv => whnf
    refine ⟨fun _ => ?_, fun h => absurd h (by decide)⟩
    conv => whnf
    refine CallSt.use a2 [] trivial (by decide) rfl ?_
    rintro _ _ ⟨rfl, rfl⟩ _
    conv => whnf
    refine ⟨fun _ => ?_, fun h => absurd h (by decide)⟩
    conv => whnf
    refine CallSt.use a3 [] trivial (by decide) rfl ?_
    rintro _ _ ⟨rfl, rfl⟩ _
    conv => whnf
    refine ⟨fun _ => ?_, fun h => absurd h (by decide)⟩
    conv => whnf
    refine CallSt.use c17 [] trivial (by decide) rfl ?_
    rintro _ _ ⟨rfl, rfl⟩ _
    conv => whnf
    refine ⟨rfl, ?_⟩
    conv => whnf
    exact ⟨rfl, rfl, rfl⟩
  · have h3 : decide (q < 2) = false := h2
    rw [h3] at a1 a2 a3
    conv => whnf
    refine CallSt.use a1 [] trivial (by decide) rfl ?_
    rintro _ _ ⟨rfl, rfl⟩ _
    conv => whnf
    refine ⟨fun _ => ?_, fun h => absurd h (by decide)⟩
    conv => whnf
    refine CallSt.use a2 [] trivial (by decide) rfl ?_
    rintro _ _ ⟨rfl, rfl⟩ _
    conv => whnf
    refine ⟨fun _ => ?_, fun h => absurd h (by decide)⟩
    conv => whnf
    refine CallSt.use a3 [] trivial (by decide) rfl ?_
    rintro _ _ ⟨rfl, rfl⟩ _
    conv => whnf
    refine ⟨fun _ => ?_, fun h => absurd h (by decide)⟩
    conv => whnf
    refine CallSt.use c17 [] trivial (by decide) rfl ?_
    rintro _ _ ⟨rfl, rfl⟩ _
    conv => whnf
    refine ⟨rfl, ?_⟩
    conv => whnf
    exact ⟨rfl, rfl, rfl⟩
end Go.Tr
/- Same, SameSimple: both sides. -/
namespace Go.Tr
open Go.Proofs
theorem c59 (ts us : List Term) (hf : ∀ t ∈ ts, ∀ u, CallSt Try.prog 22 [tv t, tv u] [] (fun r H' => r = .c (.bool (sameT t u)) ∧ H' = [])) :
    CallSt Try.prog 59 [.c (.sl 4 48 (tcs ts)), .c (.sl 4 48 (tcs us)), .fn 22 []] [] (fun r H' => r = .c (.bool (decide (ts.length = us.length) && sameL ts us)) ∧ H' = []) := by
  refine call_pure (E := env 0) (fn := Try.f59) (c := bodyOf Try.f59) (env_ok 0) mixed (by kernel_rfl) (by kernel_rfl) (by kernel_rfl) (by kernel_rfl) (by kernel_rfl) (by kernel_rfl) rfl ?_
  conv => whnf
  intro hl1
  conv => whnf
  intro hl2
  clear hl2
  replace hl1 : (tcs ts).length * 48 ≤ 140737488355328 := hl1
  rw [len_tcs] at hl1
  conv => whnf
  have key : (!decide (((tcs ts).length : Int) = (tcs us).length)) = !decide (ts.length = us.length) := by
    rw [len_tcs, len_tcs]; simp only [Int.natCast_inj]
  refine ⟨fun h => ?_, fun h => ?_⟩
  · replace h := key.symm.trans h
    rw [Bool.not_eq_true'] at h
    conv => whnf
    refine ⟨rfl, ?_⟩
    conv => whnf
    refine ⟨rfl, ?_⟩
    rw [h]
    exact ⟨rfl, rfl⟩
  replace h := key.symm.trans h
  rw [Bool.not_eq_false'] at h
  have hle : ts.length = us.length := of_decide_eq_true h
  conv => whnf
  intro _
  conv => whnf
  refine loop_intro (fun m tm H => ∃ (i : Nat), ts.length = m + i ∧ sameL (ts.drop i) (us.drop i) = sameL ts us ∧
      tm = [(17, .c (.int .i64 (i))), (15, .c (.sl 4 48 (tcs ts))), (16, .c (.int .i64 ((tcs ts).length))), (1, .c (.sl 4 48 (tcs us))), (2, .fn 22 []), (6, .c (.bool false))] ∧ H = [])
      ts.length _ _ ⟨0, by omega, rfl, rfl, rfl⟩ (Wk.sel [] (by decide) (by decide) (by decide) trivial ⟨rfl, rfl, rfl, rfl, rfl, rfl, trivial⟩ rfl) ?_
  rintro m tm H ⟨i, hi, hR, rfl, rfl⟩
  conv => whnf
  refine ⟨fun hc => ?_, fun hc => ?_⟩
  · replace hc : (i : Int) < (tcs ts).length := of_decide_eq_true hc
    rw [len_tcs] at hc
    have hlt : i < ts.length := by omega
    obtain ⟨u, hu⟩ : ∃ u, ts[i]? = some u := ⟨ts[i], List.getElem?_eq_getElem hlt⟩
    obtain ⟨v, hv⟩ : ∃ v, us[i]? = some v := ⟨us[i], List.getElem?_eq_getElem (by omega)⟩
    have hm := List.mem_of_getElem? hu
    have huc := tcs_at ts i u hu
    have hvc := tcs_at us i v hv
    rw [drop_at hu, drop_at hv, sameL] at hR
    have hcc := hf u hm v
    obtain ⟨k', l', n', us'⟩ := u
    obtain ⟨k3, l3, n3, us3⟩ := v
    conv => whnf
    refine ⟨_, ⟨by omega, by simpa using huc⟩, ?_⟩
    conv => whnf
    refine ⟨Nat.le_refl 4, ?_⟩
    conv => whnf
    refine ⟨_, ⟨by omega, by simpa using hvc⟩, ?_⟩
    conv => whnf
    refine ⟨Nat.le_refl 4, ?_⟩
    conv => whnf
    try (refine draw_intro true (by kernel_rfl) ?_; conv => whnf)
    refine CallSt.use hcc [] trivial (by decide) rfl ?_
    rintro _ _ ⟨rfl, rfl⟩ _
    conv => whnf
    refine ⟨fun hf => ?_, fun hf => ?_⟩
    · conv => whnf
      refine ⟨rfl, ?_⟩
      conv => whnf
      refine ⟨rfl, ?_⟩
      rw [← hR, show sameT (.mk k' l' n' us') (.mk k3 l3 n3 us3) = false by simpa using hf, Bool.false_and, Bool.and_false]
      exact ⟨rfl, rfl⟩
    · conv => whnf
      refine ⟨⟨by omega, by omega⟩, ?_⟩
      conv => whnf
      refine ⟨m - 1, _, _, by omega, ⟨i + 1, by omega, ?_, rfl, rfl⟩, Wk.sel [] (by decide) (by decide) (by decide) trivial ⟨rfl, rfl, rfl, rfl, rfl, rfl, trivial⟩ rfl⟩
      rw [← hR, show sameT (.mk k' l' n' us') (.mk k3 l3 n3 us3) = true by simpa using hf, Bool.true_and]
  · replace hc : ¬ (i : Int) < (tcs ts).length := of_decide_eq_false hc
    rw [len_tcs] at hc
    conv => whnf
    refine ⟨rfl, ?_⟩
    conv => whnf
    refine ⟨rfl, ?_⟩
    rw [h, ← hR, List.drop_eq_nil_of_le (by omega), sameL]
    exact ⟨rfl, rfl⟩
    all_goals simp
theorem c22 (t : Term) : ∀ u : Term, CallSt Try.prog 22 [tv t, tv u] [] (fun r H' => r = .c (.bool (sameT t u)) ∧ H' = []) := by
  induction t using Term.ind with
  | _ t ih =>
  intro u
  obtain ⟨k, l, n, ts⟩ := t
  obtain ⟨k2, l2, n2, us⟩ := u
  replace ih : ∀ u, u ∈ ts → _ := ih
  have hc := c59 ts us ih
  rw [tv_mk, tv_mk]
  refine call_pure (E := env 0) (fn := Try.f22) (c := bodyOf Try.f22) (env_ok 0) mixed (by kernel_rfl) (by kernel_rfl) (by kernel_rfl) (by kernel_rfl) (by kernel_rfl) (by kernel_rfl) rfl ?_
  conv => whnf
  refine ⟨fun h => ?_, fun h => ?_⟩
  · conv => whnf
    try (refine draw_intro true (by kernel_rfl) ?_; conv => whnf)
    refine CallSt.use hc [] trivial (by decide) rfl ?_
    rintro _ _ ⟨rfl, rfl⟩ _
    conv => whnf
    refine ⟨rfl, ?_⟩
    conv => whnf
    refine ⟨rfl, ?_⟩
    rw [sameT, h, Bool.true_and]
    exact ⟨rfl, rfl⟩
  · conv => whnf
    refine ⟨rfl, ?_⟩
    conv => whnf
    refine ⟨rfl, ?_⟩
    rw [sameT, h]
    exact ⟨rfl, rfl⟩
/-- A simple type. -/
inductive Smp where
  | mk (ys : List Smp) (c : Int)
namespace Smp
def xs : Smp → List Smp | mk a _ => a
def c : Smp → Int | mk _ a => a
end Smp
theorem Smp.ind {C : Smp → Prop} (h : ∀ t : Smp, (∀ u ∈ t.xs, C u) → C t) : ∀ t, C t
  | .mk ys c => h _ fun u hu => Smp.ind h u
  termination_by t => SizeOf.sizeOf t
  decreasing_by
  have := List.sizeOf_lt_of_mem (show u ∈ ys from hu)
  simp; omega
mutual
def sc : Smp → List CV
  | .mk ys c => [.sl 2 32 (scs ys), .int .i64 c]
def scs : List Smp → List (List CV)
  | [] => []
  | t :: r => sc t :: scs r
end
def sv (t : Smp) : AV := .agg [.c (.sl 2 32 (scs t.xs)), .c (.int .i64 t.c)]
theorem sv_mk (ys : List Smp) (c : Int) : sv (.mk ys c) = .agg [.c (.sl 2 32 (scs ys)), .c (.int .i64 c)] := rfl
theorem len_scs : ∀ ts : List Smp, (scs ts).length = ts.length
  | [] => rfl
  | t :: r => by simp [scs, len_scs r]
theorem scs_at : ∀ (ts : List Smp) (i : Nat) (u : Smp), ts[i]? = some u → (scs ts)[i]? = some (sc u)
  | [], _, _, h => by simp at h
  | t :: r, 0, u, h => by simp at h; subst h; simp [scs]
  | t :: r, i + 1, u, h => by simp only [scs, List.getElem?_cons_succ]; exact scs_at r i u (by simpa using h)
theorem scs_snoc (ts : List Smp) (u : Smp) : scs ts ++ [sc u] = scs (ts ++ [u]) := by
  induction ts with
  | nil => simp [scs]
  | cons t r ih => simp only [scs, List.cons_append, ih]
mutual
def sameS : Smp → Smp → Bool
  | .mk ys c, .mk bs c' => decide (c = c') && (decide (ys.length = bs.length) && sameSL ys bs)
def sameSL : List Smp → List Smp → Bool
  | t :: r, u :: s => sameS t u && sameSL r s
  | _, _ => true
end
mutual
theorem sameS_iff : ∀ (t u : Smp), sameS t u = true ↔ t = u
  | .mk ys c, .mk bs c' => by
    unfold sameS
    simp only [Bool.and_eq_true, decide_eq_true_eq, Smp.mk.injEq]
    constructor
    · rintro ⟨h1, h4, h5⟩
      exact ⟨(sameSL_iff ys bs h4).1 h5, h1⟩
    · rintro ⟨h1, h2⟩
      exact ⟨h2, by rw [h1], (sameSL_iff ys bs (by rw [h1])).2 h1⟩
theorem sameSL_iff : ∀ (ts us : List Smp), ts.length = us.length → (sameSL ts us = true ↔ ts = us)
  | [], [], _ => by simp [sameSL]
  | t :: r, u :: s, h => by
    unfold sameSL
    simp only [Bool.and_eq_true, List.cons.injEq]
    rw [sameS_iff t u, sameSL_iff r s (by simpa using h)]
  | [], _ :: _, h => by simp at h
  | _ :: _, [], h => by simp at h
end
theorem c60 (ts us : List Smp) (hf : ∀ t ∈ ts, ∀ u, CallSt Try.prog 24 [sv t, sv u] [] (fun r H' => r = .c (.bool (sameS t u)) ∧ H' = [])) :
    CallSt Try.prog 60 [.c (.sl 2 32 (scs ts)), .c (.sl 2 32 (scs us)), .fn 24 []] [] (fun r H' => r = .c (.bool (decide (ts.length = us.length) && sameSL ts us)) ∧ H' = []) := by
  refine call_pure (E := env 0) (fn := Try.f60) (c := bodyOf Try.f60) (env_ok 0) mixed (by kernel_rfl) (by kernel_rfl) (by kernel_rfl) (by kernel_rfl) (by kernel_rfl) (by kernel_rfl) rfl ?_
  conv => whnf
  intro hl1
  conv => whnf
  intro hl2
  clear hl2
  replace hl1 : (scs ts).length * 32 ≤ 140737488355328 := hl1
  rw [len_scs] at hl1
  conv => whnf
  have key : (!decide (((scs ts).length : Int) = (scs us).length)) = !decide (ts.length = us.length) := by
    rw [len_scs, len_scs]; simp only [Int.natCast_inj]
  refine ⟨fun h => ?_, fun h => ?_⟩
  · replace h := key.symm.trans h
    rw [Bool.not_eq_true'] at h
    conv => whnf
    refine ⟨rfl, ?_⟩
    conv => whnf
    refine ⟨rfl, ?_⟩
    rw [h]
    exact ⟨rfl, rfl⟩
  replace h := key.symm.trans h
  rw [Bool.not_eq_false'] at h
  have hle : ts.length = us.length := of_decide_eq_true h
  conv => whnf
  intro _
  conv => whnf
  refine loop_intro (fun m tm H => ∃ (i : Nat), ts.length = m + i ∧ sameSL (ts.drop i) (us.drop i) = sameSL ts us ∧
      tm = [(17, .c (.int .i64 (i))), (15, .c (.sl 2 32 (scs ts))), (16, .c (.int .i64 ((scs ts).length))), (1, .c (.sl 2 32 (scs us))), (2, .fn 24 []), (6, .c (.bool false))] ∧ H = [])
      ts.length _ _ ⟨0, by omega, rfl, rfl, rfl⟩ (Wk.sel [] (by decide) (by decide) (by decide) trivial ⟨rfl, rfl, rfl, rfl, rfl, rfl, trivial⟩ rfl) ?_
  rintro m tm H ⟨i, hi, hR, rfl, rfl⟩
  conv => whnf
  refine ⟨fun hc => ?_, fun hc => ?_⟩
  · replace hc : (i : Int) < (scs ts).length := of_decide_eq_true hc
    rw [len_scs] at hc
    have hlt : i < ts.length := by omega
    obtain ⟨u, hu⟩ : ∃ u, ts[i]? = some u := ⟨ts[i], List.getElem?_eq_getElem hlt⟩
    obtain ⟨v, hv⟩ : ∃ v, us[i]? = some v := ⟨us[i], List.getElem?_eq_getElem (by omega)⟩
    have hm := List.mem_of_getElem? hu
    have huc := scs_at ts i u hu
    have hvc := scs_at us i v hv
    rw [drop_at hu, drop_at hv, sameSL] at hR
    have hcc := hf u hm v
    obtain ⟨us', n'⟩ := u
    obtain ⟨us3, n3⟩ := v
    conv => whnf
    refine ⟨_, ⟨by omega, by simpa using huc⟩, ?_⟩
    conv => whnf
    refine ⟨Nat.le_refl 2, ?_⟩
    conv => whnf
    refine ⟨_, ⟨by omega, by simpa using hvc⟩, ?_⟩
    conv => whnf
    refine ⟨Nat.le_refl 2, ?_⟩
    conv => whnf
    try (refine draw_intro true (by kernel_rfl) ?_; conv => whnf)
    refine CallSt.use hcc [] trivial (by decide) rfl ?_
    rintro _ _ ⟨rfl, rfl⟩ _
    conv => whnf
    refine ⟨fun hf => ?_, fun hf => ?_⟩
    · conv => whnf
      refine ⟨rfl, ?_⟩
      conv => whnf
      refine ⟨rfl, ?_⟩
      rw [← hR, show sameS (.mk us' n') (.mk us3 n3) = false by simpa using hf, Bool.false_and, Bool.and_false]
      exact ⟨rfl, rfl⟩
    · conv => whnf
      refine ⟨⟨by omega, by omega⟩, ?_⟩
      conv => whnf
      refine ⟨m - 1, _, _, by omega, ⟨i + 1, by omega, ?_, rfl, rfl⟩, Wk.sel [] (by decide) (by decide) (by decide) trivial ⟨rfl, rfl, rfl, rfl, rfl, rfl, trivial⟩ rfl⟩
      rw [← hR, show sameS (.mk us' n') (.mk us3 n3) = true by simpa using hf, Bool.true_and]
  · replace hc : ¬ (i : Int) < (scs ts).length := of_decide_eq_false hc
    rw [len_scs] at hc
    conv => whnf
    refine ⟨rfl, ?_⟩
    conv => whnf
    refine ⟨rfl, ?_⟩
    rw [h, ← hR, List.drop_eq_nil_of_le (by omega), sameSL]
    exact ⟨rfl, rfl⟩
    all_goals simp
theorem c24 (t : Smp) : ∀ u : Smp, CallSt Try.prog 24 [sv t, sv u] [] (fun r H' => r = .c (.bool (sameS t u)) ∧ H' = []) := by
  induction t using Smp.ind with
  | _ t ih =>
  intro u
  obtain ⟨ts, n⟩ := t
  obtain ⟨us, n2⟩ := u
  replace ih : ∀ u, u ∈ ts → _ := ih
  have hc := c60 ts us ih
  rw [sv_mk, sv_mk]
  refine call_pure (E := env 0) (fn := Try.f24) (c := bodyOf Try.f24) (env_ok 0) mixed (by kernel_rfl) (by kernel_rfl) (by kernel_rfl) (by kernel_rfl) (by kernel_rfl) (by kernel_rfl) rfl ?_
  conv => whnf
  refine ⟨fun h => ?_, fun h => ?_⟩
  · conv => whnf
    try (refine draw_intro true (by kernel_rfl) ?_; conv => whnf)
    refine CallSt.use hc [] trivial (by decide) rfl ?_
    rintro _ _ ⟨rfl, rfl⟩ _
    conv => whnf
    refine ⟨rfl, ?_⟩
    conv => whnf
    refine ⟨rfl, ?_⟩
    rw [sameS, h, Bool.true_and]
    exact ⟨rfl, rfl⟩
  · conv => whnf
    refine ⟨rfl, ?_⟩
    conv => whnf
    refine ⟨rfl, ?_⟩
    rw [sameS, h]
    exact ⟨rfl, rfl⟩
theorem c25 (t : Smp) : ∀ u : Smp, CallSt Try.prog 25 [sv t, sv u] [] (fun r H' => r = .c (.bool (sameS t u)) ∧ H' = []) := by
  induction t using Smp.ind with
  | _ t ih =>
  intro u
  obtain ⟨ts, n⟩ := t
  obtain ⟨us, n2⟩ := u
  replace ih : ∀ u, u ∈ ts → _ := ih
  rw [sv_mk, sv_mk]
  refine call_pure (E := env 0) (fn := Try.f25) (c := bodyOf Try.f25) (env_ok 0) mixed (by kernel_rfl) (by kernel_rfl) (by kernel_rfl) (by kernel_rfl) (by kernel_rfl) (by kernel_rfl) rfl ?_
  conv => whnf
  intro hl1
  conv => whnf
  intro hl2
  clear hl1 hl2
  conv => whnf
  have key : (!decide (n = n2) || !decide (((scs ts).length : Int) = (scs us).length)) = !(decide (n = n2) && decide (ts.length = us.length)) := by
    rw [len_scs, len_scs, show decide ((ts.length : Int) = us.length) = decide (ts.length = us.length) by simp only [Int.natCast_inj]]
    simp only [Bool.not_and]
  refine ⟨fun h => ?_, fun h => ?_⟩
  · conv => whnf
    refine ⟨rfl, ?_⟩
    conv => whnf
    refine ⟨rfl, ?_⟩
    have h2 := key.symm.trans h
    rw [Bool.not_eq_true'] at h2
    unfold sameS
    rw [← Bool.and_assoc, h2]
    exact ⟨rfl, rfl⟩
  · have h2 := key.symm.trans h
    rw [Bool.not_eq_false'] at h2
    have hle : ts.length = us.length := by
      simp only [Bool.and_eq_true, decide_eq_true_eq] at h2
      exact h2.2
    have hs : sameS (.mk ts n) (.mk us n2) = sameSL ts us := by rw [sameS, ← Bool.and_assoc, h2, Bool.true_and]
    conv => whnf
    refine loop_intro (fun m tm H => ∃ (i : Nat), ts.length = m + i ∧ sameSL (ts.drop i) (us.drop i) = sameSL ts us ∧
      tm = [(5, .c (.int .i64 (i))), (2, .ptr 0 0), (3, .ptr 1 0), (4, .c (.bool false))] ∧ H = [.box [.c (.sl 2 32 (scs ts)), .c (.int .i64 (n))], .box [.c (.sl 2 32 (scs us)), .c (.int .i64 (n2))]])
      ts.length _ _ ⟨0, by omega, rfl, rfl, rfl⟩ (Wk.sel [0, 1] (by decide) (by decide) (by decide) ⟨rfl, rfl, trivial⟩ ⟨rfl, rfl, rfl, rfl, trivial⟩ rfl) ?_
    rintro m tm H ⟨i, hi, hR, rfl, rfl⟩
    conv => whnf
    intro hlen
    replace hlen : (scs ts).length * 32 ≤ 140737488355328 := hlen
    rw [len_scs] at hlen
    conv => whnf
    refine ⟨fun hc => ?_, fun hc => ?_⟩
    · replace hc : (i : Int) < (scs ts).length := of_decide_eq_true hc
      rw [len_scs] at hc
      have hlt : i < ts.length := by omega
      obtain ⟨u, hu⟩ : ∃ u, ts[i]? = some u := ⟨ts[i], List.getElem?_eq_getElem hlt⟩
      obtain ⟨v, hv⟩ : ∃ v, us[i]? = some v := ⟨us[i], List.getElem?_eq_getElem (by omega)⟩
      have hm := List.mem_of_getElem? hu
      have huc := scs_at ts i u hu
      have hvc := scs_at us i v hv
      rw [drop_at hu, drop_at hv, sameSL] at hR
      have hcc := ih u hm v
      obtain ⟨us', n'⟩ := u
      obtain ⟨us3, n3⟩ := v
      conv => whnf
      refine draw_intro true (by kernel_rfl) ?_
      conv => whnf
      refine ⟨_, ⟨by omega, by simpa using huc⟩, ?_⟩
      conv => whnf
      refine ⟨Nat.le_refl 2, ?_⟩
      conv => whnf
      refine ⟨_, ⟨by omega, by simpa using hvc⟩, ?_⟩
      conv => whnf
      refine ⟨Nat.le_refl 2, ?_⟩
      conv => whnf
      try (refine draw_intro true (by kernel_rfl) ?_; conv => whnf)
      refine CallSt.use hcc [] trivial (by decide) rfl ?_
      rintro _ _ ⟨rfl, rfl⟩ _
      conv => whnf
      refine ⟨fun hf => ?_, fun hf => ?_⟩
      · conv => whnf
        refine ⟨rfl, ?_⟩
        conv => whnf
        refine ⟨rfl, ?_⟩
        rw [hs, ← hR, show sameS (.mk us' n') (.mk us3 n3) = false by simpa using hf]
        exact ⟨rfl, rfl⟩
      · conv => whnf
        refine ⟨⟨by omega, by omega⟩, ?_⟩
        conv => whnf
        refine ⟨m - 1, _, _, by omega, ⟨i + 1, by omega, ?_, rfl, rfl⟩, Wk.sel [0, 1] (by decide) (by decide) (by decide) ⟨rfl, rfl, trivial⟩ ⟨rfl, rfl, rfl, rfl, trivial⟩ rfl⟩
        rw [← hR, show sameS (.mk us' n') (.mk us3 n3) = true by simpa using hf, Bool.true_and]
    · replace hc : ¬ (i : Int) < (scs ts).length := of_decide_eq_false hc
      rw [len_scs] at hc
      conv => whnf
      refine ⟨rfl, ?_⟩
      conv => whnf
      refine ⟨rfl, ?_⟩
      rw [hs, ← hR, List.drop_eq_nil_of_le (by omega), List.drop_eq_nil_of_le (by omega)]
      exact ⟨rfl, rfl⟩
theorem sameT_comm (a b : Term) : sameT a b = sameT b a := by
  rw [Bool.eq_iff_iff, sameT_iff, sameT_iff]
  exact eq_comm
theorem sameS_self (a : Smp) : sameS a a = true := (sameS_iff a a).2 rfl
theorem sameT_self (a : Term) : sameT a a = true := (sameT_iff a a).2 rfl
end Go.Tr
/- Domains. -/
namespace Go.Tr
open Go.Proofs
/-- The domains of the outermost TPis, and what is within them. -/
def domT : Term → List Term × Term
  | .mk k l n ts => match ts with
    | a :: b :: r => if k = 2 then (a :: (domT b).1, (domT b).2) else ([], .mk k l n (a :: b :: r))
    | ts => ([], .mk k l n ts)
  termination_by t => SizeOf.sizeOf t
  decreasing_by all_goals (simp; omega)
theorem domT_pi (l n : Int) (a b : Term) (r : List Term) : domT (.mk 2 l n (a :: b :: r)) = (a :: (domT b).1, (domT b).2) := by rw [domT]; simp
theorem domT_no {t : Term} (h : t.k ≠ 2) : domT t = ([], t) := by
  obtain ⟨k, l, n, ts⟩ := t
  replace h : k ≠ 2 := h
  match ts with
  | [] => rw [domT]; simp
  | [a] => rw [domT]; simp
  | a :: b :: r => rw [domT, if_neg h]
theorem fm_pi {l n d : Int} {ts : List Term} (h : fmT (.mk 2 l n ts) d = true) : l = 0 ∧ n = 0 ∧ ∃ a b, ts = [a, b] ∧ fmT a (d + 1) = true ∧ fmT b (d + 1) = true := by
  unfold fmT at h
  simp only [Bool.and_eq_true] at h
  obtain ⟨⟨h1, h2⟩, h3⟩ := h
  unfold fmB at h2
  have h4 : ts.length = 2 ∧ l = 0 ∧ n = 0 := by
    rw [if_neg (by decide), if_pos rfl] at h2
    simp at h2
    omega
  obtain ⟨h4, h5, h6⟩ := h4
  refine ⟨h5, h6, ?_⟩
  match ts, h4 with
  | [a, b], _ =>
    refine ⟨a, b, rfl, ?_⟩
    simp only [fmL, Bool.and_eq_true] at h3
    exact ⟨h3.1, h3.2.1⟩
theorem fm_d {t : Term} {d : Int} (h : fmT t d = true) : d ≤ 40 := by
  obtain ⟨k, l, n, ts⟩ := t
  unfold fmT at h
  simp only [Bool.and_eq_true, decide_eq_true_eq, Bool.not_eq_true', decide_eq_false_iff_not] at h
  omega
/-- What holds of a term's domains by what it is. -/
theorem dom_ind {C : Term → Int → Prop} (h1 : ∀ t d, t.k ≠ 2 → fmT t d = true → C t d) (h2 : ∀ a b d, fmT a (d + 1) = true → fmT b (d + 1) = true → d ≤ 40 → C b (d + 1) → C (.mk 2 0 0 [a, b]) d) :
    ∀ (n : Nat) (t : Term) (d : Int), SizeOf.sizeOf t ≤ n → fmT t d = true → C t d := by
  intro n
  induction n with
  | zero => intro t d hn; cases t; simp at hn
  | succ n ih =>
    intro t d hn h
    obtain ⟨k, l, x, ts⟩ := t
    by_cases hk : k = 2
    · subst hk
      obtain ⟨rfl, rfl, a, b, rfl, ha, hb⟩ := fm_pi h
      exact h2 a b d ha hb (fm_d h) (ih b (d + 1) (by simp at hn; omega) hb)
    · exact h1 _ d hk h
theorem dom_len (t : Term) (d : Int) (h : fmT t d = true) : (domT t).1.length + d ≤ 41 := by
  refine dom_ind (C := fun t d => (domT t).1.length + d ≤ 41) (fun t d hk h => ?_) (fun a b d ha hb hd ih => ?_) _ t d (Nat.le_refl _) h
  · rw [domT_no hk]
    have := fm_d h
    simp; omega
  · rw [domT_pi]
    simp only [List.length_cons]
    omega
theorem dom_mem (t : Term) (d : Int) (h : fmT t d = true) : ∀ u ∈ (domT t).1, SizeOf.sizeOf u < SizeOf.sizeOf t ∧ ∃ d', fmT u d' = true ∧ d ≤ d' := by
  refine dom_ind (C := fun t d => ∀ u ∈ (domT t).1, SizeOf.sizeOf u < SizeOf.sizeOf t ∧ ∃ d', fmT u d' = true ∧ d ≤ d') (fun t d hk h => ?_) (fun a b d ha hb hd ih => ?_) _ t d (Nat.le_refl _) h
  · rw [domT_no hk]
    simp
  · rw [domT_pi]
    intro u hu
    rcases List.mem_cons.1 hu with rfl | hu
    · exact ⟨by simp; omega, d + 1, ha, by omega⟩
    · obtain ⟨h1, d', h2, h3⟩ := ih u hu
      exact ⟨by simp; omega, d', h2, by omega⟩
theorem dom_rest (t : Term) (d : Int) (h : fmT t d = true) : (domT t).2.k ≠ 2 ∧ SizeOf.sizeOf (domT t).2 ≤ SizeOf.sizeOf t ∧ ∃ d', fmT (domT t).2 d' = true ∧ d ≤ d' := by
  refine dom_ind (C := fun t d => (domT t).2.k ≠ 2 ∧ SizeOf.sizeOf (domT t).2 ≤ SizeOf.sizeOf t ∧ ∃ d', fmT (domT t).2 d' = true ∧ d ≤ d') (fun t d hk h => ?_) (fun a b d ha hb hd ih => ?_) _ t d (Nat.le_refl _) h
  · rw [domT_no hk]
    exact ⟨hk, Nat.le_refl _, d, h, by omega⟩
  · rw [domT_pi]
    obtain ⟨h1, h2, d', h3, h4⟩ := ih
    exact ⟨h1, by simp at *; omega, d', h3, by omega⟩
theorem c68 (t : Term) (d : Int) (h : fmT t d = true) (hd : 0 ≤ d) : CallSt Try.prog 68 [tv t] [] (fun r H' => r = .tup [.c (.sl 4 48 (tcs (domT t).1)), tv (domT t).2] ∧ H' = []) := by
  have hlen := dom_len t d h
  have hz := SizeOf.sizeOf t
  generalize hT : t = T at *
  subst hT
  obtain ⟨k, l, n, ts⟩ := t
  rw [tv_mk]
  refine call_pure (E := env 0) (fn := Try.f68) (c := bodyOf Try.f68) (env_ok 0) mixed (by kernel_rfl) (by kernel_rfl) (by kernel_rfl) (by kernel_rfl) (by kernel_rfl) (by kernel_rfl) rfl ?_
  conv => whnf
  refine loop_intro (fun m tm H => ∃ (k' l' n' : Int) (ts' pre : List Term) (d' : Int), SizeOf.sizeOf (Term.mk k' l' n' ts') ≤ m ∧ fmT (.mk k' l' n' ts') d' = true ∧ pre ++ (domT (.mk k' l' n' ts')).1 = (domT (.mk k l n ts)).1 ∧ (domT (.mk k' l' n' ts')).2 = (domT (.mk k l n ts)).2 ∧
      tm = [(4, .own 2), (1, .ptr 0 0), (3, .ptr 1 0)] ∧ H = [.box [.c (.int .i64 (k')), .c (.int .i64 (l')), .c (.int .i64 (n')), .c (.sl 4 48 (tcs ts'))], .box [.c (.int .i64 (0)), .c (.int .i64 (0)), .c (.int .i64 (0)), .nil], .row 24 4 48 (tcs pre)])
      (SizeOf.sizeOf (Term.mk k l n ts)) _ _ ⟨k, l, n, ts, [], d, Nat.le_refl _, h, rfl, rfl, rfl, rfl⟩ ?_ ?_
  · refine Wk.trans (tm1 := [(1, .ptr 0 0), (3, .ptr 1 0), (4, .nil)]) (H1 := [.box [.c (.int .i64 (k)), .c (.int .i64 (l)), .c (.int .i64 (n)), .c (.sl 4 48 (tcs ts))], .box [.c (.int .i64 (0)), .c (.int .i64 (0)), .c (.int .i64 (0)), .nil]]) ?_ (Wk.trans (Wk.niltmp 4 24 4 48 rfl rfl) ?_)
    · exact Wk.sel [0, 1] (by decide) (by decide) (by decide) ⟨rfl, rfl, trivial⟩ ⟨rfl, rfl, rfl, trivial⟩ rfl
    · exact Wk.sel [0, 1, 2] (by decide) (by decide) (by decide) ⟨rfl, rfl, rfl, trivial⟩ ⟨rfl, rfl, rfl, trivial⟩ rfl
  rintro m tm H ⟨k', l', n', ts', pre, d', hm, hf, hpre, hrest, rfl, rfl⟩
  conv => whnf
  refine ⟨fun hc => ?_, fun hc => ?_⟩
  · replace hc : k' = 2 := of_decide_eq_true hc
    subst hc
    obtain ⟨rfl, rfl, a, b, rfl, ha, hb⟩ := fm_pi hf
    rw [domT_pi] at hpre hrest
    have hl1 : (tcs pre).length ≤ 41 := by
      rw [len_tcs]
      have := congrArg List.length hpre
      simp at this
      omega
    obtain ⟨a1, a2, a3, a4⟩ := a
    obtain ⟨b1, b2, b3, b4⟩ := b
    conv => whnf
    refine ⟨_, ⟨by decide, rfl⟩, ?_⟩
    conv => whnf
    refine ⟨Nat.le_refl 4, ?_⟩
    conv => whnf
    refine ⟨by decide, ?_⟩
    conv => whnf
    refine ⟨by decide, ?_⟩
    conv => whnf
    have hl2 : ((tcs pre).length + 1) * 48 ≤ 140737488355328 := by omega
    have hl3 : (tcs pre).length + 1 ≤ 9223372036854775807 := by omega
    refine ⟨hl2, hl3, ?_⟩
    conv => whnf
    refine ⟨_, ⟨by decide, rfl⟩, ?_⟩
    conv => whnf
    refine ⟨Nat.le_refl 4, ?_⟩
    conv => whnf
    refine ⟨SizeOf.sizeOf (Term.mk b1 b2 b3 b4), _, _, ?_, ⟨b1, b2, b3, b4, pre ++ [.mk a1 a2 a3 a4], d' + 1, Nat.le_refl _, hb, ?_, hrest, rfl, rfl⟩, Wk.sel [0, 1, 4] (by decide) (by decide) (by decide) ⟨rfl, rfl, ?_, trivial⟩ ⟨rfl, rfl, rfl, trivial⟩ rfl⟩
    · simp at hm ⊢; omega
    · rw [← hpre, List.append_assoc]; rfl
    · rw [← tcs_snoc]; rfl
  · replace hc : ¬ k' = 2 := of_decide_eq_false hc
    rw [domT_no (t := .mk k' l' n' ts') hc] at hpre hrest
    simp only [List.append_nil] at hpre
    rw [← hpre, ← hrest]
    conv => whnf
    repeat (first | (refine ⟨rfl, ?_⟩; conv => whnf) | (refine ⟨by decide, ?_⟩; conv => whnf) | (refine draw_intro true (by kernel_rfl) ?_; conv => whnf) | (refine ⟨⟨by omega, by omega⟩, ?_⟩; conv => whnf) | (refine ⟨by omega, ?_⟩; conv => whnf) | (refine ⟨fun _ => ?_, fun h => absurd h ?_⟩; rotate_left; (focus (first | decide | (simp; done))); conv => whnf) | (refine ⟨fun h => absurd h ?_, fun _ => ?_⟩; (focus (first | decide | (simp; done))); conv => whnf))
    first | rfl | exact ⟨rfl, rfl⟩ | exact ⟨rfl, rfl, rfl⟩
end Go.Tr
/- Copy, Pi, kept; Arrow: both sides. -/
namespace Go.Tr
open Go.Proofs
/-- Within a round of a loop over a function. -/
def envY (n : Nat) : Env := ⟨lkT tab, keep, n, true⟩
theorem envY_ok (n : Nat) : EnvOk Try.prog (envY n) := EnvOk.of (l := tab) rfl (by kernel_rfl)
theorem cMap0 (f : FuncId) (g : Int → Int → Int → Int → Int × Int × Int) (ok : Term → Int → Prop) (hok : ∀ t i, ok t i → (0 ≤ i ∧ i ≤ 1000000000) ∧ ∀ (j : Nat) u, t.ts[j]? = some u → ok u (i + unT t.k j))
    (hf : ∀ t i, ok t i → CallSt Try.prog f ([.agg [.c (.int .i64 (t.k)), .c (.int .i64 (t.l)), .c (.int .i64 (t.n)), .nil], .c (.int .i64 (i))] ++ []) []
      (fun r H' => r = .agg [.c (.int .i64 ((g t.k t.l t.n i).1)), .c (.int .i64 ((g t.k t.l t.n i).2.1)), .c (.int .i64 ((g t.k t.l t.n i).2.2)), .nil] ∧ H' = [])) (t : Term) :
    ∀ (i : Int), ok t i → CallSt Try.prog 78 [tv t, .c (.int .i64 (i)), .fn f []] []
      (fun r H' => r = tv (mapT g t i) ∧ H' = []) := by
  induction t using Term.ind with
  | _ t ih =>
  intro i hti
  have hff := hf t i hti
  obtain ⟨hib, hch⟩ := hok t i hti
  obtain ⟨k, l, n, ts⟩ := t
  replace ih : ∀ u, u ∈ ts → _ := ih
  rw [tv_mk]
  refine call_pure (E := envK 0) (fn := Try.f78) (c := bodyOf Try.f78) (envK_ok 0) mixed (by kernel_rfl) (by kernel_rfl) (by kernel_rfl) (by kernel_rfl) (by kernel_rfl) (by kernel_rfl) rfl ?_
  conv => whnf
  try (refine draw_intro true (by kernel_rfl) ?_; conv => whnf)
  refine CallSt.use hff [] trivial (by decide) rfl ?_
  rintro _ _ ⟨rfl, rfl⟩ _
  conv => whnf
  simp only [Term.k, Term.l, Term.n]
  generalize hg : g k l n i = y
  obtain ⟨y1, y2, y3⟩ := y
  conv => whnf
  intro hlen
  replace hlen : (tcs ts).length * 48 ≤ 140737488355328 := hlen
  rw [len_tcs] at hlen
  conv => whnf
  refine loop_intro (fun m tm H => ∃ (j : Nat) (us : List Term), ts.length = m + j ∧ us.length = j ∧ us ++ mapL g k i j (ts.drop j) = mapL g k i 0 ts ∧
      tm = [(23, .c (.int .i64 (j))), (21, .c (.sl 4 48 (tcs ts))), (22, .c (.int .i64 ((tcs ts).length))), (1, .c (.int .i64 (i))), (2, .fn f []), (3, .ptr 0 0), (6, .ptr 1 0), (7, .ptr 2 0)] ∧
      H = [.box [.c (.int .i64 (k)), .c (.int .i64 (l)), .c (.int .i64 (n)), .c (.sl 4 48 (tcs ts))], .box [.c (.int .i64 (0)), .c (.int .i64 (0)), .c (.int .i64 (0)), .nil],
        .box [.c (.int .i64 (y1)), .c (.int .i64 (y2)), .c (.int .i64 (y3)), .own 3], .row 24 4 48 (tcs us)])
      ts.length _ _ ⟨0, [], by omega, rfl, rfl, rfl, rfl⟩ ?_ ?_
  · refine Wk.trans (H1 := [.box [.c (.int .i64 (k)), .c (.int .i64 (l)), .c (.int .i64 (n)), .c (.sl 4 48 (tcs ts))], .box [.c (.int .i64 (0)), .c (.int .i64 (0)), .c (.int .i64 (0)), .nil],
        .box [.c (.int .i64 (y1)), .c (.int .i64 (y2)), .c (.int .i64 (y3)), .nil]]) ?_ (Wk.nilrow' 2 3 24 4 48 rfl rfl rfl rfl)
    exact Wk.sel [0, 1, 2] (by decide) (by decide) (by decide) ⟨rfl, rfl, rfl, trivial⟩ ⟨rfl, rfl, rfl, rfl, rfl, rfl, rfl, rfl, trivial⟩ rfl
  rintro m tm H ⟨j, us, hj, hus, hR, rfl, rfl⟩
  conv => whnf
  refine ⟨fun hc => ?_, fun hc => ?_⟩
  · replace hc : (j : Int) < (tcs ts).length := of_decide_eq_true hc
    rw [len_tcs] at hc
    have hlt : j < ts.length := by omega
    obtain ⟨u, hu⟩ : ∃ u, ts[j]? = some u := ⟨ts[j], List.getElem?_eq_getElem hlt⟩
    have hm := List.mem_of_getElem? hu
    have huc := tcs_at ts j u hu
    have hcc := ih u hm (i + unT k j) (hch j u hu)
    have hun := c77 (.mk k l n ts) j
    have hub := unT_bd k j
    rw [drop_at hu, mapL] at hR
    obtain ⟨k', l', n', us'⟩ := u
    conv => whnf
    refine ⟨_, ⟨by omega, by simpa using huc⟩, ?_⟩
    conv => whnf
    refine ⟨Nat.le_refl 4, ?_⟩
    conv => whnf
    try (refine draw_intro true (by kernel_rfl) ?_; conv => whnf)
    refine CallSt.use hun [] trivial (by decide) rfl ?_
    rintro _ _ ⟨rfl, rfl⟩ _
    conv => whnf
    refine ⟨⟨by simp only [Term.k]; omega, by simp only [Term.k]; omega⟩, ?_⟩
    conv => whnf
    try (refine draw_intro true (by kernel_rfl) ?_; conv => whnf)
    refine CallSt.use hcc [] trivial (by decide) rfl ?_
    rintro _ _ ⟨rfl, rfl⟩ _
    generalize hv : mapT g (.mk k' l' n' us') (i + unT k j) = v at *
    obtain ⟨k3, l3, n3, us3⟩ := v
    conv => whnf
    refine ⟨by decide, ?_⟩
    conv => whnf
    refine ⟨by decide, ?_⟩
    conv => whnf
    have hl1 : (tcs us).length = j := by rw [len_tcs, hus]
    have hl2 : ((tcs us).length + 1) * 48 ≤ 140737488355328 := by omega
    have hl3 : (tcs us).length + 1 ≤ 9223372036854775807 := by omega
    refine ⟨hl2, hl3, ?_⟩
    conv => whnf
    refine ⟨⟨by omega, by omega⟩, ?_⟩
    conv => whnf
    refine ⟨m - 1, _, _, by omega, ⟨j + 1, us ++ [.mk k3 l3 n3 us3], by omega, by simp [hus], ?_, rfl, rfl⟩, Wk.sel [0, 1, 2, 6] (by decide) (by decide) (by decide) ⟨rfl, rfl, rfl, ?_, trivial⟩ ⟨rfl, rfl, rfl, rfl, rfl, rfl, rfl, rfl, trivial⟩ rfl⟩
    · rw [← hR, List.append_assoc]
      rfl
    · rw [← tcs_snoc]
      rfl
  · replace hc : ¬ (j : Int) < (tcs ts).length := of_decide_eq_false hc
    rw [len_tcs] at hc
    conv => whnf
    refine ⟨rfl, ?_⟩
    conv => whnf
    refine ⟨rfl, ?_⟩
    rw [List.drop_eq_nil_of_le (by omega), mapL, List.append_nil] at hR
    rw [mapT, hg, ← hR]
    exact ⟨rfl, rfl⟩
theorem c81 (k l n i : Int) : CallSt Try.prog 81 [.agg [.c (.int .i64 (k)), .c (.int .i64 (l)), .c (.int .i64 (n)), .nil], .c (.int .i64 (i))] [] (fun r H' => r = .agg [.c (.int .i64 (k)), .c (.int .i64 (l)), .c (.int .i64 (n)), .nil] ∧ H' = []) := by
  refine call_trim (E := env 0) (fn := Try.f81) (c := bodyOf Try.f81) (env_ok 0) mixed (by kernel_rfl) (by kernel_rfl) (by kernel_rfl) (by kernel_rfl) (by kernel_rfl) (by kernel_rfl) rfl ?_
  conv => whnf
  repeat (first | (refine And.intro rfl ?_; conv => whnf) | (refine And.intro (by decide) ?_; conv => whnf) | (refine draw_intro true (by kernel_rfl) ?_; conv => whnf) | (refine And.intro ⟨by omega, by omega⟩ ?_; conv => whnf) | (refine And.intro (by omega) ?_; conv => whnf) | (refine And.intro (fun _ => ⟨by omega, by omega⟩) ?_; conv => whnf) | (refine And.intro (fun _ => ?_) (fun h => absurd h ?_); rotate_left; (focus (first | decide | (simp; done))); conv => whnf) | (refine And.intro (fun h => absurd h ?_) (fun _ => ?_); (focus (first | decide | (simp; done))); conv => whnf))
  all_goals (first | rfl | exact ⟨rfl, rfl⟩ | exact ⟨rfl, rfl, rfl⟩)
mutual
theorem mapT_id : ∀ (t : Term) (i : Int), mapT (fun k l n _ => (k, l, n)) t i = t
  | .mk k l n ts, i => by rw [mapT, mapL_id k i ts]
theorem mapL_id (k i : Int) : ∀ (ts : List Term) (j : Int), mapL (fun k l n _ => (k, l, n)) k i j ts = ts
  | [], j => by rw [mapL]
  | t :: r, j => by rw [mapL, mapT_id t, mapL_id k i r]
end
theorem c64 (t : Term) (h : okT t 0) : CallSt Try.prog 64 [tv t] [] (fun r H' => r = tv t ∧ H' = []) := by
  have c := cMap0 81 (fun k l n _ => (k, l, n)) okT okT_step (fun t i _ => c81 t.k t.l t.n i) t 0 h
  rw [mapT_id] at c
  obtain ⟨k, l, n, ts⟩ := t
  rw [tv_mk] at *
  refine call_pure (E := env 0) (fn := Try.f64) (c := bodyOf Try.f64) (env_ok 0) mixed (by kernel_rfl) (by kernel_rfl) (by kernel_rfl) (by kernel_rfl) (by kernel_rfl) (by kernel_rfl) rfl ?_
  conv => whnf
  try (refine draw_intro true (by kernel_rfl) ?_; conv => whnf)
  refine CallSt.use c [] trivial (by decide) rfl ?_
  rintro _ _ ⟨rfl, rfl⟩ _
  conv => whnf
  repeat (first | (refine And.intro rfl ?_; conv => whnf) | (refine And.intro (by decide) ?_; conv => whnf) | (refine draw_intro true (by kernel_rfl) ?_; conv => whnf) | (refine And.intro ⟨by omega, by omega⟩ ?_; conv => whnf) | (refine And.intro (by omega) ?_; conv => whnf) | (refine And.intro (fun _ => ⟨by omega, by omega⟩) ?_; conv => whnf) | (refine And.intro (fun _ => ?_) (fun h => absurd h ?_); rotate_left; (focus (first | decide | (simp; done))); conv => whnf) | (refine And.intro (fun h => absurd h ?_) (fun _ => ?_); (focus (first | decide | (simp; done))); conv => whnf))
  all_goals (first | rfl | exact ⟨rfl, rfl⟩ | exact ⟨rfl, rfl, rfl⟩)
end Go.Tr
/- Clone, Backward; Pi, kept; Arrow. -/
namespace Go.Tr
open Go.Proofs
def piT (a b : Term) : Term := .mk 2 0 0 [a, b]
theorem c63 (a b : Term) : CallSt Try.prog 63 [tv a, tv b] [] (fun r H' => r = tv (piT a b) ∧ H' = []) := by
  obtain ⟨k, l, n, ts⟩ := a
  obtain ⟨k2, l2, n2, us⟩ := b
  rw [tv_mk, tv_mk]
  refine call_pure (E := env 0) (fn := Try.f63) (c := bodyOf Try.f63) (env_ok 0) mixed (by kernel_rfl) (by kernel_rfl) (by kernel_rfl) (by kernel_rfl) (by kernel_rfl) (by kernel_rfl) rfl ?_
  conv => whnf
  repeat (first | (refine And.intro rfl ?_; conv => whnf) | (refine And.intro (by decide) ?_; conv => whnf) | (refine draw_intro true (by kernel_rfl) ?_; conv => whnf) | (refine And.intro ⟨by omega, by omega⟩ ?_; conv => whnf) | (refine And.intro (by omega) ?_; conv => whnf) | (refine And.intro (fun _ => ⟨by omega, by omega⟩) ?_; conv => whnf) | (refine And.intro (fun _ => ?_) (fun h => absurd h ?_); rotate_left; (focus (first | decide | (simp; done))); conv => whnf) | (refine And.intro (fun h => absurd h ?_) (fun _ => ?_); (focus (first | decide | (simp; done))); conv => whnf))
  all_goals (first | rfl | exact ⟨rfl, rfl⟩ | exact ⟨rfl, rfl, rfl⟩)
theorem c65 (a b : Term) : CallSt Try.prog 65 [tv a, tv b] [] (fun r H' => r = tv (piT a b) ∧ H' = []) := by
  obtain ⟨k, l, n, ts⟩ := a
  obtain ⟨k2, l2, n2, us⟩ := b
  rw [tv_mk, tv_mk]
  refine call_pure (E := env 0) (fn := Try.f65) (c := bodyOf Try.f65) (env_ok 0) mixed (by kernel_rfl) (by kernel_rfl) (by kernel_rfl) (by kernel_rfl) (by kernel_rfl) (by kernel_rfl) rfl ?_
  conv => whnf
  repeat (first | (refine And.intro rfl ?_; conv => whnf) | (refine And.intro (by decide) ?_; conv => whnf) | (refine draw_intro true (by kernel_rfl) ?_; conv => whnf) | (refine And.intro ⟨by omega, by omega⟩ ?_; conv => whnf) | (refine And.intro (by omega) ?_; conv => whnf) | (refine And.intro (fun _ => ⟨by omega, by omega⟩) ?_; conv => whnf) | (refine And.intro (fun _ => ?_) (fun h => absurd h ?_); rotate_left; (focus (first | decide | (simp; done))); conv => whnf) | (refine And.intro (fun h => absurd h ?_) (fun _ => ?_); (focus (first | decide | (simp; done))); conv => whnf))
  all_goals (first | rfl | exact ⟨rfl, rfl⟩ | exact ⟨rfl, rfl, rfl⟩)
def keptF (t : Term) : Term × Int := match prop t with | true => (t, 0) | false => (zT, 5)
theorem c62 (t : Term) : CallSt Try.prog 62 [tv t] [] (fun r H' => r = .tup [tv (keptF t).1, .c (.int .i64 ((keptF t).2))] ∧ H' = []) := by
  have c := c14 t
  unfold keptF
  generalize prop t = p at *
  obtain ⟨k, l, n, ts⟩ := t
  rw [tv_mk] at *
  refine call_pure (E := env 0) (fn := Try.f62) (c := bodyOf Try.f62) (env_ok 0) mixed (by kernel_rfl) (by kernel_rfl) (by kernel_rfl) (by kernel_rfl) (by kernel_rfl) (by kernel_rfl) rfl ?_
  conv => whnf
  cases p with
  | true =>
    try (refine draw_intro true (by kernel_rfl) ?_; conv => whnf)
    refine CallSt.use c [] trivial (by decide) rfl ?_
    rintro _ _ ⟨rfl, rfl⟩ _
    conv => whnf
    repeat (first | (refine And.intro rfl ?_; conv => whnf) | (refine And.intro (by decide) ?_; conv => whnf) | (refine draw_intro true (by kernel_rfl) ?_; conv => whnf) | (refine And.intro ⟨by omega, by omega⟩ ?_; conv => whnf) | (refine And.intro (by omega) ?_; conv => whnf) | (refine And.intro (fun _ => ⟨by omega, by omega⟩) ?_; conv => whnf) | (refine And.intro (fun _ => ?_) (fun h => absurd h ?_); rotate_left; (focus (first | decide | (simp; done))); conv => whnf) | (refine And.intro (fun h => absurd h ?_) (fun _ => ?_); (focus (first | decide | (simp; done))); conv => whnf))
    all_goals (first | rfl | exact ⟨rfl, rfl⟩ | exact ⟨rfl, rfl, rfl⟩)
  | false =>
    try (refine draw_intro true (by kernel_rfl) ?_; conv => whnf)
    refine CallSt.use c [] trivial (by decide) rfl ?_
    rintro _ _ ⟨rfl, rfl⟩ _
    conv => whnf
    repeat (first | (refine And.intro rfl ?_; conv => whnf) | (refine And.intro (by decide) ?_; conv => whnf) | (refine draw_intro true (by kernel_rfl) ?_; conv => whnf) | (refine And.intro ⟨by omega, by omega⟩ ?_; conv => whnf) | (refine And.intro (by omega) ?_; conv => whnf) | (refine And.intro (fun _ => ⟨by omega, by omega⟩) ?_; conv => whnf) | (refine And.intro (fun _ => ?_) (fun h => absurd h ?_); rotate_left; (focus (first | decide | (simp; done))); conv => whnf) | (refine And.intro (fun h => absurd h ?_) (fun _ => ?_); (focus (first | decide | (simp; done))); conv => whnf))
    all_goals (first | rfl | exact ⟨rfl, rfl⟩ | exact ⟨rfl, rfl, rfl⟩)
theorem c66 (l : List Term) (hl : l.length * 48 ≤ 140737488351232) : CallSt Try.prog 66 [.c (.sl 4 48 (tcs l))] [] (fun r H' => (r = .nil ∧ l = [] ∧ H' = []) ∨ (r = .own 1 ∧ H' = [.dead, .row 24 4 48 (tcs l)])) := by
  refine call_intro (E := env 0) (fn := Try.f66) (c := bodyOf Try.f66) (env_ok 0) mixed (by kernel_rfl) (by kernel_rfl) (by kernel_rfl) (by kernel_rfl) (by kernel_rfl) (by kernel_rfl) rfl ?_
  conv => whnf
  intro e he
  conv => whnf
  refine ⟨fun h => ?_, fun h => ?_⟩
  · have hl : tcs l = [] := he h
    conv => whnf
    left
    refine ⟨rfl, ?_, rfl⟩
    cases l with
    | nil => rfl
    | cons a r => simp [tcs] at hl
  · conv => whnf
    repeat (first | (refine And.intro rfl ?_; conv => whnf) | (refine And.intro (by decide) ?_; conv => whnf) | (refine draw_intro true (by kernel_rfl) ?_; conv => whnf) | (refine And.intro ⟨by omega, by omega⟩ ?_; conv => whnf) | (refine And.intro (by omega) ?_; conv => whnf) | (refine And.intro (fun _ => ⟨by omega, by omega⟩) ?_; conv => whnf) | (refine And.intro (fun _ => ?_) (fun h => absurd h ?_); rotate_left; (focus (first | decide | (simp; done))); conv => whnf) | (refine And.intro (fun h => absurd h ?_) (fun _ => ?_); (focus (first | decide | (simp; done))); conv => whnf))
    have hl1 := len_tcs l
    have hl2 : (0 + (tcs l).length) * 48 ≤ 140737488355328 := by omega
    have hl3 : 0 + (tcs l).length ≤ 9223372036854775807 := by omega
    refine ⟨hl2, hl3, ?_⟩
    conv => whnf
    right
    exact ⟨rfl, rfl⟩
theorem c67 (l : List Term) : CallSt Try.prog 67 [.c (.sl 4 48 (tcs l))] [] (fun r H' => r = .fn 82 [.ptr 0 0] ∧ H' = [.box [.c (.sl 4 48 (tcs l))]]) := by
  refine call_intro (E := env 0) (fn := Try.f67) (c := bodyOf Try.f67) (env_ok 0) mixed (by kernel_rfl) (by kernel_rfl) (by kernel_rfl) (by kernel_rfl) (by kernel_rfl) (by kernel_rfl) rfl ?_
  conv => whnf
  repeat (first | (refine And.intro rfl ?_; conv => whnf) | (refine And.intro (by decide) ?_; conv => whnf) | (refine draw_intro true (by kernel_rfl) ?_; conv => whnf) | (refine And.intro ⟨by omega, by omega⟩ ?_; conv => whnf) | (refine And.intro (by omega) ?_; conv => whnf) | (refine And.intro (fun _ => ⟨by omega, by omega⟩) ?_; conv => whnf) | (refine And.intro (fun _ => ?_) (fun h => absurd h ?_); rotate_left; (focus (first | decide | (simp; done))); conv => whnf) | (refine And.intro (fun h => absurd h ?_) (fun _ => ?_); (focus (first | decide | (simp; done))); conv => whnf))
  all_goals (first | rfl | exact ⟨rfl, rfl⟩ | exact ⟨rfl, rfl, rfl⟩)
/-- Backward: the rounds come from the last element on. -/
theorem c82 {ps : Array Nat} {asg body : Code} (l : List Term) (hl : l.length * 48 ≤ 140737488351232) (step : Term → Term → Term) (hY : ∀ (s u : Term) (i : Nat), u ∈ l → YSt Try.prog 2 [.c (.int .i64 (i)), tv u] [.box [.c (.sl 4 48 (tcs l))], .box [.c (.int .i64 (s.k)), .c (.int .i64 (s.l)), .c (.int .i64 (s.n)), .c (.sl 4 48 (tcs s.ts))], .lrec .ready [(8, .ptr 1 0)] ps asg body]
      (fun r H' => r = .c (.bool true) ∧ H' = [.box [.c (.sl 4 48 (tcs l))], .box [.c (.int .i64 ((step u s).k)), .c (.int .i64 ((step u s).l)), .c (.int .i64 ((step u s).n)), .c (.sl 4 48 (tcs (step u s).ts))], .lrec .ready [(8, .ptr 1 0)] ps asg body])) (s0 : Term) :
    CallSt Try.prog 82 [.yv 2, .ptr 0 0] [.box [.c (.sl 4 48 (tcs l))], .box [.c (.int .i64 (s0.k)), .c (.int .i64 (s0.l)), .c (.int .i64 (s0.n)), .c (.sl 4 48 (tcs s0.ts))], .lrec .ready [(8, .ptr 1 0)] ps asg body]
      (fun r H' => r = .tup [] ∧ H' = [.box [.c (.sl 4 48 (tcs l))], .box [.c (.int .i64 ((l.foldr step s0).k)), .c (.int .i64 ((l.foldr step s0).l)), .c (.int .i64 ((l.foldr step s0).n)), .c (.sl 4 48 (tcs (l.foldr step s0).ts))], .lrec .ready [(8, .ptr 1 0)] ps asg body]) := by
  have hlen := len_tcs l
  refine call_pure (E := envK 3) (fn := Try.f82) (c := bodyOf Try.f82) (envK_ok 3) mixed (by kernel_rfl) (by kernel_rfl) (by kernel_rfl) (by kernel_rfl) (by kernel_rfl) (by kernel_rfl) rfl ?_
  conv => whnf
  intro _
  conv => whnf
  refine ⟨⟨by omega, by omega⟩, ?_⟩
  conv => whnf
  refine loop_intro (fun m tm H => ∃ (s : Term), m ≤ l.length ∧ (l.take m).foldr step s = l.foldr step s0 ∧
      tm = [(3, .c (.int .i64 ((m : Int) - 1))), (0, .yv 2), (1, .ptr 0 0)] ∧ H = [.box [.c (.sl 4 48 (tcs l))], .box [.c (.int .i64 (s.k)), .c (.int .i64 (s.l)), .c (.int .i64 (s.n)), .c (.sl 4 48 (tcs s.ts))], .lrec .ready [(8, .ptr 1 0)] ps asg body])
      l.length _ _ ⟨s0, Nat.le_refl _, by rw [List.take_length], rfl, rfl⟩ ?_ ?_
  · exact Wk.sel [0, 1, 2] (by decide) (by decide) (by decide) ⟨rfl, rfl, rfl, trivial⟩ ⟨by rw [← hlen]; rfl, rfl, rfl, trivial⟩ rfl
  rintro m tm H ⟨s, hm, hR, rfl, rfl⟩
  conv => whnf
  refine ⟨fun hc => ?_, fun hc => ?_⟩
  · replace hc : (0 : Int) ≤ m - 1 := of_decide_eq_true hc
    obtain ⟨i, rfl⟩ : ∃ i, m = i + 1 := ⟨m - 1, by omega⟩
    obtain ⟨u, hu⟩ : ∃ u, l[i]? = some u := ⟨l[i]'(by omega), List.getElem?_eq_getElem (by omega)⟩
    have huc := tcs_at l i u hu
    have e1 : ((i + 1 : Nat) : Int) - 1 = i := by omega
    have hy := hY s u i (List.mem_of_getElem? hu)
    rw [List.take_add_one, hu, Option.toList_some, List.foldr_append, List.foldr_cons, List.foldr_nil] at hR
    generalize step u s = s' at *
    rw [e1]
    obtain ⟨k', l', n', us⟩ := u
    rw [tv_mk] at hy
    conv => whnf
    refine ⟨_, ⟨by omega, by simpa using huc⟩, ?_⟩
    conv => whnf
    refine ⟨Nat.le_refl 4, ?_⟩
    conv => whnf
    try (refine draw_intro true (by kernel_rfl) ?_; conv => whnf)
    refine YSt.mono hy ?_
    rintro _ _ ⟨rfl, rfl⟩
    conv => whnf
    first | (refine ⟨fun _ => ?_, fun h => absurd h ?_⟩; rotate_left; (focus (first | decide | (simp; done))); conv => whnf) | (refine ⟨fun h => absurd h ?_, fun _ => ?_⟩; (focus (first | decide | (simp; done))); conv => whnf)
    refine ⟨⟨by omega, by omega⟩, ?_⟩
    conv => whnf
    exact ⟨i, _, _, by omega, ⟨s', by omega, hR, rfl, rfl⟩, Wk.sel [0, 1, 2] (by decide) (by decide) (by decide) ⟨rfl, rfl, rfl, trivial⟩ ⟨rfl, rfl, rfl, trivial⟩ rfl⟩
  · replace hc : ¬ (0 : Int) ≤ m - 1 := of_decide_eq_false hc
    obtain rfl : m = 0 := by omega
    simp only [List.take_zero, List.foldr_nil] at hR
    rw [← hR]
    conv => whnf
    repeat (first | (refine And.intro rfl ?_; conv => whnf) | (refine And.intro (by decide) ?_; conv => whnf) | (refine draw_intro true (by kernel_rfl) ?_; conv => whnf) | (refine And.intro ⟨by omega, by omega⟩ ?_; conv => whnf) | (refine And.intro (by omega) ?_; conv => whnf) | (refine And.intro (fun _ => ⟨by omega, by omega⟩) ?_; conv => whnf) | (refine And.intro (fun _ => ?_) (fun h => absurd h ?_); rotate_left; (focus (first | decide | (simp; done))); conv => whnf) | (refine And.intro (fun h => absurd h ?_) (fun _ => ?_); (focus (first | decide | (simp; done))); conv => whnf))
    all_goals (first | rfl | exact ⟨rfl, rfl⟩ | exact ⟨rfl, rfl, rfl⟩)
end Go.Tr
/- TermBack: the plain law. -/
namespace Go.Tr
open Go.Proofs
theorem shB_mv {fr k l n i b : Int} (hb : 0 ≤ b) (h : shB fr k l n i = true) : shB fr k l (n + b) i = true := by
  unfold shB at *
  simp only [Bool.and_eq_true, decide_eq_true_eq] at *
  exact ⟨h.1, by omega⟩
theorem mvG_mvG (fr n m : Int) (hn : 0 ≤ n) (k l x i : Int) : mvG fr m (mvG fr n k l x i).1 (mvG fr n k l x i).2.1 (mvG fr n k l x i).2.2 i = mvG fr (n + m) k l x i := by
  unfold mvG
  cases h : shB fr k l x i
  · simp only [h]
  · simp only [shB_mv hn h, Int.add_assoc]
mutual
theorem mapT_mapT (fr n m : Int) (hn : 0 ≤ n) : ∀ (t : Term) (i : Int), mapT (mvG fr m) (mapT (mvG fr n) t i) i = mapT (mvG fr (n + m)) t i
  | .mk k l x ts, i => by
    rw [mapT, mapT, mapT, mvG_mvG fr n m hn]
    exact congrArg (Term.mk _ _ _) (mapL_mapL fr n m hn k i ts 0)
theorem mapL_mapL (fr n m : Int) (hn : 0 ≤ n) (k i : Int) : ∀ (ts : List Term) (j : Int), mapL (mvG fr m) k i j (mapL (mvG fr n) k i j ts) = mapL (mvG fr (n + m)) k i j ts
  | [], j => by rw [mapL, mapL, mapL]
  | t :: r, j => by rw [mapL, mapL, mapL, mapT_mapT fr n m hn t, mapL_mapL fr n m hn k i r]
end
mutual
theorem mapT_zero (fr : Int) : ∀ (t : Term) (i : Int), mapT (mvG fr 0) t i = t
  | .mk k l x ts, i => by
    rw [mapT, mapL_zero fr k i ts]
    unfold mvG
    cases shB fr k l x i <;> simp
theorem mapL_zero (fr k i : Int) : ∀ (ts : List Term) (j : Int), mapL (mvG fr 0) k i j ts = ts
  | [], j => by rw [mapL]
  | t :: r, j => by rw [mapL, mapT_zero fr t, mapL_zero fr k i r]
end
theorem mapT_k (g : Int → Int → Int → Int → Int × Int × Int) (t : Term) (i : Int) : (mapT g t i).k = (g t.k t.l t.n i).1 := by cases t; rfl
mutual
theorem lowT_mv (fr n : Int) (hn : 0 ≤ n) : ∀ (t : Term) (i : Int), lowT (mapT (mvG fr n) t i) (fr + i) (fr + n - 1 + i) = false
  | .mk k l x ts, i => by
    rw [mapT, lowT, Bool.or_eq_false_iff]
    refine ⟨?_, ?_⟩
    · unfold mvG
      cases h : shB fr k l x i
      · simp only
        unfold shB at h
        unfold lowB
        simp only [Bool.and_eq_false_iff, decide_eq_false_iff_not] at h ⊢
        omega
      · simp only
        unfold shB at h
        unfold lowB
        simp only [Bool.and_eq_true, decide_eq_true_eq] at h
        simp only [Bool.and_eq_false_iff, decide_eq_false_iff_not]
        omega
    · exact lowL_mv fr n hn k i ts 0
theorem lowL_mv (fr n : Int) (hn : 0 ≤ n) (k i : Int) : ∀ (ts : List Term) (j : Int), lowL k j (mapL (mvG fr n) k i j ts) (fr + i) (fr + n - 1 + i) = false
  | [], j => by rw [mapL, lowL]
  | t :: r, j => by
    rw [mapL, lowL, lowL_mv fr n hn k i r, Int.add_assoc, Int.add_assoc, lowT_mv fr n hn t]
    rfl
end
mutual
theorem ovT_mv (fr n m : Int) (hn : 0 ≤ n) : ∀ (t : Term) (i : Int), ovT fr m (mapT (mvG fr n) t i) i = ovT fr (n + m) t i
  | .mk k l x ts, i => by
    rw [mapT, ovT, ovT]
    congr 1
    · unfold mvG
      cases h : shB fr k l x i
      · simp only [h, Bool.false_and]
      · simp only [shB_mv hn h, Int.add_assoc]
    · exact ovL_mv fr n m hn k i ts 0
theorem ovL_mv (fr n m : Int) (hn : 0 ≤ n) (k i : Int) : ∀ (ts : List Term) (j : Int), ovL fr m k i j (mapL (mvG fr n) k i j ts) = ovL fr (n + m) k i j ts
  | [], j => by rw [mapL, ovL, ovL]
  | t :: r, j => by rw [mapL, ovL, ovL, ovT_mv fr n m hn t, ovL_mv fr n m hn k i r]
end
theorem shEach_pos (t : Term) (b fr : Int) (hb : 0 ≤ b) : shEach t b fr = (false, ovT fr b t 0) := by
  rw [shEach_eq]
  unfold rLow
  rw [show decide (b < 0) = false by simp; omega, Bool.false_and]
theorem shBad_no (t : Term) (b fr : Int) (h : prop t = true) (hb : -9999 ≤ b ∧ b ≤ 9999) (hf : 0 ≤ fr ∧ fr ≤ 9999) : shBad t b fr = false := by
  unfold shBad
  rw [h]
  simp
  omega
theorem shiftF_pos (t : Term) (b fr : Int) (h : prop t = true) (hb : 0 ≤ b ∧ b ≤ 9999) (hf : 0 ≤ fr ∧ fr ≤ 9999) : shiftF t b fr = match ovT fr b t 0 with | true => (zT, 5) | false => (mapT (mvG fr b) t 0, 0) := by
  unfold shiftF
  rw [shBad_no t b fr h ⟨by omega, hb.2⟩ hf, shEach_pos t b fr hb.1]
  all_goals (cases ovT fr b t 0 <;> rfl)
theorem prop_mv (t : Term) (b fr : Int) (h : prop t = true) (hb : 0 ≤ b ∧ b ≤ 9999) (hf : 0 ≤ fr ∧ fr ≤ 9999) (ho : ovT fr b t 0 = false) : prop (mapT (mvG fr b) t 0) = true := by
  have h1 := shift_eq t b fr
  rw [shiftF_pos t b fr h hb hf, ho] at h1
  unfold rshiftF at h1
  dsimp only at h1
  split at h1
  · simp at h1
  · split at h1
    · simp at h1
    · split at h1
      · rename_i h3
        rw [prop_rprop]; exact h3
      · simp at h1
mutual
theorem ovT_zero' (fr : Int) : ∀ (t : Term) (d c i : Int), (propT t d c).1 = true → ovT fr 0 t i = false
  | .mk k l x ts, d, c, i, h => by
    unfold propT at h
    split at h
    · cases h
    · split at h
      · rename_i hh
        have := headOk_n hh
        rw [ovT, ovL_zero' fr k i ts d (c + 1) 0 h, show decide (9999 < x + 0) = false by simp; omega, Bool.and_false]
        rfl
      · cases h
theorem ovL_zero' (fr k i : Int) : ∀ (ts : List Term) (d c j : Int), (propL ts d c).1 = true → ovL fr 0 k i j ts = false
  | [], d, c, j, h => by rw [ovL]
  | t :: r, d, c, j, h => by
    have h1 := ovT_zero' fr t (d + 1) c (i + unT k j)
    unfold propL at h
    generalize propT t (d + 1) c = x at *
    obtain ⟨b, c'⟩ := x
    cases b
    · cases h
    · rw [ovL, h1 rfl, ovL_zero' fr k i r d c' (j + 1) h]
      rfl
end
theorem ovT_zero (fr : Int) (t : Term) (h : prop t = true) : ovT fr 0 t 0 = false := ovT_zero' fr t 1 0 0 h
theorem back (t : Term) (n m fr : Int) (h : prop t = true) (hn : 0 ≤ n ∧ n ≤ 49) (hm : 0 ≤ m ∧ m ≤ 49) (hf : 0 ≤ fr ∧ fr ≤ 49) :
    (shiftF t n fr = (zT, 5)) ∨ (∃ a, shiftF t n fr = (a, 0) ∧ shiftF a (-n) fr = (t, 0) ∧ shiftF a m fr = shiftF t (n + m) fr ∧ ((shiftF a m fr).2 = 0 ∨ (shiftF a m fr).2 = 5)) := by
  rw [shiftF_pos t n fr h ⟨hn.1, by omega⟩ ⟨hf.1, by omega⟩]
  cases ho : ovT fr n t 0 with
  | true => exact .inl rfl
  | false =>
    right
    have hp := prop_mv t n fr h ⟨hn.1, by omega⟩ ⟨hf.1, by omega⟩ ho
    refine ⟨_, rfl, ?_, ?_, ?_⟩
    · unfold shiftF
      rw [shBad_no _ (-n) fr hp ⟨by omega, by omega⟩ ⟨hf.1, by omega⟩, shEach_eq]
      have h1 : rLow (mapT (mvG fr n) t 0) (-n) fr = false := by
        unfold rLow
        have := lowT_mv fr n hn.1 t 0
        rw [Int.add_zero, Int.add_zero] at this
        rw [show fr - -n - 1 = fr + n - 1 by omega, this, Bool.and_false]
      have h2 : ovT fr (-n) (mapT (mvG fr n) t 0) 0 = false := by
        rw [ovT_mv fr n (-n) hn.1, Int.add_right_neg]
        exact ovT_zero fr t h
      rw [h1, h2]
      simp only
      rw [mapT_mapT fr n (-n) hn.1, Int.add_right_neg, mapT_zero]
    · rw [shiftF_pos _ m fr hp ⟨hm.1, by omega⟩ ⟨hf.1, by omega⟩, shiftF_pos t (n + m) fr h ⟨by omega, by omega⟩ ⟨hf.1, by omega⟩, ovT_mv fr n m hn.1, mapT_mapT fr n m hn.1]
    · rw [shiftF_pos _ m fr hp ⟨hm.1, by omega⟩ ⟨hf.1, by omega⟩]
      cases ovT fr m (mapT (mvG fr n) t 0) 0
      · exact .inl rfl
      · exact .inr rfl
end Go.Tr
/- Arrow, Join: both sides. -/
namespace Go.Tr
open Go.Proofs
mutual
theorem fm_mono : ∀ (t : Term) (d d' : Int), fmT t d = true → d' ≤ d → fmT t d' = true
  | .mk k l n ts, d, d', h, hd => by
    unfold fmT at h ⊢
    simp only [Bool.and_eq_true, Bool.not_eq_true', decide_eq_false_iff_not] at h ⊢
    exact ⟨⟨by omega, h.1.2⟩, fmL_mono ts d d' h.2 hd⟩
theorem fmL_mono : ∀ (ts : List Term) (d d' : Int), fmL ts d = true → d' ≤ d → fmL ts d' = true
  | [], d, d', _, _ => by rw [fmL]
  | t :: r, d, d', h, hd => by
    rw [fmL, Bool.and_eq_true] at h ⊢
    exact ⟨fm_mono t (d + 1) (d' + 1) h.1 (by omega), fmL_mono r d d' h.2 hd⟩
end
theorem prop_pi {a b : Term} (h : prop (piT a b) = true) : prop a = true ∧ prop b = true := by
  rw [prop_rprop, rprop_iff, Bool.and_eq_true, decide_eq_true_eq] at h
  obtain ⟨h1, h2⟩ := h
  obtain ⟨_, _, a', b', he, h3, h4⟩ := fm_pi h2
  injection he with e1 he
  injection he with e2 _
  subst e1 e2
  unfold piT at h1
  simp only [szT, szL] at h1
  have ha := szT_pos a
  have hb := szT_pos b
  rw [prop_rprop, rprop_iff, prop_rprop, rprop_iff, Bool.and_eq_true, decide_eq_true_eq, Bool.and_eq_true, decide_eq_true_eq]
  exact ⟨⟨by omega, fm_mono _ _ _ h3 (by omega)⟩, ⟨by omega, fm_mono _ _ _ h4 (by omega)⟩⟩
def arrF (a b : Term) : Term × Int := match prop a && prop b with
  | false => (zT, 2)
  | true => match ovT 0 1 b 0 with
    | true => (zT, 5)
    | false => keptF (piT a (mapT (mvG 0 1) b 0))
theorem arr_eq (a b : Term) (h : prop a = true) (h2 : prop b = true) : arrF a b = match prop (piT a (mapT (mvG 0 1) b 0)) with | true => (piT a (mapT (mvG 0 1) b 0), 0) | false => (zT, 5) := by
  unfold arrF keptF
  rw [h, h2]
  cases ho : ovT 0 1 b 0 with
  | false => rfl
  | true =>
    have h3 : prop (mapT (mvG 0 1) b 0) = false := by
      have h1 := shift_eq b 1 0
      rw [shiftF_pos b 1 0 h2 ⟨by omega, by omega⟩ ⟨by omega, by omega⟩, ho] at h1
      unfold rshiftF at h1
      dsimp only at h1
      split at h1
      · simp at h1
      · split at h1
        · simp at h1
        · split at h1
          · simp at h1
          · rename_i h3
            rw [prop_rprop]; exact h3
    have h4 : prop (piT a (mapT (mvG 0 1) b 0)) = false := by
      cases h5 : prop (piT a (mapT (mvG 0 1) b 0)) with
      | false => rfl
      | true =>
        rw [(prop_pi h5).2] at h3
        cases h3
    rw [h4]
    rfl
theorem c28 (a b : Term) : CallSt Try.prog 28 [tv a, tv b] [] (fun r H' => r = .tup [tv (arrF a b).1, .c (.int .i64 ((arrF a b).2))] ∧ H' = []) := by
  have ca := c14 a
  have cb := c14 b
  have cs := c19 b 1 0
  have cc := fun h => c64 a (prop_ok h)
  have cp := c63 a (mapT (mvG 0 1) b 0)
  have ck := c62 (piT a (mapT (mvG 0 1) b 0))
  have hsp := fun h => shiftF_pos b 1 0 h ⟨by omega, by omega⟩ ⟨by omega, by omega⟩
  unfold arrF
  generalize mapT (mvG 0 1) b 0 = c at *
  generalize keptF (piT a c) = kp at *
  generalize piT a c = pc at *
  generalize prop a = p at *
  generalize prop b = q at *
  generalize ovT 0 1 b 0 = o at *
  generalize shiftF b 1 0 = sh at *
  obtain ⟨k, l, n, ts⟩ := a
  obtain ⟨k2, l2, n2, us⟩ := b
  obtain ⟨k3, l3, n3, vs⟩ := c
  obtain ⟨k4, l4, n4, xs⟩ := pc
  obtain ⟨⟨k5, l5, n5, ys⟩, e5⟩ := kp
  rw [tv_mk, tv_mk] at *
  refine call_pure (E := env 0) (fn := Try.f28) (c := bodyOf Try.f28) (env_ok 0) mixed (by kernel_rfl) (by kernel_rfl) (by kernel_rfl) (by kernel_rfl) (by kernel_rfl) (by kernel_rfl) rfl ?_
  conv => whnf
  cases p with
  | false =>
    try (refine draw_intro true (by kernel_rfl) ?_; conv => whnf)
    refine CallSt.use ca [] trivial (by decide) rfl ?_
    rintro _ _ ⟨rfl, rfl⟩ _
    conv => whnf
    repeat (first | (refine And.intro rfl ?_; conv => whnf) | (refine And.intro (by decide) ?_; conv => whnf) | (refine draw_intro true (by kernel_rfl) ?_; conv => whnf) | (refine And.intro ⟨by omega, by omega⟩ ?_; conv => whnf) | (refine And.intro (by omega) ?_; conv => whnf) | (refine And.intro (fun _ => ⟨by omega, by omega⟩) ?_; conv => whnf) | (refine And.intro (fun _ => ?_) (fun h => absurd h ?_); rotate_left; (focus (first | decide | (simp; done))); conv => whnf) | (refine And.intro (fun h => absurd h ?_) (fun _ => ?_); (focus (first | decide | (simp; done))); conv => whnf))
    all_goals (first | rfl | exact ⟨rfl, rfl⟩ | exact ⟨rfl, rfl, rfl⟩)
  | true =>
  cases q with
  | false =>
    try (refine draw_intro true (by kernel_rfl) ?_; conv => whnf)
    refine CallSt.use ca [] trivial (by decide) rfl ?_
    rintro _ _ ⟨rfl, rfl⟩ _
    conv => whnf
    repeat (first | (refine And.intro rfl ?_; conv => whnf) | (refine And.intro (by decide) ?_; conv => whnf) | (refine draw_intro true (by kernel_rfl) ?_; conv => whnf) | (refine And.intro ⟨by omega, by omega⟩ ?_; conv => whnf) | (refine And.intro (by omega) ?_; conv => whnf) | (refine And.intro (fun _ => ⟨by omega, by omega⟩) ?_; conv => whnf) | (refine And.intro (fun _ => ?_) (fun h => absurd h ?_); rotate_left; (focus (first | decide | (simp; done))); conv => whnf) | (refine And.intro (fun h => absurd h ?_) (fun _ => ?_); (focus (first | decide | (simp; done))); conv => whnf))
    try (refine draw_intro true (by kernel_rfl) ?_; conv => whnf)
    refine CallSt.use cb [] trivial (by decide) rfl ?_
    rintro _ _ ⟨rfl, rfl⟩ _
    conv => whnf
    repeat (first | (refine And.intro rfl ?_; conv => whnf) | (refine And.intro (by decide) ?_; conv => whnf) | (refine draw_intro true (by kernel_rfl) ?_; conv => whnf) | (refine And.intro ⟨by omega, by omega⟩ ?_; conv => whnf) | (refine And.intro (by omega) ?_; conv => whnf) | (refine And.intro (fun _ => ⟨by omega, by omega⟩) ?_; conv => whnf) | (refine And.intro (fun _ => ?_) (fun h => absurd h ?_); rotate_left; (focus (first | decide | (simp; done))); conv => whnf) | (refine And.intro (fun h => absurd h ?_) (fun _ => ?_); (focus (first | decide | (simp; done))); conv => whnf))
    all_goals (first | rfl | exact ⟨rfl, rfl⟩ | exact ⟨rfl, rfl, rfl⟩)
  | true =>
  have hsp := hsp rfl
  cases o with
  | true =>
    dsimp only at hsp
    subst hsp
    try (refine draw_intro true (by kernel_rfl) ?_; conv => whnf)
    refine CallSt.use ca [] trivial (by decide) rfl ?_
    rintro _ _ ⟨rfl, rfl⟩ _
    conv => whnf
    repeat (first | (refine And.intro rfl ?_; conv => whnf) | (refine And.intro (by decide) ?_; conv => whnf) | (refine draw_intro true (by kernel_rfl) ?_; conv => whnf) | (refine And.intro ⟨by omega, by omega⟩ ?_; conv => whnf) | (refine And.intro (by omega) ?_; conv => whnf) | (refine And.intro (fun _ => ⟨by omega, by omega⟩) ?_; conv => whnf) | (refine And.intro (fun _ => ?_) (fun h => absurd h ?_); rotate_left; (focus (first | decide | (simp; done))); conv => whnf) | (refine And.intro (fun h => absurd h ?_) (fun _ => ?_); (focus (first | decide | (simp; done))); conv => whnf))
    try (refine draw_intro true (by kernel_rfl) ?_; conv => whnf)
    refine CallSt.use cb [] trivial (by decide) rfl ?_
    rintro _ _ ⟨rfl, rfl⟩ _
    conv => whnf
    repeat (first | (refine And.intro rfl ?_; conv => whnf) | (refine And.intro (by decide) ?_; conv => whnf) | (refine draw_intro true (by kernel_rfl) ?_; conv => whnf) | (refine And.intro ⟨by omega, by omega⟩ ?_; conv => whnf) | (refine And.intro (by omega) ?_; conv => whnf) | (refine And.intro (fun _ => ⟨by omega, by omega⟩) ?_; conv => whnf) | (refine And.intro (fun _ => ?_) (fun h => absurd h ?_); rotate_left; (focus (first | decide | (simp; done))); conv => whnf) | (refine And.intro (fun h => absurd h ?_) (fun _ => ?_); (focus (first | decide | (simp; done))); conv => whnf))
    try (refine draw_intro true (by kernel_rfl) ?_; conv => whnf)
    refine CallSt.use cs [] trivial (by decide) rfl ?_
    rintro _ _ ⟨rfl, rfl⟩ _
    conv => whnf
    repeat (first | (refine And.intro rfl ?_; conv => whnf) | (refine And.intro (by decide) ?_; conv => whnf) | (refine draw_intro true (by kernel_rfl) ?_; conv => whnf) | (refine And.intro ⟨by omega, by omega⟩ ?_; conv => whnf) | (refine And.intro (by omega) ?_; conv => whnf) | (refine And.intro (fun _ => ⟨by omega, by omega⟩) ?_; conv => whnf) | (refine And.intro (fun _ => ?_) (fun h => absurd h ?_); rotate_left; (focus (first | decide | (simp; done))); conv => whnf) | (refine And.intro (fun h => absurd h ?_) (fun _ => ?_); (focus (first | decide | (simp; done))); conv => whnf))
    all_goals (first | rfl | exact ⟨rfl, rfl⟩ | exact ⟨rfl, rfl, rfl⟩)
  | false =>
    dsimp only at hsp
    subst hsp
    try (refine draw_intro true (by kernel_rfl) ?_; conv => whnf)
    refine CallSt.use ca [] trivial (by decide) rfl ?_
    rintro _ _ ⟨rfl, rfl⟩ _
    conv => whnf
    repeat (first | (refine And.intro rfl ?_; conv => whnf) | (refine And.intro (by decide) ?_; conv => whnf) | (refine draw_intro true (by kernel_rfl) ?_; conv => whnf) | (refine And.intro ⟨by omega, by omega⟩ ?_; conv => whnf) | (refine And.intro (by omega) ?_; conv => whnf) | (refine And.intro (fun _ => ⟨by omega, by omega⟩) ?_; conv => whnf) | (refine And.intro (fun _ => ?_) (fun h => absurd h ?_); rotate_left; (focus (first | decide | (simp; done))); conv => whnf) | (refine And.intro (fun h => absurd h ?_) (fun _ => ?_); (focus (first | decide | (simp; done))); conv => whnf))
    try (refine draw_intro true (by kernel_rfl) ?_; conv => whnf)
    refine CallSt.use cb [] trivial (by decide) rfl ?_
    rintro _ _ ⟨rfl, rfl⟩ _
    conv => whnf
    repeat (first | (refine And.intro rfl ?_; conv => whnf) | (refine And.intro (by decide) ?_; conv => whnf) | (refine draw_intro true (by kernel_rfl) ?_; conv => whnf) | (refine And.intro ⟨by omega, by omega⟩ ?_; conv => whnf) | (refine And.intro (by omega) ?_; conv => whnf) | (refine And.intro (fun _ => ⟨by omega, by omega⟩) ?_; conv => whnf) | (refine And.intro (fun _ => ?_) (fun h => absurd h ?_); rotate_left; (focus (first | decide | (simp; done))); conv => whnf) | (refine And.intro (fun h => absurd h ?_) (fun _ => ?_); (focus (first | decide | (simp; done))); conv => whnf))
    try (refine draw_intro true (by kernel_rfl) ?_; conv => whnf)
    refine CallSt.use cs [] trivial (by decide) rfl ?_
    rintro _ _ ⟨rfl, rfl⟩ _
    conv => whnf
    repeat (first | (refine And.intro rfl ?_; conv => whnf) | (refine And.intro (by decide) ?_; conv => whnf) | (refine draw_intro true (by kernel_rfl) ?_; conv => whnf) | (refine And.intro ⟨by omega, by omega⟩ ?_; conv => whnf) | (refine And.intro (by omega) ?_; conv => whnf) | (refine And.intro (fun _ => ⟨by omega, by omega⟩) ?_; conv => whnf) | (refine And.intro (fun _ => ?_) (fun h => absurd h ?_); rotate_left; (focus (first | decide | (simp; done))); conv => whnf) | (refine And.intro (fun h => absurd h ?_) (fun _ => ?_); (focus (first | decide | (simp; done))); conv => whnf))
    try (refine draw_intro true (by kernel_rfl) ?_; conv => whnf)
    refine CallSt.use (cc rfl) [] trivial (by decide) rfl ?_
    rintro _ _ ⟨rfl, rfl⟩ _
    conv => whnf
    try (refine draw_intro true (by kernel_rfl) ?_; conv => whnf)
    refine CallSt.use cp [] trivial (by decide) rfl ?_
    rintro _ _ ⟨rfl, rfl⟩ _
    conv => whnf
    try (refine draw_intro true (by kernel_rfl) ?_; conv => whnf)
    refine CallSt.use ck [] trivial (by decide) rfl ?_
    rintro _ _ ⟨rfl, rfl⟩ _
    conv => whnf
    repeat (first | (refine And.intro rfl ?_; conv => whnf) | (refine And.intro (by decide) ?_; conv => whnf) | (refine draw_intro true (by kernel_rfl) ?_; conv => whnf) | (refine And.intro ⟨by omega, by omega⟩ ?_; conv => whnf) | (refine And.intro (by omega) ?_; conv => whnf) | (refine And.intro (fun _ => ⟨by omega, by omega⟩) ?_; conv => whnf) | (refine And.intro (fun _ => ?_) (fun h => absurd h ?_); rotate_left; (focus (first | decide | (simp; done))); conv => whnf) | (refine And.intro (fun h => absurd h ?_) (fun _ => ?_); (focus (first | decide | (simp; done))); conv => whnf))
    all_goals (first | rfl | exact ⟨rfl, rfl⟩ | exact ⟨rfl, rfl, rfl⟩)
theorem c29 (a b : Term) : CallSt Try.prog 29 [tv a, tv b] [] (fun r H' => r = .tup [tv (arrF a b).1, .c (.int .i64 ((arrF a b).2))] ∧ H' = []) := by
  have ca := c16 a
  have cb := c16 b
  have cm := fun h => c58 0 1 ⟨by omega, by omega⟩ ⟨by omega, by omega⟩ b 0 (prop_ok h)
  have cp := c65 a (mapT (mvG 0 1) b 0)
  have ck := c16 (piT a (mapT (mvG 0 1) b 0))
  have he := arr_eq a b
  have hn : (prop a && prop b) = false → arrF a b = (zT, 2) := fun h => by unfold arrF; rw [h]
  rw [← prop_rprop] at ca cb ck
  generalize arrF a b = r at *
  generalize mapT (mvG 0 1) b 0 = c at *
  generalize piT a c = pc at *
  generalize prop a = p at *
  generalize prop b = q at *
  generalize prop pc = o at *
  obtain ⟨k, l, n, ts⟩ := a
  obtain ⟨k2, l2, n2, us⟩ := b
  obtain ⟨k3, l3, n3, vs⟩ := c
  obtain ⟨k4, l4, n4, xs⟩ := pc
  rw [tv_mk, tv_mk] at *
  refine call_pure (E := env 0) (fn := Try.f29) (c := bodyOf Try.f29) (env_ok 0) mixed (by kernel_rfl) (by kernel_rfl) (by kernel_rfl) (by kernel_rfl) (by kernel_rfl) (by kernel_rfl) rfl ?_
  conv => whnf
  cases p with
  | false =>
    rw [hn rfl]
    try (refine draw_intro true (by kernel_rfl) ?_; conv => whnf)
    refine CallSt.use ca [] trivial (by decide) rfl ?_
    rintro _ _ ⟨rfl, rfl⟩ _
    conv => whnf
    repeat (first | (refine And.intro rfl ?_; conv => whnf) | (refine And.intro (by decide) ?_; conv => whnf) | (refine draw_intro true (by kernel_rfl) ?_; conv => whnf) | (refine And.intro ⟨by omega, by omega⟩ ?_; conv => whnf) | (refine And.intro (by omega) ?_; conv => whnf) | (refine And.intro (fun _ => ⟨by omega, by omega⟩) ?_; conv => whnf) | (refine And.intro (fun _ => ?_) (fun h => absurd h ?_); rotate_left; (focus (first | decide | (simp; done))); conv => whnf) | (refine And.intro (fun h => absurd h ?_) (fun _ => ?_); (focus (first | decide | (simp; done))); conv => whnf))
    all_goals (first | rfl | exact ⟨rfl, rfl⟩ | exact ⟨rfl, rfl, rfl⟩)
  | true =>
  cases q with
  | false =>
    rw [hn rfl]
    try (refine draw_intro true (by kernel_rfl) ?_; conv => whnf)
    refine CallSt.use ca [] trivial (by decide) rfl ?_
    rintro _ _ ⟨rfl, rfl⟩ _
    conv => whnf
    repeat (first | (refine And.intro rfl ?_; conv => whnf) | (refine And.intro (by decide) ?_; conv => whnf) | (refine draw_intro true (by kernel_rfl) ?_; conv => whnf) | (refine And.intro ⟨by omega, by omega⟩ ?_; conv => whnf) | (refine And.intro (by omega) ?_; conv => whnf) | (refine And.intro (fun _ => ⟨by omega, by omega⟩) ?_; conv => whnf) | (refine And.intro (fun _ => ?_) (fun h => absurd h ?_); rotate_left; (focus (first | decide | (simp; done))); conv => whnf) | (refine And.intro (fun h => absurd h ?_) (fun _ => ?_); (focus (first | decide | (simp; done))); conv => whnf))
    try (refine draw_intro true (by kernel_rfl) ?_; conv => whnf)
    refine CallSt.use cb [] trivial (by decide) rfl ?_
    rintro _ _ ⟨rfl, rfl⟩ _
    conv => whnf
    repeat (first | (refine And.intro rfl ?_; conv => whnf) | (refine And.intro (by decide) ?_; conv => whnf) | (refine draw_intro true (by kernel_rfl) ?_; conv => whnf) | (refine And.intro ⟨by omega, by omega⟩ ?_; conv => whnf) | (refine And.intro (by omega) ?_; conv => whnf) | (refine And.intro (fun _ => ⟨by omega, by omega⟩) ?_; conv => whnf) | (refine And.intro (fun _ => ?_) (fun h => absurd h ?_); rotate_left; (focus (first | decide | (simp; done))); conv => whnf) | (refine And.intro (fun h => absurd h ?_) (fun _ => ?_); (focus (first | decide | (simp; done))); conv => whnf))
    all_goals (first | rfl | exact ⟨rfl, rfl⟩ | exact ⟨rfl, rfl, rfl⟩)
  | true =>
    rw [he rfl rfl]
    try (refine draw_intro true (by kernel_rfl) ?_; conv => whnf)
    refine CallSt.use ca [] trivial (by decide) rfl ?_
    rintro _ _ ⟨rfl, rfl⟩ _
    conv => whnf
    repeat (first | (refine And.intro rfl ?_; conv => whnf) | (refine And.intro (by decide) ?_; conv => whnf) | (refine draw_intro true (by kernel_rfl) ?_; conv => whnf) | (refine And.intro ⟨by omega, by omega⟩ ?_; conv => whnf) | (refine And.intro (by omega) ?_; conv => whnf) | (refine And.intro (fun _ => ⟨by omega, by omega⟩) ?_; conv => whnf) | (refine And.intro (fun _ => ?_) (fun h => absurd h ?_); rotate_left; (focus (first | decide | (simp; done))); conv => whnf) | (refine And.intro (fun h => absurd h ?_) (fun _ => ?_); (focus (first | decide | (simp; done))); conv => whnf))
    try (refine draw_intro true (by kernel_rfl) ?_; conv => whnf)
    refine CallSt.use cb [] trivial (by decide) rfl ?_
    rintro _ _ ⟨rfl, rfl⟩ _
    conv => whnf
    repeat (first | (refine And.intro rfl ?_; conv => whnf) | (refine And.intro (by decide) ?_; conv => whnf) | (refine And.intro ⟨by omega, by omega⟩ ?_; conv => whnf) | (refine And.intro (by omega) ?_; conv => whnf) | (refine And.intro (fun _ => ⟨by omega, by omega⟩) ?_; conv => whnf) | (refine And.intro (fun _ => ?_) (fun h => absurd h ?_); rotate_left; (focus (first | decide | (simp; done))); conv => whnf) | (refine And.intro (fun h => absurd h ?_) (fun _ => ?_); (focus (first | decide | (simp; done))); conv => whnf))
    have cm := cm rfl
    refine draw_wk [(6, .ptr 3 0), (4, .ptr 2 0), (5, .c (.int .i64 (0)))] [.box [.c (.int .i64 (k)), .c (.int .i64 (l)), .c (.int .i64 (n)), .c (.sl 4 48 (tcs ts))], .box [.c (.int .i64 (k2)), .c (.int .i64 (l2)), .c (.int .i64 (n2)), .c (.sl 4 48 (tcs us))], .box [.c (.int .i64 (0)), .c (.int .i64 (0)), .c (.int .i64 (0)), .nil], .box [.c (.int .i64 (k4)), .c (.int .i64 (l4)), .c (.int .i64 (n4)), .c (.sl 4 48 (tcs xs))]] ?_ ?_
    · refine draw_intro true (by kernel_rfl) ?_
      conv => whnf
      repeat' (first | (refine And.intro ?_ ?_ <;> conv => whnf) | (refine CallSt.use cm [] trivial (by decide) rfl ?_; rintro _ _ ⟨rfl, rfl⟩ _; conv => whnf) | (refine CallSt.use cp [] trivial (by decide) rfl ?_; rintro _ _ ⟨rfl, rfl⟩ _; conv => whnf) | exact Wk.sel [0, 1, 2, 3] (by decide) (by decide) (by decide) ⟨rfl, rfl, rfl, rfl, trivial⟩ ⟨rfl, rfl, rfl, trivial⟩ rfl)
    conv => whnf
    cases o with
    | true =>
      try (refine draw_intro true (by kernel_rfl) ?_; conv => whnf)
      refine CallSt.use ck [] trivial (by decide) rfl ?_
      rintro _ _ ⟨rfl, rfl⟩ _
      conv => whnf
      repeat (first | (refine And.intro rfl ?_; conv => whnf) | (refine And.intro (by decide) ?_; conv => whnf) | (refine draw_intro true (by kernel_rfl) ?_; conv => whnf) | (refine And.intro ⟨by omega, by omega⟩ ?_; conv => whnf) | (refine And.intro (by omega) ?_; conv => whnf) | (refine And.intro (fun _ => ⟨by omega, by omega⟩) ?_; conv => whnf) | (refine And.intro (fun _ => ?_) (fun h => absurd h ?_); rotate_left; (focus (first | decide | (simp; done))); conv => whnf) | (refine And.intro (fun h => absurd h ?_) (fun _ => ?_); (focus (first | decide | (simp; done))); conv => whnf))
      all_goals (first | rfl | exact ⟨rfl, rfl⟩ | exact ⟨rfl, rfl, rfl⟩)
    | false =>
      try (refine draw_intro true (by kernel_rfl) ?_; conv => whnf)
      refine CallSt.use ck [] trivial (by decide) rfl ?_
      rintro _ _ ⟨rfl, rfl⟩ _
      conv => whnf
      repeat (first | (refine And.intro rfl ?_; conv => whnf) | (refine And.intro (by decide) ?_; conv => whnf) | (refine draw_intro true (by kernel_rfl) ?_; conv => whnf) | (refine And.intro ⟨by omega, by omega⟩ ?_; conv => whnf) | (refine And.intro (by omega) ?_; conv => whnf) | (refine And.intro (fun _ => ⟨by omega, by omega⟩) ?_; conv => whnf) | (refine And.intro (fun _ => ?_) (fun h => absurd h ?_); rotate_left; (focus (first | decide | (simp; done))); conv => whnf) | (refine And.intro (fun h => absurd h ?_) (fun _ => ?_); (focus (first | decide | (simp; done))); conv => whnf))
      all_goals (first | rfl | exact ⟨rfl, rfl⟩ | exact ⟨rfl, rfl, rfl⟩)
end Go.Tr
/- Join: both sides. -/
namespace Go.Tr
open Go.Proofs
def joinG (b c : Bool) (l : List Term) (t : Term) : Term × Int := match b && c with
  | false => (zT, 2)
  | true => match decide (40 < l.length) with
    | true => (zT, 5)
    | false => keptF (l.foldr piT t)
def joinF (l : List Term) (t : Term) : Term × Int := joinG (l.all prop) (prop t) l t
theorem joinF_of {l : List Term} {t : Term} {b c : Bool} (h1 : l.all prop = b) (h2 : prop t = c) : joinF l t = joinG b c l t := by unfold joinF; rw [h1, h2]
theorem joinG_no {b c : Bool} {l : List Term} {t : Term} (h : (b && c) = false) : joinG b c l t = (zT, 2) := by unfold joinG; rw [h]
theorem joinG_big {l : List Term} {t : Term} (h : 40 < l.length) : joinG true true l t = (zT, 5) := by unfold joinG; rw [decide_eq_true h]; rfl
theorem joinG_ok {l : List Term} {t : Term} (h : ¬ 40 < l.length) : joinG true true l t = keptF (l.foldr piT t) := by unfold joinG; rw [decide_eq_false h]; rfl
theorem all_take {l : List Term} {i : Nat} {u : Term} (h : l[i]? = some u) : (l.take (i + 1)).all prop = ((l.take i).all prop && prop u) := by
  rw [List.take_add_one, h]
  simp
theorem all_no {l : List Term} {i : Nat} {u : Term} (h : l[i]? = some u) (hu : prop u = false) : l.all prop = false := by
  rw [List.all_eq_false]
  exact ⟨u, List.mem_of_getElem? h, by rw [hu]; simp⟩
theorem c31 (l : List Term) (hl : l.length * 48 ≤ 140737488351232) (t : Term) : CallSt Try.prog 31 [.c (.sl 4 48 (tcs l)), tv t] [] (fun r H' => r = .tup [tv (joinF l t).1, .c (.int .i64 ((joinF l t).2))] ∧ H' = []) := by
  have ct := c16 t
  have hj : ∀ b c, l.all prop = b → prop t = c → joinF l t = joinG b c l t := fun b c => joinF_of
  have hlen := len_tcs l
  rw [← prop_rprop] at ct
  generalize joinF l t = R at *
  generalize hT : t = T at *
  obtain ⟨k, l0, n, ts⟩ := t
  subst hT
  rw [tv_mk] at *
  refine call_pure (E := env 0) (fn := Try.f31) (c := bodyOf Try.f31) (env_ok 0) mixed (by kernel_rfl) (by kernel_rfl) (by kernel_rfl) (by kernel_rfl) (by kernel_rfl) (by kernel_rfl) rfl ?_
  conv => whnf
  refine loop_intro (fun m tm H => ∃ (i : Nat), l.length = m + i ∧ (l.take i).all prop = true ∧
      tm = [(6, .c (.int .i64 (i))), (0, .c (.sl 4 48 (tcs l))), (3, .ptr 0 0), (4, .ptr 1 0), (5, .c (.int .i64 (0)))] ∧ H = [.box [.c (.int .i64 (k)), .c (.int .i64 (l0)), .c (.int .i64 (n)), .c (.sl 4 48 (tcs ts))], .box [.c (.int .i64 (0)), .c (.int .i64 (0)), .c (.int .i64 (0)), .nil]])
      l.length _ _ ⟨0, by omega, by simp, rfl, rfl⟩ (Wk.sel [0, 1] (by decide) (by decide) (by decide) ⟨rfl, rfl, trivial⟩ ⟨rfl, rfl, rfl, rfl, rfl, trivial⟩ rfl) ?_
  rintro m tm H ⟨i, hi, hR, rfl, rfl⟩
  conv => whnf
  intro _
  conv => whnf
  refine ⟨fun hc => ?_, fun hc => ?_⟩
  · replace hc : (i : Int) < (tcs l).length := of_decide_eq_true hc
    obtain ⟨u, hu⟩ : ∃ u, l[i]? = some u := ⟨l[i]'(by omega), List.getElem?_eq_getElem (by omega)⟩
    have huc := tcs_at l i u hu
    have cu := c16 u
    have h1 := all_take hu
    have h2 := all_no hu
    rw [← prop_rprop] at cu
    rw [hR, Bool.true_and] at h1
    generalize prop u = p at *
    obtain ⟨k', l', n', us⟩ := u
    conv => whnf
    refine ⟨_, ⟨by omega, by simpa using huc⟩, ?_⟩
    conv => whnf
    refine ⟨Nat.le_refl 4, ?_⟩
    conv => whnf
    cases p with
    | false =>
      rw [hj _ _ (h2 rfl) rfl, joinG_no (Bool.false_and _)]
      try (refine draw_intro true (by kernel_rfl) ?_; conv => whnf)
      refine CallSt.use cu [] trivial (by decide) rfl ?_
      rintro _ _ ⟨rfl, rfl⟩ _
      conv => whnf
      repeat (first | (refine And.intro rfl ?_; conv => whnf) | (refine And.intro (by decide) ?_; conv => whnf) | (refine draw_intro true (by kernel_rfl) ?_; conv => whnf) | (refine And.intro ⟨by omega, by omega⟩ ?_; conv => whnf) | (refine And.intro (by omega) ?_; conv => whnf) | (refine And.intro (fun _ => ⟨by omega, by omega⟩) ?_; conv => whnf) | (refine And.intro (fun _ => ?_) (fun h => absurd h ?_); rotate_left; (focus (first | decide | (simp; done))); conv => whnf) | (refine And.intro (fun h => absurd h ?_) (fun _ => ?_); (focus (first | decide | (simp; done))); conv => whnf))
      all_goals (first | rfl | exact ⟨rfl, rfl⟩ | exact ⟨rfl, rfl, rfl⟩)
    | true =>
      try (refine draw_intro true (by kernel_rfl) ?_; conv => whnf)
      refine CallSt.use cu [] trivial (by decide) rfl ?_
      rintro _ _ ⟨rfl, rfl⟩ _
      conv => whnf
      first | (refine ⟨fun _ => ?_, fun h => absurd h ?_⟩; rotate_left; (focus (first | decide | (simp; done))); conv => whnf) | (refine ⟨fun h => absurd h ?_, fun _ => ?_⟩; (focus (first | decide | (simp; done))); conv => whnf)
      refine ⟨⟨by omega, by omega⟩, ?_⟩
      conv => whnf
      exact ⟨m - 1, _, _, by omega, ⟨i + 1, by omega, h1, rfl, rfl⟩, Wk.sel [0, 1] (by decide) (by decide) (by decide) ⟨rfl, rfl, trivial⟩ ⟨rfl, rfl, rfl, rfl, rfl, trivial⟩ rfl⟩
  replace hc : ¬ (i : Int) < (tcs l).length := of_decide_eq_false hc
  rw [List.take_of_length_le (by omega)] at hR
  have hj := hj _ _ hR rfl
  generalize prop (.mk k l0 n ts) = q at *
  conv => whnf
  cases q with
  | false =>
    rw [hj, joinG_no (Bool.and_false _)]
    try (refine draw_intro true (by kernel_rfl) ?_; conv => whnf)
    refine CallSt.use ct [] trivial (by decide) rfl ?_
    rintro _ _ ⟨rfl, rfl⟩ _
    conv => whnf
    repeat (first | (refine And.intro rfl ?_; conv => whnf) | (refine And.intro (by decide) ?_; conv => whnf) | (refine draw_intro true (by kernel_rfl) ?_; conv => whnf) | (refine And.intro ⟨by omega, by omega⟩ ?_; conv => whnf) | (refine And.intro (by omega) ?_; conv => whnf) | (refine And.intro (fun _ => ⟨by omega, by omega⟩) ?_; conv => whnf) | (refine And.intro (fun _ => ?_) (fun h => absurd h ?_); rotate_left; (focus (first | decide | (simp; done))); conv => whnf) | (refine And.intro (fun h => absurd h ?_) (fun _ => ?_); (focus (first | decide | (simp; done))); conv => whnf))
    all_goals (first | rfl | exact ⟨rfl, rfl⟩ | exact ⟨rfl, rfl, rfl⟩)
  | true =>
  try (refine draw_intro true (by kernel_rfl) ?_; conv => whnf)
  refine CallSt.use ct [] trivial (by decide) rfl ?_
  rintro _ _ ⟨rfl, rfl⟩ _
  conv => whnf
  first | (refine ⟨fun _ => ?_, fun h => absurd h ?_⟩; rotate_left; (focus (first | decide | (simp; done))); conv => whnf) | (refine ⟨fun h => absurd h ?_, fun _ => ?_⟩; (focus (first | decide | (simp; done))); conv => whnf)
  intro _
  conv => whnf
  refine ⟨fun hd => ?_, fun hd => ?_⟩
  · replace hd : (40 : Int) < (tcs l).length := of_decide_eq_true hd
    rw [hj, joinG_big (by omega)]
    conv => whnf
    repeat (first | (refine And.intro rfl ?_; conv => whnf) | (refine And.intro (by decide) ?_; conv => whnf) | (refine draw_intro true (by kernel_rfl) ?_; conv => whnf) | (refine And.intro ⟨by omega, by omega⟩ ?_; conv => whnf) | (refine And.intro (by omega) ?_; conv => whnf) | (refine And.intro (fun _ => ⟨by omega, by omega⟩) ?_; conv => whnf) | (refine And.intro (fun _ => ?_) (fun h => absurd h ?_); rotate_left; (focus (first | decide | (simp; done))); conv => whnf) | (refine And.intro (fun h => absurd h ?_) (fun _ => ?_); (focus (first | decide | (simp; done))); conv => whnf))
    all_goals (first | rfl | exact ⟨rfl, rfl⟩ | exact ⟨rfl, rfl, rfl⟩)
  replace hd : ¬ (40 : Int) < (tcs l).length := of_decide_eq_false hd
  rw [joinG_ok (by omega)] at hj
  conv => whnf
  intro _
  conv => whnf
  refine ⟨⟨by omega, by omega⟩, ?_⟩
  conv => whnf
  refine loop_intro (fun m tm H => ∃ (s : Term), m ≤ l.length ∧ (l.take m).foldr piT s = l.foldr piT (.mk k l0 n ts) ∧
      tm = [(7, .c (.int .i64 ((m : Int) - 1))), (0, .c (.sl 4 48 (tcs l))), (3, .ptr 0 0), (4, .ptr 1 0), (5, .c (.int .i64 (0)))] ∧ H = [.box [.c (.int .i64 (s.k)), .c (.int .i64 (s.l)), .c (.int .i64 (s.n)), .c (.sl 4 48 (tcs s.ts))], .box [.c (.int .i64 (0)), .c (.int .i64 (0)), .c (.int .i64 (0)), .nil]])
      l.length _ _ ⟨_, Nat.le_refl _, by rw [List.take_length], rfl, rfl⟩ ?_ ?_
  · exact Wk.sel [0, 1] (by decide) (by decide) (by decide) ⟨rfl, rfl, trivial⟩ ⟨by rw [← hlen]; rfl, rfl, rfl, rfl, rfl, trivial⟩ rfl
  clear hi hR hc
  rintro m tm H ⟨s, hm, hR, rfl, rfl⟩
  conv => whnf
  refine ⟨fun hc => ?_, fun hc => ?_⟩
  · replace hc : (0 : Int) ≤ m - 1 := of_decide_eq_true hc
    obtain ⟨i, rfl⟩ : ∃ i, m = i + 1 := ⟨m - 1, by omega⟩
    obtain ⟨u, hu⟩ : ∃ u, l[i]? = some u := ⟨l[i]'(by omega), List.getElem?_eq_getElem (by omega)⟩
    have huc := tcs_at l i u hu
    have e1 : ((i + 1 : Nat) : Int) - 1 = i := by omega
    have cp := c65 u s
    rw [List.take_add_one, hu, Option.toList_some, List.foldr_append, List.foldr_cons, List.foldr_nil] at hR
    generalize piT u s = s' at *
    rw [e1]
    obtain ⟨k', l', n', us⟩ := u
    obtain ⟨k3, l3, n3, vs⟩ := s
    obtain ⟨k4, l4, n4, ws⟩ := s'
    conv => whnf
    refine draw_intro true (by kernel_rfl) ?_
    conv => whnf
    refine ⟨_, ⟨by omega, by simpa using huc⟩, ?_⟩
    conv => whnf
    refine ⟨Nat.le_refl 4, ?_⟩
    conv => whnf
    try (refine draw_intro true (by kernel_rfl) ?_; conv => whnf)
    refine CallSt.use cp [] trivial (by decide) rfl ?_
    rintro _ _ ⟨rfl, rfl⟩ _
    conv => whnf
    refine ⟨⟨by omega, by omega⟩, ?_⟩
    conv => whnf
    exact ⟨i, _, _, by omega, ⟨.mk k4 l4 n4 ws, by omega, hR, rfl, rfl⟩, Wk.sel [0, 1] (by decide) (by decide) (by decide) ⟨rfl, rfl, trivial⟩ ⟨rfl, rfl, rfl, rfl, rfl, trivial⟩ rfl⟩
  · replace hc : ¬ (0 : Int) ≤ m - 1 := of_decide_eq_false hc
    obtain rfl : m = 0 := by omega
    simp only [List.take_zero, List.foldr_nil] at hR
    rw [← hR] at hj
    have cs := c16 s
    rw [← prop_rprop] at cs
    unfold keptF at hj
    generalize prop s = q at *
    obtain ⟨k3, l3, n3, vs⟩ := s
    rw [hj]
    conv => whnf
    cases q with
    | false =>
      try (refine draw_intro true (by kernel_rfl) ?_; conv => whnf)
      refine CallSt.use cs [] trivial (by decide) rfl ?_
      rintro _ _ ⟨rfl, rfl⟩ _
      conv => whnf
      repeat (first | (refine And.intro rfl ?_; conv => whnf) | (refine And.intro (by decide) ?_; conv => whnf) | (refine draw_intro true (by kernel_rfl) ?_; conv => whnf) | (refine And.intro ⟨by omega, by omega⟩ ?_; conv => whnf) | (refine And.intro (by omega) ?_; conv => whnf) | (refine And.intro (fun _ => ⟨by omega, by omega⟩) ?_; conv => whnf) | (refine And.intro (fun _ => ?_) (fun h => absurd h ?_); rotate_left; (focus (first | decide | (simp; done))); conv => whnf) | (refine And.intro (fun h => absurd h ?_) (fun _ => ?_); (focus (first | decide | (simp; done))); conv => whnf))
      all_goals (first | rfl | exact ⟨rfl, rfl⟩ | exact ⟨rfl, rfl, rfl⟩)
    | true =>
      try (refine draw_intro true (by kernel_rfl) ?_; conv => whnf)
      refine CallSt.use cs [] trivial (by decide) rfl ?_
      rintro _ _ ⟨rfl, rfl⟩ _
      conv => whnf
      repeat (first | (refine And.intro rfl ?_; conv => whnf) | (refine And.intro (by decide) ?_; conv => whnf) | (refine draw_intro true (by kernel_rfl) ?_; conv => whnf) | (refine And.intro ⟨by omega, by omega⟩ ?_; conv => whnf) | (refine And.intro (by omega) ?_; conv => whnf) | (refine And.intro (fun _ => ⟨by omega, by omega⟩) ?_; conv => whnf) | (refine And.intro (fun _ => ?_) (fun h => absurd h ?_); rotate_left; (focus (first | decide | (simp; done))); conv => whnf) | (refine And.intro (fun h => absurd h ?_) (fun _ => ?_); (focus (first | decide | (simp; done))); conv => whnf))
      all_goals (first | rfl | exact ⟨rfl, rfl⟩ | exact ⟨rfl, rfl, rfl⟩)
end Go.Tr
/- Join of the program. -/
namespace Go.Tr
open Go.Proofs
theorem c30 (l : List Term) (hl : l.length * 48 ≤ 140737488351232) (t : Term) : CallSt Try.prog 30 [.c (.sl 4 48 (tcs l)), tv t] [] (fun r H' => r = .tup [tv (joinF l t).1, .c (.int .i64 ((joinF l t).2))] ∧ H' = []) := by
  have cc := c66 l hl
  have hlen := len_tcs l
  generalize hR : joinF l t = R at *
  generalize hT : t = T at *
  obtain ⟨k, l0, n, ts⟩ := t
  subst hT
  rw [tv_mk] at *
  refine call_pure (E := env 0) (fn := Try.f30) (c := bodyOf Try.f30) (env_ok 0) mixed (by kernel_rfl) (by kernel_rfl) (by kernel_rfl) (by kernel_rfl) (by kernel_rfl) (by kernel_rfl) rfl ?_
  conv => whnf
  refine draw_wk [(17, .c (.int .i64 (0))), (16, .c (.int .i64 (((tcs l).length + 1 : Nat)))), (15, .own 2), (0, .c (.sl 4 48 (tcs l))), (3, .ptr 0 0), (4, .ptr 1 0), (5, .c (.int .i64 (0)))] [.box [.c (.int .i64 (k)), .c (.int .i64 (l0)), .c (.int .i64 (n)), .c (.sl 4 48 (tcs ts))], .box [.c (.int .i64 (0)), .c (.int .i64 (0)), .c (.int .i64 (0)), .nil], .row 24 4 48 (tcs l ++ [tc (.mk k l0 n ts)])] ?_ ?_
  · refine draw_intro true (by kernel_rfl) ?_
    conv => whnf
    have hl2 : ((tcs l).length + 1) * 48 ≤ 140737488355328 := by omega
    have hl3 : (tcs l).length + 1 ≤ 9223372036854775807 := by omega
    refine And.intro ?_ ?_
    · conv => whnf
      try (refine draw_intro true (by kernel_rfl) ?_; conv => whnf)
      refine CallSt.use cc [] trivial (by decide) rfl ?_
      rintro _ _ (⟨rfl, hnil, rfl⟩ | ⟨rfl, rfl⟩) _
      · subst hnil
        conv => whnf
        refine ⟨by decide, ?_⟩
        conv => whnf
        refine ⟨by decide, ?_⟩
        conv => whnf
        refine ⟨show 1 * 48 ≤ 140737488355328 by decide, show 1 ≤ 9223372036854775807 by decide, ?_⟩
        conv => whnf
        intro _
        conv => whnf
        exact Wk.sel [0, 1, 3] (by decide) (by decide) (by decide) ⟨rfl, rfl, rfl, trivial⟩ ⟨rfl, rfl, rfl, rfl, rfl, rfl, rfl, trivial⟩ rfl
      · conv => whnf
        refine ⟨by decide, ?_⟩
        conv => whnf
        refine ⟨by decide, ?_⟩
        conv => whnf
        refine ⟨hl2, hl3, ?_⟩
        conv => whnf
        intro _
        conv => whnf
        refine Wk.sel [0, 1, 5] (by decide) (by decide) (by decide) ⟨rfl, rfl, rfl, trivial⟩ ⟨rfl, ?_, rfl, rfl, rfl, rfl, rfl, trivial⟩ rfl
        rw [show (tcs l).length + 1 = (tcs l ++ [tc (.mk k l0 n ts)]).length by simp]
        rfl
    · conv => whnf
      refine ⟨by decide, ?_⟩
      conv => whnf
      refine ⟨by decide, ?_⟩
      conv => whnf
      try (refine draw_intro true (by kernel_rfl) ?_; conv => whnf)
      refine CallSt.use cc [] trivial (by decide) rfl ?_
      rintro _ _ (⟨rfl, hnil, rfl⟩ | ⟨rfl, rfl⟩) _
      · subst hnil
        conv => whnf
        refine ⟨show 1 * 48 ≤ 140737488355328 by decide, show 1 ≤ 9223372036854775807 by decide, ?_⟩
        conv => whnf
        intro _
        conv => whnf
        exact Wk.sel [0, 1, 3] (by decide) (by decide) (by decide) ⟨rfl, rfl, rfl, trivial⟩ ⟨rfl, rfl, rfl, rfl, rfl, rfl, rfl, trivial⟩ rfl
      · conv => whnf
        refine ⟨hl2, hl3, ?_⟩
        conv => whnf
        intro _
        conv => whnf
        refine Wk.sel [0, 1, 5] (by decide) (by decide) (by decide) ⟨rfl, rfl, rfl, trivial⟩ ⟨rfl, ?_, rfl, rfl, rfl, rfl, rfl, trivial⟩ rfl
        rw [show (tcs l).length + 1 = (tcs l ++ [tc (.mk k l0 n ts)]).length by simp]
        rfl
  conv => whnf
  have hat : ∀ (i : Nat) u, (l ++ [Term.mk k l0 n ts])[i]? = some u → (tcs l ++ [tc (.mk k l0 n ts)])[i]? = some (tc u) := fun i u h => by
    rw [tcs_snoc]; exact tcs_at _ i u h
  have hj : ∀ b c, l.all prop = b → prop (Term.mk k l0 n ts) = c → joinF l (Term.mk k l0 n ts) = joinG b c l (Term.mk k l0 n ts) := fun b c => joinF_of
  rw [hR] at hj
  have hall : ∀ b, (l ++ [Term.mk k l0 n ts]).all prop = b → (l.all prop && prop (Term.mk k l0 n ts)) = b := fun b h => by rw [← h]; simp
  refine loop_intro (fun m tm H => ∃ (i : Nat), l.length + 1 = m + i ∧ ((l ++ [Term.mk k l0 n ts]).take i).all prop = true ∧
      tm = [(17, .c (.int .i64 (i))), (16, .c (.int .i64 (((tcs l).length + 1 : Nat)))), (15, .own 2), (0, .c (.sl 4 48 (tcs l))), (3, .ptr 0 0), (4, .ptr 1 0), (5, .c (.int .i64 (0)))] ∧ H = [.box [.c (.int .i64 (k)), .c (.int .i64 (l0)), .c (.int .i64 (n)), .c (.sl 4 48 (tcs ts))], .box [.c (.int .i64 (0)), .c (.int .i64 (0)), .c (.int .i64 (0)), .nil], .row 24 4 48 (tcs l ++ [tc (.mk k l0 n ts)])])
      (l.length + 1) _ _ ⟨0, by omega, by simp, rfl, rfl⟩ (Wk.sel [0, 1, 2] (by decide) (by decide) (by decide) ⟨rfl, rfl, rfl, trivial⟩ ⟨rfl, rfl, rfl, rfl, rfl, rfl, rfl, trivial⟩ rfl) ?_
  rintro m tm H ⟨i, hi, hA, rfl, rfl⟩
  conv => whnf
  refine ⟨fun hc => ?_, fun hc => ?_⟩
  · replace hc : (i : Int) < ((tcs l).length + 1 : Nat) := of_decide_eq_true hc
    have hi2 : i < (l ++ [Term.mk k l0 n ts]).length := by simp; omega
    obtain ⟨u, hu⟩ : ∃ u, (l ++ [Term.mk k l0 n ts])[i]? = some u := ⟨_, List.getElem?_eq_getElem hi2⟩
    have huc := hat i u hu
    have cu := c14 u
    have h1 := all_take hu
    have h2 := all_no hu
    rw [hA, Bool.true_and] at h1
    generalize prop u = p at *
    obtain ⟨k', l', n', us⟩ := u
    conv => whnf
    refine ⟨⟨by omega, by rw [List.length_append]; simp; omega⟩, ?_⟩
    conv => whnf
    refine ⟨tc (.mk k' l' n' us), by simpa using huc, Nat.le_refl 4, ?_⟩
    conv => whnf
    cases p with
    | false =>
      have h3 := hall _ (h2 rfl)
      have h4 : R = (zT, 2) := by
        rw [hj _ _ rfl rfl, joinG_no h3]
      rw [h4]
      try (refine draw_intro true (by kernel_rfl) ?_; conv => whnf)
      refine CallSt.use cu [] trivial (by decide) rfl ?_
      rintro _ _ ⟨rfl, rfl⟩ _
      conv => whnf
      repeat (first | (refine And.intro rfl ?_; conv => whnf) | (refine And.intro (by decide) ?_; conv => whnf) | (refine draw_intro true (by kernel_rfl) ?_; conv => whnf) | (refine And.intro ⟨by omega, by omega⟩ ?_; conv => whnf) | (refine And.intro (by omega) ?_; conv => whnf) | (refine And.intro (fun _ => ⟨by omega, by omega⟩) ?_; conv => whnf) | (refine And.intro (fun _ => ?_) (fun h => absurd h ?_); rotate_left; (focus (first | decide | (simp; done))); conv => whnf) | (refine And.intro (fun h => absurd h ?_) (fun _ => ?_); (focus (first | decide | (simp; done))); conv => whnf))
      all_goals (first | rfl | exact ⟨rfl, rfl⟩ | exact ⟨rfl, rfl, rfl⟩)
    | true =>
      try (refine draw_intro true (by kernel_rfl) ?_; conv => whnf)
      refine CallSt.use cu [] trivial (by decide) rfl ?_
      rintro _ _ ⟨rfl, rfl⟩ _
      conv => whnf
      first | (refine ⟨fun _ => ?_, fun h => absurd h ?_⟩; rotate_left; (focus (first | decide | (simp; done))); conv => whnf) | (refine ⟨fun h => absurd h ?_, fun _ => ?_⟩; (focus (first | decide | (simp; done))); conv => whnf)
      refine ⟨⟨by omega, by omega⟩, ?_⟩
      conv => whnf
      exact ⟨m - 1, _, _, by omega, ⟨i + 1, by omega, h1, rfl, rfl⟩, Wk.sel [0, 1, 2] (by decide) (by decide) (by decide) ⟨rfl, rfl, rfl, trivial⟩ ⟨rfl, rfl, rfl, rfl, rfl, rfl, rfl, trivial⟩ rfl⟩
  replace hc : ¬ (i : Int) < ((tcs l).length + 1 : Nat) := of_decide_eq_false hc
  rw [List.take_of_length_le (by simp; omega)] at hA
  have h3 := hall _ hA
  rw [Bool.and_eq_true] at h3
  have hj := hj _ _ h3.1 h3.2
  have cpy := c64 (.mk k l0 n ts) (prop_ok h3.2)
  rw [tv_mk] at cpy
  clear hat hall
  conv => whnf
  try (refine draw_intro true (by kernel_rfl) ?_; conv => whnf)
  refine CallSt.use cpy [] trivial (by decide) rfl ?_
  rintro _ _ ⟨rfl, rfl⟩ _
  conv => whnf
  conv => whnf
  intro _
  conv => whnf
  refine ⟨fun hd => ?_, fun hd => ?_⟩
  · replace hd : (40 : Int) < (tcs l).length := of_decide_eq_true hd
    rw [hj, joinG_big (by omega)]
    conv => whnf
    repeat (first | (refine And.intro rfl ?_; conv => whnf) | (refine And.intro (by decide) ?_; conv => whnf) | (refine draw_intro true (by kernel_rfl) ?_; conv => whnf) | (refine And.intro ⟨by omega, by omega⟩ ?_; conv => whnf) | (refine And.intro (by omega) ?_; conv => whnf) | (refine And.intro (fun _ => ⟨by omega, by omega⟩) ?_; conv => whnf) | (refine And.intro (fun _ => ?_) (fun h => absurd h ?_); rotate_left; (focus (first | decide | (simp; done))); conv => whnf) | (refine And.intro (fun h => absurd h ?_) (fun _ => ?_); (focus (first | decide | (simp; done))); conv => whnf))
    all_goals (first | rfl | exact ⟨rfl, rfl⟩ | exact ⟨rfl, rfl, rfl⟩)
  replace hd : ¬ (40 : Int) < (tcs l).length := of_decide_eq_false hd
  rw [joinG_ok (by omega)] at hj
  conv => whnf
  try (refine draw_intro true (by kernel_rfl) ?_; conv => whnf)
  refine CallSt.use (c67 l) [] trivial (by decide) rfl ?_
  rintro _ _ ⟨rfl, rfl⟩ _
  conv => whnf
  refine CallSt.wkl 5 [(8, .ptr 3 0)] rfl (subTM_lk ⟨rfl, trivial⟩) ?_
  refine CallSt.use (c82 l hl piT ?_ (.mk k l0 n ts)) [4, 3, 5] ⟨rfl, rfl, rfl, trivial⟩ (by decide) rfl ?_
  · intro s u i hu
    have hp := List.all_eq_true.1 h3.1 u hu
    have cc := c64 u (prop_ok hp)
    have cp := c63 u s
    generalize piT u s = s' at *
    obtain ⟨k', l', n', us⟩ := u
    obtain ⟨k3, l3, n3, vs⟩ := s
    obtain ⟨k4, l4, n4, ws⟩ := s'
    refine y_intro (E := envY 3) (envY_ok 3) mixed rfl rfl (i := 2) rfl rfl rfl ?_
    conv => whnf
    try (refine draw_intro true (by kernel_rfl) ?_; conv => whnf)
    refine CallSt.use cc [] trivial (by decide) rfl ?_
    rintro _ _ ⟨rfl, rfl⟩ _
    conv => whnf
    try (refine draw_intro true (by kernel_rfl) ?_; conv => whnf)
    refine CallSt.use cp [] trivial (by decide) rfl ?_
    rintro _ _ ⟨rfl, rfl⟩ _
    conv => whnf
    repeat (first | (refine And.intro rfl ?_; conv => whnf) | (refine And.intro (by decide) ?_; conv => whnf) | (refine draw_intro true (by kernel_rfl) ?_; conv => whnf) | (refine And.intro ⟨by omega, by omega⟩ ?_; conv => whnf) | (refine And.intro (by omega) ?_; conv => whnf) | (refine And.intro (fun _ => ⟨by omega, by omega⟩) ?_; conv => whnf) | (refine And.intro (fun _ => ?_) (fun h => absurd h ?_); rotate_left; (focus (first | decide | (simp; done))); conv => whnf) | (refine And.intro (fun h => absurd h ?_) (fun _ => ?_); (focus (first | decide | (simp; done))); conv => whnf))
    all_goals (first | rfl | exact ⟨rfl, rfl⟩ | exact ⟨rfl, rfl, rfl⟩)
  rintro _ _ ⟨rfl, rfl⟩ _
  conv => whnf
  have ck := c62 (l.foldr piT (.mk k l0 n ts))
  rw [← hj] at ck
  generalize l.foldr piT (.mk k l0 n ts) = J at *
  obtain ⟨k3, l3, n3, vs⟩ := J
  obtain ⟨⟨k4, l4, n4, ws⟩, e⟩ := R
  try (refine draw_intro true (by kernel_rfl) ?_; conv => whnf)
  refine CallSt.use ck [] trivial (by decide) rfl ?_
  rintro _ _ ⟨rfl, rfl⟩ _
  conv => whnf
  repeat (first | (refine And.intro rfl ?_; conv => whnf) | (refine And.intro (by decide) ?_; conv => whnf) | (refine draw_intro true (by kernel_rfl) ?_; conv => whnf) | (refine And.intro ⟨by omega, by omega⟩ ?_; conv => whnf) | (refine And.intro (by omega) ?_; conv => whnf) | (refine And.intro (fun _ => ⟨by omega, by omega⟩) ?_; conv => whnf) | (refine And.intro (fun _ => ?_) (fun h => absurd h ?_); rotate_left; (focus (first | decide | (simp; done))); conv => whnf) | (refine And.intro (fun h => absurd h ?_) (fun _ => ?_); (focus (first | decide | (simp; done))); conv => whnf))
  all_goals (first | rfl | exact ⟨rfl, rfl⟩ | exact ⟨rfl, rfl, rfl⟩)
end Go.Tr
/- Split: both sides; SameAll. -/
namespace Go.Tr
open Go.Proofs
theorem c68o (t : Term) (d : Int) (h : fmT t d = true) (hd : 0 ≤ d) : CallSt Try.prog 68 [tv t] [] (fun r H' => r = .tup [.own 2, tv (domT t).2] ∧ ∃ e0 e1, H' = [e0, e1, .row 24 4 48 (tcs (domT t).1)]) := by
  have hlen := dom_len t d h
  have hz := SizeOf.sizeOf t
  generalize hT : t = T at *
  subst hT
  obtain ⟨k, l, n, ts⟩ := t
  rw [tv_mk]
  refine call_intro (E := env 0) (fn := Try.f68) (c := bodyOf Try.f68) (env_ok 0) mixed (by kernel_rfl) (by kernel_rfl) (by kernel_rfl) (by kernel_rfl) (by kernel_rfl) (by kernel_rfl) rfl ?_
  conv => whnf
  refine loop_intro (fun m tm H => ∃ (k' l' n' : Int) (ts' pre : List Term) (d' : Int), SizeOf.sizeOf (Term.mk k' l' n' ts') ≤ m ∧ fmT (.mk k' l' n' ts') d' = true ∧ pre ++ (domT (.mk k' l' n' ts')).1 = (domT (.mk k l n ts)).1 ∧ (domT (.mk k' l' n' ts')).2 = (domT (.mk k l n ts)).2 ∧
      tm = [(4, .own 2), (1, .ptr 0 0), (3, .ptr 1 0)] ∧ H = [.box [.c (.int .i64 (k')), .c (.int .i64 (l')), .c (.int .i64 (n')), .c (.sl 4 48 (tcs ts'))], .box [.c (.int .i64 (0)), .c (.int .i64 (0)), .c (.int .i64 (0)), .nil], .row 24 4 48 (tcs pre)])
      (SizeOf.sizeOf (Term.mk k l n ts)) _ _ ⟨k, l, n, ts, [], d, Nat.le_refl _, h, rfl, rfl, rfl, rfl⟩ ?_ ?_
  · refine Wk.trans (tm1 := [(1, .ptr 0 0), (3, .ptr 1 0), (4, .nil)]) (H1 := [.box [.c (.int .i64 (k)), .c (.int .i64 (l)), .c (.int .i64 (n)), .c (.sl 4 48 (tcs ts))], .box [.c (.int .i64 (0)), .c (.int .i64 (0)), .c (.int .i64 (0)), .nil]]) ?_ (Wk.trans (Wk.niltmp 4 24 4 48 rfl rfl) ?_)
    · exact Wk.sel [0, 1] (by decide) (by decide) (by decide) ⟨rfl, rfl, trivial⟩ ⟨rfl, rfl, rfl, trivial⟩ rfl
    · exact Wk.sel [0, 1, 2] (by decide) (by decide) (by decide) ⟨rfl, rfl, rfl, trivial⟩ ⟨rfl, rfl, rfl, trivial⟩ rfl
  rintro m tm H ⟨k', l', n', ts', pre, d', hm, hf, hpre, hrest, rfl, rfl⟩
  conv => whnf
  refine ⟨fun hc => ?_, fun hc => ?_⟩
  · replace hc : k' = 2 := of_decide_eq_true hc
    subst hc
    obtain ⟨rfl, rfl, a, b, rfl, ha, hb⟩ := fm_pi hf
    rw [domT_pi] at hpre hrest
    have hl1 : (tcs pre).length ≤ 41 := by
      rw [len_tcs]
      have := congrArg List.length hpre
      simp at this
      omega
    obtain ⟨a1, a2, a3, a4⟩ := a
    obtain ⟨b1, b2, b3, b4⟩ := b
    conv => whnf
    refine ⟨_, ⟨by decide, rfl⟩, ?_⟩
    conv => whnf
    refine ⟨Nat.le_refl 4, ?_⟩
    conv => whnf
    refine ⟨by decide, ?_⟩
    conv => whnf
    refine ⟨by decide, ?_⟩
    conv => whnf
    have hl2 : ((tcs pre).length + 1) * 48 ≤ 140737488355328 := by omega
    have hl3 : (tcs pre).length + 1 ≤ 9223372036854775807 := by omega
    refine ⟨hl2, hl3, ?_⟩
    conv => whnf
    refine ⟨_, ⟨by decide, rfl⟩, ?_⟩
    conv => whnf
    refine ⟨Nat.le_refl 4, ?_⟩
    conv => whnf
    refine ⟨SizeOf.sizeOf (Term.mk b1 b2 b3 b4), _, _, ?_, ⟨b1, b2, b3, b4, pre ++ [.mk a1 a2 a3 a4], d' + 1, Nat.le_refl _, hb, ?_, hrest, rfl, rfl⟩, Wk.sel [0, 1, 4] (by decide) (by decide) (by decide) ⟨rfl, rfl, ?_, trivial⟩ ⟨rfl, rfl, rfl, trivial⟩ rfl⟩
    · simp at hm ⊢; omega
    · rw [← hpre, List.append_assoc]; rfl
    · rw [← tcs_snoc]; rfl
  · replace hc : ¬ k' = 2 := of_decide_eq_false hc
    rw [domT_no (t := .mk k' l' n' ts') hc] at hpre hrest
    simp only [List.append_nil] at hpre
    rw [← hpre, ← hrest]
    conv => whnf
    refine draw_intro true (by kernel_rfl) ?_
    conv => whnf
    exact ⟨rfl, _, _, rfl⟩
theorem dom_sz (t : Term) (d : Int) (h : fmT t d = true) : (∀ u ∈ (domT t).1, szT u ≤ szT t) ∧ szT (domT t).2 ≤ szT t := by
  refine dom_ind (C := fun t d => (∀ u ∈ (domT t).1, szT u ≤ szT t) ∧ szT (domT t).2 ≤ szT t) (fun t d hk h => ?_) (fun a b d ha hb hd ih => ?_) _ t d (Nat.le_refl _) h
  · rw [domT_no hk]
    exact ⟨fun u hu => (by cases hu), Int.le_refl _⟩
  · rw [domT_pi]
    have h1 := szT_pos a
    have h2 := szT_pos b
    simp only [szT, szL]
    refine ⟨fun u hu => ?_, by omega⟩
    rcases List.mem_cons.1 hu with rfl | hu
    · omega
    · have := ih.1 u hu; omega
theorem prop_fm {t : Term} (h : prop t = true) : fmT t 1 = true ∧ szT t ≤ 600 := by
  rw [prop_rprop, rprop_iff, Bool.and_eq_true, decide_eq_true_eq] at h
  exact ⟨h.2, h.1⟩
theorem prop_of {t : Term} {d : Int} (h : fmT t d = true) (hd : 1 ≤ d) (hs : szT t ≤ 600) : prop t = true := by
  rw [prop_rprop, rprop_iff, Bool.and_eq_true, decide_eq_true_eq]
  exact ⟨hs, fm_mono t d 1 h hd⟩
theorem dom_prop {t : Term} (h : prop t = true) : (∀ u ∈ (domT t).1, prop u = true) ∧ prop (domT t).2 = true := by
  obtain ⟨hf, hs⟩ := prop_fm h
  obtain ⟨h1, h2⟩ := dom_sz t 1 hf
  refine ⟨fun u hu => ?_, ?_⟩
  · obtain ⟨_, d', h3, h4⟩ := dom_mem t 1 hf u hu
    exact prop_of h3 h4 (by have := h1 u hu; omega)
  · obtain ⟨_, _, d', h3, h4⟩ := dom_rest t 1 hf
    exact prop_of h3 h4 (by omega)
theorem set_same {α : Type} : ∀ {l : List α} {i : Nat} {a : α}, l[i]? = some a → l.set i a = l
  | [], _, _, h => by simp at h
  | x :: r, 0, a, h => by simp at h; rw [List.set_cons_zero, h]
  | x :: r, i + 1, a, h => by rw [List.set_cons_succ, set_same (by simpa using h)]
def splitF (t : Term) : List Term × Term × Int := match prop t with | true => ((domT t).1, (domT t).2, 0) | false => ([], zT, 2)
theorem c32 (t : Term) : CallSt Try.prog 32 [tv t] [] (fun r H' => r = .tup [.c (.sl 4 48 (tcs (splitF t).1)), tv (splitF t).2.1, .c (.int .i64 ((splitF t).2.2))] ∧ H' = []) := by
  have c := c14 t
  have cd := fun h => c68o t 1 (prop_fm h).1 (by omega)
  have hdp := fun h => dom_prop (t := t) h
  have hln := fun h => dom_len t 1 (prop_fm h).1
  unfold splitF
  generalize prop t = p at *
  generalize domT t = D at *
  obtain ⟨l, rest⟩ := D
  obtain ⟨k, l0, n, ts⟩ := t
  obtain ⟨k2, l2, n2, us⟩ := rest
  rw [tv_mk] at *
  refine call_pure (E := env 0) (fn := Try.f32) (c := bodyOf Try.f32) (env_ok 0) mixed (by kernel_rfl) (by kernel_rfl) (by kernel_rfl) (by kernel_rfl) (by kernel_rfl) (by kernel_rfl) rfl ?_
  conv => whnf
  cases p with
  | false =>
    try (refine draw_intro true (by kernel_rfl) ?_; conv => whnf)
    refine CallSt.use c [] trivial (by decide) rfl ?_
    rintro _ _ ⟨rfl, rfl⟩ _
    conv => whnf
    repeat (first | (refine And.intro rfl ?_; conv => whnf) | (refine And.intro (by decide) ?_; conv => whnf) | (refine draw_intro true (by kernel_rfl) ?_; conv => whnf) | (refine And.intro ⟨by omega, by omega⟩ ?_; conv => whnf) | (refine And.intro (by omega) ?_; conv => whnf) | (refine And.intro (fun _ => ⟨by omega, by omega⟩) ?_; conv => whnf) | (refine And.intro (fun _ => ?_) (fun h => absurd h ?_); rotate_left; (focus (first | decide | (simp; done))); conv => whnf) | (refine And.intro (fun h => absurd h ?_) (fun _ => ?_); (focus (first | decide | (simp; done))); conv => whnf))
    all_goals (first | rfl | exact ⟨rfl, rfl⟩ | exact ⟨rfl, rfl, rfl⟩)
  | true =>
  have cd := cd rfl
  obtain ⟨hdp, hrp⟩ := hdp rfl
  have hln := hln rfl
  dsimp only at *
  have cr := c64 _ (prop_ok hrp)
  have hlen := len_tcs l
  try (refine draw_intro true (by kernel_rfl) ?_; conv => whnf)
  refine CallSt.use c [] trivial (by decide) rfl ?_
  rintro _ _ ⟨rfl, rfl⟩ _
  conv => whnf
  repeat (first | (refine And.intro rfl ?_; conv => whnf) | (refine And.intro (by decide) ?_; conv => whnf) | (refine And.intro ⟨by omega, by omega⟩ ?_; conv => whnf) | (refine And.intro (by omega) ?_; conv => whnf) | (refine And.intro (fun _ => ⟨by omega, by omega⟩) ?_; conv => whnf) | (refine And.intro (fun _ => ?_) (fun h => absurd h ?_); rotate_left; (focus (first | decide | (simp; done))); conv => whnf) | (refine And.intro (fun h => absurd h ?_) (fun _ => ?_); (focus (first | decide | (simp; done))); conv => whnf))
  try (refine draw_intro true (by kernel_rfl) ?_; conv => whnf)
  refine CallSt.use cd [] trivial (by decide) rfl ?_
  rintro _ _ ⟨rfl, e0, e1, rfl⟩ _
  conv => whnf
  intro _
  conv => whnf
  refine loop_intro (fun m tm H => ∃ (i : Nat), l.length = m + i ∧
      tm = [(23, .c (.int .i64 (i))), (21, .own 0), (22, .c (.int .i64 ((tcs l).length))), (6, .own 0), (2, .nil), (3, .ptr 1 0), (4, .c (.int .i64 (0))), (7, .ptr 2 0)] ∧ H = [.row 24 4 48 (tcs l), .box [.c (.int .i64 (0)), .c (.int .i64 (0)), .c (.int .i64 (0)), .nil], .box [.c (.int .i64 (k2)), .c (.int .i64 (l2)), .c (.int .i64 (n2)), .c (.sl 4 48 (tcs us))]])
      l.length _ _ ⟨0, by omega, rfl, rfl⟩ (Wk.sel [4, 1, 5] (by decide) (by decide) (by decide) ⟨rfl, rfl, rfl, trivial⟩ ⟨rfl, rfl, rfl, rfl, rfl, rfl, rfl, rfl, trivial⟩ rfl) ?_
  rintro m tm H ⟨i, hi, rfl, rfl⟩
  conv => whnf
  refine ⟨fun hc => ?_, fun hc => ?_⟩
  · replace hc : (i : Int) < (tcs l).length := of_decide_eq_true hc
    obtain ⟨u, hu⟩ : ∃ u, l[i]? = some u := ⟨l[i]'(by omega), List.getElem?_eq_getElem (by omega)⟩
    have huc := tcs_at l i u hu
    have cu := c64 u (prop_ok (hdp u (List.mem_of_getElem? hu)))
    have hset := set_same huc
    obtain ⟨k', l', n', ws⟩ := u
    conv => whnf
    refine ⟨⟨by omega, by omega⟩, ?_⟩
    conv => whnf
    refine ⟨tc (.mk k' l' n' ws), by simpa using huc, Nat.le_refl 4, ?_⟩
    conv => whnf
    try (refine draw_intro true (by kernel_rfl) ?_; conv => whnf)
    refine CallSt.use cu [] trivial (by decide) rfl ?_
    rintro _ _ ⟨rfl, rfl⟩ _
    conv => whnf
    refine ⟨⟨by omega, by omega⟩, ?_⟩
    conv => whnf
    refine ⟨tc (.mk k' l' n' ws), by simpa using huc, Nat.le_refl 4, ?_⟩
    conv => whnf
    refine ⟨⟨by omega, by omega⟩, ?_⟩
    conv => whnf
    refine ⟨m - 1, _, _, by omega, ⟨i + 1, by omega, rfl, rfl⟩, Wk.sel [0, 1, 2] (by decide) (by decide) (by decide) ⟨?_, rfl, rfl, trivial⟩ ⟨rfl, rfl, rfl, rfl, rfl, rfl, rfl, rfl, trivial⟩ rfl⟩
    exact congrArg (fun z => some (Ent.row 24 4 48 z)) hset
  · conv => whnf
    try (refine draw_intro true (by kernel_rfl) ?_; conv => whnf)
    refine CallSt.use cr [] trivial (by decide) rfl ?_
    rintro _ _ ⟨rfl, rfl⟩ _
    conv => whnf
    repeat (first | (refine And.intro rfl ?_; conv => whnf) | (refine And.intro (by decide) ?_; conv => whnf) | (refine draw_intro true (by kernel_rfl) ?_; conv => whnf) | (refine And.intro ⟨by omega, by omega⟩ ?_; conv => whnf) | (refine And.intro (by omega) ?_; conv => whnf) | (refine And.intro (fun _ => ⟨by omega, by omega⟩) ?_; conv => whnf) | (refine And.intro (fun _ => ?_) (fun h => absurd h ?_); rotate_left; (focus (first | decide | (simp; done))); conv => whnf) | (refine And.intro (fun h => absurd h ?_) (fun _ => ?_); (focus (first | decide | (simp; done))); conv => whnf))
    all_goals (first | rfl | exact ⟨rfl, rfl⟩ | exact ⟨rfl, rfl, rfl⟩)
theorem c33 (t : Term) (d : Int) (h : fmT t d = true) (hd : 0 ≤ d) : CallSt Try.prog 33 [tv t] [] (fun r H' => r = .tup [.c (.sl 4 48 (tcs (domT t).1)), tv (domT t).2] ∧ H' = []) := by
  have hlen := dom_len t d h
  have hz := SizeOf.sizeOf t
  generalize hT : t = T at *
  subst hT
  obtain ⟨k, l, n, ts⟩ := t
  rw [tv_mk]
  refine call_pure (E := env 0) (fn := Try.f33) (c := bodyOf Try.f33) (env_ok 0) mixed (by kernel_rfl) (by kernel_rfl) (by kernel_rfl) (by kernel_rfl) (by kernel_rfl) (by kernel_rfl) rfl ?_
  conv => whnf
  refine loop_intro (fun m tm H => ∃ (k' l' n' : Int) (ts' pre : List Term) (d' : Int), SizeOf.sizeOf (Term.mk k' l' n' ts') ≤ m ∧ fmT (.mk k' l' n' ts') d' = true ∧ pre ++ (domT (.mk k' l' n' ts')).1 = (domT (.mk k l n ts)).1 ∧ (domT (.mk k' l' n' ts')).2 = (domT (.mk k l n ts)).2 ∧
      tm = [(4, .own 2), (1, .ptr 0 0), (3, .ptr 1 0)] ∧ H = [.box [.c (.int .i64 (k')), .c (.int .i64 (l')), .c (.int .i64 (n')), .c (.sl 4 48 (tcs ts'))], .box [.c (.int .i64 (0)), .c (.int .i64 (0)), .c (.int .i64 (0)), .nil], .row 24 4 48 (tcs pre)])
      (SizeOf.sizeOf (Term.mk k l n ts)) _ _ ⟨k, l, n, ts, [], d, Nat.le_refl _, h, rfl, rfl, rfl, rfl⟩ ?_ ?_
  · refine Wk.trans (tm1 := [(1, .ptr 0 0), (3, .ptr 1 0), (4, .nil)]) (H1 := [.box [.c (.int .i64 (k)), .c (.int .i64 (l)), .c (.int .i64 (n)), .c (.sl 4 48 (tcs ts))], .box [.c (.int .i64 (0)), .c (.int .i64 (0)), .c (.int .i64 (0)), .nil]]) ?_ (Wk.trans (Wk.niltmp 4 24 4 48 rfl rfl) ?_)
    · exact Wk.sel [0, 1] (by decide) (by decide) (by decide) ⟨rfl, rfl, trivial⟩ ⟨rfl, rfl, rfl, trivial⟩ rfl
    · exact Wk.sel [0, 1, 2] (by decide) (by decide) (by decide) ⟨rfl, rfl, rfl, trivial⟩ ⟨rfl, rfl, rfl, trivial⟩ rfl
  rintro m tm H ⟨k', l', n', ts', pre, d', hm, hf, hpre, hrest, rfl, rfl⟩
  conv => whnf
  refine ⟨fun hc => ?_, fun hc => ?_⟩
  · replace hc : k' = 2 := of_decide_eq_true hc
    subst hc
    obtain ⟨rfl, rfl, a, b, rfl, ha, hb⟩ := fm_pi hf
    rw [domT_pi] at hpre hrest
    have hl1 : (tcs pre).length ≤ 41 := by
      rw [len_tcs]
      have := congrArg List.length hpre
      simp at this
      omega
    obtain ⟨a1, a2, a3, a4⟩ := a
    obtain ⟨b1, b2, b3, b4⟩ := b
    conv => whnf
    refine ⟨_, ⟨by decide, rfl⟩, ?_⟩
    conv => whnf
    refine ⟨Nat.le_refl 4, ?_⟩
    conv => whnf
    refine ⟨by decide, ?_⟩
    conv => whnf
    refine ⟨by decide, ?_⟩
    conv => whnf
    have hl2 : ((tcs pre).length + 1) * 48 ≤ 140737488355328 := by omega
    have hl3 : (tcs pre).length + 1 ≤ 9223372036854775807 := by omega
    refine ⟨hl2, hl3, ?_⟩
    conv => whnf
    refine ⟨_, ⟨by decide, rfl⟩, ?_⟩
    conv => whnf
    refine ⟨Nat.le_refl 4, ?_⟩
    conv => whnf
    refine ⟨SizeOf.sizeOf (Term.mk b1 b2 b3 b4), _, _, ?_, ⟨b1, b2, b3, b4, pre ++ [.mk a1 a2 a3 a4], d' + 1, Nat.le_refl _, hb, ?_, hrest, rfl, rfl⟩, Wk.sel [0, 1, 4] (by decide) (by decide) (by decide) ⟨rfl, rfl, ?_, trivial⟩ ⟨rfl, rfl, rfl, trivial⟩ rfl⟩
    · simp at hm ⊢; omega
    · rw [← hpre, List.append_assoc]; rfl
    · rw [← tcs_snoc]; rfl
  · replace hc : ¬ k' = 2 := of_decide_eq_false hc
    rw [domT_no (t := .mk k' l' n' ts') hc] at hpre hrest
    simp only [List.append_nil] at hpre
    rw [← hpre, ← hrest]
    conv => whnf
    repeat (first | (refine And.intro rfl ?_; conv => whnf) | (refine And.intro (by decide) ?_; conv => whnf) | (refine draw_intro true (by kernel_rfl) ?_; conv => whnf) | (refine And.intro ⟨by omega, by omega⟩ ?_; conv => whnf) | (refine And.intro (by omega) ?_; conv => whnf) | (refine And.intro (fun _ => ⟨by omega, by omega⟩) ?_; conv => whnf) | (refine And.intro (fun _ => ?_) (fun h => absurd h ?_); rotate_left; (focus (first | decide | (simp; done))); conv => whnf) | (refine And.intro (fun h => absurd h ?_) (fun _ => ?_); (focus (first | decide | (simp; done))); conv => whnf))
    all_goals (first | rfl | exact ⟨rfl, rfl⟩ | exact ⟨rfl, rfl, rfl⟩)
theorem c34 (ts us : List Term) : CallSt Try.prog 34 [.c (.sl 4 48 (tcs ts)), .c (.sl 4 48 (tcs us))] [] (fun r H' => r = .c (.bool (decide (ts.length = us.length) && sameL ts us)) ∧ H' = []) := by
  have e1 := len_tcs ts
  have e2 := len_tcs us
  refine call_pure (E := env 0) (fn := Try.f34) (c := bodyOf Try.f34) (env_ok 0) mixed (by kernel_rfl) (by kernel_rfl) (by kernel_rfl) (by kernel_rfl) (by kernel_rfl) (by kernel_rfl) rfl ?_
  conv => whnf
  intro hl1
  conv => whnf
  intro hl2
  clear hl1 hl2
  conv => whnf
  have key : (!decide (((tcs ts).length : Int) = (tcs us).length)) = !decide (ts.length = us.length) := by
    rw [len_tcs, len_tcs]; simp only [Int.natCast_inj]
  refine ⟨fun h => ?_, fun h => ?_⟩
  · replace h := key.symm.trans h
    rw [Bool.not_eq_true'] at h
    rw [h]
    conv => whnf
    repeat (first | (refine And.intro rfl ?_; conv => whnf) | (refine And.intro (by decide) ?_; conv => whnf) | (refine draw_intro true (by kernel_rfl) ?_; conv => whnf) | (refine And.intro ⟨by omega, by omega⟩ ?_; conv => whnf) | (refine And.intro (by omega) ?_; conv => whnf) | (refine And.intro (fun _ => ⟨by omega, by omega⟩) ?_; conv => whnf) | (refine And.intro (fun _ => ?_) (fun h => absurd h ?_); rotate_left; (focus (first | decide | (simp; done))); conv => whnf) | (refine And.intro (fun h => absurd h ?_) (fun _ => ?_); (focus (first | decide | (simp; done))); conv => whnf))
    all_goals (first | rfl | exact ⟨rfl, rfl⟩ | exact ⟨rfl, rfl, rfl⟩)
  replace h := key.symm.trans h
  rw [Bool.not_eq_false'] at h
  have hle : ts.length = us.length := of_decide_eq_true h
  rw [h, Bool.true_and]
  conv => whnf
  refine loop_intro (fun m tm H => ∃ (i : Nat), ts.length = m + i ∧ sameL (ts.drop i) (us.drop i) = sameL ts us ∧
      tm = [(5, .c (.int .i64 (i))), (0, .c (.sl 4 48 (tcs ts))), (1, .c (.sl 4 48 (tcs us))), (4, .c (.bool false))] ∧ H = [])
      ts.length _ _ ⟨0, by omega, rfl, rfl, rfl⟩ (Wk.sel [] (by decide) (by decide) (by decide) trivial ⟨rfl, rfl, rfl, rfl, trivial⟩ rfl) ?_
  rintro m tm H ⟨i, hi, hR, rfl, rfl⟩
  conv => whnf
  intro hl
  replace hl : (tcs ts).length * 48 ≤ 140737488355328 := hl
  conv => whnf
  refine ⟨fun hc => ?_, fun hc => ?_⟩
  · replace hc : (i : Int) < (tcs ts).length := of_decide_eq_true hc
    have hlt : i < ts.length := by omega
    obtain ⟨u, hu⟩ : ∃ u, ts[i]? = some u := ⟨ts[i], List.getElem?_eq_getElem hlt⟩
    obtain ⟨v, hv⟩ : ∃ v, us[i]? = some v := ⟨us[i], List.getElem?_eq_getElem (by omega)⟩
    have huc := tcs_at ts i u hu
    have hvc := tcs_at us i v hv
    rw [drop_at hu, drop_at hv, sameL] at hR
    have hcc := c23 u v
    generalize sameT u v = b at *
    obtain ⟨k', l', n', us'⟩ := u
    obtain ⟨k3, l3, n3, us3⟩ := v
    conv => whnf
    refine draw_intro true (by kernel_rfl) ?_
    conv => whnf
    refine ⟨_, ⟨by omega, by simpa using huc⟩, ?_⟩
    conv => whnf
    refine ⟨Nat.le_refl 4, ?_⟩
    conv => whnf
    refine ⟨_, ⟨by omega, by simpa using hvc⟩, ?_⟩
    conv => whnf
    refine ⟨Nat.le_refl 4, ?_⟩
    conv => whnf
    cases b with
    | false =>
      rw [Bool.false_and] at hR
      rw [← hR]
      try (refine draw_intro true (by kernel_rfl) ?_; conv => whnf)
      refine CallSt.use hcc [] trivial (by decide) rfl ?_
      rintro _ _ ⟨rfl, rfl⟩ _
      conv => whnf
      repeat (first | (refine And.intro rfl ?_; conv => whnf) | (refine And.intro (by decide) ?_; conv => whnf) | (refine draw_intro true (by kernel_rfl) ?_; conv => whnf) | (refine And.intro ⟨by omega, by omega⟩ ?_; conv => whnf) | (refine And.intro (by omega) ?_; conv => whnf) | (refine And.intro (fun _ => ⟨by omega, by omega⟩) ?_; conv => whnf) | (refine And.intro (fun _ => ?_) (fun h => absurd h ?_); rotate_left; (focus (first | decide | (simp; done))); conv => whnf) | (refine And.intro (fun h => absurd h ?_) (fun _ => ?_); (focus (first | decide | (simp; done))); conv => whnf))
      all_goals (first | rfl | exact ⟨rfl, rfl⟩ | exact ⟨rfl, rfl, rfl⟩)
    | true =>
      rw [Bool.true_and] at hR
      try (refine draw_intro true (by kernel_rfl) ?_; conv => whnf)
      refine CallSt.use hcc [] trivial (by decide) rfl ?_
      rintro _ _ ⟨rfl, rfl⟩ _
      conv => whnf
      first | (refine ⟨fun _ => ?_, fun h => absurd h ?_⟩; rotate_left; (focus (first | decide | (simp; done))); conv => whnf) | (refine ⟨fun h => absurd h ?_, fun _ => ?_⟩; (focus (first | decide | (simp; done))); conv => whnf)
      refine ⟨⟨by omega, by omega⟩, ?_⟩
      conv => whnf
      exact ⟨m - 1, _, _, by omega, ⟨i + 1, by omega, hR, rfl, rfl⟩, Wk.sel [] (by decide) (by decide) (by decide) trivial ⟨rfl, rfl, rfl, rfl, trivial⟩ rfl⟩
  · replace hc : ¬ (i : Int) < (tcs ts).length := of_decide_eq_false hc
    rw [List.drop_eq_nil_of_le (by omega), sameL] at hR
    · rw [← hR]
      conv => whnf
      repeat (first | (refine And.intro rfl ?_; conv => whnf) | (refine And.intro (by decide) ?_; conv => whnf) | (refine draw_intro true (by kernel_rfl) ?_; conv => whnf) | (refine And.intro ⟨by omega, by omega⟩ ?_; conv => whnf) | (refine And.intro (by omega) ?_; conv => whnf) | (refine And.intro (fun _ => ⟨by omega, by omega⟩) ?_; conv => whnf) | (refine And.intro (fun _ => ?_) (fun h => absurd h ?_); rotate_left; (focus (first | decide | (simp; done))); conv => whnf) | (refine And.intro (fun h => absurd h ?_) (fun _ => ?_); (focus (first | decide | (simp; done))); conv => whnf))
      all_goals (first | rfl | exact ⟨rfl, rfl⟩ | exact ⟨rfl, rfl, rfl⟩)
    · simp
end Go.Tr
/- The laws TermBuilds and TermJoined. -/
namespace Go.Tr
open Go.Proofs
theorem c9 (l : List Term) (hl : l.length * 48 ≤ 140737488351232) (a t : Term) : CallSt Try.prog 9 [.c (.sl 4 48 (tcs l)), tv a, tv t] [] (fun r H' => r = .c (.bool true) ∧ H' = []) := by
  have a1 := c28 a t
  have a2 := c29 a t
  have a3 := c30 l hl t
  have a4 := c31 l hl t
  have a5 := c21 (arrF a t).1 (arrF a t).1 (arrF a t).2 (arrF a t).2
  have a6 := c21 (joinF l t).1 (joinF l t).1 (joinF l t).2 (joinF l t).2
  have a7 := c32 t
  have a8 := c16 t
  have a9 := c23 zT zT
  have b1 := fun h => c33 t 1 (prop_fm h).1 (by omega)
  have b2 := c34 (domT t).1 (domT t).1
  have b3 := c23 (domT t).2 (domT t).2
  have b4 := c17
  have hlen := len_tcs l
  have hss : ∀ d : List Term, (decide (d.length = d.length) && sameL d d) = true := fun d => by
    rw [(sameL_iff d d rfl).2 rfl]; simp
  rw [← prop_rprop] at a8
  rw [sameT_self, decide_eq_true rfl] at a5 a6
  rw [sameT_self] at a9 b3
  rw [hss] at b2
  unfold splitF at a7
  generalize arrF a t = A at *
  generalize joinF l t = J at *
  generalize prop t = p at *
  generalize domT t = D at *
  obtain ⟨⟨k1, l1, n1, us1⟩, e1⟩ := A
  obtain ⟨⟨k2, l2, n2, us2⟩, e2⟩ := J
  obtain ⟨ds, ⟨k3, l3, n3, us3⟩⟩ := D
  obtain ⟨k4, l4, n4, us4⟩ := a
  obtain ⟨k5, l5, n5, us5⟩ := t
  rw [tv_mk, tv_mk] at *
  refine call_pure (E := env 0) (fn := Try.f9) (c := bodyOf Try.f9) (env_ok 0) mixed (by kernel_rfl) (by kernel_rfl) (by kernel_rfl) (by kernel_rfl) (by kernel_rfl) (by kernel_rfl) rfl ?_
  conv => whnf
  try (refine draw_intro true (by kernel_rfl) ?_; conv => whnf)
  refine CallSt.use a1 [] trivial (by decide) rfl ?_
  rintro _ _ ⟨rfl, rfl⟩ _
  conv => whnf
  try (refine draw_intro true (by kernel_rfl) ?_; conv => whnf)
  refine CallSt.use a2 [] trivial (by decide) rfl ?_
  rintro _ _ ⟨rfl, rfl⟩ _
  conv => whnf
  have hl2 : (0 + (tcs l).length) * 48 ≤ 140737488355328 := by omega
  have hl3 : 0 + (tcs l).length ≤ 9223372036854775807 := by omega
  dsimp only at *
  refine draw_wk [(11, .ptr 4 0), (12, .c (.int .i64 (e2))), (7, .ptr 2 0), (8, .c (.int .i64 (e1))), (9, .ptr 3 0), (10, .c (.int .i64 (e1))), (4, .ptr 0 0), (5, .ptr 1 0), (0, .c (.sl 4 48 (tcs l))), (6, .c (.bool false))]
    [.box [.c (.int .i64 (k4)), .c (.int .i64 (l4)), .c (.int .i64 (n4)), .c (.sl 4 48 (tcs us4))], .box [.c (.int .i64 (k5)), .c (.int .i64 (l5)), .c (.int .i64 (n5)), .c (.sl 4 48 (tcs us5))], .box [.c (.int .i64 (k1)), .c (.int .i64 (l1)), .c (.int .i64 (n1)), .c (.sl 4 48 (tcs us1))], .box [.c (.int .i64 (k1)), .c (.int .i64 (l1)), .c (.int .i64 (n1)), .c (.sl 4 48 (tcs us1))], .box [.c (.int .i64 (k2)), .c (.int .i64 (l2)), .c (.int .i64 (n2)), .c (.sl 4 48 (tcs us2))]] ?_ ?_
  · refine draw_intro true (by kernel_rfl) ?_
    conv => whnf
    repeat' (first | (refine And.intro ?_ ?_ <;> conv => whnf) | exact hl2 | exact hl3 | exact Nat.le_of_ble_eq_true rfl | (refine CallSt.use a3 [] trivial (by decide) rfl ?_; rintro _ _ ⟨rfl, rfl⟩ _; conv => whnf) | exact Wk.sel [0, 1, 2, 3, 4] (by decide) (by decide) (by decide) ⟨rfl, rfl, rfl, rfl, rfl, trivial⟩ ⟨rfl, rfl, rfl, rfl, rfl, rfl, rfl, rfl, rfl, rfl, trivial⟩ rfl | exact Wk.sel [0, 1, 2, 3, 5] (by decide) (by decide) (by decide) ⟨rfl, rfl, rfl, rfl, rfl, trivial⟩ ⟨rfl, rfl, rfl, rfl, rfl, rfl, rfl, rfl, rfl, rfl, trivial⟩ rfl | exact Wk.sel [0, 1, 2, 3, 6] (by decide) (by decide) (by decide) ⟨rfl, rfl, rfl, rfl, rfl, trivial⟩ ⟨rfl, rfl, rfl, rfl, rfl, rfl, rfl, rfl, rfl, rfl, trivial⟩ rfl)
  conv => whnf
  try (refine draw_intro true (by kernel_rfl) ?_; conv => whnf)
  refine CallSt.use a4 [] trivial (by decide) rfl ?_
  rintro _ _ ⟨rfl, rfl⟩ _
  conv => whnf
  try (refine draw_intro true (by kernel_rfl) ?_; conv => whnf)
  refine CallSt.use a5 [] trivial (by decide) rfl ?_
  rintro _ _ ⟨rfl, rfl⟩ _
  conv => whnf
  repeat (first | (refine And.intro rfl ?_; conv => whnf) | (refine And.intro (by decide) ?_; conv => whnf) | (refine And.intro ⟨by omega, by omega⟩ ?_; conv => whnf) | (refine And.intro (by omega) ?_; conv => whnf) | (refine And.intro (fun _ => ⟨by omega, by omega⟩) ?_; conv => whnf) | (refine And.intro (fun _ => ?_) (fun h => absurd h ?_); rotate_left; (focus (first | decide | (simp; done) | (simp [tcs]; done))); conv => whnf) | (refine And.intro (fun h => absurd h ?_) (fun _ => ?_); (focus (first | decide | (simp; done) | (simp [tcs]; done))); conv => whnf))
  try (refine draw_intro true (by kernel_rfl) ?_; conv => whnf)
  refine CallSt.use a6 [] trivial (by decide) rfl ?_
  rintro _ _ ⟨rfl, rfl⟩ _
  conv => whnf
  repeat (first | (refine And.intro rfl ?_; conv => whnf) | (refine And.intro (by decide) ?_; conv => whnf) | (refine And.intro ⟨by omega, by omega⟩ ?_; conv => whnf) | (refine And.intro (by omega) ?_; conv => whnf) | (refine And.intro (fun _ => ⟨by omega, by omega⟩) ?_; conv => whnf) | (refine And.intro (fun _ => ?_) (fun h => absurd h ?_); rotate_left; (focus (first | decide | (simp; done) | (simp [tcs]; done))); conv => whnf) | (refine And.intro (fun h => absurd h ?_) (fun _ => ?_); (focus (first | decide | (simp; done) | (simp [tcs]; done))); conv => whnf))
  cases p with
  | false =>
    try (refine draw_intro true (by kernel_rfl) ?_; conv => whnf)
    refine CallSt.use a7 [] trivial (by decide) rfl ?_
    rintro _ _ ⟨rfl, rfl⟩ _
    conv => whnf
    try (refine draw_intro true (by kernel_rfl) ?_; conv => whnf)
    refine CallSt.use a8 [] trivial (by decide) rfl ?_
    rintro _ _ ⟨rfl, rfl⟩ _
    conv => whnf
    repeat (first | (refine And.intro rfl ?_; conv => whnf) | (refine And.intro (by decide) ?_; conv => whnf) | (refine And.intro ⟨by omega, by omega⟩ ?_; conv => whnf) | (refine And.intro (by omega) ?_; conv => whnf) | (refine And.intro (fun _ => ⟨by omega, by omega⟩) ?_; conv => whnf) | (refine And.intro (fun _ => ?_) (fun h => absurd h ?_); rotate_left; (focus (first | decide | (simp; done) | (simp [tcs]; done))); conv => whnf) | (refine And.intro (fun h => absurd h ?_) (fun _ => ?_); (focus (first | decide | (simp; done) | (simp [tcs]; done))); conv => whnf))
    intro _
    conv => whnf
    repeat (first | (refine And.intro rfl ?_; conv => whnf) | (refine And.intro (by decide) ?_; conv => whnf) | (refine And.intro ⟨by omega, by omega⟩ ?_; conv => whnf) | (refine And.intro (by omega) ?_; conv => whnf) | (refine And.intro (fun _ => ⟨by omega, by omega⟩) ?_; conv => whnf) | (refine And.intro (fun _ => ?_) (fun h => absurd h ?_); rotate_left; (focus (first | decide | (simp; done) | (simp [tcs]; done))); conv => whnf) | (refine And.intro (fun h => absurd h ?_) (fun _ => ?_); (focus (first | decide | (simp; done) | (simp [tcs]; done))); conv => whnf))
    try (refine draw_intro true (by kernel_rfl) ?_; conv => whnf)
    refine CallSt.use a9 [] trivial (by decide) rfl ?_
    rintro _ _ ⟨rfl, rfl⟩ _
    conv => whnf
    repeat (first | (refine And.intro rfl ?_; conv => whnf) | (refine And.intro (by decide) ?_; conv => whnf) | (refine And.intro ⟨by omega, by omega⟩ ?_; conv => whnf) | (refine And.intro (by omega) ?_; conv => whnf) | (refine And.intro (fun _ => ⟨by omega, by omega⟩) ?_; conv => whnf) | (refine And.intro (fun _ => ?_) (fun h => absurd h ?_); rotate_left; (focus (first | decide | (simp; done) | (simp [tcs]; done))); conv => whnf) | (refine And.intro (fun h => absurd h ?_) (fun _ => ?_); (focus (first | decide | (simp; done) | (simp [tcs]; done))); conv => whnf))
    try (refine draw_intro true (by kernel_rfl) ?_; conv => whnf)
    refine CallSt.use b4 [] trivial (by decide) rfl ?_
    rintro _ _ ⟨rfl, rfl⟩ _
    conv => whnf
    repeat (first | (refine And.intro rfl ?_; conv => whnf) | (refine And.intro (by decide) ?_; conv => whnf) | (refine draw_intro true (by kernel_rfl) ?_; conv => whnf) | (refine And.intro ⟨by omega, by omega⟩ ?_; conv => whnf) | (refine And.intro (by omega) ?_; conv => whnf) | (refine And.intro (fun _ => ⟨by omega, by omega⟩) ?_; conv => whnf) | (refine And.intro (fun _ => ?_) (fun h => absurd h ?_); rotate_left; (focus (first | decide | (simp; done) | (simp [tcs]; done))); conv => whnf) | (refine And.intro (fun h => absurd h ?_) (fun _ => ?_); (focus (first | decide | (simp; done) | (simp [tcs]; done))); conv => whnf))
    all_goals (first | rfl | exact ⟨rfl, rfl⟩ | exact ⟨rfl, rfl, rfl⟩)
  | true =>
    have b1 := b1 rfl
    try (refine draw_intro true (by kernel_rfl) ?_; conv => whnf)
    refine CallSt.use a7 [] trivial (by decide) rfl ?_
    rintro _ _ ⟨rfl, rfl⟩ _
    conv => whnf
    try (refine draw_intro true (by kernel_rfl) ?_; conv => whnf)
    refine CallSt.use a8 [] trivial (by decide) rfl ?_
    rintro _ _ ⟨rfl, rfl⟩ _
    conv => whnf
    repeat (first | (refine And.intro rfl ?_; conv => whnf) | (refine And.intro (by decide) ?_; conv => whnf) | (refine And.intro ⟨by omega, by omega⟩ ?_; conv => whnf) | (refine And.intro (by omega) ?_; conv => whnf) | (refine And.intro (fun _ => ⟨by omega, by omega⟩) ?_; conv => whnf) | (refine And.intro (fun _ => ?_) (fun h => absurd h ?_); rotate_left; (focus (first | decide | (simp; done) | (simp [tcs]; done))); conv => whnf) | (refine And.intro (fun h => absurd h ?_) (fun _ => ?_); (focus (first | decide | (simp; done) | (simp [tcs]; done))); conv => whnf))
    try (refine draw_intro true (by kernel_rfl) ?_; conv => whnf)
    refine CallSt.use b1 [] trivial (by decide) rfl ?_
    rintro _ _ ⟨rfl, rfl⟩ _
    conv => whnf
    repeat (first | (refine And.intro rfl ?_; conv => whnf) | (refine And.intro (by decide) ?_; conv => whnf) | (refine And.intro ⟨by omega, by omega⟩ ?_; conv => whnf) | (refine And.intro (by omega) ?_; conv => whnf) | (refine And.intro (fun _ => ⟨by omega, by omega⟩) ?_; conv => whnf) | (refine And.intro (fun _ => ?_) (fun h => absurd h ?_); rotate_left; (focus (first | decide | (simp; done) | (simp [tcs]; done))); conv => whnf) | (refine And.intro (fun h => absurd h ?_) (fun _ => ?_); (focus (first | decide | (simp; done) | (simp [tcs]; done))); conv => whnf))
    try (refine draw_intro true (by kernel_rfl) ?_; conv => whnf)
    refine CallSt.use b2 [] trivial (by decide) rfl ?_
    rintro _ _ ⟨rfl, rfl⟩ _
    conv => whnf
    repeat (first | (refine And.intro rfl ?_; conv => whnf) | (refine And.intro (by decide) ?_; conv => whnf) | (refine And.intro ⟨by omega, by omega⟩ ?_; conv => whnf) | (refine And.intro (by omega) ?_; conv => whnf) | (refine And.intro (fun _ => ⟨by omega, by omega⟩) ?_; conv => whnf) | (refine And.intro (fun _ => ?_) (fun h => absurd h ?_); rotate_left; (focus (first | decide | (simp; done) | (simp [tcs]; done))); conv => whnf) | (refine And.intro (fun h => absurd h ?_) (fun _ => ?_); (focus (first | decide | (simp; done) | (simp [tcs]; done))); conv => whnf))
    try (refine draw_intro true (by kernel_rfl) ?_; conv => whnf)
    refine CallSt.use b3 [] trivial (by decide) rfl ?_
    rintro _ _ ⟨rfl, rfl⟩ _
    conv => whnf
    repeat (first | (refine And.intro rfl ?_; conv => whnf) | (refine And.intro (by decide) ?_; conv => whnf) | (refine And.intro ⟨by omega, by omega⟩ ?_; conv => whnf) | (refine And.intro (by omega) ?_; conv => whnf) | (refine And.intro (fun _ => ⟨by omega, by omega⟩) ?_; conv => whnf) | (refine And.intro (fun _ => ?_) (fun h => absurd h ?_); rotate_left; (focus (first | decide | (simp; done) | (simp [tcs]; done))); conv => whnf) | (refine And.intro (fun h => absurd h ?_) (fun _ => ?_); (focus (first | decide | (simp; done) | (simp [tcs]; done))); conv => whnf))
    try (refine draw_intro true (by kernel_rfl) ?_; conv => whnf)
    refine CallSt.use b4 [] trivial (by decide) rfl ?_
    rintro _ _ ⟨rfl, rfl⟩ _
    conv => whnf
    repeat (first | (refine And.intro rfl ?_; conv => whnf) | (refine And.intro (by decide) ?_; conv => whnf) | (refine draw_intro true (by kernel_rfl) ?_; conv => whnf) | (refine And.intro ⟨by omega, by omega⟩ ?_; conv => whnf) | (refine And.intro (by omega) ?_; conv => whnf) | (refine And.intro (fun _ => ⟨by omega, by omega⟩) ?_; conv => whnf) | (refine And.intro (fun _ => ?_) (fun h => absurd h ?_); rotate_left; (focus (first | decide | (simp; done) | (simp [tcs]; done))); conv => whnf) | (refine And.intro (fun h => absurd h ?_) (fun _ => ?_); (focus (first | decide | (simp; done) | (simp [tcs]; done))); conv => whnf))
    all_goals (first | rfl | exact ⟨rfl, rfl⟩ | exact ⟨rfl, rfl, rfl⟩)
end Go.Tr
