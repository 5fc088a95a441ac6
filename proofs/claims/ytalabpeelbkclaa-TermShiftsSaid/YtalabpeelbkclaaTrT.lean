import Derived.Test.YtalabpeelbkclaaTrS
/- The seat: the reference's Shift; the law TermShifts as a contract. -/
set_option linter.unusedVariables false
set_option linter.unusedSimpArgs false
set_option linter.unnecessarySimpa false
set_option autoImplicit false
/- The reference's Shift. -/
namespace Go.Tr
open Go.Proofs
theorem c80 (t : Term) (i : Int) : CallSt Try.prog 80 [tv t, .c (.int .i64 i)] [] (fun r H' => r = .c (.int .i64 (unT t.k i)) ∧ H' = []) := by
  obtain ⟨k, l, n, ts⟩ := t
  rw [tv_mk]
  refine call_pure (E := env 0) (fn := Try.f80) (c := bodyOf Try.f80) (env_ok 0) mixed (by kernel_rfl) (by kernel_rfl) (by kernel_rfl) (by kernel_rfl) (by kernel_rfl) (by kernel_rfl) rfl ?_
  have key : (decide (k = 3) || (decide (k = 2) && decide (i = 1))) = decide (unT k i = 1) := by
    unfold unT
    by_cases h1 : k = 3 <;> by_cases h2 : k = 2 <;> by_cases h3 : i = 1 <;> simp [h1, h2, h3]
  conv => whnf
  refine ⟨fun h => ?_, fun h => ?_⟩
  · conv => whnf
    refine ⟨rfl, ?_⟩
    conv => whnf
    refine ⟨rfl, ?_⟩
    have h2 := of_decide_eq_true (key.symm.trans h)
    simp only [Term.k]
    rw [h2]
    exact ⟨rfl, rfl⟩
  · conv => whnf
    refine ⟨rfl, ?_⟩
    conv => whnf
    refine ⟨rfl, ?_⟩
    have h2 := of_decide_eq_false (key.symm.trans h)
    simp only [Term.k]
    rw [show unT k i = 0 by have := unT_bd k i; omega]
    exact ⟨rfl, rfl⟩
def lowB (k l n a b : Int) : Bool := decide (k = 4) && decide (l = 1) && decide (a ≤ n) && decide (n ≤ b)
mutual
def lowT : Term → Int → Int → Bool
  | .mk k l n ts, a, b => lowB k l n a b || lowL k 0 ts a b
def lowL (k : Int) : Int → List Term → Int → Int → Bool
  | _, [], _, _ => false
  | j, t :: r, a, b => lowT t (a + unT k j) (b + unT k j) || lowL k (j + 1) r a b
end
theorem c57 (t : Term) : ∀ (a b : Int), (-1000000 ≤ a ∧ a + dpT t ≤ 1000000) → (-1000000 ≤ b ∧ b + dpT t ≤ 1000000) → CallSt Try.prog 57 [tv t, .c (.int .i64 a), .c (.int .i64 b)] [] (fun r H' => r = .c (.bool (lowT t a b)) ∧ H' = []) := by
  induction t using Term.ind with
  | _ t ih =>
  intro a b ha hb
  obtain ⟨k, l, n, ts⟩ := t
  replace ih : ∀ u, u ∈ ts → _ := ih
  rw [dpT] at ha hb
  rw [tv_mk]
  refine call_pure (E := env 0) (fn := Try.f57) (c := bodyOf Try.f57) (env_ok 0) mixed (by kernel_rfl) (by kernel_rfl) (by kernel_rfl) (by kernel_rfl) (by kernel_rfl) (by kernel_rfl) rfl ?_
  conv => whnf
  refine ⟨fun h => ?_, fun h => ?_⟩
  · replace h : lowB k l n a b = true := h
    conv => whnf
    refine ⟨rfl, ?_⟩
    conv => whnf
    refine ⟨rfl, ?_⟩
    rw [lowT, h]
    exact ⟨rfl, rfl⟩
  replace h : lowB k l n a b = false := h
  have hlo : lowT (.mk k l n ts) a b = lowL k 0 ts a b := by rw [lowT, h, Bool.false_or]
  conv => whnf
  refine loop_intro (fun m tm H => ∃ (j : Nat), ts.length = m + j ∧ lowL k j (ts.drop j) a b = lowL k 0 ts a b ∧
      tm = [(7, .c (.int .i64 j)), (3, .ptr 0 0), (1, .c (.int .i64 a)), (2, .c (.int .i64 b)), (6, .c (.bool false))] ∧ H = [.box [.c (.int .i64 k), .c (.int .i64 l), .c (.int .i64 n), .c (.sl 4 48 (tcs ts))]])
      ts.length _ _ ⟨0, by omega, rfl, rfl, rfl⟩ (Wk.sel [0] (by decide) (by decide) (by decide) ⟨rfl, trivial⟩ ⟨rfl, rfl, rfl, rfl, rfl, trivial⟩ rfl) ?_
  rintro m tm H ⟨j, hj, hR, rfl, rfl⟩
  conv => whnf
  intro hlen
  replace hlen : (tcs ts).length * 48 ≤ 140737488355328 := hlen
  rw [len_tcs] at hlen
  conv => whnf
  refine ⟨fun hc => ?_, fun hc => ?_⟩
  · replace hc : (j : Int) < (tcs ts).length := of_decide_eq_true hc
    rw [len_tcs] at hc
    have hlt : j < ts.length := by omega
    obtain ⟨u, hu⟩ : ∃ u, ts[j]? = some u := ⟨ts[j], List.getElem?_eq_getElem hlt⟩
    have hm := List.mem_of_getElem? hu
    have huc := tcs_at ts j u hu
    have hub := unT_bd k j
    have hdp := dpL_mem ts u hm
    have hdq := dpT_pos u
    have hcc := ih u hm (a + unT k j) (b + unT k j) ⟨by omega, by omega⟩ ⟨by omega, by omega⟩
    have hun := c80 (.mk k l n ts) j
    rw [drop_at hu, lowL] at hR
    obtain ⟨k', l', n', us⟩ := u
    conv => whnf
    refine CallSt.use hun [] trivial (by decide) rfl ?_
    rintro _ _ ⟨rfl, rfl⟩ _
    conv => whnf
    refine ⟨_, ⟨by omega, by simpa using huc⟩, ?_⟩
    conv => whnf
    refine ⟨Nat.le_refl 4, ?_⟩
    conv => whnf
    refine ⟨⟨by simp only [Term.k]; omega, by simp only [Term.k]; omega⟩, ?_⟩
    conv => whnf
    refine ⟨⟨by simp only [Term.k]; omega, by simp only [Term.k]; omega⟩, ?_⟩
    conv => whnf
    refine CallSt.use hcc [] trivial (by decide) rfl ?_
    rintro _ _ ⟨rfl, rfl⟩ _
    conv => whnf
    refine ⟨fun hf => ?_, fun hf => ?_⟩
    · conv => whnf
      refine ⟨rfl, ?_⟩
      conv => whnf
      refine ⟨rfl, ?_⟩
      rw [hlo, ← hR, hf]
      exact ⟨rfl, rfl⟩
    · conv => whnf
      refine ⟨⟨by omega, by omega⟩, ?_⟩
      conv => whnf
      refine ⟨m - 1, _, _, by omega, ⟨j + 1, by omega, ?_, rfl, rfl⟩, Wk.sel [0] (by decide) (by decide) (by decide) ⟨rfl, trivial⟩ ⟨rfl, rfl, rfl, rfl, rfl, trivial⟩ rfl⟩
      rw [← hR, hf, Bool.false_or]
      rfl
  · replace hc : ¬ (j : Int) < (tcs ts).length := of_decide_eq_false hc
    rw [len_tcs] at hc
    conv => whnf
    refine ⟨rfl, ?_⟩
    conv => whnf
    refine ⟨rfl, ?_⟩
    rw [hlo, ← hR, List.drop_eq_nil_of_le (by omega), lowL]
    exact ⟨rfl, rfl⟩
end Go.Tr
/- The reference's moved. -/
namespace Go.Tr
open Go.Proofs
theorem shB_of (fr k l n i : Int) {b : Bool} (h : (decide (k = 4) && decide (l = 1) && decide (fr + i ≤ n)) = b) : shB fr k l n i = b := by
  rw [← h]
  unfold shB
  congr 1
  exact decide_eq_decide.2 ⟨fun h => by omega, fun h => by omega⟩
theorem c58 (fr by_ : Int) (hfr : 0 ≤ fr ∧ fr ≤ 9999) (hby : -9999 ≤ by_ ∧ by_ ≤ 9999) (t : Term) : ∀ (i : Int), okT t i →
    CallSt Try.prog 58 [tv t, .c (.int .i64 by_), .c (.int .i64 (fr + i))] [] (fun r H' => r = tv (mapT (mvG fr by_) t i) ∧ H' = []) := by
  induction t using Term.ind with
  | _ t ih =>
  intro i hti
  have hn := bnT_n hti.1
  obtain ⟨hib, hch⟩ := okT_step t i hti
  have hi2 := hti.2
  have hdp0 := dpT_pos t
  obtain ⟨k, l, n, ts⟩ := t
  replace ih : ∀ u, u ∈ ts → _ := ih
  simp only [Term.n] at hn
  rw [tv_mk]
  refine call_pure (E := env 0) (fn := Try.f58) (c := bodyOf Try.f58) (env_ok 0) mixed (by kernel_rfl) (by kernel_rfl) (by kernel_rfl) (by kernel_rfl) (by kernel_rfl) (by kernel_rfl) rfl ?_
  have hmap : ∀ b, shB fr k l n i = b → mapT (mvG fr by_) (.mk k l n ts) i = .mk k l (match b with | true => n + by_ | false => n) (mapL (mvG fr by_) k i 0 ts) := fun b hb => by
    rw [mapT]
    simp only [mvG, hb]
    cases b <;> rfl
  conv => whnf
  refine ⟨fun h => ?_, fun h => ?_⟩
  all_goals replace h := hmap _ (shB_of fr k l n i h)
  all_goals conv => whnf
  · refine ⟨⟨by omega, by omega⟩, ?_⟩
    conv => whnf
    generalize hnn : (n + by_ : Int) = y at *
    refine loop_intro (fun m tm H => ∃ (j : Nat) (us : List Term), ts.length = m + j ∧ us.length = j ∧ us ++ mapL (mvG fr by_) k i j (ts.drop j) = mapL (mvG fr by_) k i 0 ts ∧
        tm = [(8, .c (.int .i64 j)), (3, .ptr 0 0), (6, .ptr 1 0), (7, .ptr 2 0), (1, .c (.int .i64 by_)), (2, .c (.int .i64 (fr + i)))] ∧
        H = [.box [.c (.int .i64 k), .c (.int .i64 l), .c (.int .i64 n), .c (.sl 4 48 (tcs ts))], .box [.c (.int .i64 0), .c (.int .i64 0), .c (.int .i64 0), .nil],
          .box [.c (.int .i64 k), .c (.int .i64 l), .c (.int .i64 y), .own 3], .row 24 4 48 (tcs us)])
      ts.length _ _ ⟨0, [], by omega, rfl, rfl, rfl, rfl⟩ ?_ ?_
    · refine Wk.trans (H1 := [.box [.c (.int .i64 k), .c (.int .i64 l), .c (.int .i64 n), .c (.sl 4 48 (tcs ts))], .box [.c (.int .i64 0), .c (.int .i64 0), .c (.int .i64 0), .nil],
          .box [.c (.int .i64 k), .c (.int .i64 l), .c (.int .i64 y), .nil]]) ?_ (Wk.nilrow' 2 3 24 4 48 rfl rfl rfl rfl)
      exact Wk.sel [0, 1, 2] (by decide) (by decide) (by decide) ⟨rfl, rfl, by first | rfl | (rw [← hnn]; rfl), trivial⟩ ⟨rfl, rfl, rfl, rfl, rfl, rfl, trivial⟩ rfl
    rintro m tm H ⟨j, us, hj, hus, hR, rfl, rfl⟩
    conv => whnf
    intro hlen
    replace hlen : (tcs ts).length * 48 ≤ 140737488355328 := hlen
    rw [len_tcs] at hlen
    conv => whnf
    refine ⟨fun hc => ?_, fun hc => ?_⟩
    · replace hc : (j : Int) < (tcs ts).length := of_decide_eq_true hc
      rw [len_tcs] at hc
      have hlt : j < ts.length := by omega
      obtain ⟨u, hu⟩ : ∃ u, ts[j]? = some u := ⟨ts[j], List.getElem?_eq_getElem hlt⟩
      have hm := List.mem_of_getElem? hu
      have huc := tcs_at ts j u hu
      have hub := unT_bd k j
      have hcc := ih u hm (i + unT k j) (hch j u hu)
      rw [← Int.add_assoc] at hcc
      have hun := c80 (.mk k l n ts) j
      rw [drop_at hu, mapL] at hR
      obtain ⟨k', l', n', us'⟩ := u
      conv => whnf
      refine draw_intro true (by kernel_rfl) ?_
      conv => whnf
      refine ⟨_, ⟨by omega, by simpa using huc⟩, ?_⟩
      conv => whnf
      refine ⟨Nat.le_refl 4, ?_⟩
      conv => whnf
      refine CallSt.use hun [] trivial (by decide) rfl ?_
      rintro _ _ ⟨rfl, rfl⟩ _
      conv => whnf
      refine ⟨⟨by simp only [Term.k]; omega, by simp only [Term.k]; omega⟩, ?_⟩
      conv => whnf
      refine CallSt.use hcc [] trivial (by decide) rfl ?_
      rintro _ _ ⟨rfl, rfl⟩ _
      generalize hv : mapT (mvG fr by_) (.mk k' l' n' us') (i + unT k j) = v at *
      obtain ⟨k3, l3, n3, us3⟩ := v
      conv => whnf
      refine ⟨by decide, ?_⟩
      conv => whnf
      refine ⟨by decide, ?_⟩
      conv => whnf
      have hl1 : (tcs us).length = j := by rw [len_tcs, hus]
      have hl2 : ((tcs us).length + 1) * 48 ≤ 140737488355328 := by omega
      have hl3 : (tcs us).length + 1 ≤ 9223372036854775807 := by omega
      refine ⟨hl2, hl3, ?_⟩
      conv => whnf
      refine ⟨⟨by omega, by omega⟩, ?_⟩
      conv => whnf
      refine ⟨m - 1, _, _, by omega, ⟨j + 1, us ++ [.mk k3 l3 n3 us3], by omega, by simp [hus], ?_, rfl, rfl⟩, Wk.sel [0, 1, 2, 5] (by decide) (by decide) (by decide) ⟨rfl, rfl, rfl, ?_, trivial⟩ ⟨rfl, rfl, rfl, rfl, rfl, rfl, trivial⟩ rfl⟩
      · rw [← hR, List.append_assoc]
        rfl
      · rw [← tcs_snoc]
        rfl
    · replace hc : ¬ (j : Int) < (tcs ts).length := of_decide_eq_false hc
      rw [len_tcs] at hc
      conv => whnf
      refine ⟨rfl, ?_⟩
      conv => whnf
      refine ⟨rfl, ?_⟩
      rw [List.drop_eq_nil_of_le (by omega), mapL, List.append_nil] at hR
      rw [h, ← hR]
      exact ⟨rfl, rfl⟩
  ·
    refine loop_intro (fun m tm H => ∃ (j : Nat) (us : List Term), ts.length = m + j ∧ us.length = j ∧ us ++ mapL (mvG fr by_) k i j (ts.drop j) = mapL (mvG fr by_) k i 0 ts ∧
        tm = [(8, .c (.int .i64 j)), (3, .ptr 0 0), (6, .ptr 1 0), (7, .ptr 2 0), (1, .c (.int .i64 by_)), (2, .c (.int .i64 (fr + i)))] ∧
        H = [.box [.c (.int .i64 k), .c (.int .i64 l), .c (.int .i64 n), .c (.sl 4 48 (tcs ts))], .box [.c (.int .i64 0), .c (.int .i64 0), .c (.int .i64 0), .nil],
          .box [.c (.int .i64 k), .c (.int .i64 l), .c (.int .i64 n), .own 3], .row 24 4 48 (tcs us)])
      ts.length _ _ ⟨0, [], by omega, rfl, rfl, rfl, rfl⟩ ?_ ?_
    · refine Wk.trans (H1 := [.box [.c (.int .i64 k), .c (.int .i64 l), .c (.int .i64 n), .c (.sl 4 48 (tcs ts))], .box [.c (.int .i64 0), .c (.int .i64 0), .c (.int .i64 0), .nil],
          .box [.c (.int .i64 k), .c (.int .i64 l), .c (.int .i64 n), .nil]]) ?_ (Wk.nilrow' 2 3 24 4 48 rfl rfl rfl rfl)
      exact Wk.sel [0, 1, 2] (by decide) (by decide) (by decide) ⟨rfl, rfl, rfl, trivial⟩ ⟨rfl, rfl, rfl, rfl, rfl, rfl, trivial⟩ rfl
    rintro m tm H ⟨j, us, hj, hus, hR, rfl, rfl⟩
    conv => whnf
    intro hlen
    replace hlen : (tcs ts).length * 48 ≤ 140737488355328 := hlen
    rw [len_tcs] at hlen
    conv => whnf
    refine ⟨fun hc => ?_, fun hc => ?_⟩
    · replace hc : (j : Int) < (tcs ts).length := of_decide_eq_true hc
      rw [len_tcs] at hc
      have hlt : j < ts.length := by omega
      obtain ⟨u, hu⟩ : ∃ u, ts[j]? = some u := ⟨ts[j], List.getElem?_eq_getElem hlt⟩
      have hm := List.mem_of_getElem? hu
      have huc := tcs_at ts j u hu
      have hub := unT_bd k j
      have hcc := ih u hm (i + unT k j) (hch j u hu)
      rw [← Int.add_assoc] at hcc
      have hun := c80 (.mk k l n ts) j
      rw [drop_at hu, mapL] at hR
      obtain ⟨k', l', n', us'⟩ := u
      conv => whnf
      refine draw_intro true (by kernel_rfl) ?_
      conv => whnf
      refine ⟨_, ⟨by omega, by simpa using huc⟩, ?_⟩
      conv => whnf
      refine ⟨Nat.le_refl 4, ?_⟩
      conv => whnf
      refine CallSt.use hun [] trivial (by decide) rfl ?_
      rintro _ _ ⟨rfl, rfl⟩ _
      conv => whnf
      refine ⟨⟨by simp only [Term.k]; omega, by simp only [Term.k]; omega⟩, ?_⟩
      conv => whnf
      refine CallSt.use hcc [] trivial (by decide) rfl ?_
      rintro _ _ ⟨rfl, rfl⟩ _
      generalize hv : mapT (mvG fr by_) (.mk k' l' n' us') (i + unT k j) = v at *
      obtain ⟨k3, l3, n3, us3⟩ := v
      conv => whnf
      refine ⟨by decide, ?_⟩
      conv => whnf
      refine ⟨by decide, ?_⟩
      conv => whnf
      have hl1 : (tcs us).length = j := by rw [len_tcs, hus]
      have hl2 : ((tcs us).length + 1) * 48 ≤ 140737488355328 := by omega
      have hl3 : (tcs us).length + 1 ≤ 9223372036854775807 := by omega
      refine ⟨hl2, hl3, ?_⟩
      conv => whnf
      refine ⟨⟨by omega, by omega⟩, ?_⟩
      conv => whnf
      refine ⟨m - 1, _, _, by omega, ⟨j + 1, us ++ [.mk k3 l3 n3 us3], by omega, by simp [hus], ?_, rfl, rfl⟩, Wk.sel [0, 1, 2, 5] (by decide) (by decide) (by decide) ⟨rfl, rfl, rfl, ?_, trivial⟩ ⟨rfl, rfl, rfl, rfl, rfl, rfl, trivial⟩ rfl⟩
      · rw [← hR, List.append_assoc]
        rfl
      · rw [← tcs_snoc]
        rfl
    · replace hc : ¬ (j : Int) < (tcs ts).length := of_decide_eq_false hc
      rw [len_tcs] at hc
      conv => whnf
      refine ⟨rfl, ?_⟩
      conv => whnf
      refine ⟨rfl, ?_⟩
      rw [List.drop_eq_nil_of_le (by omega), mapL, List.append_nil] at hR
      rw [h, ← hR]
      exact ⟨rfl, rfl⟩
end Go.Tr
/- The reference's Shift; the law TermShifts, but for the plain law. -/
namespace Go.Tr
open Go.Proofs
def rBad (t : Term) (by_ fr : Int) : Bool := !rprop t || decide (by_ < -9999) || decide (9999 < by_) || decide (fr < 0) || decide (9999 < fr)
def rLow (t : Term) (by_ fr : Int) : Bool := decide (by_ < 0) && lowT t fr (fr - by_ - 1)
def rshiftF (t : Term) (by_ fr : Int) : Term × Int :=
  match rBad t by_ fr with
  | true => (zT, 2)
  | false => match rLow t by_ fr with
    | true => (zT, 27)
    | false => match rprop (mapT (mvG fr by_) t 0) with
      | true => (mapT (mvG fr by_) t 0, 0)
      | false => (zT, 5)
theorem c20 (t : Term) (by_ fr : Int) : CallSt Try.prog 20 [tv t, .c (.int .i64 by_), .c (.int .i64 fr)] [] (fun r H' => r = .tup [tv (rshiftF t by_ fr).1, .c (.int .i64 (rshiftF t by_ fr).2)] ∧ H' = []) := by
  have h16 := c16 t
  have hsh : ∀ b, rBad t by_ fr = b → rshiftF t by_ fr = match b with
    | true => (zT, 2)
    | false => match rLow t by_ fr with
      | true => (zT, 27)
      | false => match rprop (mapT (mvG fr by_) t 0) with
        | true => (mapT (mvG fr by_) t 0, 0)
        | false => (zT, 5) := fun b hb => by unfold rshiftF; rw [hb]
  have hok : rBad t by_ fr = false → (okT t 0 ∧ dpT t ≤ 40) ∧ (0 ≤ fr ∧ fr ≤ 9999) ∧ (-9999 ≤ by_ ∧ by_ ≤ 9999) := fun h => by
    unfold rBad at h
    simp only [Bool.or_eq_false_iff, decide_eq_false_iff_not, Bool.not_eq_false'] at h
    have hp : prop t = true := by rw [prop_rprop]; exact h.1.1.1.1
    exact ⟨⟨prop_ok hp, by have := propT_dp t 1 0 hp; omega⟩, by omega, by omega⟩
  have hmv : ∀ (_ : okT t 0 ∧ dpT t ≤ 40) (_ : 0 ≤ fr ∧ fr ≤ 9999) (_ : -9999 ≤ by_ ∧ by_ ≤ 9999), _ := fun h1 h2 h3 => c58 fr by_ h2 h3 t 0 h1.1
  rw [Int.add_zero] at hmv
  have hlow : ∀ (_ : okT t 0 ∧ dpT t ≤ 40) (_ : 0 ≤ fr ∧ fr ≤ 9999) (_ : -9999 ≤ by_ ∧ by_ ≤ 9999), _ := fun h1 h2 h3 => c57 t fr (fr - by_ - 1) ⟨by omega, by have := h1.2; omega⟩ ⟨by omega, by have := h1.2; omega⟩
  have hv16 := c16 (mapT (mvG fr by_) t 0)
  have hbd : (!rprop t || decide (by_ < -9999) || decide (9999 < by_) || decide (fr < 0) || decide (9999 < fr)) = rBad t by_ fr := rfl
  have hrl : (decide (by_ < 0) && lowT t fr (fr - by_ - 1)) = rLow t by_ fr := rfl
  generalize rBad t by_ fr = bad at *
  generalize rLow t by_ fr = lo at *
  generalize lowT t fr (fr - by_ - 1) = lw at *
  generalize rprop (mapT (mvG fr by_) t 0) = pv at *
  generalize mapT (mvG fr by_) t 0 = v at *
  generalize rshiftF t by_ fr = res at *
  generalize rprop t = pt at *
  generalize (okT t 0 ∧ dpT t ≤ 40) = okk at *
  obtain ⟨k, l, n, ts⟩ := t
  obtain ⟨k2, l2, n2, ts2⟩ := v
  rw [tv_mk] at *
  refine call_pure (E := env 0) (fn := Try.f20) (c := bodyOf Try.f20) (env_ok 0) mixed (by kernel_rfl) (by kernel_rfl) (by kernel_rfl) (by kernel_rfl) (by kernel_rfl) (by kernel_rfl) rfl ?_
  conv => whnf
  refine CallSt.use h16 [] trivial (by decide) rfl ?_
  rintro _ _ ⟨rfl, rfl⟩ _
  conv => whnf
  refine ⟨fun hb => ?_, fun hb => ?_⟩
  · conv => whnf
    refine ⟨rfl, ?_⟩
    conv => whnf
    refine ⟨rfl, ?_⟩
    rw [hsh true (hbd.symm.trans hb)]
    exact ⟨rfl, rfl⟩
  have h1 : bad = false := hbd.symm.trans hb
  obtain ⟨g1, g2, g3⟩ := hok h1
  have hsh := hsh false h1
  conv => whnf
  refine ⟨fun _ => ⟨by omega, by omega⟩, ?_⟩
  conv => whnf
  refine ⟨fun _ => ⟨by omega, by omega⟩, ?_⟩
  conv => whnf
  refine ⟨fun hby => ?_, fun hby => ?_⟩
  · conv => whnf
    refine CallSt.use (hlow g1 g2 g3) [] trivial (by decide) rfl ?_
    rintro _ _ ⟨rfl, rfl⟩ _
    conv => whnf
    refine ⟨fun hw => ?_, fun hw => ?_⟩
    · have hl : lo = true := by
        rw [← hrl, hby]
        exact hw
      conv => whnf
      refine ⟨rfl, ?_⟩
      conv => whnf
      refine ⟨rfl, ?_⟩
      rw [hsh, hl]
      exact ⟨rfl, rfl⟩
    have hl : lo = false := by
      rw [← hrl, hby]
      exact hw
    conv => whnf
    refine CallSt.use (hmv g1 g2 g3) [] trivial (by decide) rfl ?_
    rintro _ _ ⟨rfl, rfl⟩ _
    conv => whnf
    refine CallSt.use hv16 [] trivial (by decide) rfl ?_
    rintro _ _ ⟨rfl, rfl⟩ _
    conv => whnf
    refine ⟨fun hp => ?_, fun hp => ?_⟩
    · conv => whnf
      refine ⟨rfl, ?_⟩
      conv => whnf
      refine ⟨rfl, ?_⟩
      have hp2 : pv = false := by simpa using hp
      rw [hsh, hl, hp2]
      exact ⟨rfl, rfl⟩
    · conv => whnf
      refine ⟨rfl, ?_⟩
      conv => whnf
      refine ⟨rfl, ?_⟩
      have hp2 : pv = true := by simpa using hp
      rw [hsh, hl, hp2]
      exact ⟨rfl, rfl⟩
  · have hl : lo = false := by
      rw [← hrl, hby]
      rfl
    conv => whnf
    refine ⟨fun h => absurd h (by decide), fun _ => ?_⟩
    conv => whnf
    refine CallSt.use (hmv g1 g2 g3) [] trivial (by decide) rfl ?_
    rintro _ _ ⟨rfl, rfl⟩ _
    conv => whnf
    refine CallSt.use hv16 [] trivial (by decide) rfl ?_
    rintro _ _ ⟨rfl, rfl⟩ _
    conv => whnf
    refine ⟨fun hp => ?_, fun hp => ?_⟩
    · conv => whnf
      refine ⟨rfl, ?_⟩
      conv => whnf
      refine ⟨rfl, ?_⟩
      have hp2 : pv = false := by simpa using hp
      rw [hsh, hl, hp2]
      exact ⟨rfl, rfl⟩
    · conv => whnf
      refine ⟨rfl, ?_⟩
      conv => whnf
      refine ⟨rfl, ?_⟩
      have hp2 : pv = true := by simpa using hp
      rw [hsh, hl, hp2]
      exact ⟨rfl, rfl⟩
end Go.Tr
/- The plain law of TermShifts. -/
namespace Go.Tr
open Go.Proofs
mutual
def ovT (fr by_ : Int) : Term → Int → Bool
  | .mk k l n ts, i => (shB fr k l n i && decide (9999 < n + by_)) || ovL fr by_ k i 0 ts
def ovL (fr by_ : Int) (k i : Int) : Int → List Term → Bool
  | _, [] => false
  | j, t :: r => ovT fr by_ t (i + unT k j) || ovL fr by_ k i (j + 1) r
end
theorem lowB_shB (fr by_ k l n i : Int) : lowB k l n (fr + i) (fr - by_ - 1 + i) = (shB fr k l n i && decide (n - i < fr - by_)) := by
  unfold lowB shB
  rw [Bool.eq_iff_iff]
  simp only [Bool.and_eq_true, decide_eq_true_eq]
  omega
mutual
theorem eachT_sh (fr by_ : Int) : ∀ (t : Term) (i : Int) (s : Bool × Bool), eachT (shStep fr by_) t i s = (s.1 || (decide (by_ < 0) && lowT t (fr + i) (fr - by_ - 1 + i)), s.2 || ovT fr by_ t i)
  | .mk k l n ts, i, s => by
    rw [eachT, eachL_sh fr by_ k i ts 0, lowT, ovT, lowB_shB]
    simp only [shStep, Term.k, Term.l, Term.n]
    cases shB fr k l n i
    · simp
    · simp only [Bool.true_and, Bool.and_or_distrib_left, Bool.or_assoc]
      rfl
theorem eachL_sh (fr by_ k i : Int) : ∀ (ts : List Term) (j : Int) (s : Bool × Bool), eachL (shStep fr by_) k i j ts s = (s.1 || (decide (by_ < 0) && lowL k j ts (fr + i) (fr - by_ - 1 + i)), s.2 || ovL fr by_ k i j ts)
  | [], j, s => by simp [eachL, lowL, ovL]
  | t :: r, j, s => by
    rw [eachL, eachL_sh fr by_ k i r, eachT_sh fr by_ t, lowL, ovL]
    simp only [Bool.and_or_distrib_left, Bool.or_assoc, Int.add_assoc]
end
theorem shEach_eq (t : Term) (by_ fr : Int) : shEach t by_ fr = (rLow t by_ fr, ovT fr by_ t 0) := by
  unfold shEach rLow
  rw [eachT_sh]
  simp
mutual
theorem szT_map (g : Int → Int → Int → Int → Int × Int × Int) : ∀ (t : Term) (i : Int), szT (mapT g t i) = szT t
  | .mk k l n ts, i => by rw [mapT, szT, szT, szL_map g k i ts 0]
theorem szL_map (g : Int → Int → Int → Int → Int × Int × Int) (k i : Int) : ∀ (ts : List Term) (j : Int), szL (mapL g k i j ts) = szL ts
  | [], j => by rw [mapL]
  | t :: r, j => by rw [mapL, szL, szL, szT_map g t, szL_map g k i r]
end
theorem fmB_mv {fr by_ k l n i : Int} {m : Nat} (hfr : 0 ≤ fr) (hi : 0 ≤ i) (hf : fmB k l n m = true) (hs : shB fr k l n i = true) (hlo : (decide (by_ < 0) && decide (n - i < fr - by_)) = false) :
    fmB k l (n + by_) m = !decide (9999 < n + by_) := by
  unfold shB at hs
  simp only [Bool.and_eq_true, decide_eq_true_eq] at hs
  obtain ⟨⟨rfl, rfl⟩, h3⟩ := hs
  have h4 : ¬ (n + by_ < 0) := by
    intro h
    simp only [Bool.and_eq_false_iff, decide_eq_false_iff_not] at hlo
    omega
  unfold fmB
  rw [if_neg (by decide), if_neg (by decide), if_neg (by decide), if_pos rfl, decide_eq_false h4]
  rfl
mutual
theorem fmT_mv (fr by_ : Int) (hfr : 0 ≤ fr) : ∀ (t : Term) (i d : Int), 0 ≤ i → fmT t d = true → (decide (by_ < 0) && lowT t (fr + i) (fr - by_ - 1 + i)) = false → fmT (mapT (mvG fr by_) t i) d = !ovT fr by_ t i
  | .mk k l n ts, i, d, hi, hf, hlo => by
    unfold fmT at hf
    simp only [Bool.and_eq_true] at hf
    rw [lowT, lowB_shB, Bool.and_or_distrib_left, Bool.or_eq_false_iff] at hlo
    have hL := fmL_mv fr by_ hfr k i ts 0 d hi hf.2 hlo.2
    rw [mapT, fmT, mapL_len, hf.1.1, Bool.true_and, hL, ovT, Bool.not_or]
    simp only [mvG]
    cases hs : shB fr k l n i with
    | true =>
      rw [hs, Bool.true_and] at hlo
      rw [fmB_mv hfr hi hf.1.2 hs hlo.1]
      rfl
    | false =>
      rw [hf.1.2]
      rfl
theorem fmL_mv (fr by_ : Int) (hfr : 0 ≤ fr) (k i : Int) : ∀ (ts : List Term) (j d : Int), 0 ≤ i → fmL ts d = true → (decide (by_ < 0) && lowL k j ts (fr + i) (fr - by_ - 1 + i)) = false → fmL (mapL (mvG fr by_) k i j ts) d = !ovL fr by_ k i j ts
  | [], j, d, hi, hf, hlo => by rw [mapL, ovL, fmL]; rfl
  | t :: r, j, d, hi, hf, hlo => by
    unfold fmL at hf
    simp only [Bool.and_eq_true] at hf
    rw [lowL, Bool.and_or_distrib_left, Bool.or_eq_false_iff, Int.add_assoc, Int.add_assoc] at hlo
    have hu := unT_bd k j
    have h1 := fmT_mv fr by_ hfr t (i + unT k j) (d + 1) (by omega) hf.1 hlo.1
    have h2 := fmL_mv fr by_ hfr k i r (j + 1) d hi hf.2 hlo.2
    rw [mapL, fmL, h1, h2, ovL, Bool.not_or]
end
theorem rprop_iff (t : Term) : rprop t = (decide (szT t ≤ 600) && fmT t 1) := by
  unfold rprop
  congr 1
  have hs := ndT_sz t 600 (by omega)
  refine decide_eq_decide.2 ⟨fun h => ?_, fun h => by rw [hs.1 h]; exact h⟩
  rcases Int.lt_or_le 600 (szT t) with h2 | h2
  · have := hs.2 h2; omega
  · exact h2
theorem shift_eq (t : Term) (by_ fr : Int) : shiftF t by_ fr = rshiftF t by_ fr := by
  unfold shiftF rshiftF
  have hb : shBad t by_ fr = rBad t by_ fr := by unfold shBad rBad; rw [prop_rprop]
  rw [hb, shEach_eq]
  cases hbad : rBad t by_ fr with
  | true => rfl
  | false =>
    simp only
    cases hlo : rLow t by_ fr with
    | true => rfl
    | false =>
      simp only
      unfold rBad at hbad
      simp only [Bool.or_eq_false_iff, decide_eq_false_iff_not, Bool.not_eq_false'] at hbad
      obtain ⟨⟨⟨⟨hp, _⟩, _⟩, hfr⟩, _⟩ := hbad
      rw [rprop_iff, Bool.and_eq_true] at hp
      have h1 := fmT_mv fr by_ (by omega) t 0 1 (by omega) hp.2 (by rw [Int.add_zero, Int.add_zero]; exact hlo)
      rw [rprop_iff, szT_map, hp.1, h1, Bool.true_and]
      cases ovT fr by_ t 0 <;> rfl
end Go.Tr
/- The law TermShifts. -/
namespace Go.Tr
open Go.Proofs
theorem c4 (t : Term) (by_ fr : Int) : CallSt Try.prog 4 [tv t, .c (.int .i64 by_), .c (.int .i64 fr)] [] (fun r H' => r = .c (.bool true) ∧ H' = []) := by
  have a1 := c19 t by_ fr
  have a2 := c20 t by_ fr
  rw [← shift_eq] at a2
  generalize shiftF t by_ fr = x at *
  obtain ⟨u, e⟩ := x
  have a3 := c21 u u e e
  rw [show (sameT u u && decide (e = e)) = true by rw [(sameT_iff u u).2 rfl]; simp] at a3
  have a4 := c17
  obtain ⟨k, l, n, ts⟩ := t
  obtain ⟨k2, l2, n2, ts2⟩ := u
  rw [tv_mk] at *
  refine call_pure (E := env 0) (fn := Try.f4) (c := bodyOf Try.f4) (env_ok 0) mixed (by kernel_rfl) (by kernel_rfl) (by kernel_rfl) (by kernel_rfl) (by kernel_rfl) (by kernel_rfl) rfl ?_
  conv => whnf
  refine CallSt.use a1 [] trivial (by decide) rfl ?_
  rintro _ _ ⟨rfl, rfl⟩ _
  conv => whnf
  refine CallSt.use a2 [] trivial (by decide) rfl ?_
  rintro _ _ ⟨rfl, rfl⟩ _
  conv => whnf
  refine CallSt.use a3 [] trivial (by decide) rfl ?_
  rintro _ _ ⟨rfl, rfl⟩ _
  conv => whnf
  refine ⟨fun _ => ?_, fun h => absurd h (by decide)⟩
  conv => whnf
  refine CallSt.use a4 [] trivial (by decide) rfl ?_
  rintro _ _ ⟨rfl, rfl⟩ _
  conv => whnf
  refine ⟨rfl, ?_⟩
  conv => whnf
  exact ⟨rfl, rfl, rfl⟩
end Go.Tr
