/- What each function computes, and the plain laws of it, for the law TermFree. -/
import Derived.Test.YtalabpeelbkclaaTrTermFreeC
set_option linter.unusedVariables false
set_option linter.unusedSimpArgs false
set_option linter.unnecessarySimpa false
set_option autoImplicit false
/- Copy, Pi, kept; Arrow: both sides. -/
namespace Go.Tr
open Go.Proofs
/-- Within a round of a loop over a function. -/
def envY (n : Nat) : Env := ⟨lkT tab, keep, n, true, false⟩
theorem envY_ok (n : Nat) : EnvOk Try.prog (envY n) := EnvOk.of (l := tab) rfl (by kernel_rfl)
theorem cMap0 (f : FuncId) (g : Int → Int → Int → Int → Int × Int × Int) (ok : Term → Int → Prop) (hok : ∀ t i, ok t i → (0 ≤ i ∧ i ≤ 1000000000) ∧ ∀ (j : Nat) u, t.ts[j]? = some u → ok u (i + unT t.k j))
    (hf : ∀ t i, ok t i → CallSt Try.prog f ([.agg [.c (.int .i64 (t.k)), .c (.int .i64 (t.l)), .c (.int .i64 (t.n)), .nil], .c (.int .i64 (i))] ++ []) []
      (fun r H' => r = .agg [.c (.int .i64 ((g t.k t.l t.n i).1)), .c (.int .i64 ((g t.k t.l t.n i).2.1)), .c (.int .i64 ((g t.k t.l t.n i).2.2)), .nil] ∧ H' = [])) (t : Term) :
    ∀ (i : Int), ok t i → CallSt Try.prog 78 [tv t, .c (.int .i64 (i)), .fn f []] []
      (fun r H' => r = tv (mapT g t i) ∧ H' = []) := by
  induction t using Term.ind with
  | _ t ih =>
  intro i hti
  have hff := hf t i hti
  obtain ⟨hib, hch⟩ := hok t i hti
  obtain ⟨k, l, n, ts⟩ := t
  replace ih : ∀ u, u ∈ ts → _ := ih
  rw [tv_mk]
  refine call_pure (E := envK 0) (fn := Try.f78) (c := bodyOf Try.f78) (envK_ok 0) mixed (by kernel_rfl) (by kernel_rfl) (by kernel_rfl) (by kernel_rfl) (by kernel_rfl) (by kernel_rfl) rfl ?_
  conv => whnf
  try (refine draw_intro true (by kernel_rfl) ?_; conv => whnf)
  refine CallSt.use hff [] trivial (by decide) rfl ?_
  rintro _ _ ⟨rfl, rfl⟩ _
  conv => whnf
  simp only [Term.k, Term.l, Term.n]
  generalize hg : g k l n i = y
  obtain ⟨y1, y2, y3⟩ := y
  conv => whnf
  intro hlen
  replace hlen : (tcs ts).length * 48 ≤ 140737488355328 := hlen
  rw [len_tcs] at hlen
  conv => whnf
  refine loop_intro (fun m tm H => ∃ (j : Nat) (us : List Term), ts.length = m + j ∧ us.length = j ∧ us ++ mapL g k i j (ts.drop j) = mapL g k i 0 ts ∧
      tm = [(23, .c (.int .i64 (j))), (21, .c (.sl 4 48 (tcs ts))), (22, .c (.int .i64 ((tcs ts).length))), (1, .c (.int .i64 (i))), (2, .fn f []), (3, .ptr 0 0), (6, .ptr 1 0), (7, .ptr 2 0)] ∧
      H = [.box [.c (.int .i64 (k)), .c (.int .i64 (l)), .c (.int .i64 (n)), .c (.sl 4 48 (tcs ts))], .box [.c (.int .i64 (0)), .c (.int .i64 (0)), .c (.int .i64 (0)), .nil],
        .box [.c (.int .i64 (y1)), .c (.int .i64 (y2)), .c (.int .i64 (y3)), .own 3], .row 24 4 48 (tcs us)])
      ts.length _ _ ⟨0, [], by omega, rfl, rfl, rfl, rfl⟩ ?_ ?_
  · refine Wk.trans (H1 := [.box [.c (.int .i64 (k)), .c (.int .i64 (l)), .c (.int .i64 (n)), .c (.sl 4 48 (tcs ts))], .box [.c (.int .i64 (0)), .c (.int .i64 (0)), .c (.int .i64 (0)), .nil],
        .box [.c (.int .i64 (y1)), .c (.int .i64 (y2)), .c (.int .i64 (y3)), .nil]]) ?_ (Wk.nilrow' 2 3 24 4 48 rfl rfl rfl rfl)
    exact Wk.sel [0, 1, 2] (by decide) (by decide) (by decide) ⟨rfl, rfl, rfl, trivial⟩ ⟨rfl, rfl, rfl, rfl, rfl, rfl, rfl, rfl, trivial⟩ rfl
  rintro m tm H ⟨j, us, hj, hus, hR, rfl, rfl⟩
  conv => whnf
  refine ⟨fun hc => ?_, fun hc => ?_⟩
  · replace hc : (j : Int) < (tcs ts).length := of_decide_eq_true hc
    rw [len_tcs] at hc
    have hlt : j < ts.length := by omega
    obtain ⟨u, hu⟩ : ∃ u, ts[j]? = some u := ⟨ts[j], List.getElem?_eq_getElem hlt⟩
    have hm := List.mem_of_getElem? hu
    have huc := tcs_at ts j u hu
    have hcc := ih u hm (i + unT k j) (hch j u hu)
    have hun := c77 (.mk k l n ts) j
    have hub := unT_bd k j
    rw [drop_at hu, mapL] at hR
    obtain ⟨k', l', n', us'⟩ := u
    conv => whnf
    refine ⟨_, ⟨by omega, by simpa using huc⟩, ?_⟩
    conv => whnf
    refine ⟨Nat.le_refl 4, ?_⟩
    conv => whnf
    try (refine draw_intro true (by kernel_rfl) ?_; conv => whnf)
    refine CallSt.use hun [] trivial (by decide) rfl ?_
    rintro _ _ ⟨rfl, rfl⟩ _
    conv => whnf
    refine ⟨⟨by simp only [Term.k]; omega, by simp only [Term.k]; omega⟩, ?_⟩
    conv => whnf
    try (refine draw_intro true (by kernel_rfl) ?_; conv => whnf)
    refine CallSt.use hcc [] trivial (by decide) rfl ?_
    rintro _ _ ⟨rfl, rfl⟩ _
    generalize hv : mapT g (.mk k' l' n' us') (i + unT k j) = v at *
    obtain ⟨k3, l3, n3, us3⟩ := v
    conv => whnf
    refine ⟨by decide, ?_⟩
    conv => whnf
    refine ⟨by decide, ?_⟩
    conv => whnf
    have hl1 : (tcs us).length = j := by rw [len_tcs, hus]
    have hl2 : ((tcs us).length + 1) * 48 ≤ 140737488355328 := by omega
    have hl3 : (tcs us).length + 1 ≤ 9223372036854775807 := by omega
    refine ⟨hl2, hl3, ?_⟩
    conv => whnf
    refine ⟨⟨by omega, by omega⟩, ?_⟩
    conv => whnf
    refine ⟨m - 1, _, _, by omega, ⟨j + 1, us ++ [.mk k3 l3 n3 us3], by omega, by simp [hus], ?_, rfl, rfl⟩, Wk.sel [0, 1, 2, 6] (by decide) (by decide) (by decide) ⟨rfl, rfl, rfl, ?_, trivial⟩ ⟨rfl, rfl, rfl, rfl, rfl, rfl, rfl, rfl, trivial⟩ rfl⟩
    · rw [← hR, List.append_assoc]
      rfl
    · rw [← tcs_snoc]
      rfl
  · replace hc : ¬ (j : Int) < (tcs ts).length := of_decide_eq_false hc
    rw [len_tcs] at hc
    conv => whnf
    refine ⟨rfl, ?_⟩
    conv => whnf
    refine ⟨rfl, ?_⟩
    rw [List.drop_eq_nil_of_le (by omega), mapL, List.append_nil] at hR
    rw [mapT, hg, ← hR]
    exact ⟨rfl, rfl⟩
theorem c81 (k l n i : Int) : CallSt Try.prog 81 [.agg [.c (.int .i64 (k)), .c (.int .i64 (l)), .c (.int .i64 (n)), .nil], .c (.int .i64 (i))] [] (fun r H' => r = .agg [.c (.int .i64 (k)), .c (.int .i64 (l)), .c (.int .i64 (n)), .nil] ∧ H' = []) := by
  refine call_trim (E := env 0) (fn := Try.f81) (c := bodyOf Try.f81) (env_ok 0) mixed (by kernel_rfl) (by kernel_rfl) (by kernel_rfl) (by kernel_rfl) (by kernel_rfl) (by kernel_rfl) rfl ?_
  conv => whnf
  repeat (first | (refine And.intro rfl ?_; conv => whnf) | (refine And.intro (by decide) ?_; conv => whnf) | (refine draw_intro true (by kernel_rfl) ?_; conv => whnf) | (refine And.intro ⟨by omega, by omega⟩ ?_; conv => whnf) | (refine And.intro (by omega) ?_; conv => whnf) | (refine And.intro (fun _ => ⟨by omega, by omega⟩) ?_; conv => whnf) | (refine And.intro (fun _ => ?_) (fun h => absurd h ?_); rotate_left; (focus (first | decide | (simp; done) | (simp [tcs]; done))); conv => whnf) | (refine And.intro (fun h => absurd h ?_) (fun _ => ?_); (focus (first | decide | (simp; done) | (simp [tcs]; done))); conv => whnf))
  all_goals (first | rfl | exact ⟨rfl, rfl⟩ | exact ⟨rfl, rfl, rfl⟩)
mutual
theorem mapT_id : ∀ (t : Term) (i : Int), mapT (fun k l n _ => (k, l, n)) t i = t
  | .mk k l n ts, i => by rw [mapT, mapL_id k i ts]
theorem mapL_id (k i : Int) : ∀ (ts : List Term) (j : Int), mapL (fun k l n _ => (k, l, n)) k i j ts = ts
  | [], j => by rw [mapL]
  | t :: r, j => by rw [mapL, mapT_id t, mapL_id k i r]
end
theorem c64 (t : Term) (h : okT t 0) : CallSt Try.prog 64 [tv t] [] (fun r H' => r = tv t ∧ H' = []) := by
  have c := cMap0 81 (fun k l n _ => (k, l, n)) okT okT_step (fun t i _ => c81 t.k t.l t.n i) t 0 h
  rw [mapT_id] at c
  obtain ⟨k, l, n, ts⟩ := t
  rw [tv_mk] at *
  refine call_pure (E := env 0) (fn := Try.f64) (c := bodyOf Try.f64) (env_ok 0) mixed (by kernel_rfl) (by kernel_rfl) (by kernel_rfl) (by kernel_rfl) (by kernel_rfl) (by kernel_rfl) rfl ?_
  conv => whnf
  try (refine draw_intro true (by kernel_rfl) ?_; conv => whnf)
  refine CallSt.use c [] trivial (by decide) rfl ?_
  rintro _ _ ⟨rfl, rfl⟩ _
  conv => whnf
  repeat (first | (refine And.intro rfl ?_; conv => whnf) | (refine And.intro (by decide) ?_; conv => whnf) | (refine draw_intro true (by kernel_rfl) ?_; conv => whnf) | (refine And.intro ⟨by omega, by omega⟩ ?_; conv => whnf) | (refine And.intro (by omega) ?_; conv => whnf) | (refine And.intro (fun _ => ⟨by omega, by omega⟩) ?_; conv => whnf) | (refine And.intro (fun _ => ?_) (fun h => absurd h ?_); rotate_left; (focus (first | decide | (simp; done) | (simp [tcs]; done))); conv => whnf) | (refine And.intro (fun h => absurd h ?_) (fun _ => ?_); (focus (first | decide | (simp; done) | (simp [tcs]; done))); conv => whnf))
  all_goals (first | rfl | exact ⟨rfl, rfl⟩ | exact ⟨rfl, rfl, rfl⟩)
end Go.Tr
/- Clone, Backward; Pi, kept; Arrow. -/
namespace Go.Tr
open Go.Proofs
def piT (a b : Term) : Term := .mk 2 0 0 [a, b]
theorem c63 (a b : Term) : CallSt Try.prog 63 [tv a, tv b] [] (fun r H' => r = tv (piT a b) ∧ H' = []) := by
  obtain ⟨k, l, n, ts⟩ := a
  obtain ⟨k2, l2, n2, us⟩ := b
  rw [tv_mk, tv_mk]
  refine call_pure (E := env 0) (fn := Try.f63) (c := bodyOf Try.f63) (env_ok 0) mixed (by kernel_rfl) (by kernel_rfl) (by kernel_rfl) (by kernel_rfl) (by kernel_rfl) (by kernel_rfl) rfl ?_
  conv => whnf
  repeat (first | (refine And.intro rfl ?_; conv => whnf) | (refine And.intro (by decide) ?_; conv => whnf) | (refine draw_intro true (by kernel_rfl) ?_; conv => whnf) | (refine And.intro ⟨by omega, by omega⟩ ?_; conv => whnf) | (refine And.intro (by omega) ?_; conv => whnf) | (refine And.intro (fun _ => ⟨by omega, by omega⟩) ?_; conv => whnf) | (refine And.intro (fun _ => ?_) (fun h => absurd h ?_); rotate_left; (focus (first | decide | (simp; done) | (simp [tcs]; done))); conv => whnf) | (refine And.intro (fun h => absurd h ?_) (fun _ => ?_); (focus (first | decide | (simp; done) | (simp [tcs]; done))); conv => whnf))
  all_goals (first | rfl | exact ⟨rfl, rfl⟩ | exact ⟨rfl, rfl, rfl⟩)
theorem c65 (a b : Term) : CallSt Try.prog 65 [tv a, tv b] [] (fun r H' => r = tv (piT a b) ∧ H' = []) := by
  obtain ⟨k, l, n, ts⟩ := a
  obtain ⟨k2, l2, n2, us⟩ := b
  rw [tv_mk, tv_mk]
  refine call_pure (E := env 0) (fn := Try.f65) (c := bodyOf Try.f65) (env_ok 0) mixed (by kernel_rfl) (by kernel_rfl) (by kernel_rfl) (by kernel_rfl) (by kernel_rfl) (by kernel_rfl) rfl ?_
  conv => whnf
  repeat (first | (refine And.intro rfl ?_; conv => whnf) | (refine And.intro (by decide) ?_; conv => whnf) | (refine draw_intro true (by kernel_rfl) ?_; conv => whnf) | (refine And.intro ⟨by omega, by omega⟩ ?_; conv => whnf) | (refine And.intro (by omega) ?_; conv => whnf) | (refine And.intro (fun _ => ⟨by omega, by omega⟩) ?_; conv => whnf) | (refine And.intro (fun _ => ?_) (fun h => absurd h ?_); rotate_left; (focus (first | decide | (simp; done) | (simp [tcs]; done))); conv => whnf) | (refine And.intro (fun h => absurd h ?_) (fun _ => ?_); (focus (first | decide | (simp; done) | (simp [tcs]; done))); conv => whnf))
  all_goals (first | rfl | exact ⟨rfl, rfl⟩ | exact ⟨rfl, rfl, rfl⟩)
def keptF (t : Term) : Term × Int := match prop t with | true => (t, 0) | false => (zT, 5)
theorem c62 (t : Term) : CallSt Try.prog 62 [tv t] [] (fun r H' => r = .tup [tv (keptF t).1, .c (.int .i64 ((keptF t).2))] ∧ H' = []) := by
  have c := c14 t
  unfold keptF
  generalize prop t = p at *
  obtain ⟨k, l, n, ts⟩ := t
  rw [tv_mk] at *
  refine call_pure (E := env 0) (fn := Try.f62) (c := bodyOf Try.f62) (env_ok 0) mixed (by kernel_rfl) (by kernel_rfl) (by kernel_rfl) (by kernel_rfl) (by kernel_rfl) (by kernel_rfl) rfl ?_
  conv => whnf
  cases p with
  | true =>
    try (refine draw_intro true (by kernel_rfl) ?_; conv => whnf)
    refine CallSt.use c [] trivial (by decide) rfl ?_
    rintro _ _ ⟨rfl, rfl⟩ _
    conv => whnf
    repeat (first | (refine And.intro rfl ?_; conv => whnf) | (refine And.intro (by decide) ?_; conv => whnf) | (refine draw_intro true (by kernel_rfl) ?_; conv => whnf) | (refine And.intro ⟨by omega, by omega⟩ ?_; conv => whnf) | (refine And.intro (by omega) ?_; conv => whnf) | (refine And.intro (fun _ => ⟨by omega, by omega⟩) ?_; conv => whnf) | (refine And.intro (fun _ => ?_) (fun h => absurd h ?_); rotate_left; (focus (first | decide | (simp; done) | (simp [tcs]; done))); conv => whnf) | (refine And.intro (fun h => absurd h ?_) (fun _ => ?_); (focus (first | decide | (simp; done) | (simp [tcs]; done))); conv => whnf))
    all_goals (first | rfl | exact ⟨rfl, rfl⟩ | exact ⟨rfl, rfl, rfl⟩)
  | false =>
    try (refine draw_intro true (by kernel_rfl) ?_; conv => whnf)
    refine CallSt.use c [] trivial (by decide) rfl ?_
    rintro _ _ ⟨rfl, rfl⟩ _
    conv => whnf
    repeat (first | (refine And.intro rfl ?_; conv => whnf) | (refine And.intro (by decide) ?_; conv => whnf) | (refine draw_intro true (by kernel_rfl) ?_; conv => whnf) | (refine And.intro ⟨by omega, by omega⟩ ?_; conv => whnf) | (refine And.intro (by omega) ?_; conv => whnf) | (refine And.intro (fun _ => ⟨by omega, by omega⟩) ?_; conv => whnf) | (refine And.intro (fun _ => ?_) (fun h => absurd h ?_); rotate_left; (focus (first | decide | (simp; done) | (simp [tcs]; done))); conv => whnf) | (refine And.intro (fun h => absurd h ?_) (fun _ => ?_); (focus (first | decide | (simp; done) | (simp [tcs]; done))); conv => whnf))
    all_goals (first | rfl | exact ⟨rfl, rfl⟩ | exact ⟨rfl, rfl, rfl⟩)
theorem c66 (l : List Term) (hl : l.length * 48 ≤ 140737488351232) : CallSt Try.prog 66 [.c (.sl 4 48 (tcs l))] [] (fun r H' => (r = .nil ∧ l = [] ∧ H' = []) ∨ (r = .own 1 ∧ H' = [.dead, .row 24 4 48 (tcs l)])) := by
  refine call_intro (E := env 0) (fn := Try.f66) (c := bodyOf Try.f66) (env_ok 0) mixed (by kernel_rfl) (by kernel_rfl) (by kernel_rfl) (by kernel_rfl) (by kernel_rfl) (by kernel_rfl) rfl ?_
  conv => whnf
  intro e he
  conv => whnf
  refine ⟨fun h => ?_, fun h => ?_⟩
  · have hl : tcs l = [] := he h
    conv => whnf
    left
    refine ⟨rfl, ?_, rfl⟩
    cases l with
    | nil => rfl
    | cons a r => simp [tcs] at hl
  · conv => whnf
    repeat (first | (refine And.intro rfl ?_; conv => whnf) | (refine And.intro (by decide) ?_; conv => whnf) | (refine draw_intro true (by kernel_rfl) ?_; conv => whnf) | (refine And.intro ⟨by omega, by omega⟩ ?_; conv => whnf) | (refine And.intro (by omega) ?_; conv => whnf) | (refine And.intro (fun _ => ⟨by omega, by omega⟩) ?_; conv => whnf) | (refine And.intro (fun _ => ?_) (fun h => absurd h ?_); rotate_left; (focus (first | decide | (simp; done) | (simp [tcs]; done))); conv => whnf) | (refine And.intro (fun h => absurd h ?_) (fun _ => ?_); (focus (first | decide | (simp; done) | (simp [tcs]; done))); conv => whnf))
    have hl1 := len_tcs l
    have hl2 : (0 + (tcs l).length) * 48 ≤ 140737488355328 := by omega
    have hl3 : 0 + (tcs l).length ≤ 9223372036854775807 := by omega
    refine ⟨hl2, hl3, ?_⟩
    conv => whnf
    right
    exact ⟨rfl, rfl⟩
theorem c67 (l : List Term) : CallSt Try.prog 67 [.c (.sl 4 48 (tcs l))] [] (fun r H' => r = .fn 82 [.ptr 0 0] ∧ H' = [.box [.c (.sl 4 48 (tcs l))]]) := by
  refine call_intro (E := env 0) (fn := Try.f67) (c := bodyOf Try.f67) (env_ok 0) mixed (by kernel_rfl) (by kernel_rfl) (by kernel_rfl) (by kernel_rfl) (by kernel_rfl) (by kernel_rfl) rfl ?_
  conv => whnf
  repeat (first | (refine And.intro rfl ?_; conv => whnf) | (refine And.intro (by decide) ?_; conv => whnf) | (refine draw_intro true (by kernel_rfl) ?_; conv => whnf) | (refine And.intro ⟨by omega, by omega⟩ ?_; conv => whnf) | (refine And.intro (by omega) ?_; conv => whnf) | (refine And.intro (fun _ => ⟨by omega, by omega⟩) ?_; conv => whnf) | (refine And.intro (fun _ => ?_) (fun h => absurd h ?_); rotate_left; (focus (first | decide | (simp; done) | (simp [tcs]; done))); conv => whnf) | (refine And.intro (fun h => absurd h ?_) (fun _ => ?_); (focus (first | decide | (simp; done) | (simp [tcs]; done))); conv => whnf))
  all_goals (first | rfl | exact ⟨rfl, rfl⟩ | exact ⟨rfl, rfl, rfl⟩)
/-- Backward: the rounds come from the last element on. -/
theorem c82 {ps : Array Nat} {asg body : Code} (l : List Term) (hl : l.length * 48 ≤ 140737488351232) (step : Term → Term → Term) (hY : ∀ (s u : Term) (i : Nat), u ∈ l → YSt Try.prog 2 [.c (.int .i64 (i)), tv u] [.box [.c (.sl 4 48 (tcs l))], .box [.c (.int .i64 (s.k)), .c (.int .i64 (s.l)), .c (.int .i64 (s.n)), .c (.sl 4 48 (tcs s.ts))], .lrec .ready [(8, .ptr 1 0)] ps asg body]
      (fun r H' => r = .c (.bool true) ∧ H' = [.box [.c (.sl 4 48 (tcs l))], .box [.c (.int .i64 ((step u s).k)), .c (.int .i64 ((step u s).l)), .c (.int .i64 ((step u s).n)), .c (.sl 4 48 (tcs (step u s).ts))], .lrec .ready [(8, .ptr 1 0)] ps asg body])) (s0 : Term) :
    CallSt Try.prog 82 [.yv 2, .ptr 0 0] [.box [.c (.sl 4 48 (tcs l))], .box [.c (.int .i64 (s0.k)), .c (.int .i64 (s0.l)), .c (.int .i64 (s0.n)), .c (.sl 4 48 (tcs s0.ts))], .lrec .ready [(8, .ptr 1 0)] ps asg body]
      (fun r H' => r = .tup [] ∧ H' = [.box [.c (.sl 4 48 (tcs l))], .box [.c (.int .i64 ((l.foldr step s0).k)), .c (.int .i64 ((l.foldr step s0).l)), .c (.int .i64 ((l.foldr step s0).n)), .c (.sl 4 48 (tcs (l.foldr step s0).ts))], .lrec .ready [(8, .ptr 1 0)] ps asg body]) := by
  have hlen := len_tcs l
  refine call_pure (E := envK 3) (fn := Try.f82) (c := bodyOf Try.f82) (envK_ok 3) mixed (by kernel_rfl) (by kernel_rfl) (by kernel_rfl) (by kernel_rfl) (by kernel_rfl) (by kernel_rfl) rfl ?_
  conv => whnf
  intro _
  conv => whnf
  refine ⟨⟨by omega, by omega⟩, ?_⟩
  conv => whnf
  refine loop_intro (fun m tm H => ∃ (s : Term), m ≤ l.length ∧ (l.take m).foldr step s = l.foldr step s0 ∧
      tm = [(3, .c (.int .i64 ((m : Int) - 1))), (0, .yv 2), (1, .ptr 0 0)] ∧ H = [.box [.c (.sl 4 48 (tcs l))], .box [.c (.int .i64 (s.k)), .c (.int .i64 (s.l)), .c (.int .i64 (s.n)), .c (.sl 4 48 (tcs s.ts))], .lrec .ready [(8, .ptr 1 0)] ps asg body])
      l.length _ _ ⟨s0, Nat.le_refl _, by rw [List.take_length], rfl, rfl⟩ ?_ ?_
  · exact Wk.sel [0, 1, 2] (by decide) (by decide) (by decide) ⟨rfl, rfl, rfl, trivial⟩ ⟨by rw [← hlen]; rfl, rfl, rfl, trivial⟩ rfl
  rintro m tm H ⟨s, hm, hR, rfl, rfl⟩
  conv => whnf
  refine ⟨fun hc => ?_, fun hc => ?_⟩
  · replace hc : (0 : Int) ≤ m - 1 := of_decide_eq_true hc
    obtain ⟨i, rfl⟩ : ∃ i, m = i + 1 := ⟨m - 1, by omega⟩
    obtain ⟨u, hu⟩ : ∃ u, l[i]? = some u := ⟨l[i]'(by omega), List.getElem?_eq_getElem (by omega)⟩
    have huc := tcs_at l i u hu
    have e1 : ((i + 1 : Nat) : Int) - 1 = i := by omega
    have hy := hY s u i (List.mem_of_getElem? hu)
    rw [List.take_add_one, hu, Option.toList_some, List.foldr_append, List.foldr_cons, List.foldr_nil] at hR
    generalize step u s = s' at *
    rw [e1]
    obtain ⟨k', l', n', us⟩ := u
    rw [tv_mk] at hy
    conv => whnf
    refine ⟨_, ⟨by omega, by simpa using huc⟩, ?_⟩
    conv => whnf
    refine ⟨Nat.le_refl 4, ?_⟩
    conv => whnf
    try (refine draw_intro true (by kernel_rfl) ?_; conv => whnf)
    refine YSt.mono hy ?_
    rintro _ _ ⟨rfl, rfl⟩
    conv => whnf
    first | (refine ⟨fun _ => ?_, fun h => absurd h ?_⟩; rotate_left; (focus (first | decide | (simp; done) | (simp [tcs]; done))); conv => whnf) | (refine ⟨fun h => absurd h ?_, fun _ => ?_⟩; (focus (first | decide | (simp; done) | (simp [tcs]; done))); conv => whnf)
    refine ⟨⟨by omega, by omega⟩, ?_⟩
    conv => whnf
    exact ⟨i, _, _, by omega, ⟨s', by omega, hR, rfl, rfl⟩, Wk.sel [0, 1, 2] (by decide) (by decide) (by decide) ⟨rfl, rfl, rfl, trivial⟩ ⟨rfl, rfl, rfl, trivial⟩ rfl⟩
  · replace hc : ¬ (0 : Int) ≤ m - 1 := of_decide_eq_false hc
    obtain rfl : m = 0 := by omega
    simp only [List.take_zero, List.foldr_nil] at hR
    rw [← hR]
    conv => whnf
    repeat (first | (refine And.intro rfl ?_; conv => whnf) | (refine And.intro (by decide) ?_; conv => whnf) | (refine draw_intro true (by kernel_rfl) ?_; conv => whnf) | (refine And.intro ⟨by omega, by omega⟩ ?_; conv => whnf) | (refine And.intro (by omega) ?_; conv => whnf) | (refine And.intro (fun _ => ⟨by omega, by omega⟩) ?_; conv => whnf) | (refine And.intro (fun _ => ?_) (fun h => absurd h ?_); rotate_left; (focus (first | decide | (simp; done) | (simp [tcs]; done))); conv => whnf) | (refine And.intro (fun h => absurd h ?_) (fun _ => ?_); (focus (first | decide | (simp; done) | (simp [tcs]; done))); conv => whnf))
    all_goals (first | rfl | exact ⟨rfl, rfl⟩ | exact ⟨rfl, rfl, rfl⟩)
end Go.Tr
/- TermBack: the plain law. -/
namespace Go.Tr
open Go.Proofs
theorem shB_mv {fr k l n i b : Int} (hb : 0 ≤ b) (h : shB fr k l n i = true) : shB fr k l (n + b) i = true := by
  unfold shB at *
  simp only [Bool.and_eq_true, decide_eq_true_eq] at *
  exact ⟨h.1, by omega⟩
theorem mvG_mvG (fr n m : Int) (hn : 0 ≤ n) (k l x i : Int) : mvG fr m (mvG fr n k l x i).1 (mvG fr n k l x i).2.1 (mvG fr n k l x i).2.2 i = mvG fr (n + m) k l x i := by
  unfold mvG
  cases h : shB fr k l x i
  · simp only [h]
  · simp only [shB_mv hn h, Int.add_assoc]
mutual
theorem mapT_mapT (fr n m : Int) (hn : 0 ≤ n) : ∀ (t : Term) (i : Int), mapT (mvG fr m) (mapT (mvG fr n) t i) i = mapT (mvG fr (n + m)) t i
  | .mk k l x ts, i => by
    rw [mapT, mapT, mapT, mvG_mvG fr n m hn]
    exact congrArg (Term.mk _ _ _) (mapL_mapL fr n m hn k i ts 0)
theorem mapL_mapL (fr n m : Int) (hn : 0 ≤ n) (k i : Int) : ∀ (ts : List Term) (j : Int), mapL (mvG fr m) k i j (mapL (mvG fr n) k i j ts) = mapL (mvG fr (n + m)) k i j ts
  | [], j => by rw [mapL, mapL, mapL]
  | t :: r, j => by rw [mapL, mapL, mapL, mapT_mapT fr n m hn t, mapL_mapL fr n m hn k i r]
end
mutual
theorem mapT_zero (fr : Int) : ∀ (t : Term) (i : Int), mapT (mvG fr 0) t i = t
  | .mk k l x ts, i => by
    rw [mapT, mapL_zero fr k i ts]
    unfold mvG
    cases shB fr k l x i <;> simp
theorem mapL_zero (fr k i : Int) : ∀ (ts : List Term) (j : Int), mapL (mvG fr 0) k i j ts = ts
  | [], j => by rw [mapL]
  | t :: r, j => by rw [mapL, mapT_zero fr t, mapL_zero fr k i r]
end
theorem mapT_k (g : Int → Int → Int → Int → Int × Int × Int) (t : Term) (i : Int) : (mapT g t i).k = (g t.k t.l t.n i).1 := by cases t; rfl
mutual
theorem lowT_mv (fr n : Int) (hn : 0 ≤ n) : ∀ (t : Term) (i : Int), lowT (mapT (mvG fr n) t i) (fr + i) (fr + n - 1 + i) = false
  | .mk k l x ts, i => by
    rw [mapT, lowT, Bool.or_eq_false_iff]
    refine ⟨?_, ?_⟩
    · unfold mvG
      cases h : shB fr k l x i
      · simp only
        unfold shB at h
        unfold lowB
        simp only [Bool.and_eq_false_iff, decide_eq_false_iff_not] at h ⊢
        omega
      · simp only
        unfold shB at h
        unfold lowB
        simp only [Bool.and_eq_true, decide_eq_true_eq] at h
        simp only [Bool.and_eq_false_iff, decide_eq_false_iff_not]
        omega
    · exact lowL_mv fr n hn k i ts 0
theorem lowL_mv (fr n : Int) (hn : 0 ≤ n) (k i : Int) : ∀ (ts : List Term) (j : Int), lowL k j (mapL (mvG fr n) k i j ts) (fr + i) (fr + n - 1 + i) = false
  | [], j => by rw [mapL, lowL]
  | t :: r, j => by
    rw [mapL, lowL, lowL_mv fr n hn k i r, Int.add_assoc, Int.add_assoc, lowT_mv fr n hn t]
    rfl
end
mutual
theorem ovT_mv (fr n m : Int) (hn : 0 ≤ n) : ∀ (t : Term) (i : Int), ovT fr m (mapT (mvG fr n) t i) i = ovT fr (n + m) t i
  | .mk k l x ts, i => by
    rw [mapT, ovT, ovT]
    congr 1
    · unfold mvG
      cases h : shB fr k l x i
      · simp only [h, Bool.false_and]
      · simp only [shB_mv hn h, Int.add_assoc]
    · exact ovL_mv fr n m hn k i ts 0
theorem ovL_mv (fr n m : Int) (hn : 0 ≤ n) (k i : Int) : ∀ (ts : List Term) (j : Int), ovL fr m k i j (mapL (mvG fr n) k i j ts) = ovL fr (n + m) k i j ts
  | [], j => by rw [mapL, ovL, ovL]
  | t :: r, j => by rw [mapL, ovL, ovL, ovT_mv fr n m hn t, ovL_mv fr n m hn k i r]
end
theorem shEach_pos (t : Term) (b fr : Int) (hb : 0 ≤ b) : shEach t b fr = (false, ovT fr b t 0) := by
  rw [shEach_eq]
  unfold rLow
  rw [show decide (b < 0) = false by simp; omega, Bool.false_and]
theorem shBad_no (t : Term) (b fr : Int) (h : prop t = true) (hb : -9999 ≤ b ∧ b ≤ 9999) (hf : 0 ≤ fr ∧ fr ≤ 9999) : shBad t b fr = false := by
  unfold shBad
  rw [h]
  simp
  omega
theorem shiftF_pos (t : Term) (b fr : Int) (h : prop t = true) (hb : 0 ≤ b ∧ b ≤ 9999) (hf : 0 ≤ fr ∧ fr ≤ 9999) : shiftF t b fr = match ovT fr b t 0 with | true => (zT, 5) | false => (mapT (mvG fr b) t 0, 0) := by
  unfold shiftF
  rw [shBad_no t b fr h ⟨by omega, hb.2⟩ hf, shEach_pos t b fr hb.1]
  all_goals (cases ovT fr b t 0 <;> rfl)
theorem prop_mv (t : Term) (b fr : Int) (h : prop t = true) (hb : 0 ≤ b ∧ b ≤ 9999) (hf : 0 ≤ fr ∧ fr ≤ 9999) (ho : ovT fr b t 0 = false) : prop (mapT (mvG fr b) t 0) = true := by
  have h1 := shift_eq t b fr
  rw [shiftF_pos t b fr h hb hf, ho] at h1
  unfold rshiftF at h1
  dsimp only at h1
  split at h1
  · simp at h1
  · split at h1
    · simp at h1
    · split at h1
      · rename_i h3
        rw [prop_rprop]; exact h3
      · simp at h1
mutual
theorem ovT_zero' (fr : Int) : ∀ (t : Term) (d c i : Int), (propT t d c).1 = true → ovT fr 0 t i = false
  | .mk k l x ts, d, c, i, h => by
    unfold propT at h
    split at h
    · cases h
    · split at h
      · rename_i hh
        have := headOk_n hh
        rw [ovT, ovL_zero' fr k i ts d (c + 1) 0 h, show decide (9999 < x + 0) = false by simp; omega, Bool.and_false]
        rfl
      · cases h
theorem ovL_zero' (fr k i : Int) : ∀ (ts : List Term) (d c j : Int), (propL ts d c).1 = true → ovL fr 0 k i j ts = false
  | [], d, c, j, h => by rw [ovL]
  | t :: r, d, c, j, h => by
    have h1 := ovT_zero' fr t (d + 1) c (i + unT k j)
    unfold propL at h
    generalize propT t (d + 1) c = x at *
    obtain ⟨b, c'⟩ := x
    cases b
    · cases h
    · rw [ovL, h1 rfl, ovL_zero' fr k i r d c' (j + 1) h]
      rfl
end
theorem ovT_zero (fr : Int) (t : Term) (h : prop t = true) : ovT fr 0 t 0 = false := ovT_zero' fr t 1 0 0 h
theorem back (t : Term) (n m fr : Int) (h : prop t = true) (hn : 0 ≤ n ∧ n ≤ 49) (hm : 0 ≤ m ∧ m ≤ 49) (hf : 0 ≤ fr ∧ fr ≤ 49) :
    (shiftF t n fr = (zT, 5)) ∨ (∃ a, shiftF t n fr = (a, 0) ∧ shiftF a (-n) fr = (t, 0) ∧ shiftF a m fr = shiftF t (n + m) fr ∧ ((shiftF a m fr).2 = 0 ∨ (shiftF a m fr).2 = 5)) := by
  rw [shiftF_pos t n fr h ⟨hn.1, by omega⟩ ⟨hf.1, by omega⟩]
  cases ho : ovT fr n t 0 with
  | true => exact .inl rfl
  | false =>
    right
    have hp := prop_mv t n fr h ⟨hn.1, by omega⟩ ⟨hf.1, by omega⟩ ho
    refine ⟨_, rfl, ?_, ?_, ?_⟩
    · unfold shiftF
      rw [shBad_no _ (-n) fr hp ⟨by omega, by omega⟩ ⟨hf.1, by omega⟩, shEach_eq]
      have h1 : rLow (mapT (mvG fr n) t 0) (-n) fr = false := by
        unfold rLow
        have := lowT_mv fr n hn.1 t 0
        rw [Int.add_zero, Int.add_zero] at this
        rw [show fr - -n - 1 = fr + n - 1 by omega, this, Bool.and_false]
      have h2 : ovT fr (-n) (mapT (mvG fr n) t 0) 0 = false := by
        rw [ovT_mv fr n (-n) hn.1, Int.add_right_neg]
        exact ovT_zero fr t h
      rw [h1, h2]
      simp only
      rw [mapT_mapT fr n (-n) hn.1, Int.add_right_neg, mapT_zero]
    · rw [shiftF_pos _ m fr hp ⟨hm.1, by omega⟩ ⟨hf.1, by omega⟩, shiftF_pos t (n + m) fr h ⟨by omega, by omega⟩ ⟨hf.1, by omega⟩, ovT_mv fr n m hn.1, mapT_mapT fr n m hn.1]
    · rw [shiftF_pos _ m fr hp ⟨hm.1, by omega⟩ ⟨hf.1, by omega⟩]
      cases ovT fr m (mapT (mvG fr n) t 0) 0
      · exact .inl rfl
      · exact .inr rfl
end Go.Tr
/- Arrow, Join: both sides. -/
namespace Go.Tr
open Go.Proofs
mutual
theorem fm_mono : ∀ (t : Term) (d d' : Int), fmT t d = true → d' ≤ d → fmT t d' = true
  | .mk k l n ts, d, d', h, hd => by
    unfold fmT at h ⊢
    simp only [Bool.and_eq_true, Bool.not_eq_true', decide_eq_false_iff_not] at h ⊢
    exact ⟨⟨by omega, h.1.2⟩, fmL_mono ts d d' h.2 hd⟩
theorem fmL_mono : ∀ (ts : List Term) (d d' : Int), fmL ts d = true → d' ≤ d → fmL ts d' = true
  | [], d, d', _, _ => by rw [fmL]
  | t :: r, d, d', h, hd => by
    rw [fmL, Bool.and_eq_true] at h ⊢
    exact ⟨fm_mono t (d + 1) (d' + 1) h.1 (by omega), fmL_mono r d d' h.2 hd⟩
end
theorem prop_pi {a b : Term} (h : prop (piT a b) = true) : prop a = true ∧ prop b = true := by
  rw [prop_rprop, rprop_iff, Bool.and_eq_true, decide_eq_true_eq] at h
  obtain ⟨h1, h2⟩ := h
  obtain ⟨_, _, a', b', he, h3, h4⟩ := fm_pi h2
  injection he with e1 he
  injection he with e2 _
  subst e1 e2
  unfold piT at h1
  simp only [szT, szL] at h1
  have ha := szT_pos a
  have hb := szT_pos b
  rw [prop_rprop, rprop_iff, prop_rprop, rprop_iff, Bool.and_eq_true, decide_eq_true_eq, Bool.and_eq_true, decide_eq_true_eq]
  exact ⟨⟨by omega, fm_mono _ _ _ h3 (by omega)⟩, ⟨by omega, fm_mono _ _ _ h4 (by omega)⟩⟩
def arrF (a b : Term) : Term × Int := match prop a && prop b with
  | false => (zT, 2)
  | true => match ovT 0 1 b 0 with
    | true => (zT, 5)
    | false => keptF (piT a (mapT (mvG 0 1) b 0))
theorem arr_eq (a b : Term) (h : prop a = true) (h2 : prop b = true) : arrF a b = match prop (piT a (mapT (mvG 0 1) b 0)) with | true => (piT a (mapT (mvG 0 1) b 0), 0) | false => (zT, 5) := by
  unfold arrF keptF
  rw [h, h2]
  cases ho : ovT 0 1 b 0 with
  | false => rfl
  | true =>
    have h3 : prop (mapT (mvG 0 1) b 0) = false := by
      have h1 := shift_eq b 1 0
      rw [shiftF_pos b 1 0 h2 ⟨by omega, by omega⟩ ⟨by omega, by omega⟩, ho] at h1
      unfold rshiftF at h1
      dsimp only at h1
      split at h1
      · simp at h1
      · split at h1
        · simp at h1
        · split at h1
          · simp at h1
          · rename_i h3
            rw [prop_rprop]; exact h3
    have h4 : prop (piT a (mapT (mvG 0 1) b 0)) = false := by
      cases h5 : prop (piT a (mapT (mvG 0 1) b 0)) with
      | false => rfl
      | true =>
        rw [(prop_pi h5).2] at h3
        cases h3
    rw [h4]
    rfl
theorem c28 (a b : Term) : CallSt Try.prog 28 [tv a, tv b] [] (fun r H' => r = .tup [tv (arrF a b).1, .c (.int .i64 ((arrF a b).2))] ∧ H' = []) := by
  have ca := c14 a
  have cb := c14 b
  have cs := c19 b 1 0
  have cc := fun h => c64 a (prop_ok h)
  have cp := c63 a (mapT (mvG 0 1) b 0)
  have ck := c62 (piT a (mapT (mvG 0 1) b 0))
  have hsp := fun h => shiftF_pos b 1 0 h ⟨by omega, by omega⟩ ⟨by omega, by omega⟩
  unfold arrF
  generalize mapT (mvG 0 1) b 0 = c at *
  generalize keptF (piT a c) = kp at *
  generalize piT a c = pc at *
  generalize prop a = p at *
  generalize prop b = q at *
  generalize ovT 0 1 b 0 = o at *
  generalize shiftF b 1 0 = sh at *
  obtain ⟨k, l, n, ts⟩ := a
  obtain ⟨k2, l2, n2, us⟩ := b
  obtain ⟨k3, l3, n3, vs⟩ := c
  obtain ⟨k4, l4, n4, xs⟩ := pc
  obtain ⟨⟨k5, l5, n5, ys⟩, e5⟩ := kp
  rw [tv_mk, tv_mk] at *
  refine call_pure (E := env 0) (fn := Try.f28) (c := bodyOf Try.f28) (env_ok 0) mixed (by kernel_rfl) (by kernel_rfl) (by kernel_rfl) (by kernel_rfl) (by kernel_rfl) (by kernel_rfl) rfl ?_
  conv => whnf
  cases p with
  | false =>
    try (refine draw_intro true (by kernel_rfl) ?_; conv => whnf)
    refine CallSt.use ca [] trivial (by decide) rfl ?_
    rintro _ _ ⟨rfl, rfl⟩ _
    conv => whnf
    repeat (first | (refine And.intro rfl ?_; conv => whnf) | (refine And.intro (by decide) ?_; conv => whnf) | (refine draw_intro true (by kernel_rfl) ?_; conv => whnf) | (refine And.intro ⟨by omega, by omega⟩ ?_; conv => whnf) | (refine And.intro (by omega) ?_; conv => whnf) | (refine And.intro (fun _ => ⟨by omega, by omega⟩) ?_; conv => whnf) | (refine And.intro (fun _ => ?_) (fun h => absurd h ?_); rotate_left; (focus (first | decide | (simp; done) | (simp [tcs]; done))); conv => whnf) | (refine And.intro (fun h => absurd h ?_) (fun _ => ?_); (focus (first | decide | (simp; done) | (simp [tcs]; done))); conv => whnf))
    all_goals (first | rfl | exact ⟨rfl, rfl⟩ | exact ⟨rfl, rfl, rfl⟩)
  | true =>
  cases q with
  | false =>
    try (refine draw_intro true (by kernel_rfl) ?_; conv => whnf)
    refine CallSt.use ca [] trivial (by decide) rfl ?_
    rintro _ _ ⟨rfl, rfl⟩ _
    conv => whnf
    repeat (first | (refine And.intro rfl ?_; conv => whnf) | (refine And.intro (by decide) ?_; conv => whnf) | (refine draw_intro true (by kernel_rfl) ?_; conv => whnf) | (refine And.intro ⟨by omega, by omega⟩ ?_; conv => whnf) | (refine And.intro (by omega) ?_; conv => whnf) | (refine And.intro (fun _ => ⟨by omega, by omega⟩) ?_; conv => whnf) | (refine And.intro (fun _ => ?_) (fun h => absurd h ?_); rotate_left; (focus (first | decide | (simp; done) | (simp [tcs]; done))); conv => whnf) | (refine And.intro (fun h => absurd h ?_) (fun _ => ?_); (focus (first | decide | (simp; done) | (simp [tcs]; done))); conv => whnf))
    try (refine draw_intro true (by kernel_rfl) ?_; conv => whnf)
    refine CallSt.use cb [] trivial (by decide) rfl ?_
    rintro _ _ ⟨rfl, rfl⟩ _
    conv => whnf
    repeat (first | (refine And.intro rfl ?_; conv => whnf) | (refine And.intro (by decide) ?_; conv => whnf) | (refine draw_intro true (by kernel_rfl) ?_; conv => whnf) | (refine And.intro ⟨by omega, by omega⟩ ?_; conv => whnf) | (refine And.intro (by omega) ?_; conv => whnf) | (refine And.intro (fun _ => ⟨by omega, by omega⟩) ?_; conv => whnf) | (refine And.intro (fun _ => ?_) (fun h => absurd h ?_); rotate_left; (focus (first | decide | (simp; done) | (simp [tcs]; done))); conv => whnf) | (refine And.intro (fun h => absurd h ?_) (fun _ => ?_); (focus (first | decide | (simp; done) | (simp [tcs]; done))); conv => whnf))
    all_goals (first | rfl | exact ⟨rfl, rfl⟩ | exact ⟨rfl, rfl, rfl⟩)
  | true =>
  have hsp := hsp rfl
  cases o with
  | true =>
    dsimp only at hsp
    subst hsp
    try (refine draw_intro true (by kernel_rfl) ?_; conv => whnf)
    refine CallSt.use ca [] trivial (by decide) rfl ?_
    rintro _ _ ⟨rfl, rfl⟩ _
    conv => whnf
    repeat (first | (refine And.intro rfl ?_; conv => whnf) | (refine And.intro (by decide) ?_; conv => whnf) | (refine draw_intro true (by kernel_rfl) ?_; conv => whnf) | (refine And.intro ⟨by omega, by omega⟩ ?_; conv => whnf) | (refine And.intro (by omega) ?_; conv => whnf) | (refine And.intro (fun _ => ⟨by omega, by omega⟩) ?_; conv => whnf) | (refine And.intro (fun _ => ?_) (fun h => absurd h ?_); rotate_left; (focus (first | decide | (simp; done) | (simp [tcs]; done))); conv => whnf) | (refine And.intro (fun h => absurd h ?_) (fun _ => ?_); (focus (first | decide | (simp; done) | (simp [tcs]; done))); conv => whnf))
    try (refine draw_intro true (by kernel_rfl) ?_; conv => whnf)
    refine CallSt.use cb [] trivial (by decide) rfl ?_
    rintro _ _ ⟨rfl, rfl⟩ _
    conv => whnf
    repeat (first | (refine And.intro rfl ?_; conv => whnf) | (refine And.intro (by decide) ?_; conv => whnf) | (refine draw_intro true (by kernel_rfl) ?_; conv => whnf) | (refine And.intro ⟨by omega, by omega⟩ ?_; conv => whnf) | (refine And.intro (by omega) ?_; conv => whnf) | (refine And.intro (fun _ => ⟨by omega, by omega⟩) ?_; conv => whnf) | (refine And.intro (fun _ => ?_) (fun h => absurd h ?_); rotate_left; (focus (first | decide | (simp; done) | (simp [tcs]; done))); conv => whnf) | (refine And.intro (fun h => absurd h ?_) (fun _ => ?_); (focus (first | decide | (simp; done) | (simp [tcs]; done))); conv => whnf))
    try (refine draw_intro true (by kernel_rfl) ?_; conv => whnf)
    refine CallSt.use cs [] trivial (by decide) rfl ?_
    rintro _ _ ⟨rfl, rfl⟩ _
    conv => whnf
    repeat (first | (refine And.intro rfl ?_; conv => whnf) | (refine And.intro (by decide) ?_; conv => whnf) | (refine draw_intro true (by kernel_rfl) ?_; conv => whnf) | (refine And.intro ⟨by omega, by omega⟩ ?_; conv => whnf) | (refine And.intro (by omega) ?_; conv => whnf) | (refine And.intro (fun _ => ⟨by omega, by omega⟩) ?_; conv => whnf) | (refine And.intro (fun _ => ?_) (fun h => absurd h ?_); rotate_left; (focus (first | decide | (simp; done) | (simp [tcs]; done))); conv => whnf) | (refine And.intro (fun h => absurd h ?_) (fun _ => ?_); (focus (first | decide | (simp; done) | (simp [tcs]; done))); conv => whnf))
    all_goals (first | rfl | exact ⟨rfl, rfl⟩ | exact ⟨rfl, rfl, rfl⟩)
  | false =>
    dsimp only at hsp
    subst hsp
    try (refine draw_intro true (by kernel_rfl) ?_; conv => whnf)
    refine CallSt.use ca [] trivial (by decide) rfl ?_
    rintro _ _ ⟨rfl, rfl⟩ _
    conv => whnf
    repeat (first | (refine And.intro rfl ?_; conv => whnf) | (refine And.intro (by decide) ?_; conv => whnf) | (refine draw_intro true (by kernel_rfl) ?_; conv => whnf) | (refine And.intro ⟨by omega, by omega⟩ ?_; conv => whnf) | (refine And.intro (by omega) ?_; conv => whnf) | (refine And.intro (fun _ => ⟨by omega, by omega⟩) ?_; conv => whnf) | (refine And.intro (fun _ => ?_) (fun h => absurd h ?_); rotate_left; (focus (first | decide | (simp; done) | (simp [tcs]; done))); conv => whnf) | (refine And.intro (fun h => absurd h ?_) (fun _ => ?_); (focus (first | decide | (simp; done) | (simp [tcs]; done))); conv => whnf))
    try (refine draw_intro true (by kernel_rfl) ?_; conv => whnf)
    refine CallSt.use cb [] trivial (by decide) rfl ?_
    rintro _ _ ⟨rfl, rfl⟩ _
    conv => whnf
    repeat (first | (refine And.intro rfl ?_; conv => whnf) | (refine And.intro (by decide) ?_; conv => whnf) | (refine draw_intro true (by kernel_rfl) ?_; conv => whnf) | (refine And.intro ⟨by omega, by omega⟩ ?_; conv => whnf) | (refine And.intro (by omega) ?_; conv => whnf) | (refine And.intro (fun _ => ⟨by omega, by omega⟩) ?_; conv => whnf) | (refine And.intro (fun _ => ?_) (fun h => absurd h ?_); rotate_left; (focus (first | decide | (simp; done) | (simp [tcs]; done))); conv => whnf) | (refine And.intro (fun h => absurd h ?_) (fun _ => ?_); (focus (first | decide | (simp; done) | (simp [tcs]; done))); conv => whnf))
    try (refine draw_intro true (by kernel_rfl) ?_; conv => whnf)
    refine CallSt.use cs [] trivial (by decide) rfl ?_
    rintro _ _ ⟨rfl, rfl⟩ _
    conv => whnf
    repeat (first | (refine And.intro rfl ?_; conv => whnf) | (refine And.intro (by decide) ?_; conv => whnf) | (refine draw_intro true (by kernel_rfl) ?_; conv => whnf) | (refine And.intro ⟨by omega, by omega⟩ ?_; conv => whnf) | (refine And.intro (by omega) ?_; conv => whnf) | (refine And.intro (fun _ => ⟨by omega, by omega⟩) ?_; conv => whnf) | (refine And.intro (fun _ => ?_) (fun h => absurd h ?_); rotate_left; (focus (first | decide | (simp; done) | (simp [tcs]; done))); conv => whnf) | (refine And.intro (fun h => absurd h ?_) (fun _ => ?_); (focus (first | decide | (simp; done) | (simp [tcs]; done))); conv => whnf))
    try (refine draw_intro true (by kernel_rfl) ?_; conv => whnf)
    refine CallSt.use (cc rfl) [] trivial (by decide) rfl ?_
    rintro _ _ ⟨rfl, rfl⟩ _
    conv => whnf
    try (refine draw_intro true (by kernel_rfl) ?_; conv => whnf)
    refine CallSt.use cp [] trivial (by decide) rfl ?_
    rintro _ _ ⟨rfl, rfl⟩ _
    conv => whnf
    try (refine draw_intro true (by kernel_rfl) ?_; conv => whnf)
    refine CallSt.use ck [] trivial (by decide) rfl ?_
    rintro _ _ ⟨rfl, rfl⟩ _
    conv => whnf
    repeat (first | (refine And.intro rfl ?_; conv => whnf) | (refine And.intro (by decide) ?_; conv => whnf) | (refine draw_intro true (by kernel_rfl) ?_; conv => whnf) | (refine And.intro ⟨by omega, by omega⟩ ?_; conv => whnf) | (refine And.intro (by omega) ?_; conv => whnf) | (refine And.intro (fun _ => ⟨by omega, by omega⟩) ?_; conv => whnf) | (refine And.intro (fun _ => ?_) (fun h => absurd h ?_); rotate_left; (focus (first | decide | (simp; done) | (simp [tcs]; done))); conv => whnf) | (refine And.intro (fun h => absurd h ?_) (fun _ => ?_); (focus (first | decide | (simp; done) | (simp [tcs]; done))); conv => whnf))
    all_goals (first | rfl | exact ⟨rfl, rfl⟩ | exact ⟨rfl, rfl, rfl⟩)
theorem c29 (a b : Term) : CallSt Try.prog 29 [tv a, tv b] [] (fun r H' => r = .tup [tv (arrF a b).1, .c (.int .i64 ((arrF a b).2))] ∧ H' = []) := by
  have ca := c16 a
  have cb := c16 b
  have cm := fun h => c58 0 1 ⟨by omega, by omega⟩ ⟨by omega, by omega⟩ b 0 (prop_ok h)
  have cp := c65 a (mapT (mvG 0 1) b 0)
  have ck := c16 (piT a (mapT (mvG 0 1) b 0))
  have he := arr_eq a b
  have hn : (prop a && prop b) = false → arrF a b = (zT, 2) := fun h => by unfold arrF; rw [h]
  rw [← prop_rprop] at ca cb ck
  generalize arrF a b = r at *
  generalize mapT (mvG 0 1) b 0 = c at *
  generalize piT a c = pc at *
  generalize prop a = p at *
  generalize prop b = q at *
  generalize prop pc = o at *
  obtain ⟨k, l, n, ts⟩ := a
  obtain ⟨k2, l2, n2, us⟩ := b
  obtain ⟨k3, l3, n3, vs⟩ := c
  obtain ⟨k4, l4, n4, xs⟩ := pc
  rw [tv_mk, tv_mk] at *
  refine call_pure (E := env 0) (fn := Try.f29) (c := bodyOf Try.f29) (env_ok 0) mixed (by kernel_rfl) (by kernel_rfl) (by kernel_rfl) (by kernel_rfl) (by kernel_rfl) (by kernel_rfl) rfl ?_
  conv => whnf
  cases p with
  | false =>
    rw [hn rfl]
    try (refine draw_intro true (by kernel_rfl) ?_; conv => whnf)
    refine CallSt.use ca [] trivial (by decide) rfl ?_
    rintro _ _ ⟨rfl, rfl⟩ _
    conv => whnf
    repeat (first | (refine And.intro rfl ?_; conv => whnf) | (refine And.intro (by decide) ?_; conv => whnf) | (refine draw_intro true (by kernel_rfl) ?_; conv => whnf) | (refine And.intro ⟨by omega, by omega⟩ ?_; conv => whnf) | (refine And.intro (by omega) ?_; conv => whnf) | (refine And.intro (fun _ => ⟨by omega, by omega⟩) ?_; conv => whnf) | (refine And.intro (fun _ => ?_) (fun h => absurd h ?_); rotate_left; (focus (first | decide | (simp; done) | (simp [tcs]; done))); conv => whnf) | (refine And.intro (fun h => absurd h ?_) (fun _ => ?_); (focus (first | decide | (simp; done) | (simp [tcs]; done))); conv => whnf))
    all_goals (first | rfl | exact ⟨rfl, rfl⟩ | exact ⟨rfl, rfl, rfl⟩)
  | true =>
  cases q with
  | false =>
    rw [hn rfl]
    try (refine draw_intro true (by kernel_rfl) ?_; conv => whnf)
    refine CallSt.use ca [] trivial (by decide) rfl ?_
    rintro _ _ ⟨rfl, rfl⟩ _
    conv => whnf
    repeat (first | (refine And.intro rfl ?_; conv => whnf) | (refine And.intro (by decide) ?_; conv => whnf) | (refine draw_intro true (by kernel_rfl) ?_; conv => whnf) | (refine And.intro ⟨by omega, by omega⟩ ?_; conv => whnf) | (refine And.intro (by omega) ?_; conv => whnf) | (refine And.intro (fun _ => ⟨by omega, by omega⟩) ?_; conv => whnf) | (refine And.intro (fun _ => ?_) (fun h => absurd h ?_); rotate_left; (focus (first | decide | (simp; done) | (simp [tcs]; done))); conv => whnf) | (refine And.intro (fun h => absurd h ?_) (fun _ => ?_); (focus (first | decide | (simp; done) | (simp [tcs]; done))); conv => whnf))
    try (refine draw_intro true (by kernel_rfl) ?_; conv => whnf)
    refine CallSt.use cb [] trivial (by decide) rfl ?_
    rintro _ _ ⟨rfl, rfl⟩ _
    conv => whnf
    repeat (first | (refine And.intro rfl ?_; conv => whnf) | (refine And.intro (by decide) ?_; conv => whnf) | (refine draw_intro true (by kernel_rfl) ?_; conv => whnf) | (refine And.intro ⟨by omega, by omega⟩ ?_; conv => whnf) | (refine And.intro (by omega) ?_; conv => whnf) | (refine And.intro (fun _ => ⟨by omega, by omega⟩) ?_; conv => whnf) | (refine And.intro (fun _ => ?_) (fun h => absurd h ?_); rotate_left; (focus (first | decide | (simp; done) | (simp [tcs]; done))); conv => whnf) | (refine And.intro (fun h => absurd h ?_) (fun _ => ?_); (focus (first | decide | (simp; done) | (simp [tcs]; done))); conv => whnf))
    all_goals (first | rfl | exact ⟨rfl, rfl⟩ | exact ⟨rfl, rfl, rfl⟩)
  | true =>
    rw [he rfl rfl]
    try (refine draw_intro true (by kernel_rfl) ?_; conv => whnf)
    refine CallSt.use ca [] trivial (by decide) rfl ?_
    rintro _ _ ⟨rfl, rfl⟩ _
    conv => whnf
    repeat (first | (refine And.intro rfl ?_; conv => whnf) | (refine And.intro (by decide) ?_; conv => whnf) | (refine draw_intro true (by kernel_rfl) ?_; conv => whnf) | (refine And.intro ⟨by omega, by omega⟩ ?_; conv => whnf) | (refine And.intro (by omega) ?_; conv => whnf) | (refine And.intro (fun _ => ⟨by omega, by omega⟩) ?_; conv => whnf) | (refine And.intro (fun _ => ?_) (fun h => absurd h ?_); rotate_left; (focus (first | decide | (simp; done) | (simp [tcs]; done))); conv => whnf) | (refine And.intro (fun h => absurd h ?_) (fun _ => ?_); (focus (first | decide | (simp; done) | (simp [tcs]; done))); conv => whnf))
    try (refine draw_intro true (by kernel_rfl) ?_; conv => whnf)
    refine CallSt.use cb [] trivial (by decide) rfl ?_
    rintro _ _ ⟨rfl, rfl⟩ _
    conv => whnf
    repeat (first | (refine And.intro rfl ?_; conv => whnf) | (refine And.intro (by decide) ?_; conv => whnf) | (refine And.intro ⟨by omega, by omega⟩ ?_; conv => whnf) | (refine And.intro (by omega) ?_; conv => whnf) | (refine And.intro (fun _ => ⟨by omega, by omega⟩) ?_; conv => whnf) | (refine And.intro (fun _ => ?_) (fun h => absurd h ?_); rotate_left; (focus (first | decide | (simp; done) | (simp [tcs]; done))); conv => whnf) | (refine And.intro (fun h => absurd h ?_) (fun _ => ?_); (focus (first | decide | (simp; done) | (simp [tcs]; done))); conv => whnf))
    have cm := cm rfl
    refine draw_wk [(6, .ptr 3 0), (4, .ptr 2 0), (5, .c (.int .i64 (0)))] [.box [.c (.int .i64 (k)), .c (.int .i64 (l)), .c (.int .i64 (n)), .c (.sl 4 48 (tcs ts))], .box [.c (.int .i64 (k2)), .c (.int .i64 (l2)), .c (.int .i64 (n2)), .c (.sl 4 48 (tcs us))], .box [.c (.int .i64 (0)), .c (.int .i64 (0)), .c (.int .i64 (0)), .nil], .box [.c (.int .i64 (k4)), .c (.int .i64 (l4)), .c (.int .i64 (n4)), .c (.sl 4 48 (tcs xs))]] ?_ ?_
    · refine draw_intro true (by kernel_rfl) ?_
      conv => whnf
      repeat' (first | (refine And.intro ?_ ?_ <;> conv => whnf) | (refine CallSt.use cm [] trivial (by decide) rfl ?_; rintro _ _ ⟨rfl, rfl⟩ _; conv => whnf) | (refine CallSt.use cp [] trivial (by decide) rfl ?_; rintro _ _ ⟨rfl, rfl⟩ _; conv => whnf) | exact Wk.sel [0, 1, 2, 3] (by decide) (by decide) (by decide) ⟨rfl, rfl, rfl, rfl, trivial⟩ ⟨rfl, rfl, rfl, trivial⟩ rfl)
    conv => whnf
    cases o with
    | true =>
      try (refine draw_intro true (by kernel_rfl) ?_; conv => whnf)
      refine CallSt.use ck [] trivial (by decide) rfl ?_
      rintro _ _ ⟨rfl, rfl⟩ _
      conv => whnf
      repeat (first | (refine And.intro rfl ?_; conv => whnf) | (refine And.intro (by decide) ?_; conv => whnf) | (refine draw_intro true (by kernel_rfl) ?_; conv => whnf) | (refine And.intro ⟨by omega, by omega⟩ ?_; conv => whnf) | (refine And.intro (by omega) ?_; conv => whnf) | (refine And.intro (fun _ => ⟨by omega, by omega⟩) ?_; conv => whnf) | (refine And.intro (fun _ => ?_) (fun h => absurd h ?_); rotate_left; (focus (first | decide | (simp; done) | (simp [tcs]; done))); conv => whnf) | (refine And.intro (fun h => absurd h ?_) (fun _ => ?_); (focus (first | decide | (simp; done) | (simp [tcs]; done))); conv => whnf))
      all_goals (first | rfl | exact ⟨rfl, rfl⟩ | exact ⟨rfl, rfl, rfl⟩)
    | false =>
      try (refine draw_intro true (by kernel_rfl) ?_; conv => whnf)
      refine CallSt.use ck [] trivial (by decide) rfl ?_
      rintro _ _ ⟨rfl, rfl⟩ _
      conv => whnf
      repeat (first | (refine And.intro rfl ?_; conv => whnf) | (refine And.intro (by decide) ?_; conv => whnf) | (refine draw_intro true (by kernel_rfl) ?_; conv => whnf) | (refine And.intro ⟨by omega, by omega⟩ ?_; conv => whnf) | (refine And.intro (by omega) ?_; conv => whnf) | (refine And.intro (fun _ => ⟨by omega, by omega⟩) ?_; conv => whnf) | (refine And.intro (fun _ => ?_) (fun h => absurd h ?_); rotate_left; (focus (first | decide | (simp; done) | (simp [tcs]; done))); conv => whnf) | (refine And.intro (fun h => absurd h ?_) (fun _ => ?_); (focus (first | decide | (simp; done) | (simp [tcs]; done))); conv => whnf))
      all_goals (first | rfl | exact ⟨rfl, rfl⟩ | exact ⟨rfl, rfl, rfl⟩)
end Go.Tr
/- TermFree: the plain law. -/
namespace Go.Tr
open Go.Proofs
theorem putI_map (d : Int) : ∀ (l : List Int) (x : Int), putI (l.map (· + d)) (x + d) = (putI l x).map (· + d)
  | [], x => by simp [putI]
  | y :: r, x => by
    have ih := putI_map d r x
    have h1 : decide (y + d < x + d) = decide (y < x) := decide_eq_decide.2 (by omega)
    have h2 : decide (y + d = x + d) = decide (y = x) := decide_eq_decide.2 (by omega)
    simp only [List.map_cons, putI, h1, h2]
    cases decide (y < x)
    · cases decide (y = x) <;> simp
    · simp only [ih, List.map_cons]
theorem headsT_mk (hd k l n : Int) (ts : List Term) (b : Int) (L : List Int) : headsT hd (.mk k l n ts) b L = headsL hd k b 0 ts (hdStep hd L (.mk k l n ts) b) := by rw [headsT]; rfl
theorem hd1_mv {d : Int} (hd : 0 ≤ d) (k l n : Int) (ts us : List Term) (i : Int) (L : List Int) :
    hdStep 1 (L.map (· + d)) (.mk k l (match shB 0 k l n i with | true => n + d | false => n) us) i = (hdStep 1 L (.mk k l n ts) i).map (· + d) := by
  unfold hdStep shB
  simp only [Term.k, Term.l, Term.n]
  by_cases h1 : k = 4
  · by_cases h2 : l = 1
    · by_cases h3 : i ≤ n
      · have h4 : decide (0 ≤ n - i) = true := decide_eq_true (by omega)
        have h5 : decide (i ≤ n + d) = true := decide_eq_true (by omega)
        simp only [h1, h2, h3, h4, h5, decide_true, Bool.and_self, Bool.not_true]
        rw [← putI_map]
        congr 1
        omega
      · have h4 : decide (0 ≤ n - i) = false := decide_eq_false (by omega)
        simp only [h1, h2, h3, h4, decide_true, decide_false, Bool.and_self, Bool.and_false, Bool.not_true]
    · simp only [h2, decide_false, Bool.and_false]
  · simp only [h1, decide_false, Bool.false_and]
theorem hd2_mv (d : Int) (k l n : Int) (ts us : List Term) (i : Int) (L : List Int) :
    hdStep 2 L (.mk k l (match shB 0 k l n i with | true => n + d | false => n) us) i = hdStep 2 L (.mk k l n ts) i := by
  unfold hdStep shB
  simp only [Term.k, Term.l, Term.n]
  by_cases h2 : l = 2
  · subst h2
    have e1 : decide ((2 : Int) = 1) = false := by decide
    simp only [e1, Bool.and_false, Bool.false_and]
    all_goals (cases decide (k = 4) <;> rfl)
  · simp only [h2, decide_false, Bool.and_false]
mutual
theorem heads1_mv {d : Int} (hd : 0 ≤ d) : ∀ (t : Term) (i : Int) (L : List Int), headsT 1 (mapT (mvG 0 d) t i) i (L.map (· + d)) = (headsT 1 t i L).map (· + d)
  | .mk k l n ts, i, L => by
    rw [mapT, headsT_mk, headsT_mk]
    have h := hd1_mv hd k l n ts (mapL (mvG 0 d) k i 0 ts) i L
    exact (congrArg (headsL 1 k i 0 (mapL (mvG 0 d) k i 0 ts)) h).trans (heads1L_mv hd k i ts 0 _)
theorem heads1L_mv {d : Int} (hd : 0 ≤ d) (k i : Int) : ∀ (ts : List Term) (j : Int) (L : List Int), headsL 1 k i j (mapL (mvG 0 d) k i j ts) (L.map (· + d)) = (headsL 1 k i j ts L).map (· + d)
  | [], j, L => by rw [mapL, headsL, headsL]
  | t :: r, j, L => by rw [mapL, headsL, headsL, heads1_mv hd t, heads1L_mv hd k i r]
end
mutual
theorem heads2_mv (d : Int) : ∀ (t : Term) (i : Int) (L : List Int), headsT 2 (mapT (mvG 0 d) t i) i L = headsT 2 t i L
  | .mk k l n ts, i, L => by
    rw [mapT, headsT_mk, headsT_mk]
    have h := hd2_mv d k l n ts (mapL (mvG 0 d) k i 0 ts) i L
    exact (congrArg (headsL 2 k i 0 (mapL (mvG 0 d) k i 0 ts)) h).trans (heads2L_mv d k i ts 0 _)
theorem heads2L_mv (d k i : Int) : ∀ (ts : List Term) (j : Int) (L : List Int), headsL 2 k i j (mapL (mvG 0 d) k i j ts) L = headsL 2 k i j ts L
  | [], j, L => by rw [mapL]
  | t :: r, j, L => by rw [mapL, headsL, headsL, heads2_mv d t, heads2L_mv d k i r]
end
theorem con1_mv {t : Term} {d : Int} (hd : 0 ≤ d) (h : prop t = true) (h2 : prop (mapT (mvG 0 d) t 0) = true) : conF 1 (mapT (mvG 0 d) t 0) = (conF 1 t).map (· + d) := by
  unfold conF
  rw [h, h2]
  exact heads1_mv hd t 0 []
theorem con2_mv {t : Term} (d : Int) (h : prop t = true) (h2 : prop (mapT (mvG 0 d) t 0) = true) : conF 2 (mapT (mvG 0 d) t 0) = conF 2 t := by
  unfold conF
  rw [h, h2]
  exact heads2_mv d t 0 []
theorem con1_pos {t : Term} {x : Int} (h : x ∈ conF 1 t) : 0 ≤ x ∧ x ≤ 2000000000 := by
  have h0 := h
  unfold conF at h0
  split at h0
  · rename_i hp
    rw [heads_mem] at h0
    refine ⟨?_, ((rel_all 1 t (prop_ok hp)).2.2 x (by unfold conF at h; rw [hp] at h; exact h)).2⟩
    rcases h0 with h0 | h0
    · cases h0
    · exact h0.1
  · cases h0
/-- What is behind an arrow's domain has no variable 0. -/
theorem arrow_law {t : Term} (h : prop t = true) : ((arrF (.mk 4 2 0 []) t) = (zT, 5)) ∨ ∃ v, arrF (.mk 4 2 0 []) t = (piT (.mk 4 2 0 []) v, 0) ∧ prop v = true ∧ decide ((0 : Int) ∈ conF 1 v) = false := by
  have h0 : prop (.mk 4 2 0 []) = true := by decide
  rw [arr_eq _ _ h0 h]
  cases hp : prop (piT (.mk 4 2 0 []) (mapT (mvG 0 1) t 0)) with
  | false => exact .inl rfl
  | true =>
    refine .inr ⟨_, rfl, (prop_pi hp).2, decide_eq_false fun hm => ?_⟩
    rw [con1_mv (by omega) h (prop_pi hp).2] at hm
    obtain ⟨y, hy, he⟩ := List.mem_map.1 hm
    have := (con1_pos hy).1
    omega
/-- What Shift makes. -/
theorem shift_free {t : Term} {d : Int} (hd : 0 ≤ d ∧ d < 50) (h : prop t = true) : shiftF t d 0 = (zT, 5) ∨ ∃ u, shiftF t d 0 = (u, 0) ∧ prop u = true ∧ conF 1 u = (conF 1 t).map (· + d) ∧ conF 2 u = conF 2 t := by
  rw [shiftF_pos t d 0 h ⟨hd.1, by omega⟩ ⟨by omega, by omega⟩]
  cases ho : ovT 0 d t 0 with
  | true => exact .inl rfl
  | false =>
    have hp := prop_mv t d 0 h ⟨hd.1, by omega⟩ ⟨by omega, by omega⟩ ho
    exact .inr ⟨_, rfl, hp, con1_mv hd.1 h hp, con2_mv d h hp⟩
end Go.Tr
/- The law TermBack. -/
namespace Go.Tr
open Go.Proofs
theorem modU (n k : Int) (hk : 0 < k ∧ k ≤ 1000) : ∃ m : Int, IntKind.i64.wrap ((IntKind.u64.wrap n).tmod k) = m ∧ 0 ≤ m ∧ m < k := by
  refine ⟨_, rfl, ?_⟩
  have h0 : 0 ≤ IntKind.u64.wrap n := by
    simp only [IntKind.wrap, IntKind.bits, IntKind.signed, Bool.false_and, Bool.false_eq_true, if_false]
    exact Int.emod_nonneg _ (by decide)
  rw [Int.tmod_eq_emod_of_nonneg h0]
  generalize IntKind.u64.wrap n = u
  have h1 := Int.emod_nonneg u (show k ≠ 0 by omega)
  have h3 := Int.emod_lt_of_pos u hk.1
  have h2 : IntKind.i64.wrap (u % k) = u % k := wrap_in ⟨by omega, by omega⟩
  rw [h2]
  exact ⟨h1, h3⟩
def mvsV (t : Term) (n m f : Int) : AV := .agg [.c (.int .i64 (t.k)), .c (.int .i64 (t.l)), .c (.int .i64 (t.n)), .c (.sl 4 48 (tcs t.ts)), .c (.int .i64 (n)), .c (.int .i64 (m)), .c (.int .i64 (f))]
theorem c6 (t : Term) (n0 m0 f0 : Int) : CallSt Try.prog 6 [mvsV t n0 m0 f0] [] (fun r H' => r = .c (.bool true) ∧ H' = []) := by
  obtain ⟨n, hn, hn2⟩ := modU n0 50 (by omega)
  obtain ⟨m, hm, hm2⟩ := modU m0 50 (by omega)
  obtain ⟨f, hf, hf2⟩ := modU f0 50 (by omega)
  have p16 := c16 t
  have a17 := c17
  have a1 := c19 t n f
  have a2 := fun a => c19 a (-n) f
  have a3 := fun a => c19 a m f
  have a4 := c19 t (n + m) f
  have a5 := fun u => c22 u t
  have a6 := c22
  have law := fun h => back t n m f h ⟨hn2.1, by omega⟩ ⟨hm2.1, by omega⟩ ⟨hf2.1, by omega⟩
  rw [← prop_rprop] at p16
  generalize hp : prop t = p at *
  obtain ⟨k, l, x, ts⟩ := t
  unfold mvsV
  refine call_pure (E := env 0) (fn := Try.f6) (c := bodyOf Try.f6) (env_ok 0) mixed (by kernel_rfl) (by kernel_rfl) (by kernel_rfl) (by kernel_rfl) (by kernel_rfl) (by kernel_rfl) rfl ?_
  conv => whnf
  refine draw_wk [(6, .c (.int .i64 (f))), (5, .c (.int .i64 (m))), (4, .c (.int .i64 (n))), (3, .ptr 1 0), (2, .c (.bool false)), (1, .ptr 0 0)] [.box [.c (.int .i64 (k)), .c (.int .i64 (l)), .c (.int .i64 (x)), .c (.sl 4 48 (tcs ts)), .c (.int .i64 (n0)), .c (.int .i64 (m0)), .c (.int .i64 (f0))], .box [.c (.int .i64 (k)), .c (.int .i64 (l)), .c (.int .i64 (x)), .c (.sl 4 48 (tcs ts))]] ?_ ?_
  · refine draw_intro true (by kernel_rfl) ?_
    conv => whnf
    refine ⟨fun h => absurd h (by decide), ?_⟩
    conv => whnf
    refine ⟨fun h => absurd h (by decide), ?_⟩
    conv => whnf
    refine ⟨fun h => absurd h (by decide), ?_⟩
    conv => whnf
    exact Wk.sel [0, 1] (by decide) (by decide) (by decide) ⟨rfl, rfl, trivial⟩ ⟨by rw [← hf]; rfl, by rw [← hm]; rfl, by rw [← hn]; rfl, rfl, rfl, rfl, trivial⟩ rfl
  conv => whnf
  try (refine draw_intro true (by kernel_rfl) ?_; conv => whnf)
  refine CallSt.use p16 [] trivial (by decide) rfl ?_
  rintro _ _ ⟨rfl, rfl⟩ _
  conv => whnf
  refine ⟨fun h => ?_, fun h => ?_⟩
  · conv => whnf
    try (refine draw_intro true (by kernel_rfl) ?_; conv => whnf)
    refine CallSt.use a17 [] trivial (by decide) rfl ?_
    rintro _ _ ⟨rfl, rfl⟩ _
    conv => whnf
    refine ⟨rfl, ?_⟩
    conv => whnf
    refine ⟨rfl, ?_⟩
    exact ⟨rfl, rfl⟩
  have hp1 : p = true := by simpa using h
  subst hp1
  have h1 := law rfl
  rcases h1 with h1 | ⟨a, h1, h2, h3, h4⟩
  · rw [h1] at a1
    dsimp only at a1
    conv => whnf
    try (refine draw_intro true (by kernel_rfl) ?_; conv => whnf)
    refine CallSt.use a1 [] trivial (by decide) rfl ?_
    rintro _ _ ⟨rfl, rfl⟩ _
    conv => whnf
    (refine ⟨fun _ => ?_, fun h => absurd h ?_⟩; rotate_left; (focus (first | decide | (simp; done) | (simp [tcs]; done))); conv => whnf)
    (refine ⟨fun _ => ?_, fun h => absurd h ?_⟩; rotate_left; (focus (first | decide | (simp; done) | (simp [tcs]; done))); conv => whnf)
    try (refine draw_intro true (by kernel_rfl) ?_; conv => whnf)
    refine CallSt.use a17 [] trivial (by decide) rfl ?_
    rintro _ _ ⟨rfl, rfl⟩ _
    conv => whnf
    refine ⟨rfl, ?_⟩
    conv => whnf
    refine ⟨rfl, ?_⟩
    exact ⟨rfl, rfl⟩
  · have b2 := a2 a
    have b3 := a3 a
    rw [h1] at a1
    rw [h2] at b2
    rw [← h3] at a4
    dsimp only at a1 b2
    generalize shiftF a m f = y at *
    obtain ⟨c, e⟩ := y
    have b5 := a5 (.mk k l x ts)
    have b6 := a6 c c
    rw [sameT_self] at b5 b6
    obtain ⟨k1, l1, x1, ts1⟩ := a
    obtain ⟨k2, l2, x2, ts2⟩ := c
    conv => whnf
    try (refine draw_intro true (by kernel_rfl) ?_; conv => whnf)
    refine CallSt.use a1 [] trivial (by decide) rfl ?_
    rintro _ _ ⟨rfl, rfl⟩ _
    conv => whnf
    repeat (first | (refine And.intro rfl ?_; conv => whnf) | (refine And.intro (by decide) ?_; conv => whnf) | (refine draw_intro true (by kernel_rfl) ?_; conv => whnf) | (refine And.intro ⟨by omega, by omega⟩ ?_; conv => whnf) | (refine And.intro (by omega) ?_; conv => whnf) | (refine And.intro (fun _ => ⟨by omega, by omega⟩) ?_; conv => whnf) | (refine And.intro (fun _ => ?_) (fun h => absurd h ?_); rotate_left; (focus (first | decide | (simp; done) | (simp [tcs]; done))); conv => whnf) | (refine And.intro (fun h => absurd h ?_) (fun _ => ?_); (focus (first | decide | (simp; done) | (simp [tcs]; done))); conv => whnf))
    try (refine draw_intro true (by kernel_rfl) ?_; conv => whnf)
    refine CallSt.use b2 [] trivial (by decide) rfl ?_
    rintro _ _ ⟨rfl, rfl⟩ _
    conv => whnf
    repeat (first | (refine And.intro rfl ?_; conv => whnf) | (refine And.intro (by decide) ?_; conv => whnf) | (refine draw_intro true (by kernel_rfl) ?_; conv => whnf) | (refine And.intro ⟨by omega, by omega⟩ ?_; conv => whnf) | (refine And.intro (by omega) ?_; conv => whnf) | (refine And.intro (fun _ => ⟨by omega, by omega⟩) ?_; conv => whnf) | (refine And.intro (fun _ => ?_) (fun h => absurd h ?_); rotate_left; (focus (first | decide | (simp; done) | (simp [tcs]; done))); conv => whnf) | (refine And.intro (fun h => absurd h ?_) (fun _ => ?_); (focus (first | decide | (simp; done) | (simp [tcs]; done))); conv => whnf))
    try (refine draw_intro true (by kernel_rfl) ?_; conv => whnf)
    refine CallSt.use b5 [] trivial (by decide) rfl ?_
    rintro _ _ ⟨rfl, rfl⟩ _
    conv => whnf
    repeat (first | (refine And.intro rfl ?_; conv => whnf) | (refine And.intro (by decide) ?_; conv => whnf) | (refine draw_intro true (by kernel_rfl) ?_; conv => whnf) | (refine And.intro ⟨by omega, by omega⟩ ?_; conv => whnf) | (refine And.intro (by omega) ?_; conv => whnf) | (refine And.intro (fun _ => ⟨by omega, by omega⟩) ?_; conv => whnf) | (refine And.intro (fun _ => ?_) (fun h => absurd h ?_); rotate_left; (focus (first | decide | (simp; done) | (simp [tcs]; done))); conv => whnf) | (refine And.intro (fun h => absurd h ?_) (fun _ => ?_); (focus (first | decide | (simp; done) | (simp [tcs]; done))); conv => whnf))
    try (refine draw_intro true (by kernel_rfl) ?_; conv => whnf)
    refine CallSt.use b3 [] trivial (by decide) rfl ?_
    rintro _ _ ⟨rfl, rfl⟩ _
    conv => whnf
    repeat (first | (refine And.intro rfl ?_; conv => whnf) | (refine And.intro (by decide) ?_; conv => whnf) | (refine draw_intro true (by kernel_rfl) ?_; conv => whnf) | (refine And.intro ⟨by omega, by omega⟩ ?_; conv => whnf) | (refine And.intro (by omega) ?_; conv => whnf) | (refine And.intro (fun _ => ⟨by omega, by omega⟩) ?_; conv => whnf) | (refine And.intro (fun _ => ?_) (fun h => absurd h ?_); rotate_left; (focus (first | decide | (simp; done) | (simp [tcs]; done))); conv => whnf) | (refine And.intro (fun h => absurd h ?_) (fun _ => ?_); (focus (first | decide | (simp; done) | (simp [tcs]; done))); conv => whnf))
    try (refine draw_intro true (by kernel_rfl) ?_; conv => whnf)
    refine CallSt.use a4 [] trivial (by decide) rfl ?_
    rintro _ _ ⟨rfl, rfl⟩ _
    conv => whnf
    rcases h4 with h4 | h4
    · dsimp only at h4
      subst h4
      repeat (first | (refine And.intro rfl ?_; conv => whnf) | (refine And.intro (by decide) ?_; conv => whnf) | (refine draw_intro true (by kernel_rfl) ?_; conv => whnf) | (refine And.intro ⟨by omega, by omega⟩ ?_; conv => whnf) | (refine And.intro (by omega) ?_; conv => whnf) | (refine And.intro (fun _ => ⟨by omega, by omega⟩) ?_; conv => whnf) | (refine And.intro (fun _ => ?_) (fun h => absurd h ?_); rotate_left; (focus (first | decide | (simp; done) | (simp [tcs]; done))); conv => whnf) | (refine And.intro (fun h => absurd h ?_) (fun _ => ?_); (focus (first | decide | (simp; done) | (simp [tcs]; done))); conv => whnf))
      try (refine draw_intro true (by kernel_rfl) ?_; conv => whnf)
      refine CallSt.use b6 [] trivial (by decide) rfl ?_
      rintro _ _ ⟨rfl, rfl⟩ _
      conv => whnf
      repeat (first | (refine And.intro rfl ?_; conv => whnf) | (refine And.intro (by decide) ?_; conv => whnf) | (refine draw_intro true (by kernel_rfl) ?_; conv => whnf) | (refine And.intro ⟨by omega, by omega⟩ ?_; conv => whnf) | (refine And.intro (by omega) ?_; conv => whnf) | (refine And.intro (fun _ => ⟨by omega, by omega⟩) ?_; conv => whnf) | (refine And.intro (fun _ => ?_) (fun h => absurd h ?_); rotate_left; (focus (first | decide | (simp; done) | (simp [tcs]; done))); conv => whnf) | (refine And.intro (fun h => absurd h ?_) (fun _ => ?_); (focus (first | decide | (simp; done) | (simp [tcs]; done))); conv => whnf))
      try (refine draw_intro true (by kernel_rfl) ?_; conv => whnf)
      refine CallSt.use a17 [] trivial (by decide) rfl ?_
      rintro _ _ ⟨rfl, rfl⟩ _
      conv => whnf
      repeat (first | (refine And.intro rfl ?_; conv => whnf) | (refine And.intro (by decide) ?_; conv => whnf) | (refine draw_intro true (by kernel_rfl) ?_; conv => whnf) | (refine And.intro ⟨by omega, by omega⟩ ?_; conv => whnf) | (refine And.intro (by omega) ?_; conv => whnf) | (refine And.intro (fun _ => ⟨by omega, by omega⟩) ?_; conv => whnf) | (refine And.intro (fun _ => ?_) (fun h => absurd h ?_); rotate_left; (focus (first | decide | (simp; done) | (simp [tcs]; done))); conv => whnf) | (refine And.intro (fun h => absurd h ?_) (fun _ => ?_); (focus (first | decide | (simp; done) | (simp [tcs]; done))); conv => whnf))
      rfl
    · dsimp only at h4
      subst h4
      repeat (first | (refine And.intro rfl ?_; conv => whnf) | (refine And.intro (by decide) ?_; conv => whnf) | (refine draw_intro true (by kernel_rfl) ?_; conv => whnf) | (refine And.intro ⟨by omega, by omega⟩ ?_; conv => whnf) | (refine And.intro (by omega) ?_; conv => whnf) | (refine And.intro (fun _ => ⟨by omega, by omega⟩) ?_; conv => whnf) | (refine And.intro (fun _ => ?_) (fun h => absurd h ?_); rotate_left; (focus (first | decide | (simp; done) | (simp [tcs]; done))); conv => whnf) | (refine And.intro (fun h => absurd h ?_) (fun _ => ?_); (focus (first | decide | (simp; done) | (simp [tcs]; done))); conv => whnf))
      try (refine draw_intro true (by kernel_rfl) ?_; conv => whnf)
      refine CallSt.use b6 [] trivial (by decide) rfl ?_
      rintro _ _ ⟨rfl, rfl⟩ _
      conv => whnf
      repeat (first | (refine And.intro rfl ?_; conv => whnf) | (refine And.intro (by decide) ?_; conv => whnf) | (refine draw_intro true (by kernel_rfl) ?_; conv => whnf) | (refine And.intro ⟨by omega, by omega⟩ ?_; conv => whnf) | (refine And.intro (by omega) ?_; conv => whnf) | (refine And.intro (fun _ => ⟨by omega, by omega⟩) ?_; conv => whnf) | (refine And.intro (fun _ => ?_) (fun h => absurd h ?_); rotate_left; (focus (first | decide | (simp; done) | (simp [tcs]; done))); conv => whnf) | (refine And.intro (fun h => absurd h ?_) (fun _ => ?_); (focus (first | decide | (simp; done) | (simp [tcs]; done))); conv => whnf))
      try (refine draw_intro true (by kernel_rfl) ?_; conv => whnf)
      refine CallSt.use a17 [] trivial (by decide) rfl ?_
      rintro _ _ ⟨rfl, rfl⟩ _
      conv => whnf
      repeat (first | (refine And.intro rfl ?_; conv => whnf) | (refine And.intro (by decide) ?_; conv => whnf) | (refine draw_intro true (by kernel_rfl) ?_; conv => whnf) | (refine And.intro ⟨by omega, by omega⟩ ?_; conv => whnf) | (refine And.intro (by omega) ?_; conv => whnf) | (refine And.intro (fun _ => ⟨by omega, by omega⟩) ?_; conv => whnf) | (refine And.intro (fun _ => ?_) (fun h => absurd h ?_); rotate_left; (focus (first | decide | (simp; done) | (simp [tcs]; done))); conv => whnf) | (refine And.intro (fun h => absurd h ?_) (fun _ => ?_); (focus (first | decide | (simp; done) | (simp [tcs]; done))); conv => whnf))
      rfl
end Go.Tr
/- The law TermFree. -/
namespace Go.Tr
open Go.Proofs
theorem c13 (t : Term) (n0 : Int) : CallSt Try.prog 13 [tv t, .c (.int .i64 (n0))] [] (fun r H' => r = .c (.bool true) ∧ H' = []) := by
  obtain ⟨d, hd, hd2⟩ := modU n0 50 (by omega)
  have h16 := c16 t
  have h17 := c17
  have h19 := c19 t d 0
  rw [← prop_rprop] at h16
  cases hp : prop t with
  | false =>
    simp only [hp] at h16
    clear h19 hp
    obtain ⟨k, l, m, ts⟩ := t
    rw [tv_mk] at *
    refine call_pure (E := env 0) (fn := Try.f13) (c := bodyOf Try.f13) (env_ok 0) mixed (by kernel_rfl) (by kernel_rfl) (by kernel_rfl) (by kernel_rfl) (by kernel_rfl) (by kernel_rfl) rfl ?_
    conv => whnf
    refine ⟨show (50 : Int) ≠ 0 by decide, ?_⟩
    conv => whnf
    try (refine draw_intro true (by kernel_rfl) ?_; conv => whnf)
    refine CallSt.use h16 [] trivial (by decide) rfl ?_
    rintro _ _ ⟨rfl, rfl⟩ _
    conv => whnf
    (refine ⟨fun _ => ?_, fun h => absurd h ?_⟩; rotate_left; (focus (first | decide | (simp; done) | (simp [tcs]; done))); conv => whnf)
    try (refine draw_intro true (by kernel_rfl) ?_; conv => whnf)
    refine CallSt.use h17 [] trivial (by decide) rfl ?_
    rintro _ _ ⟨rfl, rfl⟩ _
    conv => whnf
    repeat (first | (refine And.intro rfl ?_; conv => whnf) | (refine And.intro (by decide) ?_; conv => whnf) | (refine draw_intro true (by kernel_rfl) ?_; conv => whnf) | (refine And.intro ⟨by omega, by omega⟩ ?_; conv => whnf) | (refine And.intro (by omega) ?_; conv => whnf) | (refine And.intro (fun _ => ⟨by omega, by omega⟩) ?_; conv => whnf) | (refine And.intro (fun _ => ?_) (fun h => absurd h ?_); rotate_left; (focus (first | decide | (simp; done) | (simp [tcs]; done))); conv => whnf) | (refine And.intro (fun h => absurd h ?_) (fun _ => ?_); (focus (first | decide | (simp; done) | (simp [tcs]; done))); conv => whnf))
    all_goals (first | rfl | exact ⟨rfl, rfl⟩ | exact ⟨rfl, rfl, rfl⟩)
  | true =>
    have hsh := shift_free hd2 hp
    have har := arrow_law hp
    have h28 := c28 (.mk 4 2 0 []) t
    have h46 := c46 2 0 []
    have f1 := cFreeP t
    have f2 := cConsP t
    simp only [hp, if_true] at h16 f1 f2
    rcases hsh with hsh | ⟨u, hsh, hu, hu1, hu2⟩
    · rw [hsh] at h19
      dsimp only at h19
      clear hsh har h28 f1 f2 hp
      obtain ⟨k, l, m, ts⟩ := t
      rw [tv_mk] at *
      refine call_pure (E := env 0) (fn := Try.f13) (c := bodyOf Try.f13) (env_ok 0) mixed (by kernel_rfl) (by kernel_rfl) (by kernel_rfl) (by kernel_rfl) (by kernel_rfl) (by kernel_rfl) rfl ?_
      conv => whnf
      refine ⟨show (50 : Int) ≠ 0 by decide, ?_⟩
      conv => whnf
      rw [hd]
      try (refine draw_intro true (by kernel_rfl) ?_; conv => whnf)
      refine CallSt.use h16 [] trivial (by decide) rfl ?_
      rintro _ _ ⟨rfl, rfl⟩ _
      conv => whnf
      (refine ⟨fun h => absurd h ?_, fun _ => ?_⟩; (focus (first | decide | (simp; done) | (simp [tcs]; done))); conv => whnf)
      try (refine draw_intro true (by kernel_rfl) ?_; conv => whnf)
      refine CallSt.use h19 [] trivial (by decide) rfl ?_
      rintro _ _ ⟨rfl, rfl⟩ _
      conv => whnf
      repeat (first | (refine And.intro rfl ?_; conv => whnf) | (refine And.intro (by decide) ?_; conv => whnf) | (refine draw_intro true (by kernel_rfl) ?_; conv => whnf) | (refine And.intro ⟨by omega, by omega⟩ ?_; conv => whnf) | (refine And.intro (by omega) ?_; conv => whnf) | (refine And.intro (fun _ => ⟨by omega, by omega⟩) ?_; conv => whnf) | (refine And.intro (fun _ => ?_) (fun h => absurd h ?_); rotate_left; (focus (first | decide | (simp; done) | (simp [tcs]; done))); conv => whnf) | (refine And.intro (fun h => absurd h ?_) (fun _ => ?_); (focus (first | decide | (simp; done) | (simp [tcs]; done))); conv => whnf))
      try (refine draw_intro true (by kernel_rfl) ?_; conv => whnf)
      refine CallSt.use h17 [] trivial (by decide) rfl ?_
      rintro _ _ ⟨rfl, rfl⟩ _
      conv => whnf
      repeat (first | (refine And.intro rfl ?_; conv => whnf) | (refine And.intro (by decide) ?_; conv => whnf) | (refine draw_intro true (by kernel_rfl) ?_; conv => whnf) | (refine And.intro ⟨by omega, by omega⟩ ?_; conv => whnf) | (refine And.intro (by omega) ?_; conv => whnf) | (refine And.intro (fun _ => ⟨by omega, by omega⟩) ?_; conv => whnf) | (refine And.intro (fun _ => ?_) (fun h => absurd h ?_); rotate_left; (focus (first | decide | (simp; done) | (simp [tcs]; done))); conv => whnf) | (refine And.intro (fun h => absurd h ?_) (fun _ => ?_); (focus (first | decide | (simp; done) | (simp [tcs]; done))); conv => whnf))
      all_goals (first | rfl | exact ⟨rfl, rfl⟩ | exact ⟨rfl, rfl, rfl⟩)
    · rw [hsh] at h19
      dsimp only at h19
      have g1 := cFreeP u
      have g2 := cConsP u
      have gO := fun x => cOccursP u x
      simp only [hu, if_true, hu1, hu2] at g1 g2 gO
      have eB := cNumsEq (conF 2 t) (conF 2 t) (conF_len 2 t) (conF_len 2 t)
      simp only [decide_true] at eB
      have hlA := conF_len 1 t
      have hpos := @con1_pos t
      have hrl := len_rowI (conF 1 t)
      have hrm := len_rowI ((conF 1 t).map (· + d))
      rw [List.length_map] at hrm
      generalize conF 1 t = A at *
      generalize conF 2 t = B at *
      obtain ⟨k, l, m, ts⟩ := t
      obtain ⟨k', l', m', us⟩ := u
      rw [tv_mk] at *
      refine call_pure (E := env 0) (fn := Try.f13) (c := bodyOf Try.f13) (env_ok 0) mixed (by kernel_rfl) (by kernel_rfl) (by kernel_rfl) (by kernel_rfl) (by kernel_rfl) (by kernel_rfl) rfl ?_
      conv => whnf
      refine ⟨show (50 : Int) ≠ 0 by decide, ?_⟩
      conv => whnf
      rw [hd]
      try (refine draw_intro true (by kernel_rfl) ?_; conv => whnf)
      refine CallSt.use h16 [] trivial (by decide) rfl ?_
      rintro _ _ ⟨rfl, rfl⟩ _
      conv => whnf
      (refine ⟨fun h => absurd h ?_, fun _ => ?_⟩; (focus (first | decide | (simp; done) | (simp [tcs]; done))); conv => whnf)
      try (refine draw_intro true (by kernel_rfl) ?_; conv => whnf)
      refine CallSt.use h19 [] trivial (by decide) rfl ?_
      rintro _ _ ⟨rfl, rfl⟩ _
      conv => whnf
      (refine ⟨fun h => absurd h ?_, fun _ => ?_⟩; (focus (first | decide | (simp; done) | (simp [tcs]; done))); conv => whnf)
      try (refine draw_intro true (by kernel_rfl) ?_; conv => whnf)
      refine CallSt.use f1 [] trivial (by decide) rfl ?_
      rintro _ _ ⟨rfl, rfl⟩ _
      conv => whnf
      try (refine draw_intro true (by kernel_rfl) ?_; conv => whnf)
      refine CallSt.use g1 [] trivial (by decide) rfl ?_
      rintro _ _ ⟨rfl, rfl⟩ _
      conv => whnf
      try (refine draw_intro true (by kernel_rfl) ?_; conv => whnf)
      refine CallSt.use f2 [] trivial (by decide) rfl ?_
      rintro _ _ ⟨rfl, rfl⟩ _
      conv => whnf
      try (refine draw_intro true (by kernel_rfl) ?_; conv => whnf)
      refine CallSt.use g2 [] trivial (by decide) rfl ?_
      rintro _ _ ⟨rfl, rfl⟩ _
      conv => whnf
      have hl : decide (((rowI A).length : Int) = (rowI (A.map (fun x => x + d))).length) = true := by rw [hrl, hrm]; simp
      conv => whnf
      intro _
      conv => whnf
      intro _
      conv => whnf
      (refine ⟨fun _ => ?_, fun h => absurd h ?_⟩; rotate_left; (focus (simp [hl])); conv => whnf)
      try (refine draw_intro true (by kernel_rfl) ?_; conv => whnf)
      refine CallSt.use eB [] trivial (by decide) rfl ?_
      rintro _ _ ⟨rfl, rfl⟩ _
      conv => whnf
      (refine ⟨fun h => absurd h ?_, fun _ => ?_⟩; (focus (simp [hl])); conv => whnf)
      intro _
      conv => whnf
      refine loop_intro (fun q tm H => ∃ j : Nat, A.length = q + j ∧
          tm = [(92, .c (.int .i64 (j))), (91, .c (.int .i64 ((rowI A).length))), (9, .c (.sl 1 8 (rowI (A.map (fun x => x + d))))), (7, .c (.sl 1 8 (rowI A))), (5, .ptr 1 0), (1, .c (.int .i64 (d))), (2, .ptr 0 0)] ∧
          H = [.box [.c (.int .i64 (k)), .c (.int .i64 (l)), .c (.int .i64 (m)), .c (.sl 4 48 (tcs ts))], .box [.c (.int .i64 (k')), .c (.int .i64 (l')), .c (.int .i64 (m')), .c (.sl 4 48 (tcs us))]]) A.length _ _ ⟨0, by omega, rfl, rfl⟩ (Wk.sel [0, 1] (by decide) (by decide) (by decide) ⟨rfl, rfl, trivial⟩ ⟨rfl, rfl, rfl, rfl, rfl, rfl, rfl, trivial⟩ rfl) ?_
      rintro q tm H ⟨j, hj, rfl, rfl⟩
      conv => whnf
      refine ⟨fun hc => ?_, fun hc => ?_⟩
      · replace hc : (j : Int) < (rowI A).length := of_decide_eq_true hc
        have hlt : j < A.length := by omega
        obtain ⟨x, hx⟩ : ∃ x, A[j]? = some x := ⟨A[j], List.getElem?_eq_getElem hlt⟩
        have hxr := rowI_at hx
        have hyr : (rowI (A.map (fun x => x + d)))[j]? = some [.int .i64 (x + d)] := rowI_at (by rw [List.getElem?_map, hx]; rfl)
        have hxm := List.mem_of_getElem? hx
        have hb := hpos hxm
        have hO := gO (x + d)
        rw [decide_eq_true (List.mem_map.2 ⟨x, hxm, rfl⟩)] at hO
        conv => whnf
        refine draw_intro true (by kernel_rfl) ?_
        conv => whnf
        refine ⟨_, ⟨by omega, by simpa using hxr⟩, ?_⟩
        conv => whnf
        refine ⟨Nat.le_refl 1, ?_⟩
        conv => whnf
        refine ⟨⟨by omega, by omega⟩, ?_⟩
        conv => whnf
        try (refine draw_intro true (by kernel_rfl) ?_; conv => whnf)
        refine CallSt.use hO [] trivial (by decide) rfl ?_
        rintro _ _ ⟨rfl, rfl⟩ _
        conv => whnf
        refine draw_intro true (by kernel_rfl) ?_
        conv => whnf
        refine ⟨_, ⟨by omega, by simpa using hyr⟩, ?_⟩
        conv => whnf
        refine ⟨Nat.le_refl 1, ?_⟩
        conv => whnf
        refine ⟨_, ⟨by omega, by simpa using hxr⟩, ?_⟩
        conv => whnf
        refine ⟨Nat.le_refl 1, ?_⟩
        conv => whnf
        refine ⟨⟨by omega, by omega⟩, ?_⟩
        conv => whnf
        (refine ⟨fun h => absurd h ?_, fun _ => ?_⟩; (focus (simp)); conv => whnf)
        refine ⟨⟨by omega, by omega⟩, ?_⟩
        conv => whnf
        refine ⟨q - 1, _, _, by omega, ⟨j + 1, by omega, rfl, rfl⟩, Wk.sel [0, 1] (by decide) (by decide) (by decide) ⟨rfl, rfl, trivial⟩ ⟨rfl, rfl, rfl, rfl, rfl, rfl, rfl, trivial⟩ rfl⟩
      · conv => whnf
        rcases har with har | ⟨v, har, hv, hv0⟩
        · rw [har] at h28
          dsimp only at h28
          refine draw_wk [(18, .ptr 2 0), (19, .c (.int .i64 (5)))] [.box [.c (.int .i64 (k)), .c (.int .i64 (l)), .c (.int .i64 (m)), .c (.sl 4 48 (tcs ts))], .box [.c (.int .i64 (k')), .c (.int .i64 (l')), .c (.int .i64 (m')), .c (.sl 4 48 (tcs us))], .box [.c (.int .i64 (0)), .c (.int .i64 (0)), .c (.int .i64 (0)), .c (.sl 4 48 (tcs []))]] ?_ ?_
          · refine draw_intro true (by kernel_rfl) ?_
            conv => whnf
            repeat' (first | (refine And.intro ?_ ?_ <;> conv => whnf) | (refine CallSt.use h46 [] trivial (by decide) rfl ?_; rintro _ _ ⟨rfl, rfl⟩ _; conv => whnf) | (refine CallSt.use h28 [] trivial (by decide) rfl ?_; rintro _ _ ⟨rfl, rfl⟩ _; conv => whnf) | exact Wk.sel [0, 1, 2] (by decide) (by decide) (by decide) ⟨rfl, rfl, rfl, trivial⟩ ⟨rfl, rfl, trivial⟩ rfl)
          conv => whnf
          (refine ⟨fun _ => ?_, fun h => absurd h ?_⟩; rotate_left; (focus (first | decide | (simp; done) | (simp [tcs]; done))); conv => whnf)
          repeat (first | (refine And.intro rfl ?_; conv => whnf) | (refine And.intro (by decide) ?_; conv => whnf) | (refine draw_intro true (by kernel_rfl) ?_; conv => whnf) | (refine And.intro ⟨by omega, by omega⟩ ?_; conv => whnf) | (refine And.intro (by omega) ?_; conv => whnf) | (refine And.intro (fun _ => ⟨by omega, by omega⟩) ?_; conv => whnf) | (refine And.intro (fun _ => ?_) (fun h => absurd h ?_); rotate_left; (focus (first | decide | (simp; done) | (simp [tcs]; done))); conv => whnf) | (refine And.intro (fun h => absurd h ?_) (fun _ => ?_); (focus (first | decide | (simp; done) | (simp [tcs]; done))); conv => whnf))
          try (refine draw_intro true (by kernel_rfl) ?_; conv => whnf)
          refine CallSt.use h17 [] trivial (by decide) rfl ?_
          rintro _ _ ⟨rfl, rfl⟩ _
          conv => whnf
          repeat (first | (refine And.intro rfl ?_; conv => whnf) | (refine And.intro (by decide) ?_; conv => whnf) | (refine draw_intro true (by kernel_rfl) ?_; conv => whnf) | (refine And.intro ⟨by omega, by omega⟩ ?_; conv => whnf) | (refine And.intro (by omega) ?_; conv => whnf) | (refine And.intro (fun _ => ⟨by omega, by omega⟩) ?_; conv => whnf) | (refine And.intro (fun _ => ?_) (fun h => absurd h ?_); rotate_left; (focus (first | decide | (simp; done) | (simp [tcs]; done))); conv => whnf) | (refine And.intro (fun h => absurd h ?_) (fun _ => ?_); (focus (first | decide | (simp; done) | (simp [tcs]; done))); conv => whnf))
          all_goals (first | rfl | exact ⟨rfl, rfl⟩ | exact ⟨rfl, rfl, rfl⟩)
        · have gv := cOccursP v 0
          rw [hv0, hv] at gv
          simp only [if_true] at gv
          rw [har] at h28
          dsimp only at h28
          obtain ⟨k3, l3, m3, vs⟩ := v
          rw [tv_mk] at *
          refine draw_wk [(18, .ptr 2 0), (19, .c (.int .i64 (0)))] [.box [.c (.int .i64 (k)), .c (.int .i64 (l)), .c (.int .i64 (m)), .c (.sl 4 48 (tcs ts))], .box [.c (.int .i64 (k')), .c (.int .i64 (l')), .c (.int .i64 (m')), .c (.sl 4 48 (tcs us))], .box [.c (.int .i64 (2)), .c (.int .i64 (0)), .c (.int .i64 (0)), .c (.sl 4 48 (tcs [.mk 4 2 0 [], .mk k3 l3 m3 vs]))]] ?_ ?_
          · refine draw_intro true (by kernel_rfl) ?_
            conv => whnf
            repeat' (first | (refine And.intro ?_ ?_ <;> conv => whnf) | (refine CallSt.use h46 [] trivial (by decide) rfl ?_; rintro _ _ ⟨rfl, rfl⟩ _; conv => whnf) | (refine CallSt.use h28 [] trivial (by decide) rfl ?_; rintro _ _ ⟨rfl, rfl⟩ _; conv => whnf) | exact Wk.sel [0, 1, 2] (by decide) (by decide) (by decide) ⟨rfl, rfl, rfl, trivial⟩ ⟨rfl, rfl, trivial⟩ rfl)
          conv => whnf
          (refine ⟨fun h => absurd h ?_, fun _ => ?_⟩; (focus (first | decide | (simp; done) | (simp [tcs]; done))); conv => whnf)
          intro _
          conv => whnf
          (refine ⟨fun h => absurd h ?_, fun _ => ?_⟩; (focus (first | decide | (simp; done) | (simp [tcs]; done))); conv => whnf)
          refine ⟨tc (.mk k3 l3 m3 vs), ⟨by decide, rfl⟩, ?_⟩
          conv => whnf
          refine ⟨Nat.le_refl 4, ?_⟩
          conv => whnf
          try (refine draw_intro true (by kernel_rfl) ?_; conv => whnf)
          refine CallSt.use gv [] trivial (by decide) rfl ?_
          rintro _ _ ⟨rfl, rfl⟩ _
          conv => whnf
          repeat (first | (refine And.intro rfl ?_; conv => whnf) | (refine And.intro (by decide) ?_; conv => whnf) | (refine draw_intro true (by kernel_rfl) ?_; conv => whnf) | (refine And.intro ⟨by omega, by omega⟩ ?_; conv => whnf) | (refine And.intro (by omega) ?_; conv => whnf) | (refine And.intro (fun _ => ⟨by omega, by omega⟩) ?_; conv => whnf) | (refine And.intro (fun _ => ?_) (fun h => absurd h ?_); rotate_left; (focus (first | decide | (simp; done) | (simp [tcs]; done))); conv => whnf) | (refine And.intro (fun h => absurd h ?_) (fun _ => ?_); (focus (first | decide | (simp; done) | (simp [tcs]; done))); conv => whnf))
          try (refine draw_intro true (by kernel_rfl) ?_; conv => whnf)
          refine CallSt.use h17 [] trivial (by decide) rfl ?_
          rintro _ _ ⟨rfl, rfl⟩ _
          conv => whnf
          repeat (first | (refine And.intro rfl ?_; conv => whnf) | (refine And.intro (by decide) ?_; conv => whnf) | (refine draw_intro true (by kernel_rfl) ?_; conv => whnf) | (refine And.intro ⟨by omega, by omega⟩ ?_; conv => whnf) | (refine And.intro (by omega) ?_; conv => whnf) | (refine And.intro (fun _ => ⟨by omega, by omega⟩) ?_; conv => whnf) | (refine And.intro (fun _ => ?_) (fun h => absurd h ?_); rotate_left; (focus (first | decide | (simp; done) | (simp [tcs]; done))); conv => whnf) | (refine And.intro (fun h => absurd h ?_) (fun _ => ?_); (focus (first | decide | (simp; done) | (simp [tcs]; done))); conv => whnf))
          all_goals (first | rfl | exact ⟨rfl, rfl⟩ | exact ⟨rfl, rfl, rfl⟩)
end Go.Tr
