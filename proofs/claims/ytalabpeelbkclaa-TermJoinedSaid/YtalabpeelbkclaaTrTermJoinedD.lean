/- What each function computes, and the plain laws of it, for the law TermJoined. -/
import Derived.Test.YtalabpeelbkclaaTrTermJoinedC
set_option linter.unusedVariables false
set_option linter.unusedSimpArgs false
set_option linter.unnecessarySimpa false
set_option autoImplicit false
/- The law TermJoined. -/
namespace Go.Tr
open Go.Proofs
theorem dom_join (t : Term) (d : Int) (h : fmT t d = true) : (domT t).1.foldr piT (domT t).2 = t := by
  refine dom_ind (C := fun t d => (domT t).1.foldr piT (domT t).2 = t) (fun t d hk h => ?_) (fun a b d ha hb hd ih => ?_) _ t d (Nat.le_refl _) h
  · rw [domT_no hk]; rfl
  · rw [domT_pi, List.foldr_cons, ih]; rfl
theorem dom_fold {t : Term} (h : t.k ≠ 2) : ∀ l : List Term, domT (l.foldr piT t) = (l, t)
  | [] => domT_no h
  | a :: r => by rw [List.foldr_cons, piT, domT_pi, dom_fold h r]
theorem join_split {t : Term} (h : prop t = true) : joinF (domT t).1 (domT t).2 = (t, 0) := by
  obtain ⟨h1, h2⟩ := dom_prop h
  have h3 := dom_len t 1 (prop_fm h).1
  rw [joinF_of (b := true) (c := true) (List.all_eq_true.2 h1) h2, joinG_ok (by omega), dom_join t 1 (prop_fm h).1]
  unfold keptF
  rw [h]
theorem join_cases (l : List Term) (t : Term) : joinF l t = (zT, 2) ∨ joinF l t = (zT, 5) ∨ (joinF l t = (l.foldr piT t, 0) ∧ prop (l.foldr piT t) = true) := by
  unfold joinF joinG keptF
  split
  · exact .inl rfl
  · split
    · exact .inr (.inl rfl)
    · cases h : prop (l.foldr piT t)
      · exact .inr (.inl rfl)
      · exact .inr (.inr ⟨rfl, rfl⟩)
theorem c11 (t : Term) (l : List Term) (hl : l.length * 48 ≤ 140737488351232) : CallSt Try.prog 11 [tv t, .c (.sl 4 48 (tcs l))] [] (fun r H' => r = .c (.bool true) ∧ H' = []) := by
  have a1 := c16 t
  have a2 := c32 t
  have a3 := fun h => c30 (domT t).1 h (domT t).2
  have a4 := c22 t t
  have a5 := c30 l hl t
  have a6 := fun v => c32 v
  have a7 := c34 l l
  have b4 := c17
  have hlen := len_tcs l
  have hln := fun h => dom_len t 1 (prop_fm (t := t) h).1
  have hjs := fun h => join_split (t := t) h
  have hrk := fun h => (dom_rest t 1 (prop_fm (t := t) h).1).1
  have hjc := join_cases l t
  have hsp : t.k ≠ 2 → prop (l.foldr piT t) = true → splitF (l.foldr piT t) = (l, t, 0) := fun h1 h2 => by
    unfold splitF; rw [h2, dom_fold h1]
  rw [← prop_rprop] at a1
  rw [sameT_self] at a4
  rw [(sameL_iff l l rfl).2 rfl, decide_eq_true rfl] at a7
  have hs2 : prop t = true → splitF t = ((domT t).1, (domT t).2, 0) := fun h => by unfold splitF; rw [h]
  generalize splitF t = S at *
  generalize prop t = p at *
  generalize domT t = D at *
  generalize joinF l t = J at *
  obtain ⟨ds, ⟨k3, l3, n3, us3⟩⟩ := D
  obtain ⟨⟨j3, j4, j5, js⟩, j2⟩ := J
  obtain ⟨k, l0, n, ts⟩ := t
  rw [tv_mk] at *
  replace hsp : ¬ k = 2 → _ := hsp
  dsimp only at *
  refine call_pure (E := env 0) (fn := Try.f11) (c := bodyOf Try.f11) (env_ok 0) mixed (by kernel_rfl) (by kernel_rfl) (by kernel_rfl) (by kernel_rfl) (by kernel_rfl) (by kernel_rfl) rfl ?_
  conv => whnf
  cases p with
  | false =>
    try (refine draw_intro true (by kernel_rfl) ?_; conv => whnf)
    refine CallSt.use a1 [] trivial (by decide) rfl ?_
    rintro _ _ ⟨rfl, rfl⟩ _
    conv => whnf
    repeat (first | (refine And.intro rfl ?_; conv => whnf) | (refine And.intro (by decide) ?_; conv => whnf) | (refine And.intro ⟨by omega, by omega⟩ ?_; conv => whnf) | (refine And.intro (by omega) ?_; conv => whnf) | (refine And.intro (fun _ => ⟨by omega, by omega⟩) ?_; conv => whnf) | (refine And.intro (fun _ => ?_) (fun h => absurd h ?_); rotate_left; (focus (first | decide | (simp; done) | (simp [tcs]; done))); conv => whnf) | (refine And.intro (fun h => absurd h ?_) (fun _ => ?_); (focus (first | decide | (simp; done) | (simp [tcs]; done))); conv => whnf))
    refine ⟨fun hk => ?_, fun hk => ?_⟩
    · conv => whnf
      try (refine draw_intro true (by kernel_rfl) ?_; conv => whnf)
      refine CallSt.use b4 [] trivial (by decide) rfl ?_
      rintro _ _ ⟨rfl, rfl⟩ _
      conv => whnf
      repeat (first | (refine And.intro rfl ?_; conv => whnf) | (refine And.intro (by decide) ?_; conv => whnf) | (refine draw_intro true (by kernel_rfl) ?_; conv => whnf) | (refine And.intro ⟨by omega, by omega⟩ ?_; conv => whnf) | (refine And.intro (by omega) ?_; conv => whnf) | (refine And.intro (fun _ => ⟨by omega, by omega⟩) ?_; conv => whnf) | (refine And.intro (fun _ => ?_) (fun h => absurd h ?_); rotate_left; (focus (first | decide | (simp; done) | (simp [tcs]; done))); conv => whnf) | (refine And.intro (fun h => absurd h ?_) (fun _ => ?_); (focus (first | decide | (simp; done) | (simp [tcs]; done))); conv => whnf))
      all_goals (first | rfl | exact ⟨rfl, rfl⟩ | exact ⟨rfl, rfl, rfl⟩)
    replace hk : ¬ k = 2 := of_decide_eq_false hk
    have hsp := hsp hk
    conv => whnf
    have hl2 : (0 + (tcs l).length) * 48 ≤ 140737488355328 := by omega
    have hl3 : 0 + (tcs l).length ≤ 9223372036854775807 := by omega
    refine draw_wk [(10, .ptr 1 0), (11, .c (.int .i64 (j2))), (1, .c (.sl 4 48 (tcs l))), (2, .ptr 0 0), (4, .c (.bool false))] [.box [.c (.int .i64 (k)), .c (.int .i64 (l0)), .c (.int .i64 (n)), .c (.sl 4 48 (tcs ts))], .box [.c (.int .i64 (j3)), .c (.int .i64 (j4)), .c (.int .i64 (j5)), .c (.sl 4 48 (tcs js))]] ?_ ?_
    · refine draw_intro true (by kernel_rfl) ?_
      conv => whnf
      repeat' (first | (refine And.intro ?_ ?_ <;> conv => whnf) | exact hl2 | exact hl3 | exact Nat.le_of_ble_eq_true rfl | (refine CallSt.use a5 [] trivial (by decide) rfl ?_; rintro _ _ ⟨rfl, rfl⟩ _; conv => whnf) | exact Wk.sel [0, 1] (by decide) (by decide) (by decide) ⟨rfl, rfl, trivial⟩ ⟨rfl, rfl, rfl, rfl, rfl, trivial⟩ rfl | exact Wk.sel [0, 2] (by decide) (by decide) (by decide) ⟨rfl, rfl, trivial⟩ ⟨rfl, rfl, rfl, rfl, rfl, trivial⟩ rfl | exact Wk.sel [0, 3] (by decide) (by decide) (by decide) ⟨rfl, rfl, trivial⟩ ⟨rfl, rfl, rfl, rfl, rfl, trivial⟩ rfl | exact Wk.sel [0, 4] (by decide) (by decide) (by decide) ⟨rfl, rfl, trivial⟩ ⟨rfl, rfl, rfl, rfl, rfl, trivial⟩ rfl | exact Wk.sel [0, 5] (by decide) (by decide) (by decide) ⟨rfl, rfl, trivial⟩ ⟨rfl, rfl, rfl, rfl, rfl, trivial⟩ rfl)
    conv => whnf
    rcases hjc with h | h | ⟨h, hp⟩
    · injection h with h1 h2
      injection h1 with g1 g2 g3 g4
      subst g1 g2 g3 g4 h2
      repeat (first | (refine And.intro rfl ?_; conv => whnf) | (refine And.intro (by decide) ?_; conv => whnf) | (refine And.intro ⟨by omega, by omega⟩ ?_; conv => whnf) | (refine And.intro (by omega) ?_; conv => whnf) | (refine And.intro (fun _ => ⟨by omega, by omega⟩) ?_; conv => whnf) | (refine And.intro (fun _ => ?_) (fun h => absurd h ?_); rotate_left; (focus (first | decide | (simp; done) | (simp [tcs]; done))); conv => whnf) | (refine And.intro (fun h => absurd h ?_) (fun _ => ?_); (focus (first | decide | (simp; done) | (simp [tcs]; done))); conv => whnf))
      try (refine draw_intro true (by kernel_rfl) ?_; conv => whnf)
      refine CallSt.use b4 [] trivial (by decide) rfl ?_
      rintro _ _ ⟨rfl, rfl⟩ _
      conv => whnf
      repeat (first | (refine And.intro rfl ?_; conv => whnf) | (refine And.intro (by decide) ?_; conv => whnf) | (refine draw_intro true (by kernel_rfl) ?_; conv => whnf) | (refine And.intro ⟨by omega, by omega⟩ ?_; conv => whnf) | (refine And.intro (by omega) ?_; conv => whnf) | (refine And.intro (fun _ => ⟨by omega, by omega⟩) ?_; conv => whnf) | (refine And.intro (fun _ => ?_) (fun h => absurd h ?_); rotate_left; (focus (first | decide | (simp; done) | (simp [tcs]; done))); conv => whnf) | (refine And.intro (fun h => absurd h ?_) (fun _ => ?_); (focus (first | decide | (simp; done) | (simp [tcs]; done))); conv => whnf))
      all_goals (first | rfl | exact ⟨rfl, rfl⟩ | exact ⟨rfl, rfl, rfl⟩)
    · injection h with h1 h2
      injection h1 with g1 g2 g3 g4
      subst g1 g2 g3 g4 h2
      repeat (first | (refine And.intro rfl ?_; conv => whnf) | (refine And.intro (by decide) ?_; conv => whnf) | (refine And.intro ⟨by omega, by omega⟩ ?_; conv => whnf) | (refine And.intro (by omega) ?_; conv => whnf) | (refine And.intro (fun _ => ⟨by omega, by omega⟩) ?_; conv => whnf) | (refine And.intro (fun _ => ?_) (fun h => absurd h ?_); rotate_left; (focus (first | decide | (simp; done) | (simp [tcs]; done))); conv => whnf) | (refine And.intro (fun h => absurd h ?_) (fun _ => ?_); (focus (first | decide | (simp; done) | (simp [tcs]; done))); conv => whnf))
      try (refine draw_intro true (by kernel_rfl) ?_; conv => whnf)
      refine CallSt.use b4 [] trivial (by decide) rfl ?_
      rintro _ _ ⟨rfl, rfl⟩ _
      conv => whnf
      repeat (first | (refine And.intro rfl ?_; conv => whnf) | (refine And.intro (by decide) ?_; conv => whnf) | (refine draw_intro true (by kernel_rfl) ?_; conv => whnf) | (refine And.intro ⟨by omega, by omega⟩ ?_; conv => whnf) | (refine And.intro (by omega) ?_; conv => whnf) | (refine And.intro (fun _ => ⟨by omega, by omega⟩) ?_; conv => whnf) | (refine And.intro (fun _ => ?_) (fun h => absurd h ?_); rotate_left; (focus (first | decide | (simp; done) | (simp [tcs]; done))); conv => whnf) | (refine And.intro (fun h => absurd h ?_) (fun _ => ?_); (focus (first | decide | (simp; done) | (simp [tcs]; done))); conv => whnf))
      all_goals (first | rfl | exact ⟨rfl, rfl⟩ | exact ⟨rfl, rfl, rfl⟩)
    · injection h with h1 h2
      rw [← h1] at hp hsp
      subst h2
      have a6 := a6 (.mk j3 j4 j5 js)
      rw [hsp hp] at a6
      repeat (first | (refine And.intro rfl ?_; conv => whnf) | (refine And.intro (by decide) ?_; conv => whnf) | (refine And.intro ⟨by omega, by omega⟩ ?_; conv => whnf) | (refine And.intro (by omega) ?_; conv => whnf) | (refine And.intro (fun _ => ⟨by omega, by omega⟩) ?_; conv => whnf) | (refine And.intro (fun _ => ?_) (fun h => absurd h ?_); rotate_left; (focus (first | decide | (simp; done) | (simp [tcs]; done))); conv => whnf) | (refine And.intro (fun h => absurd h ?_) (fun _ => ?_); (focus (first | decide | (simp; done) | (simp [tcs]; done))); conv => whnf))
      try (refine draw_intro true (by kernel_rfl) ?_; conv => whnf)
      refine CallSt.use a6 [] trivial (by decide) rfl ?_
      rintro _ _ ⟨rfl, rfl⟩ _
      conv => whnf
      repeat (first | (refine And.intro rfl ?_; conv => whnf) | (refine And.intro (by decide) ?_; conv => whnf) | (refine And.intro ⟨by omega, by omega⟩ ?_; conv => whnf) | (refine And.intro (by omega) ?_; conv => whnf) | (refine And.intro (fun _ => ⟨by omega, by omega⟩) ?_; conv => whnf) | (refine And.intro (fun _ => ?_) (fun h => absurd h ?_); rotate_left; (focus (first | decide | (simp; done) | (simp [tcs]; done))); conv => whnf) | (refine And.intro (fun h => absurd h ?_) (fun _ => ?_); (focus (first | decide | (simp; done) | (simp [tcs]; done))); conv => whnf))
      try (refine draw_intro true (by kernel_rfl) ?_; conv => whnf)
      refine CallSt.use a7 [] trivial (by decide) rfl ?_
      rintro _ _ ⟨rfl, rfl⟩ _
      conv => whnf
      repeat (first | (refine And.intro rfl ?_; conv => whnf) | (refine And.intro (by decide) ?_; conv => whnf) | (refine And.intro ⟨by omega, by omega⟩ ?_; conv => whnf) | (refine And.intro (by omega) ?_; conv => whnf) | (refine And.intro (fun _ => ⟨by omega, by omega⟩) ?_; conv => whnf) | (refine And.intro (fun _ => ?_) (fun h => absurd h ?_); rotate_left; (focus (first | decide | (simp; done) | (simp [tcs]; done))); conv => whnf) | (refine And.intro (fun h => absurd h ?_) (fun _ => ?_); (focus (first | decide | (simp; done) | (simp [tcs]; done))); conv => whnf))
      try (refine draw_intro true (by kernel_rfl) ?_; conv => whnf)
      refine CallSt.use a4 [] trivial (by decide) rfl ?_
      rintro _ _ ⟨rfl, rfl⟩ _
      conv => whnf
      repeat (first | (refine And.intro rfl ?_; conv => whnf) | (refine And.intro (by decide) ?_; conv => whnf) | (refine And.intro ⟨by omega, by omega⟩ ?_; conv => whnf) | (refine And.intro (by omega) ?_; conv => whnf) | (refine And.intro (fun _ => ⟨by omega, by omega⟩) ?_; conv => whnf) | (refine And.intro (fun _ => ?_) (fun h => absurd h ?_); rotate_left; (focus (first | decide | (simp; done) | (simp [tcs]; done))); conv => whnf) | (refine And.intro (fun h => absurd h ?_) (fun _ => ?_); (focus (first | decide | (simp; done) | (simp [tcs]; done))); conv => whnf))
      try (refine draw_intro true (by kernel_rfl) ?_; conv => whnf)
      refine CallSt.use b4 [] trivial (by decide) rfl ?_
      rintro _ _ ⟨rfl, rfl⟩ _
      conv => whnf
      repeat (first | (refine And.intro rfl ?_; conv => whnf) | (refine And.intro (by decide) ?_; conv => whnf) | (refine draw_intro true (by kernel_rfl) ?_; conv => whnf) | (refine And.intro ⟨by omega, by omega⟩ ?_; conv => whnf) | (refine And.intro (by omega) ?_; conv => whnf) | (refine And.intro (fun _ => ⟨by omega, by omega⟩) ?_; conv => whnf) | (refine And.intro (fun _ => ?_) (fun h => absurd h ?_); rotate_left; (focus (first | decide | (simp; done) | (simp [tcs]; done))); conv => whnf) | (refine And.intro (fun h => absurd h ?_) (fun _ => ?_); (focus (first | decide | (simp; done) | (simp [tcs]; done))); conv => whnf))
      all_goals (first | rfl | exact ⟨rfl, rfl⟩ | exact ⟨rfl, rfl, rfl⟩)

  | true =>
    have hs2 := hs2 rfl
    have a3 := a3 (by have := hln rfl; omega)
    have hrk : ¬ k3 = 2 := hrk rfl
    rw [hjs rfl] at a3
    subst hs2
    try (refine draw_intro true (by kernel_rfl) ?_; conv => whnf)
    refine CallSt.use a1 [] trivial (by decide) rfl ?_
    rintro _ _ ⟨rfl, rfl⟩ _
    conv => whnf
    repeat (first | (refine And.intro rfl ?_; conv => whnf) | (refine And.intro (by decide) ?_; conv => whnf) | (refine And.intro ⟨by omega, by omega⟩ ?_; conv => whnf) | (refine And.intro (by omega) ?_; conv => whnf) | (refine And.intro (fun _ => ⟨by omega, by omega⟩) ?_; conv => whnf) | (refine And.intro (fun _ => ?_) (fun h => absurd h ?_); rotate_left; (focus (first | decide | (simp; done) | (simp [tcs]; done))); conv => whnf) | (refine And.intro (fun h => absurd h ?_) (fun _ => ?_); (focus (first | decide | (simp; done) | (simp [tcs]; done))); conv => whnf))
    try (refine draw_intro true (by kernel_rfl) ?_; conv => whnf)
    refine CallSt.use a2 [] trivial (by decide) rfl ?_
    rintro _ _ ⟨rfl, rfl⟩ _
    conv => whnf
    try (refine draw_intro true (by kernel_rfl) ?_; conv => whnf)
    refine CallSt.use a3 [] trivial (by decide) rfl ?_
    rintro _ _ ⟨rfl, rfl⟩ _
    conv => whnf
    repeat (first | (refine And.intro rfl ?_; conv => whnf) | (refine And.intro (by decide) ?_; conv => whnf) | (refine And.intro ⟨by omega, by omega⟩ ?_; conv => whnf) | (refine And.intro (by omega) ?_; conv => whnf) | (refine And.intro (fun _ => ⟨by omega, by omega⟩) ?_; conv => whnf) | (refine And.intro (fun _ => ?_) (fun h => absurd h ?_); rotate_left; (focus (first | decide | (simp; done) | (simp [tcs]; done))); conv => whnf) | (refine And.intro (fun h => absurd h ?_) (fun _ => ?_); (focus (first | decide | (simp; done) | (simp [tcs]; done))); conv => whnf))
    try (refine draw_intro true (by kernel_rfl) ?_; conv => whnf)
    refine CallSt.use a4 [] trivial (by decide) rfl ?_
    rintro _ _ ⟨rfl, rfl⟩ _
    conv => whnf
    repeat (first | (refine And.intro rfl ?_; conv => whnf) | (refine And.intro (by decide) ?_; conv => whnf) | (refine And.intro ⟨by omega, by omega⟩ ?_; conv => whnf) | (refine And.intro (by omega) ?_; conv => whnf) | (refine And.intro (fun _ => ⟨by omega, by omega⟩) ?_; conv => whnf) | (refine And.intro (fun _ => ?_) (fun h => absurd h ?_); rotate_left; (focus (first | decide | (simp; done) | (simp [tcs]; done))); conv => whnf) | (refine And.intro (fun h => absurd h ?_) (fun _ => ?_); (focus (first | decide | (simp; done) | (simp [tcs]; done))); conv => whnf))
    refine ⟨fun h => absurd (of_decide_eq_true h) hrk, fun _ => ?_⟩
    conv => whnf
    refine ⟨fun hk => ?_, fun hk => ?_⟩
    · conv => whnf
      try (refine draw_intro true (by kernel_rfl) ?_; conv => whnf)
      refine CallSt.use b4 [] trivial (by decide) rfl ?_
      rintro _ _ ⟨rfl, rfl⟩ _
      conv => whnf
      repeat (first | (refine And.intro rfl ?_; conv => whnf) | (refine And.intro (by decide) ?_; conv => whnf) | (refine draw_intro true (by kernel_rfl) ?_; conv => whnf) | (refine And.intro ⟨by omega, by omega⟩ ?_; conv => whnf) | (refine And.intro (by omega) ?_; conv => whnf) | (refine And.intro (fun _ => ⟨by omega, by omega⟩) ?_; conv => whnf) | (refine And.intro (fun _ => ?_) (fun h => absurd h ?_); rotate_left; (focus (first | decide | (simp; done) | (simp [tcs]; done))); conv => whnf) | (refine And.intro (fun h => absurd h ?_) (fun _ => ?_); (focus (first | decide | (simp; done) | (simp [tcs]; done))); conv => whnf))
      all_goals (first | rfl | exact ⟨rfl, rfl⟩ | exact ⟨rfl, rfl, rfl⟩)
    replace hk : ¬ k = 2 := of_decide_eq_false hk
    have hsp := hsp hk
    conv => whnf
    have hl2 : (0 + (tcs l).length) * 48 ≤ 140737488355328 := by omega
    have hl3 : 0 + (tcs l).length ≤ 9223372036854775807 := by omega
    refine draw_wk [(10, .ptr 1 0), (11, .c (.int .i64 (j2))), (1, .c (.sl 4 48 (tcs l))), (2, .ptr 0 0), (4, .c (.bool false))] [.box [.c (.int .i64 (k)), .c (.int .i64 (l0)), .c (.int .i64 (n)), .c (.sl 4 48 (tcs ts))], .box [.c (.int .i64 (j3)), .c (.int .i64 (j4)), .c (.int .i64 (j5)), .c (.sl 4 48 (tcs js))]] ?_ ?_
    · refine draw_intro true (by kernel_rfl) ?_
      conv => whnf
      repeat' (first | (refine And.intro ?_ ?_ <;> conv => whnf) | exact hl2 | exact hl3 | exact Nat.le_of_ble_eq_true rfl | (refine CallSt.use a5 [] trivial (by decide) rfl ?_; rintro _ _ ⟨rfl, rfl⟩ _; conv => whnf) | exact Wk.sel [0, 1] (by decide) (by decide) (by decide) ⟨rfl, rfl, trivial⟩ ⟨rfl, rfl, rfl, rfl, rfl, trivial⟩ rfl | exact Wk.sel [0, 2] (by decide) (by decide) (by decide) ⟨rfl, rfl, trivial⟩ ⟨rfl, rfl, rfl, rfl, rfl, trivial⟩ rfl | exact Wk.sel [0, 3] (by decide) (by decide) (by decide) ⟨rfl, rfl, trivial⟩ ⟨rfl, rfl, rfl, rfl, rfl, trivial⟩ rfl | exact Wk.sel [0, 4] (by decide) (by decide) (by decide) ⟨rfl, rfl, trivial⟩ ⟨rfl, rfl, rfl, rfl, rfl, trivial⟩ rfl | exact Wk.sel [0, 5] (by decide) (by decide) (by decide) ⟨rfl, rfl, trivial⟩ ⟨rfl, rfl, rfl, rfl, rfl, trivial⟩ rfl)
    conv => whnf
    rcases hjc with h | h | ⟨h, hp⟩
    · injection h with h1 h2
      injection h1 with g1 g2 g3 g4
      subst g1 g2 g3 g4 h2
      repeat (first | (refine And.intro rfl ?_; conv => whnf) | (refine And.intro (by decide) ?_; conv => whnf) | (refine And.intro ⟨by omega, by omega⟩ ?_; conv => whnf) | (refine And.intro (by omega) ?_; conv => whnf) | (refine And.intro (fun _ => ⟨by omega, by omega⟩) ?_; conv => whnf) | (refine And.intro (fun _ => ?_) (fun h => absurd h ?_); rotate_left; (focus (first | decide | (simp; done) | (simp [tcs]; done))); conv => whnf) | (refine And.intro (fun h => absurd h ?_) (fun _ => ?_); (focus (first | decide | (simp; done) | (simp [tcs]; done))); conv => whnf))
      try (refine draw_intro true (by kernel_rfl) ?_; conv => whnf)
      refine CallSt.use b4 [] trivial (by decide) rfl ?_
      rintro _ _ ⟨rfl, rfl⟩ _
      conv => whnf
      repeat (first | (refine And.intro rfl ?_; conv => whnf) | (refine And.intro (by decide) ?_; conv => whnf) | (refine draw_intro true (by kernel_rfl) ?_; conv => whnf) | (refine And.intro ⟨by omega, by omega⟩ ?_; conv => whnf) | (refine And.intro (by omega) ?_; conv => whnf) | (refine And.intro (fun _ => ⟨by omega, by omega⟩) ?_; conv => whnf) | (refine And.intro (fun _ => ?_) (fun h => absurd h ?_); rotate_left; (focus (first | decide | (simp; done) | (simp [tcs]; done))); conv => whnf) | (refine And.intro (fun h => absurd h ?_) (fun _ => ?_); (focus (first | decide | (simp; done) | (simp [tcs]; done))); conv => whnf))
      all_goals (first | rfl | exact ⟨rfl, rfl⟩ | exact ⟨rfl, rfl, rfl⟩)
    · injection h with h1 h2
      injection h1 with g1 g2 g3 g4
      subst g1 g2 g3 g4 h2
      repeat (first | (refine And.intro rfl ?_; conv => whnf) | (refine And.intro (by decide) ?_; conv => whnf) | (refine And.intro ⟨by omega, by omega⟩ ?_; conv => whnf) | (refine And.intro (by omega) ?_; conv => whnf) | (refine And.intro (fun _ => ⟨by omega, by omega⟩) ?_; conv => whnf) | (refine And.intro (fun _ => ?_) (fun h => absurd h ?_); rotate_left; (focus (first | decide | (simp; done) | (simp [tcs]; done))); conv => whnf) | (refine And.intro (fun h => absurd h ?_) (fun _ => ?_); (focus (first | decide | (simp; done) | (simp [tcs]; done))); conv => whnf))
      try (refine draw_intro true (by kernel_rfl) ?_; conv => whnf)
      refine CallSt.use b4 [] trivial (by decide) rfl ?_
      rintro _ _ ⟨rfl, rfl⟩ _
      conv => whnf
      repeat (first | (refine And.intro rfl ?_; conv => whnf) | (refine And.intro (by decide) ?_; conv => whnf) | (refine draw_intro true (by kernel_rfl) ?_; conv => whnf) | (refine And.intro ⟨by omega, by omega⟩ ?_; conv => whnf) | (refine And.intro (by omega) ?_; conv => whnf) | (refine And.intro (fun _ => ⟨by omega, by omega⟩) ?_; conv => whnf) | (refine And.intro (fun _ => ?_) (fun h => absurd h ?_); rotate_left; (focus (first | decide | (simp; done) | (simp [tcs]; done))); conv => whnf) | (refine And.intro (fun h => absurd h ?_) (fun _ => ?_); (focus (first | decide | (simp; done) | (simp [tcs]; done))); conv => whnf))
      all_goals (first | rfl | exact ⟨rfl, rfl⟩ | exact ⟨rfl, rfl, rfl⟩)
    · injection h with h1 h2
      rw [← h1] at hp hsp
      subst h2
      have a6 := a6 (.mk j3 j4 j5 js)
      rw [hsp hp] at a6
      repeat (first | (refine And.intro rfl ?_; conv => whnf) | (refine And.intro (by decide) ?_; conv => whnf) | (refine And.intro ⟨by omega, by omega⟩ ?_; conv => whnf) | (refine And.intro (by omega) ?_; conv => whnf) | (refine And.intro (fun _ => ⟨by omega, by omega⟩) ?_; conv => whnf) | (refine And.intro (fun _ => ?_) (fun h => absurd h ?_); rotate_left; (focus (first | decide | (simp; done) | (simp [tcs]; done))); conv => whnf) | (refine And.intro (fun h => absurd h ?_) (fun _ => ?_); (focus (first | decide | (simp; done) | (simp [tcs]; done))); conv => whnf))
      try (refine draw_intro true (by kernel_rfl) ?_; conv => whnf)
      refine CallSt.use a6 [] trivial (by decide) rfl ?_
      rintro _ _ ⟨rfl, rfl⟩ _
      conv => whnf
      repeat (first | (refine And.intro rfl ?_; conv => whnf) | (refine And.intro (by decide) ?_; conv => whnf) | (refine And.intro ⟨by omega, by omega⟩ ?_; conv => whnf) | (refine And.intro (by omega) ?_; conv => whnf) | (refine And.intro (fun _ => ⟨by omega, by omega⟩) ?_; conv => whnf) | (refine And.intro (fun _ => ?_) (fun h => absurd h ?_); rotate_left; (focus (first | decide | (simp; done) | (simp [tcs]; done))); conv => whnf) | (refine And.intro (fun h => absurd h ?_) (fun _ => ?_); (focus (first | decide | (simp; done) | (simp [tcs]; done))); conv => whnf))
      try (refine draw_intro true (by kernel_rfl) ?_; conv => whnf)
      refine CallSt.use a7 [] trivial (by decide) rfl ?_
      rintro _ _ ⟨rfl, rfl⟩ _
      conv => whnf
      repeat (first | (refine And.intro rfl ?_; conv => whnf) | (refine And.intro (by decide) ?_; conv => whnf) | (refine And.intro ⟨by omega, by omega⟩ ?_; conv => whnf) | (refine And.intro (by omega) ?_; conv => whnf) | (refine And.intro (fun _ => ⟨by omega, by omega⟩) ?_; conv => whnf) | (refine And.intro (fun _ => ?_) (fun h => absurd h ?_); rotate_left; (focus (first | decide | (simp; done) | (simp [tcs]; done))); conv => whnf) | (refine And.intro (fun h => absurd h ?_) (fun _ => ?_); (focus (first | decide | (simp; done) | (simp [tcs]; done))); conv => whnf))
      try (refine draw_intro true (by kernel_rfl) ?_; conv => whnf)
      refine CallSt.use a4 [] trivial (by decide) rfl ?_
      rintro _ _ ⟨rfl, rfl⟩ _
      conv => whnf
      repeat (first | (refine And.intro rfl ?_; conv => whnf) | (refine And.intro (by decide) ?_; conv => whnf) | (refine And.intro ⟨by omega, by omega⟩ ?_; conv => whnf) | (refine And.intro (by omega) ?_; conv => whnf) | (refine And.intro (fun _ => ⟨by omega, by omega⟩) ?_; conv => whnf) | (refine And.intro (fun _ => ?_) (fun h => absurd h ?_); rotate_left; (focus (first | decide | (simp; done) | (simp [tcs]; done))); conv => whnf) | (refine And.intro (fun h => absurd h ?_) (fun _ => ?_); (focus (first | decide | (simp; done) | (simp [tcs]; done))); conv => whnf))
      try (refine draw_intro true (by kernel_rfl) ?_; conv => whnf)
      refine CallSt.use b4 [] trivial (by decide) rfl ?_
      rintro _ _ ⟨rfl, rfl⟩ _
      conv => whnf
      repeat (first | (refine And.intro rfl ?_; conv => whnf) | (refine And.intro (by decide) ?_; conv => whnf) | (refine draw_intro true (by kernel_rfl) ?_; conv => whnf) | (refine And.intro ⟨by omega, by omega⟩ ?_; conv => whnf) | (refine And.intro (by omega) ?_; conv => whnf) | (refine And.intro (fun _ => ⟨by omega, by omega⟩) ?_; conv => whnf) | (refine And.intro (fun _ => ?_) (fun h => absurd h ?_); rotate_left; (focus (first | decide | (simp; done) | (simp [tcs]; done))); conv => whnf) | (refine And.intro (fun h => absurd h ?_) (fun _ => ?_); (focus (first | decide | (simp; done) | (simp [tcs]; done))); conv => whnf))
      all_goals (first | rfl | exact ⟨rfl, rfl⟩ | exact ⟨rfl, rfl, rfl⟩)
end Go.Tr
