/- What each function computes, and the plain laws of it. -/
import Derived.Test.YtdclcamgmepjpaaGreatTrXdb3fc1be
set_option linter.unusedVariables false
set_option linter.unusedSimpArgs false
set_option linter.unnecessarySimpa false
set_option autoImplicit false
/- R19.Same. -/
namespace Go.Tr
open Go.Proofs
theorem cRSameC (c d : Crt) : CallSt Tryz.prog 19 [crv c, crv d] [] (fun r H' => r = .c (.bool (sameC c d)) ∧ H' = []) := by
  have h2 := c34 c.X d.X
  rw [sameL_all] at h2
  have h3 := c23 c.o d.o
  have h4 := c23 c.c d.c
  have hl := len_dcs c.S
  have hm := len_dcs d.S
  by_cases hn : c.S.length = d.S.length
  · have e2 : (!decide (((dcs c.S).length : Int) = (dcs d.S).length)) = false := by rw [decide_eq_true (by omega)]; rfl
    have e : sameC c d = (allEq sameD c.S d.S && allEq sameT c.X d.X && sameT c.o d.o && sameT c.c d.c) := rfl
    rw [e]
    generalize allEq sameT c.X d.X = b2 at *
    generalize sameT c.o d.o = b3 at *
    generalize sameT c.c d.c = b4 at *
    obtain ⟨S, X, ⟨k, l, n, ts⟩, ⟨k2, l2, n2, us⟩⟩ := c
    obtain ⟨S', X', ⟨k', l', n', ts'⟩, ⟨k2', l2', n2', us'⟩⟩ := d
    unfold crv at *
    dsimp only [Term.k, Term.l, Term.n, Term.ts] at *
    rw [tv_mk, tv_mk] at h3 h4
    refine call_pure (E := env 0) (fn := Tryz.f19) (c := bodyOf Tryz.f19) (env_ok 0) mixed (by kernel_rfl) (by kernel_rfl) (by kernel_rfl) (by kernel_rfl) (by kernel_rfl) (by kernel_rfl) rfl ?_
    conv => whnf
    repeat ((first | refine aI rfl ?_ | refine aI (by decide) ?_ | refine dI (by kernel_rfl) ?_ | refine aI ⟨by omega, by omega⟩ ?_ | refine aI (by omega) ?_ | refine aI (fun _ => ⟨by omega, by omega⟩) ?_ | refine aI (of_decide_eq_true rfl) ?_ | (refine yI ?_ ?_; focus (first | decide | (simp; done) | (simp [tcs]; done))) | (refine nI ?_ ?_; focus (first | decide | (simp; done) | (simp [tcs]; done))) | intro _); conv => whnf)
    rw [e2]
    repeat ((first | refine aI rfl ?_ | refine aI (by decide) ?_ | refine dI (by kernel_rfl) ?_ | refine aI ⟨by omega, by omega⟩ ?_ | refine aI (by omega) ?_ | refine aI (fun _ => ⟨by omega, by omega⟩) ?_ | refine aI (of_decide_eq_true rfl) ?_ | (refine yI ?_ ?_; focus (first | decide | (simp; done) | (simp [tcs]; done))) | (refine nI ?_ ?_; focus (first | decide | (simp; done) | (simp [tcs]; done))) | intro _); conv => whnf)
    try (refine dI (by kernel_rfl) ?_; conv => whnf)
    first | refine CallSt.use h2 [] trivial (by decide) rfl ?_ | refine CallPt.useS h2 [] trivial (by decide) rfl ?_
    rintro _ _ ⟨rfl, rfl⟩ _
    conv => whnf
    cases b2 with
    | false =>
      rw [Bool.and_false, Bool.false_and, Bool.false_and]
      repeat ((first | refine aI rfl ?_ | refine aI (by decide) ?_ | refine dI (by kernel_rfl) ?_ | refine aI ⟨by omega, by omega⟩ ?_ | refine aI (by omega) ?_ | refine aI (fun _ => ⟨by omega, by omega⟩) ?_ | refine aI (of_decide_eq_true rfl) ?_ | (refine yI ?_ ?_; focus (first | decide | (simp; done) | (simp [tcs]; done))) | (refine nI ?_ ?_; focus (first | decide | (simp; done) | (simp [tcs]; done))) | intro _); conv => whnf)
      all_goals (first | rfl | exact ⟨rfl, rfl⟩ | exact ⟨rfl, rfl, rfl⟩)
    | true =>
    repeat ((first | refine aI rfl ?_ | refine aI (by decide) ?_ | refine dI (by kernel_rfl) ?_ | refine aI ⟨by omega, by omega⟩ ?_ | refine aI (by omega) ?_ | refine aI (fun _ => ⟨by omega, by omega⟩) ?_ | refine aI (of_decide_eq_true rfl) ?_ | (refine yI ?_ ?_; focus (first | decide | (simp; done) | (simp [tcs]; done))) | (refine nI ?_ ?_; focus (first | decide | (simp; done) | (simp [tcs]; done))) | intro _); conv => whnf)
    try (refine dI (by kernel_rfl) ?_; conv => whnf)
    first | refine CallSt.use h3 [] trivial (by decide) rfl ?_ | refine CallPt.useS h3 [] trivial (by decide) rfl ?_
    rintro _ _ ⟨rfl, rfl⟩ _
    conv => whnf
    cases b3 with
    | false =>
      rw [Bool.and_false, Bool.false_and]
      repeat ((first | refine aI rfl ?_ | refine aI (by decide) ?_ | refine dI (by kernel_rfl) ?_ | refine aI ⟨by omega, by omega⟩ ?_ | refine aI (by omega) ?_ | refine aI (fun _ => ⟨by omega, by omega⟩) ?_ | refine aI (of_decide_eq_true rfl) ?_ | (refine yI ?_ ?_; focus (first | decide | (simp; done) | (simp [tcs]; done))) | (refine nI ?_ ?_; focus (first | decide | (simp; done) | (simp [tcs]; done))) | intro _); conv => whnf)
      all_goals (first | rfl | exact ⟨rfl, rfl⟩ | exact ⟨rfl, rfl, rfl⟩)
    | true =>
    repeat ((first | refine aI rfl ?_ | refine aI (by decide) ?_ | refine dI (by kernel_rfl) ?_ | refine aI ⟨by omega, by omega⟩ ?_ | refine aI (by omega) ?_ | refine aI (fun _ => ⟨by omega, by omega⟩) ?_ | refine aI (of_decide_eq_true rfl) ?_ | (refine yI ?_ ?_; focus (first | decide | (simp; done) | (simp [tcs]; done))) | (refine nI ?_ ?_; focus (first | decide | (simp; done) | (simp [tcs]; done))) | intro _); conv => whnf)
    try (refine dI (by kernel_rfl) ?_; conv => whnf)
    first | refine CallSt.use h4 [] trivial (by decide) rfl ?_ | refine CallPt.useS h4 [] trivial (by decide) rfl ?_
    rintro _ _ ⟨rfl, rfl⟩ _
    conv => whnf
    cases b4 with
    | false =>
      rw [Bool.and_false]
      repeat ((first | refine aI rfl ?_ | refine aI (by decide) ?_ | refine dI (by kernel_rfl) ?_ | refine aI ⟨by omega, by omega⟩ ?_ | refine aI (by omega) ?_ | refine aI (fun _ => ⟨by omega, by omega⟩) ?_ | refine aI (of_decide_eq_true rfl) ?_ | (refine yI ?_ ?_; focus (first | decide | (simp; done) | (simp [tcs]; done))) | (refine nI ?_ ?_; focus (first | decide | (simp; done) | (simp [tcs]; done))) | intro _); conv => whnf)
      all_goals (first | rfl | exact ⟨rfl, rfl⟩ | exact ⟨rfl, rfl, rfl⟩)
    | true =>
    repeat ((first | refine aI rfl ?_ | refine aI (by decide) ?_ | refine dI (by kernel_rfl) ?_ | refine aI ⟨by omega, by omega⟩ ?_ | refine aI (by omega) ?_ | refine aI (fun _ => ⟨by omega, by omega⟩) ?_ | refine aI (of_decide_eq_true rfl) ?_ | (refine yI ?_ ?_; focus (first | decide | (simp; done) | (simp [tcs]; done))) | (refine nI ?_ ?_; focus (first | decide | (simp; done) | (simp [tcs]; done))) | intro _); conv => whnf)
    simp only [Bool.and_true]
    refine loop_intro (fun q tm H => ∃ j : Nat, S.length = q + j ∧ allEq sameD (S.drop j) (S'.drop j) = allEq sameD S S' ∧ tm = [(5, .c (.int .i64 (j))), (2, .ptr 0 0), (3, .ptr 1 0)] ∧
        H = [.box [.c (.sl 6 72 (dcs S)), .c (.sl 4 48 (tcs X)), .c (.int .i64 (k)), .c (.int .i64 (l)), .c (.int .i64 (n)), .c (.sl 4 48 (tcs ts)), .c (.int .i64 (k2)), .c (.int .i64 (l2)), .c (.int .i64 (n2)), .c (.sl 4 48 (tcs us))], .box [.c (.sl 6 72 (dcs S')), .c (.sl 4 48 (tcs X')), .c (.int .i64 (k')), .c (.int .i64 (l')), .c (.int .i64 (n')), .c (.sl 4 48 (tcs ts')), .c (.int .i64 (k2')), .c (.int .i64 (l2')), .c (.int .i64 (n2')), .c (.sl 4 48 (tcs us'))]])
      S.length _ _ ⟨0, by omega, rfl, rfl, rfl⟩ (Wk.sl [0, 1] rfl ⟨rfl, rfl, trivial⟩ ⟨rfl, rfl, rfl, trivial⟩ rfl) ?_
    rintro q tm H ⟨j, hj, hR, rfl, rfl⟩
    conv => whnf
    intro hlen
    replace hlen : (dcs S).length * 72 ≤ 140737488355328 := hlen
    conv => whnf
    refine ⟨fun hc => ?_, fun hc => ?_⟩
    · replace hc : (j : Int) < (dcs S).length := of_decide_eq_true hc
      have hl2 := len_dcs S
      have hm2 := len_dcs S'
      obtain ⟨a, ha⟩ : ∃ a, S[j]? = some a := ⟨S[j]'(by omega), List.getElem?_eq_getElem (by omega)⟩
      obtain ⟨b, hb⟩ : ∃ b, S'[j]? = some b := ⟨S'[j]'(by omega), List.getElem?_eq_getElem (by omega)⟩
      have hac := dcs_at ha
      have hbc := dcs_at hb
      have hs := c23 a.c b.c
      have hsd : sameD a b = (decide (a.s = b.s) && decide (a.i = b.i) && sameT a.c b.c) := rfl
      rw [allEq_drop sameD ha hb, hsd] at hR
      clear hsd
      generalize sameT a.c b.c = b5 at *
      obtain ⟨s1, ⟨k1, l1, n1, vs⟩, i1⟩ := a
      obtain ⟨s2, ⟨k3, l3, n3, ws⟩, i2⟩ := b
      dsimp only at hs hR
      rw [tv_mk, tv_mk] at hs
      replace hac : (dcs S)[j]? = some [.str s1, .int .i64 k1, .int .i64 l1, .int .i64 n1, .sl 4 48 (tcs vs), .int .i64 i1] := hac
      replace hbc : (dcs S')[j]? = some [.str s2, .int .i64 k3, .int .i64 l3, .int .i64 n3, .sl 4 48 (tcs ws), .int .i64 i2] := hbc
      conv => whnf
      refine draw_intro true (by kernel_rfl) ?_
      conv => whnf
      repeat ((first | refine aI rfl ?_ | refine aI (by decide) ?_ | refine aI ⟨by omega, by omega⟩ ?_ | refine aI (by omega) ?_ | refine aI (fun _ => ⟨by omega, by omega⟩) ?_ | refine aI (of_decide_eq_true rfl) ?_ | (refine yI ?_ ?_; focus (first | decide | (simp; done) | (simp [tcs]; done))) | (refine nI ?_ ?_; focus (first | decide | (simp; done) | (simp [tcs]; done)))); conv => whnf)
      refine ⟨_, ⟨by omega, hac⟩, ?_⟩
      conv => whnf
      refine ⟨show 1 ≤ 6 by decide, ?_⟩
      conv => whnf
      repeat ((first | refine aI rfl ?_ | refine aI (by decide) ?_ | refine aI ⟨by omega, by omega⟩ ?_ | refine aI (by omega) ?_ | refine aI (fun _ => ⟨by omega, by omega⟩) ?_ | refine aI (of_decide_eq_true rfl) ?_ | (refine yI ?_ ?_; focus (first | decide | (simp; done) | (simp [tcs]; done))) | (refine nI ?_ ?_; focus (first | decide | (simp; done) | (simp [tcs]; done)))); conv => whnf)
      refine ⟨_, ⟨by omega, hbc⟩, ?_⟩
      conv => whnf
      refine ⟨show 1 ≤ 6 by decide, ?_⟩
      conv => whnf
      repeat ((first | refine aI rfl ?_ | refine aI (by decide) ?_ | refine aI ⟨by omega, by omega⟩ ?_ | refine aI (by omega) ?_ | refine aI (fun _ => ⟨by omega, by omega⟩) ?_ | refine aI (of_decide_eq_true rfl) ?_ | (refine yI ?_ ?_; focus (first | decide | (simp; done) | (simp [tcs]; done))) | (refine nI ?_ ?_; focus (first | decide | (simp; done) | (simp [tcs]; done)))); conv => whnf)
      refine ⟨_, fun _ => ⟨by omega, hac⟩, ?_⟩
      conv => whnf
      refine ⟨show 1 ≤ 1 by decide, ?_⟩
      conv => whnf
      repeat ((first | refine aI rfl ?_ | refine aI (by decide) ?_ | refine aI ⟨by omega, by omega⟩ ?_ | refine aI (by omega) ?_ | refine aI (fun _ => ⟨by omega, by omega⟩) ?_ | refine aI (of_decide_eq_true rfl) ?_ | (refine yI ?_ ?_; focus (first | decide | (simp; done) | (simp [tcs]; done))) | (refine nI ?_ ?_; focus (first | decide | (simp; done) | (simp [tcs]; done)))); conv => whnf)
      refine ⟨_, fun _ => ⟨by omega, hbc⟩, ?_⟩
      conv => whnf
      refine ⟨show 1 ≤ 1 by decide, ?_⟩
      conv => whnf
      repeat ((first | refine aI rfl ?_ | refine aI (by decide) ?_ | refine aI ⟨by omega, by omega⟩ ?_ | refine aI (by omega) ?_ | refine aI (fun _ => ⟨by omega, by omega⟩) ?_ | refine aI (of_decide_eq_true rfl) ?_ | (refine yI ?_ ?_; focus (first | decide | (simp; done) | (simp [tcs]; done))) | (refine nI ?_ ?_; focus (first | decide | (simp; done) | (simp [tcs]; done)))); conv => whnf)
      refine ⟨_, fun _ => ⟨by omega, hac⟩, ?_⟩
      conv => whnf
      refine ⟨show 4 ≤ 5 by decide, ?_⟩
      conv => whnf
      repeat ((first | refine aI rfl ?_ | refine aI (by decide) ?_ | refine aI ⟨by omega, by omega⟩ ?_ | refine aI (by omega) ?_ | refine aI (fun _ => ⟨by omega, by omega⟩) ?_ | refine aI (of_decide_eq_true rfl) ?_ | (refine yI ?_ ?_; focus (first | decide | (simp; done) | (simp [tcs]; done))) | (refine nI ?_ ?_; focus (first | decide | (simp; done) | (simp [tcs]; done)))); conv => whnf)
      refine ⟨_, fun _ => ⟨by omega, hbc⟩, ?_⟩
      conv => whnf
      refine ⟨show 4 ≤ 5 by decide, ?_⟩
      conv => whnf
      repeat ((first | refine aI rfl ?_ | refine aI (by decide) ?_ | refine aI ⟨by omega, by omega⟩ ?_ | refine aI (by omega) ?_ | refine aI (fun _ => ⟨by omega, by omega⟩) ?_ | refine aI (of_decide_eq_true rfl) ?_ | (refine yI ?_ ?_; focus (first | decide | (simp; done) | (simp [tcs]; done))) | (refine nI ?_ ?_; focus (first | decide | (simp; done) | (simp [tcs]; done)))); conv => whnf)
      generalize hq : (!decide (s1 = s2) || !decide (i1 = i2)) = q1 at *
      have hq2 : (decide (s1 = s2) && decide (i1 = i2)) = !q1 := by rw [← hq]; simp
      rw [hq2] at hR
      clear hq hq2
      cases q1 with
      | true =>
        (refine ⟨fun h => absurd h ?_, fun _ => ?_⟩; (focus (first | decide | (simp; done) | (simp [tcs]; done))); conv => whnf)
        repeat ((first | refine aI rfl ?_ | refine aI (by decide) ?_ | refine dI (by kernel_rfl) ?_ | refine aI ⟨by omega, by omega⟩ ?_ | refine aI (by omega) ?_ | refine aI (fun _ => ⟨by omega, by omega⟩) ?_ | refine aI (of_decide_eq_true rfl) ?_ | (refine yI ?_ ?_; focus (first | decide | (simp; done) | (simp [tcs]; done))) | (refine nI ?_ ?_; focus (first | decide | (simp; done) | (simp [tcs]; done))) | intro _); conv => whnf)
        rw [← hR]
        repeat ((first | refine aI rfl ?_ | refine aI (by decide) ?_ | refine dI (by kernel_rfl) ?_ | refine aI ⟨by omega, by omega⟩ ?_ | refine aI (by omega) ?_ | refine aI (fun _ => ⟨by omega, by omega⟩) ?_ | refine aI (of_decide_eq_true rfl) ?_ | (refine yI ?_ ?_; focus (first | decide | (simp; done) | (simp [tcs]; done))) | (refine nI ?_ ?_; focus (first | decide | (simp; done) | (simp [tcs]; done))) | intro _); conv => whnf)
        all_goals (first | rfl | exact ⟨rfl, rfl⟩ | exact ⟨rfl, rfl, rfl⟩)
      | false =>
        (refine ⟨fun _ => ?_, fun h => absurd h ?_⟩; rotate_left; (focus (first | decide | (simp; done) | (simp [tcs]; done))); conv => whnf)
        try (refine dI (by kernel_rfl) ?_; conv => whnf)
        first | refine CallSt.use hs [] trivial (by decide) rfl ?_ | refine CallPt.useS hs [] trivial (by decide) rfl ?_
        rintro _ _ ⟨rfl, rfl⟩ _
        conv => whnf
        cases b5 with
        | false =>
          repeat ((first | refine aI rfl ?_ | refine aI (by decide) ?_ | refine dI (by kernel_rfl) ?_ | refine aI ⟨by omega, by omega⟩ ?_ | refine aI (by omega) ?_ | refine aI (fun _ => ⟨by omega, by omega⟩) ?_ | refine aI (of_decide_eq_true rfl) ?_ | (refine yI ?_ ?_; focus (first | decide | (simp; done) | (simp [tcs]; done))) | (refine nI ?_ ?_; focus (first | decide | (simp; done) | (simp [tcs]; done))) | intro _); conv => whnf)
          rw [← hR]
          repeat ((first | refine aI rfl ?_ | refine aI (by decide) ?_ | refine dI (by kernel_rfl) ?_ | refine aI ⟨by omega, by omega⟩ ?_ | refine aI (by omega) ?_ | refine aI (fun _ => ⟨by omega, by omega⟩) ?_ | refine aI (of_decide_eq_true rfl) ?_ | (refine yI ?_ ?_; focus (first | decide | (simp; done) | (simp [tcs]; done))) | (refine nI ?_ ?_; focus (first | decide | (simp; done) | (simp [tcs]; done))) | intro _); conv => whnf)
          all_goals (first | rfl | exact ⟨rfl, rfl⟩ | exact ⟨rfl, rfl, rfl⟩)
        | true =>
          repeat ((first | refine aI rfl ?_ | refine aI (by decide) ?_ | refine dI (by kernel_rfl) ?_ | refine aI ⟨by omega, by omega⟩ ?_ | refine aI (by omega) ?_ | refine aI (fun _ => ⟨by omega, by omega⟩) ?_ | refine aI (of_decide_eq_true rfl) ?_ | (refine yI ?_ ?_; focus (first | decide | (simp; done) | (simp [tcs]; done))) | (refine nI ?_ ?_; focus (first | decide | (simp; done) | (simp [tcs]; done))) | intro _); conv => whnf)
          refine ⟨q - 1, _, _, by omega, ⟨j + 1, by omega, by simpa using hR, rfl, rfl⟩, Wk.sl [0, 1] rfl ⟨rfl, rfl, trivial⟩ ⟨rfl, rfl, rfl, trivial⟩ rfl⟩
    · replace hc : ¬ (j : Int) < (dcs S).length := of_decide_eq_false hc
      rw [List.drop_eq_nil_of_le (by omega), List.drop_eq_nil_of_le (by omega), allEq] at hR
      rw [← hR]
      conv => whnf
      repeat ((first | refine aI rfl ?_ | refine aI (by decide) ?_ | refine dI (by kernel_rfl) ?_ | refine aI ⟨by omega, by omega⟩ ?_ | refine aI (by omega) ?_ | refine aI (fun _ => ⟨by omega, by omega⟩) ?_ | refine aI (of_decide_eq_true rfl) ?_ | (refine yI ?_ ?_; focus (first | decide | (simp; done) | (simp [tcs]; done))) | (refine nI ?_ ?_; focus (first | decide | (simp; done) | (simp [tcs]; done))) | intro _); conv => whnf)
      all_goals (first | rfl | exact ⟨rfl, rfl⟩ | exact ⟨rfl, rfl, rfl⟩)
  · have e : sameC c d = false := by unfold sameC; rw [allEq_len sameD _ _ hn]; rfl
    have e2 : (!decide (((dcs c.S).length : Int) = (dcs d.S).length)) = true := by rw [decide_eq_false (by omega)]; rfl
    rw [e]
    obtain ⟨S, X, ⟨k, l, n, ts⟩, ⟨k2, l2, n2, us⟩⟩ := c
    obtain ⟨S', X', ⟨k', l', n', ts'⟩, ⟨k2', l2', n2', us'⟩⟩ := d
    unfold crv at *
    dsimp only [Term.k, Term.l, Term.n, Term.ts] at *
    refine call_pure (E := env 0) (fn := Tryz.f19) (c := bodyOf Tryz.f19) (env_ok 0) mixed (by kernel_rfl) (by kernel_rfl) (by kernel_rfl) (by kernel_rfl) (by kernel_rfl) (by kernel_rfl) rfl ?_
    conv => whnf
    repeat ((first | refine aI rfl ?_ | refine aI (by decide) ?_ | refine dI (by kernel_rfl) ?_ | refine aI ⟨by omega, by omega⟩ ?_ | refine aI (by omega) ?_ | refine aI (fun _ => ⟨by omega, by omega⟩) ?_ | refine aI (of_decide_eq_true rfl) ?_ | (refine yI ?_ ?_; focus (first | decide | (simp; done) | (simp [tcs]; done))) | (refine nI ?_ ?_; focus (first | decide | (simp; done) | (simp [tcs]; done))) | intro _); conv => whnf)
    rw [e2]
    repeat ((first | refine aI rfl ?_ | refine aI (by decide) ?_ | refine dI (by kernel_rfl) ?_ | refine aI ⟨by omega, by omega⟩ ?_ | refine aI (by omega) ?_ | refine aI (fun _ => ⟨by omega, by omega⟩) ?_ | refine aI (of_decide_eq_true rfl) ?_ | (refine yI ?_ ?_; focus (first | decide | (simp; done) | (simp [tcs]; done))) | (refine nI ?_ ?_; focus (first | decide | (simp; done) | (simp [tcs]; done))) | intro _); conv => whnf)
    repeat ((first | refine aI rfl ?_ | refine aI (by decide) ?_ | refine dI (by kernel_rfl) ?_ | refine aI ⟨by omega, by omega⟩ ?_ | refine aI (by omega) ?_ | refine aI (fun _ => ⟨by omega, by omega⟩) ?_ | refine aI (of_decide_eq_true rfl) ?_ | (refine yI ?_ ?_; focus (first | decide | (simp; done) | (simp [tcs]; done))) | (refine nI ?_ ?_; focus (first | decide | (simp; done) | (simp [tcs]; done))) | intro _); conv => whnf)
    all_goals (first | rfl | exact ⟨rfl, rfl⟩ | exact ⟨rfl, rfl, rfl⟩)
end Go.Tr
/- The law CertSums. -/
namespace Go.Tr
open Go.Proofs
theorem allEq_self {α : Type} (f : α → α → Bool) (hf : ∀ x, f x x = true) : ∀ l : List α, allEq f l l = true
  | [] => rfl
  | a :: l => by rw [allEq, hf, allEq_self f hf l]; rfl
theorem sameD_self (d : Dcl) : sameD d d = true := by simp [sameD, sameT_self]
theorem sameC_self (c : Crt) : sameC c c = true := by
  unfold sameC
  rw [allEq_self _ sameD_self, allEq_self _ sameT_self, sameT_self, sameT_self]
  rfl
end Go.Tr
/- cert: no packed certificate begins another; a byte that is changed is seen. -/
namespace Go.Tr
open Go.Proofs
def pk (c : Crt) : List UInt8 := packL c.S c.X (bk c (crl c).length) (rt c (crl c).length)
theorem packB_pk (c : Crt) : packB c = sealB (pk c) := rfl
theorem openC_pk {l : List UInt8} {c : Crt} (h : openC l = some c) : builtB c = true ∧ l = sealB (pk c) := by
  obtain ⟨h1, h2⟩ := openC_ok h
  exact ⟨h1, (sB_inj h2).symm⟩
end Go.Tr
/- The law CertBack. -/
namespace Go.Tr
open Go.Proofs
end Go.Tr
/- The law CertPacks. -/
namespace Go.Tr
open Go.Proofs
end Go.Tr
/- The reference's reader: bytes, numbers, lengths, places. -/
namespace Go.Tr
open Go.Proofs
abbrev rrH (l : List UInt8) (q : Nat) (b : Bool) (N : List Term) (Z D : List Nat) : HP := [.box [.c (.str (sB l)), .c (.int .i64 (q)), .c (.bool b), .own 1, .own 2, .own 3], .row 25 4 48 (tcs N), .row 3 1 8 (rowN Z), .row 3 1 8 (rowN D)]
theorem drop_at2 {l : List UInt8} {q : Nat} {y : UInt8} {r : List UInt8} (h : l.drop q = y :: r) : l[q]? = some y ∧ l.drop (q + 1) = r ∧ q < l.length := by
  have hq : q < l.length := by
    rcases Nat.lt_or_ge q l.length with h1 | h1
    · exact h1
    · rw [List.drop_of_length_le h1] at h
      cases h
  have h2 : l[q]? = some l[q] := List.getElem?_eq_getElem hq
  have h3 := drop_at h2
  rw [h, List.cons.injEq] at h3
  exact ⟨by rw [h2, h3.1], h3.2.symm, hq⟩
def byteF (l : List UInt8) (q : Nat) (b : Bool) : Nat × Nat × Bool := match b, l.drop q with
  | true, _ => (0, q, true)
  | false, [] => (0, q, true)
  | false, y :: _ => (y.toNat, q + 1, false)
theorem byteF_bd (l : List UInt8) (q : Nat) (b : Bool) (hq : q ≤ l.length) : (byteF l q b).1 < 256 ∧ (byteF l q b).2.1 ≤ l.length := by
  unfold byteF
  split
  · exact ⟨(by omega : (0 : Nat) < 256), hq⟩
  · exact ⟨(by omega : (0 : Nat) < 256), hq⟩
  · rename_i y r h
    have := drop_at2 h
    exact ⟨y.toNat_lt, by simp only; omega⟩
theorem cRByte (l : List UInt8) (q : Nat) (b : Bool) (N : List Term) (Z D : List Nat) (hq : q ≤ l.length) (hl : l.length ≤ 1000000) :
    CallSt Tryz.prog 64 [.ptr 0 0] (rrH l q b N Z D) (fun r H' => r = .c (.int .i64 ((byteF l q b).1)) ∧ H' = rrH l (byteF l q b).2.1 (byteF l q b).2.2 N Z D) := by
  have hsz := sB_size l
  cases b with
  | true =>
    refine call_trim (E := env 4) (fn := Tryz.f64) (c := bodyOf Tryz.f64) (env_ok 4) mixed (by kernel_rfl) (by kernel_rfl) (by kernel_rfl) (by kernel_rfl) (by kernel_rfl) (by kernel_rfl) rfl ?_
    conv => whnf
    repeat ((first | refine aI rfl ?_ | refine aI (by decide) ?_ | refine dI (by kernel_rfl) ?_ | refine aI ⟨by omega, by omega⟩ ?_ | refine aI (by omega) ?_ | refine aI (fun _ => ⟨by omega, by omega⟩) ?_ | refine aI (of_decide_eq_true rfl) ?_ | (refine yI ?_ ?_; focus (first | decide | (simp; done) | (simp [tcs]; done))) | (refine nI ?_ ?_; focus (first | decide | (simp; done) | (simp [tcs]; done))) | intro _); conv => whnf)
    all_goals (first | rfl | exact ⟨rfl, rfl⟩ | exact ⟨rfl, rfl, rfl⟩)
  | false =>
    by_cases hql : q = l.length
    · have e : decide ((q : Int) = ((sB l).size : Int)) = true := decide_eq_true (by omega)
      have eF : byteF l q false = (0, q, true) := by unfold byteF; rw [List.drop_of_length_le (by omega)]
      rw [eF]
      refine call_trim (E := env 4) (fn := Tryz.f64) (c := bodyOf Tryz.f64) (env_ok 4) mixed (by kernel_rfl) (by kernel_rfl) (by kernel_rfl) (by kernel_rfl) (by kernel_rfl) (by kernel_rfl) rfl ?_
      conv => whnf
      repeat ((first | refine aI rfl ?_ | refine aI (by decide) ?_ | refine dI (by kernel_rfl) ?_ | refine aI ⟨by omega, by omega⟩ ?_ | refine aI (by omega) ?_ | refine aI (fun _ => ⟨by omega, by omega⟩) ?_ | refine aI (of_decide_eq_true rfl) ?_ | (refine yI ?_ ?_; focus (first | decide | (simp; done) | (simp [tcs]; done))) | (refine nI ?_ ?_; focus (first | decide | (simp; done) | (simp [tcs]; done))) | intro _); conv => whnf)
      rw [e]
      repeat ((first | refine aI rfl ?_ | refine aI (by decide) ?_ | refine dI (by kernel_rfl) ?_ | refine aI ⟨by omega, by omega⟩ ?_ | refine aI (by omega) ?_ | refine aI (fun _ => ⟨by omega, by omega⟩) ?_ | refine aI (of_decide_eq_true rfl) ?_ | (refine yI ?_ ?_; focus (first | decide | (simp; done) | (simp [tcs]; done))) | (refine nI ?_ ?_; focus (first | decide | (simp; done) | (simp [tcs]; done))) | intro _); conv => whnf)
      all_goals (first | rfl | exact ⟨rfl, rfl⟩ | exact ⟨rfl, rfl, rfl⟩)
    · have e : decide ((q : Int) = ((sB l).size : Int)) = false := decide_eq_false (by omega)
      obtain ⟨y, hy⟩ : ∃ y, l[q]? = some y := ⟨_, List.getElem?_eq_getElem (by omega)⟩
      have eF : byteF l q false = (y.toNat, q + 1, false) := by unfold byteF; rw [drop_at hy]
      have hgd : (sB l).data.toList.getD ((q : Int) + 1 - 1).toNat 0 = y := by rw [sB_list, show ((q : Int) + 1 - 1).toNat = q by omega, List.getD_eq_getElem?_getD, hy]; rfl
      have hyl := y.toNat_lt
      have hw : IntKind.i64.wrap (y.toNat : Int) = y.toNat := i64_wrap (by omega)
      rw [eF]
      refine call_trim (E := env 4) (fn := Tryz.f64) (c := bodyOf Tryz.f64) (env_ok 4) mixed (by kernel_rfl) (by kernel_rfl) (by kernel_rfl) (by kernel_rfl) (by kernel_rfl) (by kernel_rfl) rfl ?_
      conv => whnf
      repeat ((first | refine aI rfl ?_ | refine aI (by decide) ?_ | refine dI (by kernel_rfl) ?_ | refine aI ⟨by omega, by omega⟩ ?_ | refine aI (by omega) ?_ | refine aI (fun _ => ⟨by omega, by omega⟩) ?_ | refine aI (of_decide_eq_true rfl) ?_ | (refine yI ?_ ?_; focus (first | decide | (simp; done) | (simp [tcs]; done))) | (refine nI ?_ ?_; focus (first | decide | (simp; done) | (simp [tcs]; done))) | intro _); conv => whnf)
      rw [e]
      repeat ((first | refine aI rfl ?_ | refine aI (by decide) ?_ | refine dI (by kernel_rfl) ?_ | refine aI ⟨by omega, by omega⟩ ?_ | refine aI (by omega) ?_ | refine aI (fun _ => ⟨by omega, by omega⟩) ?_ | refine aI (of_decide_eq_true rfl) ?_ | (refine yI ?_ ?_; focus (first | decide | (simp; done) | (simp [tcs]; done))) | (refine nI ?_ ?_; focus (first | decide | (simp; done) | (simp [tcs]; done))) | intro _); conv => whnf)
      refine ⟨?_, rfl⟩
      rw [hgd, hw]
theorem digs_cons {k : Nat} {r : List UInt8} : (127 < k ∧ ∃ b : UInt8, digs k ++ r = b :: (digs (k / 128) ++ r) ∧ b.toNat = 128 + k % 128) ∨ (k ≤ 127 ∧ ∃ b : UInt8, digs k ++ r = b :: r ∧ b.toNat = k) := by
  by_cases h : 127 < k
  · refine .inl ⟨h, _, by rw [digs_big h, List.cons_append], ?_⟩
    have := u8_toNat (128 + (k : Int) % 128)
    omega
  · refine .inr ⟨by omega, _, by rw [digs_small h, List.singleton_append], ?_⟩
    have := u8_toNat (k : Int)
    omega
def numG (l : List UInt8) : Nat → Nat → Bool → Nat → Nat → Nat × Nat × Bool
  | 0, q, _, _, _ => (0, q, true)
  | f + 1, q, b, p, o => if (byteF l q b).1 < 128 then (o + (byteF l q b).1 % 128 * p, (byteF l q b).2) else numG l f (byteF l q b).2.1 (byteF l q b).2.2 (p * 128) (o + (byteF l q b).1 % 128 * p)
abbrev nmF (l : List UInt8) (q : Nat) (b : Bool) : Nat × Nat × Bool := numG l 4 q b 1 0
theorem numG_bd (l : List UInt8) : ∀ (f q : Nat) (b : Bool) (p o : Nat), q ≤ l.length → o < p → p * 128 ^ f ≤ 268435456 → (numG l f q b p o).1 < 34359738368 ∧ (numG l f q b p o).2.1 ≤ l.length
  | 0, q, b, p, o, hq, _, _ => ⟨by rw [numG]; omega, by rw [numG]; exact hq⟩
  | f + 1, q, b, p, o, hq, ho, hp => by
    obtain ⟨h1, h2⟩ := byteF_bd l q b hq
    have hm : (byteF l q b).1 % 128 * p ≤ 127 * p := Nat.mul_le_mul_right _ (by omega)
    have hp1 : p * 128 * 128 ^ f ≤ 268435456 := by rw [Nat.mul_assoc, Nat.mul_comm 128, ← Nat.pow_succ]; exact hp
    have hp2 : p * 128 * 1 ≤ p * 128 * 128 ^ f := Nat.mul_le_mul_left _ (Nat.pow_pos (by decide))
    rw [numG]
    split
    · exact ⟨by simp only; omega, h2⟩
    · exact numG_bd l f _ _ _ _ h2 (by omega) hp1
theorem numG_ok (l : List UInt8) : ∀ (f q p o z : Nat) (r : List UInt8), 1 ≤ f → z < 128 ^ f → l.drop q = digs z ++ r → ∃ q', numG l f q false p o = (o + z * p, q', false) ∧ l.drop q' = r
  | 0, q, p, o, z, r, hf, hz, h => by omega
  | f + 1, q, p, o, z, r, _, hz, h => by
    rcases digs_cons (k := z) (r := r) with ⟨g1, y, g2, g3⟩ | ⟨g1, y, g2, g3⟩
    · have hd := drop_at2 (h.trans g2)
      have eF : byteF l q false = (y.toNat, q + 1, false) := by unfold byteF; rw [h.trans g2]
      obtain ⟨q', e1, e2⟩ := numG_ok l f (q + 1) (p * 128) (o + y.toNat % 128 * p) (z / 128) r (by rcases Nat.eq_zero_or_pos f with h0 | h0; (subst h0; simp at hz; omega); exact h0) (by rw [Nat.pow_succ] at hz; omega) hd.2.1
      refine ⟨q', ?_, e2⟩
      rw [numG, eF]
      simp only
      rw [if_neg (by omega), e1]
      have e : y.toNat % 128 = z % 128 := by omega
      have : z * p = z % 128 * p + z / 128 * (p * 128) := by
        have hz : z = z % 128 + z / 128 * 128 := by omega
        calc z * p = (z % 128 + z / 128 * 128) * p := by rw [← hz]
          _ = z % 128 * p + z / 128 * (p * 128) := by rw [Nat.add_mul, Nat.mul_comm p 128, Nat.mul_assoc]
      rw [e, Nat.add_assoc, ← this]
    · have hd := drop_at2 (h.trans g2)
      have eF : byteF l q false = (y.toNat, q + 1, false) := by unfold byteF; rw [h.trans g2]
      refine ⟨q + 1, ?_, hd.2.1⟩
      rw [numG, eF]
      simp only
      rw [if_pos (by omega)]
      have e : y.toNat % 128 = z := by omega
      rw [e]
theorem nmF_bd (l : List UInt8) (q : Nat) (b : Bool) (hq : q ≤ l.length) : (nmF l q b).1 < 34359738368 ∧ (nmF l q b).2.1 ≤ l.length := numG_bd l 4 q b 1 0 hq (by omega) (by decide)
theorem nmF_ok {l : List UInt8} {q k : Nat} {r : List UInt8} (hk : k < 268435456) (h : l.drop q = digs k ++ r) : ∃ q', nmF l q false = (k, q', false) ∧ l.drop q' = r := by
  obtain ⟨q', h1, h2⟩ := numG_ok l 4 q 1 0 k r (by decide) (by rw [show 128 ^ 4 = 268435456 from rfl]; exact hk) h
  exact ⟨q', by rw [nmF, h1]; simp, h2⟩
theorem cRRNum (l : List UInt8) (q : Nat) (b : Bool) (N : List Term) (Z D : List Nat) (hq : q ≤ l.length) (hl : l.length ≤ 1000000) :
    CallSt Tryz.prog 40 [.ptr 0 0] (rrH l q b N Z D) (fun r H' => r = .c (.int .i64 ((nmF l q b).1)) ∧ H' = rrH l (nmF l q b).2.1 (nmF l q b).2.2 N Z D) := by
  unfold nmF
  generalize hR : numG l 4 q b 1 0 = R
  refine call_trim (E := env 4) (fn := Tryz.f40) (c := bodyOf Tryz.f40) (env_ok 4) mixed (by kernel_rfl) (by kernel_rfl) (by kernel_rfl) (by kernel_rfl) (by kernel_rfl) (by kernel_rfl) rfl ?_
  conv => whnf
  repeat ((first | refine aI rfl ?_ | refine aI (by decide) ?_ | refine dI (by kernel_rfl) ?_ | refine aI ⟨by omega, by omega⟩ ?_ | refine aI (by omega) ?_ | refine aI (fun _ => ⟨by omega, by omega⟩) ?_ | refine aI (of_decide_eq_true rfl) ?_ | (refine yI ?_ ?_; focus (first | decide | (simp; done) | (simp [tcs]; done))) | (refine nI ?_ ?_; focus (first | decide | (simp; done) | (simp [tcs]; done))) | intro _); conv => whnf)
  refine loop_intro (fun m tm H => ∃ (j q' o p : Nat) (b' : Bool), 4 = m + j ∧ q' ≤ l.length ∧ p = 128 ^ j ∧ o < p ∧ tm = [(5, .c (.int .i64 (j))), (3, .c (.int .i64 (o))), (4, .c (.int .i64 (p))), (0, .ptr 0 0)] ∧ H = rrH l q' b' N Z D ∧ numG l m q' b' p o = R)
    4 _ _ ⟨0, q, 0, 1, b, rfl, hq, rfl, by omega, rfl, rfl, hR⟩ (Wk.sl [0, 1, 2, 3] rfl ⟨rfl, rfl, rfl, rfl, trivial⟩ ⟨rfl, rfl, rfl, rfl, trivial⟩ rfl) ?_
  rintro m tm H ⟨j, q', o, p, b', hj, hq', hp, ho, rfl, rfl, hT⟩
  have hpb : p ≤ 268435456 := by
    have : 128 ^ j ≤ 128 ^ 4 := Nat.pow_le_pow_right (by decide) (by omega)
    rw [hp]
    exact this
  conv => whnf
  refine ⟨fun hc => ?_, fun hc => ?_⟩
  · replace hc : (j : Int) < 4 := of_decide_eq_true hc
    have hb := cRByte l q' b' N Z D hq' hl
    obtain ⟨hx, hq2⟩ := byteF_bd l q' b' hq'
    obtain ⟨f, rfl⟩ : ∃ f, m = f + 1 := ⟨m - 1, by omega⟩
    rw [numG] at hT
    generalize byteF l q' b' = xx at *
    obtain ⟨x, q2, b2⟩ := xx
    simp only at hx hq2 hb hT
    have e1 : ((x : Int)).tmod 128 = ((x % 128 : Nat) : Int) := by rw [Int.tmod_eq_emod_of_nonneg (by omega)]; omega
    have e2 : ((x % 128 : Nat) : Int) * (p : Int) = ((x % 128 * p : Nat) : Int) := by rw [Int.natCast_mul]
    have hm1 : x % 128 * p ≤ 127 * p := Nat.mul_le_mul_right _ (by omega)
    have hp2 : 128 ^ (j + 1) = p * 128 := by rw [hp, Nat.pow_succ]
    generalize hqq : x % 128 * p = qq at *
    conv => whnf
    repeat ((first | refine aI rfl ?_ | refine aI (by decide) ?_ | refine dI (by kernel_rfl) ?_ | refine aI ⟨by omega, by omega⟩ ?_ | refine aI (by omega) ?_ | refine aI (fun _ => ⟨by omega, by omega⟩) ?_ | refine aI (of_decide_eq_true rfl) ?_ | (refine yI ?_ ?_; focus (first | decide | (simp; done) | (simp [tcs]; done))) | (refine nI ?_ ?_; focus (first | decide | (simp; done) | (simp [tcs]; done))) | intro _); conv => whnf)
    try (refine dI (by kernel_rfl) ?_; conv => whnf)
    first | refine CallSt.use hb [0, 1, 2, 3] ⟨rfl, rfl, rfl, rfl, trivial⟩ (by decide) rfl ?_ | refine CallPt.useS hb [0, 1, 2, 3] ⟨rfl, rfl, rfl, rfl, trivial⟩ (by decide) rfl ?_
    rintro _ _ ⟨rfl, rfl⟩ _
    conv => whnf
    repeat ((first | refine aI rfl ?_ | refine aI (by decide) ?_ | refine dI (by kernel_rfl) ?_ | refine aI ⟨by omega, by omega⟩ ?_ | refine aI (by omega) ?_ | refine aI (fun _ => ⟨by omega, by omega⟩) ?_ | refine aI (of_decide_eq_true rfl) ?_ | (refine yI ?_ ?_; focus (first | decide | (simp; done) | (simp [tcs]; done))) | (refine nI ?_ ?_; focus (first | decide | (simp; done) | (simp [tcs]; done))) | intro _); conv => whnf)
    refine ⟨show (128 : Int) ≠ 0 by decide, ?_⟩
    conv => whnf
    rw [e1]
    refine ⟨by rw [e2]; exact ⟨by omega, by omega⟩, ?_⟩
    conv => whnf
    rw [e2]
    refine ⟨⟨by omega, by omega⟩, ?_⟩
    conv => whnf
    repeat ((first | refine aI rfl ?_ | refine aI (by decide) ?_ | refine dI (by kernel_rfl) ?_ | refine aI ⟨by omega, by omega⟩ ?_ | refine aI (by omega) ?_ | refine aI (fun _ => ⟨by omega, by omega⟩) ?_ | refine aI (of_decide_eq_true rfl) ?_ | (refine yI ?_ ?_; focus (first | decide | (simp; done) | (simp [tcs]; done))) | (refine nI ?_ ?_; focus (first | decide | (simp; done) | (simp [tcs]; done))) | intro _); conv => whnf)
    refine ⟨fun hx2 => ?_, fun hx2 => ?_⟩
    · replace hx2 : (x : Int) < 128 := of_decide_eq_true hx2
      rw [if_pos (by omega)] at hT
      rw [← hT]
      conv => whnf
      repeat ((first | refine aI rfl ?_ | refine aI (by decide) ?_ | refine dI (by kernel_rfl) ?_ | refine aI ⟨by omega, by omega⟩ ?_ | refine aI (by omega) ?_ | refine aI (fun _ => ⟨by omega, by omega⟩) ?_ | refine aI (of_decide_eq_true rfl) ?_ | (refine yI ?_ ?_; focus (first | decide | (simp; done) | (simp [tcs]; done))) | (refine nI ?_ ?_; focus (first | decide | (simp; done) | (simp [tcs]; done))) | intro _); conv => whnf)
      all_goals (first | rfl | exact ⟨rfl, rfl⟩ | exact ⟨rfl, rfl, rfl⟩)
    · replace hx2 : ¬ (x : Int) < 128 := of_decide_eq_false hx2
      rw [if_neg (by omega)] at hT
      conv => whnf
      refine ⟨⟨by omega, by omega⟩, ?_⟩
      conv => whnf
      repeat ((first | refine aI rfl ?_ | refine aI (by decide) ?_ | refine dI (by kernel_rfl) ?_ | refine aI ⟨by omega, by omega⟩ ?_ | refine aI (by omega) ?_ | refine aI (fun _ => ⟨by omega, by omega⟩) ?_ | refine aI (of_decide_eq_true rfl) ?_ | (refine yI ?_ ?_; focus (first | decide | (simp; done) | (simp [tcs]; done))) | (refine nI ?_ ?_; focus (first | decide | (simp; done) | (simp [tcs]; done))) | intro _); conv => whnf)
      refine ⟨f, _, _, by omega, ⟨j + 1, q2, o + qq, p * 128, b2, by omega, hq2, hp2.symm, by omega, rfl, rfl, hT⟩, Wk.sl [0, 1, 2, 3] rfl ⟨rfl, rfl, rfl, rfl, trivial⟩ ⟨rfl, rfl, rfl, rfl, trivial⟩ rfl⟩
  · replace hc : ¬ (j : Int) < 4 := of_decide_eq_false hc
    obtain rfl : m = 0 := by omega
    rw [numG] at hT
    rw [← hT]
    conv => whnf
    repeat ((first | refine aI rfl ?_ | refine aI (by decide) ?_ | refine dI (by kernel_rfl) ?_ | refine aI ⟨by omega, by omega⟩ ?_ | refine aI (by omega) ?_ | refine aI (fun _ => ⟨by omega, by omega⟩) ?_ | refine aI (of_decide_eq_true rfl) ?_ | (refine yI ?_ ?_; focus (first | decide | (simp; done) | (simp [tcs]; done))) | (refine nI ?_ ?_; focus (first | decide | (simp; done) | (simp [tcs]; done))) | intro _); conv => whnf)
    all_goals (first | rfl | exact ⟨rfl, rfl⟩ | exact ⟨rfl, rfl, rfl⟩)
theorem cRRSize (l : List UInt8) (q : Nat) (b : Bool) (N : List Term) (Z D : List Nat) (hq : q ≤ l.length) (hl : l.length ≤ 1000000) :
    CallSt Tryz.prog 37 [.ptr 0 0] (rrH l q b N Z D) (fun r H' => ∃ (x q' : Nat) (b' : Bool), r = .c (.int .i64 (x)) ∧ H' = rrH l q' b' N Z D ∧ x + q' ≤ l.length ∧
      (b = false → ∀ k r, k < 268435456 → l.drop q = digs k ++ r → k ≤ r.length → x = k ∧ b' = false ∧ l.drop q' = r)) := by
  have hn := cRRNum l q b N Z D hq hl
  have hsz := sB_size l
  obtain ⟨hx, hq2⟩ := nmF_bd l q b hq
  have hT : b = false → ∀ k r, k < 268435456 → l.drop q = digs k ++ r → (nmF l q b).1 = k ∧ (nmF l q b).2.2 = false ∧ l.drop (nmF l q b).2.1 = r := fun hb k r hk h => by
    obtain ⟨q', h1, h2⟩ := nmF_ok hk h
    rw [hb, h1]
    exact ⟨rfl, rfl, h2⟩
  generalize nmF l q b = xx at *
  obtain ⟨x, q2, b2⟩ := xx
  simp only at hx hq2 hT hn
  refine call_trim (E := env 4) (fn := Tryz.f37) (c := bodyOf Tryz.f37) (env_ok 4) mixed (by kernel_rfl) (by kernel_rfl) (by kernel_rfl) (by kernel_rfl) (by kernel_rfl) (by kernel_rfl) rfl ?_
  conv => whnf
  repeat ((first | refine aI rfl ?_ | refine aI (by decide) ?_ | refine dI (by kernel_rfl) ?_ | refine aI ⟨by omega, by omega⟩ ?_ | refine aI (by omega) ?_ | refine aI (fun _ => ⟨by omega, by omega⟩) ?_ | refine aI (of_decide_eq_true rfl) ?_ | (refine yI ?_ ?_; focus (first | decide | (simp; done) | (simp [tcs]; done))) | (refine nI ?_ ?_; focus (first | decide | (simp; done) | (simp [tcs]; done))) | intro _); conv => whnf)
  try (refine dI (by kernel_rfl) ?_; conv => whnf)
  first | refine CallSt.use hn [0, 1, 2, 3] ⟨rfl, rfl, rfl, rfl, trivial⟩ (by decide) rfl ?_ | refine CallPt.useS hn [0, 1, 2, 3] ⟨rfl, rfl, rfl, rfl, trivial⟩ (by decide) rfl ?_
  rintro _ _ ⟨rfl, rfl⟩ _
  conv => whnf
  repeat ((first | refine aI rfl ?_ | refine aI (by decide) ?_ | refine dI (by kernel_rfl) ?_ | refine aI ⟨by omega, by omega⟩ ?_ | refine aI (by omega) ?_ | refine aI (fun _ => ⟨by omega, by omega⟩) ?_ | refine aI (of_decide_eq_true rfl) ?_ | (refine yI ?_ ?_; focus (first | decide | (simp; done) | (simp [tcs]; done))) | (refine nI ?_ ?_; focus (first | decide | (simp; done) | (simp [tcs]; done))) | intro _); conv => whnf)
  by_cases hc : ((sB l).size : Int) - (q2 : Int) < (x : Int)
  · rw [decide_eq_true hc]
    repeat ((first | refine aI rfl ?_ | refine aI (by decide) ?_ | refine dI (by kernel_rfl) ?_ | refine aI ⟨by omega, by omega⟩ ?_ | refine aI (by omega) ?_ | refine aI (fun _ => ⟨by omega, by omega⟩) ?_ | refine aI (of_decide_eq_true rfl) ?_ | (refine yI ?_ ?_; focus (first | decide | (simp; done) | (simp [tcs]; done))) | (refine nI ?_ ?_; focus (first | decide | (simp; done) | (simp [tcs]; done))) | intro _); conv => whnf)
    refine ⟨0, q2, true, rfl, rfl, by omega, fun hb k r hk h hkr => ?_⟩
    obtain ⟨h1, h2, h3⟩ := hT hb k r hk h
    have := congrArg List.length h3
    rw [List.length_drop] at this
    omega
  · rw [decide_eq_false hc]
    repeat ((first | refine aI rfl ?_ | refine aI (by decide) ?_ | refine dI (by kernel_rfl) ?_ | refine aI ⟨by omega, by omega⟩ ?_ | refine aI (by omega) ?_ | refine aI (fun _ => ⟨by omega, by omega⟩) ?_ | refine aI (of_decide_eq_true rfl) ?_ | (refine yI ?_ ?_; focus (first | decide | (simp; done) | (simp [tcs]; done))) | (refine nI ?_ ?_; focus (first | decide | (simp; done) | (simp [tcs]; done))) | intro _); conv => whnf)
    refine ⟨x, q2, b2, rfl, rfl, by omega, fun hb k r hk h hkr => hT hb k r hk h⟩
theorem cRRPlace (l : List UInt8) (q : Nat) (b : Bool) (N : List Term) (Z D : List Nat) (hq : q ≤ l.length) (hl : l.length ≤ 1000000) :
    CallSt Tryz.prog 39 [.ptr 0 0] (rrH l q b N Z D) (fun r H' => ∃ (t : Term) (q' : Nat) (b' : Bool), r = tv t ∧ H' = rrH l q' b' N Z D ∧ q' ≤ l.length ∧
      (b = false → ∀ k u r, k < 268435456 → l.drop q = digs k ++ r → N[k]? = some u → t = u ∧ b' = false ∧ l.drop q' = r)) := by
  have hn := cRRNum l q b N Z D hq hl
  have hnl := len_tcs N
  obtain ⟨hx, hq2⟩ := nmF_bd l q b hq
  have hT : b = false → ∀ k r, k < 268435456 → l.drop q = digs k ++ r → (nmF l q b).1 = k ∧ (nmF l q b).2.2 = false ∧ l.drop (nmF l q b).2.1 = r := fun hb k r hk h => by
    obtain ⟨q', h1, h2⟩ := nmF_ok hk h
    rw [hb, h1]
    exact ⟨rfl, rfl, h2⟩
  generalize nmF l q b = xx at *
  obtain ⟨x, q2, b2⟩ := xx
  simp only at hx hq2 hT hn
  refine call_pure (E := env 4) (fn := Tryz.f39) (c := bodyOf Tryz.f39) (env_ok 4) mixed (by kernel_rfl) (by kernel_rfl) (by kernel_rfl) (by kernel_rfl) (by kernel_rfl) (by kernel_rfl) rfl ?_
  conv => whnf
  repeat ((first | refine aI rfl ?_ | refine aI (by decide) ?_ | refine dI (by kernel_rfl) ?_ | refine aI ⟨by omega, by omega⟩ ?_ | refine aI (by omega) ?_ | refine aI (fun _ => ⟨by omega, by omega⟩) ?_ | refine aI (of_decide_eq_true rfl) ?_ | (refine yI ?_ ?_; focus (first | decide | (simp; done) | (simp [tcs]; done))) | (refine nI ?_ ?_; focus (first | decide | (simp; done) | (simp [tcs]; done))) | intro _); conv => whnf)
  try (refine dI (by kernel_rfl) ?_; conv => whnf)
  first | refine CallSt.use hn [0, 1, 2, 3] ⟨rfl, rfl, rfl, rfl, trivial⟩ (by decide) rfl ?_ | refine CallPt.useS hn [0, 1, 2, 3] ⟨rfl, rfl, rfl, rfl, trivial⟩ (by decide) rfl ?_
  rintro _ _ ⟨rfl, rfl⟩ _
  conv => whnf
  repeat ((first | refine aI rfl ?_ | refine aI (by decide) ?_ | refine aI ⟨by omega, by omega⟩ ?_ | refine aI (by omega) ?_ | refine aI (fun _ => ⟨by omega, by omega⟩) ?_ | refine aI (of_decide_eq_true rfl) ?_ | (refine yI ?_ ?_; focus (first | decide | (simp; done) | (simp [tcs]; done))) | (refine nI ?_ ?_; focus (first | decide | (simp; done) | (simp [tcs]; done)))); conv => whnf)
  intro hgl
  conv => whnf
  repeat ((first | refine aI rfl ?_ | refine aI (by decide) ?_ | refine aI ⟨by omega, by omega⟩ ?_ | refine aI (by omega) ?_ | refine aI (fun _ => ⟨by omega, by omega⟩) ?_ | refine aI (of_decide_eq_true rfl) ?_ | (refine yI ?_ ?_; focus (first | decide | (simp; done) | (simp [tcs]; done))) | (refine nI ?_ ?_; focus (first | decide | (simp; done) | (simp [tcs]; done)))); conv => whnf)
  refine ⟨fun hc => ?_, fun hc => ?_⟩
  · replace hc : ((tcs N).length : Int) ≤ x := of_decide_eq_true hc
    conv => whnf
    repeat ((first | refine aI rfl ?_ | refine aI (by decide) ?_ | refine dI (by kernel_rfl) ?_ | refine aI ⟨by omega, by omega⟩ ?_ | refine aI (by omega) ?_ | refine aI (fun _ => ⟨by omega, by omega⟩) ?_ | refine aI (of_decide_eq_true rfl) ?_ | (refine yI ?_ ?_; focus (first | decide | (simp; done) | (simp [tcs]; done))) | (refine nI ?_ ?_; focus (first | decide | (simp; done) | (simp [tcs]; done))) | intro _); conv => whnf)
    refine ⟨.mk 0 0 0 [], q2, true, rfl, rfl, hq2, fun hb k u r hk h hu => ?_⟩
    obtain ⟨h1, h2, h3⟩ := hT hb k r hk h
    have := (List.getElem?_eq_some_iff.1 hu).1
    omega
  · replace hc : ¬ ((tcs N).length : Int) ≤ x := of_decide_eq_false hc
    obtain ⟨u, hu⟩ : ∃ u, N[x]? = some u := ⟨_, List.getElem?_eq_getElem (by omega)⟩
    have huc := tcs_at N x u hu
    obtain ⟨k', l', n', us⟩ := u
    conv => whnf
    repeat ((first | refine aI rfl ?_ | refine aI (by decide) ?_ | refine dI (by kernel_rfl) ?_ | refine aI ⟨by omega, by omega⟩ ?_ | refine aI (by omega) ?_ | refine aI (fun _ => ⟨by omega, by omega⟩) ?_ | refine aI (of_decide_eq_true rfl) ?_ | (refine yI ?_ ?_; focus (first | decide | (simp; done) | (simp [tcs]; done))) | (refine nI ?_ ?_; focus (first | decide | (simp; done) | (simp [tcs]; done))) | intro _); conv => whnf)
    refine ⟨tc (.mk k' l' n' us), by rw [Int.toNat_natCast]; exact huc, show 0 + 4 ≤ 4 by decide, ?_⟩
    conv => whnf
    repeat ((first | refine aI rfl ?_ | refine aI (by decide) ?_ | refine dI (by kernel_rfl) ?_ | refine aI ⟨by omega, by omega⟩ ?_ | refine aI (by omega) ?_ | refine aI (fun _ => ⟨by omega, by omega⟩) ?_ | refine aI (of_decide_eq_true rfl) ?_ | (refine yI ?_ ?_; focus (first | decide | (simp; done) | (simp [tcs]; done))) | (refine nI ?_ ?_; focus (first | decide | (simp; done) | (simp [tcs]; done))) | intro _); conv => whnf)
    refine ⟨.mk k' l' n' us, q2, b2, rfl, rfl, hq2, fun hb k u r hk h hu2 => ?_⟩
    obtain ⟨h1, h2, h3⟩ := hT hb k r hk h
    rw [← h1, hu] at hu2
    injection hu2 with hu2
    exact ⟨hu2, h2, h3⟩
end Go.Tr
/- The reference's reader: node. -/
namespace Go.Tr
open Go.Proofs
def dpN (t : Term) : Nat := (dpT t).toNat
theorem mx_max (a b : Int) : mx a b = max a b := by
  unfold mx
  split <;> omega
theorem dpL_nn : ∀ A : List Term, 0 ≤ dpL A
  | [] => by simp [dpL]
  | a :: A => by
    have := dpL_nn A
    simp only [dpL, mx_max]
    omega
theorem dpL_snoc : ∀ (A : List Term) (u : Term), dpL (A ++ [u]) = max (dpL A) (dpT u)
  | [], u => by
    have := dpT_pos u
    simp only [List.nil_append, dpL, mx_max]
    omega
  | a :: A, u => by
    have := dpL_snoc A u
    simp only [List.cons_append, dpL, this, mx_max]
    omega
theorem dpL_app : ∀ (A C : List Term), dpL A ≤ dpL (A ++ C)
  | [], C => by
    have := dpL_nn C
    simp only [List.nil_append, dpL]
    omega
  | a :: A, C => by
    have := dpL_app A C
    simp only [List.cons_append, dpL, mx_max]
    omega
structure NdV (B : List Term) (i : Nat) (t : Term) (r l : List UInt8) (q : Nat) (b : Bool) (N : List Term) (Z D : List Nat) : Prop where
  fb : b = false
  dr : l.drop q = nodeB B i t ++ r
  fn : N = B.take i
  fz : Z = (B.take i).map szN
  fd : D = (B.take i).map dpN
  fg : Good B
  fa : B[i]? = some t
  sz : ∀ t ∈ B, szT t ≤ 600
  dp : ∀ t ∈ B, dpT t ≤ 40
  bl : B.length < 1000000
set_option maxHeartbeats 8000000 in
theorem cRRNode (V : Prop) (B : List Term) (i : Nat) (t : Term) (r l : List UInt8) (q : Nat) (b : Bool) (N : List Term) (Z D : List Nat) (hq : q ≤ l.length) (hl : l.length ≤ 1000000)
    (hNZ : Z.length = N.length) (hND : D.length = N.length) (hZ : ∀ x ∈ Z, x ≤ 600) (hD : ∀ x ∈ D, x ≤ 40) (hNl : N.length ≤ 400000) (hV : V → NdV B i t r l q b N Z D) :
    CallSt Tryz.prog 38 [.ptr 0 0] (rrH l q b N Z D) (fun rr H' => rr = .tup [] ∧
      ((∃ q', q' ≤ l.length ∧ ¬ V ∧ H' = rrH l q' true N Z D) ∨
       (∃ (u : Term) (z d q' : Nat) (b' : Bool), q' ≤ l.length ∧ z ≤ 600 ∧ d ≤ 40 ∧ (V → u = t ∧ z = szN t ∧ d = dpN t ∧ b' = false ∧ l.drop q' = r) ∧
        H' = [.box [.c (.str (sB l)), .c (.int .i64 (q')), .c (.bool b'), .own 4, .own 5, .own 6], .dead, .dead, .dead, .row 25 4 48 (tcs (N ++ [u])), .row 3 1 8 (rowN (Z ++ [z])), .row 3 1 8 (rowN (D ++ [d]))]))) := by
  have hb0 := cRByte l q b N Z D hq hl
  obtain ⟨hx, hq1⟩ := byteF_bd l q b hq
  have hVb : V → (byteF l q b).1 = (u8 (t.k + 8 * t.l)).toNat ∧ (byteF l q b).2.2 = false ∧ l.drop (byteF l q b).2.1 = (if t.k = 4 then digs t.n.toNat else []) ++ (lstB (fun k => digs (i - k - 1)) (kd B t) ++ r) := fun hv => by
    have h := hV hv
    have h1 := h.dr
    by_cases hk : t.k = 4
    · rw [nodeB_4 hk, List.cons_append] at h1
      have h2 := drop_at2 h1
      rw [if_pos hk, h.fb]
      unfold byteF
      rw [h1]
      simp only
      exact ⟨trivial, trivial, by rw [h2.2.1, List.append_assoc]⟩
    · rw [nodeB_no hk, List.cons_append] at h1
      have h2 := drop_at2 h1
      rw [if_neg hk, h.fb]
      unfold byteF
      rw [h1]
      simp only
      exact ⟨trivial, trivial, by rw [h2.2.1]; rfl⟩
  generalize byteF l q b = xx at *
  obtain ⟨x, q1, b1⟩ := xx
  simp only at hx hq1 hVb hb0
  have hVk : V → x % 8 = t.k.toNat ∧ x / 8 = t.l.toNat ∧ 0 ≤ t.k ∧ 0 ≤ t.l ∧ 0 ≤ t.n ∧ t.n ≤ 9999 ∧ (t.k ≠ 4 → t.n = 0) := fun hv => by
    have h := hV hv
    have hw := h.fg.wf t (List.mem_of_getElem? h.fa)
    have hn := wf_node hw
    obtain ⟨e1, e2⟩ := u8_node (k := t.k) (l := t.l) ⟨by omega, by omega, by omega, by omega⟩
    have := (hVb hv).1
    rw [← this] at e1 e2
    exact ⟨e1, e2, by omega, by omega, by omega, by omega, wf_n0 hw⟩
  have htn := len_tcs N
  have hzn := rowN_len Z
  have hdn := rowN_len D
  have hVs : V → t.ts.length ≤ 600 := fun hv => by
    have h := hV hv
    have := h.sz t (List.mem_of_getElem? h.fa)
    have h2 := szL_len t.ts
    have e : szT t = 1 + szL t.ts := by cases t; rw [szT]; rfl
    omega
  refine call_wk (E := env 4) (fn := Tryz.f38) (c := bodyOf Tryz.f38) (env_ok 4) mixed (by kernel_rfl) (by kernel_rfl) (by kernel_rfl) (by kernel_rfl) (by kernel_rfl) (by kernel_rfl) rfl false ?_
  conv => whnf
  repeat ((first | refine aI rfl ?_ | refine aI (by decide) ?_ | refine dI (by kernel_rfl) ?_ | refine aI ⟨by omega, by omega⟩ ?_ | refine aI (by omega) ?_ | refine aI (fun _ => ⟨by omega, by omega⟩) ?_ | refine aI (of_decide_eq_true rfl) ?_ | (refine yI ?_ ?_; focus (first | decide | (simp; done) | (simp [tcs]; done))) | (refine nI ?_ ?_; focus (first | decide | (simp; done) | (simp [tcs]; done))) | intro _); conv => whnf)
  try (refine dI (by kernel_rfl) ?_; conv => whnf)
  first | refine CallSt.use hb0 [0, 1, 2, 3] ⟨rfl, rfl, rfl, rfl, trivial⟩ (by decide) rfl ?_ | refine CallPt.useS hb0 [0, 1, 2, 3] ⟨rfl, rfl, rfl, rfl, trivial⟩ (by decide) rfl ?_
  rintro _ _ ⟨rfl, rfl⟩ _
  conv => whnf
  have e1 : ((x : Nat) : Int).tmod 8 = ((x % 8 : Nat) : Int) := by rw [Int.tmod_eq_emod_of_nonneg (by omega)]; omega
  have e2 : ((x : Nat) : Int).tdiv 8 = ((x / 8 : Nat) : Int) := by rw [Int.tdiv_eq_ediv_of_nonneg (by omega)]; omega
  repeat ((first | refine aI rfl ?_ | refine aI (by decide) ?_ | refine dI (by kernel_rfl) ?_ | refine aI ⟨by omega, by omega⟩ ?_ | refine aI (by omega) ?_ | refine aI (fun _ => ⟨by omega, by omega⟩) ?_ | refine aI (of_decide_eq_true rfl) ?_ | (refine yI ?_ ?_; focus (first | decide | (simp; done) | (simp [tcs]; done))) | (refine nI ?_ ?_; focus (first | decide | (simp; done) | (simp [tcs]; done))) | intro _); conv => whnf)
  refine ⟨show (8 : Int) ≠ 0 by decide, ?_⟩
  conv => whnf
  rw [e1]
  repeat ((first | refine aI rfl ?_ | refine aI (by decide) ?_ | refine dI (by kernel_rfl) ?_ | refine aI ⟨by omega, by omega⟩ ?_ | refine aI (by omega) ?_ | refine aI (fun _ => ⟨by omega, by omega⟩) ?_ | refine aI (of_decide_eq_true rfl) ?_ | (refine yI ?_ ?_; focus (first | decide | (simp; done) | (simp [tcs]; done))) | (refine nI ?_ ?_; focus (first | decide | (simp; done) | (simp [tcs]; done))) | intro _); conv => whnf)
  refine ⟨by rw [e2]; exact ⟨by omega, by omega, by omega⟩, ?_⟩
  conv => whnf
  rw [e2]
  generalize hkk : x % 8 = kk at *
  generalize hhh : x / 8 = hh at *
  repeat ((first | refine aI rfl ?_ | refine aI (by decide) ?_ | refine dI (by kernel_rfl) ?_ | refine aI ⟨by omega, by omega⟩ ?_ | refine aI (by omega) ?_ | refine aI (fun _ => ⟨by omega, by omega⟩) ?_ | refine aI (of_decide_eq_true rfl) ?_ | (refine yI ?_ ?_; focus (first | decide | (simp; done) | (simp [tcs]; done))) | (refine nI ?_ ?_; focus (first | decide | (simp; done) | (simp [tcs]; done))) | intro _); conv => whnf)
  refine ⟨fun hk4 => ?_, fun hk4 => ?_⟩
  · replace hk4 : kk = 4 := by have := of_decide_eq_true hk4; omega
    have hnm := cRRNum l q1 b1 N Z D hq1 hl
    obtain ⟨hx2, hq2⟩ := nmF_bd l q1 b1 hq1
    have hV2 : V → (nmF l q1 b1).1 = t.n.toNat ∧ (nmF l q1 b1).2.2 = false ∧ l.drop (nmF l q1 b1).2.1 = lstB (fun k => digs (i - k - 1)) (kd B t) ++ r := fun hv => by
      obtain ⟨h1, h2, h3⟩ := hVb hv
      have h4 := hVk hv
      rw [if_pos (by omega)] at h3
      obtain ⟨q', g1, g2⟩ := nmF_ok (by omega) h3
      rw [h2, g1]
      exact ⟨rfl, rfl, g2⟩
    generalize nmF l q1 b1 = yy at *
    obtain ⟨n, q2, b2⟩ := yy
    simp only at hx2 hq2 hV2 hnm
    conv => whnf
    repeat ((first | refine aI rfl ?_ | refine aI (by decide) ?_ | refine dI (by kernel_rfl) ?_ | refine aI ⟨by omega, by omega⟩ ?_ | refine aI (by omega) ?_ | refine aI (fun _ => ⟨by omega, by omega⟩) ?_ | refine aI (of_decide_eq_true rfl) ?_ | (refine yI ?_ ?_; focus (first | decide | (simp; done) | (simp [tcs]; done))) | (refine nI ?_ ?_; focus (first | decide | (simp; done) | (simp [tcs]; done))) | intro _); conv => whnf)
    try (refine dI (by kernel_rfl) ?_; conv => whnf)
    first | refine CallSt.use hnm [0, 1, 2, 3] ⟨rfl, rfl, rfl, rfl, trivial⟩ (by decide) rfl ?_ | refine CallPt.useS hnm [0, 1, 2, 3] ⟨rfl, rfl, rfl, rfl, trivial⟩ (by decide) rfl ?_
    rintro _ _ ⟨rfl, rfl⟩ _
    conv => whnf
    have hVl := fun hv => (hV2 hv).2
    have hVn : V → ((n : Nat) : Int) = t.n := fun hv => by have := (hV2 hv).1; have := hVk hv; omega
    have hVh := hVk
    clear hVk
    have hsz := cRRSize l q2 b2 N Z D (by omega) hl
    repeat ((first | refine aI rfl ?_ | refine aI (by decide) ?_ | refine dI (by kernel_rfl) ?_ | refine aI ⟨by omega, by omega⟩ ?_ | refine aI (by omega) ?_ | refine aI (fun _ => ⟨by omega, by omega⟩) ?_ | refine aI (of_decide_eq_true rfl) ?_ | (refine yI ?_ ?_; focus (first | decide | (simp; done) | (simp [tcs]; done))) | (refine nI ?_ ?_; focus (first | decide | (simp; done) | (simp [tcs]; done))) | intro _); conv => whnf)
    try (refine dI (by kernel_rfl) ?_; conv => whnf)
    first | refine CallSt.use hsz [0, 1, 2, 3] ⟨rfl, rfl, rfl, rfl, trivial⟩ (by decide) rfl ?_ | refine CallPt.useS hsz [0, 1, 2, 3] ⟨rfl, rfl, rfl, rfl, trivial⟩ (by decide) rfl ?_
    rintro _ _ ⟨c, q3, b3, rfl, rfl, hc3, hT3⟩ _
    conv => whnf
    have hV3 : V → b3 = false ∧ c = t.ts.length ∧ l.drop q3 = (kd B t).flatMap (fun k => digs (i - k - 1)) ++ r := fun hv => by
      obtain ⟨v1, v2⟩ := hVl hv
      have hts := hVs hv
      have hfl := flat_ge (fun k => digs (i - k - 1)) (kd B t) fun x _ => digs_pos _
      have hkl : (kd B t).length = t.ts.length := by simp [kd]
      unfold lstB at v2
      rw [List.append_assoc] at v2
      obtain ⟨h1, h2, h3⟩ := hT3 v1 _ _ (by omega) v2 (by rw [List.length_append]; omega)
      exact ⟨h2, by omega, h3⟩
    repeat ((first | refine aI rfl ?_ | refine aI (by decide) ?_ | refine dI (by kernel_rfl) ?_ | refine aI ⟨by omega, by omega⟩ ?_ | refine aI (by omega) ?_ | refine aI (fun _ => ⟨by omega, by omega⟩) ?_ | refine aI (of_decide_eq_true rfl) ?_ | (refine yI ?_ ?_; focus (first | decide | (simp; done) | (simp [tcs]; done))) | (refine nI ?_ ?_; focus (first | decide | (simp; done) | (simp [tcs]; done))) | intro _); conv => whnf)
    refine loop_intro (fun m tm H => ∃ (q' : Nat) (b' : Bool) (acc : List Term) (z d : Nat), q' ≤ l.length ∧ acc.length + m = c ∧ 1 ≤ z ∧ z ≤ 600 ∧ 1 ≤ d ∧ d ≤ 40 ∧
        tm = [(6, .c (.int .i64 (m))), (4, .c (.int .i64 (z))), (5, .c (.int .i64 (d))), (3, .ptr 4 0), (0, .ptr 0 0)] ∧
        H = [.box [.c (.str (sB l)), .c (.int .i64 (q')), .c (.bool b'), .own 1, .own 2, .own 3], .row 25 4 48 (tcs N), .row 3 1 8 (rowN Z), .row 3 1 8 (rowN D), .box [.c (.int .i64 (kk)), .c (.int .i64 (hh)), .c (.int .i64 ((n : Nat))), .own 5], .row 25 4 48 (tcs acc)] ∧
        (V → ∃ rem, b' = false ∧ t.ts = acc ++ rem ∧ rem.length = m ∧ l.drop q' = ((rem.map (pl B)).flatMap (fun k => digs (i - k - 1))) ++ r ∧ (z : Int) = 1 + szL acc ∧ (d : Int) = 1 + dpL acc))
      c _ _ ⟨q3, b3, [], 1, 1, by omega, by simp, by decide, by decide, by decide, by decide, rfl, rfl, fun hv => by
        obtain ⟨h1, h2, h3⟩ := hV3 hv
        exact ⟨t.ts, h1, by simp, h2.symm, h3, by simp [szL], by simp [dpL]⟩⟩ ?_ ?_
    · refine Wk.trans (Wk.nilrow (i := 4) (j := 3) 25 4 48 rfl rfl rfl) ?_
      exact Wk.sl [0, 1, 2, 3, 4, 5] rfl ⟨rfl, rfl, rfl, rfl, rfl, rfl, trivial⟩ ⟨rfl, rfl, rfl, rfl, rfl, trivial⟩ rfl
    rintro m tm H ⟨q', b', acc, z, d, hq', hm, hz1, hz2, hd1, hd2, rfl, rfl, hVk⟩
    conv => whnf
    repeat ((first | refine aI rfl ?_ | refine aI (by decide) ?_ | refine dI (by kernel_rfl) ?_ | refine aI ⟨by omega, by omega⟩ ?_ | refine aI (by omega) ?_ | refine aI (fun _ => ⟨by omega, by omega⟩) ?_ | refine aI (of_decide_eq_true rfl) ?_ | (refine yI ?_ ?_; focus (first | decide | (simp; done) | (simp [tcs]; done))) | (refine nI ?_ ?_; focus (first | decide | (simp; done) | (simp [tcs]; done))) | intro _); conv => whnf)
    by_cases hend : m = 0 ∨ b' = true
    · have e : (decide ((0 : Int) < (m : Int)) && !b') = false := by
        rcases hend with h | h
        · rw [h]; rfl
        · rw [h]; simp
      rw [e]
      (refine ⟨fun h => absurd h ?_, fun _ => ?_⟩; (focus (first | decide | (simp; done) | (simp [tcs]; done))); conv => whnf)
      repeat ((first | refine aI rfl ?_ | refine aI (by decide) ?_ | refine dI (by kernel_rfl) ?_ | refine aI ⟨by omega, by omega⟩ ?_ | refine aI (by omega) ?_ | refine aI (fun _ => ⟨by omega, by omega⟩) ?_ | refine aI (of_decide_eq_true rfl) ?_ | (refine yI ?_ ?_; focus (first | decide | (simp; done) | (simp [tcs]; done))) | (refine nI ?_ ?_; focus (first | decide | (simp; done) | (simp [tcs]; done))) | intro _); conv => whnf)
      have hb1 : ((tcs N).length + 1) * 48 ≤ 140737488355328 := by omega
      have hb2 : (tcs N).length + 1 ≤ 9223372036854775807 := by omega
      have hb3 : ((rowN Z).length + 1) * 8 ≤ 140737488355328 := by omega
      have hb4 : (rowN Z).length + 1 ≤ 9223372036854775807 := by omega
      have hb5 : ((rowN D).length + 1) * 8 ≤ 140737488355328 := by omega
      have hb6 : (rowN D).length + 1 ≤ 9223372036854775807 := by omega
      have hix : ((tcs N).length : Int).toNat = (tcs N).length := by omega
      have hapl : ∀ z : List CV, (tcs N).length < (tcs N ++ [z]).length := fun z => by simp
      have hget : ∀ z : List CV, (tcs N ++ [z])[((tcs N).length : Int).toNat]? = some z := fun z => by rw [hix]; simp
      have hset : ∀ z x : List CV, (tcs N ++ [z]).set ((tcs N).length : Int).toNat x = tcs N ++ [x] := fun z x => by rw [hix]; simp
      have hend2 : tcs N ++ [[.int .i64 kk, .int .i64 hh, .int .i64 (n : Nat), .sl 4 48 (tcs acc)]] = tcs (N ++ [.mk kk hh (n : Nat) acc]) := (tcs_snoc19 N (.mk kk hh (n : Nat) acc)).symm
      have hfin : V → Term.mk kk hh (n : Nat) acc = t ∧ z = szN t ∧ d = dpN t ∧ b' = false ∧ l.drop q' = r := fun hv => by
        obtain ⟨rem, g1, g2, g3, g4, g5, g6⟩ := hVk hv
        have hm0 : m = 0 := by
          rcases hend with h | h
          · exact h
          · rw [g1] at h; cases h
        have hr0 : rem = [] := List.length_eq_zero_iff.1 (by omega)
        subst hr0
        rw [List.append_nil] at g2
        have h4 := hVh hv
        have h5 := hVn hv
        have ht : Term.mk kk hh (n : Nat) acc = t := by
          obtain ⟨tk, tl, tn, tts⟩ := t
          simp only [Term.k, Term.l, Term.n, Term.ts] at h4 h5 g2
          rw [show (kk : Int) = tk by omega, show (hh : Int) = tl by omega, h5, g2]
        have e1 : szT t = 1 + szL acc := by rw [← ht, szT]
        have e2 : dpT t = 1 + dpL acc := by rw [← ht, dpT]
        exact ⟨ht, by unfold szN; omega, by unfold dpN; omega, g1, by rw [g4]; rfl⟩
      refine ⟨show ((tcs N).length + 1) * 48 ≤ 140737488355328 from hb1, show (tcs N).length + 1 ≤ 9223372036854775807 from hb2, ?_⟩
      conv => whnf
      repeat ((first | refine aI rfl ?_ | refine aI (by decide) ?_ | refine aI ⟨by omega, by omega⟩ ?_ | refine aI (by omega) ?_ | refine aI (fun _ => ⟨by omega, by omega⟩) ?_ | refine aI (of_decide_eq_true rfl) ?_ | (refine yI ?_ ?_; focus (first | decide | (simp; done) | (simp [tcs]; done))) | (refine nI ?_ ?_; focus (first | decide | (simp; done) | (simp [tcs]; done)))); conv => whnf)
      refine ⟨⟨by omega, by rw [hix]; exact hapl _⟩, ?_⟩
      conv => whnf
      repeat ((first | refine aI rfl ?_ | refine aI (by decide) ?_ | refine aI ⟨by omega, by omega⟩ ?_ | refine aI (by omega) ?_ | refine aI (fun _ => ⟨by omega, by omega⟩) ?_ | refine aI (of_decide_eq_true rfl) ?_ | (refine yI ?_ ?_; focus (first | decide | (simp; done) | (simp [tcs]; done))) | (refine nI ?_ ?_; focus (first | decide | (simp; done) | (simp [tcs]; done)))); conv => whnf)
      refine ⟨?_, ?_⟩
      · conv => whnf
        repeat ((first | refine aI rfl ?_ | refine aI (by decide) ?_ | refine aI ⟨by omega, by omega⟩ ?_ | refine aI (by omega) ?_ | refine aI (fun _ => ⟨by omega, by omega⟩) ?_ | refine aI (of_decide_eq_true rfl) ?_ | (refine yI ?_ ?_; focus (first | decide | (simp; done) | (simp [tcs]; done))) | (refine nI ?_ ?_; focus (first | decide | (simp; done) | (simp [tcs]; done)))); conv => whnf)
        refine ⟨_, hget _, show 0 + 4 ≤ 4 by decide, ?_⟩
        conv => whnf
        repeat ((first | refine aI rfl ?_ | refine aI (by decide) ?_ | refine dI (by kernel_rfl) ?_ | refine aI ⟨by omega, by omega⟩ ?_ | refine aI (by omega) ?_ | refine aI (fun _ => ⟨by omega, by omega⟩) ?_ | refine aI (of_decide_eq_true rfl) ?_ | (refine yI ?_ ?_; focus (first | decide | (simp; done) | (simp [tcs]; done))) | (refine nI ?_ ?_; focus (first | decide | (simp; done) | (simp [tcs]; done))) | intro _); conv => whnf)
        refine ⟨[], [.box [.c (.str (sB l)), .c (.int .i64 (q')), .c (.bool b'), .own 4, .own 5, .own 6], .dead, .dead, .dead, .row 25 4 48 (tcs (N ++ [.mk kk hh (n : Nat) acc])), .row 3 1 8 (rowN (Z ++ [z])), .row 3 1 8 (rowN (D ++ [d]))],
          Wk.sl [0, 1, 2, 3, 7, 9, 11] rfl ⟨rfl, rfl, rfl, rfl, eRow ((hset _ [.int .i64 kk, .int .i64 hh, .int .i64 (n : Nat), .sl 4 48 (tcs acc)]).trans hend2), eRow (rowN_snoc Z z).symm, eRow (rowN_snoc D d).symm, trivial⟩ trivial rfl, ?_⟩
        conv => whnf
        exact ⟨rfl, .inr ⟨_, z, d, q', b', hq', hz2, hd2, hfin, rfl⟩⟩
      · conv => whnf
        repeat ((first | refine aI rfl ?_ | refine aI (by decide) ?_ | refine aI ⟨by omega, by omega⟩ ?_ | refine aI (by omega) ?_ | refine aI (fun _ => ⟨by omega, by omega⟩) ?_ | refine aI (of_decide_eq_true rfl) ?_ | (refine yI ?_ ?_; focus (first | decide | (simp; done) | (simp [tcs]; done))) | (refine nI ?_ ?_; focus (first | decide | (simp; done) | (simp [tcs]; done)))); conv => whnf)
        refine ⟨_, hget _, show 0 + 4 ≤ 4 by decide, ?_⟩
        conv => whnf
        repeat ((first | refine aI rfl ?_ | refine aI (by decide) ?_ | refine dI (by kernel_rfl) ?_ | refine aI ⟨by omega, by omega⟩ ?_ | refine aI (by omega) ?_ | refine aI (fun _ => ⟨by omega, by omega⟩) ?_ | refine aI (of_decide_eq_true rfl) ?_ | (refine yI ?_ ?_; focus (first | decide | (simp; done) | (simp [tcs]; done))) | (refine nI ?_ ?_; focus (first | decide | (simp; done) | (simp [tcs]; done))) | intro _); conv => whnf)
        refine ⟨[], [.box [.c (.str (sB l)), .c (.int .i64 (q')), .c (.bool b'), .own 4, .own 5, .own 6], .dead, .dead, .dead, .row 25 4 48 (tcs (N ++ [.mk kk hh (n : Nat) acc])), .row 3 1 8 (rowN (Z ++ [z])), .row 3 1 8 (rowN (D ++ [d]))],
          Wk.sl [0, 1, 2, 3, 7, 9, 11] rfl ⟨rfl, rfl, rfl, rfl, eRow ((hset _ [.int .i64 kk, .int .i64 hh, .int .i64 (n : Nat), .sl 4 48 (tcs acc)]).trans hend2), eRow (rowN_snoc Z z).symm, eRow (rowN_snoc D d).symm, trivial⟩ trivial rfl, ?_⟩
        conv => whnf
        exact ⟨rfl, .inr ⟨_, z, d, q', b', hq', hz2, hd2, hfin, rfl⟩⟩
    · have hm1 : 0 < m := by
        rcases Nat.eq_zero_or_pos m with h | h
        · exact absurd (.inl h) hend
        · exact h
      have hb1 : b' = false := by
        cases b' with
        | false => rfl
        | true => exact absurd (.inr rfl) hend
      subst hb1
      have e : (decide ((0 : Int) < (m : Int)) && !false) = true := by rw [decide_eq_true (by omega)]; rfl
      rw [e]
      obtain ⟨m, rfl⟩ : ∃ m', m = m' + 1 := ⟨m - 1, by omega⟩
      have hnk := cRRNum l q' false N Z D hq' hl
      obtain ⟨hx4, hq4⟩ := nmF_bd l q' false hq'
      have hV4 : V → ∃ u rem, t.ts = acc ++ u :: rem ∧ rem.length = m ∧ pl B u < i ∧ (nmF l q' false).1 = i - pl B u - 1 ∧ (nmF l q' false).2.2 = false ∧ l.drop (nmF l q' false).2.1 = ((rem.map (pl B)).flatMap (fun k => digs (i - k - 1))) ++ r ∧ (z : Int) = 1 + szL acc ∧ (d : Int) = 1 + dpL acc := fun hv => by
        obtain ⟨rem, g1, g2, g3, g4, g5, g6⟩ := hVk hv
        cases rem with
        | nil => simp at g3
        | cons u rem =>
          have h := hV hv
          obtain ⟨j, hj, hbj⟩ := h.fg.lo i t h.fa u (by rw [g2]; simp)
          have hpl := pl_of h.fg.nd hbj
          rw [List.map_cons, List.flatMap_cons, List.append_assoc] at g4
          have hib := (List.getElem?_eq_some_iff.1 h.fa).1
          have hbl := h.bl
          obtain ⟨q2, f1, f2⟩ := nmF_ok (by omega) g4
          rw [f1]
          exact ⟨u, rem, g2, by simpa using g3, by omega, rfl, rfl, f2, g5, g6⟩
      generalize nmF l q' false = ww at *
      obtain ⟨x4, q4, b4⟩ := ww
      simp only at hx4 hq4 hV4 hnk
      (refine ⟨fun _ => ?_, fun h => absurd h ?_⟩; rotate_left; (focus (first | decide | (simp; done) | (simp [tcs]; done))); conv => whnf)
      refine draw_wk [(7, .c (.int .i64 (((tcs N).length : Int) - 1 - (x4 : Int)))), (6, .c (.int .i64 ((m + 1 : Nat)))), (4, .c (.int .i64 (z))), (5, .c (.int .i64 (d))), (3, .ptr 4 0), (0, .ptr 0 0)]
        [.box [.c (.str (sB l)), .c (.int .i64 (q4)), .c (.bool b4), .own 1, .own 2, .own 3], .row 25 4 48 (tcs N), .row 3 1 8 (rowN Z), .row 3 1 8 (rowN D), .box [.c (.int .i64 (kk)), .c (.int .i64 (hh)), .c (.int .i64 ((n : Nat))), .own 5], .row 25 4 48 (tcs acc)] ?_ ?_
      · refine draw_intro false (by kernel_rfl) ?_
        conv => whnf
        (refine And.intro ?_ ?_ <;> conv => whnf)
        · repeat ((first | refine aI rfl ?_ | refine aI (by decide) ?_ | refine dI (by kernel_rfl) ?_ | refine aI ⟨by omega, by omega⟩ ?_ | refine aI (by omega) ?_ | refine aI (fun _ => ⟨by omega, by omega⟩) ?_ | refine aI (of_decide_eq_true rfl) ?_ | (refine yI ?_ ?_; focus (first | decide | (simp; done) | (simp [tcs]; done))) | (refine nI ?_ ?_; focus (first | decide | (simp; done) | (simp [tcs]; done))) | intro _); conv => whnf)
          try (refine dI (by kernel_rfl) ?_; conv => whnf)
          first | refine CallSt.use hnk [0, 1, 2, 3] ⟨rfl, rfl, rfl, rfl, trivial⟩ (by decide) rfl ?_ | refine CallPt.useS hnk [0, 1, 2, 3] ⟨rfl, rfl, rfl, rfl, trivial⟩ (by decide) rfl ?_
          rintro _ _ ⟨rfl, rfl⟩ _
          conv => whnf
          repeat ((first | refine aI rfl ?_ | refine aI (by decide) ?_ | refine dI (by kernel_rfl) ?_ | refine aI ⟨by omega, by omega⟩ ?_ | refine aI (by omega) ?_ | refine aI (fun _ => ⟨by omega, by omega⟩) ?_ | refine aI (of_decide_eq_true rfl) ?_ | (refine yI ?_ ?_; focus (first | decide | (simp; done) | (simp [tcs]; done))) | (refine nI ?_ ?_; focus (first | decide | (simp; done) | (simp [tcs]; done))) | intro _); conv => whnf)
          exact Wk.sl [0, 1, 2, 3, 4, 5] rfl ⟨rfl, rfl, rfl, rfl, rfl, rfl, trivial⟩ ⟨rfl, rfl, rfl, rfl, rfl, rfl, trivial⟩ rfl
        · try (refine draw_intro true (by kernel_rfl) ?_; conv => whnf)
          first | refine CallSt.use hnk [0, 1, 2, 3] ⟨rfl, rfl, rfl, rfl, trivial⟩ (by decide) rfl ?_ | refine CallPt.useS hnk [0, 1, 2, 3] ⟨rfl, rfl, rfl, rfl, trivial⟩ (by decide) rfl ?_
          rintro _ _ ⟨rfl, rfl⟩ _
          conv => whnf
          repeat ((first | refine aI rfl ?_ | refine aI (by decide) ?_ | refine dI (by kernel_rfl) ?_ | refine aI ⟨by omega, by omega⟩ ?_ | refine aI (by omega) ?_ | refine aI (fun _ => ⟨by omega, by omega⟩) ?_ | refine aI (of_decide_eq_true rfl) ?_ | (refine yI ?_ ?_; focus (first | decide | (simp; done) | (simp [tcs]; done))) | (refine nI ?_ ?_; focus (first | decide | (simp; done) | (simp [tcs]; done))) | intro _); conv => whnf)
          exact Wk.sl [0, 1, 2, 3, 4, 5] rfl ⟨rfl, rfl, rfl, rfl, rfl, rfl, trivial⟩ ⟨rfl, rfl, rfl, rfl, rfl, rfl, trivial⟩ rfl
      conv => whnf
      repeat ((first | refine aI rfl ?_ | refine aI (by decide) ?_ | refine dI (by kernel_rfl) ?_ | refine aI ⟨by omega, by omega⟩ ?_ | refine aI (by omega) ?_ | refine aI (fun _ => ⟨by omega, by omega⟩) ?_ | refine aI (of_decide_eq_true rfl) ?_ | (refine yI ?_ ?_; focus (first | decide | (simp; done) | (simp [tcs]; done))) | (refine nI ?_ ?_; focus (first | decide | (simp; done) | (simp [tcs]; done))) | intro _); conv => whnf)
      by_cases hbad : ((tcs N).length : Int) - 1 - (x4 : Int) < 0 ∨ b4 = true
      · have e : (decide (((tcs N).length : Int) - 1 - (x4 : Int) < 0) || b4) = true := by
          rcases hbad with h | h
          · rw [decide_eq_true h]; rfl
          · rw [h]; simp
        have hnv : ¬ V := fun hv => by
          obtain ⟨u, rem, g1, g2, g3, g4, g5, g6, g7, g8⟩ := hV4 hv
          have h := hV hv
          have hib := (List.getElem?_eq_some_iff.1 h.fa).1
          have hni : N.length = i := by rw [h.fn, List.length_take]; omega
          rcases hbad with h | h
          · omega
          · rw [g5] at h; cases h
        rw [e]
        (refine ⟨fun _ => ?_, fun h => absurd h ?_⟩; rotate_left; (focus (first | decide | (simp; done) | (simp [tcs]; done))); conv => whnf)
        repeat ((first | refine aI rfl ?_ | refine aI (by decide) ?_ | refine dI (by kernel_rfl) ?_ | refine aI ⟨by omega, by omega⟩ ?_ | refine aI (by omega) ?_ | refine aI (fun _ => ⟨by omega, by omega⟩) ?_ | refine aI (of_decide_eq_true rfl) ?_ | (refine yI ?_ ?_; focus (first | decide | (simp; done) | (simp [tcs]; done))) | (refine nI ?_ ?_; focus (first | decide | (simp; done) | (simp [tcs]; done))) | intro _); conv => whnf)
        refine ⟨[], rrH l q4 true N Z D, Wk.sl [0, 1, 2, 3] rfl ⟨rfl, rfl, rfl, rfl, trivial⟩ trivial rfl, ?_⟩
        conv => whnf
        exact ⟨rfl, .inl ⟨q4, hq4, hnv, rfl⟩⟩
      · have hlt : x4 < N.length := by
          rcases Nat.lt_or_ge x4 N.length with h | h
          · exact h
          · exact absurd (.inl (by omega)) hbad
        have hb4 : b4 = false := by
          cases b4 with
          | false => rfl
          | true => exact absurd (.inr rfl) hbad
        subst hb4
        have e : (decide (((tcs N).length : Int) - 1 - (x4 : Int) < 0) || false) = false := by rw [decide_eq_false (by omega)]; rfl
        have hkt : (((tcs N).length : Int) - 1 - (x4 : Int)).toNat = N.length - 1 - x4 := by omega
        obtain ⟨u0, hu0⟩ : ∃ u, N[N.length - 1 - x4]? = some u := ⟨_, List.getElem?_eq_getElem (by omega)⟩
        obtain ⟨zk, hzk⟩ : ∃ u, Z[N.length - 1 - x4]? = some u := ⟨_, List.getElem?_eq_getElem (by omega)⟩
        obtain ⟨dk, hdk⟩ : ∃ u, D[N.length - 1 - x4]? = some u := ⟨_, List.getElem?_eq_getElem (by omega)⟩
        have hzkb := hZ zk (List.mem_of_getElem? hzk)
        have hdkb := hD dk (List.mem_of_getElem? hdk)
        have hrz := rowN_at hzk
        have hrd := rowN_at hdk
        have hru := tcs_at N _ u0 hu0
        rw [← hkt] at hrz hrd hru
        have hV5 : V → ∃ rem, t.ts = acc ++ u0 :: rem ∧ rem.length = m ∧ l.drop q4 = ((rem.map (pl B)).flatMap (fun k => digs (i - k - 1))) ++ r ∧ (z : Int) + zk = 1 + szL (acc ++ [u0]) ∧ max (d : Int) (1 + dk) = 1 + dpL (acc ++ [u0]) ∧ (z : Int) + zk ≤ 600 ∧ max (d : Int) (1 + dk) ≤ 40 := fun hv => by
          obtain ⟨u, rem, g1, g2, g3, g4, g5, g6, g7, g8⟩ := hV4 hv
          have h := hV hv
          have hib := (List.getElem?_eq_some_iff.1 h.fa).1
          have hni : N.length = i := by rw [h.fn, List.length_take]; omega
          have hum : u ∈ B := h.fg.kid (List.mem_of_getElem? h.fa) (by rw [g1]; simp)
          have hBu := pl_at hum
          have hj : N.length - 1 - x4 = pl B u := by omega
          rw [hj, h.fn, List.getElem?_take, if_pos g3, hBu] at hu0
          injection hu0 with hu0
          rw [hj, h.fz, List.getElem?_map, List.getElem?_take, if_pos g3, hBu] at hzk
          injection hzk with hzk
          rw [hj, h.fd, List.getElem?_map, List.getElem?_take, if_pos g3, hBu] at hdk
          injection hdk with hdk
          subst hu0
          have hz1 := szT_pos u
          have hd1 := dpT_pos u
          have e1 : szT t = 1 + szL t.ts := by cases t; rw [szT]; rfl
          have e2 : dpT t = 1 + dpL t.ts := by cases t; rw [dpT]; rfl
          have e3 : szL t.ts = szL acc + szT u + szL rem := by rw [g1, szL_app, szL]; omega
          have e4 : szL (acc ++ [u]) = szL acc + szT u := by rw [szL_app]; simp [szL]
          have e5 := dpL_snoc acc u
          have e6 : dpL (acc ++ [u]) ≤ dpL t.ts := by
            rw [g1, show acc ++ u :: rem = (acc ++ [u]) ++ rem by simp]
            exact dpL_app _ _
          have e7 := h.sz t (List.mem_of_getElem? h.fa)
          have e8 := h.dp t (List.mem_of_getElem? h.fa)
          have e9 := szL_pos rem
          unfold szN at hzk
          unfold dpN at hdk
          exact ⟨rem, g1, g2, g6, by omega, by omega, by omega, by omega⟩
        rw [e]
        (refine ⟨fun h => absurd h ?_, fun _ => ?_⟩; (focus (first | decide | (simp; done) | (simp [tcs]; done))); conv => whnf)
        repeat ((first | refine aI rfl ?_ | refine aI (by decide) ?_ | refine dI (by kernel_rfl) ?_ | refine aI ⟨by omega, by omega⟩ ?_ | refine aI (by omega) ?_ | refine aI (fun _ => ⟨by omega, by omega⟩) ?_ | refine aI (of_decide_eq_true rfl) ?_ | (refine yI ?_ ?_; focus (first | decide | (simp; done) | (simp [tcs]; done))) | (refine nI ?_ ?_; focus (first | decide | (simp; done) | (simp [tcs]; done))) | intro _); conv => whnf)
        refine ⟨[.int .i64 zk], hrz, show 0 + 1 ≤ 1 by decide, ?_⟩
        conv => whnf
        repeat ((first | refine aI rfl ?_ | refine aI (by decide) ?_ | refine dI (by kernel_rfl) ?_ | refine aI ⟨by omega, by omega⟩ ?_ | refine aI (by omega) ?_ | refine aI (fun _ => ⟨by omega, by omega⟩) ?_ | refine aI (of_decide_eq_true rfl) ?_ | (refine yI ?_ ?_; focus (first | decide | (simp; done) | (simp [tcs]; done))) | (refine nI ?_ ?_; focus (first | decide | (simp; done) | (simp [tcs]; done))) | intro _); conv => whnf)
        refine ⟨[.int .i64 dk], hrd, show 0 + 1 ≤ 1 by decide, ?_⟩
        conv => whnf
        repeat ((first | refine aI rfl ?_ | refine aI (by decide) ?_ | refine dI (by kernel_rfl) ?_ | refine aI ⟨by omega, by omega⟩ ?_ | refine aI (by omega) ?_ | refine aI (fun _ => ⟨by omega, by omega⟩) ?_ | refine aI (of_decide_eq_true rfl) ?_ | (refine yI ?_ ?_; focus (first | decide | (simp; done) | (simp [tcs]; done))) | (refine nI ?_ ?_; focus (first | decide | (simp; done) | (simp [tcs]; done))) | intro _); conv => whnf)
        obtain ⟨z2, ez, hz3⟩ : ∃ z2 : Nat, (if (z : Int) + (zk : Int) < 601 then (z : Int) + (zk : Int) else 601) = (z2 : Int) ∧ (z2 = z + zk ∨ (z2 = 601 ∧ 601 ≤ z + zk)) := by
          by_cases h : z + zk < 601
          · exact ⟨z + zk, by rw [if_pos (by omega)]; omega, .inl rfl⟩
          · exact ⟨601, by rw [if_neg (by omega)]; rfl, .inr ⟨rfl, by omega⟩⟩
        obtain ⟨d2, ed, hd3⟩ : ∃ d2 : Nat, (if (d : Int) < 1 + (dk : Int) then 1 + (dk : Int) else (d : Int)) = (d2 : Int) ∧ d2 = max d (1 + dk) := by
          by_cases h : d < 1 + dk
          · exact ⟨1 + dk, by rw [if_pos (by omega)]; omega, by omega⟩
          · exact ⟨d, by rw [if_neg (by omega)], by omega⟩
        rw [ez, ed]
        by_cases hbig : 600 < z2 ∨ 40 < d2
        · have e : (decide ((600 : Int) < (z2 : Int)) || decide ((40 : Int) < (d2 : Int))) = true := by
            rcases hbig with h | h
            · rw [decide_eq_true (by omega)]; rfl
            · rw [decide_eq_true (show (40 : Int) < (d2 : Int) by omega)]; simp
          have hnv : ¬ V := fun hv => by
            obtain ⟨rem, g1, g2, g3, g4, g5, g6, g7⟩ := hV5 hv
            omega
          rw [e]
          (refine ⟨fun _ => ?_, fun h => absurd h ?_⟩; rotate_left; (focus (first | decide | (simp; done) | (simp [tcs]; done))); conv => whnf)
          repeat ((first | refine aI rfl ?_ | refine aI (by decide) ?_ | refine dI (by kernel_rfl) ?_ | refine aI ⟨by omega, by omega⟩ ?_ | refine aI (by omega) ?_ | refine aI (fun _ => ⟨by omega, by omega⟩) ?_ | refine aI (of_decide_eq_true rfl) ?_ | (refine yI ?_ ?_; focus (first | decide | (simp; done) | (simp [tcs]; done))) | (refine nI ?_ ?_; focus (first | decide | (simp; done) | (simp [tcs]; done))) | intro _); conv => whnf)
          refine ⟨[], rrH l q4 true N Z D, Wk.sl [0, 1, 2, 3] rfl ⟨rfl, rfl, rfl, rfl, trivial⟩ trivial rfl, ?_⟩
          conv => whnf
          exact ⟨rfl, .inl ⟨q4, hq4, hnv, rfl⟩⟩
        · have e : (decide ((600 : Int) < (z2 : Int)) || decide ((40 : Int) < (d2 : Int))) = false := by
            rw [decide_eq_false (by omega), decide_eq_false (by omega)]
            rfl
          have hst : tcs (acc ++ [u0]) = tcs acc ++ [tc u0] := tcs_snoc19 acc u0
          have hta := len_tcs acc
          have hb1 : ((tcs acc).length + 1) * 48 ≤ 140737488355328 := by omega
          have hb2 : (tcs acc).length + 1 ≤ 9223372036854775807 := by omega
          obtain ⟨k', l2', n', us⟩ := u0
          replace hru : (tcs N)[(((tcs N).length : Int) - 1 - (x4 : Int)).toNat]? = some [.int .i64 k', .int .i64 l2', .int .i64 n', .sl 4 48 (tcs us)] := hru
          rw [e]
          (refine ⟨fun h => absurd h ?_, fun _ => ?_⟩; (focus (first | decide | (simp; done) | (simp [tcs]; done))); conv => whnf)
          repeat ((first | refine aI rfl ?_ | refine aI (by decide) ?_ | refine dI (by kernel_rfl) ?_ | refine aI ⟨by omega, by omega⟩ ?_ | refine aI (by omega) ?_ | refine aI (fun _ => ⟨by omega, by omega⟩) ?_ | refine aI (of_decide_eq_true rfl) ?_ | (refine yI ?_ ?_; focus (first | decide | (simp; done) | (simp [tcs]; done))) | (refine nI ?_ ?_; focus (first | decide | (simp; done) | (simp [tcs]; done))) | intro _); conv => whnf)
          refine ⟨[.int .i64 k', .int .i64 l2', .int .i64 n', .sl 4 48 (tcs us)], hru, show 0 + 4 ≤ 4 by decide, ?_⟩
          conv => whnf
          repeat ((first | refine aI rfl ?_ | refine aI (by decide) ?_ | refine dI (by kernel_rfl) ?_ | refine aI ⟨by omega, by omega⟩ ?_ | refine aI (by omega) ?_ | refine aI (fun _ => ⟨by omega, by omega⟩) ?_ | refine aI (of_decide_eq_true rfl) ?_ | (refine yI ?_ ?_; focus (first | decide | (simp; done) | (simp [tcs]; done))) | (refine nI ?_ ?_; focus (first | decide | (simp; done) | (simp [tcs]; done))) | intro _); conv => whnf)
          rw [show ((m + 1 : Nat) : Int) - 1 = (m : Int) by omega]
          refine ⟨m, _, _, by omega, ⟨q4, false, acc ++ [.mk k' l2' n' us], z2, d2, hq4, by rw [List.length_append, List.length_singleton]; omega, by omega, by omega, by omega, by omega, rfl, rfl, fun hv => ?_⟩, Wk.sl [0, 1, 2, 3, 4, 7] rfl ⟨rfl, rfl, rfl, rfl, rfl, ?_, trivial⟩ ⟨rfl, rfl, rfl, rfl, rfl, trivial⟩ rfl⟩
          · obtain ⟨rem, g1, g2, g3, g4, g5, g6, g7⟩ := hV5 hv
            exact ⟨rem, rfl, by rw [g1]; simp, g2, g3, by omega, by omega⟩
          · rw [hst]
            rfl
  · replace hk4 : kk ≠ 4 := by have := of_decide_eq_false hk4; omega
    have hVl : V → b1 = false ∧ l.drop q1 = lstB (fun k => digs (i - k - 1)) (kd B t) ++ r := fun hv => by
      obtain ⟨h1, h2, h3⟩ := hVb hv
      have h4 := hVk hv
      rw [if_neg (by omega)] at h3
      exact ⟨h2, h3⟩
    have hVn : V → (0 : Int) = t.n := fun hv => by have := hVk hv; have := this.2.2.2.2.2.2 (by omega); omega
    have hVh := hVk
    clear hVk
    conv => whnf
    have hsz := cRRSize l q1 b1 N Z D (by omega) hl
    repeat ((first | refine aI rfl ?_ | refine aI (by decide) ?_ | refine dI (by kernel_rfl) ?_ | refine aI ⟨by omega, by omega⟩ ?_ | refine aI (by omega) ?_ | refine aI (fun _ => ⟨by omega, by omega⟩) ?_ | refine aI (of_decide_eq_true rfl) ?_ | (refine yI ?_ ?_; focus (first | decide | (simp; done) | (simp [tcs]; done))) | (refine nI ?_ ?_; focus (first | decide | (simp; done) | (simp [tcs]; done))) | intro _); conv => whnf)
    try (refine dI (by kernel_rfl) ?_; conv => whnf)
    first | refine CallSt.use hsz [0, 1, 2, 3] ⟨rfl, rfl, rfl, rfl, trivial⟩ (by decide) rfl ?_ | refine CallPt.useS hsz [0, 1, 2, 3] ⟨rfl, rfl, rfl, rfl, trivial⟩ (by decide) rfl ?_
    rintro _ _ ⟨c, q3, b3, rfl, rfl, hc3, hT3⟩ _
    conv => whnf
    have hV3 : V → b3 = false ∧ c = t.ts.length ∧ l.drop q3 = (kd B t).flatMap (fun k => digs (i - k - 1)) ++ r := fun hv => by
      obtain ⟨v1, v2⟩ := hVl hv
      have hts := hVs hv
      have hfl := flat_ge (fun k => digs (i - k - 1)) (kd B t) fun x _ => digs_pos _
      have hkl : (kd B t).length = t.ts.length := by simp [kd]
      unfold lstB at v2
      rw [List.append_assoc] at v2
      obtain ⟨h1, h2, h3⟩ := hT3 v1 _ _ (by omega) v2 (by rw [List.length_append]; omega)
      exact ⟨h2, by omega, h3⟩
    repeat ((first | refine aI rfl ?_ | refine aI (by decide) ?_ | refine dI (by kernel_rfl) ?_ | refine aI ⟨by omega, by omega⟩ ?_ | refine aI (by omega) ?_ | refine aI (fun _ => ⟨by omega, by omega⟩) ?_ | refine aI (of_decide_eq_true rfl) ?_ | (refine yI ?_ ?_; focus (first | decide | (simp; done) | (simp [tcs]; done))) | (refine nI ?_ ?_; focus (first | decide | (simp; done) | (simp [tcs]; done))) | intro _); conv => whnf)
    refine loop_intro (fun m tm H => ∃ (q' : Nat) (b' : Bool) (acc : List Term) (z d : Nat), q' ≤ l.length ∧ acc.length + m = c ∧ 1 ≤ z ∧ z ≤ 600 ∧ 1 ≤ d ∧ d ≤ 40 ∧
        tm = [(6, .c (.int .i64 (m))), (4, .c (.int .i64 (z))), (5, .c (.int .i64 (d))), (3, .ptr 4 0), (0, .ptr 0 0)] ∧
        H = [.box [.c (.str (sB l)), .c (.int .i64 (q')), .c (.bool b'), .own 1, .own 2, .own 3], .row 25 4 48 (tcs N), .row 3 1 8 (rowN Z), .row 3 1 8 (rowN D), .box [.c (.int .i64 (kk)), .c (.int .i64 (hh)), .c (.int .i64 (0)), .own 5], .row 25 4 48 (tcs acc)] ∧
        (V → ∃ rem, b' = false ∧ t.ts = acc ++ rem ∧ rem.length = m ∧ l.drop q' = ((rem.map (pl B)).flatMap (fun k => digs (i - k - 1))) ++ r ∧ (z : Int) = 1 + szL acc ∧ (d : Int) = 1 + dpL acc))
      c _ _ ⟨q3, b3, [], 1, 1, by omega, by simp, by decide, by decide, by decide, by decide, rfl, rfl, fun hv => by
        obtain ⟨h1, h2, h3⟩ := hV3 hv
        exact ⟨t.ts, h1, by simp, h2.symm, h3, by simp [szL], by simp [dpL]⟩⟩ ?_ ?_
    · refine Wk.trans (Wk.nilrow (i := 4) (j := 3) 25 4 48 rfl rfl rfl) ?_
      exact Wk.sl [0, 1, 2, 3, 4, 5] rfl ⟨rfl, rfl, rfl, rfl, rfl, rfl, trivial⟩ ⟨rfl, rfl, rfl, rfl, rfl, trivial⟩ rfl
    rintro m tm H ⟨q', b', acc, z, d, hq', hm, hz1, hz2, hd1, hd2, rfl, rfl, hVk⟩
    conv => whnf
    repeat ((first | refine aI rfl ?_ | refine aI (by decide) ?_ | refine dI (by kernel_rfl) ?_ | refine aI ⟨by omega, by omega⟩ ?_ | refine aI (by omega) ?_ | refine aI (fun _ => ⟨by omega, by omega⟩) ?_ | refine aI (of_decide_eq_true rfl) ?_ | (refine yI ?_ ?_; focus (first | decide | (simp; done) | (simp [tcs]; done))) | (refine nI ?_ ?_; focus (first | decide | (simp; done) | (simp [tcs]; done))) | intro _); conv => whnf)
    by_cases hend : m = 0 ∨ b' = true
    · have e : (decide ((0 : Int) < (m : Int)) && !b') = false := by
        rcases hend with h | h
        · rw [h]; rfl
        · rw [h]; simp
      rw [e]
      (refine ⟨fun h => absurd h ?_, fun _ => ?_⟩; (focus (first | decide | (simp; done) | (simp [tcs]; done))); conv => whnf)
      repeat ((first | refine aI rfl ?_ | refine aI (by decide) ?_ | refine dI (by kernel_rfl) ?_ | refine aI ⟨by omega, by omega⟩ ?_ | refine aI (by omega) ?_ | refine aI (fun _ => ⟨by omega, by omega⟩) ?_ | refine aI (of_decide_eq_true rfl) ?_ | (refine yI ?_ ?_; focus (first | decide | (simp; done) | (simp [tcs]; done))) | (refine nI ?_ ?_; focus (first | decide | (simp; done) | (simp [tcs]; done))) | intro _); conv => whnf)
      have hb1 : ((tcs N).length + 1) * 48 ≤ 140737488355328 := by omega
      have hb2 : (tcs N).length + 1 ≤ 9223372036854775807 := by omega
      have hb3 : ((rowN Z).length + 1) * 8 ≤ 140737488355328 := by omega
      have hb4 : (rowN Z).length + 1 ≤ 9223372036854775807 := by omega
      have hb5 : ((rowN D).length + 1) * 8 ≤ 140737488355328 := by omega
      have hb6 : (rowN D).length + 1 ≤ 9223372036854775807 := by omega
      have hix : ((tcs N).length : Int).toNat = (tcs N).length := by omega
      have hapl : ∀ z : List CV, (tcs N).length < (tcs N ++ [z]).length := fun z => by simp
      have hget : ∀ z : List CV, (tcs N ++ [z])[((tcs N).length : Int).toNat]? = some z := fun z => by rw [hix]; simp
      have hset : ∀ z x : List CV, (tcs N ++ [z]).set ((tcs N).length : Int).toNat x = tcs N ++ [x] := fun z x => by rw [hix]; simp
      have hend2 : tcs N ++ [[.int .i64 kk, .int .i64 hh, .int .i64 0, .sl 4 48 (tcs acc)]] = tcs (N ++ [.mk kk hh 0 acc]) := (tcs_snoc19 N (.mk kk hh 0 acc)).symm
      have hfin : V → Term.mk kk hh 0 acc = t ∧ z = szN t ∧ d = dpN t ∧ b' = false ∧ l.drop q' = r := fun hv => by
        obtain ⟨rem, g1, g2, g3, g4, g5, g6⟩ := hVk hv
        have hm0 : m = 0 := by
          rcases hend with h | h
          · exact h
          · rw [g1] at h; cases h
        have hr0 : rem = [] := List.length_eq_zero_iff.1 (by omega)
        subst hr0
        rw [List.append_nil] at g2
        have h4 := hVh hv
        have h5 := hVn hv
        have ht : Term.mk kk hh 0 acc = t := by
          obtain ⟨tk, tl, tn, tts⟩ := t
          simp only [Term.k, Term.l, Term.n, Term.ts] at h4 h5 g2
          rw [show (kk : Int) = tk by omega, show (hh : Int) = tl by omega, h5, g2]
        have e1 : szT t = 1 + szL acc := by rw [← ht, szT]
        have e2 : dpT t = 1 + dpL acc := by rw [← ht, dpT]
        exact ⟨ht, by unfold szN; omega, by unfold dpN; omega, g1, by rw [g4]; rfl⟩
      refine ⟨show ((tcs N).length + 1) * 48 ≤ 140737488355328 from hb1, show (tcs N).length + 1 ≤ 9223372036854775807 from hb2, ?_⟩
      conv => whnf
      repeat ((first | refine aI rfl ?_ | refine aI (by decide) ?_ | refine aI ⟨by omega, by omega⟩ ?_ | refine aI (by omega) ?_ | refine aI (fun _ => ⟨by omega, by omega⟩) ?_ | refine aI (of_decide_eq_true rfl) ?_ | (refine yI ?_ ?_; focus (first | decide | (simp; done) | (simp [tcs]; done))) | (refine nI ?_ ?_; focus (first | decide | (simp; done) | (simp [tcs]; done)))); conv => whnf)
      refine ⟨⟨by omega, by rw [hix]; exact hapl _⟩, ?_⟩
      conv => whnf
      repeat ((first | refine aI rfl ?_ | refine aI (by decide) ?_ | refine aI ⟨by omega, by omega⟩ ?_ | refine aI (by omega) ?_ | refine aI (fun _ => ⟨by omega, by omega⟩) ?_ | refine aI (of_decide_eq_true rfl) ?_ | (refine yI ?_ ?_; focus (first | decide | (simp; done) | (simp [tcs]; done))) | (refine nI ?_ ?_; focus (first | decide | (simp; done) | (simp [tcs]; done)))); conv => whnf)
      refine ⟨?_, ?_⟩
      · conv => whnf
        repeat ((first | refine aI rfl ?_ | refine aI (by decide) ?_ | refine aI ⟨by omega, by omega⟩ ?_ | refine aI (by omega) ?_ | refine aI (fun _ => ⟨by omega, by omega⟩) ?_ | refine aI (of_decide_eq_true rfl) ?_ | (refine yI ?_ ?_; focus (first | decide | (simp; done) | (simp [tcs]; done))) | (refine nI ?_ ?_; focus (first | decide | (simp; done) | (simp [tcs]; done)))); conv => whnf)
        refine ⟨_, hget _, show 0 + 4 ≤ 4 by decide, ?_⟩
        conv => whnf
        repeat ((first | refine aI rfl ?_ | refine aI (by decide) ?_ | refine dI (by kernel_rfl) ?_ | refine aI ⟨by omega, by omega⟩ ?_ | refine aI (by omega) ?_ | refine aI (fun _ => ⟨by omega, by omega⟩) ?_ | refine aI (of_decide_eq_true rfl) ?_ | (refine yI ?_ ?_; focus (first | decide | (simp; done) | (simp [tcs]; done))) | (refine nI ?_ ?_; focus (first | decide | (simp; done) | (simp [tcs]; done))) | intro _); conv => whnf)
        refine ⟨[], [.box [.c (.str (sB l)), .c (.int .i64 (q')), .c (.bool b'), .own 4, .own 5, .own 6], .dead, .dead, .dead, .row 25 4 48 (tcs (N ++ [.mk kk hh 0 acc])), .row 3 1 8 (rowN (Z ++ [z])), .row 3 1 8 (rowN (D ++ [d]))],
          Wk.sl [0, 1, 2, 3, 7, 9, 11] rfl ⟨rfl, rfl, rfl, rfl, eRow ((hset _ [.int .i64 kk, .int .i64 hh, .int .i64 0, .sl 4 48 (tcs acc)]).trans hend2), eRow (rowN_snoc Z z).symm, eRow (rowN_snoc D d).symm, trivial⟩ trivial rfl, ?_⟩
        conv => whnf
        exact ⟨rfl, .inr ⟨_, z, d, q', b', hq', hz2, hd2, hfin, rfl⟩⟩
      · conv => whnf
        repeat ((first | refine aI rfl ?_ | refine aI (by decide) ?_ | refine aI ⟨by omega, by omega⟩ ?_ | refine aI (by omega) ?_ | refine aI (fun _ => ⟨by omega, by omega⟩) ?_ | refine aI (of_decide_eq_true rfl) ?_ | (refine yI ?_ ?_; focus (first | decide | (simp; done) | (simp [tcs]; done))) | (refine nI ?_ ?_; focus (first | decide | (simp; done) | (simp [tcs]; done)))); conv => whnf)
        refine ⟨_, hget _, show 0 + 4 ≤ 4 by decide, ?_⟩
        conv => whnf
        repeat ((first | refine aI rfl ?_ | refine aI (by decide) ?_ | refine dI (by kernel_rfl) ?_ | refine aI ⟨by omega, by omega⟩ ?_ | refine aI (by omega) ?_ | refine aI (fun _ => ⟨by omega, by omega⟩) ?_ | refine aI (of_decide_eq_true rfl) ?_ | (refine yI ?_ ?_; focus (first | decide | (simp; done) | (simp [tcs]; done))) | (refine nI ?_ ?_; focus (first | decide | (simp; done) | (simp [tcs]; done))) | intro _); conv => whnf)
        refine ⟨[], [.box [.c (.str (sB l)), .c (.int .i64 (q')), .c (.bool b'), .own 4, .own 5, .own 6], .dead, .dead, .dead, .row 25 4 48 (tcs (N ++ [.mk kk hh 0 acc])), .row 3 1 8 (rowN (Z ++ [z])), .row 3 1 8 (rowN (D ++ [d]))],
          Wk.sl [0, 1, 2, 3, 7, 9, 11] rfl ⟨rfl, rfl, rfl, rfl, eRow ((hset _ [.int .i64 kk, .int .i64 hh, .int .i64 0, .sl 4 48 (tcs acc)]).trans hend2), eRow (rowN_snoc Z z).symm, eRow (rowN_snoc D d).symm, trivial⟩ trivial rfl, ?_⟩
        conv => whnf
        exact ⟨rfl, .inr ⟨_, z, d, q', b', hq', hz2, hd2, hfin, rfl⟩⟩
    · have hm1 : 0 < m := by
        rcases Nat.eq_zero_or_pos m with h | h
        · exact absurd (.inl h) hend
        · exact h
      have hb1 : b' = false := by
        cases b' with
        | false => rfl
        | true => exact absurd (.inr rfl) hend
      subst hb1
      have e : (decide ((0 : Int) < (m : Int)) && !false) = true := by rw [decide_eq_true (by omega)]; rfl
      rw [e]
      obtain ⟨m, rfl⟩ : ∃ m', m = m' + 1 := ⟨m - 1, by omega⟩
      have hnk := cRRNum l q' false N Z D hq' hl
      obtain ⟨hx4, hq4⟩ := nmF_bd l q' false hq'
      have hV4 : V → ∃ u rem, t.ts = acc ++ u :: rem ∧ rem.length = m ∧ pl B u < i ∧ (nmF l q' false).1 = i - pl B u - 1 ∧ (nmF l q' false).2.2 = false ∧ l.drop (nmF l q' false).2.1 = ((rem.map (pl B)).flatMap (fun k => digs (i - k - 1))) ++ r ∧ (z : Int) = 1 + szL acc ∧ (d : Int) = 1 + dpL acc := fun hv => by
        obtain ⟨rem, g1, g2, g3, g4, g5, g6⟩ := hVk hv
        cases rem with
        | nil => simp at g3
        | cons u rem =>
          have h := hV hv
          obtain ⟨j, hj, hbj⟩ := h.fg.lo i t h.fa u (by rw [g2]; simp)
          have hpl := pl_of h.fg.nd hbj
          rw [List.map_cons, List.flatMap_cons, List.append_assoc] at g4
          have hib := (List.getElem?_eq_some_iff.1 h.fa).1
          have hbl := h.bl
          obtain ⟨q2, f1, f2⟩ := nmF_ok (by omega) g4
          rw [f1]
          exact ⟨u, rem, g2, by simpa using g3, by omega, rfl, rfl, f2, g5, g6⟩
      generalize nmF l q' false = ww at *
      obtain ⟨x4, q4, b4⟩ := ww
      simp only at hx4 hq4 hV4 hnk
      (refine ⟨fun _ => ?_, fun h => absurd h ?_⟩; rotate_left; (focus (first | decide | (simp; done) | (simp [tcs]; done))); conv => whnf)
      refine draw_wk [(7, .c (.int .i64 (((tcs N).length : Int) - 1 - (x4 : Int)))), (6, .c (.int .i64 ((m + 1 : Nat)))), (4, .c (.int .i64 (z))), (5, .c (.int .i64 (d))), (3, .ptr 4 0), (0, .ptr 0 0)]
        [.box [.c (.str (sB l)), .c (.int .i64 (q4)), .c (.bool b4), .own 1, .own 2, .own 3], .row 25 4 48 (tcs N), .row 3 1 8 (rowN Z), .row 3 1 8 (rowN D), .box [.c (.int .i64 (kk)), .c (.int .i64 (hh)), .c (.int .i64 (0)), .own 5], .row 25 4 48 (tcs acc)] ?_ ?_
      · refine draw_intro false (by kernel_rfl) ?_
        conv => whnf
        (refine And.intro ?_ ?_ <;> conv => whnf)
        · repeat ((first | refine aI rfl ?_ | refine aI (by decide) ?_ | refine dI (by kernel_rfl) ?_ | refine aI ⟨by omega, by omega⟩ ?_ | refine aI (by omega) ?_ | refine aI (fun _ => ⟨by omega, by omega⟩) ?_ | refine aI (of_decide_eq_true rfl) ?_ | (refine yI ?_ ?_; focus (first | decide | (simp; done) | (simp [tcs]; done))) | (refine nI ?_ ?_; focus (first | decide | (simp; done) | (simp [tcs]; done))) | intro _); conv => whnf)
          try (refine dI (by kernel_rfl) ?_; conv => whnf)
          first | refine CallSt.use hnk [0, 1, 2, 3] ⟨rfl, rfl, rfl, rfl, trivial⟩ (by decide) rfl ?_ | refine CallPt.useS hnk [0, 1, 2, 3] ⟨rfl, rfl, rfl, rfl, trivial⟩ (by decide) rfl ?_
          rintro _ _ ⟨rfl, rfl⟩ _
          conv => whnf
          repeat ((first | refine aI rfl ?_ | refine aI (by decide) ?_ | refine dI (by kernel_rfl) ?_ | refine aI ⟨by omega, by omega⟩ ?_ | refine aI (by omega) ?_ | refine aI (fun _ => ⟨by omega, by omega⟩) ?_ | refine aI (of_decide_eq_true rfl) ?_ | (refine yI ?_ ?_; focus (first | decide | (simp; done) | (simp [tcs]; done))) | (refine nI ?_ ?_; focus (first | decide | (simp; done) | (simp [tcs]; done))) | intro _); conv => whnf)
          exact Wk.sl [0, 1, 2, 3, 4, 5] rfl ⟨rfl, rfl, rfl, rfl, rfl, rfl, trivial⟩ ⟨rfl, rfl, rfl, rfl, rfl, rfl, trivial⟩ rfl
        · try (refine draw_intro true (by kernel_rfl) ?_; conv => whnf)
          first | refine CallSt.use hnk [0, 1, 2, 3] ⟨rfl, rfl, rfl, rfl, trivial⟩ (by decide) rfl ?_ | refine CallPt.useS hnk [0, 1, 2, 3] ⟨rfl, rfl, rfl, rfl, trivial⟩ (by decide) rfl ?_
          rintro _ _ ⟨rfl, rfl⟩ _
          conv => whnf
          repeat ((first | refine aI rfl ?_ | refine aI (by decide) ?_ | refine dI (by kernel_rfl) ?_ | refine aI ⟨by omega, by omega⟩ ?_ | refine aI (by omega) ?_ | refine aI (fun _ => ⟨by omega, by omega⟩) ?_ | refine aI (of_decide_eq_true rfl) ?_ | (refine yI ?_ ?_; focus (first | decide | (simp; done) | (simp [tcs]; done))) | (refine nI ?_ ?_; focus (first | decide | (simp; done) | (simp [tcs]; done))) | intro _); conv => whnf)
          exact Wk.sl [0, 1, 2, 3, 4, 5] rfl ⟨rfl, rfl, rfl, rfl, rfl, rfl, trivial⟩ ⟨rfl, rfl, rfl, rfl, rfl, rfl, trivial⟩ rfl
      conv => whnf
      repeat ((first | refine aI rfl ?_ | refine aI (by decide) ?_ | refine dI (by kernel_rfl) ?_ | refine aI ⟨by omega, by omega⟩ ?_ | refine aI (by omega) ?_ | refine aI (fun _ => ⟨by omega, by omega⟩) ?_ | refine aI (of_decide_eq_true rfl) ?_ | (refine yI ?_ ?_; focus (first | decide | (simp; done) | (simp [tcs]; done))) | (refine nI ?_ ?_; focus (first | decide | (simp; done) | (simp [tcs]; done))) | intro _); conv => whnf)
      by_cases hbad : ((tcs N).length : Int) - 1 - (x4 : Int) < 0 ∨ b4 = true
      · have e : (decide (((tcs N).length : Int) - 1 - (x4 : Int) < 0) || b4) = true := by
          rcases hbad with h | h
          · rw [decide_eq_true h]; rfl
          · rw [h]; simp
        have hnv : ¬ V := fun hv => by
          obtain ⟨u, rem, g1, g2, g3, g4, g5, g6, g7, g8⟩ := hV4 hv
          have h := hV hv
          have hib := (List.getElem?_eq_some_iff.1 h.fa).1
          have hni : N.length = i := by rw [h.fn, List.length_take]; omega
          rcases hbad with h | h
          · omega
          · rw [g5] at h; cases h
        rw [e]
        (refine ⟨fun _ => ?_, fun h => absurd h ?_⟩; rotate_left; (focus (first | decide | (simp; done) | (simp [tcs]; done))); conv => whnf)
        repeat ((first | refine aI rfl ?_ | refine aI (by decide) ?_ | refine dI (by kernel_rfl) ?_ | refine aI ⟨by omega, by omega⟩ ?_ | refine aI (by omega) ?_ | refine aI (fun _ => ⟨by omega, by omega⟩) ?_ | refine aI (of_decide_eq_true rfl) ?_ | (refine yI ?_ ?_; focus (first | decide | (simp; done) | (simp [tcs]; done))) | (refine nI ?_ ?_; focus (first | decide | (simp; done) | (simp [tcs]; done))) | intro _); conv => whnf)
        refine ⟨[], rrH l q4 true N Z D, Wk.sl [0, 1, 2, 3] rfl ⟨rfl, rfl, rfl, rfl, trivial⟩ trivial rfl, ?_⟩
        conv => whnf
        exact ⟨rfl, .inl ⟨q4, hq4, hnv, rfl⟩⟩
      · have hlt : x4 < N.length := by
          rcases Nat.lt_or_ge x4 N.length with h | h
          · exact h
          · exact absurd (.inl (by omega)) hbad
        have hb4 : b4 = false := by
          cases b4 with
          | false => rfl
          | true => exact absurd (.inr rfl) hbad
        subst hb4
        have e : (decide (((tcs N).length : Int) - 1 - (x4 : Int) < 0) || false) = false := by rw [decide_eq_false (by omega)]; rfl
        have hkt : (((tcs N).length : Int) - 1 - (x4 : Int)).toNat = N.length - 1 - x4 := by omega
        obtain ⟨u0, hu0⟩ : ∃ u, N[N.length - 1 - x4]? = some u := ⟨_, List.getElem?_eq_getElem (by omega)⟩
        obtain ⟨zk, hzk⟩ : ∃ u, Z[N.length - 1 - x4]? = some u := ⟨_, List.getElem?_eq_getElem (by omega)⟩
        obtain ⟨dk, hdk⟩ : ∃ u, D[N.length - 1 - x4]? = some u := ⟨_, List.getElem?_eq_getElem (by omega)⟩
        have hzkb := hZ zk (List.mem_of_getElem? hzk)
        have hdkb := hD dk (List.mem_of_getElem? hdk)
        have hrz := rowN_at hzk
        have hrd := rowN_at hdk
        have hru := tcs_at N _ u0 hu0
        rw [← hkt] at hrz hrd hru
        have hV5 : V → ∃ rem, t.ts = acc ++ u0 :: rem ∧ rem.length = m ∧ l.drop q4 = ((rem.map (pl B)).flatMap (fun k => digs (i - k - 1))) ++ r ∧ (z : Int) + zk = 1 + szL (acc ++ [u0]) ∧ max (d : Int) (1 + dk) = 1 + dpL (acc ++ [u0]) ∧ (z : Int) + zk ≤ 600 ∧ max (d : Int) (1 + dk) ≤ 40 := fun hv => by
          obtain ⟨u, rem, g1, g2, g3, g4, g5, g6, g7, g8⟩ := hV4 hv
          have h := hV hv
          have hib := (List.getElem?_eq_some_iff.1 h.fa).1
          have hni : N.length = i := by rw [h.fn, List.length_take]; omega
          have hum : u ∈ B := h.fg.kid (List.mem_of_getElem? h.fa) (by rw [g1]; simp)
          have hBu := pl_at hum
          have hj : N.length - 1 - x4 = pl B u := by omega
          rw [hj, h.fn, List.getElem?_take, if_pos g3, hBu] at hu0
          injection hu0 with hu0
          rw [hj, h.fz, List.getElem?_map, List.getElem?_take, if_pos g3, hBu] at hzk
          injection hzk with hzk
          rw [hj, h.fd, List.getElem?_map, List.getElem?_take, if_pos g3, hBu] at hdk
          injection hdk with hdk
          subst hu0
          have hz1 := szT_pos u
          have hd1 := dpT_pos u
          have e1 : szT t = 1 + szL t.ts := by cases t; rw [szT]; rfl
          have e2 : dpT t = 1 + dpL t.ts := by cases t; rw [dpT]; rfl
          have e3 : szL t.ts = szL acc + szT u + szL rem := by rw [g1, szL_app, szL]; omega
          have e4 : szL (acc ++ [u]) = szL acc + szT u := by rw [szL_app]; simp [szL]
          have e5 := dpL_snoc acc u
          have e6 : dpL (acc ++ [u]) ≤ dpL t.ts := by
            rw [g1, show acc ++ u :: rem = (acc ++ [u]) ++ rem by simp]
            exact dpL_app _ _
          have e7 := h.sz t (List.mem_of_getElem? h.fa)
          have e8 := h.dp t (List.mem_of_getElem? h.fa)
          have e9 := szL_pos rem
          unfold szN at hzk
          unfold dpN at hdk
          exact ⟨rem, g1, g2, g6, by omega, by omega, by omega, by omega⟩
        rw [e]
        (refine ⟨fun h => absurd h ?_, fun _ => ?_⟩; (focus (first | decide | (simp; done) | (simp [tcs]; done))); conv => whnf)
        repeat ((first | refine aI rfl ?_ | refine aI (by decide) ?_ | refine dI (by kernel_rfl) ?_ | refine aI ⟨by omega, by omega⟩ ?_ | refine aI (by omega) ?_ | refine aI (fun _ => ⟨by omega, by omega⟩) ?_ | refine aI (of_decide_eq_true rfl) ?_ | (refine yI ?_ ?_; focus (first | decide | (simp; done) | (simp [tcs]; done))) | (refine nI ?_ ?_; focus (first | decide | (simp; done) | (simp [tcs]; done))) | intro _); conv => whnf)
        refine ⟨[.int .i64 zk], hrz, show 0 + 1 ≤ 1 by decide, ?_⟩
        conv => whnf
        repeat ((first | refine aI rfl ?_ | refine aI (by decide) ?_ | refine dI (by kernel_rfl) ?_ | refine aI ⟨by omega, by omega⟩ ?_ | refine aI (by omega) ?_ | refine aI (fun _ => ⟨by omega, by omega⟩) ?_ | refine aI (of_decide_eq_true rfl) ?_ | (refine yI ?_ ?_; focus (first | decide | (simp; done) | (simp [tcs]; done))) | (refine nI ?_ ?_; focus (first | decide | (simp; done) | (simp [tcs]; done))) | intro _); conv => whnf)
        refine ⟨[.int .i64 dk], hrd, show 0 + 1 ≤ 1 by decide, ?_⟩
        conv => whnf
        repeat ((first | refine aI rfl ?_ | refine aI (by decide) ?_ | refine dI (by kernel_rfl) ?_ | refine aI ⟨by omega, by omega⟩ ?_ | refine aI (by omega) ?_ | refine aI (fun _ => ⟨by omega, by omega⟩) ?_ | refine aI (of_decide_eq_true rfl) ?_ | (refine yI ?_ ?_; focus (first | decide | (simp; done) | (simp [tcs]; done))) | (refine nI ?_ ?_; focus (first | decide | (simp; done) | (simp [tcs]; done))) | intro _); conv => whnf)
        obtain ⟨z2, ez, hz3⟩ : ∃ z2 : Nat, (if (z : Int) + (zk : Int) < 601 then (z : Int) + (zk : Int) else 601) = (z2 : Int) ∧ (z2 = z + zk ∨ (z2 = 601 ∧ 601 ≤ z + zk)) := by
          by_cases h : z + zk < 601
          · exact ⟨z + zk, by rw [if_pos (by omega)]; omega, .inl rfl⟩
          · exact ⟨601, by rw [if_neg (by omega)]; rfl, .inr ⟨rfl, by omega⟩⟩
        obtain ⟨d2, ed, hd3⟩ : ∃ d2 : Nat, (if (d : Int) < 1 + (dk : Int) then 1 + (dk : Int) else (d : Int)) = (d2 : Int) ∧ d2 = max d (1 + dk) := by
          by_cases h : d < 1 + dk
          · exact ⟨1 + dk, by rw [if_pos (by omega)]; omega, by omega⟩
          · exact ⟨d, by rw [if_neg (by omega)], by omega⟩
        rw [ez, ed]
        by_cases hbig : 600 < z2 ∨ 40 < d2
        · have e : (decide ((600 : Int) < (z2 : Int)) || decide ((40 : Int) < (d2 : Int))) = true := by
            rcases hbig with h | h
            · rw [decide_eq_true (by omega)]; rfl
            · rw [decide_eq_true (show (40 : Int) < (d2 : Int) by omega)]; simp
          have hnv : ¬ V := fun hv => by
            obtain ⟨rem, g1, g2, g3, g4, g5, g6, g7⟩ := hV5 hv
            omega
          rw [e]
          (refine ⟨fun _ => ?_, fun h => absurd h ?_⟩; rotate_left; (focus (first | decide | (simp; done) | (simp [tcs]; done))); conv => whnf)
          repeat ((first | refine aI rfl ?_ | refine aI (by decide) ?_ | refine dI (by kernel_rfl) ?_ | refine aI ⟨by omega, by omega⟩ ?_ | refine aI (by omega) ?_ | refine aI (fun _ => ⟨by omega, by omega⟩) ?_ | refine aI (of_decide_eq_true rfl) ?_ | (refine yI ?_ ?_; focus (first | decide | (simp; done) | (simp [tcs]; done))) | (refine nI ?_ ?_; focus (first | decide | (simp; done) | (simp [tcs]; done))) | intro _); conv => whnf)
          refine ⟨[], rrH l q4 true N Z D, Wk.sl [0, 1, 2, 3] rfl ⟨rfl, rfl, rfl, rfl, trivial⟩ trivial rfl, ?_⟩
          conv => whnf
          exact ⟨rfl, .inl ⟨q4, hq4, hnv, rfl⟩⟩
        · have e : (decide ((600 : Int) < (z2 : Int)) || decide ((40 : Int) < (d2 : Int))) = false := by
            rw [decide_eq_false (by omega), decide_eq_false (by omega)]
            rfl
          have hst : tcs (acc ++ [u0]) = tcs acc ++ [tc u0] := tcs_snoc19 acc u0
          have hta := len_tcs acc
          have hb1 : ((tcs acc).length + 1) * 48 ≤ 140737488355328 := by omega
          have hb2 : (tcs acc).length + 1 ≤ 9223372036854775807 := by omega
          obtain ⟨k', l2', n', us⟩ := u0
          replace hru : (tcs N)[(((tcs N).length : Int) - 1 - (x4 : Int)).toNat]? = some [.int .i64 k', .int .i64 l2', .int .i64 n', .sl 4 48 (tcs us)] := hru
          rw [e]
          (refine ⟨fun h => absurd h ?_, fun _ => ?_⟩; (focus (first | decide | (simp; done) | (simp [tcs]; done))); conv => whnf)
          repeat ((first | refine aI rfl ?_ | refine aI (by decide) ?_ | refine dI (by kernel_rfl) ?_ | refine aI ⟨by omega, by omega⟩ ?_ | refine aI (by omega) ?_ | refine aI (fun _ => ⟨by omega, by omega⟩) ?_ | refine aI (of_decide_eq_true rfl) ?_ | (refine yI ?_ ?_; focus (first | decide | (simp; done) | (simp [tcs]; done))) | (refine nI ?_ ?_; focus (first | decide | (simp; done) | (simp [tcs]; done))) | intro _); conv => whnf)
          refine ⟨[.int .i64 k', .int .i64 l2', .int .i64 n', .sl 4 48 (tcs us)], hru, show 0 + 4 ≤ 4 by decide, ?_⟩
          conv => whnf
          repeat ((first | refine aI rfl ?_ | refine aI (by decide) ?_ | refine dI (by kernel_rfl) ?_ | refine aI ⟨by omega, by omega⟩ ?_ | refine aI (by omega) ?_ | refine aI (fun _ => ⟨by omega, by omega⟩) ?_ | refine aI (of_decide_eq_true rfl) ?_ | (refine yI ?_ ?_; focus (first | decide | (simp; done) | (simp [tcs]; done))) | (refine nI ?_ ?_; focus (first | decide | (simp; done) | (simp [tcs]; done))) | intro _); conv => whnf)
          rw [show ((m + 1 : Nat) : Int) - 1 = (m : Int) by omega]
          refine ⟨m, _, _, by omega, ⟨q4, false, acc ++ [.mk k' l2' n' us], z2, d2, hq4, by rw [List.length_append, List.length_singleton]; omega, by omega, by omega, by omega, by omega, rfl, rfl, fun hv => ?_⟩, Wk.sl [0, 1, 2, 3, 4, 7] rfl ⟨rfl, rfl, rfl, rfl, rfl, ?_, trivial⟩ ⟨rfl, rfl, rfl, rfl, rfl, trivial⟩ rfl⟩
          · obtain ⟨rem, g1, g2, g3, g4, g5, g6, g7⟩ := hV5 hv
            exact ⟨rem, rfl, by rw [g1]; simp, g2, g3, by omega, by omega⟩
          · rw [hst]
            rfl
end Go.Tr
/- The reference's reader: Unpack. -/
namespace Go.Tr
open Go.Proofs
def nodesF (B : List Term) : Nat → Nat → List UInt8
  | _, 0 => []
  | i, k + 1 => (match B[i]? with | some t => nodeB B i t | none => []) ++ nodesF B (i + 1) k
theorem nodesB_F (B : List Term) : ∀ k i, nodesB B (i + k) = nodesB B i ++ nodesF B i k
  | 0, i => by simp [nodesF]
  | k + 1, i => by
    have := nodesB_F B k (i + 1)
    rw [show i + (k + 1) = i + 1 + k by omega, this, nodesB, nodesF, List.append_assoc]
    cases B[i]? <;> rfl
theorem dcs_snoc2 (l : List Dcl) (d : Dcl) : dcs (l ++ [d]) = dcs l ++ [dc d] := by simp [dcs]
theorem nodesF_len (B : List Term) : ∀ k i, i + k ≤ B.length → k ≤ (nodesF B i k).length
  | 0, _, _ => by omega
  | k + 1, i, h => by
    have := nodesF_len B k (i + 1) (by omega)
    have hu : B[i]? = some B[i] := List.getElem?_eq_getElem (by omega)
    rw [nodesF, hu, List.length_append]
    have : 0 < (nodeB B i B[i]).length := by unfold nodeB; simp only [List.length_append, List.length_singleton]; omega
    simp only
    omega
theorem sub_dp : ∀ (u : Term), ∀ t ∈ subT u, dpT t ≤ dpT u := by
  intro u
  induction u using Term.ind with
  | _ u ih =>
  obtain ⟨k, l, n, ts⟩ := u
  intro t ht
  rw [subT] at ht
  rcases List.mem_cons.1 ht with rfl | ht
  · exact Int.le_refl _
  · obtain ⟨v, hv, htv⟩ := (subL_iff ts t).1 ht
    have h1 := ih v hv t htv
    have h2 : ∀ (L : List Term), v ∈ L → dpT v ≤ dpL L := fun L => by
      induction L with
      | nil => intro h; cases h
      | cons a L ihL =>
        intro h
        simp only [dpL, mx_max]
        rcases List.mem_cons.1 h with rfl | h
        · omega
        · have := ihL h; omega
    have := h2 ts hv
    rw [dpT]
    omega
theorem bk_dp {c : Crt} (h : builtB c = true) : ∀ t ∈ nodesOf c, dpT t ≤ 40 := fun t ht => by
  have hok := built_ok h
  have h1 : t ∈ adL ((crl c).take (crl c).length) [] := ht
  rw [List.take_length] at h1
  have h2 := (adL_iff (fun t h => (hok.sane.t t h).1) t).1 h1
  obtain ⟨u, hu, htu⟩ := (subL_iff _ t).1 h2
  have h3 := sub_dp u t htu
  unfold builtB at h
  simp only [Bool.and_eq_true, List.all_eq_true] at h
  have h4 := h.2 u hu
  unfold closedT at h4
  simp only [Bool.and_eq_true] at h4
  have := propT_dp u 1 0 h4.1
  omega
structure PkV (c : Crt) (B : List Term) (l5 : List UInt8) : Prop where
  nb : B = nodesOf c
  gg : Good B
  sz : ∀ t ∈ B, szT t ≤ 600
  dp : ∀ t ∈ B, dpT t ≤ 40
  bl : B.length < 1000000
  sl : c.S.length ≤ 100
  xl : c.X.length ≤ 30
  ms : ∀ x ∈ c.S, x.c ∈ B ∧ x.s.size ≤ 16 ∧ 0 ≤ x.i ∧ x.i ≤ 600
  mx : ∀ t ∈ c.X, t ∈ B
  mo : c.o ∈ B
  mc : c.c ∈ B
  le : l5 = digs B.length ++ (nodesF B 0 B.length ++ (digs c.S.length ++ ((c.S.flatMap fun x => declB x (pl B x.c)) ++ (digs c.X.length ++ ((c.X.flatMap fun t => digs (pl B t)) ++ (digs (pl B c.o) ++ digs (pl B c.c)))))))
theorem pkV_of {c : Crt} (h : builtB c = true) : PkV c (nodesOf c) ((pk c).drop 3) := by
  have hok := built_ok h
  obtain ⟨hg, hm, hl⟩ := bk_good hok.sane (crl c).length
  have hsz := bk_sz hok.sane (crl c).length
  have hsa := szL_all (crl c) fun u hu => (hok.sane.t u hu).2
  have hcl := crl_len c
  have hS := hok.sane.S
  have hX := hok.X
  have hnm := hok.names
  rw [List.take_length] at hm hl
  have hR : rt c (crl c).length = (crl c).map (pl (bk c (crl c).length)) := by unfold rt; rw [List.take_length]
  refine ⟨rfl, hg, hsz, bk_dp h, by show (bk c (crl c).length).length < 1000000; omega, hS, hX, fun x hx => ⟨hm _ (by unfold crl; simp only [List.mem_append, List.mem_map]; exact .inl ⟨x, hx, rfl⟩), hnm x hx⟩, fun t ht => hm _ (by unfold crl; simp [ht]), hm _ (by unfold crl; simp), hm _ (by unfold crl; simp), ?_⟩
  have e : nodesB (nodesOf c) (nodesOf c).length = nodesF (nodesOf c) 0 (nodesOf c).length := by
    have := nodesB_F (nodesOf c) (nodesOf c).length 0
    rw [Nat.zero_add, nodesB, List.nil_append] at this
    exact this
  unfold pk
  rw [packL_eq _ _ hR]
  rw [show bk c (crl c).length = nodesOf c from rfl, e]
  rfl
set_option maxHeartbeats 8000000 in
theorem cRUnpack0 (V : Prop) (c0 : Crt) (B : List Term) (l : List UInt8) (hl : l.length ≤ 400000) (hsl : sealedB l = true) (hV : V → PkV c0 B ((l.take (l.length - 4)).drop 3) ∧ builtB c0 = true ∧ packB c0 = l) :
    CallSt Tryz.prog 17 [.c (.str (sB l))] [] (fun r H' => (¬ V ∧ r = .tup [crv crtZ, .c (.bool false)] ∨ ∃ c, builtB c = true ∧ packB c = l ∧ r = .tup [crv c, .c (.bool true)]) ∧ H' = []) := by
  have hsz := sB_size l
  unfold sealedB at hsl
  simp only [Bool.and_eq_true, decide_eq_true_eq] at hsl
  obtain ⟨⟨⟨g1, g2⟩, g3⟩, g4⟩ := hsl
  have e1 : decide ((60000 : Int) < ((sB l).size : Int)) = false := decide_eq_false (by omega)
  have e2 : decide (((sB l).size : Int) < 7) = false := decide_eq_false (by omega)
  have e3 : (sB l).extract (Int.toNat 0) (Int.toNat 3) = (⟨#[116, 114, 49]⟩ : ByteArray) := by
    rw [sB_extract]
    have : (l.take (Int.toNat 3)).drop (Int.toNat 0) = [116, 114, 49] := g3
    rw [this]
    rfl
  have e3' : decide ((sB l).extract (Int.toNat 0) (Int.toNat 3) = (⟨#[116, 114, 49]⟩ : ByteArray)) = true := decide_eq_true e3
  have hx4 : (((sB l).size : Int) - 4).toNat = l.length - 4 := by rw [hsz]; omega
  have e4 : (sB l).extract (Int.toNat 0) (((sB l).size : Int) - 4).toNat = sB (l.take (l.length - 4)) := by rw [sB_extract, hx4]; rfl
  have e5 : (sB l).extract (Int.toNat 3) (((sB l).size : Int) - 4).toNat = sB ((l.take (l.length - 4)).drop 3) := by rw [sB_extract, hx4]; rfl
  have hse := cRSeal (sB (l.take (l.length - 4))) (by rw [sB_size, List.length_take]; omega)
  rw [sB_list, g4] at hse
  have e6 : decide ((⟨l.toArray⟩ : ByteArray) = sB l) = true := decide_eq_true rfl
  have hl5 : ((l.take (l.length - 4)).drop 3).length ≤ 400000 := by rw [List.length_drop, List.length_take]; omega
  generalize (l.take (l.length - 4)).drop 3 = l5 at *
  have hsz5 := sB_size l5
  obtain ⟨R1, hR1⟩ : ∃ R1 : List UInt8, R1 = (digs c0.S.length ++ ((c0.S.flatMap fun x => declB x (pl B x.c)) ++ (digs c0.X.length ++ ((c0.X.flatMap fun t => digs (pl B t)) ++ (digs (pl B c0.o) ++ digs (pl B c0.c)))))) := ⟨_, rfl⟩
  obtain ⟨R2, hR2⟩ : ∃ R2 : List UInt8, R2 = (digs c0.X.length ++ ((c0.X.flatMap fun t => digs (pl B t)) ++ (digs (pl B c0.o) ++ digs (pl B c0.c)))) := ⟨_, rfl⟩
  obtain ⟨R3, hR3⟩ : ∃ R3 : List UInt8, R3 = digs (pl B c0.o) ++ digs (pl B c0.c) := ⟨_, rfl⟩
  refine call_pure (E := env 0) (fn := Tryz.f17) (c := bodyOf Tryz.f17) (env_ok 0) mixed (by kernel_rfl) (by kernel_rfl) (by kernel_rfl) (by kernel_rfl) (by kernel_rfl) (by kernel_rfl) rfl ?_
  conv => whnf
  repeat ((first | refine aI rfl ?_ | refine aI (by decide) ?_ | refine dI (by kernel_rfl) ?_ | refine aI ⟨by omega, by omega⟩ ?_ | refine aI (by omega) ?_ | refine aI (fun _ => ⟨by omega, by omega⟩) ?_ | refine aI (of_decide_eq_true rfl) ?_ | (refine yI ?_ ?_; focus (first | decide | (simp; done) | (simp [tcs]; done))) | (refine nI ?_ ?_; focus (first | decide | (simp; done) | (simp [tcs]; done))) | intro _); conv => whnf)
  rw [e1]
  repeat ((first | refine aI rfl ?_ | refine aI (by decide) ?_ | refine dI (by kernel_rfl) ?_ | refine aI ⟨by omega, by omega⟩ ?_ | refine aI (by omega) ?_ | refine aI (fun _ => ⟨by omega, by omega⟩) ?_ | refine aI (of_decide_eq_true rfl) ?_ | (refine yI ?_ ?_; focus (first | decide | (simp; done) | (simp [tcs]; done))) | (refine nI ?_ ?_; focus (first | decide | (simp; done) | (simp [tcs]; done))) | intro _); conv => whnf)
  rw [e2, e3', e4]
  (refine ⟨fun _ => ?_, fun h => absurd h (by simp)⟩; conv => whnf)
  try (refine dI (by kernel_rfl) ?_; conv => whnf)
  first | refine CallSt.use hse [] trivial (by decide) rfl ?_ | refine CallPt.useS hse [] trivial (by decide) rfl ?_
  rintro _ _ ⟨rfl, rfl⟩ _
  conv => whnf
  repeat ((first | refine aI rfl ?_ | refine aI (by decide) ?_ | refine dI (by kernel_rfl) ?_ | refine aI ⟨by omega, by omega⟩ ?_ | refine aI (by omega) ?_ | refine aI (fun _ => ⟨by omega, by omega⟩) ?_ | refine aI (of_decide_eq_true rfl) ?_ | (refine yI ?_ ?_; focus (first | decide | (simp; done) | (simp [tcs]; done))) | (refine nI ?_ ?_; focus (first | decide | (simp; done) | (simp [tcs]; done))) | intro _); conv => whnf)
  rw [e6]
  repeat ((first | refine aI rfl ?_ | refine aI (by decide) ?_ | refine dI (by kernel_rfl) ?_ | refine aI ⟨by omega, by omega⟩ ?_ | refine aI (by omega) ?_ | refine aI (fun _ => ⟨by omega, by omega⟩) ?_ | refine aI (of_decide_eq_true rfl) ?_ | (refine yI ?_ ?_; focus (first | decide | (simp; done) | (simp [tcs]; done))) | (refine nI ?_ ?_; focus (first | decide | (simp; done) | (simp [tcs]; done))) | intro _); conv => whnf)
  rw [e5]
  refine CallSt.wk _ (Wk.trans (Wk.nilrow (i := 1) (j := 3) 25 4 48 rfl rfl rfl) (Wk.trans (Wk.nilrow (i := 1) (j := 4) 3 1 8 rfl rfl rfl) (Wk.nilrow (i := 1) (j := 5) 3 1 8 rfl rfl rfl))) ?_
  have hs1 := cRRSize l5 0 false [] [] [] (by omega) (by omega)
  try (refine dI (by kernel_rfl) ?_; conv => whnf)
  first | refine CallSt.use hs1 [1, 2, 3, 4] ⟨rfl, rfl, rfl, rfl, trivial⟩ (by decide) rfl ?_ | refine CallPt.useS hs1 [1, 2, 3, 4] ⟨rfl, rfl, rfl, rfl, trivial⟩ (by decide) rfl ?_
  rintro _ _ ⟨n, q1, b1, rfl, rfl, hn, hT1⟩ _
  conv => whnf
  have hV1 : V → n = B.length ∧ b1 = false ∧ l5.drop q1 = nodesF B 0 B.length ++ R1 := fun hv => by
    have h := (hV hv).1
    have hfg : B.length ≤ (nodesF B 0 B.length).length := nodesF_len B B.length 0 (by omega)
    obtain ⟨h1, h2, h3⟩ := hT1 rfl B.length (nodesF B 0 B.length ++ R1) (by have := h.bl; omega) (by rw [List.drop_zero, hR1]; exact h.le) (by rw [List.length_append]; omega)
    exact ⟨h1, h2, h3⟩
  repeat ((first | refine aI rfl ?_ | refine aI (by decide) ?_ | refine dI (by kernel_rfl) ?_ | refine aI ⟨by omega, by omega⟩ ?_ | refine aI (by omega) ?_ | refine aI (fun _ => ⟨by omega, by omega⟩) ?_ | refine aI (of_decide_eq_true rfl) ?_ | (refine yI ?_ ?_; focus (first | decide | (simp; done) | (simp [tcs]; done))) | (refine nI ?_ ?_; focus (first | decide | (simp; done) | (simp [tcs]; done))) | intro _); conv => whnf)
  refine loop_intro (fun m tm H => ∃ (i q : Nat) (b : Bool) (N : List Term) (Z D : List Nat), n = m + i ∧ q ≤ l5.length ∧ Z.length = N.length ∧ D.length = N.length ∧ N.length ≤ i ∧ (∀ x ∈ Z, x ≤ 600) ∧ (∀ x ∈ D, x ≤ 40) ∧
      tm = [(5, .c (.int .i64 (m))), (4, .ptr 1 0), (2, .ptr 0 0), (0, .c (.str (sB l)))] ∧ H = [.box [.nil, .nil, .c (.int .i64 (0)), .c (.int .i64 (0)), .c (.int .i64 (0)), .nil, .c (.int .i64 (0)), .c (.int .i64 (0)), .c (.int .i64 (0)), .nil], .box [.c (.str (sB l5)), .c (.int .i64 (q)), .c (.bool b), .own 2, .own 3, .own 4], .row 25 4 48 (tcs N), .row 3 1 8 (rowN Z), .row 3 1 8 (rowN D)] ∧
      (V → n = B.length ∧ b = false ∧ N = B.take i ∧ Z = (B.take i).map szN ∧ D = (B.take i).map dpN ∧ l5.drop q = nodesF B i m ++ R1))
    n _ _ ⟨0, q1, b1, [], [], [], rfl, by omega, rfl, rfl, by simp, fun x hx => (nomatch hx), fun x hx => (nomatch hx), rfl, rfl, fun hv => by
      obtain ⟨h1, h2, h3⟩ := hV1 hv
      exact ⟨h1, h2, by simp, by simp, by simp, by rw [h1]; exact h3⟩⟩ (Wk.sl [0, 1, 2, 3, 4] rfl ⟨rfl, rfl, rfl, rfl, rfl, trivial⟩ ⟨rfl, rfl, rfl, rfl, trivial⟩ rfl) ?_
  rintro m tm H ⟨i, q, b, N, Z, D, hi, hq, hNZ, hND, hNi, hZ, hD, rfl, rfl, hVi⟩
  conv => whnf
  repeat ((first | refine aI rfl ?_ | refine aI (by decide) ?_ | refine dI (by kernel_rfl) ?_ | refine aI ⟨by omega, by omega⟩ ?_ | refine aI (by omega) ?_ | refine aI (fun _ => ⟨by omega, by omega⟩) ?_ | refine aI (of_decide_eq_true rfl) ?_ | (refine yI ?_ ?_; focus (first | decide | (simp; done) | (simp [tcs]; done))) | (refine nI ?_ ?_; focus (first | decide | (simp; done) | (simp [tcs]; done))) | intro _); conv => whnf)
  by_cases hend : ¬ (m = 0 ∨ b = true)
  · have hm1 : 0 < m := by
      rcases Nat.eq_zero_or_pos m with h | h
      · exact absurd (.inl h) hend
      · exact h
    have hb1 : b = false := by
      cases b with
      | false => rfl
      | true => exact absurd (.inr rfl) hend
    obtain ⟨m, rfl⟩ : ∃ m', m = m' + 1 := ⟨m - 1, by omega⟩
    have e : (decide ((0 : Int) < ((m + 1 : Nat) : Int)) && !b) = true := by rw [hb1, decide_eq_true (by omega)]; rfl
    have hnd := cRRNode V B i ((B[i]?).getD (.mk 0 0 0 [])) (nodesF B (i + 1) m ++ R1) l5 q b N Z D hq (by omega) hNZ hND hZ hD (by omega) (fun hv => by
      have h := (hV hv).1
      obtain ⟨f1, f2, f3, f4, f5, f6⟩ := hVi hv
      have hu : B[i]? = some B[i] := List.getElem?_eq_getElem (by omega)
      rw [nodesF, hu, List.append_assoc] at f6
      rw [hu]
      exact ⟨f2, f6, f3, f4, f5, h.gg, hu, h.sz, h.dp, h.bl⟩)
    rw [e]
    (refine ⟨fun _ => ?_, fun h => absurd h ?_⟩; rotate_left; (focus (first | decide | (simp; done) | (simp [tcs]; done))); conv => whnf)
    try (refine dI (by kernel_rfl) ?_; conv => whnf)
    first | refine CallSt.use hnd [1, 2, 3, 4] ⟨rfl, rfl, rfl, rfl, trivial⟩ (by decide) rfl ?_ | refine CallPt.useS hnd [1, 2, 3, 4] ⟨rfl, rfl, rfl, rfl, trivial⟩ (by decide) rfl ?_
    rintro _ _ ⟨rfl, (⟨q2, hq2, hnv, rfl⟩ | ⟨u, z, d, q2, b2, hq2, hz, hd, hVn, rfl⟩)⟩ _
    conv => whnf
    · repeat ((first | refine aI rfl ?_ | refine aI (by decide) ?_ | refine dI (by kernel_rfl) ?_ | refine aI ⟨by omega, by omega⟩ ?_ | refine aI (by omega) ?_ | refine aI (fun _ => ⟨by omega, by omega⟩) ?_ | refine aI (of_decide_eq_true rfl) ?_ | (refine yI ?_ ?_; focus (first | decide | (simp; done) | (simp [tcs]; done))) | (refine nI ?_ ?_; focus (first | decide | (simp; done) | (simp [tcs]; done))) | intro _); conv => whnf)
      rw [show ((m + 1 : Nat) : Int) - 1 = (m : Int) by omega]
      exact ⟨m, _, _, by omega, ⟨i + 1, q2, true, N, Z, D, by omega, hq2, hNZ, hND, by omega, hZ, hD, rfl, rfl, fun hv => absurd hv hnv⟩, Wk.sl [0, 1, 2, 3, 4] rfl ⟨rfl, rfl, rfl, rfl, rfl, trivial⟩ ⟨rfl, rfl, rfl, rfl, trivial⟩ rfl⟩
    · repeat ((first | refine aI rfl ?_ | refine aI (by decide) ?_ | refine dI (by kernel_rfl) ?_ | refine aI ⟨by omega, by omega⟩ ?_ | refine aI (by omega) ?_ | refine aI (fun _ => ⟨by omega, by omega⟩) ?_ | refine aI (of_decide_eq_true rfl) ?_ | (refine yI ?_ ?_; focus (first | decide | (simp; done) | (simp [tcs]; done))) | (refine nI ?_ ?_; focus (first | decide | (simp; done) | (simp [tcs]; done))) | intro _); conv => whnf)
      rw [show ((m + 1 : Nat) : Int) - 1 = (m : Int) by omega]
      refine ⟨m, _, _, by omega, ⟨i + 1, q2, b2, N ++ [u], Z ++ [z], D ++ [d], by omega, hq2, by simp [hNZ], by simp [hND], by simp; omega, fun x hx => ?_, fun x hx => ?_, rfl, rfl, fun hv => ?_⟩, Wk.sl [0, 1, 5, 6, 7] rfl ⟨rfl, rfl, rfl, rfl, rfl, trivial⟩ ⟨rfl, rfl, rfl, rfl, trivial⟩ rfl⟩
      · rcases List.mem_append.1 hx with h | h
        · exact hZ x h
        · rw [List.mem_singleton.1 h]; exact hz
      · rcases List.mem_append.1 hx with h | h
        · exact hD x h
        · rw [List.mem_singleton.1 h]; exact hd
      · obtain ⟨f1, f2, f3, f4, f5, f6⟩ := hVi hv
        obtain ⟨k1, k2, k3, k4, k5⟩ := hVn hv
        have hu : B[i]? = some B[i] := List.getElem?_eq_getElem (by omega)
        rw [hu] at k1 k2 k3
        simp only [Option.getD_some] at k1 k2 k3
        refine ⟨f1, k4, ?_, ?_, ?_, k5⟩
        · rw [f3, k1, List.take_add_one, hu]; rfl
        · rw [f4, k2, List.take_add_one, hu, List.map_append]; rfl
        · rw [f5, k3, List.take_add_one, hu, List.map_append]; rfl
  · have e : (decide ((0 : Int) < (m : Int)) && !b) = false := by
      rcases Nat.eq_zero_or_pos m with h | h
      · rw [h]; rfl
      · cases b with
        | false => exact absurd (fun h2 => by rcases h2 with h2 | h2; omega; cases h2) hend
        | true => simp
    have hV2 : V → b = false ∧ N = B ∧ l5.drop q = R1 := fun hv => by
      obtain ⟨f1, f2, f3, f4, f5, f6⟩ := hVi hv
      have hm0 : m = 0 := by
        rcases Nat.eq_zero_or_pos m with h | h
        · exact h
        · exact absurd (fun h2 => by rcases h2 with h2 | h2; omega; rw [f2] at h2; cases h2) hend
      subst hm0
      refine ⟨f2, ?_, f6⟩
      rw [f3, List.take_of_length_le (by omega)]
    rw [e]
    (refine ⟨fun h => absurd h ?_, fun _ => ?_⟩; (focus (first | decide | (simp; done) | (simp [tcs]; done))); conv => whnf)
    repeat ((first | refine aI rfl ?_ | refine aI (by decide) ?_ | refine dI (by kernel_rfl) ?_ | refine aI ⟨by omega, by omega⟩ ?_ | refine aI (by omega) ?_ | refine aI (fun _ => ⟨by omega, by omega⟩) ?_ | refine aI (of_decide_eq_true rfl) ?_ | (refine yI ?_ ?_; focus (first | decide | (simp; done) | (simp [tcs]; done))) | (refine nI ?_ ?_; focus (first | decide | (simp; done) | (simp [tcs]; done))) | intro _); conv => whnf)
    have hs2 := cRRSize l5 q b N Z D hq (by omega)
    try (refine dI (by kernel_rfl) ?_; conv => whnf)
    first | refine CallSt.use hs2 [1, 2, 3, 4] ⟨rfl, rfl, rfl, rfl, trivial⟩ (by decide) rfl ?_ | refine CallPt.useS hs2 [1, 2, 3, 4] ⟨rfl, rfl, rfl, rfl, trivial⟩ (by decide) rfl ?_
    rintro _ _ ⟨k2, q2, b2, rfl, rfl, hk2, hT2⟩ _
    conv => whnf
    have hV3 : V → k2 = c0.S.length ∧ b2 = false ∧ N = B ∧ l5.drop q2 = (c0.S.flatMap fun x => declB x (pl B x.c)) ++ R2 := fun hv => by
      have h := (hV hv).1
      obtain ⟨f1, f2, f3⟩ := hV2 hv
      have hfl := flat_ge (fun x => declB x (pl B x.c)) c0.S fun x _ => by unfold declB; have := digs_pos x.s.size; simp only [List.length_append]; omega
      obtain ⟨h1, h2, h3⟩ := hT2 f1 c0.S.length ((c0.S.flatMap fun x => declB x (pl B x.c)) ++ R2) (by have := h.sl; omega) (by rw [f3, hR1, hR2]) (by rw [List.length_append]; omega)
      exact ⟨h1, h2, f2, h3⟩
    clear hVi hV2 hT2
    repeat ((first | refine aI rfl ?_ | refine aI (by decide) ?_ | refine dI (by kernel_rfl) ?_ | refine aI ⟨by omega, by omega⟩ ?_ | refine aI (by omega) ?_ | refine aI (fun _ => ⟨by omega, by omega⟩) ?_ | refine aI (of_decide_eq_true rfl) ?_ | (refine yI ?_ ?_; focus (first | decide | (simp; done) | (simp [tcs]; done))) | (refine nI ?_ ?_; focus (first | decide | (simp; done) | (simp [tcs]; done))) | intro _); conv => whnf)
    refine loop_intro (fun m tm H => ∃ (j q : Nat) (b : Bool) (acc : List Dcl), k2 = m + j ∧ q ≤ l5.length ∧ acc.length = j ∧
        tm = [(7, .c (.int .i64 (m))), (6, .ptr 5 0), (4, .ptr 1 0), (2, .ptr 0 0), (0, .c (.str (sB l)))] ∧ H = [.box [.nil, .nil, .c (.int .i64 (0)), .c (.int .i64 (0)), .c (.int .i64 (0)), .nil, .c (.int .i64 (0)), .c (.int .i64 (0)), .c (.int .i64 (0)), .nil], .box [.c (.str (sB l5)), .c (.int .i64 (q)), .c (.bool b), .own 2, .own 3, .own 4], .row 25 4 48 (tcs N), .row 3 1 8 (rowN Z), .row 3 1 8 (rowN D), .box [.own 6, .nil, .c (.int .i64 (0)), .c (.int .i64 (0)), .c (.int .i64 (0)), .nil, .c (.int .i64 (0)), .c (.int .i64 (0)), .c (.int .i64 (0)), .nil], .row 49 6 72 (dcs acc)] ∧
        (V → k2 = c0.S.length ∧ b = false ∧ N = B ∧ acc = c0.S.take j ∧ l5.drop q = ((c0.S.drop j).flatMap fun x => declB x (pl B x.c)) ++ R2))
      k2 _ _ ⟨0, q2, b2, [], rfl, by omega, rfl, rfl, rfl, fun hv => by
        obtain ⟨h1, h2, h3, h4⟩ := hV3 hv
        exact ⟨h1, h2, h3, by simp, by rw [List.drop_zero]; exact h4⟩⟩ ?_ ?_
    · refine Wk.trans (Wk.nilrow (i := 5) (j := 0) 49 6 72 rfl rfl rfl) ?_
      exact Wk.sl [0, 1, 2, 3, 4, 5, 6] rfl ⟨rfl, rfl, rfl, rfl, rfl, rfl, rfl, trivial⟩ ⟨rfl, rfl, rfl, rfl, rfl, trivial⟩ rfl
    clear hs2 hV3 hend
    rintro m tm H ⟨j, q, b, acc, hj, hq, hacc, rfl, rfl, hVj⟩
    conv => whnf
    repeat ((first | refine aI rfl ?_ | refine aI (by decide) ?_ | refine dI (by kernel_rfl) ?_ | refine aI ⟨by omega, by omega⟩ ?_ | refine aI (by omega) ?_ | refine aI (fun _ => ⟨by omega, by omega⟩) ?_ | refine aI (of_decide_eq_true rfl) ?_ | (refine yI ?_ ?_; focus (first | decide | (simp; done) | (simp [tcs]; done))) | (refine nI ?_ ?_; focus (first | decide | (simp; done) | (simp [tcs]; done))) | intro _); conv => whnf)
    by_cases hend : ¬ (m = 0 ∨ b = true)
    · have hm1 : 0 < m := by
        rcases Nat.eq_zero_or_pos m with h | h
        · exact absurd (.inl h) hend
        · exact h
      have hb1 : b = false := by
        cases b with
        | false => rfl
        | true => exact absurd (.inr rfl) hend
      obtain ⟨m, rfl⟩ : ∃ m', m = m' + 1 := ⟨m - 1, by omega⟩
      have e : (decide ((0 : Int) < ((m + 1 : Nat) : Int)) && !b) = true := by rw [hb1, decide_eq_true (by omega)]; rfl
      have hn1 := cRRSize l5 q b N Z D hq (by omega)
      rw [e]
      (refine ⟨fun _ => ?_, fun h => absurd h ?_⟩; rotate_left; (focus (first | decide | (simp; done) | (simp [tcs]; done))); conv => whnf)
      try (refine dI (by kernel_rfl) ?_; conv => whnf)
      first | refine CallSt.use hn1 [1, 2, 3, 4] ⟨rfl, rfl, rfl, rfl, trivial⟩ (by decide) rfl ?_ | refine CallPt.useS hn1 [1, 2, 3, 4] ⟨rfl, rfl, rfl, rfl, trivial⟩ (by decide) rfl ?_
      rintro _ _ ⟨kn, q3, b3, rfl, rfl, hkn, hTn⟩ _
      conv => whnf
      have hex : (sB l5).extract ((q3 : Int)).toNat ((q3 : Int) + (kn : Int)).toNat = sB ((l5.drop q3).take kn) := by
        rw [sB_extract, Int.toNat_natCast, show ((q3 : Int) + (kn : Int)).toNat = q3 + kn by omega, List.drop_take, Nat.add_sub_cancel_left]
      have hpl := cRRPlace l5 (q3 + kn) b3 N Z D (by omega) (by omega)
      unfold rrH at hpl
      rw [show ((q3 + kn : Nat) : Int) = (q3 : Int) + (kn : Int) by omega] at hpl
      have hV4 : V → ∃ x, c0.S[j]? = some x ∧ kn = x.s.size ∧ b3 = false ∧ (l5.drop q3).take kn = x.s.data.toList ∧ l5.drop (q3 + kn) = digs (pl B x.c) ++ (digs x.i.toNat ++ (((c0.S.drop (j + 1)).flatMap fun x => declB x (pl B x.c)) ++ R2)) := fun hv => by
        have h := (hV hv).1
        obtain ⟨f1, f2, f3, f4, f5⟩ := hVj hv
        have hx : c0.S[j]? = some c0.S[j] := List.getElem?_eq_getElem (by omega)
        have hxs := h.ms c0.S[j] (List.getElem_mem _)
        have hd4 : c0.S[j].s.data.toList.length = c0.S[j].s.size := by rw [Array.length_toList]; rfl
        rw [drop_at hx, List.flatMap_cons, declB] at f5
        simp only [List.append_assoc] at f5
        obtain ⟨h1, h2, h3⟩ := hTn f2 c0.S[j].s.size _ (by omega) f5 (by rw [List.length_append]; omega)
        refine ⟨c0.S[j], hx, h1, h2, ?_, ?_⟩
        · rw [h3, h1, List.take_append_of_le_length (by omega), List.take_of_length_le (by omega)]
        · rw [← List.drop_drop, h3, h1, List.drop_append_of_le_length (by omega), List.drop_of_length_le (by omega), List.nil_append]
      generalize (l5.drop q3).take kn = nm at *
      repeat ((first | refine aI rfl ?_ | refine aI (by decide) ?_ | refine dI (by kernel_rfl) ?_ | refine aI ⟨by omega, by omega⟩ ?_ | refine aI (by omega) ?_ | refine aI (fun _ => ⟨by omega, by omega⟩) ?_ | refine aI (of_decide_eq_true rfl) ?_ | (refine yI ?_ ?_; focus (first | decide | (simp; done) | (simp [tcs]; done))) | (refine nI ?_ ?_; focus (first | decide | (simp; done) | (simp [tcs]; done))) | intro _); conv => whnf)
      rw [hex]
      try (refine dI (by kernel_rfl) ?_; conv => whnf)
      first | refine CallSt.use hpl [1, 2, 3, 4] ⟨rfl, rfl, rfl, rfl, trivial⟩ (by decide) rfl ?_ | refine CallPt.useS hpl [1, 2, 3, 4] ⟨rfl, rfl, rfl, rfl, trivial⟩ (by decide) rfl ?_
      rintro _ _ ⟨tt, q4, b4, rfl, rfl, hq4, hTp⟩ _
      conv => whnf
      have hnk := cRRNum l5 q4 b4 N Z D hq4 (by omega)
      obtain ⟨hx5, hq5⟩ := nmF_bd l5 q4 b4 hq4
      have hV5 : V → ∃ x, c0.S[j]? = some x ∧ nm = x.s.data.toList ∧ tt = x.c ∧ (nmF l5 q4 b4).1 = x.i.toNat ∧ (nmF l5 q4 b4).2.2 = false ∧ l5.drop (nmF l5 q4 b4).2.1 = ((c0.S.drop (j + 1)).flatMap fun x => declB x (pl B x.c)) ++ R2 := fun hv => by
        have h := (hV hv).1
        obtain ⟨f1, f2, f3, f4, f5⟩ := hVj hv
        obtain ⟨x, hx, h1, h2, h3, h4⟩ := hV4 hv
        have hxs := h.ms x (List.mem_of_getElem? hx)
        have hpb := pl_lt hxs.1
        have hbl := h.bl
        obtain ⟨k1, k2, k3⟩ := hTp h2 _ x.c _ (by omega) h4 (by rw [f3]; exact pl_at hxs.1)
        obtain ⟨q', m1, m2⟩ := nmF_ok (by omega) k3
        rw [k2, m1]
        exact ⟨x, hx, h3, k1, rfl, rfl, m2⟩
      generalize nmF l5 q4 b4 = yy at *
      obtain ⟨nv, q5, b5⟩ := yy
      simp only at hx5 hq5 hV5 hnk
      have hsn : dcs (acc ++ [⟨sB nm, tt, (nv : Int)⟩]) = dcs acc ++ [dc ⟨sB nm, tt, (nv : Int)⟩] := dcs_snoc2 acc _
      have hdl := len_dcs acc
      have hb1 : ((dcs acc).length + 1) * 72 ≤ 140737488355328 := by omega
      have hb2 : (dcs acc).length + 1 ≤ 9223372036854775807 := by omega
      obtain ⟨k', l2', n', us⟩ := tt
      have hsn2 : dcs acc ++ [[.str (sB nm), .int .i64 k', .int .i64 l2', .int .i64 n', .sl 4 48 (tcs us), .int .i64 (nv : Int)]] = dcs (acc ++ [⟨sB nm, .mk k' l2' n' us, (nv : Int)⟩]) := hsn.symm
      rw [tv_mk]
      repeat ((first | refine aI rfl ?_ | refine aI (by decide) ?_ | refine dI (by kernel_rfl) ?_ | refine aI ⟨by omega, by omega⟩ ?_ | refine aI (by omega) ?_ | refine aI (fun _ => ⟨by omega, by omega⟩) ?_ | refine aI (of_decide_eq_true rfl) ?_ | (refine yI ?_ ?_; focus (first | decide | (simp; done) | (simp [tcs]; done))) | (refine nI ?_ ?_; focus (first | decide | (simp; done) | (simp [tcs]; done))) | intro _); conv => whnf)
      try (refine dI (by kernel_rfl) ?_; conv => whnf)
      first | refine CallSt.use hnk [1, 2, 3, 4] ⟨rfl, rfl, rfl, rfl, trivial⟩ (by decide) rfl ?_ | refine CallPt.useS hnk [1, 2, 3, 4] ⟨rfl, rfl, rfl, rfl, trivial⟩ (by decide) rfl ?_
      rintro _ _ ⟨rfl, rfl⟩ _
      conv => whnf
      repeat ((first | refine aI rfl ?_ | refine aI (by decide) ?_ | refine dI (by kernel_rfl) ?_ | refine aI ⟨by omega, by omega⟩ ?_ | refine aI (by omega) ?_ | refine aI (fun _ => ⟨by omega, by omega⟩) ?_ | refine aI (of_decide_eq_true rfl) ?_ | (refine yI ?_ ?_; focus (first | decide | (simp; done) | (simp [tcs]; done))) | (refine nI ?_ ?_; focus (first | decide | (simp; done) | (simp [tcs]; done))) | intro _); conv => whnf)
      rw [show ((m + 1 : Nat) : Int) - 1 = (m : Int) by omega]
      refine ⟨m, _, _, by omega, ⟨j + 1, q5, b5, acc ++ [Dcl.mk (sB nm) (Term.mk k' l2' n' us) (nv : Int)], by omega, hq5, by simp [hacc], rfl, rfl, fun hv => ?_⟩, Wk.sl [0, 1, 2, 3, 4, 5, 9] rfl ⟨rfl, rfl, rfl, rfl, rfl, rfl, eRow hsn2, trivial⟩ ⟨rfl, rfl, rfl, rfl, rfl, trivial⟩ rfl⟩
      obtain ⟨f1, f2, f3, f4, f5⟩ := hVj hv
      obtain ⟨x, hx, h3, h4, h5, h6, h7⟩ := hV5 hv
      have hxs := (hV hv).1.ms x (List.mem_of_getElem? hx)
      refine ⟨f1, h6, f3, ?_, h7⟩
      rw [f4, List.take_add_one, hx, h3, h4, h5]
      obtain ⟨xs, xc, xi⟩ := x
      simp only at hxs
      simp only [Option.toList_some]
      rw [← sB_of, show ((xi.toNat : Nat) : Int) = xi by omega]
    have e : (decide ((0 : Int) < (m : Int)) && !b) = false := by
      rcases Nat.eq_zero_or_pos m with h | h
      · rw [h]; rfl
      · cases b with
        | false => exact absurd (fun h2 => by rcases h2 with h2 | h2; omega; cases h2) hend
        | true => simp
    have hV6 : V → b = false ∧ N = B ∧ acc = c0.S ∧ l5.drop q = R2 := fun hv => by
      obtain ⟨f1, f2, f3, f4, f5⟩ := hVj hv
      have hm0 : m = 0 := by
        rcases Nat.eq_zero_or_pos m with h | h
        · exact h
        · exact absurd (fun h2 => by rcases h2 with h2 | h2; omega; rw [f2] at h2; cases h2) hend
      have hjk : j = c0.S.length := by omega
      rw [hjk, List.take_length] at f4
      rw [hjk, List.drop_length] at f5
      exact ⟨f2, f3, f4, f5⟩
    rw [e]
    (refine ⟨fun h => absurd h ?_, fun _ => ?_⟩; (focus (first | decide | (simp; done) | (simp [tcs]; done))); conv => whnf)
    repeat ((first | refine aI rfl ?_ | refine aI (by decide) ?_ | refine dI (by kernel_rfl) ?_ | refine aI ⟨by omega, by omega⟩ ?_ | refine aI (by omega) ?_ | refine aI (fun _ => ⟨by omega, by omega⟩) ?_ | refine aI (of_decide_eq_true rfl) ?_ | (refine yI ?_ ?_; focus (first | decide | (simp; done) | (simp [tcs]; done))) | (refine nI ?_ ?_; focus (first | decide | (simp; done) | (simp [tcs]; done))) | intro _); conv => whnf)
    have hs3 := cRRSize l5 q b N Z D hq (by omega)
    try (refine dI (by kernel_rfl) ?_; conv => whnf)
    first | refine CallSt.use hs3 [1, 2, 3, 4] ⟨rfl, rfl, rfl, rfl, trivial⟩ (by decide) rfl ?_ | refine CallPt.useS hs3 [1, 2, 3, 4] ⟨rfl, rfl, rfl, rfl, trivial⟩ (by decide) rfl ?_
    rintro _ _ ⟨k3, q2, b2, rfl, rfl, hk3, hT3⟩ _
    conv => whnf
    have hV7 : V → k3 = c0.X.length ∧ b2 = false ∧ N = B ∧ acc = c0.S ∧ l5.drop q2 = (c0.X.flatMap fun t => digs (pl B t)) ++ R3 := fun hv => by
      have h := (hV hv).1
      obtain ⟨f1, f2, f3, f4⟩ := hV6 hv
      have hfl := flat_ge (fun t => digs (pl B t)) c0.X fun x _ => digs_pos _
      obtain ⟨h1, h2, h3⟩ := hT3 f1 c0.X.length ((c0.X.flatMap fun t => digs (pl B t)) ++ R3) (by have := h.xl; omega) (by rw [f4, hR2, hR3]) (by rw [List.length_append]; omega)
      exact ⟨h1, h2, f2, f3, h3⟩
    clear hs3 hV6 hT3 hend
    repeat ((first | refine aI rfl ?_ | refine aI (by decide) ?_ | refine dI (by kernel_rfl) ?_ | refine aI ⟨by omega, by omega⟩ ?_ | refine aI (by omega) ?_ | refine aI (fun _ => ⟨by omega, by omega⟩) ?_ | refine aI (of_decide_eq_true rfl) ?_ | (refine yI ?_ ?_; focus (first | decide | (simp; done) | (simp [tcs]; done))) | (refine nI ?_ ?_; focus (first | decide | (simp; done) | (simp [tcs]; done))) | intro _); conv => whnf)
    refine loop_intro (fun m tm H => ∃ (j q : Nat) (b : Bool) (ax : List Term), k3 = m + j ∧ q ≤ l5.length ∧ ax.length = j ∧
        tm = [(10, .c (.int .i64 (m))), (6, .ptr 5 0), (4, .ptr 1 0), (2, .ptr 0 0), (0, .c (.str (sB l)))] ∧ H = [.box [.nil, .nil, .c (.int .i64 (0)), .c (.int .i64 (0)), .c (.int .i64 (0)), .nil, .c (.int .i64 (0)), .c (.int .i64 (0)), .c (.int .i64 (0)), .nil], .box [.c (.str (sB l5)), .c (.int .i64 (q)), .c (.bool b), .own 2, .own 3, .own 4], .row 25 4 48 (tcs N), .row 3 1 8 (rowN Z), .row 3 1 8 (rowN D), .box [.own 6, .own 7, .c (.int .i64 (0)), .c (.int .i64 (0)), .c (.int .i64 (0)), .nil, .c (.int .i64 (0)), .c (.int .i64 (0)), .c (.int .i64 (0)), .nil], .row 49 6 72 (dcs acc), .row 25 4 48 (tcs ax)] ∧
        (V → k3 = c0.X.length ∧ b = false ∧ N = B ∧ acc = c0.S ∧ ax = c0.X.take j ∧ l5.drop q = ((c0.X.drop j).flatMap fun t => digs (pl B t)) ++ R3))
      k3 _ _ ⟨0, q2, b2, [], rfl, by omega, rfl, rfl, rfl, fun hv => by
        obtain ⟨h1, h2, h3, h4, h5⟩ := hV7 hv
        exact ⟨h1, h2, h3, h4, by simp, by rw [List.drop_zero]; exact h5⟩⟩ ?_ ?_
    · refine Wk.trans (Wk.nilrow (i := 5) (j := 1) 25 4 48 rfl rfl rfl) ?_
      exact Wk.sl [0, 1, 2, 3, 4, 5, 6, 7] rfl ⟨rfl, rfl, rfl, rfl, rfl, rfl, rfl, rfl, trivial⟩ ⟨rfl, rfl, rfl, rfl, rfl, trivial⟩ rfl
    clear hV7 hVj hacc hj
    rintro m tm H ⟨j, q, b, ax, hj, hq, hax, rfl, rfl, hVx⟩
    conv => whnf
    repeat ((first | refine aI rfl ?_ | refine aI (by decide) ?_ | refine dI (by kernel_rfl) ?_ | refine aI ⟨by omega, by omega⟩ ?_ | refine aI (by omega) ?_ | refine aI (fun _ => ⟨by omega, by omega⟩) ?_ | refine aI (of_decide_eq_true rfl) ?_ | (refine yI ?_ ?_; focus (first | decide | (simp; done) | (simp [tcs]; done))) | (refine nI ?_ ?_; focus (first | decide | (simp; done) | (simp [tcs]; done))) | intro _); conv => whnf)
    by_cases hend : ¬ (m = 0 ∨ b = true)
    · have hm1 : 0 < m := by
        rcases Nat.eq_zero_or_pos m with h | h
        · exact absurd (.inl h) hend
        · exact h
      have hb1 : b = false := by
        cases b with
        | false => rfl
        | true => exact absurd (.inr rfl) hend
      obtain ⟨m, rfl⟩ : ∃ m', m = m' + 1 := ⟨m - 1, by omega⟩
      have e : (decide ((0 : Int) < ((m + 1 : Nat) : Int)) && !b) = true := by rw [hb1, decide_eq_true (by omega)]; rfl
      have hpl := cRRPlace l5 q b N Z D hq (by omega)
      rw [e]
      (refine ⟨fun _ => ?_, fun h => absurd h ?_⟩; rotate_left; (focus (first | decide | (simp; done) | (simp [tcs]; done))); conv => whnf)
      try (refine dI (by kernel_rfl) ?_; conv => whnf)
      first | refine CallSt.use hpl [1, 2, 3, 4] ⟨rfl, rfl, rfl, rfl, trivial⟩ (by decide) rfl ?_ | refine CallPt.useS hpl [1, 2, 3, 4] ⟨rfl, rfl, rfl, rfl, trivial⟩ (by decide) rfl ?_
      rintro _ _ ⟨tt, q4, b4, rfl, rfl, hq4, hTp⟩ _
      conv => whnf
      have hV8 : V → ∃ u, c0.X[j]? = some u ∧ tt = u ∧ b4 = false ∧ l5.drop q4 = ((c0.X.drop (j + 1)).flatMap fun t => digs (pl B t)) ++ R3 := fun hv => by
        have h := (hV hv).1
        obtain ⟨f1, f2, f3, f4, f5, f6⟩ := hVx hv
        have hu : c0.X[j]? = some c0.X[j] := List.getElem?_eq_getElem (by omega)
        have hum := h.mx _ (List.mem_of_getElem? hu)
        have hpb := pl_lt hum
        have hbl := h.bl
        rw [drop_at hu, List.flatMap_cons, List.append_assoc] at f6
        obtain ⟨k1, k2, k3⟩ := hTp f2 _ c0.X[j] _ (by omega) f6 (by rw [f3]; exact pl_at hum)
        exact ⟨_, hu, k1, k2, k3⟩
      have hsn : tcs (ax ++ [tt]) = tcs ax ++ [tc tt] := tcs_snoc19 ax tt
      have hdl := len_tcs ax
      have hb1 : ((tcs ax).length + 1) * 48 ≤ 140737488355328 := by omega
      have hb2 : (tcs ax).length + 1 ≤ 9223372036854775807 := by omega
      obtain ⟨k', l2', n', us⟩ := tt
      have hsn2 : tcs ax ++ [[.int .i64 k', .int .i64 l2', .int .i64 n', .sl 4 48 (tcs us)]] = tcs (ax ++ [.mk k' l2' n' us]) := hsn.symm
      rw [tv_mk]
      repeat ((first | refine aI rfl ?_ | refine aI (by decide) ?_ | refine dI (by kernel_rfl) ?_ | refine aI ⟨by omega, by omega⟩ ?_ | refine aI (by omega) ?_ | refine aI (fun _ => ⟨by omega, by omega⟩) ?_ | refine aI (of_decide_eq_true rfl) ?_ | (refine yI ?_ ?_; focus (first | decide | (simp; done) | (simp [tcs]; done))) | (refine nI ?_ ?_; focus (first | decide | (simp; done) | (simp [tcs]; done))) | intro _); conv => whnf)
      rw [show ((m + 1 : Nat) : Int) - 1 = (m : Int) by omega]
      refine ⟨m, _, _, by omega, ⟨j + 1, q4, b4, ax ++ [Term.mk k' l2' n' us], by omega, hq4, by simp [hax], rfl, rfl, fun hv => ?_⟩, Wk.sl [0, 1, 2, 3, 4, 5, 6, 9] rfl ⟨rfl, rfl, rfl, rfl, rfl, rfl, rfl, eRow hsn2, trivial⟩ ⟨rfl, rfl, rfl, rfl, rfl, trivial⟩ rfl⟩
      obtain ⟨f1, f2, f3, f4, f5, f6⟩ := hVx hv
      obtain ⟨u, hu, h1, h2, h3⟩ := hV8 hv
      refine ⟨f1, h2, f3, f4, ?_, h3⟩
      rw [f5, List.take_add_one, hu, h1]
      rfl
    have e : (decide ((0 : Int) < (m : Int)) && !b) = false := by
      rcases Nat.eq_zero_or_pos m with h | h
      · rw [h]; rfl
      · cases b with
        | false => exact absurd (fun h2 => by rcases h2 with h2 | h2; omega; cases h2) hend
        | true => simp
    have hV9 : V → b = false ∧ N = B ∧ acc = c0.S ∧ ax = c0.X ∧ l5.drop q = digs (pl B c0.o) ++ digs (pl B c0.c) := fun hv => by
      obtain ⟨f1, f2, f3, f4, f5, f6⟩ := hVx hv
      have hm0 : m = 0 := by
        rcases Nat.eq_zero_or_pos m with h | h
        · exact h
        · exact absurd (fun h2 => by rcases h2 with h2 | h2; omega; rw [f2] at h2; cases h2) hend
      have hjk : j = c0.X.length := by omega
      rw [hjk, List.take_length] at f5
      rw [hjk, List.drop_length] at f6
      exact ⟨f2, f3, f4, f5, by rw [f6, hR3]; rfl⟩
    clear hVx
    have hp1 := cRRPlace l5 q b N Z D hq (by omega)
    rw [e]
    (refine ⟨fun h => absurd h ?_, fun _ => ?_⟩; (focus (first | decide | (simp; done) | (simp [tcs]; done))); conv => whnf)
    repeat ((first | refine aI rfl ?_ | refine aI (by decide) ?_ | refine dI (by kernel_rfl) ?_ | refine aI ⟨by omega, by omega⟩ ?_ | refine aI (by omega) ?_ | refine aI (fun _ => ⟨by omega, by omega⟩) ?_ | refine aI (of_decide_eq_true rfl) ?_ | (refine yI ?_ ?_; focus (first | decide | (simp; done) | (simp [tcs]; done))) | (refine nI ?_ ?_; focus (first | decide | (simp; done) | (simp [tcs]; done))) | intro _); conv => whnf)
    try (refine dI (by kernel_rfl) ?_; conv => whnf)
    first | refine CallSt.use hp1 [1, 2, 3, 4] ⟨rfl, rfl, rfl, rfl, trivial⟩ (by decide) rfl ?_ | refine CallPt.useS hp1 [1, 2, 3, 4] ⟨rfl, rfl, rfl, rfl, trivial⟩ (by decide) rfl ?_
    rintro _ _ ⟨to, q6, b6, rfl, rfl, hq6, hT6⟩ _
    conv => whnf
    have hp2 := cRRPlace l5 q6 b6 N Z D hq6 (by omega)
    obtain ⟨ok, ol, on, ots⟩ := to
    rw [tv_mk]
    repeat ((first | refine aI rfl ?_ | refine aI (by decide) ?_ | refine dI (by kernel_rfl) ?_ | refine aI ⟨by omega, by omega⟩ ?_ | refine aI (by omega) ?_ | refine aI (fun _ => ⟨by omega, by omega⟩) ?_ | refine aI (of_decide_eq_true rfl) ?_ | (refine yI ?_ ?_; focus (first | decide | (simp; done) | (simp [tcs]; done))) | (refine nI ?_ ?_; focus (first | decide | (simp; done) | (simp [tcs]; done))) | intro _); conv => whnf)
    try (refine dI (by kernel_rfl) ?_; conv => whnf)
    first | refine CallSt.use hp2 [1, 2, 3, 4] ⟨rfl, rfl, rfl, rfl, trivial⟩ (by decide) rfl ?_ | refine CallPt.useS hp2 [1, 2, 3, 4] ⟨rfl, rfl, rfl, rfl, trivial⟩ (by decide) rfl ?_
    rintro _ _ ⟨tc2, q7, b7, rfl, rfl, hq7, hT7⟩ _
    conv => whnf
    obtain ⟨ck, cl, cn, cts⟩ := tc2
    rw [tv_mk]
    have hVf : V → b7 = false ∧ (⟨acc, ax, .mk ok ol on ots, .mk ck cl cn cts⟩ : Crt) = c0 ∧ l5.length ≤ q7 := fun hv => by
      have h := (hV hv).1
      obtain ⟨f1, f2, f3, f4, f5⟩ := hV9 hv
      have ho := pl_lt h.mo
      have hc := pl_lt h.mc
      have hbl := h.bl
      obtain ⟨k1, k2, k3⟩ := hT6 f1 (pl B c0.o) c0.o (digs (pl B c0.c)) (by omega) f5 (by rw [f2]; exact pl_at h.mo)
      obtain ⟨m1, m2, m3⟩ := hT7 k2 (pl B c0.c) c0.c [] (by omega) (by rw [k3, List.append_nil]) (by rw [f2]; exact pl_at h.mc)
      refine ⟨m2, by rw [f3, f4, k1, m1], ?_⟩
      have := congrArg List.length m3
      rw [List.length_drop, List.length_nil] at this
      omega
    clear hV9 hT6 hT7 hp1 hp2
    have hbu := cRBuilt ⟨acc, ax, .mk ok ol on ots, .mk ck cl cn cts⟩
    have hpk := fun h => cRPack ⟨acc, ax, .mk ok ol on ots, .mk ck cl cn cts⟩ h
    cases b7 with
    | true =>
      have hnv : ¬ V := fun hv => by have := (hVf hv).1; cases this
      repeat ((first | refine aI rfl ?_ | refine aI (by decide) ?_ | refine dI (by kernel_rfl) ?_ | refine aI ⟨by omega, by omega⟩ ?_ | refine aI (by omega) ?_ | refine aI (fun _ => ⟨by omega, by omega⟩) ?_ | refine aI (of_decide_eq_true rfl) ?_ | (refine yI ?_ ?_; focus (first | decide | (simp; done) | (simp [tcs]; done))) | (refine nI ?_ ?_; focus (first | decide | (simp; done) | (simp [tcs]; done))) | intro _); conv => whnf)
      exact ⟨.inl ⟨hnv, rfl⟩, rfl⟩
    | false =>
      by_cases hqe : ((q7 : Int) < ((sB l5).size : Int))
      · have hnv : ¬ V := fun hv => by have := (hVf hv).2.2; omega
        repeat ((first | refine aI rfl ?_ | refine aI (by decide) ?_ | refine dI (by kernel_rfl) ?_ | refine aI ⟨by omega, by omega⟩ ?_ | refine aI (by omega) ?_ | refine aI (fun _ => ⟨by omega, by omega⟩) ?_ | refine aI (of_decide_eq_true rfl) ?_ | (refine yI ?_ ?_; focus (first | decide | (simp; done) | (simp [tcs]; done))) | (refine nI ?_ ?_; focus (first | decide | (simp; done) | (simp [tcs]; done))) | intro _); conv => whnf)
        rw [decide_eq_true hqe]
        (refine ⟨fun h => absurd h (by simp), fun _ => ?_⟩; conv => whnf)
        repeat ((first | refine aI rfl ?_ | refine aI (by decide) ?_ | refine dI (by kernel_rfl) ?_ | refine aI ⟨by omega, by omega⟩ ?_ | refine aI (by omega) ?_ | refine aI (fun _ => ⟨by omega, by omega⟩) ?_ | refine aI (of_decide_eq_true rfl) ?_ | (refine yI ?_ ?_; focus (first | decide | (simp; done) | (simp [tcs]; done))) | (refine nI ?_ ?_; focus (first | decide | (simp; done) | (simp [tcs]; done))) | intro _); conv => whnf)
        exact ⟨.inl ⟨hnv, rfl⟩, rfl⟩
      · cases hbb : builtB ⟨acc, ax, .mk ok ol on ots, .mk ck cl cn cts⟩ with
        | false =>
          have hnv : ¬ V := fun hv => by
            have h1 := (hVf hv).2.1
            have h2 := (hV hv).2.1
            rw [h1, h2] at hbb
            cases hbb
          rw [hbb] at hbu
          repeat ((first | refine aI rfl ?_ | refine aI (by decide) ?_ | refine dI (by kernel_rfl) ?_ | refine aI ⟨by omega, by omega⟩ ?_ | refine aI (by omega) ?_ | refine aI (fun _ => ⟨by omega, by omega⟩) ?_ | refine aI (of_decide_eq_true rfl) ?_ | (refine yI ?_ ?_; focus (first | decide | (simp; done) | (simp [tcs]; done))) | (refine nI ?_ ?_; focus (first | decide | (simp; done) | (simp [tcs]; done))) | intro _); conv => whnf)
          rw [decide_eq_false hqe]
          (refine ⟨fun _ => ?_, fun h => absurd h (by simp)⟩; conv => whnf)
          try (refine dI (by kernel_rfl) ?_; conv => whnf)
          first | refine CallSt.use hbu [] trivial (by decide) rfl ?_ | refine CallPt.useS hbu [] trivial (by decide) rfl ?_
          rintro _ _ ⟨rfl, rfl⟩ _
          conv => whnf
          repeat ((first | refine aI rfl ?_ | refine aI (by decide) ?_ | refine dI (by kernel_rfl) ?_ | refine aI ⟨by omega, by omega⟩ ?_ | refine aI (by omega) ?_ | refine aI (fun _ => ⟨by omega, by omega⟩) ?_ | refine aI (of_decide_eq_true rfl) ?_ | (refine yI ?_ ?_; focus (first | decide | (simp; done) | (simp [tcs]; done))) | (refine nI ?_ ?_; focus (first | decide | (simp; done) | (simp [tcs]; done))) | intro _); conv => whnf)
          exact ⟨.inl ⟨hnv, rfl⟩, rfl⟩
        | true =>
          have hpk := hpk (built_ok hbb)
          rw [hbb] at hbu
          by_cases hpe : packB ⟨acc, ax, .mk ok ol on ots, .mk ck cl cn cts⟩ = l
          · have e8 : decide ((⟨(packB ⟨acc, ax, .mk ok ol on ots, .mk ck cl cn cts⟩).toArray⟩ : ByteArray) = sB l) = true := decide_eq_true (by rw [hpe]; rfl)
            repeat ((first | refine aI rfl ?_ | refine aI (by decide) ?_ | refine dI (by kernel_rfl) ?_ | refine aI ⟨by omega, by omega⟩ ?_ | refine aI (by omega) ?_ | refine aI (fun _ => ⟨by omega, by omega⟩) ?_ | refine aI (of_decide_eq_true rfl) ?_ | (refine yI ?_ ?_; focus (first | decide | (simp; done) | (simp [tcs]; done))) | (refine nI ?_ ?_; focus (first | decide | (simp; done) | (simp [tcs]; done))) | intro _); conv => whnf)
            rw [decide_eq_false hqe]
            (refine ⟨fun _ => ?_, fun h => absurd h (by simp)⟩; conv => whnf)
            try (refine dI (by kernel_rfl) ?_; conv => whnf)
            first | refine CallSt.use hbu [] trivial (by decide) rfl ?_ | refine CallPt.useS hbu [] trivial (by decide) rfl ?_
            rintro _ _ ⟨rfl, rfl⟩ _
            conv => whnf
            repeat ((first | refine aI rfl ?_ | refine aI (by decide) ?_ | refine dI (by kernel_rfl) ?_ | refine aI ⟨by omega, by omega⟩ ?_ | refine aI (by omega) ?_ | refine aI (fun _ => ⟨by omega, by omega⟩) ?_ | refine aI (of_decide_eq_true rfl) ?_ | (refine yI ?_ ?_; focus (first | decide | (simp; done) | (simp [tcs]; done))) | (refine nI ?_ ?_; focus (first | decide | (simp; done) | (simp [tcs]; done))) | intro _); conv => whnf)
            try (refine dI (by kernel_rfl) ?_; conv => whnf)
            first | refine CallSt.use hpk [] trivial (by decide) rfl ?_ | refine CallPt.useS hpk [] trivial (by decide) rfl ?_
            rintro _ _ ⟨rfl, rfl⟩ _
            conv => whnf
            repeat ((first | refine aI rfl ?_ | refine aI (by decide) ?_ | refine dI (by kernel_rfl) ?_ | refine aI ⟨by omega, by omega⟩ ?_ | refine aI (by omega) ?_ | refine aI (fun _ => ⟨by omega, by omega⟩) ?_ | refine aI (of_decide_eq_true rfl) ?_ | (refine yI ?_ ?_; focus (first | decide | (simp; done) | (simp [tcs]; done))) | (refine nI ?_ ?_; focus (first | decide | (simp; done) | (simp [tcs]; done))) | intro _); conv => whnf)
            rw [e8]
            repeat ((first | refine aI rfl ?_ | refine aI (by decide) ?_ | refine dI (by kernel_rfl) ?_ | refine aI ⟨by omega, by omega⟩ ?_ | refine aI (by omega) ?_ | refine aI (fun _ => ⟨by omega, by omega⟩) ?_ | refine aI (of_decide_eq_true rfl) ?_ | (refine yI ?_ ?_; focus (first | decide | (simp; done) | (simp [tcs]; done))) | (refine nI ?_ ?_; focus (first | decide | (simp; done) | (simp [tcs]; done))) | intro _); conv => whnf)
            exact ⟨.inr ⟨_, hbb, hpe, rfl⟩, rfl⟩
          · have e8 : decide ((⟨(packB ⟨acc, ax, .mk ok ol on ots, .mk ck cl cn cts⟩).toArray⟩ : ByteArray) = sB l) = false := decide_eq_false fun h => hpe (sB_inj h)
            have hnv : ¬ V := fun hv => by
              have h1 := (hVf hv).2.1
              have h2 := (hV hv).2.2
              rw [← h1] at h2
              exact hpe h2
            repeat ((first | refine aI rfl ?_ | refine aI (by decide) ?_ | refine dI (by kernel_rfl) ?_ | refine aI ⟨by omega, by omega⟩ ?_ | refine aI (by omega) ?_ | refine aI (fun _ => ⟨by omega, by omega⟩) ?_ | refine aI (of_decide_eq_true rfl) ?_ | (refine yI ?_ ?_; focus (first | decide | (simp; done) | (simp [tcs]; done))) | (refine nI ?_ ?_; focus (first | decide | (simp; done) | (simp [tcs]; done))) | intro _); conv => whnf)
            rw [decide_eq_false hqe]
            (refine ⟨fun _ => ?_, fun h => absurd h (by simp)⟩; conv => whnf)
            try (refine dI (by kernel_rfl) ?_; conv => whnf)
            first | refine CallSt.use hbu [] trivial (by decide) rfl ?_ | refine CallPt.useS hbu [] trivial (by decide) rfl ?_
            rintro _ _ ⟨rfl, rfl⟩ _
            conv => whnf
            repeat ((first | refine aI rfl ?_ | refine aI (by decide) ?_ | refine dI (by kernel_rfl) ?_ | refine aI ⟨by omega, by omega⟩ ?_ | refine aI (by omega) ?_ | refine aI (fun _ => ⟨by omega, by omega⟩) ?_ | refine aI (of_decide_eq_true rfl) ?_ | (refine yI ?_ ?_; focus (first | decide | (simp; done) | (simp [tcs]; done))) | (refine nI ?_ ?_; focus (first | decide | (simp; done) | (simp [tcs]; done))) | intro _); conv => whnf)
            try (refine dI (by kernel_rfl) ?_; conv => whnf)
            first | refine CallSt.use hpk [] trivial (by decide) rfl ?_ | refine CallPt.useS hpk [] trivial (by decide) rfl ?_
            rintro _ _ ⟨rfl, rfl⟩ _
            conv => whnf
            repeat ((first | refine aI rfl ?_ | refine aI (by decide) ?_ | refine dI (by kernel_rfl) ?_ | refine aI ⟨by omega, by omega⟩ ?_ | refine aI (by omega) ?_ | refine aI (fun _ => ⟨by omega, by omega⟩) ?_ | refine aI (of_decide_eq_true rfl) ?_ | (refine yI ?_ ?_; focus (first | decide | (simp; done) | (simp [tcs]; done))) | (refine nI ?_ ?_; focus (first | decide | (simp; done) | (simp [tcs]; done))) | intro _); conv => whnf)
            rw [e8]
            repeat ((first | refine aI rfl ?_ | refine aI (by decide) ?_ | refine dI (by kernel_rfl) ?_ | refine aI ⟨by omega, by omega⟩ ?_ | refine aI (by omega) ?_ | refine aI (fun _ => ⟨by omega, by omega⟩) ?_ | refine aI (of_decide_eq_true rfl) ?_ | (refine yI ?_ ?_; focus (first | decide | (simp; done) | (simp [tcs]; done))) | (refine nI ?_ ?_; focus (first | decide | (simp; done) | (simp [tcs]; done))) | intro _); conv => whnf)
            exact ⟨.inl ⟨hnv, rfl⟩, rfl⟩
end Go.Tr
/- The law CertUnpacks. -/
namespace Go.Tr
open Go.Proofs
def rUnV (l : List UInt8) : AV := match openC l with
  | some c => .tup [crv c, .c (.bool true)]
  | none => .tup [crv crtZ, .c (.bool false)]
theorem rUn_none {l : List UInt8} (h : openC l = none) : rUnV l = .tup [crv crtZ, .c (.bool false)] := by unfold rUnV; rw [h]
theorem cRUnpack (l : List UInt8) (hl : l.length ≤ 400000) : CallSt Tryz.prog 17 [.c (.str (sB l))] [] (fun r H' => r = rUnV l ∧ H' = []) := by
  cases hs : sealedB l with
  | true =>
    have h60 : l.length ≤ 60000 := by
      unfold sealedB at hs
      simp only [Bool.and_eq_true, decide_eq_true_eq] at hs
      exact hs.1.1.1
    have hback : ∀ c, builtB c = true → packB c = l → openC l = some c := fun c h1 h2 => by
      have := openC_pack h1 (by rw [h2]; exact h60)
      rw [h2] at this
      exact this
    cases ho : openC l with
    | none =>
      have h := cRUnpack0 False crtZ [] l hl hs (fun h => h.elim)
      rw [rUn_none ho]
      refine CallSt.mono h ?_
      rintro r H' ⟨⟨_, h⟩ | ⟨c, h1, h2, h3⟩, rfl⟩
      · exact ⟨h, rfl⟩
      · rw [hback c h1 h2] at ho
        cases ho
    | some c0 =>
      obtain ⟨h1, h2⟩ := openC_pk ho
      have e1 : l.take (l.length - 4) = pk c0 := by
        have := sealB_take (pk c0)
        rw [← h2] at this
        exact this
      have h := cRUnpack0 True c0 (nodesOf c0) l hl hs (fun _ => ⟨by rw [e1]; exact pkV_of h1, h1, by rw [packB_pk]; exact h2.symm⟩)
      rw [show rUnV l = .tup [crv c0, .c (.bool true)] by unfold rUnV; rw [ho]]
      refine CallSt.mono h ?_
      rintro r H' ⟨⟨hn, _⟩ | ⟨c, g1, g2, g3⟩, rfl⟩
      · exact absurd trivial hn
      · rw [hback c g1 g2] at ho
        injection ho with ho
        rw [← ho]
        exact ⟨g3, rfl⟩
  | false =>
    have ho : openC l = none := by unfold openC; rw [hs]
    rw [rUn_none ho]
    have hsz := sB_size l
    have e3 : (sB l).extract (Int.toNat 0) (Int.toNat 3) = sB (l.take 3) := by rw [sB_extract]; rfl
    by_cases g1 : l.length ≤ 60000
    rotate_left
    · have e1 : decide ((60000 : Int) < ((sB l).size : Int)) = true := decide_eq_true (by omega)
      refine call_pure (E := env 0) (fn := Tryz.f17) (c := bodyOf Tryz.f17) (env_ok 0) mixed (by kernel_rfl) (by kernel_rfl) (by kernel_rfl) (by kernel_rfl) (by kernel_rfl) (by kernel_rfl) rfl ?_
      conv => whnf
      repeat ((first | refine aI rfl ?_ | refine aI (by decide) ?_ | refine dI (by kernel_rfl) ?_ | refine aI ⟨by omega, by omega⟩ ?_ | refine aI (by omega) ?_ | refine aI (fun _ => ⟨by omega, by omega⟩) ?_ | refine aI (of_decide_eq_true rfl) ?_ | (refine yI ?_ ?_; focus (first | decide | (simp; done) | (simp [tcs]; done))) | (refine nI ?_ ?_; focus (first | decide | (simp; done) | (simp [tcs]; done))) | intro _); conv => whnf)
      rw [e1]
      repeat ((first | refine aI rfl ?_ | refine aI (by decide) ?_ | refine dI (by kernel_rfl) ?_ | refine aI ⟨by omega, by omega⟩ ?_ | refine aI (by omega) ?_ | refine aI (fun _ => ⟨by omega, by omega⟩) ?_ | refine aI (of_decide_eq_true rfl) ?_ | (refine yI ?_ ?_; focus (first | decide | (simp; done) | (simp [tcs]; done))) | (refine nI ?_ ?_; focus (first | decide | (simp; done) | (simp [tcs]; done))) | intro _); conv => whnf)
      rfl
    have e1 : decide ((60000 : Int) < ((sB l).size : Int)) = false := decide_eq_false (by omega)
    by_cases g2 : 7 ≤ l.length
    rotate_left
    · have e2 : decide (((sB l).size : Int) < 7) = true := decide_eq_true (by omega)
      refine call_pure (E := env 0) (fn := Tryz.f17) (c := bodyOf Tryz.f17) (env_ok 0) mixed (by kernel_rfl) (by kernel_rfl) (by kernel_rfl) (by kernel_rfl) (by kernel_rfl) (by kernel_rfl) rfl ?_
      conv => whnf
      repeat ((first | refine aI rfl ?_ | refine aI (by decide) ?_ | refine dI (by kernel_rfl) ?_ | refine aI ⟨by omega, by omega⟩ ?_ | refine aI (by omega) ?_ | refine aI (fun _ => ⟨by omega, by omega⟩) ?_ | refine aI (of_decide_eq_true rfl) ?_ | (refine yI ?_ ?_; focus (first | decide | (simp; done) | (simp [tcs]; done))) | (refine nI ?_ ?_; focus (first | decide | (simp; done) | (simp [tcs]; done))) | intro _); conv => whnf)
      rw [e1]
      repeat ((first | refine aI rfl ?_ | refine aI (by decide) ?_ | refine dI (by kernel_rfl) ?_ | refine aI ⟨by omega, by omega⟩ ?_ | refine aI (by omega) ?_ | refine aI (fun _ => ⟨by omega, by omega⟩) ?_ | refine aI (of_decide_eq_true rfl) ?_ | (refine yI ?_ ?_; focus (first | decide | (simp; done) | (simp [tcs]; done))) | (refine nI ?_ ?_; focus (first | decide | (simp; done) | (simp [tcs]; done))) | intro _); conv => whnf)
      rw [e2]
      repeat ((first | refine aI rfl ?_ | refine aI (by decide) ?_ | refine dI (by kernel_rfl) ?_ | refine aI ⟨by omega, by omega⟩ ?_ | refine aI (by omega) ?_ | refine aI (fun _ => ⟨by omega, by omega⟩) ?_ | refine aI (of_decide_eq_true rfl) ?_ | (refine yI ?_ ?_; focus (first | decide | (simp; done) | (simp [tcs]; done))) | (refine nI ?_ ?_; focus (first | decide | (simp; done) | (simp [tcs]; done))) | intro _); conv => whnf)
      refine ⟨fun h => absurd h (by simp), ?_⟩
      conv => whnf
      repeat ((first | refine aI rfl ?_ | refine aI (by decide) ?_ | refine dI (by kernel_rfl) ?_ | refine aI ⟨by omega, by omega⟩ ?_ | refine aI (by omega) ?_ | refine aI (fun _ => ⟨by omega, by omega⟩) ?_ | refine aI (of_decide_eq_true rfl) ?_ | (refine yI ?_ ?_; focus (first | decide | (simp; done) | (simp [tcs]; done))) | (refine nI ?_ ?_; focus (first | decide | (simp; done) | (simp [tcs]; done))) | intro _); conv => whnf)
      refine ⟨fun h => absurd h (by simp), ?_⟩
      conv => whnf
      repeat ((first | refine aI rfl ?_ | refine aI (by decide) ?_ | refine dI (by kernel_rfl) ?_ | refine aI ⟨by omega, by omega⟩ ?_ | refine aI (by omega) ?_ | refine aI (fun _ => ⟨by omega, by omega⟩) ?_ | refine aI (of_decide_eq_true rfl) ?_ | (refine yI ?_ ?_; focus (first | decide | (simp; done) | (simp [tcs]; done))) | (refine nI ?_ ?_; focus (first | decide | (simp; done) | (simp [tcs]; done))) | intro _); conv => whnf)
      rfl
    have e2 : decide (((sB l).size : Int) < 7) = false := decide_eq_false (by omega)
    by_cases g3 : l.take 3 = [116, 114, 49]
    rotate_left
    · have e3' : decide ((sB l).extract (Int.toNat 0) (Int.toNat 3) = (⟨#[116, 114, 49]⟩ : ByteArray)) = false := decide_eq_false fun h => by
        rw [e3] at h
        exact g3 (sB_inj h)
      refine call_pure (E := env 0) (fn := Tryz.f17) (c := bodyOf Tryz.f17) (env_ok 0) mixed (by kernel_rfl) (by kernel_rfl) (by kernel_rfl) (by kernel_rfl) (by kernel_rfl) (by kernel_rfl) rfl ?_
      conv => whnf
      repeat ((first | refine aI rfl ?_ | refine aI (by decide) ?_ | refine dI (by kernel_rfl) ?_ | refine aI ⟨by omega, by omega⟩ ?_ | refine aI (by omega) ?_ | refine aI (fun _ => ⟨by omega, by omega⟩) ?_ | refine aI (of_decide_eq_true rfl) ?_ | (refine yI ?_ ?_; focus (first | decide | (simp; done) | (simp [tcs]; done))) | (refine nI ?_ ?_; focus (first | decide | (simp; done) | (simp [tcs]; done))) | intro _); conv => whnf)
      rw [e1]
      repeat ((first | refine aI rfl ?_ | refine aI (by decide) ?_ | refine dI (by kernel_rfl) ?_ | refine aI ⟨by omega, by omega⟩ ?_ | refine aI (by omega) ?_ | refine aI (fun _ => ⟨by omega, by omega⟩) ?_ | refine aI (of_decide_eq_true rfl) ?_ | (refine yI ?_ ?_; focus (first | decide | (simp; done) | (simp [tcs]; done))) | (refine nI ?_ ?_; focus (first | decide | (simp; done) | (simp [tcs]; done))) | intro _); conv => whnf)
      rw [e2, e3']
      (refine ⟨fun h => absurd h (by simp), fun _ => ?_⟩; conv => whnf)
      repeat ((first | refine aI rfl ?_ | refine aI (by decide) ?_ | refine dI (by kernel_rfl) ?_ | refine aI ⟨by omega, by omega⟩ ?_ | refine aI (by omega) ?_ | refine aI (fun _ => ⟨by omega, by omega⟩) ?_ | refine aI (of_decide_eq_true rfl) ?_ | (refine yI ?_ ?_; focus (first | decide | (simp; done) | (simp [tcs]; done))) | (refine nI ?_ ?_; focus (first | decide | (simp; done) | (simp [tcs]; done))) | intro _); conv => whnf)
      rfl
    have e3' : decide ((sB l).extract (Int.toNat 0) (Int.toNat 3) = (⟨#[116, 114, 49]⟩ : ByteArray)) = true := decide_eq_true (by rw [e3, g3]; rfl)
    have hx4 : (((sB l).size : Int) - 4).toNat = l.length - 4 := by rw [hsz]; omega
    have e4 : (sB l).extract (Int.toNat 0) (((sB l).size : Int) - 4).toNat = sB (l.take (l.length - 4)) := by rw [sB_extract, hx4]; rfl
    have hse := cRSeal (sB (l.take (l.length - 4))) (by rw [sB_size, List.length_take]; omega)
    rw [sB_list] at hse
    have g4 : ¬ sealB (l.take (l.length - 4)) = l := fun h => by
      unfold sealedB at hs
      rw [decide_eq_true g1, decide_eq_true g2, decide_eq_true g3, decide_eq_true h] at hs
      cases hs
    have e6 : decide ((⟨(sealB (l.take (l.length - 4))).toArray⟩ : ByteArray) = sB l) = false := decide_eq_false fun h => g4 (sB_inj h)
    refine call_pure (E := env 0) (fn := Tryz.f17) (c := bodyOf Tryz.f17) (env_ok 0) mixed (by kernel_rfl) (by kernel_rfl) (by kernel_rfl) (by kernel_rfl) (by kernel_rfl) (by kernel_rfl) rfl ?_
    conv => whnf
    repeat ((first | refine aI rfl ?_ | refine aI (by decide) ?_ | refine dI (by kernel_rfl) ?_ | refine aI ⟨by omega, by omega⟩ ?_ | refine aI (by omega) ?_ | refine aI (fun _ => ⟨by omega, by omega⟩) ?_ | refine aI (of_decide_eq_true rfl) ?_ | (refine yI ?_ ?_; focus (first | decide | (simp; done) | (simp [tcs]; done))) | (refine nI ?_ ?_; focus (first | decide | (simp; done) | (simp [tcs]; done))) | intro _); conv => whnf)
    rw [e1]
    repeat ((first | refine aI rfl ?_ | refine aI (by decide) ?_ | refine dI (by kernel_rfl) ?_ | refine aI ⟨by omega, by omega⟩ ?_ | refine aI (by omega) ?_ | refine aI (fun _ => ⟨by omega, by omega⟩) ?_ | refine aI (of_decide_eq_true rfl) ?_ | (refine yI ?_ ?_; focus (first | decide | (simp; done) | (simp [tcs]; done))) | (refine nI ?_ ?_; focus (first | decide | (simp; done) | (simp [tcs]; done))) | intro _); conv => whnf)
    rw [e2, e3', e4]
    (refine ⟨fun _ => ?_, fun h => absurd h (by simp)⟩; conv => whnf)
    try (refine dI (by kernel_rfl) ?_; conv => whnf)
    first | refine CallSt.use hse [] trivial (by decide) rfl ?_ | refine CallPt.useS hse [] trivial (by decide) rfl ?_
    rintro _ _ ⟨rfl, rfl⟩ _
    conv => whnf
    repeat ((first | refine aI rfl ?_ | refine aI (by decide) ?_ | refine dI (by kernel_rfl) ?_ | refine aI ⟨by omega, by omega⟩ ?_ | refine aI (by omega) ?_ | refine aI (fun _ => ⟨by omega, by omega⟩) ?_ | refine aI (of_decide_eq_true rfl) ?_ | (refine yI ?_ ?_; focus (first | decide | (simp; done) | (simp [tcs]; done))) | (refine nI ?_ ?_; focus (first | decide | (simp; done) | (simp [tcs]; done))) | intro _); conv => whnf)
    rw [e6]
    repeat ((first | refine aI rfl ?_ | refine aI (by decide) ?_ | refine dI (by kernel_rfl) ?_ | refine aI ⟨by omega, by omega⟩ ?_ | refine aI (by omega) ?_ | refine aI (fun _ => ⟨by omega, by omega⟩) ?_ | refine aI (of_decide_eq_true rfl) ?_ | (refine yI ?_ ?_; focus (first | decide | (simp; done) | (simp [tcs]; done))) | (refine nI ?_ ?_; focus (first | decide | (simp; done) | (simp [tcs]; done))) | intro _); conv => whnf)
    rfl
set_option maxHeartbeats 4000000 in
theorem cUnpacks (s : ByteArray) : CallSt Tryz.prog 4 [.c (.str s)] [] (fun r H' => r = .c (.bool true) ∧ H' = []) := by
  have haw := cAwake19
  refine call_pure (E := env 0) (fn := Tryz.f4) (c := bodyOf Tryz.f4) (env_ok 0) mixed (by kernel_rfl) (by kernel_rfl) (by kernel_rfl) (by kernel_rfl) (by kernel_rfl) (by kernel_rfl) rfl ?_
  conv => whnf
  repeat ((first | refine aI rfl ?_ | refine aI (by decide) ?_ | refine dI (by kernel_rfl) ?_ | refine aI ⟨by omega, by omega⟩ ?_ | refine aI (by omega) ?_ | refine aI (fun _ => ⟨by omega, by omega⟩) ?_ | refine aI (of_decide_eq_true rfl) ?_ | (refine yI ?_ ?_; focus (first | decide | (simp; done) | (simp [tcs]; done))) | (refine nI ?_ ?_; focus (first | decide | (simp; done) | (simp [tcs]; done))) | intro _); conv => whnf)
  generalize hm : (if (6000 : Int) < (s.size : Int) then (6000 : Int) else (s.size : Int)).toNat = k
  have hk : k ≤ 6000 := by rw [← hm]; split <;> omega
  have hx : (s.extract (Int.toNat 0) k).size ≤ 6000 := by rw [ByteArray.size_extract]; omega
  generalize s.extract (Int.toNat 0) k = y at *
  have hyl : y.data.toList.length = y.size := by rw [Array.length_toList]; rfl
  rw [sB_of y]
  generalize y.data.toList = l at *
  have hun := cUnpack l (by omega)
  have hru := cRUnpack l (by omega)
  cases ho : openC l with
  | none =>
    have hsc := cSameC crtZ crtZ
    rw [sameC_self] at hsc
    rw [show openV l = .tup [crv crtZ, .c (.int .i64 (30))] by unfold openV; rw [ho]] at hun
    rw [rUn_none ho] at hru
    try (refine dI (by kernel_rfl) ?_; conv => whnf)
    first | refine CallSt.use hun [] trivial (by decide) rfl ?_ | refine CallPt.useS hun [] trivial (by decide) rfl ?_
    rintro _ _ ⟨rfl, rfl⟩ _
    conv => whnf
    repeat ((first | refine aI rfl ?_ | refine aI (by decide) ?_ | refine dI (by kernel_rfl) ?_ | refine aI ⟨by omega, by omega⟩ ?_ | refine aI (by omega) ?_ | refine aI (fun _ => ⟨by omega, by omega⟩) ?_ | refine aI (of_decide_eq_true rfl) ?_ | (refine yI ?_ ?_; focus (first | decide | (simp; done) | (simp [tcs]; done))) | (refine nI ?_ ?_; focus (first | decide | (simp; done) | (simp [tcs]; done))) | intro _); conv => whnf)
    try (refine dI (by kernel_rfl) ?_; conv => whnf)
    first | refine CallSt.use hru [] trivial (by decide) rfl ?_ | refine CallPt.useS hru [] trivial (by decide) rfl ?_
    rintro _ _ ⟨rfl, rfl⟩ _
    conv => whnf
    repeat ((first | refine aI rfl ?_ | refine aI (by decide) ?_ | refine dI (by kernel_rfl) ?_ | refine aI ⟨by omega, by omega⟩ ?_ | refine aI (by omega) ?_ | refine aI (fun _ => ⟨by omega, by omega⟩) ?_ | refine aI (of_decide_eq_true rfl) ?_ | (refine yI ?_ ?_; focus (first | decide | (simp; done) | (simp [tcs]; done))) | (refine nI ?_ ?_; focus (first | decide | (simp; done) | (simp [tcs]; done))) | intro _); conv => whnf)
    try (refine dI (by kernel_rfl) ?_; conv => whnf)
    first | refine CallSt.use hsc [] trivial (by decide) rfl ?_ | refine CallPt.useS hsc [] trivial (by decide) rfl ?_
    rintro _ _ ⟨rfl, rfl⟩ _
    conv => whnf
    repeat ((first | refine aI rfl ?_ | refine aI (by decide) ?_ | refine dI (by kernel_rfl) ?_ | refine aI ⟨by omega, by omega⟩ ?_ | refine aI (by omega) ?_ | refine aI (fun _ => ⟨by omega, by omega⟩) ?_ | refine aI (of_decide_eq_true rfl) ?_ | (refine yI ?_ ?_; focus (first | decide | (simp; done) | (simp [tcs]; done))) | (refine nI ?_ ?_; focus (first | decide | (simp; done) | (simp [tcs]; done))) | intro _); conv => whnf)
    try (refine dI (by kernel_rfl) ?_; conv => whnf)
    first | refine CallSt.use haw [] trivial (by decide) rfl ?_ | refine CallPt.useS haw [] trivial (by decide) rfl ?_
    rintro _ _ ⟨rfl, rfl⟩ _
    conv => whnf
    repeat ((first | refine aI rfl ?_ | refine aI (by decide) ?_ | refine dI (by kernel_rfl) ?_ | refine aI ⟨by omega, by omega⟩ ?_ | refine aI (by omega) ?_ | refine aI (fun _ => ⟨by omega, by omega⟩) ?_ | refine aI (of_decide_eq_true rfl) ?_ | (refine yI ?_ ?_; focus (first | decide | (simp; done) | (simp [tcs]; done))) | (refine nI ?_ ?_; focus (first | decide | (simp; done) | (simp [tcs]; done))) | intro _); conv => whnf)
    all_goals (first | rfl | exact ⟨rfl, rfl⟩ | exact ⟨rfl, rfl, rfl⟩)
  | some c =>
    have hsc := cRSameC c c
    rw [sameC_self] at hsc
    rw [show openV l = .tup [crv c, .c (.int .i64 (0))] by unfold openV; rw [ho]] at hun
    rw [show rUnV l = .tup [crv c, .c (.bool true)] by unfold rUnV; rw [ho]] at hru
    try (refine dI (by kernel_rfl) ?_; conv => whnf)
    first | refine CallSt.use hun [] trivial (by decide) rfl ?_ | refine CallPt.useS hun [] trivial (by decide) rfl ?_
    rintro _ _ ⟨rfl, rfl⟩ _
    conv => whnf
    repeat ((first | refine aI rfl ?_ | refine aI (by decide) ?_ | refine dI (by kernel_rfl) ?_ | refine aI ⟨by omega, by omega⟩ ?_ | refine aI (by omega) ?_ | refine aI (fun _ => ⟨by omega, by omega⟩) ?_ | refine aI (of_decide_eq_true rfl) ?_ | (refine yI ?_ ?_; focus (first | decide | (simp; done) | (simp [tcs]; done))) | (refine nI ?_ ?_; focus (first | decide | (simp; done) | (simp [tcs]; done))) | intro _); conv => whnf)
    try (refine dI (by kernel_rfl) ?_; conv => whnf)
    first | refine CallSt.use hru [] trivial (by decide) rfl ?_ | refine CallPt.useS hru [] trivial (by decide) rfl ?_
    rintro _ _ ⟨rfl, rfl⟩ _
    conv => whnf
    repeat ((first | refine aI rfl ?_ | refine aI (by decide) ?_ | refine dI (by kernel_rfl) ?_ | refine aI ⟨by omega, by omega⟩ ?_ | refine aI (by omega) ?_ | refine aI (fun _ => ⟨by omega, by omega⟩) ?_ | refine aI (of_decide_eq_true rfl) ?_ | (refine yI ?_ ?_; focus (first | decide | (simp; done) | (simp [tcs]; done))) | (refine nI ?_ ?_; focus (first | decide | (simp; done) | (simp [tcs]; done))) | intro _); conv => whnf)
    try (refine dI (by kernel_rfl) ?_; conv => whnf)
    first | refine CallSt.use hsc [] trivial (by decide) rfl ?_ | refine CallPt.useS hsc [] trivial (by decide) rfl ?_
    rintro _ _ ⟨rfl, rfl⟩ _
    conv => whnf
    repeat ((first | refine aI rfl ?_ | refine aI (by decide) ?_ | refine dI (by kernel_rfl) ?_ | refine aI ⟨by omega, by omega⟩ ?_ | refine aI (by omega) ?_ | refine aI (fun _ => ⟨by omega, by omega⟩) ?_ | refine aI (of_decide_eq_true rfl) ?_ | (refine yI ?_ ?_; focus (first | decide | (simp; done) | (simp [tcs]; done))) | (refine nI ?_ ?_; focus (first | decide | (simp; done) | (simp [tcs]; done))) | intro _); conv => whnf)
    try (refine dI (by kernel_rfl) ?_; conv => whnf)
    first | refine CallSt.use haw [] trivial (by decide) rfl ?_ | refine CallPt.useS haw [] trivial (by decide) rfl ?_
    rintro _ _ ⟨rfl, rfl⟩ _
    conv => whnf
    repeat ((first | refine aI rfl ?_ | refine aI (by decide) ?_ | refine dI (by kernel_rfl) ?_ | refine aI ⟨by omega, by omega⟩ ?_ | refine aI (by omega) ?_ | refine aI (fun _ => ⟨by omega, by omega⟩) ?_ | refine aI (of_decide_eq_true rfl) ?_ | (refine yI ?_ ?_; focus (first | decide | (simp; done) | (simp [tcs]; done))) | (refine nI ?_ ?_; focus (first | decide | (simp; done) | (simp [tcs]; done))) | intro _); conv => whnf)
    all_goals (first | rfl | exact ⟨rfl, rfl⟩ | exact ⟨rfl, rfl, rfl⟩)
end Go.Tr
