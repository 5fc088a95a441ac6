/- What each function computes, and the plain laws of it. -/
import Derived.Test.YtdclcamgmepjpaaTrXa02f6b34
set_option linter.unusedVariables false
set_option linter.unusedSimpArgs false
set_option linter.unnecessarySimpa false
set_option autoImplicit false
/- The law CertNodes. -/
namespace Go.Tr
open Go.Proofs
theorem tcs_take (l : List Term) (i : Nat) : (tcs l).take i = tcs (l.take i) := by
  induction l generalizing i with
  | nil => simp [tcs]
  | cons a l ih =>
    cases i with
    | zero => rfl
    | succ i => simp only [tcs, List.take_succ_cons, ih]
theorem cCertNodes (c : Crt) : CallSt Try.prog 4 [crv c] [] (fun r H' => r = .c (.bool true) ∧ H' = []) := by
  have hsm := cSmall19 c
  have haw := cAwake19
  have hnd := cNodes c
  unfold nodesV at hnd
  cases hb : builtB c with
  | false =>
    rw [hb] at hnd
    obtain ⟨S, X, ⟨k, l, n, ts⟩, ⟨k2, l2, n2, us⟩⟩ := c
    unfold crv at *
    dsimp only [Term.k, Term.l, Term.n, Term.ts] at *
    refine call_pure (E := env 0) (fn := Try.f4) (c := bodyOf Try.f4) (env_ok 0) mixed (by kernel_rfl) (by kernel_rfl) (by kernel_rfl) (by kernel_rfl) (by kernel_rfl) (by kernel_rfl) rfl ?_
    conv => whnf
    try (refine draw_intro true (by kernel_rfl) ?_; conv => whnf)
    refine CallSt.use hsm [] trivial (by decide) rfl ?_
    rintro _ _ ⟨b, rfl, rfl⟩ _
    conv => whnf
    cases b with
    | false =>
      repeat (first | (refine And.intro rfl ?_; conv => whnf) | (refine And.intro (by decide) ?_; conv => whnf) | (refine draw_intro true (by kernel_rfl) ?_; conv => whnf) | (refine And.intro ⟨by omega, by omega⟩ ?_; conv => whnf) | (refine And.intro (by omega) ?_; conv => whnf) | (refine And.intro (fun _ => ⟨by omega, by omega⟩) ?_; conv => whnf) | (refine And.intro (fun _ => ?_) (fun h => absurd h ?_); rotate_left; (focus (first | decide | (simp; done) | (simp [tcs]; done))); conv => whnf) | (refine And.intro (fun h => absurd h ?_) (fun _ => ?_); (focus (first | decide | (simp; done) | (simp [tcs]; done))); conv => whnf) | (intro _; conv => whnf))
      try (refine draw_intro true (by kernel_rfl) ?_; conv => whnf)
      refine CallSt.use haw [] trivial (by decide) rfl ?_
      rintro _ _ ⟨rfl, rfl⟩ _
      conv => whnf
      repeat (first | (refine And.intro rfl ?_; conv => whnf) | (refine And.intro (by decide) ?_; conv => whnf) | (refine draw_intro true (by kernel_rfl) ?_; conv => whnf) | (refine And.intro ⟨by omega, by omega⟩ ?_; conv => whnf) | (refine And.intro (by omega) ?_; conv => whnf) | (refine And.intro (fun _ => ⟨by omega, by omega⟩) ?_; conv => whnf) | (refine And.intro (fun _ => ?_) (fun h => absurd h ?_); rotate_left; (focus (first | decide | (simp; done) | (simp [tcs]; done))); conv => whnf) | (refine And.intro (fun h => absurd h ?_) (fun _ => ?_); (focus (first | decide | (simp; done) | (simp [tcs]; done))); conv => whnf) | (intro _; conv => whnf))
      all_goals (first | rfl | exact ⟨rfl, rfl⟩ | exact ⟨rfl, rfl, rfl⟩)
    | true =>
      repeat (first | (refine And.intro rfl ?_; conv => whnf) | (refine And.intro (by decide) ?_; conv => whnf) | (refine draw_intro true (by kernel_rfl) ?_; conv => whnf) | (refine And.intro ⟨by omega, by omega⟩ ?_; conv => whnf) | (refine And.intro (by omega) ?_; conv => whnf) | (refine And.intro (fun _ => ⟨by omega, by omega⟩) ?_; conv => whnf) | (refine And.intro (fun _ => ?_) (fun h => absurd h ?_); rotate_left; (focus (first | decide | (simp; done) | (simp [tcs]; done))); conv => whnf) | (refine And.intro (fun h => absurd h ?_) (fun _ => ?_); (focus (first | decide | (simp; done) | (simp [tcs]; done))); conv => whnf) | (intro _; conv => whnf))
      try (refine draw_intro true (by kernel_rfl) ?_; conv => whnf)
      refine CallSt.use hnd [] trivial (by decide) rfl ?_
      rintro _ _ ⟨rfl, rfl⟩ _
      conv => whnf
      repeat (first | (refine And.intro rfl ?_; conv => whnf) | (refine And.intro (by decide) ?_; conv => whnf) | (refine draw_intro true (by kernel_rfl) ?_; conv => whnf) | (refine And.intro ⟨by omega, by omega⟩ ?_; conv => whnf) | (refine And.intro (by omega) ?_; conv => whnf) | (refine And.intro (fun _ => ⟨by omega, by omega⟩) ?_; conv => whnf) | (refine And.intro (fun _ => ?_) (fun h => absurd h ?_); rotate_left; (focus (first | decide | (simp; done) | (simp [tcs]; done))); conv => whnf) | (refine And.intro (fun h => absurd h ?_) (fun _ => ?_); (focus (first | decide | (simp; done) | (simp [tcs]; done))); conv => whnf) | (intro _; conv => whnf))
      try (refine draw_intro true (by kernel_rfl) ?_; conv => whnf)
      refine CallSt.use haw [] trivial (by decide) rfl ?_
      rintro _ _ ⟨rfl, rfl⟩ _
      conv => whnf
      repeat (first | (refine And.intro rfl ?_; conv => whnf) | (refine And.intro (by decide) ?_; conv => whnf) | (refine draw_intro true (by kernel_rfl) ?_; conv => whnf) | (refine And.intro ⟨by omega, by omega⟩ ?_; conv => whnf) | (refine And.intro (by omega) ?_; conv => whnf) | (refine And.intro (fun _ => ⟨by omega, by omega⟩) ?_; conv => whnf) | (refine And.intro (fun _ => ?_) (fun h => absurd h ?_); rotate_left; (focus (first | decide | (simp; done) | (simp [tcs]; done))); conv => whnf) | (refine And.intro (fun h => absurd h ?_) (fun _ => ?_); (focus (first | decide | (simp; done) | (simp [tcs]; done))); conv => whnf) | (intro _; conv => whnf))
      all_goals (first | rfl | exact ⟨rfl, rfl⟩ | exact ⟨rfl, rfl, rfl⟩)
  | true =>
    rw [hb] at hnd
    obtain ⟨hBl, hBs⟩ := nodes_sz hb
    have hS := (built_ok hb).sane.S
    obtain ⟨g1, g2, g3⟩ := bk_good (built_ok hb).sane (crl c).length
    rw [List.take_length] at g2
    have hG : Good (nodesOf c) := g1
    have hin : ∀ t ∈ crl c, t ∈ nodesOf c := g2
    clear g1 g2 g3 hb
    generalize nodesOf c = B at *
    have hno := inB_iff.2 (hin c.o (by simp [crl]))
    have hnc := inB_iff.2 (hin c.c (by simp [crl]))
    have hnS : ∀ (j : Nat) (d : Dcl), c.S[j]? = some d → inB B d.c = true := fun j d h => inB_iff.2 (hin d.c (List.mem_of_getElem? (crl_S h)))
    have hao := cAmong B c.o
    have hac := cAmong B c.c
    rw [hno] at hao
    rw [hnc] at hac
    clear hno hnc hin
    have hln := len_tcs B
    have hds := len_dcs c.S
    obtain ⟨S, X, ⟨k, l, n, ts⟩, ⟨k2, l2, n2, us2⟩⟩ := c
    unfold crv at *
    dsimp only [Term.k, Term.l, Term.n, Term.ts] at *
    rw [tv_mk] at hao hac
    refine call_pure (E := env 0) (fn := Try.f4) (c := bodyOf Try.f4) (env_ok 0) mixed (by kernel_rfl) (by kernel_rfl) (by kernel_rfl) (by kernel_rfl) (by kernel_rfl) (by kernel_rfl) rfl ?_
    conv => whnf
    try (refine draw_intro true (by kernel_rfl) ?_; conv => whnf)
    refine CallSt.use hsm [] trivial (by decide) rfl ?_
    rintro _ _ ⟨b, rfl, rfl⟩ _
    conv => whnf
    cases b with
    | false =>
      repeat (first | (refine And.intro rfl ?_; conv => whnf) | (refine And.intro (by decide) ?_; conv => whnf) | (refine draw_intro true (by kernel_rfl) ?_; conv => whnf) | (refine And.intro ⟨by omega, by omega⟩ ?_; conv => whnf) | (refine And.intro (by omega) ?_; conv => whnf) | (refine And.intro (fun _ => ⟨by omega, by omega⟩) ?_; conv => whnf) | (refine And.intro (fun _ => ?_) (fun h => absurd h ?_); rotate_left; (focus (first | decide | (simp; done) | (simp [tcs]; done))); conv => whnf) | (refine And.intro (fun h => absurd h ?_) (fun _ => ?_); (focus (first | decide | (simp; done) | (simp [tcs]; done))); conv => whnf) | (intro _; conv => whnf))
      try (refine draw_intro true (by kernel_rfl) ?_; conv => whnf)
      refine CallSt.use haw [] trivial (by decide) rfl ?_
      rintro _ _ ⟨rfl, rfl⟩ _
      conv => whnf
      repeat (first | (refine And.intro rfl ?_; conv => whnf) | (refine And.intro (by decide) ?_; conv => whnf) | (refine draw_intro true (by kernel_rfl) ?_; conv => whnf) | (refine And.intro ⟨by omega, by omega⟩ ?_; conv => whnf) | (refine And.intro (by omega) ?_; conv => whnf) | (refine And.intro (fun _ => ⟨by omega, by omega⟩) ?_; conv => whnf) | (refine And.intro (fun _ => ?_) (fun h => absurd h ?_); rotate_left; (focus (first | decide | (simp; done) | (simp [tcs]; done))); conv => whnf) | (refine And.intro (fun h => absurd h ?_) (fun _ => ?_); (focus (first | decide | (simp; done) | (simp [tcs]; done))); conv => whnf) | (intro _; conv => whnf))
      all_goals (first | rfl | exact ⟨rfl, rfl⟩ | exact ⟨rfl, rfl, rfl⟩)
    | true =>
      repeat (first | (refine And.intro rfl ?_; conv => whnf) | (refine And.intro (by decide) ?_; conv => whnf) | (refine draw_intro true (by kernel_rfl) ?_; conv => whnf) | (refine And.intro ⟨by omega, by omega⟩ ?_; conv => whnf) | (refine And.intro (by omega) ?_; conv => whnf) | (refine And.intro (fun _ => ⟨by omega, by omega⟩) ?_; conv => whnf) | (refine And.intro (fun _ => ?_) (fun h => absurd h ?_); rotate_left; (focus (first | decide | (simp; done) | (simp [tcs]; done))); conv => whnf) | (refine And.intro (fun h => absurd h ?_) (fun _ => ?_); (focus (first | decide | (simp; done) | (simp [tcs]; done))); conv => whnf) | (intro _; conv => whnf))
      try (refine draw_intro true (by kernel_rfl) ?_; conv => whnf)
      refine CallSt.use hnd [] trivial (by decide) rfl ?_
      rintro _ _ ⟨rfl, rfl⟩ _
      conv => whnf
      repeat (first | (refine And.intro rfl ?_; conv => whnf) | (refine And.intro (by decide) ?_; conv => whnf) | (refine draw_intro true (by kernel_rfl) ?_; conv => whnf) | (refine And.intro ⟨by omega, by omega⟩ ?_; conv => whnf) | (refine And.intro (by omega) ?_; conv => whnf) | (refine And.intro (fun _ => ⟨by omega, by omega⟩) ?_; conv => whnf) | (refine And.intro (fun _ => ?_) (fun h => absurd h ?_); rotate_left; (focus (first | decide | (simp; done) | (simp [tcs]; done))); conv => whnf) | (refine And.intro (fun h => absurd h ?_) (fun _ => ?_); (focus (first | decide | (simp; done) | (simp [tcs]; done))); conv => whnf) | (intro _; conv => whnf))
      refine ⟨fun hgt => ?_, fun hgt => ?_⟩
      · conv => whnf
        try (refine draw_intro true (by kernel_rfl) ?_; conv => whnf)
        refine CallSt.use haw [] trivial (by decide) rfl ?_
        rintro _ _ ⟨rfl, rfl⟩ _
        conv => whnf
        repeat (first | (refine And.intro rfl ?_; conv => whnf) | (refine And.intro (by decide) ?_; conv => whnf) | (refine draw_intro true (by kernel_rfl) ?_; conv => whnf) | (refine And.intro ⟨by omega, by omega⟩ ?_; conv => whnf) | (refine And.intro (by omega) ?_; conv => whnf) | (refine And.intro (fun _ => ⟨by omega, by omega⟩) ?_; conv => whnf) | (refine And.intro (fun _ => ?_) (fun h => absurd h ?_); rotate_left; (focus (first | decide | (simp; done) | (simp [tcs]; done))); conv => whnf) | (refine And.intro (fun h => absurd h ?_) (fun _ => ?_); (focus (first | decide | (simp; done) | (simp [tcs]; done))); conv => whnf) | (intro _; conv => whnf))
        all_goals (first | rfl | exact ⟨rfl, rfl⟩ | exact ⟨rfl, rfl, rfl⟩)
      replace hgt := of_decide_eq_false hgt
      conv => whnf
      repeat (first | (refine And.intro rfl ?_; conv => whnf) | (refine And.intro (by decide) ?_; conv => whnf) | (refine draw_intro true (by kernel_rfl) ?_; conv => whnf) | (refine And.intro ⟨by omega, by omega⟩ ?_; conv => whnf) | (refine And.intro (by omega) ?_; conv => whnf) | (refine And.intro (fun _ => ⟨by omega, by omega⟩) ?_; conv => whnf) | (refine And.intro (fun _ => ?_) (fun h => absurd h ?_); rotate_left; (focus (first | decide | (simp; done) | (simp [tcs]; done))); conv => whnf) | (refine And.intro (fun h => absurd h ?_) (fun _ => ?_); (focus (first | decide | (simp; done) | (simp [tcs]; done))); conv => whnf) | (intro _; conv => whnf))
      refine loop_intro (fun m tm H => ∃ (j : Nat), B.length = m + j ∧ tm = [(5, .c (.int .i64 (j))), (3, .c (.sl 4 48 (tcs B))), (1, .ptr 0 0)] ∧ H = [.box [.c (.sl 6 72 (dcs S)), .c (.sl 4 48 (tcs X)), .c (.int .i64 (k)), .c (.int .i64 (l)), .c (.int .i64 (n)), .c (.sl 4 48 (tcs ts)), .c (.int .i64 (k2)), .c (.int .i64 (l2)), .c (.int .i64 (n2)), .c (.sl 4 48 (tcs us2))]])
        B.length _ _ ⟨0, by omega, rfl, rfl⟩ (Wk.sel [0] (by decide) (by decide) (by decide) ⟨rfl, trivial⟩ ⟨rfl, rfl, rfl, trivial⟩ rfl) ?_
      rintro m tm H ⟨j, hj, rfl, rfl⟩
      conv => whnf
      intro hlen
      replace hlen : (tcs B).length * 48 ≤ 140737488355328 := hlen
      conv => whnf
      refine ⟨fun hc => ?_, fun hc => ?_⟩
      · replace hc : (j : Int) < (tcs B).length := of_decide_eq_true hc
        obtain ⟨t, ht⟩ : ∃ t, B[j]? = some t := ⟨B[j]'(by omega), List.getElem?_eq_getElem (by omega)⟩
        have htc := tcs_at B j t ht
        have htt := List.mem_of_getElem? ht
        have hlo := hG.lo j t ht
        have hamI : inB (B.take j) t = false := inB_false fun hm => by
          obtain ⟨i, hi⟩ := List.mem_iff_getElem?.1 hm
          rw [List.getElem?_take] at hi
          split at hi
          · rename_i hij
            have h1 := pl_of hG.nd hi
            have h2 := pl_of hG.nd ht
            omega
          · cases hi
        have hamK : ∀ (q : Nat) u, t.ts[q]? = some u → inB (B.take j) u = true := fun q u hu => inB_iff.2 (by
          obtain ⟨i, hi, hb⟩ := hlo u (List.mem_of_getElem? hu)
          exact List.mem_iff_getElem?.2 ⟨i, by rw [List.getElem?_take, if_pos hi]; exact hb⟩)
        have hA := cAmong (B.take j) t
        have htk : ((tcs B).take ((j : Int).toNat)).drop (Int.toNat 0) = tcs (B.take j) := by rw [Int.toNat_natCast]; exact tcs_take B j
        rw [hamI, ← htk] at hA
        clear hamI hlo
        obtain ⟨k', l', n', us⟩ := t
        rw [tv_mk] at hA
        simp only [Term.ts] at hamK
        have hul := len_tcs us
        conv => whnf
        repeat (first | (refine And.intro rfl ?_; conv => whnf) | (refine And.intro (by decide) ?_; conv => whnf) | (refine draw_intro true (by kernel_rfl) ?_; conv => whnf) | (refine And.intro ⟨by omega, by omega⟩ ?_; conv => whnf) | (refine And.intro (by omega) ?_; conv => whnf) | (refine And.intro (fun _ => ⟨by omega, by omega⟩) ?_; conv => whnf) | (refine And.intro (fun _ => ?_) (fun h => absurd h ?_); rotate_left; (focus (first | decide | (simp; done) | (simp [tcs]; done))); conv => whnf) | (refine And.intro (fun h => absurd h ?_) (fun _ => ?_); (focus (first | decide | (simp; done) | (simp [tcs]; done))); conv => whnf) | (intro _; conv => whnf))
        refine loop_intro (fun m tm H => ∃ (q : Nat), us.length = m + q ∧ tm = [(6, .c (.int .i64 (q))), (5, .c (.int .i64 (j))), (3, .c (.sl 4 48 (tcs B))), (1, .ptr 0 0)] ∧ H = [.box [.c (.sl 6 72 (dcs S)), .c (.sl 4 48 (tcs X)), .c (.int .i64 (k)), .c (.int .i64 (l)), .c (.int .i64 (n)), .c (.sl 4 48 (tcs ts)), .c (.int .i64 (k2)), .c (.int .i64 (l2)), .c (.int .i64 (n2)), .c (.sl 4 48 (tcs us2))]])
          us.length _ _ ⟨0, by omega, rfl, rfl⟩ (Wk.sel [0] (by decide) (by decide) (by decide) ⟨rfl, trivial⟩ ⟨rfl, rfl, rfl, rfl, trivial⟩ rfl) ?_
        rintro m2 tm H ⟨q, hq, rfl, rfl⟩
        replace htc : (tcs B)[j]? = some [.int .i64 k', .int .i64 l', .int .i64 n', .sl 4 48 (tcs us)] := htc
        conv => whnf
        repeat (first | (refine And.intro rfl ?_; conv => whnf) | (refine And.intro (by decide) ?_; conv => whnf) | (refine draw_intro true (by kernel_rfl) ?_; conv => whnf) | (refine And.intro ⟨by omega, by omega⟩ ?_; conv => whnf) | (refine And.intro (by omega) ?_; conv => whnf) | (refine And.intro (fun _ => ⟨by omega, by omega⟩) ?_; conv => whnf) | (refine And.intro (fun _ => ?_) (fun h => absurd h ?_); rotate_left; (focus (first | decide | (simp; done) | (simp [tcs]; done))); conv => whnf) | (refine And.intro (fun h => absurd h ?_) (fun _ => ?_); (focus (first | decide | (simp; done) | (simp [tcs]; done))); conv => whnf) | (intro _; conv => whnf))
        refine ⟨_, ⟨by omega, htc⟩, ?_⟩
        conv => whnf
        refine ⟨show 1 ≤ 1 by decide, ?_⟩
        conv => whnf
        intro hlen2
        replace hlen2 : (tcs us).length * 48 ≤ 140737488355328 := hlen2
        conv => whnf
        refine ⟨fun hc2 => ?_, fun hc2 => ?_⟩
        · replace hc2 : (q : Int) < (tcs us).length := of_decide_eq_true hc2
          obtain ⟨u, hu⟩ : ∃ u, us[q]? = some u := ⟨us[q]'(by omega), List.getElem?_eq_getElem (by omega)⟩
          have huc := tcs_at us q u hu
          have hK := cAmong (B.take j) u
          rw [hamK q u hu, ← htk] at hK
          obtain ⟨k3, l3, n3, vs⟩ := u
          rw [tv_mk] at hK
          replace huc : (tcs us)[q]? = some [.int .i64 k3, .int .i64 l3, .int .i64 n3, .sl 4 48 (tcs vs)] := huc
          conv => whnf
          refine draw_intro true (by kernel_rfl) ?_
          conv => whnf
          refine ⟨⟨by omega, by omega, by omega⟩, ?_⟩
          conv => whnf
          repeat (first | (refine And.intro rfl ?_; conv => whnf) | (refine And.intro (by decide) ?_; conv => whnf) | (refine And.intro ⟨by omega, by omega⟩ ?_; conv => whnf) | (refine And.intro (by omega) ?_; conv => whnf) | (refine And.intro (fun _ => ⟨by omega, by omega⟩) ?_; conv => whnf) | (refine And.intro (fun _ => ?_) (fun h => absurd h ?_); rotate_left; (focus (first | decide | (simp; done) | (simp [tcs]; done))); conv => whnf) | (refine And.intro (fun h => absurd h ?_) (fun _ => ?_); (focus (first | decide | (simp; done) | (simp [tcs]; done))); conv => whnf))
          refine ⟨_, ⟨by omega, htc⟩, ?_⟩
          conv => whnf
          refine ⟨show 1 ≤ 1 by decide, ?_⟩
          conv => whnf
          repeat (first | (refine And.intro rfl ?_; conv => whnf) | (refine And.intro (by decide) ?_; conv => whnf) | (refine And.intro ⟨by omega, by omega⟩ ?_; conv => whnf) | (refine And.intro (by omega) ?_; conv => whnf) | (refine And.intro (fun _ => ⟨by omega, by omega⟩) ?_; conv => whnf) | (refine And.intro (fun _ => ?_) (fun h => absurd h ?_); rotate_left; (focus (first | decide | (simp; done) | (simp [tcs]; done))); conv => whnf) | (refine And.intro (fun h => absurd h ?_) (fun _ => ?_); (focus (first | decide | (simp; done) | (simp [tcs]; done))); conv => whnf))
          refine ⟨_, ⟨by omega, by simpa using huc⟩, ?_⟩
          conv => whnf
          refine ⟨Nat.le_refl 4, ?_⟩
          conv => whnf
          repeat (first | (refine And.intro rfl ?_; conv => whnf) | (refine And.intro (by decide) ?_; conv => whnf) | (refine draw_intro true (by kernel_rfl) ?_; conv => whnf) | (refine And.intro ⟨by omega, by omega⟩ ?_; conv => whnf) | (refine And.intro (by omega) ?_; conv => whnf) | (refine And.intro (fun _ => ⟨by omega, by omega⟩) ?_; conv => whnf) | (refine And.intro (fun _ => ?_) (fun h => absurd h ?_); rotate_left; (focus (first | decide | (simp; done) | (simp [tcs]; done))); conv => whnf) | (refine And.intro (fun h => absurd h ?_) (fun _ => ?_); (focus (first | decide | (simp; done) | (simp [tcs]; done))); conv => whnf) | (intro _; conv => whnf))
          try (refine draw_intro true (by kernel_rfl) ?_; conv => whnf)
          refine CallSt.use hK [] trivial (by decide) rfl ?_
          rintro _ _ ⟨rfl, rfl⟩ _
          conv => whnf
          repeat (first | (refine And.intro rfl ?_; conv => whnf) | (refine And.intro (by decide) ?_; conv => whnf) | (refine draw_intro true (by kernel_rfl) ?_; conv => whnf) | (refine And.intro ⟨by omega, by omega⟩ ?_; conv => whnf) | (refine And.intro (by omega) ?_; conv => whnf) | (refine And.intro (fun _ => ⟨by omega, by omega⟩) ?_; conv => whnf) | (refine And.intro (fun _ => ?_) (fun h => absurd h ?_); rotate_left; (focus (first | decide | (simp; done) | (simp [tcs]; done))); conv => whnf) | (refine And.intro (fun h => absurd h ?_) (fun _ => ?_); (focus (first | decide | (simp; done) | (simp [tcs]; done))); conv => whnf) | (intro _; conv => whnf))
          refine ⟨m2 - 1, _, _, by omega, ⟨q + 1, by omega, rfl, rfl⟩, Wk.sel [0] (by decide) (by decide) (by decide) ⟨rfl, trivial⟩ ⟨rfl, rfl, rfl, rfl, trivial⟩ rfl⟩
        · conv => whnf
          refine draw_intro true (by kernel_rfl) ?_
          conv => whnf
          refine ⟨⟨by omega, by omega, by omega⟩, ?_⟩
          conv => whnf
          repeat (first | (refine And.intro rfl ?_; conv => whnf) | (refine And.intro (by decide) ?_; conv => whnf) | (refine And.intro ⟨by omega, by omega⟩ ?_; conv => whnf) | (refine And.intro (by omega) ?_; conv => whnf) | (refine And.intro (fun _ => ⟨by omega, by omega⟩) ?_; conv => whnf) | (refine And.intro (fun _ => ?_) (fun h => absurd h ?_); rotate_left; (focus (first | decide | (simp; done) | (simp [tcs]; done))); conv => whnf) | (refine And.intro (fun h => absurd h ?_) (fun _ => ?_); (focus (first | decide | (simp; done) | (simp [tcs]; done))); conv => whnf))
          refine ⟨_, ⟨by omega, by simpa using htc⟩, ?_⟩
          conv => whnf
          refine ⟨Nat.le_refl 4, ?_⟩
          conv => whnf
          repeat (first | (refine And.intro rfl ?_; conv => whnf) | (refine And.intro (by decide) ?_; conv => whnf) | (refine draw_intro true (by kernel_rfl) ?_; conv => whnf) | (refine And.intro ⟨by omega, by omega⟩ ?_; conv => whnf) | (refine And.intro (by omega) ?_; conv => whnf) | (refine And.intro (fun _ => ⟨by omega, by omega⟩) ?_; conv => whnf) | (refine And.intro (fun _ => ?_) (fun h => absurd h ?_); rotate_left; (focus (first | decide | (simp; done) | (simp [tcs]; done))); conv => whnf) | (refine And.intro (fun h => absurd h ?_) (fun _ => ?_); (focus (first | decide | (simp; done) | (simp [tcs]; done))); conv => whnf) | (intro _; conv => whnf))
          try (refine draw_intro true (by kernel_rfl) ?_; conv => whnf)
          refine CallSt.use hA [] trivial (by decide) rfl ?_
          rintro _ _ ⟨rfl, rfl⟩ _
          conv => whnf
          repeat (first | (refine And.intro rfl ?_; conv => whnf) | (refine And.intro (by decide) ?_; conv => whnf) | (refine draw_intro true (by kernel_rfl) ?_; conv => whnf) | (refine And.intro ⟨by omega, by omega⟩ ?_; conv => whnf) | (refine And.intro (by omega) ?_; conv => whnf) | (refine And.intro (fun _ => ⟨by omega, by omega⟩) ?_; conv => whnf) | (refine And.intro (fun _ => ?_) (fun h => absurd h ?_); rotate_left; (focus (first | decide | (simp; done) | (simp [tcs]; done))); conv => whnf) | (refine And.intro (fun h => absurd h ?_) (fun _ => ?_); (focus (first | decide | (simp; done) | (simp [tcs]; done))); conv => whnf) | (intro _; conv => whnf))
          refine ⟨m - 1, _, _, by omega, ⟨j + 1, by omega, rfl, rfl⟩, Wk.sel [0] (by decide) (by decide) (by decide) ⟨rfl, trivial⟩ ⟨rfl, rfl, rfl, trivial⟩ rfl⟩
      · conv => whnf
        repeat (first | (refine And.intro rfl ?_; conv => whnf) | (refine And.intro (by decide) ?_; conv => whnf) | (refine draw_intro true (by kernel_rfl) ?_; conv => whnf) | (refine And.intro ⟨by omega, by omega⟩ ?_; conv => whnf) | (refine And.intro (by omega) ?_; conv => whnf) | (refine And.intro (fun _ => ⟨by omega, by omega⟩) ?_; conv => whnf) | (refine And.intro (fun _ => ?_) (fun h => absurd h ?_); rotate_left; (focus (first | decide | (simp; done) | (simp [tcs]; done))); conv => whnf) | (refine And.intro (fun h => absurd h ?_) (fun _ => ?_); (focus (first | decide | (simp; done) | (simp [tcs]; done))); conv => whnf) | (intro _; conv => whnf))
        refine loop_intro (fun m tm H => ∃ (j : Nat), S.length = m + j ∧ tm = [(7, .c (.int .i64 (j))), (3, .c (.sl 4 48 (tcs B))), (1, .ptr 0 0)] ∧ H = [.box [.c (.sl 6 72 (dcs S)), .c (.sl 4 48 (tcs X)), .c (.int .i64 (k)), .c (.int .i64 (l)), .c (.int .i64 (n)), .c (.sl 4 48 (tcs ts)), .c (.int .i64 (k2)), .c (.int .i64 (l2)), .c (.int .i64 (n2)), .c (.sl 4 48 (tcs us2))]])
          S.length _ _ ⟨0, by omega, rfl, rfl⟩ (Wk.sel [0] (by decide) (by decide) (by decide) ⟨rfl, trivial⟩ ⟨rfl, rfl, rfl, trivial⟩ rfl) ?_
        rintro m tm H ⟨j, hj, rfl, rfl⟩
        conv => whnf
        intro hlen2
        replace hlen2 : (dcs S).length * 72 ≤ 140737488355328 := hlen2
        conv => whnf
        refine ⟨fun hc2 => ?_, fun hc2 => ?_⟩
        · replace hc2 : (j : Int) < (dcs S).length := of_decide_eq_true hc2
          obtain ⟨d, hd⟩ : ∃ d, S[j]? = some d := ⟨S[j]'(by omega), List.getElem?_eq_getElem (by omega)⟩
          have hdc := dcs_at hd
          have hK := cAmong B d.c
          rw [hnS j d hd] at hK
          obtain ⟨s', ⟨k', l', n', us'⟩, i'⟩ := d
          dsimp only at hK
          rw [tv_mk] at hK
          replace hdc : (dcs S)[j]? = some [.str s', .int .i64 k', .int .i64 l', .int .i64 n', .sl 4 48 (tcs us'), .int .i64 i'] := hdc
          conv => whnf
          repeat (first | (refine And.intro rfl ?_; conv => whnf) | (refine And.intro (by decide) ?_; conv => whnf) | (refine draw_intro true (by kernel_rfl) ?_; conv => whnf) | (refine And.intro ⟨by omega, by omega⟩ ?_; conv => whnf) | (refine And.intro (by omega) ?_; conv => whnf) | (refine And.intro (fun _ => ⟨by omega, by omega⟩) ?_; conv => whnf) | (refine And.intro (fun _ => ?_) (fun h => absurd h ?_); rotate_left; (focus (first | decide | (simp; done) | (simp [tcs]; done))); conv => whnf) | (refine And.intro (fun h => absurd h ?_) (fun _ => ?_); (focus (first | decide | (simp; done) | (simp [tcs]; done))); conv => whnf) | (intro _; conv => whnf))
          refine ⟨_, ⟨by omega, hdc⟩, ?_⟩
          conv => whnf
          refine ⟨show 4 ≤ 5 by decide, ?_⟩
          conv => whnf
          repeat (first | (refine And.intro rfl ?_; conv => whnf) | (refine And.intro (by decide) ?_; conv => whnf) | (refine draw_intro true (by kernel_rfl) ?_; conv => whnf) | (refine And.intro ⟨by omega, by omega⟩ ?_; conv => whnf) | (refine And.intro (by omega) ?_; conv => whnf) | (refine And.intro (fun _ => ⟨by omega, by omega⟩) ?_; conv => whnf) | (refine And.intro (fun _ => ?_) (fun h => absurd h ?_); rotate_left; (focus (first | decide | (simp; done) | (simp [tcs]; done))); conv => whnf) | (refine And.intro (fun h => absurd h ?_) (fun _ => ?_); (focus (first | decide | (simp; done) | (simp [tcs]; done))); conv => whnf) | (intro _; conv => whnf))
          try (refine draw_intro true (by kernel_rfl) ?_; conv => whnf)
          refine CallSt.use hK [] trivial (by decide) rfl ?_
          rintro _ _ ⟨rfl, rfl⟩ _
          conv => whnf
          repeat (first | (refine And.intro rfl ?_; conv => whnf) | (refine And.intro (by decide) ?_; conv => whnf) | (refine draw_intro true (by kernel_rfl) ?_; conv => whnf) | (refine And.intro ⟨by omega, by omega⟩ ?_; conv => whnf) | (refine And.intro (by omega) ?_; conv => whnf) | (refine And.intro (fun _ => ⟨by omega, by omega⟩) ?_; conv => whnf) | (refine And.intro (fun _ => ?_) (fun h => absurd h ?_); rotate_left; (focus (first | decide | (simp; done) | (simp [tcs]; done))); conv => whnf) | (refine And.intro (fun h => absurd h ?_) (fun _ => ?_); (focus (first | decide | (simp; done) | (simp [tcs]; done))); conv => whnf) | (intro _; conv => whnf))
          refine ⟨m - 1, _, _, by omega, ⟨j + 1, by omega, rfl, rfl⟩, Wk.sel [0] (by decide) (by decide) (by decide) ⟨rfl, trivial⟩ ⟨rfl, rfl, rfl, trivial⟩ rfl⟩
        · conv => whnf
          repeat (first | (refine And.intro rfl ?_; conv => whnf) | (refine And.intro (by decide) ?_; conv => whnf) | (refine draw_intro true (by kernel_rfl) ?_; conv => whnf) | (refine And.intro ⟨by omega, by omega⟩ ?_; conv => whnf) | (refine And.intro (by omega) ?_; conv => whnf) | (refine And.intro (fun _ => ⟨by omega, by omega⟩) ?_; conv => whnf) | (refine And.intro (fun _ => ?_) (fun h => absurd h ?_); rotate_left; (focus (first | decide | (simp; done) | (simp [tcs]; done))); conv => whnf) | (refine And.intro (fun h => absurd h ?_) (fun _ => ?_); (focus (first | decide | (simp; done) | (simp [tcs]; done))); conv => whnf) | (intro _; conv => whnf))
          try (refine draw_intro true (by kernel_rfl) ?_; conv => whnf)
          refine CallSt.use hao [] trivial (by decide) rfl ?_
          rintro _ _ ⟨rfl, rfl⟩ _
          conv => whnf
          repeat (first | (refine And.intro rfl ?_; conv => whnf) | (refine And.intro (by decide) ?_; conv => whnf) | (refine draw_intro true (by kernel_rfl) ?_; conv => whnf) | (refine And.intro ⟨by omega, by omega⟩ ?_; conv => whnf) | (refine And.intro (by omega) ?_; conv => whnf) | (refine And.intro (fun _ => ⟨by omega, by omega⟩) ?_; conv => whnf) | (refine And.intro (fun _ => ?_) (fun h => absurd h ?_); rotate_left; (focus (first | decide | (simp; done) | (simp [tcs]; done))); conv => whnf) | (refine And.intro (fun h => absurd h ?_) (fun _ => ?_); (focus (first | decide | (simp; done) | (simp [tcs]; done))); conv => whnf) | (intro _; conv => whnf))
          try (refine draw_intro true (by kernel_rfl) ?_; conv => whnf)
          refine CallSt.use hac [] trivial (by decide) rfl ?_
          rintro _ _ ⟨rfl, rfl⟩ _
          conv => whnf
          repeat (first | (refine And.intro rfl ?_; conv => whnf) | (refine And.intro (by decide) ?_; conv => whnf) | (refine draw_intro true (by kernel_rfl) ?_; conv => whnf) | (refine And.intro ⟨by omega, by omega⟩ ?_; conv => whnf) | (refine And.intro (by omega) ?_; conv => whnf) | (refine And.intro (fun _ => ⟨by omega, by omega⟩) ?_; conv => whnf) | (refine And.intro (fun _ => ?_) (fun h => absurd h ?_); rotate_left; (focus (first | decide | (simp; done) | (simp [tcs]; done))); conv => whnf) | (refine And.intro (fun h => absurd h ?_) (fun _ => ?_); (focus (first | decide | (simp; done) | (simp [tcs]; done))); conv => whnf) | (intro _; conv => whnf))
          try (refine draw_intro true (by kernel_rfl) ?_; conv => whnf)
          refine CallSt.use haw [] trivial (by decide) rfl ?_
          rintro _ _ ⟨rfl, rfl⟩ _
          conv => whnf
          repeat (first | (refine And.intro rfl ?_; conv => whnf) | (refine And.intro (by decide) ?_; conv => whnf) | (refine draw_intro true (by kernel_rfl) ?_; conv => whnf) | (refine And.intro ⟨by omega, by omega⟩ ?_; conv => whnf) | (refine And.intro (by omega) ?_; conv => whnf) | (refine And.intro (fun _ => ⟨by omega, by omega⟩) ?_; conv => whnf) | (refine And.intro (fun _ => ?_) (fun h => absurd h ?_); rotate_left; (focus (first | decide | (simp; done) | (simp [tcs]; done))); conv => whnf) | (refine And.intro (fun h => absurd h ?_) (fun _ => ?_); (focus (first | decide | (simp; done) | (simp [tcs]; done))); conv => whnf) | (intro _; conv => whnf))
          all_goals (first | rfl | exact ⟨rfl, rfl⟩ | exact ⟨rfl, rfl, rfl⟩)
end Go.Tr
/- cert: the reader's bytes and numbers. -/
namespace Go.Tr
open Go.Proofs
/-- What the reader's panic tells. -/
def trb : CV := .ifc 83 []
theorem cDemand (b : Bool) : CallPt Try.prog 47 [.c (.bool b)] [] (fun r H' => b = true ∧ r = .tup [] ∧ H' = []) (fun x H' => (x = trb ∧ b = false) ∧ H' = []) := by
  refine call_pan (E := env 0) (fn := Try.f47) (c := bodyOf Try.f47) (env_ok 0) mixed (by kernel_rfl) (by kernel_rfl) (by kernel_rfl) (by kernel_rfl) (by kernel_rfl) (by kernel_rfl) rfl .q ?_
  conv => whnf
  repeat (first | (refine And.intro rfl ?_; conv => whnf) | (refine And.intro (by decide) ?_; conv => whnf) | (refine draw_intro true (by kernel_rfl) ?_; conv => whnf) | (refine And.intro ⟨by omega, by omega⟩ ?_; conv => whnf) | (refine And.intro (by omega) ?_; conv => whnf) | (refine And.intro (fun _ => ⟨by omega, by omega⟩) ?_; conv => whnf) | (refine And.intro (of_decide_eq_true rfl) ?_; conv => whnf) | (refine And.intro (fun _ => ?_) (fun h => absurd h ?_); rotate_left; (focus (first | decide | (simp; done) | (simp [tcs]; done))); conv => whnf) | (refine And.intro (fun h => absurd h ?_) (fun _ => ?_); (focus (first | decide | (simp; done) | (simp [tcs]; done))); conv => whnf) | (intro _; conv => whnf))
  cases b with
  | true =>
    (refine ⟨fun h => absurd h ?_, fun _ => ?_⟩; (focus (first | decide | (simp; done) | (simp [tcs]; done))); conv => whnf)
    repeat (first | (refine And.intro rfl ?_; conv => whnf) | (refine And.intro (by decide) ?_; conv => whnf) | (refine draw_intro true (by kernel_rfl) ?_; conv => whnf) | (refine And.intro ⟨by omega, by omega⟩ ?_; conv => whnf) | (refine And.intro (by omega) ?_; conv => whnf) | (refine And.intro (fun _ => ⟨by omega, by omega⟩) ?_; conv => whnf) | (refine And.intro (of_decide_eq_true rfl) ?_; conv => whnf) | (refine And.intro (fun _ => ?_) (fun h => absurd h ?_); rotate_left; (focus (first | decide | (simp; done) | (simp [tcs]; done))); conv => whnf) | (refine And.intro (fun h => absurd h ?_) (fun _ => ?_); (focus (first | decide | (simp; done) | (simp [tcs]; done))); conv => whnf) | (intro _; conv => whnf))
    all_goals (first | rfl | exact ⟨rfl, rfl⟩ | exact ⟨rfl, rfl, rfl⟩)
  | false =>
    (refine ⟨fun _ => ?_, fun h => absurd h ?_⟩; rotate_left; (focus (first | decide | (simp; done) | (simp [tcs]; done))); conv => whnf)
    exact ⟨rfl, rfl⟩
/-- A string of these bytes. -/
def sB (l : List UInt8) : ByteArray := ⟨l.toArray⟩
theorem sB_size (l : List UInt8) : (sB l).size = l.length := by simp [sB, ByteArray.size]
theorem sB_list (l : List UInt8) : (sB l).data.toList = l := by simp [sB]
theorem sB_inj {l m : List UInt8} (h : sB l = sB m) : l = m := by rw [← sB_list l, h, sB_list]
theorem sB_of (s : ByteArray) : s = sB s.data.toList := by simp [sB]
theorem sB_extract (l : List UInt8) (a b : Nat) : (sB l).extract a b = sB ((l.take b).drop a) := by
  have h : ((sB l).extract a b).data.toList = (sB ((l.take b).drop a)).data.toList := by
    rw [sB_list, ByteArray.data_extract, Array.toList_extract, sB_list, List.extract_eq_take_drop]
    rw [List.drop_take]
  have h2 := congrArg sB h
  rw [← sB_of, ← sB_of] at h2
  exact h2
theorem sB_nil (l : List UInt8) : decide (sB l = sB []) = decide (l = []) := by
  by_cases h : l = []
  · simp [h]
  · rw [decide_eq_false h, decide_eq_false fun e => h (sB_inj e)]
/-- The reader's memory. -/
abbrev rdH (l : List UInt8) (N : List Term) (Z : List Nat) : HP := [.box [.c (.str (sB l)), .own 1, .own 2], .row 25 4 48 (tcs N), .row 3 1 8 (rowN Z)]
abbrev dead3 : HP := [.dead, .dead, .dead]
theorem cNext (l : List UInt8) (N : List Term) (Z : List Nat) (hl : l.length ≤ 1000000) : CallPt Try.prog 70 [.ptr 0 0] (rdH l N Z)
    (fun r H' => ∃ b m, l = b :: m ∧ r = .c (.int .i64 ((b.toNat : Int))) ∧ H' = rdH m N Z) (fun x H' => (x = trb ∧ l = []) ∧ H' = dead3) := by
  cases l with
  | nil =>
    have e : (!decide (sB [] = ⟨#[]⟩)) = false := rfl
    have hd := cDemand false
    refine call_pan (E := envK 3) (fn := Try.f70) (c := bodyOf Try.f70) (envK_ok 3) mixed (by kernel_rfl) (by kernel_rfl) (by kernel_rfl) (by kernel_rfl) (by kernel_rfl) (by kernel_rfl) rfl .t ?_
    refine aw_cut _ _ rfl fun C hC => ?_
    conv => whnf
    subst hC
    refine aw_cut _ _ rfl fun C hC => ?_
    conv => whnf
    rw [e]
    try (refine draw_intro true (by kernel_rfl) ?_; conv => whnf)
    refine CallPt.use hd [] trivial (by decide) rfl ?_ ?_
    (focus (rintro x _ hx _; (conv => whnf); exact ⟨hx.1.1, rfl⟩))
    rintro _ _ ⟨h, _⟩ _
    conv => whnf
    cases h
  | cons b m =>
    have e : (!decide (sB (b :: m) = ⟨#[]⟩)) = true := by rw [decide_eq_false (fun h => by have := sB_inj (l := b :: m) (m := []) h; cases this)]; rfl
    have hd := cDemand true
    have hsz : ((sB (b :: m)).size : Int) = m.length + 1 := by rw [sB_size]; simp
    have hg : (sB (b :: m)).data.toList.getD (Int.toNat 0) 0 = b := by rw [sB_list]; rfl
    have hx : (sB (b :: m)).extract (Int.toNat 1) ((sB (b :: m)).size : Int).toNat = sB m := by
      rw [sB_extract, Int.toNat_natCast, sB_size, List.take_length]
      rfl
    have hw : IntKind.i64.wrap (b.toNat : Int) = b.toNat := i64_wrap (by have := b.toNat_lt; omega)
    simp only [List.length_cons] at hl
    refine call_pan (E := envK 3) (fn := Try.f70) (c := bodyOf Try.f70) (envK_ok 3) mixed (by kernel_rfl) (by kernel_rfl) (by kernel_rfl) (by kernel_rfl) (by kernel_rfl) (by kernel_rfl) rfl .t ?_
    refine aw_cut _ _ rfl fun C hC => ?_
    conv => whnf
    subst hC
    refine aw_cut _ _ rfl fun C hC => ?_
    conv => whnf
    rw [e]
    try (refine draw_intro true (by kernel_rfl) ?_; conv => whnf)
    refine CallPt.use hd [] trivial (by decide) rfl ?_ ?_
    (focus (rintro x _ hx _; (conv => whnf); exact absurd hx.1.2 (by simp)))
    rintro _ _ ⟨_, rfl, rfl⟩ _
    conv => whnf
    subst hC
    refine aw_cut _ _ rfl fun C hC => ?_
    conv => whnf
    repeat (first | (refine And.intro rfl ?_; conv => whnf) | (refine And.intro (by decide) ?_; conv => whnf) | (refine draw_intro true (by kernel_rfl) ?_; conv => whnf) | (refine And.intro ⟨by omega, by omega⟩ ?_; conv => whnf) | (refine And.intro (by omega) ?_; conv => whnf) | (refine And.intro (fun _ => ⟨by omega, by omega⟩) ?_; conv => whnf) | (refine And.intro (of_decide_eq_true rfl) ?_; conv => whnf) | (refine And.intro (fun _ => ?_) (fun h => absurd h ?_); rotate_left; (focus (first | decide | (simp; done) | (simp [tcs]; done))); conv => whnf) | (refine And.intro (fun h => absurd h ?_) (fun _ => ?_); (focus (first | decide | (simp; done) | (simp [tcs]; done))); conv => whnf) | (intro _; conv => whnf))
    subst hC
    refine aw_cut _ _ rfl fun C hC => ?_
    conv => whnf
    repeat (first | (refine And.intro rfl ?_; conv => whnf) | (refine And.intro (by decide) ?_; conv => whnf) | (refine draw_intro true (by kernel_rfl) ?_; conv => whnf) | (refine And.intro ⟨by omega, by omega⟩ ?_; conv => whnf) | (refine And.intro (by omega) ?_; conv => whnf) | (refine And.intro (fun _ => ⟨by omega, by omega⟩) ?_; conv => whnf) | (refine And.intro (of_decide_eq_true rfl) ?_; conv => whnf) | (refine And.intro (fun _ => ?_) (fun h => absurd h ?_); rotate_left; (focus (first | decide | (simp; done) | (simp [tcs]; done))); conv => whnf) | (refine And.intro (fun h => absurd h ?_) (fun _ => ?_); (focus (first | decide | (simp; done) | (simp [tcs]; done))); conv => whnf) | (intro _; conv => whnf))
    rw [hx]
    subst hC
    conv => whnf
    repeat (first | (refine And.intro rfl ?_; conv => whnf) | (refine And.intro (by decide) ?_; conv => whnf) | (refine draw_intro true (by kernel_rfl) ?_; conv => whnf) | (refine And.intro ⟨by omega, by omega⟩ ?_; conv => whnf) | (refine And.intro (by omega) ?_; conv => whnf) | (refine And.intro (fun _ => ⟨by omega, by omega⟩) ?_; conv => whnf) | (refine And.intro (of_decide_eq_true rfl) ?_; conv => whnf) | (refine And.intro (fun _ => ?_) (fun h => absurd h ?_); rotate_left; (focus (first | decide | (simp; done) | (simp [tcs]; done))); conv => whnf) | (refine And.intro (fun h => absurd h ?_) (fun _ => ?_); (focus (first | decide | (simp; done) | (simp [tcs]; done))); conv => whnf) | (intro _; conv => whnf))
    refine ⟨b, m, rfl, by rw [hg, hw], ?_⟩
    rfl
end Go.Tr
/- cert: the reader's numbers. -/
namespace Go.Tr
open Go.Proofs
/-- A number that is read. -/
def rdNum : List UInt8 → Nat → Nat → Option (Nat × List UInt8)
  | [], _, _ => none
  | b :: r, p, o => if p < 1099511627776 then (if b.toNat < 128 then some (o + b.toNat % 128 * p, r) else rdNum r (p * 128) (o + b.toNat % 128 * p)) else none
theorem rdNum_len : ∀ (l : List UInt8) (p o n : Nat) (m : List UInt8), rdNum l p o = some (n, m) → m.length < l.length
  | [], _, _, _, _, h => by simp [rdNum] at h
  | b :: r, p, o, n, m, h => by
    rw [rdNum] at h
    split at h
    · split at h
      · injection h with h
        injection h with _ h
        rw [← h]
        simp
      · have := rdNum_len r _ _ n m h
        simp only [List.length_cons]
        omega
    · cases h
theorem rdNum_le : ∀ (l : List UInt8) (p o n : Nat) (m : List UInt8), o < p → rdNum l p o = some (n, m) → n < 140737488355328
  | [], _, _, _, _, _, h => by simp [rdNum] at h
  | b :: r, p, o, n, m, ho, h => by
    rw [rdNum] at h
    have hb : b.toNat % 128 ≤ 127 := by omega
    have hm : b.toNat % 128 * p ≤ 127 * p := Nat.mul_le_mul_right _ hb
    split at h
    · split at h
      · injection h with h
        injection h with h _
        omega
      · exact rdNum_le r _ _ n m (by omega) h
    · cases h
theorem cRdNumber (l : List UInt8) (N : List Term) (Z : List Nat) (hl : l.length ≤ 1000000) : CallPt Try.prog 71 [.ptr 0 0] (rdH l N Z)
    (fun r H' => ∃ n m, rdNum l 1 0 = some (n, m) ∧ r = .c (.int .i64 ((n : Nat))) ∧ H' = rdH m N Z) (fun x H' => (x = trb ∧ rdNum l 1 0 = none) ∧ H' = dead3) := by
  refine call_pan (E := envK 3) (fn := Try.f71) (c := bodyOf Try.f71) (envK_ok 3) mixed (by kernel_rfl) (by kernel_rfl) (by kernel_rfl) (by kernel_rfl) (by kernel_rfl) (by kernel_rfl) rfl .t ?_
  refine aw_cut _ _ rfl fun C hC => ?_
  conv => whnf
  subst hC
  refine aw_cut _ _ rfl fun C hC => ?_
  conv => whnf
  subst hC
  refine aw_cut _ _ rfl fun C hC => ?_
  conv => whnf
  subst hC
  conv => whnf
  repeat (first | (refine And.intro rfl ?_; conv => whnf) | (refine And.intro (by decide) ?_; conv => whnf) | (refine draw_intro true (by kernel_rfl) ?_; conv => whnf) | (refine And.intro ⟨by omega, by omega⟩ ?_; conv => whnf) | (refine And.intro (by omega) ?_; conv => whnf) | (refine And.intro (fun _ => ⟨by omega, by omega⟩) ?_; conv => whnf) | (refine And.intro (fun _ => ?_) (fun h => absurd h ?_); rotate_left; (focus (first | decide | (simp; done) | (simp [tcs]; done))); conv => whnf) | (refine And.intro (fun h => absurd h ?_) (fun _ => ?_); (focus (first | decide | (simp; done) | (simp [tcs]; done))); conv => whnf) | (intro _; conv => whnf))
  refine loop_intro (fun m tm H => ∃ (l' : List UInt8) (p o : Nat), m = l'.length ∧ l'.length ≤ 1000000 ∧ o < p ∧ p ≤ 140737488355328 ∧ rdNum l' p o = rdNum l 1 0 ∧ tm = [(4, .c (.int .i64 (p))), (3, .c (.int .i64 (o))), (0, .ptr 0 0)] ∧ H = rdH l' N Z)
    l.length _ _ ⟨l, 1, 0, rfl, hl, by omega, by omega, rfl, rfl, rfl⟩ (Wk.sel [0, 1, 2] (by decide) (by first | decide | exact of_decide_eq_true rfl) (by first | decide | exact of_decide_eq_true rfl) ⟨rfl, rfl, rfl, trivial⟩ ⟨rfl, rfl, rfl, trivial⟩ rfl) ?_
  rintro m tm H ⟨l', p, o, rfl, hl', hop, hpp, hR, rfl, rfl⟩
  have hnx := cNext l' N Z hl'
  refine aw_cut _ _ rfl fun C hC => ?_
  conv => whnf
  try (refine draw_intro true (by kernel_rfl) ?_; conv => whnf)
  refine CallPt.use hnx [0, 1, 2] ⟨rfl, rfl, rfl, trivial⟩ (by decide) rfl ?_ ?_
  (focus (rintro x _ hx _; (conv => whnf); exact ⟨hx.1.1, by rw [← hR, hx.1.2]; rfl⟩))
  rintro _ _ ⟨b, l2, rfl, rfl, rfl⟩ _
  conv => whnf
  rw [rdNum] at hR
  have hbl := b.toNat_lt
  have hm1 : b.toNat % 128 * p ≤ 127 * p := Nat.mul_le_mul_right _ (by omega)
  have e1 : ((b.toNat : Int)).tmod 128 = ((b.toNat % 128 : Nat) : Int) := by rw [Int.tmod_eq_emod_of_nonneg (by omega)]; omega
  have e2 : ((b.toNat % 128 : Nat) : Int) * (p : Int) = ((b.toNat % 128 * p : Nat) : Int) := by rw [Int.natCast_mul]
  have e3 : (o : Int) + ((b.toNat % 128 * p : Nat) : Int) = ((o + b.toNat % 128 * p : Nat) : Int) := by omega
  have e4 : decide ((b.toNat : Int) < 128) = decide (b.toNat < 128) := by
    by_cases h : b.toNat < 128
    · rw [decide_eq_true h, decide_eq_true (by omega)]
    · rw [decide_eq_false h, decide_eq_false (by omega)]
  have hd := cDemand (decide ((p : Int) < 1099511627776))
  simp only [List.length_cons] at hl'
  generalize hq : b.toNat % 128 * p = q at *
  by_cases hp : p < 1099511627776
  · rw [if_pos hp] at hR
    rw [decide_eq_true (show (p : Int) < 1099511627776 by omega)] at hd ⊢
    try (refine draw_intro true (by kernel_rfl) ?_; conv => whnf)
    refine CallPt.use hd [] trivial (by decide) rfl ?_ ?_
    (focus (rintro x _ hx _; (conv => whnf); exact absurd hx.1.2 (by simp)))
    rintro _ _ ⟨_, rfl, rfl⟩ _
    conv => whnf
    refine ⟨show (128 : Int) ≠ 0 by decide, ?_⟩
    conv => whnf
    rw [e1]
    refine ⟨by rw [e2]; exact ⟨by omega, by omega⟩, ?_⟩
    conv => whnf
    rw [e2]
    refine ⟨⟨by omega, by omega⟩, ?_⟩
    conv => whnf
    rw [e4]
    rw [e3]
    by_cases hb : b.toNat < 128
    · rw [if_pos hb] at hR
      rw [decide_eq_true hb]
      repeat (first | (refine And.intro rfl ?_; conv => whnf) | (refine And.intro (by decide) ?_; conv => whnf) | (refine draw_intro true (by kernel_rfl) ?_; conv => whnf) | (refine And.intro ⟨by omega, by omega⟩ ?_; conv => whnf) | (refine And.intro (by omega) ?_; conv => whnf) | (refine And.intro (fun _ => ⟨by omega, by omega⟩) ?_; conv => whnf) | (refine And.intro (fun _ => ?_) (fun h => absurd h ?_); rotate_left; (focus (first | decide | (simp; done) | (simp [tcs]; done))); conv => whnf) | (refine And.intro (fun h => absurd h ?_) (fun _ => ?_); (focus (first | decide | (simp; done) | (simp [tcs]; done))); conv => whnf) | (intro _; conv => whnf))
      exact ⟨o + q, l2, hR.symm, rfl, rfl⟩
    · rw [if_neg hb] at hR
      rw [decide_eq_false hb]
      repeat (first | (refine And.intro rfl ?_; conv => whnf) | (refine And.intro (by decide) ?_; conv => whnf) | (refine draw_intro true (by kernel_rfl) ?_; conv => whnf) | (refine And.intro ⟨by omega, by omega⟩ ?_; conv => whnf) | (refine And.intro (by omega) ?_; conv => whnf) | (refine And.intro (fun _ => ⟨by omega, by omega⟩) ?_; conv => whnf) | (refine And.intro (fun _ => ?_) (fun h => absurd h ?_); rotate_left; (focus (first | decide | (simp; done) | (simp [tcs]; done))); conv => whnf) | (refine And.intro (fun h => absurd h ?_) (fun _ => ?_); (focus (first | decide | (simp; done) | (simp [tcs]; done))); conv => whnf) | (intro _; conv => whnf))
      subst hC
      conv => whnf
      repeat (first | (refine And.intro rfl ?_; conv => whnf) | (refine And.intro (by decide) ?_; conv => whnf) | (refine draw_intro true (by kernel_rfl) ?_; conv => whnf) | (refine And.intro ⟨by omega, by omega⟩ ?_; conv => whnf) | (refine And.intro (by omega) ?_; conv => whnf) | (refine And.intro (fun _ => ⟨by omega, by omega⟩) ?_; conv => whnf) | (refine And.intro (fun _ => ?_) (fun h => absurd h ?_); rotate_left; (focus (first | decide | (simp; done) | (simp [tcs]; done))); conv => whnf) | (refine And.intro (fun h => absurd h ?_) (fun _ => ?_); (focus (first | decide | (simp; done) | (simp [tcs]; done))); conv => whnf) | (intro _; conv => whnf))
      refine ⟨l2.length, _, _, by simp, ⟨l2, p * 128, o + q, rfl, by omega, by omega, by omega, hR, rfl, rfl⟩, Wk.sel [0, 1, 2] (by decide) (by first | decide | exact of_decide_eq_true rfl) (by first | decide | exact of_decide_eq_true rfl) ⟨rfl, rfl, rfl, trivial⟩ ⟨rfl, rfl, rfl, trivial⟩ rfl⟩
  · rw [if_neg hp] at hR
    rw [decide_eq_false (show ¬ (p : Int) < 1099511627776 by omega)] at hd ⊢
    try (refine draw_intro true (by kernel_rfl) ?_; conv => whnf)
    refine CallPt.use hd [] trivial (by decide) rfl ?_ ?_
    (focus (rintro x _ hx _; (conv => whnf); exact ⟨hx.1.1, hR.symm⟩))
    rintro _ _ ⟨h, _⟩ _
    conv => whnf
    cases h
end Go.Tr
/- cert: the reader's lengths, terms, names. -/
namespace Go.Tr
open Go.Proofs
/-- A length that is read. -/
def rdCount (l : List UInt8) : Option (Nat × List UInt8) := match rdNum l 1 0 with
  | some (n, m) => if n ≤ m.length then some (n, m) else none
  | none => none
theorem cRdCount (l : List UInt8) (N : List Term) (Z : List Nat) (hl : l.length ≤ 1000000) : CallPt Try.prog 69 [.ptr 0 0] (rdH l N Z)
    (fun r H' => ∃ n m, rdCount l = some (n, m) ∧ r = .c (.int .i64 ((n : Nat))) ∧ H' = rdH m N Z) (fun x H' => (x = trb ∧ rdCount l = none) ∧ H' = dead3) := by
  have hn := cRdNumber l N Z hl
  refine call_pan (E := envK 3) (fn := Try.f69) (c := bodyOf Try.f69) (envK_ok 3) mixed (by kernel_rfl) (by kernel_rfl) (by kernel_rfl) (by kernel_rfl) (by kernel_rfl) (by kernel_rfl) rfl .t ?_
  refine aw_cut _ _ rfl fun C hC => ?_
  conv => whnf
  subst hC
  refine aw_cut _ _ rfl fun C hC => ?_
  conv => whnf
  try (refine draw_intro true (by kernel_rfl) ?_; conv => whnf)
  refine CallPt.use hn [0, 1, 2] ⟨rfl, rfl, rfl, trivial⟩ (by decide) rfl ?_ ?_
  (focus (rintro x _ hx _; (conv => whnf); exact ⟨hx.1.1, by unfold rdCount; rw [hx.1.2]⟩))
  rintro _ _ ⟨n, m, hR, rfl, rfl⟩ _
  conv => whnf
  have hsz := sB_size m
  have hd := cDemand (decide ((n : Int) ≤ ((sB m).size : Int)))
  subst hC
  refine aw_cut _ _ rfl fun C hC => ?_
  conv => whnf
  by_cases hb : n ≤ m.length
  · rw [decide_eq_true (show (n : Int) ≤ ((sB m).size : Int) by omega)] at hd ⊢
    try (refine draw_intro true (by kernel_rfl) ?_; conv => whnf)
    refine CallPt.use hd [] trivial (by decide) rfl ?_ ?_
    (focus (rintro x _ hx _; (conv => whnf); exact absurd hx.1.2 (by simp)))
    rintro _ _ ⟨_, rfl, rfl⟩ _
    conv => whnf
    subst hC
    conv => whnf
    repeat (first | (refine And.intro rfl ?_; conv => whnf) | (refine And.intro (by decide) ?_; conv => whnf) | (refine draw_intro true (by kernel_rfl) ?_; conv => whnf) | (refine And.intro ⟨by omega, by omega⟩ ?_; conv => whnf) | (refine And.intro (by omega) ?_; conv => whnf) | (refine And.intro (fun _ => ⟨by omega, by omega⟩) ?_; conv => whnf) | (refine And.intro (fun _ => ?_) (fun h => absurd h ?_); rotate_left; (focus (first | decide | (simp; done) | (simp [tcs]; done))); conv => whnf) | (refine And.intro (fun h => absurd h ?_) (fun _ => ?_); (focus (first | decide | (simp; done) | (simp [tcs]; done))); conv => whnf) | (intro _; conv => whnf))
    exact ⟨n, m, by unfold rdCount; rw [hR]; simp only; rw [if_pos hb], rfl, rfl⟩
  · rw [decide_eq_false (show ¬ (n : Int) ≤ ((sB m).size : Int) by omega)] at hd ⊢
    try (refine draw_intro true (by kernel_rfl) ?_; conv => whnf)
    refine CallPt.use hd [] trivial (by decide) rfl ?_ ?_
    (focus (rintro x _ hx _; (conv => whnf); exact ⟨hx.1.1, by unfold rdCount; rw [hR]; simp only; rw [if_neg hb]⟩))
    rintro _ _ ⟨h, _⟩ _
    conv => whnf
    cases h
/-- A node's term that is read. -/
def rdTerm (l : List UInt8) (N : List Term) : Option (Term × List UInt8) := match rdNum l 1 0 with
  | some (n, m) => (match N[n]? with
    | some t => some (t, m)
    | none => none)
  | none => none
theorem cRdTerm (l : List UInt8) (N : List Term) (Z : List Nat) (hl : l.length ≤ 1000000) (hN : ∀ t ∈ N, szT t ≤ 600) (hNl : N.length ≤ 1000000) : CallPt Try.prog 58 [.ptr 0 0] (rdH l N Z)
    (fun r H' => ∃ t m, rdTerm l N = some (t, m) ∧ r = tv t ∧ H' = rdH m N Z) (fun x H' => (x = trb ∧ rdTerm l N = none) ∧ H' = dead3) := by
  have hn := cRdNumber l N Z hl
  have hlt := len_tcs N
  refine call_pan (E := env 3) (fn := Try.f58) (c := bodyOf Try.f58) (env_ok 3) mixed (by kernel_rfl) (by kernel_rfl) (by kernel_rfl) (by kernel_rfl) (by kernel_rfl) (by kernel_rfl) rfl .p ?_
  refine aw_cut _ _ rfl fun C hC => ?_
  conv => whnf
  subst hC
  refine aw_cut _ _ rfl fun C hC => ?_
  conv => whnf
  try (refine draw_intro true (by kernel_rfl) ?_; conv => whnf)
  refine CallPt.use hn [0, 1, 2] ⟨rfl, rfl, rfl, trivial⟩ (by decide) rfl ?_ ?_
  (focus (rintro x _ hx _; (conv => whnf); exact ⟨hx.1.1, by unfold rdTerm; rw [hx.1.2]⟩))
  rintro _ _ ⟨n, m, hR, rfl, rfl⟩ _
  conv => whnf
  subst hC
  refine aw_cut _ _ rfl fun C hC => ?_
  conv => whnf
  intro hlen
  conv => whnf
  have hd := cDemand (decide ((n : Int) < ((tcs N).length : Int)))
  cases hu : N[n]? with
  | some u =>
    have hul := (List.getElem?_eq_some_iff.1 hu).1
    have huc := tcs_at N n u hu
    have hcp := cCopied u (by have := hN u (List.mem_of_getElem? hu); omega)
    have hT : rdTerm l N = some (u, m) := by unfold rdTerm; rw [hR]; simp only; rw [hu]
    rw [decide_eq_true (show (n : Int) < ((tcs N).length : Int) by omega)] at hd ⊢
    try (refine draw_intro true (by kernel_rfl) ?_; conv => whnf)
    refine CallPt.use hd [] trivial (by decide) rfl ?_ ?_
    (focus (rintro x _ hx _; (conv => whnf); exact absurd hx.1.2 (by simp)))
    rintro _ _ ⟨_, rfl, rfl⟩ _
    conv => whnf
    obtain ⟨k', l', n', us⟩ := u
    rw [tv_mk] at hcp
    replace huc : (tcs N)[n]? = some [.int .i64 k', .int .i64 l', .int .i64 n', .sl 4 48 (tcs us)] := huc
    subst hC
    conv => whnf
    refine ⟨⟨by omega, by omega⟩, ?_⟩
    conv => whnf
    refine ⟨[.int .i64 k', .int .i64 l', .int .i64 n', .sl 4 48 (tcs us)], by rw [Int.toNat_natCast]; exact huc, show 0 + 4 ≤ 4 by decide, ?_⟩
    conv => whnf
    repeat (first | (refine And.intro rfl ?_; conv => whnf) | (refine And.intro (by decide) ?_; conv => whnf) | (refine draw_intro true (by kernel_rfl) ?_; conv => whnf) | (refine And.intro ⟨by omega, by omega⟩ ?_; conv => whnf) | (refine And.intro (by omega) ?_; conv => whnf) | (refine And.intro (fun _ => ⟨by omega, by omega⟩) ?_; conv => whnf) | (refine And.intro (fun _ => ?_) (fun h => absurd h ?_); rotate_left; (focus (first | decide | (simp; done) | (simp [tcs]; done))); conv => whnf) | (refine And.intro (fun h => absurd h ?_) (fun _ => ?_); (focus (first | decide | (simp; done) | (simp [tcs]; done))); conv => whnf) | (intro _; conv => whnf))
    try (refine draw_intro true (by kernel_rfl) ?_; conv => whnf)
    first | refine CallSt.use hcp [] trivial (by decide) rfl ?_ | refine CallPt.useS hcp [] trivial (by decide) rfl ?_
    rintro _ _ ⟨rfl, rfl⟩ _
    conv => whnf
    repeat (first | (refine And.intro rfl ?_; conv => whnf) | (refine And.intro (by decide) ?_; conv => whnf) | (refine draw_intro true (by kernel_rfl) ?_; conv => whnf) | (refine And.intro ⟨by omega, by omega⟩ ?_; conv => whnf) | (refine And.intro (by omega) ?_; conv => whnf) | (refine And.intro (fun _ => ⟨by omega, by omega⟩) ?_; conv => whnf) | (refine And.intro (fun _ => ?_) (fun h => absurd h ?_); rotate_left; (focus (first | decide | (simp; done) | (simp [tcs]; done))); conv => whnf) | (refine And.intro (fun h => absurd h ?_) (fun _ => ?_); (focus (first | decide | (simp; done) | (simp [tcs]; done))); conv => whnf) | (intro _; conv => whnf))
    exact ⟨_, m, hT, rfl, rfl⟩
  | none =>
    have hul := List.getElem?_eq_none_iff.1 hu
    rw [decide_eq_false (show ¬ (n : Int) < ((tcs N).length : Int) by omega)] at hd ⊢
    try (refine draw_intro true (by kernel_rfl) ?_; conv => whnf)
    refine CallPt.use hd [] trivial (by decide) rfl ?_ ?_
    (focus (rintro x _ hx _; (conv => whnf); exact ⟨hx.1.1, by unfold rdTerm; rw [hR]; simp only; rw [hu]⟩))
    rintro _ _ ⟨h, _⟩ _
    conv => whnf
    cases h
end Go.Tr
/- strings.Clone; the reader's names and declarations. -/
namespace Go.Tr
open Go.Proofs
theorem cCloneLite (s : ByteArray) (hs : s.size ≤ 281474976710656) : CallSt Try.prog 80 [.c (.str s)] [] (fun r H' => r = .c (.str s) ∧ H' = []) := by
  unfold CallSt
  refine ⟨by kernel_rfl, fun w S κ vs hh hvs => ?_⟩
  simp only [AVRs, AVR, CVR] at hvs
  obtain ⟨v, r, rfl, rfl, rfl⟩ := hvs
  have h := AnyPu.stringslite_Clone Try.cloneA s w hs
  refine h.mono ?_
  rintro e w' ⟨rfl, hb⟩
  have hmono : ∀ B off u, ¬ S B → cellAt w.heap B off = some u → ¬ S B ∧ cellAt w'.heap B off = some u := fun B off u h1 h2 => ⟨h1, by
    rw [cellAt_same (hb.block B (cellAt_lt h2))]
    exact h2⟩
  refine ⟨.string s, .c (.str s), [], κ, S, rfl, ⟨rfl, rfl⟩, ⟨⟨fun i e h => by simp at h, hh.out, fun i B h => hh.own i B h, hh.excl, fun B hB => Nat.lt_of_lt_of_le (hh.sz B hB) hb.size⟩,
    ⟨hb.os, hb.tape, hb.output, hb.size, fun B hB _ => hb.block B hB, fun _ _ h => h, fun _ _ h _ => h⟩, fun _ _ => rfl, Nat.le_refl _, fun i B h _ => ⟨i, h⟩⟩, by simp only [AVR, CVR]⟩
theorem cClone (s : ByteArray) (hs : s.size ≤ 281474976710656) : CallSt Try.prog 72 [.c (.str s)] [] (fun r H' => r = .c (.str s) ∧ H' = []) := by
  have h := cCloneLite s hs
  refine call_pure (E := env 0) (fn := Try.f72) (c := bodyOf Try.f72) (env_ok 0) mixed (by kernel_rfl) (by kernel_rfl) (by kernel_rfl) (by kernel_rfl) (by kernel_rfl) (by kernel_rfl) rfl ?_
  conv => whnf
  try (refine draw_intro true (by kernel_rfl) ?_; conv => whnf)
  first | refine CallSt.use h [] trivial (by decide) rfl ?_ | refine CallPt.useS h [] trivial (by decide) rfl ?_
  rintro _ _ ⟨rfl, rfl⟩ _
  conv => whnf
  repeat (first | (refine And.intro rfl ?_; conv => whnf) | (refine And.intro (by decide) ?_; conv => whnf) | (refine draw_intro true (by kernel_rfl) ?_; conv => whnf) | (refine And.intro ⟨by omega, by omega⟩ ?_; conv => whnf) | (refine And.intro (by omega) ?_; conv => whnf) | (refine And.intro (fun _ => ⟨by omega, by omega⟩) ?_; conv => whnf) | (refine And.intro (fun _ => ?_) (fun h => absurd h ?_); rotate_left; (focus (first | decide | (simp; done) | (simp [tcs]; done))); conv => whnf) | (refine And.intro (fun h => absurd h ?_) (fun _ => ?_); (focus (first | decide | (simp; done) | (simp [tcs]; done))); conv => whnf) | (intro _; conv => whnf))
  all_goals (first | rfl | exact ⟨rfl, rfl⟩ | exact ⟨rfl, rfl, rfl⟩)
/-- A name that is read. -/
def rdName (l : List UInt8) : Option (List UInt8 × List UInt8) := match rdCount l with
  | some (n, m) => some (m.take n, m.drop n)
  | none => none
theorem rdCount_le {l m : List UInt8} {n : Nat} (h : rdCount l = some (n, m)) : n ≤ m.length ∧ m.length < l.length := by
  unfold rdCount at h
  split at h
  · rename_i n' m' hR
    have := rdNum_len _ _ _ _ _ hR
    split at h
    · injection h with h
      injection h with h1 h2
      subst h1 h2
      exact ⟨by assumption, this⟩
    · cases h
  · cases h
theorem cRdName (l : List UInt8) (N : List Term) (Z : List Nat) (hl : l.length ≤ 1000000) : CallPt Try.prog 73 [.ptr 0 0] (rdH l N Z)
    (fun r H' => ∃ s m, rdName l = some (s, m) ∧ r = .c (.str (sB s)) ∧ H' = rdH m N Z) (fun x H' => (x = trb ∧ rdName l = none) ∧ H' = dead3) := by
  have hn := cRdCount l N Z hl
  refine call_pan (E := envK 3) (fn := Try.f73) (c := bodyOf Try.f73) (envK_ok 3) mixed (by kernel_rfl) (by kernel_rfl) (by kernel_rfl) (by kernel_rfl) (by kernel_rfl) (by kernel_rfl) rfl .t ?_
  refine aw_cut _ _ rfl fun C hC => ?_
  conv => whnf
  subst hC
  refine aw_cut _ _ rfl fun C hC => ?_
  conv => whnf
  try (refine draw_intro true (by kernel_rfl) ?_; conv => whnf)
  refine CallPt.use hn [0, 1, 2] ⟨rfl, rfl, rfl, trivial⟩ (by decide) rfl ?_ ?_
  (focus (rintro x _ hx _; (conv => whnf); exact ⟨hx.1.1, by unfold rdName; rw [hx.1.2]⟩))
  rintro _ _ ⟨n, m, hR, rfl, rfl⟩ _
  conv => whnf
  obtain ⟨hnm, hml⟩ := rdCount_le hR
  have hsz := sB_size m
  have e1 : (sB m).extract (Int.toNat 0) ((n : Int)).toNat = sB (m.take n) := by rw [sB_extract, Int.toNat_natCast]; rfl
  have e2 : (sB m).extract ((n : Int)).toNat (((sB m).size : Int)).toNat = sB (m.drop n) := by rw [sB_extract, Int.toNat_natCast, Int.toNat_natCast, hsz, List.take_length]
  subst hC
  refine aw_cut _ _ rfl fun C hC => ?_
  conv => whnf
  refine ⟨⟨by omega, by omega, by omega⟩, ?_⟩
  conv => whnf
  rw [e1]
  subst hC
  refine aw_cut _ _ rfl fun C hC => ?_
  conv => whnf
  refine ⟨⟨by omega, by omega, by omega⟩, ?_⟩
  conv => whnf
  rw [e2]
  subst hC
  conv => whnf
  repeat (first | (refine And.intro rfl ?_; conv => whnf) | (refine And.intro (by decide) ?_; conv => whnf) | (refine draw_intro true (by kernel_rfl) ?_; conv => whnf) | (refine And.intro ⟨by omega, by omega⟩ ?_; conv => whnf) | (refine And.intro (by omega) ?_; conv => whnf) | (refine And.intro (fun _ => ⟨by omega, by omega⟩) ?_; conv => whnf) | (refine And.intro (fun _ => ?_) (fun h => absurd h ?_); rotate_left; (focus (first | decide | (simp; done) | (simp [tcs]; done))); conv => whnf) | (refine And.intro (fun h => absurd h ?_) (fun _ => ?_); (focus (first | decide | (simp; done) | (simp [tcs]; done))); conv => whnf) | (intro _; conv => whnf))
  exact ⟨m.take n, m.drop n, by unfold rdName; rw [hR], rfl, rfl⟩
end Go.Tr
/- cert: the reader's declarations; lists of terms and of declarations. -/
namespace Go.Tr
open Go.Proofs
theorem rdTerm_len {l m : List UInt8} {N : List Term} {t : Term} (h : rdTerm l N = some (t, m)) : m.length < l.length ∧ t ∈ N := by
  unfold rdTerm at h
  split at h
  · rename_i n m' hR
    have := rdNum_len _ _ _ _ _ hR
    split at h
    · rename_i t' ht
      injection h with h
      injection h with h1 h2
      subst h1 h2
      exact ⟨this, List.mem_of_getElem? ht⟩
    · cases h
  · cases h
theorem rdName_len {l m s : List UInt8} (h : rdName l = some (s, m)) : m.length < l.length ∧ s.length < l.length := by
  unfold rdName at h
  split at h
  · rename_i n m' hR
    have := rdCount_le hR
    injection h with h
    injection h with h1 h2
    subst h1 h2
    simp only [List.length_drop, List.length_take]
    omega
  · cases h
/-- A declaration that is read. -/
def rdDecl (l : List UInt8) (N : List Term) : Option (Dcl × List UInt8) := match rdName l with
  | some (s, m) => (match rdTerm m N with
    | some (t, m2) => (match rdNum m2 1 0 with
      | some (n, m3) => some (⟨sB s, t, n⟩, m3)
      | none => none)
    | none => none)
  | none => none
theorem cRdDecl (l : List UInt8) (N : List Term) (Z : List Nat) (hl : l.length ≤ 1000000) (hN : ∀ t ∈ N, szT t ≤ 600) (hNl : N.length ≤ 1000000) : CallPt Try.prog 57 [.ptr 0 0] (rdH l N Z)
    (fun r H' => ∃ d m, rdDecl l N = some (d, m) ∧ r = dv d ∧ H' = rdH m N Z) (fun x H' => (x = trb ∧ rdDecl l N = none) ∧ H' = dead3) := by
  have hn := cRdName l N Z hl
  refine call_pan (E := env 3) (fn := Try.f57) (c := bodyOf Try.f57) (env_ok 3) mixed (by kernel_rfl) (by kernel_rfl) (by kernel_rfl) (by kernel_rfl) (by kernel_rfl) (by kernel_rfl) rfl .p ?_
  refine aw_cut _ _ rfl fun C hC => ?_
  conv => whnf
  subst hC
  refine aw_cut _ _ rfl fun C hC => ?_
  conv => whnf
  try (refine draw_intro true (by kernel_rfl) ?_; conv => whnf)
  refine CallPt.use hn [0, 1, 2] ⟨rfl, rfl, rfl, trivial⟩ (by decide) rfl ?_ ?_
  (focus (rintro x _ hx _; (conv => whnf); exact ⟨hx.1.1, by unfold rdDecl; rw [hx.1.2]⟩))
  rintro _ _ ⟨s, m, hR, rfl, rfl⟩ _
  conv => whnf
  have hlen := rdName_len hR
  have hcl := cClone (sB s) (by rw [sB_size]; omega)
  have ht := cRdTerm m N Z (by omega) hN hNl
  try (refine draw_intro true (by kernel_rfl) ?_; conv => whnf)
  first | refine CallSt.use hcl [] trivial (by decide) rfl ?_ | refine CallPt.useS hcl [] trivial (by decide) rfl ?_
  rintro _ _ ⟨rfl, rfl⟩ _
  conv => whnf
  repeat (first | (refine And.intro rfl ?_; conv => whnf) | (refine And.intro (by decide) ?_; conv => whnf) | (refine draw_intro true (by kernel_rfl) ?_; conv => whnf) | (refine And.intro ⟨by omega, by omega⟩ ?_; conv => whnf) | (refine And.intro (by omega) ?_; conv => whnf) | (refine And.intro (fun _ => ⟨by omega, by omega⟩) ?_; conv => whnf) | (refine And.intro (fun _ => ?_) (fun h => absurd h ?_); rotate_left; (focus (first | decide | (simp; done) | (simp [tcs]; done))); conv => whnf) | (refine And.intro (fun h => absurd h ?_) (fun _ => ?_); (focus (first | decide | (simp; done) | (simp [tcs]; done))); conv => whnf) | (intro _; conv => whnf))
  subst hC
  refine aw_cut _ _ rfl fun C hC => ?_
  conv => whnf
  try (refine draw_intro true (by kernel_rfl) ?_; conv => whnf)
  refine CallPt.use ht [0, 1, 2] ⟨rfl, rfl, rfl, trivial⟩ (by decide) rfl ?_ ?_
  (focus (rintro x _ hx _; (conv => whnf); exact ⟨hx.1.1, by unfold rdDecl; rw [hR]; simp only; rw [hx.1.2]⟩))
  rintro _ _ ⟨t, m2, hR2, rfl, rfl⟩ _
  conv => whnf
  have hlen2 := rdTerm_len hR2
  have hnm := cRdNumber m2 N Z (by omega)
  have e : rdDecl l N = match rdNum m2 1 0 with | some (n, m3) => some (⟨sB s, t, n⟩, m3) | none => none := by unfold rdDecl; rw [hR]; simp only; rw [hR2]
  rw [e]
  clear e
  obtain ⟨k', l', n', us⟩ := t
  rw [tv_mk]
  repeat (first | (refine And.intro rfl ?_; conv => whnf) | (refine And.intro (by decide) ?_; conv => whnf) | (refine draw_intro true (by kernel_rfl) ?_; conv => whnf) | (refine And.intro ⟨by omega, by omega⟩ ?_; conv => whnf) | (refine And.intro (by omega) ?_; conv => whnf) | (refine And.intro (fun _ => ⟨by omega, by omega⟩) ?_; conv => whnf) | (refine And.intro (fun _ => ?_) (fun h => absurd h ?_); rotate_left; (focus (first | decide | (simp; done) | (simp [tcs]; done))); conv => whnf) | (refine And.intro (fun h => absurd h ?_) (fun _ => ?_); (focus (first | decide | (simp; done) | (simp [tcs]; done))); conv => whnf) | (intro _; conv => whnf))
  subst hC
  refine aw_cut _ _ rfl fun C hC => ?_
  conv => whnf
  try (refine draw_intro true (by kernel_rfl) ?_; conv => whnf)
  refine CallPt.use hnm [0, 1, 2] ⟨rfl, rfl, rfl, trivial⟩ (by decide) rfl ?_ ?_
  (focus (rintro x _ hx _; (conv => whnf); exact ⟨hx.1.1, by rw [hx.1.2]⟩))
  rintro _ _ ⟨n, m3, hR3, rfl, rfl⟩ _
  conv => whnf
  rw [hR3]
  repeat (first | (refine And.intro rfl ?_; conv => whnf) | (refine And.intro (by decide) ?_; conv => whnf) | (refine draw_intro true (by kernel_rfl) ?_; conv => whnf) | (refine And.intro ⟨by omega, by omega⟩ ?_; conv => whnf) | (refine And.intro (by omega) ?_; conv => whnf) | (refine And.intro (fun _ => ⟨by omega, by omega⟩) ?_; conv => whnf) | (refine And.intro (fun _ => ?_) (fun h => absurd h ?_); rotate_left; (focus (first | decide | (simp; done) | (simp [tcs]; done))); conv => whnf) | (refine And.intro (fun h => absurd h ?_) (fun _ => ?_); (focus (first | decide | (simp; done) | (simp [tcs]; done))); conv => whnf) | (intro _; conv => whnf))
  subst hC
  conv => whnf
  repeat (first | (refine And.intro rfl ?_; conv => whnf) | (refine And.intro (by decide) ?_; conv => whnf) | (refine draw_intro true (by kernel_rfl) ?_; conv => whnf) | (refine And.intro ⟨by omega, by omega⟩ ?_; conv => whnf) | (refine And.intro (by omega) ?_; conv => whnf) | (refine And.intro (fun _ => ⟨by omega, by omega⟩) ?_; conv => whnf) | (refine And.intro (fun _ => ?_) (fun h => absurd h ?_); rotate_left; (focus (first | decide | (simp; done) | (simp [tcs]; done))); conv => whnf) | (refine And.intro (fun h => absurd h ?_) (fun _ => ?_); (focus (first | decide | (simp; done) | (simp [tcs]; done))); conv => whnf) | (intro _; conv => whnf))
  exact ⟨_, m3, rfl, rfl, rfl⟩
end Go.Tr
/- cert: lists that are read. -/
namespace Go.Tr
open Go.Proofs
def rdMany {α : Type} (one : List UInt8 → Option (α × List UInt8)) : Nat → List UInt8 → List α → Option (List α × List UInt8)
  | 0, l, acc => some (acc, l)
  | n + 1, l, acc => match one l with
    | some (x, m) => rdMany one n m (acc ++ [x])
    | none => none
/-- A list that is read. -/
def rdList {α : Type} (one : List UInt8 → Option (α × List UInt8)) (l : List UInt8) : Option (List α × List UInt8) := match rdCount l with
  | some (n, m) => rdMany one n m []
  | none => none
theorem cReadTerms (l : List UInt8) (N : List Term) (Z : List Nat) (hl : l.length ≤ 1000000) (hN : ∀ t ∈ N, szT t ≤ 600) (hNl : N.length ≤ 1000000) :
    CallPt Try.prog 54 [.ptr 0 0, .bd 58 [.ptr 0 0]] (rdH l N Z)
    (fun r H' => ∃ ts m, rdList (fun l => rdTerm l N) l = some (ts, m) ∧ r = .c (.sl 4 48 (tcs ts)) ∧ H' = rdH m N Z) (fun x H' => (x = trb ∧ rdList (fun l => rdTerm l N) l = none) ∧ H' = dead3) := by
  have hn := cRdCount l N Z hl
  refine call_pan (E := envK 3) (fn := Try.f54) (c := bodyOf Try.f54) (envK_ok 3) mixed (by kernel_rfl) (by kernel_rfl) (by kernel_rfl) (by kernel_rfl) (by kernel_rfl) (by kernel_rfl) rfl .p ?_
  refine aw_cut _ _ rfl fun C hC => ?_
  conv => whnf
  subst hC
  refine aw_cut _ _ rfl fun C hC => ?_
  conv => whnf
  subst hC
  refine aw_cut _ _ rfl fun C hC => ?_
  conv => whnf
  try (refine draw_intro true (by kernel_rfl) ?_; conv => whnf)
  refine CallPt.use hn [0, 1, 2] ⟨rfl, rfl, rfl, trivial⟩ (by decide) rfl ?_ ?_
  (focus (rintro x _ hx _; (conv => whnf); exact ⟨hx.1.1, by unfold rdList; rw [hx.1.2]⟩))
  rintro _ _ ⟨n, m, hR, rfl, rfl⟩ _
  conv => whnf
  obtain ⟨hnm, hml⟩ := rdCount_le hR
  have e : rdList (fun l => rdTerm l N) l = rdMany (fun l => rdTerm l N) n m [] := by unfold rdList; rw [hR]
  rw [e]
  clear e hR hn
  generalize hRR : rdMany (fun l => rdTerm l N) n m [] = R at *
  repeat (first | (refine And.intro rfl ?_; conv => whnf) | (refine And.intro (by decide) ?_; conv => whnf) | (refine draw_intro true (by kernel_rfl) ?_; conv => whnf) | (refine And.intro ⟨by omega, by omega⟩ ?_; conv => whnf) | (refine And.intro (by omega) ?_; conv => whnf) | (refine And.intro (fun _ => ⟨by omega, by omega⟩) ?_; conv => whnf) | (refine And.intro (of_decide_eq_true rfl) ?_; conv => whnf) | (refine And.intro (fun _ => ?_) (fun h => absurd h ?_); rotate_left; (focus (first | decide | (simp; done) | (simp [tcs]; done))); conv => whnf) | (refine And.intro (fun h => absurd h ?_) (fun _ => ?_); (focus (first | decide | (simp; done) | (simp [tcs]; done))); conv => whnf) | (intro _; conv => whnf))
  refine loop_intro (fun q tm H => ∃ (j : Nat) (l' : List UInt8) (acc : List Term), n = q + j ∧ acc.length = j ∧ l'.length ≤ 1000000 ∧ rdMany (fun l => rdTerm l N) q l' acc = R ∧
      tm = [(9, .c (.int .i64 (j))), (8, .c (.int .i64 (n))), (5, .own 3), (1, .bd 58 [.ptr 0 0]), (0, .ptr 0 0)] ∧ H = [.box [.c (.str (sB l')), .own 1, .own 2], .row 25 4 48 (tcs N), .row 3 1 8 (rowN Z), .row 25 4 48 (tcs acc)])
    n _ _ ⟨0, m, [], by omega, rfl, by omega, hRR, rfl, rfl⟩ ?_ ?_
  · refine Wk.trans (Wk.niltmp 5 25 4 48 rfl rfl) ?_
    exact Wk.sel [0, 1, 2, 3] (by decide) (by first | decide | exact of_decide_eq_true rfl) (by first | decide | exact of_decide_eq_true rfl) ⟨rfl, rfl, rfl, rfl, trivial⟩ ⟨rfl, rfl, rfl, rfl, rfl, trivial⟩ rfl
  rintro q tm H ⟨j, l', acc, hj, hacc, hl', hRm, rfl, rfl⟩
  have hla := len_tcs acc
  have hb1 : ((tcs acc).length + 1) * 48 ≤ 140737488355328 := by omega
  have hb2 : (tcs acc).length + 1 ≤ 9223372036854775807 := by omega
  conv => whnf
  refine ⟨fun hc => ?_, fun hc => ?_⟩
  · replace hc : (j : Int) < n := of_decide_eq_true hc
    obtain ⟨q2, rfl⟩ : ∃ q2, q = q2 + 1 := ⟨q - 1, by omega⟩
    rw [rdMany] at hRm
    have ht := cRdTerm l' N Z hl' hN hNl
    conv => whnf
    try (refine draw_intro true (by kernel_rfl) ?_; conv => whnf)
    refine CallPt.use ht [0, 1, 2] ⟨rfl, rfl, rfl, trivial⟩ (by decide) rfl ?_ ?_
    (focus (rintro x _ hx _; (conv => whnf); exact ⟨hx.1.1, by rw [hx.1.2] at hRm; exact hRm.symm⟩))
    rintro _ _ ⟨t, m2, hR2, rfl, rfl⟩ _
    conv => whnf
    rw [hR2] at hRm
    have hlen2 := rdTerm_len hR2
    have hst : tcs (acc ++ [t]) = tcs acc ++ [tc t] := tcs_snoc19 acc t
    obtain ⟨k', l2, n', us⟩ := t
    rw [tv_mk]
    repeat (first | (refine And.intro rfl ?_; conv => whnf) | (refine And.intro (by decide) ?_; conv => whnf) | (refine draw_intro true (by kernel_rfl) ?_; conv => whnf) | (refine And.intro ⟨by omega, by omega⟩ ?_; conv => whnf) | (refine And.intro (by omega) ?_; conv => whnf) | (refine And.intro (fun _ => ⟨by omega, by omega⟩) ?_; conv => whnf) | (refine And.intro (of_decide_eq_true rfl) ?_; conv => whnf) | (refine And.intro (fun _ => ?_) (fun h => absurd h ?_); rotate_left; (focus (first | decide | (simp; done) | (simp [tcs]; done))); conv => whnf) | (refine And.intro (fun h => absurd h ?_) (fun _ => ?_); (focus (first | decide | (simp; done) | (simp [tcs]; done))); conv => whnf) | (intro _; conv => whnf))
    refine ⟨q2, _, _, by omega, ⟨j + 1, m2, acc ++ [.mk k' l2 n' us], by omega, by simp [hacc], by omega, hRm, rfl, rfl⟩, Wk.sel [0, 1, 2, 6] (by decide) (by first | decide | exact of_decide_eq_true rfl) (by first | decide | exact of_decide_eq_true rfl) ⟨rfl, rfl, rfl, ?_, trivial⟩ ⟨rfl, rfl, rfl, rfl, rfl, trivial⟩ rfl⟩
    rw [hst]
    rfl
  · replace hc : ¬ (j : Int) < n := of_decide_eq_false hc
    obtain rfl : q = 0 := by omega
    rw [rdMany] at hRm
    subst hC
    conv => whnf
    repeat (first | (refine And.intro rfl ?_; conv => whnf) | (refine And.intro (by decide) ?_; conv => whnf) | (refine draw_intro true (by kernel_rfl) ?_; conv => whnf) | (refine And.intro ⟨by omega, by omega⟩ ?_; conv => whnf) | (refine And.intro (by omega) ?_; conv => whnf) | (refine And.intro (fun _ => ⟨by omega, by omega⟩) ?_; conv => whnf) | (refine And.intro (of_decide_eq_true rfl) ?_; conv => whnf) | (refine And.intro (fun _ => ?_) (fun h => absurd h ?_); rotate_left; (focus (first | decide | (simp; done) | (simp [tcs]; done))); conv => whnf) | (refine And.intro (fun h => absurd h ?_) (fun _ => ?_); (focus (first | decide | (simp; done) | (simp [tcs]; done))); conv => whnf) | (intro _; conv => whnf))
    exact ⟨acc, l', hRm.symm, rfl, rfl⟩
theorem rdDecl_len {l m : List UInt8} {N : List Term} {d : Dcl} (h : rdDecl l N = some (d, m)) : m.length < l.length := by
  unfold rdDecl at h
  split at h
  · rename_i s m1 h1
    have g1 := rdName_len h1
    split at h
    · rename_i t m2 h2
      have g2 := rdTerm_len h2
      split at h
      · rename_i n m3 h3
        have g3 := rdNum_len _ _ _ _ _ h3
        injection h with h
        injection h with _ h
        subst h
        omega
      · cases h
    · cases h
  · cases h
theorem cReadDecls (l : List UInt8) (N : List Term) (Z : List Nat) (hl : l.length ≤ 1000000) (hN : ∀ t ∈ N, szT t ≤ 600) (hNl : N.length ≤ 1000000) :
    CallPt Try.prog 56 [.ptr 0 0, .bd 57 [.ptr 0 0]] (rdH l N Z)
    (fun r H' => ∃ ts m, rdList (fun l => rdDecl l N) l = some (ts, m) ∧ r = .c (.sl 6 72 (dcs ts)) ∧ H' = rdH m N Z) (fun x H' => (x = trb ∧ rdList (fun l => rdDecl l N) l = none) ∧ H' = dead3) := by
  have hn := cRdCount l N Z hl
  refine call_pan (E := envK 3) (fn := Try.f56) (c := bodyOf Try.f56) (envK_ok 3) mixed (by kernel_rfl) (by kernel_rfl) (by kernel_rfl) (by kernel_rfl) (by kernel_rfl) (by kernel_rfl) rfl .p ?_
  refine aw_cut _ _ rfl fun C hC => ?_
  conv => whnf
  subst hC
  refine aw_cut _ _ rfl fun C hC => ?_
  conv => whnf
  subst hC
  refine aw_cut _ _ rfl fun C hC => ?_
  conv => whnf
  try (refine draw_intro true (by kernel_rfl) ?_; conv => whnf)
  refine CallPt.use hn [0, 1, 2] ⟨rfl, rfl, rfl, trivial⟩ (by decide) rfl ?_ ?_
  (focus (rintro x _ hx _; (conv => whnf); exact ⟨hx.1.1, by unfold rdList; rw [hx.1.2]⟩))
  rintro _ _ ⟨n, m, hR, rfl, rfl⟩ _
  conv => whnf
  obtain ⟨hnm, hml⟩ := rdCount_le hR
  have e : rdList (fun l => rdDecl l N) l = rdMany (fun l => rdDecl l N) n m [] := by unfold rdList; rw [hR]
  rw [e]
  clear e hR hn
  generalize hRR : rdMany (fun l => rdDecl l N) n m [] = R at *
  repeat (first | (refine And.intro rfl ?_; conv => whnf) | (refine And.intro (by decide) ?_; conv => whnf) | (refine draw_intro true (by kernel_rfl) ?_; conv => whnf) | (refine And.intro ⟨by omega, by omega⟩ ?_; conv => whnf) | (refine And.intro (by omega) ?_; conv => whnf) | (refine And.intro (fun _ => ⟨by omega, by omega⟩) ?_; conv => whnf) | (refine And.intro (of_decide_eq_true rfl) ?_; conv => whnf) | (refine And.intro (fun _ => ?_) (fun h => absurd h ?_); rotate_left; (focus (first | decide | (simp; done) | (simp [tcs]; done))); conv => whnf) | (refine And.intro (fun h => absurd h ?_) (fun _ => ?_); (focus (first | decide | (simp; done) | (simp [tcs]; done))); conv => whnf) | (intro _; conv => whnf))
  refine loop_intro (fun q tm H => ∃ (j : Nat) (l' : List UInt8) (acc : List Dcl), n = q + j ∧ acc.length = j ∧ l'.length ≤ 1000000 ∧ rdMany (fun l => rdDecl l N) q l' acc = R ∧
      tm = [(9, .c (.int .i64 (j))), (8, .c (.int .i64 (n))), (5, .own 3), (1, .bd 57 [.ptr 0 0]), (0, .ptr 0 0)] ∧ H = [.box [.c (.str (sB l')), .own 1, .own 2], .row 25 4 48 (tcs N), .row 3 1 8 (rowN Z), .row 39 6 72 (dcs acc)])
    n _ _ ⟨0, m, [], by omega, rfl, by omega, hRR, rfl, rfl⟩ ?_ ?_
  · refine Wk.trans (Wk.niltmp 5 39 6 72 rfl rfl) ?_
    exact Wk.sel [0, 1, 2, 3] (by decide) (by first | decide | exact of_decide_eq_true rfl) (by first | decide | exact of_decide_eq_true rfl) ⟨rfl, rfl, rfl, rfl, trivial⟩ ⟨rfl, rfl, rfl, rfl, rfl, trivial⟩ rfl
  rintro q tm H ⟨j, l', acc, hj, hacc, hl', hRm, rfl, rfl⟩
  have hla := len_dcs acc
  have hb1 : ((dcs acc).length + 1) * 72 ≤ 140737488355328 := by omega
  have hb2 : (dcs acc).length + 1 ≤ 9223372036854775807 := by omega
  conv => whnf
  refine ⟨fun hc => ?_, fun hc => ?_⟩
  · replace hc : (j : Int) < n := of_decide_eq_true hc
    obtain ⟨q2, rfl⟩ : ∃ q2, q = q2 + 1 := ⟨q - 1, by omega⟩
    rw [rdMany] at hRm
    have ht := cRdDecl l' N Z hl' hN hNl
    conv => whnf
    try (refine draw_intro true (by kernel_rfl) ?_; conv => whnf)
    refine CallPt.use ht [0, 1, 2] ⟨rfl, rfl, rfl, trivial⟩ (by decide) rfl ?_ ?_
    (focus (rintro x _ hx _; (conv => whnf); exact ⟨hx.1.1, by rw [hx.1.2] at hRm; exact hRm.symm⟩))
    rintro _ _ ⟨t, m2, hR2, rfl, rfl⟩ _
    conv => whnf
    rw [hR2] at hRm
    have hlen2 := rdDecl_len hR2
    have hst : dcs (acc ++ [t]) = dcs acc ++ [dc t] := by simp [dcs]
    obtain ⟨s', ⟨k', l2, n', us⟩, i'⟩ := t
    repeat (first | (refine And.intro rfl ?_; conv => whnf) | (refine And.intro (by decide) ?_; conv => whnf) | (refine draw_intro true (by kernel_rfl) ?_; conv => whnf) | (refine And.intro ⟨by omega, by omega⟩ ?_; conv => whnf) | (refine And.intro (by omega) ?_; conv => whnf) | (refine And.intro (fun _ => ⟨by omega, by omega⟩) ?_; conv => whnf) | (refine And.intro (of_decide_eq_true rfl) ?_; conv => whnf) | (refine And.intro (fun _ => ?_) (fun h => absurd h ?_); rotate_left; (focus (first | decide | (simp; done) | (simp [tcs]; done))); conv => whnf) | (refine And.intro (fun h => absurd h ?_) (fun _ => ?_); (focus (first | decide | (simp; done) | (simp [tcs]; done))); conv => whnf) | (intro _; conv => whnf))
    refine ⟨q2, _, _, by omega, ⟨j + 1, m2, acc ++ [⟨s', .mk k' l2 n' us, i'⟩], by omega, by simp [hacc], by omega, hRm, rfl, rfl⟩, Wk.sel [0, 1, 2, 6] (by decide) (by first | decide | exact of_decide_eq_true rfl) (by first | decide | exact of_decide_eq_true rfl) ⟨rfl, rfl, rfl, ?_, trivial⟩ ⟨rfl, rfl, rfl, rfl, rfl, trivial⟩ rfl⟩
    rw [hst]
    rfl
  · replace hc : ¬ (j : Int) < n := of_decide_eq_false hc
    obtain rfl : q = 0 := by omega
    rw [rdMany] at hRm
    subst hC
    conv => whnf
    repeat (first | (refine And.intro rfl ?_; conv => whnf) | (refine And.intro (by decide) ?_; conv => whnf) | (refine draw_intro true (by kernel_rfl) ?_; conv => whnf) | (refine And.intro ⟨by omega, by omega⟩ ?_; conv => whnf) | (refine And.intro (by omega) ?_; conv => whnf) | (refine And.intro (fun _ => ⟨by omega, by omega⟩) ?_; conv => whnf) | (refine And.intro (of_decide_eq_true rfl) ?_; conv => whnf) | (refine And.intro (fun _ => ?_) (fun h => absurd h ?_); rotate_left; (focus (first | decide | (simp; done) | (simp [tcs]; done))); conv => whnf) | (refine And.intro (fun h => absurd h ?_) (fun _ => ?_); (focus (first | decide | (simp; done) | (simp [tcs]; done))); conv => whnf) | (intro _; conv => whnf))
    exact ⟨acc, l', hRm.symm, rfl, rfl⟩
end Go.Tr
/- cert: a node that is read. -/
namespace Go.Tr
open Go.Proofs
theorem eRow {T a b : Nat} {x y : List (List CV)} (h : x = y) : some (Ent.row T a b x) = some (Ent.row T a b y) := by rw [h]
def szN (t : Term) : Nat := (szT t).toNat
def rdArgs (N : List Term) : Nat → List UInt8 → List Term → Option (List Term × List UInt8)
  | 0, l, acc => some (acc, l)
  | c + 1, l, acc => match rdNum l 1 0 with
    | some (q, m) => (match (if q < N.length then N[N.length - 1 - q]? else none) with
      | some u => if 1 + szL (acc ++ [u]) ≤ 600 then rdArgs N c m (acc ++ [u]) else none
      | none => none)
    | none => none
/-- What is read behind a node's head. -/
def rdRest (k h n : Nat) (l : List UInt8) (N : List Term) : Option (Term × List UInt8) := match rdCount l with
  | some (c, m) => (match rdArgs N c m [] with
    | some (us, m2) => some (.mk k h n us, m2)
    | none => none)
  | none => none
/-- A node that is read. -/
def rdNode (l : List UInt8) (N : List Term) : Option (Term × List UInt8) := match l with
  | [] => none
  | b :: l1 => if b.toNat % 8 = 4 then (match rdNum l1 1 0 with
      | some (n, l2) => rdRest (b.toNat % 8) (b.toNat / 8) n l2 N
      | none => none)
    else rdRest (b.toNat % 8) (b.toNat / 8) 0 l1 N
theorem rowN_snoc (L : List Nat) (x : Nat) : rowN (L ++ [x]) = rowN L ++ [[CV.int .i64 (x : Int)]] := by simp [rowN]
set_option maxHeartbeats 4000000 in
theorem cRdNode (l : List UInt8) (N : List Term) (hl : l.length ≤ 1000000) (hN : ∀ t ∈ N, szT t ≤ 600) (hNl : N.length ≤ 900000) : CallPt Try.prog 55 [.ptr 0 0] (rdH l N (N.map szN))
    (fun r H' => ∃ t m, rdNode l N = some (t, m) ∧ r = tv t ∧ H' = [.box [.c (.str (sB m)), .own 3, .own 4], .dead, .dead, .row 25 4 48 (tcs (N ++ [t])), .row 3 1 8 (rowN ((N ++ [t]).map szN)), .box [.c (.int .i64 (t.k)), .c (.int .i64 (t.l)), .c (.int .i64 (t.n)), .own 6], .frz (.sl 4 48 (tcs t.ts))])
    (fun x H' => (x = trb ∧ rdNode l N = none) ∧ H' = dead3) := by
  have hn0 := cNext l N (N.map szN) hl
  have hlt := len_tcs N
  refine call_pan (E := env 3) (fn := Try.f55) (c := bodyOf Try.f55) (env_ok 3) mixed (by kernel_rfl) (by kernel_rfl) (by kernel_rfl) (by kernel_rfl) (by kernel_rfl) (by kernel_rfl) rfl .v ?_
  refine aw_cut _ _ rfl fun C hC => ?_
  conv => whnf
  subst hC
  refine aw_cut _ _ rfl fun C hC => ?_
  conv => whnf
  try (refine draw_intro true (by kernel_rfl) ?_; conv => whnf)
  refine CallPt.use hn0 [0, 1, 2] ⟨rfl, rfl, rfl, trivial⟩ (by decide) rfl ?_ ?_
  (focus (rintro x _ hx _; (conv => whnf); exact ⟨hx.1.1, by rw [hx.1.2]; rfl⟩))
  rintro _ _ ⟨b, l1, rfl, rfl, rfl⟩ _
  conv => whnf
  have hbl := b.toNat_lt
  simp only [List.length_cons] at hl
  have e1 : ((b.toNat : Int)).tmod 8 = ((b.toNat % 8 : Nat) : Int) := by rw [Int.tmod_eq_emod_of_nonneg (by omega)]; omega
  have e2 : ((b.toNat : Int)).tdiv 8 = ((b.toNat / 8 : Nat) : Int) := by rw [Int.tdiv_eq_ediv_of_nonneg (by omega)]; omega
  subst hC
  refine aw_cut _ _ rfl fun C hC => ?_
  conv => whnf
  refine ⟨show (8 : Int) ≠ 0 by decide, ?_⟩
  conv => whnf
  rw [e1]
  refine ⟨by rw [e2]; exact ⟨by omega, by omega, by omega⟩, ?_⟩
  conv => whnf
  rw [e2]
  repeat (first | (refine And.intro rfl ?_; conv => whnf) | (refine And.intro (by decide) ?_; conv => whnf) | (refine draw_intro true (by kernel_rfl) ?_; conv => whnf) | (refine And.intro ⟨by omega, by omega⟩ ?_; conv => whnf) | (refine And.intro (by omega) ?_; conv => whnf) | (refine And.intro (fun _ => ⟨by omega, by omega⟩) ?_; conv => whnf) | (refine And.intro (of_decide_eq_true rfl) ?_; conv => whnf) | (refine And.intro (fun _ => ?_) (fun h => absurd h ?_); rotate_left; (focus (first | decide | (simp; done) | (simp [tcs]; done))); conv => whnf) | (refine And.intro (fun h => absurd h ?_) (fun _ => ?_); (focus (first | decide | (simp; done) | (simp [tcs]; done))); conv => whnf) | (intro _; conv => whnf))
  subst hC
  refine aw_cut _ _ rfl fun C hC => ?_
  conv => whnf
  have hC1 := hC
  generalize hk0 : b.toNat % 8 = kk at *
  generalize hh0 : b.toNat / 8 = hh at *
  have eR : rdNode (b :: l1) N = if kk = 4 then (match rdNum l1 1 0 with | some (n, l2) => rdRest kk hh n l2 N | none => none) else rdRest kk hh 0 l1 N := by rw [← hk0, ← hh0]; rfl
  have hnm := cRdNumber l1 N (N.map szN) (by omega)
  refine ⟨fun hk4 => ?_, fun hk4 => ?_⟩
  · replace hk4 : kk = 4 := by have := of_decide_eq_true hk4; omega
    rw [if_pos hk4] at eR
    conv => whnf
    try (refine draw_intro true (by kernel_rfl) ?_; conv => whnf)
    refine CallPt.use hnm [0, 1, 2] ⟨rfl, rfl, rfl, trivial⟩ (by decide) rfl ?_ ?_
    (focus (rintro x _ hx _; (conv => whnf); exact ⟨hx.1.1, by rw [eR, hx.1.2]⟩))
    rintro _ _ ⟨n, l2, hR1, rfl, rfl⟩ _
    conv => whnf
    have hln := rdNum_len _ _ _ _ _ hR1
    rw [hR1] at eR
    simp only at eR
    repeat (first | (refine And.intro rfl ?_; conv => whnf) | (refine And.intro (by decide) ?_; conv => whnf) | (refine draw_intro true (by kernel_rfl) ?_; conv => whnf) | (refine And.intro ⟨by omega, by omega⟩ ?_; conv => whnf) | (refine And.intro (by omega) ?_; conv => whnf) | (refine And.intro (fun _ => ⟨by omega, by omega⟩) ?_; conv => whnf) | (refine And.intro (of_decide_eq_true rfl) ?_; conv => whnf) | (refine And.intro (fun _ => ?_) (fun h => absurd h ?_); rotate_left; (focus (first | decide | (simp; done) | (simp [tcs]; done))); conv => whnf) | (refine And.intro (fun h => absurd h ?_) (fun _ => ?_); (focus (first | decide | (simp; done) | (simp [tcs]; done))); conv => whnf) | (intro _; conv => whnf))
    subst hC
    refine aw_cut _ _ rfl fun C hC => ?_
    conv => whnf
    have hcn := cRdCount l2 N (N.map szN) (by omega)
    subst hC
    refine aw_cut _ _ rfl fun C hC => ?_
    conv => whnf
    try (refine draw_intro true (by kernel_rfl) ?_; conv => whnf)
    refine CallPt.use hcn [0, 1, 2] ⟨rfl, rfl, rfl, trivial⟩ (by decide) rfl ?_ ?_
    (focus (rintro x _ hx _; (conv => whnf); exact ⟨hx.1.1, by rw [eR]; unfold rdRest; rw [hx.1.2]⟩))
    rintro _ _ ⟨c, l3, hR2, rfl, rfl⟩ _
    conv => whnf
    obtain ⟨hc1, hc2⟩ := rdCount_le hR2
    have eR2 : rdNode (b :: l1) N = match rdArgs N c l3 [] with | some (us, m2) => some (.mk kk hh n us, m2) | none => none := by rw [eR]; unfold rdRest; rw [hR2]
    rw [eR2]
    clear eR eR2 hcn
    generalize hRR : rdArgs N c l3 [] = R at *
    repeat (first | (refine And.intro rfl ?_; conv => whnf) | (refine And.intro (by decide) ?_; conv => whnf) | (refine draw_intro true (by kernel_rfl) ?_; conv => whnf) | (refine And.intro ⟨by omega, by omega⟩ ?_; conv => whnf) | (refine And.intro (by omega) ?_; conv => whnf) | (refine And.intro (fun _ => ⟨by omega, by omega⟩) ?_; conv => whnf) | (refine And.intro (of_decide_eq_true rfl) ?_; conv => whnf) | (refine And.intro (fun _ => ?_) (fun h => absurd h ?_); rotate_left; (focus (first | decide | (simp; done) | (simp [tcs]; done))); conv => whnf) | (refine And.intro (fun h => absurd h ?_) (fun _ => ?_); (focus (first | decide | (simp; done) | (simp [tcs]; done))); conv => whnf) | (intro _; conv => whnf))
    refine loop_intro (fun q tm H => ∃ (j : Nat) (l' : List UInt8) (acc : List Term), c = q + j ∧ acc.length = j ∧ l'.length ≤ 1000000 ∧ 1 + szL acc ≤ 600 ∧ rdArgs N q l' acc = R ∧
        tm = [(22, .c (.int .i64 (j))), (21, .c (.int .i64 (c))), (5, .c (.int .i64 (1 + szL acc))), (4, .ptr 4 0), (2, .ptr 3 0), (0, .ptr 0 0)] ∧
        H = [.box [.c (.str (sB l')), .own 5, .own 6], .dead, .dead, .box [.c (.int .i64 (0)), .c (.int .i64 (0)), .c (.int .i64 (0)), .nil], .box [.c (.int .i64 (kk)), .c (.int .i64 (hh)), .c (.int .i64 (n)), .own 7], .row 25 4 48 (tcs N), .row 3 1 8 (rowN (N.map szN)), .row 25 4 48 (tcs acc)])
      c _ _ ⟨0, l3, [], by omega, rfl, by omega, by simp [szL], hRR, rfl, rfl⟩ ?_ ?_
    · refine Wk.trans (Wk.mvbox 0 1 1 25 4 48 (tcs N) rfl rfl rfl rfl) ?_
      refine Wk.trans (Wk.mvbox 0 2 2 3 1 8 (rowN (N.map szN)) rfl rfl rfl rfl) ?_
      refine Wk.trans (Wk.nilrow (i := 4) (j := 3) 25 4 48 rfl rfl rfl) ?_
      exact Wk.sel [0, 1, 2, 3, 4, 5, 6, 7] (by decide) (by first | decide | (show (0 : Nat) ≤ _; decide) | (show ∀ i, i < 0 → _; decide) | (show (1 : Nat) ≤ _; decide) | (show ∀ i, i < 1 → _; decide) | (show (2 : Nat) ≤ _; decide) | (show ∀ i, i < 2 → _; decide) | (show (3 : Nat) ≤ _; decide) | (show ∀ i, i < 3 → _; decide) | (show (4 : Nat) ≤ _; decide) | (show ∀ i, i < 4 → _; decide) | (show (5 : Nat) ≤ _; decide) | (show ∀ i, i < 5 → _; decide) | (show (6 : Nat) ≤ _; decide) | (show ∀ i, i < 6 → _; decide) | (show (7 : Nat) ≤ _; decide) | (show ∀ i, i < 7 → _; decide)) (by first | decide | (show (0 : Nat) ≤ _; decide) | (show ∀ i, i < 0 → _; decide) | (show (1 : Nat) ≤ _; decide) | (show ∀ i, i < 1 → _; decide) | (show (2 : Nat) ≤ _; decide) | (show ∀ i, i < 2 → _; decide) | (show (3 : Nat) ≤ _; decide) | (show ∀ i, i < 3 → _; decide) | (show (4 : Nat) ≤ _; decide) | (show ∀ i, i < 4 → _; decide) | (show (5 : Nat) ≤ _; decide) | (show ∀ i, i < 5 → _; decide) | (show (6 : Nat) ≤ _; decide) | (show ∀ i, i < 6 → _; decide) | (show (7 : Nat) ≤ _; decide) | (show ∀ i, i < 7 → _; decide)) ⟨rfl, rfl, rfl, rfl, rfl, rfl, rfl, rfl, trivial⟩ ⟨rfl, rfl, rfl, rfl, rfl, rfl, trivial⟩ rfl
    rintro q tm H ⟨j, l', acc, hj, hacc, hl', hsa, hRm, rfl, rfl⟩
    have hla := len_tcs acc
    have hsn := szL_pos acc
    have hb1 : ((tcs acc).length + 1) * 48 ≤ 140737488355328 := by have := szL_len acc; omega
    have hb2 : (tcs acc).length + 1 ≤ 9223372036854775807 := by have := szL_len acc; omega
    have hnm2 := cRdNumber l' N (N.map szN) hl'
    conv => whnf
    refine ⟨fun hc => ?_, fun hc => ?_⟩
    · replace hc : (j : Int) < c := of_decide_eq_true hc
      obtain ⟨q2, rfl⟩ : ∃ q2, q = q2 + 1 := ⟨q - 1, by omega⟩
      rw [rdArgs] at hRm
      cases hR1 : rdNum l' 1 0 with
      | none =>
        rw [hR1] at hRm hnm2
        conv => whnf
        refine draw_intro false (by kernel_rfl) ?_
        conv => whnf
        (refine And.intro ?_ ?_ <;> conv => whnf)
        · repeat (first | (refine And.intro rfl ?_; conv => whnf) | (refine And.intro (by decide) ?_; conv => whnf) | (refine draw_intro true (by kernel_rfl) ?_; conv => whnf) | (refine And.intro ⟨by omega, by omega⟩ ?_; conv => whnf) | (refine And.intro (by omega) ?_; conv => whnf) | (refine And.intro (fun _ => ⟨by omega, by omega⟩) ?_; conv => whnf) | (refine And.intro (of_decide_eq_true rfl) ?_; conv => whnf) | (refine And.intro (fun _ => ?_) (fun h => absurd h ?_); rotate_left; (focus (first | decide | (simp; done) | (simp [tcs]; done))); conv => whnf) | (refine And.intro (fun h => absurd h ?_) (fun _ => ?_); (focus (first | decide | (simp; done) | (simp [tcs]; done))); conv => whnf) | (intro _; conv => whnf))
          try (refine draw_intro true (by kernel_rfl) ?_; conv => whnf)
          refine CallPt.use hnm2 [0, 5, 6] ⟨rfl, rfl, rfl, trivial⟩ (by decide) rfl ?_ ?_
          (focus (rintro x _ hx _; (conv => whnf); exact ⟨hx.1.1, by rw [← hRm]⟩))
          rintro _ _ ⟨_, _, h, _⟩ _
          conv => whnf
          cases h
        · try (refine draw_intro true (by kernel_rfl) ?_; conv => whnf)
          refine CallPt.use hnm2 [0, 5, 6] ⟨rfl, rfl, rfl, trivial⟩ (by decide) rfl ?_ ?_
          (focus (rintro x _ hx _; (conv => whnf); exact ⟨hx.1.1, by rw [← hRm]⟩))
          rintro _ _ ⟨_, _, h, _⟩ _
          conv => whnf
          cases h
      | some p =>
        obtain ⟨qv, m⟩ := p
        have hql := rdNum_len _ _ _ _ _ hR1
        have hqb := rdNum_le _ _ _ _ _ (by omega) hR1
        rw [hR1] at hRm hnm2
        simp only at hRm
        have hnm3 : CallPt Try.prog 71 [.ptr 0 0] (rdH l' N (N.map szN)) (fun r H' => r = .c (.int .i64 ((qv : Nat))) ∧ H' = rdH m N (N.map szN)) (fun x H' => (x = trb ∧ some (qv, m) = none) ∧ H' = dead3) := by
          refine CallPt.mono hnm2 ?_ (fun _ _ h => h)
          rintro r H' ⟨n', m', h, rfl, rfl⟩
          injection h with h
          injection h with h1 h2
          subst h1 h2
          exact ⟨rfl, rfl⟩
        clear hnm2
        conv => whnf
        refine draw_wk [(6, .c (.int .i64 (((tcs N).length : Int) - 1 - (qv : Int)))), (22, .c (.int .i64 (j))), (21, .c (.int .i64 (c))), (5, .c (.int .i64 (1 + szL acc))), (4, .ptr 4 0), (2, .ptr 3 0), (0, .ptr 0 0)]
          [.box [.c (.str (sB m)), .own 5, .own 6], .dead, .dead, .box [.c (.int .i64 (0)), .c (.int .i64 (0)), .c (.int .i64 (0)), .nil], .box [.c (.int .i64 (kk)), .c (.int .i64 (hh)), .c (.int .i64 (n)), .own 7], .row 25 4 48 (tcs N), .row 3 1 8 (rowN (N.map szN)), .row 25 4 48 (tcs acc)] ?_ ?_
        · refine draw_intro false (by kernel_rfl) ?_
          conv => whnf
          (refine And.intro ?_ ?_ <;> conv => whnf)
          · repeat (first | (refine And.intro rfl ?_; conv => whnf) | (refine And.intro (by decide) ?_; conv => whnf) | (refine draw_intro true (by kernel_rfl) ?_; conv => whnf) | (refine And.intro ⟨by omega, by omega⟩ ?_; conv => whnf) | (refine And.intro (by omega) ?_; conv => whnf) | (refine And.intro (fun _ => ⟨by omega, by omega⟩) ?_; conv => whnf) | (refine And.intro (of_decide_eq_true rfl) ?_; conv => whnf) | (refine And.intro (fun _ => ?_) (fun h => absurd h ?_); rotate_left; (focus (first | decide | (simp; done) | (simp [tcs]; done))); conv => whnf) | (refine And.intro (fun h => absurd h ?_) (fun _ => ?_); (focus (first | decide | (simp; done) | (simp [tcs]; done))); conv => whnf) | (intro _; conv => whnf))
            try (refine draw_intro true (by kernel_rfl) ?_; conv => whnf)
            refine CallPt.use hnm3 [0, 5, 6] ⟨rfl, rfl, rfl, trivial⟩ (by decide) rfl ?_ ?_
            (focus (rintro x _ hx _; (conv => whnf); exact absurd hx.1.2 (by simp)))
            rintro _ _ ⟨rfl, rfl⟩ _
            conv => whnf
            repeat (first | (refine And.intro rfl ?_; conv => whnf) | (refine And.intro (by decide) ?_; conv => whnf) | (refine draw_intro true (by kernel_rfl) ?_; conv => whnf) | (refine And.intro ⟨by omega, by omega⟩ ?_; conv => whnf) | (refine And.intro (by omega) ?_; conv => whnf) | (refine And.intro (fun _ => ⟨by omega, by omega⟩) ?_; conv => whnf) | (refine And.intro (of_decide_eq_true rfl) ?_; conv => whnf) | (refine And.intro (fun _ => ?_) (fun h => absurd h ?_); rotate_left; (focus (first | decide | (simp; done) | (simp [tcs]; done))); conv => whnf) | (refine And.intro (fun h => absurd h ?_) (fun _ => ?_); (focus (first | decide | (simp; done) | (simp [tcs]; done))); conv => whnf) | (intro _; conv => whnf))
            exact Wk.sel [0, 1, 2, 3, 4, 5, 6, 7] (by decide) (by first | decide | (show (0 : Nat) ≤ _; decide) | (show ∀ i, i < 0 → _; decide) | (show (1 : Nat) ≤ _; decide) | (show ∀ i, i < 1 → _; decide) | (show (2 : Nat) ≤ _; decide) | (show ∀ i, i < 2 → _; decide) | (show (3 : Nat) ≤ _; decide) | (show ∀ i, i < 3 → _; decide) | (show (4 : Nat) ≤ _; decide) | (show ∀ i, i < 4 → _; decide) | (show (5 : Nat) ≤ _; decide) | (show ∀ i, i < 5 → _; decide) | (show (6 : Nat) ≤ _; decide) | (show ∀ i, i < 6 → _; decide) | (show (7 : Nat) ≤ _; decide) | (show ∀ i, i < 7 → _; decide)) (by first | decide | (show (0 : Nat) ≤ _; decide) | (show ∀ i, i < 0 → _; decide) | (show (1 : Nat) ≤ _; decide) | (show ∀ i, i < 1 → _; decide) | (show (2 : Nat) ≤ _; decide) | (show ∀ i, i < 2 → _; decide) | (show (3 : Nat) ≤ _; decide) | (show ∀ i, i < 3 → _; decide) | (show (4 : Nat) ≤ _; decide) | (show ∀ i, i < 4 → _; decide) | (show (5 : Nat) ≤ _; decide) | (show ∀ i, i < 5 → _; decide) | (show (6 : Nat) ≤ _; decide) | (show ∀ i, i < 6 → _; decide) | (show (7 : Nat) ≤ _; decide) | (show ∀ i, i < 7 → _; decide)) ⟨rfl, rfl, rfl, rfl, rfl, rfl, rfl, rfl, trivial⟩ ⟨rfl, rfl, rfl, rfl, rfl, rfl, rfl, trivial⟩ rfl
          · try (refine draw_intro true (by kernel_rfl) ?_; conv => whnf)
            refine CallPt.use hnm3 [0, 5, 6] ⟨rfl, rfl, rfl, trivial⟩ (by decide) rfl ?_ ?_
            (focus (rintro x _ hx _; (conv => whnf); exact absurd hx.1.2 (by simp)))
            rintro _ _ ⟨rfl, rfl⟩ _
            conv => whnf
            repeat (first | (refine And.intro rfl ?_; conv => whnf) | (refine And.intro (by decide) ?_; conv => whnf) | (refine draw_intro true (by kernel_rfl) ?_; conv => whnf) | (refine And.intro ⟨by omega, by omega⟩ ?_; conv => whnf) | (refine And.intro (by omega) ?_; conv => whnf) | (refine And.intro (fun _ => ⟨by omega, by omega⟩) ?_; conv => whnf) | (refine And.intro (of_decide_eq_true rfl) ?_; conv => whnf) | (refine And.intro (fun _ => ?_) (fun h => absurd h ?_); rotate_left; (focus (first | decide | (simp; done) | (simp [tcs]; done))); conv => whnf) | (refine And.intro (fun h => absurd h ?_) (fun _ => ?_); (focus (first | decide | (simp; done) | (simp [tcs]; done))); conv => whnf) | (intro _; conv => whnf))
            exact Wk.sel [0, 1, 2, 3, 4, 5, 6, 7] (by decide) (by first | decide | (show (0 : Nat) ≤ _; decide) | (show ∀ i, i < 0 → _; decide) | (show (1 : Nat) ≤ _; decide) | (show ∀ i, i < 1 → _; decide) | (show (2 : Nat) ≤ _; decide) | (show ∀ i, i < 2 → _; decide) | (show (3 : Nat) ≤ _; decide) | (show ∀ i, i < 3 → _; decide) | (show (4 : Nat) ≤ _; decide) | (show ∀ i, i < 4 → _; decide) | (show (5 : Nat) ≤ _; decide) | (show ∀ i, i < 5 → _; decide) | (show (6 : Nat) ≤ _; decide) | (show ∀ i, i < 6 → _; decide) | (show (7 : Nat) ≤ _; decide) | (show ∀ i, i < 7 → _; decide)) (by first | decide | (show (0 : Nat) ≤ _; decide) | (show ∀ i, i < 0 → _; decide) | (show (1 : Nat) ≤ _; decide) | (show ∀ i, i < 1 → _; decide) | (show (2 : Nat) ≤ _; decide) | (show ∀ i, i < 2 → _; decide) | (show (3 : Nat) ≤ _; decide) | (show ∀ i, i < 3 → _; decide) | (show (4 : Nat) ≤ _; decide) | (show ∀ i, i < 4 → _; decide) | (show (5 : Nat) ≤ _; decide) | (show ∀ i, i < 5 → _; decide) | (show (6 : Nat) ≤ _; decide) | (show ∀ i, i < 6 → _; decide) | (show (7 : Nat) ≤ _; decide) | (show ∀ i, i < 7 → _; decide)) ⟨rfl, rfl, rfl, rfl, rfl, rfl, rfl, rfl, trivial⟩ ⟨rfl, rfl, rfl, rfl, rfl, rfl, rfl, trivial⟩ rfl
        · have hd := cDemand (decide (0 ≤ ((tcs N).length : Int) - 1 - (qv : Int)))
          conv => whnf
          by_cases hqn : qv < N.length
          · obtain ⟨u, hu⟩ : ∃ u, N[N.length - 1 - qv]? = some u := ⟨N[N.length - 1 - qv]'(by omega), List.getElem?_eq_getElem (by omega)⟩
            have hum := List.mem_of_getElem? hu
            have hus := hN u hum
            have hup := szT_pos u
            have hzn : ((szN u : Nat) : Int) = szT u := by unfold szN; omega
            have hkt : (((tcs N).length : Int) - 1 - (qv : Int)).toNat = N.length - 1 - qv := by omega
            have hkz : (rowN (N.map szN))[(((tcs N).length : Int) - 1 - (qv : Int)).toNat]? = some [.int .i64 ((szN u : Nat) : Int)] := by rw [hkt]; simp [rowN, hu]
            have hkc : (tcs N)[(((tcs N).length : Int) - 1 - (qv : Int)).toNat]? = some (tc u) := by rw [hkt]; exact tcs_at N _ u hu
            have hzl : (rowN (N.map szN)).length = N.length := by simp [rowN]
            have hsl : szL (acc ++ [u]) = szL acc + szT u := by rw [szL_append]; simp [szL]
            rw [if_pos hqn, hu] at hRm
            simp only at hRm
            rw [decide_eq_true (show 0 ≤ ((tcs N).length : Int) - 1 - (qv : Int) by omega)] at hd ⊢
            try (refine draw_intro true (by kernel_rfl) ?_; conv => whnf)
            refine CallPt.use hd [] trivial (by decide) rfl ?_ ?_
            (focus (rintro x _ hx _; (conv => whnf); exact absurd hx.1.2 (by simp)))
            rintro _ _ ⟨_, rfl, rfl⟩ _
            conv => whnf
            refine ⟨⟨by omega, by omega⟩, ?_⟩
            conv => whnf
            refine ⟨[.int .i64 ((szN u : Nat) : Int)], hkz, show 0 + 1 ≤ 1 by decide, ?_⟩
            conv => whnf
            refine ⟨⟨by omega, by omega⟩, ?_⟩
            conv => whnf
            have hd2 := cDemand (decide ((1 + szL acc + ((szN u : Nat) : Int)) ≤ 600))
            by_cases hs6 : 1 + szL (acc ++ [u]) ≤ 600
            · rw [if_pos hs6] at hRm
              rw [decide_eq_true (show (1 + szL acc + ((szN u : Nat) : Int)) ≤ 600 by omega)] at hd2 ⊢
              try (refine draw_intro true (by kernel_rfl) ?_; conv => whnf)
              refine CallPt.use hd2 [] trivial (by decide) rfl ?_ ?_
              (focus (rintro x _ hx _; (conv => whnf); exact absurd hx.1.2 (by simp)))
              rintro _ _ ⟨_, rfl, rfl⟩ _
              conv => whnf
              have es : 1 + szL acc + ((szN u : Nat) : Int) = 1 + szL (acc ++ [u]) := by omega
              rw [es]
              have hst : tcs (acc ++ [u]) = tcs acc ++ [tc u] := tcs_snoc19 acc u
              obtain ⟨k', l2', n', us⟩ := u
              replace hkc : (tcs N)[(((tcs N).length : Int) - 1 - (qv : Int)).toNat]? = some [.int .i64 k', .int .i64 l2', .int .i64 n', .sl 4 48 (tcs us)] := hkc
              refine draw_intro true (by kernel_rfl) ?_
              conv => whnf
              refine ⟨⟨by omega, by omega⟩, ?_⟩
              conv => whnf
              refine ⟨[.int .i64 k', .int .i64 l2', .int .i64 n', .sl 4 48 (tcs us)], hkc, show 0 + 4 ≤ 4 by decide, ?_⟩
              conv => whnf
              repeat (first | (refine And.intro rfl ?_; conv => whnf) | (refine And.intro (by decide) ?_; conv => whnf) | (refine draw_intro true (by kernel_rfl) ?_; conv => whnf) | (refine And.intro ⟨by omega, by omega⟩ ?_; conv => whnf) | (refine And.intro (by omega) ?_; conv => whnf) | (refine And.intro (fun _ => ⟨by omega, by omega⟩) ?_; conv => whnf) | (refine And.intro (of_decide_eq_true rfl) ?_; conv => whnf) | (refine And.intro (fun _ => ?_) (fun h => absurd h ?_); rotate_left; (focus (first | decide | (simp; done) | (simp [tcs]; done))); conv => whnf) | (refine And.intro (fun h => absurd h ?_) (fun _ => ?_); (focus (first | decide | (simp; done) | (simp [tcs]; done))); conv => whnf) | (intro _; conv => whnf))
              refine ⟨q2, _, _, by omega, ⟨j + 1, m, acc ++ [.mk k' l2' n' us], by omega, by simp [hacc], by omega, hs6, hRm, rfl, rfl⟩, Wk.sel [0, 1, 2, 3, 4, 5, 6, 9] (by decide) (by first | decide | (show (0 : Nat) ≤ _; decide) | (show ∀ i, i < 0 → _; decide) | (show (1 : Nat) ≤ _; decide) | (show ∀ i, i < 1 → _; decide) | (show (2 : Nat) ≤ _; decide) | (show ∀ i, i < 2 → _; decide) | (show (3 : Nat) ≤ _; decide) | (show ∀ i, i < 3 → _; decide) | (show (4 : Nat) ≤ _; decide) | (show ∀ i, i < 4 → _; decide) | (show (5 : Nat) ≤ _; decide) | (show ∀ i, i < 5 → _; decide) | (show (6 : Nat) ≤ _; decide) | (show ∀ i, i < 6 → _; decide) | (show (7 : Nat) ≤ _; decide) | (show ∀ i, i < 7 → _; decide)) (by first | decide | (show (0 : Nat) ≤ _; decide) | (show ∀ i, i < 0 → _; decide) | (show (1 : Nat) ≤ _; decide) | (show ∀ i, i < 1 → _; decide) | (show (2 : Nat) ≤ _; decide) | (show ∀ i, i < 2 → _; decide) | (show (3 : Nat) ≤ _; decide) | (show ∀ i, i < 3 → _; decide) | (show (4 : Nat) ≤ _; decide) | (show ∀ i, i < 4 → _; decide) | (show (5 : Nat) ≤ _; decide) | (show ∀ i, i < 5 → _; decide) | (show (6 : Nat) ≤ _; decide) | (show ∀ i, i < 6 → _; decide) | (show (7 : Nat) ≤ _; decide) | (show ∀ i, i < 7 → _; decide)) ⟨rfl, rfl, rfl, rfl, rfl, rfl, rfl, ?_, trivial⟩ ⟨rfl, rfl, rfl, rfl, rfl, rfl, trivial⟩ rfl⟩
              rw [hst]
              rfl
            · rw [if_neg hs6] at hRm
              rw [decide_eq_false (show ¬ (1 + szL acc + ((szN u : Nat) : Int)) ≤ 600 by omega)] at hd2 ⊢
              try (refine draw_intro true (by kernel_rfl) ?_; conv => whnf)
              refine CallPt.use hd2 [] trivial (by decide) rfl ?_ ?_
              (focus (rintro x _ hx _; (conv => whnf); exact ⟨hx.1.1, by rw [← hRm]⟩))
              rintro _ _ ⟨h, _⟩ _
              conv => whnf
              cases h
          · rw [if_neg hqn] at hRm
            rw [decide_eq_false (show ¬ 0 ≤ ((tcs N).length : Int) - 1 - (qv : Int) by omega)] at hd ⊢
            try (refine draw_intro true (by kernel_rfl) ?_; conv => whnf)
            refine CallPt.use hd [] trivial (by decide) rfl ?_ ?_
            (focus (rintro x _ hx _; (conv => whnf); exact ⟨hx.1.1, by rw [← hRm]⟩))
            rintro _ _ ⟨h, _⟩ _
            conv => whnf
            cases h
    · replace hc : ¬ (j : Int) < c := of_decide_eq_false hc
      obtain rfl : q = 0 := by omega
      rw [rdArgs] at hRm
      subst hRm
      conv => whnf
      subst hC
      conv => whnf
      refine draw_wk [(5, .c (.int .i64 (1 + szL acc))), (4, .ptr 4 0), (2, .ptr 3 0), (0, .ptr 0 0)]
        [.box [.c (.str (sB l')), .own 7, .own 5], .dead, .dead, .box [.c (.int .i64 (0)), .c (.int .i64 (0)), .c (.int .i64 (0)), .nil], .box [.c (.int .i64 (kk)), .c (.int .i64 (hh)), .c (.int .i64 (n)), .own 6], .row 3 1 8 (rowN (N.map szN)), .frz (.sl 4 48 (tcs acc)), .row 25 4 48 (tcs N ++ [[.int .i64 kk, .int .i64 hh, .int .i64 n, .sl 4 48 (tcs acc)]])] ?_ ?_
      · refine draw_intro true (by kernel_rfl) ?_
        conv => whnf
        repeat (first | (refine And.intro rfl ?_; conv => whnf) | (refine And.intro (by decide) ?_; conv => whnf) | (refine And.intro ⟨by omega, by omega⟩ ?_; conv => whnf) | (refine And.intro (by omega) ?_; conv => whnf) | (refine And.intro (fun _ => ⟨by omega, by omega⟩) ?_; conv => whnf) | (refine And.intro (of_decide_eq_true rfl) ?_; conv => whnf) | (refine And.intro (fun _ => ?_) (fun h => absurd h ?_); rotate_left; (focus (first | decide | (simp; done) | (simp [tcs]; done))); conv => whnf) | (refine And.intro (fun h => absurd h ?_) (fun _ => ?_); (focus (first | decide | (simp; done) | (simp [tcs]; done))); conv => whnf))
        intro hlenN
        conv => whnf
        repeat (first | (refine And.intro rfl ?_; conv => whnf) | (refine And.intro (by decide) ?_; conv => whnf) | (refine And.intro ⟨by omega, by omega⟩ ?_; conv => whnf) | (refine And.intro (by omega) ?_; conv => whnf) | (refine And.intro (fun _ => ⟨by omega, by omega⟩) ?_; conv => whnf) | (refine And.intro (of_decide_eq_true rfl) ?_; conv => whnf) | (refine And.intro (fun _ => ?_) (fun h => absurd h ?_); rotate_left; (focus (first | decide | (simp; done) | (simp [tcs]; done))); conv => whnf) | (refine And.intro (fun h => absurd h ?_) (fun _ => ?_); (focus (first | decide | (simp; done) | (simp [tcs]; done))); conv => whnf))
        refine ⟨show ((tcs N).length + 1) * 48 ≤ 140737488355328 by omega, show (tcs N).length + 1 ≤ 9223372036854775807 by omega, ?_⟩
        conv => whnf
        repeat (first | (refine And.intro rfl ?_; conv => whnf) | (refine And.intro (by decide) ?_; conv => whnf) | (refine And.intro ⟨by omega, by omega⟩ ?_; conv => whnf) | (refine And.intro (by omega) ?_; conv => whnf) | (refine And.intro (fun _ => ⟨by omega, by omega⟩) ?_; conv => whnf) | (refine And.intro (of_decide_eq_true rfl) ?_; conv => whnf) | (refine And.intro (fun _ => ?_) (fun h => absurd h ?_); rotate_left; (focus (first | decide | (simp; done) | (simp [tcs]; done))); conv => whnf) | (refine And.intro (fun h => absurd h ?_) (fun _ => ?_); (focus (first | decide | (simp; done) | (simp [tcs]; done))); conv => whnf))
        have hix : ((tcs N).length : Int).toNat = (tcs N).length := by omega
        have hapl : ∀ z : List CV, (tcs N).length < (tcs N ++ [z]).length := fun z => by simp
        refine ⟨⟨by omega, by rw [hix]; exact hapl _⟩, ?_⟩
        conv => whnf
        repeat (first | (refine And.intro rfl ?_; conv => whnf) | (refine And.intro (by decide) ?_; conv => whnf) | (refine And.intro ⟨by omega, by omega⟩ ?_; conv => whnf) | (refine And.intro (by omega) ?_; conv => whnf) | (refine And.intro (fun _ => ⟨by omega, by omega⟩) ?_; conv => whnf) | (refine And.intro (of_decide_eq_true rfl) ?_; conv => whnf) | (refine And.intro (fun _ => ?_) (fun h => absurd h ?_); rotate_left; (focus (first | decide | (simp; done) | (simp [tcs]; done))); conv => whnf) | (refine And.intro (fun h => absurd h ?_) (fun _ => ?_); (focus (first | decide | (simp; done) | (simp [tcs]; done))); conv => whnf))
        have hget : ∀ z : List CV, (tcs N ++ [z])[((tcs N).length : Int).toNat]? = some z := fun z => by rw [hix]; simp
        have hset : ∀ z x : List CV, (tcs N ++ [z]).set ((tcs N).length : Int).toNat x = tcs N ++ [x] := fun z x => by rw [hix]; simp
        refine ⟨?_, ?_⟩
        · conv => whnf
          repeat (first | (refine And.intro rfl ?_; conv => whnf) | (refine And.intro (by decide) ?_; conv => whnf) | (refine And.intro ⟨by omega, by omega⟩ ?_; conv => whnf) | (refine And.intro (by omega) ?_; conv => whnf) | (refine And.intro (fun _ => ⟨by omega, by omega⟩) ?_; conv => whnf) | (refine And.intro (of_decide_eq_true rfl) ?_; conv => whnf) | (refine And.intro (fun _ => ?_) (fun h => absurd h ?_); rotate_left; (focus (first | decide | (simp; done) | (simp [tcs]; done))); conv => whnf) | (refine And.intro (fun h => absurd h ?_) (fun _ => ?_); (focus (first | decide | (simp; done) | (simp [tcs]; done))); conv => whnf))
          refine ⟨_, hget _, show 0 + 4 ≤ 4 by decide, ?_⟩
          conv => whnf
          repeat (first | (refine And.intro rfl ?_; conv => whnf) | (refine And.intro (by decide) ?_; conv => whnf) | (refine And.intro ⟨by omega, by omega⟩ ?_; conv => whnf) | (refine And.intro (by omega) ?_; conv => whnf) | (refine And.intro (fun _ => ⟨by omega, by omega⟩) ?_; conv => whnf) | (refine And.intro (of_decide_eq_true rfl) ?_; conv => whnf) | (refine And.intro (fun _ => ?_) (fun h => absurd h ?_); rotate_left; (focus (first | decide | (simp; done) | (simp [tcs]; done))); conv => whnf) | (refine And.intro (fun h => absurd h ?_) (fun _ => ?_); (focus (first | decide | (simp; done) | (simp [tcs]; done))); conv => whnf))
          exact Wk.sel [0, 1, 2, 3, 4, 6, 7, 9] (by decide) (by first | decide | (show (0 : Nat) ≤ _; decide) | (show ∀ i, i < 0 → _; decide) | (show (1 : Nat) ≤ _; decide) | (show ∀ i, i < 1 → _; decide) | (show (2 : Nat) ≤ _; decide) | (show ∀ i, i < 2 → _; decide) | (show (3 : Nat) ≤ _; decide) | (show ∀ i, i < 3 → _; decide) | (show (4 : Nat) ≤ _; decide) | (show ∀ i, i < 4 → _; decide) | (show (5 : Nat) ≤ _; decide) | (show ∀ i, i < 5 → _; decide) | (show (6 : Nat) ≤ _; decide) | (show ∀ i, i < 6 → _; decide) | (show (7 : Nat) ≤ _; decide) | (show ∀ i, i < 7 → _; decide)) (by first | decide | (show (0 : Nat) ≤ _; decide) | (show ∀ i, i < 0 → _; decide) | (show (1 : Nat) ≤ _; decide) | (show ∀ i, i < 1 → _; decide) | (show (2 : Nat) ≤ _; decide) | (show ∀ i, i < 2 → _; decide) | (show (3 : Nat) ≤ _; decide) | (show ∀ i, i < 3 → _; decide) | (show (4 : Nat) ≤ _; decide) | (show ∀ i, i < 4 → _; decide) | (show (5 : Nat) ≤ _; decide) | (show ∀ i, i < 5 → _; decide) | (show (6 : Nat) ≤ _; decide) | (show ∀ i, i < 6 → _; decide) | (show (7 : Nat) ≤ _; decide) | (show ∀ i, i < 7 → _; decide)) ⟨rfl, rfl, rfl, rfl, rfl, rfl, rfl, eRow (hset _ _), trivial⟩ ⟨rfl, rfl, rfl, rfl, trivial⟩ rfl
        · conv => whnf
          repeat (first | (refine And.intro rfl ?_; conv => whnf) | (refine And.intro (by decide) ?_; conv => whnf) | (refine And.intro ⟨by omega, by omega⟩ ?_; conv => whnf) | (refine And.intro (by omega) ?_; conv => whnf) | (refine And.intro (fun _ => ⟨by omega, by omega⟩) ?_; conv => whnf) | (refine And.intro (of_decide_eq_true rfl) ?_; conv => whnf) | (refine And.intro (fun _ => ?_) (fun h => absurd h ?_); rotate_left; (focus (first | decide | (simp; done) | (simp [tcs]; done))); conv => whnf) | (refine And.intro (fun h => absurd h ?_) (fun _ => ?_); (focus (first | decide | (simp; done) | (simp [tcs]; done))); conv => whnf))
          refine ⟨_, hget _, show 0 + 4 ≤ 4 by decide, ?_⟩
          conv => whnf
          repeat (first | (refine And.intro rfl ?_; conv => whnf) | (refine And.intro (by decide) ?_; conv => whnf) | (refine And.intro ⟨by omega, by omega⟩ ?_; conv => whnf) | (refine And.intro (by omega) ?_; conv => whnf) | (refine And.intro (fun _ => ⟨by omega, by omega⟩) ?_; conv => whnf) | (refine And.intro (of_decide_eq_true rfl) ?_; conv => whnf) | (refine And.intro (fun _ => ?_) (fun h => absurd h ?_); rotate_left; (focus (first | decide | (simp; done) | (simp [tcs]; done))); conv => whnf) | (refine And.intro (fun h => absurd h ?_) (fun _ => ?_); (focus (first | decide | (simp; done) | (simp [tcs]; done))); conv => whnf))
          exact Wk.sel [0, 1, 2, 3, 4, 6, 7, 9] (by decide) (by first | decide | (show (0 : Nat) ≤ _; decide) | (show ∀ i, i < 0 → _; decide) | (show (1 : Nat) ≤ _; decide) | (show ∀ i, i < 1 → _; decide) | (show (2 : Nat) ≤ _; decide) | (show ∀ i, i < 2 → _; decide) | (show (3 : Nat) ≤ _; decide) | (show ∀ i, i < 3 → _; decide) | (show (4 : Nat) ≤ _; decide) | (show ∀ i, i < 4 → _; decide) | (show (5 : Nat) ≤ _; decide) | (show ∀ i, i < 5 → _; decide) | (show (6 : Nat) ≤ _; decide) | (show ∀ i, i < 6 → _; decide) | (show (7 : Nat) ≤ _; decide) | (show ∀ i, i < 7 → _; decide)) (by first | decide | (show (0 : Nat) ≤ _; decide) | (show ∀ i, i < 0 → _; decide) | (show (1 : Nat) ≤ _; decide) | (show ∀ i, i < 1 → _; decide) | (show (2 : Nat) ≤ _; decide) | (show ∀ i, i < 2 → _; decide) | (show (3 : Nat) ≤ _; decide) | (show ∀ i, i < 3 → _; decide) | (show (4 : Nat) ≤ _; decide) | (show ∀ i, i < 4 → _; decide) | (show (5 : Nat) ≤ _; decide) | (show ∀ i, i < 5 → _; decide) | (show (6 : Nat) ≤ _; decide) | (show ∀ i, i < 6 → _; decide) | (show (7 : Nat) ≤ _; decide) | (show ∀ i, i < 7 → _; decide)) ⟨rfl, rfl, rfl, rfl, rfl, rfl, rfl, eRow (hset _ _), trivial⟩ ⟨rfl, rfl, rfl, rfl, trivial⟩ rfl
      · have hzl : (rowN (N.map szN)).length = N.length := by simp [rowN]
        conv => whnf
        repeat (first | (refine And.intro rfl ?_; conv => whnf) | (refine And.intro (by decide) ?_; conv => whnf) | (refine draw_intro true (by kernel_rfl) ?_; conv => whnf) | (refine And.intro ⟨by omega, by omega⟩ ?_; conv => whnf) | (refine And.intro (by omega) ?_; conv => whnf) | (refine And.intro (fun _ => ⟨by omega, by omega⟩) ?_; conv => whnf) | (refine And.intro (of_decide_eq_true rfl) ?_; conv => whnf) | (refine And.intro (fun _ => ?_) (fun h => absurd h ?_); rotate_left; (focus (first | decide | (simp; done) | (simp [tcs]; done))); conv => whnf) | (refine And.intro (fun h => absurd h ?_) (fun _ => ?_); (focus (first | decide | (simp; done) | (simp [tcs]; done))); conv => whnf) | (intro _; conv => whnf))
        refine ⟨show ((rowN (N.map szN)).length + 1) * 8 ≤ 140737488355328 by omega, show (rowN (N.map szN)).length + 1 ≤ 9223372036854775807 by omega, ?_⟩
        conv => whnf
        repeat (first | (refine And.intro rfl ?_; conv => whnf) | (refine And.intro (by decide) ?_; conv => whnf) | (refine draw_intro true (by kernel_rfl) ?_; conv => whnf) | (refine And.intro ⟨by omega, by omega⟩ ?_; conv => whnf) | (refine And.intro (by omega) ?_; conv => whnf) | (refine And.intro (fun _ => ⟨by omega, by omega⟩) ?_; conv => whnf) | (refine And.intro (of_decide_eq_true rfl) ?_; conv => whnf) | (refine And.intro (fun _ => ?_) (fun h => absurd h ?_); rotate_left; (focus (first | decide | (simp; done) | (simp [tcs]; done))); conv => whnf) | (refine And.intro (fun h => absurd h ?_) (fun _ => ?_); (focus (first | decide | (simp; done) | (simp [tcs]; done))); conv => whnf) | (intro _; conv => whnf))
        have ezN : ((szN (Term.mk kk hh n acc) : Nat) : Int) = 1 + szL acc := by have := szL_pos acc; unfold szN; rw [szT]; omega
        have eZ : rowN (N.map szN) ++ [[CV.int .i64 (1 + szL acc)]] = rowN ((N ++ [Term.mk kk hh n acc]).map szN) := by rw [← ezN]; simp [rowN]
        refine ⟨[(2, .ptr 5 0)], [.box [.c (.str (sB l')), .own 3, .own 4], .dead, .dead, .row 25 4 48 (tcs (N ++ [Term.mk kk hh n acc])), .row 3 1 8 (rowN ((N ++ [Term.mk kk hh n acc]).map szN)), .box [.c (.int .i64 (kk)), .c (.int .i64 (hh)), .c (.int .i64 (n)), .own 6], .frz (.sl 4 48 (tcs acc))],
          Wk.sel [0, 1, 2, 7, 9, 3, 6] (by decide) (by first | decide | (show (0 : Nat) ≤ _; decide) | (show ∀ i, i < 0 → _; decide) | (show (1 : Nat) ≤ _; decide) | (show ∀ i, i < 1 → _; decide) | (show (2 : Nat) ≤ _; decide) | (show ∀ i, i < 2 → _; decide) | (show (3 : Nat) ≤ _; decide) | (show ∀ i, i < 3 → _; decide) | (show (4 : Nat) ≤ _; decide) | (show ∀ i, i < 4 → _; decide) | (show (5 : Nat) ≤ _; decide) | (show ∀ i, i < 5 → _; decide) | (show (6 : Nat) ≤ _; decide) | (show ∀ i, i < 6 → _; decide) | (show (7 : Nat) ≤ _; decide) | (show ∀ i, i < 7 → _; decide)) (by first | decide | (show (0 : Nat) ≤ _; decide) | (show ∀ i, i < 0 → _; decide) | (show (1 : Nat) ≤ _; decide) | (show ∀ i, i < 1 → _; decide) | (show (2 : Nat) ≤ _; decide) | (show ∀ i, i < 2 → _; decide) | (show (3 : Nat) ≤ _; decide) | (show ∀ i, i < 3 → _; decide) | (show (4 : Nat) ≤ _; decide) | (show ∀ i, i < 4 → _; decide) | (show (5 : Nat) ≤ _; decide) | (show ∀ i, i < 5 → _; decide) | (show (6 : Nat) ≤ _; decide) | (show ∀ i, i < 6 → _; decide) | (show (7 : Nat) ≤ _; decide) | (show ∀ i, i < 7 → _; decide)) ⟨rfl, rfl, rfl, eRow (tcs_snoc19 N (Term.mk kk hh n acc)).symm, eRow eZ, rfl, rfl, trivial⟩ ⟨rfl, trivial⟩ rfl, ?_⟩
        conv => whnf
        repeat (first | (refine And.intro rfl ?_; conv => whnf) | (refine And.intro (by decide) ?_; conv => whnf) | (refine draw_intro true (by kernel_rfl) ?_; conv => whnf) | (refine And.intro ⟨by omega, by omega⟩ ?_; conv => whnf) | (refine And.intro (by omega) ?_; conv => whnf) | (refine And.intro (fun _ => ⟨by omega, by omega⟩) ?_; conv => whnf) | (refine And.intro (of_decide_eq_true rfl) ?_; conv => whnf) | (refine And.intro (fun _ => ?_) (fun h => absurd h ?_); rotate_left; (focus (first | decide | (simp; done) | (simp [tcs]; done))); conv => whnf) | (refine And.intro (fun h => absurd h ?_) (fun _ => ?_); (focus (first | decide | (simp; done) | (simp [tcs]; done))); conv => whnf) | (intro _; conv => whnf))
        exact ⟨_, _, rfl, rfl, rfl⟩
  · replace hk4 : kk ≠ 4 := by have := of_decide_eq_false hk4; omega
    rw [if_neg hk4] at eR
    conv => whnf
    subst hC
    refine aw_cut _ _ rfl fun C hC => ?_
    conv => whnf
    have hcn := cRdCount l1 N (N.map szN) (by omega)
    subst hC
    refine aw_cut _ _ rfl fun C hC => ?_
    conv => whnf
    try (refine draw_intro true (by kernel_rfl) ?_; conv => whnf)
    refine CallPt.use hcn [0, 1, 2] ⟨rfl, rfl, rfl, trivial⟩ (by decide) rfl ?_ ?_
    (focus (rintro x _ hx _; (conv => whnf); exact ⟨hx.1.1, by rw [eR]; unfold rdRest; rw [hx.1.2]⟩))
    rintro _ _ ⟨c, l3, hR2, rfl, rfl⟩ _
    conv => whnf
    obtain ⟨hc1, hc2⟩ := rdCount_le hR2
    have eR2 : rdNode (b :: l1) N = match rdArgs N c l3 [] with | some (us, m2) => some (.mk kk hh ((0 : Nat) : Int) us, m2) | none => none := by rw [eR]; unfold rdRest; rw [hR2]
    rw [eR2]
    clear eR eR2 hcn
    generalize hRR : rdArgs N c l3 [] = R at *
    repeat (first | (refine And.intro rfl ?_; conv => whnf) | (refine And.intro (by decide) ?_; conv => whnf) | (refine draw_intro true (by kernel_rfl) ?_; conv => whnf) | (refine And.intro ⟨by omega, by omega⟩ ?_; conv => whnf) | (refine And.intro (by omega) ?_; conv => whnf) | (refine And.intro (fun _ => ⟨by omega, by omega⟩) ?_; conv => whnf) | (refine And.intro (of_decide_eq_true rfl) ?_; conv => whnf) | (refine And.intro (fun _ => ?_) (fun h => absurd h ?_); rotate_left; (focus (first | decide | (simp; done) | (simp [tcs]; done))); conv => whnf) | (refine And.intro (fun h => absurd h ?_) (fun _ => ?_); (focus (first | decide | (simp; done) | (simp [tcs]; done))); conv => whnf) | (intro _; conv => whnf))
    refine loop_intro (fun q tm H => ∃ (j : Nat) (l' : List UInt8) (acc : List Term), c = q + j ∧ acc.length = j ∧ l'.length ≤ 1000000 ∧ 1 + szL acc ≤ 600 ∧ rdArgs N q l' acc = R ∧
        tm = [(22, .c (.int .i64 (j))), (21, .c (.int .i64 (c))), (5, .c (.int .i64 (1 + szL acc))), (4, .ptr 4 0), (2, .ptr 3 0), (0, .ptr 0 0)] ∧
        H = [.box [.c (.str (sB l')), .own 5, .own 6], .dead, .dead, .box [.c (.int .i64 (0)), .c (.int .i64 (0)), .c (.int .i64 (0)), .nil], .box [.c (.int .i64 (kk)), .c (.int .i64 (hh)), .c (.int .i64 (((0 : Nat) : Int))), .own 7], .row 25 4 48 (tcs N), .row 3 1 8 (rowN (N.map szN)), .row 25 4 48 (tcs acc)])
      c _ _ ⟨0, l3, [], by omega, rfl, by omega, by simp [szL], hRR, rfl, rfl⟩ ?_ ?_
    · refine Wk.trans (Wk.mvbox 0 1 1 25 4 48 (tcs N) rfl rfl rfl rfl) ?_
      refine Wk.trans (Wk.mvbox 0 2 2 3 1 8 (rowN (N.map szN)) rfl rfl rfl rfl) ?_
      refine Wk.trans (Wk.nilrow (i := 4) (j := 3) 25 4 48 rfl rfl rfl) ?_
      exact Wk.sel [0, 1, 2, 3, 4, 5, 6, 7] (by decide) (by first | decide | (show (0 : Nat) ≤ _; decide) | (show ∀ i, i < 0 → _; decide) | (show (1 : Nat) ≤ _; decide) | (show ∀ i, i < 1 → _; decide) | (show (2 : Nat) ≤ _; decide) | (show ∀ i, i < 2 → _; decide) | (show (3 : Nat) ≤ _; decide) | (show ∀ i, i < 3 → _; decide) | (show (4 : Nat) ≤ _; decide) | (show ∀ i, i < 4 → _; decide) | (show (5 : Nat) ≤ _; decide) | (show ∀ i, i < 5 → _; decide) | (show (6 : Nat) ≤ _; decide) | (show ∀ i, i < 6 → _; decide) | (show (7 : Nat) ≤ _; decide) | (show ∀ i, i < 7 → _; decide)) (by first | decide | (show (0 : Nat) ≤ _; decide) | (show ∀ i, i < 0 → _; decide) | (show (1 : Nat) ≤ _; decide) | (show ∀ i, i < 1 → _; decide) | (show (2 : Nat) ≤ _; decide) | (show ∀ i, i < 2 → _; decide) | (show (3 : Nat) ≤ _; decide) | (show ∀ i, i < 3 → _; decide) | (show (4 : Nat) ≤ _; decide) | (show ∀ i, i < 4 → _; decide) | (show (5 : Nat) ≤ _; decide) | (show ∀ i, i < 5 → _; decide) | (show (6 : Nat) ≤ _; decide) | (show ∀ i, i < 6 → _; decide) | (show (7 : Nat) ≤ _; decide) | (show ∀ i, i < 7 → _; decide)) ⟨rfl, rfl, rfl, rfl, rfl, rfl, rfl, rfl, trivial⟩ ⟨rfl, rfl, rfl, rfl, rfl, rfl, trivial⟩ rfl
    rintro q tm H ⟨j, l', acc, hj, hacc, hl', hsa, hRm, rfl, rfl⟩
    have hla := len_tcs acc
    have hsn := szL_pos acc
    have hb1 : ((tcs acc).length + 1) * 48 ≤ 140737488355328 := by have := szL_len acc; omega
    have hb2 : (tcs acc).length + 1 ≤ 9223372036854775807 := by have := szL_len acc; omega
    have hnm2 := cRdNumber l' N (N.map szN) hl'
    conv => whnf
    refine ⟨fun hc => ?_, fun hc => ?_⟩
    · replace hc : (j : Int) < c := of_decide_eq_true hc
      obtain ⟨q2, rfl⟩ : ∃ q2, q = q2 + 1 := ⟨q - 1, by omega⟩
      rw [rdArgs] at hRm
      cases hR1 : rdNum l' 1 0 with
      | none =>
        rw [hR1] at hRm hnm2
        conv => whnf
        refine draw_intro false (by kernel_rfl) ?_
        conv => whnf
        (refine And.intro ?_ ?_ <;> conv => whnf)
        · repeat (first | (refine And.intro rfl ?_; conv => whnf) | (refine And.intro (by decide) ?_; conv => whnf) | (refine draw_intro true (by kernel_rfl) ?_; conv => whnf) | (refine And.intro ⟨by omega, by omega⟩ ?_; conv => whnf) | (refine And.intro (by omega) ?_; conv => whnf) | (refine And.intro (fun _ => ⟨by omega, by omega⟩) ?_; conv => whnf) | (refine And.intro (of_decide_eq_true rfl) ?_; conv => whnf) | (refine And.intro (fun _ => ?_) (fun h => absurd h ?_); rotate_left; (focus (first | decide | (simp; done) | (simp [tcs]; done))); conv => whnf) | (refine And.intro (fun h => absurd h ?_) (fun _ => ?_); (focus (first | decide | (simp; done) | (simp [tcs]; done))); conv => whnf) | (intro _; conv => whnf))
          try (refine draw_intro true (by kernel_rfl) ?_; conv => whnf)
          refine CallPt.use hnm2 [0, 5, 6] ⟨rfl, rfl, rfl, trivial⟩ (by decide) rfl ?_ ?_
          (focus (rintro x _ hx _; (conv => whnf); exact ⟨hx.1.1, by rw [← hRm]⟩))
          rintro _ _ ⟨_, _, h, _⟩ _
          conv => whnf
          cases h
        · try (refine draw_intro true (by kernel_rfl) ?_; conv => whnf)
          refine CallPt.use hnm2 [0, 5, 6] ⟨rfl, rfl, rfl, trivial⟩ (by decide) rfl ?_ ?_
          (focus (rintro x _ hx _; (conv => whnf); exact ⟨hx.1.1, by rw [← hRm]⟩))
          rintro _ _ ⟨_, _, h, _⟩ _
          conv => whnf
          cases h
      | some p =>
        obtain ⟨qv, m⟩ := p
        have hql := rdNum_len _ _ _ _ _ hR1
        have hqb := rdNum_le _ _ _ _ _ (by omega) hR1
        rw [hR1] at hRm hnm2
        simp only at hRm
        have hnm3 : CallPt Try.prog 71 [.ptr 0 0] (rdH l' N (N.map szN)) (fun r H' => r = .c (.int .i64 ((qv : Nat))) ∧ H' = rdH m N (N.map szN)) (fun x H' => (x = trb ∧ some (qv, m) = none) ∧ H' = dead3) := by
          refine CallPt.mono hnm2 ?_ (fun _ _ h => h)
          rintro r H' ⟨n', m', h, rfl, rfl⟩
          injection h with h
          injection h with h1 h2
          subst h1 h2
          exact ⟨rfl, rfl⟩
        clear hnm2
        conv => whnf
        refine draw_wk [(6, .c (.int .i64 (((tcs N).length : Int) - 1 - (qv : Int)))), (22, .c (.int .i64 (j))), (21, .c (.int .i64 (c))), (5, .c (.int .i64 (1 + szL acc))), (4, .ptr 4 0), (2, .ptr 3 0), (0, .ptr 0 0)]
          [.box [.c (.str (sB m)), .own 5, .own 6], .dead, .dead, .box [.c (.int .i64 (0)), .c (.int .i64 (0)), .c (.int .i64 (0)), .nil], .box [.c (.int .i64 (kk)), .c (.int .i64 (hh)), .c (.int .i64 (((0 : Nat) : Int))), .own 7], .row 25 4 48 (tcs N), .row 3 1 8 (rowN (N.map szN)), .row 25 4 48 (tcs acc)] ?_ ?_
        · refine draw_intro false (by kernel_rfl) ?_
          conv => whnf
          (refine And.intro ?_ ?_ <;> conv => whnf)
          · repeat (first | (refine And.intro rfl ?_; conv => whnf) | (refine And.intro (by decide) ?_; conv => whnf) | (refine draw_intro true (by kernel_rfl) ?_; conv => whnf) | (refine And.intro ⟨by omega, by omega⟩ ?_; conv => whnf) | (refine And.intro (by omega) ?_; conv => whnf) | (refine And.intro (fun _ => ⟨by omega, by omega⟩) ?_; conv => whnf) | (refine And.intro (of_decide_eq_true rfl) ?_; conv => whnf) | (refine And.intro (fun _ => ?_) (fun h => absurd h ?_); rotate_left; (focus (first | decide | (simp; done) | (simp [tcs]; done))); conv => whnf) | (refine And.intro (fun h => absurd h ?_) (fun _ => ?_); (focus (first | decide | (simp; done) | (simp [tcs]; done))); conv => whnf) | (intro _; conv => whnf))
            try (refine draw_intro true (by kernel_rfl) ?_; conv => whnf)
            refine CallPt.use hnm3 [0, 5, 6] ⟨rfl, rfl, rfl, trivial⟩ (by decide) rfl ?_ ?_
            (focus (rintro x _ hx _; (conv => whnf); exact absurd hx.1.2 (by simp)))
            rintro _ _ ⟨rfl, rfl⟩ _
            conv => whnf
            repeat (first | (refine And.intro rfl ?_; conv => whnf) | (refine And.intro (by decide) ?_; conv => whnf) | (refine draw_intro true (by kernel_rfl) ?_; conv => whnf) | (refine And.intro ⟨by omega, by omega⟩ ?_; conv => whnf) | (refine And.intro (by omega) ?_; conv => whnf) | (refine And.intro (fun _ => ⟨by omega, by omega⟩) ?_; conv => whnf) | (refine And.intro (of_decide_eq_true rfl) ?_; conv => whnf) | (refine And.intro (fun _ => ?_) (fun h => absurd h ?_); rotate_left; (focus (first | decide | (simp; done) | (simp [tcs]; done))); conv => whnf) | (refine And.intro (fun h => absurd h ?_) (fun _ => ?_); (focus (first | decide | (simp; done) | (simp [tcs]; done))); conv => whnf) | (intro _; conv => whnf))
            exact Wk.sel [0, 1, 2, 3, 4, 5, 6, 7] (by decide) (by first | decide | (show (0 : Nat) ≤ _; decide) | (show ∀ i, i < 0 → _; decide) | (show (1 : Nat) ≤ _; decide) | (show ∀ i, i < 1 → _; decide) | (show (2 : Nat) ≤ _; decide) | (show ∀ i, i < 2 → _; decide) | (show (3 : Nat) ≤ _; decide) | (show ∀ i, i < 3 → _; decide) | (show (4 : Nat) ≤ _; decide) | (show ∀ i, i < 4 → _; decide) | (show (5 : Nat) ≤ _; decide) | (show ∀ i, i < 5 → _; decide) | (show (6 : Nat) ≤ _; decide) | (show ∀ i, i < 6 → _; decide) | (show (7 : Nat) ≤ _; decide) | (show ∀ i, i < 7 → _; decide)) (by first | decide | (show (0 : Nat) ≤ _; decide) | (show ∀ i, i < 0 → _; decide) | (show (1 : Nat) ≤ _; decide) | (show ∀ i, i < 1 → _; decide) | (show (2 : Nat) ≤ _; decide) | (show ∀ i, i < 2 → _; decide) | (show (3 : Nat) ≤ _; decide) | (show ∀ i, i < 3 → _; decide) | (show (4 : Nat) ≤ _; decide) | (show ∀ i, i < 4 → _; decide) | (show (5 : Nat) ≤ _; decide) | (show ∀ i, i < 5 → _; decide) | (show (6 : Nat) ≤ _; decide) | (show ∀ i, i < 6 → _; decide) | (show (7 : Nat) ≤ _; decide) | (show ∀ i, i < 7 → _; decide)) ⟨rfl, rfl, rfl, rfl, rfl, rfl, rfl, rfl, trivial⟩ ⟨rfl, rfl, rfl, rfl, rfl, rfl, rfl, trivial⟩ rfl
          · try (refine draw_intro true (by kernel_rfl) ?_; conv => whnf)
            refine CallPt.use hnm3 [0, 5, 6] ⟨rfl, rfl, rfl, trivial⟩ (by decide) rfl ?_ ?_
            (focus (rintro x _ hx _; (conv => whnf); exact absurd hx.1.2 (by simp)))
            rintro _ _ ⟨rfl, rfl⟩ _
            conv => whnf
            repeat (first | (refine And.intro rfl ?_; conv => whnf) | (refine And.intro (by decide) ?_; conv => whnf) | (refine draw_intro true (by kernel_rfl) ?_; conv => whnf) | (refine And.intro ⟨by omega, by omega⟩ ?_; conv => whnf) | (refine And.intro (by omega) ?_; conv => whnf) | (refine And.intro (fun _ => ⟨by omega, by omega⟩) ?_; conv => whnf) | (refine And.intro (of_decide_eq_true rfl) ?_; conv => whnf) | (refine And.intro (fun _ => ?_) (fun h => absurd h ?_); rotate_left; (focus (first | decide | (simp; done) | (simp [tcs]; done))); conv => whnf) | (refine And.intro (fun h => absurd h ?_) (fun _ => ?_); (focus (first | decide | (simp; done) | (simp [tcs]; done))); conv => whnf) | (intro _; conv => whnf))
            exact Wk.sel [0, 1, 2, 3, 4, 5, 6, 7] (by decide) (by first | decide | (show (0 : Nat) ≤ _; decide) | (show ∀ i, i < 0 → _; decide) | (show (1 : Nat) ≤ _; decide) | (show ∀ i, i < 1 → _; decide) | (show (2 : Nat) ≤ _; decide) | (show ∀ i, i < 2 → _; decide) | (show (3 : Nat) ≤ _; decide) | (show ∀ i, i < 3 → _; decide) | (show (4 : Nat) ≤ _; decide) | (show ∀ i, i < 4 → _; decide) | (show (5 : Nat) ≤ _; decide) | (show ∀ i, i < 5 → _; decide) | (show (6 : Nat) ≤ _; decide) | (show ∀ i, i < 6 → _; decide) | (show (7 : Nat) ≤ _; decide) | (show ∀ i, i < 7 → _; decide)) (by first | decide | (show (0 : Nat) ≤ _; decide) | (show ∀ i, i < 0 → _; decide) | (show (1 : Nat) ≤ _; decide) | (show ∀ i, i < 1 → _; decide) | (show (2 : Nat) ≤ _; decide) | (show ∀ i, i < 2 → _; decide) | (show (3 : Nat) ≤ _; decide) | (show ∀ i, i < 3 → _; decide) | (show (4 : Nat) ≤ _; decide) | (show ∀ i, i < 4 → _; decide) | (show (5 : Nat) ≤ _; decide) | (show ∀ i, i < 5 → _; decide) | (show (6 : Nat) ≤ _; decide) | (show ∀ i, i < 6 → _; decide) | (show (7 : Nat) ≤ _; decide) | (show ∀ i, i < 7 → _; decide)) ⟨rfl, rfl, rfl, rfl, rfl, rfl, rfl, rfl, trivial⟩ ⟨rfl, rfl, rfl, rfl, rfl, rfl, rfl, trivial⟩ rfl
        · have hd := cDemand (decide (0 ≤ ((tcs N).length : Int) - 1 - (qv : Int)))
          conv => whnf
          by_cases hqn : qv < N.length
          · obtain ⟨u, hu⟩ : ∃ u, N[N.length - 1 - qv]? = some u := ⟨N[N.length - 1 - qv]'(by omega), List.getElem?_eq_getElem (by omega)⟩
            have hum := List.mem_of_getElem? hu
            have hus := hN u hum
            have hup := szT_pos u
            have hzn : ((szN u : Nat) : Int) = szT u := by unfold szN; omega
            have hkt : (((tcs N).length : Int) - 1 - (qv : Int)).toNat = N.length - 1 - qv := by omega
            have hkz : (rowN (N.map szN))[(((tcs N).length : Int) - 1 - (qv : Int)).toNat]? = some [.int .i64 ((szN u : Nat) : Int)] := by rw [hkt]; simp [rowN, hu]
            have hkc : (tcs N)[(((tcs N).length : Int) - 1 - (qv : Int)).toNat]? = some (tc u) := by rw [hkt]; exact tcs_at N _ u hu
            have hzl : (rowN (N.map szN)).length = N.length := by simp [rowN]
            have hsl : szL (acc ++ [u]) = szL acc + szT u := by rw [szL_append]; simp [szL]
            rw [if_pos hqn, hu] at hRm
            simp only at hRm
            rw [decide_eq_true (show 0 ≤ ((tcs N).length : Int) - 1 - (qv : Int) by omega)] at hd ⊢
            try (refine draw_intro true (by kernel_rfl) ?_; conv => whnf)
            refine CallPt.use hd [] trivial (by decide) rfl ?_ ?_
            (focus (rintro x _ hx _; (conv => whnf); exact absurd hx.1.2 (by simp)))
            rintro _ _ ⟨_, rfl, rfl⟩ _
            conv => whnf
            refine ⟨⟨by omega, by omega⟩, ?_⟩
            conv => whnf
            refine ⟨[.int .i64 ((szN u : Nat) : Int)], hkz, show 0 + 1 ≤ 1 by decide, ?_⟩
            conv => whnf
            refine ⟨⟨by omega, by omega⟩, ?_⟩
            conv => whnf
            have hd2 := cDemand (decide ((1 + szL acc + ((szN u : Nat) : Int)) ≤ 600))
            by_cases hs6 : 1 + szL (acc ++ [u]) ≤ 600
            · rw [if_pos hs6] at hRm
              rw [decide_eq_true (show (1 + szL acc + ((szN u : Nat) : Int)) ≤ 600 by omega)] at hd2 ⊢
              try (refine draw_intro true (by kernel_rfl) ?_; conv => whnf)
              refine CallPt.use hd2 [] trivial (by decide) rfl ?_ ?_
              (focus (rintro x _ hx _; (conv => whnf); exact absurd hx.1.2 (by simp)))
              rintro _ _ ⟨_, rfl, rfl⟩ _
              conv => whnf
              have es : 1 + szL acc + ((szN u : Nat) : Int) = 1 + szL (acc ++ [u]) := by omega
              rw [es]
              have hst : tcs (acc ++ [u]) = tcs acc ++ [tc u] := tcs_snoc19 acc u
              obtain ⟨k', l2', n', us⟩ := u
              replace hkc : (tcs N)[(((tcs N).length : Int) - 1 - (qv : Int)).toNat]? = some [.int .i64 k', .int .i64 l2', .int .i64 n', .sl 4 48 (tcs us)] := hkc
              refine draw_intro true (by kernel_rfl) ?_
              conv => whnf
              refine ⟨⟨by omega, by omega⟩, ?_⟩
              conv => whnf
              refine ⟨[.int .i64 k', .int .i64 l2', .int .i64 n', .sl 4 48 (tcs us)], hkc, show 0 + 4 ≤ 4 by decide, ?_⟩
              conv => whnf
              repeat (first | (refine And.intro rfl ?_; conv => whnf) | (refine And.intro (by decide) ?_; conv => whnf) | (refine draw_intro true (by kernel_rfl) ?_; conv => whnf) | (refine And.intro ⟨by omega, by omega⟩ ?_; conv => whnf) | (refine And.intro (by omega) ?_; conv => whnf) | (refine And.intro (fun _ => ⟨by omega, by omega⟩) ?_; conv => whnf) | (refine And.intro (of_decide_eq_true rfl) ?_; conv => whnf) | (refine And.intro (fun _ => ?_) (fun h => absurd h ?_); rotate_left; (focus (first | decide | (simp; done) | (simp [tcs]; done))); conv => whnf) | (refine And.intro (fun h => absurd h ?_) (fun _ => ?_); (focus (first | decide | (simp; done) | (simp [tcs]; done))); conv => whnf) | (intro _; conv => whnf))
              refine ⟨q2, _, _, by omega, ⟨j + 1, m, acc ++ [.mk k' l2' n' us], by omega, by simp [hacc], by omega, hs6, hRm, rfl, rfl⟩, Wk.sel [0, 1, 2, 3, 4, 5, 6, 9] (by decide) (by first | decide | (show (0 : Nat) ≤ _; decide) | (show ∀ i, i < 0 → _; decide) | (show (1 : Nat) ≤ _; decide) | (show ∀ i, i < 1 → _; decide) | (show (2 : Nat) ≤ _; decide) | (show ∀ i, i < 2 → _; decide) | (show (3 : Nat) ≤ _; decide) | (show ∀ i, i < 3 → _; decide) | (show (4 : Nat) ≤ _; decide) | (show ∀ i, i < 4 → _; decide) | (show (5 : Nat) ≤ _; decide) | (show ∀ i, i < 5 → _; decide) | (show (6 : Nat) ≤ _; decide) | (show ∀ i, i < 6 → _; decide) | (show (7 : Nat) ≤ _; decide) | (show ∀ i, i < 7 → _; decide)) (by first | decide | (show (0 : Nat) ≤ _; decide) | (show ∀ i, i < 0 → _; decide) | (show (1 : Nat) ≤ _; decide) | (show ∀ i, i < 1 → _; decide) | (show (2 : Nat) ≤ _; decide) | (show ∀ i, i < 2 → _; decide) | (show (3 : Nat) ≤ _; decide) | (show ∀ i, i < 3 → _; decide) | (show (4 : Nat) ≤ _; decide) | (show ∀ i, i < 4 → _; decide) | (show (5 : Nat) ≤ _; decide) | (show ∀ i, i < 5 → _; decide) | (show (6 : Nat) ≤ _; decide) | (show ∀ i, i < 6 → _; decide) | (show (7 : Nat) ≤ _; decide) | (show ∀ i, i < 7 → _; decide)) ⟨rfl, rfl, rfl, rfl, rfl, rfl, rfl, ?_, trivial⟩ ⟨rfl, rfl, rfl, rfl, rfl, rfl, trivial⟩ rfl⟩
              rw [hst]
              rfl
            · rw [if_neg hs6] at hRm
              rw [decide_eq_false (show ¬ (1 + szL acc + ((szN u : Nat) : Int)) ≤ 600 by omega)] at hd2 ⊢
              try (refine draw_intro true (by kernel_rfl) ?_; conv => whnf)
              refine CallPt.use hd2 [] trivial (by decide) rfl ?_ ?_
              (focus (rintro x _ hx _; (conv => whnf); exact ⟨hx.1.1, by rw [← hRm]⟩))
              rintro _ _ ⟨h, _⟩ _
              conv => whnf
              cases h
          · rw [if_neg hqn] at hRm
            rw [decide_eq_false (show ¬ 0 ≤ ((tcs N).length : Int) - 1 - (qv : Int) by omega)] at hd ⊢
            try (refine draw_intro true (by kernel_rfl) ?_; conv => whnf)
            refine CallPt.use hd [] trivial (by decide) rfl ?_ ?_
            (focus (rintro x _ hx _; (conv => whnf); exact ⟨hx.1.1, by rw [← hRm]⟩))
            rintro _ _ ⟨h, _⟩ _
            conv => whnf
            cases h
    · replace hc : ¬ (j : Int) < c := of_decide_eq_false hc
      obtain rfl : q = 0 := by omega
      rw [rdArgs] at hRm
      subst hRm
      conv => whnf
      subst hC
      conv => whnf
      refine draw_wk [(5, .c (.int .i64 (1 + szL acc))), (4, .ptr 4 0), (2, .ptr 3 0), (0, .ptr 0 0)]
        [.box [.c (.str (sB l')), .own 7, .own 5], .dead, .dead, .box [.c (.int .i64 (0)), .c (.int .i64 (0)), .c (.int .i64 (0)), .nil], .box [.c (.int .i64 (kk)), .c (.int .i64 (hh)), .c (.int .i64 (((0 : Nat) : Int))), .own 6], .row 3 1 8 (rowN (N.map szN)), .frz (.sl 4 48 (tcs acc)), .row 25 4 48 (tcs N ++ [[.int .i64 kk, .int .i64 hh, .int .i64 ((0 : Nat) : Int), .sl 4 48 (tcs acc)]])] ?_ ?_
      · refine draw_intro true (by kernel_rfl) ?_
        conv => whnf
        repeat (first | (refine And.intro rfl ?_; conv => whnf) | (refine And.intro (by decide) ?_; conv => whnf) | (refine And.intro ⟨by omega, by omega⟩ ?_; conv => whnf) | (refine And.intro (by omega) ?_; conv => whnf) | (refine And.intro (fun _ => ⟨by omega, by omega⟩) ?_; conv => whnf) | (refine And.intro (of_decide_eq_true rfl) ?_; conv => whnf) | (refine And.intro (fun _ => ?_) (fun h => absurd h ?_); rotate_left; (focus (first | decide | (simp; done) | (simp [tcs]; done))); conv => whnf) | (refine And.intro (fun h => absurd h ?_) (fun _ => ?_); (focus (first | decide | (simp; done) | (simp [tcs]; done))); conv => whnf))
        intro hlenN
        conv => whnf
        repeat (first | (refine And.intro rfl ?_; conv => whnf) | (refine And.intro (by decide) ?_; conv => whnf) | (refine And.intro ⟨by omega, by omega⟩ ?_; conv => whnf) | (refine And.intro (by omega) ?_; conv => whnf) | (refine And.intro (fun _ => ⟨by omega, by omega⟩) ?_; conv => whnf) | (refine And.intro (of_decide_eq_true rfl) ?_; conv => whnf) | (refine And.intro (fun _ => ?_) (fun h => absurd h ?_); rotate_left; (focus (first | decide | (simp; done) | (simp [tcs]; done))); conv => whnf) | (refine And.intro (fun h => absurd h ?_) (fun _ => ?_); (focus (first | decide | (simp; done) | (simp [tcs]; done))); conv => whnf))
        refine ⟨show ((tcs N).length + 1) * 48 ≤ 140737488355328 by omega, show (tcs N).length + 1 ≤ 9223372036854775807 by omega, ?_⟩
        conv => whnf
        repeat (first | (refine And.intro rfl ?_; conv => whnf) | (refine And.intro (by decide) ?_; conv => whnf) | (refine And.intro ⟨by omega, by omega⟩ ?_; conv => whnf) | (refine And.intro (by omega) ?_; conv => whnf) | (refine And.intro (fun _ => ⟨by omega, by omega⟩) ?_; conv => whnf) | (refine And.intro (of_decide_eq_true rfl) ?_; conv => whnf) | (refine And.intro (fun _ => ?_) (fun h => absurd h ?_); rotate_left; (focus (first | decide | (simp; done) | (simp [tcs]; done))); conv => whnf) | (refine And.intro (fun h => absurd h ?_) (fun _ => ?_); (focus (first | decide | (simp; done) | (simp [tcs]; done))); conv => whnf))
        have hix : ((tcs N).length : Int).toNat = (tcs N).length := by omega
        have hapl : ∀ z : List CV, (tcs N).length < (tcs N ++ [z]).length := fun z => by simp
        refine ⟨⟨by omega, by rw [hix]; exact hapl _⟩, ?_⟩
        conv => whnf
        repeat (first | (refine And.intro rfl ?_; conv => whnf) | (refine And.intro (by decide) ?_; conv => whnf) | (refine And.intro ⟨by omega, by omega⟩ ?_; conv => whnf) | (refine And.intro (by omega) ?_; conv => whnf) | (refine And.intro (fun _ => ⟨by omega, by omega⟩) ?_; conv => whnf) | (refine And.intro (of_decide_eq_true rfl) ?_; conv => whnf) | (refine And.intro (fun _ => ?_) (fun h => absurd h ?_); rotate_left; (focus (first | decide | (simp; done) | (simp [tcs]; done))); conv => whnf) | (refine And.intro (fun h => absurd h ?_) (fun _ => ?_); (focus (first | decide | (simp; done) | (simp [tcs]; done))); conv => whnf))
        have hget : ∀ z : List CV, (tcs N ++ [z])[((tcs N).length : Int).toNat]? = some z := fun z => by rw [hix]; simp
        have hset : ∀ z x : List CV, (tcs N ++ [z]).set ((tcs N).length : Int).toNat x = tcs N ++ [x] := fun z x => by rw [hix]; simp
        refine ⟨?_, ?_⟩
        · conv => whnf
          repeat (first | (refine And.intro rfl ?_; conv => whnf) | (refine And.intro (by decide) ?_; conv => whnf) | (refine And.intro ⟨by omega, by omega⟩ ?_; conv => whnf) | (refine And.intro (by omega) ?_; conv => whnf) | (refine And.intro (fun _ => ⟨by omega, by omega⟩) ?_; conv => whnf) | (refine And.intro (of_decide_eq_true rfl) ?_; conv => whnf) | (refine And.intro (fun _ => ?_) (fun h => absurd h ?_); rotate_left; (focus (first | decide | (simp; done) | (simp [tcs]; done))); conv => whnf) | (refine And.intro (fun h => absurd h ?_) (fun _ => ?_); (focus (first | decide | (simp; done) | (simp [tcs]; done))); conv => whnf))
          refine ⟨_, hget _, show 0 + 4 ≤ 4 by decide, ?_⟩
          conv => whnf
          repeat (first | (refine And.intro rfl ?_; conv => whnf) | (refine And.intro (by decide) ?_; conv => whnf) | (refine And.intro ⟨by omega, by omega⟩ ?_; conv => whnf) | (refine And.intro (by omega) ?_; conv => whnf) | (refine And.intro (fun _ => ⟨by omega, by omega⟩) ?_; conv => whnf) | (refine And.intro (of_decide_eq_true rfl) ?_; conv => whnf) | (refine And.intro (fun _ => ?_) (fun h => absurd h ?_); rotate_left; (focus (first | decide | (simp; done) | (simp [tcs]; done))); conv => whnf) | (refine And.intro (fun h => absurd h ?_) (fun _ => ?_); (focus (first | decide | (simp; done) | (simp [tcs]; done))); conv => whnf))
          exact Wk.sel [0, 1, 2, 3, 4, 6, 7, 9] (by decide) (by first | decide | (show (0 : Nat) ≤ _; decide) | (show ∀ i, i < 0 → _; decide) | (show (1 : Nat) ≤ _; decide) | (show ∀ i, i < 1 → _; decide) | (show (2 : Nat) ≤ _; decide) | (show ∀ i, i < 2 → _; decide) | (show (3 : Nat) ≤ _; decide) | (show ∀ i, i < 3 → _; decide) | (show (4 : Nat) ≤ _; decide) | (show ∀ i, i < 4 → _; decide) | (show (5 : Nat) ≤ _; decide) | (show ∀ i, i < 5 → _; decide) | (show (6 : Nat) ≤ _; decide) | (show ∀ i, i < 6 → _; decide) | (show (7 : Nat) ≤ _; decide) | (show ∀ i, i < 7 → _; decide)) (by first | decide | (show (0 : Nat) ≤ _; decide) | (show ∀ i, i < 0 → _; decide) | (show (1 : Nat) ≤ _; decide) | (show ∀ i, i < 1 → _; decide) | (show (2 : Nat) ≤ _; decide) | (show ∀ i, i < 2 → _; decide) | (show (3 : Nat) ≤ _; decide) | (show ∀ i, i < 3 → _; decide) | (show (4 : Nat) ≤ _; decide) | (show ∀ i, i < 4 → _; decide) | (show (5 : Nat) ≤ _; decide) | (show ∀ i, i < 5 → _; decide) | (show (6 : Nat) ≤ _; decide) | (show ∀ i, i < 6 → _; decide) | (show (7 : Nat) ≤ _; decide) | (show ∀ i, i < 7 → _; decide)) ⟨rfl, rfl, rfl, rfl, rfl, rfl, rfl, eRow (hset _ _), trivial⟩ ⟨rfl, rfl, rfl, rfl, trivial⟩ rfl
        · conv => whnf
          repeat (first | (refine And.intro rfl ?_; conv => whnf) | (refine And.intro (by decide) ?_; conv => whnf) | (refine And.intro ⟨by omega, by omega⟩ ?_; conv => whnf) | (refine And.intro (by omega) ?_; conv => whnf) | (refine And.intro (fun _ => ⟨by omega, by omega⟩) ?_; conv => whnf) | (refine And.intro (of_decide_eq_true rfl) ?_; conv => whnf) | (refine And.intro (fun _ => ?_) (fun h => absurd h ?_); rotate_left; (focus (first | decide | (simp; done) | (simp [tcs]; done))); conv => whnf) | (refine And.intro (fun h => absurd h ?_) (fun _ => ?_); (focus (first | decide | (simp; done) | (simp [tcs]; done))); conv => whnf))
          refine ⟨_, hget _, show 0 + 4 ≤ 4 by decide, ?_⟩
          conv => whnf
          repeat (first | (refine And.intro rfl ?_; conv => whnf) | (refine And.intro (by decide) ?_; conv => whnf) | (refine And.intro ⟨by omega, by omega⟩ ?_; conv => whnf) | (refine And.intro (by omega) ?_; conv => whnf) | (refine And.intro (fun _ => ⟨by omega, by omega⟩) ?_; conv => whnf) | (refine And.intro (of_decide_eq_true rfl) ?_; conv => whnf) | (refine And.intro (fun _ => ?_) (fun h => absurd h ?_); rotate_left; (focus (first | decide | (simp; done) | (simp [tcs]; done))); conv => whnf) | (refine And.intro (fun h => absurd h ?_) (fun _ => ?_); (focus (first | decide | (simp; done) | (simp [tcs]; done))); conv => whnf))
          exact Wk.sel [0, 1, 2, 3, 4, 6, 7, 9] (by decide) (by first | decide | (show (0 : Nat) ≤ _; decide) | (show ∀ i, i < 0 → _; decide) | (show (1 : Nat) ≤ _; decide) | (show ∀ i, i < 1 → _; decide) | (show (2 : Nat) ≤ _; decide) | (show ∀ i, i < 2 → _; decide) | (show (3 : Nat) ≤ _; decide) | (show ∀ i, i < 3 → _; decide) | (show (4 : Nat) ≤ _; decide) | (show ∀ i, i < 4 → _; decide) | (show (5 : Nat) ≤ _; decide) | (show ∀ i, i < 5 → _; decide) | (show (6 : Nat) ≤ _; decide) | (show ∀ i, i < 6 → _; decide) | (show (7 : Nat) ≤ _; decide) | (show ∀ i, i < 7 → _; decide)) (by first | decide | (show (0 : Nat) ≤ _; decide) | (show ∀ i, i < 0 → _; decide) | (show (1 : Nat) ≤ _; decide) | (show ∀ i, i < 1 → _; decide) | (show (2 : Nat) ≤ _; decide) | (show ∀ i, i < 2 → _; decide) | (show (3 : Nat) ≤ _; decide) | (show ∀ i, i < 3 → _; decide) | (show (4 : Nat) ≤ _; decide) | (show ∀ i, i < 4 → _; decide) | (show (5 : Nat) ≤ _; decide) | (show ∀ i, i < 5 → _; decide) | (show (6 : Nat) ≤ _; decide) | (show ∀ i, i < 6 → _; decide) | (show (7 : Nat) ≤ _; decide) | (show ∀ i, i < 7 → _; decide)) ⟨rfl, rfl, rfl, rfl, rfl, rfl, rfl, eRow (hset _ _), trivial⟩ ⟨rfl, rfl, rfl, rfl, trivial⟩ rfl
      · have hzl : (rowN (N.map szN)).length = N.length := by simp [rowN]
        conv => whnf
        repeat (first | (refine And.intro rfl ?_; conv => whnf) | (refine And.intro (by decide) ?_; conv => whnf) | (refine draw_intro true (by kernel_rfl) ?_; conv => whnf) | (refine And.intro ⟨by omega, by omega⟩ ?_; conv => whnf) | (refine And.intro (by omega) ?_; conv => whnf) | (refine And.intro (fun _ => ⟨by omega, by omega⟩) ?_; conv => whnf) | (refine And.intro (of_decide_eq_true rfl) ?_; conv => whnf) | (refine And.intro (fun _ => ?_) (fun h => absurd h ?_); rotate_left; (focus (first | decide | (simp; done) | (simp [tcs]; done))); conv => whnf) | (refine And.intro (fun h => absurd h ?_) (fun _ => ?_); (focus (first | decide | (simp; done) | (simp [tcs]; done))); conv => whnf) | (intro _; conv => whnf))
        refine ⟨show ((rowN (N.map szN)).length + 1) * 8 ≤ 140737488355328 by omega, show (rowN (N.map szN)).length + 1 ≤ 9223372036854775807 by omega, ?_⟩
        conv => whnf
        repeat (first | (refine And.intro rfl ?_; conv => whnf) | (refine And.intro (by decide) ?_; conv => whnf) | (refine draw_intro true (by kernel_rfl) ?_; conv => whnf) | (refine And.intro ⟨by omega, by omega⟩ ?_; conv => whnf) | (refine And.intro (by omega) ?_; conv => whnf) | (refine And.intro (fun _ => ⟨by omega, by omega⟩) ?_; conv => whnf) | (refine And.intro (of_decide_eq_true rfl) ?_; conv => whnf) | (refine And.intro (fun _ => ?_) (fun h => absurd h ?_); rotate_left; (focus (first | decide | (simp; done) | (simp [tcs]; done))); conv => whnf) | (refine And.intro (fun h => absurd h ?_) (fun _ => ?_); (focus (first | decide | (simp; done) | (simp [tcs]; done))); conv => whnf) | (intro _; conv => whnf))
        have ezN : ((szN (Term.mk kk hh ((0 : Nat) : Int) acc) : Nat) : Int) = 1 + szL acc := by have := szL_pos acc; unfold szN; rw [szT]; omega
        have eZ : rowN (N.map szN) ++ [[CV.int .i64 (1 + szL acc)]] = rowN ((N ++ [Term.mk kk hh ((0 : Nat) : Int) acc]).map szN) := by rw [← ezN]; simp [rowN]
        refine ⟨[(2, .ptr 5 0)], [.box [.c (.str (sB l')), .own 3, .own 4], .dead, .dead, .row 25 4 48 (tcs (N ++ [Term.mk kk hh ((0 : Nat) : Int) acc])), .row 3 1 8 (rowN ((N ++ [Term.mk kk hh ((0 : Nat) : Int) acc]).map szN)), .box [.c (.int .i64 (kk)), .c (.int .i64 (hh)), .c (.int .i64 (((0 : Nat) : Int))), .own 6], .frz (.sl 4 48 (tcs acc))],
          Wk.sel [0, 1, 2, 7, 9, 3, 6] (by decide) (by first | decide | (show (0 : Nat) ≤ _; decide) | (show ∀ i, i < 0 → _; decide) | (show (1 : Nat) ≤ _; decide) | (show ∀ i, i < 1 → _; decide) | (show (2 : Nat) ≤ _; decide) | (show ∀ i, i < 2 → _; decide) | (show (3 : Nat) ≤ _; decide) | (show ∀ i, i < 3 → _; decide) | (show (4 : Nat) ≤ _; decide) | (show ∀ i, i < 4 → _; decide) | (show (5 : Nat) ≤ _; decide) | (show ∀ i, i < 5 → _; decide) | (show (6 : Nat) ≤ _; decide) | (show ∀ i, i < 6 → _; decide) | (show (7 : Nat) ≤ _; decide) | (show ∀ i, i < 7 → _; decide)) (by first | decide | (show (0 : Nat) ≤ _; decide) | (show ∀ i, i < 0 → _; decide) | (show (1 : Nat) ≤ _; decide) | (show ∀ i, i < 1 → _; decide) | (show (2 : Nat) ≤ _; decide) | (show ∀ i, i < 2 → _; decide) | (show (3 : Nat) ≤ _; decide) | (show ∀ i, i < 3 → _; decide) | (show (4 : Nat) ≤ _; decide) | (show ∀ i, i < 4 → _; decide) | (show (5 : Nat) ≤ _; decide) | (show ∀ i, i < 5 → _; decide) | (show (6 : Nat) ≤ _; decide) | (show ∀ i, i < 6 → _; decide) | (show (7 : Nat) ≤ _; decide) | (show ∀ i, i < 7 → _; decide)) ⟨rfl, rfl, rfl, eRow (tcs_snoc19 N (Term.mk kk hh ((0 : Nat) : Int) acc)).symm, eRow eZ, rfl, rfl, trivial⟩ ⟨rfl, trivial⟩ rfl, ?_⟩
        conv => whnf
        repeat (first | (refine And.intro rfl ?_; conv => whnf) | (refine And.intro (by decide) ?_; conv => whnf) | (refine draw_intro true (by kernel_rfl) ?_; conv => whnf) | (refine And.intro ⟨by omega, by omega⟩ ?_; conv => whnf) | (refine And.intro (by omega) ?_; conv => whnf) | (refine And.intro (fun _ => ⟨by omega, by omega⟩) ?_; conv => whnf) | (refine And.intro (of_decide_eq_true rfl) ?_; conv => whnf) | (refine And.intro (fun _ => ?_) (fun h => absurd h ?_); rotate_left; (focus (first | decide | (simp; done) | (simp [tcs]; done))); conv => whnf) | (refine And.intro (fun h => absurd h ?_) (fun _ => ?_); (focus (first | decide | (simp; done) | (simp [tcs]; done))); conv => whnf) | (intro _; conv => whnf))
        exact ⟨_, _, rfl, rfl, rfl⟩
end Go.Tr
/- cert: the nodes that are read. -/
namespace Go.Tr
open Go.Proofs
def rdNs : Nat → List UInt8 → List Term → Option (List Term × List UInt8)
  | 0, l, N => some (N, l)
  | n + 1, l, N => match rdNode l N with
    | some (t, m) => rdNs n m (N ++ [t])
    | none => none
/-- The nodes that are read. -/
def rdNodes (l : List UInt8) (N : List Term) : Option (List Term × List UInt8) := match rdCount l with
  | some (n, m) => rdNs n m N
  | none => none
theorem rdArgs_le {N : List Term} : ∀ (c : Nat) (l : List UInt8) (acc us : List Term) (m : List UInt8), rdArgs N c l acc = some (us, m) → 1 + szL acc ≤ 600 → m.length ≤ l.length ∧ 1 + szL us ≤ 600
  | 0, l, acc, us, m, h, hs => by
    rw [rdArgs] at h
    injection h with h
    injection h with h1 h2
    subst h1 h2
    exact ⟨Nat.le_refl _, hs⟩
  | c + 1, l, acc, us, m, h, hs => by
    rw [rdArgs] at h
    split at h
    · rename_i q m1 h1
      have g1 := rdNum_len _ _ _ _ _ h1
      split at h
      · split at h
        · rename_i hs2
          have := rdArgs_le c _ _ _ _ h hs2
          exact ⟨by omega, this.2⟩
        · cases h
      · cases h
    · cases h
theorem rdRest_le {k h n : Nat} {l m : List UInt8} {N : List Term} {t : Term} (e : rdRest k h n l N = some (t, m)) : m.length ≤ l.length ∧ szT t ≤ 600 := by
  unfold rdRest at e
  split at e
  · rename_i c m1 h1
    have g1 := rdCount_le h1
    split at e
    · rename_i us m2 h2
      have g2 := rdArgs_le _ _ _ _ _ h2 (by simp [szL])
      injection e with e
      injection e with e1 e2
      subst e1 e2
      rw [szT]
      exact ⟨by omega, g2.2⟩
    · cases e
  · cases e
theorem rdNode_le {l m : List UInt8} {N : List Term} {t : Term} (e : rdNode l N = some (t, m)) : m.length < l.length ∧ szT t ≤ 600 := by
  unfold rdNode at e
  split at e
  · cases e
  · rename_i b l1
    rw [List.length_cons]
    split at e
    · split at e
      · rename_i n l2 h1
        have g1 := rdNum_len _ _ _ _ _ h1
        have g2 := rdRest_le e
        exact ⟨by omega, g2.2⟩
      · cases e
    · have g2 := rdRest_le e
      exact ⟨by omega, g2.2⟩
theorem cReadNodes (l : List UInt8) (N0 : List Term) (hl : l.length ≤ 400000) (hN0 : ∀ t ∈ N0, szT t ≤ 600) (hNl : N0.length ≤ 400000) :
    CallPt Try.prog 54 [.ptr 0 0, .bd 55 [.ptr 0 0]] (rdH l N0 (N0.map szN))
    (fun r H' => ∃ N m ts, rdNodes l N0 = some (N, m) ∧ r = .own 5 ∧ H' = [.box [.c (.str (sB m)), .own 3, .own 4], .dead, .dead, .row 25 4 48 (tcs N), .row 3 1 8 (rowN (N.map szN)), .row 25 4 48 (tcs ts)])
    (fun x H' => (x = trb ∧ rdNodes l N0 = none) ∧ H' = dead3) := by
  have hn := cRdCount l N0 (N0.map szN) (by omega)
  refine call_pan (E := envK 3) (fn := Try.f54) (c := bodyOf Try.f54) (envK_ok 3) mixed (by kernel_rfl) (by kernel_rfl) (by kernel_rfl) (by kernel_rfl) (by kernel_rfl) (by kernel_rfl) rfl .w ?_
  refine aw_cut _ _ rfl fun C hC => ?_
  conv => whnf
  subst hC
  refine aw_cut _ _ rfl fun C hC => ?_
  conv => whnf
  subst hC
  refine aw_cut _ _ rfl fun C hC => ?_
  conv => whnf
  try (refine draw_intro true (by kernel_rfl) ?_; conv => whnf)
  refine CallPt.use hn [0, 1, 2] ⟨rfl, rfl, rfl, trivial⟩ (by decide) rfl ?_ ?_
  (focus (rintro x _ hx _; (conv => whnf); exact ⟨hx.1.1, by unfold rdNodes; rw [hx.1.2]⟩))
  rintro _ _ ⟨n, m, hR, rfl, rfl⟩ _
  conv => whnf
  obtain ⟨hnm, hml⟩ := rdCount_le hR
  have e : rdNodes l N0 = rdNs n m N0 := by unfold rdNodes; rw [hR]
  rw [e]
  clear e hR hn
  generalize hRR : rdNs n m N0 = R at *
  repeat (first | (refine And.intro rfl ?_; conv => whnf) | (refine And.intro (by decide) ?_; conv => whnf) | (refine draw_intro true (by kernel_rfl) ?_; conv => whnf) | (refine And.intro ⟨by omega, by omega⟩ ?_; conv => whnf) | (refine And.intro (by omega) ?_; conv => whnf) | (refine And.intro (fun _ => ⟨by omega, by omega⟩) ?_; conv => whnf) | (refine And.intro (of_decide_eq_true rfl) ?_; conv => whnf) | (refine And.intro (fun _ => ?_) (fun h => absurd h ?_); rotate_left; (focus (first | decide | (simp; done) | (simp [tcs]; done))); conv => whnf) | (refine And.intro (fun h => absurd h ?_) (fun _ => ?_); (focus (first | decide | (simp; done) | (simp [tcs]; done))); conv => whnf) | (intro _; conv => whnf))
  refine loop_intro (fun q tm H => ∃ (j : Nat) (l' : List UInt8) (N acc : List Term), n = q + j ∧ acc.length = j ∧ l'.length + N.length ≤ 800000 ∧ (∀ t ∈ N, szT t ≤ 600) ∧ rdNs q l' N = R ∧
      tm = [(9, .c (.int .i64 (j))), (8, .c (.int .i64 (n))), (5, .own 5), (1, .bd 55 [.ptr 0 0]), (0, .ptr 0 0)] ∧ H = [.box [.c (.str (sB l')), .own 3, .own 4], .dead, .dead, .row 25 4 48 (tcs N), .row 3 1 8 (rowN (N.map szN)), .row 25 4 48 (tcs acc)])
    n _ _ ⟨0, m, N0, [], by omega, rfl, by omega, hN0, hRR, rfl, rfl⟩ ?_ ?_
  · refine Wk.trans (Wk.mvbox 0 1 1 25 4 48 (tcs N0) rfl rfl rfl rfl) ?_
    refine Wk.trans (Wk.mvbox 0 2 2 3 1 8 (rowN (N0.map szN)) rfl rfl rfl rfl) ?_
    refine Wk.trans (Wk.niltmp 5 25 4 48 rfl rfl) ?_
    exact Wk.sel [0, 1, 2, 3, 4, 5] (by decide) (by first | decide | (show (0 : Nat) ≤ _; decide) | (show ∀ i, i < 0 → _; decide) | (show (1 : Nat) ≤ _; decide) | (show ∀ i, i < 1 → _; decide) | (show (2 : Nat) ≤ _; decide) | (show ∀ i, i < 2 → _; decide) | (show (3 : Nat) ≤ _; decide) | (show ∀ i, i < 3 → _; decide) | (show (4 : Nat) ≤ _; decide) | (show ∀ i, i < 4 → _; decide) | (show (5 : Nat) ≤ _; decide) | (show ∀ i, i < 5 → _; decide) | (show (6 : Nat) ≤ _; decide) | (show ∀ i, i < 6 → _; decide) | (show (7 : Nat) ≤ _; decide) | (show ∀ i, i < 7 → _; decide)) (by first | decide | (show (0 : Nat) ≤ _; decide) | (show ∀ i, i < 0 → _; decide) | (show (1 : Nat) ≤ _; decide) | (show ∀ i, i < 1 → _; decide) | (show (2 : Nat) ≤ _; decide) | (show ∀ i, i < 2 → _; decide) | (show (3 : Nat) ≤ _; decide) | (show ∀ i, i < 3 → _; decide) | (show (4 : Nat) ≤ _; decide) | (show ∀ i, i < 4 → _; decide) | (show (5 : Nat) ≤ _; decide) | (show ∀ i, i < 5 → _; decide) | (show (6 : Nat) ≤ _; decide) | (show ∀ i, i < 6 → _; decide) | (show (7 : Nat) ≤ _; decide) | (show ∀ i, i < 7 → _; decide)) ⟨rfl, rfl, rfl, rfl, rfl, rfl, trivial⟩ ⟨rfl, rfl, rfl, rfl, rfl, trivial⟩ rfl
  rintro q tm H ⟨j, l', N, acc, hj, hacc, hl', hN, hRm, rfl, rfl⟩
  have hla := len_tcs acc
  have hb1 : ((tcs acc).length + 1) * 48 ≤ 140737488355328 := by omega
  have hb2 : (tcs acc).length + 1 ≤ 9223372036854775807 := by omega
  conv => whnf
  refine ⟨fun hc => ?_, fun hc => ?_⟩
  · replace hc : (j : Int) < n := of_decide_eq_true hc
    obtain ⟨q2, rfl⟩ : ∃ q2, q = q2 + 1 := ⟨q - 1, by omega⟩
    rw [rdNs] at hRm
    have ht := cRdNode l' N (by omega) hN (by omega)
    conv => whnf
    try (refine draw_intro true (by kernel_rfl) ?_; conv => whnf)
    refine CallPt.use ht [0, 3, 4] ⟨rfl, rfl, rfl, trivial⟩ (by decide) rfl ?_ ?_
    (focus (rintro x _ hx _; (conv => whnf); exact ⟨hx.1.1, by rw [hx.1.2] at hRm; exact hRm.symm⟩))
    rintro _ _ ⟨t, m2, hR2, rfl, rfl⟩ _
    conv => whnf
    rw [hR2] at hRm
    have hlen2 := rdNode_le hR2
    have hst : tcs (acc ++ [t]) = tcs acc ++ [tc t] := tcs_snoc19 acc t
    have hN2 : ∀ u ∈ N ++ [t], szT u ≤ 600 := fun u hu => by
      rcases List.mem_append.1 hu with h | h
      · exact hN u h
      · rw [List.mem_singleton.1 h]; exact hlen2.2
    have hNn : (N ++ [t]).length = N.length + 1 := by simp
    replace hRm : rdNs q2 m2 (N ++ [t]) = R := hRm
    generalize N ++ [t] = N2 at *
    obtain ⟨k', l2, n', us⟩ := t
    rw [tv_mk]
    repeat (first | (refine And.intro rfl ?_; conv => whnf) | (refine And.intro (by decide) ?_; conv => whnf) | (refine draw_intro true (by kernel_rfl) ?_; conv => whnf) | (refine And.intro ⟨by omega, by omega⟩ ?_; conv => whnf) | (refine And.intro (by omega) ?_; conv => whnf) | (refine And.intro (fun _ => ⟨by omega, by omega⟩) ?_; conv => whnf) | (refine And.intro (of_decide_eq_true rfl) ?_; conv => whnf) | (refine And.intro (fun _ => ?_) (fun h => absurd h ?_); rotate_left; (focus (first | decide | (simp; done) | (simp [tcs]; done))); conv => whnf) | (refine And.intro (fun h => absurd h ?_) (fun _ => ?_); (focus (first | decide | (simp; done) | (simp [tcs]; done))); conv => whnf) | (intro _; conv => whnf))
    refine ⟨q2, _, _, by omega, ⟨j + 1, m2, N2, acc ++ [.mk k' l2 n' us], by omega, by simp [hacc], by omega, hN2, hRm, rfl, rfl⟩, Wk.sel [0, 1, 2, 6, 7, 12] (by decide) (by first | decide | (show (0 : Nat) ≤ _; decide) | (show ∀ i, i < 0 → _; decide) | (show (1 : Nat) ≤ _; decide) | (show ∀ i, i < 1 → _; decide) | (show (2 : Nat) ≤ _; decide) | (show ∀ i, i < 2 → _; decide) | (show (3 : Nat) ≤ _; decide) | (show ∀ i, i < 3 → _; decide) | (show (4 : Nat) ≤ _; decide) | (show ∀ i, i < 4 → _; decide) | (show (5 : Nat) ≤ _; decide) | (show ∀ i, i < 5 → _; decide) | (show (6 : Nat) ≤ _; decide) | (show ∀ i, i < 6 → _; decide) | (show (7 : Nat) ≤ _; decide) | (show ∀ i, i < 7 → _; decide)) (by first | decide | (show (0 : Nat) ≤ _; decide) | (show ∀ i, i < 0 → _; decide) | (show (1 : Nat) ≤ _; decide) | (show ∀ i, i < 1 → _; decide) | (show (2 : Nat) ≤ _; decide) | (show ∀ i, i < 2 → _; decide) | (show (3 : Nat) ≤ _; decide) | (show ∀ i, i < 3 → _; decide) | (show (4 : Nat) ≤ _; decide) | (show ∀ i, i < 4 → _; decide) | (show (5 : Nat) ≤ _; decide) | (show ∀ i, i < 5 → _; decide) | (show (6 : Nat) ≤ _; decide) | (show ∀ i, i < 6 → _; decide) | (show (7 : Nat) ≤ _; decide) | (show ∀ i, i < 7 → _; decide)) ⟨rfl, rfl, rfl, rfl, rfl, ?_, trivial⟩ ⟨rfl, rfl, rfl, rfl, rfl, trivial⟩ rfl⟩
    rw [hst]
    rfl
  · replace hc : ¬ (j : Int) < n := of_decide_eq_false hc
    obtain rfl : q = 0 := by omega
    rw [rdNs] at hRm
    subst hC
    conv => whnf
    repeat (first | (refine And.intro rfl ?_; conv => whnf) | (refine And.intro (by decide) ?_; conv => whnf) | (refine draw_intro true (by kernel_rfl) ?_; conv => whnf) | (refine And.intro ⟨by omega, by omega⟩ ?_; conv => whnf) | (refine And.intro (by omega) ?_; conv => whnf) | (refine And.intro (fun _ => ⟨by omega, by omega⟩) ?_; conv => whnf) | (refine And.intro (of_decide_eq_true rfl) ?_; conv => whnf) | (refine And.intro (fun _ => ?_) (fun h => absurd h ?_); rotate_left; (focus (first | decide | (simp; done) | (simp [tcs]; done))); conv => whnf) | (refine And.intro (fun h => absurd h ?_) (fun _ => ?_); (focus (first | decide | (simp; done) | (simp [tcs]; done))); conv => whnf) | (intro _; conv => whnf))
    refine ⟨[(4, .own 5)], [.box [.c (.str (sB l')), .own 3, .own 4], .dead, .dead, .row 25 4 48 (tcs N), .row 3 1 8 (rowN (N.map szN)), .row 25 4 48 (tcs acc)], Wk.sel [0, 1, 2, 3, 4, 5] (by decide) (by first | decide | (show (0 : Nat) ≤ _; decide) | (show ∀ i, i < 0 → _; decide) | (show (1 : Nat) ≤ _; decide) | (show ∀ i, i < 1 → _; decide) | (show (2 : Nat) ≤ _; decide) | (show ∀ i, i < 2 → _; decide) | (show (3 : Nat) ≤ _; decide) | (show ∀ i, i < 3 → _; decide) | (show (4 : Nat) ≤ _; decide) | (show ∀ i, i < 4 → _; decide) | (show (5 : Nat) ≤ _; decide) | (show ∀ i, i < 5 → _; decide) | (show (6 : Nat) ≤ _; decide) | (show ∀ i, i < 6 → _; decide) | (show (7 : Nat) ≤ _; decide) | (show ∀ i, i < 7 → _; decide)) (by first | decide | (show (0 : Nat) ≤ _; decide) | (show ∀ i, i < 0 → _; decide) | (show (1 : Nat) ≤ _; decide) | (show ∀ i, i < 1 → _; decide) | (show (2 : Nat) ≤ _; decide) | (show ∀ i, i < 2 → _; decide) | (show (3 : Nat) ≤ _; decide) | (show ∀ i, i < 3 → _; decide) | (show (4 : Nat) ≤ _; decide) | (show ∀ i, i < 4 → _; decide) | (show (5 : Nat) ≤ _; decide) | (show ∀ i, i < 5 → _; decide) | (show (6 : Nat) ≤ _; decide) | (show ∀ i, i < 6 → _; decide) | (show (7 : Nat) ≤ _; decide) | (show ∀ i, i < 7 → _; decide)) ⟨rfl, rfl, rfl, rfl, rfl, rfl, trivial⟩ ⟨rfl, trivial⟩ rfl, ?_⟩
    conv => whnf
    repeat (first | (refine And.intro rfl ?_; conv => whnf) | (refine And.intro (by decide) ?_; conv => whnf) | (refine draw_intro true (by kernel_rfl) ?_; conv => whnf) | (refine And.intro ⟨by omega, by omega⟩ ?_; conv => whnf) | (refine And.intro (by omega) ?_; conv => whnf) | (refine And.intro (fun _ => ⟨by omega, by omega⟩) ?_; conv => whnf) | (refine And.intro (of_decide_eq_true rfl) ?_; conv => whnf) | (refine And.intro (fun _ => ?_) (fun h => absurd h ?_); rotate_left; (focus (first | decide | (simp; done) | (simp [tcs]; done))); conv => whnf) | (refine And.intro (fun h => absurd h ?_) (fun _ => ?_); (focus (first | decide | (simp; done) | (simp [tcs]; done))); conv => whnf) | (intro _; conv => whnf))
    exact ⟨N, l', acc, hRm.symm, rfl, rfl⟩
end Go.Tr
/- cert: a certificate that is read. -/
namespace Go.Tr
open Go.Proofs
theorem rdNs_le : ∀ (n : Nat) (l : List UInt8) (N N' : List Term) (m : List UInt8), rdNs n l N = some (N', m) → (∀ t ∈ N, szT t ≤ 600) → m.length + N'.length ≤ l.length + N.length ∧ ∀ t ∈ N', szT t ≤ 600
  | 0, l, N, N', m, h, hs => by
    rw [rdNs] at h
    injection h with h
    injection h with h1 h2
    subst h1 h2
    exact ⟨Nat.le_refl _, hs⟩
  | n + 1, l, N, N', m, h, hs => by
    rw [rdNs] at h
    split at h
    · rename_i t m1 h1
      have g1 := rdNode_le h1
      have g2 := rdNs_le n m1 (N ++ [t]) N' m h (fun u hu => by
        rcases List.mem_append.1 hu with h | h
        · exact hs u h
        · rw [List.mem_singleton.1 h]; exact g1.2)
      have e : (N ++ [t]).length = N.length + 1 := by simp
      exact ⟨by omega, g2.2⟩
    · cases h
theorem rdNodes_le {l m : List UInt8} {N N' : List Term} (h : rdNodes l N = some (N', m)) (hs : ∀ t ∈ N, szT t ≤ 600) : m.length + N'.length ≤ l.length + N.length ∧ ∀ t ∈ N', szT t ≤ 600 := by
  unfold rdNodes at h
  split at h
  · rename_i c m1 h1
    have g1 := rdCount_le h1
    have g2 := rdNs_le _ _ _ _ _ h hs
    exact ⟨by omega, g2.2⟩
  · cases h
theorem rdMany_le {α : Type} {one : List UInt8 → Option (α × List UInt8)} (ho : ∀ l x m, one l = some (x, m) → m.length < l.length) : ∀ (n : Nat) (l : List UInt8) (acc ts : List α) (m : List UInt8), rdMany one n l acc = some (ts, m) → m.length ≤ l.length
  | 0, l, acc, ts, m, h => by
    rw [rdMany] at h
    injection h with h
    injection h with h1 h2
    subst h2
    exact Nat.le_refl _
  | n + 1, l, acc, ts, m, h => by
    rw [rdMany] at h
    split at h
    · rename_i x m1 h1
      have g1 := ho _ _ _ h1
      have g2 := rdMany_le ho n m1 _ _ _ h
      omega
    · cases h
theorem rdList_le {α : Type} {one : List UInt8 → Option (α × List UInt8)} (ho : ∀ l x m, one l = some (x, m) → m.length < l.length) {l m : List UInt8} {ts : List α} (h : rdList one l = some (ts, m)) : m.length ≤ l.length := by
  unfold rdList at h
  split at h
  · rename_i c m1 h1
    have g1 := rdCount_le h1
    have g2 := rdMany_le ho _ _ _ _ _ h
    omega
  · cases h
/-- The end of a certificate that is read. -/
def rdEnd (ds : List Dcl) (ts : List Term) (m : List UInt8) (N : List Term) : Option Crt := match rdTerm m N with
  | some (a, m1) => (match rdTerm m1 N with
    | some (b, m2) => if m2 = [] then some ⟨ds, ts, a, b⟩ else none
    | none => none)
  | none => none
/-- A certificate that is read. -/
def rdCert (l : List UInt8) : Option Crt := match rdNodes l [] with
  | some (N, m) => (match rdList (fun l => rdDecl l N) m with
    | some (ds, m1) => if ds.length ≤ 100 then (match rdList (fun l => rdTerm l N) m1 with
      | some (ts, m2) => if ts.length ≤ 30 then rdEnd ds ts m2 N else none
      | none => none) else none
    | none => none)
  | none => none
def crtV (c : Crt) : List AV := [.c (.sl 6 72 (dcs c.S)), .c (.sl 4 48 (tcs c.X)), .c (.int .i64 (c.o.k)), .c (.int .i64 (c.o.l)), .c (.int .i64 (c.o.n)), .c (.sl 4 48 (tcs c.o.ts)), .c (.int .i64 (c.c.k)), .c (.int .i64 (c.c.l)), .c (.int .i64 (c.c.n)), .c (.sl 4 48 (tcs c.c.ts))]
set_option maxHeartbeats 4000000 in
theorem cRdCert (l : List UInt8) (hl : l.length ≤ 400000) :
    CallPt Try.prog 48 [.ptr 0 0] [.box [.c (.str (sB l)), .nil, .nil]]
    (fun r H' => ∃ c N, rdCert l = some c ∧ r = crv c ∧ H' = [.box [.c (.str (sB [])), .own 1, .own 2], .row 25 4 48 (tcs N), .row 3 1 8 (rowN (N.map szN)), .box (crtV c)])
    (fun x H' => (x = trb ∧ rdCert l = none) ∧ H' = [.dead]) := by
  have hrn : CallPt Try.prog 54 [.ptr 0 0, .bd 55 [.ptr 0 0]] [.box [.c (.str (sB l)), .nil, .nil]]
    (fun r H' => ∃ N m ts, rdNodes l [] = some (N, m) ∧ r = .own 5 ∧ H' = [.box [.c (.str (sB m)), .own 3, .own 4], .dead, .dead, .row 25 4 48 (tcs N), .row 3 1 8 (rowN (N.map szN)), .row 25 4 48 (tcs ts)])
    (fun x H' => (x = trb ∧ rdNodes l [] = none) ∧ H' = dead3) := by
    refine CallPt.wk _ ?_ (cReadNodes l [] hl (fun t h => absurd h (by simp)) (by simp))
    refine Wk.trans (Wk.nilrow (i := 0) (j := 1) 25 4 48 rfl rfl rfl) ?_
    refine Wk.trans (Wk.nilrow (i := 0) (j := 2) 3 1 8 rfl rfl rfl) ?_
    exact Wk.sel [0, 1, 2] (by decide) (by first | decide | (show (0 : Nat) ≤ _; decide) | (show ∀ i, i < 0 → _; decide) | (show (1 : Nat) ≤ _; decide) | (show ∀ i, i < 1 → _; decide) | (show (2 : Nat) ≤ _; decide) | (show ∀ i, i < 2 → _; decide) | (show (3 : Nat) ≤ _; decide) | (show ∀ i, i < 3 → _; decide) | (show (4 : Nat) ≤ _; decide) | (show ∀ i, i < 4 → _; decide) | (show (5 : Nat) ≤ _; decide) | (show ∀ i, i < 5 → _; decide) | (show (6 : Nat) ≤ _; decide) | (show ∀ i, i < 6 → _; decide) | (show (7 : Nat) ≤ _; decide) | (show ∀ i, i < 7 → _; decide)) (by first | decide | (show (0 : Nat) ≤ _; decide) | (show ∀ i, i < 0 → _; decide) | (show (1 : Nat) ≤ _; decide) | (show ∀ i, i < 1 → _; decide) | (show (2 : Nat) ≤ _; decide) | (show ∀ i, i < 2 → _; decide) | (show (3 : Nat) ≤ _; decide) | (show ∀ i, i < 3 → _; decide) | (show (4 : Nat) ≤ _; decide) | (show ∀ i, i < 4 → _; decide) | (show (5 : Nat) ≤ _; decide) | (show ∀ i, i < 5 → _; decide) | (show (6 : Nat) ≤ _; decide) | (show ∀ i, i < 6 → _; decide) | (show (7 : Nat) ≤ _; decide) | (show ∀ i, i < 7 → _; decide)) ⟨rfl, rfl, rfl, trivial⟩ trivial rfl
  refine call_pan (E := env 1) (fn := Try.f48) (c := bodyOf Try.f48) (env_ok 1) mixed (by kernel_rfl) (by kernel_rfl) (by kernel_rfl) (by kernel_rfl) (by kernel_rfl) (by kernel_rfl) rfl .v ?_
  refine aw_cut _ _ rfl fun C hC => ?_
  conv => whnf
  subst hC
  refine aw_cut _ _ rfl fun C hC => ?_
  conv => whnf
  try (refine draw_intro true (by kernel_rfl) ?_; conv => whnf)
  refine CallPt.use hrn [0] ⟨rfl, trivial⟩ (by decide) rfl ?_ ?_
  (focus (rintro x _ hx _; (conv => whnf); exact ⟨hx.1.1, by unfold rdCert; rw [hx.1.2]⟩))
  rintro _ _ ⟨N, m, ts0, hR, rfl, rfl⟩ _
  conv => whnf
  obtain ⟨hm, hN⟩ := rdNodes_le hR (fun t h => absurd h (by simp))
  rw [List.length_nil] at hm
  have eR : rdCert l = match rdList (fun l => rdDecl l N) m with
    | some (ds, m1) => if ds.length ≤ 100 then (match rdList (fun l => rdTerm l N) m1 with
      | some (ts, m2) => if ts.length ≤ 30 then rdEnd ds ts m2 N else none
      | none => none) else none
    | none => none := by unfold rdCert; rw [hR]
  rw [eR]
  clear eR hR
  have hrd := cReadDecls m N (N.map szN) (by omega) hN (by omega)
  subst hC
  refine aw_cut _ _ rfl fun C hC => ?_
  conv => whnf
  subst hC
  refine aw_cut _ _ rfl fun C hC => ?_
  conv => whnf
  try (refine draw_intro true (by kernel_rfl) ?_; conv => whnf)
  refine CallPt.use hrd [0, 4, 5] ⟨rfl, rfl, rfl, trivial⟩ (by decide) rfl ?_ ?_
  (focus (rintro x _ hx _; (conv => whnf); exact ⟨hx.1.1, by rw [hx.1.2]⟩))
  rintro _ _ ⟨ds, m1, hR, rfl, rfl⟩ _
  conv => whnf
  have hm1 := rdList_le (fun _ _ _ h => rdDecl_len h) hR
  have hlt := len_dcs ds
  rw [hR]
  simp only
  clear hR hrd
  subst hC
  refine aw_cut _ _ rfl fun C hC => ?_
  conv => whnf
  intro hlen1
  clear hlen1
  conv => whnf
  have hd := cDemand (decide (((dcs ds).length : Int) ≤ 100))
  by_cases hds : ds.length ≤ 100
  rotate_left
  · rw [if_neg hds]
    rw [decide_eq_false (show ¬ ((dcs ds).length : Int) ≤ 100 by omega)] at hd ⊢
    try (refine draw_intro true (by kernel_rfl) ?_; conv => whnf)
    refine CallPt.use hd [] trivial (by decide) rfl ?_ ?_
    (focus (rintro x _ hx _; (conv => whnf); exact ⟨hx.1.1, rfl⟩))
    rintro _ _ ⟨h, _⟩ _
    conv => whnf
    cases h
  rw [if_pos hds]
  rw [decide_eq_true (show ((dcs ds).length : Int) ≤ 100 by omega)] at hd ⊢
  try (refine draw_intro true (by kernel_rfl) ?_; conv => whnf)
  refine CallPt.use hd [] trivial (by decide) rfl ?_ ?_
  (focus (rintro x _ hx _; (conv => whnf); exact absurd hx.1.2 (by simp)))
  rintro _ _ ⟨_, rfl, rfl⟩ _
  conv => whnf
  clear hd
  have hrt := cReadTerms m1 N (N.map szN) (by omega) hN (by omega)
  subst hC
  refine aw_cut _ _ rfl fun C hC => ?_
  conv => whnf
  try (refine draw_intro true (by kernel_rfl) ?_; conv => whnf)
  refine CallPt.use hrt [0, 4, 5] ⟨rfl, rfl, rfl, trivial⟩ (by decide) rfl ?_ ?_
  (focus (rintro x _ hx _; (conv => whnf); exact ⟨hx.1.1, by rw [hx.1.2]⟩))
  rintro _ _ ⟨ts, m2, hR, rfl, rfl⟩ _
  conv => whnf
  have hm2 := rdList_le (fun _ _ _ h => (rdTerm_len h).1) hR
  have hlx := len_tcs ts
  rw [hR]
  simp only
  clear hR hrt
  subst hC
  refine aw_cut _ _ rfl fun C hC => ?_
  conv => whnf
  intro hlen1
  clear hlen1
  conv => whnf
  have hd := cDemand (decide (((tcs ts).length : Int) ≤ 30))
  by_cases hts : ts.length ≤ 30
  rotate_left
  · rw [if_neg hts]
    rw [decide_eq_false (show ¬ ((tcs ts).length : Int) ≤ 30 by omega)] at hd ⊢
    try (refine draw_intro true (by kernel_rfl) ?_; conv => whnf)
    refine CallPt.use hd [] trivial (by decide) rfl ?_ ?_
    (focus (rintro x _ hx _; (conv => whnf); exact ⟨hx.1.1, rfl⟩))
    rintro _ _ ⟨h, _⟩ _
    conv => whnf
    cases h
  rw [if_pos hts]
  rw [decide_eq_true (show ((tcs ts).length : Int) ≤ 30 by omega)] at hd ⊢
  try (refine draw_intro true (by kernel_rfl) ?_; conv => whnf)
  refine CallPt.use hd [] trivial (by decide) rfl ?_ ?_
  (focus (rintro x _ hx _; (conv => whnf); exact absurd hx.1.2 (by simp)))
  rintro _ _ ⟨_, rfl, rfl⟩ _
  conv => whnf
  clear hd
  have ht1 := cRdTerm m2 N (N.map szN) (by omega) hN (by omega)
  subst hC
  refine aw_cut _ _ rfl fun C hC => ?_
  conv => whnf
  try (refine draw_intro true (by kernel_rfl) ?_; conv => whnf)
  refine CallPt.use ht1 [0, 4, 5] ⟨rfl, rfl, rfl, trivial⟩ (by decide) rfl ?_ ?_
  (focus (rintro x _ hx _; (conv => whnf); exact ⟨hx.1.1, by unfold rdEnd; rw [hx.1.2]⟩))
  rintro _ _ ⟨a, m3, hR, rfl, rfl⟩ _
  conv => whnf
  have hm3 := (rdTerm_len hR).1
  have eE : rdEnd ds ts m2 N = match rdTerm m3 N with
    | some (b, m4) => if m4 = [] then some ⟨ds, ts, a, b⟩ else none
    | none => none := by unfold rdEnd; rw [hR]
  rw [eE]
  clear eE hR ht1
  have ht2 := cRdTerm m3 N (N.map szN) (by omega) hN (by omega)
  subst hC
  refine aw_cut _ _ rfl fun C hC => ?_
  conv => whnf
  try (refine draw_intro true (by kernel_rfl) ?_; conv => whnf)
  refine CallPt.use ht2 [0, 4, 5] ⟨rfl, rfl, rfl, trivial⟩ (by decide) rfl ?_ ?_
  (focus (rintro x _ hx _; (conv => whnf); exact ⟨hx.1.1, by rw [hx.1.2]⟩))
  rintro _ _ ⟨b, m4, hR, rfl, rfl⟩ _
  conv => whnf
  rw [hR]
  simp only
  clear hR ht2
  subst hC
  refine aw_cut _ _ rfl fun C hC => ?_
  conv => whnf
  have hd := cDemand (decide (m4 = []))
  rw [show (decide (sB m4 = (⟨#[]⟩ : ByteArray))) = decide (m4 = []) from sB_nil m4]
  by_cases h4 : m4 = []
  rotate_left
  · rw [if_neg h4]
    rw [decide_eq_false h4] at hd ⊢
    try (refine draw_intro true (by kernel_rfl) ?_; conv => whnf)
    refine CallPt.use hd [] trivial (by decide) rfl ?_ ?_
    (focus (rintro x _ hx _; (conv => whnf); exact ⟨hx.1.1, rfl⟩))
    rintro _ _ ⟨h, _⟩ _
    conv => whnf
    cases h
  rw [if_pos h4]
  rw [decide_eq_true h4] at hd ⊢
  try (refine draw_intro true (by kernel_rfl) ?_; conv => whnf)
  refine CallPt.use hd [] trivial (by decide) rfl ?_ ?_
  (focus (rintro x _ hx _; (conv => whnf); exact absurd hx.1.2 (by simp)))
  rintro _ _ ⟨_, rfl, rfl⟩ _
  conv => whnf
  clear hd
  subst h4
  subst hC
  conv => whnf
  repeat (first | (refine And.intro rfl ?_; conv => whnf) | (refine And.intro (by decide) ?_; conv => whnf) | (refine draw_intro true (by kernel_rfl) ?_; conv => whnf) | (refine And.intro ⟨by omega, by omega⟩ ?_; conv => whnf) | (refine And.intro (by omega) ?_; conv => whnf) | (refine And.intro (fun _ => ⟨by omega, by omega⟩) ?_; conv => whnf) | (refine And.intro (of_decide_eq_true rfl) ?_; conv => whnf) | (refine And.intro (fun _ => ?_) (fun h => absurd h ?_); rotate_left; (focus (first | decide | (simp; done) | (simp [tcs]; done))); conv => whnf) | (refine And.intro (fun h => absurd h ?_) (fun _ => ?_); (focus (first | decide | (simp; done) | (simp [tcs]; done))); conv => whnf) | (intro _; conv => whnf))
  refine ⟨[(2, .ptr 3 0)], [.box [.c (.str (sB [])), .own 1, .own 2], .row 25 4 48 (tcs N), .row 3 1 8 (rowN (N.map szN)), .box [.c (.sl 6 72 (dcs ds)), .c (.sl 4 48 (tcs ts)), .c (.int .i64 (a.k)), .c (.int .i64 (a.l)), .c (.int .i64 (a.n)), .c (.sl 4 48 (tcs a.ts)), .c (.int .i64 (b.k)), .c (.int .i64 (b.l)), .c (.int .i64 (b.n)), .c (.sl 4 48 (tcs b.ts))]],
    Wk.sel [0, 4, 5, 1] (by decide) (by first | decide | (show (0 : Nat) ≤ _; decide) | (show ∀ i, i < 0 → _; decide) | (show (1 : Nat) ≤ _; decide) | (show ∀ i, i < 1 → _; decide) | (show (2 : Nat) ≤ _; decide) | (show ∀ i, i < 2 → _; decide) | (show (3 : Nat) ≤ _; decide) | (show ∀ i, i < 3 → _; decide) | (show (4 : Nat) ≤ _; decide) | (show ∀ i, i < 4 → _; decide) | (show (5 : Nat) ≤ _; decide) | (show ∀ i, i < 5 → _; decide) | (show (6 : Nat) ≤ _; decide) | (show ∀ i, i < 6 → _; decide) | (show (7 : Nat) ≤ _; decide) | (show ∀ i, i < 7 → _; decide)) (by first | decide | (show (0 : Nat) ≤ _; decide) | (show ∀ i, i < 0 → _; decide) | (show (1 : Nat) ≤ _; decide) | (show ∀ i, i < 1 → _; decide) | (show (2 : Nat) ≤ _; decide) | (show ∀ i, i < 2 → _; decide) | (show (3 : Nat) ≤ _; decide) | (show ∀ i, i < 3 → _; decide) | (show (4 : Nat) ≤ _; decide) | (show ∀ i, i < 4 → _; decide) | (show (5 : Nat) ≤ _; decide) | (show ∀ i, i < 5 → _; decide) | (show (6 : Nat) ≤ _; decide) | (show ∀ i, i < 6 → _; decide) | (show (7 : Nat) ≤ _; decide) | (show ∀ i, i < 7 → _; decide)) ⟨rfl, rfl, rfl, rfl, trivial⟩ ⟨rfl, trivial⟩ rfl, ?_⟩
  conv => whnf
  repeat (first | (refine And.intro rfl ?_; conv => whnf) | (refine And.intro (by decide) ?_; conv => whnf) | (refine draw_intro true (by kernel_rfl) ?_; conv => whnf) | (refine And.intro ⟨by omega, by omega⟩ ?_; conv => whnf) | (refine And.intro (by omega) ?_; conv => whnf) | (refine And.intro (fun _ => ⟨by omega, by omega⟩) ?_; conv => whnf) | (refine And.intro (of_decide_eq_true rfl) ?_; conv => whnf) | (refine And.intro (fun _ => ?_) (fun h => absurd h ?_); rotate_left; (focus (first | decide | (simp; done) | (simp [tcs]; done))); conv => whnf) | (refine And.intro (fun h => absurd h ?_) (fun _ => ?_); (focus (first | decide | (simp; done) | (simp [tcs]; done))); conv => whnf) | (intro _; conv => whnf))
  exact ⟨⟨ds, ts, a, b⟩, N, rfl, rfl, rfl⟩
end Go.Tr
/- cert: a deferred function that recovers. -/
namespace Go.Tr
open Go.Proofs
def crt0 : List AV := [.nil, .nil, .c (.int .i64 (0)), .c (.int .i64 (0)), .c (.int .i64 (0)), .nil, .c (.int .i64 (0)), .c (.int .i64 (0)), .c (.int .i64 (0)), .nil]
def envD (n : Nat) : Env := ⟨lkT tab, fun _ => true, n, true, false, none, fun _ _ => none⟩
theorem envD_ok (n : Nat) : EnvOk Try.prog (envD n) := EnvOk.of (l := tab) rfl (by kernel_rfl)
theorem cDefer : DefSt Try.prog 46 [.ptr 0 0, .ptr 1 0] [.box crt0, .box [.c (.int .i64 (0))]] (some trb) (fun H' => H' = [.box crt0, .box [.c (.int .i64 (30))]]) := by
  refine def_intro (E := envY 2) (fn := Try.f46) (c := bodyOf Try.f46) (envY_ok 2) mixed rfl (by kernel_rfl) (by kernel_rfl) rfl (by kernel_rfl) (by kernel_rfl) (by kernel_rfl) (by kernel_rfl) rfl ?_
  conv => whnf
  repeat (first | (refine And.intro rfl ?_; conv => whnf) | (refine And.intro (by decide) ?_; conv => whnf) | (refine draw_intro true (by kernel_rfl) ?_; conv => whnf) | (refine And.intro ⟨by omega, by omega⟩ ?_; conv => whnf) | (refine And.intro (by omega) ?_; conv => whnf) | (refine And.intro (fun _ => ⟨by omega, by omega⟩) ?_; conv => whnf) | (refine And.intro (of_decide_eq_true rfl) ?_; conv => whnf) | (refine And.intro (fun _ => ?_) (fun h => absurd h ?_); rotate_left; (focus (first | decide | (simp; done) | (simp [tcs]; done))); conv => whnf) | (refine And.intro (fun h => absurd h ?_) (fun _ => ?_); (focus (first | decide | (simp; done) | (simp [tcs]; done))); conv => whnf) | (intro _; conv => whnf))
  rfl
theorem cDefer1 : DefSt Try.prog 46 [.ptr 0 0, .ptr 1 0] [.box crt0, .box [.c (.int .i64 (0))], .dead] (some trb) (fun H' => H' = [.box crt0, .box [.c (.int .i64 (30))], .dead]) := by
  refine def_intro (E := envY 3) (fn := Try.f46) (c := bodyOf Try.f46) (envY_ok 3) mixed rfl (by kernel_rfl) (by kernel_rfl) rfl (by kernel_rfl) (by kernel_rfl) (by kernel_rfl) (by kernel_rfl) rfl ?_
  conv => whnf
  repeat (first | (refine And.intro rfl ?_; conv => whnf) | (refine And.intro (by decide) ?_; conv => whnf) | (refine draw_intro true (by kernel_rfl) ?_; conv => whnf) | (refine And.intro ⟨by omega, by omega⟩ ?_; conv => whnf) | (refine And.intro (by omega) ?_; conv => whnf) | (refine And.intro (fun _ => ⟨by omega, by omega⟩) ?_; conv => whnf) | (refine And.intro (of_decide_eq_true rfl) ?_; conv => whnf) | (refine And.intro (fun _ => ?_) (fun h => absurd h ?_); rotate_left; (focus (first | decide | (simp; done) | (simp [tcs]; done))); conv => whnf) | (refine And.intro (fun h => absurd h ?_) (fun _ => ?_); (focus (first | decide | (simp; done) | (simp [tcs]; done))); conv => whnf) | (intro _; conv => whnf))
  rfl
theorem cDefer2 : DefSt Try.prog 46 [.ptr 0 0, .ptr 1 0] [.box crt0, .box [.c (.int .i64 (0))], .dead, .dead] (some trb) (fun H' => H' = [.box crt0, .box [.c (.int .i64 (30))], .dead, .dead]) := by
  refine def_intro (E := envY 4) (fn := Try.f46) (c := bodyOf Try.f46) (envY_ok 4) mixed rfl (by kernel_rfl) (by kernel_rfl) rfl (by kernel_rfl) (by kernel_rfl) (by kernel_rfl) (by kernel_rfl) rfl ?_
  conv => whnf
  repeat (first | (refine And.intro rfl ?_; conv => whnf) | (refine And.intro (by decide) ?_; conv => whnf) | (refine draw_intro true (by kernel_rfl) ?_; conv => whnf) | (refine And.intro ⟨by omega, by omega⟩ ?_; conv => whnf) | (refine And.intro (by omega) ?_; conv => whnf) | (refine And.intro (fun _ => ⟨by omega, by omega⟩) ?_; conv => whnf) | (refine And.intro (of_decide_eq_true rfl) ?_; conv => whnf) | (refine And.intro (fun _ => ?_) (fun h => absurd h ?_); rotate_left; (focus (first | decide | (simp; done) | (simp [tcs]; done))); conv => whnf) | (refine And.intro (fun h => absurd h ?_) (fun _ => ?_); (focus (first | decide | (simp; done) | (simp [tcs]; done))); conv => whnf) | (intro _; conv => whnf))
  rfl
abbrev opT (c : Crt) (N : List Term) : HP := [.dead, .box [.c (.str (sB [])), .own 4, .own 5], .row 25 4 48 (tcs N), .row 3 1 8 (rowN (N.map szN)), .box (crtV c), .box (crtV c)]
theorem cDefer3 (c : Crt) (N : List Term) : DefSt Try.prog 46 [.ptr 0 0, .ptr 1 0] ([.box crt0, .box [.c (.int .i64 (0))]] ++ opT c N) (some trb) (fun H' => H' = [.box crt0, .box [.c (.int .i64 (30))]] ++ opT c N) := by
  refine def_intro (E := envY 8) (fn := Try.f46) (c := bodyOf Try.f46) (envY_ok 8) mixed rfl (by kernel_rfl) (by kernel_rfl) rfl (by kernel_rfl) (by kernel_rfl) (by kernel_rfl) (by kernel_rfl) rfl ?_
  conv => whnf
  repeat (first | (refine And.intro rfl ?_; conv => whnf) | (refine And.intro (by decide) ?_; conv => whnf) | (refine draw_intro true (by kernel_rfl) ?_; conv => whnf) | (refine And.intro ⟨by omega, by omega⟩ ?_; conv => whnf) | (refine And.intro (by omega) ?_; conv => whnf) | (refine And.intro (fun _ => ⟨by omega, by omega⟩) ?_; conv => whnf) | (refine And.intro (of_decide_eq_true rfl) ?_; conv => whnf) | (refine And.intro (fun _ => ?_) (fun h => absurd h ?_); rotate_left; (focus (first | decide | (simp; done) | (simp [tcs]; done))); conv => whnf) | (refine And.intro (fun h => absurd h ?_) (fun _ => ?_); (focus (first | decide | (simp; done) | (simp [tcs]; done))); conv => whnf) | (intro _; conv => whnf))
  rfl
theorem cDefer4 (c : Crt) (N : List Term) : DefSt Try.prog 46 [.ptr 0 0, .ptr 1 0] ([.box (crtV c), .box [.c (.int .i64 (0))]] ++ opT c N) none (fun H' => H' = [.box (crtV c), .box [.c (.int .i64 (0))]] ++ opT c N) := by
  refine def_intro (E := envY 8) (fn := Try.f46) (c := bodyOf Try.f46) (envY_ok 8) mixed rfl (by kernel_rfl) (by kernel_rfl) rfl (by kernel_rfl) (by kernel_rfl) (by kernel_rfl) (by kernel_rfl) rfl ?_
  conv => whnf
  repeat (first | (refine And.intro rfl ?_; conv => whnf) | (refine And.intro (by decide) ?_; conv => whnf) | (refine draw_intro true (by kernel_rfl) ?_; conv => whnf) | (refine And.intro ⟨by omega, by omega⟩ ?_; conv => whnf) | (refine And.intro (by omega) ?_; conv => whnf) | (refine And.intro (fun _ => ⟨by omega, by omega⟩) ?_; conv => whnf) | (refine And.intro (of_decide_eq_true rfl) ?_; conv => whnf) | (refine And.intro (fun _ => ?_) (fun h => absurd h ?_); rotate_left; (focus (first | decide | (simp; done) | (simp [tcs]; done))); conv => whnf) | (refine And.intro (fun h => absurd h ?_) (fun _ => ?_); (focus (first | decide | (simp; done) | (simp [tcs]; done))); conv => whnf) | (intro _; conv => whnf))
  rfl
theorem cDefer0 (c : Crt) : DefSt Try.prog 46 [.ptr 0 0, .ptr 1 0] [.box (crtV c), .box [.c (.int .i64 (0))]] none (fun H' => H' = [.box (crtV c), .box [.c (.int .i64 (0))]]) := by
  refine def_intro (E := envY 2) (fn := Try.f46) (c := bodyOf Try.f46) (envY_ok 2) mixed rfl (by kernel_rfl) (by kernel_rfl) rfl (by kernel_rfl) (by kernel_rfl) (by kernel_rfl) (by kernel_rfl) rfl ?_
  conv => whnf
  repeat (first | (refine And.intro rfl ?_; conv => whnf) | (refine And.intro (by decide) ?_; conv => whnf) | (refine draw_intro true (by kernel_rfl) ?_; conv => whnf) | (refine And.intro ⟨by omega, by omega⟩ ?_; conv => whnf) | (refine And.intro (by omega) ?_; conv => whnf) | (refine And.intro (fun _ => ⟨by omega, by omega⟩) ?_; conv => whnf) | (refine And.intro (of_decide_eq_true rfl) ?_; conv => whnf) | (refine And.intro (fun _ => ?_) (fun h => absurd h ?_); rotate_left; (focus (first | decide | (simp; done) | (simp [tcs]; done))); conv => whnf) | (refine And.intro (fun h => absurd h ?_) (fun _ => ?_); (focus (first | decide | (simp; done) | (simp [tcs]; done))); conv => whnf) | (intro _; conv => whnf))
  rfl
def crtZ : Crt := ⟨[], [], .mk 0 0 0 [], .mk 0 0 0 []⟩
theorem DefSt.mono {P : Program} {f : FuncId} {args : List AV} {H : HP} {rec : Option CV} {K K' : HP → Prop} (h : DefSt P f args H rec K) (hk : ∀ H', K H' → K' H') : DefSt P f args H rec K' := by
  unfold DefSt at *
  refine ⟨h.1, fun w S κ vs u hh hvs hu => (h.2 w S κ vs u hh hvs hu).mono ?_⟩
  rintro e u' w' ⟨v, H', κ', S', h1, h2, h3, h4⟩
  exact ⟨v, H', κ', S', h1, h2, hk _ h3, h4⟩
/-- Is it a sealed file. -/
def sealedB (l : List UInt8) : Bool := decide (l.length ≤ 60000) && decide (7 ≤ l.length) && decide (l.take 3 = [116, 114, 49]) && decide (sealB (l.take (l.length - 4)) = l)
def packS (c : Crt) : ByteArray := ⟨(sealB (packL c.S c.X (bk c (crl c).length) (rt c (crl c).length))).toArray⟩
def openC (l : List UInt8) : Option Crt := match sealedB l with
  | true => (match rdCert ((l.take (l.length - 4)).drop 3) with
    | some c => if builtB c = true ∧ packS c = sB l then some c else none
    | none => none)
  | false => none
def openV (l : List UInt8) : AV := match openC l with
  | some c => .tup [crv c, .c (.int .i64 (0))]
  | none => .tup [crv crtZ, .c (.int .i64 (30))]
theorem opPan {l : List UInt8} {T : HP} (hop : openV l = .tup [crv crtZ, .c (.int .i64 (30))]) : finF Fin5.p (envD 0) Try.f37 (fun r H' => r = openV l ∧ H' = []) AEx.ret [(2, .ptr 0 0), (3, .ptr 1 0)] ([.box crt0, .box [.c (.int .i64 (30))]] ++ T) := by
  rw [hop]
  conv => whnf
  repeat (first | (refine And.intro rfl ?_; conv => whnf) | (refine And.intro (by decide) ?_; conv => whnf) | (refine draw_intro true (by kernel_rfl) ?_; conv => whnf) | (refine And.intro ⟨by omega, by omega⟩ ?_; conv => whnf) | (refine And.intro (by omega) ?_; conv => whnf) | (refine And.intro (fun _ => ⟨by omega, by omega⟩) ?_; conv => whnf) | (refine And.intro (of_decide_eq_true rfl) ?_; conv => whnf) | (refine And.intro (fun _ => ?_) (fun h => absurd h ?_); rotate_left; (focus (first | decide | (simp; done) | (simp [tcs]; done))); conv => whnf) | (refine And.intro (fun h => absurd h ?_) (fun _ => ?_); (focus (first | decide | (simp; done) | (simp [tcs]; done))); conv => whnf) | (intro _; conv => whnf))
  all_goals rfl
set_option maxHeartbeats 4000000 in
theorem cOpened (l : List UInt8) (hl : l.length ≤ 400000) : CallSt Try.prog 37 [.c (.str (sB l))] [] (fun r H' => r = openV l ∧ H' = []) := by
  refine call_dfr (E := envD 0) (fn := Try.f37) (c := bodyOf Try.f37) (envD_ok 0) mixed (by kernel_rfl) (by kernel_rfl) (by kernel_rfl) (by kernel_rfl) (by kernel_rfl) (by kernel_rfl) rfl rfl .p [2,3] ?_
  conv => whnf
  have hsz := sB_size l
  refine ⟨by kernel_rfl, ?_⟩
  refine aw_cut _ _ rfl fun C hC => ?_
  conv => whnf
  subst hC
  refine aw_cut _ _ rfl fun C hC => ?_
  conv => whnf
  refine ⟨fun h => ?_, ?_⟩
  · rw [Bool.and_eq_true] at h
    have h7 : (7 : Int) ≤ ((sB l).size : Int) := of_decide_eq_true h.2
    exact ⟨by omega, by omega, by omega⟩
  conv => whnf
  have e3 : (decide (((sB l).size : Int) ≤ 60000) && decide (7 ≤ ((sB l).size : Int)) && decide ((sB l).extract (Int.toNat 0) (Int.toNat 3) = (⟨#[116, 114, 49]⟩ : ByteArray))) = (decide (l.length ≤ 60000) && decide (7 ≤ l.length) && decide (l.take 3 = [116, 114, 49])) := by
    rw [hsz, sB_extract]
    have h1 : decide ((l.length : Int) ≤ 60000) = decide (l.length ≤ 60000) := by by_cases h : l.length ≤ 60000 <;> simp [h] <;> omega
    have h2 : decide (7 ≤ (l.length : Int)) = decide (7 ≤ l.length) := by by_cases h : 7 ≤ l.length <;> simp [h] <;> omega
    have h3 : decide (sB ((l.take (Int.toNat 3)).drop (Int.toNat 0)) = (⟨#[116, 114, 49]⟩ : ByteArray)) = decide (l.take 3 = [116, 114, 49]) := by
      have e : ∀ m : List UInt8, decide (sB m = sB [116, 114, 49]) = decide (m = [116, 114, 49]) := fun m => by
        by_cases h : m = [116, 114, 49]
        · simp [h]
        · rw [decide_eq_false h, decide_eq_false fun e => h (sB_inj e)]
      exact e _
    rw [h1, h2, h3]
  rw [e3]
  generalize hb3 : (decide (l.length ≤ 60000) && decide (7 ≤ l.length) && decide (l.take 3 = [116, 114, 49])) = b3
  have hd := cDemand b3
  cases b3 with
  | false =>
    have hop : openV l = .tup [crv crtZ, .c (.int .i64 (30))] := by unfold openV openC sealedB; rw [hb3]; rfl
    try (refine draw_intro true (by kernel_rfl) ?_; conv => whnf)
    refine CallPt.use hd [] trivial (by decide) rfl ?_ ?_
    (focus (rintro x _ hx _; (conv => whnf); (obtain ⟨⟨rfl, _⟩, rfl⟩ := hx; exact DefSt.mono cDefer (fun H' h => by cases h; exact opPan (T := []) hop))))
    rintro _ _ ⟨h, _⟩ _
    conv => whnf
    cases h
  | true =>
    try (refine draw_intro true (by kernel_rfl) ?_; conv => whnf)
    refine CallPt.use hd [] trivial (by decide) rfl ?_ ?_
    (focus (rintro x _ hx _; (conv => whnf); exact absurd hx.1.2 (by simp)))
    rintro _ _ ⟨_, rfl, rfl⟩ _
    conv => whnf
    clear hd
    have hlb : l.length ≤ 60000 ∧ 7 ≤ l.length := by
      rw [Bool.and_eq_true, Bool.and_eq_true] at hb3
      exact ⟨of_decide_eq_true hb3.1.1, of_decide_eq_true hb3.1.2⟩
    subst hC
    refine aw_cut _ _ rfl fun C hC => ?_
    conv => whnf
    refine ⟨show inR _ by unfold inR; omega, ?_⟩
    conv => whnf
    refine ⟨⟨by omega, by omega, by omega⟩, ?_⟩
    conv => whnf
    have e4 : (sB l).extract (Int.toNat 0) (((sB l).size : Int) - 4).toNat = sB (l.take (l.length - 4)) := by
      have hx4 : (((sB l).size : Int) - 4).toNat = l.length - 4 := by rw [hsz]; omega
      rw [sB_extract, hx4]
      rfl
    rw [e4]
    generalize hl4 : l.take (l.length - 4) = l4
    have h4l : l4.length ≤ 60000 := by rw [← hl4, List.length_take]; omega
    have hs4 := sB_size l4
    refine ⟨by omega, ?_⟩
    conv => whnf
    rw [sB_list]
    have hse := cSealed l4 (by omega)
    try (refine draw_intro true (by kernel_rfl) ?_; conv => whnf)
    first | refine CallSt.use hse [2] ⟨rfl, trivial⟩ (by decide) rfl ?_ | refine CallPt.useS hse [2] ⟨rfl, trivial⟩ (by decide) rfl ?_
    rintro _ _ ⟨rfl, rfl⟩ _
    conv => whnf
    have e5 : decide ((⟨(sealB l4).toArray⟩ : ByteArray) = sB l) = decide (sealB l4 = l) := by
      by_cases h : sealB l4 = l
      · rw [decide_eq_true h, decide_eq_true (show (⟨(sealB l4).toArray⟩ : ByteArray) = sB l by rw [h]; rfl)]
      · rw [decide_eq_false h, decide_eq_false (show ¬ (⟨(sealB l4).toArray⟩ : ByteArray) = sB l from fun e => h (sB_inj (l := sealB l4) e))]
    rw [e5]
    have hd := cDemand (decide (sealB l4 = l))
    by_cases hsl : sealB l4 = l
    rotate_left
    · have hop : openV l = .tup [crv crtZ, .c (.int .i64 (30))] := by unfold openV openC sealedB; rw [hb3, hl4, decide_eq_false hsl]; rfl
      rw [decide_eq_false hsl] at hd ⊢
      try (refine draw_intro true (by kernel_rfl) ?_; conv => whnf)
      refine CallPt.use hd [] trivial (by decide) rfl ?_ ?_
      (focus (rintro x _ hx _; (conv => whnf); (obtain ⟨⟨rfl, _⟩, rfl⟩ := hx; exact DefSt.mono cDefer1 (fun H' h => by cases h; exact opPan (T := [.dead]) hop))))
      rintro _ _ ⟨h, _⟩ _
      conv => whnf
      cases h
    rw [decide_eq_true hsl] at hd ⊢
    try (refine draw_intro true (by kernel_rfl) ?_; conv => whnf)
    refine CallPt.use hd [] trivial (by decide) rfl ?_ ?_
    (focus (rintro x _ hx _; (conv => whnf); exact absurd hx.1.2 (by simp)))
    rintro _ _ ⟨_, rfl, rfl⟩ _
    conv => whnf
    clear hd
    subst hC
    refine aw_cut _ _ rfl fun C hC => ?_
    conv => whnf
    refine ⟨show inR _ by unfold inR; omega, ?_⟩
    conv => whnf
    refine ⟨⟨by omega, by omega, by omega⟩, ?_⟩
    conv => whnf
    have e6 : (sB l).extract (Int.toNat 3) (((sB l).size : Int) - 4).toNat = sB (l4.drop 3) := by
      have hx4 : (((sB l).size : Int) - 4).toNat = l.length - 4 := by rw [hsz]; omega
      rw [sB_extract, hx4, hl4]
      rfl
    rw [e6]
    generalize hl5 : l4.drop 3 = l5
    have h5l : l5.length ≤ 60000 := by rw [← hl5, List.length_drop]; omega
    have hrc := cRdCert l5 (by omega)
    repeat (first | (refine And.intro rfl ?_; conv => whnf) | (refine And.intro (by decide) ?_; conv => whnf) | (refine draw_intro true (by kernel_rfl) ?_; conv => whnf) | (refine And.intro ⟨by omega, by omega⟩ ?_; conv => whnf) | (refine And.intro (by omega) ?_; conv => whnf) | (refine And.intro (fun _ => ⟨by omega, by omega⟩) ?_; conv => whnf) | (refine And.intro (of_decide_eq_true rfl) ?_; conv => whnf) | (refine And.intro (fun _ => ?_) (fun h => absurd h ?_); rotate_left; (focus (first | decide | (simp; done) | (simp [tcs]; done))); conv => whnf) | (refine And.intro (fun h => absurd h ?_) (fun _ => ?_); (focus (first | decide | (simp; done) | (simp [tcs]; done))); conv => whnf) | (intro _; conv => whnf))
    subst hC
    refine aw_cut _ _ rfl fun C hC => ?_
    conv => whnf
    have hopn : rdCert l5 = none → openV l = .tup [crv crtZ, .c (.int .i64 (30))] := fun h => by
      unfold openV openC sealedB
      rw [hb3, hl4, decide_eq_true hsl, hl5, h]
      rfl
    try (refine draw_intro true (by kernel_rfl) ?_; conv => whnf)
    refine CallPt.use hrc [3] ⟨rfl, trivial⟩ (by decide) rfl ?_ ?_
    (focus (rintro x _ hx _; (conv => whnf); (obtain ⟨⟨rfl, hno⟩, rfl⟩ := hx; exact DefSt.mono cDefer2 (fun H' h => by cases h; exact opPan (T := [.dead, .dead]) (hopn hno)))))
    rintro _ _ ⟨c, N, hR, rfl, rfl⟩ _
    conv => whnf
    clear hopn hrc
    have hops : openV l = match (if builtB c = true ∧ packS c = sB l then some c else none) with
      | some c => .tup [crv c, .c (.int .i64 (0))]
      | none => .tup [crv crtZ, .c (.int .i64 (30))] := by
      unfold openV openC sealedB
      rw [hb3, hl4, decide_eq_true hsl, hl5, hR]
      rfl
    have hbu := cBuilt c
    repeat (first | (refine And.intro rfl ?_; conv => whnf) | (refine And.intro (by decide) ?_; conv => whnf) | (refine draw_intro true (by kernel_rfl) ?_; conv => whnf) | (refine And.intro ⟨by omega, by omega⟩ ?_; conv => whnf) | (refine And.intro (by omega) ?_; conv => whnf) | (refine And.intro (fun _ => ⟨by omega, by omega⟩) ?_; conv => whnf) | (refine And.intro (of_decide_eq_true rfl) ?_; conv => whnf) | (refine And.intro (fun _ => ?_) (fun h => absurd h ?_); rotate_left; (focus (first | decide | (simp; done) | (simp [tcs]; done))); conv => whnf) | (refine And.intro (fun h => absurd h ?_) (fun _ => ?_); (focus (first | decide | (simp; done) | (simp [tcs]; done))); conv => whnf) | (intro _; conv => whnf))
    subst hC
    refine aw_cut _ _ rfl fun C hC => ?_
    conv => whnf
    try (refine draw_intro true (by kernel_rfl) ?_; conv => whnf)
    first | refine CallSt.use hbu [] trivial (by decide) rfl ?_ | refine CallPt.useS hbu [] trivial (by decide) rfl ?_
    rintro _ _ ⟨rfl, rfl⟩ _
    conv => whnf
    cases hbb : builtB c with
    | false =>
      have hop2 : openV l = .tup [crv crtZ, .c (.int .i64 (30))] := by rw [hops, hbb]; rfl
      have hd := cDemand false
      conv => whnf
      repeat (first | (refine And.intro rfl ?_; conv => whnf) | (refine And.intro (by decide) ?_; conv => whnf) | (refine And.intro ⟨by omega, by omega⟩ ?_; conv => whnf) | (refine And.intro (by omega) ?_; conv => whnf) | (refine And.intro (fun _ => ⟨by omega, by omega⟩) ?_; conv => whnf) | (refine And.intro (of_decide_eq_true rfl) ?_; conv => whnf) | (refine And.intro (fun _ => ?_) (fun h => absurd h ?_); rotate_left; (focus (first | decide | (simp; done) | (simp [tcs]; done))); conv => whnf) | (refine And.intro (fun h => absurd h ?_) (fun _ => ?_); (focus (first | decide | (simp; done) | (simp [tcs]; done))); conv => whnf))
      try (refine draw_intro true (by kernel_rfl) ?_; conv => whnf)
      refine CallPt.use hd [] trivial (by decide) rfl ?_ ?_
      (focus (rintro x _ hx _; (conv => whnf); (obtain ⟨⟨rfl, _⟩, rfl⟩ := hx; exact DefSt.mono (cDefer3 c N) (fun H' h => by cases h; exact opPan (T := opT c N) hop2))))
      rintro _ _ ⟨h, _⟩ _
      conv => whnf
      cases h
    | true =>
      have hpk := cPacked c (built_ok hbb)
      conv => whnf
      repeat (first | (refine And.intro rfl ?_; conv => whnf) | (refine And.intro (by decide) ?_; conv => whnf) | (refine And.intro ⟨by omega, by omega⟩ ?_; conv => whnf) | (refine And.intro (by omega) ?_; conv => whnf) | (refine And.intro (fun _ => ⟨by omega, by omega⟩) ?_; conv => whnf) | (refine And.intro (of_decide_eq_true rfl) ?_; conv => whnf) | (refine And.intro (fun _ => ?_) (fun h => absurd h ?_); rotate_left; (focus (first | decide | (simp; done) | (simp [tcs]; done))); conv => whnf) | (refine And.intro (fun h => absurd h ?_) (fun _ => ?_); (focus (first | decide | (simp; done) | (simp [tcs]; done))); conv => whnf))
      try (refine draw_intro true (by kernel_rfl) ?_; conv => whnf)
      first | refine CallSt.use hpk [] trivial (by decide) rfl ?_ | refine CallPt.useS hpk [] trivial (by decide) rfl ?_
      rintro _ _ ⟨rfl, rfl⟩ _
      conv => whnf
      generalize hpp : decide ((⟨(sealB (packL c.S c.X (bk c (crl c).length) (rt c (crl c).length))).toArray⟩ : ByteArray) = sB l) = pp
      have hd := cDemand pp
      cases pp with
      | false =>
        have hop2 : openV l = .tup [crv crtZ, .c (.int .i64 (30))] := by rw [hops, if_neg (fun h => of_decide_eq_false hpp h.2)]
        try (refine draw_intro true (by kernel_rfl) ?_; conv => whnf)
        refine CallPt.use hd [] trivial (by decide) rfl ?_ ?_
        (focus (rintro x _ hx _; (conv => whnf); (obtain ⟨⟨rfl, _⟩, rfl⟩ := hx; exact DefSt.mono (cDefer3 c N) (fun H' h => by cases h; exact opPan (T := opT c N) hop2))))
        rintro _ _ ⟨h, _⟩ _
        conv => whnf
        cases h
      | true =>
        have hop3 : openV l = .tup [crv c, .c (.int .i64 (0))] := by rw [hops, if_pos ⟨hbb, of_decide_eq_true hpp⟩]
        try (refine draw_intro true (by kernel_rfl) ?_; conv => whnf)
        refine CallPt.use hd [] trivial (by decide) rfl ?_ ?_
        (focus (rintro x _ hx _; (conv => whnf); exact absurd hx.1.2 (by simp)))
        rintro _ _ ⟨_, rfl, rfl⟩ _
        conv => whnf
        rw [hop3]
        subst hC
        conv => whnf
        repeat (first | (refine And.intro rfl ?_; conv => whnf) | (refine And.intro (by decide) ?_; conv => whnf) | (refine draw_intro true (by kernel_rfl) ?_; conv => whnf) | (refine And.intro ⟨by omega, by omega⟩ ?_; conv => whnf) | (refine And.intro (by omega) ?_; conv => whnf) | (refine And.intro (fun _ => ⟨by omega, by omega⟩) ?_; conv => whnf) | (refine And.intro (of_decide_eq_true rfl) ?_; conv => whnf) | (refine And.intro (fun _ => ?_) (fun h => absurd h ?_); rotate_left; (focus (first | decide | (simp; done) | (simp [tcs]; done))); conv => whnf) | (refine And.intro (fun h => absurd h ?_) (fun _ => ?_); (focus (first | decide | (simp; done) | (simp [tcs]; done))); conv => whnf) | (intro _; conv => whnf))
        refine DefSt.mono (cDefer4 c N) (fun H' h => ?_)
        cases h
        conv => whnf
        repeat (first | (refine And.intro rfl ?_; conv => whnf) | (refine And.intro (by decide) ?_; conv => whnf) | (refine draw_intro true (by kernel_rfl) ?_; conv => whnf) | (refine And.intro ⟨by omega, by omega⟩ ?_; conv => whnf) | (refine And.intro (by omega) ?_; conv => whnf) | (refine And.intro (fun _ => ⟨by omega, by omega⟩) ?_; conv => whnf) | (refine And.intro (of_decide_eq_true rfl) ?_; conv => whnf) | (refine And.intro (fun _ => ?_) (fun h => absurd h ?_); rotate_left; (focus (first | decide | (simp; done) | (simp [tcs]; done))); conv => whnf) | (refine And.intro (fun h => absurd h ?_) (fun _ => ?_); (focus (first | decide | (simp; done) | (simp [tcs]; done))); conv => whnf) | (intro _; conv => whnf))
        all_goals rfl
end Go.Tr
/- cert: Unpack. -/
namespace Go.Tr
open Go.Proofs
theorem cUnpack (l : List UInt8) (hl : l.length ≤ 400000) : CallSt Try.prog 20 [.c (.str (sB l))] [] (fun r H' => r = openV l ∧ H' = []) := by
  have ho := cOpened l hl
  cases h : openC l with
  | none =>
    have e : openV l = .tup [crv crtZ, .c (.int .i64 (30))] := by unfold openV; rw [h]
    rw [e] at ho ⊢
    refine call_pure (E := env 0) (fn := Try.f20) (c := bodyOf Try.f20) (env_ok 0) mixed (by kernel_rfl) (by kernel_rfl) (by kernel_rfl) (by kernel_rfl) (by kernel_rfl) (by kernel_rfl) rfl ?_
    conv => whnf
    repeat (first | (refine And.intro rfl ?_; conv => whnf) | (refine And.intro (by decide) ?_; conv => whnf) | (refine draw_intro true (by kernel_rfl) ?_; conv => whnf) | (refine And.intro ⟨by omega, by omega⟩ ?_; conv => whnf) | (refine And.intro (by omega) ?_; conv => whnf) | (refine And.intro (fun _ => ⟨by omega, by omega⟩) ?_; conv => whnf) | (refine And.intro (of_decide_eq_true rfl) ?_; conv => whnf) | (refine And.intro (fun _ => ?_) (fun h => absurd h ?_); rotate_left; (focus (first | decide | (simp; done) | (simp [tcs]; done))); conv => whnf) | (refine And.intro (fun h => absurd h ?_) (fun _ => ?_); (focus (first | decide | (simp; done) | (simp [tcs]; done))); conv => whnf) | (intro _; conv => whnf))
    try (refine draw_intro true (by kernel_rfl) ?_; conv => whnf)
    first | refine CallSt.use ho [] trivial (by decide) rfl ?_ | refine CallPt.useS ho [] trivial (by decide) rfl ?_
    rintro _ _ ⟨rfl, rfl⟩ _
    conv => whnf
    repeat (first | (refine And.intro rfl ?_; conv => whnf) | (refine And.intro (by decide) ?_; conv => whnf) | (refine draw_intro true (by kernel_rfl) ?_; conv => whnf) | (refine And.intro ⟨by omega, by omega⟩ ?_; conv => whnf) | (refine And.intro (by omega) ?_; conv => whnf) | (refine And.intro (fun _ => ⟨by omega, by omega⟩) ?_; conv => whnf) | (refine And.intro (of_decide_eq_true rfl) ?_; conv => whnf) | (refine And.intro (fun _ => ?_) (fun h => absurd h ?_); rotate_left; (focus (first | decide | (simp; done) | (simp [tcs]; done))); conv => whnf) | (refine And.intro (fun h => absurd h ?_) (fun _ => ?_); (focus (first | decide | (simp; done) | (simp [tcs]; done))); conv => whnf) | (intro _; conv => whnf))
    all_goals rfl
  | some c =>
    have e : openV l = .tup [crv c, .c (.int .i64 (0))] := by unfold openV; rw [h]
    rw [e] at ho ⊢
    refine call_pure (E := env 0) (fn := Try.f20) (c := bodyOf Try.f20) (env_ok 0) mixed (by kernel_rfl) (by kernel_rfl) (by kernel_rfl) (by kernel_rfl) (by kernel_rfl) (by kernel_rfl) rfl ?_
    conv => whnf
    repeat (first | (refine And.intro rfl ?_; conv => whnf) | (refine And.intro (by decide) ?_; conv => whnf) | (refine draw_intro true (by kernel_rfl) ?_; conv => whnf) | (refine And.intro ⟨by omega, by omega⟩ ?_; conv => whnf) | (refine And.intro (by omega) ?_; conv => whnf) | (refine And.intro (fun _ => ⟨by omega, by omega⟩) ?_; conv => whnf) | (refine And.intro (of_decide_eq_true rfl) ?_; conv => whnf) | (refine And.intro (fun _ => ?_) (fun h => absurd h ?_); rotate_left; (focus (first | decide | (simp; done) | (simp [tcs]; done))); conv => whnf) | (refine And.intro (fun h => absurd h ?_) (fun _ => ?_); (focus (first | decide | (simp; done) | (simp [tcs]; done))); conv => whnf) | (intro _; conv => whnf))
    try (refine draw_intro true (by kernel_rfl) ?_; conv => whnf)
    first | refine CallSt.use ho [] trivial (by decide) rfl ?_ | refine CallPt.useS ho [] trivial (by decide) rfl ?_
    rintro _ _ ⟨rfl, rfl⟩ _
    conv => whnf
    repeat (first | (refine And.intro rfl ?_; conv => whnf) | (refine And.intro (by decide) ?_; conv => whnf) | (refine draw_intro true (by kernel_rfl) ?_; conv => whnf) | (refine And.intro ⟨by omega, by omega⟩ ?_; conv => whnf) | (refine And.intro (by omega) ?_; conv => whnf) | (refine And.intro (fun _ => ⟨by omega, by omega⟩) ?_; conv => whnf) | (refine And.intro (of_decide_eq_true rfl) ?_; conv => whnf) | (refine And.intro (fun _ => ?_) (fun h => absurd h ?_); rotate_left; (focus (first | decide | (simp; done) | (simp [tcs]; done))); conv => whnf) | (refine And.intro (fun h => absurd h ?_) (fun _ => ?_); (focus (first | decide | (simp; done) | (simp [tcs]; done))); conv => whnf) | (intro _; conv => whnf))
    all_goals rfl
end Go.Tr
/- The law CertSealed. -/
namespace Go.Tr
open Go.Proofs
theorem openC_ok {l : List UInt8} {c : Crt} (h : openC l = some c) : builtB c = true ∧ packS c = sB l := by
  unfold openC at h
  split at h
  · split at h
    · split at h
      · rename_i hb
        injection h with h
        subst h
        exact hb
      · cases h
    · cases h
  · cases h
set_option maxHeartbeats 4000000 in
theorem cSealedL (s : ByteArray) : CallSt Try.prog 8 [.c (.str s)] [] (fun r H' => r = .c (.bool true) ∧ H' = []) := by
  have haw := cAwake19
  refine call_pure (E := env 0) (fn := Try.f8) (c := bodyOf Try.f8) (env_ok 0) mixed (by kernel_rfl) (by kernel_rfl) (by kernel_rfl) (by kernel_rfl) (by kernel_rfl) (by kernel_rfl) rfl ?_
  conv => whnf
  repeat (first | (refine And.intro rfl ?_; conv => whnf) | (refine And.intro (by decide) ?_; conv => whnf) | (refine draw_intro true (by kernel_rfl) ?_; conv => whnf) | (refine And.intro ⟨by omega, by omega⟩ ?_; conv => whnf) | (refine And.intro (by omega) ?_; conv => whnf) | (refine And.intro (fun _ => ⟨by omega, by omega⟩) ?_; conv => whnf) | (refine And.intro (of_decide_eq_true rfl) ?_; conv => whnf) | (refine And.intro (fun _ => ?_) (fun h => absurd h ?_); rotate_left; (focus (first | decide | (simp; done) | (simp [tcs]; done))); conv => whnf) | (refine And.intro (fun h => absurd h ?_) (fun _ => ?_); (focus (first | decide | (simp; done) | (simp [tcs]; done))); conv => whnf) | (intro _; conv => whnf))
  generalize hm : (if (1000 : Int) < (s.size : Int) then (1000 : Int) else (s.size : Int)).toNat = k
  have hk : k ≤ 1000 := by rw [← hm]; split <;> omega
  have hx : (s.extract (Int.toNat 0) k).size ≤ 1000 := by rw [ByteArray.size_extract]; omega
  generalize s.extract (Int.toNat 0) k = y at *
  have h3 : (⟨#[116, 114, 49]⟩ : ByteArray).size = 3 := rfl
  refine ⟨show (⟨#[116, 114, 49]⟩ : ByteArray).size + y.size ≤ 9223372036854775807 by omega, ?_⟩
  conv => whnf
  have hzs : ((⟨#[116, 114, 49]⟩ : ByteArray) ++ y).size ≤ 1003 := by rw [ByteArray.size_append]; omega
  generalize (⟨#[116, 114, 49]⟩ : ByteArray) ++ y = z at *
  have hse := cRSeal z (by omega)
  have hlz : z.data.toList.length = z.size := by rw [Array.length_toList]; rfl
  have hll : (sealB z.data.toList).length = z.data.toList.length + 4 := by simp [sealB]
  generalize sealB z.data.toList = l at *
  have hun := cUnpack l (by omega)
  repeat (first | (refine And.intro rfl ?_; conv => whnf) | (refine And.intro (by decide) ?_; conv => whnf) | (refine And.intro ⟨by omega, by omega⟩ ?_; conv => whnf) | (refine And.intro (by omega) ?_; conv => whnf) | (refine And.intro (fun _ => ⟨by omega, by omega⟩) ?_; conv => whnf) | (refine And.intro (of_decide_eq_true rfl) ?_; conv => whnf) | (refine And.intro (fun _ => ?_) (fun h => absurd h ?_); rotate_left; (focus (first | decide | (simp; done) | (simp [tcs]; done))); conv => whnf) | (refine And.intro (fun h => absurd h ?_) (fun _ => ?_); (focus (first | decide | (simp; done) | (simp [tcs]; done))); conv => whnf))
  try (refine draw_intro true (by kernel_rfl) ?_; conv => whnf)
  first | refine CallSt.use hse [] trivial (by decide) rfl ?_ | refine CallPt.useS hse [] trivial (by decide) rfl ?_
  rintro _ _ ⟨rfl, rfl⟩ _
  conv => whnf
  repeat (first | (refine And.intro rfl ?_; conv => whnf) | (refine And.intro (by decide) ?_; conv => whnf) | (refine draw_intro true (by kernel_rfl) ?_; conv => whnf) | (refine And.intro ⟨by omega, by omega⟩ ?_; conv => whnf) | (refine And.intro (by omega) ?_; conv => whnf) | (refine And.intro (fun _ => ⟨by omega, by omega⟩) ?_; conv => whnf) | (refine And.intro (of_decide_eq_true rfl) ?_; conv => whnf) | (refine And.intro (fun _ => ?_) (fun h => absurd h ?_); rotate_left; (focus (first | decide | (simp; done) | (simp [tcs]; done))); conv => whnf) | (refine And.intro (fun h => absurd h ?_) (fun _ => ?_); (focus (first | decide | (simp; done) | (simp [tcs]; done))); conv => whnf) | (intro _; conv => whnf))
  cases ho : openC l with
  | none =>
    have e : openV l = .tup [crv crtZ, .c (.int .i64 (30))] := by unfold openV; rw [ho]
    rw [e] at hun
    try (refine draw_intro true (by kernel_rfl) ?_; conv => whnf)
    first | refine CallSt.use hun [] trivial (by decide) rfl ?_ | refine CallPt.useS hun [] trivial (by decide) rfl ?_
    rintro _ _ ⟨rfl, rfl⟩ _
    conv => whnf
    repeat (first | (refine And.intro rfl ?_; conv => whnf) | (refine And.intro (by decide) ?_; conv => whnf) | (refine draw_intro true (by kernel_rfl) ?_; conv => whnf) | (refine And.intro ⟨by omega, by omega⟩ ?_; conv => whnf) | (refine And.intro (by omega) ?_; conv => whnf) | (refine And.intro (fun _ => ⟨by omega, by omega⟩) ?_; conv => whnf) | (refine And.intro (of_decide_eq_true rfl) ?_; conv => whnf) | (refine And.intro (fun _ => ?_) (fun h => absurd h ?_); rotate_left; (focus (first | decide | (simp; done) | (simp [tcs]; done))); conv => whnf) | (refine And.intro (fun h => absurd h ?_) (fun _ => ?_); (focus (first | decide | (simp; done) | (simp [tcs]; done))); conv => whnf) | (intro _; conv => whnf))
    try (refine draw_intro true (by kernel_rfl) ?_; conv => whnf)
    first | refine CallSt.use haw [] trivial (by decide) rfl ?_ | refine CallPt.useS haw [] trivial (by decide) rfl ?_
    rintro _ _ ⟨rfl, rfl⟩ _
    conv => whnf
    repeat (first | (refine And.intro rfl ?_; conv => whnf) | (refine And.intro (by decide) ?_; conv => whnf) | (refine draw_intro true (by kernel_rfl) ?_; conv => whnf) | (refine And.intro ⟨by omega, by omega⟩ ?_; conv => whnf) | (refine And.intro (by omega) ?_; conv => whnf) | (refine And.intro (fun _ => ⟨by omega, by omega⟩) ?_; conv => whnf) | (refine And.intro (of_decide_eq_true rfl) ?_; conv => whnf) | (refine And.intro (fun _ => ?_) (fun h => absurd h ?_); rotate_left; (focus (first | decide | (simp; done) | (simp [tcs]; done))); conv => whnf) | (refine And.intro (fun h => absurd h ?_) (fun _ => ?_); (focus (first | decide | (simp; done) | (simp [tcs]; done))); conv => whnf) | (intro _; conv => whnf))
    all_goals (first | rfl | exact ⟨rfl, rfl⟩ | exact ⟨rfl, rfl, rfl⟩)
  | some c =>
    have e : openV l = .tup [crv c, .c (.int .i64 (0))] := by unfold openV; rw [ho]
    obtain ⟨hb, hp⟩ := openC_ok ho
    have hpk := cPack c
    have hbu := cBuilt c
    have hsz : ((⟨(packB c).toArray⟩ : ByteArray).size : Int) ≤ 60000 := by
      have : (⟨(packB c).toArray⟩ : ByteArray) = sB l := hp
      rw [this, sB_size]
      omega
    have ep : packV c = .tup [.c (.str (sB l)), .c (.int .i64 (0))] := by
      unfold packV
      rw [hb, decide_eq_false (by omega)]
      exact congrArg (fun x => AV.tup [.c (.str x), .c (.int .i64 (0))]) hp
    rw [e] at hun
    rw [ep] at hpk
    rw [hb] at hbu
    try (refine draw_intro true (by kernel_rfl) ?_; conv => whnf)
    first | refine CallSt.use hun [] trivial (by decide) rfl ?_ | refine CallPt.useS hun [] trivial (by decide) rfl ?_
    rintro _ _ ⟨rfl, rfl⟩ _
    conv => whnf
    repeat (first | (refine And.intro rfl ?_; conv => whnf) | (refine And.intro (by decide) ?_; conv => whnf) | (refine draw_intro true (by kernel_rfl) ?_; conv => whnf) | (refine And.intro ⟨by omega, by omega⟩ ?_; conv => whnf) | (refine And.intro (by omega) ?_; conv => whnf) | (refine And.intro (fun _ => ⟨by omega, by omega⟩) ?_; conv => whnf) | (refine And.intro (of_decide_eq_true rfl) ?_; conv => whnf) | (refine And.intro (fun _ => ?_) (fun h => absurd h ?_); rotate_left; (focus (first | decide | (simp; done) | (simp [tcs]; done))); conv => whnf) | (refine And.intro (fun h => absurd h ?_) (fun _ => ?_); (focus (first | decide | (simp; done) | (simp [tcs]; done))); conv => whnf) | (intro _; conv => whnf))
    try (refine draw_intro true (by kernel_rfl) ?_; conv => whnf)
    first | refine CallSt.use hpk [] trivial (by decide) rfl ?_ | refine CallPt.useS hpk [] trivial (by decide) rfl ?_
    rintro _ _ ⟨rfl, rfl⟩ _
    conv => whnf
    repeat (first | (refine And.intro rfl ?_; conv => whnf) | (refine And.intro (by decide) ?_; conv => whnf) | (refine draw_intro true (by kernel_rfl) ?_; conv => whnf) | (refine And.intro ⟨by omega, by omega⟩ ?_; conv => whnf) | (refine And.intro (by omega) ?_; conv => whnf) | (refine And.intro (fun _ => ⟨by omega, by omega⟩) ?_; conv => whnf) | (refine And.intro (of_decide_eq_true rfl) ?_; conv => whnf) | (refine And.intro (fun _ => ?_) (fun h => absurd h ?_); rotate_left; (focus (first | decide | (simp; done) | (simp [tcs]; done))); conv => whnf) | (refine And.intro (fun h => absurd h ?_) (fun _ => ?_); (focus (first | decide | (simp; done) | (simp [tcs]; done))); conv => whnf) | (intro _; conv => whnf))
    have et : (decide ((0 : Int) = 0) && decide (sB l = (⟨l.toArray⟩ : ByteArray))) = true := by rw [decide_eq_true rfl, decide_eq_true (show sB l = (⟨l.toArray⟩ : ByteArray) from rfl)]; rfl
    refine ⟨fun _ => ?_, fun h => Bool.noConfusion (et.symm.trans h)⟩
    conv => whnf
    repeat (first | (refine And.intro rfl ?_; conv => whnf) | (refine And.intro (by decide) ?_; conv => whnf) | (refine And.intro ⟨by omega, by omega⟩ ?_; conv => whnf) | (refine And.intro (by omega) ?_; conv => whnf) | (refine And.intro (fun _ => ⟨by omega, by omega⟩) ?_; conv => whnf) | (refine And.intro (of_decide_eq_true rfl) ?_; conv => whnf) | (refine And.intro (fun _ => ?_) (fun h => absurd h ?_); rotate_left; (focus (first | decide | (simp; done) | (simp [tcs]; done))); conv => whnf) | (refine And.intro (fun h => absurd h ?_) (fun _ => ?_); (focus (first | decide | (simp; done) | (simp [tcs]; done))); conv => whnf))
    try (refine draw_intro true (by kernel_rfl) ?_; conv => whnf)
    first | refine CallSt.use hbu [] trivial (by decide) rfl ?_ | refine CallPt.useS hbu [] trivial (by decide) rfl ?_
    rintro _ _ ⟨rfl, rfl⟩ _
    conv => whnf
    repeat (first | (refine And.intro rfl ?_; conv => whnf) | (refine And.intro (by decide) ?_; conv => whnf) | (refine draw_intro true (by kernel_rfl) ?_; conv => whnf) | (refine And.intro ⟨by omega, by omega⟩ ?_; conv => whnf) | (refine And.intro (by omega) ?_; conv => whnf) | (refine And.intro (fun _ => ⟨by omega, by omega⟩) ?_; conv => whnf) | (refine And.intro (of_decide_eq_true rfl) ?_; conv => whnf) | (refine And.intro (fun _ => ?_) (fun h => absurd h ?_); rotate_left; (focus (first | decide | (simp; done) | (simp [tcs]; done))); conv => whnf) | (refine And.intro (fun h => absurd h ?_) (fun _ => ?_); (focus (first | decide | (simp; done) | (simp [tcs]; done))); conv => whnf) | (intro _; conv => whnf))
    try (refine draw_intro true (by kernel_rfl) ?_; conv => whnf)
    first | refine CallSt.use haw [] trivial (by decide) rfl ?_ | refine CallPt.useS haw [] trivial (by decide) rfl ?_
    rintro _ _ ⟨rfl, rfl⟩ _
    conv => whnf
    repeat (first | (refine And.intro rfl ?_; conv => whnf) | (refine And.intro (by decide) ?_; conv => whnf) | (refine draw_intro true (by kernel_rfl) ?_; conv => whnf) | (refine And.intro ⟨by omega, by omega⟩ ?_; conv => whnf) | (refine And.intro (by omega) ?_; conv => whnf) | (refine And.intro (fun _ => ⟨by omega, by omega⟩) ?_; conv => whnf) | (refine And.intro (of_decide_eq_true rfl) ?_; conv => whnf) | (refine And.intro (fun _ => ?_) (fun h => absurd h ?_); rotate_left; (focus (first | decide | (simp; done) | (simp [tcs]; done))); conv => whnf) | (refine And.intro (fun h => absurd h ?_) (fun _ => ?_); (focus (first | decide | (simp; done) | (simp [tcs]; done))); conv => whnf) | (intro _; conv => whnf))
    all_goals (first | rfl | exact ⟨rfl, rfl⟩ | exact ⟨rfl, rfl, rfl⟩)
end Go.Tr
