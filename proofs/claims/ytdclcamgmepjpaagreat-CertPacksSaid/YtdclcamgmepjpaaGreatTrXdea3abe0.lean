/- What each function computes, and the plain laws of it. -/
import Derived.Test.YtdclcamgmepjpaaGreatTrXd9e224bc
set_option linter.unusedVariables false
set_option linter.unusedSimpArgs false
set_option linter.unnecessarySimpa false
set_option autoImplicit false
/- The reference of trusslaw19: Pack. -/
namespace Go.Tr
open Go.Proofs
set_option maxHeartbeats 4000000 in
theorem cRPack (c : Crt) (h : OkC c) : CallSt Tryz.prog 15 [crv c] [] (fun r H' => r = .c (.str ⟨(packB c).toArray⟩) ∧ H' = []) := by
  have ha := cRAll c h.sane
  have hcl := crl_len c
  have hS := h.sane.S
  have hX := h.X
  obtain ⟨g1, g2, g3⟩ := bk_good h.sane (crl c).length
  rw [List.take_length] at g2 g3
  have hsa := szL_all (crl c) fun u hu => (h.sane.t u hu).2
  have hBs : ∀ t ∈ bk c (crl c).length, wf t ∧ szT t ≤ 600 := fun t ht => ⟨g1.wf t ht, bk_sz h.sane _ t ht⟩
  have hnm := h.names
  have hRl := rt_len c (crl c).length (Nat.le_refl _)
  have hRb : ∀ x ∈ rt c (crl c).length, x < (bk c (crl c).length).length := fun x hx => by
    unfold rt at hx
    rw [List.take_length] at hx
    obtain ⟨u, hu, rfl⟩ := List.mem_map.1 hx
    exact pl_lt (g2 u hu)
  have e1 : rt c c.S.length = (rt c (crl c).length).take c.S.length := by
    have := rt_take h.sane c.S.length (c.X.length + 2) (by omega)
    rw [show c.S.length + (c.X.length + 2) = (crl c).length by omega] at this
    exact this.symm
  have e2 : (rt c (c.S.length + c.X.length)).drop c.S.length = ((rt c (crl c).length).drop c.S.length).take c.X.length := by
    have := rt_take h.sane (c.S.length + c.X.length) 2 (by omega)
    rw [show c.S.length + c.X.length + 2 = (crl c).length by omega] at this
    rw [← this, List.drop_take]
    congr 1
    omega
  have e3 : ((rt c (crl c).length).drop c.S.length).drop c.X.length = [pl (bk c (c.S.length + c.X.length + 1)) c.o, pl (bk c (c.S.length + c.X.length + 2)) c.c] := by
    have s1 := rt_step h.sane (crl_o c)
    have s2 := rt_step h.sane (crl_c c)
    rw [← bk_step (crl_o c)] at s1
    rw [← bk_step (crl_c c)] at s2
    have l0 := rt_len c (c.S.length + c.X.length) (by omega)
    rw [hcl, s2, s1, List.drop_drop, List.append_assoc, List.drop_append_of_le_length (by omega), List.drop_of_length_le (by omega)]
    rfl
  have eP : (⟨(packB c).toArray⟩ : ByteArray) = ⟨(sealB (packL c.S c.X (bk c (crl c).length) (rt c (crl c).length))).toArray⟩ := rfl
  rw [eP]
  clear eP
  unfold allV at ha
  rw [e1, e2] at ha
  unfold nodesOf at ha
  clear e1 e2
  clear h
  generalize crl c = qq at *
  generalize (pl _ c.o) = o at *
  generalize (pl _ c.c) = cc at *
  obtain ⟨S, X, ⟨k, l, n, ts⟩, ⟨k2, l2, n2, us⟩⟩ := c
  generalize bk _ _ = B at *
  generalize rt _ _ = R at *
  unfold crv at *
  dsimp only [Term.k, Term.l, Term.n, Term.ts] at *
  have hob : o < B.length := hRb o (by have : o ∈ (R.drop S.length).drop X.length := by rw [e3]; simp
                                       exact List.mem_of_mem_drop (List.mem_of_mem_drop this))
  have hcb : cc < B.length := hRb cc (by have : cc ∈ (R.drop S.length).drop X.length := by rw [e3]; simp
                                         exact List.mem_of_mem_drop (List.mem_of_mem_drop this))
  unfold packL
  rw [e3]
  have hR1b : ∀ x ∈ R.take S.length, x < B.length := fun x hx => hRb x (List.mem_of_mem_take hx)
  have hR2b : ∀ x ∈ (R.drop S.length).take X.length, x < B.length := fun x hx => hRb x (List.mem_of_mem_drop (List.mem_of_mem_take hx))
  have hR1l : (R.take S.length).length = S.length := by rw [List.length_take]; omega
  have hR2l : ((R.drop S.length).take X.length).length = X.length := by rw [List.length_take, List.length_drop]; omega
  have hDB : declsB S R S.length = declsB S (R.take S.length) S.length := by
    have : ∀ n, n ≤ S.length → declsB S R n = declsB S (R.take S.length) n := fun n => by
      induction n with
      | zero => intro _; rfl
      | succ n ih =>
        intro hn
        rw [declsB, declsB, ih (by omega), List.getElem?_take, if_pos (by omega)]
    exact this _ (Nat.le_refl _)
  rw [hDB]
  clear e3 hDB
  generalize (R.drop S.length).take X.length = R2 at *
  generalize R.take S.length = R1 at *
  clear hRb hRl
  have hnl := nds2_len B
  have hBl : B.length ≤ 121200 := by omega
  have hnb := nodesB_len hBs (by omega)
  have hn0 := cRNum [116, 114, 49] B.length (by have := digs9 (n := B.length) (by omega); simp; omega) (by omega)
  have hd0 := digs9 (n := B.length) (by omega)
  rw [bR_tr1, ← hnl] at hn0
  refine call_pure (E := envK 0) (fn := Tryz.f15) (c := bodyOf Tryz.f15) (envK_ok 0) mixed (by kernel_rfl) (by kernel_rfl) (by kernel_rfl) (by kernel_rfl) (by kernel_rfl) (by kernel_rfl) rfl ?_
  conv => whnf
  repeat (first | (refine And.intro rfl ?_; conv => whnf) | (refine And.intro (by decide) ?_; conv => whnf) | (refine draw_intro true (by kernel_rfl) ?_; conv => whnf) | (refine And.intro ⟨by omega, by omega⟩ ?_; conv => whnf) | (refine And.intro (by omega) ?_; conv => whnf) | (refine And.intro (fun _ => ⟨by omega, by omega⟩) ?_; conv => whnf) | (refine And.intro (of_decide_eq_true rfl) ?_; conv => whnf) | (refine And.intro (fun _ => ?_) (fun h => absurd h ?_); rotate_left; (focus (first | decide | (simp; done) | (simp [tcs]; done))); conv => whnf) | (refine And.intro (fun h => absurd h ?_) (fun _ => ?_); (focus (first | decide | (simp; done) | (simp [tcs]; done))); conv => whnf) | (intro _; conv => whnf))
  refine CallSt.wk _ (Wk.trans (Wk.nilrow (i := 1) (j := 0) 82 4 48 rfl rfl rfl) (Wk.nilrow (i := 1) (j := 1) 25 4 48 rfl rfl rfl)) ?_
  try (refine draw_intro true (by kernel_rfl) ?_; conv => whnf)
  first | refine CallSt.use ha [1, 2, 3] ⟨rfl, rfl, rfl, trivial⟩ (by decide) rfl ?_ | refine CallPt.useS ha [1, 2, 3] ⟨rfl, rfl, rfl, trivial⟩ (by decide) rfl ?_
  rintro _ _ ⟨rfl, rfl⟩ _
  conv => whnf
  repeat (first | (refine And.intro rfl ?_; conv => whnf) | (refine And.intro (by decide) ?_; conv => whnf) | (refine And.intro ⟨by omega, by omega⟩ ?_; conv => whnf) | (refine And.intro (by omega) ?_; conv => whnf) | (refine And.intro (fun _ => ⟨by omega, by omega⟩) ?_; conv => whnf) | (refine And.intro (of_decide_eq_true rfl) ?_; conv => whnf) | (refine And.intro (fun _ => ?_) (fun h => absurd h ?_); rotate_left; (focus (first | decide | (simp; done) | (simp [tcs]; done))); conv => whnf) | (refine And.intro (fun h => absurd h ?_) (fun _ => ?_); (focus (first | decide | (simp; done) | (simp [tcs]; done))); conv => whnf))
  intro hgl
  conv => whnf
  repeat (first | (refine And.intro rfl ?_; conv => whnf) | (refine And.intro (by decide) ?_; conv => whnf) | (refine And.intro ⟨by omega, by omega⟩ ?_; conv => whnf) | (refine And.intro (by omega) ?_; conv => whnf) | (refine And.intro (fun _ => ⟨by omega, by omega⟩) ?_; conv => whnf) | (refine And.intro (of_decide_eq_true rfl) ?_; conv => whnf) | (refine And.intro (fun _ => ?_) (fun h => absurd h ?_); rotate_left; (focus (first | decide | (simp; done) | (simp [tcs]; done))); conv => whnf) | (refine And.intro (fun h => absurd h ?_) (fun _ => ?_); (focus (first | decide | (simp; done) | (simp [tcs]; done))); conv => whnf))
  try (refine draw_intro true (by kernel_rfl) ?_; conv => whnf)
  first | refine CallSt.use hn0 [8] ⟨rfl, trivial⟩ (by decide) rfl ?_ | refine CallPt.useS hn0 [8] ⟨rfl, trivial⟩ (by decide) rfl ?_
  rintro _ _ ⟨rfl, rfl⟩ _
  conv => whnf
  repeat (first | (refine And.intro rfl ?_; conv => whnf) | (refine And.intro (by decide) ?_; conv => whnf) | (refine draw_intro true (by kernel_rfl) ?_; conv => whnf) | (refine And.intro ⟨by omega, by omega⟩ ?_; conv => whnf) | (refine And.intro (by omega) ?_; conv => whnf) | (refine And.intro (fun _ => ⟨by omega, by omega⟩) ?_; conv => whnf) | (refine And.intro (of_decide_eq_true rfl) ?_; conv => whnf) | (refine And.intro (fun _ => ?_) (fun h => absurd h ?_); rotate_left; (focus (first | decide | (simp; done) | (simp [tcs]; done))); conv => whnf) | (refine And.intro (fun h => absurd h ?_) (fun _ => ?_); (focus (first | decide | (simp; done) | (simp [tcs]; done))); conv => whnf) | (intro _; conv => whnf))
  refine loop_intro (fun m tm H => ∃ (j : Nat), B.length = m + j ∧ tm = [(9, .c (.int .i64 (j))), (8, .own 4), (3, .ptr 1 0), (1, .ptr 0 0), (4, .c (.sl 1 8 (rowN R1))), (5, .c (.sl 1 8 (rowN R2))), (6, .c (.int .i64 (o))), (7, .c (.int .i64 (cc)))] ∧
      H = [.box [.c (.sl 6 72 (dcs S)), .c (.sl 4 48 (tcs X)), .c (.int .i64 (k)), .c (.int .i64 (l)), .c (.int .i64 (n)), .c (.sl 4 48 (tcs ts)), .c (.int .i64 (k2)), .c (.int .i64 (l2)), .c (.int .i64 (n2)), .c (.sl 4 48 (tcs us))], .box [.own 2, .own 3], .row 82 4 48 (nds2 B), .row 25 4 48 (tcs B), .row 5 1 1 (bR ([116, 114, 49] ++ digs B.length ++ nodesB B j))])
    B.length _ _ ⟨0, by omega, rfl, rfl⟩ ?_ ?_
  · refine Wk.sel [0, 1, 4, 5, 9] (by decide) (by first | decide | (show (0 : Nat) ≤ _; decide) | (show ∀ i, i < 0 → _; decide) | (show (1 : Nat) ≤ _; decide) | (show ∀ i, i < 1 → _; decide) | (show (2 : Nat) ≤ _; decide) | (show ∀ i, i < 2 → _; decide) | (show (3 : Nat) ≤ _; decide) | (show ∀ i, i < 3 → _; decide) | (show (4 : Nat) ≤ _; decide) | (show ∀ i, i < 4 → _; decide) | (show (5 : Nat) ≤ _; decide) | (show ∀ i, i < 5 → _; decide) | (show (6 : Nat) ≤ _; decide) | (show ∀ i, i < 6 → _; decide) | (show (7 : Nat) ≤ _; decide) | (show ∀ i, i < 7 → _; decide)) (by first | decide | (show (0 : Nat) ≤ _; decide) | (show ∀ i, i < 0 → _; decide) | (show (1 : Nat) ≤ _; decide) | (show ∀ i, i < 1 → _; decide) | (show (2 : Nat) ≤ _; decide) | (show ∀ i, i < 2 → _; decide) | (show (3 : Nat) ≤ _; decide) | (show ∀ i, i < 3 → _; decide) | (show (4 : Nat) ≤ _; decide) | (show ∀ i, i < 4 → _; decide) | (show (5 : Nat) ≤ _; decide) | (show ∀ i, i < 5 → _; decide) | (show (6 : Nat) ≤ _; decide) | (show ∀ i, i < 6 → _; decide) | (show (7 : Nat) ≤ _; decide) | (show ∀ i, i < 7 → _; decide)) ⟨rfl, rfl, rfl, rfl, ?_, trivial⟩ ⟨rfl, rfl, rfl, rfl, rfl, rfl, rfl, rfl, trivial⟩ rfl
    rw [nodesB, List.append_nil, ← hnl]
    rfl
  rintro m tm H ⟨j, hj, rfl, rfl⟩
  conv => whnf
  repeat (first | (refine And.intro rfl ?_; conv => whnf) | (refine And.intro (by decide) ?_; conv => whnf) | (refine And.intro ⟨by omega, by omega⟩ ?_; conv => whnf) | (refine And.intro (by omega) ?_; conv => whnf) | (refine And.intro (fun _ => ⟨by omega, by omega⟩) ?_; conv => whnf) | (refine And.intro (of_decide_eq_true rfl) ?_; conv => whnf) | (refine And.intro (fun _ => ?_) (fun h => absurd h ?_); rotate_left; (focus (first | decide | (simp; done) | (simp [tcs]; done))); conv => whnf) | (refine And.intro (fun h => absurd h ?_) (fun _ => ?_); (focus (first | decide | (simp; done) | (simp [tcs]; done))); conv => whnf))
  intro hgl2
  conv => whnf
  repeat (first | (refine And.intro rfl ?_; conv => whnf) | (refine And.intro (by decide) ?_; conv => whnf) | (refine And.intro ⟨by omega, by omega⟩ ?_; conv => whnf) | (refine And.intro (by omega) ?_; conv => whnf) | (refine And.intro (fun _ => ⟨by omega, by omega⟩) ?_; conv => whnf) | (refine And.intro (of_decide_eq_true rfl) ?_; conv => whnf) | (refine And.intro (fun _ => ?_) (fun h => absurd h ?_); rotate_left; (focus (first | decide | (simp; done) | (simp [tcs]; done))); conv => whnf) | (refine And.intro (fun h => absurd h ?_) (fun _ => ?_); (focus (first | decide | (simp; done) | (simp [tcs]; done))); conv => whnf))
  refine ⟨fun hc => ?_, fun hc => ?_⟩
  · replace hc : (j : Int) < (nds2 B).length := of_decide_eq_true hc
    obtain ⟨u, hu⟩ : ∃ u, B[j]? = some u := ⟨B[j]'(by omega), List.getElem?_eq_getElem (by omega)⟩
    have hum := List.mem_of_getElem? hu
    have hnu := nds2_at hu
    obtain ⟨hwu, hsu⟩ := hBs u hum
    have hwn := wf_node hwu
    have hnbj := hnb j (by omega)
    have hlen : ([116, 114, 49] ++ digs B.length ++ nodesB B j : List UInt8).length ≤ 657000000 := by simp only [List.length_append, List.length_cons, List.length_nil]; omega
    have hstep : [116, 114, 49] ++ digs B.length ++ nodesB B (j + 1) = [116, 114, 49] ++ digs B.length ++ nodesB B j ++ nodeB B j u := by rw [nodesB, hu, ← List.append_assoc]
    have hKb : ∀ x ∈ kd B u, x < j := fun x hx => by
      obtain ⟨v, hv, rfl⟩ := List.mem_map.1 hx
      obtain ⟨i, hi, hbi⟩ := g1.lo j u hu v hv
      rw [pl_of g1.nd hbi]
      exact hi
    have hkl : (kd B u).length ≤ 600 := by
      have := szL_len u.ts
      have e : szT u = 1 + szL u.ts := by cases u; rw [szT]; rfl
      unfold kd
      rw [List.length_map]
      omega
    unfold nd2 at hnu
    unfold nodeB at hstep
    obtain ⟨N, hN⟩ : ∃ N : Nat, u.n = N := ⟨u.n.toNat, by omega⟩
    rw [hN, Int.toNat_natCast] at hstep
    rw [hN] at hnu hwn
    have hdN := digs9 (n := N) (by omega)
    generalize kd B u = K at *
    generalize u.k = tk at *
    generalize u.l = tl at *
    generalize hPj : ([116, 114, 49] ++ digs B.length ++ nodesB B j : List UInt8) = P at *
    have hbl := bR_len P
    conv => whnf
    repeat (first | (refine And.intro rfl ?_; conv => whnf) | (refine And.intro (by decide) ?_; conv => whnf) | (refine And.intro ⟨by omega, by omega⟩ ?_; conv => whnf) | (refine And.intro (by omega) ?_; conv => whnf) | (refine And.intro (fun _ => ⟨by omega, by omega⟩) ?_; conv => whnf) | (refine And.intro (of_decide_eq_true rfl) ?_; conv => whnf) | (refine And.intro (fun _ => ?_) (fun h => absurd h ?_); rotate_left; (focus (first | decide | (simp; done) | (simp [tcs]; done))); conv => whnf) | (refine And.intro (fun h => absurd h ?_) (fun _ => ?_); (focus (first | decide | (simp; done) | (simp [tcs]; done))); conv => whnf))
    refine ⟨[.int .i64 tk, .int .i64 tl, .int .i64 (N : Int), .sl 1 8 (rowN K)], by rw [Int.toNat_natCast]; exact hnu, show 0 + 4 ≤ 4 by decide, ?_⟩
    conv => whnf
    repeat (first | (refine And.intro rfl ?_; conv => whnf) | (refine And.intro (by decide) ?_; conv => whnf) | (refine draw_intro true (by kernel_rfl) ?_; conv => whnf) | (refine And.intro ⟨by omega, by omega⟩ ?_; conv => whnf) | (refine And.intro (by omega) ?_; conv => whnf) | (refine And.intro (fun _ => ⟨by omega, by omega⟩) ?_; conv => whnf) | (refine And.intro (of_decide_eq_true rfl) ?_; conv => whnf) | (refine And.intro (fun _ => ?_) (fun h => absurd h ?_); rotate_left; (focus (first | decide | (simp; done) | (simp [tcs]; done))); conv => whnf) | (refine And.intro (fun h => absurd h ?_) (fun _ => ?_); (focus (first | decide | (simp; done) | (simp [tcs]; done))); conv => whnf) | (intro _; conv => whnf))
    have e1 : bR (P ++ [u8 (tk + 8 * tl)]) = bR P ++ [[CV.int .u8 (IntKind.u8.wrap (tk + 8 * tl))]] := (bR_snoc _ _).symm
    refine ⟨show ((bR P).length + 1) * 1 ≤ 140737488355328 by omega, show (bR P).length + 1 ≤ 9223372036854775807 by omega, ?_⟩
    conv => whnf
    repeat (first | (refine And.intro rfl ?_; conv => whnf) | (refine And.intro (by decide) ?_; conv => whnf) | (refine draw_intro true (by kernel_rfl) ?_; conv => whnf) | (refine And.intro ⟨by omega, by omega⟩ ?_; conv => whnf) | (refine And.intro (by omega) ?_; conv => whnf) | (refine And.intro (fun _ => ⟨by omega, by omega⟩) ?_; conv => whnf) | (refine And.intro (of_decide_eq_true rfl) ?_; conv => whnf) | (refine And.intro (fun _ => ?_) (fun h => absurd h ?_); rotate_left; (focus (first | decide | (simp; done) | (simp [tcs]; done))); conv => whnf) | (refine And.intro (fun h => absurd h ?_) (fun _ => ?_); (focus (first | decide | (simp; done) | (simp [tcs]; done))); conv => whnf) | (intro _; conv => whnf))
    refine ⟨fun hk4 => ?_, fun hk4 => ?_⟩
    · rw [show decide (tk = 4) = true from hk4] at hstep
      have hnum := cRNum (P ++ [u8 (tk + 8 * tl)]) N (by rw [List.length_append]; simp only [List.length_cons, List.length_nil]; omega) (by omega)
      rw [e1] at hnum
      conv => whnf
      repeat (first | (refine And.intro rfl ?_; conv => whnf) | (refine And.intro (by decide) ?_; conv => whnf) | (refine draw_intro true (by kernel_rfl) ?_; conv => whnf) | (refine And.intro ⟨by omega, by omega⟩ ?_; conv => whnf) | (refine And.intro (by omega) ?_; conv => whnf) | (refine And.intro (fun _ => ⟨by omega, by omega⟩) ?_; conv => whnf) | (refine And.intro (of_decide_eq_true rfl) ?_; conv => whnf) | (refine And.intro (fun _ => ?_) (fun h => absurd h ?_); rotate_left; (focus (first | decide | (simp; done) | (simp [tcs]; done))); conv => whnf) | (refine And.intro (fun h => absurd h ?_) (fun _ => ?_); (focus (first | decide | (simp; done) | (simp [tcs]; done))); conv => whnf) | (intro _; conv => whnf))
      try (refine draw_intro true (by kernel_rfl) ?_; conv => whnf)
      first | refine CallSt.use hnum [7] ⟨rfl, trivial⟩ (by decide) rfl ?_ | refine CallPt.useS hnum [7] ⟨rfl, trivial⟩ (by decide) rfl ?_
      rintro _ _ ⟨rfl, rfl⟩ _
      conv => whnf
      repeat (first | (refine And.intro rfl ?_; conv => whnf) | (refine And.intro (by decide) ?_; conv => whnf) | (refine draw_intro true (by kernel_rfl) ?_; conv => whnf) | (refine And.intro ⟨by omega, by omega⟩ ?_; conv => whnf) | (refine And.intro (by omega) ?_; conv => whnf) | (refine And.intro (fun _ => ⟨by omega, by omega⟩) ?_; conv => whnf) | (refine And.intro (of_decide_eq_true rfl) ?_; conv => whnf) | (refine And.intro (fun _ => ?_) (fun h => absurd h ?_); rotate_left; (focus (first | decide | (simp; done) | (simp [tcs]; done))); conv => whnf) | (refine And.intro (fun h => absurd h ?_) (fun _ => ?_); (focus (first | decide | (simp; done) | (simp [tcs]; done))); conv => whnf) | (intro _; conv => whnf))
      have hkn := rowN_len K
      have hlo : (P ++ [u8 (tk + 8 * tl)] ++ digs N).length ≤ 657900000 := by simp only [List.length_append, List.length_cons, List.length_nil]; omega
      have hnk := cRNum (P ++ [u8 (tk + 8 * tl)] ++ digs N) K.length (by have := digs9 (n := K.length) (by omega); omega) (by omega)
      rw [← hkn] at hnk
      try (refine draw_intro true (by kernel_rfl) ?_; conv => whnf)
      first | refine CallSt.use hnk [8] ⟨rfl, trivial⟩ (by decide) rfl ?_ | refine CallPt.useS hnk [8] ⟨rfl, trivial⟩ (by decide) rfl ?_
      rintro _ _ ⟨rfl, rfl⟩ _
      conv => whnf
      repeat (first | (refine And.intro rfl ?_; conv => whnf) | (refine And.intro (by decide) ?_; conv => whnf) | (refine draw_intro true (by kernel_rfl) ?_; conv => whnf) | (refine And.intro ⟨by omega, by omega⟩ ?_; conv => whnf) | (refine And.intro (by omega) ?_; conv => whnf) | (refine And.intro (fun _ => ⟨by omega, by omega⟩) ?_; conv => whnf) | (refine And.intro (of_decide_eq_true rfl) ?_; conv => whnf) | (refine And.intro (fun _ => ?_) (fun h => absurd h ?_); rotate_left; (focus (first | decide | (simp; done) | (simp [tcs]; done))); conv => whnf) | (refine And.intro (fun h => absurd h ?_) (fun _ => ?_); (focus (first | decide | (simp; done) | (simp [tcs]; done))); conv => whnf) | (intro _; conv => whnf))
      have hlo2 : (P ++ [u8 (tk + 8 * tl)] ++ digs N ++ digs K.length).length ≤ 657900010 := by have := digs9 (n := K.length) (by omega); rw [List.length_append]; omega
      rw [hkn]
      generalize hG : P ++ [u8 (tk + 8 * tl)] ++ digs N ++ digs K.length = G at *
      refine loop_intro (fun m tm H => ∃ (q : Nat), K.length = m + q ∧ tm = [(11, .c (.int .i64 (q))), (10, .ptr 5 0), (9, .c (.int .i64 (j))), (8, .own 4), (3, .ptr 1 0), (1, .ptr 0 0), (4, .c (.sl 1 8 (rowN R1))), (5, .c (.sl 1 8 (rowN R2))), (6, .c (.int .i64 (o))), (7, .c (.int .i64 (cc)))] ∧
          H = [.box [.c (.sl 6 72 (dcs S)), .c (.sl 4 48 (tcs X)), .c (.int .i64 (k)), .c (.int .i64 (l)), .c (.int .i64 (n)), .c (.sl 4 48 (tcs ts)), .c (.int .i64 (k2)), .c (.int .i64 (l2)), .c (.int .i64 (n2)), .c (.sl 4 48 (tcs us))], .box [.own 2, .own 3], .row 82 4 48 (nds2 B), .row 25 4 48 (tcs B), .row 5 1 1 (bR (G ++ (K.take q).flatMap fun x => digs (j - x - 1))), .box [.c (.int .i64 (tk)), .c (.int .i64 (tl)), .c (.int .i64 ((N : Int))), .c (.sl 1 8 (rowN K))]])
        K.length _ _ ⟨0, by omega, rfl, rfl⟩ ?_ ?_
      · refine Wk.sel [0, 1, 2, 3, 9, 5] (by decide) (by first | decide | (show (0 : Nat) ≤ _; decide) | (show ∀ i, i < 0 → _; decide) | (show (1 : Nat) ≤ _; decide) | (show ∀ i, i < 1 → _; decide) | (show (2 : Nat) ≤ _; decide) | (show ∀ i, i < 2 → _; decide) | (show (3 : Nat) ≤ _; decide) | (show ∀ i, i < 3 → _; decide) | (show (4 : Nat) ≤ _; decide) | (show ∀ i, i < 4 → _; decide) | (show (5 : Nat) ≤ _; decide) | (show ∀ i, i < 5 → _; decide) | (show (6 : Nat) ≤ _; decide) | (show ∀ i, i < 6 → _; decide) | (show (7 : Nat) ≤ _; decide) | (show ∀ i, i < 7 → _; decide)) (by first | decide | (show (0 : Nat) ≤ _; decide) | (show ∀ i, i < 0 → _; decide) | (show (1 : Nat) ≤ _; decide) | (show ∀ i, i < 1 → _; decide) | (show (2 : Nat) ≤ _; decide) | (show ∀ i, i < 2 → _; decide) | (show (3 : Nat) ≤ _; decide) | (show ∀ i, i < 3 → _; decide) | (show (4 : Nat) ≤ _; decide) | (show ∀ i, i < 4 → _; decide) | (show (5 : Nat) ≤ _; decide) | (show ∀ i, i < 5 → _; decide) | (show (6 : Nat) ≤ _; decide) | (show ∀ i, i < 6 → _; decide) | (show (7 : Nat) ≤ _; decide) | (show ∀ i, i < 7 → _; decide)) ⟨rfl, rfl, rfl, rfl, ?_, rfl, trivial⟩ ⟨rfl, rfl, rfl, rfl, rfl, rfl, rfl, rfl, rfl, rfl, trivial⟩ rfl
        rw [List.take_zero, List.flatMap_nil, List.append_nil]
        rfl
      rintro mm tm H ⟨q, hq, rfl, rfl⟩
      conv => whnf
      repeat (first | (refine And.intro rfl ?_; conv => whnf) | (refine And.intro (by decide) ?_; conv => whnf) | (refine And.intro ⟨by omega, by omega⟩ ?_; conv => whnf) | (refine And.intro (by omega) ?_; conv => whnf) | (refine And.intro (fun _ => ⟨by omega, by omega⟩) ?_; conv => whnf) | (refine And.intro (of_decide_eq_true rfl) ?_; conv => whnf) | (refine And.intro (fun _ => ?_) (fun h => absurd h ?_); rotate_left; (focus (first | decide | (simp; done) | (simp [tcs]; done))); conv => whnf) | (refine And.intro (fun h => absurd h ?_) (fun _ => ?_); (focus (first | decide | (simp; done) | (simp [tcs]; done))); conv => whnf))
      intro hgl
      conv => whnf
      repeat (first | (refine And.intro rfl ?_; conv => whnf) | (refine And.intro (by decide) ?_; conv => whnf) | (refine And.intro ⟨by omega, by omega⟩ ?_; conv => whnf) | (refine And.intro (by omega) ?_; conv => whnf) | (refine And.intro (fun _ => ⟨by omega, by omega⟩) ?_; conv => whnf) | (refine And.intro (of_decide_eq_true rfl) ?_; conv => whnf) | (refine And.intro (fun _ => ?_) (fun h => absurd h ?_); rotate_left; (focus (first | decide | (simp; done) | (simp [tcs]; done))); conv => whnf) | (refine And.intro (fun h => absurd h ?_) (fun _ => ?_); (focus (first | decide | (simp; done) | (simp [tcs]; done))); conv => whnf))
      refine ⟨fun hcq => ?_, fun hcq => ?_⟩
      · replace hcq : (q : Int) < (rowN K).length := of_decide_eq_true hcq
        obtain ⟨x, hx⟩ : ∃ x, K[q]? = some x := ⟨K[q]'(by omega), List.getElem?_eq_getElem (by omega)⟩
        have hxr := rowN_at hx
        have hxj := hKb x (List.mem_of_getElem? hx)
        have hfl := flat9 (fun x => digs (j - x - 1)) (K.take q) fun y hy => digs9 (by omega)
        have htl : (K.take q).length ≤ q := by rw [List.length_take]; omega
        have hd9 := digs9 (n := j - x - 1) (by omega)
        have hnx := cRNum (G ++ (K.take q).flatMap fun x => digs (j - x - 1)) (j - x - 1) (by rw [List.length_append]; omega) (by omega)
        have ex : ((j - x - 1 : Nat) : Int) = (j : Int) - x - 1 := by omega
        rw [ex] at hnx
        have hst : G ++ (K.take (q + 1)).flatMap (fun x => digs (j - x - 1)) = (G ++ (K.take q).flatMap fun x => digs (j - x - 1)) ++ digs (j - x - 1) := by
          rw [List.take_add_one, hx]
          simp
        conv => whnf
        repeat (first | (refine And.intro rfl ?_; conv => whnf) | (refine And.intro (by decide) ?_; conv => whnf) | (refine And.intro ⟨by omega, by omega⟩ ?_; conv => whnf) | (refine And.intro (by omega) ?_; conv => whnf) | (refine And.intro (fun _ => ⟨by omega, by omega⟩) ?_; conv => whnf) | (refine And.intro (of_decide_eq_true rfl) ?_; conv => whnf) | (refine And.intro (fun _ => ?_) (fun h => absurd h ?_); rotate_left; (focus (first | decide | (simp; done) | (simp [tcs]; done))); conv => whnf) | (refine And.intro (fun h => absurd h ?_) (fun _ => ?_); (focus (first | decide | (simp; done) | (simp [tcs]; done))); conv => whnf))
        refine ⟨_, ⟨by omega, by simpa using hxr⟩, ?_⟩
        conv => whnf
        refine ⟨Nat.le_refl 1, ?_⟩
        conv => whnf
        repeat (first | (refine And.intro rfl ?_; conv => whnf) | (refine And.intro (by decide) ?_; conv => whnf) | (refine And.intro ⟨by omega, by omega⟩ ?_; conv => whnf) | (refine And.intro (by omega) ?_; conv => whnf) | (refine And.intro (fun _ => ⟨by omega, by omega⟩) ?_; conv => whnf) | (refine And.intro (of_decide_eq_true rfl) ?_; conv => whnf) | (refine And.intro (fun _ => ?_) (fun h => absurd h ?_); rotate_left; (focus (first | decide | (simp; done) | (simp [tcs]; done))); conv => whnf) | (refine And.intro (fun h => absurd h ?_) (fun _ => ?_); (focus (first | decide | (simp; done) | (simp [tcs]; done))); conv => whnf))
        try (refine draw_intro true (by kernel_rfl) ?_; conv => whnf)
        first | refine CallSt.use hnx [4] ⟨rfl, trivial⟩ (by decide) rfl ?_ | refine CallPt.useS hnx [4] ⟨rfl, trivial⟩ (by decide) rfl ?_
        rintro _ _ ⟨rfl, rfl⟩ _
        conv => whnf
        repeat (first | (refine And.intro rfl ?_; conv => whnf) | (refine And.intro (by decide) ?_; conv => whnf) | (refine draw_intro true (by kernel_rfl) ?_; conv => whnf) | (refine And.intro ⟨by omega, by omega⟩ ?_; conv => whnf) | (refine And.intro (by omega) ?_; conv => whnf) | (refine And.intro (fun _ => ⟨by omega, by omega⟩) ?_; conv => whnf) | (refine And.intro (of_decide_eq_true rfl) ?_; conv => whnf) | (refine And.intro (fun _ => ?_) (fun h => absurd h ?_); rotate_left; (focus (first | decide | (simp; done) | (simp [tcs]; done))); conv => whnf) | (refine And.intro (fun h => absurd h ?_) (fun _ => ?_); (focus (first | decide | (simp; done) | (simp [tcs]; done))); conv => whnf) | (intro _; conv => whnf))
        refine ⟨mm - 1, _, _, by omega, ⟨q + 1, by omega, rfl, rfl⟩, Wk.sel [0, 1, 2, 3, 6, 5] (by decide) (by first | decide | (show (0 : Nat) ≤ _; decide) | (show ∀ i, i < 0 → _; decide) | (show (1 : Nat) ≤ _; decide) | (show ∀ i, i < 1 → _; decide) | (show (2 : Nat) ≤ _; decide) | (show ∀ i, i < 2 → _; decide) | (show (3 : Nat) ≤ _; decide) | (show ∀ i, i < 3 → _; decide) | (show (4 : Nat) ≤ _; decide) | (show ∀ i, i < 4 → _; decide) | (show (5 : Nat) ≤ _; decide) | (show ∀ i, i < 5 → _; decide) | (show (6 : Nat) ≤ _; decide) | (show ∀ i, i < 6 → _; decide) | (show (7 : Nat) ≤ _; decide) | (show ∀ i, i < 7 → _; decide)) (by first | decide | (show (0 : Nat) ≤ _; decide) | (show ∀ i, i < 0 → _; decide) | (show (1 : Nat) ≤ _; decide) | (show ∀ i, i < 1 → _; decide) | (show (2 : Nat) ≤ _; decide) | (show ∀ i, i < 2 → _; decide) | (show (3 : Nat) ≤ _; decide) | (show ∀ i, i < 3 → _; decide) | (show (4 : Nat) ≤ _; decide) | (show ∀ i, i < 4 → _; decide) | (show (5 : Nat) ≤ _; decide) | (show ∀ i, i < 5 → _; decide) | (show (6 : Nat) ≤ _; decide) | (show ∀ i, i < 6 → _; decide) | (show (7 : Nat) ≤ _; decide) | (show ∀ i, i < 7 → _; decide)) ⟨rfl, rfl, rfl, rfl, ?_, rfl, trivial⟩ ⟨rfl, rfl, rfl, rfl, rfl, rfl, rfl, rfl, rfl, rfl, trivial⟩ rfl⟩
        rw [hst]
        rfl
      replace hcq : ¬ (q : Int) < (rowN K).length := of_decide_eq_false hcq
      obtain rfl : q = K.length := by omega
      rw [List.take_length]
      conv => whnf
      repeat (first | (refine And.intro rfl ?_; conv => whnf) | (refine And.intro (by decide) ?_; conv => whnf) | (refine draw_intro true (by kernel_rfl) ?_; conv => whnf) | (refine And.intro ⟨by omega, by omega⟩ ?_; conv => whnf) | (refine And.intro (by omega) ?_; conv => whnf) | (refine And.intro (fun _ => ⟨by omega, by omega⟩) ?_; conv => whnf) | (refine And.intro (of_decide_eq_true rfl) ?_; conv => whnf) | (refine And.intro (fun _ => ?_) (fun h => absurd h ?_); rotate_left; (focus (first | decide | (simp; done) | (simp [tcs]; done))); conv => whnf) | (refine And.intro (fun h => absurd h ?_) (fun _ => ?_); (focus (first | decide | (simp; done) | (simp [tcs]; done))); conv => whnf) | (intro _; conv => whnf))
      refine ⟨m - 1, _, _, by omega, ⟨j + 1, by omega, rfl, rfl⟩, Wk.sel [0, 1, 2, 3, 4] (by decide) (by first | decide | (show (0 : Nat) ≤ _; decide) | (show ∀ i, i < 0 → _; decide) | (show (1 : Nat) ≤ _; decide) | (show ∀ i, i < 1 → _; decide) | (show (2 : Nat) ≤ _; decide) | (show ∀ i, i < 2 → _; decide) | (show (3 : Nat) ≤ _; decide) | (show ∀ i, i < 3 → _; decide) | (show (4 : Nat) ≤ _; decide) | (show ∀ i, i < 4 → _; decide) | (show (5 : Nat) ≤ _; decide) | (show ∀ i, i < 5 → _; decide) | (show (6 : Nat) ≤ _; decide) | (show ∀ i, i < 6 → _; decide) | (show (7 : Nat) ≤ _; decide) | (show ∀ i, i < 7 → _; decide)) (by first | decide | (show (0 : Nat) ≤ _; decide) | (show ∀ i, i < 0 → _; decide) | (show (1 : Nat) ≤ _; decide) | (show ∀ i, i < 1 → _; decide) | (show (2 : Nat) ≤ _; decide) | (show ∀ i, i < 2 → _; decide) | (show (3 : Nat) ≤ _; decide) | (show ∀ i, i < 3 → _; decide) | (show (4 : Nat) ≤ _; decide) | (show ∀ i, i < 4 → _; decide) | (show (5 : Nat) ≤ _; decide) | (show ∀ i, i < 5 → _; decide) | (show (6 : Nat) ≤ _; decide) | (show ∀ i, i < 6 → _; decide) | (show (7 : Nat) ≤ _; decide) | (show ∀ i, i < 7 → _; decide)) ⟨rfl, rfl, rfl, rfl, ?_, trivial⟩ ⟨rfl, rfl, rfl, rfl, rfl, rfl, rfl, rfl, trivial⟩ rfl⟩
      refine congrArg (fun z => some (Ent.row 5 1 1 (bR z))) ?_
      rw [hstep, ← hG]
      unfold lstB
      simp only [List.append_assoc, List.nil_append]
    · rw [show decide (tk = 4) = false from hk4] at hstep
      conv => whnf
      repeat (first | (refine And.intro rfl ?_; conv => whnf) | (refine And.intro (by decide) ?_; conv => whnf) | (refine draw_intro true (by kernel_rfl) ?_; conv => whnf) | (refine And.intro ⟨by omega, by omega⟩ ?_; conv => whnf) | (refine And.intro (by omega) ?_; conv => whnf) | (refine And.intro (fun _ => ⟨by omega, by omega⟩) ?_; conv => whnf) | (refine And.intro (of_decide_eq_true rfl) ?_; conv => whnf) | (refine And.intro (fun _ => ?_) (fun h => absurd h ?_); rotate_left; (focus (first | decide | (simp; done) | (simp [tcs]; done))); conv => whnf) | (refine And.intro (fun h => absurd h ?_) (fun _ => ?_); (focus (first | decide | (simp; done) | (simp [tcs]; done))); conv => whnf) | (intro _; conv => whnf))
      have hkn := rowN_len K
      have hlo : (P ++ [u8 (tk + 8 * tl)]).length ≤ 657900000 := by simp only [List.length_append, List.length_cons, List.length_nil]; omega
      have hnk := cRNum (P ++ [u8 (tk + 8 * tl)]) K.length (by have := digs9 (n := K.length) (by omega); omega) (by omega)
      rw [e1, ← hkn] at hnk
      try (refine draw_intro true (by kernel_rfl) ?_; conv => whnf)
      first | refine CallSt.use hnk [7] ⟨rfl, trivial⟩ (by decide) rfl ?_ | refine CallPt.useS hnk [7] ⟨rfl, trivial⟩ (by decide) rfl ?_
      rintro _ _ ⟨rfl, rfl⟩ _
      conv => whnf
      repeat (first | (refine And.intro rfl ?_; conv => whnf) | (refine And.intro (by decide) ?_; conv => whnf) | (refine draw_intro true (by kernel_rfl) ?_; conv => whnf) | (refine And.intro ⟨by omega, by omega⟩ ?_; conv => whnf) | (refine And.intro (by omega) ?_; conv => whnf) | (refine And.intro (fun _ => ⟨by omega, by omega⟩) ?_; conv => whnf) | (refine And.intro (of_decide_eq_true rfl) ?_; conv => whnf) | (refine And.intro (fun _ => ?_) (fun h => absurd h ?_); rotate_left; (focus (first | decide | (simp; done) | (simp [tcs]; done))); conv => whnf) | (refine And.intro (fun h => absurd h ?_) (fun _ => ?_); (focus (first | decide | (simp; done) | (simp [tcs]; done))); conv => whnf) | (intro _; conv => whnf))
      have hlo2 : (P ++ [u8 (tk + 8 * tl)] ++ digs K.length).length ≤ 657900010 := by have := digs9 (n := K.length) (by omega); rw [List.length_append]; omega
      rw [hkn]
      generalize hG : P ++ [u8 (tk + 8 * tl)] ++ digs K.length = G at *
      refine loop_intro (fun m tm H => ∃ (q : Nat), K.length = m + q ∧ tm = [(11, .c (.int .i64 (q))), (10, .ptr 5 0), (9, .c (.int .i64 (j))), (8, .own 4), (3, .ptr 1 0), (1, .ptr 0 0), (4, .c (.sl 1 8 (rowN R1))), (5, .c (.sl 1 8 (rowN R2))), (6, .c (.int .i64 (o))), (7, .c (.int .i64 (cc)))] ∧
          H = [.box [.c (.sl 6 72 (dcs S)), .c (.sl 4 48 (tcs X)), .c (.int .i64 (k)), .c (.int .i64 (l)), .c (.int .i64 (n)), .c (.sl 4 48 (tcs ts)), .c (.int .i64 (k2)), .c (.int .i64 (l2)), .c (.int .i64 (n2)), .c (.sl 4 48 (tcs us))], .box [.own 2, .own 3], .row 82 4 48 (nds2 B), .row 25 4 48 (tcs B), .row 5 1 1 (bR (G ++ (K.take q).flatMap fun x => digs (j - x - 1))), .box [.c (.int .i64 (tk)), .c (.int .i64 (tl)), .c (.int .i64 ((N : Int))), .c (.sl 1 8 (rowN K))]])
        K.length _ _ ⟨0, by omega, rfl, rfl⟩ ?_ ?_
      · refine Wk.sel [0, 1, 2, 3, 8, 5] (by decide) (by first | decide | (show (0 : Nat) ≤ _; decide) | (show ∀ i, i < 0 → _; decide) | (show (1 : Nat) ≤ _; decide) | (show ∀ i, i < 1 → _; decide) | (show (2 : Nat) ≤ _; decide) | (show ∀ i, i < 2 → _; decide) | (show (3 : Nat) ≤ _; decide) | (show ∀ i, i < 3 → _; decide) | (show (4 : Nat) ≤ _; decide) | (show ∀ i, i < 4 → _; decide) | (show (5 : Nat) ≤ _; decide) | (show ∀ i, i < 5 → _; decide) | (show (6 : Nat) ≤ _; decide) | (show ∀ i, i < 6 → _; decide) | (show (7 : Nat) ≤ _; decide) | (show ∀ i, i < 7 → _; decide)) (by first | decide | (show (0 : Nat) ≤ _; decide) | (show ∀ i, i < 0 → _; decide) | (show (1 : Nat) ≤ _; decide) | (show ∀ i, i < 1 → _; decide) | (show (2 : Nat) ≤ _; decide) | (show ∀ i, i < 2 → _; decide) | (show (3 : Nat) ≤ _; decide) | (show ∀ i, i < 3 → _; decide) | (show (4 : Nat) ≤ _; decide) | (show ∀ i, i < 4 → _; decide) | (show (5 : Nat) ≤ _; decide) | (show ∀ i, i < 5 → _; decide) | (show (6 : Nat) ≤ _; decide) | (show ∀ i, i < 6 → _; decide) | (show (7 : Nat) ≤ _; decide) | (show ∀ i, i < 7 → _; decide)) ⟨rfl, rfl, rfl, rfl, ?_, rfl, trivial⟩ ⟨rfl, rfl, rfl, rfl, rfl, rfl, rfl, rfl, rfl, rfl, trivial⟩ rfl
        rw [List.take_zero, List.flatMap_nil, List.append_nil]
        rfl
      rintro mm tm H ⟨q, hq, rfl, rfl⟩
      conv => whnf
      repeat (first | (refine And.intro rfl ?_; conv => whnf) | (refine And.intro (by decide) ?_; conv => whnf) | (refine And.intro ⟨by omega, by omega⟩ ?_; conv => whnf) | (refine And.intro (by omega) ?_; conv => whnf) | (refine And.intro (fun _ => ⟨by omega, by omega⟩) ?_; conv => whnf) | (refine And.intro (of_decide_eq_true rfl) ?_; conv => whnf) | (refine And.intro (fun _ => ?_) (fun h => absurd h ?_); rotate_left; (focus (first | decide | (simp; done) | (simp [tcs]; done))); conv => whnf) | (refine And.intro (fun h => absurd h ?_) (fun _ => ?_); (focus (first | decide | (simp; done) | (simp [tcs]; done))); conv => whnf))
      intro hgl
      conv => whnf
      repeat (first | (refine And.intro rfl ?_; conv => whnf) | (refine And.intro (by decide) ?_; conv => whnf) | (refine And.intro ⟨by omega, by omega⟩ ?_; conv => whnf) | (refine And.intro (by omega) ?_; conv => whnf) | (refine And.intro (fun _ => ⟨by omega, by omega⟩) ?_; conv => whnf) | (refine And.intro (of_decide_eq_true rfl) ?_; conv => whnf) | (refine And.intro (fun _ => ?_) (fun h => absurd h ?_); rotate_left; (focus (first | decide | (simp; done) | (simp [tcs]; done))); conv => whnf) | (refine And.intro (fun h => absurd h ?_) (fun _ => ?_); (focus (first | decide | (simp; done) | (simp [tcs]; done))); conv => whnf))
      refine ⟨fun hcq => ?_, fun hcq => ?_⟩
      · replace hcq : (q : Int) < (rowN K).length := of_decide_eq_true hcq
        obtain ⟨x, hx⟩ : ∃ x, K[q]? = some x := ⟨K[q]'(by omega), List.getElem?_eq_getElem (by omega)⟩
        have hxr := rowN_at hx
        have hxj := hKb x (List.mem_of_getElem? hx)
        have hfl := flat9 (fun x => digs (j - x - 1)) (K.take q) fun y hy => digs9 (by omega)
        have htl : (K.take q).length ≤ q := by rw [List.length_take]; omega
        have hd9 := digs9 (n := j - x - 1) (by omega)
        have hnx := cRNum (G ++ (K.take q).flatMap fun x => digs (j - x - 1)) (j - x - 1) (by rw [List.length_append]; omega) (by omega)
        have ex : ((j - x - 1 : Nat) : Int) = (j : Int) - x - 1 := by omega
        rw [ex] at hnx
        have hst : G ++ (K.take (q + 1)).flatMap (fun x => digs (j - x - 1)) = (G ++ (K.take q).flatMap fun x => digs (j - x - 1)) ++ digs (j - x - 1) := by
          rw [List.take_add_one, hx]
          simp
        conv => whnf
        repeat (first | (refine And.intro rfl ?_; conv => whnf) | (refine And.intro (by decide) ?_; conv => whnf) | (refine And.intro ⟨by omega, by omega⟩ ?_; conv => whnf) | (refine And.intro (by omega) ?_; conv => whnf) | (refine And.intro (fun _ => ⟨by omega, by omega⟩) ?_; conv => whnf) | (refine And.intro (of_decide_eq_true rfl) ?_; conv => whnf) | (refine And.intro (fun _ => ?_) (fun h => absurd h ?_); rotate_left; (focus (first | decide | (simp; done) | (simp [tcs]; done))); conv => whnf) | (refine And.intro (fun h => absurd h ?_) (fun _ => ?_); (focus (first | decide | (simp; done) | (simp [tcs]; done))); conv => whnf))
        refine ⟨_, ⟨by omega, by simpa using hxr⟩, ?_⟩
        conv => whnf
        refine ⟨Nat.le_refl 1, ?_⟩
        conv => whnf
        repeat (first | (refine And.intro rfl ?_; conv => whnf) | (refine And.intro (by decide) ?_; conv => whnf) | (refine And.intro ⟨by omega, by omega⟩ ?_; conv => whnf) | (refine And.intro (by omega) ?_; conv => whnf) | (refine And.intro (fun _ => ⟨by omega, by omega⟩) ?_; conv => whnf) | (refine And.intro (of_decide_eq_true rfl) ?_; conv => whnf) | (refine And.intro (fun _ => ?_) (fun h => absurd h ?_); rotate_left; (focus (first | decide | (simp; done) | (simp [tcs]; done))); conv => whnf) | (refine And.intro (fun h => absurd h ?_) (fun _ => ?_); (focus (first | decide | (simp; done) | (simp [tcs]; done))); conv => whnf))
        try (refine draw_intro true (by kernel_rfl) ?_; conv => whnf)
        first | refine CallSt.use hnx [4] ⟨rfl, trivial⟩ (by decide) rfl ?_ | refine CallPt.useS hnx [4] ⟨rfl, trivial⟩ (by decide) rfl ?_
        rintro _ _ ⟨rfl, rfl⟩ _
        conv => whnf
        repeat (first | (refine And.intro rfl ?_; conv => whnf) | (refine And.intro (by decide) ?_; conv => whnf) | (refine draw_intro true (by kernel_rfl) ?_; conv => whnf) | (refine And.intro ⟨by omega, by omega⟩ ?_; conv => whnf) | (refine And.intro (by omega) ?_; conv => whnf) | (refine And.intro (fun _ => ⟨by omega, by omega⟩) ?_; conv => whnf) | (refine And.intro (of_decide_eq_true rfl) ?_; conv => whnf) | (refine And.intro (fun _ => ?_) (fun h => absurd h ?_); rotate_left; (focus (first | decide | (simp; done) | (simp [tcs]; done))); conv => whnf) | (refine And.intro (fun h => absurd h ?_) (fun _ => ?_); (focus (first | decide | (simp; done) | (simp [tcs]; done))); conv => whnf) | (intro _; conv => whnf))
        refine ⟨mm - 1, _, _, by omega, ⟨q + 1, by omega, rfl, rfl⟩, Wk.sel [0, 1, 2, 3, 6, 5] (by decide) (by first | decide | (show (0 : Nat) ≤ _; decide) | (show ∀ i, i < 0 → _; decide) | (show (1 : Nat) ≤ _; decide) | (show ∀ i, i < 1 → _; decide) | (show (2 : Nat) ≤ _; decide) | (show ∀ i, i < 2 → _; decide) | (show (3 : Nat) ≤ _; decide) | (show ∀ i, i < 3 → _; decide) | (show (4 : Nat) ≤ _; decide) | (show ∀ i, i < 4 → _; decide) | (show (5 : Nat) ≤ _; decide) | (show ∀ i, i < 5 → _; decide) | (show (6 : Nat) ≤ _; decide) | (show ∀ i, i < 6 → _; decide) | (show (7 : Nat) ≤ _; decide) | (show ∀ i, i < 7 → _; decide)) (by first | decide | (show (0 : Nat) ≤ _; decide) | (show ∀ i, i < 0 → _; decide) | (show (1 : Nat) ≤ _; decide) | (show ∀ i, i < 1 → _; decide) | (show (2 : Nat) ≤ _; decide) | (show ∀ i, i < 2 → _; decide) | (show (3 : Nat) ≤ _; decide) | (show ∀ i, i < 3 → _; decide) | (show (4 : Nat) ≤ _; decide) | (show ∀ i, i < 4 → _; decide) | (show (5 : Nat) ≤ _; decide) | (show ∀ i, i < 5 → _; decide) | (show (6 : Nat) ≤ _; decide) | (show ∀ i, i < 6 → _; decide) | (show (7 : Nat) ≤ _; decide) | (show ∀ i, i < 7 → _; decide)) ⟨rfl, rfl, rfl, rfl, ?_, rfl, trivial⟩ ⟨rfl, rfl, rfl, rfl, rfl, rfl, rfl, rfl, rfl, rfl, trivial⟩ rfl⟩
        rw [hst]
        rfl
      replace hcq : ¬ (q : Int) < (rowN K).length := of_decide_eq_false hcq
      obtain rfl : q = K.length := by omega
      rw [List.take_length]
      conv => whnf
      repeat (first | (refine And.intro rfl ?_; conv => whnf) | (refine And.intro (by decide) ?_; conv => whnf) | (refine draw_intro true (by kernel_rfl) ?_; conv => whnf) | (refine And.intro ⟨by omega, by omega⟩ ?_; conv => whnf) | (refine And.intro (by omega) ?_; conv => whnf) | (refine And.intro (fun _ => ⟨by omega, by omega⟩) ?_; conv => whnf) | (refine And.intro (of_decide_eq_true rfl) ?_; conv => whnf) | (refine And.intro (fun _ => ?_) (fun h => absurd h ?_); rotate_left; (focus (first | decide | (simp; done) | (simp [tcs]; done))); conv => whnf) | (refine And.intro (fun h => absurd h ?_) (fun _ => ?_); (focus (first | decide | (simp; done) | (simp [tcs]; done))); conv => whnf) | (intro _; conv => whnf))
      refine ⟨m - 1, _, _, by omega, ⟨j + 1, by omega, rfl, rfl⟩, Wk.sel [0, 1, 2, 3, 4] (by decide) (by first | decide | (show (0 : Nat) ≤ _; decide) | (show ∀ i, i < 0 → _; decide) | (show (1 : Nat) ≤ _; decide) | (show ∀ i, i < 1 → _; decide) | (show (2 : Nat) ≤ _; decide) | (show ∀ i, i < 2 → _; decide) | (show (3 : Nat) ≤ _; decide) | (show ∀ i, i < 3 → _; decide) | (show (4 : Nat) ≤ _; decide) | (show ∀ i, i < 4 → _; decide) | (show (5 : Nat) ≤ _; decide) | (show ∀ i, i < 5 → _; decide) | (show (6 : Nat) ≤ _; decide) | (show ∀ i, i < 6 → _; decide) | (show (7 : Nat) ≤ _; decide) | (show ∀ i, i < 7 → _; decide)) (by first | decide | (show (0 : Nat) ≤ _; decide) | (show ∀ i, i < 0 → _; decide) | (show (1 : Nat) ≤ _; decide) | (show ∀ i, i < 1 → _; decide) | (show (2 : Nat) ≤ _; decide) | (show ∀ i, i < 2 → _; decide) | (show (3 : Nat) ≤ _; decide) | (show ∀ i, i < 3 → _; decide) | (show (4 : Nat) ≤ _; decide) | (show ∀ i, i < 4 → _; decide) | (show (5 : Nat) ≤ _; decide) | (show ∀ i, i < 5 → _; decide) | (show (6 : Nat) ≤ _; decide) | (show ∀ i, i < 6 → _; decide) | (show (7 : Nat) ≤ _; decide) | (show ∀ i, i < 7 → _; decide)) ⟨rfl, rfl, rfl, rfl, ?_, trivial⟩ ⟨rfl, rfl, rfl, rfl, rfl, rfl, rfl, rfl, trivial⟩ rfl⟩
      refine congrArg (fun z => some (Ent.row 5 1 1 (bR z))) ?_
      rw [hstep, ← hG]
      unfold lstB
      simp only [List.append_assoc, List.nil_append]
  replace hc : ¬ (j : Int) < (nds2 B).length := of_decide_eq_false hc
  obtain rfl : j = B.length := by omega
  have hnbb := hnb B.length (by omega)
  have hSl := len_dcs S
  have hlen : ([116, 114, 49] ++ digs B.length ++ nodesB B B.length : List UInt8).length ≤ 657000000 := by simp only [List.length_append, List.length_cons, List.length_nil]; omega
  have hdS := digs9 (n := S.length) (by omega)
  have hnS := cRNum ([116, 114, 49] ++ digs B.length ++ nodesB B B.length) S.length (by omega) (by omega)
  rw [← hSl] at hnS
  generalize hP : ([116, 114, 49] ++ digs B.length ++ nodesB B B.length : List UInt8) = P at *
  have hdb : ∀ j : Nat, j ≤ S.length → (declsB S R1 j).length ≤ 43 * j := decls_len (fun d hd => hnm d hd) (fun x hx => by have := hR1b x hx; omega)
  conv => whnf
  repeat (first | (refine And.intro rfl ?_; conv => whnf) | (refine And.intro (by decide) ?_; conv => whnf) | (refine draw_intro true (by kernel_rfl) ?_; conv => whnf) | (refine And.intro ⟨by omega, by omega⟩ ?_; conv => whnf) | (refine And.intro (by omega) ?_; conv => whnf) | (refine And.intro (fun _ => ⟨by omega, by omega⟩) ?_; conv => whnf) | (refine And.intro (of_decide_eq_true rfl) ?_; conv => whnf) | (refine And.intro (fun _ => ?_) (fun h => absurd h ?_); rotate_left; (focus (first | decide | (simp; done) | (simp [tcs]; done))); conv => whnf) | (refine And.intro (fun h => absurd h ?_) (fun _ => ?_); (focus (first | decide | (simp; done) | (simp [tcs]; done))); conv => whnf) | (intro _; conv => whnf))
  try (refine draw_intro true (by kernel_rfl) ?_; conv => whnf)
  first | refine CallSt.use hnS [4] ⟨rfl, trivial⟩ (by decide) rfl ?_ | refine CallPt.useS hnS [4] ⟨rfl, trivial⟩ (by decide) rfl ?_
  rintro _ _ ⟨rfl, rfl⟩ _
  conv => whnf
  repeat (first | (refine And.intro rfl ?_; conv => whnf) | (refine And.intro (by decide) ?_; conv => whnf) | (refine draw_intro true (by kernel_rfl) ?_; conv => whnf) | (refine And.intro ⟨by omega, by omega⟩ ?_; conv => whnf) | (refine And.intro (by omega) ?_; conv => whnf) | (refine And.intro (fun _ => ⟨by omega, by omega⟩) ?_; conv => whnf) | (refine And.intro (of_decide_eq_true rfl) ?_; conv => whnf) | (refine And.intro (fun _ => ?_) (fun h => absurd h ?_); rotate_left; (focus (first | decide | (simp; done) | (simp [tcs]; done))); conv => whnf) | (refine And.intro (fun h => absurd h ?_) (fun _ => ?_); (focus (first | decide | (simp; done) | (simp [tcs]; done))); conv => whnf) | (intro _; conv => whnf))
  refine loop_intro (fun m tm H => ∃ (j : Nat), S.length = m + j ∧ tm = [(12, .c (.int .i64 (j))), (8, .own 1), (1, .ptr 0 0), (4, .c (.sl 1 8 (rowN R1))), (5, .c (.sl 1 8 (rowN R2))), (6, .c (.int .i64 (o))), (7, .c (.int .i64 (cc)))] ∧
      H = [.box [.c (.sl 6 72 (dcs S)), .c (.sl 4 48 (tcs X)), .c (.int .i64 (k)), .c (.int .i64 (l)), .c (.int .i64 (n)), .c (.sl 4 48 (tcs ts)), .c (.int .i64 (k2)), .c (.int .i64 (l2)), .c (.int .i64 (n2)), .c (.sl 4 48 (tcs us))], .row 5 1 1 (bR (P ++ digs S.length ++ declsB S R1 j))])
    S.length _ _ ⟨0, by omega, rfl, rfl⟩ ?_ ?_
  · refine Wk.sel [0, 5] (by decide) (by first | decide | (show (0 : Nat) ≤ _; decide) | (show ∀ i, i < 0 → _; decide) | (show (1 : Nat) ≤ _; decide) | (show ∀ i, i < 1 → _; decide) | (show (2 : Nat) ≤ _; decide) | (show ∀ i, i < 2 → _; decide) | (show (3 : Nat) ≤ _; decide) | (show ∀ i, i < 3 → _; decide) | (show (4 : Nat) ≤ _; decide) | (show ∀ i, i < 4 → _; decide) | (show (5 : Nat) ≤ _; decide) | (show ∀ i, i < 5 → _; decide) | (show (6 : Nat) ≤ _; decide) | (show ∀ i, i < 6 → _; decide) | (show (7 : Nat) ≤ _; decide) | (show ∀ i, i < 7 → _; decide)) (by first | decide | (show (0 : Nat) ≤ _; decide) | (show ∀ i, i < 0 → _; decide) | (show (1 : Nat) ≤ _; decide) | (show ∀ i, i < 1 → _; decide) | (show (2 : Nat) ≤ _; decide) | (show ∀ i, i < 2 → _; decide) | (show (3 : Nat) ≤ _; decide) | (show ∀ i, i < 3 → _; decide) | (show (4 : Nat) ≤ _; decide) | (show ∀ i, i < 4 → _; decide) | (show (5 : Nat) ≤ _; decide) | (show ∀ i, i < 5 → _; decide) | (show (6 : Nat) ≤ _; decide) | (show ∀ i, i < 6 → _; decide) | (show (7 : Nat) ≤ _; decide) | (show ∀ i, i < 7 → _; decide)) ⟨rfl, ?_, trivial⟩ ⟨rfl, rfl, rfl, rfl, rfl, rfl, rfl, trivial⟩ rfl
    rw [declsB, List.append_nil, ← hSl]
    rfl
  rintro m tm H ⟨j, hj, rfl, rfl⟩
  conv => whnf
  repeat (first | (refine And.intro rfl ?_; conv => whnf) | (refine And.intro (by decide) ?_; conv => whnf) | (refine And.intro ⟨by omega, by omega⟩ ?_; conv => whnf) | (refine And.intro (by omega) ?_; conv => whnf) | (refine And.intro (fun _ => ⟨by omega, by omega⟩) ?_; conv => whnf) | (refine And.intro (of_decide_eq_true rfl) ?_; conv => whnf) | (refine And.intro (fun _ => ?_) (fun h => absurd h ?_); rotate_left; (focus (first | decide | (simp; done) | (simp [tcs]; done))); conv => whnf) | (refine And.intro (fun h => absurd h ?_) (fun _ => ?_); (focus (first | decide | (simp; done) | (simp [tcs]; done))); conv => whnf))
  intro hgl3
  conv => whnf
  repeat (first | (refine And.intro rfl ?_; conv => whnf) | (refine And.intro (by decide) ?_; conv => whnf) | (refine And.intro ⟨by omega, by omega⟩ ?_; conv => whnf) | (refine And.intro (by omega) ?_; conv => whnf) | (refine And.intro (fun _ => ⟨by omega, by omega⟩) ?_; conv => whnf) | (refine And.intro (of_decide_eq_true rfl) ?_; conv => whnf) | (refine And.intro (fun _ => ?_) (fun h => absurd h ?_); rotate_left; (focus (first | decide | (simp; done) | (simp [tcs]; done))); conv => whnf) | (refine And.intro (fun h => absurd h ?_) (fun _ => ?_); (focus (first | decide | (simp; done) | (simp [tcs]; done))); conv => whnf))
  refine ⟨fun hc => ?_, fun hc => ?_⟩
  · replace hc : (j : Int) < (dcs S).length := of_decide_eq_true hc
    obtain ⟨d, hd⟩ : ∃ d, S[j]? = some d := ⟨S[j]'(by omega), List.getElem?_eq_getElem (by omega)⟩
    obtain ⟨r, hr⟩ : ∃ r, R1[j]? = some r := ⟨R1[j]'(by omega), List.getElem?_eq_getElem (by omega)⟩
    have hdc := dcs_at hd
    have hrr := rowN_at hr
    have hdm := hnm d (List.mem_of_getElem? hd)
    have hrm := hR1b r (List.mem_of_getElem? hr)
    have hjb := hdb j (by omega)
    have hstep : declsB S R1 (j + 1) = declsB S R1 j ++ declB d r := by rw [declsB, hd, hr]
    have hQ : (P ++ digs S.length ++ declsB S R1 j).length ≤ 657005000 := by simp only [List.length_append]; omega
    generalize hQe : P ++ digs S.length ++ declsB S R1 j = Q at *
    obtain ⟨i, hi⟩ : ∃ i : Nat, d.i = i := ⟨d.i.toNat, by omega⟩
    unfold declB at hstep
    rw [hi, Int.toNat_natCast] at hstep
    obtain ⟨s', ⟨k', l', n', us'⟩, i'⟩ := d
    simp only at hdm hi hstep
    subst hi
    have d1 := digs9 (n := s'.size) (by omega)
    have d2 := digs9 (n := r) (by omega)
    have d3 := digs9 (n := i) (by omega)
    have d4 : s'.data.toList.length = s'.size := by rw [Array.length_toList]; rfl
    have hn1 := cRNum Q s'.size (by omega) (by omega)
    have hn2 := cRNum (Q ++ digs s'.size ++ s'.data.toList) r (by simp only [List.length_append]; omega) (by omega)
    have hn3 := cRNum (Q ++ digs s'.size ++ s'.data.toList ++ digs r) i (by simp only [List.length_append]; omega) (by omega)
    rw [bR_app _ s'.data.toList] at hn2
    have hbl := bR_len (Q ++ digs s'.size)
    have hp := digs_pos s'.size
    rw [List.length_append] at hbl
    conv => whnf
    refine ⟨_, ⟨by omega, hdc⟩, ?_⟩
    conv => whnf
    refine ⟨show 1 ≤ 6 by decide, ?_⟩
    conv => whnf
    repeat (first | (refine And.intro rfl ?_; conv => whnf) | (refine And.intro (by decide) ?_; conv => whnf) | (refine draw_intro true (by kernel_rfl) ?_; conv => whnf) | (refine And.intro ⟨by omega, by omega⟩ ?_; conv => whnf) | (refine And.intro (by omega) ?_; conv => whnf) | (refine And.intro (fun _ => ⟨by omega, by omega⟩) ?_; conv => whnf) | (refine And.intro (of_decide_eq_true rfl) ?_; conv => whnf) | (refine And.intro (fun _ => ?_) (fun h => absurd h ?_); rotate_left; (focus (first | decide | (simp; done) | (simp [tcs]; done))); conv => whnf) | (refine And.intro (fun h => absurd h ?_) (fun _ => ?_); (focus (first | decide | (simp; done) | (simp [tcs]; done))); conv => whnf) | (intro _; conv => whnf))
    try (refine draw_intro true (by kernel_rfl) ?_; conv => whnf)
    first | refine CallSt.use hn1 [1] ⟨rfl, trivial⟩ (by decide) rfl ?_ | refine CallPt.useS hn1 [1] ⟨rfl, trivial⟩ (by decide) rfl ?_
    rintro _ _ ⟨rfl, rfl⟩ _
    conv => whnf
    repeat (first | (refine And.intro rfl ?_; conv => whnf) | (refine And.intro (by decide) ?_; conv => whnf) | (refine draw_intro true (by kernel_rfl) ?_; conv => whnf) | (refine And.intro ⟨by omega, by omega⟩ ?_; conv => whnf) | (refine And.intro (by omega) ?_; conv => whnf) | (refine And.intro (fun _ => ⟨by omega, by omega⟩) ?_; conv => whnf) | (refine And.intro (of_decide_eq_true rfl) ?_; conv => whnf) | (refine And.intro (fun _ => ?_) (fun h => absurd h ?_); rotate_left; (focus (first | decide | (simp; done) | (simp [tcs]; done))); conv => whnf) | (refine And.intro (fun h => absurd h ?_) (fun _ => ?_); (focus (first | decide | (simp; done) | (simp [tcs]; done))); conv => whnf) | (intro _; conv => whnf))
    refine ⟨_, ⟨by omega, hdc⟩, ?_⟩
    conv => whnf
    refine ⟨show 1 ≤ 6 by decide, ?_⟩
    conv => whnf
    repeat (first | (refine And.intro rfl ?_; conv => whnf) | (refine And.intro (by decide) ?_; conv => whnf) | (refine draw_intro true (by kernel_rfl) ?_; conv => whnf) | (refine And.intro ⟨by omega, by omega⟩ ?_; conv => whnf) | (refine And.intro (by omega) ?_; conv => whnf) | (refine And.intro (fun _ => ⟨by omega, by omega⟩) ?_; conv => whnf) | (refine And.intro (of_decide_eq_true rfl) ?_; conv => whnf) | (refine And.intro (fun _ => ?_) (fun h => absurd h ?_); rotate_left; (focus (first | decide | (simp; done) | (simp [tcs]; done))); conv => whnf) | (refine And.intro (fun h => absurd h ?_) (fun _ => ?_); (focus (first | decide | (simp; done) | (simp [tcs]; done))); conv => whnf) | (intro _; conv => whnf))
    refine ⟨show (bR (Q ++ digs s'.size)).length + s'.size ≤ 140737488355328 by omega, ?_⟩
    conv => whnf
    repeat (first | (refine And.intro rfl ?_; conv => whnf) | (refine And.intro (by decide) ?_; conv => whnf) | (refine draw_intro true (by kernel_rfl) ?_; conv => whnf) | (refine And.intro ⟨by omega, by omega⟩ ?_; conv => whnf) | (refine And.intro (by omega) ?_; conv => whnf) | (refine And.intro (fun _ => ⟨by omega, by omega⟩) ?_; conv => whnf) | (refine And.intro (of_decide_eq_true rfl) ?_; conv => whnf) | (refine And.intro (fun _ => ?_) (fun h => absurd h ?_); rotate_left; (focus (first | decide | (simp; done) | (simp [tcs]; done))); conv => whnf) | (refine And.intro (fun h => absurd h ?_) (fun _ => ?_); (focus (first | decide | (simp; done) | (simp [tcs]; done))); conv => whnf) | (intro _; conv => whnf))
    refine ⟨_, ⟨by omega, by simpa using hrr⟩, ?_⟩
    conv => whnf
    refine ⟨Nat.le_refl 1, ?_⟩
    conv => whnf
    repeat (first | (refine And.intro rfl ?_; conv => whnf) | (refine And.intro (by decide) ?_; conv => whnf) | (refine draw_intro true (by kernel_rfl) ?_; conv => whnf) | (refine And.intro ⟨by omega, by omega⟩ ?_; conv => whnf) | (refine And.intro (by omega) ?_; conv => whnf) | (refine And.intro (fun _ => ⟨by omega, by omega⟩) ?_; conv => whnf) | (refine And.intro (of_decide_eq_true rfl) ?_; conv => whnf) | (refine And.intro (fun _ => ?_) (fun h => absurd h ?_); rotate_left; (focus (first | decide | (simp; done) | (simp [tcs]; done))); conv => whnf) | (refine And.intro (fun h => absurd h ?_) (fun _ => ?_); (focus (first | decide | (simp; done) | (simp [tcs]; done))); conv => whnf) | (intro _; conv => whnf))
    refine ⟨_, ⟨by omega, hdc⟩, ?_⟩
    conv => whnf
    refine ⟨show 1 ≤ 1 by decide, ?_⟩
    conv => whnf
    repeat (first | (refine And.intro rfl ?_; conv => whnf) | (refine And.intro (by decide) ?_; conv => whnf) | (refine draw_intro true (by kernel_rfl) ?_; conv => whnf) | (refine And.intro ⟨by omega, by omega⟩ ?_; conv => whnf) | (refine And.intro (by omega) ?_; conv => whnf) | (refine And.intro (fun _ => ⟨by omega, by omega⟩) ?_; conv => whnf) | (refine And.intro (of_decide_eq_true rfl) ?_; conv => whnf) | (refine And.intro (fun _ => ?_) (fun h => absurd h ?_); rotate_left; (focus (first | decide | (simp; done) | (simp [tcs]; done))); conv => whnf) | (refine And.intro (fun h => absurd h ?_) (fun _ => ?_); (focus (first | decide | (simp; done) | (simp [tcs]; done))); conv => whnf) | (intro _; conv => whnf))
    try (refine draw_intro true (by kernel_rfl) ?_; conv => whnf)
    first | refine CallSt.use hn2 [3] ⟨rfl, trivial⟩ (by decide) rfl ?_ | refine CallPt.useS hn2 [3] ⟨rfl, trivial⟩ (by decide) rfl ?_
    rintro _ _ ⟨rfl, rfl⟩ _
    conv => whnf
    repeat (first | (refine And.intro rfl ?_; conv => whnf) | (refine And.intro (by decide) ?_; conv => whnf) | (refine draw_intro true (by kernel_rfl) ?_; conv => whnf) | (refine And.intro ⟨by omega, by omega⟩ ?_; conv => whnf) | (refine And.intro (by omega) ?_; conv => whnf) | (refine And.intro (fun _ => ⟨by omega, by omega⟩) ?_; conv => whnf) | (refine And.intro (of_decide_eq_true rfl) ?_; conv => whnf) | (refine And.intro (fun _ => ?_) (fun h => absurd h ?_); rotate_left; (focus (first | decide | (simp; done) | (simp [tcs]; done))); conv => whnf) | (refine And.intro (fun h => absurd h ?_) (fun _ => ?_); (focus (first | decide | (simp; done) | (simp [tcs]; done))); conv => whnf) | (intro _; conv => whnf))
    try (refine draw_intro true (by kernel_rfl) ?_; conv => whnf)
    first | refine CallSt.use hn3 [4] ⟨rfl, trivial⟩ (by decide) rfl ?_ | refine CallPt.useS hn3 [4] ⟨rfl, trivial⟩ (by decide) rfl ?_
    rintro _ _ ⟨rfl, rfl⟩ _
    conv => whnf
    repeat (first | (refine And.intro rfl ?_; conv => whnf) | (refine And.intro (by decide) ?_; conv => whnf) | (refine draw_intro true (by kernel_rfl) ?_; conv => whnf) | (refine And.intro ⟨by omega, by omega⟩ ?_; conv => whnf) | (refine And.intro (by omega) ?_; conv => whnf) | (refine And.intro (fun _ => ⟨by omega, by omega⟩) ?_; conv => whnf) | (refine And.intro (of_decide_eq_true rfl) ?_; conv => whnf) | (refine And.intro (fun _ => ?_) (fun h => absurd h ?_); rotate_left; (focus (first | decide | (simp; done) | (simp [tcs]; done))); conv => whnf) | (refine And.intro (fun h => absurd h ?_) (fun _ => ?_); (focus (first | decide | (simp; done) | (simp [tcs]; done))); conv => whnf) | (intro _; conv => whnf))
    refine ⟨m - 1, _, _, by omega, ⟨j + 1, by omega, rfl, rfl⟩, Wk.sel [0, 5] (by decide) (by first | decide | (show (0 : Nat) ≤ _; decide) | (show ∀ i, i < 0 → _; decide) | (show (1 : Nat) ≤ _; decide) | (show ∀ i, i < 1 → _; decide) | (show (2 : Nat) ≤ _; decide) | (show ∀ i, i < 2 → _; decide) | (show (3 : Nat) ≤ _; decide) | (show ∀ i, i < 3 → _; decide) | (show (4 : Nat) ≤ _; decide) | (show ∀ i, i < 4 → _; decide) | (show (5 : Nat) ≤ _; decide) | (show ∀ i, i < 5 → _; decide) | (show (6 : Nat) ≤ _; decide) | (show ∀ i, i < 6 → _; decide) | (show (7 : Nat) ≤ _; decide) | (show ∀ i, i < 7 → _; decide)) (by first | decide | (show (0 : Nat) ≤ _; decide) | (show ∀ i, i < 0 → _; decide) | (show (1 : Nat) ≤ _; decide) | (show ∀ i, i < 1 → _; decide) | (show (2 : Nat) ≤ _; decide) | (show ∀ i, i < 2 → _; decide) | (show (3 : Nat) ≤ _; decide) | (show ∀ i, i < 3 → _; decide) | (show (4 : Nat) ≤ _; decide) | (show ∀ i, i < 4 → _; decide) | (show (5 : Nat) ≤ _; decide) | (show ∀ i, i < 5 → _; decide) | (show (6 : Nat) ≤ _; decide) | (show ∀ i, i < 6 → _; decide) | (show (7 : Nat) ≤ _; decide) | (show ∀ i, i < 7 → _; decide)) ⟨rfl, ?_, trivial⟩ ⟨rfl, rfl, rfl, rfl, rfl, rfl, rfl, trivial⟩ rfl⟩
    refine congrArg (fun z => some (Ent.row 5 1 1 (bR z))) ?_
    rw [hstep, ← List.append_assoc, hQe]
    simp only [List.append_assoc]
  replace hc : ¬ (j : Int) < (dcs S).length := of_decide_eq_false hc
  obtain rfl : j = S.length := by omega
  have hdS2 := hdb S.length (by omega)
  have hQ : (P ++ digs S.length ++ declsB S R1 S.length).length ≤ 657005000 := by simp only [List.length_append]; omega
  have hPK : P ++ digs S.length ++ declsB S R1 S.length ++ lstB digs R2 ++ [o, cc].flatMap digs = (P ++ digs S.length ++ declsB S R1 S.length ++ digs R2.length ++ R2.flatMap digs) ++ digs o ++ digs cc := by
    simp only [lstB, List.flatMap_cons, List.flatMap_nil, List.append_nil, List.append_assoc]
  rw [hPK]
  clear hPK
  generalize hQe : P ++ digs S.length ++ declsB S R1 S.length = Q at *
  have hR2n := rowN_len R2
  have d1 := digs9 (n := R2.length) (by omega)
  have hn1 := cRNum Q R2.length (by omega) (by omega)
  rw [← hR2n] at hn1
  have hQ2 : (Q ++ digs R2.length).length ≤ 657005009 := by rw [List.length_append]; omega
  conv => whnf
  repeat (first | (refine And.intro rfl ?_; conv => whnf) | (refine And.intro (by decide) ?_; conv => whnf) | (refine draw_intro true (by kernel_rfl) ?_; conv => whnf) | (refine And.intro ⟨by omega, by omega⟩ ?_; conv => whnf) | (refine And.intro (by omega) ?_; conv => whnf) | (refine And.intro (fun _ => ⟨by omega, by omega⟩) ?_; conv => whnf) | (refine And.intro (of_decide_eq_true rfl) ?_; conv => whnf) | (refine And.intro (fun _ => ?_) (fun h => absurd h ?_); rotate_left; (focus (first | decide | (simp; done) | (simp [tcs]; done))); conv => whnf) | (refine And.intro (fun h => absurd h ?_) (fun _ => ?_); (focus (first | decide | (simp; done) | (simp [tcs]; done))); conv => whnf) | (intro _; conv => whnf))
  try (refine draw_intro true (by kernel_rfl) ?_; conv => whnf)
  first | refine CallSt.use hn1 [1] ⟨rfl, trivial⟩ (by decide) rfl ?_ | refine CallPt.useS hn1 [1] ⟨rfl, trivial⟩ (by decide) rfl ?_
  rintro _ _ ⟨rfl, rfl⟩ _
  conv => whnf
  repeat (first | (refine And.intro rfl ?_; conv => whnf) | (refine And.intro (by decide) ?_; conv => whnf) | (refine draw_intro true (by kernel_rfl) ?_; conv => whnf) | (refine And.intro ⟨by omega, by omega⟩ ?_; conv => whnf) | (refine And.intro (by omega) ?_; conv => whnf) | (refine And.intro (fun _ => ⟨by omega, by omega⟩) ?_; conv => whnf) | (refine And.intro (of_decide_eq_true rfl) ?_; conv => whnf) | (refine And.intro (fun _ => ?_) (fun h => absurd h ?_); rotate_left; (focus (first | decide | (simp; done) | (simp [tcs]; done))); conv => whnf) | (refine And.intro (fun h => absurd h ?_) (fun _ => ?_); (focus (first | decide | (simp; done) | (simp [tcs]; done))); conv => whnf) | (intro _; conv => whnf))
  rw [hR2n]
  generalize hQf : Q ++ digs R2.length = Q2 at *
  refine loop_intro (fun m tm H => ∃ (j : Nat), R2.length = m + j ∧ tm = [(13, .c (.int .i64 (j))), (8, .own 0), (5, .c (.sl 1 8 (rowN R2))), (6, .c (.int .i64 (o))), (7, .c (.int .i64 (cc)))] ∧
      H = [.row 5 1 1 (bR (Q2 ++ (R2.take j).flatMap digs))])
    R2.length _ _ ⟨0, by omega, rfl, rfl⟩ ?_ ?_
  · refine Wk.sel [2] (by decide) (by first | decide | (show (0 : Nat) ≤ _; decide) | (show ∀ i, i < 0 → _; decide) | (show (1 : Nat) ≤ _; decide) | (show ∀ i, i < 1 → _; decide) | (show (2 : Nat) ≤ _; decide) | (show ∀ i, i < 2 → _; decide) | (show (3 : Nat) ≤ _; decide) | (show ∀ i, i < 3 → _; decide) | (show (4 : Nat) ≤ _; decide) | (show ∀ i, i < 4 → _; decide) | (show (5 : Nat) ≤ _; decide) | (show ∀ i, i < 5 → _; decide) | (show (6 : Nat) ≤ _; decide) | (show ∀ i, i < 6 → _; decide) | (show (7 : Nat) ≤ _; decide) | (show ∀ i, i < 7 → _; decide)) (by first | decide | (show (0 : Nat) ≤ _; decide) | (show ∀ i, i < 0 → _; decide) | (show (1 : Nat) ≤ _; decide) | (show ∀ i, i < 1 → _; decide) | (show (2 : Nat) ≤ _; decide) | (show ∀ i, i < 2 → _; decide) | (show (3 : Nat) ≤ _; decide) | (show ∀ i, i < 3 → _; decide) | (show (4 : Nat) ≤ _; decide) | (show ∀ i, i < 4 → _; decide) | (show (5 : Nat) ≤ _; decide) | (show ∀ i, i < 5 → _; decide) | (show (6 : Nat) ≤ _; decide) | (show ∀ i, i < 6 → _; decide) | (show (7 : Nat) ≤ _; decide) | (show ∀ i, i < 7 → _; decide)) ⟨?_, trivial⟩ ⟨rfl, rfl, rfl, rfl, rfl, trivial⟩ rfl
    rw [List.take_zero, List.flatMap_nil, List.append_nil]
    rfl
  rintro m tm H ⟨j, hj, rfl, rfl⟩
  have hfl := flat9 digs (R2.take j) fun y hy => digs9 (by have := hR2b y (List.mem_of_mem_take hy); omega)
  have htl : (R2.take j).length ≤ j := by rw [List.length_take]; omega
  conv => whnf
  repeat (first | (refine And.intro rfl ?_; conv => whnf) | (refine And.intro (by decide) ?_; conv => whnf) | (refine And.intro ⟨by omega, by omega⟩ ?_; conv => whnf) | (refine And.intro (by omega) ?_; conv => whnf) | (refine And.intro (fun _ => ⟨by omega, by omega⟩) ?_; conv => whnf) | (refine And.intro (of_decide_eq_true rfl) ?_; conv => whnf) | (refine And.intro (fun _ => ?_) (fun h => absurd h ?_); rotate_left; (focus (first | decide | (simp; done) | (simp [tcs]; done))); conv => whnf) | (refine And.intro (fun h => absurd h ?_) (fun _ => ?_); (focus (first | decide | (simp; done) | (simp [tcs]; done))); conv => whnf))
  intro hgl4
  conv => whnf
  repeat (first | (refine And.intro rfl ?_; conv => whnf) | (refine And.intro (by decide) ?_; conv => whnf) | (refine And.intro ⟨by omega, by omega⟩ ?_; conv => whnf) | (refine And.intro (by omega) ?_; conv => whnf) | (refine And.intro (fun _ => ⟨by omega, by omega⟩) ?_; conv => whnf) | (refine And.intro (of_decide_eq_true rfl) ?_; conv => whnf) | (refine And.intro (fun _ => ?_) (fun h => absurd h ?_); rotate_left; (focus (first | decide | (simp; done) | (simp [tcs]; done))); conv => whnf) | (refine And.intro (fun h => absurd h ?_) (fun _ => ?_); (focus (first | decide | (simp; done) | (simp [tcs]; done))); conv => whnf))
  refine ⟨fun hc => ?_, fun hc => ?_⟩
  · replace hc : (j : Int) < (rowN R2).length := of_decide_eq_true hc
    obtain ⟨x, hx⟩ : ∃ x, R2[j]? = some x := ⟨R2[j]'(by omega), List.getElem?_eq_getElem (by omega)⟩
    have hxr := rowN_at hx
    have hxb := hR2b x (List.mem_of_getElem? hx)
    have hd9 := digs9 (n := x) (by omega)
    have hnx := cRNum (Q2 ++ (R2.take j).flatMap digs) x (by rw [List.length_append]; omega) (by omega)
    have hst : Q2 ++ (R2.take (j + 1)).flatMap digs = (Q2 ++ (R2.take j).flatMap digs) ++ digs x := by
      rw [List.take_add_one, hx]
      simp
    conv => whnf
    repeat (first | (refine And.intro rfl ?_; conv => whnf) | (refine And.intro (by decide) ?_; conv => whnf) | (refine And.intro ⟨by omega, by omega⟩ ?_; conv => whnf) | (refine And.intro (by omega) ?_; conv => whnf) | (refine And.intro (fun _ => ⟨by omega, by omega⟩) ?_; conv => whnf) | (refine And.intro (of_decide_eq_true rfl) ?_; conv => whnf) | (refine And.intro (fun _ => ?_) (fun h => absurd h ?_); rotate_left; (focus (first | decide | (simp; done) | (simp [tcs]; done))); conv => whnf) | (refine And.intro (fun h => absurd h ?_) (fun _ => ?_); (focus (first | decide | (simp; done) | (simp [tcs]; done))); conv => whnf))
    refine ⟨_, ⟨by omega, by simpa using hxr⟩, ?_⟩
    conv => whnf
    refine ⟨Nat.le_refl 1, ?_⟩
    conv => whnf
    repeat (first | (refine And.intro rfl ?_; conv => whnf) | (refine And.intro (by decide) ?_; conv => whnf) | (refine And.intro ⟨by omega, by omega⟩ ?_; conv => whnf) | (refine And.intro (by omega) ?_; conv => whnf) | (refine And.intro (fun _ => ⟨by omega, by omega⟩) ?_; conv => whnf) | (refine And.intro (of_decide_eq_true rfl) ?_; conv => whnf) | (refine And.intro (fun _ => ?_) (fun h => absurd h ?_); rotate_left; (focus (first | decide | (simp; done) | (simp [tcs]; done))); conv => whnf) | (refine And.intro (fun h => absurd h ?_) (fun _ => ?_); (focus (first | decide | (simp; done) | (simp [tcs]; done))); conv => whnf))
    try (refine draw_intro true (by kernel_rfl) ?_; conv => whnf)
    first | refine CallSt.use hnx [0] ⟨rfl, trivial⟩ (by decide) rfl ?_ | refine CallPt.useS hnx [0] ⟨rfl, trivial⟩ (by decide) rfl ?_
    rintro _ _ ⟨rfl, rfl⟩ _
    conv => whnf
    repeat (first | (refine And.intro rfl ?_; conv => whnf) | (refine And.intro (by decide) ?_; conv => whnf) | (refine draw_intro true (by kernel_rfl) ?_; conv => whnf) | (refine And.intro ⟨by omega, by omega⟩ ?_; conv => whnf) | (refine And.intro (by omega) ?_; conv => whnf) | (refine And.intro (fun _ => ⟨by omega, by omega⟩) ?_; conv => whnf) | (refine And.intro (of_decide_eq_true rfl) ?_; conv => whnf) | (refine And.intro (fun _ => ?_) (fun h => absurd h ?_); rotate_left; (focus (first | decide | (simp; done) | (simp [tcs]; done))); conv => whnf) | (refine And.intro (fun h => absurd h ?_) (fun _ => ?_); (focus (first | decide | (simp; done) | (simp [tcs]; done))); conv => whnf) | (intro _; conv => whnf))
    refine ⟨m - 1, _, _, by omega, ⟨j + 1, by omega, rfl, rfl⟩, Wk.sel [1] (by decide) (by first | decide | (show (0 : Nat) ≤ _; decide) | (show ∀ i, i < 0 → _; decide) | (show (1 : Nat) ≤ _; decide) | (show ∀ i, i < 1 → _; decide) | (show (2 : Nat) ≤ _; decide) | (show ∀ i, i < 2 → _; decide) | (show (3 : Nat) ≤ _; decide) | (show ∀ i, i < 3 → _; decide) | (show (4 : Nat) ≤ _; decide) | (show ∀ i, i < 4 → _; decide) | (show (5 : Nat) ≤ _; decide) | (show ∀ i, i < 5 → _; decide) | (show (6 : Nat) ≤ _; decide) | (show ∀ i, i < 6 → _; decide) | (show (7 : Nat) ≤ _; decide) | (show ∀ i, i < 7 → _; decide)) (by first | decide | (show (0 : Nat) ≤ _; decide) | (show ∀ i, i < 0 → _; decide) | (show (1 : Nat) ≤ _; decide) | (show ∀ i, i < 1 → _; decide) | (show (2 : Nat) ≤ _; decide) | (show ∀ i, i < 2 → _; decide) | (show (3 : Nat) ≤ _; decide) | (show ∀ i, i < 3 → _; decide) | (show (4 : Nat) ≤ _; decide) | (show ∀ i, i < 4 → _; decide) | (show (5 : Nat) ≤ _; decide) | (show ∀ i, i < 5 → _; decide) | (show (6 : Nat) ≤ _; decide) | (show ∀ i, i < 6 → _; decide) | (show (7 : Nat) ≤ _; decide) | (show ∀ i, i < 7 → _; decide)) ⟨?_, trivial⟩ ⟨rfl, rfl, rfl, rfl, rfl, trivial⟩ rfl⟩
    rw [hst]
    rfl
  replace hc : ¬ (j : Int) < (rowN R2).length := of_decide_eq_false hc
  obtain rfl : j = R2.length := by omega
  rw [List.take_length] at hfl ⊢
  have hZ : (Q2 ++ R2.flatMap digs).length ≤ 657100000 := by rw [List.length_append]; omega
  rw [← hQf] at hZ ⊢
  generalize Q ++ digs R2.length ++ R2.flatMap digs = Z at *
  have do9 := digs9 (n := o) (by omega)
  have dc9 := digs9 (n := cc) (by omega)
  have hno := cRNum Z o (by omega) (by omega)
  have hnc := cRNum (Z ++ digs o) cc (by rw [List.length_append]; omega) (by omega)
  have hse := cRSeal ⟨(Z ++ digs o ++ digs cc).toArray⟩ (by
    have : (⟨(Z ++ digs o ++ digs cc).toArray⟩ : ByteArray).size = (Z ++ digs o ++ digs cc).length := by simp [ByteArray.size]
    rw [this]
    simp only [List.length_append]
    omega)
  have hdt : (⟨(Z ++ digs o ++ digs cc).toArray⟩ : ByteArray).data.toList = Z ++ digs o ++ digs cc := by simp
  rw [hdt] at hse
  conv => whnf
  repeat (first | (refine And.intro rfl ?_; conv => whnf) | (refine And.intro (by decide) ?_; conv => whnf) | (refine draw_intro true (by kernel_rfl) ?_; conv => whnf) | (refine And.intro ⟨by omega, by omega⟩ ?_; conv => whnf) | (refine And.intro (by omega) ?_; conv => whnf) | (refine And.intro (fun _ => ⟨by omega, by omega⟩) ?_; conv => whnf) | (refine And.intro (of_decide_eq_true rfl) ?_; conv => whnf) | (refine And.intro (fun _ => ?_) (fun h => absurd h ?_); rotate_left; (focus (first | decide | (simp; done) | (simp [tcs]; done))); conv => whnf) | (refine And.intro (fun h => absurd h ?_) (fun _ => ?_); (focus (first | decide | (simp; done) | (simp [tcs]; done))); conv => whnf) | (intro _; conv => whnf))
  try (refine draw_intro true (by kernel_rfl) ?_; conv => whnf)
  first | refine CallSt.use hno [0] ⟨rfl, trivial⟩ (by decide) rfl ?_ | refine CallPt.useS hno [0] ⟨rfl, trivial⟩ (by decide) rfl ?_
  rintro _ _ ⟨rfl, rfl⟩ _
  conv => whnf
  repeat (first | (refine And.intro rfl ?_; conv => whnf) | (refine And.intro (by decide) ?_; conv => whnf) | (refine draw_intro true (by kernel_rfl) ?_; conv => whnf) | (refine And.intro ⟨by omega, by omega⟩ ?_; conv => whnf) | (refine And.intro (by omega) ?_; conv => whnf) | (refine And.intro (fun _ => ⟨by omega, by omega⟩) ?_; conv => whnf) | (refine And.intro (of_decide_eq_true rfl) ?_; conv => whnf) | (refine And.intro (fun _ => ?_) (fun h => absurd h ?_); rotate_left; (focus (first | decide | (simp; done) | (simp [tcs]; done))); conv => whnf) | (refine And.intro (fun h => absurd h ?_) (fun _ => ?_); (focus (first | decide | (simp; done) | (simp [tcs]; done))); conv => whnf) | (intro _; conv => whnf))
  try (refine draw_intro true (by kernel_rfl) ?_; conv => whnf)
  first | refine CallSt.use hnc [1] ⟨rfl, trivial⟩ (by decide) rfl ?_ | refine CallPt.useS hnc [1] ⟨rfl, trivial⟩ (by decide) rfl ?_
  rintro _ _ ⟨rfl, rfl⟩ _
  conv => whnf
  repeat (first | (refine And.intro rfl ?_; conv => whnf) | (refine And.intro (by decide) ?_; conv => whnf) | (refine draw_intro true (by kernel_rfl) ?_; conv => whnf) | (refine And.intro ⟨by omega, by omega⟩ ?_; conv => whnf) | (refine And.intro (by omega) ?_; conv => whnf) | (refine And.intro (fun _ => ⟨by omega, by omega⟩) ?_; conv => whnf) | (refine And.intro (of_decide_eq_true rfl) ?_; conv => whnf) | (refine And.intro (fun _ => ?_) (fun h => absurd h ?_); rotate_left; (focus (first | decide | (simp; done) | (simp [tcs]; done))); conv => whnf) | (refine And.intro (fun h => absurd h ?_) (fun _ => ?_); (focus (first | decide | (simp; done) | (simp [tcs]; done))); conv => whnf) | (intro _; conv => whnf))
  refine ⟨_, rfl, ?_⟩
  conv => whnf
  try (refine draw_intro true (by kernel_rfl) ?_; conv => whnf)
  first | refine CallSt.use hse [] trivial (by decide) rfl ?_ | refine CallPt.useS hse [] trivial (by decide) rfl ?_
  rintro _ _ ⟨rfl, rfl⟩ _
  conv => whnf
  repeat (first | (refine And.intro rfl ?_; conv => whnf) | (refine And.intro (by decide) ?_; conv => whnf) | (refine draw_intro true (by kernel_rfl) ?_; conv => whnf) | (refine And.intro ⟨by omega, by omega⟩ ?_; conv => whnf) | (refine And.intro (by omega) ?_; conv => whnf) | (refine And.intro (fun _ => ⟨by omega, by omega⟩) ?_; conv => whnf) | (refine And.intro (of_decide_eq_true rfl) ?_; conv => whnf) | (refine And.intro (fun _ => ?_) (fun h => absurd h ?_); rotate_left; (focus (first | decide | (simp; done) | (simp [tcs]; done))); conv => whnf) | (refine And.intro (fun h => absurd h ?_) (fun _ => ?_); (focus (first | decide | (simp; done) | (simp [tcs]; done))); conv => whnf) | (intro _; conv => whnf))
  rfl
end Go.Tr
/- cert.Same: the declarations. -/
namespace Go.Tr
open Go.Proofs
end Go.Tr
/- cert.Same: the declarations. -/
namespace Go.Tr
open Go.Proofs
/-- Two lists, element by element. -/
def allEq {α : Type} (f : α → α → Bool) : List α → List α → Bool
  | [], [] => true
  | a :: l, b :: m => f a b && allEq f l m
  | _, _ => false
end Go.Tr
/- cert.Same: the lists of declarations. -/
namespace Go.Tr
open Go.Proofs
end Go.Tr
/- cert.Same. -/
namespace Go.Tr
open Go.Proofs
end Go.Tr
/- Clone, Backward; Pi, kept; Arrow. -/
namespace Go.Tr
open Go.Proofs
end Go.Tr
/- TermBack: the plain law. -/
namespace Go.Tr
open Go.Proofs
end Go.Tr
/- Arrow, Join: both sides. -/
namespace Go.Tr
open Go.Proofs
end Go.Tr
/- Join: both sides. -/
namespace Go.Tr
open Go.Proofs
end Go.Tr
/- Join of the program. -/
namespace Go.Tr
open Go.Proofs
end Go.Tr
/- Split: both sides; SameAll. -/
namespace Go.Tr
open Go.Proofs
theorem c34 (ts us : List Term) : CallSt Tryz.prog 13 [.c (.sl 4 48 (tcs ts)), .c (.sl 4 48 (tcs us))] [] (fun r H' => r = .c (.bool (decide (ts.length = us.length) && sameL ts us)) ∧ H' = []) := by
  have e1 := len_tcs ts
  have e2 := len_tcs us
  refine call_pure (E := env 0) (fn := Tryz.f13) (c := bodyOf Tryz.f13) (env_ok 0) mixed (by kernel_rfl) (by kernel_rfl) (by kernel_rfl) (by kernel_rfl) (by kernel_rfl) (by kernel_rfl) rfl ?_
  conv => whnf
  intro hl1
  conv => whnf
  intro hl2
  clear hl1 hl2
  conv => whnf
  have key : (!decide (((tcs ts).length : Int) = (tcs us).length)) = !decide (ts.length = us.length) := by
    rw [len_tcs, len_tcs]; simp only [Int.natCast_inj]
  refine ⟨fun h => ?_, fun h => ?_⟩
  · replace h := key.symm.trans h
    rw [Bool.not_eq_true'] at h
    rw [h]
    conv => whnf
    repeat (first | (refine And.intro rfl ?_; conv => whnf) | (refine And.intro (by decide) ?_; conv => whnf) | (refine draw_intro true (by kernel_rfl) ?_; conv => whnf) | (refine And.intro ⟨by omega, by omega⟩ ?_; conv => whnf) | (refine And.intro (by omega) ?_; conv => whnf) | (refine And.intro (fun _ => ⟨by omega, by omega⟩) ?_; conv => whnf) | (refine And.intro (of_decide_eq_true rfl) ?_; conv => whnf) | (refine And.intro (fun _ => ?_) (fun h => absurd h ?_); rotate_left; (focus (first | decide | (simp; done) | (simp [tcs]; done))); conv => whnf) | (refine And.intro (fun h => absurd h ?_) (fun _ => ?_); (focus (first | decide | (simp; done) | (simp [tcs]; done))); conv => whnf))
    all_goals (first | rfl | exact ⟨rfl, rfl⟩ | exact ⟨rfl, rfl, rfl⟩)
  replace h := key.symm.trans h
  rw [Bool.not_eq_false'] at h
  have hle : ts.length = us.length := of_decide_eq_true h
  rw [h, Bool.true_and]
  conv => whnf
  refine loop_intro (fun m tm H => ∃ (i : Nat), ts.length = m + i ∧ sameL (ts.drop i) (us.drop i) = sameL ts us ∧
      tm = [(5, .c (.int .i64 (i))), (0, .c (.sl 4 48 (tcs ts))), (1, .c (.sl 4 48 (tcs us))), (4, .c (.bool false))] ∧ H = [])
      ts.length _ _ ⟨0, by omega, rfl, rfl, rfl⟩ (Wk.sel [] (by decide) (by first | decide | (show (0 : Nat) ≤ _; decide) | (show ∀ i, i < 0 → _; decide) | (show (1 : Nat) ≤ _; decide) | (show ∀ i, i < 1 → _; decide) | (show (2 : Nat) ≤ _; decide) | (show ∀ i, i < 2 → _; decide) | (show (3 : Nat) ≤ _; decide) | (show ∀ i, i < 3 → _; decide) | (show (4 : Nat) ≤ _; decide) | (show ∀ i, i < 4 → _; decide) | (show (5 : Nat) ≤ _; decide) | (show ∀ i, i < 5 → _; decide) | (show (6 : Nat) ≤ _; decide) | (show ∀ i, i < 6 → _; decide) | (show (7 : Nat) ≤ _; decide) | (show ∀ i, i < 7 → _; decide)) (by first | decide | (show (0 : Nat) ≤ _; decide) | (show ∀ i, i < 0 → _; decide) | (show (1 : Nat) ≤ _; decide) | (show ∀ i, i < 1 → _; decide) | (show (2 : Nat) ≤ _; decide) | (show ∀ i, i < 2 → _; decide) | (show (3 : Nat) ≤ _; decide) | (show ∀ i, i < 3 → _; decide) | (show (4 : Nat) ≤ _; decide) | (show ∀ i, i < 4 → _; decide) | (show (5 : Nat) ≤ _; decide) | (show ∀ i, i < 5 → _; decide) | (show (6 : Nat) ≤ _; decide) | (show ∀ i, i < 6 → _; decide) | (show (7 : Nat) ≤ _; decide) | (show ∀ i, i < 7 → _; decide)) trivial ⟨rfl, rfl, rfl, rfl, trivial⟩ rfl) ?_
  rintro m tm H ⟨i, hi, hR, rfl, rfl⟩
  conv => whnf
  intro hl
  replace hl : (tcs ts).length * 48 ≤ 140737488355328 := hl
  conv => whnf
  refine ⟨fun hc => ?_, fun hc => ?_⟩
  · replace hc : (i : Int) < (tcs ts).length := of_decide_eq_true hc
    have hlt : i < ts.length := by omega
    obtain ⟨u, hu⟩ : ∃ u, ts[i]? = some u := ⟨ts[i], List.getElem?_eq_getElem hlt⟩
    obtain ⟨v, hv⟩ : ∃ v, us[i]? = some v := ⟨us[i], List.getElem?_eq_getElem (by omega)⟩
    have huc := tcs_at ts i u hu
    have hvc := tcs_at us i v hv
    rw [drop_at hu, drop_at hv, sameL] at hR
    have hcc := c23 u v
    generalize sameT u v = b at *
    obtain ⟨k', l', n', us'⟩ := u
    obtain ⟨k3, l3, n3, us3⟩ := v
    conv => whnf
    refine draw_intro true (by kernel_rfl) ?_
    conv => whnf
    refine ⟨_, ⟨by omega, by simpa using huc⟩, ?_⟩
    conv => whnf
    refine ⟨Nat.le_refl 4, ?_⟩
    conv => whnf
    refine ⟨_, ⟨by omega, by simpa using hvc⟩, ?_⟩
    conv => whnf
    refine ⟨Nat.le_refl 4, ?_⟩
    conv => whnf
    cases b with
    | false =>
      rw [Bool.false_and] at hR
      rw [← hR]
      try (refine draw_intro true (by kernel_rfl) ?_; conv => whnf)
      first | refine CallSt.use hcc [] trivial (by decide) rfl ?_ | refine CallPt.useS hcc [] trivial (by decide) rfl ?_
      rintro _ _ ⟨rfl, rfl⟩ _
      conv => whnf
      repeat (first | (refine And.intro rfl ?_; conv => whnf) | (refine And.intro (by decide) ?_; conv => whnf) | (refine draw_intro true (by kernel_rfl) ?_; conv => whnf) | (refine And.intro ⟨by omega, by omega⟩ ?_; conv => whnf) | (refine And.intro (by omega) ?_; conv => whnf) | (refine And.intro (fun _ => ⟨by omega, by omega⟩) ?_; conv => whnf) | (refine And.intro (of_decide_eq_true rfl) ?_; conv => whnf) | (refine And.intro (fun _ => ?_) (fun h => absurd h ?_); rotate_left; (focus (first | decide | (simp; done) | (simp [tcs]; done))); conv => whnf) | (refine And.intro (fun h => absurd h ?_) (fun _ => ?_); (focus (first | decide | (simp; done) | (simp [tcs]; done))); conv => whnf))
      all_goals (first | rfl | exact ⟨rfl, rfl⟩ | exact ⟨rfl, rfl, rfl⟩)
    | true =>
      rw [Bool.true_and] at hR
      try (refine draw_intro true (by kernel_rfl) ?_; conv => whnf)
      first | refine CallSt.use hcc [] trivial (by decide) rfl ?_ | refine CallPt.useS hcc [] trivial (by decide) rfl ?_
      rintro _ _ ⟨rfl, rfl⟩ _
      conv => whnf
      first | (refine ⟨fun _ => ?_, fun h => absurd h ?_⟩; rotate_left; (focus (first | decide | (simp; done) | (simp [tcs]; done))); conv => whnf) | (refine ⟨fun h => absurd h ?_, fun _ => ?_⟩; (focus (first | decide | (simp; done) | (simp [tcs]; done))); conv => whnf)
      refine ⟨⟨by omega, by omega⟩, ?_⟩
      conv => whnf
      exact ⟨m - 1, _, _, by omega, ⟨i + 1, by omega, hR, rfl, rfl⟩, Wk.sel [] (by decide) (by first | decide | (show (0 : Nat) ≤ _; decide) | (show ∀ i, i < 0 → _; decide) | (show (1 : Nat) ≤ _; decide) | (show ∀ i, i < 1 → _; decide) | (show (2 : Nat) ≤ _; decide) | (show ∀ i, i < 2 → _; decide) | (show (3 : Nat) ≤ _; decide) | (show ∀ i, i < 3 → _; decide) | (show (4 : Nat) ≤ _; decide) | (show ∀ i, i < 4 → _; decide) | (show (5 : Nat) ≤ _; decide) | (show ∀ i, i < 5 → _; decide) | (show (6 : Nat) ≤ _; decide) | (show ∀ i, i < 6 → _; decide) | (show (7 : Nat) ≤ _; decide) | (show ∀ i, i < 7 → _; decide)) (by first | decide | (show (0 : Nat) ≤ _; decide) | (show ∀ i, i < 0 → _; decide) | (show (1 : Nat) ≤ _; decide) | (show ∀ i, i < 1 → _; decide) | (show (2 : Nat) ≤ _; decide) | (show ∀ i, i < 2 → _; decide) | (show (3 : Nat) ≤ _; decide) | (show ∀ i, i < 3 → _; decide) | (show (4 : Nat) ≤ _; decide) | (show ∀ i, i < 4 → _; decide) | (show (5 : Nat) ≤ _; decide) | (show ∀ i, i < 5 → _; decide) | (show (6 : Nat) ≤ _; decide) | (show ∀ i, i < 6 → _; decide) | (show (7 : Nat) ≤ _; decide) | (show ∀ i, i < 7 → _; decide)) trivial ⟨rfl, rfl, rfl, rfl, trivial⟩ rfl⟩
  · replace hc : ¬ (i : Int) < (tcs ts).length := of_decide_eq_false hc
    rw [List.drop_eq_nil_of_le (by omega), sameL] at hR
    · rw [← hR]
      conv => whnf
      repeat (first | (refine And.intro rfl ?_; conv => whnf) | (refine And.intro (by decide) ?_; conv => whnf) | (refine draw_intro true (by kernel_rfl) ?_; conv => whnf) | (refine And.intro ⟨by omega, by omega⟩ ?_; conv => whnf) | (refine And.intro (by omega) ?_; conv => whnf) | (refine And.intro (fun _ => ⟨by omega, by omega⟩) ?_; conv => whnf) | (refine And.intro (of_decide_eq_true rfl) ?_; conv => whnf) | (refine And.intro (fun _ => ?_) (fun h => absurd h ?_); rotate_left; (focus (first | decide | (simp; done) | (simp [tcs]; done))); conv => whnf) | (refine And.intro (fun h => absurd h ?_) (fun _ => ?_); (focus (first | decide | (simp; done) | (simp [tcs]; done))); conv => whnf))
      all_goals (first | rfl | exact ⟨rfl, rfl⟩ | exact ⟨rfl, rfl, rfl⟩)
    · simp
end Go.Tr
/- R19.Same: the plain fact. -/
namespace Go.Tr
open Go.Proofs
theorem sameL_all : ∀ (l m : List Term), (decide (l.length = m.length) && sameL l m) = allEq sameT l m
  | [], [] => by simp [sameL, allEq]
  | [], _ :: _ => by simp [allEq]
  | _ :: _, [] => by simp [allEq]
  | a :: l, b :: m => by
    have := sameL_all l m
    rw [sameL, allEq, ← this]
    simp only [List.length_cons, Nat.add_right_cancel_iff]
    cases sameT a b <;> cases decide (l.length = m.length) <;> simp
end Go.Tr
/- R19.Same. -/
namespace Go.Tr
open Go.Proofs
end Go.Tr
/- The law CertSums. -/
namespace Go.Tr
open Go.Proofs
theorem allEq_self {α : Type} (f : α → α → Bool) (hf : ∀ x, f x x = true) : ∀ l : List α, allEq f l l = true
  | [] => rfl
  | a :: l => by rw [allEq, hf, allEq_self f hf l]; rfl
end Go.Tr
/- cert: no packed certificate begins another; a byte that is changed is seen. -/
namespace Go.Tr
open Go.Proofs
end Go.Tr
/- The law CertBack. -/
namespace Go.Tr
open Go.Proofs
theorem packV_ok {c : Crt} (hb : builtB c = true) (hl : (packB c).length ≤ 60000) : packV c = .tup [.c (.str (sB (packB c))), .c (.int .i64 (0))] := by
  have hs : ((⟨(packB c).toArray⟩ : ByteArray).size : Int) = (packB c).length := by
    have : (⟨(packB c).toArray⟩ : ByteArray) = sB (packB c) := rfl
    rw [this, sB_size]
  unfold packV
  rw [hb, decide_eq_false (by omega)]
  rfl
theorem packV_full {c : Crt} (hb : builtB c = true) (hl : ¬ (packB c).length ≤ 60000) : packV c = .tup [.c (.str ⟨#[]⟩), .c (.int .i64 (5))] := by
  have hs : ((⟨(packB c).toArray⟩ : ByteArray).size : Int) = (packB c).length := by
    have : (⟨(packB c).toArray⟩ : ByteArray) = sB (packB c) := rfl
    rw [this, sB_size]
  unfold packV
  rw [hb, decide_eq_true (by omega)]
theorem packV_arg {c : Crt} (hb : builtB c = false) : packV c = .tup [.c (.str ⟨#[]⟩), .c (.int .i64 (2))] := by
  unfold packV
  rw [hb]
end Go.Tr
/- The law CertPacks. -/
namespace Go.Tr
open Go.Proofs
set_option maxHeartbeats 4000000 in
theorem cPacks (c : Crt) : CallSt Tryz.prog 3 [crv c] [] (fun r H' => r = .c (.bool true) ∧ H' = []) := by
  have hsm := cSmall19 c
  have haw := cAwake19
  have hpk := cPack c
  have hnd := cNodes c
  have hsv := cSaved c
  have hrb := cRBuilt c
  have hbu := cBuilt c
  cases hb : builtB c with
  | false =>
    rw [packV_arg hb] at hpk
    rw [show nodesV c = .tup [.c (.sl 4 48 []), .c (.int .i64 (2))] by unfold nodesV; rw [hb]] at hnd
    rw [show savedV c = .tup [.c (.int .i64 (0)), .c (.int .i64 (0)), .c (.int .i64 (2))] by unfold savedV; rw [hb]] at hsv
    rw [hb] at hrb hbu
    clear hb
    obtain ⟨S, X, ⟨k, l, n, ts⟩, ⟨k2, l2, n2, us⟩⟩ := c
    unfold crv at *
    dsimp only [Term.k, Term.l, Term.n, Term.ts] at *
    refine call_pure (E := env 0) (fn := Tryz.f3) (c := bodyOf Tryz.f3) (env_ok 0) mixed (by kernel_rfl) (by kernel_rfl) (by kernel_rfl) (by kernel_rfl) (by kernel_rfl) (by kernel_rfl) rfl ?_
    conv => whnf
    try (refine draw_intro true (by kernel_rfl) ?_; conv => whnf)
    first | refine CallSt.use hsm [] trivial (by decide) rfl ?_ | refine CallPt.useS hsm [] trivial (by decide) rfl ?_
    rintro _ _ ⟨b, rfl, rfl⟩ _
    conv => whnf
    cases b with
    | false =>
      repeat (first | (refine And.intro rfl ?_; conv => whnf) | (refine And.intro (by decide) ?_; conv => whnf) | (refine draw_intro true (by kernel_rfl) ?_; conv => whnf) | (refine And.intro ⟨by omega, by omega⟩ ?_; conv => whnf) | (refine And.intro (by omega) ?_; conv => whnf) | (refine And.intro (fun _ => ⟨by omega, by omega⟩) ?_; conv => whnf) | (refine And.intro (of_decide_eq_true rfl) ?_; conv => whnf) | (refine And.intro (fun _ => ?_) (fun h => absurd h ?_); rotate_left; (focus (first | decide | (simp; done) | (simp [tcs]; done))); conv => whnf) | (refine And.intro (fun h => absurd h ?_) (fun _ => ?_); (focus (first | decide | (simp; done) | (simp [tcs]; done))); conv => whnf) | (intro _; conv => whnf))
      try (refine draw_intro true (by kernel_rfl) ?_; conv => whnf)
      first | refine CallSt.use haw [] trivial (by decide) rfl ?_ | refine CallPt.useS haw [] trivial (by decide) rfl ?_
      rintro _ _ ⟨rfl, rfl⟩ _
      conv => whnf
      repeat (first | (refine And.intro rfl ?_; conv => whnf) | (refine And.intro (by decide) ?_; conv => whnf) | (refine draw_intro true (by kernel_rfl) ?_; conv => whnf) | (refine And.intro ⟨by omega, by omega⟩ ?_; conv => whnf) | (refine And.intro (by omega) ?_; conv => whnf) | (refine And.intro (fun _ => ⟨by omega, by omega⟩) ?_; conv => whnf) | (refine And.intro (of_decide_eq_true rfl) ?_; conv => whnf) | (refine And.intro (fun _ => ?_) (fun h => absurd h ?_); rotate_left; (focus (first | decide | (simp; done) | (simp [tcs]; done))); conv => whnf) | (refine And.intro (fun h => absurd h ?_) (fun _ => ?_); (focus (first | decide | (simp; done) | (simp [tcs]; done))); conv => whnf) | (intro _; conv => whnf))
      all_goals (first | rfl | exact ⟨rfl, rfl⟩ | exact ⟨rfl, rfl, rfl⟩)
    | true =>
      repeat (first | (refine And.intro rfl ?_; conv => whnf) | (refine And.intro (by decide) ?_; conv => whnf) | (refine draw_intro true (by kernel_rfl) ?_; conv => whnf) | (refine And.intro ⟨by omega, by omega⟩ ?_; conv => whnf) | (refine And.intro (by omega) ?_; conv => whnf) | (refine And.intro (fun _ => ⟨by omega, by omega⟩) ?_; conv => whnf) | (refine And.intro (of_decide_eq_true rfl) ?_; conv => whnf) | (refine And.intro (fun _ => ?_) (fun h => absurd h ?_); rotate_left; (focus (first | decide | (simp; done) | (simp [tcs]; done))); conv => whnf) | (refine And.intro (fun h => absurd h ?_) (fun _ => ?_); (focus (first | decide | (simp; done) | (simp [tcs]; done))); conv => whnf) | (intro _; conv => whnf))
      try (refine draw_intro true (by kernel_rfl) ?_; conv => whnf)
      first | refine CallSt.use hpk [] trivial (by decide) rfl ?_ | refine CallPt.useS hpk [] trivial (by decide) rfl ?_
      rintro _ _ ⟨rfl, rfl⟩ _
      conv => whnf
      repeat (first | (refine And.intro rfl ?_; conv => whnf) | (refine And.intro (by decide) ?_; conv => whnf) | (refine draw_intro true (by kernel_rfl) ?_; conv => whnf) | (refine And.intro ⟨by omega, by omega⟩ ?_; conv => whnf) | (refine And.intro (by omega) ?_; conv => whnf) | (refine And.intro (fun _ => ⟨by omega, by omega⟩) ?_; conv => whnf) | (refine And.intro (of_decide_eq_true rfl) ?_; conv => whnf) | (refine And.intro (fun _ => ?_) (fun h => absurd h ?_); rotate_left; (focus (first | decide | (simp; done) | (simp [tcs]; done))); conv => whnf) | (refine And.intro (fun h => absurd h ?_) (fun _ => ?_); (focus (first | decide | (simp; done) | (simp [tcs]; done))); conv => whnf) | (intro _; conv => whnf))
      try (refine draw_intro true (by kernel_rfl) ?_; conv => whnf)
      first | refine CallSt.use hnd [] trivial (by decide) rfl ?_ | refine CallPt.useS hnd [] trivial (by decide) rfl ?_
      rintro _ _ ⟨rfl, rfl⟩ _
      conv => whnf
      repeat (first | (refine And.intro rfl ?_; conv => whnf) | (refine And.intro (by decide) ?_; conv => whnf) | (refine draw_intro true (by kernel_rfl) ?_; conv => whnf) | (refine And.intro ⟨by omega, by omega⟩ ?_; conv => whnf) | (refine And.intro (by omega) ?_; conv => whnf) | (refine And.intro (fun _ => ⟨by omega, by omega⟩) ?_; conv => whnf) | (refine And.intro (of_decide_eq_true rfl) ?_; conv => whnf) | (refine And.intro (fun _ => ?_) (fun h => absurd h ?_); rotate_left; (focus (first | decide | (simp; done) | (simp [tcs]; done))); conv => whnf) | (refine And.intro (fun h => absurd h ?_) (fun _ => ?_); (focus (first | decide | (simp; done) | (simp [tcs]; done))); conv => whnf) | (intro _; conv => whnf))
      try (refine draw_intro true (by kernel_rfl) ?_; conv => whnf)
      first | refine CallSt.use hsv [] trivial (by decide) rfl ?_ | refine CallPt.useS hsv [] trivial (by decide) rfl ?_
      rintro _ _ ⟨rfl, rfl⟩ _
      conv => whnf
      repeat (first | (refine And.intro rfl ?_; conv => whnf) | (refine And.intro (by decide) ?_; conv => whnf) | (refine draw_intro true (by kernel_rfl) ?_; conv => whnf) | (refine And.intro ⟨by omega, by omega⟩ ?_; conv => whnf) | (refine And.intro (by omega) ?_; conv => whnf) | (refine And.intro (fun _ => ⟨by omega, by omega⟩) ?_; conv => whnf) | (refine And.intro (of_decide_eq_true rfl) ?_; conv => whnf) | (refine And.intro (fun _ => ?_) (fun h => absurd h ?_); rotate_left; (focus (first | decide | (simp; done) | (simp [tcs]; done))); conv => whnf) | (refine And.intro (fun h => absurd h ?_) (fun _ => ?_); (focus (first | decide | (simp; done) | (simp [tcs]; done))); conv => whnf) | (intro _; conv => whnf))
      try (refine draw_intro true (by kernel_rfl) ?_; conv => whnf)
      first | refine CallSt.use hrb [] trivial (by decide) rfl ?_ | refine CallPt.useS hrb [] trivial (by decide) rfl ?_
      rintro _ _ ⟨rfl, rfl⟩ _
      conv => whnf
      repeat (first | (refine And.intro rfl ?_; conv => whnf) | (refine And.intro (by decide) ?_; conv => whnf) | (refine draw_intro true (by kernel_rfl) ?_; conv => whnf) | (refine And.intro ⟨by omega, by omega⟩ ?_; conv => whnf) | (refine And.intro (by omega) ?_; conv => whnf) | (refine And.intro (fun _ => ⟨by omega, by omega⟩) ?_; conv => whnf) | (refine And.intro (of_decide_eq_true rfl) ?_; conv => whnf) | (refine And.intro (fun _ => ?_) (fun h => absurd h ?_); rotate_left; (focus (first | decide | (simp; done) | (simp [tcs]; done))); conv => whnf) | (refine And.intro (fun h => absurd h ?_) (fun _ => ?_); (focus (first | decide | (simp; done) | (simp [tcs]; done))); conv => whnf) | (intro _; conv => whnf))
      try (refine draw_intro true (by kernel_rfl) ?_; conv => whnf)
      first | refine CallSt.use hbu [] trivial (by decide) rfl ?_ | refine CallPt.useS hbu [] trivial (by decide) rfl ?_
      rintro _ _ ⟨rfl, rfl⟩ _
      conv => whnf
      repeat (first | (refine And.intro rfl ?_; conv => whnf) | (refine And.intro (by decide) ?_; conv => whnf) | (refine draw_intro true (by kernel_rfl) ?_; conv => whnf) | (refine And.intro ⟨by omega, by omega⟩ ?_; conv => whnf) | (refine And.intro (by omega) ?_; conv => whnf) | (refine And.intro (fun _ => ⟨by omega, by omega⟩) ?_; conv => whnf) | (refine And.intro (of_decide_eq_true rfl) ?_; conv => whnf) | (refine And.intro (fun _ => ?_) (fun h => absurd h ?_); rotate_left; (focus (first | decide | (simp; done) | (simp [tcs]; done))); conv => whnf) | (refine And.intro (fun h => absurd h ?_) (fun _ => ?_); (focus (first | decide | (simp; done) | (simp [tcs]; done))); conv => whnf) | (intro _; conv => whnf))
      try (refine draw_intro true (by kernel_rfl) ?_; conv => whnf)
      first | refine CallSt.use haw [] trivial (by decide) rfl ?_ | refine CallPt.useS haw [] trivial (by decide) rfl ?_
      rintro _ _ ⟨rfl, rfl⟩ _
      conv => whnf
      repeat (first | (refine And.intro rfl ?_; conv => whnf) | (refine And.intro (by decide) ?_; conv => whnf) | (refine draw_intro true (by kernel_rfl) ?_; conv => whnf) | (refine And.intro ⟨by omega, by omega⟩ ?_; conv => whnf) | (refine And.intro (by omega) ?_; conv => whnf) | (refine And.intro (fun _ => ⟨by omega, by omega⟩) ?_; conv => whnf) | (refine And.intro (of_decide_eq_true rfl) ?_; conv => whnf) | (refine And.intro (fun _ => ?_) (fun h => absurd h ?_); rotate_left; (focus (first | decide | (simp; done) | (simp [tcs]; done))); conv => whnf) | (refine And.intro (fun h => absurd h ?_) (fun _ => ?_); (focus (first | decide | (simp; done) | (simp [tcs]; done))); conv => whnf) | (intro _; conv => whnf))
      all_goals (first | rfl | exact ⟨rfl, rfl⟩ | exact ⟨rfl, rfl, rfl⟩)
  | true =>
    have hok := built_ok hb
    have hpr : ∀ t ∈ crl c, prop t = true := fun t hm => by
      unfold builtB at hb
      simp only [Bool.and_eq_true, List.all_eq_true] at hb
      have := hb.2 t hm
      unfold closedT at this
      simp only [Bool.and_eq_true] at this
      exact this.1
    have hrn := cRNodes c hok.sane
    have hrc := cRCount c hpr hok.sane.S hok.sane.X
    have hrp := cRPack c hok
    have hsa := c34 (nodesOf c) (nodesOf c)
    rw [sameL_all, allEq_self _ sameT_self] at hsa
    have hnl := len_tcs (nodesOf c)
    have hsz := (nodes_sz hb).1
    rw [show nodesV c = .tup [.c (.sl 4 48 (tcs (nodesOf c))), .c (.int .i64 (0))] by unfold nodesV; rw [hb]] at hnd
    rw [show savedV c = .tup [.c (.int .i64 (szL (crl c))), .c (.int .i64 ((nodesOf c).length)), .c (.int .i64 (0))] by unfold savedV; rw [hb], ← hnl] at hsv
    rw [hb] at hrb hbu
    have hfull := fun h => packV_full hb (c := c) h
    have hgood := fun h => packV_ok hb (c := c) h
    have hps : (⟨(packB c).toArray⟩ : ByteArray) = sB (packB c) := rfl
    have hss := sB_size (packB c)
    rw [hps] at hrp
    have hes : decide (sB (packB c) = sB (packB c)) = true := decide_eq_true rfl
    have hea : decide (szL (crl c) = szL (crl c)) = true := decide_eq_true rfl
    have hen : decide (((tcs (nodesOf c)).length : Int) = ((tcs (nodesOf c)).length : Int)) = true := decide_eq_true rfl
    by_cases hl : (packB c).length ≤ 60000
    · rw [hgood hl] at hpk
      have hlt : decide ((60000 : Int) < ((sB (packB c)).size : Int)) = false := decide_eq_false (by omega)
      clear hb hps hfull hgood hok hpr hl
      generalize sB (packB c) = s at *
      generalize szL (crl c) = a at *
      generalize nodesOf c = N at *
      obtain ⟨S, X, ⟨k, l, n, ts⟩, ⟨k2, l2, n2, us⟩⟩ := c
      unfold crv at *
      dsimp only [Term.k, Term.l, Term.n, Term.ts] at *
      refine call_pure (E := env 0) (fn := Tryz.f3) (c := bodyOf Tryz.f3) (env_ok 0) mixed (by kernel_rfl) (by kernel_rfl) (by kernel_rfl) (by kernel_rfl) (by kernel_rfl) (by kernel_rfl) rfl ?_
      conv => whnf
      try (refine draw_intro true (by kernel_rfl) ?_; conv => whnf)
      first | refine CallSt.use hsm [] trivial (by decide) rfl ?_ | refine CallPt.useS hsm [] trivial (by decide) rfl ?_
      rintro _ _ ⟨b, rfl, rfl⟩ _
      conv => whnf
      cases b with
      | false =>
        repeat (first | (refine And.intro rfl ?_; conv => whnf) | (refine And.intro (by decide) ?_; conv => whnf) | (refine draw_intro true (by kernel_rfl) ?_; conv => whnf) | (refine And.intro ⟨by omega, by omega⟩ ?_; conv => whnf) | (refine And.intro (by omega) ?_; conv => whnf) | (refine And.intro (fun _ => ⟨by omega, by omega⟩) ?_; conv => whnf) | (refine And.intro (of_decide_eq_true rfl) ?_; conv => whnf) | (refine And.intro (fun _ => ?_) (fun h => absurd h ?_); rotate_left; (focus (first | decide | (simp; done) | (simp [tcs]; done))); conv => whnf) | (refine And.intro (fun h => absurd h ?_) (fun _ => ?_); (focus (first | decide | (simp; done) | (simp [tcs]; done))); conv => whnf) | (intro _; conv => whnf))
        try (refine draw_intro true (by kernel_rfl) ?_; conv => whnf)
        first | refine CallSt.use haw [] trivial (by decide) rfl ?_ | refine CallPt.useS haw [] trivial (by decide) rfl ?_
        rintro _ _ ⟨rfl, rfl⟩ _
        conv => whnf
        repeat (first | (refine And.intro rfl ?_; conv => whnf) | (refine And.intro (by decide) ?_; conv => whnf) | (refine draw_intro true (by kernel_rfl) ?_; conv => whnf) | (refine And.intro ⟨by omega, by omega⟩ ?_; conv => whnf) | (refine And.intro (by omega) ?_; conv => whnf) | (refine And.intro (fun _ => ⟨by omega, by omega⟩) ?_; conv => whnf) | (refine And.intro (of_decide_eq_true rfl) ?_; conv => whnf) | (refine And.intro (fun _ => ?_) (fun h => absurd h ?_); rotate_left; (focus (first | decide | (simp; done) | (simp [tcs]; done))); conv => whnf) | (refine And.intro (fun h => absurd h ?_) (fun _ => ?_); (focus (first | decide | (simp; done) | (simp [tcs]; done))); conv => whnf) | (intro _; conv => whnf))
        all_goals (first | rfl | exact ⟨rfl, rfl⟩ | exact ⟨rfl, rfl, rfl⟩)
      | true =>
        repeat (first | (refine And.intro rfl ?_; conv => whnf) | (refine And.intro (by decide) ?_; conv => whnf) | (refine draw_intro true (by kernel_rfl) ?_; conv => whnf) | (refine And.intro ⟨by omega, by omega⟩ ?_; conv => whnf) | (refine And.intro (by omega) ?_; conv => whnf) | (refine And.intro (fun _ => ⟨by omega, by omega⟩) ?_; conv => whnf) | (refine And.intro (of_decide_eq_true rfl) ?_; conv => whnf) | (refine And.intro (fun _ => ?_) (fun h => absurd h ?_); rotate_left; (focus (first | decide | (simp; done) | (simp [tcs]; done))); conv => whnf) | (refine And.intro (fun h => absurd h ?_) (fun _ => ?_); (focus (first | decide | (simp; done) | (simp [tcs]; done))); conv => whnf) | (intro _; conv => whnf))
        try (refine draw_intro true (by kernel_rfl) ?_; conv => whnf)
        first | refine CallSt.use hpk [] trivial (by decide) rfl ?_ | refine CallPt.useS hpk [] trivial (by decide) rfl ?_
        rintro _ _ ⟨rfl, rfl⟩ _
        conv => whnf
        repeat (first | (refine And.intro rfl ?_; conv => whnf) | (refine And.intro (by decide) ?_; conv => whnf) | (refine draw_intro true (by kernel_rfl) ?_; conv => whnf) | (refine And.intro ⟨by omega, by omega⟩ ?_; conv => whnf) | (refine And.intro (by omega) ?_; conv => whnf) | (refine And.intro (fun _ => ⟨by omega, by omega⟩) ?_; conv => whnf) | (refine And.intro (of_decide_eq_true rfl) ?_; conv => whnf) | (refine And.intro (fun _ => ?_) (fun h => absurd h ?_); rotate_left; (focus (first | decide | (simp; done) | (simp [tcs]; done))); conv => whnf) | (refine And.intro (fun h => absurd h ?_) (fun _ => ?_); (focus (first | decide | (simp; done) | (simp [tcs]; done))); conv => whnf) | (intro _; conv => whnf))
        try (refine draw_intro true (by kernel_rfl) ?_; conv => whnf)
        first | refine CallSt.use hnd [] trivial (by decide) rfl ?_ | refine CallPt.useS hnd [] trivial (by decide) rfl ?_
        rintro _ _ ⟨rfl, rfl⟩ _
        conv => whnf
        repeat (first | (refine And.intro rfl ?_; conv => whnf) | (refine And.intro (by decide) ?_; conv => whnf) | (refine draw_intro true (by kernel_rfl) ?_; conv => whnf) | (refine And.intro ⟨by omega, by omega⟩ ?_; conv => whnf) | (refine And.intro (by omega) ?_; conv => whnf) | (refine And.intro (fun _ => ⟨by omega, by omega⟩) ?_; conv => whnf) | (refine And.intro (of_decide_eq_true rfl) ?_; conv => whnf) | (refine And.intro (fun _ => ?_) (fun h => absurd h ?_); rotate_left; (focus (first | decide | (simp; done) | (simp [tcs]; done))); conv => whnf) | (refine And.intro (fun h => absurd h ?_) (fun _ => ?_); (focus (first | decide | (simp; done) | (simp [tcs]; done))); conv => whnf) | (intro _; conv => whnf))
        try (refine draw_intro true (by kernel_rfl) ?_; conv => whnf)
        first | refine CallSt.use hsv [] trivial (by decide) rfl ?_ | refine CallPt.useS hsv [] trivial (by decide) rfl ?_
        rintro _ _ ⟨rfl, rfl⟩ _
        conv => whnf
        repeat (first | (refine And.intro rfl ?_; conv => whnf) | (refine And.intro (by decide) ?_; conv => whnf) | (refine draw_intro true (by kernel_rfl) ?_; conv => whnf) | (refine And.intro ⟨by omega, by omega⟩ ?_; conv => whnf) | (refine And.intro (by omega) ?_; conv => whnf) | (refine And.intro (fun _ => ⟨by omega, by omega⟩) ?_; conv => whnf) | (refine And.intro (of_decide_eq_true rfl) ?_; conv => whnf) | (refine And.intro (fun _ => ?_) (fun h => absurd h ?_); rotate_left; (focus (first | decide | (simp; done) | (simp [tcs]; done))); conv => whnf) | (refine And.intro (fun h => absurd h ?_) (fun _ => ?_); (focus (first | decide | (simp; done) | (simp [tcs]; done))); conv => whnf) | (intro _; conv => whnf))
        try (refine draw_intro true (by kernel_rfl) ?_; conv => whnf)
        first | refine CallSt.use hrb [] trivial (by decide) rfl ?_ | refine CallPt.useS hrb [] trivial (by decide) rfl ?_
        rintro _ _ ⟨rfl, rfl⟩ _
        conv => whnf
        repeat (first | (refine And.intro rfl ?_; conv => whnf) | (refine And.intro (by decide) ?_; conv => whnf) | (refine draw_intro true (by kernel_rfl) ?_; conv => whnf) | (refine And.intro ⟨by omega, by omega⟩ ?_; conv => whnf) | (refine And.intro (by omega) ?_; conv => whnf) | (refine And.intro (fun _ => ⟨by omega, by omega⟩) ?_; conv => whnf) | (refine And.intro (of_decide_eq_true rfl) ?_; conv => whnf) | (refine And.intro (fun _ => ?_) (fun h => absurd h ?_); rotate_left; (focus (first | decide | (simp; done) | (simp [tcs]; done))); conv => whnf) | (refine And.intro (fun h => absurd h ?_) (fun _ => ?_); (focus (first | decide | (simp; done) | (simp [tcs]; done))); conv => whnf) | (intro _; conv => whnf))
        try (refine draw_intro true (by kernel_rfl) ?_; conv => whnf)
        first | refine CallSt.use hrn [] trivial (by decide) rfl ?_ | refine CallPt.useS hrn [] trivial (by decide) rfl ?_
        rintro _ _ ⟨rfl, rfl⟩ _
        conv => whnf
        repeat (first | (refine And.intro rfl ?_; conv => whnf) | (refine And.intro (by decide) ?_; conv => whnf) | (refine draw_intro true (by kernel_rfl) ?_; conv => whnf) | (refine And.intro ⟨by omega, by omega⟩ ?_; conv => whnf) | (refine And.intro (by omega) ?_; conv => whnf) | (refine And.intro (fun _ => ⟨by omega, by omega⟩) ?_; conv => whnf) | (refine And.intro (of_decide_eq_true rfl) ?_; conv => whnf) | (refine And.intro (fun _ => ?_) (fun h => absurd h ?_); rotate_left; (focus (first | decide | (simp; done) | (simp [tcs]; done))); conv => whnf) | (refine And.intro (fun h => absurd h ?_) (fun _ => ?_); (focus (first | decide | (simp; done) | (simp [tcs]; done))); conv => whnf) | (intro _; conv => whnf))
        try (refine draw_intro true (by kernel_rfl) ?_; conv => whnf)
        first | refine CallSt.use hbu [] trivial (by decide) rfl ?_ | refine CallPt.useS hbu [] trivial (by decide) rfl ?_
        rintro _ _ ⟨rfl, rfl⟩ _
        conv => whnf
        repeat (first | (refine And.intro rfl ?_; conv => whnf) | (refine And.intro (by decide) ?_; conv => whnf) | (refine draw_intro true (by kernel_rfl) ?_; conv => whnf) | (refine And.intro ⟨by omega, by omega⟩ ?_; conv => whnf) | (refine And.intro (by omega) ?_; conv => whnf) | (refine And.intro (fun _ => ⟨by omega, by omega⟩) ?_; conv => whnf) | (refine And.intro (of_decide_eq_true rfl) ?_; conv => whnf) | (refine And.intro (fun _ => ?_) (fun h => absurd h ?_); rotate_left; (focus (first | decide | (simp; done) | (simp [tcs]; done))); conv => whnf) | (refine And.intro (fun h => absurd h ?_) (fun _ => ?_); (focus (first | decide | (simp; done) | (simp [tcs]; done))); conv => whnf) | (intro _; conv => whnf))
        try (refine draw_intro true (by kernel_rfl) ?_; conv => whnf)
        first | refine CallSt.use hsa [] trivial (by decide) rfl ?_ | refine CallPt.useS hsa [] trivial (by decide) rfl ?_
        rintro _ _ ⟨rfl, rfl⟩ _
        conv => whnf
        repeat (first | (refine And.intro rfl ?_; conv => whnf) | (refine And.intro (by decide) ?_; conv => whnf) | (refine draw_intro true (by kernel_rfl) ?_; conv => whnf) | (refine And.intro ⟨by omega, by omega⟩ ?_; conv => whnf) | (refine And.intro (by omega) ?_; conv => whnf) | (refine And.intro (fun _ => ⟨by omega, by omega⟩) ?_; conv => whnf) | (refine And.intro (of_decide_eq_true rfl) ?_; conv => whnf) | (refine And.intro (fun _ => ?_) (fun h => absurd h ?_); rotate_left; (focus (first | decide | (simp; done) | (simp [tcs]; done))); conv => whnf) | (refine And.intro (fun h => absurd h ?_) (fun _ => ?_); (focus (first | decide | (simp; done) | (simp [tcs]; done))); conv => whnf) | (intro _; conv => whnf))
        try (refine draw_intro true (by kernel_rfl) ?_; conv => whnf)
        first | refine CallSt.use hrc [] trivial (by decide) rfl ?_ | refine CallPt.useS hrc [] trivial (by decide) rfl ?_
        rintro _ _ ⟨rfl, rfl⟩ _
        conv => whnf
        repeat (first | (refine And.intro rfl ?_; conv => whnf) | (refine And.intro (by decide) ?_; conv => whnf) | (refine draw_intro true (by kernel_rfl) ?_; conv => whnf) | (refine And.intro ⟨by omega, by omega⟩ ?_; conv => whnf) | (refine And.intro (by omega) ?_; conv => whnf) | (refine And.intro (fun _ => ⟨by omega, by omega⟩) ?_; conv => whnf) | (refine And.intro (of_decide_eq_true rfl) ?_; conv => whnf) | (refine And.intro (fun _ => ?_) (fun h => absurd h ?_); rotate_left; (focus (first | decide | (simp; done) | (simp [tcs]; done))); conv => whnf) | (refine And.intro (fun h => absurd h ?_) (fun _ => ?_); (focus (first | decide | (simp; done) | (simp [tcs]; done))); conv => whnf) | (intro _; conv => whnf))
        rw [hea]
        repeat (first | (refine And.intro rfl ?_; conv => whnf) | (refine And.intro (by decide) ?_; conv => whnf) | (refine draw_intro true (by kernel_rfl) ?_; conv => whnf) | (refine And.intro ⟨by omega, by omega⟩ ?_; conv => whnf) | (refine And.intro (by omega) ?_; conv => whnf) | (refine And.intro (fun _ => ⟨by omega, by omega⟩) ?_; conv => whnf) | (refine And.intro (of_decide_eq_true rfl) ?_; conv => whnf) | (refine And.intro (fun _ => ?_) (fun h => absurd h ?_); rotate_left; (focus (first | decide | (simp; done) | (simp [tcs]; done))); conv => whnf) | (refine And.intro (fun h => absurd h ?_) (fun _ => ?_); (focus (first | decide | (simp; done) | (simp [tcs]; done))); conv => whnf) | (intro _; conv => whnf))
        rw [hen]
        repeat (first | (refine And.intro rfl ?_; conv => whnf) | (refine And.intro (by decide) ?_; conv => whnf) | (refine draw_intro true (by kernel_rfl) ?_; conv => whnf) | (refine And.intro ⟨by omega, by omega⟩ ?_; conv => whnf) | (refine And.intro (by omega) ?_; conv => whnf) | (refine And.intro (fun _ => ⟨by omega, by omega⟩) ?_; conv => whnf) | (refine And.intro (of_decide_eq_true rfl) ?_; conv => whnf) | (refine And.intro (fun _ => ?_) (fun h => absurd h ?_); rotate_left; (focus (first | decide | (simp; done) | (simp [tcs]; done))); conv => whnf) | (refine And.intro (fun h => absurd h ?_) (fun _ => ?_); (focus (first | decide | (simp; done) | (simp [tcs]; done))); conv => whnf) | (intro _; conv => whnf))
        try (refine draw_intro true (by kernel_rfl) ?_; conv => whnf)
        first | refine CallSt.use hrp [] trivial (by decide) rfl ?_ | refine CallPt.useS hrp [] trivial (by decide) rfl ?_
        rintro _ _ ⟨rfl, rfl⟩ _
        conv => whnf
        repeat (first | (refine And.intro rfl ?_; conv => whnf) | (refine And.intro (by decide) ?_; conv => whnf) | (refine draw_intro true (by kernel_rfl) ?_; conv => whnf) | (refine And.intro ⟨by omega, by omega⟩ ?_; conv => whnf) | (refine And.intro (by omega) ?_; conv => whnf) | (refine And.intro (fun _ => ⟨by omega, by omega⟩) ?_; conv => whnf) | (refine And.intro (of_decide_eq_true rfl) ?_; conv => whnf) | (refine And.intro (fun _ => ?_) (fun h => absurd h ?_); rotate_left; (focus (first | decide | (simp; done) | (simp [tcs]; done))); conv => whnf) | (refine And.intro (fun h => absurd h ?_) (fun _ => ?_); (focus (first | decide | (simp; done) | (simp [tcs]; done))); conv => whnf) | (intro _; conv => whnf))
        rw [hlt]
        repeat (first | (refine And.intro rfl ?_; conv => whnf) | (refine And.intro (by decide) ?_; conv => whnf) | (refine draw_intro true (by kernel_rfl) ?_; conv => whnf) | (refine And.intro ⟨by omega, by omega⟩ ?_; conv => whnf) | (refine And.intro (by omega) ?_; conv => whnf) | (refine And.intro (fun _ => ⟨by omega, by omega⟩) ?_; conv => whnf) | (refine And.intro (of_decide_eq_true rfl) ?_; conv => whnf) | (refine And.intro (fun _ => ?_) (fun h => absurd h ?_); rotate_left; (focus (first | decide | (simp; done) | (simp [tcs]; done))); conv => whnf) | (refine And.intro (fun h => absurd h ?_) (fun _ => ?_); (focus (first | decide | (simp; done) | (simp [tcs]; done))); conv => whnf) | (intro _; conv => whnf))
        rw [hes]
        repeat (first | (refine And.intro rfl ?_; conv => whnf) | (refine And.intro (by decide) ?_; conv => whnf) | (refine draw_intro true (by kernel_rfl) ?_; conv => whnf) | (refine And.intro ⟨by omega, by omega⟩ ?_; conv => whnf) | (refine And.intro (by omega) ?_; conv => whnf) | (refine And.intro (fun _ => ⟨by omega, by omega⟩) ?_; conv => whnf) | (refine And.intro (of_decide_eq_true rfl) ?_; conv => whnf) | (refine And.intro (fun _ => ?_) (fun h => absurd h ?_); rotate_left; (focus (first | decide | (simp; done) | (simp [tcs]; done))); conv => whnf) | (refine And.intro (fun h => absurd h ?_) (fun _ => ?_); (focus (first | decide | (simp; done) | (simp [tcs]; done))); conv => whnf) | (intro _; conv => whnf))
        try (refine draw_intro true (by kernel_rfl) ?_; conv => whnf)
        first | refine CallSt.use haw [] trivial (by decide) rfl ?_ | refine CallPt.useS haw [] trivial (by decide) rfl ?_
        rintro _ _ ⟨rfl, rfl⟩ _
        conv => whnf
        repeat (first | (refine And.intro rfl ?_; conv => whnf) | (refine And.intro (by decide) ?_; conv => whnf) | (refine draw_intro true (by kernel_rfl) ?_; conv => whnf) | (refine And.intro ⟨by omega, by omega⟩ ?_; conv => whnf) | (refine And.intro (by omega) ?_; conv => whnf) | (refine And.intro (fun _ => ⟨by omega, by omega⟩) ?_; conv => whnf) | (refine And.intro (of_decide_eq_true rfl) ?_; conv => whnf) | (refine And.intro (fun _ => ?_) (fun h => absurd h ?_); rotate_left; (focus (first | decide | (simp; done) | (simp [tcs]; done))); conv => whnf) | (refine And.intro (fun h => absurd h ?_) (fun _ => ?_); (focus (first | decide | (simp; done) | (simp [tcs]; done))); conv => whnf) | (intro _; conv => whnf))
        all_goals (first | rfl | exact ⟨rfl, rfl⟩ | exact ⟨rfl, rfl, rfl⟩)
    · rw [hfull hl] at hpk
      have hlt : decide ((60000 : Int) < ((sB (packB c)).size : Int)) = true := decide_eq_true (by omega)
      clear hb hps hfull hgood hok hpr hl
      generalize sB (packB c) = s at *
      generalize szL (crl c) = a at *
      generalize nodesOf c = N at *
      obtain ⟨S, X, ⟨k, l, n, ts⟩, ⟨k2, l2, n2, us⟩⟩ := c
      unfold crv at *
      dsimp only [Term.k, Term.l, Term.n, Term.ts] at *
      refine call_pure (E := env 0) (fn := Tryz.f3) (c := bodyOf Tryz.f3) (env_ok 0) mixed (by kernel_rfl) (by kernel_rfl) (by kernel_rfl) (by kernel_rfl) (by kernel_rfl) (by kernel_rfl) rfl ?_
      conv => whnf
      try (refine draw_intro true (by kernel_rfl) ?_; conv => whnf)
      first | refine CallSt.use hsm [] trivial (by decide) rfl ?_ | refine CallPt.useS hsm [] trivial (by decide) rfl ?_
      rintro _ _ ⟨b, rfl, rfl⟩ _
      conv => whnf
      cases b with
      | false =>
        repeat (first | (refine And.intro rfl ?_; conv => whnf) | (refine And.intro (by decide) ?_; conv => whnf) | (refine draw_intro true (by kernel_rfl) ?_; conv => whnf) | (refine And.intro ⟨by omega, by omega⟩ ?_; conv => whnf) | (refine And.intro (by omega) ?_; conv => whnf) | (refine And.intro (fun _ => ⟨by omega, by omega⟩) ?_; conv => whnf) | (refine And.intro (of_decide_eq_true rfl) ?_; conv => whnf) | (refine And.intro (fun _ => ?_) (fun h => absurd h ?_); rotate_left; (focus (first | decide | (simp; done) | (simp [tcs]; done))); conv => whnf) | (refine And.intro (fun h => absurd h ?_) (fun _ => ?_); (focus (first | decide | (simp; done) | (simp [tcs]; done))); conv => whnf) | (intro _; conv => whnf))
        try (refine draw_intro true (by kernel_rfl) ?_; conv => whnf)
        first | refine CallSt.use haw [] trivial (by decide) rfl ?_ | refine CallPt.useS haw [] trivial (by decide) rfl ?_
        rintro _ _ ⟨rfl, rfl⟩ _
        conv => whnf
        repeat (first | (refine And.intro rfl ?_; conv => whnf) | (refine And.intro (by decide) ?_; conv => whnf) | (refine draw_intro true (by kernel_rfl) ?_; conv => whnf) | (refine And.intro ⟨by omega, by omega⟩ ?_; conv => whnf) | (refine And.intro (by omega) ?_; conv => whnf) | (refine And.intro (fun _ => ⟨by omega, by omega⟩) ?_; conv => whnf) | (refine And.intro (of_decide_eq_true rfl) ?_; conv => whnf) | (refine And.intro (fun _ => ?_) (fun h => absurd h ?_); rotate_left; (focus (first | decide | (simp; done) | (simp [tcs]; done))); conv => whnf) | (refine And.intro (fun h => absurd h ?_) (fun _ => ?_); (focus (first | decide | (simp; done) | (simp [tcs]; done))); conv => whnf) | (intro _; conv => whnf))
        all_goals (first | rfl | exact ⟨rfl, rfl⟩ | exact ⟨rfl, rfl, rfl⟩)
      | true =>
        repeat (first | (refine And.intro rfl ?_; conv => whnf) | (refine And.intro (by decide) ?_; conv => whnf) | (refine draw_intro true (by kernel_rfl) ?_; conv => whnf) | (refine And.intro ⟨by omega, by omega⟩ ?_; conv => whnf) | (refine And.intro (by omega) ?_; conv => whnf) | (refine And.intro (fun _ => ⟨by omega, by omega⟩) ?_; conv => whnf) | (refine And.intro (of_decide_eq_true rfl) ?_; conv => whnf) | (refine And.intro (fun _ => ?_) (fun h => absurd h ?_); rotate_left; (focus (first | decide | (simp; done) | (simp [tcs]; done))); conv => whnf) | (refine And.intro (fun h => absurd h ?_) (fun _ => ?_); (focus (first | decide | (simp; done) | (simp [tcs]; done))); conv => whnf) | (intro _; conv => whnf))
        try (refine draw_intro true (by kernel_rfl) ?_; conv => whnf)
        first | refine CallSt.use hpk [] trivial (by decide) rfl ?_ | refine CallPt.useS hpk [] trivial (by decide) rfl ?_
        rintro _ _ ⟨rfl, rfl⟩ _
        conv => whnf
        repeat (first | (refine And.intro rfl ?_; conv => whnf) | (refine And.intro (by decide) ?_; conv => whnf) | (refine draw_intro true (by kernel_rfl) ?_; conv => whnf) | (refine And.intro ⟨by omega, by omega⟩ ?_; conv => whnf) | (refine And.intro (by omega) ?_; conv => whnf) | (refine And.intro (fun _ => ⟨by omega, by omega⟩) ?_; conv => whnf) | (refine And.intro (of_decide_eq_true rfl) ?_; conv => whnf) | (refine And.intro (fun _ => ?_) (fun h => absurd h ?_); rotate_left; (focus (first | decide | (simp; done) | (simp [tcs]; done))); conv => whnf) | (refine And.intro (fun h => absurd h ?_) (fun _ => ?_); (focus (first | decide | (simp; done) | (simp [tcs]; done))); conv => whnf) | (intro _; conv => whnf))
        try (refine draw_intro true (by kernel_rfl) ?_; conv => whnf)
        first | refine CallSt.use hnd [] trivial (by decide) rfl ?_ | refine CallPt.useS hnd [] trivial (by decide) rfl ?_
        rintro _ _ ⟨rfl, rfl⟩ _
        conv => whnf
        repeat (first | (refine And.intro rfl ?_; conv => whnf) | (refine And.intro (by decide) ?_; conv => whnf) | (refine draw_intro true (by kernel_rfl) ?_; conv => whnf) | (refine And.intro ⟨by omega, by omega⟩ ?_; conv => whnf) | (refine And.intro (by omega) ?_; conv => whnf) | (refine And.intro (fun _ => ⟨by omega, by omega⟩) ?_; conv => whnf) | (refine And.intro (of_decide_eq_true rfl) ?_; conv => whnf) | (refine And.intro (fun _ => ?_) (fun h => absurd h ?_); rotate_left; (focus (first | decide | (simp; done) | (simp [tcs]; done))); conv => whnf) | (refine And.intro (fun h => absurd h ?_) (fun _ => ?_); (focus (first | decide | (simp; done) | (simp [tcs]; done))); conv => whnf) | (intro _; conv => whnf))
        try (refine draw_intro true (by kernel_rfl) ?_; conv => whnf)
        first | refine CallSt.use hsv [] trivial (by decide) rfl ?_ | refine CallPt.useS hsv [] trivial (by decide) rfl ?_
        rintro _ _ ⟨rfl, rfl⟩ _
        conv => whnf
        repeat (first | (refine And.intro rfl ?_; conv => whnf) | (refine And.intro (by decide) ?_; conv => whnf) | (refine draw_intro true (by kernel_rfl) ?_; conv => whnf) | (refine And.intro ⟨by omega, by omega⟩ ?_; conv => whnf) | (refine And.intro (by omega) ?_; conv => whnf) | (refine And.intro (fun _ => ⟨by omega, by omega⟩) ?_; conv => whnf) | (refine And.intro (of_decide_eq_true rfl) ?_; conv => whnf) | (refine And.intro (fun _ => ?_) (fun h => absurd h ?_); rotate_left; (focus (first | decide | (simp; done) | (simp [tcs]; done))); conv => whnf) | (refine And.intro (fun h => absurd h ?_) (fun _ => ?_); (focus (first | decide | (simp; done) | (simp [tcs]; done))); conv => whnf) | (intro _; conv => whnf))
        try (refine draw_intro true (by kernel_rfl) ?_; conv => whnf)
        first | refine CallSt.use hrb [] trivial (by decide) rfl ?_ | refine CallPt.useS hrb [] trivial (by decide) rfl ?_
        rintro _ _ ⟨rfl, rfl⟩ _
        conv => whnf
        repeat (first | (refine And.intro rfl ?_; conv => whnf) | (refine And.intro (by decide) ?_; conv => whnf) | (refine draw_intro true (by kernel_rfl) ?_; conv => whnf) | (refine And.intro ⟨by omega, by omega⟩ ?_; conv => whnf) | (refine And.intro (by omega) ?_; conv => whnf) | (refine And.intro (fun _ => ⟨by omega, by omega⟩) ?_; conv => whnf) | (refine And.intro (of_decide_eq_true rfl) ?_; conv => whnf) | (refine And.intro (fun _ => ?_) (fun h => absurd h ?_); rotate_left; (focus (first | decide | (simp; done) | (simp [tcs]; done))); conv => whnf) | (refine And.intro (fun h => absurd h ?_) (fun _ => ?_); (focus (first | decide | (simp; done) | (simp [tcs]; done))); conv => whnf) | (intro _; conv => whnf))
        try (refine draw_intro true (by kernel_rfl) ?_; conv => whnf)
        first | refine CallSt.use hrn [] trivial (by decide) rfl ?_ | refine CallPt.useS hrn [] trivial (by decide) rfl ?_
        rintro _ _ ⟨rfl, rfl⟩ _
        conv => whnf
        repeat (first | (refine And.intro rfl ?_; conv => whnf) | (refine And.intro (by decide) ?_; conv => whnf) | (refine draw_intro true (by kernel_rfl) ?_; conv => whnf) | (refine And.intro ⟨by omega, by omega⟩ ?_; conv => whnf) | (refine And.intro (by omega) ?_; conv => whnf) | (refine And.intro (fun _ => ⟨by omega, by omega⟩) ?_; conv => whnf) | (refine And.intro (of_decide_eq_true rfl) ?_; conv => whnf) | (refine And.intro (fun _ => ?_) (fun h => absurd h ?_); rotate_left; (focus (first | decide | (simp; done) | (simp [tcs]; done))); conv => whnf) | (refine And.intro (fun h => absurd h ?_) (fun _ => ?_); (focus (first | decide | (simp; done) | (simp [tcs]; done))); conv => whnf) | (intro _; conv => whnf))
        try (refine draw_intro true (by kernel_rfl) ?_; conv => whnf)
        first | refine CallSt.use hbu [] trivial (by decide) rfl ?_ | refine CallPt.useS hbu [] trivial (by decide) rfl ?_
        rintro _ _ ⟨rfl, rfl⟩ _
        conv => whnf
        repeat (first | (refine And.intro rfl ?_; conv => whnf) | (refine And.intro (by decide) ?_; conv => whnf) | (refine draw_intro true (by kernel_rfl) ?_; conv => whnf) | (refine And.intro ⟨by omega, by omega⟩ ?_; conv => whnf) | (refine And.intro (by omega) ?_; conv => whnf) | (refine And.intro (fun _ => ⟨by omega, by omega⟩) ?_; conv => whnf) | (refine And.intro (of_decide_eq_true rfl) ?_; conv => whnf) | (refine And.intro (fun _ => ?_) (fun h => absurd h ?_); rotate_left; (focus (first | decide | (simp; done) | (simp [tcs]; done))); conv => whnf) | (refine And.intro (fun h => absurd h ?_) (fun _ => ?_); (focus (first | decide | (simp; done) | (simp [tcs]; done))); conv => whnf) | (intro _; conv => whnf))
        try (refine draw_intro true (by kernel_rfl) ?_; conv => whnf)
        first | refine CallSt.use hsa [] trivial (by decide) rfl ?_ | refine CallPt.useS hsa [] trivial (by decide) rfl ?_
        rintro _ _ ⟨rfl, rfl⟩ _
        conv => whnf
        repeat (first | (refine And.intro rfl ?_; conv => whnf) | (refine And.intro (by decide) ?_; conv => whnf) | (refine draw_intro true (by kernel_rfl) ?_; conv => whnf) | (refine And.intro ⟨by omega, by omega⟩ ?_; conv => whnf) | (refine And.intro (by omega) ?_; conv => whnf) | (refine And.intro (fun _ => ⟨by omega, by omega⟩) ?_; conv => whnf) | (refine And.intro (of_decide_eq_true rfl) ?_; conv => whnf) | (refine And.intro (fun _ => ?_) (fun h => absurd h ?_); rotate_left; (focus (first | decide | (simp; done) | (simp [tcs]; done))); conv => whnf) | (refine And.intro (fun h => absurd h ?_) (fun _ => ?_); (focus (first | decide | (simp; done) | (simp [tcs]; done))); conv => whnf) | (intro _; conv => whnf))
        try (refine draw_intro true (by kernel_rfl) ?_; conv => whnf)
        first | refine CallSt.use hrc [] trivial (by decide) rfl ?_ | refine CallPt.useS hrc [] trivial (by decide) rfl ?_
        rintro _ _ ⟨rfl, rfl⟩ _
        conv => whnf
        repeat (first | (refine And.intro rfl ?_; conv => whnf) | (refine And.intro (by decide) ?_; conv => whnf) | (refine draw_intro true (by kernel_rfl) ?_; conv => whnf) | (refine And.intro ⟨by omega, by omega⟩ ?_; conv => whnf) | (refine And.intro (by omega) ?_; conv => whnf) | (refine And.intro (fun _ => ⟨by omega, by omega⟩) ?_; conv => whnf) | (refine And.intro (of_decide_eq_true rfl) ?_; conv => whnf) | (refine And.intro (fun _ => ?_) (fun h => absurd h ?_); rotate_left; (focus (first | decide | (simp; done) | (simp [tcs]; done))); conv => whnf) | (refine And.intro (fun h => absurd h ?_) (fun _ => ?_); (focus (first | decide | (simp; done) | (simp [tcs]; done))); conv => whnf) | (intro _; conv => whnf))
        rw [hea]
        repeat (first | (refine And.intro rfl ?_; conv => whnf) | (refine And.intro (by decide) ?_; conv => whnf) | (refine draw_intro true (by kernel_rfl) ?_; conv => whnf) | (refine And.intro ⟨by omega, by omega⟩ ?_; conv => whnf) | (refine And.intro (by omega) ?_; conv => whnf) | (refine And.intro (fun _ => ⟨by omega, by omega⟩) ?_; conv => whnf) | (refine And.intro (of_decide_eq_true rfl) ?_; conv => whnf) | (refine And.intro (fun _ => ?_) (fun h => absurd h ?_); rotate_left; (focus (first | decide | (simp; done) | (simp [tcs]; done))); conv => whnf) | (refine And.intro (fun h => absurd h ?_) (fun _ => ?_); (focus (first | decide | (simp; done) | (simp [tcs]; done))); conv => whnf) | (intro _; conv => whnf))
        rw [hen]
        repeat (first | (refine And.intro rfl ?_; conv => whnf) | (refine And.intro (by decide) ?_; conv => whnf) | (refine draw_intro true (by kernel_rfl) ?_; conv => whnf) | (refine And.intro ⟨by omega, by omega⟩ ?_; conv => whnf) | (refine And.intro (by omega) ?_; conv => whnf) | (refine And.intro (fun _ => ⟨by omega, by omega⟩) ?_; conv => whnf) | (refine And.intro (of_decide_eq_true rfl) ?_; conv => whnf) | (refine And.intro (fun _ => ?_) (fun h => absurd h ?_); rotate_left; (focus (first | decide | (simp; done) | (simp [tcs]; done))); conv => whnf) | (refine And.intro (fun h => absurd h ?_) (fun _ => ?_); (focus (first | decide | (simp; done) | (simp [tcs]; done))); conv => whnf) | (intro _; conv => whnf))
        try (refine draw_intro true (by kernel_rfl) ?_; conv => whnf)
        first | refine CallSt.use hrp [] trivial (by decide) rfl ?_ | refine CallPt.useS hrp [] trivial (by decide) rfl ?_
        rintro _ _ ⟨rfl, rfl⟩ _
        conv => whnf
        repeat (first | (refine And.intro rfl ?_; conv => whnf) | (refine And.intro (by decide) ?_; conv => whnf) | (refine draw_intro true (by kernel_rfl) ?_; conv => whnf) | (refine And.intro ⟨by omega, by omega⟩ ?_; conv => whnf) | (refine And.intro (by omega) ?_; conv => whnf) | (refine And.intro (fun _ => ⟨by omega, by omega⟩) ?_; conv => whnf) | (refine And.intro (of_decide_eq_true rfl) ?_; conv => whnf) | (refine And.intro (fun _ => ?_) (fun h => absurd h ?_); rotate_left; (focus (first | decide | (simp; done) | (simp [tcs]; done))); conv => whnf) | (refine And.intro (fun h => absurd h ?_) (fun _ => ?_); (focus (first | decide | (simp; done) | (simp [tcs]; done))); conv => whnf) | (intro _; conv => whnf))
        rw [hlt]
        repeat (first | (refine And.intro rfl ?_; conv => whnf) | (refine And.intro (by decide) ?_; conv => whnf) | (refine draw_intro true (by kernel_rfl) ?_; conv => whnf) | (refine And.intro ⟨by omega, by omega⟩ ?_; conv => whnf) | (refine And.intro (by omega) ?_; conv => whnf) | (refine And.intro (fun _ => ⟨by omega, by omega⟩) ?_; conv => whnf) | (refine And.intro (of_decide_eq_true rfl) ?_; conv => whnf) | (refine And.intro (fun _ => ?_) (fun h => absurd h ?_); rotate_left; (focus (first | decide | (simp; done) | (simp [tcs]; done))); conv => whnf) | (refine And.intro (fun h => absurd h ?_) (fun _ => ?_); (focus (first | decide | (simp; done) | (simp [tcs]; done))); conv => whnf) | (intro _; conv => whnf))
        try (refine draw_intro true (by kernel_rfl) ?_; conv => whnf)
        first | refine CallSt.use haw [] trivial (by decide) rfl ?_ | refine CallPt.useS haw [] trivial (by decide) rfl ?_
        rintro _ _ ⟨rfl, rfl⟩ _
        conv => whnf
        repeat (first | (refine And.intro rfl ?_; conv => whnf) | (refine And.intro (by decide) ?_; conv => whnf) | (refine draw_intro true (by kernel_rfl) ?_; conv => whnf) | (refine And.intro ⟨by omega, by omega⟩ ?_; conv => whnf) | (refine And.intro (by omega) ?_; conv => whnf) | (refine And.intro (fun _ => ⟨by omega, by omega⟩) ?_; conv => whnf) | (refine And.intro (of_decide_eq_true rfl) ?_; conv => whnf) | (refine And.intro (fun _ => ?_) (fun h => absurd h ?_); rotate_left; (focus (first | decide | (simp; done) | (simp [tcs]; done))); conv => whnf) | (refine And.intro (fun h => absurd h ?_) (fun _ => ?_); (focus (first | decide | (simp; done) | (simp [tcs]; done))); conv => whnf) | (intro _; conv => whnf))
        all_goals (first | rfl | exact ⟨rfl, rfl⟩ | exact ⟨rfl, rfl, rfl⟩)
end Go.Tr
