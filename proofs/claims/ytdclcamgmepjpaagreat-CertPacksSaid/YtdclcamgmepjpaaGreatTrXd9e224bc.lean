/- What each function computes, and the plain laws of it. -/
import Derived.Shelf.Pu.Clone
import Derived.Test.YtdclcamgmepjpaaGreatTrXbe9cc82e
set_option linter.unusedVariables false
set_option linter.unusedSimpArgs false
set_option linter.unnecessarySimpa false
set_option autoImplicit false
/- cert: packed. -/
namespace Go.Tr
open Go.Proofs
theorem bR_tr1 : bR [116, 114, 49] = [[.int .u8 116], [.int .u8 114], [.int .u8 49]] := rfl
theorem szL_mem' : ∀ (ts : List Term) (u : Term), u ∈ ts → szT u ≤ szL ts
  | [], u, h => by cases h
  | t :: r, u, h => by
    have := szT_pos t
    have := szL_pos r
    rw [szL]
    rcases List.mem_cons.1 h with rfl | h
    · omega
    · have := szL_mem' r u h
      omega
mutual
theorem adT_sub : ∀ (u : Term) (B : List Term), ∀ t ∈ adT u B, t ∈ B ∨ szT t ≤ szT u
  | .mk k l n ts, B, t, ht => by
    have ih := adL_sub ts B
    have hs : t ∈ adL ts B → t ∈ B ∨ szT t ≤ szT (.mk k l n ts) := fun h => by
      rcases ih t h with h | ⟨u, hu, hl⟩
      · exact .inl h
      · have := szL_mem' ts u hu
        exact .inr (by rw [szT]; omega)
    rw [adT] at ht
    split at ht
    · exact hs ht
    · rcases List.mem_append.1 ht with h | h
      · exact hs h
      · simp at h
        subst h
        exact .inr (Int.le_refl _)
theorem adL_sub : ∀ (ts : List Term) (B : List Term), ∀ t ∈ adL ts B, t ∈ B ∨ ∃ u ∈ ts, szT t ≤ szT u
  | [], B, t, ht => by
    rw [adL] at ht
    exact .inl ht
  | a :: r, B, t, ht => by
    rw [adL] at ht
    rcases adL_sub r (adT a B) t ht with h | ⟨u, hu, hl⟩
    · rcases adT_sub a B t h with h | h
      · exact .inl h
      · exact .inr ⟨a, by simp, h⟩
    · exact .inr ⟨u, by simp [hu], hl⟩
end
theorem bk_sz {c : Crt} (h : Sane c) (n : Nat) : ∀ t ∈ bk c n, szT t ≤ 600 := fun t ht => by
  rcases adL_sub _ _ t ht with h2 | ⟨u, hu, hl⟩
  · cases h2
  · have := (h.t u (List.mem_of_mem_take hu)).2
    omega
theorem decls_len {S : List Dcl} {R : List Nat} (hS : ∀ d ∈ S, d.s.size ≤ 16 ∧ 0 ≤ d.i ∧ d.i ≤ 600) (hR : ∀ x ∈ R, x ≤ 1000000) : ∀ n : Nat, n ≤ S.length → (declsB S R n).length ≤ 43 * n
  | 0, _ => by simp [declsB]
  | n + 1, hn => by
    have ih := decls_len hS hR n (by omega)
    rw [declsB, List.length_append]
    have hs : S[n]? = some S[n] := List.getElem?_eq_getElem (by omega)
    rw [hs]
    cases hr : R[n]? with
    | none =>
      simp only [List.length_nil]
      omega
    | some r =>
      simp only
      have h1 := hS S[n] (List.getElem_mem _)
      have h2 := hR r (List.mem_of_getElem? hr)
      have d1 := digs9 (n := S[n].s.size) (by omega)
      have d2 := digs9 (n := r) (by omega)
      have d3 := digs9 (n := S[n].i.toNat) (by omega)
      have d4 : S[n].s.data.toList.length = S[n].s.size := by rw [Array.length_toList]; rfl
      unfold declB
      simp only [List.length_append]
      omega
theorem cPacked (c : Crt) (h : OkC c) : CallSt Tryz.prog 24 [crv c] [] (fun r H' => r = .c (.str ⟨(sealB (packL c.S c.X (bk c (crl c).length) (rt c (crl c).length))).toArray⟩) ∧ H' = []) := by
  have hnw := cNewNodes c h.sane
  have hcl := crl_len c
  have hS := h.sane.S
  have hX := h.sane.X
  obtain ⟨g1, g2, g3⟩ := bk_good h.sane (crl c).length
  rw [List.take_length] at g2 g3
  have hsa := szL_all (crl c) fun u hu => (h.sane.t u hu).2
  have hBs : ∀ t ∈ bk c (crl c).length, wf t ∧ szT t ≤ 600 := fun t ht => ⟨g1.wf t ht, bk_sz h.sane _ t ht⟩
  have hRl : (rt c (crl c).length).length = (crl c).length := by unfold rt; rw [List.length_map, List.take_length]
  have hRb : ∀ x ∈ rt c (crl c).length, x < (bk c (crl c).length).length := fun x hx => by
    unfold rt at hx
    rw [List.take_length] at hx
    obtain ⟨u, hu, rfl⟩ := List.mem_map.1 hx
    exact pl_lt (g2 u hu)
  have hnm := h.names
  clear h g2
  generalize crl c = q at *
  obtain ⟨S, X, ⟨k, l, n, ts⟩, ⟨k2, l2, n2, us⟩⟩ := c
  generalize bk _ _ = B at *
  generalize rt _ _ = R at *
  unfold crv at *
  dsimp only [Term.k, Term.l, Term.n, Term.ts] at *
  have hnl := nds_len B
  have hBl : B.length ≤ 121200 := by omega
  have hnb := nodesB_len hBs (by omega)
  have hn0 := cNumber [116, 114, 49] B.length (by have := digs9 (n := B.length) (by omega); simp; omega) (by omega)
  rw [← hnl] at hn0
  have hd0 := digs9 (n := B.length) (by omega)
  refine call_pure (E := envK 0) (fn := Tryz.f24) (c := bodyOf Tryz.f24) (envK_ok 0) mixed (by kernel_rfl) (by kernel_rfl) (by kernel_rfl) (by kernel_rfl) (by kernel_rfl) (by kernel_rfl) rfl ?_
  conv => whnf
  repeat (first | (refine And.intro rfl ?_; conv => whnf) | (refine And.intro (by decide) ?_; conv => whnf) | (refine draw_intro true (by kernel_rfl) ?_; conv => whnf) | (refine And.intro ⟨by omega, by omega⟩ ?_; conv => whnf) | (refine And.intro (by omega) ?_; conv => whnf) | (refine And.intro (fun _ => ⟨by omega, by omega⟩) ?_; conv => whnf) | (refine And.intro (of_decide_eq_true rfl) ?_; conv => whnf) | (refine And.intro (fun _ => ?_) (fun h => absurd h ?_); rotate_left; (focus (first | decide | (simp; done) | (simp [tcs]; done))); conv => whnf) | (refine And.intro (fun h => absurd h ?_) (fun _ => ?_); (focus (first | decide | (simp; done) | (simp [tcs]; done))); conv => whnf) | (intro _; conv => whnf))
  try (refine draw_intro true (by kernel_rfl) ?_; conv => whnf)
  first | refine CallSt.use hnw [] trivial (by decide) rfl ?_ | refine CallPt.useS hnw [] trivial (by decide) rfl ?_
  rintro _ _ ⟨rfl, rfl⟩ _
  conv => whnf
  repeat (first | (refine And.intro rfl ?_; conv => whnf) | (refine And.intro (by decide) ?_; conv => whnf) | (refine draw_intro true (by kernel_rfl) ?_; conv => whnf) | (refine And.intro ⟨by omega, by omega⟩ ?_; conv => whnf) | (refine And.intro (by omega) ?_; conv => whnf) | (refine And.intro (fun _ => ⟨by omega, by omega⟩) ?_; conv => whnf) | (refine And.intro (of_decide_eq_true rfl) ?_; conv => whnf) | (refine And.intro (fun _ => ?_) (fun h => absurd h ?_); rotate_left; (focus (first | decide | (simp; done) | (simp [tcs]; done))); conv => whnf) | (refine And.intro (fun h => absurd h ?_) (fun _ => ?_); (focus (first | decide | (simp; done) | (simp [tcs]; done))); conv => whnf) | (intro _; conv => whnf))
  try (refine draw_intro true (by kernel_rfl) ?_; conv => whnf)
  first | refine CallSt.use hn0 [5] ⟨rfl, trivial⟩ (by decide) rfl ?_ | refine CallPt.useS hn0 [5] ⟨rfl, trivial⟩ (by decide) rfl ?_
  rintro _ _ ⟨rfl, rfl⟩ _
  conv => whnf
  repeat (first | (refine And.intro rfl ?_; conv => whnf) | (refine And.intro (by decide) ?_; conv => whnf) | (refine draw_intro true (by kernel_rfl) ?_; conv => whnf) | (refine And.intro ⟨by omega, by omega⟩ ?_; conv => whnf) | (refine And.intro (by omega) ?_; conv => whnf) | (refine And.intro (fun _ => ⟨by omega, by omega⟩) ?_; conv => whnf) | (refine And.intro (of_decide_eq_true rfl) ?_; conv => whnf) | (refine And.intro (fun _ => ?_) (fun h => absurd h ?_); rotate_left; (focus (first | decide | (simp; done) | (simp [tcs]; done))); conv => whnf) | (refine And.intro (fun h => absurd h ?_) (fun _ => ?_); (focus (first | decide | (simp; done) | (simp [tcs]; done))); conv => whnf) | (intro _; conv => whnf))
  refine loop_intro (fun m tm H => ∃ (j : Nat), B.length = m + j ∧ tm = [(31, .c (.int .i64 (j))), (30, .c (.int .i64 ((nds B).length))), (29, .own 1), (4, .c (.sl 1 8 (rowN R))), (5, .own 2), (1, .ptr 0 0)] ∧
      H = [.box [.c (.sl 6 72 (dcs S)), .c (.sl 4 48 (tcs X)), .c (.int .i64 (k)), .c (.int .i64 (l)), .c (.int .i64 (n)), .c (.sl 4 48 (tcs ts)), .c (.int .i64 (k2)), .c (.int .i64 (l2)), .c (.int .i64 (n2)), .c (.sl 4 48 (tcs us))], .row 62 5 72 (nds B), .row 5 1 1 (bR ([116, 114, 49] ++ digs B.length ++ nodesB B j))])
    B.length _ _ ⟨0, by omega, rfl, rfl⟩ ?_ ?_
  · refine Wk.sel [0, 2, 6] (by decide) (by decide) (by decide) ⟨rfl, rfl, ?_, trivial⟩ ⟨rfl, rfl, rfl, rfl, rfl, rfl, trivial⟩ rfl
    rw [nodesB, List.append_nil, ← hnl]
    rfl
  rintro m tm H ⟨j, hj, rfl, rfl⟩
  conv => whnf
  refine ⟨fun hc => ?_, fun hc => ?_⟩
  · replace hc : (j : Int) < (nds B).length := of_decide_eq_true hc
    obtain ⟨t, ht⟩ : ∃ t, B[j]? = some t := ⟨B[j]'(by omega), List.getElem?_eq_getElem (by omega)⟩
    have htm := List.mem_of_getElem? ht
    have htw := hBs t htm
    have hwn := wf_node htw.1
    have hnc : (nds B)[j]? = some [.int .i64 t.k, .int .i64 t.l, .int .i64 t.n, .sl 4 48 (tcs t.ts), .sl 1 8 (rowN (kd B t))] := by simp [nds, ht, ndc]
    have hjb := hnb j (by omega)
    have hlen : ([116, 114, 49] ++ digs B.length ++ nodesB B j : List UInt8).length ≤ 657000000 := by simp only [List.length_append, List.length_cons, List.length_nil]; omega
    have hkl : (kd B t).length ≤ 600 := by
      have := szL_len t.ts
      have hsz : szT t = 1 + szL t.ts := by cases t; rw [szT]; rfl
      unfold kd
      rw [List.length_map]
      omega
    have hkx : ∀ x ∈ kd B t, x < j := fun x hx => by
      obtain ⟨u, hu, rfl⟩ := List.mem_map.1 hx
      obtain ⟨p, hp, hpu⟩ := g1.lo j t ht u hu
      rw [pl_of g1.nd hpu]
      exact hp
    have hstep : nodesB B (j + 1) = nodesB B j ++ nodeB B j t := by rw [nodesB, ht]
    have e1 : bR (([116, 114, 49] ++ digs B.length ++ nodesB B j) ++ [u8 (t.k + 8 * t.l)]) = bR ([116, 114, 49] ++ digs B.length ++ nodesB B j) ++ [[CV.int .u8 (IntKind.u8.wrap (t.k + 8 * t.l))]] := (bR_snoc _ _).symm
    have hbl := bR_len ([116, 114, 49] ++ digs B.length ++ nodesB B j)
    have hb1 : ((bR ([116, 114, 49] ++ digs B.length ++ nodesB B j)).length + 1) * 1 ≤ 140737488355328 := by omega
    have hb2 : (bR ([116, 114, 49] ++ digs B.length ++ nodesB B j)).length + 1 ≤ 9223372036854775807 := by omega
    obtain ⟨N, hN⟩ : ∃ N : Nat, t.n = N := ⟨t.n.toNat, by omega⟩
    have hdN := digs9 (n := N) (by omega)
    have hnum := cNumber (([116, 114, 49] ++ digs B.length ++ nodesB B j) ++ [u8 (t.k + 8 * t.l)]) N (by simp only [List.length_append, List.length_singleton] at hlen ⊢; omega) (by omega)
    have hls1 := cListC 48 j (fun k => digs (j - k - 1)) ((([116, 114, 49] ++ digs B.length ++ nodesB B j) ++ [u8 (t.k + 8 * t.l)]) ++ digs N) (kd B t) (fun x _ => digs9 (by omega)) (by simp only [List.length_append, List.length_singleton] at hlen ⊢; omega) (fun l' x hx hl' => cPackedF l' j x (hkx x hx) (by omega) hl')
    have hls2 := cListC 48 j (fun k => digs (j - k - 1)) (([116, 114, 49] ++ digs B.length ++ nodesB B j) ++ [u8 (t.k + 8 * t.l)]) (kd B t) (fun x _ => digs9 (by omega)) (by simp only [List.length_append, List.length_singleton] at hlen ⊢; omega) (fun l' x hx hl' => cPackedF l' j x (hkx x hx) (by omega) hl')
    rw [nodeB, hN, Int.toNat_natCast] at hstep
    rw [hN] at hnc
    rw [e1] at hnum hls2
    generalize kd B t = K at *
    generalize t.k = tk at *
    generalize t.l = tl at *
    generalize t.ts = tts at *
    conv => whnf
    repeat (first | (refine And.intro rfl ?_; conv => whnf) | (refine And.intro (by decide) ?_; conv => whnf) | (refine draw_intro true (by kernel_rfl) ?_; conv => whnf) | (refine And.intro ⟨by omega, by omega⟩ ?_; conv => whnf) | (refine And.intro (by omega) ?_; conv => whnf) | (refine And.intro (fun _ => ⟨by omega, by omega⟩) ?_; conv => whnf) | (refine And.intro (of_decide_eq_true rfl) ?_; conv => whnf) | (refine And.intro (fun _ => ?_) (fun h => absurd h ?_); rotate_left; (focus (first | decide | (simp; done) | (simp [tcs]; done))); conv => whnf) | (refine And.intro (fun h => absurd h ?_) (fun _ => ?_); (focus (first | decide | (simp; done) | (simp [tcs]; done))); conv => whnf) | (intro _; conv => whnf))
    refine ⟨[.int .i64 tk, .int .i64 tl, .int .i64 (N : Int), .sl 4 48 (tcs tts), .sl 1 8 (rowN K)], by rw [Int.toNat_natCast]; exact hnc, show 0 + 5 ≤ 5 by decide, ?_⟩
    conv => whnf
    repeat (first | (refine And.intro rfl ?_; conv => whnf) | (refine And.intro (by decide) ?_; conv => whnf) | (refine draw_intro true (by kernel_rfl) ?_; conv => whnf) | (refine And.intro ⟨by omega, by omega⟩ ?_; conv => whnf) | (refine And.intro (by omega) ?_; conv => whnf) | (refine And.intro (fun _ => ⟨by omega, by omega⟩) ?_; conv => whnf) | (refine And.intro (of_decide_eq_true rfl) ?_; conv => whnf) | (refine And.intro (fun _ => ?_) (fun h => absurd h ?_); rotate_left; (focus (first | decide | (simp; done) | (simp [tcs]; done))); conv => whnf) | (refine And.intro (fun h => absurd h ?_) (fun _ => ?_); (focus (first | decide | (simp; done) | (simp [tcs]; done))); conv => whnf) | (intro _; conv => whnf))
    refine ⟨fun hk4 => ?_, fun hk4 => ?_⟩
    · rw [show decide (tk = 4) = true from hk4] at hstep
      conv => whnf
      repeat (first | (refine And.intro rfl ?_; conv => whnf) | (refine And.intro (by decide) ?_; conv => whnf) | (refine draw_intro true (by kernel_rfl) ?_; conv => whnf) | (refine And.intro ⟨by omega, by omega⟩ ?_; conv => whnf) | (refine And.intro (by omega) ?_; conv => whnf) | (refine And.intro (fun _ => ⟨by omega, by omega⟩) ?_; conv => whnf) | (refine And.intro (of_decide_eq_true rfl) ?_; conv => whnf) | (refine And.intro (fun _ => ?_) (fun h => absurd h ?_); rotate_left; (focus (first | decide | (simp; done) | (simp [tcs]; done))); conv => whnf) | (refine And.intro (fun h => absurd h ?_) (fun _ => ?_); (focus (first | decide | (simp; done) | (simp [tcs]; done))); conv => whnf) | (intro _; conv => whnf))
      try (refine draw_intro true (by kernel_rfl) ?_; conv => whnf)
      first | refine CallSt.use hnum [6] ⟨rfl, trivial⟩ (by decide) rfl ?_ | refine CallPt.useS hnum [6] ⟨rfl, trivial⟩ (by decide) rfl ?_
      rintro _ _ ⟨rfl, rfl⟩ _
      conv => whnf
      repeat (first | (refine And.intro rfl ?_; conv => whnf) | (refine And.intro (by decide) ?_; conv => whnf) | (refine draw_intro true (by kernel_rfl) ?_; conv => whnf) | (refine And.intro ⟨by omega, by omega⟩ ?_; conv => whnf) | (refine And.intro (by omega) ?_; conv => whnf) | (refine And.intro (fun _ => ⟨by omega, by omega⟩) ?_; conv => whnf) | (refine And.intro (of_decide_eq_true rfl) ?_; conv => whnf) | (refine And.intro (fun _ => ?_) (fun h => absurd h ?_); rotate_left; (focus (first | decide | (simp; done) | (simp [tcs]; done))); conv => whnf) | (refine And.intro (fun h => absurd h ?_) (fun _ => ?_); (focus (first | decide | (simp; done) | (simp [tcs]; done))); conv => whnf) | (intro _; conv => whnf))
      try (refine draw_intro true (by kernel_rfl) ?_; conv => whnf)
      first | refine CallSt.use hls1 [7, 3] ⟨rfl, rfl, trivial⟩ (by decide) rfl ?_ | refine CallPt.useS hls1 [7, 3] ⟨rfl, rfl, trivial⟩ (by decide) rfl ?_
      rintro _ _ ⟨rfl, rfl⟩ _
      conv => whnf
      repeat (first | (refine And.intro rfl ?_; conv => whnf) | (refine And.intro (by decide) ?_; conv => whnf) | (refine draw_intro true (by kernel_rfl) ?_; conv => whnf) | (refine And.intro ⟨by omega, by omega⟩ ?_; conv => whnf) | (refine And.intro (by omega) ?_; conv => whnf) | (refine And.intro (fun _ => ⟨by omega, by omega⟩) ?_; conv => whnf) | (refine And.intro (of_decide_eq_true rfl) ?_; conv => whnf) | (refine And.intro (fun _ => ?_) (fun h => absurd h ?_); rotate_left; (focus (first | decide | (simp; done) | (simp [tcs]; done))); conv => whnf) | (refine And.intro (fun h => absurd h ?_) (fun _ => ?_); (focus (first | decide | (simp; done) | (simp [tcs]; done))); conv => whnf) | (intro _; conv => whnf))
      refine ⟨m - 1, _, _, by omega, ⟨j + 1, by omega, rfl, rfl⟩, Wk.sel [0, 1, 8] (by decide) (by decide) (by decide) ⟨rfl, rfl, ?_, trivial⟩ ⟨rfl, rfl, rfl, rfl, rfl, rfl, trivial⟩ rfl⟩
      refine congrArg (fun z => some (Ent.row 5 1 1 (bR z))) ?_
      rw [hstep]
      simp only [List.append_assoc]
    · rw [show decide (tk = 4) = false from hk4] at hstep
      conv => whnf
      repeat (first | (refine And.intro rfl ?_; conv => whnf) | (refine And.intro (by decide) ?_; conv => whnf) | (refine draw_intro true (by kernel_rfl) ?_; conv => whnf) | (refine And.intro ⟨by omega, by omega⟩ ?_; conv => whnf) | (refine And.intro (by omega) ?_; conv => whnf) | (refine And.intro (fun _ => ⟨by omega, by omega⟩) ?_; conv => whnf) | (refine And.intro (of_decide_eq_true rfl) ?_; conv => whnf) | (refine And.intro (fun _ => ?_) (fun h => absurd h ?_); rotate_left; (focus (first | decide | (simp; done) | (simp [tcs]; done))); conv => whnf) | (refine And.intro (fun h => absurd h ?_) (fun _ => ?_); (focus (first | decide | (simp; done) | (simp [tcs]; done))); conv => whnf) | (intro _; conv => whnf))
      try (refine draw_intro true (by kernel_rfl) ?_; conv => whnf)
      first | refine CallSt.use hls2 [6, 3] ⟨rfl, rfl, trivial⟩ (by decide) rfl ?_ | refine CallPt.useS hls2 [6, 3] ⟨rfl, rfl, trivial⟩ (by decide) rfl ?_
      rintro _ _ ⟨rfl, rfl⟩ _
      conv => whnf
      repeat (first | (refine And.intro rfl ?_; conv => whnf) | (refine And.intro (by decide) ?_; conv => whnf) | (refine draw_intro true (by kernel_rfl) ?_; conv => whnf) | (refine And.intro ⟨by omega, by omega⟩ ?_; conv => whnf) | (refine And.intro (by omega) ?_; conv => whnf) | (refine And.intro (fun _ => ⟨by omega, by omega⟩) ?_; conv => whnf) | (refine And.intro (of_decide_eq_true rfl) ?_; conv => whnf) | (refine And.intro (fun _ => ?_) (fun h => absurd h ?_); rotate_left; (focus (first | decide | (simp; done) | (simp [tcs]; done))); conv => whnf) | (refine And.intro (fun h => absurd h ?_) (fun _ => ?_); (focus (first | decide | (simp; done) | (simp [tcs]; done))); conv => whnf) | (intro _; conv => whnf))
      refine ⟨m - 1, _, _, by omega, ⟨j + 1, by omega, rfl, rfl⟩, Wk.sel [0, 1, 7] (by decide) (by decide) (by decide) ⟨rfl, rfl, ?_, trivial⟩ ⟨rfl, rfl, rfl, rfl, rfl, rfl, trivial⟩ rfl⟩
      refine congrArg (fun z => some (Ent.row 5 1 1 (bR z))) ?_
      rw [hstep]
      simp only [List.append_assoc, List.nil_append]
  · replace hc : ¬ (j : Int) < (nds B).length := of_decide_eq_false hc
    obtain rfl : j = B.length := by omega
    have hnbb := hnb B.length (by omega)
    have hSl := len_dcs S
    have hXl := len_tcs X
    have hlen : ([116, 114, 49] ++ digs B.length ++ nodesB B B.length : List UInt8).length ≤ 657000000 := by simp only [List.length_append, List.length_cons, List.length_nil]; omega
    have hdS := digs9 (n := S.length) (by omega)
    have hnS := cNumber ([116, 114, 49] ++ digs B.length ++ nodesB B B.length) S.length (by omega) (by omega)
    rw [← hSl] at hnS
    generalize hP : ([116, 114, 49] ++ digs B.length ++ nodesB B B.length : List UInt8) = P at *
    have hdb : ∀ j : Nat, j ≤ S.length → (declsB S R j).length ≤ 43 * j := decls_len (fun d hd => hnm d hd) (fun x hx => by have := hRb x hx; omega)
    conv => whnf
    repeat (first | (refine And.intro rfl ?_; conv => whnf) | (refine And.intro (by decide) ?_; conv => whnf) | (refine draw_intro true (by kernel_rfl) ?_; conv => whnf) | (refine And.intro ⟨by omega, by omega⟩ ?_; conv => whnf) | (refine And.intro (by omega) ?_; conv => whnf) | (refine And.intro (fun _ => ⟨by omega, by omega⟩) ?_; conv => whnf) | (refine And.intro (of_decide_eq_true rfl) ?_; conv => whnf) | (refine And.intro (fun _ => ?_) (fun h => absurd h ?_); rotate_left; (focus (first | decide | (simp; done) | (simp [tcs]; done))); conv => whnf) | (refine And.intro (fun h => absurd h ?_) (fun _ => ?_); (focus (first | decide | (simp; done) | (simp [tcs]; done))); conv => whnf) | (intro _; conv => whnf))
    try (refine draw_intro true (by kernel_rfl) ?_; conv => whnf)
    first | refine CallSt.use hnS [2] ⟨rfl, trivial⟩ (by decide) rfl ?_ | refine CallPt.useS hnS [2] ⟨rfl, trivial⟩ (by decide) rfl ?_
    rintro _ _ ⟨rfl, rfl⟩ _
    conv => whnf
    repeat (first | (refine And.intro rfl ?_; conv => whnf) | (refine And.intro (by decide) ?_; conv => whnf) | (refine draw_intro true (by kernel_rfl) ?_; conv => whnf) | (refine And.intro ⟨by omega, by omega⟩ ?_; conv => whnf) | (refine And.intro (by omega) ?_; conv => whnf) | (refine And.intro (fun _ => ⟨by omega, by omega⟩) ?_; conv => whnf) | (refine And.intro (of_decide_eq_true rfl) ?_; conv => whnf) | (refine And.intro (fun _ => ?_) (fun h => absurd h ?_); rotate_left; (focus (first | decide | (simp; done) | (simp [tcs]; done))); conv => whnf) | (refine And.intro (fun h => absurd h ?_) (fun _ => ?_); (focus (first | decide | (simp; done) | (simp [tcs]; done))); conv => whnf) | (intro _; conv => whnf))
    refine loop_intro (fun m tm H => ∃ (j : Nat), S.length = m + j ∧ tm = [(71, .c (.int .i64 (j))), (70, .c (.int .i64 ((dcs S).length))), (69, .c (.sl 6 72 (dcs S))), (4, .c (.sl 1 8 (rowN R))), (5, .own 1), (1, .ptr 0 0)] ∧
        H = [.box [.c (.sl 6 72 (dcs S)), .c (.sl 4 48 (tcs X)), .c (.int .i64 (k)), .c (.int .i64 (l)), .c (.int .i64 (n)), .c (.sl 4 48 (tcs ts)), .c (.int .i64 (k2)), .c (.int .i64 (l2)), .c (.int .i64 (n2)), .c (.sl 4 48 (tcs us))], .row 5 1 1 (bR (P ++ digs S.length ++ declsB S R j))])
      S.length _ _ ⟨0, by omega, rfl, rfl⟩ ?_ ?_
    · refine Wk.sel [0, 3] (by decide) (by decide) (by decide) ⟨rfl, ?_, trivial⟩ ⟨rfl, rfl, rfl, rfl, rfl, rfl, trivial⟩ rfl
      rw [declsB, List.append_nil, ← hSl]
      rfl
    rintro m tm H ⟨j, hj, rfl, rfl⟩
    conv => whnf
    refine ⟨fun hc => ?_, fun hc => ?_⟩
    · replace hc : (j : Int) < (dcs S).length := of_decide_eq_true hc
      obtain ⟨d, hd⟩ : ∃ d, S[j]? = some d := ⟨S[j]'(by omega), List.getElem?_eq_getElem (by omega)⟩
      obtain ⟨r, hr⟩ : ∃ r, R[j]? = some r := ⟨R[j]'(by omega), List.getElem?_eq_getElem (by omega)⟩
      have hdc := dcs_at hd
      have hrr := rowN_at hr
      have hdm := hnm d (List.mem_of_getElem? hd)
      have hrm := hRb r (List.mem_of_getElem? hr)
      have hjb := hdb j (by omega)
      have hstep : declsB S R (j + 1) = declsB S R j ++ declB d r := by rw [declsB, hd, hr]
      have hQ : (P ++ digs S.length ++ declsB S R j).length ≤ 657005000 := by simp only [List.length_append]; omega
      generalize hQe : P ++ digs S.length ++ declsB S R j = Q at *
      obtain ⟨i, hi⟩ : ∃ i : Nat, d.i = i := ⟨d.i.toNat, by omega⟩
      unfold declB at hstep
      rw [hi, Int.toNat_natCast] at hstep
      obtain ⟨s', ⟨k', l', n', us'⟩, i'⟩ := d
      simp only at hdm hi hstep
      subst hi
      have d1 := digs9 (n := s'.size) (by omega)
      have d2 := digs9 (n := r) (by omega)
      have d3 := digs9 (n := i) (by omega)
      have d4 : s'.data.toList.length = s'.size := by rw [Array.length_toList]; rfl
      have hn1 := cNumber Q s'.size (by omega) (by omega)
      have hn2 := cNumber (Q ++ digs s'.size ++ s'.data.toList) r (by simp only [List.length_append]; omega) (by omega)
      have hn3 := cNumber (Q ++ digs s'.size ++ s'.data.toList ++ digs r) i (by simp only [List.length_append]; omega) (by omega)
      rw [bR_app _ s'.data.toList] at hn2
      have hbl := bR_len (Q ++ digs s'.size)
      have hp := digs_pos s'.size
      rw [List.length_append] at hbl
      conv => whnf
      refine ⟨_, ⟨by omega, hdc⟩, ?_⟩
      conv => whnf
      refine ⟨show 6 ≤ 6 by decide, ?_⟩
      conv => whnf
      repeat (first | (refine And.intro rfl ?_; conv => whnf) | (refine And.intro (by decide) ?_; conv => whnf) | (refine draw_intro true (by kernel_rfl) ?_; conv => whnf) | (refine And.intro ⟨by omega, by omega⟩ ?_; conv => whnf) | (refine And.intro (by omega) ?_; conv => whnf) | (refine And.intro (fun _ => ⟨by omega, by omega⟩) ?_; conv => whnf) | (refine And.intro (of_decide_eq_true rfl) ?_; conv => whnf) | (refine And.intro (fun _ => ?_) (fun h => absurd h ?_); rotate_left; (focus (first | decide | (simp; done) | (simp [tcs]; done))); conv => whnf) | (refine And.intro (fun h => absurd h ?_) (fun _ => ?_); (focus (first | decide | (simp; done) | (simp [tcs]; done))); conv => whnf) | (intro _; conv => whnf))
      try (refine draw_intro true (by kernel_rfl) ?_; conv => whnf)
      first | refine CallSt.use hn1 [1] ⟨rfl, trivial⟩ (by decide) rfl ?_ | refine CallPt.useS hn1 [1] ⟨rfl, trivial⟩ (by decide) rfl ?_
      rintro _ _ ⟨rfl, rfl⟩ _
      conv => whnf
      refine ⟨show 0 < (bR (Q ++ digs s'.size)).length by omega, show (bR (Q ++ digs s'.size)).length + s'.size ≤ 140737488355328 by omega, ?_⟩
      conv => whnf
      repeat (first | (refine And.intro rfl ?_; conv => whnf) | (refine And.intro (by decide) ?_; conv => whnf) | (refine draw_intro true (by kernel_rfl) ?_; conv => whnf) | (refine And.intro ⟨by omega, by omega⟩ ?_; conv => whnf) | (refine And.intro (by omega) ?_; conv => whnf) | (refine And.intro (fun _ => ⟨by omega, by omega⟩) ?_; conv => whnf) | (refine And.intro (of_decide_eq_true rfl) ?_; conv => whnf) | (refine And.intro (fun _ => ?_) (fun h => absurd h ?_); rotate_left; (focus (first | decide | (simp; done) | (simp [tcs]; done))); conv => whnf) | (refine And.intro (fun h => absurd h ?_) (fun _ => ?_); (focus (first | decide | (simp; done) | (simp [tcs]; done))); conv => whnf) | (intro _; conv => whnf))
      refine ⟨_, ⟨by omega, hrr⟩, ?_⟩
      conv => whnf
      refine ⟨show 1 ≤ 1 by decide, ?_⟩
      conv => whnf
      repeat (first | (refine And.intro rfl ?_; conv => whnf) | (refine And.intro (by decide) ?_; conv => whnf) | (refine draw_intro true (by kernel_rfl) ?_; conv => whnf) | (refine And.intro ⟨by omega, by omega⟩ ?_; conv => whnf) | (refine And.intro (by omega) ?_; conv => whnf) | (refine And.intro (fun _ => ⟨by omega, by omega⟩) ?_; conv => whnf) | (refine And.intro (of_decide_eq_true rfl) ?_; conv => whnf) | (refine And.intro (fun _ => ?_) (fun h => absurd h ?_); rotate_left; (focus (first | decide | (simp; done) | (simp [tcs]; done))); conv => whnf) | (refine And.intro (fun h => absurd h ?_) (fun _ => ?_); (focus (first | decide | (simp; done) | (simp [tcs]; done))); conv => whnf) | (intro _; conv => whnf))
      try (refine draw_intro true (by kernel_rfl) ?_; conv => whnf)
      first | refine CallSt.use hn2 [4] ⟨rfl, trivial⟩ (by decide) rfl ?_ | refine CallPt.useS hn2 [4] ⟨rfl, trivial⟩ (by decide) rfl ?_
      rintro _ _ ⟨rfl, rfl⟩ _
      conv => whnf
      repeat (first | (refine And.intro rfl ?_; conv => whnf) | (refine And.intro (by decide) ?_; conv => whnf) | (refine draw_intro true (by kernel_rfl) ?_; conv => whnf) | (refine And.intro ⟨by omega, by omega⟩ ?_; conv => whnf) | (refine And.intro (by omega) ?_; conv => whnf) | (refine And.intro (fun _ => ⟨by omega, by omega⟩) ?_; conv => whnf) | (refine And.intro (of_decide_eq_true rfl) ?_; conv => whnf) | (refine And.intro (fun _ => ?_) (fun h => absurd h ?_); rotate_left; (focus (first | decide | (simp; done) | (simp [tcs]; done))); conv => whnf) | (refine And.intro (fun h => absurd h ?_) (fun _ => ?_); (focus (first | decide | (simp; done) | (simp [tcs]; done))); conv => whnf) | (intro _; conv => whnf))
      try (refine draw_intro true (by kernel_rfl) ?_; conv => whnf)
      first | refine CallSt.use hn3 [5] ⟨rfl, trivial⟩ (by decide) rfl ?_ | refine CallPt.useS hn3 [5] ⟨rfl, trivial⟩ (by decide) rfl ?_
      rintro _ _ ⟨rfl, rfl⟩ _
      conv => whnf
      repeat (first | (refine And.intro rfl ?_; conv => whnf) | (refine And.intro (by decide) ?_; conv => whnf) | (refine draw_intro true (by kernel_rfl) ?_; conv => whnf) | (refine And.intro ⟨by omega, by omega⟩ ?_; conv => whnf) | (refine And.intro (by omega) ?_; conv => whnf) | (refine And.intro (fun _ => ⟨by omega, by omega⟩) ?_; conv => whnf) | (refine And.intro (of_decide_eq_true rfl) ?_; conv => whnf) | (refine And.intro (fun _ => ?_) (fun h => absurd h ?_); rotate_left; (focus (first | decide | (simp; done) | (simp [tcs]; done))); conv => whnf) | (refine And.intro (fun h => absurd h ?_) (fun _ => ?_); (focus (first | decide | (simp; done) | (simp [tcs]; done))); conv => whnf) | (intro _; conv => whnf))
      refine ⟨m - 1, _, _, by omega, ⟨j + 1, by omega, rfl, rfl⟩, Wk.sel [0, 6] (by decide) (by decide) (by decide) ⟨rfl, ?_, trivial⟩ ⟨rfl, rfl, rfl, rfl, rfl, rfl, trivial⟩ rfl⟩
      refine congrArg (fun z => some (Ent.row 5 1 1 (bR z))) ?_
      rw [hstep, ← List.append_assoc, hQe]
      simp only [List.append_assoc]
    · replace hc : ¬ (j : Int) < (dcs S).length := of_decide_eq_false hc
      obtain rfl : j = S.length := by omega
      have hdS2 := hdb S.length (by omega)
      have hQ : (P ++ digs S.length ++ declsB S R S.length).length ≤ 657005000 := by simp only [List.length_append]; omega
      have hpk : packL S X B R = P ++ digs S.length ++ declsB S R S.length ++ lstB digs ((R.drop S.length).take X.length) ++ ((R.drop S.length).drop X.length).flatMap digs := by
        rw [← hP]
        simp only [packL, List.append_assoc]
      rw [hpk]
      clear hpk
      generalize hQe : P ++ digs S.length ++ declsB S R S.length = Q at *
      have hRn := rowN_len R
      have hr1 : ((rowN R).take (((rowN R).length : Int).toNat)).drop (((dcs S).length : Int).toNat) = rowN (R.drop S.length) := by rw [Int.toNat_natCast, Int.toNat_natCast, List.take_length, hSl]; simp [rowN]
      have hRd := rowN_len (R.drop S.length)
      rw [List.length_drop] at hRd
      have hr2 : ((rowN (R.drop S.length)).take (((tcs X).length : Int).toNat)).drop (Int.toNat 0) = rowN ((R.drop S.length).take X.length) := by
        rw [Int.toNat_natCast, hXl]
        simp [rowN]
      have hr3 : ((rowN (R.drop S.length)).take (((rowN (R.drop S.length)).length : Int).toNat)).drop (((tcs X).length : Int).toNat) = rowN ((R.drop S.length).drop X.length) := by rw [Int.toNat_natCast, Int.toNat_natCast, List.take_length, hXl]; simp [rowN]
      have hls := cListN Q ((R.drop S.length).take X.length) (fun x hx => by have := hRb x (List.mem_of_mem_drop (List.mem_of_mem_take hx)); omega) (by rw [List.length_take]; omega)
      conv => whnf
      repeat (first | (refine And.intro rfl ?_; conv => whnf) | (refine And.intro (by decide) ?_; conv => whnf) | (refine draw_intro true (by kernel_rfl) ?_; conv => whnf) | (refine And.intro ⟨by omega, by omega⟩ ?_; conv => whnf) | (refine And.intro (by omega) ?_; conv => whnf) | (refine And.intro (fun _ => ⟨by omega, by omega⟩) ?_; conv => whnf) | (refine And.intro (of_decide_eq_true rfl) ?_; conv => whnf) | (refine And.intro (fun _ => ?_) (fun h => absurd h ?_); rotate_left; (focus (first | decide | (simp; done) | (simp [tcs]; done))); conv => whnf) | (refine And.intro (fun h => absurd h ?_) (fun _ => ?_); (focus (first | decide | (simp; done) | (simp [tcs]; done))); conv => whnf) | (intro _; conv => whnf))
      rw [hr1]
      refine ⟨⟨by omega, by omega, by omega⟩, ?_⟩
      conv => whnf
      rw [hr2]
      try (refine draw_intro true (by kernel_rfl) ?_; conv => whnf)
      first | refine CallSt.use hls [1] ⟨rfl, trivial⟩ (by decide) rfl ?_ | refine CallPt.useS hls [1] ⟨rfl, trivial⟩ (by decide) rfl ?_
      rintro _ _ ⟨rfl, rfl⟩ _
      conv => whnf
      repeat (first | (refine And.intro rfl ?_; conv => whnf) | (refine And.intro (by decide) ?_; conv => whnf) | (refine draw_intro true (by kernel_rfl) ?_; conv => whnf) | (refine And.intro ⟨by omega, by omega⟩ ?_; conv => whnf) | (refine And.intro (by omega) ?_; conv => whnf) | (refine And.intro (fun _ => ⟨by omega, by omega⟩) ?_; conv => whnf) | (refine And.intro (of_decide_eq_true rfl) ?_; conv => whnf) | (refine And.intro (fun _ => ?_) (fun h => absurd h ?_); rotate_left; (focus (first | decide | (simp; done) | (simp [tcs]; done))); conv => whnf) | (refine And.intro (fun h => absurd h ?_) (fun _ => ?_); (focus (first | decide | (simp; done) | (simp [tcs]; done))); conv => whnf) | (intro _; conv => whnf))
      rw [hr3]
      conv => whnf
      repeat (first | (refine And.intro rfl ?_; conv => whnf) | (refine And.intro (by decide) ?_; conv => whnf) | (refine draw_intro true (by kernel_rfl) ?_; conv => whnf) | (refine And.intro ⟨by omega, by omega⟩ ?_; conv => whnf) | (refine And.intro (by omega) ?_; conv => whnf) | (refine And.intro (fun _ => ⟨by omega, by omega⟩) ?_; conv => whnf) | (refine And.intro (of_decide_eq_true rfl) ?_; conv => whnf) | (refine And.intro (fun _ => ?_) (fun h => absurd h ?_); rotate_left; (focus (first | decide | (simp; done) | (simp [tcs]; done))); conv => whnf) | (refine And.intro (fun h => absurd h ?_) (fun _ => ?_); (focus (first | decide | (simp; done) | (simp [tcs]; done))); conv => whnf) | (intro _; conv => whnf))
      have hTl : ((R.drop S.length).drop X.length).length = 2 := by rw [List.length_drop, List.length_drop]; omega
      have hTb : ∀ x ∈ (R.drop S.length).drop X.length, x ≤ 1000000 := fun x hx => by have := hRb x (List.mem_of_mem_drop (List.mem_of_mem_drop hx)); omega
      have hlb := lstB_len digs ((R.drop S.length).take X.length) (fun x hx => by
        have := hRb x (List.mem_of_mem_drop (List.mem_of_mem_take hx))
        exact digs9 (by omega)) (by rw [List.length_take]; omega)
      have hlt : ((R.drop S.length).take X.length).length ≤ 100 := by rw [List.length_take]; omega
      have hGl : (Q ++ lstB digs ((R.drop S.length).take X.length)).length ≤ 658000000 := by rw [List.length_append]; omega
      generalize hG : Q ++ lstB digs ((R.drop S.length).take X.length) = G at *
      generalize (R.drop S.length).drop X.length = T at *
      have hTr := rowN_len T
      refine loop_intro (fun m tm H => ∃ (j : Nat), T.length = m + j ∧ tm = [(112, .c (.int .i64 (j))), (111, .c (.int .i64 ((rowN T).length))), (110, .c (.sl 1 8 (rowN T))), (5, .own 0)] ∧
          H = [.row 5 1 1 (bR (G ++ (T.take j).flatMap digs))])
        T.length _ _ ⟨0, by omega, rfl, rfl⟩ ?_ ?_
      · refine Wk.sel [2] (by decide) (by decide) (by decide) ⟨?_, trivial⟩ ⟨rfl, rfl, rfl, rfl, trivial⟩ rfl
        refine congrArg (fun z => some (Ent.row 5 1 1 (bR z))) ?_
        simp
      rintro m tm H ⟨j, hj, rfl, rfl⟩
      conv => whnf
      refine ⟨fun hc => ?_, fun hc => ?_⟩
      · replace hc : (j : Int) < (rowN T).length := of_decide_eq_true hc
        obtain ⟨x, hx⟩ : ∃ x, T[j]? = some x := ⟨T[j]'(by omega), List.getElem?_eq_getElem (by omega)⟩
        have hxr := rowN_at hx
        have hxb := hTb x (List.mem_of_getElem? hx)
        have hd := digs9 (n := x) (by omega)
        have hfl := flat9 digs (T.take j) fun y hy => digs9 (by have := hTb y (List.mem_of_mem_take hy); omega)
        have hjl : (T.take j).length ≤ 2 := by rw [List.length_take]; omega
        have hnx := cNumber (G ++ (T.take j).flatMap digs) x (by rw [List.length_append]; omega) (by omega)
        conv => whnf
        refine ⟨_, ⟨by omega, by simpa using hxr⟩, ?_⟩
        conv => whnf
        refine ⟨Nat.le_refl 1, ?_⟩
        conv => whnf
        repeat (first | (refine And.intro rfl ?_; conv => whnf) | (refine And.intro (by decide) ?_; conv => whnf) | (refine draw_intro true (by kernel_rfl) ?_; conv => whnf) | (refine And.intro ⟨by omega, by omega⟩ ?_; conv => whnf) | (refine And.intro (by omega) ?_; conv => whnf) | (refine And.intro (fun _ => ⟨by omega, by omega⟩) ?_; conv => whnf) | (refine And.intro (of_decide_eq_true rfl) ?_; conv => whnf) | (refine And.intro (fun _ => ?_) (fun h => absurd h ?_); rotate_left; (focus (first | decide | (simp; done) | (simp [tcs]; done))); conv => whnf) | (refine And.intro (fun h => absurd h ?_) (fun _ => ?_); (focus (first | decide | (simp; done) | (simp [tcs]; done))); conv => whnf) | (intro _; conv => whnf))
        try (refine draw_intro true (by kernel_rfl) ?_; conv => whnf)
        first | refine CallSt.use hnx [0] ⟨rfl, trivial⟩ (by decide) rfl ?_ | refine CallPt.useS hnx [0] ⟨rfl, trivial⟩ (by decide) rfl ?_
        rintro _ _ ⟨rfl, rfl⟩ _
        conv => whnf
        repeat (first | (refine And.intro rfl ?_; conv => whnf) | (refine And.intro (by decide) ?_; conv => whnf) | (refine draw_intro true (by kernel_rfl) ?_; conv => whnf) | (refine And.intro ⟨by omega, by omega⟩ ?_; conv => whnf) | (refine And.intro (by omega) ?_; conv => whnf) | (refine And.intro (fun _ => ⟨by omega, by omega⟩) ?_; conv => whnf) | (refine And.intro (of_decide_eq_true rfl) ?_; conv => whnf) | (refine And.intro (fun _ => ?_) (fun h => absurd h ?_); rotate_left; (focus (first | decide | (simp; done) | (simp [tcs]; done))); conv => whnf) | (refine And.intro (fun h => absurd h ?_) (fun _ => ?_); (focus (first | decide | (simp; done) | (simp [tcs]; done))); conv => whnf) | (intro _; conv => whnf))
        refine ⟨m - 1, _, _, by omega, ⟨j + 1, by omega, rfl, rfl⟩, Wk.sel [1] (by decide) (by decide) (by decide) ⟨?_, trivial⟩ ⟨rfl, rfl, rfl, rfl, trivial⟩ rfl⟩
        refine congrArg (fun z => some (Ent.row 5 1 1 (bR z))) ?_
        rw [List.take_add_one, hx]
        simp
      · replace hc : ¬ (j : Int) < (rowN T).length := of_decide_eq_false hc
        obtain rfl : j = T.length := by omega
        rw [List.take_length]
        have hfl := flat9 digs T fun y hy => digs9 (by have := hTb y hy; omega)
        have hse := cSealed (G ++ T.flatMap digs) (by rw [List.length_append]; omega)
        generalize G ++ T.flatMap digs = Z at *
        conv => whnf
        repeat (first | (refine And.intro rfl ?_; conv => whnf) | (refine And.intro (by decide) ?_; conv => whnf) | (refine draw_intro true (by kernel_rfl) ?_; conv => whnf) | (refine And.intro ⟨by omega, by omega⟩ ?_; conv => whnf) | (refine And.intro (by omega) ?_; conv => whnf) | (refine And.intro (fun _ => ⟨by omega, by omega⟩) ?_; conv => whnf) | (refine And.intro (of_decide_eq_true rfl) ?_; conv => whnf) | (refine And.intro (fun _ => ?_) (fun h => absurd h ?_); rotate_left; (focus (first | decide | (simp; done) | (simp [tcs]; done))); conv => whnf) | (refine And.intro (fun h => absurd h ?_) (fun _ => ?_); (focus (first | decide | (simp; done) | (simp [tcs]; done))); conv => whnf) | (intro _; conv => whnf))
        try (refine draw_intro true (by kernel_rfl) ?_; conv => whnf)
        first | refine CallSt.use hse [0] ⟨rfl, trivial⟩ (by decide) rfl ?_ | refine CallPt.useS hse [0] ⟨rfl, trivial⟩ (by decide) rfl ?_
        rintro _ _ ⟨rfl, rfl⟩ _
        conv => whnf
        repeat (first | (refine And.intro rfl ?_; conv => whnf) | (refine And.intro (by decide) ?_; conv => whnf) | (refine draw_intro true (by kernel_rfl) ?_; conv => whnf) | (refine And.intro ⟨by omega, by omega⟩ ?_; conv => whnf) | (refine And.intro (by omega) ?_; conv => whnf) | (refine And.intro (fun _ => ⟨by omega, by omega⟩) ?_; conv => whnf) | (refine And.intro (of_decide_eq_true rfl) ?_; conv => whnf) | (refine And.intro (fun _ => ?_) (fun h => absurd h ?_); rotate_left; (focus (first | decide | (simp; done) | (simp [tcs]; done))); conv => whnf) | (refine And.intro (fun h => absurd h ?_) (fun _ => ?_); (focus (first | decide | (simp; done) | (simp [tcs]; done))); conv => whnf) | (intro _; conv => whnf))
        all_goals (first | rfl | exact ⟨rfl, rfl⟩ | exact ⟨rfl, rfl, rfl⟩)
end Go.Tr
/- cert: Saved, Pack; awake of trusslaw19. -/
namespace Go.Tr
open Go.Proofs
def kindC : Crt := ⟨[], [], .mk 1 0 0 [], .mk 1 0 0 []⟩
theorem cKindC : CallSt Tryz.prog 21 [] [] (fun r H' => r = crv kindC ∧ H' = []) := by
  unfold crv kindC
  refine call_pure (E := env 0) (fn := Tryz.f21) (c := bodyOf Tryz.f21) (env_ok 0) mixed (by kernel_rfl) (by kernel_rfl) (by kernel_rfl) (by kernel_rfl) (by kernel_rfl) (by kernel_rfl) rfl ?_
  conv => whnf
  repeat (first | (refine And.intro rfl ?_; conv => whnf) | (refine And.intro (by decide) ?_; conv => whnf) | (refine draw_intro true (by kernel_rfl) ?_; conv => whnf) | (refine And.intro ⟨by omega, by omega⟩ ?_; conv => whnf) | (refine And.intro (by omega) ?_; conv => whnf) | (refine And.intro (fun _ => ⟨by omega, by omega⟩) ?_; conv => whnf) | (refine And.intro (of_decide_eq_true rfl) ?_; conv => whnf) | (refine And.intro (fun _ => ?_) (fun h => absurd h ?_); rotate_left; (focus (first | decide | (simp; done) | (simp [tcs]; done))); conv => whnf) | (refine And.intro (fun h => absurd h ?_) (fun _ => ?_); (focus (first | decide | (simp; done) | (simp [tcs]; done))); conv => whnf) | (intro _; conv => whnf))
  all_goals (first | rfl | exact ⟨rfl, rfl⟩ | exact ⟨rfl, rfl, rfl⟩)
/-- The nodes, and their number. -/
def nodesOf (c : Crt) : List Term := bk c (crl c).length
def savedV (c : Crt) : AV := match builtB c with
  | true => .tup [.c (.int .i64 (szL (crl c))), .c (.int .i64 ((nodesOf c).length)), .c (.int .i64 (0))]
  | false => .tup [.c (.int .i64 (0)), .c (.int .i64 (0)), .c (.int .i64 (2))]
theorem cSaved (c : Crt) : CallSt Tryz.prog 9 [crv c] [] (fun r H' => r = savedV c ∧ H' = []) := by
  have hb := cBuilt c
  unfold savedV nodesOf
  cases hbc : builtB c with
  | false =>
    rw [hbc] at hb
    obtain ⟨S, X, ⟨k, l, n, ts⟩, ⟨k2, l2, n2, us⟩⟩ := c
    unfold crv at *
    dsimp only [Term.k, Term.l, Term.n, Term.ts] at *
    refine call_pure (E := env 0) (fn := Tryz.f9) (c := bodyOf Tryz.f9) (env_ok 0) mixed (by kernel_rfl) (by kernel_rfl) (by kernel_rfl) (by kernel_rfl) (by kernel_rfl) (by kernel_rfl) rfl ?_
    conv => whnf
    try (refine draw_intro true (by kernel_rfl) ?_; conv => whnf)
    first | refine CallSt.use hb [] trivial (by decide) rfl ?_ | refine CallPt.useS hb [] trivial (by decide) rfl ?_
    rintro _ _ ⟨rfl, rfl⟩ _
    conv => whnf
    repeat (first | (refine And.intro rfl ?_; conv => whnf) | (refine And.intro (by decide) ?_; conv => whnf) | (refine draw_intro true (by kernel_rfl) ?_; conv => whnf) | (refine And.intro ⟨by omega, by omega⟩ ?_; conv => whnf) | (refine And.intro (by omega) ?_; conv => whnf) | (refine And.intro (fun _ => ⟨by omega, by omega⟩) ?_; conv => whnf) | (refine And.intro (of_decide_eq_true rfl) ?_; conv => whnf) | (refine And.intro (fun _ => ?_) (fun h => absurd h ?_); rotate_left; (focus (first | decide | (simp; done) | (simp [tcs]; done))); conv => whnf) | (refine And.intro (fun h => absurd h ?_) (fun _ => ?_); (focus (first | decide | (simp; done) | (simp [tcs]; done))); conv => whnf) | (intro _; conv => whnf))
    all_goals (first | rfl | exact ⟨rfl, rfl⟩ | exact ⟨rfl, rfl, rfl⟩)
  | true =>
    rw [hbc] at hb
    have hn := cNewNodes c (built_ok hbc).sane
    have hl := nds_len (bk c (crl c).length)
    have hB : (bk c (crl c).length).length ≤ 1000000 := by
      have hs := (built_ok hbc).sane
      obtain ⟨_, _, g3⟩ := bk_good hs (crl c).length
      rw [List.take_length] at g3
      have hsa := szL_all (crl c) fun u hu => (hs.t u hu).2
      have := crl_len c
      have := hs.S
      have := hs.X
      omega
    have hb1 : (nds (bk c (crl c).length)).length * 72 ≤ 140737488355328 := by omega
    rw [← hl]
    clear hbc
    generalize nds (bk _ _) = N at *
    generalize bk _ _ = B at *
    generalize rt _ _ = R at *
    generalize crl c = q at *
    obtain ⟨S, X, ⟨k, l, n, ts⟩, ⟨k2, l2, n2, us⟩⟩ := c
    unfold crv at *
    dsimp only [Term.k, Term.l, Term.n, Term.ts] at *
    refine call_pure (E := env 0) (fn := Tryz.f9) (c := bodyOf Tryz.f9) (env_ok 0) mixed (by kernel_rfl) (by kernel_rfl) (by kernel_rfl) (by kernel_rfl) (by kernel_rfl) (by kernel_rfl) rfl ?_
    conv => whnf
    try (refine draw_intro true (by kernel_rfl) ?_; conv => whnf)
    first | refine CallSt.use hb [] trivial (by decide) rfl ?_ | refine CallPt.useS hb [] trivial (by decide) rfl ?_
    rintro _ _ ⟨rfl, rfl⟩ _
    conv => whnf
    repeat (first | (refine And.intro rfl ?_; conv => whnf) | (refine And.intro (by decide) ?_; conv => whnf) | (refine draw_intro true (by kernel_rfl) ?_; conv => whnf) | (refine And.intro ⟨by omega, by omega⟩ ?_; conv => whnf) | (refine And.intro (by omega) ?_; conv => whnf) | (refine And.intro (fun _ => ⟨by omega, by omega⟩) ?_; conv => whnf) | (refine And.intro (of_decide_eq_true rfl) ?_; conv => whnf) | (refine And.intro (fun _ => ?_) (fun h => absurd h ?_); rotate_left; (focus (first | decide | (simp; done) | (simp [tcs]; done))); conv => whnf) | (refine And.intro (fun h => absurd h ?_) (fun _ => ?_); (focus (first | decide | (simp; done) | (simp [tcs]; done))); conv => whnf) | (intro _; conv => whnf))
    try (refine draw_intro true (by kernel_rfl) ?_; conv => whnf)
    first | refine CallSt.use hn [] trivial (by decide) rfl ?_ | refine CallPt.useS hn [] trivial (by decide) rfl ?_
    rintro _ _ ⟨rfl, rfl⟩ _
    conv => whnf
    repeat (first | (refine And.intro rfl ?_; conv => whnf) | (refine And.intro (by decide) ?_; conv => whnf) | (refine draw_intro true (by kernel_rfl) ?_; conv => whnf) | (refine And.intro ⟨by omega, by omega⟩ ?_; conv => whnf) | (refine And.intro (by omega) ?_; conv => whnf) | (refine And.intro (fun _ => ⟨by omega, by omega⟩) ?_; conv => whnf) | (refine And.intro (of_decide_eq_true rfl) ?_; conv => whnf) | (refine And.intro (fun _ => ?_) (fun h => absurd h ?_); rotate_left; (focus (first | decide | (simp; done) | (simp [tcs]; done))); conv => whnf) | (refine And.intro (fun h => absurd h ?_) (fun _ => ?_); (focus (first | decide | (simp; done) | (simp [tcs]; done))); conv => whnf) | (intro _; conv => whnf))
    all_goals (first | rfl | exact ⟨rfl, rfl⟩ | exact ⟨rfl, rfl, rfl⟩)
/-- A certificate's packed form. -/
def packB (c : Crt) : List UInt8 := sealB (packL c.S c.X (bk c (crl c).length) (rt c (crl c).length))
def packV (c : Crt) : AV := match builtB c with
  | true => (match decide (60000 < ((⟨(packB c).toArray⟩ : ByteArray).size : Int)) with
    | true => .tup [.c (.str ⟨#[]⟩), .c (.int .i64 (5))]
    | false => .tup [.c (.str ⟨(packB c).toArray⟩), .c (.int .i64 (0))])
  | false => .tup [.c (.str ⟨#[]⟩), .c (.int .i64 (2))]
theorem cPack (c : Crt) : CallSt Tryz.prog 7 [crv c] [] (fun r H' => r = packV c ∧ H' = []) := by
  have hb := cBuilt c
  unfold packV
  cases hbc : builtB c with
  | false =>
    rw [hbc] at hb
    obtain ⟨S, X, ⟨k, l, n, ts⟩, ⟨k2, l2, n2, us⟩⟩ := c
    unfold crv at *
    dsimp only [Term.k, Term.l, Term.n, Term.ts] at *
    refine call_pure (E := env 0) (fn := Tryz.f7) (c := bodyOf Tryz.f7) (env_ok 0) mixed (by kernel_rfl) (by kernel_rfl) (by kernel_rfl) (by kernel_rfl) (by kernel_rfl) (by kernel_rfl) rfl ?_
    conv => whnf
    try (refine draw_intro true (by kernel_rfl) ?_; conv => whnf)
    first | refine CallSt.use hb [] trivial (by decide) rfl ?_ | refine CallPt.useS hb [] trivial (by decide) rfl ?_
    rintro _ _ ⟨rfl, rfl⟩ _
    conv => whnf
    repeat (first | (refine And.intro rfl ?_; conv => whnf) | (refine And.intro (by decide) ?_; conv => whnf) | (refine draw_intro true (by kernel_rfl) ?_; conv => whnf) | (refine And.intro ⟨by omega, by omega⟩ ?_; conv => whnf) | (refine And.intro (by omega) ?_; conv => whnf) | (refine And.intro (fun _ => ⟨by omega, by omega⟩) ?_; conv => whnf) | (refine And.intro (of_decide_eq_true rfl) ?_; conv => whnf) | (refine And.intro (fun _ => ?_) (fun h => absurd h ?_); rotate_left; (focus (first | decide | (simp; done) | (simp [tcs]; done))); conv => whnf) | (refine And.intro (fun h => absurd h ?_) (fun _ => ?_); (focus (first | decide | (simp; done) | (simp [tcs]; done))); conv => whnf) | (intro _; conv => whnf))
    all_goals (first | rfl | exact ⟨rfl, rfl⟩ | exact ⟨rfl, rfl, rfl⟩)
  | true =>
    rw [hbc] at hb
    have hp := cPacked c (built_ok hbc)
    have e : (⟨(sealB (packL c.S c.X (bk c (crl c).length) (rt c (crl c).length))).toArray⟩ : ByteArray) = ⟨(packB c).toArray⟩ := rfl
    rw [e] at hp
    clear hbc e
    generalize (⟨(packB c).toArray⟩ : ByteArray) = s at *
    obtain ⟨S, X, ⟨k, l, n, ts⟩, ⟨k2, l2, n2, us⟩⟩ := c
    unfold crv at *
    dsimp only [Term.k, Term.l, Term.n, Term.ts] at *
    refine call_pure (E := env 0) (fn := Tryz.f7) (c := bodyOf Tryz.f7) (env_ok 0) mixed (by kernel_rfl) (by kernel_rfl) (by kernel_rfl) (by kernel_rfl) (by kernel_rfl) (by kernel_rfl) rfl ?_
    conv => whnf
    try (refine draw_intro true (by kernel_rfl) ?_; conv => whnf)
    first | refine CallSt.use hb [] trivial (by decide) rfl ?_ | refine CallPt.useS hb [] trivial (by decide) rfl ?_
    rintro _ _ ⟨rfl, rfl⟩ _
    conv => whnf
    repeat (first | (refine And.intro rfl ?_; conv => whnf) | (refine And.intro (by decide) ?_; conv => whnf) | (refine draw_intro true (by kernel_rfl) ?_; conv => whnf) | (refine And.intro ⟨by omega, by omega⟩ ?_; conv => whnf) | (refine And.intro (by omega) ?_; conv => whnf) | (refine And.intro (fun _ => ⟨by omega, by omega⟩) ?_; conv => whnf) | (refine And.intro (of_decide_eq_true rfl) ?_; conv => whnf) | (refine And.intro (fun _ => ?_) (fun h => absurd h ?_); rotate_left; (focus (first | decide | (simp; done) | (simp [tcs]; done))); conv => whnf) | (refine And.intro (fun h => absurd h ?_) (fun _ => ?_); (focus (first | decide | (simp; done) | (simp [tcs]; done))); conv => whnf) | (intro _; conv => whnf))
    try (refine draw_intro true (by kernel_rfl) ?_; conv => whnf)
    first | refine CallSt.use hp [] trivial (by decide) rfl ?_ | refine CallPt.useS hp [] trivial (by decide) rfl ?_
    rintro _ _ ⟨rfl, rfl⟩ _
    conv => whnf
    refine ⟨fun hlt => ?_, fun hlt => ?_⟩
    · rw [show decide ((60000 : Int) < (s.size : Int)) = true from hlt]
      conv => whnf
      repeat (first | (refine And.intro rfl ?_; conv => whnf) | (refine And.intro (by decide) ?_; conv => whnf) | (refine draw_intro true (by kernel_rfl) ?_; conv => whnf) | (refine And.intro ⟨by omega, by omega⟩ ?_; conv => whnf) | (refine And.intro (by omega) ?_; conv => whnf) | (refine And.intro (fun _ => ⟨by omega, by omega⟩) ?_; conv => whnf) | (refine And.intro (of_decide_eq_true rfl) ?_; conv => whnf) | (refine And.intro (fun _ => ?_) (fun h => absurd h ?_); rotate_left; (focus (first | decide | (simp; done) | (simp [tcs]; done))); conv => whnf) | (refine And.intro (fun h => absurd h ?_) (fun _ => ?_); (focus (first | decide | (simp; done) | (simp [tcs]; done))); conv => whnf) | (intro _; conv => whnf))
      all_goals (first | rfl | exact ⟨rfl, rfl⟩ | exact ⟨rfl, rfl, rfl⟩)
    · rw [show decide ((60000 : Int) < (s.size : Int)) = false from hlt]
      conv => whnf
      repeat (first | (refine And.intro rfl ?_; conv => whnf) | (refine And.intro (by decide) ?_; conv => whnf) | (refine draw_intro true (by kernel_rfl) ?_; conv => whnf) | (refine And.intro ⟨by omega, by omega⟩ ?_; conv => whnf) | (refine And.intro (by omega) ?_; conv => whnf) | (refine And.intro (fun _ => ⟨by omega, by omega⟩) ?_; conv => whnf) | (refine And.intro (of_decide_eq_true rfl) ?_; conv => whnf) | (refine And.intro (fun _ => ?_) (fun h => absurd h ?_); rotate_left; (focus (first | decide | (simp; done) | (simp [tcs]; done))); conv => whnf) | (refine And.intro (fun h => absurd h ?_) (fun _ => ?_); (focus (first | decide | (simp; done) | (simp [tcs]; done))); conv => whnf) | (intro _; conv => whnf))
      all_goals (first | rfl | exact ⟨rfl, rfl⟩ | exact ⟨rfl, rfl, rfl⟩)
theorem kind_crl : crl kindC = [.mk 1 0 0 [], .mk 1 0 0 []] := rfl
theorem kind_prop : prop (.mk 1 0 0 []) = true := by decide
theorem kind_built : builtB kindC = true := by
  have h1 : closedT (.mk 1 0 0 []) = true := by
    simp [closedT, kind_prop, conF, headsT, headsL]
  simp only [builtB, kind_crl, List.all_cons, List.all_nil, h1]
  rfl
theorem kind_bk : bk kindC 2 = [.mk 1 0 0 []] := by
  simp [bk, kind_crl, adL, adT]
theorem kind_rt : rt kindC 2 = [0, 0] := by
  unfold rt
  rw [kind_bk, kind_crl]
  rfl
theorem kind_pack : packB kindC = sealB [116, 114, 49, 1, 1, 0, 0, 0, 0, 0] := by
  unfold packB
  rw [show (crl kindC).length = 2 from rfl, kind_bk, kind_rt]
  congr 1
  simp [packL, kindC, nodesB, nodeB, declsB, lstB, kd, Term.k, Term.l, Term.n, Term.ts, digs_small]
  decide
end Go.Tr
/- awake, small of trusslaw19. -/
namespace Go.Tr
open Go.Proofs
theorem kind_saved : savedV kindC = .tup [.c (.int .i64 (2)), .c (.int .i64 (1)), .c (.int .i64 (0))] := by
  unfold savedV nodesOf
  rw [kind_built, show (crl kindC).length = 2 from rfl, kind_bk]
  simp [kind_crl, szL, szT]
theorem kind_packV : packV kindC = .tup [.c (.str ⟨(sealB [116, 114, 49, 1, 1, 0, 0, 0, 0, 0]).toArray⟩), .c (.int .i64 (0))] := by
  unfold packV
  rw [kind_built, kind_pack]
  have : decide ((60000 : Int) < ((⟨(sealB [116, 114, 49, 1, 1, 0, 0, 0, 0, 0]).toArray⟩ : ByteArray).size : Int)) = false := by
    have : (⟨(sealB [116, 114, 49, 1, 1, 0, 0, 0, 0, 0]).toArray⟩ : ByteArray).size = 14 := rfl
    rw [this]
    decide
  rw [this]
theorem cAwake19 : CallSt Tryz.prog 6 [] [] (fun r H' => r = .c (.bool true) ∧ H' = []) := by
  have hk := cKindC
  have hp := cPack kindC
  have hs := cSaved kindC
  have hb := cBuilt kindC
  have hr := cRSeal ⟨#[116, 114, 49, 1, 1, 0, 0, 0, 0, 0]⟩ (by decide)
  have hm := cSum ⟨#[]⟩ (by decide)
  rw [kind_saved] at hs
  rw [kind_packV] at hp
  rw [kind_built] at hb
  have e : sealB (⟨#[116, 114, 49, 1, 1, 0, 0, 0, 0, 0]⟩ : ByteArray).data.toList = sealB [116, 114, 49, 1, 1, 0, 0, 0, 0, 0] := rfl
  rw [e] at hr
  have e2 : sumI (⟨#[]⟩ : ByteArray).data.toList = 1 := rfl
  rw [e2] at hm
  clear e e2
  unfold crv at *
  generalize (⟨(sealB [116, 114, 49, 1, 1, 0, 0, 0, 0, 0]).toArray⟩ : ByteArray) = z at *
  refine call_pure (E := env 0) (fn := Tryz.f6) (c := bodyOf Tryz.f6) (env_ok 0) mixed (by kernel_rfl) (by kernel_rfl) (by kernel_rfl) (by kernel_rfl) (by kernel_rfl) (by kernel_rfl) rfl ?_
  conv => whnf
  try (refine draw_intro true (by kernel_rfl) ?_; conv => whnf)
  first | refine CallSt.use hk [] trivial (by decide) rfl ?_ | refine CallPt.useS hk [] trivial (by decide) rfl ?_
  rintro _ _ ⟨rfl, rfl⟩ _
  conv => whnf
  try (refine draw_intro true (by kernel_rfl) ?_; conv => whnf)
  first | refine CallSt.use hp [] trivial (by decide) rfl ?_ | refine CallPt.useS hp [] trivial (by decide) rfl ?_
  rintro _ _ ⟨rfl, rfl⟩ _
  conv => whnf
  repeat (first | (refine And.intro rfl ?_; conv => whnf) | (refine And.intro (by decide) ?_; conv => whnf) | (refine draw_intro true (by kernel_rfl) ?_; conv => whnf) | (refine And.intro ⟨by omega, by omega⟩ ?_; conv => whnf) | (refine And.intro (by omega) ?_; conv => whnf) | (refine And.intro (fun _ => ⟨by omega, by omega⟩) ?_; conv => whnf) | (refine And.intro (of_decide_eq_true rfl) ?_; conv => whnf) | (refine And.intro (fun _ => ?_) (fun h => absurd h ?_); rotate_left; (focus (first | decide | (simp; done) | (simp [tcs]; done))); conv => whnf) | (refine And.intro (fun h => absurd h ?_) (fun _ => ?_); (focus (first | decide | (simp; done) | (simp [tcs]; done))); conv => whnf) | (intro _; conv => whnf))
  try (refine draw_intro true (by kernel_rfl) ?_; conv => whnf)
  first | refine CallSt.use hk [] trivial (by decide) rfl ?_ | refine CallPt.useS hk [] trivial (by decide) rfl ?_
  rintro _ _ ⟨rfl, rfl⟩ _
  conv => whnf
  try (refine draw_intro true (by kernel_rfl) ?_; conv => whnf)
  first | refine CallSt.use hs [] trivial (by decide) rfl ?_ | refine CallPt.useS hs [] trivial (by decide) rfl ?_
  rintro _ _ ⟨rfl, rfl⟩ _
  conv => whnf
  repeat (first | (refine And.intro rfl ?_; conv => whnf) | (refine And.intro (by decide) ?_; conv => whnf) | (refine draw_intro true (by kernel_rfl) ?_; conv => whnf) | (refine And.intro ⟨by omega, by omega⟩ ?_; conv => whnf) | (refine And.intro (by omega) ?_; conv => whnf) | (refine And.intro (fun _ => ⟨by omega, by omega⟩) ?_; conv => whnf) | (refine And.intro (of_decide_eq_true rfl) ?_; conv => whnf) | (refine And.intro (fun _ => ?_) (fun h => absurd h ?_); rotate_left; (focus (first | decide | (simp; done) | (simp [tcs]; done))); conv => whnf) | (refine And.intro (fun h => absurd h ?_) (fun _ => ?_); (focus (first | decide | (simp; done) | (simp [tcs]; done))); conv => whnf) | (intro _; conv => whnf))
  try (refine draw_intro true (by kernel_rfl) ?_; conv => whnf)
  first | refine CallSt.use hr [] trivial (by decide) rfl ?_ | refine CallPt.useS hr [] trivial (by decide) rfl ?_
  rintro _ _ ⟨rfl, rfl⟩ _
  conv => whnf
  repeat (first | (refine And.intro rfl ?_; conv => whnf) | (refine And.intro (by decide) ?_; conv => whnf) | (refine draw_intro true (by kernel_rfl) ?_; conv => whnf) | (refine And.intro ⟨by omega, by omega⟩ ?_; conv => whnf) | (refine And.intro (by omega) ?_; conv => whnf) | (refine And.intro (fun _ => ⟨by omega, by omega⟩) ?_; conv => whnf) | (refine And.intro (of_decide_eq_true rfl) ?_; conv => whnf) | (refine And.intro (fun _ => ?_) (fun h => absurd h ?_); rotate_left; (focus (first | decide | (simp; done) | (simp [tcs]; done))); conv => whnf) | (refine And.intro (fun h => absurd h ?_) (fun _ => ?_); (focus (first | decide | (simp; done) | (simp [tcs]; done))); conv => whnf) | (intro _; conv => whnf))
  rw [decide_eq_true (show z = z from rfl)]
  repeat (first | (refine And.intro rfl ?_; conv => whnf) | (refine And.intro (by decide) ?_; conv => whnf) | (refine draw_intro true (by kernel_rfl) ?_; conv => whnf) | (refine And.intro ⟨by omega, by omega⟩ ?_; conv => whnf) | (refine And.intro (by omega) ?_; conv => whnf) | (refine And.intro (fun _ => ⟨by omega, by omega⟩) ?_; conv => whnf) | (refine And.intro (of_decide_eq_true rfl) ?_; conv => whnf) | (refine And.intro (fun _ => ?_) (fun h => absurd h ?_); rotate_left; (focus (first | decide | (simp; done) | (simp [tcs]; done))); conv => whnf) | (refine And.intro (fun h => absurd h ?_) (fun _ => ?_); (focus (first | decide | (simp; done) | (simp [tcs]; done))); conv => whnf) | (intro _; conv => whnf))
  try (refine draw_intro true (by kernel_rfl) ?_; conv => whnf)
  first | refine CallSt.use hk [] trivial (by decide) rfl ?_ | refine CallPt.useS hk [] trivial (by decide) rfl ?_
  rintro _ _ ⟨rfl, rfl⟩ _
  conv => whnf
  repeat (first | (refine And.intro rfl ?_; conv => whnf) | (refine And.intro (by decide) ?_; conv => whnf) | (refine draw_intro true (by kernel_rfl) ?_; conv => whnf) | (refine And.intro ⟨by omega, by omega⟩ ?_; conv => whnf) | (refine And.intro (by omega) ?_; conv => whnf) | (refine And.intro (fun _ => ⟨by omega, by omega⟩) ?_; conv => whnf) | (refine And.intro (of_decide_eq_true rfl) ?_; conv => whnf) | (refine And.intro (fun _ => ?_) (fun h => absurd h ?_); rotate_left; (focus (first | decide | (simp; done) | (simp [tcs]; done))); conv => whnf) | (refine And.intro (fun h => absurd h ?_) (fun _ => ?_); (focus (first | decide | (simp; done) | (simp [tcs]; done))); conv => whnf) | (intro _; conv => whnf))
  try (refine draw_intro true (by kernel_rfl) ?_; conv => whnf)
  first | refine CallSt.use hb [] trivial (by decide) rfl ?_ | refine CallPt.useS hb [] trivial (by decide) rfl ?_
  rintro _ _ ⟨rfl, rfl⟩ _
  conv => whnf
  repeat (first | (refine And.intro rfl ?_; conv => whnf) | (refine And.intro (by decide) ?_; conv => whnf) | (refine draw_intro true (by kernel_rfl) ?_; conv => whnf) | (refine And.intro ⟨by omega, by omega⟩ ?_; conv => whnf) | (refine And.intro (by omega) ?_; conv => whnf) | (refine And.intro (fun _ => ⟨by omega, by omega⟩) ?_; conv => whnf) | (refine And.intro (of_decide_eq_true rfl) ?_; conv => whnf) | (refine And.intro (fun _ => ?_) (fun h => absurd h ?_); rotate_left; (focus (first | decide | (simp; done) | (simp [tcs]; done))); conv => whnf) | (refine And.intro (fun h => absurd h ?_) (fun _ => ?_); (focus (first | decide | (simp; done) | (simp [tcs]; done))); conv => whnf) | (intro _; conv => whnf))
  try (refine draw_intro true (by kernel_rfl) ?_; conv => whnf)
  first | refine CallSt.use hm [] trivial (by decide) rfl ?_ | refine CallPt.useS hm [] trivial (by decide) rfl ?_
  rintro _ _ ⟨rfl, rfl⟩ _
  conv => whnf
  repeat (first | (refine And.intro rfl ?_; conv => whnf) | (refine And.intro (by decide) ?_; conv => whnf) | (refine draw_intro true (by kernel_rfl) ?_; conv => whnf) | (refine And.intro ⟨by omega, by omega⟩ ?_; conv => whnf) | (refine And.intro (by omega) ?_; conv => whnf) | (refine And.intro (fun _ => ⟨by omega, by omega⟩) ?_; conv => whnf) | (refine And.intro (of_decide_eq_true rfl) ?_; conv => whnf) | (refine And.intro (fun _ => ?_) (fun h => absurd h ?_); rotate_left; (focus (first | decide | (simp; done) | (simp [tcs]; done))); conv => whnf) | (refine And.intro (fun h => absurd h ?_) (fun _ => ?_); (focus (first | decide | (simp; done) | (simp [tcs]; done))); conv => whnf) | (intro _; conv => whnf))
  all_goals (first | rfl | exact ⟨rfl, rfl⟩ | exact ⟨rfl, rfl, rfl⟩)
end Go.Tr
/- small of trusslaw19. -/
namespace Go.Tr
open Go.Proofs
theorem cWeigh (t : Term) : ∀ (d : Int), 0 ≤ d ∧ d ≤ 101 → CallSt Tryz.prog 20 [tv t, .c (.int .i64 (d))] [] (fun r H' => ∃ v : Int, r = .c (.int .i64 (v)) ∧ (1 ≤ v ∧ v ≤ 4000 + 3000 * (101 - d)) ∧ H' = []) := by
  induction t using Term.ind with
  | _ t ih =>
  intro d hd
  obtain ⟨k, l, n, ts⟩ := t
  replace ih : ∀ u, u ∈ ts → _ := ih
  have hln := len_tcs ts
  rw [tv_mk]
  by_cases hdd : 100 < d
  · refine call_pure (E := env 0) (fn := Tryz.f20) (c := bodyOf Tryz.f20) (env_ok 0) mixed (by kernel_rfl) (by kernel_rfl) (by kernel_rfl) (by kernel_rfl) (by kernel_rfl) (by kernel_rfl) rfl ?_
    conv => whnf
    repeat (first | (refine And.intro rfl ?_; conv => whnf) | (refine And.intro (by decide) ?_; conv => whnf) | (refine draw_intro true (by kernel_rfl) ?_; conv => whnf) | (refine And.intro ⟨by omega, by omega⟩ ?_; conv => whnf) | (refine And.intro (by omega) ?_; conv => whnf) | (refine And.intro (fun _ => ⟨by omega, by omega⟩) ?_; conv => whnf) | (refine And.intro (of_decide_eq_true rfl) ?_; conv => whnf) | (refine And.intro (fun _ => ?_) (fun h => absurd h ?_); rotate_left; (focus (first | decide | (simp; done) | (simp [tcs]; done))); conv => whnf) | (refine And.intro (fun h => absurd h ?_) (fun _ => ?_); (focus (first | decide | (simp; done) | (simp [tcs]; done))); conv => whnf) | (intro _; conv => whnf))
    rw [decide_eq_true hdd]
    (refine ⟨fun _ => ?_, fun h => absurd h ?_⟩; rotate_left; (focus (first | decide | (simp; done) | (simp [tcs]; done))); conv => whnf)
    repeat (first | (refine And.intro rfl ?_; conv => whnf) | (refine And.intro (by decide) ?_; conv => whnf) | (refine draw_intro true (by kernel_rfl) ?_; conv => whnf) | (refine And.intro ⟨by omega, by omega⟩ ?_; conv => whnf) | (refine And.intro (by omega) ?_; conv => whnf) | (refine And.intro (fun _ => ⟨by omega, by omega⟩) ?_; conv => whnf) | (refine And.intro (of_decide_eq_true rfl) ?_; conv => whnf) | (refine And.intro (fun _ => ?_) (fun h => absurd h ?_); rotate_left; (focus (first | decide | (simp; done) | (simp [tcs]; done))); conv => whnf) | (refine And.intro (fun h => absurd h ?_) (fun _ => ?_); (focus (first | decide | (simp; done) | (simp [tcs]; done))); conv => whnf) | (intro _; conv => whnf))
    exact ⟨4000, rfl, by omega, rfl⟩
  · refine call_pure (E := env 0) (fn := Tryz.f20) (c := bodyOf Tryz.f20) (env_ok 0) mixed (by kernel_rfl) (by kernel_rfl) (by kernel_rfl) (by kernel_rfl) (by kernel_rfl) (by kernel_rfl) rfl ?_
    conv => whnf
    repeat (first | (refine And.intro rfl ?_; conv => whnf) | (refine And.intro (by decide) ?_; conv => whnf) | (refine draw_intro true (by kernel_rfl) ?_; conv => whnf) | (refine And.intro ⟨by omega, by omega⟩ ?_; conv => whnf) | (refine And.intro (by omega) ?_; conv => whnf) | (refine And.intro (fun _ => ⟨by omega, by omega⟩) ?_; conv => whnf) | (refine And.intro (of_decide_eq_true rfl) ?_; conv => whnf) | (refine And.intro (fun _ => ?_) (fun h => absurd h ?_); rotate_left; (focus (first | decide | (simp; done) | (simp [tcs]; done))); conv => whnf) | (refine And.intro (fun h => absurd h ?_) (fun _ => ?_); (focus (first | decide | (simp; done) | (simp [tcs]; done))); conv => whnf) | (intro _; conv => whnf))
    rw [decide_eq_false hdd]
    (refine ⟨fun h => absurd h ?_, fun _ => ?_⟩; (focus (first | decide | (simp; done) | (simp [tcs]; done))); conv => whnf)
    repeat (first | (refine And.intro rfl ?_; conv => whnf) | (refine And.intro (by decide) ?_; conv => whnf) | (refine draw_intro true (by kernel_rfl) ?_; conv => whnf) | (refine And.intro ⟨by omega, by omega⟩ ?_; conv => whnf) | (refine And.intro (by omega) ?_; conv => whnf) | (refine And.intro (fun _ => ⟨by omega, by omega⟩) ?_; conv => whnf) | (refine And.intro (of_decide_eq_true rfl) ?_; conv => whnf) | (refine And.intro (fun _ => ?_) (fun h => absurd h ?_); rotate_left; (focus (first | decide | (simp; done) | (simp [tcs]; done))); conv => whnf) | (refine And.intro (fun h => absurd h ?_) (fun _ => ?_); (focus (first | decide | (simp; done) | (simp [tcs]; done))); conv => whnf) | (intro _; conv => whnf))
    refine loop_intro (fun m tm H => ∃ (j : Nat) (w : Int), ts.length = m + j ∧ (1 ≤ w ∧ w ≤ 4000 + 3000 * (101 - d)) ∧ tm = [(6, .c (.int .i64 (j))), (5, .c (.int .i64 (w))), (1, .c (.int .i64 (d))), (2, .ptr 0 0)] ∧ H = [.box [.c (.int .i64 (k)), .c (.int .i64 (l)), .c (.int .i64 (n)), .c (.sl 4 48 (tcs ts))]])
      ts.length _ _ ⟨0, 1, by omega, by omega, rfl, rfl⟩ (Wk.sel [0] (by decide) (by first | decide | (show (0 : Nat) ≤ _; decide) | (show ∀ i, i < 0 → _; decide) | (show (1 : Nat) ≤ _; decide) | (show ∀ i, i < 1 → _; decide) | (show (2 : Nat) ≤ _; decide) | (show ∀ i, i < 2 → _; decide) | (show (3 : Nat) ≤ _; decide) | (show ∀ i, i < 3 → _; decide) | (show (4 : Nat) ≤ _; decide) | (show ∀ i, i < 4 → _; decide) | (show (5 : Nat) ≤ _; decide) | (show ∀ i, i < 5 → _; decide) | (show (6 : Nat) ≤ _; decide) | (show ∀ i, i < 6 → _; decide) | (show (7 : Nat) ≤ _; decide) | (show ∀ i, i < 7 → _; decide)) (by first | decide | (show (0 : Nat) ≤ _; decide) | (show ∀ i, i < 0 → _; decide) | (show (1 : Nat) ≤ _; decide) | (show ∀ i, i < 1 → _; decide) | (show (2 : Nat) ≤ _; decide) | (show ∀ i, i < 2 → _; decide) | (show (3 : Nat) ≤ _; decide) | (show ∀ i, i < 3 → _; decide) | (show (4 : Nat) ≤ _; decide) | (show ∀ i, i < 4 → _; decide) | (show (5 : Nat) ≤ _; decide) | (show ∀ i, i < 5 → _; decide) | (show (6 : Nat) ≤ _; decide) | (show ∀ i, i < 6 → _; decide) | (show (7 : Nat) ≤ _; decide) | (show ∀ i, i < 7 → _; decide)) ⟨rfl, trivial⟩ ⟨rfl, rfl, rfl, rfl, trivial⟩ rfl) ?_
    rintro m tm H ⟨j, w, hj, hw, rfl, rfl⟩
    conv => whnf
    intro hlen
    replace hlen : (tcs ts).length * 48 ≤ 140737488355328 := hlen
    conv => whnf
    repeat (first | (refine And.intro rfl ?_; conv => whnf) | (refine And.intro (by decide) ?_; conv => whnf) | (refine draw_intro true (by kernel_rfl) ?_; conv => whnf) | (refine And.intro ⟨by omega, by omega⟩ ?_; conv => whnf) | (refine And.intro (by omega) ?_; conv => whnf) | (refine And.intro (fun _ => ⟨by omega, by omega⟩) ?_; conv => whnf) | (refine And.intro (of_decide_eq_true rfl) ?_; conv => whnf) | (refine And.intro (fun _ => ?_) (fun h => absurd h ?_); rotate_left; (focus (first | decide | (simp; done) | (simp [tcs]; done))); conv => whnf) | (refine And.intro (fun h => absurd h ?_) (fun _ => ?_); (focus (first | decide | (simp; done) | (simp [tcs]; done))); conv => whnf) | (intro _; conv => whnf))
    refine ⟨fun hc => ?_, fun hc => ?_⟩
    · rw [Bool.and_eq_true] at hc
      have hc1 : (j : Int) < (tcs ts).length := of_decide_eq_true hc.1
      have hc2 : w ≤ 3000 := of_decide_eq_true hc.2
      obtain ⟨u, hu⟩ : ∃ u, ts[j]? = some u := ⟨ts[j]'(by omega), List.getElem?_eq_getElem (by omega)⟩
      have huc := tcs_at ts j u hu
      have hi := ih u (List.mem_of_getElem? hu) (d + 1) (by omega)
      obtain ⟨k', l', n', us⟩ := u
      rw [tv_mk] at hi
      conv => whnf
      refine ⟨_, ⟨by omega, by simpa using huc⟩, ?_⟩
      conv => whnf
      refine ⟨Nat.le_refl 4, ?_⟩
      conv => whnf
      repeat (first | (refine And.intro rfl ?_; conv => whnf) | (refine And.intro (by decide) ?_; conv => whnf) | (refine draw_intro true (by kernel_rfl) ?_; conv => whnf) | (refine And.intro ⟨by omega, by omega⟩ ?_; conv => whnf) | (refine And.intro (by omega) ?_; conv => whnf) | (refine And.intro (fun _ => ⟨by omega, by omega⟩) ?_; conv => whnf) | (refine And.intro (of_decide_eq_true rfl) ?_; conv => whnf) | (refine And.intro (fun _ => ?_) (fun h => absurd h ?_); rotate_left; (focus (first | decide | (simp; done) | (simp [tcs]; done))); conv => whnf) | (refine And.intro (fun h => absurd h ?_) (fun _ => ?_); (focus (first | decide | (simp; done) | (simp [tcs]; done))); conv => whnf) | (intro _; conv => whnf))
      try (refine draw_intro true (by kernel_rfl) ?_; conv => whnf)
      first | refine CallSt.use hi [] trivial (by decide) rfl ?_ | refine CallPt.useS hi [] trivial (by decide) rfl ?_
      rintro _ _ ⟨v, rfl, hv, rfl⟩ _
      conv => whnf
      refine ⟨⟨by omega, by omega⟩, ?_⟩
      conv => whnf
      repeat (first | (refine And.intro rfl ?_; conv => whnf) | (refine And.intro (by decide) ?_; conv => whnf) | (refine draw_intro true (by kernel_rfl) ?_; conv => whnf) | (refine And.intro ⟨by omega, by omega⟩ ?_; conv => whnf) | (refine And.intro (by omega) ?_; conv => whnf) | (refine And.intro (fun _ => ⟨by omega, by omega⟩) ?_; conv => whnf) | (refine And.intro (of_decide_eq_true rfl) ?_; conv => whnf) | (refine And.intro (fun _ => ?_) (fun h => absurd h ?_); rotate_left; (focus (first | decide | (simp; done) | (simp [tcs]; done))); conv => whnf) | (refine And.intro (fun h => absurd h ?_) (fun _ => ?_); (focus (first | decide | (simp; done) | (simp [tcs]; done))); conv => whnf) | (intro _; conv => whnf))
      refine ⟨m - 1, _, _, by omega, ⟨j + 1, w + v, by omega, by omega, rfl, rfl⟩, Wk.sel [0] (by decide) (by first | decide | (show (0 : Nat) ≤ _; decide) | (show ∀ i, i < 0 → _; decide) | (show (1 : Nat) ≤ _; decide) | (show ∀ i, i < 1 → _; decide) | (show (2 : Nat) ≤ _; decide) | (show ∀ i, i < 2 → _; decide) | (show (3 : Nat) ≤ _; decide) | (show ∀ i, i < 3 → _; decide) | (show (4 : Nat) ≤ _; decide) | (show ∀ i, i < 4 → _; decide) | (show (5 : Nat) ≤ _; decide) | (show ∀ i, i < 5 → _; decide) | (show (6 : Nat) ≤ _; decide) | (show ∀ i, i < 6 → _; decide) | (show (7 : Nat) ≤ _; decide) | (show ∀ i, i < 7 → _; decide)) (by first | decide | (show (0 : Nat) ≤ _; decide) | (show ∀ i, i < 0 → _; decide) | (show (1 : Nat) ≤ _; decide) | (show ∀ i, i < 1 → _; decide) | (show (2 : Nat) ≤ _; decide) | (show ∀ i, i < 2 → _; decide) | (show (3 : Nat) ≤ _; decide) | (show ∀ i, i < 3 → _; decide) | (show (4 : Nat) ≤ _; decide) | (show ∀ i, i < 4 → _; decide) | (show (5 : Nat) ≤ _; decide) | (show ∀ i, i < 5 → _; decide) | (show (6 : Nat) ≤ _; decide) | (show ∀ i, i < 6 → _; decide) | (show (7 : Nat) ≤ _; decide) | (show ∀ i, i < 7 → _; decide)) ⟨rfl, trivial⟩ ⟨rfl, rfl, rfl, rfl, trivial⟩ rfl⟩
    · conv => whnf
      repeat (first | (refine And.intro rfl ?_; conv => whnf) | (refine And.intro (by decide) ?_; conv => whnf) | (refine draw_intro true (by kernel_rfl) ?_; conv => whnf) | (refine And.intro ⟨by omega, by omega⟩ ?_; conv => whnf) | (refine And.intro (by omega) ?_; conv => whnf) | (refine And.intro (fun _ => ⟨by omega, by omega⟩) ?_; conv => whnf) | (refine And.intro (of_decide_eq_true rfl) ?_; conv => whnf) | (refine And.intro (fun _ => ?_) (fun h => absurd h ?_); rotate_left; (focus (first | decide | (simp; done) | (simp [tcs]; done))); conv => whnf) | (refine And.intro (fun h => absurd h ?_) (fun _ => ?_); (focus (first | decide | (simp; done) | (simp [tcs]; done))); conv => whnf) | (intro _; conv => whnf))
      exact ⟨w, rfl, hw, rfl⟩
theorem cSmall19 (c : Crt) : CallSt Tryz.prog 5 [crv c] [] (fun r H' => ∃ b : Bool, r = .c (.bool b) ∧ H' = []) := by
  have ho := cWeigh c.o 0 (by decide)
  have hc := cWeigh c.c 0 (by decide)
  have hds := len_dcs c.S
  have hxl := len_tcs c.X
  obtain ⟨S, X, ⟨k, l, n, ts⟩, ⟨k2, l2, n2, us⟩⟩ := c
  unfold crv at *
  dsimp only [Term.k, Term.l, Term.n, Term.ts] at *
  rw [tv_mk] at *
  refine call_pure (E := env 0) (fn := Tryz.f5) (c := bodyOf Tryz.f5) (env_ok 0) mixed (by kernel_rfl) (by kernel_rfl) (by kernel_rfl) (by kernel_rfl) (by kernel_rfl) (by kernel_rfl) rfl ?_
  conv => whnf
  repeat (first | (refine And.intro rfl ?_; conv => whnf) | (refine And.intro (by decide) ?_; conv => whnf) | (refine draw_intro true (by kernel_rfl) ?_; conv => whnf) | (refine And.intro ⟨by omega, by omega⟩ ?_; conv => whnf) | (refine And.intro (by omega) ?_; conv => whnf) | (refine And.intro (fun _ => ⟨by omega, by omega⟩) ?_; conv => whnf) | (refine And.intro (of_decide_eq_true rfl) ?_; conv => whnf) | (refine And.intro (fun _ => ?_) (fun h => absurd h ?_); rotate_left; (focus (first | decide | (simp; done) | (simp [tcs]; done))); conv => whnf) | (refine And.intro (fun h => absurd h ?_) (fun _ => ?_); (focus (first | decide | (simp; done) | (simp [tcs]; done))); conv => whnf) | (intro _; conv => whnf))
  try (refine draw_intro true (by kernel_rfl) ?_; conv => whnf)
  first | refine CallSt.use ho [] trivial (by decide) rfl ?_ | refine CallPt.useS ho [] trivial (by decide) rfl ?_
  rintro _ _ ⟨a, rfl, ha, rfl⟩ _
  conv => whnf
  repeat (first | (refine And.intro rfl ?_; conv => whnf) | (refine And.intro (by decide) ?_; conv => whnf) | (refine draw_intro true (by kernel_rfl) ?_; conv => whnf) | (refine And.intro ⟨by omega, by omega⟩ ?_; conv => whnf) | (refine And.intro (by omega) ?_; conv => whnf) | (refine And.intro (fun _ => ⟨by omega, by omega⟩) ?_; conv => whnf) | (refine And.intro (of_decide_eq_true rfl) ?_; conv => whnf) | (refine And.intro (fun _ => ?_) (fun h => absurd h ?_); rotate_left; (focus (first | decide | (simp; done) | (simp [tcs]; done))); conv => whnf) | (refine And.intro (fun h => absurd h ?_) (fun _ => ?_); (focus (first | decide | (simp; done) | (simp [tcs]; done))); conv => whnf) | (intro _; conv => whnf))
  try (refine draw_intro true (by kernel_rfl) ?_; conv => whnf)
  first | refine CallSt.use hc [] trivial (by decide) rfl ?_ | refine CallPt.useS hc [] trivial (by decide) rfl ?_
  rintro _ _ ⟨b, rfl, hb, rfl⟩ _
  conv => whnf
  refine ⟨⟨by omega, by omega⟩, ?_⟩
  conv => whnf
  repeat (first | (refine And.intro rfl ?_; conv => whnf) | (refine And.intro (by decide) ?_; conv => whnf) | (refine draw_intro true (by kernel_rfl) ?_; conv => whnf) | (refine And.intro ⟨by omega, by omega⟩ ?_; conv => whnf) | (refine And.intro (by omega) ?_; conv => whnf) | (refine And.intro (fun _ => ⟨by omega, by omega⟩) ?_; conv => whnf) | (refine And.intro (of_decide_eq_true rfl) ?_; conv => whnf) | (refine And.intro (fun _ => ?_) (fun h => absurd h ?_); rotate_left; (focus (first | decide | (simp; done) | (simp [tcs]; done))); conv => whnf) | (refine And.intro (fun h => absurd h ?_) (fun _ => ?_); (focus (first | decide | (simp; done) | (simp [tcs]; done))); conv => whnf) | (intro _; conv => whnf))
  refine loop_intro (fun m tm H => ∃ (j : Nat) (w : Int), S.length = m + j ∧ (0 ≤ w ∧ w ≤ 614000) ∧ tm = [(4, .c (.int .i64 (j))), (3, .c (.int .i64 (w))), (1, .ptr 0 0)] ∧ H = [.box [.c (.sl 6 72 (dcs S)), .c (.sl 4 48 (tcs X)), .c (.int .i64 (k)), .c (.int .i64 (l)), .c (.int .i64 (n)), .c (.sl 4 48 (tcs ts)), .c (.int .i64 (k2)), .c (.int .i64 (l2)), .c (.int .i64 (n2)), .c (.sl 4 48 (tcs us))]])
    S.length _ _ ⟨0, a + b, by omega, by omega, rfl, rfl⟩ (Wk.sel [0] (by decide) (by first | decide | (show (0 : Nat) ≤ _; decide) | (show ∀ i, i < 0 → _; decide) | (show (1 : Nat) ≤ _; decide) | (show ∀ i, i < 1 → _; decide) | (show (2 : Nat) ≤ _; decide) | (show ∀ i, i < 2 → _; decide) | (show (3 : Nat) ≤ _; decide) | (show ∀ i, i < 3 → _; decide) | (show (4 : Nat) ≤ _; decide) | (show ∀ i, i < 4 → _; decide) | (show (5 : Nat) ≤ _; decide) | (show ∀ i, i < 5 → _; decide) | (show (6 : Nat) ≤ _; decide) | (show ∀ i, i < 6 → _; decide) | (show (7 : Nat) ≤ _; decide) | (show ∀ i, i < 7 → _; decide)) (by first | decide | (show (0 : Nat) ≤ _; decide) | (show ∀ i, i < 0 → _; decide) | (show (1 : Nat) ≤ _; decide) | (show ∀ i, i < 1 → _; decide) | (show (2 : Nat) ≤ _; decide) | (show ∀ i, i < 2 → _; decide) | (show (3 : Nat) ≤ _; decide) | (show ∀ i, i < 3 → _; decide) | (show (4 : Nat) ≤ _; decide) | (show ∀ i, i < 4 → _; decide) | (show (5 : Nat) ≤ _; decide) | (show ∀ i, i < 5 → _; decide) | (show (6 : Nat) ≤ _; decide) | (show ∀ i, i < 6 → _; decide) | (show (7 : Nat) ≤ _; decide) | (show ∀ i, i < 7 → _; decide)) ⟨rfl, trivial⟩ ⟨rfl, rfl, rfl, trivial⟩ rfl) ?_
  rintro m tm H ⟨j, w, hj, hw, rfl, rfl⟩
  conv => whnf
  intro hlen
  replace hlen : (dcs S).length * 72 ≤ 140737488355328 := hlen
  conv => whnf
  repeat (first | (refine And.intro rfl ?_; conv => whnf) | (refine And.intro (by decide) ?_; conv => whnf) | (refine draw_intro true (by kernel_rfl) ?_; conv => whnf) | (refine And.intro ⟨by omega, by omega⟩ ?_; conv => whnf) | (refine And.intro (by omega) ?_; conv => whnf) | (refine And.intro (fun _ => ⟨by omega, by omega⟩) ?_; conv => whnf) | (refine And.intro (of_decide_eq_true rfl) ?_; conv => whnf) | (refine And.intro (fun _ => ?_) (fun h => absurd h ?_); rotate_left; (focus (first | decide | (simp; done) | (simp [tcs]; done))); conv => whnf) | (refine And.intro (fun h => absurd h ?_) (fun _ => ?_); (focus (first | decide | (simp; done) | (simp [tcs]; done))); conv => whnf) | (intro _; conv => whnf))
  refine ⟨fun hcc => ?_, fun hcc => ?_⟩
  · rw [Bool.and_eq_true] at hcc
    have hc1 : (j : Int) < (dcs S).length := of_decide_eq_true hcc.1
    have hc2 : w ≤ 3000 := of_decide_eq_true hcc.2
    obtain ⟨d, hd⟩ : ∃ d, S[j]? = some d := ⟨S[j]'(by omega), List.getElem?_eq_getElem (by omega)⟩
    have hdc := dcs_at hd
    have hi := cWeigh d.c 0 (by decide)
    obtain ⟨s', ⟨k', l', n', us'⟩, i'⟩ := d
    dsimp only at hi
    rw [tv_mk] at hi
    conv => whnf
    refine ⟨⟨by omega, by omega⟩, ?_⟩
    conv => whnf
    repeat (first | (refine And.intro rfl ?_; conv => whnf) | (refine And.intro (by decide) ?_; conv => whnf) | (refine draw_intro true (by kernel_rfl) ?_; conv => whnf) | (refine And.intro ⟨by omega, by omega⟩ ?_; conv => whnf) | (refine And.intro (by omega) ?_; conv => whnf) | (refine And.intro (fun _ => ⟨by omega, by omega⟩) ?_; conv => whnf) | (refine And.intro (of_decide_eq_true rfl) ?_; conv => whnf) | (refine And.intro (fun _ => ?_) (fun h => absurd h ?_); rotate_left; (focus (first | decide | (simp; done) | (simp [tcs]; done))); conv => whnf) | (refine And.intro (fun h => absurd h ?_) (fun _ => ?_); (focus (first | decide | (simp; done) | (simp [tcs]; done))); conv => whnf) | (intro _; conv => whnf))
    refine ⟨_, ⟨by omega, hdc⟩, ?_⟩
    conv => whnf
    refine ⟨show 4 ≤ 5 by decide, ?_⟩
    conv => whnf
    try (refine draw_intro true (by kernel_rfl) ?_; conv => whnf)
    first | refine CallSt.use hi [] trivial (by decide) rfl ?_ | refine CallPt.useS hi [] trivial (by decide) rfl ?_
    rintro _ _ ⟨v, rfl, hv, rfl⟩ _
    conv => whnf
    refine ⟨⟨by omega, by omega⟩, ?_⟩
    conv => whnf
    repeat (first | (refine And.intro rfl ?_; conv => whnf) | (refine And.intro (by decide) ?_; conv => whnf) | (refine draw_intro true (by kernel_rfl) ?_; conv => whnf) | (refine And.intro ⟨by omega, by omega⟩ ?_; conv => whnf) | (refine And.intro (by omega) ?_; conv => whnf) | (refine And.intro (fun _ => ⟨by omega, by omega⟩) ?_; conv => whnf) | (refine And.intro (of_decide_eq_true rfl) ?_; conv => whnf) | (refine And.intro (fun _ => ?_) (fun h => absurd h ?_); rotate_left; (focus (first | decide | (simp; done) | (simp [tcs]; done))); conv => whnf) | (refine And.intro (fun h => absurd h ?_) (fun _ => ?_); (focus (first | decide | (simp; done) | (simp [tcs]; done))); conv => whnf) | (intro _; conv => whnf))
    refine ⟨m - 1, _, _, by omega, ⟨j + 1, w + 1 + v, by omega, by omega, rfl, rfl⟩, Wk.sel [0] (by decide) (by first | decide | (show (0 : Nat) ≤ _; decide) | (show ∀ i, i < 0 → _; decide) | (show (1 : Nat) ≤ _; decide) | (show ∀ i, i < 1 → _; decide) | (show (2 : Nat) ≤ _; decide) | (show ∀ i, i < 2 → _; decide) | (show (3 : Nat) ≤ _; decide) | (show ∀ i, i < 3 → _; decide) | (show (4 : Nat) ≤ _; decide) | (show ∀ i, i < 4 → _; decide) | (show (5 : Nat) ≤ _; decide) | (show ∀ i, i < 5 → _; decide) | (show (6 : Nat) ≤ _; decide) | (show ∀ i, i < 6 → _; decide) | (show (7 : Nat) ≤ _; decide) | (show ∀ i, i < 7 → _; decide)) (by first | decide | (show (0 : Nat) ≤ _; decide) | (show ∀ i, i < 0 → _; decide) | (show (1 : Nat) ≤ _; decide) | (show ∀ i, i < 1 → _; decide) | (show (2 : Nat) ≤ _; decide) | (show ∀ i, i < 2 → _; decide) | (show (3 : Nat) ≤ _; decide) | (show ∀ i, i < 3 → _; decide) | (show (4 : Nat) ≤ _; decide) | (show ∀ i, i < 4 → _; decide) | (show (5 : Nat) ≤ _; decide) | (show ∀ i, i < 5 → _; decide) | (show (6 : Nat) ≤ _; decide) | (show ∀ i, i < 6 → _; decide) | (show (7 : Nat) ≤ _; decide) | (show ∀ i, i < 7 → _; decide)) ⟨rfl, trivial⟩ ⟨rfl, rfl, rfl, trivial⟩ rfl⟩
  · conv => whnf
    repeat (first | (refine And.intro rfl ?_; conv => whnf) | (refine And.intro (by decide) ?_; conv => whnf) | (refine draw_intro true (by kernel_rfl) ?_; conv => whnf) | (refine And.intro ⟨by omega, by omega⟩ ?_; conv => whnf) | (refine And.intro (by omega) ?_; conv => whnf) | (refine And.intro (fun _ => ⟨by omega, by omega⟩) ?_; conv => whnf) | (refine And.intro (of_decide_eq_true rfl) ?_; conv => whnf) | (refine And.intro (fun _ => ?_) (fun h => absurd h ?_); rotate_left; (focus (first | decide | (simp; done) | (simp [tcs]; done))); conv => whnf) | (refine And.intro (fun h => absurd h ?_) (fun _ => ?_); (focus (first | decide | (simp; done) | (simp [tcs]; done))); conv => whnf) | (intro _; conv => whnf))
    refine loop_intro (fun m tm H => ∃ (j : Nat) (w : Int), X.length = m + j ∧ (0 ≤ w ∧ w ≤ 614000) ∧ tm = [(5, .c (.int .i64 (j))), (3, .c (.int .i64 (w))), (1, .ptr 0 0)] ∧ H = [.box [.c (.sl 6 72 (dcs S)), .c (.sl 4 48 (tcs X)), .c (.int .i64 (k)), .c (.int .i64 (l)), .c (.int .i64 (n)), .c (.sl 4 48 (tcs ts)), .c (.int .i64 (k2)), .c (.int .i64 (l2)), .c (.int .i64 (n2)), .c (.sl 4 48 (tcs us))]])
      X.length _ _ ⟨0, w, by omega, by omega, rfl, rfl⟩ (Wk.sel [0] (by decide) (by first | decide | (show (0 : Nat) ≤ _; decide) | (show ∀ i, i < 0 → _; decide) | (show (1 : Nat) ≤ _; decide) | (show ∀ i, i < 1 → _; decide) | (show (2 : Nat) ≤ _; decide) | (show ∀ i, i < 2 → _; decide) | (show (3 : Nat) ≤ _; decide) | (show ∀ i, i < 3 → _; decide) | (show (4 : Nat) ≤ _; decide) | (show ∀ i, i < 4 → _; decide) | (show (5 : Nat) ≤ _; decide) | (show ∀ i, i < 5 → _; decide) | (show (6 : Nat) ≤ _; decide) | (show ∀ i, i < 6 → _; decide) | (show (7 : Nat) ≤ _; decide) | (show ∀ i, i < 7 → _; decide)) (by first | decide | (show (0 : Nat) ≤ _; decide) | (show ∀ i, i < 0 → _; decide) | (show (1 : Nat) ≤ _; decide) | (show ∀ i, i < 1 → _; decide) | (show (2 : Nat) ≤ _; decide) | (show ∀ i, i < 2 → _; decide) | (show (3 : Nat) ≤ _; decide) | (show ∀ i, i < 3 → _; decide) | (show (4 : Nat) ≤ _; decide) | (show ∀ i, i < 4 → _; decide) | (show (5 : Nat) ≤ _; decide) | (show ∀ i, i < 5 → _; decide) | (show (6 : Nat) ≤ _; decide) | (show ∀ i, i < 6 → _; decide) | (show (7 : Nat) ≤ _; decide) | (show ∀ i, i < 7 → _; decide)) ⟨rfl, trivial⟩ ⟨rfl, rfl, rfl, trivial⟩ rfl) ?_
    rintro m tm H ⟨j, w, hj, hw, rfl, rfl⟩
    conv => whnf
    intro hlen
    replace hlen : (tcs X).length * 48 ≤ 140737488355328 := hlen
    conv => whnf
    repeat (first | (refine And.intro rfl ?_; conv => whnf) | (refine And.intro (by decide) ?_; conv => whnf) | (refine draw_intro true (by kernel_rfl) ?_; conv => whnf) | (refine And.intro ⟨by omega, by omega⟩ ?_; conv => whnf) | (refine And.intro (by omega) ?_; conv => whnf) | (refine And.intro (fun _ => ⟨by omega, by omega⟩) ?_; conv => whnf) | (refine And.intro (of_decide_eq_true rfl) ?_; conv => whnf) | (refine And.intro (fun _ => ?_) (fun h => absurd h ?_); rotate_left; (focus (first | decide | (simp; done) | (simp [tcs]; done))); conv => whnf) | (refine And.intro (fun h => absurd h ?_) (fun _ => ?_); (focus (first | decide | (simp; done) | (simp [tcs]; done))); conv => whnf) | (intro _; conv => whnf))
    refine ⟨fun hcc => ?_, fun hcc => ?_⟩
    · rw [Bool.and_eq_true] at hcc
      have hc1 : (j : Int) < (tcs X).length := of_decide_eq_true hcc.1
      have hc2 : w ≤ 3000 := of_decide_eq_true hcc.2
      obtain ⟨u, hu⟩ : ∃ u, X[j]? = some u := ⟨X[j]'(by omega), List.getElem?_eq_getElem (by omega)⟩
      have huc := tcs_at X j u hu
      have hi := cWeigh u 0 (by decide)
      obtain ⟨k', l', n', us'⟩ := u
      rw [tv_mk] at hi
      conv => whnf
      refine ⟨⟨by omega, by omega⟩, ?_⟩
      conv => whnf
      repeat (first | (refine And.intro rfl ?_; conv => whnf) | (refine And.intro (by decide) ?_; conv => whnf) | (refine draw_intro true (by kernel_rfl) ?_; conv => whnf) | (refine And.intro ⟨by omega, by omega⟩ ?_; conv => whnf) | (refine And.intro (by omega) ?_; conv => whnf) | (refine And.intro (fun _ => ⟨by omega, by omega⟩) ?_; conv => whnf) | (refine And.intro (of_decide_eq_true rfl) ?_; conv => whnf) | (refine And.intro (fun _ => ?_) (fun h => absurd h ?_); rotate_left; (focus (first | decide | (simp; done) | (simp [tcs]; done))); conv => whnf) | (refine And.intro (fun h => absurd h ?_) (fun _ => ?_); (focus (first | decide | (simp; done) | (simp [tcs]; done))); conv => whnf) | (intro _; conv => whnf))
      refine ⟨_, ⟨by omega, by simpa using huc⟩, ?_⟩
      conv => whnf
      refine ⟨Nat.le_refl 4, ?_⟩
      conv => whnf
      repeat (first | (refine And.intro rfl ?_; conv => whnf) | (refine And.intro (by decide) ?_; conv => whnf) | (refine draw_intro true (by kernel_rfl) ?_; conv => whnf) | (refine And.intro ⟨by omega, by omega⟩ ?_; conv => whnf) | (refine And.intro (by omega) ?_; conv => whnf) | (refine And.intro (fun _ => ⟨by omega, by omega⟩) ?_; conv => whnf) | (refine And.intro (of_decide_eq_true rfl) ?_; conv => whnf) | (refine And.intro (fun _ => ?_) (fun h => absurd h ?_); rotate_left; (focus (first | decide | (simp; done) | (simp [tcs]; done))); conv => whnf) | (refine And.intro (fun h => absurd h ?_) (fun _ => ?_); (focus (first | decide | (simp; done) | (simp [tcs]; done))); conv => whnf) | (intro _; conv => whnf))
      try (refine draw_intro true (by kernel_rfl) ?_; conv => whnf)
      first | refine CallSt.use hi [] trivial (by decide) rfl ?_ | refine CallPt.useS hi [] trivial (by decide) rfl ?_
      rintro _ _ ⟨v, rfl, hv, rfl⟩ _
      conv => whnf
      refine ⟨⟨by omega, by omega⟩, ?_⟩
      conv => whnf
      repeat (first | (refine And.intro rfl ?_; conv => whnf) | (refine And.intro (by decide) ?_; conv => whnf) | (refine draw_intro true (by kernel_rfl) ?_; conv => whnf) | (refine And.intro ⟨by omega, by omega⟩ ?_; conv => whnf) | (refine And.intro (by omega) ?_; conv => whnf) | (refine And.intro (fun _ => ⟨by omega, by omega⟩) ?_; conv => whnf) | (refine And.intro (of_decide_eq_true rfl) ?_; conv => whnf) | (refine And.intro (fun _ => ?_) (fun h => absurd h ?_); rotate_left; (focus (first | decide | (simp; done) | (simp [tcs]; done))); conv => whnf) | (refine And.intro (fun h => absurd h ?_) (fun _ => ?_); (focus (first | decide | (simp; done) | (simp [tcs]; done))); conv => whnf) | (intro _; conv => whnf))
      refine ⟨m - 1, _, _, by omega, ⟨j + 1, w + 1 + v, by omega, by omega, rfl, rfl⟩, Wk.sel [0] (by decide) (by first | decide | (show (0 : Nat) ≤ _; decide) | (show ∀ i, i < 0 → _; decide) | (show (1 : Nat) ≤ _; decide) | (show ∀ i, i < 1 → _; decide) | (show (2 : Nat) ≤ _; decide) | (show ∀ i, i < 2 → _; decide) | (show (3 : Nat) ≤ _; decide) | (show ∀ i, i < 3 → _; decide) | (show (4 : Nat) ≤ _; decide) | (show ∀ i, i < 4 → _; decide) | (show (5 : Nat) ≤ _; decide) | (show ∀ i, i < 5 → _; decide) | (show (6 : Nat) ≤ _; decide) | (show ∀ i, i < 6 → _; decide) | (show (7 : Nat) ≤ _; decide) | (show ∀ i, i < 7 → _; decide)) (by first | decide | (show (0 : Nat) ≤ _; decide) | (show ∀ i, i < 0 → _; decide) | (show (1 : Nat) ≤ _; decide) | (show ∀ i, i < 1 → _; decide) | (show (2 : Nat) ≤ _; decide) | (show ∀ i, i < 2 → _; decide) | (show (3 : Nat) ≤ _; decide) | (show ∀ i, i < 3 → _; decide) | (show (4 : Nat) ≤ _; decide) | (show ∀ i, i < 4 → _; decide) | (show (5 : Nat) ≤ _; decide) | (show ∀ i, i < 5 → _; decide) | (show (6 : Nat) ≤ _; decide) | (show ∀ i, i < 6 → _; decide) | (show (7 : Nat) ≤ _; decide) | (show ∀ i, i < 7 → _; decide)) ⟨rfl, trivial⟩ ⟨rfl, rfl, rfl, trivial⟩ rfl⟩
    · conv => whnf
      repeat (first | (refine And.intro rfl ?_; conv => whnf) | (refine And.intro (by decide) ?_; conv => whnf) | (refine draw_intro true (by kernel_rfl) ?_; conv => whnf) | (refine And.intro ⟨by omega, by omega⟩ ?_; conv => whnf) | (refine And.intro (by omega) ?_; conv => whnf) | (refine And.intro (fun _ => ⟨by omega, by omega⟩) ?_; conv => whnf) | (refine And.intro (of_decide_eq_true rfl) ?_; conv => whnf) | (refine And.intro (fun _ => ?_) (fun h => absurd h ?_); rotate_left; (focus (first | decide | (simp; done) | (simp [tcs]; done))); conv => whnf) | (refine And.intro (fun h => absurd h ?_) (fun _ => ?_); (focus (first | decide | (simp; done) | (simp [tcs]; done))); conv => whnf) | (intro _; conv => whnf))
      exact ⟨_, rfl, rfl⟩
end Go.Tr
/- cert: which terms are among the nodes. -/
namespace Go.Tr
open Go.Proofs
end Go.Tr
/- The law CertTwice. -/
namespace Go.Tr
open Go.Proofs
theorem tcs_snoc19 : ∀ (l : List Term) (t : Term), tcs (l ++ [t]) = tcs l ++ [tc t]
  | [], t => rfl
  | a :: l, t => by
    rw [List.cons_append, tcs, tcs, tcs_snoc19 l t]
    rfl
theorem szL_append : ∀ (a b : List Term), szL (a ++ b) = szL a + szL b
  | [], b => by simp [szL]
  | t :: a, b => by
    rw [List.cons_append, szL, szL, szL_append a b]
    omega
end Go.Tr
/- cert.copied. -/
namespace Go.Tr
open Go.Proofs
theorem tcs_take_snoc {ts : List Term} {j : Nat} {u : Term} (h : ts[j]? = some u) : tcs (ts.take (j + 1)) = tcs (ts.take j) ++ [tc u] := by
  rw [List.take_add_one, h]
  exact tcs_snoc19 _ _
theorem cCopied (t : Term) : szT t ≤ 1000000 → CallSt Tryz.prog 26 [tv t] [] (fun r H' => r = tv t ∧ H' = []) := by
  induction t using Term.ind with
  | _ t ih =>
  intro hsz
  obtain ⟨k, l, n, ts⟩ := t
  replace ih : ∀ u, u ∈ ts → _ := ih
  have hln := len_tcs ts
  rw [szT] at hsz
  have hsl := szL_len ts
  rw [tv_mk]
  refine call_pure (E := env 0) (fn := Tryz.f26) (c := bodyOf Tryz.f26) (env_ok 0) mixed (by kernel_rfl) (by kernel_rfl) (by kernel_rfl) (by kernel_rfl) (by kernel_rfl) (by kernel_rfl) rfl ?_
  conv => whnf
  repeat (first | (refine And.intro rfl ?_; conv => whnf) | (refine And.intro (by decide) ?_; conv => whnf) | (refine draw_intro true (by kernel_rfl) ?_; conv => whnf) | (refine And.intro ⟨by omega, by omega⟩ ?_; conv => whnf) | (refine And.intro (by omega) ?_; conv => whnf) | (refine And.intro (fun _ => ⟨by omega, by omega⟩) ?_; conv => whnf) | (refine And.intro (of_decide_eq_true rfl) ?_; conv => whnf) | (refine And.intro (fun _ => ?_) (fun h => absurd h ?_); rotate_left; (focus (first | decide | (simp; done) | (simp [tcs]; done))); conv => whnf) | (refine And.intro (fun h => absurd h ?_) (fun _ => ?_); (focus (first | decide | (simp; done) | (simp [tcs]; done))); conv => whnf) | (intro _; conv => whnf))
  refine loop_intro (fun m tm H => ∃ (j : Nat), ts.length = m + j ∧ tm = [(9, .c (.int .i64 (j))), (8, .c (.int .i64 ((tcs ts).length))), (7, .c (.sl 4 48 (tcs ts))), (3, .own 2), (1, .ptr 0 0), (2, .ptr 1 0)] ∧
      H = [.box [.c (.int .i64 (k)), .c (.int .i64 (l)), .c (.int .i64 (n)), .c (.sl 4 48 (tcs ts))], .box [.c (.int .i64 (0)), .c (.int .i64 (0)), .c (.int .i64 (0)), .nil], .row 25 4 48 (tcs (ts.take j))])
    ts.length _ _ ⟨0, by omega, rfl, rfl⟩ ?_ ?_
  · refine Wk.trans (Wk.niltmp 3 25 4 48 rfl rfl) ?_
    exact Wk.sel [0, 1, 2] (by decide) (by first | decide | (show (0 : Nat) ≤ _; decide) | (show ∀ i, i < 0 → _; decide) | (show (1 : Nat) ≤ _; decide) | (show ∀ i, i < 1 → _; decide) | (show (2 : Nat) ≤ _; decide) | (show ∀ i, i < 2 → _; decide) | (show (3 : Nat) ≤ _; decide) | (show ∀ i, i < 3 → _; decide) | (show (4 : Nat) ≤ _; decide) | (show ∀ i, i < 4 → _; decide) | (show (5 : Nat) ≤ _; decide) | (show ∀ i, i < 5 → _; decide) | (show (6 : Nat) ≤ _; decide) | (show ∀ i, i < 6 → _; decide) | (show (7 : Nat) ≤ _; decide) | (show ∀ i, i < 7 → _; decide)) (by first | decide | (show (0 : Nat) ≤ _; decide) | (show ∀ i, i < 0 → _; decide) | (show (1 : Nat) ≤ _; decide) | (show ∀ i, i < 1 → _; decide) | (show (2 : Nat) ≤ _; decide) | (show ∀ i, i < 2 → _; decide) | (show (3 : Nat) ≤ _; decide) | (show ∀ i, i < 3 → _; decide) | (show (4 : Nat) ≤ _; decide) | (show ∀ i, i < 4 → _; decide) | (show (5 : Nat) ≤ _; decide) | (show ∀ i, i < 5 → _; decide) | (show (6 : Nat) ≤ _; decide) | (show ∀ i, i < 6 → _; decide) | (show (7 : Nat) ≤ _; decide) | (show ∀ i, i < 7 → _; decide)) ⟨rfl, rfl, rfl, trivial⟩ ⟨rfl, rfl, rfl, rfl, rfl, rfl, trivial⟩ rfl
  rintro m tm H ⟨j, hj, rfl, rfl⟩
  have hlt : (tcs (ts.take j)).length = j := by rw [len_tcs, List.length_take]; omega
  have hb1 : ((tcs (ts.take j)).length + 1) * 48 ≤ 140737488355328 := by omega
  have hb2 : (tcs (ts.take j)).length + 1 ≤ 9223372036854775807 := by omega
  conv => whnf
  refine ⟨fun hc => ?_, fun hc => ?_⟩
  · replace hc : (j : Int) < (tcs ts).length := of_decide_eq_true hc
    obtain ⟨u, hu⟩ : ∃ u, ts[j]? = some u := ⟨ts[j]'(by omega), List.getElem?_eq_getElem (by omega)⟩
    have huc := tcs_at ts j u hu
    have hi := ih u (List.mem_of_getElem? hu) (by have := szL_mem' ts u (List.mem_of_getElem? hu); omega)
    have hst := tcs_take_snoc hu
    obtain ⟨k', l', n', us⟩ := u
    rw [tv_mk] at hi
    conv => whnf
    refine ⟨_, ⟨by omega, by simpa using huc⟩, ?_⟩
    conv => whnf
    refine ⟨Nat.le_refl 4, ?_⟩
    conv => whnf
    repeat (first | (refine And.intro rfl ?_; conv => whnf) | (refine And.intro (by decide) ?_; conv => whnf) | (refine draw_intro true (by kernel_rfl) ?_; conv => whnf) | (refine And.intro ⟨by omega, by omega⟩ ?_; conv => whnf) | (refine And.intro (by omega) ?_; conv => whnf) | (refine And.intro (fun _ => ⟨by omega, by omega⟩) ?_; conv => whnf) | (refine And.intro (of_decide_eq_true rfl) ?_; conv => whnf) | (refine And.intro (fun _ => ?_) (fun h => absurd h ?_); rotate_left; (focus (first | decide | (simp; done) | (simp [tcs]; done))); conv => whnf) | (refine And.intro (fun h => absurd h ?_) (fun _ => ?_); (focus (first | decide | (simp; done) | (simp [tcs]; done))); conv => whnf) | (intro _; conv => whnf))
    try (refine draw_intro true (by kernel_rfl) ?_; conv => whnf)
    first | refine CallSt.use hi [] trivial (by decide) rfl ?_ | refine CallPt.useS hi [] trivial (by decide) rfl ?_
    rintro _ _ ⟨rfl, rfl⟩ _
    conv => whnf
    repeat (first | (refine And.intro rfl ?_; conv => whnf) | (refine And.intro (by decide) ?_; conv => whnf) | (refine draw_intro true (by kernel_rfl) ?_; conv => whnf) | (refine And.intro ⟨by omega, by omega⟩ ?_; conv => whnf) | (refine And.intro (by omega) ?_; conv => whnf) | (refine And.intro (fun _ => ⟨by omega, by omega⟩) ?_; conv => whnf) | (refine And.intro (of_decide_eq_true rfl) ?_; conv => whnf) | (refine And.intro (fun _ => ?_) (fun h => absurd h ?_); rotate_left; (focus (first | decide | (simp; done) | (simp [tcs]; done))); conv => whnf) | (refine And.intro (fun h => absurd h ?_) (fun _ => ?_); (focus (first | decide | (simp; done) | (simp [tcs]; done))); conv => whnf) | (intro _; conv => whnf))
    refine ⟨m - 1, _, _, by omega, ⟨j + 1, by omega, rfl, rfl⟩, Wk.sel [0, 1, 5] (by decide) (by decide) (by decide) ⟨rfl, rfl, ?_, trivial⟩ ⟨rfl, rfl, rfl, rfl, rfl, rfl, trivial⟩ rfl⟩
    rw [hst]
    rfl
  · replace hc : ¬ (j : Int) < (tcs ts).length := of_decide_eq_false hc
    obtain rfl : j = ts.length := by omega
    rw [List.take_length]
    conv => whnf
    repeat (first | (refine And.intro rfl ?_; conv => whnf) | (refine And.intro (by decide) ?_; conv => whnf) | (refine draw_intro true (by kernel_rfl) ?_; conv => whnf) | (refine And.intro ⟨by omega, by omega⟩ ?_; conv => whnf) | (refine And.intro (by omega) ?_; conv => whnf) | (refine And.intro (fun _ => ⟨by omega, by omega⟩) ?_; conv => whnf) | (refine And.intro (of_decide_eq_true rfl) ?_; conv => whnf) | (refine And.intro (fun _ => ?_) (fun h => absurd h ?_); rotate_left; (focus (first | decide | (simp; done) | (simp [tcs]; done))); conv => whnf) | (refine And.intro (fun h => absurd h ?_) (fun _ => ?_); (focus (first | decide | (simp; done) | (simp [tcs]; done))); conv => whnf) | (intro _; conv => whnf))
    all_goals (first | rfl | exact ⟨rfl, rfl⟩ | exact ⟨rfl, rfl, rfl⟩)
end Go.Tr
/- cert.Nodes. -/
namespace Go.Tr
open Go.Proofs
def nodesV (c : Crt) : AV := match builtB c with
  | true => .tup [.c (.sl 4 48 (tcs (nodesOf c))), .c (.int .i64 (0))]
  | false => .tup [.c (.sl 4 48 []), .c (.int .i64 (2))]
theorem nodes_sz {c : Crt} (h : builtB c = true) : (nodesOf c).length ≤ 121200 ∧ ∀ t ∈ nodesOf c, szT t ≤ 600 := by
  have hs := (built_ok h).sane
  obtain ⟨_, _, g3⟩ := bk_good hs (crl c).length
  rw [List.take_length] at g3
  have hsa := szL_all (crl c) fun u hu => (hs.t u hu).2
  have := crl_len c
  have := hs.S
  have := hs.X
  exact ⟨by unfold nodesOf; omega, bk_sz hs _⟩
theorem cNodes (c : Crt) : CallSt Tryz.prog 8 [crv c] [] (fun r H' => r = nodesV c ∧ H' = []) := by
  have hb := cBuilt c
  unfold nodesV
  cases hbc : builtB c with
  | false =>
    rw [hbc] at hb
    obtain ⟨S, X, ⟨k, l, n, ts⟩, ⟨k2, l2, n2, us⟩⟩ := c
    unfold crv at *
    dsimp only [Term.k, Term.l, Term.n, Term.ts] at *
    refine call_pure (E := env 0) (fn := Tryz.f8) (c := bodyOf Tryz.f8) (env_ok 0) mixed (by kernel_rfl) (by kernel_rfl) (by kernel_rfl) (by kernel_rfl) (by kernel_rfl) (by kernel_rfl) rfl ?_
    conv => whnf
    try (refine draw_intro true (by kernel_rfl) ?_; conv => whnf)
    first | refine CallSt.use hb [] trivial (by decide) rfl ?_ | refine CallPt.useS hb [] trivial (by decide) rfl ?_
    rintro _ _ ⟨rfl, rfl⟩ _
    conv => whnf
    repeat (first | (refine And.intro rfl ?_; conv => whnf) | (refine And.intro (by decide) ?_; conv => whnf) | (refine draw_intro true (by kernel_rfl) ?_; conv => whnf) | (refine And.intro ⟨by omega, by omega⟩ ?_; conv => whnf) | (refine And.intro (by omega) ?_; conv => whnf) | (refine And.intro (fun _ => ⟨by omega, by omega⟩) ?_; conv => whnf) | (refine And.intro (of_decide_eq_true rfl) ?_; conv => whnf) | (refine And.intro (fun _ => ?_) (fun h => absurd h ?_); rotate_left; (focus (first | decide | (simp; done) | (simp [tcs]; done))); conv => whnf) | (refine And.intro (fun h => absurd h ?_) (fun _ => ?_); (focus (first | decide | (simp; done) | (simp [tcs]; done))); conv => whnf) | (intro _; conv => whnf))
    all_goals (first | rfl | exact ⟨rfl, rfl⟩ | exact ⟨rfl, rfl, rfl⟩)
  | true =>
    rw [hbc] at hb
    have hn := cNewNodes c (built_ok hbc).sane
    obtain ⟨hB, hsz⟩ := nodes_sz hbc
    have e : nodesOf c = bk c (crl c).length := rfl
    rw [e] at hB hsz ⊢
    clear e hbc
    have hl := nds_len (bk c (crl c).length)
    have hlt := len_tcs (bk c (crl c).length)
    generalize bk _ _ = B at *
    generalize rt _ _ = R at *
    generalize crl c = q at *
    obtain ⟨S, X, ⟨k, l, n, ts⟩, ⟨k2, l2, n2, us⟩⟩ := c
    unfold crv at *
    dsimp only [Term.k, Term.l, Term.n, Term.ts] at *
    refine call_pure (E := env 0) (fn := Tryz.f8) (c := bodyOf Tryz.f8) (env_ok 0) mixed (by kernel_rfl) (by kernel_rfl) (by kernel_rfl) (by kernel_rfl) (by kernel_rfl) (by kernel_rfl) rfl ?_
    conv => whnf
    try (refine draw_intro true (by kernel_rfl) ?_; conv => whnf)
    first | refine CallSt.use hb [] trivial (by decide) rfl ?_ | refine CallPt.useS hb [] trivial (by decide) rfl ?_
    rintro _ _ ⟨rfl, rfl⟩ _
    conv => whnf
    repeat (first | (refine And.intro rfl ?_; conv => whnf) | (refine And.intro (by decide) ?_; conv => whnf) | (refine draw_intro true (by kernel_rfl) ?_; conv => whnf) | (refine And.intro ⟨by omega, by omega⟩ ?_; conv => whnf) | (refine And.intro (by omega) ?_; conv => whnf) | (refine And.intro (fun _ => ⟨by omega, by omega⟩) ?_; conv => whnf) | (refine And.intro (of_decide_eq_true rfl) ?_; conv => whnf) | (refine And.intro (fun _ => ?_) (fun h => absurd h ?_); rotate_left; (focus (first | decide | (simp; done) | (simp [tcs]; done))); conv => whnf) | (refine And.intro (fun h => absurd h ?_) (fun _ => ?_); (focus (first | decide | (simp; done) | (simp [tcs]; done))); conv => whnf) | (intro _; conv => whnf))
    try (refine draw_intro true (by kernel_rfl) ?_; conv => whnf)
    first | refine CallSt.use hn [] trivial (by decide) rfl ?_ | refine CallPt.useS hn [] trivial (by decide) rfl ?_
    rintro _ _ ⟨rfl, rfl⟩ _
    conv => whnf
    repeat (first | (refine And.intro rfl ?_; conv => whnf) | (refine And.intro (by decide) ?_; conv => whnf) | (refine draw_intro true (by kernel_rfl) ?_; conv => whnf) | (refine And.intro ⟨by omega, by omega⟩ ?_; conv => whnf) | (refine And.intro (by omega) ?_; conv => whnf) | (refine And.intro (fun _ => ⟨by omega, by omega⟩) ?_; conv => whnf) | (refine And.intro (of_decide_eq_true rfl) ?_; conv => whnf) | (refine And.intro (fun _ => ?_) (fun h => absurd h ?_); rotate_left; (focus (first | decide | (simp; done) | (simp [tcs]; done))); conv => whnf) | (refine And.intro (fun h => absurd h ?_) (fun _ => ?_); (focus (first | decide | (simp; done) | (simp [tcs]; done))); conv => whnf) | (intro _; conv => whnf))
    refine loop_intro (fun m tm H => ∃ (j : Nat), B.length = m + j ∧ tm = [(22, .c (.int .i64 (j))), (21, .c (.int .i64 ((nds B).length))), (20, .own 0), (6, .own 1)] ∧
        H = [.row 62 5 72 (nds B), .row 25 4 48 (tcs (B.take j))])
      B.length _ _ ⟨0, by omega, rfl, rfl⟩ ?_ ?_
    · refine Wk.trans (Wk.niltmp 6 25 4 48 rfl rfl) ?_
      exact Wk.sel [2, 5] (by decide) (by first | decide | (show (0 : Nat) ≤ _; decide) | (show ∀ i, i < 0 → _; decide) | (show (1 : Nat) ≤ _; decide) | (show ∀ i, i < 1 → _; decide) | (show (2 : Nat) ≤ _; decide) | (show ∀ i, i < 2 → _; decide) | (show (3 : Nat) ≤ _; decide) | (show ∀ i, i < 3 → _; decide) | (show (4 : Nat) ≤ _; decide) | (show ∀ i, i < 4 → _; decide) | (show (5 : Nat) ≤ _; decide) | (show ∀ i, i < 5 → _; decide) | (show (6 : Nat) ≤ _; decide) | (show ∀ i, i < 6 → _; decide) | (show (7 : Nat) ≤ _; decide) | (show ∀ i, i < 7 → _; decide)) (by first | decide | (show (0 : Nat) ≤ _; decide) | (show ∀ i, i < 0 → _; decide) | (show (1 : Nat) ≤ _; decide) | (show ∀ i, i < 1 → _; decide) | (show (2 : Nat) ≤ _; decide) | (show ∀ i, i < 2 → _; decide) | (show (3 : Nat) ≤ _; decide) | (show ∀ i, i < 3 → _; decide) | (show (4 : Nat) ≤ _; decide) | (show ∀ i, i < 4 → _; decide) | (show (5 : Nat) ≤ _; decide) | (show ∀ i, i < 5 → _; decide) | (show (6 : Nat) ≤ _; decide) | (show ∀ i, i < 6 → _; decide) | (show (7 : Nat) ≤ _; decide) | (show ∀ i, i < 7 → _; decide)) ⟨rfl, rfl, trivial⟩ ⟨rfl, rfl, rfl, rfl, trivial⟩ rfl
    rintro m tm H ⟨j, hj, rfl, rfl⟩
    have hlj : (tcs (B.take j)).length = j := by rw [len_tcs, List.length_take]; omega
    have hb1 : ((tcs (B.take j)).length + 1) * 48 ≤ 140737488355328 := by omega
    have hb2 : (tcs (B.take j)).length + 1 ≤ 9223372036854775807 := by omega
    conv => whnf
    refine ⟨fun hc => ?_, fun hc => ?_⟩
    · replace hc : (j : Int) < (nds B).length := of_decide_eq_true hc
      obtain ⟨t, ht⟩ : ∃ t, B[j]? = some t := ⟨B[j]'(by omega), List.getElem?_eq_getElem (by omega)⟩
      have htm := List.mem_of_getElem? ht
      have hst := tcs_take_snoc ht
      have hnc : (nds B)[j]? = some [.int .i64 t.k, .int .i64 t.l, .int .i64 t.n, .sl 4 48 (tcs t.ts), .sl 1 8 (rowN (kd B t))] := by simp [nds, ht, ndc]
      have hcp := cCopied t (by have := hsz t htm; omega)
      generalize kd B t = K at *
      obtain ⟨k', l', n', us⟩ := t
      rw [tv_mk] at hcp
      simp only [Term.k, Term.l, Term.n, Term.ts] at hnc
      conv => whnf
      refine ⟨⟨by omega, by omega⟩, ?_⟩
      conv => whnf
      refine ⟨[.int .i64 k', .int .i64 l', .int .i64 n', .sl 4 48 (tcs us), .sl 1 8 (rowN K)], by rw [Int.toNat_natCast]; exact hnc, show 0 + 5 ≤ 5 by decide, ?_⟩
      conv => whnf
      repeat (first | (refine And.intro rfl ?_; conv => whnf) | (refine And.intro (by decide) ?_; conv => whnf) | (refine draw_intro true (by kernel_rfl) ?_; conv => whnf) | (refine And.intro ⟨by omega, by omega⟩ ?_; conv => whnf) | (refine And.intro (by omega) ?_; conv => whnf) | (refine And.intro (fun _ => ⟨by omega, by omega⟩) ?_; conv => whnf) | (refine And.intro (of_decide_eq_true rfl) ?_; conv => whnf) | (refine And.intro (fun _ => ?_) (fun h => absurd h ?_); rotate_left; (focus (first | decide | (simp; done) | (simp [tcs]; done))); conv => whnf) | (refine And.intro (fun h => absurd h ?_) (fun _ => ?_); (focus (first | decide | (simp; done) | (simp [tcs]; done))); conv => whnf) | (intro _; conv => whnf))
      try (refine draw_intro true (by kernel_rfl) ?_; conv => whnf)
      first | refine CallSt.use hcp [] trivial (by decide) rfl ?_ | refine CallPt.useS hcp [] trivial (by decide) rfl ?_
      rintro _ _ ⟨rfl, rfl⟩ _
      conv => whnf
      repeat (first | (refine And.intro rfl ?_; conv => whnf) | (refine And.intro (by decide) ?_; conv => whnf) | (refine draw_intro true (by kernel_rfl) ?_; conv => whnf) | (refine And.intro ⟨by omega, by omega⟩ ?_; conv => whnf) | (refine And.intro (by omega) ?_; conv => whnf) | (refine And.intro (fun _ => ⟨by omega, by omega⟩) ?_; conv => whnf) | (refine And.intro (of_decide_eq_true rfl) ?_; conv => whnf) | (refine And.intro (fun _ => ?_) (fun h => absurd h ?_); rotate_left; (focus (first | decide | (simp; done) | (simp [tcs]; done))); conv => whnf) | (refine And.intro (fun h => absurd h ?_) (fun _ => ?_); (focus (first | decide | (simp; done) | (simp [tcs]; done))); conv => whnf) | (intro _; conv => whnf))
      refine ⟨m - 1, _, _, by omega, ⟨j + 1, by omega, rfl, rfl⟩, Wk.sel [0, 4] (by decide) (by decide) (by decide) ⟨rfl, ?_, trivial⟩ ⟨rfl, rfl, rfl, rfl, trivial⟩ rfl⟩
      rw [hst]
      rfl
    · replace hc : ¬ (j : Int) < (nds B).length := of_decide_eq_false hc
      obtain rfl : j = B.length := by omega
      rw [List.take_length]
      conv => whnf
      repeat (first | (refine And.intro rfl ?_; conv => whnf) | (refine And.intro (by decide) ?_; conv => whnf) | (refine draw_intro true (by kernel_rfl) ?_; conv => whnf) | (refine And.intro ⟨by omega, by omega⟩ ?_; conv => whnf) | (refine And.intro (by omega) ?_; conv => whnf) | (refine And.intro (fun _ => ⟨by omega, by omega⟩) ?_; conv => whnf) | (refine And.intro (of_decide_eq_true rfl) ?_; conv => whnf) | (refine And.intro (fun _ => ?_) (fun h => absurd h ?_); rotate_left; (focus (first | decide | (simp; done) | (simp [tcs]; done))); conv => whnf) | (refine And.intro (fun h => absurd h ?_) (fun _ => ?_); (focus (first | decide | (simp; done) | (simp [tcs]; done))); conv => whnf) | (intro _; conv => whnf))
      all_goals (first | rfl | exact ⟨rfl, rfl⟩ | exact ⟨rfl, rfl, rfl⟩)
end Go.Tr
/- The law CertNodes. -/
namespace Go.Tr
open Go.Proofs
end Go.Tr
/- The law CertNodes. -/
namespace Go.Tr
open Go.Proofs
end Go.Tr
/- The reference of trusslaw19: number, nodes that are the same. -/
namespace Go.Tr
open Go.Proofs
theorem cRNum (l : List UInt8) (n : Nat) (hl : l.length + (digs n).length ≤ 1000000000) (hn : n ≤ 4611686018427387904) :
    CallSt Tryz.prog 35 [.own 0, .c (.int .i64 (n))] [.row 5 1 1 (bR l)] (fun r H' => r = .own 1 ∧ H' = [.dead, .row 5 1 1 (bR (l ++ digs n))]) := by
  refine call_wk (E := env 1) (fn := Tryz.f35) (c := bodyOf Tryz.f35) (env_ok 1) mixed (by kernel_rfl) (by kernel_rfl) (by kernel_rfl) (by kernel_rfl) (by kernel_rfl) (by kernel_rfl) rfl false ?_
  conv => whnf
  repeat (first | (refine And.intro rfl ?_; conv => whnf) | (refine And.intro (by decide) ?_; conv => whnf) | (refine draw_intro true (by kernel_rfl) ?_; conv => whnf) | (refine And.intro ⟨by omega, by omega⟩ ?_; conv => whnf) | (refine And.intro (by omega) ?_; conv => whnf) | (refine And.intro (fun _ => ⟨by omega, by omega⟩) ?_; conv => whnf) | (refine And.intro (of_decide_eq_true rfl) ?_; conv => whnf) | (refine And.intro (fun _ => ?_) (fun h => absurd h ?_); rotate_left; (focus (first | decide | (simp; done) | (simp [tcs]; done))); conv => whnf) | (refine And.intro (fun h => absurd h ?_) (fun _ => ?_); (focus (first | decide | (simp; done) | (simp [tcs]; done))); conv => whnf) | (intro _; conv => whnf))
  refine loop_intro (fun m tm H => ∃ (l' : List UInt8), m ≤ n ∧ l' ++ digs m = l ++ digs n ∧ tm = [(4, .nil), (1, .c (.int .i64 (m))), (0, .own 1)] ∧ H = [.dead, .row 5 1 1 (bR l')])
    n _ _ ⟨l, by omega, rfl, rfl, rfl⟩ ?_ ?_
  · refine Wk.trans (Wk.mvtmp 0 0 5 1 1 (bR l) rfl rfl rfl) ?_
    exact Wk.sel [0, 1] (by decide) (by first | decide | (show (0 : Nat) ≤ _; decide) | (show ∀ i, i < 0 → _; decide) | (show (1 : Nat) ≤ _; decide) | (show ∀ i, i < 1 → _; decide) | (show (2 : Nat) ≤ _; decide) | (show ∀ i, i < 2 → _; decide) | (show (3 : Nat) ≤ _; decide) | (show ∀ i, i < 3 → _; decide) | (show (4 : Nat) ≤ _; decide) | (show ∀ i, i < 4 → _; decide) | (show (5 : Nat) ≤ _; decide) | (show ∀ i, i < 5 → _; decide) | (show (6 : Nat) ≤ _; decide) | (show ∀ i, i < 6 → _; decide) | (show (7 : Nat) ≤ _; decide) | (show ∀ i, i < 7 → _; decide)) (by first | decide | (show (0 : Nat) ≤ _; decide) | (show ∀ i, i < 0 → _; decide) | (show (1 : Nat) ≤ _; decide) | (show ∀ i, i < 1 → _; decide) | (show (2 : Nat) ≤ _; decide) | (show ∀ i, i < 2 → _; decide) | (show (3 : Nat) ≤ _; decide) | (show ∀ i, i < 3 → _; decide) | (show (4 : Nat) ≤ _; decide) | (show ∀ i, i < 4 → _; decide) | (show (5 : Nat) ≤ _; decide) | (show ∀ i, i < 5 → _; decide) | (show (6 : Nat) ≤ _; decide) | (show ∀ i, i < 6 → _; decide) | (show (7 : Nat) ≤ _; decide) | (show ∀ i, i < 7 → _; decide)) ⟨rfl, rfl, trivial⟩ ⟨rfl, rfl, rfl, trivial⟩ rfl
  rintro k tm H ⟨l', hk, hd, rfl, rfl⟩
  have hpk := digs_pos k
  have hll : l'.length + (digs k).length ≤ 1000000000 := by rw [← List.length_append, hd, List.length_append]; exact hl
  have hbl := bR_len l'
  have hb1 : ((bR l').length + 1) * 1 ≤ 140737488355328 := by omega
  have hb2 : (bR l').length + 1 ≤ 9223372036854775807 := by omega
  conv => whnf
  refine ⟨fun hc => ?_, fun hc => ?_⟩
  · replace hc : (127 : Int) < k := of_decide_eq_true hc
    have h1 : (k : Int).tmod 128 = (k : Int) % 128 := Int.tmod_eq_emod_of_nonneg (by omega)
    have h2 : (k : Int).tdiv 128 = ((k / 128 : Nat) : Int) := by rw [Int.tdiv_eq_ediv_of_nonneg (by omega)]; omega
    rw [digs_big (by omega)] at hd
    conv => whnf
    refine ⟨show (128 : Int) ≠ 0 by decide, ?_⟩
    conv => whnf
    rw [h1]
    refine ⟨⟨by omega, by omega⟩, ?_⟩
    conv => whnf
    repeat (first | (refine And.intro rfl ?_; conv => whnf) | (refine And.intro (by decide) ?_; conv => whnf) | (refine draw_intro true (by kernel_rfl) ?_; conv => whnf) | (refine And.intro ⟨by omega, by omega⟩ ?_; conv => whnf) | (refine And.intro (by omega) ?_; conv => whnf) | (refine And.intro (fun _ => ⟨by omega, by omega⟩) ?_; conv => whnf) | (refine And.intro (of_decide_eq_true rfl) ?_; conv => whnf) | (refine And.intro (fun _ => ?_) (fun h => absurd h ?_); rotate_left; (focus (first | decide | (simp; done) | (simp [tcs]; done))); conv => whnf) | (refine And.intro (fun h => absurd h ?_) (fun _ => ?_); (focus (first | decide | (simp; done) | (simp [tcs]; done))); conv => whnf) | (intro _; conv => whnf))
    rw [h2]
    refine ⟨⟨by decide, by omega, by omega⟩, ?_⟩
    conv => whnf
    refine ⟨k / 128, _, _, by omega, ⟨l' ++ [u8 (128 + (k : Int) % 128)], by omega, by rw [← hd]; simp, rfl, rfl⟩, Wk.sel [0, 3] (by decide) (by decide) (by decide) ⟨rfl, ?_, trivial⟩ ⟨rfl, rfl, rfl, trivial⟩ rfl⟩
    rw [← bR_snoc]
    rfl
  · replace hc : ¬ (127 : Int) < k := of_decide_eq_false hc
    rw [digs_small (by omega)] at hd
    conv => whnf
    repeat (first | (refine And.intro rfl ?_; conv => whnf) | (refine And.intro (by decide) ?_; conv => whnf) | (refine draw_intro true (by kernel_rfl) ?_; conv => whnf) | (refine And.intro ⟨by omega, by omega⟩ ?_; conv => whnf) | (refine And.intro (by omega) ?_; conv => whnf) | (refine And.intro (fun _ => ⟨by omega, by omega⟩) ?_; conv => whnf) | (refine And.intro (of_decide_eq_true rfl) ?_; conv => whnf) | (refine And.intro (fun _ => ?_) (fun h => absurd h ?_); rotate_left; (focus (first | decide | (simp; done) | (simp [tcs]; done))); conv => whnf) | (refine And.intro (fun h => absurd h ?_) (fun _ => ?_); (focus (first | decide | (simp; done) | (simp [tcs]; done))); conv => whnf) | (intro _; conv => whnf))
    refine ⟨[(4, .own 1)], [.dead, .row 5 1 1 (bR (l ++ digs n))], Wk.sel [0, 3] (by decide) (by decide) (by decide) ⟨rfl, ?_, trivial⟩ ⟨rfl, trivial⟩ rfl, ?_⟩
    · rw [← hd, ← bR_snoc]
      rfl
    conv => whnf
    exact ⟨rfl, rfl⟩
theorem cRSameN (k l n k2 l2 n2 : Int) (L M : List Nat) : CallSt Tryz.prog 82 [.agg [.c (.int .i64 (k)), .c (.int .i64 (l)), .c (.int .i64 (n)), .c (.sl 1 8 (rowN L))], .agg [.c (.int .i64 (k2)), .c (.int .i64 (l2)), .c (.int .i64 (n2)), .c (.sl 1 8 (rowN M))]] []
    (fun r H' => r = .c (.bool (decide (k = k2 ∧ l = l2 ∧ n = n2 ∧ L = M))) ∧ H' = []) := by
  have hl1 := rowN_len L
  have hl2 := rowN_len M
  by_cases hh : k = k2 ∧ l = l2 ∧ n = n2 ∧ L.length = M.length
  · have e : (!decide (k = k2) || !decide (l = l2) || !decide (n = n2) || !decide (((rowN L).length : Int) = ((rowN M).length : Int))) = false := by
      rw [hl1, hl2, decide_eq_true hh.1, decide_eq_true hh.2.1, decide_eq_true hh.2.2.1, decide_eq_true (show (L.length : Int) = M.length by omega)]
      rfl
    have hlm := hh.2.2.2
    have eR : decide (k = k2 ∧ l = l2 ∧ n = n2 ∧ L = M) = decide (L = M) := by
      rw [decide_eq_decide]
      exact ⟨fun h => h.2.2.2, fun h => ⟨hh.1, hh.2.1, hh.2.2.1, h⟩⟩
    rw [eR]
    clear hh eR
    refine call_pure (E := env 0) (fn := Tryz.f82) (c := bodyOf Tryz.f82) (env_ok 0) mixed (by kernel_rfl) (by kernel_rfl) (by kernel_rfl) (by kernel_rfl) (by kernel_rfl) (by kernel_rfl) rfl ?_
    conv => whnf
    repeat (first | (refine And.intro rfl ?_; conv => whnf) | (refine And.intro (by decide) ?_; conv => whnf) | (refine draw_intro true (by kernel_rfl) ?_; conv => whnf) | (refine And.intro ⟨by omega, by omega⟩ ?_; conv => whnf) | (refine And.intro (by omega) ?_; conv => whnf) | (refine And.intro (fun _ => ⟨by omega, by omega⟩) ?_; conv => whnf) | (refine And.intro (of_decide_eq_true rfl) ?_; conv => whnf) | (refine And.intro (fun _ => ?_) (fun h => absurd h ?_); rotate_left; (focus (first | decide | (simp; done) | (simp [tcs]; done))); conv => whnf) | (refine And.intro (fun h => absurd h ?_) (fun _ => ?_); (focus (first | decide | (simp; done) | (simp [tcs]; done))); conv => whnf) | (intro _; conv => whnf))
    rw [e]
    (refine ⟨fun h => absurd h ?_, fun _ => ?_⟩; (focus (first | decide | (simp; done) | (simp [tcs]; done))); conv => whnf)
    repeat (first | (refine And.intro rfl ?_; conv => whnf) | (refine And.intro (by decide) ?_; conv => whnf) | (refine draw_intro true (by kernel_rfl) ?_; conv => whnf) | (refine And.intro ⟨by omega, by omega⟩ ?_; conv => whnf) | (refine And.intro (by omega) ?_; conv => whnf) | (refine And.intro (fun _ => ⟨by omega, by omega⟩) ?_; conv => whnf) | (refine And.intro (of_decide_eq_true rfl) ?_; conv => whnf) | (refine And.intro (fun _ => ?_) (fun h => absurd h ?_); rotate_left; (focus (first | decide | (simp; done) | (simp [tcs]; done))); conv => whnf) | (refine And.intro (fun h => absurd h ?_) (fun _ => ?_); (focus (first | decide | (simp; done) | (simp [tcs]; done))); conv => whnf) | (intro _; conv => whnf))
    refine loop_intro (fun m tm H => ∃ j : Nat, L.length = m + j ∧ (∀ q, q < j → L[q]? = M[q]?) ∧ tm = [(5, .c (.int .i64 (j))), (2, .ptr 0 0), (3, .ptr 1 0), (4, .c (.bool false))] ∧ H = [.box [.c (.int .i64 (k)), .c (.int .i64 (l)), .c (.int .i64 (n)), .c (.sl 1 8 (rowN L))], .box [.c (.int .i64 (k2)), .c (.int .i64 (l2)), .c (.int .i64 (n2)), .c (.sl 1 8 (rowN M))]])
      L.length _ _ ⟨0, by omega, fun q hq => absurd hq (by omega), rfl, rfl⟩ (Wk.sel [0, 1] (by decide) (by first | decide | (show (0 : Nat) ≤ _; decide) | (show ∀ i, i < 0 → _; decide) | (show (1 : Nat) ≤ _; decide) | (show ∀ i, i < 1 → _; decide) | (show (2 : Nat) ≤ _; decide) | (show ∀ i, i < 2 → _; decide) | (show (3 : Nat) ≤ _; decide) | (show ∀ i, i < 3 → _; decide) | (show (4 : Nat) ≤ _; decide) | (show ∀ i, i < 4 → _; decide) | (show (5 : Nat) ≤ _; decide) | (show ∀ i, i < 5 → _; decide) | (show (6 : Nat) ≤ _; decide) | (show ∀ i, i < 6 → _; decide) | (show (7 : Nat) ≤ _; decide) | (show ∀ i, i < 7 → _; decide)) (by first | decide | (show (0 : Nat) ≤ _; decide) | (show ∀ i, i < 0 → _; decide) | (show (1 : Nat) ≤ _; decide) | (show ∀ i, i < 1 → _; decide) | (show (2 : Nat) ≤ _; decide) | (show ∀ i, i < 2 → _; decide) | (show (3 : Nat) ≤ _; decide) | (show ∀ i, i < 3 → _; decide) | (show (4 : Nat) ≤ _; decide) | (show ∀ i, i < 4 → _; decide) | (show (5 : Nat) ≤ _; decide) | (show ∀ i, i < 5 → _; decide) | (show (6 : Nat) ≤ _; decide) | (show ∀ i, i < 6 → _; decide) | (show (7 : Nat) ≤ _; decide) | (show ∀ i, i < 7 → _; decide)) ⟨rfl, rfl, trivial⟩ ⟨rfl, rfl, rfl, rfl, trivial⟩ rfl) ?_
    rintro m tm H ⟨j, hj, hall, rfl, rfl⟩
    conv => whnf
    repeat (first | (refine And.intro rfl ?_; conv => whnf) | (refine And.intro (by decide) ?_; conv => whnf) | (refine And.intro ⟨by omega, by omega⟩ ?_; conv => whnf) | (refine And.intro (by omega) ?_; conv => whnf) | (refine And.intro (fun _ => ⟨by omega, by omega⟩) ?_; conv => whnf) | (refine And.intro (of_decide_eq_true rfl) ?_; conv => whnf) | (refine And.intro (fun _ => ?_) (fun h => absurd h ?_); rotate_left; (focus (first | decide | (simp; done) | (simp [tcs]; done))); conv => whnf) | (refine And.intro (fun h => absurd h ?_) (fun _ => ?_); (focus (first | decide | (simp; done) | (simp [tcs]; done))); conv => whnf))
    intro hgl
    replace hgl : (rowN L).length * 8 ≤ 140737488355328 := hgl
    conv => whnf
    repeat (first | (refine And.intro rfl ?_; conv => whnf) | (refine And.intro (by decide) ?_; conv => whnf) | (refine And.intro ⟨by omega, by omega⟩ ?_; conv => whnf) | (refine And.intro (by omega) ?_; conv => whnf) | (refine And.intro (fun _ => ⟨by omega, by omega⟩) ?_; conv => whnf) | (refine And.intro (of_decide_eq_true rfl) ?_; conv => whnf) | (refine And.intro (fun _ => ?_) (fun h => absurd h ?_); rotate_left; (focus (first | decide | (simp; done) | (simp [tcs]; done))); conv => whnf) | (refine And.intro (fun h => absurd h ?_) (fun _ => ?_); (focus (first | decide | (simp; done) | (simp [tcs]; done))); conv => whnf))
    refine ⟨fun hc => ?_, fun hc => ?_⟩
    · replace hc : (j : Int) < (rowN L).length := of_decide_eq_true hc
      obtain ⟨x, hx⟩ : ∃ x, L[j]? = some x := ⟨L[j]'(by omega), List.getElem?_eq_getElem (by omega)⟩
      obtain ⟨y, hy⟩ : ∃ y, M[j]? = some y := ⟨M[j]'(by omega), List.getElem?_eq_getElem (by omega)⟩
      have hxr := rowN_at hx
      have hyr := rowN_at hy
      conv => whnf
      repeat (first | (refine And.intro rfl ?_; conv => whnf) | (refine And.intro (by decide) ?_; conv => whnf) | (refine draw_intro true (by kernel_rfl) ?_; conv => whnf) | (refine And.intro ⟨by omega, by omega⟩ ?_; conv => whnf) | (refine And.intro (by omega) ?_; conv => whnf) | (refine And.intro (fun _ => ⟨by omega, by omega⟩) ?_; conv => whnf) | (refine And.intro (of_decide_eq_true rfl) ?_; conv => whnf) | (refine And.intro (fun _ => ?_) (fun h => absurd h ?_); rotate_left; (focus (first | decide | (simp; done) | (simp [tcs]; done))); conv => whnf) | (refine And.intro (fun h => absurd h ?_) (fun _ => ?_); (focus (first | decide | (simp; done) | (simp [tcs]; done))); conv => whnf) | (intro _; conv => whnf))
      refine ⟨_, ⟨by omega, by simpa using hxr⟩, ?_⟩
      conv => whnf
      refine ⟨Nat.le_refl 1, ?_⟩
      conv => whnf
      repeat (first | (refine And.intro rfl ?_; conv => whnf) | (refine And.intro (by decide) ?_; conv => whnf) | (refine draw_intro true (by kernel_rfl) ?_; conv => whnf) | (refine And.intro ⟨by omega, by omega⟩ ?_; conv => whnf) | (refine And.intro (by omega) ?_; conv => whnf) | (refine And.intro (fun _ => ⟨by omega, by omega⟩) ?_; conv => whnf) | (refine And.intro (of_decide_eq_true rfl) ?_; conv => whnf) | (refine And.intro (fun _ => ?_) (fun h => absurd h ?_); rotate_left; (focus (first | decide | (simp; done) | (simp [tcs]; done))); conv => whnf) | (refine And.intro (fun h => absurd h ?_) (fun _ => ?_); (focus (first | decide | (simp; done) | (simp [tcs]; done))); conv => whnf) | (intro _; conv => whnf))
      refine ⟨_, ⟨by omega, by simpa using hyr⟩, ?_⟩
      conv => whnf
      refine ⟨Nat.le_refl 1, ?_⟩
      conv => whnf
      repeat (first | (refine And.intro rfl ?_; conv => whnf) | (refine And.intro (by decide) ?_; conv => whnf) | (refine draw_intro true (by kernel_rfl) ?_; conv => whnf) | (refine And.intro ⟨by omega, by omega⟩ ?_; conv => whnf) | (refine And.intro (by omega) ?_; conv => whnf) | (refine And.intro (fun _ => ⟨by omega, by omega⟩) ?_; conv => whnf) | (refine And.intro (of_decide_eq_true rfl) ?_; conv => whnf) | (refine And.intro (fun _ => ?_) (fun h => absurd h ?_); rotate_left; (focus (first | decide | (simp; done) | (simp [tcs]; done))); conv => whnf) | (refine And.intro (fun h => absurd h ?_) (fun _ => ?_); (focus (first | decide | (simp; done) | (simp [tcs]; done))); conv => whnf) | (intro _; conv => whnf))
      by_cases hxy : (x : Int) = y
      · rw [decide_eq_true hxy]
        (refine ⟨fun h => absurd h ?_, fun _ => ?_⟩; (focus (first | decide | (simp; done) | (simp [tcs]; done))); conv => whnf)
        repeat (first | (refine And.intro rfl ?_; conv => whnf) | (refine And.intro (by decide) ?_; conv => whnf) | (refine draw_intro true (by kernel_rfl) ?_; conv => whnf) | (refine And.intro ⟨by omega, by omega⟩ ?_; conv => whnf) | (refine And.intro (by omega) ?_; conv => whnf) | (refine And.intro (fun _ => ⟨by omega, by omega⟩) ?_; conv => whnf) | (refine And.intro (of_decide_eq_true rfl) ?_; conv => whnf) | (refine And.intro (fun _ => ?_) (fun h => absurd h ?_); rotate_left; (focus (first | decide | (simp; done) | (simp [tcs]; done))); conv => whnf) | (refine And.intro (fun h => absurd h ?_) (fun _ => ?_); (focus (first | decide | (simp; done) | (simp [tcs]; done))); conv => whnf) | (intro _; conv => whnf))
        refine ⟨m - 1, _, _, by omega, ⟨j + 1, by omega, fun q hq => ?_, rfl, rfl⟩, Wk.sel [0, 1] (by decide) (by first | decide | (show (0 : Nat) ≤ _; decide) | (show ∀ i, i < 0 → _; decide) | (show (1 : Nat) ≤ _; decide) | (show ∀ i, i < 1 → _; decide) | (show (2 : Nat) ≤ _; decide) | (show ∀ i, i < 2 → _; decide) | (show (3 : Nat) ≤ _; decide) | (show ∀ i, i < 3 → _; decide) | (show (4 : Nat) ≤ _; decide) | (show ∀ i, i < 4 → _; decide) | (show (5 : Nat) ≤ _; decide) | (show ∀ i, i < 5 → _; decide) | (show (6 : Nat) ≤ _; decide) | (show ∀ i, i < 6 → _; decide) | (show (7 : Nat) ≤ _; decide) | (show ∀ i, i < 7 → _; decide)) (by first | decide | (show (0 : Nat) ≤ _; decide) | (show ∀ i, i < 0 → _; decide) | (show (1 : Nat) ≤ _; decide) | (show ∀ i, i < 1 → _; decide) | (show (2 : Nat) ≤ _; decide) | (show ∀ i, i < 2 → _; decide) | (show (3 : Nat) ≤ _; decide) | (show ∀ i, i < 3 → _; decide) | (show (4 : Nat) ≤ _; decide) | (show ∀ i, i < 4 → _; decide) | (show (5 : Nat) ≤ _; decide) | (show ∀ i, i < 5 → _; decide) | (show (6 : Nat) ≤ _; decide) | (show ∀ i, i < 6 → _; decide) | (show (7 : Nat) ≤ _; decide) | (show ∀ i, i < 7 → _; decide)) ⟨rfl, rfl, trivial⟩ ⟨rfl, rfl, rfl, rfl, trivial⟩ rfl⟩
        by_cases hqj : q < j
        · exact hall q hqj
        · obtain rfl : q = j := by omega
          rw [hx, hy, show x = y by omega]
      · have hLM : ¬ L = M := fun h => by
          rw [h, hy] at hx
          injection hx with hx
          omega
        rw [decide_eq_false hxy, decide_eq_false hLM]
        (refine ⟨fun _ => ?_, fun h => absurd h ?_⟩; rotate_left; (focus (first | decide | (simp; done) | (simp [tcs]; done))); conv => whnf)
        repeat (first | (refine And.intro rfl ?_; conv => whnf) | (refine And.intro (by decide) ?_; conv => whnf) | (refine draw_intro true (by kernel_rfl) ?_; conv => whnf) | (refine And.intro ⟨by omega, by omega⟩ ?_; conv => whnf) | (refine And.intro (by omega) ?_; conv => whnf) | (refine And.intro (fun _ => ⟨by omega, by omega⟩) ?_; conv => whnf) | (refine And.intro (of_decide_eq_true rfl) ?_; conv => whnf) | (refine And.intro (fun _ => ?_) (fun h => absurd h ?_); rotate_left; (focus (first | decide | (simp; done) | (simp [tcs]; done))); conv => whnf) | (refine And.intro (fun h => absurd h ?_) (fun _ => ?_); (focus (first | decide | (simp; done) | (simp [tcs]; done))); conv => whnf) | (intro _; conv => whnf))
        all_goals (first | rfl | exact ⟨rfl, rfl⟩ | exact ⟨rfl, rfl, rfl⟩)
    · replace hc : ¬ (j : Int) < (rowN L).length := of_decide_eq_false hc
      obtain rfl : j = L.length := by omega
      have hLM : L = M := List.ext_getElem? fun q => by
        by_cases hq : q < L.length
        · exact hall q hq
        · rw [List.getElem?_eq_none (by omega), List.getElem?_eq_none (by omega)]
      rw [decide_eq_true hLM]
      conv => whnf
      repeat (first | (refine And.intro rfl ?_; conv => whnf) | (refine And.intro (by decide) ?_; conv => whnf) | (refine draw_intro true (by kernel_rfl) ?_; conv => whnf) | (refine And.intro ⟨by omega, by omega⟩ ?_; conv => whnf) | (refine And.intro (by omega) ?_; conv => whnf) | (refine And.intro (fun _ => ⟨by omega, by omega⟩) ?_; conv => whnf) | (refine And.intro (of_decide_eq_true rfl) ?_; conv => whnf) | (refine And.intro (fun _ => ?_) (fun h => absurd h ?_); rotate_left; (focus (first | decide | (simp; done) | (simp [tcs]; done))); conv => whnf) | (refine And.intro (fun h => absurd h ?_) (fun _ => ?_); (focus (first | decide | (simp; done) | (simp [tcs]; done))); conv => whnf) | (intro _; conv => whnf))
      all_goals (first | rfl | exact ⟨rfl, rfl⟩ | exact ⟨rfl, rfl, rfl⟩)
  · have e : (!decide (k = k2) || !decide (l = l2) || !decide (n = n2) || !decide (((rowN L).length : Int) = ((rowN M).length : Int))) = true := by
      rw [hl1, hl2]
      by_cases h1 : k = k2
      · by_cases h2 : l = l2
        · by_cases h3 : n = n2
          · have h4 : ¬ (L.length : Int) = M.length := fun h => hh ⟨h1, h2, h3, by omega⟩
            simp [h4]
          · simp [h3]
        · simp [h2]
      · simp [h1]
    have eR : decide (k = k2 ∧ l = l2 ∧ n = n2 ∧ L = M) = false := decide_eq_false fun h => hh ⟨h.1, h.2.1, h.2.2.1, by rw [h.2.2.2]⟩
    rw [eR]
    clear hh eR
    refine call_pure (E := env 0) (fn := Tryz.f82) (c := bodyOf Tryz.f82) (env_ok 0) mixed (by kernel_rfl) (by kernel_rfl) (by kernel_rfl) (by kernel_rfl) (by kernel_rfl) (by kernel_rfl) rfl ?_
    conv => whnf
    repeat (first | (refine And.intro rfl ?_; conv => whnf) | (refine And.intro (by decide) ?_; conv => whnf) | (refine draw_intro true (by kernel_rfl) ?_; conv => whnf) | (refine And.intro ⟨by omega, by omega⟩ ?_; conv => whnf) | (refine And.intro (by omega) ?_; conv => whnf) | (refine And.intro (fun _ => ⟨by omega, by omega⟩) ?_; conv => whnf) | (refine And.intro (of_decide_eq_true rfl) ?_; conv => whnf) | (refine And.intro (fun _ => ?_) (fun h => absurd h ?_); rotate_left; (focus (first | decide | (simp; done) | (simp [tcs]; done))); conv => whnf) | (refine And.intro (fun h => absurd h ?_) (fun _ => ?_); (focus (first | decide | (simp; done) | (simp [tcs]; done))); conv => whnf) | (intro _; conv => whnf))
    rw [e]
    (refine ⟨fun _ => ?_, fun h => absurd h ?_⟩; rotate_left; (focus (first | decide | (simp; done) | (simp [tcs]; done))); conv => whnf)
    repeat (first | (refine And.intro rfl ?_; conv => whnf) | (refine And.intro (by decide) ?_; conv => whnf) | (refine draw_intro true (by kernel_rfl) ?_; conv => whnf) | (refine And.intro ⟨by omega, by omega⟩ ?_; conv => whnf) | (refine And.intro (by omega) ?_; conv => whnf) | (refine And.intro (fun _ => ⟨by omega, by omega⟩) ?_; conv => whnf) | (refine And.intro (of_decide_eq_true rfl) ?_; conv => whnf) | (refine And.intro (fun _ => ?_) (fun h => absurd h ?_); rotate_left; (focus (first | decide | (simp; done) | (simp [tcs]; done))); conv => whnf) | (refine And.intro (fun h => absurd h ?_) (fun _ => ?_); (focus (first | decide | (simp; done) | (simp [tcs]; done))); conv => whnf) | (intro _; conv => whnf))
    all_goals (first | rfl | exact ⟨rfl, rfl⟩ | exact ⟨rfl, rfl, rfl⟩)
end Go.Tr
/- The reference's book of nodes: add. -/
namespace Go.Tr
open Go.Proofs
def nd2 (B : List Term) (t : Term) : List CV := [.int .i64 t.k, .int .i64 t.l, .int .i64 t.n, .sl 1 8 (rowN (kd B t))]
def nds2 (B : List Term) : List (List CV) := B.map (nd2 B)
theorem nds2_len (B : List Term) : (nds2 B).length = B.length := by simp [nds2]
theorem nds2_at {B : List Term} {i : Nat} {t : Term} (h : B[i]? = some t) : (nds2 B)[i]? = some (nd2 B t) := by simp [nds2, h]
theorem nds2_snoc {B : List Term} (hg : Good B) {t : Term} (hk : ∀ u ∈ t.ts, u ∈ B) : nds2 (B ++ [t]) = nds2 B ++ [nd2 B t] := by
  unfold nds2
  rw [List.map_append]
  congr 1
  · refine List.map_congr_left fun u hu => ?_
    unfold nd2
    rw [kd_app fun v hv => hg.kid hu hv]
  · simp only [List.map_cons, List.map_nil]
    unfold nd2
    rw [kd_app hk]
theorem eRowB {T a b : Nat} {x y : List (List CV)} (h : x = y) : some (Ent.row T a b x) = some (Ent.row T a b y) := by rw [h]
theorem kd_inj {B : List Term} : ∀ (ts us : List Term), (∀ v ∈ ts, v ∈ B) → (∀ v ∈ us, v ∈ B) → ts.map (pl B) = us.map (pl B) → ts = us
  | [], us, _, _, h => by
    cases us with
    | nil => rfl
    | cons _ _ => simp at h
  | a :: r, us, h1, h2, h => by
    cases us with
    | nil => simp at h
    | cons b s =>
      simp only [List.map_cons, List.cons.injEq] at h
      rw [pl_inj (h1 a (by simp)) (h2 b (by simp)) h.1, kd_inj r s (fun v hv => h1 v (by simp [hv])) (fun v hv => h2 v (by simp [hv])) h.2]
theorem node_same {B : List Term} {t u : Term} (ht : ∀ v ∈ t.ts, v ∈ B) (hu : ∀ v ∈ u.ts, v ∈ B) : (u.k = t.k ∧ u.l = t.l ∧ u.n = t.n ∧ kd B u = kd B t) ↔ u = t := by
  constructor
  · rintro ⟨h1, h2, h3, h4⟩
    have := kd_inj _ _ hu ht h4
    obtain ⟨k, l, n, ts⟩ := t
    obtain ⟨k', l', n', us⟩ := u
    simp only [Term.k, Term.l, Term.n, Term.ts] at h1 h2 h3 this
    subst h1 h2 h3 this
    rfl
  · rintro rfl
    exact ⟨rfl, rfl, rfl, rfl⟩
set_option maxHeartbeats 4000000 in
theorem cRAddN (t : Term) : ∀ (B : List Term), Good B → wf t → B.length + szT t ≤ 1000000 →
    CallSt Tryz.prog 58 [.ptr 0 0, tv t] [.box [.own 1, .own 2], .row 82 4 48 (nds2 B), .row 25 4 48 (tcs B)]
      (fun r H' => r = .c (.int .i64 ((pl (adT t B) t : Nat))) ∧ H' = [.box [.own 3, .own 4], .dead, .dead, .row 82 4 48 (nds2 (adT t B)), .row 25 4 48 (tcs (adT t B))]) := by
  induction t using Term.ind with
  | _ t ih =>
  intro B hg hw hs
  obtain ⟨k, l, n, ts⟩ := t
  replace ih : ∀ u, u ∈ ts → _ := ih
  have hwn := wf_node hw
  simp only [Term.k, Term.l, Term.n] at hwn
  have hsz : szT (.mk k l n ts) = 1 + szL ts := by rw [szT]
  rw [hsz] at hs
  have hln := len_tcs ts
  have hsl := szL_len ts
  rw [tv_mk]
  refine call_wk (E := env 3) (fn := Tryz.f58) (c := bodyOf Tryz.f58) (env_ok 3) mixed (by kernel_rfl) (by kernel_rfl) (by kernel_rfl) (by kernel_rfl) (by kernel_rfl) (by kernel_rfl) rfl false ?_
  conv => whnf
  repeat (first | (refine And.intro rfl ?_; conv => whnf) | (refine And.intro (by decide) ?_; conv => whnf) | (refine draw_intro true (by kernel_rfl) ?_; conv => whnf) | (refine And.intro ⟨by omega, by omega⟩ ?_; conv => whnf) | (refine And.intro (by omega) ?_; conv => whnf) | (refine And.intro (fun _ => ⟨by omega, by omega⟩) ?_; conv => whnf) | (refine And.intro (of_decide_eq_true rfl) ?_; conv => whnf) | (refine And.intro (fun _ => ?_) (fun h => absurd h ?_); rotate_left; (focus (first | decide | (simp; done) | (simp [tcs]; done))); conv => whnf) | (refine And.intro (fun h => absurd h ?_) (fun _ => ?_); (focus (first | decide | (simp; done) | (simp [tcs]; done))); conv => whnf) | (intro _; conv => whnf))
  refine loop_intro (fun m tm H => ∃ (j : Nat) (B' : List Term), ts.length = m + j ∧ B' = adL (ts.take j) B ∧
      tm = [(6, .c (.int .i64 (j))), (0, .ptr 0 0), (3, .ptr 3 0), (5, .ptr 4 0), (4, .c (.int .i64 (0)))] ∧
      H = [.box [.own 5, .own 6], .dead, .dead, .box [.c (.int .i64 (k)), .c (.int .i64 (l)), .c (.int .i64 (n)), .c (.sl 4 48 (tcs ts))], .box [.c (.int .i64 (k)), .c (.int .i64 (l)), .c (.int .i64 (n)), .own 7], .row 82 4 48 (nds2 B'), .row 25 4 48 (tcs B'),
        .row 3 1 8 (rowN ((ts.take j).map (pl B')))])
    ts.length _ _ ⟨0, B, by omega, by simp [adL], rfl, rfl⟩ ?_ ?_
  · refine Wk.trans (Wk.mvbox 0 0 1 82 4 48 (nds2 B) rfl rfl rfl rfl) ?_
    refine Wk.trans (Wk.mvbox 0 1 2 25 4 48 (tcs B) rfl rfl rfl rfl) ?_
    refine Wk.trans (Wk.nilrow (i := 4) (j := 3) 3 1 8 rfl rfl rfl) ?_
    exact Wk.sel [0, 1, 2, 3, 4, 5, 6, 7] (by decide) (by first | decide | (show (0 : Nat) ≤ _; decide) | (show ∀ i, i < 0 → _; decide) | (show (1 : Nat) ≤ _; decide) | (show ∀ i, i < 1 → _; decide) | (show (2 : Nat) ≤ _; decide) | (show ∀ i, i < 2 → _; decide) | (show (3 : Nat) ≤ _; decide) | (show ∀ i, i < 3 → _; decide) | (show (4 : Nat) ≤ _; decide) | (show ∀ i, i < 4 → _; decide) | (show (5 : Nat) ≤ _; decide) | (show ∀ i, i < 5 → _; decide) | (show (6 : Nat) ≤ _; decide) | (show ∀ i, i < 6 → _; decide) | (show (7 : Nat) ≤ _; decide) | (show ∀ i, i < 7 → _; decide)) (by first | decide | (show (0 : Nat) ≤ _; decide) | (show ∀ i, i < 0 → _; decide) | (show (1 : Nat) ≤ _; decide) | (show ∀ i, i < 1 → _; decide) | (show (2 : Nat) ≤ _; decide) | (show ∀ i, i < 2 → _; decide) | (show (3 : Nat) ≤ _; decide) | (show ∀ i, i < 3 → _; decide) | (show (4 : Nat) ≤ _; decide) | (show ∀ i, i < 4 → _; decide) | (show (5 : Nat) ≤ _; decide) | (show ∀ i, i < 5 → _; decide) | (show (6 : Nat) ≤ _; decide) | (show ∀ i, i < 6 → _; decide) | (show (7 : Nat) ≤ _; decide) | (show ∀ i, i < 7 → _; decide)) ⟨rfl, rfl, rfl, rfl, rfl, rfl, rfl, rfl, trivial⟩ ⟨rfl, rfl, rfl, rfl, rfl, trivial⟩ rfl
  rintro m tm H ⟨j, B', hj, hB, rfl, rfl⟩
  obtain ⟨g1, g2, g3, g4⟩ := adL_spec (ts.take j) B hg fun u hu => wf_kid hw (List.mem_of_mem_take hu)
  rw [← hB] at g1 g2 g3 g4
  have hle := szL_le_take ts j
  have hnn := szL_pos (ts.take j)
  conv => whnf
  repeat (first | (refine And.intro rfl ?_; conv => whnf) | (refine And.intro (by decide) ?_; conv => whnf) | (refine draw_intro true (by kernel_rfl) ?_; conv => whnf) | (refine And.intro ⟨by omega, by omega⟩ ?_; conv => whnf) | (refine And.intro (by omega) ?_; conv => whnf) | (refine And.intro (fun _ => ⟨by omega, by omega⟩) ?_; conv => whnf) | (refine And.intro (of_decide_eq_true rfl) ?_; conv => whnf) | (refine And.intro (fun _ => ?_) (fun h => absurd h ?_); rotate_left; (focus (first | decide | (simp; done) | (simp [tcs]; done))); conv => whnf) | (refine And.intro (fun h => absurd h ?_) (fun _ => ?_); (focus (first | decide | (simp; done) | (simp [tcs]; done))); conv => whnf) | (intro _; conv => whnf))
  refine ⟨fun hc => ?_, fun hc => ?_⟩
  · replace hc : (j : Int) < (tcs ts).length := of_decide_eq_true hc
    obtain ⟨u, hu⟩ : ∃ u, ts[j]? = some u := ⟨ts[j]'(by omega), List.getElem?_eq_getElem (by omega)⟩
    have hm := List.mem_of_getElem? hu
    have huc := tcs_at ts j u hu
    have hst := szL_take ts j u hu
    have hle2 := szL_le_take ts (j + 1)
    have hup := szT_pos u
    have hi := ih u hm B' g1 (wf_kid hw hm) (by omega)
    obtain ⟨q1, q2, q3, q4⟩ := adT_spec u B' g1 (wf_kid hw hm)
    have hmp : (ts.take (j + 1)).map (pl (adT u B')) = (ts.take j).map (pl B') ++ [pl (adT u B') u] := by
      rw [List.take_add_one, hu, List.map_append]
      congr 1
      obtain ⟨C, hC⟩ := q2
      rw [← hC]
      exact List.map_congr_left fun v hv => pl_app (g3 v hv)
    have hBn : adT u B' = adL (ts.take (j + 1)) B := by rw [adL_take ts j u B hu, ← hB]
    have hul : (List.map (pl B') (ts.take j)).length ≤ 1000000 := by rw [List.length_map, List.length_take]; omega
    have hrl := rowN_len ((ts.take j).map (pl B'))
    have hb1 : ((rowN ((ts.take j).map (pl B'))).length + 1) * 8 ≤ 140737488355328 := by omega
    have hb2 : (rowN ((ts.take j).map (pl B'))).length + 1 ≤ 9223372036854775807 := by omega
    generalize adT u B' = B2 at *
    obtain ⟨k', l', n', us⟩ := u
    rw [tv_mk] at hi
    conv => whnf
    repeat (first | (refine And.intro rfl ?_; conv => whnf) | (refine And.intro (by decide) ?_; conv => whnf) | (refine draw_intro true (by kernel_rfl) ?_; conv => whnf) | (refine And.intro ⟨by omega, by omega⟩ ?_; conv => whnf) | (refine And.intro (by omega) ?_; conv => whnf) | (refine And.intro (fun _ => ⟨by omega, by omega⟩) ?_; conv => whnf) | (refine And.intro (of_decide_eq_true rfl) ?_; conv => whnf) | (refine And.intro (fun _ => ?_) (fun h => absurd h ?_); rotate_left; (focus (first | decide | (simp; done) | (simp [tcs]; done))); conv => whnf) | (refine And.intro (fun h => absurd h ?_) (fun _ => ?_); (focus (first | decide | (simp; done) | (simp [tcs]; done))); conv => whnf) | (intro _; conv => whnf))
    refine ⟨_, ⟨by omega, by simpa using huc⟩, ?_⟩
    conv => whnf
    refine ⟨Nat.le_refl 4, ?_⟩
    conv => whnf
    repeat (first | (refine And.intro rfl ?_; conv => whnf) | (refine And.intro (by decide) ?_; conv => whnf) | (refine draw_intro true (by kernel_rfl) ?_; conv => whnf) | (refine And.intro ⟨by omega, by omega⟩ ?_; conv => whnf) | (refine And.intro (by omega) ?_; conv => whnf) | (refine And.intro (fun _ => ⟨by omega, by omega⟩) ?_; conv => whnf) | (refine And.intro (of_decide_eq_true rfl) ?_; conv => whnf) | (refine And.intro (fun _ => ?_) (fun h => absurd h ?_); rotate_left; (focus (first | decide | (simp; done) | (simp [tcs]; done))); conv => whnf) | (refine And.intro (fun h => absurd h ?_) (fun _ => ?_); (focus (first | decide | (simp; done) | (simp [tcs]; done))); conv => whnf) | (intro _; conv => whnf))
    try (refine draw_intro true (by kernel_rfl) ?_; conv => whnf)
    first | refine CallSt.use hi [0, 5, 6] ⟨rfl, rfl, rfl, trivial⟩ (by decide) rfl ?_ | refine CallPt.useS hi [0, 5, 6] ⟨rfl, rfl, rfl, trivial⟩ (by decide) rfl ?_
    rintro _ _ ⟨rfl, rfl⟩ _
    conv => whnf
    repeat (first | (refine And.intro rfl ?_; conv => whnf) | (refine And.intro (by decide) ?_; conv => whnf) | (refine draw_intro true (by kernel_rfl) ?_; conv => whnf) | (refine And.intro ⟨by omega, by omega⟩ ?_; conv => whnf) | (refine And.intro (by omega) ?_; conv => whnf) | (refine And.intro (fun _ => ⟨by omega, by omega⟩) ?_; conv => whnf) | (refine And.intro (of_decide_eq_true rfl) ?_; conv => whnf) | (refine And.intro (fun _ => ?_) (fun h => absurd h ?_); rotate_left; (focus (first | decide | (simp; done) | (simp [tcs]; done))); conv => whnf) | (refine And.intro (fun h => absurd h ?_) (fun _ => ?_); (focus (first | decide | (simp; done) | (simp [tcs]; done))); conv => whnf) | (intro _; conv => whnf))
    refine ⟨m - 1, _, _, by omega, ⟨j + 1, B2, by omega, hBn, rfl, rfl⟩, Wk.sel [0, 1, 2, 3, 4, 8, 9, 11] (by decide) (by first | decide | (show (0 : Nat) ≤ _; decide) | (show ∀ i, i < 0 → _; decide) | (show (1 : Nat) ≤ _; decide) | (show ∀ i, i < 1 → _; decide) | (show (2 : Nat) ≤ _; decide) | (show ∀ i, i < 2 → _; decide) | (show (3 : Nat) ≤ _; decide) | (show ∀ i, i < 3 → _; decide) | (show (4 : Nat) ≤ _; decide) | (show ∀ i, i < 4 → _; decide) | (show (5 : Nat) ≤ _; decide) | (show ∀ i, i < 5 → _; decide) | (show (6 : Nat) ≤ _; decide) | (show ∀ i, i < 6 → _; decide) | (show (7 : Nat) ≤ _; decide) | (show ∀ i, i < 7 → _; decide)) (by first | decide | (show (0 : Nat) ≤ _; decide) | (show ∀ i, i < 0 → _; decide) | (show (1 : Nat) ≤ _; decide) | (show ∀ i, i < 1 → _; decide) | (show (2 : Nat) ≤ _; decide) | (show ∀ i, i < 2 → _; decide) | (show (3 : Nat) ≤ _; decide) | (show ∀ i, i < 3 → _; decide) | (show (4 : Nat) ≤ _; decide) | (show ∀ i, i < 4 → _; decide) | (show (5 : Nat) ≤ _; decide) | (show ∀ i, i < 5 → _; decide) | (show (6 : Nat) ≤ _; decide) | (show ∀ i, i < 6 → _; decide) | (show (7 : Nat) ≤ _; decide) | (show ∀ i, i < 7 → _; decide)) ⟨rfl, rfl, rfl, rfl, rfl, rfl, rfl, ?_, trivial⟩ ⟨rfl, rfl, rfl, rfl, rfl, trivial⟩ rfl⟩
    rw [hmp, ← rowN_map_snoc]
    rfl
  · replace hc : ¬ (j : Int) < (tcs ts).length := of_decide_eq_false hc
    obtain rfl : j = ts.length := by omega
    rw [List.take_length] at hB g3 g4 hnn ⊢
    have hkids : ∀ u ∈ ts, u ∈ B' := g3
    have hnl := nds2_len B'
    have hBl : B'.length ≤ 1000000 := by omega
    have hkl : (ts.map (pl B')).length ≤ 1000000 := by rw [List.length_map]; omega
    have htl := len_tcs B'
    conv => whnf
    refine loop_intro (fun m tm H => ∃ j : Nat, B'.length = m + j ∧ (∀ (q : Nat) u, q < j → B'[q]? = some u → ¬ u = .mk k l n ts) ∧
        tm = [(8, .c (.int .i64 (j))), (0, .ptr 0 0), (3, .ptr 3 0), (5, .ptr 4 0), (4, .c (.int .i64 (0)))] ∧
        H = [.box [.own 5, .own 6], .dead, .dead, .box [.c (.int .i64 (k)), .c (.int .i64 (l)), .c (.int .i64 (n)), .c (.sl 4 48 (tcs ts))], .box [.c (.int .i64 (k)), .c (.int .i64 (l)), .c (.int .i64 (n)), .own 7], .row 82 4 48 (nds2 B'), .row 25 4 48 (tcs B'),
          .frz (.sl 1 8 (rowN (ts.map (pl B'))))])
      B'.length _ _ ⟨0, by omega, fun q u hq => absurd hq (by omega), rfl, rfl⟩ ?_ ?_
    · refine Wk.trans (Wk.frz 7 3 1 8 (rowN (ts.map (pl B'))) rfl rfl) ?_
      exact Wk.sel [0, 1, 2, 3, 4, 5, 6, 7] (by decide) (by first | decide | (show (0 : Nat) ≤ _; decide) | (show ∀ i, i < 0 → _; decide) | (show (1 : Nat) ≤ _; decide) | (show ∀ i, i < 1 → _; decide) | (show (2 : Nat) ≤ _; decide) | (show ∀ i, i < 2 → _; decide) | (show (3 : Nat) ≤ _; decide) | (show ∀ i, i < 3 → _; decide) | (show (4 : Nat) ≤ _; decide) | (show ∀ i, i < 4 → _; decide) | (show (5 : Nat) ≤ _; decide) | (show ∀ i, i < 5 → _; decide) | (show (6 : Nat) ≤ _; decide) | (show ∀ i, i < 6 → _; decide) | (show (7 : Nat) ≤ _; decide) | (show ∀ i, i < 7 → _; decide)) (by first | decide | (show (0 : Nat) ≤ _; decide) | (show ∀ i, i < 0 → _; decide) | (show (1 : Nat) ≤ _; decide) | (show ∀ i, i < 1 → _; decide) | (show (2 : Nat) ≤ _; decide) | (show ∀ i, i < 2 → _; decide) | (show (3 : Nat) ≤ _; decide) | (show ∀ i, i < 3 → _; decide) | (show (4 : Nat) ≤ _; decide) | (show ∀ i, i < 4 → _; decide) | (show (5 : Nat) ≤ _; decide) | (show ∀ i, i < 5 → _; decide) | (show (6 : Nat) ≤ _; decide) | (show ∀ i, i < 6 → _; decide) | (show (7 : Nat) ≤ _; decide) | (show ∀ i, i < 7 → _; decide)) ⟨rfl, rfl, rfl, rfl, rfl, rfl, rfl, rfl, trivial⟩ ⟨rfl, rfl, rfl, rfl, rfl, trivial⟩ rfl
    rintro m tm H ⟨j, hj2, hall, rfl, rfl⟩
    conv => whnf
    repeat (first | (refine And.intro rfl ?_; conv => whnf) | (refine And.intro (by decide) ?_; conv => whnf) | (refine draw_intro true (by kernel_rfl) ?_; conv => whnf) | (refine And.intro ⟨by omega, by omega⟩ ?_; conv => whnf) | (refine And.intro (by omega) ?_; conv => whnf) | (refine And.intro (fun _ => ⟨by omega, by omega⟩) ?_; conv => whnf) | (refine And.intro (of_decide_eq_true rfl) ?_; conv => whnf) | (refine And.intro (fun _ => ?_) (fun h => absurd h ?_); rotate_left; (focus (first | decide | (simp; done) | (simp [tcs]; done))); conv => whnf) | (refine And.intro (fun h => absurd h ?_) (fun _ => ?_); (focus (first | decide | (simp; done) | (simp [tcs]; done))); conv => whnf) | (intro _; conv => whnf))
    refine ⟨fun hc2 => ?_, fun hc2 => ?_⟩
    · replace hc2 : (j : Int) < (nds2 B').length := of_decide_eq_true hc2
      obtain ⟨u, hu⟩ : ∃ u, B'[j]? = some u := ⟨B'[j]'(by omega), List.getElem?_eq_getElem (by omega)⟩
      have hum := List.mem_of_getElem? hu
      have hnu := nds2_at hu
      have hsame := cRSameN u.k u.l u.n k l n (kd B' u) (ts.map (pl B'))
      have hns := node_same (B := B') (t := .mk k l n ts) (u := u) hkids (fun v hv => g1.kid hum hv)
      have hdec : decide (u.k = k ∧ u.l = l ∧ u.n = n ∧ kd B' u = ts.map (pl B')) = decide (u = .mk k l n ts) := decide_eq_decide.2 hns
      rw [hdec] at hsame
      unfold nd2 at hnu
      conv => whnf
      repeat (first | (refine And.intro rfl ?_; conv => whnf) | (refine And.intro (by decide) ?_; conv => whnf) | (refine draw_intro true (by kernel_rfl) ?_; conv => whnf) | (refine And.intro ⟨by omega, by omega⟩ ?_; conv => whnf) | (refine And.intro (by omega) ?_; conv => whnf) | (refine And.intro (fun _ => ⟨by omega, by omega⟩) ?_; conv => whnf) | (refine And.intro (of_decide_eq_true rfl) ?_; conv => whnf) | (refine And.intro (fun _ => ?_) (fun h => absurd h ?_); rotate_left; (focus (first | decide | (simp; done) | (simp [tcs]; done))); conv => whnf) | (refine And.intro (fun h => absurd h ?_) (fun _ => ?_); (focus (first | decide | (simp; done) | (simp [tcs]; done))); conv => whnf) | (intro _; conv => whnf))
      refine ⟨[.int .i64 u.k, .int .i64 u.l, .int .i64 u.n, .sl 1 8 (rowN (kd B' u))], by rw [Int.toNat_natCast]; exact hnu, show 0 + 4 ≤ 4 by decide, ?_⟩
      conv => whnf
      repeat (first | (refine And.intro rfl ?_; conv => whnf) | (refine And.intro (by decide) ?_; conv => whnf) | (refine draw_intro true (by kernel_rfl) ?_; conv => whnf) | (refine And.intro ⟨by omega, by omega⟩ ?_; conv => whnf) | (refine And.intro (by omega) ?_; conv => whnf) | (refine And.intro (fun _ => ⟨by omega, by omega⟩) ?_; conv => whnf) | (refine And.intro (of_decide_eq_true rfl) ?_; conv => whnf) | (refine And.intro (fun _ => ?_) (fun h => absurd h ?_); rotate_left; (focus (first | decide | (simp; done) | (simp [tcs]; done))); conv => whnf) | (refine And.intro (fun h => absurd h ?_) (fun _ => ?_); (focus (first | decide | (simp; done) | (simp [tcs]; done))); conv => whnf) | (intro _; conv => whnf))
      try (refine draw_intro true (by kernel_rfl) ?_; conv => whnf)
      first | refine CallSt.use hsame [] trivial (by decide) rfl ?_ | refine CallPt.useS hsame [] trivial (by decide) rfl ?_
      rintro _ _ ⟨rfl, rfl⟩ _
      conv => whnf
      repeat (first | (refine And.intro rfl ?_; conv => whnf) | (refine And.intro (by decide) ?_; conv => whnf) | (refine draw_intro true (by kernel_rfl) ?_; conv => whnf) | (refine And.intro ⟨by omega, by omega⟩ ?_; conv => whnf) | (refine And.intro (by omega) ?_; conv => whnf) | (refine And.intro (fun _ => ⟨by omega, by omega⟩) ?_; conv => whnf) | (refine And.intro (of_decide_eq_true rfl) ?_; conv => whnf) | (refine And.intro (fun _ => ?_) (fun h => absurd h ?_); rotate_left; (focus (first | decide | (simp; done) | (simp [tcs]; done))); conv => whnf) | (refine And.intro (fun h => absurd h ?_) (fun _ => ?_); (focus (first | decide | (simp; done) | (simp [tcs]; done))); conv => whnf) | (intro _; conv => whnf))
      by_cases hut : u = .mk k l n ts
      · have hT : Term.mk k l n ts ∈ B' := hut ▸ hum
        have e1 : adT (.mk k l n ts) B = B' := by rw [adT, ← hB, if_pos hT]
        have e2 : pl B' (.mk k l n ts) = j := pl_of g1.nd (hut ▸ hu)
        rw [decide_eq_true hut, e1, e2]
        (refine ⟨fun _ => ?_, fun h => absurd h ?_⟩; rotate_left; (focus (first | decide | (simp; done) | (simp [tcs]; done))); conv => whnf)
        repeat (first | (refine And.intro rfl ?_; conv => whnf) | (refine And.intro (by decide) ?_; conv => whnf) | (refine draw_intro true (by kernel_rfl) ?_; conv => whnf) | (refine And.intro ⟨by omega, by omega⟩ ?_; conv => whnf) | (refine And.intro (by omega) ?_; conv => whnf) | (refine And.intro (fun _ => ⟨by omega, by omega⟩) ?_; conv => whnf) | (refine And.intro (of_decide_eq_true rfl) ?_; conv => whnf) | (refine And.intro (fun _ => ?_) (fun h => absurd h ?_); rotate_left; (focus (first | decide | (simp; done) | (simp [tcs]; done))); conv => whnf) | (refine And.intro (fun h => absurd h ?_) (fun _ => ?_); (focus (first | decide | (simp; done) | (simp [tcs]; done))); conv => whnf) | (intro _; conv => whnf))
        refine ⟨[(4, .c (.int .i64 (j)))], [.box [.own 3, .own 4], .dead, .dead, .row 82 4 48 (nds2 B'), .row 25 4 48 (tcs B')], Wk.sel [0, 1, 2, 5, 6] (by decide) (by first | decide | (show (0 : Nat) ≤ _; decide) | (show ∀ i, i < 0 → _; decide) | (show (1 : Nat) ≤ _; decide) | (show ∀ i, i < 1 → _; decide) | (show (2 : Nat) ≤ _; decide) | (show ∀ i, i < 2 → _; decide) | (show (3 : Nat) ≤ _; decide) | (show ∀ i, i < 3 → _; decide) | (show (4 : Nat) ≤ _; decide) | (show ∀ i, i < 4 → _; decide) | (show (5 : Nat) ≤ _; decide) | (show ∀ i, i < 5 → _; decide) | (show (6 : Nat) ≤ _; decide) | (show ∀ i, i < 6 → _; decide) | (show (7 : Nat) ≤ _; decide) | (show ∀ i, i < 7 → _; decide)) (by first | decide | (show (0 : Nat) ≤ _; decide) | (show ∀ i, i < 0 → _; decide) | (show (1 : Nat) ≤ _; decide) | (show ∀ i, i < 1 → _; decide) | (show (2 : Nat) ≤ _; decide) | (show ∀ i, i < 2 → _; decide) | (show (3 : Nat) ≤ _; decide) | (show ∀ i, i < 3 → _; decide) | (show (4 : Nat) ≤ _; decide) | (show ∀ i, i < 4 → _; decide) | (show (5 : Nat) ≤ _; decide) | (show ∀ i, i < 5 → _; decide) | (show (6 : Nat) ≤ _; decide) | (show ∀ i, i < 6 → _; decide) | (show (7 : Nat) ≤ _; decide) | (show ∀ i, i < 7 → _; decide)) ⟨rfl, rfl, rfl, rfl, rfl, trivial⟩ ⟨rfl, trivial⟩ rfl, ?_⟩
        conv => whnf
        exact ⟨rfl, rfl⟩
      · rw [decide_eq_false hut]
        (refine ⟨fun h => absurd h ?_, fun _ => ?_⟩; (focus (first | decide | (simp; done) | (simp [tcs]; done))); conv => whnf)
        repeat (first | (refine And.intro rfl ?_; conv => whnf) | (refine And.intro (by decide) ?_; conv => whnf) | (refine draw_intro true (by kernel_rfl) ?_; conv => whnf) | (refine And.intro ⟨by omega, by omega⟩ ?_; conv => whnf) | (refine And.intro (by omega) ?_; conv => whnf) | (refine And.intro (fun _ => ⟨by omega, by omega⟩) ?_; conv => whnf) | (refine And.intro (of_decide_eq_true rfl) ?_; conv => whnf) | (refine And.intro (fun _ => ?_) (fun h => absurd h ?_); rotate_left; (focus (first | decide | (simp; done) | (simp [tcs]; done))); conv => whnf) | (refine And.intro (fun h => absurd h ?_) (fun _ => ?_); (focus (first | decide | (simp; done) | (simp [tcs]; done))); conv => whnf) | (intro _; conv => whnf))
        refine ⟨m - 1, _, _, by omega, ⟨j + 1, by omega, fun q v hq hv => ?_, rfl, rfl⟩, Wk.sel [0, 1, 2, 3, 4, 5, 6, 7] (by decide) (by first | decide | (show (0 : Nat) ≤ _; decide) | (show ∀ i, i < 0 → _; decide) | (show (1 : Nat) ≤ _; decide) | (show ∀ i, i < 1 → _; decide) | (show (2 : Nat) ≤ _; decide) | (show ∀ i, i < 2 → _; decide) | (show (3 : Nat) ≤ _; decide) | (show ∀ i, i < 3 → _; decide) | (show (4 : Nat) ≤ _; decide) | (show ∀ i, i < 4 → _; decide) | (show (5 : Nat) ≤ _; decide) | (show ∀ i, i < 5 → _; decide) | (show (6 : Nat) ≤ _; decide) | (show ∀ i, i < 6 → _; decide) | (show (7 : Nat) ≤ _; decide) | (show ∀ i, i < 7 → _; decide)) (by first | decide | (show (0 : Nat) ≤ _; decide) | (show ∀ i, i < 0 → _; decide) | (show (1 : Nat) ≤ _; decide) | (show ∀ i, i < 1 → _; decide) | (show (2 : Nat) ≤ _; decide) | (show ∀ i, i < 2 → _; decide) | (show (3 : Nat) ≤ _; decide) | (show ∀ i, i < 3 → _; decide) | (show (4 : Nat) ≤ _; decide) | (show ∀ i, i < 4 → _; decide) | (show (5 : Nat) ≤ _; decide) | (show ∀ i, i < 5 → _; decide) | (show (6 : Nat) ≤ _; decide) | (show ∀ i, i < 6 → _; decide) | (show (7 : Nat) ≤ _; decide) | (show ∀ i, i < 7 → _; decide)) ⟨rfl, rfl, rfl, rfl, rfl, rfl, rfl, rfl, trivial⟩ ⟨rfl, rfl, rfl, rfl, rfl, trivial⟩ rfl⟩
        by_cases hqj : q < j
        · exact hall q v hqj hv
        · obtain rfl : q = j := by omega
          rw [hu] at hv
          injection hv with hv
          exact hv ▸ hut
    · replace hc2 : ¬ (j : Int) < (nds2 B').length := of_decide_eq_false hc2
      obtain rfl : j = B'.length := by omega
      have hT : Term.mk k l n ts ∉ B' := fun h => by
        obtain ⟨i, hi⟩ := List.mem_iff_getElem?.1 h
        exact hall i _ (List.getElem?_eq_some_iff.1 hi).1 hi rfl
      have hns := nds2_snoc g1 (t := .mk k l n ts) hkids
      have e1 : adT (.mk k l n ts) B = B' ++ [.mk k l n ts] := by rw [adT, ← hB, if_neg hT]
      have e2 : pl (B' ++ [.mk k l n ts]) (.mk k l n ts) = B'.length := pl_snoc hT
      have hb1 : ((nds2 B').length + 1) * 48 ≤ 140737488355328 := by omega
      have hb2 : (nds2 B').length + 1 ≤ 9223372036854775807 := by omega
      have hb3 : ((tcs B').length + 1) * 48 ≤ 140737488355328 := by omega
      have hb4 : (tcs B').length + 1 ≤ 9223372036854775807 := by omega
      rw [e1, e2, hns]
      conv => whnf
      repeat (first | (refine And.intro rfl ?_; conv => whnf) | (refine And.intro (by decide) ?_; conv => whnf) | (refine draw_intro true (by kernel_rfl) ?_; conv => whnf) | (refine And.intro ⟨by omega, by omega⟩ ?_; conv => whnf) | (refine And.intro (by omega) ?_; conv => whnf) | (refine And.intro (fun _ => ⟨by omega, by omega⟩) ?_; conv => whnf) | (refine And.intro (of_decide_eq_true rfl) ?_; conv => whnf) | (refine And.intro (fun _ => ?_) (fun h => absurd h ?_); rotate_left; (focus (first | decide | (simp; done) | (simp [tcs]; done))); conv => whnf) | (refine And.intro (fun h => absurd h ?_) (fun _ => ?_); (focus (first | decide | (simp; done) | (simp [tcs]; done))); conv => whnf) | (intro _; conv => whnf))
      have hix : ((tcs B').length : Int).toNat = (tcs B').length := by omega
      have hapl : ∀ z : List CV, (tcs B').length < (tcs B' ++ [z]).length := fun z => by simp
      have hget : ∀ z : List CV, (tcs B' ++ [z])[((tcs B').length : Int).toNat]? = some z := fun z => by rw [hix]; simp
      have hset : ∀ z x : List CV, (tcs B' ++ [z]).set ((tcs B').length : Int).toNat x = tcs B' ++ [x] := fun z x => by rw [hix]; simp
      have hend : tcs B' ++ [[.int .i64 k, .int .i64 l, .int .i64 n, .sl 4 48 (tcs ts)]] = tcs (B' ++ [.mk k l n ts]) := (tcs_snoc19 B' (Term.mk k l n ts)).symm
      refine ⟨⟨by omega, by rw [hix]; exact hapl _⟩, ?_⟩
      conv => whnf
      repeat (first | (refine And.intro rfl ?_; conv => whnf) | (refine And.intro (by decide) ?_; conv => whnf) | (refine And.intro ⟨by omega, by omega⟩ ?_; conv => whnf) | (refine And.intro (by omega) ?_; conv => whnf) | (refine And.intro (fun _ => ⟨by omega, by omega⟩) ?_; conv => whnf) | (refine And.intro (of_decide_eq_true rfl) ?_; conv => whnf) | (refine And.intro (fun _ => ?_) (fun h => absurd h ?_); rotate_left; (focus (first | decide | (simp; done) | (simp [tcs]; done))); conv => whnf) | (refine And.intro (fun h => absurd h ?_) (fun _ => ?_); (focus (first | decide | (simp; done) | (simp [tcs]; done))); conv => whnf))
      have hln2 : ∀ z : List CV, ((nds2 B' ++ [z]).length : Int) = B'.length + 1 := fun z => by simp [nds2]
      refine ⟨?_, ?_⟩
      · conv => whnf
        repeat (first | (refine And.intro rfl ?_; conv => whnf) | (refine And.intro (by decide) ?_; conv => whnf) | (refine And.intro ⟨by omega, by omega⟩ ?_; conv => whnf) | (refine And.intro (by omega) ?_; conv => whnf) | (refine And.intro (fun _ => ⟨by omega, by omega⟩) ?_; conv => whnf) | (refine And.intro (of_decide_eq_true rfl) ?_; conv => whnf) | (refine And.intro (fun _ => ?_) (fun h => absurd h ?_); rotate_left; (focus (first | decide | (simp; done) | (simp [tcs]; done))); conv => whnf) | (refine And.intro (fun h => absurd h ?_) (fun _ => ?_); (focus (first | decide | (simp; done) | (simp [tcs]; done))); conv => whnf))
        refine ⟨_, hget _, show 0 + 4 ≤ 4 by decide, ?_⟩
        conv => whnf
        repeat (first | (refine And.intro rfl ?_; conv => whnf) | (refine And.intro (by decide) ?_; conv => whnf) | (refine draw_intro true (by kernel_rfl) ?_; conv => whnf) | (refine And.intro ⟨by omega, by omega⟩ ?_; conv => whnf) | (refine And.intro (by omega) ?_; conv => whnf) | (refine And.intro (fun _ => ⟨by omega, by omega⟩) ?_; conv => whnf) | (refine And.intro (of_decide_eq_true rfl) ?_; conv => whnf) | (refine And.intro (fun _ => ?_) (fun h => absurd h ?_); rotate_left; (focus (first | decide | (simp; done) | (simp [tcs]; done))); conv => whnf) | (refine And.intro (fun h => absurd h ?_) (fun _ => ?_); (focus (first | decide | (simp; done) | (simp [tcs]; done))); conv => whnf) | (intro _; conv => whnf))
        rw [hln2]
        refine ⟨show inR _ by unfold inR; omega, ?_⟩
        conv => whnf
        refine ⟨[(4, .c (.int .i64 ((B'.length : Int) + 1 - 1)))], [.box [.own 3, .own 4], .dead, .dead, .row 82 4 48 (nds2 B' ++ [nd2 B' (.mk k l n ts)]), .row 25 4 48 (tcs (B' ++ [.mk k l n ts]))], Wk.sel [0, 1, 2, 9, 11] (by decide) (by first | decide | (show (0 : Nat) ≤ _; decide) | (show ∀ i, i < 0 → _; decide) | (show (1 : Nat) ≤ _; decide) | (show ∀ i, i < 1 → _; decide) | (show (2 : Nat) ≤ _; decide) | (show ∀ i, i < 2 → _; decide) | (show (3 : Nat) ≤ _; decide) | (show ∀ i, i < 3 → _; decide) | (show (4 : Nat) ≤ _; decide) | (show ∀ i, i < 4 → _; decide) | (show (5 : Nat) ≤ _; decide) | (show ∀ i, i < 5 → _; decide) | (show (6 : Nat) ≤ _; decide) | (show ∀ i, i < 6 → _; decide) | (show (7 : Nat) ≤ _; decide) | (show ∀ i, i < 7 → _; decide)) (by first | decide | (show (0 : Nat) ≤ _; decide) | (show ∀ i, i < 0 → _; decide) | (show (1 : Nat) ≤ _; decide) | (show ∀ i, i < 1 → _; decide) | (show (2 : Nat) ≤ _; decide) | (show ∀ i, i < 2 → _; decide) | (show (3 : Nat) ≤ _; decide) | (show ∀ i, i < 3 → _; decide) | (show (4 : Nat) ≤ _; decide) | (show ∀ i, i < 4 → _; decide) | (show (5 : Nat) ≤ _; decide) | (show ∀ i, i < 5 → _; decide) | (show (6 : Nat) ≤ _; decide) | (show ∀ i, i < 6 → _; decide) | (show (7 : Nat) ≤ _; decide) | (show ∀ i, i < 7 → _; decide)) ⟨rfl, rfl, rfl, rfl, eRowB ((hset _ [.int .i64 k, .int .i64 l, .int .i64 n, .sl 4 48 (tcs ts)]).trans hend), trivial⟩ ⟨rfl, trivial⟩ rfl, ?_⟩
        conv => whnf
        exact ⟨congrArg (fun z => AV.c (CV.int .i64 z)) (by omega), rfl⟩
      · conv => whnf
        repeat (first | (refine And.intro rfl ?_; conv => whnf) | (refine And.intro (by decide) ?_; conv => whnf) | (refine And.intro ⟨by omega, by omega⟩ ?_; conv => whnf) | (refine And.intro (by omega) ?_; conv => whnf) | (refine And.intro (fun _ => ⟨by omega, by omega⟩) ?_; conv => whnf) | (refine And.intro (of_decide_eq_true rfl) ?_; conv => whnf) | (refine And.intro (fun _ => ?_) (fun h => absurd h ?_); rotate_left; (focus (first | decide | (simp; done) | (simp [tcs]; done))); conv => whnf) | (refine And.intro (fun h => absurd h ?_) (fun _ => ?_); (focus (first | decide | (simp; done) | (simp [tcs]; done))); conv => whnf))
        refine ⟨_, hget _, show 0 + 4 ≤ 4 by decide, ?_⟩
        conv => whnf
        repeat (first | (refine And.intro rfl ?_; conv => whnf) | (refine And.intro (by decide) ?_; conv => whnf) | (refine draw_intro true (by kernel_rfl) ?_; conv => whnf) | (refine And.intro ⟨by omega, by omega⟩ ?_; conv => whnf) | (refine And.intro (by omega) ?_; conv => whnf) | (refine And.intro (fun _ => ⟨by omega, by omega⟩) ?_; conv => whnf) | (refine And.intro (of_decide_eq_true rfl) ?_; conv => whnf) | (refine And.intro (fun _ => ?_) (fun h => absurd h ?_); rotate_left; (focus (first | decide | (simp; done) | (simp [tcs]; done))); conv => whnf) | (refine And.intro (fun h => absurd h ?_) (fun _ => ?_); (focus (first | decide | (simp; done) | (simp [tcs]; done))); conv => whnf) | (intro _; conv => whnf))
        rw [hln2]
        refine ⟨show inR _ by unfold inR; omega, ?_⟩
        conv => whnf
        refine ⟨[(4, .c (.int .i64 ((B'.length : Int) + 1 - 1)))], [.box [.own 3, .own 4], .dead, .dead, .row 82 4 48 (nds2 B' ++ [nd2 B' (.mk k l n ts)]), .row 25 4 48 (tcs (B' ++ [.mk k l n ts]))], Wk.sel [0, 1, 2, 9, 11] (by decide) (by first | decide | (show (0 : Nat) ≤ _; decide) | (show ∀ i, i < 0 → _; decide) | (show (1 : Nat) ≤ _; decide) | (show ∀ i, i < 1 → _; decide) | (show (2 : Nat) ≤ _; decide) | (show ∀ i, i < 2 → _; decide) | (show (3 : Nat) ≤ _; decide) | (show ∀ i, i < 3 → _; decide) | (show (4 : Nat) ≤ _; decide) | (show ∀ i, i < 4 → _; decide) | (show (5 : Nat) ≤ _; decide) | (show ∀ i, i < 5 → _; decide) | (show (6 : Nat) ≤ _; decide) | (show ∀ i, i < 6 → _; decide) | (show (7 : Nat) ≤ _; decide) | (show ∀ i, i < 7 → _; decide)) (by first | decide | (show (0 : Nat) ≤ _; decide) | (show ∀ i, i < 0 → _; decide) | (show (1 : Nat) ≤ _; decide) | (show ∀ i, i < 1 → _; decide) | (show (2 : Nat) ≤ _; decide) | (show ∀ i, i < 2 → _; decide) | (show (3 : Nat) ≤ _; decide) | (show ∀ i, i < 3 → _; decide) | (show (4 : Nat) ≤ _; decide) | (show ∀ i, i < 4 → _; decide) | (show (5 : Nat) ≤ _; decide) | (show ∀ i, i < 5 → _; decide) | (show (6 : Nat) ≤ _; decide) | (show ∀ i, i < 6 → _; decide) | (show (7 : Nat) ≤ _; decide) | (show ∀ i, i < 7 → _; decide)) ⟨rfl, rfl, rfl, rfl, eRowB ((hset _ [.int .i64 k, .int .i64 l, .int .i64 n, .sl 4 48 (tcs ts)]).trans hend), trivial⟩ ⟨rfl, trivial⟩ rfl, ?_⟩
        conv => whnf
        exact ⟨congrArg (fun z => AV.c (CV.int .i64 z)) (by omega), rfl⟩
end Go.Tr
/- The reference's book of nodes: all terms of a certificate. -/
namespace Go.Tr
open Go.Proofs
theorem rt_len (c : Crt) (n : Nat) (h : n ≤ (crl c).length) : (rt c n).length = n := by unfold rt; rw [List.length_map, List.length_take]; omega
theorem rt_take {c : Crt} (h : Sane c) (n : Nat) : ∀ m, n + m ≤ (crl c).length → (rt c (n + m)).take n = rt c n
  | 0, hm => by rw [List.take_of_length_le]; rfl; rw [rt_len c _ hm]; omega
  | m + 1, hm => by
    have ih := rt_take h n m (by omega)
    have ht : (crl c)[n + m]? = some (crl c)[n + m] := List.getElem?_eq_getElem (by omega)
    have hl := rt_len c (n + m) (by omega)
    rw [show n + (m + 1) = n + m + 1 by omega, rt_step h ht, List.take_append_of_le_length (by omega), ih]
/-- The places that the reference finds. -/
def allV (c : Crt) : AV := .tup [.c (.sl 1 8 (rowN (rt c c.S.length))), .c (.sl 1 8 (rowN ((rt c (c.S.length + c.X.length)).drop c.S.length))), .c (.int .i64 ((pl (bk c (c.S.length + c.X.length + 1)) c.o : Nat))), .c (.int .i64 ((pl (bk c (c.S.length + c.X.length + 2)) c.c : Nat)))]
set_option maxHeartbeats 4000000 in
theorem cRAll (c : Crt) (h : Sane c) : CallSt Tryz.prog 32 [.ptr 0 0, crv c] [.box [.own 1, .own 2], .row 82 4 48 [], .row 25 4 48 []]
    (fun r H' => r = allV c ∧ H' = [.box [.own 3, .own 4], .dead, .dead, .row 82 4 48 (nds2 (nodesOf c)), .row 25 4 48 (tcs (nodesOf c)), .frz (.sl 1 8 (rowN (rt c c.S.length))), .frz (.sl 1 8 (rowN ((rt c (c.S.length + c.X.length)).drop c.S.length)))]) := by
  have hadd := fun n t (ht : (crl c)[n]? = some t) => cRAddN t (bk c n) (bk_good h n).1 (h.t t (List.mem_of_getElem? ht)).1 (by
    have g3 := (bk_good h n).2.2
    have hsz := (h.t t (List.mem_of_getElem? ht)).2
    have hsa := szL_all ((crl c).take n) fun u hu => (h.t u (List.mem_of_mem_take hu)).2
    have hlt : ((crl c).take n).length ≤ 202 := by rw [List.length_take]; have := crl_len c; have := h.S; have := h.X; omega
    omega)
  have hstep := fun n t (ht : (crl c)[n]? = some t) => rt_step h ht
  have hbstep := fun n t (ht : (crl c)[n]? = some t) => bk_step ht
  have hS := fun i d (hd : c.S[i]? = some d) => crl_S hd
  have hX := fun i t (ht : c.X[i]? = some t) => crl_X ht
  have ho := crl_o c
  have hcls := crl_c c
  have hcl := crl_len c
  have hSl := h.S
  have hXl := h.X
  have hrl := rt_len c
  have e0 : bk c 0 = [] := bk0 c
  have r0 : rt c 0 = [] := rt0 c
  unfold allV nodesOf
  rw [hcl]
  have hds := len_dcs c.S
  have hxl := len_tcs c.X
  clear h
  generalize crl c = q at *
  generalize bk c = B at *
  generalize rt c = R at *
  obtain ⟨S, X, ⟨k, l, n, ts⟩, ⟨k2, l2, n2, us⟩⟩ := c
  unfold crv
  dsimp only [Term.k, Term.l, Term.n, Term.ts] at *
  refine call_wk (E := env 3) (fn := Tryz.f32) (c := bodyOf Tryz.f32) (env_ok 3) mixed (by kernel_rfl) (by kernel_rfl) (by kernel_rfl) (by kernel_rfl) (by kernel_rfl) (by kernel_rfl) rfl true ?_
  conv => whnf
  repeat (first | (refine And.intro rfl ?_; conv => whnf) | (refine And.intro (by decide) ?_; conv => whnf) | (refine draw_intro true (by kernel_rfl) ?_; conv => whnf) | (refine And.intro ⟨by omega, by omega⟩ ?_; conv => whnf) | (refine And.intro (by omega) ?_; conv => whnf) | (refine And.intro (fun _ => ⟨by omega, by omega⟩) ?_; conv => whnf) | (refine And.intro (of_decide_eq_true rfl) ?_; conv => whnf) | (refine And.intro (fun _ => ?_) (fun h => absurd h ?_); rotate_left; (focus (first | decide | (simp; done) | (simp [tcs]; done))); conv => whnf) | (refine And.intro (fun h => absurd h ?_) (fun _ => ?_); (focus (first | decide | (simp; done) | (simp [tcs]; done))); conv => whnf) | (intro _; conv => whnf))
  refine loop_intro (fun m tm H => ∃ (j : Nat), S.length = m + j ∧
      tm = [(10, .c (.int .i64 (j))), (0, .ptr 0 0), (3, .ptr 3 0), (8, .own 6), (9, .nil), (4, .nil), (5, .nil), (6, .c (.int .i64 (0))), (7, .c (.int .i64 (0)))] ∧
      H = [.box [.own 4, .own 5], .dead, .dead, .box [.c (.sl 6 72 (dcs S)), .c (.sl 4 48 (tcs X)), .c (.int .i64 (k)), .c (.int .i64 (l)), .c (.int .i64 (n)), .c (.sl 4 48 (tcs ts)), .c (.int .i64 (k2)), .c (.int .i64 (l2)), .c (.int .i64 (n2)), .c (.sl 4 48 (tcs us))],
        .row 82 4 48 (nds2 (B j)), .row 25 4 48 (tcs (B j)), .row 3 1 8 (rowN (R j))])
    S.length _ _ ⟨0, by omega, rfl, rfl⟩ ?_ ?_
  · rw [e0, r0]
    refine Wk.trans (Wk.mvbox 0 0 1 82 4 48 [] rfl rfl rfl rfl) ?_
    refine Wk.trans (Wk.mvbox 0 1 2 25 4 48 [] rfl rfl rfl rfl) ?_
    refine Wk.trans (Wk.niltmp 8 3 1 8 rfl rfl) ?_
    exact Wk.sel [0, 1, 2, 3, 4, 5, 6] (by decide) (by first | decide | (show (0 : Nat) ≤ _; decide) | (show ∀ i, i < 0 → _; decide) | (show (1 : Nat) ≤ _; decide) | (show ∀ i, i < 1 → _; decide) | (show (2 : Nat) ≤ _; decide) | (show ∀ i, i < 2 → _; decide) | (show (3 : Nat) ≤ _; decide) | (show ∀ i, i < 3 → _; decide) | (show (4 : Nat) ≤ _; decide) | (show ∀ i, i < 4 → _; decide) | (show (5 : Nat) ≤ _; decide) | (show ∀ i, i < 5 → _; decide) | (show (6 : Nat) ≤ _; decide) | (show ∀ i, i < 6 → _; decide) | (show (7 : Nat) ≤ _; decide) | (show ∀ i, i < 7 → _; decide)) (by first | decide | (show (0 : Nat) ≤ _; decide) | (show ∀ i, i < 0 → _; decide) | (show (1 : Nat) ≤ _; decide) | (show ∀ i, i < 1 → _; decide) | (show (2 : Nat) ≤ _; decide) | (show ∀ i, i < 2 → _; decide) | (show (3 : Nat) ≤ _; decide) | (show ∀ i, i < 3 → _; decide) | (show (4 : Nat) ≤ _; decide) | (show ∀ i, i < 4 → _; decide) | (show (5 : Nat) ≤ _; decide) | (show ∀ i, i < 5 → _; decide) | (show (6 : Nat) ≤ _; decide) | (show ∀ i, i < 6 → _; decide) | (show (7 : Nat) ≤ _; decide) | (show ∀ i, i < 7 → _; decide)) ⟨rfl, rfl, rfl, rfl, rfl, rfl, rfl, trivial⟩ ⟨rfl, rfl, rfl, rfl, rfl, rfl, rfl, rfl, rfl, trivial⟩ rfl
  rintro m tm H ⟨j, hj, rfl, rfl⟩
  conv => whnf
  repeat (first | (refine And.intro rfl ?_; conv => whnf) | (refine And.intro (by decide) ?_; conv => whnf) | (refine draw_intro true (by kernel_rfl) ?_; conv => whnf) | (refine And.intro ⟨by omega, by omega⟩ ?_; conv => whnf) | (refine And.intro (by omega) ?_; conv => whnf) | (refine And.intro (fun _ => ⟨by omega, by omega⟩) ?_; conv => whnf) | (refine And.intro (of_decide_eq_true rfl) ?_; conv => whnf) | (refine And.intro (fun _ => ?_) (fun h => absurd h ?_); rotate_left; (focus (first | decide | (simp; done) | (simp [tcs]; done))); conv => whnf) | (refine And.intro (fun h => absurd h ?_) (fun _ => ?_); (focus (first | decide | (simp; done) | (simp [tcs]; done))); conv => whnf) | (intro _; conv => whnf))
  refine ⟨fun hc => ?_, fun hc => ?_⟩
  · replace hc : (j : Int) < (dcs S).length := of_decide_eq_true hc
    obtain ⟨d, hd⟩ : ∃ d, S[j]? = some d := ⟨S[j]'(by omega), List.getElem?_eq_getElem (by omega)⟩
    have hdc := dcs_at hd
    have hqd := hS j d hd
    have hi := hadd j d.c hqd
    have hRj := hrl j (by omega)
    have hrr := rowN_len (R j)
    have hb1 : ((rowN (R j)).length + 1) * 8 ≤ 140737488355328 := by omega
    have hb2 : (rowN (R j)).length + 1 ≤ 9223372036854775807 := by omega
    rw [← hbstep j d.c hqd] at hi
    have hRs := hstep j d.c hqd
    rw [← hbstep j d.c hqd] at hRs
    obtain ⟨s', ⟨k', l', n', us'⟩, i'⟩ := d
    dsimp only at hi hRs
    rw [tv_mk] at hi
    conv => whnf
    repeat (first | (refine And.intro rfl ?_; conv => whnf) | (refine And.intro (by decide) ?_; conv => whnf) | (refine draw_intro true (by kernel_rfl) ?_; conv => whnf) | (refine And.intro ⟨by omega, by omega⟩ ?_; conv => whnf) | (refine And.intro (by omega) ?_; conv => whnf) | (refine And.intro (fun _ => ⟨by omega, by omega⟩) ?_; conv => whnf) | (refine And.intro (of_decide_eq_true rfl) ?_; conv => whnf) | (refine And.intro (fun _ => ?_) (fun h => absurd h ?_); rotate_left; (focus (first | decide | (simp; done) | (simp [tcs]; done))); conv => whnf) | (refine And.intro (fun h => absurd h ?_) (fun _ => ?_); (focus (first | decide | (simp; done) | (simp [tcs]; done))); conv => whnf) | (intro _; conv => whnf))
    refine ⟨_, ⟨by omega, hdc⟩, ?_⟩
    conv => whnf
    refine ⟨show 4 ≤ 5 by decide, ?_⟩
    conv => whnf
    repeat (first | (refine And.intro rfl ?_; conv => whnf) | (refine And.intro (by decide) ?_; conv => whnf) | (refine draw_intro true (by kernel_rfl) ?_; conv => whnf) | (refine And.intro ⟨by omega, by omega⟩ ?_; conv => whnf) | (refine And.intro (by omega) ?_; conv => whnf) | (refine And.intro (fun _ => ⟨by omega, by omega⟩) ?_; conv => whnf) | (refine And.intro (of_decide_eq_true rfl) ?_; conv => whnf) | (refine And.intro (fun _ => ?_) (fun h => absurd h ?_); rotate_left; (focus (first | decide | (simp; done) | (simp [tcs]; done))); conv => whnf) | (refine And.intro (fun h => absurd h ?_) (fun _ => ?_); (focus (first | decide | (simp; done) | (simp [tcs]; done))); conv => whnf) | (intro _; conv => whnf))
    try (refine draw_intro true (by kernel_rfl) ?_; conv => whnf)
    first | refine CallSt.use hi [0, 4, 5] ⟨rfl, rfl, rfl, trivial⟩ (by decide) rfl ?_ | refine CallPt.useS hi [0, 4, 5] ⟨rfl, rfl, rfl, trivial⟩ (by decide) rfl ?_
    rintro _ _ ⟨rfl, rfl⟩ _
    conv => whnf
    repeat (first | (refine And.intro rfl ?_; conv => whnf) | (refine And.intro (by decide) ?_; conv => whnf) | (refine draw_intro true (by kernel_rfl) ?_; conv => whnf) | (refine And.intro ⟨by omega, by omega⟩ ?_; conv => whnf) | (refine And.intro (by omega) ?_; conv => whnf) | (refine And.intro (fun _ => ⟨by omega, by omega⟩) ?_; conv => whnf) | (refine And.intro (of_decide_eq_true rfl) ?_; conv => whnf) | (refine And.intro (fun _ => ?_) (fun h => absurd h ?_); rotate_left; (focus (first | decide | (simp; done) | (simp [tcs]; done))); conv => whnf) | (refine And.intro (fun h => absurd h ?_) (fun _ => ?_); (focus (first | decide | (simp; done) | (simp [tcs]; done))); conv => whnf) | (intro _; conv => whnf))
    refine ⟨m - 1, _, _, by omega, ⟨j + 1, by omega, rfl, rfl⟩, Wk.sel [0, 1, 2, 3, 7, 8, 10] (by decide) (by first | decide | (show (0 : Nat) ≤ _; decide) | (show ∀ i, i < 0 → _; decide) | (show (1 : Nat) ≤ _; decide) | (show ∀ i, i < 1 → _; decide) | (show (2 : Nat) ≤ _; decide) | (show ∀ i, i < 2 → _; decide) | (show (3 : Nat) ≤ _; decide) | (show ∀ i, i < 3 → _; decide) | (show (4 : Nat) ≤ _; decide) | (show ∀ i, i < 4 → _; decide) | (show (5 : Nat) ≤ _; decide) | (show ∀ i, i < 5 → _; decide) | (show (6 : Nat) ≤ _; decide) | (show ∀ i, i < 6 → _; decide) | (show (7 : Nat) ≤ _; decide) | (show ∀ i, i < 7 → _; decide)) (by first | decide | (show (0 : Nat) ≤ _; decide) | (show ∀ i, i < 0 → _; decide) | (show (1 : Nat) ≤ _; decide) | (show ∀ i, i < 1 → _; decide) | (show (2 : Nat) ≤ _; decide) | (show ∀ i, i < 2 → _; decide) | (show (3 : Nat) ≤ _; decide) | (show ∀ i, i < 3 → _; decide) | (show (4 : Nat) ≤ _; decide) | (show ∀ i, i < 4 → _; decide) | (show (5 : Nat) ≤ _; decide) | (show ∀ i, i < 5 → _; decide) | (show (6 : Nat) ≤ _; decide) | (show ∀ i, i < 6 → _; decide) | (show (7 : Nat) ≤ _; decide) | (show ∀ i, i < 7 → _; decide)) ⟨rfl, rfl, rfl, rfl, rfl, rfl, ?_, trivial⟩ ⟨rfl, rfl, rfl, rfl, rfl, rfl, rfl, rfl, rfl, trivial⟩ rfl⟩
    rw [hRs, ← rowN_map_snoc]
    rfl
  replace hc : ¬ (j : Int) < (dcs S).length := of_decide_eq_false hc
  obtain rfl : j = S.length := by omega
  conv => whnf
  refine loop_intro (fun m tm H => ∃ (j : Nat), X.length = m + j ∧
      tm = [(11, .c (.int .i64 (j))), (0, .ptr 0 0), (3, .ptr 3 0), (8, .own 6), (9, .own 7), (4, .nil), (5, .nil), (6, .c (.int .i64 (0))), (7, .c (.int .i64 (0)))] ∧
      H = [.box [.own 4, .own 5], .dead, .dead, .box [.c (.sl 6 72 (dcs S)), .c (.sl 4 48 (tcs X)), .c (.int .i64 (k)), .c (.int .i64 (l)), .c (.int .i64 (n)), .c (.sl 4 48 (tcs ts)), .c (.int .i64 (k2)), .c (.int .i64 (l2)), .c (.int .i64 (n2)), .c (.sl 4 48 (tcs us))],
        .row 82 4 48 (nds2 (B (S.length + j))), .row 25 4 48 (tcs (B (S.length + j))), .row 3 1 8 (rowN (R S.length)), .row 3 1 8 (rowN ((R (S.length + j)).drop S.length))])
    X.length _ _ ⟨0, by omega, rfl, rfl⟩ ?_ ?_
  · rw [show S.length + 0 = S.length from rfl, List.drop_of_length_le (show (R S.length).length ≤ S.length by rw [hrl _ (by omega)]; omega)]
    refine Wk.trans (Wk.niltmp 9 3 1 8 rfl rfl) ?_
    exact Wk.sel [0, 1, 2, 3, 4, 5, 6, 7] (by decide) (by first | decide | (show (0 : Nat) ≤ _; decide) | (show ∀ i, i < 0 → _; decide) | (show (1 : Nat) ≤ _; decide) | (show ∀ i, i < 1 → _; decide) | (show (2 : Nat) ≤ _; decide) | (show ∀ i, i < 2 → _; decide) | (show (3 : Nat) ≤ _; decide) | (show ∀ i, i < 3 → _; decide) | (show (4 : Nat) ≤ _; decide) | (show ∀ i, i < 4 → _; decide) | (show (5 : Nat) ≤ _; decide) | (show ∀ i, i < 5 → _; decide) | (show (6 : Nat) ≤ _; decide) | (show ∀ i, i < 6 → _; decide) | (show (7 : Nat) ≤ _; decide) | (show ∀ i, i < 7 → _; decide)) (by first | decide | (show (0 : Nat) ≤ _; decide) | (show ∀ i, i < 0 → _; decide) | (show (1 : Nat) ≤ _; decide) | (show ∀ i, i < 1 → _; decide) | (show (2 : Nat) ≤ _; decide) | (show ∀ i, i < 2 → _; decide) | (show (3 : Nat) ≤ _; decide) | (show ∀ i, i < 3 → _; decide) | (show (4 : Nat) ≤ _; decide) | (show ∀ i, i < 4 → _; decide) | (show (5 : Nat) ≤ _; decide) | (show ∀ i, i < 5 → _; decide) | (show (6 : Nat) ≤ _; decide) | (show ∀ i, i < 6 → _; decide) | (show (7 : Nat) ≤ _; decide) | (show ∀ i, i < 7 → _; decide)) ⟨rfl, rfl, rfl, rfl, rfl, rfl, rfl, rfl, trivial⟩ ⟨rfl, rfl, rfl, rfl, rfl, rfl, rfl, rfl, rfl, trivial⟩ rfl
  rintro m tm H ⟨j, hj, rfl, rfl⟩
  conv => whnf
  repeat (first | (refine And.intro rfl ?_; conv => whnf) | (refine And.intro (by decide) ?_; conv => whnf) | (refine draw_intro true (by kernel_rfl) ?_; conv => whnf) | (refine And.intro ⟨by omega, by omega⟩ ?_; conv => whnf) | (refine And.intro (by omega) ?_; conv => whnf) | (refine And.intro (fun _ => ⟨by omega, by omega⟩) ?_; conv => whnf) | (refine And.intro (of_decide_eq_true rfl) ?_; conv => whnf) | (refine And.intro (fun _ => ?_) (fun h => absurd h ?_); rotate_left; (focus (first | decide | (simp; done) | (simp [tcs]; done))); conv => whnf) | (refine And.intro (fun h => absurd h ?_) (fun _ => ?_); (focus (first | decide | (simp; done) | (simp [tcs]; done))); conv => whnf) | (intro _; conv => whnf))
  refine ⟨fun hc => ?_, fun hc => ?_⟩
  · replace hc : (j : Int) < (tcs X).length := of_decide_eq_true hc
    obtain ⟨u, hu⟩ : ∃ u, X[j]? = some u := ⟨X[j]'(by omega), List.getElem?_eq_getElem (by omega)⟩
    have huc := tcs_at X j u hu
    have hqd := hX j u hu
    have hi := hadd _ u hqd
    have hRj := hrl (S.length + j) (by omega)
    have hrr := rowN_len ((R (S.length + j)).drop S.length)
    rw [List.length_drop, hRj] at hrr
    have hb1 : ((rowN ((R (S.length + j)).drop S.length)).length + 1) * 8 ≤ 140737488355328 := by omega
    have hb2 : (rowN ((R (S.length + j)).drop S.length)).length + 1 ≤ 9223372036854775807 := by omega
    rw [← hbstep _ u hqd] at hi
    have hRs : (R (S.length + (j + 1))).drop S.length = (R (S.length + j)).drop S.length ++ [pl (B (S.length + j + 1)) u] := by
      rw [show S.length + (j + 1) = S.length + j + 1 by omega, hstep _ u hqd, hbstep _ u hqd, List.drop_append_of_le_length (by omega)]
    obtain ⟨k', l', n', us'⟩ := u
    rw [tv_mk] at hi
    conv => whnf
    repeat (first | (refine And.intro rfl ?_; conv => whnf) | (refine And.intro (by decide) ?_; conv => whnf) | (refine draw_intro true (by kernel_rfl) ?_; conv => whnf) | (refine And.intro ⟨by omega, by omega⟩ ?_; conv => whnf) | (refine And.intro (by omega) ?_; conv => whnf) | (refine And.intro (fun _ => ⟨by omega, by omega⟩) ?_; conv => whnf) | (refine And.intro (of_decide_eq_true rfl) ?_; conv => whnf) | (refine And.intro (fun _ => ?_) (fun h => absurd h ?_); rotate_left; (focus (first | decide | (simp; done) | (simp [tcs]; done))); conv => whnf) | (refine And.intro (fun h => absurd h ?_) (fun _ => ?_); (focus (first | decide | (simp; done) | (simp [tcs]; done))); conv => whnf) | (intro _; conv => whnf))
    refine ⟨_, ⟨by omega, by simpa using huc⟩, ?_⟩
    conv => whnf
    refine ⟨Nat.le_refl 4, ?_⟩
    conv => whnf
    repeat (first | (refine And.intro rfl ?_; conv => whnf) | (refine And.intro (by decide) ?_; conv => whnf) | (refine draw_intro true (by kernel_rfl) ?_; conv => whnf) | (refine And.intro ⟨by omega, by omega⟩ ?_; conv => whnf) | (refine And.intro (by omega) ?_; conv => whnf) | (refine And.intro (fun _ => ⟨by omega, by omega⟩) ?_; conv => whnf) | (refine And.intro (of_decide_eq_true rfl) ?_; conv => whnf) | (refine And.intro (fun _ => ?_) (fun h => absurd h ?_); rotate_left; (focus (first | decide | (simp; done) | (simp [tcs]; done))); conv => whnf) | (refine And.intro (fun h => absurd h ?_) (fun _ => ?_); (focus (first | decide | (simp; done) | (simp [tcs]; done))); conv => whnf) | (intro _; conv => whnf))
    try (refine draw_intro true (by kernel_rfl) ?_; conv => whnf)
    first | refine CallSt.use hi [0, 4, 5] ⟨rfl, rfl, rfl, trivial⟩ (by decide) rfl ?_ | refine CallPt.useS hi [0, 4, 5] ⟨rfl, rfl, rfl, trivial⟩ (by decide) rfl ?_
    rintro _ _ ⟨rfl, rfl⟩ _
    conv => whnf
    repeat (first | (refine And.intro rfl ?_; conv => whnf) | (refine And.intro (by decide) ?_; conv => whnf) | (refine draw_intro true (by kernel_rfl) ?_; conv => whnf) | (refine And.intro ⟨by omega, by omega⟩ ?_; conv => whnf) | (refine And.intro (by omega) ?_; conv => whnf) | (refine And.intro (fun _ => ⟨by omega, by omega⟩) ?_; conv => whnf) | (refine And.intro (of_decide_eq_true rfl) ?_; conv => whnf) | (refine And.intro (fun _ => ?_) (fun h => absurd h ?_); rotate_left; (focus (first | decide | (simp; done) | (simp [tcs]; done))); conv => whnf) | (refine And.intro (fun h => absurd h ?_) (fun _ => ?_); (focus (first | decide | (simp; done) | (simp [tcs]; done))); conv => whnf) | (intro _; conv => whnf))
    refine ⟨m - 1, _, _, by omega, ⟨j + 1, by omega, rfl, rfl⟩, Wk.sel [0, 1, 2, 3, 8, 9, 6, 11] (by decide) (by first | decide | (show (0 : Nat) ≤ _; decide) | (show ∀ i, i < 0 → _; decide) | (show (1 : Nat) ≤ _; decide) | (show ∀ i, i < 1 → _; decide) | (show (2 : Nat) ≤ _; decide) | (show ∀ i, i < 2 → _; decide) | (show (3 : Nat) ≤ _; decide) | (show ∀ i, i < 3 → _; decide) | (show (4 : Nat) ≤ _; decide) | (show ∀ i, i < 4 → _; decide) | (show (5 : Nat) ≤ _; decide) | (show ∀ i, i < 5 → _; decide) | (show (6 : Nat) ≤ _; decide) | (show ∀ i, i < 6 → _; decide) | (show (7 : Nat) ≤ _; decide) | (show ∀ i, i < 7 → _; decide)) (by first | decide | (show (0 : Nat) ≤ _; decide) | (show ∀ i, i < 0 → _; decide) | (show (1 : Nat) ≤ _; decide) | (show ∀ i, i < 1 → _; decide) | (show (2 : Nat) ≤ _; decide) | (show ∀ i, i < 2 → _; decide) | (show (3 : Nat) ≤ _; decide) | (show ∀ i, i < 3 → _; decide) | (show (4 : Nat) ≤ _; decide) | (show ∀ i, i < 4 → _; decide) | (show (5 : Nat) ≤ _; decide) | (show ∀ i, i < 5 → _; decide) | (show (6 : Nat) ≤ _; decide) | (show ∀ i, i < 6 → _; decide) | (show (7 : Nat) ≤ _; decide) | (show ∀ i, i < 7 → _; decide)) ⟨rfl, rfl, rfl, rfl, rfl, rfl, rfl, ?_, trivial⟩ ⟨rfl, rfl, rfl, rfl, rfl, rfl, rfl, rfl, rfl, trivial⟩ rfl⟩
    rw [hRs, ← rowN_map_snoc]
    rfl
  replace hc : ¬ (j : Int) < (tcs X).length := of_decide_eq_false hc
  obtain rfl : j = X.length := by omega
  have h1 := hadd _ _ ho
  rw [← hbstep _ _ ho] at h1
  have h2 := hadd _ _ hcls
  rw [← hbstep _ _ hcls] at h2
  rw [tv_mk] at h1 h2
  conv => whnf
  repeat (first | (refine And.intro rfl ?_; conv => whnf) | (refine And.intro (by decide) ?_; conv => whnf) | (refine draw_intro true (by kernel_rfl) ?_; conv => whnf) | (refine And.intro ⟨by omega, by omega⟩ ?_; conv => whnf) | (refine And.intro (by omega) ?_; conv => whnf) | (refine And.intro (fun _ => ⟨by omega, by omega⟩) ?_; conv => whnf) | (refine And.intro (of_decide_eq_true rfl) ?_; conv => whnf) | (refine And.intro (fun _ => ?_) (fun h => absurd h ?_); rotate_left; (focus (first | decide | (simp; done) | (simp [tcs]; done))); conv => whnf) | (refine And.intro (fun h => absurd h ?_) (fun _ => ?_); (focus (first | decide | (simp; done) | (simp [tcs]; done))); conv => whnf) | (intro _; conv => whnf))
  try (refine draw_intro true (by kernel_rfl) ?_; conv => whnf)
  first | refine CallSt.use h1 [0, 4, 5] ⟨rfl, rfl, rfl, trivial⟩ (by decide) rfl ?_ | refine CallPt.useS h1 [0, 4, 5] ⟨rfl, rfl, rfl, trivial⟩ (by decide) rfl ?_
  rintro _ _ ⟨rfl, rfl⟩ _
  conv => whnf
  repeat (first | (refine And.intro rfl ?_; conv => whnf) | (refine And.intro (by decide) ?_; conv => whnf) | (refine draw_intro true (by kernel_rfl) ?_; conv => whnf) | (refine And.intro ⟨by omega, by omega⟩ ?_; conv => whnf) | (refine And.intro (by omega) ?_; conv => whnf) | (refine And.intro (fun _ => ⟨by omega, by omega⟩) ?_; conv => whnf) | (refine And.intro (of_decide_eq_true rfl) ?_; conv => whnf) | (refine And.intro (fun _ => ?_) (fun h => absurd h ?_); rotate_left; (focus (first | decide | (simp; done) | (simp [tcs]; done))); conv => whnf) | (refine And.intro (fun h => absurd h ?_) (fun _ => ?_); (focus (first | decide | (simp; done) | (simp [tcs]; done))); conv => whnf) | (intro _; conv => whnf))
  try (refine draw_intro true (by kernel_rfl) ?_; conv => whnf)
  first | refine CallSt.use h2 [0, 8, 9] ⟨rfl, rfl, rfl, trivial⟩ (by decide) rfl ?_ | refine CallPt.useS h2 [0, 8, 9] ⟨rfl, rfl, rfl, trivial⟩ (by decide) rfl ?_
  rintro _ _ ⟨rfl, rfl⟩ _
  conv => whnf
  repeat (first | (refine And.intro rfl ?_; conv => whnf) | (refine And.intro (by decide) ?_; conv => whnf) | (refine draw_intro true (by kernel_rfl) ?_; conv => whnf) | (refine And.intro ⟨by omega, by omega⟩ ?_; conv => whnf) | (refine And.intro (by omega) ?_; conv => whnf) | (refine And.intro (fun _ => ⟨by omega, by omega⟩) ?_; conv => whnf) | (refine And.intro (of_decide_eq_true rfl) ?_; conv => whnf) | (refine And.intro (fun _ => ?_) (fun h => absurd h ?_); rotate_left; (focus (first | decide | (simp; done) | (simp [tcs]; done))); conv => whnf) | (refine And.intro (fun h => absurd h ?_) (fun _ => ?_); (focus (first | decide | (simp; done) | (simp [tcs]; done))); conv => whnf) | (intro _; conv => whnf))
  refine ⟨[(4, .own 5), (5, .own 6), (6, .c (.int .i64 ((pl (B (S.length + X.length + 1)) (.mk k l n ts) : Nat)))), (7, .c (.int .i64 ((pl (B (S.length + X.length + 1 + 1)) (.mk k2 l2 n2 us) : Nat))))],
    [.box [.own 3, .own 4], .dead, .dead, .row 82 4 48 (nds2 (B (S.length + X.length + 1 + 1))), .row 25 4 48 (tcs (B (S.length + X.length + 1 + 1))), .row 3 1 8 (rowN (R S.length)), .row 3 1 8 (rowN ((R (S.length + X.length)).drop S.length))],
    Wk.sel [0, 1, 2, 10, 11, 6, 7] (by decide) (by first | decide | (show (0 : Nat) ≤ _; decide) | (show ∀ i, i < 0 → _; decide) | (show (1 : Nat) ≤ _; decide) | (show ∀ i, i < 1 → _; decide) | (show (2 : Nat) ≤ _; decide) | (show ∀ i, i < 2 → _; decide) | (show (3 : Nat) ≤ _; decide) | (show ∀ i, i < 3 → _; decide) | (show (4 : Nat) ≤ _; decide) | (show ∀ i, i < 4 → _; decide) | (show (5 : Nat) ≤ _; decide) | (show ∀ i, i < 5 → _; decide) | (show (6 : Nat) ≤ _; decide) | (show ∀ i, i < 6 → _; decide) | (show (7 : Nat) ≤ _; decide) | (show ∀ i, i < 7 → _; decide)) (by first | decide | (show (0 : Nat) ≤ _; decide) | (show ∀ i, i < 0 → _; decide) | (show (1 : Nat) ≤ _; decide) | (show ∀ i, i < 1 → _; decide) | (show (2 : Nat) ≤ _; decide) | (show ∀ i, i < 2 → _; decide) | (show (3 : Nat) ≤ _; decide) | (show ∀ i, i < 3 → _; decide) | (show (4 : Nat) ≤ _; decide) | (show ∀ i, i < 4 → _; decide) | (show (5 : Nat) ≤ _; decide) | (show ∀ i, i < 5 → _; decide) | (show (6 : Nat) ≤ _; decide) | (show ∀ i, i < 6 → _; decide) | (show (7 : Nat) ≤ _; decide) | (show ∀ i, i < 7 → _; decide)) ⟨rfl, rfl, rfl, rfl, rfl, rfl, rfl, trivial⟩ ⟨rfl, rfl, rfl, rfl, trivial⟩ rfl, ?_⟩
  conv => whnf
  exact ⟨rfl, rfl⟩
end Go.Tr
/- The reference of trusslaw19: closed, Built, Nodes, Count. -/
namespace Go.Tr
open Go.Proofs
theorem cRClosed19 (t : Term) : CallSt Tryz.prog 28 [tv t] [] (fun r H' => r = .c (.bool (closedT t)) ∧ H' = []) := by
  have h16 := c16 t
  rw [← prop_rprop] at h16
  have hl := len_rowI (conF 3 t)
  unfold closedT
  cases hp : prop t with
  | false =>
    rw [hp] at h16
    generalize conF 3 t = L at *
    obtain ⟨k, l, n, ts⟩ := t
    rw [tv_mk] at *
    refine call_pure (E := env 0) (fn := Tryz.f28) (c := bodyOf Tryz.f28) (env_ok 0) mixed (by kernel_rfl) (by kernel_rfl) (by kernel_rfl) (by kernel_rfl) (by kernel_rfl) (by kernel_rfl) rfl ?_
    conv => whnf
    try (refine draw_intro true (by kernel_rfl) ?_; conv => whnf)
    first | refine CallSt.use h16 [] trivial (by decide) rfl ?_ | refine CallPt.useS h16 [] trivial (by decide) rfl ?_
    rintro _ _ ⟨rfl, rfl⟩ _
    conv => whnf
    repeat (first | (refine And.intro rfl ?_; conv => whnf) | (refine And.intro (by decide) ?_; conv => whnf) | (refine draw_intro true (by kernel_rfl) ?_; conv => whnf) | (refine And.intro ⟨by omega, by omega⟩ ?_; conv => whnf) | (refine And.intro (by omega) ?_; conv => whnf) | (refine And.intro (fun _ => ⟨by omega, by omega⟩) ?_; conv => whnf) | (refine And.intro (of_decide_eq_true rfl) ?_; conv => whnf) | (refine And.intro (fun _ => ?_) (fun h => absurd h ?_); rotate_left; (focus (first | decide | (simp; done) | (simp [tcs]; done))); conv => whnf) | (refine And.intro (fun h => absurd h ?_) (fun _ => ?_); (focus (first | decide | (simp; done) | (simp [tcs]; done))); conv => whnf) | (intro _; conv => whnf))
    all_goals (first | rfl | exact ⟨rfl, rfl⟩ | exact ⟨rfl, rfl, rfl⟩)
  | true =>
    have h3 := cRMetas hp
    rw [hp] at h16
    generalize conF 3 t = L at *
    obtain ⟨k, l, n, ts⟩ := t
    rw [tv_mk] at *
    refine call_pure (E := env 0) (fn := Tryz.f28) (c := bodyOf Tryz.f28) (env_ok 0) mixed (by kernel_rfl) (by kernel_rfl) (by kernel_rfl) (by kernel_rfl) (by kernel_rfl) (by kernel_rfl) rfl ?_
    conv => whnf
    try (refine draw_intro true (by kernel_rfl) ?_; conv => whnf)
    first | refine CallSt.use h16 [] trivial (by decide) rfl ?_ | refine CallPt.useS h16 [] trivial (by decide) rfl ?_
    rintro _ _ ⟨rfl, rfl⟩ _
    conv => whnf
    repeat (first | (refine And.intro rfl ?_; conv => whnf) | (refine And.intro (by decide) ?_; conv => whnf) | (refine draw_intro true (by kernel_rfl) ?_; conv => whnf) | (refine And.intro ⟨by omega, by omega⟩ ?_; conv => whnf) | (refine And.intro (by omega) ?_; conv => whnf) | (refine And.intro (fun _ => ⟨by omega, by omega⟩) ?_; conv => whnf) | (refine And.intro (of_decide_eq_true rfl) ?_; conv => whnf) | (refine And.intro (fun _ => ?_) (fun h => absurd h ?_); rotate_left; (focus (first | decide | (simp; done) | (simp [tcs]; done))); conv => whnf) | (refine And.intro (fun h => absurd h ?_) (fun _ => ?_); (focus (first | decide | (simp; done) | (simp [tcs]; done))); conv => whnf) | (intro _; conv => whnf))
    try (refine draw_intro true (by kernel_rfl) ?_; conv => whnf)
    first | refine CallSt.use h3 [] trivial (by decide) rfl ?_ | refine CallPt.useS h3 [] trivial (by decide) rfl ?_
    rintro _ _ ⟨rfl, rfl⟩ _
    conv => whnf
    repeat (first | (refine And.intro rfl ?_; conv => whnf) | (refine And.intro (by decide) ?_; conv => whnf) | (refine draw_intro true (by kernel_rfl) ?_; conv => whnf) | (refine And.intro ⟨by omega, by omega⟩ ?_; conv => whnf) | (refine And.intro (by omega) ?_; conv => whnf) | (refine And.intro (fun _ => ⟨by omega, by omega⟩) ?_; conv => whnf) | (refine And.intro (of_decide_eq_true rfl) ?_; conv => whnf) | (refine And.intro (fun _ => ?_) (fun h => absurd h ?_); rotate_left; (focus (first | decide | (simp; done) | (simp [tcs]; done))); conv => whnf) | (refine And.intro (fun h => absurd h ?_) (fun _ => ?_); (focus (first | decide | (simp; done) | (simp [tcs]; done))); conv => whnf) | (intro _; conv => whnf))
    exact ⟨congrArg (fun z => AV.c (CV.bool z)) (by rw [hl]; simp), rfl⟩
theorem check_closed {sig : List Dcl} (h : checkB sig = true) : ∀ d ∈ sig, closedT d.c = true := fun d hd => by
  obtain ⟨i, hi⟩ := List.mem_iff_getElem?.1 hd
  have hil := (List.getElem?_eq_some_iff.1 hi).1
  unfold checkB at h
  simp only [Bool.and_eq_true, List.all_eq_true] at h
  have hg := h.2 i (by simpa using hil)
  unfold goodD at hg
  rw [hi] at hg
  simp only [Bool.and_eq_true] at hg
  have hf := hg.2
  unfold formedF at hf
  simp only [Bool.and_eq_true] at hf
  have hp := hf.1.1.1.1
  have hn := hf.1.2.2
  rw [← closed_law hp] at hn
  unfold closedF at hn
  simp only [Bool.and_eq_true] at hn
  unfold closedT
  rw [hp, hn.1.2]
  rfl
theorem builtB_ref (c : Crt) : builtB c = (checkB c.S && !decide ((30 : Int) < (tcs c.X).length) && closedT c.o && closedT c.c && c.X.all closedT) := by
  have hxl := len_tcs c.X
  have e2 : decide (c.X.length ≤ 30) = !decide ((30 : Int) < (tcs c.X).length) := by
    by_cases h : c.X.length ≤ 30
    · rw [decide_eq_true h, decide_eq_false (by omega)]; rfl
    · rw [decide_eq_false h, decide_eq_true (by omega)]; rfl
  unfold builtB crl
  rw [e2]
  cases hcb : checkB c.S with
  | false => simp
  | true =>
    have e1 : (c.S.map (·.c)).all closedT = true := by
      rw [List.all_eq_true]
      intro t ht
      obtain ⟨d, hd, rfl⟩ := List.mem_map.1 ht
      exact check_closed hcb d hd
    rw [List.all_append, e1, List.all_append]
    simp only [List.all_cons, List.all_nil, Bool.and_true, Bool.true_and]
    cases decide ((30 : Int) < (tcs c.X).length) <;> cases closedT c.o <;> cases closedT c.c <;> simp
theorem cRBuilt (c : Crt) : CallSt Tryz.prog 10 [crv c] [] (fun r H' => r = .c (.bool (builtB c)) ∧ H' = []) := by
  have hf := cRFormed c.S
  have hxl := len_tcs c.X
  have ho := cRClosed19 c.o
  have hc := cRClosed19 c.c
  rw [builtB_ref]
  have hX := fun t => cRClosed19 t
  generalize checkB c.S = b1 at *
  generalize closedT c.o = b3 at *
  generalize closedT c.c = b4 at *
  obtain ⟨S, X, ⟨k, l, n, ts⟩, ⟨k2, l2, n2, us⟩⟩ := c
  unfold crv
  rw [tv_mk] at ho hc
  dsimp only [Term.k, Term.l, Term.n, Term.ts] at *
  cases b1 with
  | false =>
    refine call_pure (E := env 0) (fn := Tryz.f10) (c := bodyOf Tryz.f10) (env_ok 0) mixed (by kernel_rfl) (by kernel_rfl) (by kernel_rfl) (by kernel_rfl) (by kernel_rfl) (by kernel_rfl) rfl ?_
    conv => whnf
    repeat (first | (refine And.intro rfl ?_; conv => whnf) | (refine And.intro (by decide) ?_; conv => whnf) | (refine draw_intro true (by kernel_rfl) ?_; conv => whnf) | (refine And.intro ⟨by omega, by omega⟩ ?_; conv => whnf) | (refine And.intro (by omega) ?_; conv => whnf) | (refine And.intro (fun _ => ⟨by omega, by omega⟩) ?_; conv => whnf) | (refine And.intro (of_decide_eq_true rfl) ?_; conv => whnf) | (refine And.intro (fun _ => ?_) (fun h => absurd h ?_); rotate_left; (focus (first | decide | (simp; done) | (simp [tcs]; done))); conv => whnf) | (refine And.intro (fun h => absurd h ?_) (fun _ => ?_); (focus (first | decide | (simp; done) | (simp [tcs]; done))); conv => whnf) | (intro _; conv => whnf))
    try (refine draw_intro true (by kernel_rfl) ?_; conv => whnf)
    first | refine CallSt.use hf [] trivial (by decide) rfl ?_ | refine CallPt.useS hf [] trivial (by decide) rfl ?_
    rintro _ _ ⟨rfl, rfl⟩ _
    conv => whnf
    repeat (first | (refine And.intro rfl ?_; conv => whnf) | (refine And.intro (by decide) ?_; conv => whnf) | (refine draw_intro true (by kernel_rfl) ?_; conv => whnf) | (refine And.intro ⟨by omega, by omega⟩ ?_; conv => whnf) | (refine And.intro (by omega) ?_; conv => whnf) | (refine And.intro (fun _ => ⟨by omega, by omega⟩) ?_; conv => whnf) | (refine And.intro (of_decide_eq_true rfl) ?_; conv => whnf) | (refine And.intro (fun _ => ?_) (fun h => absurd h ?_); rotate_left; (focus (first | decide | (simp; done) | (simp [tcs]; done))); conv => whnf) | (refine And.intro (fun h => absurd h ?_) (fun _ => ?_); (focus (first | decide | (simp; done) | (simp [tcs]; done))); conv => whnf) | (intro _; conv => whnf))
    all_goals (first | rfl | exact ⟨rfl, rfl⟩ | exact ⟨rfl, rfl, rfl⟩)
  | true =>
  cases hb2 : decide ((30 : Int) < (tcs X).length) with
  | true =>
    refine call_pure (E := env 0) (fn := Tryz.f10) (c := bodyOf Tryz.f10) (env_ok 0) mixed (by kernel_rfl) (by kernel_rfl) (by kernel_rfl) (by kernel_rfl) (by kernel_rfl) (by kernel_rfl) rfl ?_
    conv => whnf
    repeat (first | (refine And.intro rfl ?_; conv => whnf) | (refine And.intro (by decide) ?_; conv => whnf) | (refine draw_intro true (by kernel_rfl) ?_; conv => whnf) | (refine And.intro ⟨by omega, by omega⟩ ?_; conv => whnf) | (refine And.intro (by omega) ?_; conv => whnf) | (refine And.intro (fun _ => ⟨by omega, by omega⟩) ?_; conv => whnf) | (refine And.intro (of_decide_eq_true rfl) ?_; conv => whnf) | (refine And.intro (fun _ => ?_) (fun h => absurd h ?_); rotate_left; (focus (first | decide | (simp; done) | (simp [tcs]; done))); conv => whnf) | (refine And.intro (fun h => absurd h ?_) (fun _ => ?_); (focus (first | decide | (simp; done) | (simp [tcs]; done))); conv => whnf) | (intro _; conv => whnf))
    try (refine draw_intro true (by kernel_rfl) ?_; conv => whnf)
    first | refine CallSt.use hf [] trivial (by decide) rfl ?_ | refine CallPt.useS hf [] trivial (by decide) rfl ?_
    rintro _ _ ⟨rfl, rfl⟩ _
    conv => whnf
    repeat (first | (refine And.intro rfl ?_; conv => whnf) | (refine And.intro (by decide) ?_; conv => whnf) | (refine draw_intro true (by kernel_rfl) ?_; conv => whnf) | (refine And.intro ⟨by omega, by omega⟩ ?_; conv => whnf) | (refine And.intro (by omega) ?_; conv => whnf) | (refine And.intro (fun _ => ⟨by omega, by omega⟩) ?_; conv => whnf) | (refine And.intro (of_decide_eq_true rfl) ?_; conv => whnf) | (refine And.intro (fun _ => ?_) (fun h => absurd h ?_); rotate_left; (focus (first | decide | (simp; done) | (simp [tcs]; done))); conv => whnf) | (refine And.intro (fun h => absurd h ?_) (fun _ => ?_); (focus (first | decide | (simp; done) | (simp [tcs]; done))); conv => whnf) | (intro _; conv => whnf))
    rw [hb2]
    repeat (first | (refine And.intro rfl ?_; conv => whnf) | (refine And.intro (by decide) ?_; conv => whnf) | (refine draw_intro true (by kernel_rfl) ?_; conv => whnf) | (refine And.intro ⟨by omega, by omega⟩ ?_; conv => whnf) | (refine And.intro (by omega) ?_; conv => whnf) | (refine And.intro (fun _ => ⟨by omega, by omega⟩) ?_; conv => whnf) | (refine And.intro (of_decide_eq_true rfl) ?_; conv => whnf) | (refine And.intro (fun _ => ?_) (fun h => absurd h ?_); rotate_left; (focus (first | decide | (simp; done) | (simp [tcs]; done))); conv => whnf) | (refine And.intro (fun h => absurd h ?_) (fun _ => ?_); (focus (first | decide | (simp; done) | (simp [tcs]; done))); conv => whnf) | (intro _; conv => whnf))
    all_goals (first | rfl | exact ⟨rfl, rfl⟩ | exact ⟨rfl, rfl, rfl⟩)
  | false =>
  cases b3 with
  | false =>
    refine call_pure (E := env 0) (fn := Tryz.f10) (c := bodyOf Tryz.f10) (env_ok 0) mixed (by kernel_rfl) (by kernel_rfl) (by kernel_rfl) (by kernel_rfl) (by kernel_rfl) (by kernel_rfl) rfl ?_
    conv => whnf
    repeat (first | (refine And.intro rfl ?_; conv => whnf) | (refine And.intro (by decide) ?_; conv => whnf) | (refine draw_intro true (by kernel_rfl) ?_; conv => whnf) | (refine And.intro ⟨by omega, by omega⟩ ?_; conv => whnf) | (refine And.intro (by omega) ?_; conv => whnf) | (refine And.intro (fun _ => ⟨by omega, by omega⟩) ?_; conv => whnf) | (refine And.intro (of_decide_eq_true rfl) ?_; conv => whnf) | (refine And.intro (fun _ => ?_) (fun h => absurd h ?_); rotate_left; (focus (first | decide | (simp; done) | (simp [tcs]; done))); conv => whnf) | (refine And.intro (fun h => absurd h ?_) (fun _ => ?_); (focus (first | decide | (simp; done) | (simp [tcs]; done))); conv => whnf) | (intro _; conv => whnf))
    try (refine draw_intro true (by kernel_rfl) ?_; conv => whnf)
    first | refine CallSt.use hf [] trivial (by decide) rfl ?_ | refine CallPt.useS hf [] trivial (by decide) rfl ?_
    rintro _ _ ⟨rfl, rfl⟩ _
    conv => whnf
    repeat (first | (refine And.intro rfl ?_; conv => whnf) | (refine And.intro (by decide) ?_; conv => whnf) | (refine draw_intro true (by kernel_rfl) ?_; conv => whnf) | (refine And.intro ⟨by omega, by omega⟩ ?_; conv => whnf) | (refine And.intro (by omega) ?_; conv => whnf) | (refine And.intro (fun _ => ⟨by omega, by omega⟩) ?_; conv => whnf) | (refine And.intro (of_decide_eq_true rfl) ?_; conv => whnf) | (refine And.intro (fun _ => ?_) (fun h => absurd h ?_); rotate_left; (focus (first | decide | (simp; done) | (simp [tcs]; done))); conv => whnf) | (refine And.intro (fun h => absurd h ?_) (fun _ => ?_); (focus (first | decide | (simp; done) | (simp [tcs]; done))); conv => whnf) | (intro _; conv => whnf))
    rw [hb2]
    repeat (first | (refine And.intro rfl ?_; conv => whnf) | (refine And.intro (by decide) ?_; conv => whnf) | (refine draw_intro true (by kernel_rfl) ?_; conv => whnf) | (refine And.intro ⟨by omega, by omega⟩ ?_; conv => whnf) | (refine And.intro (by omega) ?_; conv => whnf) | (refine And.intro (fun _ => ⟨by omega, by omega⟩) ?_; conv => whnf) | (refine And.intro (of_decide_eq_true rfl) ?_; conv => whnf) | (refine And.intro (fun _ => ?_) (fun h => absurd h ?_); rotate_left; (focus (first | decide | (simp; done) | (simp [tcs]; done))); conv => whnf) | (refine And.intro (fun h => absurd h ?_) (fun _ => ?_); (focus (first | decide | (simp; done) | (simp [tcs]; done))); conv => whnf) | (intro _; conv => whnf))
    try (refine draw_intro true (by kernel_rfl) ?_; conv => whnf)
    first | refine CallSt.use ho [] trivial (by decide) rfl ?_ | refine CallPt.useS ho [] trivial (by decide) rfl ?_
    rintro _ _ ⟨rfl, rfl⟩ _
    conv => whnf
    repeat (first | (refine And.intro rfl ?_; conv => whnf) | (refine And.intro (by decide) ?_; conv => whnf) | (refine draw_intro true (by kernel_rfl) ?_; conv => whnf) | (refine And.intro ⟨by omega, by omega⟩ ?_; conv => whnf) | (refine And.intro (by omega) ?_; conv => whnf) | (refine And.intro (fun _ => ⟨by omega, by omega⟩) ?_; conv => whnf) | (refine And.intro (of_decide_eq_true rfl) ?_; conv => whnf) | (refine And.intro (fun _ => ?_) (fun h => absurd h ?_); rotate_left; (focus (first | decide | (simp; done) | (simp [tcs]; done))); conv => whnf) | (refine And.intro (fun h => absurd h ?_) (fun _ => ?_); (focus (first | decide | (simp; done) | (simp [tcs]; done))); conv => whnf) | (intro _; conv => whnf))
    all_goals (first | rfl | exact ⟨rfl, rfl⟩ | exact ⟨rfl, rfl, rfl⟩)
  | true =>
  cases b4 with
  | false =>
    refine call_pure (E := env 0) (fn := Tryz.f10) (c := bodyOf Tryz.f10) (env_ok 0) mixed (by kernel_rfl) (by kernel_rfl) (by kernel_rfl) (by kernel_rfl) (by kernel_rfl) (by kernel_rfl) rfl ?_
    conv => whnf
    repeat (first | (refine And.intro rfl ?_; conv => whnf) | (refine And.intro (by decide) ?_; conv => whnf) | (refine draw_intro true (by kernel_rfl) ?_; conv => whnf) | (refine And.intro ⟨by omega, by omega⟩ ?_; conv => whnf) | (refine And.intro (by omega) ?_; conv => whnf) | (refine And.intro (fun _ => ⟨by omega, by omega⟩) ?_; conv => whnf) | (refine And.intro (of_decide_eq_true rfl) ?_; conv => whnf) | (refine And.intro (fun _ => ?_) (fun h => absurd h ?_); rotate_left; (focus (first | decide | (simp; done) | (simp [tcs]; done))); conv => whnf) | (refine And.intro (fun h => absurd h ?_) (fun _ => ?_); (focus (first | decide | (simp; done) | (simp [tcs]; done))); conv => whnf) | (intro _; conv => whnf))
    try (refine draw_intro true (by kernel_rfl) ?_; conv => whnf)
    first | refine CallSt.use hf [] trivial (by decide) rfl ?_ | refine CallPt.useS hf [] trivial (by decide) rfl ?_
    rintro _ _ ⟨rfl, rfl⟩ _
    conv => whnf
    repeat (first | (refine And.intro rfl ?_; conv => whnf) | (refine And.intro (by decide) ?_; conv => whnf) | (refine draw_intro true (by kernel_rfl) ?_; conv => whnf) | (refine And.intro ⟨by omega, by omega⟩ ?_; conv => whnf) | (refine And.intro (by omega) ?_; conv => whnf) | (refine And.intro (fun _ => ⟨by omega, by omega⟩) ?_; conv => whnf) | (refine And.intro (of_decide_eq_true rfl) ?_; conv => whnf) | (refine And.intro (fun _ => ?_) (fun h => absurd h ?_); rotate_left; (focus (first | decide | (simp; done) | (simp [tcs]; done))); conv => whnf) | (refine And.intro (fun h => absurd h ?_) (fun _ => ?_); (focus (first | decide | (simp; done) | (simp [tcs]; done))); conv => whnf) | (intro _; conv => whnf))
    rw [hb2]
    repeat (first | (refine And.intro rfl ?_; conv => whnf) | (refine And.intro (by decide) ?_; conv => whnf) | (refine draw_intro true (by kernel_rfl) ?_; conv => whnf) | (refine And.intro ⟨by omega, by omega⟩ ?_; conv => whnf) | (refine And.intro (by omega) ?_; conv => whnf) | (refine And.intro (fun _ => ⟨by omega, by omega⟩) ?_; conv => whnf) | (refine And.intro (of_decide_eq_true rfl) ?_; conv => whnf) | (refine And.intro (fun _ => ?_) (fun h => absurd h ?_); rotate_left; (focus (first | decide | (simp; done) | (simp [tcs]; done))); conv => whnf) | (refine And.intro (fun h => absurd h ?_) (fun _ => ?_); (focus (first | decide | (simp; done) | (simp [tcs]; done))); conv => whnf) | (intro _; conv => whnf))
    try (refine draw_intro true (by kernel_rfl) ?_; conv => whnf)
    first | refine CallSt.use ho [] trivial (by decide) rfl ?_ | refine CallPt.useS ho [] trivial (by decide) rfl ?_
    rintro _ _ ⟨rfl, rfl⟩ _
    conv => whnf
    repeat (first | (refine And.intro rfl ?_; conv => whnf) | (refine And.intro (by decide) ?_; conv => whnf) | (refine draw_intro true (by kernel_rfl) ?_; conv => whnf) | (refine And.intro ⟨by omega, by omega⟩ ?_; conv => whnf) | (refine And.intro (by omega) ?_; conv => whnf) | (refine And.intro (fun _ => ⟨by omega, by omega⟩) ?_; conv => whnf) | (refine And.intro (of_decide_eq_true rfl) ?_; conv => whnf) | (refine And.intro (fun _ => ?_) (fun h => absurd h ?_); rotate_left; (focus (first | decide | (simp; done) | (simp [tcs]; done))); conv => whnf) | (refine And.intro (fun h => absurd h ?_) (fun _ => ?_); (focus (first | decide | (simp; done) | (simp [tcs]; done))); conv => whnf) | (intro _; conv => whnf))
    try (refine draw_intro true (by kernel_rfl) ?_; conv => whnf)
    first | refine CallSt.use hc [] trivial (by decide) rfl ?_ | refine CallPt.useS hc [] trivial (by decide) rfl ?_
    rintro _ _ ⟨rfl, rfl⟩ _
    conv => whnf
    repeat (first | (refine And.intro rfl ?_; conv => whnf) | (refine And.intro (by decide) ?_; conv => whnf) | (refine draw_intro true (by kernel_rfl) ?_; conv => whnf) | (refine And.intro ⟨by omega, by omega⟩ ?_; conv => whnf) | (refine And.intro (by omega) ?_; conv => whnf) | (refine And.intro (fun _ => ⟨by omega, by omega⟩) ?_; conv => whnf) | (refine And.intro (of_decide_eq_true rfl) ?_; conv => whnf) | (refine And.intro (fun _ => ?_) (fun h => absurd h ?_); rotate_left; (focus (first | decide | (simp; done) | (simp [tcs]; done))); conv => whnf) | (refine And.intro (fun h => absurd h ?_) (fun _ => ?_); (focus (first | decide | (simp; done) | (simp [tcs]; done))); conv => whnf) | (intro _; conv => whnf))
    all_goals (first | rfl | exact ⟨rfl, rfl⟩ | exact ⟨rfl, rfl, rfl⟩)
  | true =>
  refine call_pure (E := env 0) (fn := Tryz.f10) (c := bodyOf Tryz.f10) (env_ok 0) mixed (by kernel_rfl) (by kernel_rfl) (by kernel_rfl) (by kernel_rfl) (by kernel_rfl) (by kernel_rfl) rfl ?_
  conv => whnf
  repeat (first | (refine And.intro rfl ?_; conv => whnf) | (refine And.intro (by decide) ?_; conv => whnf) | (refine draw_intro true (by kernel_rfl) ?_; conv => whnf) | (refine And.intro ⟨by omega, by omega⟩ ?_; conv => whnf) | (refine And.intro (by omega) ?_; conv => whnf) | (refine And.intro (fun _ => ⟨by omega, by omega⟩) ?_; conv => whnf) | (refine And.intro (of_decide_eq_true rfl) ?_; conv => whnf) | (refine And.intro (fun _ => ?_) (fun h => absurd h ?_); rotate_left; (focus (first | decide | (simp; done) | (simp [tcs]; done))); conv => whnf) | (refine And.intro (fun h => absurd h ?_) (fun _ => ?_); (focus (first | decide | (simp; done) | (simp [tcs]; done))); conv => whnf) | (intro _; conv => whnf))
  try (refine draw_intro true (by kernel_rfl) ?_; conv => whnf)
  first | refine CallSt.use hf [] trivial (by decide) rfl ?_ | refine CallPt.useS hf [] trivial (by decide) rfl ?_
  rintro _ _ ⟨rfl, rfl⟩ _
  conv => whnf
  repeat (first | (refine And.intro rfl ?_; conv => whnf) | (refine And.intro (by decide) ?_; conv => whnf) | (refine draw_intro true (by kernel_rfl) ?_; conv => whnf) | (refine And.intro ⟨by omega, by omega⟩ ?_; conv => whnf) | (refine And.intro (by omega) ?_; conv => whnf) | (refine And.intro (fun _ => ⟨by omega, by omega⟩) ?_; conv => whnf) | (refine And.intro (of_decide_eq_true rfl) ?_; conv => whnf) | (refine And.intro (fun _ => ?_) (fun h => absurd h ?_); rotate_left; (focus (first | decide | (simp; done) | (simp [tcs]; done))); conv => whnf) | (refine And.intro (fun h => absurd h ?_) (fun _ => ?_); (focus (first | decide | (simp; done) | (simp [tcs]; done))); conv => whnf) | (intro _; conv => whnf))
  rw [hb2]
  repeat (first | (refine And.intro rfl ?_; conv => whnf) | (refine And.intro (by decide) ?_; conv => whnf) | (refine draw_intro true (by kernel_rfl) ?_; conv => whnf) | (refine And.intro ⟨by omega, by omega⟩ ?_; conv => whnf) | (refine And.intro (by omega) ?_; conv => whnf) | (refine And.intro (fun _ => ⟨by omega, by omega⟩) ?_; conv => whnf) | (refine And.intro (of_decide_eq_true rfl) ?_; conv => whnf) | (refine And.intro (fun _ => ?_) (fun h => absurd h ?_); rotate_left; (focus (first | decide | (simp; done) | (simp [tcs]; done))); conv => whnf) | (refine And.intro (fun h => absurd h ?_) (fun _ => ?_); (focus (first | decide | (simp; done) | (simp [tcs]; done))); conv => whnf) | (intro _; conv => whnf))
  try (refine draw_intro true (by kernel_rfl) ?_; conv => whnf)
  first | refine CallSt.use ho [] trivial (by decide) rfl ?_ | refine CallPt.useS ho [] trivial (by decide) rfl ?_
  rintro _ _ ⟨rfl, rfl⟩ _
  conv => whnf
  repeat (first | (refine And.intro rfl ?_; conv => whnf) | (refine And.intro (by decide) ?_; conv => whnf) | (refine draw_intro true (by kernel_rfl) ?_; conv => whnf) | (refine And.intro ⟨by omega, by omega⟩ ?_; conv => whnf) | (refine And.intro (by omega) ?_; conv => whnf) | (refine And.intro (fun _ => ⟨by omega, by omega⟩) ?_; conv => whnf) | (refine And.intro (of_decide_eq_true rfl) ?_; conv => whnf) | (refine And.intro (fun _ => ?_) (fun h => absurd h ?_); rotate_left; (focus (first | decide | (simp; done) | (simp [tcs]; done))); conv => whnf) | (refine And.intro (fun h => absurd h ?_) (fun _ => ?_); (focus (first | decide | (simp; done) | (simp [tcs]; done))); conv => whnf) | (intro _; conv => whnf))
  try (refine draw_intro true (by kernel_rfl) ?_; conv => whnf)
  first | refine CallSt.use hc [] trivial (by decide) rfl ?_ | refine CallPt.useS hc [] trivial (by decide) rfl ?_
  rintro _ _ ⟨rfl, rfl⟩ _
  conv => whnf
  repeat (first | (refine And.intro rfl ?_; conv => whnf) | (refine And.intro (by decide) ?_; conv => whnf) | (refine draw_intro true (by kernel_rfl) ?_; conv => whnf) | (refine And.intro ⟨by omega, by omega⟩ ?_; conv => whnf) | (refine And.intro (by omega) ?_; conv => whnf) | (refine And.intro (fun _ => ⟨by omega, by omega⟩) ?_; conv => whnf) | (refine And.intro (of_decide_eq_true rfl) ?_; conv => whnf) | (refine And.intro (fun _ => ?_) (fun h => absurd h ?_); rotate_left; (focus (first | decide | (simp; done) | (simp [tcs]; done))); conv => whnf) | (refine And.intro (fun h => absurd h ?_) (fun _ => ?_); (focus (first | decide | (simp; done) | (simp [tcs]; done))); conv => whnf) | (intro _; conv => whnf))
  refine loop_intro (fun m tm H => ∃ j : Nat, X.length = m + j ∧ (∀ (q : Nat) t, q < j → X[q]? = some t → closedT t = true) ∧ tm = [(3, .c (.int .i64 (j))), (1, .ptr 0 0), (2, .c (.bool false))] ∧ H = [.box [.c (.sl 6 72 (dcs S)), .c (.sl 4 48 (tcs X)), .c (.int .i64 (k)), .c (.int .i64 (l)), .c (.int .i64 (n)), .c (.sl 4 48 (tcs ts)), .c (.int .i64 (k2)), .c (.int .i64 (l2)), .c (.int .i64 (n2)), .c (.sl 4 48 (tcs us))]])
    X.length _ _ ⟨0, by omega, fun q t hq => absurd hq (by omega), rfl, rfl⟩ (Wk.sel [0] (by decide) (by first | decide | (show (0 : Nat) ≤ _; decide) | (show ∀ i, i < 0 → _; decide) | (show (1 : Nat) ≤ _; decide) | (show ∀ i, i < 1 → _; decide) | (show (2 : Nat) ≤ _; decide) | (show ∀ i, i < 2 → _; decide) | (show (3 : Nat) ≤ _; decide) | (show ∀ i, i < 3 → _; decide) | (show (4 : Nat) ≤ _; decide) | (show ∀ i, i < 4 → _; decide) | (show (5 : Nat) ≤ _; decide) | (show ∀ i, i < 5 → _; decide) | (show (6 : Nat) ≤ _; decide) | (show ∀ i, i < 6 → _; decide) | (show (7 : Nat) ≤ _; decide) | (show ∀ i, i < 7 → _; decide)) (by first | decide | (show (0 : Nat) ≤ _; decide) | (show ∀ i, i < 0 → _; decide) | (show (1 : Nat) ≤ _; decide) | (show ∀ i, i < 1 → _; decide) | (show (2 : Nat) ≤ _; decide) | (show ∀ i, i < 2 → _; decide) | (show (3 : Nat) ≤ _; decide) | (show ∀ i, i < 3 → _; decide) | (show (4 : Nat) ≤ _; decide) | (show ∀ i, i < 4 → _; decide) | (show (5 : Nat) ≤ _; decide) | (show ∀ i, i < 5 → _; decide) | (show (6 : Nat) ≤ _; decide) | (show ∀ i, i < 6 → _; decide) | (show (7 : Nat) ≤ _; decide) | (show ∀ i, i < 7 → _; decide)) ⟨rfl, trivial⟩ ⟨rfl, rfl, rfl, trivial⟩ rfl) ?_
  rintro m tm H ⟨j, hj, hall, rfl, rfl⟩
  conv => whnf
  repeat (first | (refine And.intro rfl ?_; conv => whnf) | (refine And.intro (by decide) ?_; conv => whnf) | (refine And.intro ⟨by omega, by omega⟩ ?_; conv => whnf) | (refine And.intro (by omega) ?_; conv => whnf) | (refine And.intro (fun _ => ⟨by omega, by omega⟩) ?_; conv => whnf) | (refine And.intro (of_decide_eq_true rfl) ?_; conv => whnf) | (refine And.intro (fun _ => ?_) (fun h => absurd h ?_); rotate_left; (focus (first | decide | (simp; done) | (simp [tcs]; done))); conv => whnf) | (refine And.intro (fun h => absurd h ?_) (fun _ => ?_); (focus (first | decide | (simp; done) | (simp [tcs]; done))); conv => whnf))
  intro hgl
  conv => whnf
  repeat (first | (refine And.intro rfl ?_; conv => whnf) | (refine And.intro (by decide) ?_; conv => whnf) | (refine And.intro ⟨by omega, by omega⟩ ?_; conv => whnf) | (refine And.intro (by omega) ?_; conv => whnf) | (refine And.intro (fun _ => ⟨by omega, by omega⟩) ?_; conv => whnf) | (refine And.intro (of_decide_eq_true rfl) ?_; conv => whnf) | (refine And.intro (fun _ => ?_) (fun h => absurd h ?_); rotate_left; (focus (first | decide | (simp; done) | (simp [tcs]; done))); conv => whnf) | (refine And.intro (fun h => absurd h ?_) (fun _ => ?_); (focus (first | decide | (simp; done) | (simp [tcs]; done))); conv => whnf))
  refine ⟨fun hlt => ?_, fun hlt => ?_⟩
  · replace hlt : (j : Int) < (tcs X).length := of_decide_eq_true hlt
    obtain ⟨u, hu⟩ : ∃ u, X[j]? = some u := ⟨X[j]'(by omega), List.getElem?_eq_getElem (by omega)⟩
    have huc := tcs_at X j u hu
    have hcu := hX u
    have hl : j < 1000 := by
      have := of_decide_eq_false hb2
      omega
    cases hcb : closedT u with
    | false =>
      have e : X.all closedT = false := by
        rw [List.all_eq_false]
        exact ⟨u, List.mem_of_getElem? hu, by rw [hcb]; simp⟩
      rw [e]
      rw [hcb] at hcu
      obtain ⟨k', l', n', us'⟩ := u
      rw [tv_mk] at hcu
      conv => whnf
      repeat (first | (refine And.intro rfl ?_; conv => whnf) | (refine And.intro (by decide) ?_; conv => whnf) | (refine And.intro ⟨by omega, by omega⟩ ?_; conv => whnf) | (refine And.intro (by omega) ?_; conv => whnf) | (refine And.intro (fun _ => ⟨by omega, by omega⟩) ?_; conv => whnf) | (refine And.intro (of_decide_eq_true rfl) ?_; conv => whnf) | (refine And.intro (fun _ => ?_) (fun h => absurd h ?_); rotate_left; (focus (first | decide | (simp; done) | (simp [tcs]; done))); conv => whnf) | (refine And.intro (fun h => absurd h ?_) (fun _ => ?_); (focus (first | decide | (simp; done) | (simp [tcs]; done))); conv => whnf))
      refine ⟨_, ⟨by omega, by simpa using huc⟩, ?_⟩
      conv => whnf
      refine ⟨Nat.le_refl 4, ?_⟩
      conv => whnf
      repeat (first | (refine And.intro rfl ?_; conv => whnf) | (refine And.intro (by decide) ?_; conv => whnf) | (refine And.intro ⟨by omega, by omega⟩ ?_; conv => whnf) | (refine And.intro (by omega) ?_; conv => whnf) | (refine And.intro (fun _ => ⟨by omega, by omega⟩) ?_; conv => whnf) | (refine And.intro (of_decide_eq_true rfl) ?_; conv => whnf) | (refine And.intro (fun _ => ?_) (fun h => absurd h ?_); rotate_left; (focus (first | decide | (simp; done) | (simp [tcs]; done))); conv => whnf) | (refine And.intro (fun h => absurd h ?_) (fun _ => ?_); (focus (first | decide | (simp; done) | (simp [tcs]; done))); conv => whnf))
      try (refine draw_intro true (by kernel_rfl) ?_; conv => whnf)
      first | refine CallSt.use hcu [] trivial (by decide) rfl ?_ | refine CallPt.useS hcu [] trivial (by decide) rfl ?_
      rintro _ _ ⟨rfl, rfl⟩ _
      conv => whnf
      repeat (first | (refine And.intro rfl ?_; conv => whnf) | (refine And.intro (by decide) ?_; conv => whnf) | (refine draw_intro true (by kernel_rfl) ?_; conv => whnf) | (refine And.intro ⟨by omega, by omega⟩ ?_; conv => whnf) | (refine And.intro (by omega) ?_; conv => whnf) | (refine And.intro (fun _ => ⟨by omega, by omega⟩) ?_; conv => whnf) | (refine And.intro (of_decide_eq_true rfl) ?_; conv => whnf) | (refine And.intro (fun _ => ?_) (fun h => absurd h ?_); rotate_left; (focus (first | decide | (simp; done) | (simp [tcs]; done))); conv => whnf) | (refine And.intro (fun h => absurd h ?_) (fun _ => ?_); (focus (first | decide | (simp; done) | (simp [tcs]; done))); conv => whnf) | (intro _; conv => whnf))
      all_goals (first | rfl | exact ⟨rfl, rfl⟩ | exact ⟨rfl, rfl, rfl⟩)
    | true =>
      rw [hcb] at hcu
      have hnx : ∀ (q : Nat) t, q < j + 1 → X[q]? = some t → closedT t = true := fun q t hq ht => by
        by_cases hqj : q < j
        · exact hall q t hqj ht
        · obtain rfl : q = j := by omega
          rw [hu] at ht
          injection ht with ht
          exact ht ▸ hcb
      clear hcb
      obtain ⟨k', l', n', us'⟩ := u
      rw [tv_mk] at hcu
      conv => whnf
      repeat (first | (refine And.intro rfl ?_; conv => whnf) | (refine And.intro (by decide) ?_; conv => whnf) | (refine And.intro ⟨by omega, by omega⟩ ?_; conv => whnf) | (refine And.intro (by omega) ?_; conv => whnf) | (refine And.intro (fun _ => ⟨by omega, by omega⟩) ?_; conv => whnf) | (refine And.intro (of_decide_eq_true rfl) ?_; conv => whnf) | (refine And.intro (fun _ => ?_) (fun h => absurd h ?_); rotate_left; (focus (first | decide | (simp; done) | (simp [tcs]; done))); conv => whnf) | (refine And.intro (fun h => absurd h ?_) (fun _ => ?_); (focus (first | decide | (simp; done) | (simp [tcs]; done))); conv => whnf))
      refine ⟨_, ⟨by omega, by simpa using huc⟩, ?_⟩
      conv => whnf
      refine ⟨Nat.le_refl 4, ?_⟩
      conv => whnf
      repeat (first | (refine And.intro rfl ?_; conv => whnf) | (refine And.intro (by decide) ?_; conv => whnf) | (refine And.intro ⟨by omega, by omega⟩ ?_; conv => whnf) | (refine And.intro (by omega) ?_; conv => whnf) | (refine And.intro (fun _ => ⟨by omega, by omega⟩) ?_; conv => whnf) | (refine And.intro (of_decide_eq_true rfl) ?_; conv => whnf) | (refine And.intro (fun _ => ?_) (fun h => absurd h ?_); rotate_left; (focus (first | decide | (simp; done) | (simp [tcs]; done))); conv => whnf) | (refine And.intro (fun h => absurd h ?_) (fun _ => ?_); (focus (first | decide | (simp; done) | (simp [tcs]; done))); conv => whnf))
      try (refine draw_intro true (by kernel_rfl) ?_; conv => whnf)
      first | refine CallSt.use hcu [] trivial (by decide) rfl ?_ | refine CallPt.useS hcu [] trivial (by decide) rfl ?_
      rintro _ _ ⟨rfl, rfl⟩ _
      conv => whnf
      repeat (first | (refine And.intro rfl ?_; conv => whnf) | (refine And.intro (by decide) ?_; conv => whnf) | (refine draw_intro true (by kernel_rfl) ?_; conv => whnf) | (refine And.intro ⟨by omega, by omega⟩ ?_; conv => whnf) | (refine And.intro (by omega) ?_; conv => whnf) | (refine And.intro (fun _ => ⟨by omega, by omega⟩) ?_; conv => whnf) | (refine And.intro (of_decide_eq_true rfl) ?_; conv => whnf) | (refine And.intro (fun _ => ?_) (fun h => absurd h ?_); rotate_left; (focus (first | decide | (simp; done) | (simp [tcs]; done))); conv => whnf) | (refine And.intro (fun h => absurd h ?_) (fun _ => ?_); (focus (first | decide | (simp; done) | (simp [tcs]; done))); conv => whnf) | (intro _; conv => whnf))
      refine ⟨m - 1, _, _, by omega, ⟨j + 1, by omega, hnx, rfl, rfl⟩, Wk.sel [0] (by decide) (by first | decide | (show (0 : Nat) ≤ _; decide) | (show ∀ i, i < 0 → _; decide) | (show (1 : Nat) ≤ _; decide) | (show ∀ i, i < 1 → _; decide) | (show (2 : Nat) ≤ _; decide) | (show ∀ i, i < 2 → _; decide) | (show (3 : Nat) ≤ _; decide) | (show ∀ i, i < 3 → _; decide) | (show (4 : Nat) ≤ _; decide) | (show ∀ i, i < 4 → _; decide) | (show (5 : Nat) ≤ _; decide) | (show ∀ i, i < 5 → _; decide) | (show (6 : Nat) ≤ _; decide) | (show ∀ i, i < 6 → _; decide) | (show (7 : Nat) ≤ _; decide) | (show ∀ i, i < 7 → _; decide)) (by first | decide | (show (0 : Nat) ≤ _; decide) | (show ∀ i, i < 0 → _; decide) | (show (1 : Nat) ≤ _; decide) | (show ∀ i, i < 1 → _; decide) | (show (2 : Nat) ≤ _; decide) | (show ∀ i, i < 2 → _; decide) | (show (3 : Nat) ≤ _; decide) | (show ∀ i, i < 3 → _; decide) | (show (4 : Nat) ≤ _; decide) | (show ∀ i, i < 4 → _; decide) | (show (5 : Nat) ≤ _; decide) | (show ∀ i, i < 5 → _; decide) | (show (6 : Nat) ≤ _; decide) | (show ∀ i, i < 6 → _; decide) | (show (7 : Nat) ≤ _; decide) | (show ∀ i, i < 7 → _; decide)) ⟨rfl, trivial⟩ ⟨rfl, rfl, rfl, trivial⟩ rfl⟩
  · replace hlt : ¬ (j : Int) < (tcs X).length := of_decide_eq_false hlt
    obtain rfl : j = X.length := by omega
    have e : X.all closedT = true := by
      rw [List.all_eq_true]
      intro t ht
      obtain ⟨i, hi⟩ := List.mem_iff_getElem?.1 ht
      exact hall i t (List.getElem?_eq_some_iff.1 hi).1 hi
    rw [e]
    conv => whnf
    repeat (first | (refine And.intro rfl ?_; conv => whnf) | (refine And.intro (by decide) ?_; conv => whnf) | (refine draw_intro true (by kernel_rfl) ?_; conv => whnf) | (refine And.intro ⟨by omega, by omega⟩ ?_; conv => whnf) | (refine And.intro (by omega) ?_; conv => whnf) | (refine And.intro (fun _ => ⟨by omega, by omega⟩) ?_; conv => whnf) | (refine And.intro (of_decide_eq_true rfl) ?_; conv => whnf) | (refine And.intro (fun _ => ?_) (fun h => absurd h ?_); rotate_left; (focus (first | decide | (simp; done) | (simp [tcs]; done))); conv => whnf) | (refine And.intro (fun h => absurd h ?_) (fun _ => ?_); (focus (first | decide | (simp; done) | (simp [tcs]; done))); conv => whnf) | (intro _; conv => whnf))
    all_goals (first | rfl | exact ⟨rfl, rfl⟩ | exact ⟨rfl, rfl, rfl⟩)
theorem cRNodes (c : Crt) (h : Sane c) : CallSt Tryz.prog 12 [crv c] [] (fun r H' => r = .c (.sl 4 48 (tcs (nodesOf c))) ∧ H' = []) := by
  have ha := cRAll c h
  unfold allV at ha
  clear h
  generalize nodesOf c = N at *
  generalize (pl _ c.o) = a at *
  generalize (pl _ c.c) = b at *
  generalize (rowN (rt c c.S.length)) = x at *
  generalize (rowN (List.drop _ _)) = y at *
  obtain ⟨S, X, ⟨k, l, n, ts⟩, ⟨k2, l2, n2, us⟩⟩ := c
  unfold crv at *
  dsimp only [Term.k, Term.l, Term.n, Term.ts] at *
  refine call_pure (E := env 0) (fn := Tryz.f12) (c := bodyOf Tryz.f12) (env_ok 0) mixed (by kernel_rfl) (by kernel_rfl) (by kernel_rfl) (by kernel_rfl) (by kernel_rfl) (by kernel_rfl) rfl ?_
  conv => whnf
  repeat (first | (refine And.intro rfl ?_; conv => whnf) | (refine And.intro (by decide) ?_; conv => whnf) | (refine draw_intro true (by kernel_rfl) ?_; conv => whnf) | (refine And.intro ⟨by omega, by omega⟩ ?_; conv => whnf) | (refine And.intro (by omega) ?_; conv => whnf) | (refine And.intro (fun _ => ⟨by omega, by omega⟩) ?_; conv => whnf) | (refine And.intro (of_decide_eq_true rfl) ?_; conv => whnf) | (refine And.intro (fun _ => ?_) (fun h => absurd h ?_); rotate_left; (focus (first | decide | (simp; done) | (simp [tcs]; done))); conv => whnf) | (refine And.intro (fun h => absurd h ?_) (fun _ => ?_); (focus (first | decide | (simp; done) | (simp [tcs]; done))); conv => whnf) | (intro _; conv => whnf))
  refine CallSt.wk _ (Wk.trans (Wk.nilrow (i := 1) (j := 0) 82 4 48 rfl rfl rfl) (Wk.nilrow (i := 1) (j := 1) 25 4 48 rfl rfl rfl)) ?_
  try (refine draw_intro true (by kernel_rfl) ?_; conv => whnf)
  first | refine CallSt.use ha [1, 2, 3] ⟨rfl, rfl, rfl, trivial⟩ (by decide) rfl ?_ | refine CallPt.useS ha [1, 2, 3] ⟨rfl, rfl, rfl, trivial⟩ (by decide) rfl ?_
  rintro _ _ ⟨rfl, rfl⟩ _
  conv => whnf
  repeat (first | (refine And.intro rfl ?_; conv => whnf) | (refine And.intro (by decide) ?_; conv => whnf) | (refine draw_intro true (by kernel_rfl) ?_; conv => whnf) | (refine And.intro ⟨by omega, by omega⟩ ?_; conv => whnf) | (refine And.intro (by omega) ?_; conv => whnf) | (refine And.intro (fun _ => ⟨by omega, by omega⟩) ?_; conv => whnf) | (refine And.intro (of_decide_eq_true rfl) ?_; conv => whnf) | (refine And.intro (fun _ => ?_) (fun h => absurd h ?_); rotate_left; (focus (first | decide | (simp; done) | (simp [tcs]; done))); conv => whnf) | (refine And.intro (fun h => absurd h ?_) (fun _ => ?_); (focus (first | decide | (simp; done) | (simp [tcs]; done))); conv => whnf) | (intro _; conv => whnf))
  all_goals (first | rfl | exact ⟨rfl, rfl⟩ | exact ⟨rfl, rfl, rfl⟩)
end Go.Tr
/- The reference of trusslaw19: Count. -/
namespace Go.Tr
open Go.Proofs
theorem cRSize {t : Term} (hp : prop t = true) : CallSt Tryz.prog 34 [tv t] [] (fun r H' => r = .tup [.c (.int .i64 (szT t)), .c (.int .i64 (dpT t))] ∧ H' = []) := by
  have hsz := prop_sz hp
  have hnd := (ndT_sz t 600 (by decide)).1 hsz
  have hdp : dpT t ≤ 1000 := by have := propT_dp t 1 0 hp; omega
  have h := c18 t hdp
  rw [hnd] at h
  exact h
theorem cRCount (c : Crt) (hp : ∀ t ∈ crl c, prop t = true) (hS : c.S.length ≤ 100) (hX : c.X.length ≤ 100) : CallSt Tryz.prog 14 [crv c] [] (fun r H' => r = .c (.int .i64 (szL (crl c))) ∧ H' = []) := by
  have hszt := fun t ht => prop_sz (hp t ht)
  have hcS : ∀ (i : Nat) (d : Dcl), c.S[i]? = some d → CallSt Tryz.prog 34 [tv d.c] [] (fun r H' => r = .tup [.c (.int .i64 (szT d.c)), .c (.int .i64 (dpT d.c))] ∧ H' = []) := fun i d hd => cRSize (hp _ (List.mem_of_getElem? (crl_S hd)))
  have hcX : ∀ (i : Nat) (t : Term), c.X[i]? = some t → CallSt Tryz.prog 34 [tv t] [] (fun r H' => r = .tup [.c (.int .i64 (szT t)), .c (.int .i64 (dpT t))] ∧ H' = []) := fun i t hd => cRSize (hp _ (List.mem_of_getElem? (crl_X hd)))
  have hco := cRSize (hp _ (List.mem_of_getElem? (crl_o c)))
  have hcc := cRSize (hp _ (List.mem_of_getElem? (crl_c c)))
  have hso := hszt _ (List.mem_of_getElem? (crl_o c))
  have hsc := hszt _ (List.mem_of_getElem? (crl_c c))
  have hsS : ∀ d ∈ c.S, szT d.c ≤ 600 := fun d hd => hszt _ (by unfold crl; simp only [List.mem_append, List.mem_map]; exact .inl ⟨d, hd, rfl⟩)
  have hsX : ∀ t ∈ c.X, szT t ≤ 600 := fun t hd => hszt _ (by unfold crl; simp [hd])
  have hds := len_dcs c.S
  have hxl := len_tcs c.X
  have e : szL (crl c) = szL (c.S.map (·.c)) + szL c.X + szT c.o + szT c.c := by
    unfold crl
    simp only [szL_append, szL]
    omega
  have hpo := szT_pos c.o
  have hpc := szT_pos c.c
  rw [e]
  clear e hszt hp
  obtain ⟨S, X, ⟨k, l, n, ts⟩, ⟨k2, l2, n2, us⟩⟩ := c
  unfold crv
  rw [tv_mk] at hco hcc
  dsimp only [Term.k, Term.l, Term.n, Term.ts] at *
  refine call_pure (E := env 0) (fn := Tryz.f14) (c := bodyOf Tryz.f14) (env_ok 0) mixed (by kernel_rfl) (by kernel_rfl) (by kernel_rfl) (by kernel_rfl) (by kernel_rfl) (by kernel_rfl) rfl ?_
  conv => whnf
  repeat (first | (refine And.intro rfl ?_; conv => whnf) | (refine And.intro (by decide) ?_; conv => whnf) | (refine draw_intro true (by kernel_rfl) ?_; conv => whnf) | (refine And.intro ⟨by omega, by omega⟩ ?_; conv => whnf) | (refine And.intro (by omega) ?_; conv => whnf) | (refine And.intro (fun _ => ⟨by omega, by omega⟩) ?_; conv => whnf) | (refine And.intro (of_decide_eq_true rfl) ?_; conv => whnf) | (refine And.intro (fun _ => ?_) (fun h => absurd h ?_); rotate_left; (focus (first | decide | (simp; done) | (simp [tcs]; done))); conv => whnf) | (refine And.intro (fun h => absurd h ?_) (fun _ => ?_); (focus (first | decide | (simp; done) | (simp [tcs]; done))); conv => whnf) | (intro _; conv => whnf))
  refine loop_intro (fun m tm H => ∃ j : Nat, S.length = m + j ∧ tm = [(4, .c (.int .i64 (j))), (3, .c (.int .i64 (szL ((S.take j).map (·.c))))), (1, .ptr 0 0)] ∧ H = [.box [.c (.sl 6 72 (dcs S)), .c (.sl 4 48 (tcs X)), .c (.int .i64 (k)), .c (.int .i64 (l)), .c (.int .i64 (n)), .c (.sl 4 48 (tcs ts)), .c (.int .i64 (k2)), .c (.int .i64 (l2)), .c (.int .i64 (n2)), .c (.sl 4 48 (tcs us))]])
    S.length _ _ ⟨0, by omega, rfl, rfl⟩ (Wk.sel [0] (by decide) (by first | decide | (show (0 : Nat) ≤ _; decide) | (show ∀ i, i < 0 → _; decide) | (show (1 : Nat) ≤ _; decide) | (show ∀ i, i < 1 → _; decide) | (show (2 : Nat) ≤ _; decide) | (show ∀ i, i < 2 → _; decide) | (show (3 : Nat) ≤ _; decide) | (show ∀ i, i < 3 → _; decide) | (show (4 : Nat) ≤ _; decide) | (show ∀ i, i < 4 → _; decide) | (show (5 : Nat) ≤ _; decide) | (show ∀ i, i < 5 → _; decide) | (show (6 : Nat) ≤ _; decide) | (show ∀ i, i < 6 → _; decide) | (show (7 : Nat) ≤ _; decide) | (show ∀ i, i < 7 → _; decide)) (by first | decide | (show (0 : Nat) ≤ _; decide) | (show ∀ i, i < 0 → _; decide) | (show (1 : Nat) ≤ _; decide) | (show ∀ i, i < 1 → _; decide) | (show (2 : Nat) ≤ _; decide) | (show ∀ i, i < 2 → _; decide) | (show (3 : Nat) ≤ _; decide) | (show ∀ i, i < 3 → _; decide) | (show (4 : Nat) ≤ _; decide) | (show ∀ i, i < 4 → _; decide) | (show (5 : Nat) ≤ _; decide) | (show ∀ i, i < 5 → _; decide) | (show (6 : Nat) ≤ _; decide) | (show ∀ i, i < 6 → _; decide) | (show (7 : Nat) ≤ _; decide) | (show ∀ i, i < 7 → _; decide)) ⟨rfl, trivial⟩ ⟨rfl, rfl, rfl, trivial⟩ rfl) ?_
  rintro m tm H ⟨j, hj, rfl, rfl⟩
  have hb : ∀ j, szL ((S.take j).map (·.c)) ≤ 600 * 100 := fun j => by
    have := szL_all ((S.take j).map (·.c)) fun t ht => by
      obtain ⟨d, hd, rfl⟩ := List.mem_map.1 ht
      exact hsS d (List.mem_of_mem_take hd)
    rw [List.length_map, List.length_take] at this
    omega
  have hb0 := hb j
  have hb1 := szL_pos ((S.take j).map (·.c))
  conv => whnf
  repeat (first | (refine And.intro rfl ?_; conv => whnf) | (refine And.intro (by decide) ?_; conv => whnf) | (refine And.intro ⟨by omega, by omega⟩ ?_; conv => whnf) | (refine And.intro (by omega) ?_; conv => whnf) | (refine And.intro (fun _ => ⟨by omega, by omega⟩) ?_; conv => whnf) | (refine And.intro (of_decide_eq_true rfl) ?_; conv => whnf) | (refine And.intro (fun _ => ?_) (fun h => absurd h ?_); rotate_left; (focus (first | decide | (simp; done) | (simp [tcs]; done))); conv => whnf) | (refine And.intro (fun h => absurd h ?_) (fun _ => ?_); (focus (first | decide | (simp; done) | (simp [tcs]; done))); conv => whnf))
  intro hgl
  conv => whnf
  repeat (first | (refine And.intro rfl ?_; conv => whnf) | (refine And.intro (by decide) ?_; conv => whnf) | (refine And.intro ⟨by omega, by omega⟩ ?_; conv => whnf) | (refine And.intro (by omega) ?_; conv => whnf) | (refine And.intro (fun _ => ⟨by omega, by omega⟩) ?_; conv => whnf) | (refine And.intro (of_decide_eq_true rfl) ?_; conv => whnf) | (refine And.intro (fun _ => ?_) (fun h => absurd h ?_); rotate_left; (focus (first | decide | (simp; done) | (simp [tcs]; done))); conv => whnf) | (refine And.intro (fun h => absurd h ?_) (fun _ => ?_); (focus (first | decide | (simp; done) | (simp [tcs]; done))); conv => whnf))
  refine ⟨fun hc => ?_, fun hc => ?_⟩
  · replace hc : (j : Int) < (dcs S).length := of_decide_eq_true hc
    obtain ⟨d, hd⟩ : ∃ d, S[j]? = some d := ⟨S[j]'(by omega), List.getElem?_eq_getElem (by omega)⟩
    have hdc := dcs_at hd
    have hcd := hcS j d hd
    have hsd := hsS d (List.mem_of_getElem? hd)
    have hpd := szT_pos d.c
    have hst : szL ((S.take (j + 1)).map (·.c)) = szL ((S.take j).map (·.c)) + szT d.c := by
      rw [List.take_add_one, hd, List.map_append, szL_append]
      simp [szL]
    obtain ⟨s', ⟨k', l', n', us'⟩, i'⟩ := d
    dsimp only at hcd hst hsd hpd
    rw [tv_mk] at hcd
    conv => whnf
    refine ⟨_, ⟨by omega, hdc⟩, ?_⟩
    conv => whnf
    refine ⟨show 4 ≤ 5 by decide, ?_⟩
    conv => whnf
    repeat (first | (refine And.intro rfl ?_; conv => whnf) | (refine And.intro (by decide) ?_; conv => whnf) | (refine draw_intro true (by kernel_rfl) ?_; conv => whnf) | (refine And.intro ⟨by omega, by omega⟩ ?_; conv => whnf) | (refine And.intro (by omega) ?_; conv => whnf) | (refine And.intro (fun _ => ⟨by omega, by omega⟩) ?_; conv => whnf) | (refine And.intro (of_decide_eq_true rfl) ?_; conv => whnf) | (refine And.intro (fun _ => ?_) (fun h => absurd h ?_); rotate_left; (focus (first | decide | (simp; done) | (simp [tcs]; done))); conv => whnf) | (refine And.intro (fun h => absurd h ?_) (fun _ => ?_); (focus (first | decide | (simp; done) | (simp [tcs]; done))); conv => whnf) | (intro _; conv => whnf))
    try (refine draw_intro true (by kernel_rfl) ?_; conv => whnf)
    first | refine CallSt.use hcd [] trivial (by decide) rfl ?_ | refine CallPt.useS hcd [] trivial (by decide) rfl ?_
    rintro _ _ ⟨rfl, rfl⟩ _
    conv => whnf
    repeat (first | (refine And.intro rfl ?_; conv => whnf) | (refine And.intro (by decide) ?_; conv => whnf) | (refine draw_intro true (by kernel_rfl) ?_; conv => whnf) | (refine And.intro ⟨by omega, by omega⟩ ?_; conv => whnf) | (refine And.intro (by omega) ?_; conv => whnf) | (refine And.intro (fun _ => ⟨by omega, by omega⟩) ?_; conv => whnf) | (refine And.intro (of_decide_eq_true rfl) ?_; conv => whnf) | (refine And.intro (fun _ => ?_) (fun h => absurd h ?_); rotate_left; (focus (first | decide | (simp; done) | (simp [tcs]; done))); conv => whnf) | (refine And.intro (fun h => absurd h ?_) (fun _ => ?_); (focus (first | decide | (simp; done) | (simp [tcs]; done))); conv => whnf) | (intro _; conv => whnf))
    refine ⟨m - 1, _, _, by omega, ⟨j + 1, by omega, rfl, rfl⟩, Wk.sel [0] (by decide) (by decide) (by decide) ⟨rfl, trivial⟩ ⟨rfl, ?_, rfl, trivial⟩ rfl⟩
    rw [hst]
    rfl
  replace hc : ¬ (j : Int) < (dcs S).length := of_decide_eq_false hc
  obtain rfl : j = S.length := by omega
  rw [List.take_length] at hb0 hb1 ⊢
  generalize szL (S.map (·.c)) = A at *
  conv => whnf
  repeat (first | (refine And.intro rfl ?_; conv => whnf) | (refine And.intro (by decide) ?_; conv => whnf) | (refine draw_intro true (by kernel_rfl) ?_; conv => whnf) | (refine And.intro ⟨by omega, by omega⟩ ?_; conv => whnf) | (refine And.intro (by omega) ?_; conv => whnf) | (refine And.intro (fun _ => ⟨by omega, by omega⟩) ?_; conv => whnf) | (refine And.intro (of_decide_eq_true rfl) ?_; conv => whnf) | (refine And.intro (fun _ => ?_) (fun h => absurd h ?_); rotate_left; (focus (first | decide | (simp; done) | (simp [tcs]; done))); conv => whnf) | (refine And.intro (fun h => absurd h ?_) (fun _ => ?_); (focus (first | decide | (simp; done) | (simp [tcs]; done))); conv => whnf) | (intro _; conv => whnf))
  refine loop_intro (fun m tm H => ∃ j : Nat, X.length = m + j ∧ tm = [(7, .c (.int .i64 (j))), (3, .c (.int .i64 (A + szL (X.take j)))), (1, .ptr 0 0)] ∧ H = [.box [.c (.sl 6 72 (dcs S)), .c (.sl 4 48 (tcs X)), .c (.int .i64 (k)), .c (.int .i64 (l)), .c (.int .i64 (n)), .c (.sl 4 48 (tcs ts)), .c (.int .i64 (k2)), .c (.int .i64 (l2)), .c (.int .i64 (n2)), .c (.sl 4 48 (tcs us))]])
    X.length _ _ ⟨0, by omega, rfl, rfl⟩ ?_ ?_
  · rw [List.take_zero, szL, Int.add_zero]
    exact Wk.sel [0] (by decide) (by first | decide | (show (0 : Nat) ≤ _; decide) | (show ∀ i, i < 0 → _; decide) | (show (1 : Nat) ≤ _; decide) | (show ∀ i, i < 1 → _; decide) | (show (2 : Nat) ≤ _; decide) | (show ∀ i, i < 2 → _; decide) | (show (3 : Nat) ≤ _; decide) | (show ∀ i, i < 3 → _; decide) | (show (4 : Nat) ≤ _; decide) | (show ∀ i, i < 4 → _; decide) | (show (5 : Nat) ≤ _; decide) | (show ∀ i, i < 5 → _; decide) | (show (6 : Nat) ≤ _; decide) | (show ∀ i, i < 6 → _; decide) | (show (7 : Nat) ≤ _; decide) | (show ∀ i, i < 7 → _; decide)) (by first | decide | (show (0 : Nat) ≤ _; decide) | (show ∀ i, i < 0 → _; decide) | (show (1 : Nat) ≤ _; decide) | (show ∀ i, i < 1 → _; decide) | (show (2 : Nat) ≤ _; decide) | (show ∀ i, i < 2 → _; decide) | (show (3 : Nat) ≤ _; decide) | (show ∀ i, i < 3 → _; decide) | (show (4 : Nat) ≤ _; decide) | (show ∀ i, i < 4 → _; decide) | (show (5 : Nat) ≤ _; decide) | (show ∀ i, i < 5 → _; decide) | (show (6 : Nat) ≤ _; decide) | (show ∀ i, i < 6 → _; decide) | (show (7 : Nat) ≤ _; decide) | (show ∀ i, i < 7 → _; decide)) ⟨rfl, trivial⟩ ⟨rfl, rfl, rfl, trivial⟩ rfl
  rintro m tm H ⟨j, hj, rfl, rfl⟩
  have hb : ∀ j, szL (X.take j) ≤ 600 * 100 := fun j => by
    have := szL_all (X.take j) fun t ht => hsX t (List.mem_of_mem_take ht)
    rw [List.length_take] at this
    omega
  have hb2 := hb j
  have hb3 := szL_pos (X.take j)
  conv => whnf
  repeat (first | (refine And.intro rfl ?_; conv => whnf) | (refine And.intro (by decide) ?_; conv => whnf) | (refine And.intro ⟨by omega, by omega⟩ ?_; conv => whnf) | (refine And.intro (by omega) ?_; conv => whnf) | (refine And.intro (fun _ => ⟨by omega, by omega⟩) ?_; conv => whnf) | (refine And.intro (of_decide_eq_true rfl) ?_; conv => whnf) | (refine And.intro (fun _ => ?_) (fun h => absurd h ?_); rotate_left; (focus (first | decide | (simp; done) | (simp [tcs]; done))); conv => whnf) | (refine And.intro (fun h => absurd h ?_) (fun _ => ?_); (focus (first | decide | (simp; done) | (simp [tcs]; done))); conv => whnf))
  intro hgl
  conv => whnf
  repeat (first | (refine And.intro rfl ?_; conv => whnf) | (refine And.intro (by decide) ?_; conv => whnf) | (refine And.intro ⟨by omega, by omega⟩ ?_; conv => whnf) | (refine And.intro (by omega) ?_; conv => whnf) | (refine And.intro (fun _ => ⟨by omega, by omega⟩) ?_; conv => whnf) | (refine And.intro (of_decide_eq_true rfl) ?_; conv => whnf) | (refine And.intro (fun _ => ?_) (fun h => absurd h ?_); rotate_left; (focus (first | decide | (simp; done) | (simp [tcs]; done))); conv => whnf) | (refine And.intro (fun h => absurd h ?_) (fun _ => ?_); (focus (first | decide | (simp; done) | (simp [tcs]; done))); conv => whnf))
  refine ⟨fun hc => ?_, fun hc => ?_⟩
  · replace hc : (j : Int) < (tcs X).length := of_decide_eq_true hc
    obtain ⟨u, hu⟩ : ∃ u, X[j]? = some u := ⟨X[j]'(by omega), List.getElem?_eq_getElem (by omega)⟩
    have huc := tcs_at X j u hu
    have hcd := hcX j u hu
    have hsd := hsX u (List.mem_of_getElem? hu)
    have hpd := szT_pos u
    have hst : A + szL (X.take (j + 1)) = A + szL (X.take j) + szT u := by
      rw [szL_take X j u hu]
      omega
    obtain ⟨k', l', n', us'⟩ := u
    rw [tv_mk] at hcd
    conv => whnf
    repeat (first | (refine And.intro rfl ?_; conv => whnf) | (refine And.intro (by decide) ?_; conv => whnf) | (refine And.intro ⟨by omega, by omega⟩ ?_; conv => whnf) | (refine And.intro (by omega) ?_; conv => whnf) | (refine And.intro (fun _ => ⟨by omega, by omega⟩) ?_; conv => whnf) | (refine And.intro (of_decide_eq_true rfl) ?_; conv => whnf) | (refine And.intro (fun _ => ?_) (fun h => absurd h ?_); rotate_left; (focus (first | decide | (simp; done) | (simp [tcs]; done))); conv => whnf) | (refine And.intro (fun h => absurd h ?_) (fun _ => ?_); (focus (first | decide | (simp; done) | (simp [tcs]; done))); conv => whnf))
    refine ⟨_, ⟨by omega, by simpa using huc⟩, ?_⟩
    conv => whnf
    refine ⟨Nat.le_refl 4, ?_⟩
    conv => whnf
    repeat (first | (refine And.intro rfl ?_; conv => whnf) | (refine And.intro (by decide) ?_; conv => whnf) | (refine And.intro ⟨by omega, by omega⟩ ?_; conv => whnf) | (refine And.intro (by omega) ?_; conv => whnf) | (refine And.intro (fun _ => ⟨by omega, by omega⟩) ?_; conv => whnf) | (refine And.intro (of_decide_eq_true rfl) ?_; conv => whnf) | (refine And.intro (fun _ => ?_) (fun h => absurd h ?_); rotate_left; (focus (first | decide | (simp; done) | (simp [tcs]; done))); conv => whnf) | (refine And.intro (fun h => absurd h ?_) (fun _ => ?_); (focus (first | decide | (simp; done) | (simp [tcs]; done))); conv => whnf))
    try (refine draw_intro true (by kernel_rfl) ?_; conv => whnf)
    first | refine CallSt.use hcd [] trivial (by decide) rfl ?_ | refine CallPt.useS hcd [] trivial (by decide) rfl ?_
    rintro _ _ ⟨rfl, rfl⟩ _
    conv => whnf
    repeat (first | (refine And.intro rfl ?_; conv => whnf) | (refine And.intro (by decide) ?_; conv => whnf) | (refine draw_intro true (by kernel_rfl) ?_; conv => whnf) | (refine And.intro ⟨by omega, by omega⟩ ?_; conv => whnf) | (refine And.intro (by omega) ?_; conv => whnf) | (refine And.intro (fun _ => ⟨by omega, by omega⟩) ?_; conv => whnf) | (refine And.intro (of_decide_eq_true rfl) ?_; conv => whnf) | (refine And.intro (fun _ => ?_) (fun h => absurd h ?_); rotate_left; (focus (first | decide | (simp; done) | (simp [tcs]; done))); conv => whnf) | (refine And.intro (fun h => absurd h ?_) (fun _ => ?_); (focus (first | decide | (simp; done) | (simp [tcs]; done))); conv => whnf) | (intro _; conv => whnf))
    refine ⟨m - 1, _, _, by omega, ⟨j + 1, by omega, rfl, rfl⟩, Wk.sel [0] (by decide) (by decide) (by decide) ⟨rfl, trivial⟩ ⟨rfl, ?_, rfl, trivial⟩ rfl⟩
    rw [hst]
    rfl
  replace hc : ¬ (j : Int) < (tcs X).length := of_decide_eq_false hc
  obtain rfl : j = X.length := by omega
  rw [List.take_length] at hb2 hb3 ⊢
  generalize szL X = C at *
  conv => whnf
  repeat (first | (refine And.intro rfl ?_; conv => whnf) | (refine And.intro (by decide) ?_; conv => whnf) | (refine draw_intro true (by kernel_rfl) ?_; conv => whnf) | (refine And.intro ⟨by omega, by omega⟩ ?_; conv => whnf) | (refine And.intro (by omega) ?_; conv => whnf) | (refine And.intro (fun _ => ⟨by omega, by omega⟩) ?_; conv => whnf) | (refine And.intro (of_decide_eq_true rfl) ?_; conv => whnf) | (refine And.intro (fun _ => ?_) (fun h => absurd h ?_); rotate_left; (focus (first | decide | (simp; done) | (simp [tcs]; done))); conv => whnf) | (refine And.intro (fun h => absurd h ?_) (fun _ => ?_); (focus (first | decide | (simp; done) | (simp [tcs]; done))); conv => whnf) | (intro _; conv => whnf))
  try (refine draw_intro true (by kernel_rfl) ?_; conv => whnf)
  first | refine CallSt.use hco [] trivial (by decide) rfl ?_ | refine CallPt.useS hco [] trivial (by decide) rfl ?_
  rintro _ _ ⟨rfl, rfl⟩ _
  conv => whnf
  repeat (first | (refine And.intro rfl ?_; conv => whnf) | (refine And.intro (by decide) ?_; conv => whnf) | (refine draw_intro true (by kernel_rfl) ?_; conv => whnf) | (refine And.intro ⟨by omega, by omega⟩ ?_; conv => whnf) | (refine And.intro (by omega) ?_; conv => whnf) | (refine And.intro (fun _ => ⟨by omega, by omega⟩) ?_; conv => whnf) | (refine And.intro (of_decide_eq_true rfl) ?_; conv => whnf) | (refine And.intro (fun _ => ?_) (fun h => absurd h ?_); rotate_left; (focus (first | decide | (simp; done) | (simp [tcs]; done))); conv => whnf) | (refine And.intro (fun h => absurd h ?_) (fun _ => ?_); (focus (first | decide | (simp; done) | (simp [tcs]; done))); conv => whnf) | (intro _; conv => whnf))
  try (refine draw_intro true (by kernel_rfl) ?_; conv => whnf)
  first | refine CallSt.use hcc [] trivial (by decide) rfl ?_ | refine CallPt.useS hcc [] trivial (by decide) rfl ?_
  rintro _ _ ⟨rfl, rfl⟩ _
  conv => whnf
  repeat (first | (refine And.intro rfl ?_; conv => whnf) | (refine And.intro (by decide) ?_; conv => whnf) | (refine draw_intro true (by kernel_rfl) ?_; conv => whnf) | (refine And.intro ⟨by omega, by omega⟩ ?_; conv => whnf) | (refine And.intro (by omega) ?_; conv => whnf) | (refine And.intro (fun _ => ⟨by omega, by omega⟩) ?_; conv => whnf) | (refine And.intro (of_decide_eq_true rfl) ?_; conv => whnf) | (refine And.intro (fun _ => ?_) (fun h => absurd h ?_); rotate_left; (focus (first | decide | (simp; done) | (simp [tcs]; done))); conv => whnf) | (refine And.intro (fun h => absurd h ?_) (fun _ => ?_); (focus (first | decide | (simp; done) | (simp [tcs]; done))); conv => whnf) | (intro _; conv => whnf))
  all_goals (first | rfl | exact ⟨rfl, rfl⟩ | exact ⟨rfl, rfl, rfl⟩)
end Go.Tr
/- strings.Clone at the seat. -/
namespace Go.Proofs
open Go.RowKit Go.Shelf
end Go.Proofs
/- cert: the reader's bytes and numbers. -/
namespace Go.Tr
open Go.Proofs
/-- A string of these bytes. -/
def sB (l : List UInt8) : ByteArray := ⟨l.toArray⟩
theorem sB_size (l : List UInt8) : (sB l).size = l.length := by simp [sB, ByteArray.size]
end Go.Tr
/- cert: the reader's numbers. -/
namespace Go.Tr
open Go.Proofs
end Go.Tr
/- cert: the reader's lengths, terms, names. -/
namespace Go.Tr
open Go.Proofs
end Go.Tr
/- strings.Clone; the reader's names and declarations. -/
namespace Go.Tr
open Go.Proofs
end Go.Tr
/- cert: the reader's declarations; lists of terms and of declarations. -/
namespace Go.Tr
open Go.Proofs
end Go.Tr
/- cert: lists that are read. -/
namespace Go.Tr
open Go.Proofs
end Go.Tr
/- cert: a node that is read. -/
namespace Go.Tr
open Go.Proofs
end Go.Tr
/- cert: the nodes that are read. -/
namespace Go.Tr
open Go.Proofs
end Go.Tr
/- cert: a certificate that is read. -/
namespace Go.Tr
open Go.Proofs
end Go.Tr
/- cert: a deferred function that recovers. -/
namespace Go.Tr
open Go.Proofs
theorem DefSt.mono {P : Program} {f : FuncId} {args : List AV} {H : HP} {rec : Option CV} {K K' : HP → Prop} (h : DefSt P f args H rec K) (hk : ∀ H', K H' → K' H') : DefSt P f args H rec K' := by
  unfold DefSt at *
  refine ⟨h.1, fun w S κ vs u hh hvs hu => (h.2 w S κ vs u hh hvs hu).mono ?_⟩
  rintro e u' w' ⟨v, H', κ', S', h1, h2, h3, h4⟩
  exact ⟨v, H', κ', S', h1, h2, hk _ h3, h4⟩
end Go.Tr
/- cert: Unpack. -/
namespace Go.Tr
open Go.Proofs
end Go.Tr
/- The law CertSealed. -/
namespace Go.Tr
open Go.Proofs
end Go.Tr
/- cert: the round trip, plain. -/
namespace Go.Tr
open Go.Proofs
end Go.Tr
/- cert: the round trip, plain: the reader reads what is packed. -/
namespace Go.Tr
open Go.Proofs
end Go.Tr
