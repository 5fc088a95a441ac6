/- What each function computes, and the plain laws of it. -/
import Derived.Shelf.Pu.Clone
import Derived.Test.YtdclcamgmepjpaaTrX5273b4b0
set_option linter.unusedVariables false
set_option linter.unusedSimpArgs false
set_option linter.unnecessarySimpa false
set_option autoImplicit false
/- cert: add. -/
namespace Go.Tr
open Go.Proofs
theorem szL_take : ∀ (ts : List Term) (j : Nat) (u : Term), ts[j]? = some u → szL (ts.take (j + 1)) = szL (ts.take j) + szT u
  | [], _, _, h => by simp at h
  | t :: r, 0, u, h => by
    simp at h
    subst h
    simp [szL]
  | t :: r, j + 1, u, h => by
    have := szL_take r j u (by simpa using h)
    simp only [List.take_succ_cons, szL, this]
    omega
theorem adL_take : ∀ (ts : List Term) (j : Nat) (u : Term) (B : List Term), ts[j]? = some u → adL (ts.take (j + 1)) B = adT u (adL (ts.take j) B)
  | [], _, _, _, h => by simp at h
  | t :: r, 0, u, B, h => by
    simp at h
    subst h
    simp [adL]
  | t :: r, j + 1, u, B, h => by
    have := adL_take r j u (adT t B) (by simpa using h)
    simp only [List.take_succ_cons, adL, this]
theorem szL_le_take : ∀ (ts : List Term) (j : Nat), szL (ts.take j) ≤ szL ts
  | [], j => by simp
  | t :: r, 0 => by
    have := szT_pos t
    have := szL_pos r
    simp only [List.take_zero, szL]
    omega
  | t :: r, j + 1 => by
    have := szL_le_take r j
    simp only [List.take_succ_cons, szL]
    omega
theorem szL_len : ∀ ts : List Term, (ts.length : Int) ≤ szL ts
  | [] => by simp [szL]
  | t :: r => by
    have := szL_len r
    have := szT_pos t
    simp only [szL, List.length_cons]
    omega
theorem rowN_map_snoc {L : List Nat} {x : Nat} : rowN L ++ [[CV.int .i64 (x : Int)]] = rowN (L ++ [x]) := by simp [rowN]
theorem cAddN (t : Term) : ∀ (B : List Term) (a : Int), Good B → wf t → B.length + szT t ≤ 1000000 → 0 ≤ a ∧ a + szT t ≤ 1000000000 →
    CallSt Try.prog 41 [.ptr 0 0, tv t] [.box [.own 1, .mpv 2, .c (.int .i64 (a))], .row 65 5 72 (nds B), .mp true (.n (atF B))]
      (fun r H' => r = .c (.int .i64 ((pl (adT t B) t : Nat))) ∧ H' = [.box [.own 3, .mpv 2, .c (.int .i64 (a + szT t))], .dead, .mp true (.n (atF (adT t B))), .row 65 5 72 (nds (adT t B))]) := by
  induction t using Term.ind with
  | _ t ih =>
  intro B a hg hw hs ha
  obtain ⟨k, l, n, ts⟩ := t
  replace ih : ∀ u, u ∈ ts → _ := ih
  have hwn := wf_node hw
  simp only [Term.k, Term.l, Term.n] at hwn
  have hsz : szT (.mk k l n ts) = 1 + szL ts := by rw [szT]
  rw [hsz] at hs ha
  have hln := len_tcs ts
  have hsl := szL_len ts
  rw [tv_mk]
  refine call_wk (E := env 3) (fn := Try.f41) (c := bodyOf Try.f41) (env_ok 3) mixed (by kernel_rfl) (by kernel_rfl) (by kernel_rfl) (by kernel_rfl) (by kernel_rfl) (by kernel_rfl) rfl false ?_
  conv => whnf
  repeat (first | (refine And.intro rfl ?_; conv => whnf) | (refine And.intro (by decide) ?_; conv => whnf) | (refine draw_intro true (by kernel_rfl) ?_; conv => whnf) | (refine And.intro ⟨by omega, by omega⟩ ?_; conv => whnf) | (refine And.intro (by omega) ?_; conv => whnf) | (refine And.intro (fun _ => ⟨by omega, by omega⟩) ?_; conv => whnf) | (refine And.intro (fun _ => ?_) (fun h => absurd h ?_); rotate_left; (focus (first | decide | (simp; done) | (simp [tcs]; done))); conv => whnf) | (refine And.intro (fun h => absurd h ?_) (fun _ => ?_); (focus (first | decide | (simp; done) | (simp [tcs]; done))); conv => whnf) | (intro _; conv => whnf))
  refine loop_intro (fun m tm H => ∃ (j : Nat) (B' : List Term) (a' : Int), ts.length = m + j ∧ B' = adL (ts.take j) B ∧ a' = a + szL (ts.take j) ∧
      tm = [(17, .c (.int .i64 (j))), (16, .c (.int .i64 ((tcs ts).length))), (15, .c (.sl 4 48 (tcs ts))), (0, .ptr 0 0), (3, .ptr 3 0), (5, .ptr 5 0)] ∧
      H = [.box [.own 4, .mpv 2, .c (.int .i64 (a'))], .dead, .mp true (.n (atF B')), .box [.c (.int .i64 (k)), .c (.int .i64 (l)), .c (.int .i64 (n)), .c (.sl 4 48 (tcs ts))], .row 65 5 72 (nds B'),
        .box [.c (.int .i64 (k)), .c (.int .i64 (l)), .c (.int .i64 (n)), .c (.sl 4 48 (tcs ts)), .own 6], .row 3 1 8 (rowN ((ts.take j).map (pl B')))])
    ts.length _ _ ⟨0, B, a, by omega, by simp [adL], by simp [szL], rfl, rfl⟩ ?_ ?_
  · refine Wk.trans (Wk.mvbox 0 0 1 65 5 72 (nds B) rfl rfl rfl rfl) ?_
    refine Wk.trans (Wk.nilrow (i := 4) (j := 4) 3 1 8 rfl rfl rfl) ?_
    exact Wk.sel [0, 1, 2, 3, 5, 4, 6] (by decide) (by decide) (by decide) ⟨rfl, rfl, rfl, rfl, rfl, rfl, rfl, trivial⟩ ⟨rfl, rfl, rfl, rfl, rfl, rfl, trivial⟩ rfl
  rintro m tm H ⟨j, B', a', hj, hB, ha', rfl, rfl⟩
  obtain ⟨g1, g2, g3, g4⟩ := adL_spec (ts.take j) B hg fun u hu => wf_kid hw (List.mem_of_mem_take hu)
  rw [← hB] at g1 g2 g3 g4
  have hle := szL_le_take ts j
  have hnn := szL_pos (ts.take j)
  conv => whnf
  refine ⟨fun hc => ?_, fun hc => ?_⟩
  · replace hc : (j : Int) < (tcs ts).length := of_decide_eq_true hc
    obtain ⟨u, hu⟩ : ∃ u, ts[j]? = some u := ⟨ts[j]'(by omega), List.getElem?_eq_getElem (by omega)⟩
    have hm := List.mem_of_getElem? hu
    have huc := tcs_at ts j u hu
    have hst := szL_take ts j u hu
    have hle2 := szL_le_take ts (j + 1)
    have hup := szT_pos u
    have hi := ih u hm B' a' g1 (wf_kid hw hm) (by omega) (by omega)
    obtain ⟨q1, q2, q3, q4⟩ := adT_spec u B' g1 (wf_kid hw hm)
    have hmp : (ts.take (j + 1)).map (pl (adT u B')) = (ts.take j).map (pl B') ++ [pl (adT u B') u] := by
      rw [List.take_add_one, hu, List.map_append]
      congr 1
      obtain ⟨C, hC⟩ := q2
      rw [← hC]
      exact List.map_congr_left fun v hv => pl_app (g3 v hv)
    have hBn : adT u B' = adL (ts.take (j + 1)) B := by rw [adL_take ts j u B hu, ← hB]
    have hul : (List.map (pl B') (ts.take j)).length ≤ 1000000 := by rw [List.length_map, List.length_take]; omega
    have hrl := rowN_len ((ts.take j).map (pl B'))
    have hb1 : ((rowN ((ts.take j).map (pl B'))).length + 1) * 8 ≤ 140737488355328 := by omega
    have hb2 : (rowN ((ts.take j).map (pl B'))).length + 1 ≤ 9223372036854775807 := by omega
    generalize adT u B' = B2 at *
    obtain ⟨k', l', n', us⟩ := u
    rw [tv_mk] at hi
    conv => whnf
    refine ⟨_, ⟨by omega, by simpa using huc⟩, ?_⟩
    conv => whnf
    refine ⟨Nat.le_refl 4, ?_⟩
    conv => whnf
    repeat (first | (refine And.intro rfl ?_; conv => whnf) | (refine And.intro (by decide) ?_; conv => whnf) | (refine draw_intro true (by kernel_rfl) ?_; conv => whnf) | (refine And.intro ⟨by omega, by omega⟩ ?_; conv => whnf) | (refine And.intro (by omega) ?_; conv => whnf) | (refine And.intro (fun _ => ⟨by omega, by omega⟩) ?_; conv => whnf) | (refine And.intro (fun _ => ?_) (fun h => absurd h ?_); rotate_left; (focus (first | decide | (simp; done) | (simp [tcs]; done))); conv => whnf) | (refine And.intro (fun h => absurd h ?_) (fun _ => ?_); (focus (first | decide | (simp; done) | (simp [tcs]; done))); conv => whnf) | (intro _; conv => whnf))
    try (refine draw_intro true (by kernel_rfl) ?_; conv => whnf)
    refine CallSt.use hi [0, 4, 2] ⟨rfl, rfl, rfl, trivial⟩ (by decide) rfl ?_
    rintro _ _ ⟨rfl, rfl⟩ _
    conv => whnf
    repeat (first | (refine And.intro rfl ?_; conv => whnf) | (refine And.intro (by decide) ?_; conv => whnf) | (refine draw_intro true (by kernel_rfl) ?_; conv => whnf) | (refine And.intro ⟨by omega, by omega⟩ ?_; conv => whnf) | (refine And.intro (by omega) ?_; conv => whnf) | (refine And.intro (fun _ => ⟨by omega, by omega⟩) ?_; conv => whnf) | (refine And.intro (fun _ => ?_) (fun h => absurd h ?_); rotate_left; (focus (first | decide | (simp; done) | (simp [tcs]; done))); conv => whnf) | (refine And.intro (fun h => absurd h ?_) (fun _ => ?_); (focus (first | decide | (simp; done) | (simp [tcs]; done))); conv => whnf) | (intro _; conv => whnf))
    refine ⟨m - 1, _, _, by omega, ⟨j + 1, B2, a' + szT (.mk k' l' n' us), by omega, hBn, by omega, rfl, rfl⟩, Wk.sel [0, 1, 2, 3, 8, 5, 10] (by decide) (by decide) (by decide) ⟨rfl, rfl, rfl, rfl, rfl, rfl, ?_, trivial⟩ ⟨rfl, rfl, rfl, rfl, rfl, rfl, trivial⟩ rfl⟩
    rw [hmp, ← rowN_map_snoc]
    rfl
  · replace hc : ¬ (j : Int) < (tcs ts).length := of_decide_eq_false hc
    obtain rfl : j = ts.length := by omega
    rw [List.take_length] at hB ha' g3 g4 hnn ⊢
    have hkids : ∀ u ∈ ts, u ∈ B' := g3
    have hkey := cKey (.mk k l n ts) (kd B' (.mk k l n ts)) (by simp only [Term.k]; omega) (by simp only [Term.l]; omega) (by simp only [Term.n]; omega) (fun x hx => by
      obtain ⟨u, hu, rfl⟩ := List.mem_map.1 hx
      have := pl_lt (hkids u hu)
      omega) (by simp only [kd, List.length_map, Term.ts]; omega)
    have hks : (⟨(keyB (.mk k l n ts) (kd B' (.mk k l n ts))).toArray⟩ : ByteArray) = keyS B' (.mk k l n ts) := rfl
    rw [hks] at hkey
    simp only [Term.k, Term.l, Term.n, Term.ts] at hkey
    have hkd : kd B' (.mk k l n ts) = ts.map (pl B') := rfl
    rw [hkd] at hkey
    have hnl := nds_len B'
    by_cases hT : Term.mk k l n ts ∈ B'
    · have hat := atF_in g1 hT
      have e1 : adT (.mk k l n ts) B = B' := by rw [adT, ← hB, if_pos hT]
      rw [e1, hsz]
      generalize keyS B' (.mk k l n ts) = q at *
      generalize pl B' (.mk k l n ts) = p at *
      generalize hF : atF B' = F at *
      conv => whnf
      refine ⟨⟨by omega, by omega⟩, ?_⟩
      conv => whnf
      repeat (first | (refine And.intro rfl ?_; conv => whnf) | (refine And.intro (by decide) ?_; conv => whnf) | (refine draw_intro true (by kernel_rfl) ?_; conv => whnf) | (refine And.intro ⟨by omega, by omega⟩ ?_; conv => whnf) | (refine And.intro (by omega) ?_; conv => whnf) | (refine And.intro (fun _ => ⟨by omega, by omega⟩) ?_; conv => whnf) | (refine And.intro (fun _ => ?_) (fun h => absurd h ?_); rotate_left; (focus (first | decide | (simp; done) | (simp [tcs]; done))); conv => whnf) | (refine And.intro (fun h => absurd h ?_) (fun _ => ?_); (focus (first | decide | (simp; done) | (simp [tcs]; done))); conv => whnf) | (intro _; conv => whnf))
      try (refine draw_intro true (by kernel_rfl) ?_; conv => whnf)
      refine CallSt.use hkey [] trivial (by decide) rfl ?_
      rintro _ _ ⟨rfl, rfl⟩ _
      conv => whnf
      repeat (first | (refine And.intro rfl ?_; conv => whnf) | (refine And.intro (by decide) ?_; conv => whnf) | (refine draw_intro true (by kernel_rfl) ?_; conv => whnf) | (refine And.intro ⟨by omega, by omega⟩ ?_; conv => whnf) | (refine And.intro (by omega) ?_; conv => whnf) | (refine And.intro (fun _ => ⟨by omega, by omega⟩) ?_; conv => whnf) | (refine And.intro (fun _ => ?_) (fun h => absurd h ?_); rotate_left; (focus (first | decide | (simp; done) | (simp [tcs]; done))); conv => whnf) | (refine And.intro (fun h => absurd h ?_) (fun _ => ?_); (focus (first | decide | (simp; done) | (simp [tcs]; done))); conv => whnf) | (intro _; conv => whnf))
      rw [hat]
      conv => whnf
      repeat (first | (refine And.intro rfl ?_; conv => whnf) | (refine And.intro (by decide) ?_; conv => whnf) | (refine draw_intro true (by kernel_rfl) ?_; conv => whnf) | (refine And.intro ⟨by omega, by omega⟩ ?_; conv => whnf) | (refine And.intro (by omega) ?_; conv => whnf) | (refine And.intro (fun _ => ⟨by omega, by omega⟩) ?_; conv => whnf) | (refine And.intro (fun _ => ?_) (fun h => absurd h ?_); rotate_left; (focus (first | decide | (simp; done) | (simp [tcs]; done))); conv => whnf) | (refine And.intro (fun h => absurd h ?_) (fun _ => ?_); (focus (first | decide | (simp; done) | (simp [tcs]; done))); conv => whnf) | (intro _; conv => whnf))
      refine ⟨[(4, .c (.int .i64 ((p : Nat))))], [.box [.own 3, .mpv 2, .c (.int .i64 (a + (1 + szL ts)))], .dead, .mp true (.n F), .row 65 5 72 (nds B')], Wk.sel [0, 1, 2, 4] (by decide) (by decide) (by decide) ⟨?_, rfl, rfl, rfl, trivial⟩ ⟨rfl, trivial⟩ rfl, ?_⟩
      · exact congrArg (fun z => some (Ent.box [.own 4, .mpv 2, .c (.int .i64 z)])) (by omega)
      conv => whnf
      exact ⟨rfl, rfl⟩
    · have hat := atF_out g1 hT hw hkids
      have hsn := atF_snoc g1 hT hw hkids
      have hns := nds_snoc g1 (t := .mk k l n ts) hkids
      have e1 : adT (.mk k l n ts) B = B' ++ [.mk k l n ts] := by rw [adT, ← hB, if_neg hT]
      have e2 : pl (B' ++ [.mk k l n ts]) (.mk k l n ts) = B'.length := pl_snoc hT
      have hb1 : ((nds B').length + 1) * 72 ≤ 140737488355328 := by omega
      have hb2 : (nds B').length + 1 ≤ 9223372036854775807 := by omega
      have hrl2 := rowN_len (ts.map (pl B'))
      have hnd : ndc B' (.mk k l n ts) = [.int .i64 k, .int .i64 l, .int .i64 n, .sl 4 48 (tcs ts), .sl 1 8 (rowN (ts.map (pl B')))] := rfl
      rw [e1, e2, hsz]
      rw [hns, hnd, ← hsn, ← hnl]
      generalize keyS B' (.mk k l n ts) = q at *
      generalize hF : atF B' = F at *
      conv => whnf
      refine ⟨⟨by omega, by omega⟩, ?_⟩
      conv => whnf
      repeat (first | (refine And.intro rfl ?_; conv => whnf) | (refine And.intro (by decide) ?_; conv => whnf) | (refine draw_intro true (by kernel_rfl) ?_; conv => whnf) | (refine And.intro ⟨by omega, by omega⟩ ?_; conv => whnf) | (refine And.intro (by omega) ?_; conv => whnf) | (refine And.intro (fun _ => ⟨by omega, by omega⟩) ?_; conv => whnf) | (refine And.intro (fun _ => ?_) (fun h => absurd h ?_); rotate_left; (focus (first | decide | (simp; done) | (simp [tcs]; done))); conv => whnf) | (refine And.intro (fun h => absurd h ?_) (fun _ => ?_); (focus (first | decide | (simp; done) | (simp [tcs]; done))); conv => whnf) | (intro _; conv => whnf))
      try (refine draw_intro true (by kernel_rfl) ?_; conv => whnf)
      refine CallSt.use hkey [] trivial (by decide) rfl ?_
      rintro _ _ ⟨rfl, rfl⟩ _
      conv => whnf
      repeat (first | (refine And.intro rfl ?_; conv => whnf) | (refine And.intro (by decide) ?_; conv => whnf) | (refine draw_intro true (by kernel_rfl) ?_; conv => whnf) | (refine And.intro ⟨by omega, by omega⟩ ?_; conv => whnf) | (refine And.intro (by omega) ?_; conv => whnf) | (refine And.intro (fun _ => ⟨by omega, by omega⟩) ?_; conv => whnf) | (refine And.intro (fun _ => ?_) (fun h => absurd h ?_); rotate_left; (focus (first | decide | (simp; done) | (simp [tcs]; done))); conv => whnf) | (refine And.intro (fun h => absurd h ?_) (fun _ => ?_); (focus (first | decide | (simp; done) | (simp [tcs]; done))); conv => whnf) | (intro _; conv => whnf))
      rw [hat]
      conv => whnf
      repeat (first | (refine And.intro rfl ?_; conv => whnf) | (refine And.intro (by decide) ?_; conv => whnf) | (refine draw_intro true (by kernel_rfl) ?_; conv => whnf) | (refine And.intro ⟨by omega, by omega⟩ ?_; conv => whnf) | (refine And.intro (by omega) ?_; conv => whnf) | (refine And.intro (fun _ => ⟨by omega, by omega⟩) ?_; conv => whnf) | (refine And.intro (fun _ => ?_) (fun h => absurd h ?_); rotate_left; (focus (first | decide | (simp; done) | (simp [tcs]; done))); conv => whnf) | (refine And.intro (fun h => absurd h ?_) (fun _ => ?_); (focus (first | decide | (simp; done) | (simp [tcs]; done))); conv => whnf) | (intro _; conv => whnf))
      refine ⟨[(4, .c (.int .i64 ((nds B').length)))], [.box [.own 3, .mpv 2, .c (.int .i64 (a + (1 + szL ts)))], .dead, .mp true (.n (mput F (.s q) ((nds B').length : Int))), .row 65 5 72 (nds B' ++ [[.int .i64 k, .int .i64 l, .int .i64 n, .sl 4 48 (tcs ts), .sl 1 8 (rowN (ts.map (pl B')))]])], Wk.sel [0, 1, 2, 8] (by decide) (by decide) (by decide) ⟨?_, rfl, rfl, rfl, trivial⟩ ⟨rfl, trivial⟩ rfl, ?_⟩
      · exact congrArg (fun z => some (Ent.box [.own 8, .mpv 2, .c (.int .i64 z)])) (by omega)
      conv => whnf
      exact ⟨rfl, rfl⟩
end Go.Tr
/- cert: the rounds over a certificate's terms (made by gen103.py). -/
namespace Go.Tr
open Go.Proofs
structure Crt where
  S : List Dcl
  X : List Term
  o : Term
  c : Term
/-- A certificate's value. -/
def crv (c : Crt) : AV := .agg [.c (.sl 6 72 (dcs c.S)), .c (.sl 4 48 (tcs c.X)), .c (.int .i64 (c.o.k)), .c (.int .i64 (c.o.l)), .c (.int .i64 (c.o.n)), .c (.sl 4 48 (tcs c.o.ts)), .c (.int .i64 (c.c.k)), .c (.int .i64 (c.c.l)), .c (.int .i64 (c.c.n)), .c (.sl 4 48 (tcs c.c.ts))]
/-- A certificate's terms. -/
def crl (c : Crt) : List Term := c.S.map (·.c) ++ (c.X ++ [c.o, c.c])
theorem crl_S {c : Crt} {n : Nat} {d : Dcl} (h : c.S[n]? = some d) : (crl c)[n]? = some d.c := by
  have hl := (List.getElem?_eq_some_iff.1 h).1
  rw [crl, List.getElem?_append_left (by simpa using hl), List.getElem?_map, h]
  rfl
theorem crl_X {c : Crt} {n : Nat} {t : Term} (h : c.X[n]? = some t) : (crl c)[c.S.length + n]? = some t := by
  have hl := (List.getElem?_eq_some_iff.1 h).1
  rw [crl, List.getElem?_append_right (by simp), List.length_map, Nat.add_sub_cancel_left, List.getElem?_append_left hl, h]
theorem crl_o (c : Crt) : (crl c)[c.S.length + c.X.length]? = some c.o := by
  rw [crl, List.getElem?_append_right (by simp), List.length_map, Nat.add_sub_cancel_left, List.getElem?_append_right (Nat.le_refl _), Nat.sub_self]
  rfl
theorem crl_c (c : Crt) : (crl c)[c.S.length + c.X.length + 1]? = some c.c := by
  rw [crl, Nat.add_assoc, List.getElem?_append_right (by simp), List.length_map, Nat.add_sub_cancel_left, List.getElem?_append_right (by omega), Nat.add_sub_cancel_left]
  rfl
theorem crl_len (c : Crt) : (crl c).length = c.S.length + c.X.length + 2 := by simp [crl]; omega
theorem cTermsI (c : Crt) : CallSt Try.prog 39 [crv c] [] (fun r H' => r = .fn 51 [.ptr 0 0] ∧ H' = [.box [.c (.sl 6 72 (dcs c.S)), .c (.sl 4 48 (tcs c.X)), .c (.int .i64 (c.o.k)), .c (.int .i64 (c.o.l)), .c (.int .i64 (c.o.n)), .c (.sl 4 48 (tcs c.o.ts)), .c (.int .i64 (c.c.k)), .c (.int .i64 (c.c.l)), .c (.int .i64 (c.c.n)), .c (.sl 4 48 (tcs c.c.ts))]]) := by
  obtain ⟨S, X, ⟨k, l, n, ts⟩, ⟨k2, l2, n2, us⟩⟩ := c
  unfold crv
  refine call_intro (E := env 0) (fn := Try.f39) (c := bodyOf Try.f39) (env_ok 0) mixed (by kernel_rfl) (by kernel_rfl) (by kernel_rfl) (by kernel_rfl) (by kernel_rfl) (by kernel_rfl) rfl ?_
  conv => whnf
  repeat (first | (refine And.intro rfl ?_; conv => whnf) | (refine And.intro (by decide) ?_; conv => whnf) | (refine draw_intro true (by kernel_rfl) ?_; conv => whnf) | (refine And.intro ⟨by omega, by omega⟩ ?_; conv => whnf) | (refine And.intro (by omega) ?_; conv => whnf) | (refine And.intro (fun _ => ⟨by omega, by omega⟩) ?_; conv => whnf) | (refine And.intro (fun _ => ?_) (fun h => absurd h ?_); rotate_left; (focus (first | decide | (simp; done) | (simp [tcs]; done))); conv => whnf) | (refine And.intro (fun h => absurd h ?_) (fun _ => ?_); (focus (first | decide | (simp; done) | (simp [tcs]; done))); conv => whnf))
  all_goals (first | rfl | exact ⟨rfl, rfl⟩ | exact ⟨rfl, rfl, rfl⟩)
theorem cTermsN {ps : Array Nat} {asg body : Code} (c : Crt) (hS : c.S.length ≤ 100) (hX : c.X.length ≤ 100) (B : Nat → List Term) (a : Nat → Int) (R : Nat → List Nat)
    (hY : ∀ (n : Nat) (t : Term), (crl c)[n]? = some t → YSt Try.prog 5 [tv t] [.box [.own 1, .mpv 2, .c (.int .i64 (a n))], .row 65 5 72 (nds (B n)), .mp true (.n (atF (B n))), .box [.own 4], .row 3 1 8 (rowN (R n)), .lrec .ready [(4, .ptr 6 0), (5, .ptr 3 0)] ps asg body, .box [.ptr 0 0]] (fun r H' => r = .c (.bool true) ∧ H' = [.box [.own 7, .mpv 2, .c (.int .i64 (a (n + 1)))], .dead, .mp true (.n (atF (B (n + 1)))), .box [.own 8], .dead, .lrec .ready [(4, .ptr 6 0), (5, .ptr 3 0)] ps asg body, .box [.ptr 0 0], .row 65 5 72 (nds (B (n + 1))), .row 3 1 8 (rowN (R (n + 1)))])) :
    CallSt Try.prog 51 [.yv 6, .ptr 0 0] [.box [.c (.sl 6 72 (dcs c.S)), .c (.sl 4 48 (tcs c.X)), .c (.int .i64 (c.o.k)), .c (.int .i64 (c.o.l)), .c (.int .i64 (c.o.n)), .c (.sl 4 48 (tcs c.o.ts)), .c (.int .i64 (c.c.k)), .c (.int .i64 (c.c.l)), .c (.int .i64 (c.c.n)), .c (.sl 4 48 (tcs c.c.ts))], .box [.own 2, .mpv 3, .c (.int .i64 (a 0))], .row 65 5 72 (nds (B 0)), .mp true (.n (atF (B 0))), .box [.own 5], .row 3 1 8 (rowN (R 0)), .lrec .ready [(4, .ptr 7 0), (5, .ptr 4 0)] ps asg body, .box [.ptr 1 0]] (fun r H' => r = .tup [] ∧ H' = [.box [.c (.sl 6 72 (dcs c.S)), .c (.sl 4 48 (tcs c.X)), .c (.int .i64 (c.o.k)), .c (.int .i64 (c.o.l)), .c (.int .i64 (c.o.n)), .c (.sl 4 48 (tcs c.o.ts)), .c (.int .i64 (c.c.k)), .c (.int .i64 (c.c.l)), .c (.int .i64 (c.c.n)), .c (.sl 4 48 (tcs c.c.ts))], .box [.own 8, .mpv 3, .c (.int .i64 (a (crl c).length))], .dead, .mp true (.n (atF (B (crl c).length))), .box [.own 9], .dead, .lrec .ready [(4, .ptr 7 0), (5, .ptr 4 0)] ps asg body, .box [.ptr 1 0], .row 65 5 72 (nds (B (crl c).length)), .row 3 1 8 (rowN (R (crl c).length))]) := by
  have hds := len_dcs c.S
  have hxl := len_tcs c.X
  have hcl := crl_len c
  have hyS := fun n d (h : c.S[n]? = some d) => hY n d.c (crl_S h)
  have hyX := fun n t (h : c.X[n]? = some t) => hY _ t (crl_X h)
  have hyo := hY _ _ (crl_o c)
  have hyc := hY _ _ (crl_c c)
  clear hY
  rw [hcl]
  obtain ⟨S, X, ⟨k, l, n, ts⟩, ⟨k2, l2, n2, us⟩⟩ := c
  dsimp only [Term.k, Term.l, Term.n, Term.ts] at *
  rw [tv_mk] at hyo hyc
  refine call_wk (E := envK 8) (fn := Try.f51) (c := bodyOf Try.f51) (envK_ok 8) mixed (by kernel_rfl) (by kernel_rfl) (by kernel_rfl) (by kernel_rfl) (by kernel_rfl) (by kernel_rfl) rfl false ?_
  conv => whnf
  repeat (first | (refine And.intro rfl ?_; conv => whnf) | (refine And.intro (by decide) ?_; conv => whnf) | (refine draw_intro true (by kernel_rfl) ?_; conv => whnf) | (refine And.intro ⟨by omega, by omega⟩ ?_; conv => whnf) | (refine And.intro (by omega) ?_; conv => whnf) | (refine And.intro (fun _ => ⟨by omega, by omega⟩) ?_; conv => whnf) | (refine And.intro (fun _ => ?_) (fun h => absurd h ?_); rotate_left; (focus (first | decide | (simp; done) | (simp [tcs]; done))); conv => whnf) | (refine And.intro (fun h => absurd h ?_) (fun _ => ?_); (focus (first | decide | (simp; done) | (simp [tcs]; done))); conv => whnf) | (intro _; conv => whnf))
  refine loop_intro (fun m tm H => ∃ (j : Nat), S.length = m + j ∧ tm = [(10, .c (.int .i64 (j))), (9, .c (.int .i64 ((dcs S).length))), (8, .c (.sl 6 72 (dcs S))), (0, .yv 6), (1, .ptr 0 0)] ∧ H = [.box [.c (.sl 6 72 (dcs S)), .c (.sl 4 48 (tcs X)), .c (.int .i64 (k)), .c (.int .i64 (l)), .c (.int .i64 (n)), .c (.sl 4 48 (tcs ts)), .c (.int .i64 (k2)), .c (.int .i64 (l2)), .c (.int .i64 (n2)), .c (.sl 4 48 (tcs us))], .box [.own 8, .mpv 3, .c (.int .i64 (a j))], .dead, .mp true (.n (atF (B j))), .box [.own 9], .dead, .lrec .ready [(4, .ptr 7 0), (5, .ptr 4 0)] ps asg body, .box [.ptr 1 0], .row 65 5 72 (nds (B j)), .row 3 1 8 (rowN (R j))])
    S.length _ _ ⟨0, by omega, rfl, rfl⟩ ?_ ?_
  · refine Wk.trans (Wk.mvbox 1 0 2 65 5 72 (nds (B 0)) rfl rfl rfl rfl) ?_
    refine Wk.trans (Wk.mvbox 4 0 5 3 1 8 (rowN (R 0)) rfl rfl rfl rfl) ?_
    exact Wk.sel [0, 1, 2, 3, 4, 5, 6, 7, 8, 9] (by decide) (by decide) (by decide) ⟨rfl, rfl, rfl, rfl, rfl, rfl, rfl, rfl, rfl, rfl, trivial⟩ ⟨rfl, rfl, rfl, rfl, rfl, trivial⟩ rfl
  rintro m tm H ⟨j, hj, rfl, rfl⟩
  conv => whnf
  refine ⟨fun hc => ?_, fun hc => ?_⟩
  · replace hc : (j : Int) < (dcs S).length := of_decide_eq_true hc
    obtain ⟨d, hd⟩ : ∃ d, S[j]? = some d := ⟨S[j]'(by omega), List.getElem?_eq_getElem (by omega)⟩
    have hdc := dcs_at hd
    have hy := hyS j d hd
    obtain ⟨s', ⟨k', l', n', us'⟩, i'⟩ := d
    dsimp only at hy
    rw [tv_mk] at hy
    conv => whnf
    refine ⟨_, ⟨by omega, hdc⟩, ?_⟩
    conv => whnf
    refine ⟨show 6 ≤ 6 by decide, ?_⟩
    conv => whnf
    repeat (first | (refine And.intro rfl ?_; conv => whnf) | (refine And.intro (by decide) ?_; conv => whnf) | (refine draw_intro true (by kernel_rfl) ?_; conv => whnf) | (refine And.intro ⟨by omega, by omega⟩ ?_; conv => whnf) | (refine And.intro (by omega) ?_; conv => whnf) | (refine And.intro (fun _ => ⟨by omega, by omega⟩) ?_; conv => whnf) | (refine And.intro (fun _ => ?_) (fun h => absurd h ?_); rotate_left; (focus (first | decide | (simp; done) | (simp [tcs]; done))); conv => whnf) | (refine And.intro (fun h => absurd h ?_) (fun _ => ?_); (focus (first | decide | (simp; done) | (simp [tcs]; done))); conv => whnf) | (intro _; conv => whnf))
    try (refine draw_intro true (by kernel_rfl) ?_; conv => whnf)
    refine YSt.use hy [1, 8, 3, 4, 9, 6, 7] rfl ⟨rfl, rfl, rfl, rfl, rfl, rfl, rfl, trivial⟩ (by decide) rfl ?_
    rintro _ _ ⟨rfl, rfl⟩ _
    conv => whnf
    repeat (first | (refine And.intro rfl ?_; conv => whnf) | (refine And.intro (by decide) ?_; conv => whnf) | (refine draw_intro true (by kernel_rfl) ?_; conv => whnf) | (refine And.intro ⟨by omega, by omega⟩ ?_; conv => whnf) | (refine And.intro (by omega) ?_; conv => whnf) | (refine And.intro (fun _ => ⟨by omega, by omega⟩) ?_; conv => whnf) | (refine And.intro (fun _ => ?_) (fun h => absurd h ?_); rotate_left; (focus (first | decide | (simp; done) | (simp [tcs]; done))); conv => whnf) | (refine And.intro (fun h => absurd h ?_) (fun _ => ?_); (focus (first | decide | (simp; done) | (simp [tcs]; done))); conv => whnf) | (intro _; conv => whnf))
    refine ⟨m - 1, _, _, by omega, ⟨j + 1, by omega, rfl, rfl⟩, Wk.sel [0, 1, 2, 3, 4, 5, 6, 7, 11, 12] (by decide) (by decide) (by decide) ⟨rfl, rfl, rfl, rfl, rfl, rfl, rfl, rfl, rfl, rfl, trivial⟩ ⟨rfl, rfl, rfl, rfl, rfl, trivial⟩ rfl⟩
  · replace hc : ¬ (j : Int) < (dcs S).length := of_decide_eq_false hc
    obtain rfl : j = S.length := by omega
    conv => whnf
    repeat (first | (refine And.intro rfl ?_; conv => whnf) | (refine And.intro (by decide) ?_; conv => whnf) | (refine draw_intro true (by kernel_rfl) ?_; conv => whnf) | (refine And.intro ⟨by omega, by omega⟩ ?_; conv => whnf) | (refine And.intro (by omega) ?_; conv => whnf) | (refine And.intro (fun _ => ⟨by omega, by omega⟩) ?_; conv => whnf) | (refine And.intro (fun _ => ?_) (fun h => absurd h ?_); rotate_left; (focus (first | decide | (simp; done) | (simp [tcs]; done))); conv => whnf) | (refine And.intro (fun h => absurd h ?_) (fun _ => ?_); (focus (first | decide | (simp; done) | (simp [tcs]; done))); conv => whnf) | (intro _; conv => whnf))
    refine loop_intro (fun m tm H => ∃ (j q : Nat), X.length = m + j ∧ q = S.length + j ∧ tm = [(23, .c (.int .i64 (j))), (22, .c (.int .i64 ((tcs X).length))), (21, .c (.sl 4 48 (tcs X))), (0, .yv 6), (1, .ptr 0 0)] ∧ H = [.box [.c (.sl 6 72 (dcs S)), .c (.sl 4 48 (tcs X)), .c (.int .i64 (k)), .c (.int .i64 (l)), .c (.int .i64 (n)), .c (.sl 4 48 (tcs ts)), .c (.int .i64 (k2)), .c (.int .i64 (l2)), .c (.int .i64 (n2)), .c (.sl 4 48 (tcs us))], .box [.own 8, .mpv 3, .c (.int .i64 (a q))], .dead, .mp true (.n (atF (B q))), .box [.own 9], .dead, .lrec .ready [(4, .ptr 7 0), (5, .ptr 4 0)] ps asg body, .box [.ptr 1 0], .row 65 5 72 (nds (B q)), .row 3 1 8 (rowN (R q))])
      X.length _ _ ⟨0, S.length, by omega, rfl, rfl, rfl⟩ (Wk.sel [0, 1, 2, 3, 4, 5, 6, 7, 8, 9] (by decide) (by decide) (by decide) ⟨rfl, rfl, rfl, rfl, rfl, rfl, rfl, rfl, rfl, rfl, trivial⟩ ⟨rfl, rfl, rfl, rfl, rfl, trivial⟩ rfl) ?_
    rintro m tm H ⟨j, q, hj, hq, rfl, rfl⟩
    conv => whnf
    refine ⟨fun hc => ?_, fun hc => ?_⟩
    · replace hc : (j : Int) < (tcs X).length := of_decide_eq_true hc
      obtain ⟨u, hu⟩ : ∃ u, X[j]? = some u := ⟨X[j]'(by omega), List.getElem?_eq_getElem (by omega)⟩
      have huc := tcs_at X j u hu
      have hy := hyX j u hu
      rw [← hq] at hy
      obtain ⟨k', l', n', us'⟩ := u
      rw [tv_mk] at hy
      conv => whnf
      refine ⟨_, ⟨by omega, by simpa using huc⟩, ?_⟩
      conv => whnf
      refine ⟨Nat.le_refl 4, ?_⟩
      conv => whnf
      repeat (first | (refine And.intro rfl ?_; conv => whnf) | (refine And.intro (by decide) ?_; conv => whnf) | (refine draw_intro true (by kernel_rfl) ?_; conv => whnf) | (refine And.intro ⟨by omega, by omega⟩ ?_; conv => whnf) | (refine And.intro (by omega) ?_; conv => whnf) | (refine And.intro (fun _ => ⟨by omega, by omega⟩) ?_; conv => whnf) | (refine And.intro (fun _ => ?_) (fun h => absurd h ?_); rotate_left; (focus (first | decide | (simp; done) | (simp [tcs]; done))); conv => whnf) | (refine And.intro (fun h => absurd h ?_) (fun _ => ?_); (focus (first | decide | (simp; done) | (simp [tcs]; done))); conv => whnf) | (intro _; conv => whnf))
      try (refine draw_intro true (by kernel_rfl) ?_; conv => whnf)
      refine YSt.use hy [1, 8, 3, 4, 9, 6, 7] rfl ⟨rfl, rfl, rfl, rfl, rfl, rfl, rfl, trivial⟩ (by decide) rfl ?_
      rintro _ _ ⟨rfl, rfl⟩ _
      conv => whnf
      repeat (first | (refine And.intro rfl ?_; conv => whnf) | (refine And.intro (by decide) ?_; conv => whnf) | (refine draw_intro true (by kernel_rfl) ?_; conv => whnf) | (refine And.intro ⟨by omega, by omega⟩ ?_; conv => whnf) | (refine And.intro (by omega) ?_; conv => whnf) | (refine And.intro (fun _ => ⟨by omega, by omega⟩) ?_; conv => whnf) | (refine And.intro (fun _ => ?_) (fun h => absurd h ?_); rotate_left; (focus (first | decide | (simp; done) | (simp [tcs]; done))); conv => whnf) | (refine And.intro (fun h => absurd h ?_) (fun _ => ?_); (focus (first | decide | (simp; done) | (simp [tcs]; done))); conv => whnf) | (intro _; conv => whnf))
      refine ⟨m - 1, _, _, by omega, ⟨j + 1, q + 1, by omega, by omega, rfl, rfl⟩, Wk.sel [0, 1, 2, 3, 4, 5, 6, 7, 11, 12] (by decide) (by decide) (by decide) ⟨rfl, rfl, rfl, rfl, rfl, rfl, rfl, rfl, rfl, rfl, trivial⟩ ⟨rfl, rfl, rfl, rfl, rfl, trivial⟩ rfl⟩
    · replace hc : ¬ (j : Int) < (tcs X).length := of_decide_eq_false hc
      obtain rfl : j = X.length := by omega
      subst hq
      conv => whnf
      repeat (first | (refine And.intro rfl ?_; conv => whnf) | (refine And.intro (by decide) ?_; conv => whnf) | (refine draw_intro true (by kernel_rfl) ?_; conv => whnf) | (refine And.intro ⟨by omega, by omega⟩ ?_; conv => whnf) | (refine And.intro (by omega) ?_; conv => whnf) | (refine And.intro (fun _ => ⟨by omega, by omega⟩) ?_; conv => whnf) | (refine And.intro (fun _ => ?_) (fun h => absurd h ?_); rotate_left; (focus (first | decide | (simp; done) | (simp [tcs]; done))); conv => whnf) | (refine And.intro (fun h => absurd h ?_) (fun _ => ?_); (focus (first | decide | (simp; done) | (simp [tcs]; done))); conv => whnf) | (intro _; conv => whnf))
      have hyo2 : YSt Try.prog 6 [.agg [.c (.int .i64 (k)), .c (.int .i64 (l)), .c (.int .i64 (n)), .c (.sl 4 48 (tcs ts))]] [.box [.c (.sl 6 72 (dcs S)), .c (.sl 4 48 (tcs X)), .c (.int .i64 (k)), .c (.int .i64 (l)), .c (.int .i64 (n)), .c (.sl 4 48 (tcs ts)), .c (.int .i64 (k2)), .c (.int .i64 (l2)), .c (.int .i64 (n2)), .c (.sl 4 48 (tcs us))], .box [.own 8, .mpv 3, .c (.int .i64 (a (S.length + X.length)))], .dead, .mp true (.n (atF (B (S.length + X.length)))), .box [.own 9], .dead, .lrec .ready [(4, .ptr 7 0), (5, .ptr 4 0)] ps asg body, .box [.ptr 1 0], .row 65 5 72 (nds (B (S.length + X.length))), .row 3 1 8 (rowN (R (S.length + X.length)))] (fun r H' => r = .c (.bool true) ∧ H' = [.box [.c (.sl 6 72 (dcs S)), .c (.sl 4 48 (tcs X)), .c (.int .i64 (k)), .c (.int .i64 (l)), .c (.int .i64 (n)), .c (.sl 4 48 (tcs ts)), .c (.int .i64 (k2)), .c (.int .i64 (l2)), .c (.int .i64 (n2)), .c (.sl 4 48 (tcs us))], .box [.own 10, .mpv 3, .c (.int .i64 (a (S.length + X.length + 1)))], .dead, .mp true (.n (atF (B (S.length + X.length + 1)))), .box [.own 11], .dead, .lrec .ready [(4, .ptr 7 0), (5, .ptr 4 0)] ps asg body, .box [.ptr 1 0], .dead, .dead, .row 65 5 72 (nds (B (S.length + X.length + 1))), .row 3 1 8 (rowN (R (S.length + X.length + 1)))]) := by
        refine YSt.use hyo [1, 8, 3, 4, 9, 6, 7] rfl ⟨rfl, rfl, rfl, rfl, rfl, rfl, rfl, trivial⟩ (by decide) rfl ?_
        rintro _ _ ⟨rfl, rfl⟩ _
        exact ⟨rfl, rfl⟩
      have hyc2 : YSt Try.prog 6 [.agg [.c (.int .i64 (k2)), .c (.int .i64 (l2)), .c (.int .i64 (n2)), .c (.sl 4 48 (tcs us))]] [.box [.c (.sl 6 72 (dcs S)), .c (.sl 4 48 (tcs X)), .c (.int .i64 (k)), .c (.int .i64 (l)), .c (.int .i64 (n)), .c (.sl 4 48 (tcs ts)), .c (.int .i64 (k2)), .c (.int .i64 (l2)), .c (.int .i64 (n2)), .c (.sl 4 48 (tcs us))], .box [.own 10, .mpv 3, .c (.int .i64 (a (S.length + X.length + 1)))], .dead, .mp true (.n (atF (B (S.length + X.length + 1)))), .box [.own 11], .dead, .lrec .ready [(4, .ptr 7 0), (5, .ptr 4 0)] ps asg body, .box [.ptr 1 0], .dead, .dead, .row 65 5 72 (nds (B (S.length + X.length + 1))), .row 3 1 8 (rowN (R (S.length + X.length + 1)))] (fun r H' => r = .c (.bool true) ∧ H' = [.box [.c (.sl 6 72 (dcs S)), .c (.sl 4 48 (tcs X)), .c (.int .i64 (k)), .c (.int .i64 (l)), .c (.int .i64 (n)), .c (.sl 4 48 (tcs ts)), .c (.int .i64 (k2)), .c (.int .i64 (l2)), .c (.int .i64 (n2)), .c (.sl 4 48 (tcs us))], .box [.own 12, .mpv 3, .c (.int .i64 (a (S.length + X.length + 2)))], .dead, .mp true (.n (atF (B (S.length + X.length + 2)))), .box [.own 13], .dead, .lrec .ready [(4, .ptr 7 0), (5, .ptr 4 0)] ps asg body, .box [.ptr 1 0], .dead, .dead, .dead, .dead, .row 65 5 72 (nds (B (S.length + X.length + 2))), .row 3 1 8 (rowN (R (S.length + X.length + 2)))]) := by
        refine YSt.use hyc [1, 10, 3, 4, 11, 6, 7] rfl ⟨rfl, rfl, rfl, rfl, rfl, rfl, rfl, trivial⟩ (by decide) rfl ?_
        rintro _ _ ⟨rfl, rfl⟩ _
        exact ⟨rfl, rfl⟩
      try (refine draw_intro true (by kernel_rfl) ?_; conv => whnf)
      refine YSt.mono hyo2 ?_
      rintro _ _ ⟨rfl, rfl⟩
      conv => whnf
      repeat (first | (refine And.intro rfl ?_; conv => whnf) | (refine And.intro (by decide) ?_; conv => whnf) | (refine draw_intro true (by kernel_rfl) ?_; conv => whnf) | (refine And.intro ⟨by omega, by omega⟩ ?_; conv => whnf) | (refine And.intro (by omega) ?_; conv => whnf) | (refine And.intro (fun _ => ⟨by omega, by omega⟩) ?_; conv => whnf) | (refine And.intro (fun _ => ?_) (fun h => absurd h ?_); rotate_left; (focus (first | decide | (simp; done) | (simp [tcs]; done))); conv => whnf) | (refine And.intro (fun h => absurd h ?_) (fun _ => ?_); (focus (first | decide | (simp; done) | (simp [tcs]; done))); conv => whnf) | (intro _; conv => whnf))
      try (refine draw_intro true (by kernel_rfl) ?_; conv => whnf)
      refine YSt.mono hyc2 ?_
      rintro _ _ ⟨rfl, rfl⟩
      conv => whnf
      repeat (first | (refine And.intro rfl ?_; conv => whnf) | (refine And.intro (by decide) ?_; conv => whnf) | (refine draw_intro true (by kernel_rfl) ?_; conv => whnf) | (refine And.intro ⟨by omega, by omega⟩ ?_; conv => whnf) | (refine And.intro (by omega) ?_; conv => whnf) | (refine And.intro (fun _ => ⟨by omega, by omega⟩) ?_; conv => whnf) | (refine And.intro (fun _ => ?_) (fun h => absurd h ?_); rotate_left; (focus (first | decide | (simp; done) | (simp [tcs]; done))); conv => whnf) | (refine And.intro (fun h => absurd h ?_) (fun _ => ?_); (focus (first | decide | (simp; done) | (simp [tcs]; done))); conv => whnf) | (intro _; conv => whnf))
      refine ⟨[], [.box [.c (.sl 6 72 (dcs S)), .c (.sl 4 48 (tcs X)), .c (.int .i64 (k)), .c (.int .i64 (l)), .c (.int .i64 (n)), .c (.sl 4 48 (tcs ts)), .c (.int .i64 (k2)), .c (.int .i64 (l2)), .c (.int .i64 (n2)), .c (.sl 4 48 (tcs us))], .box [.own 8, .mpv 3, .c (.int .i64 (a (S.length + X.length + 2)))], .dead, .mp true (.n (atF (B (S.length + X.length + 2)))), .box [.own 9], .dead, .lrec .ready [(4, .ptr 7 0), (5, .ptr 4 0)] ps asg body, .box [.ptr 1 0], .row 65 5 72 (nds (B (S.length + X.length + 2))), .row 3 1 8 (rowN (R (S.length + X.length + 2)))], Wk.sel [0, 1, 2, 3, 4, 5, 6, 7, 12, 13] (by decide) (by decide) (by decide) ⟨rfl, rfl, rfl, rfl, rfl, rfl, rfl, rfl, rfl, rfl, trivial⟩ trivial rfl, ?_⟩
      conv => whnf
      exact ⟨rfl, rfl⟩
end Go.Tr
/- What is handed in: certificates. -/
namespace Go.Tr
open Go.Proofs
/-- A certificate's cells. -/
def crc (c : Crt) : List CV := [.sl 6 72 (dcs c.S), .sl 4 48 (tcs c.X), .int .i64 c.o.k, .int .i64 c.o.l, .int .i64 c.o.n, .sl 4 48 (tcs c.o.ts), .int .i64 c.c.k, .int .i64 c.c.l, .int .i64 c.c.n, .sl 4 48 (tcs c.c.ts)]
theorem map_tc19 : ∀ l : List Term, l.map tc = tcs l
  | [] => rfl
  | a :: r => by
    rw [List.map_cons, map_tc19 r, tcs]
theorem sh_cert : ∀ (n : Nat) {xs : List CV}, Sh (lkT tab) n 27 xs → ∃ c, xs = crc c := by
  intro n xs h
  obtain ⟨m, rfl, a, b, rfl, h0, c, e, rfl, h1, f, g, rfl, h2, p, q, rfl, h3, rfl⟩ := sh_struct (fs := [(0, 22), (1, 23), (2, 25), (6, 25)]) rfl h
  obtain ⟨S, rfl, _⟩ := sh_sig h0
  obtain ⟨m2, es, rfl, rfl, _, h4⟩ := sh_slice (e := 25) rfl h1
  obtain ⟨X, rfl⟩ := map_choose (f := tc) es fun r hr => sh_term m2 (h4 r hr)
  obtain ⟨t, rfl⟩ := sh_term _ h2
  obtain ⟨u, rfl⟩ := sh_term _ h3
  have e : X.map tc = tcs X := map_tc19 X
  rw [e]
  obtain ⟨k, l, x, ts⟩ := t
  obtain ⟨k2, l2, x2, us⟩ := u
  exact ⟨⟨S, X, .mk k l x ts, .mk k2 l2 x2 us⟩, rfl⟩
theorem crv_av (k : List (Nat × TypeId)) (c : Crt) : avOf (.struct k) (crc c) = crv c := rfl
def argTypesE : List TypeId := [3, 9, 23, 25, 39, 22, 27]
theorem arg_okE : argTypesE.all (cl1 (lkT tab) argTypesE) = true := by decide
section
variable {H : Type} {enc : TypeId × Value → H} {W : World} {base : Nat} {v : Value} {d : DataW H} {ps : List MemPlace}
set_option maxRecDepth 100000 in
theorem arg_cert (hval : Value.okWide Try.prog W .any base 27 v) (h : DataW.Trod enc Try.prog W 0 (fun _ => true) true 27 v d ps)
    (hw : ∀ n ∈ d.weights Try.prog 27, n ≤ reachBytes) : ∃ c : Crt, AVR W.heap noS (fun _ => .none) (crv c) v := by
  obtain ⟨fuel, xs, hs, a⟩ := open_arg (env_ok 0) arg_okE (by decide) hval h hw
  obtain ⟨c, rfl⟩ := sh_cert fuel hs
  exact ⟨c, by rw [← crv_av [(0, 22), (1, 23), (2, 25), (6, 25)]]; exact a⟩
end
end Go.Tr
/- strings.Clone at the seat. -/
namespace Go.Proofs
open Go.RowKit Go.Shelf
def Try.cloneA_ren : Ren where
  f := fun x => match x with
    | 25 => 80
    | n => n
  t := fun x => match x with
    | 0 => 0
    | 3 => 3
    | 4 => 4
    | 5 => 5
    | 9 => 9
    | 37 => 48
    | 47 => 121
    | n => n
  g := fun n => n
theorem Try.cloneA : LaysPu.n25 Try.prog Try.cloneA_ren where
  mixed := rfl
  f25 := Try.func80.trans (by kernel_rfl)
  t0 := Try.underlying0
  a0 := Try.isAgg0
  z0 := Try.sizeOf0
  v0 := Try.zeroValue0
  i0 := by kernel_rfl
  t3 := Try.underlying3
  a3 := Try.isAgg3
  z3 := Try.sizeOf3
  v3 := Try.zeroValue3
  i3 := by kernel_rfl
  t4 := Try.underlying4
  a4 := Try.isAgg4
  z4 := Try.sizeOf4
  v4 := Try.zeroValue4
  i4 := by kernel_rfl
  t5 := Try.underlying5
  a5 := Try.isAgg5
  z5 := Try.sizeOf5
  v5 := Try.zeroValue5
  i5 := by kernel_rfl
  t9 := Try.underlying9
  a9 := Try.isAgg9
  z9 := Try.sizeOf9
  v9 := Try.zeroValue9
  i9 := by kernel_rfl
  t37 := Try.underlying48
  a37 := Try.isAgg48
  z37 := Try.sizeOf48
  v37 := Try.zeroValue48
  i37 := by kernel_rfl
  t47 := Try.underlying121
  a47 := Try.isAgg121
  z47 := Try.sizeOf121
  v47 := Try.zeroValue121
  i47 := by kernel_rfl
end Go.Proofs
/- cert: newNodes. -/
namespace Go.Tr
open Go.Proofs
/-- What a certificate's terms must be like for its nodes. -/
structure Sane (c : Crt) : Prop where
  S : c.S.length ≤ 100
  X : c.X.length ≤ 100
  t : ∀ t ∈ crl c, wf t ∧ szT t ≤ 600
theorem szL_all : ∀ (ts : List Term), (∀ t ∈ ts, szT t ≤ 600) → szL ts ≤ 600 * ts.length
  | [], _ => by simp [szL]
  | t :: r, h => by
    have := szL_all r fun u hu => h u (by simp [hu])
    have := h t (by simp)
    simp only [szL, List.length_cons]
    omega
/-- The nodes before round n, and the places of the terms. -/
def bk (c : Crt) (n : Nat) : List Term := adL ((crl c).take n) []
def rt (c : Crt) (n : Nat) : List Nat := ((crl c).take n).map (pl (bk c n))
theorem bk_good {c : Crt} (h : Sane c) (n : Nat) : Good (bk c n) ∧ (∀ t ∈ (crl c).take n, t ∈ bk c n) ∧ ((bk c n).length : Int) ≤ szL ((crl c).take n) := by
  obtain ⟨h1, _, h3, h4⟩ := adL_spec ((crl c).take n) [] Good.nil fun t ht => (h.t t (List.mem_of_mem_take ht)).1
  exact ⟨h1, h3, by simpa [bk] using h4⟩
theorem bk_step {c : Crt} {n : Nat} {t : Term} (ht : (crl c)[n]? = some t) : bk c (n + 1) = adT t (bk c n) := adL_take _ _ _ _ ht
theorem rt_step {c : Crt} (h : Sane c) {n : Nat} {t : Term} (ht : (crl c)[n]? = some t) : rt c (n + 1) = rt c n ++ [pl (adT t (bk c n)) t] := by
  obtain ⟨h1, h2, _⟩ := bk_good h n
  obtain ⟨_, q2, _⟩ := adT_spec t (bk c n) h1 (h.t t (List.mem_of_getElem? ht)).1
  unfold rt
  rw [List.take_add_one, ht, List.map_append, bk_step ht]
  congr 1
  obtain ⟨C, hC⟩ := q2
  rw [← hC]
  exact List.map_congr_left fun v hv => pl_app (h2 v hv)
theorem bk0 (c : Crt) : bk c 0 = [] := by simp [bk, adL]
theorem rt0 (c : Crt) : rt c 0 = [] := by simp [rt]
theorem cNewNodes (c : Crt) (h : Sane c) : CallSt Try.prog 26 [crv c] [] (fun r H' => r = .tup [.ptr 0 0, .c (.sl 1 8 (rowN (rt c (crl c).length)))] ∧
    H' = [.box [.own 1, .mpv 2, .c (.int .i64 (szL (crl c)))], .row 65 5 72 (nds (bk c (crl c).length)), .mp true (.n (atF (bk c (crl c).length))), .frz (.sl 1 8 (rowN (rt c (crl c).length)))]) := by
  have hti := cTermsI c
  have hIt := fun {ps} {asg} {body} => @cTermsN ps asg body c h.S h.X (bk c) (fun n => szL ((crl c).take n)) (rt c)
  simp only [bk0, rt0, atF_nil, List.take_zero, List.take_length] at hIt
  have hstep := fun n t (ht : (crl c)[n]? = some t) => rt_step h ht
  have hbstep := fun n t (ht : (crl c)[n]? = some t) => bk_step ht
  have hsstep := fun n t (ht : (crl c)[n]? = some t) => szL_take _ n t ht
  have hgood := bk_good h
  have hRlen : ∀ q, (rt c q).length ≤ (crl c).length := fun q => by unfold rt; rw [List.length_map, List.length_take]; omega
  have htt := h.t
  have hcl := crl_len c
  have hS := h.S
  have hX := h.X
  clear h
  generalize crl c = l at *
  generalize bk c = B at *
  generalize rt c = R at *
  obtain ⟨S, X, ⟨k, h, n, ts⟩, ⟨k2, l2, n2, us⟩⟩ := c
  unfold crv at *
  dsimp only [Term.k, Term.l, Term.n, Term.ts] at *
  refine call_wk (E := env 0) (fn := Try.f26) (c := bodyOf Try.f26) (env_ok 0) mixed (by kernel_rfl) (by kernel_rfl) (by kernel_rfl) (by kernel_rfl) (by kernel_rfl) (by kernel_rfl) rfl true ?_
  conv => whnf
  repeat (first | (refine And.intro rfl ?_; conv => whnf) | (refine And.intro (by decide) ?_; conv => whnf) | (refine draw_intro true (by kernel_rfl) ?_; conv => whnf) | (refine And.intro ⟨by omega, by omega⟩ ?_; conv => whnf) | (refine And.intro (by omega) ?_; conv => whnf) | (refine And.intro (fun _ => ⟨by omega, by omega⟩) ?_; conv => whnf) | (refine And.intro (fun _ => ?_) (fun h => absurd h ?_); rotate_left; (focus (first | decide | (simp; done) | (simp [tcs]; done))); conv => whnf) | (refine And.intro (fun h => absurd h ?_) (fun _ => ?_); (focus (first | decide | (simp; done) | (simp [tcs]; done))); conv => whnf) | (intro _; conv => whnf))
  try (refine draw_intro true (by kernel_rfl) ?_; conv => whnf)
  refine CallSt.use hti [] trivial (by decide) rfl ?_
  rintro _ _ ⟨rfl, rfl⟩ _
  conv => whnf
  repeat (first | (refine And.intro rfl ?_; conv => whnf) | (refine And.intro (by decide) ?_; conv => whnf) | (refine draw_intro true (by kernel_rfl) ?_; conv => whnf) | (refine And.intro ⟨by omega, by omega⟩ ?_; conv => whnf) | (refine And.intro (by omega) ?_; conv => whnf) | (refine And.intro (fun _ => ⟨by omega, by omega⟩) ?_; conv => whnf) | (refine And.intro (fun _ => ?_) (fun h => absurd h ?_); rotate_left; (focus (first | decide | (simp; done) | (simp [tcs]; done))); conv => whnf) | (refine And.intro (fun h => absurd h ?_) (fun _ => ?_); (focus (first | decide | (simp; done) | (simp [tcs]; done))); conv => whnf) | (intro _; conv => whnf))
  refine CallSt.wkl 6 [(4, .ptr 3 0), (5, .ptr 4 0)] rfl (subTM_lk ⟨rfl, rfl, trivial⟩) ?_
  refine CallSt.wk _ (Wk.trans (Wk.nilrow (i := 2) (j := 0) 65 5 72 rfl rfl rfl) (Wk.nilrow (i := 4) (j := 0) 3 1 8 rfl rfl rfl)) ?_
  refine CallSt.use (hIt ?_) [5, 2, 7, 1, 4, 8, 6, 3] ⟨rfl, rfl, rfl, rfl, rfl, rfl, rfl, rfl, trivial⟩ (by decide) rfl ?_
  · intro q t ht
    have hm := List.mem_of_getElem? ht
    have hql := (List.getElem?_eq_some_iff.1 ht).1
    obtain ⟨g1, g2, g3⟩ := hgood q
    have htm := htt t hm
    have htp := szT_pos t
    have hsn := szL_pos (l.take q)
    have hsa := szL_all (l.take q) fun u hu => (htt u (List.mem_of_mem_take hu)).2
    have hlt : (l.take q).length ≤ 202 := by rw [List.length_take]; omega
    have hadd := cAddN t (B q) (szL (l.take q)) g1 htm.1 (by omega) (by omega)
    rw [hbstep q t ht, hstep q t ht, hsstep q t ht, ← rowN_map_snoc]
    have hRl := hRlen q
    have hRn := rowN_len (R q)
    have hb1 : ((rowN (R q)).length + 1) * 8 ≤ 140737488355328 := by omega
    have hb2 : (rowN (R q)).length + 1 ≤ 9223372036854775807 := by omega
    generalize adT t (B q) = B2 at *
    generalize B q = B1 at *
    generalize pl B2 t = p at *
    obtain ⟨k', l', n', us'⟩ := t
    rw [tv_mk] at *
    refine y_wk (E := envY 7) (envY_ok 7) mixed rfl rfl (i := 5) rfl rfl rfl ?_
    conv => whnf
    repeat (first | (refine And.intro rfl ?_; conv => whnf) | (refine And.intro (by decide) ?_; conv => whnf) | (refine draw_intro true (by kernel_rfl) ?_; conv => whnf) | (refine And.intro ⟨by omega, by omega⟩ ?_; conv => whnf) | (refine And.intro (by omega) ?_; conv => whnf) | (refine And.intro (fun _ => ⟨by omega, by omega⟩) ?_; conv => whnf) | (refine And.intro (fun _ => ?_) (fun h => absurd h ?_); rotate_left; (focus (first | decide | (simp; done) | (simp [tcs]; done))); conv => whnf) | (refine And.intro (fun h => absurd h ?_) (fun _ => ?_); (focus (first | decide | (simp; done) | (simp [tcs]; done))); conv => whnf) | (intro _; conv => whnf))
    try (refine draw_intro true (by kernel_rfl) ?_; conv => whnf)
    refine CallSt.use hadd [0, 1, 2] ⟨rfl, rfl, rfl, trivial⟩ (by decide) rfl ?_
    rintro _ _ ⟨rfl, rfl⟩ _
    conv => whnf
    repeat (first | (refine And.intro rfl ?_; conv => whnf) | (refine And.intro (by decide) ?_; conv => whnf) | (refine draw_intro true (by kernel_rfl) ?_; conv => whnf) | (refine And.intro ⟨by omega, by omega⟩ ?_; conv => whnf) | (refine And.intro (by omega) ?_; conv => whnf) | (refine And.intro (fun _ => ⟨by omega, by omega⟩) ?_; conv => whnf) | (refine And.intro (fun _ => ?_) (fun h => absurd h ?_); rotate_left; (focus (first | decide | (simp; done) | (simp [tcs]; done))); conv => whnf) | (refine And.intro (fun h => absurd h ?_) (fun _ => ?_); (focus (first | decide | (simp; done) | (simp [tcs]; done))); conv => whnf) | (intro _; conv => whnf))
    refine ⟨[], [.box [.own 7, .mpv 2, .c (.int .i64 (szL (l.take q) + szT (.mk k' l' n' us')))], .dead, .mp true (.n (atF B2)), .box [.own 8], .dead, .lrec .busy [(4, .ptr 6 0), (5, .ptr 3 0)] _ _ _, .box [.ptr 0 0], .row 65 5 72 (nds B2), .row 3 1 8 (rowN (R q) ++ [[.int .i64 (p : Int)]])],
      Wk.sel [0, 1, 2, 3, 4, 5, 6, 8, 10] (by decide) (by decide) (by decide) ⟨rfl, rfl, rfl, rfl, rfl, rfl, rfl, rfl, rfl, trivial⟩ trivial rfl, ?_⟩
    conv => whnf
    exact ⟨rfl, rfl⟩
  rintro _ _ ⟨rfl, rfl⟩ _
  conv => whnf
  repeat (first | (refine And.intro rfl ?_; conv => whnf) | (refine And.intro (by decide) ?_; conv => whnf) | (refine draw_intro true (by kernel_rfl) ?_; conv => whnf) | (refine And.intro ⟨by omega, by omega⟩ ?_; conv => whnf) | (refine And.intro (by omega) ?_; conv => whnf) | (refine And.intro (fun _ => ⟨by omega, by omega⟩) ?_; conv => whnf) | (refine And.intro (fun _ => ?_) (fun h => absurd h ?_); rotate_left; (focus (first | decide | (simp; done) | (simp [tcs]; done))); conv => whnf) | (refine And.intro (fun h => absurd h ?_) (fun _ => ?_); (focus (first | decide | (simp; done) | (simp [tcs]; done))); conv => whnf) | (intro _; conv => whnf))
  refine ⟨[(2, .ptr 0 0), (3, .own 3)], [.box [.own 1, .mpv 2, .c (.int .i64 (szL l))], .row 65 5 72 (nds (B l.length)), .mp true (.n (atF (B l.length))), .row 3 1 8 (rowN (R l.length))], Wk.sel [2, 9, 1, 10] (by decide) (by decide) (by decide) ⟨rfl, rfl, rfl, rfl, trivial⟩ ⟨rfl, rfl, trivial⟩ rfl, ?_⟩
  conv => whnf
  exact ⟨rfl, rfl⟩
end Go.Tr
/- cert: Built. -/
namespace Go.Tr
open Go.Proofs
/-- A proper term without metavariables. -/
def closedT (t : Term) : Bool := prop t && decide ((conF 3 t).length = 0)
theorem cIsClosed (t : Term) : CallSt Try.prog 40 [tv t] [] (fun r H' => r = .c (.bool (closedT t)) ∧ H' = []) := by
  have h := cMetasP t
  have hl := len_rowI (conF 3 t)
  unfold closedT
  generalize conF 3 t = L at *
  cases hp : prop t with
  | false =>
    rw [hp] at h
    obtain ⟨k, l, n, ts⟩ := t
    rw [tv_mk] at *
    refine call_pure (E := env 0) (fn := Try.f40) (c := bodyOf Try.f40) (env_ok 0) mixed (by kernel_rfl) (by kernel_rfl) (by kernel_rfl) (by kernel_rfl) (by kernel_rfl) (by kernel_rfl) rfl ?_
    conv => whnf
    try (refine draw_intro true (by kernel_rfl) ?_; conv => whnf)
    refine CallSt.use h [] trivial (by decide) rfl ?_
    rintro _ _ ⟨rfl, rfl⟩ _
    conv => whnf
    repeat (first | (refine And.intro rfl ?_; conv => whnf) | (refine And.intro (by decide) ?_; conv => whnf) | (refine draw_intro true (by kernel_rfl) ?_; conv => whnf) | (refine And.intro ⟨by omega, by omega⟩ ?_; conv => whnf) | (refine And.intro (by omega) ?_; conv => whnf) | (refine And.intro (fun _ => ⟨by omega, by omega⟩) ?_; conv => whnf) | (refine And.intro (fun _ => ?_) (fun h => absurd h ?_); rotate_left; (focus (first | decide | (simp; done) | (simp [tcs]; done))); conv => whnf) | (refine And.intro (fun h => absurd h ?_) (fun _ => ?_); (focus (first | decide | (simp; done) | (simp [tcs]; done))); conv => whnf) | (intro _; conv => whnf))
    all_goals (first | rfl | exact ⟨rfl, rfl⟩ | exact ⟨rfl, rfl, rfl⟩)
  | true =>
    rw [hp] at h
    obtain ⟨k, l, n, ts⟩ := t
    rw [tv_mk] at *
    refine call_pure (E := env 0) (fn := Try.f40) (c := bodyOf Try.f40) (env_ok 0) mixed (by kernel_rfl) (by kernel_rfl) (by kernel_rfl) (by kernel_rfl) (by kernel_rfl) (by kernel_rfl) rfl ?_
    conv => whnf
    try (refine draw_intro true (by kernel_rfl) ?_; conv => whnf)
    refine CallSt.use h [] trivial (by decide) rfl ?_
    rintro _ _ ⟨rfl, rfl⟩ _
    conv => whnf
    repeat (first | (refine And.intro rfl ?_; conv => whnf) | (refine And.intro (by decide) ?_; conv => whnf) | (refine draw_intro true (by kernel_rfl) ?_; conv => whnf) | (refine And.intro ⟨by omega, by omega⟩ ?_; conv => whnf) | (refine And.intro (by omega) ?_; conv => whnf) | (refine And.intro (fun _ => ⟨by omega, by omega⟩) ?_; conv => whnf) | (refine And.intro (fun _ => ?_) (fun h => absurd h ?_); rotate_left; (focus (first | decide | (simp; done) | (simp [tcs]; done))); conv => whnf) | (refine And.intro (fun h => absurd h ?_) (fun _ => ?_); (focus (first | decide | (simp; done) | (simp [tcs]; done))); conv => whnf) | (intro _; conv => whnf))
    exact ⟨congrArg (fun z => AV.c (CV.bool z)) (by rw [hl]; simp), rfl⟩
theorem cTermsG {ps : Array Nat} {asg body : Code} (c : Crt) (hS : c.S.length ≤ 100) (hX : c.X.length ≤ 100) (good : Nat → Bool)
    (hY : ∀ (n : Nat) (t : Term), (crl c)[n]? = some t → (∀ i, i < n → good i = true) → YSt Try.prog 1 [tv t] [.box [.c (.bool false)], .lrec .ready [(2, .ptr 0 0)] ps asg body]
      (fun r H' => (good n = true ∧ r = .c (.bool true) ∧ H' = [.box [.c (.bool false)], .lrec .ready [(2, .ptr 0 0)] ps asg body]) ∨ (good n = false ∧ r = .c (.bool false) ∧ H' = [.box [.c (.bool false)], .lrec .ret [(2, .ptr 0 0)] ps asg body]))) :
    CallSt Try.prog 51 [.yv 2, .ptr 0 0] [.box [.c (.sl 6 72 (dcs c.S)), .c (.sl 4 48 (tcs c.X)), .c (.int .i64 (c.o.k)), .c (.int .i64 (c.o.l)), .c (.int .i64 (c.o.n)), .c (.sl 4 48 (tcs c.o.ts)), .c (.int .i64 (c.c.k)), .c (.int .i64 (c.c.l)), .c (.int .i64 (c.c.n)), .c (.sl 4 48 (tcs c.c.ts))], .box [.c (.bool false)], .lrec .ready [(2, .ptr 1 0)] ps asg body]
      (fun r H' => r = .tup [] ∧ (((∀ n, n < (crl c).length → good n = true) ∧ H' = [.box [.c (.sl 6 72 (dcs c.S)), .c (.sl 4 48 (tcs c.X)), .c (.int .i64 (c.o.k)), .c (.int .i64 (c.o.l)), .c (.int .i64 (c.o.n)), .c (.sl 4 48 (tcs c.o.ts)), .c (.int .i64 (c.c.k)), .c (.int .i64 (c.c.l)), .c (.int .i64 (c.c.n)), .c (.sl 4 48 (tcs c.c.ts))], .box [.c (.bool false)], .lrec .ready [(2, .ptr 1 0)] ps asg body]) ∨
        ((∃ n, n < (crl c).length ∧ good n = false) ∧ H' = [.box [.c (.sl 6 72 (dcs c.S)), .c (.sl 4 48 (tcs c.X)), .c (.int .i64 (c.o.k)), .c (.int .i64 (c.o.l)), .c (.int .i64 (c.o.n)), .c (.sl 4 48 (tcs c.o.ts)), .c (.int .i64 (c.c.k)), .c (.int .i64 (c.c.l)), .c (.int .i64 (c.c.n)), .c (.sl 4 48 (tcs c.c.ts))], .box [.c (.bool false)], .lrec .ret [(2, .ptr 1 0)] ps asg body]))) := by
  have hds := len_dcs c.S
  have hxl := len_tcs c.X
  have hcl := crl_len c
  have hyS := fun n d (h : c.S[n]? = some d) => hY n d.c (crl_S h)
  have hyX := fun n t (h : c.X[n]? = some t) => hY _ t (crl_X h)
  have hyo := hY _ _ (crl_o c)
  have hyc := hY _ _ (crl_c c)
  clear hY
  rw [hcl]
  obtain ⟨S, X, ⟨k, l, n, ts⟩, ⟨k2, l2, n2, us⟩⟩ := c
  dsimp only [Term.k, Term.l, Term.n, Term.ts] at *
  rw [tv_mk] at hyo hyc
  refine call_trim (E := envK 3) (fn := Try.f51) (c := bodyOf Try.f51) (envK_ok 3) mixed (by kernel_rfl) (by kernel_rfl) (by kernel_rfl) (by kernel_rfl) (by kernel_rfl) (by kernel_rfl) rfl ?_
  conv => whnf
  repeat (first | (refine And.intro rfl ?_; conv => whnf) | (refine And.intro (by decide) ?_; conv => whnf) | (refine draw_intro true (by kernel_rfl) ?_; conv => whnf) | (refine And.intro ⟨by omega, by omega⟩ ?_; conv => whnf) | (refine And.intro (by omega) ?_; conv => whnf) | (refine And.intro (fun _ => ⟨by omega, by omega⟩) ?_; conv => whnf) | (refine And.intro (fun _ => ?_) (fun h => absurd h ?_); rotate_left; (focus (first | decide | (simp; done) | (simp [tcs]; done))); conv => whnf) | (refine And.intro (fun h => absurd h ?_) (fun _ => ?_); (focus (first | decide | (simp; done) | (simp [tcs]; done))); conv => whnf) | (intro _; conv => whnf))
  refine loop_intro (fun m tm H => ∃ (j : Nat), S.length = m + j ∧ (∀ i, i < j → good i = true) ∧ tm = [(10, .c (.int .i64 (j))), (9, .c (.int .i64 ((dcs S).length))), (8, .c (.sl 6 72 (dcs S))), (0, .yv 2), (1, .ptr 0 0)] ∧
      H = [.box [.c (.sl 6 72 (dcs S)), .c (.sl 4 48 (tcs X)), .c (.int .i64 (k)), .c (.int .i64 (l)), .c (.int .i64 (n)), .c (.sl 4 48 (tcs ts)), .c (.int .i64 (k2)), .c (.int .i64 (l2)), .c (.int .i64 (n2)), .c (.sl 4 48 (tcs us))], .box [.c (.bool false)], .lrec .ready [(2, .ptr 1 0)] ps asg body])
    S.length _ _ ⟨0, by omega, fun i hi => absurd hi (by omega), rfl, rfl⟩ (Wk.sel [0, 1, 2] (by decide) (by decide) (by decide) ⟨rfl, rfl, rfl, trivial⟩ ⟨rfl, rfl, rfl, rfl, rfl, trivial⟩ rfl) ?_
  rintro m tm H ⟨j, hj, hall, rfl, rfl⟩
  conv => whnf
  refine ⟨fun hc => ?_, fun hc => ?_⟩
  · replace hc : (j : Int) < (dcs S).length := of_decide_eq_true hc
    obtain ⟨d, hd⟩ : ∃ d, S[j]? = some d := ⟨S[j]'(by omega), List.getElem?_eq_getElem (by omega)⟩
    have hdc := dcs_at hd
    have hy := hyS j d hd hall
    obtain ⟨s', ⟨k', l', n', us'⟩, i'⟩ := d
    dsimp only at hy
    rw [tv_mk] at hy
    conv => whnf
    refine ⟨_, ⟨by omega, hdc⟩, ?_⟩
    conv => whnf
    refine ⟨show 6 ≤ 6 by decide, ?_⟩
    conv => whnf
    repeat (first | (refine And.intro rfl ?_; conv => whnf) | (refine And.intro (by decide) ?_; conv => whnf) | (refine draw_intro true (by kernel_rfl) ?_; conv => whnf) | (refine And.intro ⟨by omega, by omega⟩ ?_; conv => whnf) | (refine And.intro (by omega) ?_; conv => whnf) | (refine And.intro (fun _ => ⟨by omega, by omega⟩) ?_; conv => whnf) | (refine And.intro (fun _ => ?_) (fun h => absurd h ?_); rotate_left; (focus (first | decide | (simp; done) | (simp [tcs]; done))); conv => whnf) | (refine And.intro (fun h => absurd h ?_) (fun _ => ?_); (focus (first | decide | (simp; done) | (simp [tcs]; done))); conv => whnf) | (intro _; conv => whnf))
    try (refine draw_intro true (by kernel_rfl) ?_; conv => whnf)
    refine YSt.use hy [1, 2] rfl ⟨rfl, rfl, trivial⟩ (by decide) rfl ?_
    rintro _ _ (⟨hg, rfl, rfl⟩ | ⟨hg, rfl, rfl⟩) _
    conv => whnf
    · repeat (first | (refine And.intro rfl ?_; conv => whnf) | (refine And.intro (by decide) ?_; conv => whnf) | (refine draw_intro true (by kernel_rfl) ?_; conv => whnf) | (refine And.intro ⟨by omega, by omega⟩ ?_; conv => whnf) | (refine And.intro (by omega) ?_; conv => whnf) | (refine And.intro (fun _ => ⟨by omega, by omega⟩) ?_; conv => whnf) | (refine And.intro (fun _ => ?_) (fun h => absurd h ?_); rotate_left; (focus (first | decide | (simp; done) | (simp [tcs]; done))); conv => whnf) | (refine And.intro (fun h => absurd h ?_) (fun _ => ?_); (focus (first | decide | (simp; done) | (simp [tcs]; done))); conv => whnf) | (intro _; conv => whnf))
      refine ⟨m - 1, _, _, by omega, ⟨j + 1, by omega, fun i hi => ?_, rfl, rfl⟩, Wk.sel [0, 1, 2] (by decide) (by decide) (by decide) ⟨rfl, rfl, rfl, trivial⟩ ⟨rfl, rfl, rfl, rfl, rfl, trivial⟩ rfl⟩
      by_cases hij : i < j
      · exact hall i hij
      · obtain rfl : i = j := by omega
        exact hg
    · (refine ⟨fun _ => ?_, fun h => absurd h ?_⟩; rotate_left; (focus (first | decide | (simp; done) | (simp [tcs]; done))); conv => whnf)
      exact ⟨rfl, rfl, rfl, .inr ⟨⟨j, by omega, hg⟩, rfl⟩⟩
  · replace hc : ¬ (j : Int) < (dcs S).length := of_decide_eq_false hc
    obtain rfl : j = S.length := by omega
    conv => whnf
    repeat (first | (refine And.intro rfl ?_; conv => whnf) | (refine And.intro (by decide) ?_; conv => whnf) | (refine draw_intro true (by kernel_rfl) ?_; conv => whnf) | (refine And.intro ⟨by omega, by omega⟩ ?_; conv => whnf) | (refine And.intro (by omega) ?_; conv => whnf) | (refine And.intro (fun _ => ⟨by omega, by omega⟩) ?_; conv => whnf) | (refine And.intro (fun _ => ?_) (fun h => absurd h ?_); rotate_left; (focus (first | decide | (simp; done) | (simp [tcs]; done))); conv => whnf) | (refine And.intro (fun h => absurd h ?_) (fun _ => ?_); (focus (first | decide | (simp; done) | (simp [tcs]; done))); conv => whnf) | (intro _; conv => whnf))
    refine loop_intro (fun m tm H => ∃ (j : Nat), X.length = m + j ∧ (∀ i, i < S.length + j → good i = true) ∧ tm = [(23, .c (.int .i64 (j))), (22, .c (.int .i64 ((tcs X).length))), (21, .c (.sl 4 48 (tcs X))), (0, .yv 2), (1, .ptr 0 0)] ∧
        H = [.box [.c (.sl 6 72 (dcs S)), .c (.sl 4 48 (tcs X)), .c (.int .i64 (k)), .c (.int .i64 (l)), .c (.int .i64 (n)), .c (.sl 4 48 (tcs ts)), .c (.int .i64 (k2)), .c (.int .i64 (l2)), .c (.int .i64 (n2)), .c (.sl 4 48 (tcs us))], .box [.c (.bool false)], .lrec .ready [(2, .ptr 1 0)] ps asg body])
      X.length _ _ ⟨0, by omega, hall, rfl, rfl⟩ (Wk.sel [0, 1, 2] (by decide) (by decide) (by decide) ⟨rfl, rfl, rfl, trivial⟩ ⟨rfl, rfl, rfl, rfl, rfl, trivial⟩ rfl) ?_
    rintro m tm H ⟨j, hj, hall, rfl, rfl⟩
    conv => whnf
    refine ⟨fun hc => ?_, fun hc => ?_⟩
    · replace hc : (j : Int) < (tcs X).length := of_decide_eq_true hc
      obtain ⟨u, hu⟩ : ∃ u, X[j]? = some u := ⟨X[j]'(by omega), List.getElem?_eq_getElem (by omega)⟩
      have huc := tcs_at X j u hu
      have hy := hyX j u hu hall
      obtain ⟨k', l', n', us'⟩ := u
      rw [tv_mk] at hy
      conv => whnf
      refine ⟨_, ⟨by omega, by simpa using huc⟩, ?_⟩
      conv => whnf
      refine ⟨Nat.le_refl 4, ?_⟩
      conv => whnf
      repeat (first | (refine And.intro rfl ?_; conv => whnf) | (refine And.intro (by decide) ?_; conv => whnf) | (refine draw_intro true (by kernel_rfl) ?_; conv => whnf) | (refine And.intro ⟨by omega, by omega⟩ ?_; conv => whnf) | (refine And.intro (by omega) ?_; conv => whnf) | (refine And.intro (fun _ => ⟨by omega, by omega⟩) ?_; conv => whnf) | (refine And.intro (fun _ => ?_) (fun h => absurd h ?_); rotate_left; (focus (first | decide | (simp; done) | (simp [tcs]; done))); conv => whnf) | (refine And.intro (fun h => absurd h ?_) (fun _ => ?_); (focus (first | decide | (simp; done) | (simp [tcs]; done))); conv => whnf) | (intro _; conv => whnf))
      try (refine draw_intro true (by kernel_rfl) ?_; conv => whnf)
      refine YSt.use hy [1, 2] rfl ⟨rfl, rfl, trivial⟩ (by decide) rfl ?_
      rintro _ _ (⟨hg, rfl, rfl⟩ | ⟨hg, rfl, rfl⟩) _
      conv => whnf
      · repeat (first | (refine And.intro rfl ?_; conv => whnf) | (refine And.intro (by decide) ?_; conv => whnf) | (refine draw_intro true (by kernel_rfl) ?_; conv => whnf) | (refine And.intro ⟨by omega, by omega⟩ ?_; conv => whnf) | (refine And.intro (by omega) ?_; conv => whnf) | (refine And.intro (fun _ => ⟨by omega, by omega⟩) ?_; conv => whnf) | (refine And.intro (fun _ => ?_) (fun h => absurd h ?_); rotate_left; (focus (first | decide | (simp; done) | (simp [tcs]; done))); conv => whnf) | (refine And.intro (fun h => absurd h ?_) (fun _ => ?_); (focus (first | decide | (simp; done) | (simp [tcs]; done))); conv => whnf) | (intro _; conv => whnf))
        refine ⟨m - 1, _, _, by omega, ⟨j + 1, by omega, fun i hi => ?_, rfl, rfl⟩, Wk.sel [0, 1, 2] (by decide) (by decide) (by decide) ⟨rfl, rfl, rfl, trivial⟩ ⟨rfl, rfl, rfl, rfl, rfl, trivial⟩ rfl⟩
        by_cases hij : i < S.length + j
        · exact hall i hij
        · obtain rfl : i = S.length + j := by omega
          exact hg
      · (refine ⟨fun _ => ?_, fun h => absurd h ?_⟩; rotate_left; (focus (first | decide | (simp; done) | (simp [tcs]; done))); conv => whnf)
        exact ⟨rfl, rfl, rfl, .inr ⟨⟨S.length + j, by omega, hg⟩, rfl⟩⟩
    · replace hc : ¬ (j : Int) < (tcs X).length := of_decide_eq_false hc
      obtain rfl : j = X.length := by omega
      have hyo := hyo hall
      conv => whnf
      try (refine draw_intro true (by kernel_rfl) ?_; conv => whnf)
      refine YSt.use hyo [1, 2] rfl ⟨rfl, rfl, trivial⟩ (by decide) rfl ?_
      rintro _ _ (⟨hg, rfl, rfl⟩ | ⟨hg, rfl, rfl⟩) _
      conv => whnf
      · (refine ⟨fun _ => ?_, fun h => absurd h ?_⟩; rotate_left; (focus (first | decide | (simp; done) | (simp [tcs]; done))); conv => whnf)
        have hyc := hyc (fun i hi => by
          by_cases hij : i < S.length + X.length
          · exact hall i hij
          · obtain rfl : i = S.length + X.length := by omega
            exact hg)
        try (refine draw_intro true (by kernel_rfl) ?_; conv => whnf)
        refine YSt.use hyc [1, 2] rfl ⟨rfl, rfl, trivial⟩ (by decide) rfl ?_
        rintro _ _ (⟨hg2, rfl, rfl⟩ | ⟨hg2, rfl, rfl⟩) _
        conv => whnf
        · refine ⟨rfl, rfl, rfl, .inl ⟨fun i hi => ?_, rfl⟩⟩
          by_cases hij : i < S.length + X.length
          · exact hall i hij
          · by_cases hij2 : i = S.length + X.length
            · rw [hij2]; exact hg
            · obtain rfl : i = S.length + X.length + 1 := by omega
              exact hg2
        · exact ⟨rfl, rfl, rfl, .inr ⟨⟨S.length + X.length + 1, by omega, hg2⟩, rfl⟩⟩
      · (refine ⟨fun h => absurd h ?_, fun _ => ?_⟩; (focus (first | decide | (simp; done) | (simp [tcs]; done))); conv => whnf)
        exact ⟨rfl, rfl, rfl, .inr ⟨⟨S.length + X.length, by omega, hg⟩, rfl⟩⟩
/-- A well built certificate. -/
def builtB (c : Crt) : Bool := decide (c.X.length ≤ 30) && checkB c.S && (crl c).all closedT
theorem cBuilt (c : Crt) : CallSt Try.prog 23 [crv c] [] (fun r H' => r = .c (.bool (builtB c)) ∧ H' = []) := by
  have hti := cTermsI c
  have hck := cCheck c.S
  have hxl := len_tcs c.X
  by_cases hX : c.X.length ≤ 30
  · cases hcb : checkB c.S with
    | false =>
      rw [show builtB c = false by simp [builtB, hcb]]
      rw [hcb] at hck
      obtain ⟨S, X, ⟨k, l, n, ts⟩, ⟨k2, l2, n2, us⟩⟩ := c
      unfold crv at *
      dsimp only [Term.k, Term.l, Term.n, Term.ts] at *
      have e : decide ((30 : Int) < (tcs X).length) = false := decide_eq_false (by omega)
      refine call_pure (E := env 0) (fn := Try.f23) (c := bodyOf Try.f23) (env_ok 0) mixed (by kernel_rfl) (by kernel_rfl) (by kernel_rfl) (by kernel_rfl) (by kernel_rfl) (by kernel_rfl) rfl ?_
      conv => whnf
      repeat (first | (refine And.intro rfl ?_; conv => whnf) | (refine And.intro (by decide) ?_; conv => whnf) | (refine draw_intro true (by kernel_rfl) ?_; conv => whnf) | (refine And.intro ⟨by omega, by omega⟩ ?_; conv => whnf) | (refine And.intro (by omega) ?_; conv => whnf) | (refine And.intro (fun _ => ⟨by omega, by omega⟩) ?_; conv => whnf) | (refine And.intro (fun _ => ?_) (fun h => absurd h ?_); rotate_left; (focus (first | decide | (simp; done) | (simp [tcs]; done))); conv => whnf) | (refine And.intro (fun h => absurd h ?_) (fun _ => ?_); (focus (first | decide | (simp; done) | (simp [tcs]; done))); conv => whnf) | (intro _; conv => whnf))
      rw [e]
      (refine ⟨fun _ => ?_, fun h => absurd h ?_⟩; rotate_left; (focus (first | decide | (simp; done) | (simp [tcs]; done))); conv => whnf)
      try (refine draw_intro true (by kernel_rfl) ?_; conv => whnf)
      refine CallSt.use hck [] trivial (by decide) rfl ?_
      rintro _ _ ⟨rfl, rfl⟩ _
      conv => whnf
      repeat (first | (refine And.intro rfl ?_; conv => whnf) | (refine And.intro (by decide) ?_; conv => whnf) | (refine draw_intro true (by kernel_rfl) ?_; conv => whnf) | (refine And.intro ⟨by omega, by omega⟩ ?_; conv => whnf) | (refine And.intro (by omega) ?_; conv => whnf) | (refine And.intro (fun _ => ⟨by omega, by omega⟩) ?_; conv => whnf) | (refine And.intro (fun _ => ?_) (fun h => absurd h ?_); rotate_left; (focus (first | decide | (simp; done) | (simp [tcs]; done))); conv => whnf) | (refine And.intro (fun h => absurd h ?_) (fun _ => ?_); (focus (first | decide | (simp; done) | (simp [tcs]; done))); conv => whnf) | (intro _; conv => whnf))
      rfl
    | true =>
      have hS : c.S.length ≤ 100 := by unfold checkB at hcb; simp only [Bool.and_eq_true] at hcb; exact of_decide_eq_true hcb.1
      rw [hcb] at hck
      have hIt := fun {ps} {asg} {body} => @cTermsG ps asg body c (by omega) (by omega) (fun n => match (crl c)[n]? with | some t => closedT t | none => true)
      have hbl : builtB c = (crl c).all closedT := by simp [builtB, hcb, hX]
      rw [hbl]
      generalize crl c = q at *
      obtain ⟨S, X, ⟨k, l, n, ts⟩, ⟨k2, l2, n2, us⟩⟩ := c
      unfold crv at *
      dsimp only [Term.k, Term.l, Term.n, Term.ts] at *
      have e : decide ((30 : Int) < (tcs X).length) = false := decide_eq_false (by omega)
      refine call_pure (E := env 0) (fn := Try.f23) (c := bodyOf Try.f23) (env_ok 0) mixed (by kernel_rfl) (by kernel_rfl) (by kernel_rfl) (by kernel_rfl) (by kernel_rfl) (by kernel_rfl) rfl ?_
      conv => whnf
      repeat (first | (refine And.intro rfl ?_; conv => whnf) | (refine And.intro (by decide) ?_; conv => whnf) | (refine draw_intro true (by kernel_rfl) ?_; conv => whnf) | (refine And.intro ⟨by omega, by omega⟩ ?_; conv => whnf) | (refine And.intro (by omega) ?_; conv => whnf) | (refine And.intro (fun _ => ⟨by omega, by omega⟩) ?_; conv => whnf) | (refine And.intro (fun _ => ?_) (fun h => absurd h ?_); rotate_left; (focus (first | decide | (simp; done) | (simp [tcs]; done))); conv => whnf) | (refine And.intro (fun h => absurd h ?_) (fun _ => ?_); (focus (first | decide | (simp; done) | (simp [tcs]; done))); conv => whnf) | (intro _; conv => whnf))
      rw [e]
      (refine ⟨fun _ => ?_, fun h => absurd h ?_⟩; rotate_left; (focus (first | decide | (simp; done) | (simp [tcs]; done))); conv => whnf)
      try (refine draw_intro true (by kernel_rfl) ?_; conv => whnf)
      refine CallSt.use hck [] trivial (by decide) rfl ?_
      rintro _ _ ⟨rfl, rfl⟩ _
      conv => whnf
      repeat (first | (refine And.intro rfl ?_; conv => whnf) | (refine And.intro (by decide) ?_; conv => whnf) | (refine draw_intro true (by kernel_rfl) ?_; conv => whnf) | (refine And.intro ⟨by omega, by omega⟩ ?_; conv => whnf) | (refine And.intro (by omega) ?_; conv => whnf) | (refine And.intro (fun _ => ⟨by omega, by omega⟩) ?_; conv => whnf) | (refine And.intro (fun _ => ?_) (fun h => absurd h ?_); rotate_left; (focus (first | decide | (simp; done) | (simp [tcs]; done))); conv => whnf) | (refine And.intro (fun h => absurd h ?_) (fun _ => ?_); (focus (first | decide | (simp; done) | (simp [tcs]; done))); conv => whnf) | (intro _; conv => whnf))
      try (refine draw_intro true (by kernel_rfl) ?_; conv => whnf)
      refine CallSt.use hti [] trivial (by decide) rfl ?_
      rintro _ _ ⟨rfl, rfl⟩ _
      conv => whnf
      repeat (first | (refine And.intro rfl ?_; conv => whnf) | (refine And.intro (by decide) ?_; conv => whnf) | (refine draw_intro true (by kernel_rfl) ?_; conv => whnf) | (refine And.intro ⟨by omega, by omega⟩ ?_; conv => whnf) | (refine And.intro (by omega) ?_; conv => whnf) | (refine And.intro (fun _ => ⟨by omega, by omega⟩) ?_; conv => whnf) | (refine And.intro (fun _ => ?_) (fun h => absurd h ?_); rotate_left; (focus (first | decide | (simp; done) | (simp [tcs]; done))); conv => whnf) | (refine And.intro (fun h => absurd h ?_) (fun _ => ?_); (focus (first | decide | (simp; done) | (simp [tcs]; done))); conv => whnf) | (intro _; conv => whnf))
      refine CallSt.wkl 3 [(2, .ptr 1 0)] rfl (subTM_lk ⟨rfl, trivial⟩) ?_
      refine CallSt.use (hIt ?_) [2, 1, 3] ⟨rfl, rfl, rfl, trivial⟩ (by decide) rfl ?_
      · intro n t ht _
        have hcl := cIsClosed t
        rw [ht]
        dsimp only
        generalize closedT t = b at *
        obtain ⟨k', l', n', us'⟩ := t
        rw [tv_mk] at *
        refine y_intro (E := envY 2) (envY_ok 2) mixed rfl rfl (i := 1) rfl rfl rfl ?_
        conv => whnf
        repeat (first | (refine And.intro rfl ?_; conv => whnf) | (refine And.intro (by decide) ?_; conv => whnf) | (refine draw_intro true (by kernel_rfl) ?_; conv => whnf) | (refine And.intro ⟨by omega, by omega⟩ ?_; conv => whnf) | (refine And.intro (by omega) ?_; conv => whnf) | (refine And.intro (fun _ => ⟨by omega, by omega⟩) ?_; conv => whnf) | (refine And.intro (fun _ => ?_) (fun h => absurd h ?_); rotate_left; (focus (first | decide | (simp; done) | (simp [tcs]; done))); conv => whnf) | (refine And.intro (fun h => absurd h ?_) (fun _ => ?_); (focus (first | decide | (simp; done) | (simp [tcs]; done))); conv => whnf) | (intro _; conv => whnf))
        try (refine draw_intro true (by kernel_rfl) ?_; conv => whnf)
        refine CallSt.use hcl [] trivial (by decide) rfl ?_
        rintro _ _ ⟨rfl, rfl⟩ _
        conv => whnf
        repeat (first | (refine And.intro rfl ?_; conv => whnf) | (refine And.intro (by decide) ?_; conv => whnf) | (refine draw_intro true (by kernel_rfl) ?_; conv => whnf) | (refine And.intro ⟨by omega, by omega⟩ ?_; conv => whnf) | (refine And.intro (by omega) ?_; conv => whnf) | (refine And.intro (fun _ => ⟨by omega, by omega⟩) ?_; conv => whnf) | (refine And.intro (fun _ => ?_) (fun h => absurd h ?_); rotate_left; (focus (first | decide | (simp; done) | (simp [tcs]; done))); conv => whnf) | (refine And.intro (fun h => absurd h ?_) (fun _ => ?_); (focus (first | decide | (simp; done) | (simp [tcs]; done))); conv => whnf) | (intro _; conv => whnf))
        cases b with
        | true =>
          (refine ⟨fun h => absurd h ?_, fun _ => ?_⟩; (focus (first | decide | (simp; done) | (simp [tcs]; done))); conv => whnf)
          repeat (first | (refine And.intro rfl ?_; conv => whnf) | (refine And.intro (by decide) ?_; conv => whnf) | (refine draw_intro true (by kernel_rfl) ?_; conv => whnf) | (refine And.intro ⟨by omega, by omega⟩ ?_; conv => whnf) | (refine And.intro (by omega) ?_; conv => whnf) | (refine And.intro (fun _ => ⟨by omega, by omega⟩) ?_; conv => whnf) | (refine And.intro (fun _ => ?_) (fun h => absurd h ?_); rotate_left; (focus (first | decide | (simp; done) | (simp [tcs]; done))); conv => whnf) | (refine And.intro (fun h => absurd h ?_) (fun _ => ?_); (focus (first | decide | (simp; done) | (simp [tcs]; done))); conv => whnf) | (intro _; conv => whnf))
          exact .inl ⟨rfl, rfl, rfl⟩
        | false =>
          (refine ⟨fun _ => ?_, fun h => absurd h ?_⟩; rotate_left; (focus (first | decide | (simp; done) | (simp [tcs]; done))); conv => whnf)
          repeat (first | (refine And.intro rfl ?_; conv => whnf) | (refine And.intro (by decide) ?_; conv => whnf) | (refine draw_intro true (by kernel_rfl) ?_; conv => whnf) | (refine And.intro ⟨by omega, by omega⟩ ?_; conv => whnf) | (refine And.intro (by omega) ?_; conv => whnf) | (refine And.intro (fun _ => ⟨by omega, by omega⟩) ?_; conv => whnf) | (refine And.intro (fun _ => ?_) (fun h => absurd h ?_); rotate_left; (focus (first | decide | (simp; done) | (simp [tcs]; done))); conv => whnf) | (refine And.intro (fun h => absurd h ?_) (fun _ => ?_); (focus (first | decide | (simp; done) | (simp [tcs]; done))); conv => whnf) | (intro _; conv => whnf))
          exact .inr ⟨rfl, rfl, rfl⟩
      rintro _ _ ⟨rfl, (⟨hall, rfl⟩ | ⟨⟨n, hn, hg⟩, rfl⟩)⟩ _
      · have hq : q.all closedT = true := by
          rw [List.all_eq_true]
          intro t ht
          obtain ⟨i, hi⟩ := List.mem_iff_getElem?.1 ht
          have := hall i (List.getElem?_eq_some_iff.1 hi).1
          rw [hi] at this
          exact this
        rw [hq]
        conv => whnf
        repeat (first | (refine And.intro rfl ?_; conv => whnf) | (refine And.intro (by decide) ?_; conv => whnf) | (refine draw_intro true (by kernel_rfl) ?_; conv => whnf) | (refine And.intro ⟨by omega, by omega⟩ ?_; conv => whnf) | (refine And.intro (by omega) ?_; conv => whnf) | (refine And.intro (fun _ => ⟨by omega, by omega⟩) ?_; conv => whnf) | (refine And.intro (fun _ => ?_) (fun h => absurd h ?_); rotate_left; (focus (first | decide | (simp; done) | (simp [tcs]; done))); conv => whnf) | (refine And.intro (fun h => absurd h ?_) (fun _ => ?_); (focus (first | decide | (simp; done) | (simp [tcs]; done))); conv => whnf) | (intro _; conv => whnf))
        all_goals (first | rfl | exact ⟨rfl, rfl⟩ | exact ⟨rfl, rfl, rfl⟩)
      · have hq : q.all closedT = false := by
          rw [List.all_eq_false]
          rw [List.getElem?_eq_getElem hn] at hg
          have hg2 : closedT q[n] = false := hg
          exact ⟨q[n], List.getElem_mem hn, by rw [hg2]; simp⟩
        rw [hq]
        conv => whnf
        repeat (first | (refine And.intro rfl ?_; conv => whnf) | (refine And.intro (by decide) ?_; conv => whnf) | (refine draw_intro true (by kernel_rfl) ?_; conv => whnf) | (refine And.intro ⟨by omega, by omega⟩ ?_; conv => whnf) | (refine And.intro (by omega) ?_; conv => whnf) | (refine And.intro (fun _ => ⟨by omega, by omega⟩) ?_; conv => whnf) | (refine And.intro (fun _ => ?_) (fun h => absurd h ?_); rotate_left; (focus (first | decide | (simp; done) | (simp [tcs]; done))); conv => whnf) | (refine And.intro (fun h => absurd h ?_) (fun _ => ?_); (focus (first | decide | (simp; done) | (simp [tcs]; done))); conv => whnf) | (intro _; conv => whnf))
        all_goals (first | rfl | exact ⟨rfl, rfl⟩ | exact ⟨rfl, rfl, rfl⟩)
  · rw [show builtB c = false by simp [builtB, hX]]
    obtain ⟨S, X, ⟨k, l, n, ts⟩, ⟨k2, l2, n2, us⟩⟩ := c
    unfold crv at *
    dsimp only [Term.k, Term.l, Term.n, Term.ts] at *
    have e : decide ((30 : Int) < (tcs X).length) = true := decide_eq_true (by omega)
    refine call_pure (E := env 0) (fn := Try.f23) (c := bodyOf Try.f23) (env_ok 0) mixed (by kernel_rfl) (by kernel_rfl) (by kernel_rfl) (by kernel_rfl) (by kernel_rfl) (by kernel_rfl) rfl ?_
    conv => whnf
    repeat (first | (refine And.intro rfl ?_; conv => whnf) | (refine And.intro (by decide) ?_; conv => whnf) | (refine draw_intro true (by kernel_rfl) ?_; conv => whnf) | (refine And.intro ⟨by omega, by omega⟩ ?_; conv => whnf) | (refine And.intro (by omega) ?_; conv => whnf) | (refine And.intro (fun _ => ⟨by omega, by omega⟩) ?_; conv => whnf) | (refine And.intro (fun _ => ?_) (fun h => absurd h ?_); rotate_left; (focus (first | decide | (simp; done) | (simp [tcs]; done))); conv => whnf) | (refine And.intro (fun h => absurd h ?_) (fun _ => ?_); (focus (first | decide | (simp; done) | (simp [tcs]; done))); conv => whnf) | (intro _; conv => whnf))
    rw [e]
    (refine ⟨fun h => absurd h ?_, fun _ => ?_⟩; (focus (first | decide | (simp; done) | (simp [tcs]; done))); conv => whnf)
    repeat (first | (refine And.intro rfl ?_; conv => whnf) | (refine And.intro (by decide) ?_; conv => whnf) | (refine draw_intro true (by kernel_rfl) ?_; conv => whnf) | (refine And.intro ⟨by omega, by omega⟩ ?_; conv => whnf) | (refine And.intro (by omega) ?_; conv => whnf) | (refine And.intro (fun _ => ⟨by omega, by omega⟩) ?_; conv => whnf) | (refine And.intro (fun _ => ?_) (fun h => absurd h ?_); rotate_left; (focus (first | decide | (simp; done) | (simp [tcs]; done))); conv => whnf) | (refine And.intro (fun h => absurd h ?_) (fun _ => ?_); (focus (first | decide | (simp; done) | (simp [tcs]; done))); conv => whnf) | (intro _; conv => whnf))
    rfl
end Go.Tr
/- cert: Sum of both sides, sealed, Seal. -/
namespace Go.Tr
open Go.Proofs
def sumF : List UInt8 → Int × Int → Int × Int
  | [], p => p
  | x :: r, p => sumF r ((p.1 + (x.toNat : Int)) % 65521, (p.2 + (p.1 + (x.toNat : Int)) % 65521) % 65521)
theorem sumF_bd : ∀ (l : List UInt8) (p : Int × Int), (0 ≤ p.1 ∧ p.1 < 65521) ∧ (0 ≤ p.2 ∧ p.2 < 65521) → (0 ≤ (sumF l p).1 ∧ (sumF l p).1 < 65521) ∧ (0 ≤ (sumF l p).2 ∧ (sumF l p).2 < 65521)
  | [], p, h => h
  | x :: r, p, h => by
    rw [sumF]
    exact sumF_bd r _ ⟨⟨Int.emod_nonneg _ (by decide), Int.emod_lt_of_pos _ (by decide)⟩, Int.emod_nonneg _ (by decide), Int.emod_lt_of_pos _ (by decide)⟩
/-- The sum of bytes. -/
def sumI (l : List UInt8) : Int := (sumF l (1, 0)).2 * 65536 + (sumF l (1, 0)).1
theorem sumI_bd (l : List UInt8) : 0 ≤ sumI l ∧ sumI l < 4294967296 := by
  have := sumF_bd l (1, 0) (by decide)
  unfold sumI
  omega
theorem i64_wrap {x : Int} (h : -9223372036854775808 ≤ x ∧ x ≤ 9223372036854775807) : IntKind.i64.wrap x = x := wrap_in h
theorem shl16 {b : Int} (h : 0 ≤ b ∧ b < 65521) : IntKind.i64.wrap (b * 2 ^ (min (16 : Int).toNat 64)) = b * 65536 := by
  rw [show (2 : Int) ^ (min (16 : Int).toNat 64) = 65536 by decide]
  exact i64_wrap (by omega)
theorem cSum (s : ByteArray) (hss : s.size ≤ 1000000000) : CallSt Try.prog 15 [.c (.str s)] [] (fun r H' => r = .c (.int .i64 (sumI s.data.toList)) ∧ H' = []) := by
  have hsz : s.data.toList.length = s.size := by rw [Array.length_toList]; rfl
  have hbd := sumF_bd s.data.toList (1, 0) (by decide)
  unfold sumI
  refine call_pure (E := env 0) (fn := Try.f15) (c := bodyOf Try.f15) (env_ok 0) mixed (by kernel_rfl) (by kernel_rfl) (by kernel_rfl) (by kernel_rfl) (by kernel_rfl) (by kernel_rfl) rfl ?_
  conv => whnf
  repeat (first | (refine And.intro rfl ?_; conv => whnf) | (refine And.intro (by decide) ?_; conv => whnf) | (refine draw_intro true (by kernel_rfl) ?_; conv => whnf) | (refine And.intro ⟨by omega, by omega⟩ ?_; conv => whnf) | (refine And.intro (by omega) ?_; conv => whnf) | (refine And.intro (fun _ => ⟨by omega, by omega⟩) ?_; conv => whnf) | (refine And.intro (fun _ => ?_) (fun h => absurd h ?_); rotate_left; (focus (first | decide | (simp; done) | (simp [tcs]; done))); conv => whnf) | (refine And.intro (fun h => absurd h ?_) (fun _ => ?_); (focus (first | decide | (simp; done) | (simp [tcs]; done))); conv => whnf) | (intro _; conv => whnf))
  refine loop_intro (fun m tm H => ∃ (j : Nat) (a b : Int), s.size = m + j ∧ sumF (s.data.toList.drop j) (a, b) = sumF s.data.toList (1, 0) ∧ ((0 ≤ a ∧ a < 65521) ∧ (0 ≤ b ∧ b < 65521)) ∧
      tm = [(8, .c (.int .i64 (j))), (7, .c (.int .i64 (s.size))), (0, .c (.str s)), (3, .c (.int .i64 (a))), (4, .c (.int .i64 (b)))] ∧ H = [])
    s.size _ _ ⟨0, 1, 0, by omega, rfl, by decide, rfl, rfl⟩ (Wk.sel [] (by decide) (by decide) (by decide) trivial ⟨rfl, rfl, rfl, rfl, rfl, trivial⟩ rfl) ?_
  rintro m tm H ⟨j, a, b, hj, hs, hab, rfl, rfl⟩
  conv => whnf
  refine ⟨fun hc => ?_, fun hc => ?_⟩
  · replace hc : (j : Int) < s.size := of_decide_eq_true hc
    have hlt : j < s.data.toList.length := by omega
    obtain ⟨x, hx⟩ : ∃ x, s.data.toList[j]? = some x := ⟨_, List.getElem?_eq_getElem hlt⟩
    have hxb : 0 ≤ (x.toNat : Int) ∧ (x.toNat : Int) < 256 := ⟨by omega, by have := x.toNat_lt; omega⟩
    rw [drop_at hx, sumF] at hs
    have hgd : s.data.toList.getD (Int.toNat j) 0 = x := by rw [Int.toNat_natCast, List.getD_eq_getElem?_getD, hx]; rfl
    have e1 : (a + (x.toNat : Int)).tmod 65521 = (a + (x.toNat : Int)) % 65521 := Int.tmod_eq_emod_of_nonneg (by omega)
    have hm1 := Int.emod_nonneg (a + (x.toNat : Int)) (show (65521 : Int) ≠ 0 by decide)
    have hm2 := Int.emod_lt_of_pos (a + (x.toNat : Int)) (show (0 : Int) < 65521 by decide)
    have e2 : (b + (a + (x.toNat : Int)) % 65521).tmod 65521 = (b + (a + (x.toNat : Int)) % 65521) % 65521 := Int.tmod_eq_emod_of_nonneg (by omega)
    have e3 : IntKind.i64.wrap (x.toNat : Int) = x.toNat := i64_wrap (by omega)
    dsimp only at hs
    conv => whnf
    repeat (first | (refine And.intro rfl ?_; conv => whnf) | (refine And.intro (by decide) ?_; conv => whnf) | (refine draw_intro true (by kernel_rfl) ?_; conv => whnf) | (refine And.intro ⟨by omega, by omega⟩ ?_; conv => whnf) | (refine And.intro (by omega) ?_; conv => whnf) | (refine And.intro (fun _ => ⟨by omega, by omega⟩) ?_; conv => whnf) | (refine And.intro (fun _ => ?_) (fun h => absurd h ?_); rotate_left; (focus (first | decide | (simp; done) | (simp [tcs]; done))); conv => whnf) | (refine And.intro (fun h => absurd h ?_) (fun _ => ?_); (focus (first | decide | (simp; done) | (simp [tcs]; done))); conv => whnf) | (intro _; conv => whnf))
    rw [hgd, e3]
    refine ⟨⟨by omega, by omega⟩, ?_⟩
    conv => whnf
    refine ⟨show (65521 : Int) ≠ 0 by decide, ?_⟩
    conv => whnf
    rw [e1]
    conv => whnf
    refine ⟨⟨by omega, by omega⟩, ?_⟩
    conv => whnf
    refine ⟨show (65521 : Int) ≠ 0 by decide, ?_⟩
    conv => whnf
    rw [e2]
    conv => whnf
    repeat (first | (refine And.intro rfl ?_; conv => whnf) | (refine And.intro (by decide) ?_; conv => whnf) | (refine draw_intro true (by kernel_rfl) ?_; conv => whnf) | (refine And.intro ⟨by omega, by omega⟩ ?_; conv => whnf) | (refine And.intro (by omega) ?_; conv => whnf) | (refine And.intro (fun _ => ⟨by omega, by omega⟩) ?_; conv => whnf) | (refine And.intro (fun _ => ?_) (fun h => absurd h ?_); rotate_left; (focus (first | decide | (simp; done) | (simp [tcs]; done))); conv => whnf) | (refine And.intro (fun h => absurd h ?_) (fun _ => ?_); (focus (first | decide | (simp; done) | (simp [tcs]; done))); conv => whnf) | (intro _; conv => whnf))
    refine ⟨m - 1, _, _, by omega, ⟨j + 1, _, _, by omega, hs, ⟨⟨hm1, hm2⟩, Int.emod_nonneg _ (by decide), Int.emod_lt_of_pos _ (by decide)⟩, rfl, rfl⟩, Wk.sel [] (by decide) (by decide) (by decide) trivial ⟨rfl, rfl, rfl, rfl, rfl, trivial⟩ rfl⟩
  · replace hc : ¬ (j : Int) < s.size := of_decide_eq_false hc
    obtain rfl : j = s.size := by omega
    rw [List.drop_eq_nil_of_le (by omega), sumF] at hs
    rw [← hs]
    conv => whnf
    refine ⟨show (0 : Int) ≤ 16 by decide, ?_⟩
    conv => whnf
    rw [shl16 hab.2]
    conv => whnf
    refine ⟨⟨by omega, by omega⟩, ?_⟩
    conv => whnf
    repeat (first | (refine And.intro rfl ?_; conv => whnf) | (refine And.intro (by decide) ?_; conv => whnf) | (refine draw_intro true (by kernel_rfl) ?_; conv => whnf) | (refine And.intro ⟨by omega, by omega⟩ ?_; conv => whnf) | (refine And.intro (by omega) ?_; conv => whnf) | (refine And.intro (fun _ => ⟨by omega, by omega⟩) ?_; conv => whnf) | (refine And.intro (fun _ => ?_) (fun h => absurd h ?_); rotate_left; (focus (first | decide | (simp; done) | (simp [tcs]; done))); conv => whnf) | (refine And.intro (fun h => absurd h ?_) (fun _ => ?_); (focus (first | decide | (simp; done) | (simp [tcs]; done))); conv => whnf) | (intro _; conv => whnf))
    all_goals (first | rfl | exact ⟨rfl, rfl⟩ | exact ⟨rfl, rfl, rfl⟩)
theorem cRSum (s : ByteArray) (hss : s.size ≤ 1000000000) : CallSt Try.prog 16 [.c (.str s)] [] (fun r H' => r = .c (.int .i64 (sumI s.data.toList)) ∧ H' = []) := by
  have hsz : s.data.toList.length = s.size := by rw [Array.length_toList]; rfl
  have hbd := sumF_bd s.data.toList (1, 0) (by decide)
  unfold sumI
  refine call_pure (E := env 0) (fn := Try.f16) (c := bodyOf Try.f16) (env_ok 0) mixed (by kernel_rfl) (by kernel_rfl) (by kernel_rfl) (by kernel_rfl) (by kernel_rfl) (by kernel_rfl) rfl ?_
  conv => whnf
  repeat (first | (refine And.intro rfl ?_; conv => whnf) | (refine And.intro (by decide) ?_; conv => whnf) | (refine draw_intro true (by kernel_rfl) ?_; conv => whnf) | (refine And.intro ⟨by omega, by omega⟩ ?_; conv => whnf) | (refine And.intro (by omega) ?_; conv => whnf) | (refine And.intro (fun _ => ⟨by omega, by omega⟩) ?_; conv => whnf) | (refine And.intro (fun _ => ?_) (fun h => absurd h ?_); rotate_left; (focus (first | decide | (simp; done) | (simp [tcs]; done))); conv => whnf) | (refine And.intro (fun h => absurd h ?_) (fun _ => ?_); (focus (first | decide | (simp; done) | (simp [tcs]; done))); conv => whnf) | (intro _; conv => whnf))
  refine loop_intro (fun m tm H => ∃ (j : Nat) (a b : Int), s.size = m + j ∧ sumF (s.data.toList.drop j) (a, b) = sumF s.data.toList (1, 0) ∧ ((0 ≤ a ∧ a < 65521) ∧ (0 ≤ b ∧ b < 65521)) ∧
      tm = [(5, .c (.int .i64 (j))), (0, .c (.str s)), (3, .c (.int .i64 (a))), (4, .c (.int .i64 (b)))] ∧ H = [])
    s.size _ _ ⟨0, 1, 0, by omega, rfl, by decide, rfl, rfl⟩ (Wk.sel [] (by decide) (by decide) (by decide) trivial ⟨rfl, rfl, rfl, rfl, trivial⟩ rfl) ?_
  rintro m tm H ⟨j, a, b, hj, hs, hab, rfl, rfl⟩
  conv => whnf
  refine ⟨fun hc => ?_, fun hc => ?_⟩
  · replace hc : (j : Int) < s.size := of_decide_eq_true hc
    have hlt : j < s.data.toList.length := by omega
    obtain ⟨x, hx⟩ : ∃ x, s.data.toList[j]? = some x := ⟨_, List.getElem?_eq_getElem hlt⟩
    have hxb : 0 ≤ (x.toNat : Int) ∧ (x.toNat : Int) < 256 := ⟨by omega, by have := x.toNat_lt; omega⟩
    rw [drop_at hx, sumF] at hs
    have hgd : s.data.toList.getD (Int.toNat j) 0 = x := by rw [Int.toNat_natCast, List.getD_eq_getElem?_getD, hx]; rfl
    have e1 : (a + (x.toNat : Int)).tmod 65521 = (a + (x.toNat : Int)) % 65521 := Int.tmod_eq_emod_of_nonneg (by omega)
    have hm1 := Int.emod_nonneg (a + (x.toNat : Int)) (show (65521 : Int) ≠ 0 by decide)
    have hm2 := Int.emod_lt_of_pos (a + (x.toNat : Int)) (show (0 : Int) < 65521 by decide)
    have e2 : (b + (a + (x.toNat : Int)) % 65521).tmod 65521 = (b + (a + (x.toNat : Int)) % 65521) % 65521 := Int.tmod_eq_emod_of_nonneg (by omega)
    have e3 : IntKind.i64.wrap (x.toNat : Int) = x.toNat := i64_wrap (by omega)
    dsimp only at hs
    conv => whnf
    repeat (first | (refine And.intro rfl ?_; conv => whnf) | (refine And.intro (by decide) ?_; conv => whnf) | (refine draw_intro true (by kernel_rfl) ?_; conv => whnf) | (refine And.intro ⟨by omega, by omega⟩ ?_; conv => whnf) | (refine And.intro (by omega) ?_; conv => whnf) | (refine And.intro (fun _ => ⟨by omega, by omega⟩) ?_; conv => whnf) | (refine And.intro (fun _ => ?_) (fun h => absurd h ?_); rotate_left; (focus (first | decide | (simp; done) | (simp [tcs]; done))); conv => whnf) | (refine And.intro (fun h => absurd h ?_) (fun _ => ?_); (focus (first | decide | (simp; done) | (simp [tcs]; done))); conv => whnf) | (intro _; conv => whnf))
    rw [hgd, e3]
    refine ⟨⟨by omega, by omega⟩, ?_⟩
    conv => whnf
    refine ⟨show (65521 : Int) ≠ 0 by decide, ?_⟩
    conv => whnf
    rw [e1]
    conv => whnf
    refine ⟨⟨by omega, by omega⟩, ?_⟩
    conv => whnf
    refine ⟨show (65521 : Int) ≠ 0 by decide, ?_⟩
    conv => whnf
    rw [e2]
    conv => whnf
    repeat (first | (refine And.intro rfl ?_; conv => whnf) | (refine And.intro (by decide) ?_; conv => whnf) | (refine draw_intro true (by kernel_rfl) ?_; conv => whnf) | (refine And.intro ⟨by omega, by omega⟩ ?_; conv => whnf) | (refine And.intro (by omega) ?_; conv => whnf) | (refine And.intro (fun _ => ⟨by omega, by omega⟩) ?_; conv => whnf) | (refine And.intro (fun _ => ?_) (fun h => absurd h ?_); rotate_left; (focus (first | decide | (simp; done) | (simp [tcs]; done))); conv => whnf) | (refine And.intro (fun h => absurd h ?_) (fun _ => ?_); (focus (first | decide | (simp; done) | (simp [tcs]; done))); conv => whnf) | (intro _; conv => whnf))
    refine ⟨m - 1, _, _, by omega, ⟨j + 1, _, _, by omega, hs, ⟨⟨hm1, hm2⟩, Int.emod_nonneg _ (by decide), Int.emod_lt_of_pos _ (by decide)⟩, rfl, rfl⟩, Wk.sel [] (by decide) (by decide) (by decide) trivial ⟨rfl, rfl, rfl, rfl, trivial⟩ rfl⟩
  · replace hc : ¬ (j : Int) < s.size := of_decide_eq_false hc
    obtain rfl : j = s.size := by omega
    rw [List.drop_eq_nil_of_le (by omega), sumF] at hs
    rw [← hs]
    conv => whnf
    refine ⟨⟨by omega, by omega⟩, ?_⟩
    conv => whnf
    refine ⟨⟨by omega, by omega⟩, ?_⟩
    conv => whnf
    repeat (first | (refine And.intro rfl ?_; conv => whnf) | (refine And.intro (by decide) ?_; conv => whnf) | (refine draw_intro true (by kernel_rfl) ?_; conv => whnf) | (refine And.intro ⟨by omega, by omega⟩ ?_; conv => whnf) | (refine And.intro (by omega) ?_; conv => whnf) | (refine And.intro (fun _ => ⟨by omega, by omega⟩) ?_; conv => whnf) | (refine And.intro (fun _ => ?_) (fun h => absurd h ?_); rotate_left; (focus (first | decide | (simp; done) | (simp [tcs]; done))); conv => whnf) | (refine And.intro (fun h => absurd h ?_) (fun _ => ?_); (focus (first | decide | (simp; done) | (simp [tcs]; done))); conv => whnf) | (intro _; conv => whnf))
    all_goals (first | rfl | exact ⟨rfl, rfl⟩ | exact ⟨rfl, rfl, rfl⟩)
/-- The last byte of a number that is shifted. -/
def sb (n : Int) (j : Nat) : UInt8 := u8 (n.fdiv (2 ^ (min (8 * (3 - (j : Int))).toNat 64)))
/-- Bytes, and their sum behind them. -/
def sealB (l : List UInt8) : List UInt8 := l ++ [sb (sumI l) 0, sb (sumI l) 1, sb (sumI l) 2, sb (sumI l) 3]
theorem cSealed (l : List UInt8) (hl : l.length ≤ 900000000) : CallSt Try.prog 45 [.own 0] [.row 5 1 1 (bR l)] (fun r H' => r = .c (.str ⟨(sealB l).toArray⟩) ∧ H' = [.dead]) := by
  have hs := cSum ⟨l.toArray⟩ (by simpa [ByteArray.size] using (by omega : l.length ≤ 1000000000))
  dsimp only at hs
  have hbd := sumI_bd l
  have hsb : ∀ j : Nat, j < 4 → sealB l = l ++ ([sb (sumI l) 0, sb (sumI l) 1, sb (sumI l) 2, sb (sumI l) 3] : List UInt8) := fun _ _ => rfl
  refine call_wk (E := envK 1) (fn := Try.f45) (c := bodyOf Try.f45) (envK_ok 1) mixed (by kernel_rfl) (by kernel_rfl) (by kernel_rfl) (by kernel_rfl) (by kernel_rfl) (by kernel_rfl) rfl false ?_
  conv => whnf
  repeat (first | (refine And.intro rfl ?_; conv => whnf) | (refine And.intro (by decide) ?_; conv => whnf) | (refine draw_intro true (by kernel_rfl) ?_; conv => whnf) | (refine And.intro ⟨by omega, by omega⟩ ?_; conv => whnf) | (refine And.intro (by omega) ?_; conv => whnf) | (refine And.intro (fun _ => ⟨by omega, by omega⟩) ?_; conv => whnf) | (refine And.intro (fun _ => ?_) (fun h => absurd h ?_); rotate_left; (focus (first | decide | (simp; done) | (simp [tcs]; done))); conv => whnf) | (refine And.intro (fun h => absurd h ?_) (fun _ => ?_); (focus (first | decide | (simp; done) | (simp [tcs]; done))); conv => whnf) | (intro _; conv => whnf))
  refine ⟨l, rfl, ?_⟩
  conv => whnf
  repeat (first | (refine And.intro rfl ?_; conv => whnf) | (refine And.intro (by decide) ?_; conv => whnf) | (refine draw_intro true (by kernel_rfl) ?_; conv => whnf) | (refine And.intro ⟨by omega, by omega⟩ ?_; conv => whnf) | (refine And.intro (by omega) ?_; conv => whnf) | (refine And.intro (fun _ => ⟨by omega, by omega⟩) ?_; conv => whnf) | (refine And.intro (fun _ => ?_) (fun h => absurd h ?_); rotate_left; (focus (first | decide | (simp; done) | (simp [tcs]; done))); conv => whnf) | (refine And.intro (fun h => absurd h ?_) (fun _ => ?_); (focus (first | decide | (simp; done) | (simp [tcs]; done))); conv => whnf) | (intro _; conv => whnf))
  try (refine draw_intro true (by kernel_rfl) ?_; conv => whnf)
  refine CallSt.use hs [] trivial (by decide) rfl ?_
  rintro _ _ ⟨rfl, rfl⟩ _
  conv => whnf
  repeat (first | (refine And.intro rfl ?_; conv => whnf) | (refine And.intro (by decide) ?_; conv => whnf) | (refine draw_intro true (by kernel_rfl) ?_; conv => whnf) | (refine And.intro ⟨by omega, by omega⟩ ?_; conv => whnf) | (refine And.intro (by omega) ?_; conv => whnf) | (refine And.intro (fun _ => ⟨by omega, by omega⟩) ?_; conv => whnf) | (refine And.intro (fun _ => ?_) (fun h => absurd h ?_); rotate_left; (focus (first | decide | (simp; done) | (simp [tcs]; done))); conv => whnf) | (refine And.intro (fun h => absurd h ?_) (fun _ => ?_); (focus (first | decide | (simp; done) | (simp [tcs]; done))); conv => whnf) | (intro _; conv => whnf))
  refine loop_intro (fun m tm H => ∃ (j : Nat), 4 = m + j ∧ tm = [(8, .c (.int .i64 (j))), (3, .c (.int .i64 (sumI l))), (0, .own 1)] ∧ H = [.dead, .row 5 1 1 (bR (l ++ ([sb (sumI l) 0, sb (sumI l) 1, sb (sumI l) 2, sb (sumI l) 3] : List UInt8).take j))])
    4 _ _ ⟨0, by omega, rfl, rfl⟩ ?_ ?_
  · refine Wk.trans (Wk.mvtmp 0 0 5 1 1 (bR l) rfl rfl rfl) ?_
    refine Wk.sel [0, 1] (by decide) (by decide) (by decide) ⟨rfl, ?_, trivial⟩ ⟨rfl, rfl, rfl, trivial⟩ rfl
    exact congrArg (fun z => some (Ent.row 5 1 1 (bR z))) (by simp)
  rintro m tm H ⟨j, hj, rfl, rfl⟩
  conv => whnf
  refine ⟨fun hc => ?_, fun hc => ?_⟩
  · replace hc : (j : Int) < 4 := of_decide_eq_true hc
    have hgj : ([sb (sumI l) 0, sb (sumI l) 1, sb (sumI l) 2, sb (sumI l) 3] : List UInt8)[j]? = some (sb (sumI l) j) := by
      rcases (by omega : j = 0 ∨ j = 1 ∨ j = 2 ∨ j = 3) with rfl | rfl | rfl | rfl <;> rfl
    have htk : ([sb (sumI l) 0, sb (sumI l) 1, sb (sumI l) 2, sb (sumI l) 3] : List UInt8).take (j + 1) = ([sb (sumI l) 0, sb (sumI l) 1, sb (sumI l) 2, sb (sumI l) 3] : List UInt8).take j ++ [sb (sumI l) j] := by
      rw [List.take_add_one, hgj]
      rfl
    generalize hL : ([sb (sumI l) 0, sb (sumI l) 1, sb (sumI l) 2, sb (sumI l) 3] : List UInt8) = L4 at *
    have hll : (bR (l ++ L4.take j)).length ≤ 900000004 := by
      rw [bR_len, List.length_append, List.length_take]
      omega
    have hb1 : ((bR (l ++ L4.take j)).length + 1) * 1 ≤ 140737488355328 := by omega
    have hb2 : (bR (l ++ L4.take j)).length + 1 ≤ 9223372036854775807 := by omega
    have hsbj : sb (sumI l) j = u8 ((sumI l).fdiv (2 ^ (min (8 * (3 - (j : Int))).toNat 64))) := rfl
    have hsn := bR_snoc (l ++ L4.take j) ((sumI l).fdiv (2 ^ (min (8 * (3 - (j : Int))).toNat 64)))
    rw [← hsbj] at hsn
    conv => whnf
    repeat (first | (refine And.intro rfl ?_; conv => whnf) | (refine And.intro (by decide) ?_; conv => whnf) | (refine draw_intro true (by kernel_rfl) ?_; conv => whnf) | (refine And.intro ⟨by omega, by omega⟩ ?_; conv => whnf) | (refine And.intro (by omega) ?_; conv => whnf) | (refine And.intro (fun _ => ⟨by omega, by omega⟩) ?_; conv => whnf) | (refine And.intro (fun _ => ?_) (fun h => absurd h ?_); rotate_left; (focus (first | decide | (simp; done) | (simp [tcs]; done))); conv => whnf) | (refine And.intro (fun h => absurd h ?_) (fun _ => ?_); (focus (first | decide | (simp; done) | (simp [tcs]; done))); conv => whnf) | (intro _; conv => whnf))
    refine ⟨show 0 ≤ 8 * (3 - (j : Int)) by omega, ?_⟩
    conv => whnf
    repeat (first | (refine And.intro rfl ?_; conv => whnf) | (refine And.intro (by decide) ?_; conv => whnf) | (refine draw_intro true (by kernel_rfl) ?_; conv => whnf) | (refine And.intro ⟨by omega, by omega⟩ ?_; conv => whnf) | (refine And.intro (by omega) ?_; conv => whnf) | (refine And.intro (fun _ => ⟨by omega, by omega⟩) ?_; conv => whnf) | (refine And.intro (fun _ => ?_) (fun h => absurd h ?_); rotate_left; (focus (first | decide | (simp; done) | (simp [tcs]; done))); conv => whnf) | (refine And.intro (fun h => absurd h ?_) (fun _ => ?_); (focus (first | decide | (simp; done) | (simp [tcs]; done))); conv => whnf) | (intro _; conv => whnf))
    refine ⟨m - 1, _, _, by omega, ⟨j + 1, by omega, rfl, rfl⟩, Wk.sel [0, 3] (by decide) (by decide) (by decide) ⟨rfl, ?_, trivial⟩ ⟨rfl, rfl, rfl, trivial⟩ rfl⟩
    rw [htk, ← List.append_assoc, ← hsn]
    rfl
  · replace hc : ¬ (j : Int) < 4 := of_decide_eq_false hc
    obtain rfl : j = 4 := by omega
    conv => whnf
    repeat (first | (refine And.intro rfl ?_; conv => whnf) | (refine And.intro (by decide) ?_; conv => whnf) | (refine draw_intro true (by kernel_rfl) ?_; conv => whnf) | (refine And.intro ⟨by omega, by omega⟩ ?_; conv => whnf) | (refine And.intro (by omega) ?_; conv => whnf) | (refine And.intro (fun _ => ⟨by omega, by omega⟩) ?_; conv => whnf) | (refine And.intro (fun _ => ?_) (fun h => absurd h ?_); rotate_left; (focus (first | decide | (simp; done) | (simp [tcs]; done))); conv => whnf) | (refine And.intro (fun h => absurd h ?_) (fun _ => ?_); (focus (first | decide | (simp; done) | (simp [tcs]; done))); conv => whnf) | (intro _; conv => whnf))
    refine ⟨sealB l, rfl, ?_⟩
    conv => whnf
    repeat (first | (refine And.intro rfl ?_; conv => whnf) | (refine And.intro (by decide) ?_; conv => whnf) | (refine draw_intro true (by kernel_rfl) ?_; conv => whnf) | (refine And.intro ⟨by omega, by omega⟩ ?_; conv => whnf) | (refine And.intro (by omega) ?_; conv => whnf) | (refine And.intro (fun _ => ⟨by omega, by omega⟩) ?_; conv => whnf) | (refine And.intro (fun _ => ?_) (fun h => absurd h ?_); rotate_left; (focus (first | decide | (simp; done) | (simp [tcs]; done))); conv => whnf) | (refine And.intro (fun h => absurd h ?_) (fun _ => ?_); (focus (first | decide | (simp; done) | (simp [tcs]; done))); conv => whnf) | (intro _; conv => whnf))
    refine ⟨[(2, .c (.str ⟨(sealB l).toArray⟩))], [.dead], Wk.sel [0] (by decide) (by decide) (by decide) ⟨rfl, trivial⟩ ⟨rfl, trivial⟩ rfl, ?_⟩
    conv => whnf
    exact ⟨rfl, rfl⟩
theorem cRSeal (s : ByteArray) (hs : s.size ≤ 900000000) : CallSt Try.prog 22 [.c (.str s)] [] (fun r H' => r = .c (.str ⟨(sealB s.data.toList).toArray⟩) ∧ H' = []) := by
  have hc := cRSum s (by omega)
  have hbd := sumI_bd s.data.toList
  have e : (⟨(sealB s.data.toList).toArray⟩ : ByteArray) = s ++ ⟨([sb (sumI s.data.toList) 0, sb (sumI s.data.toList) 1, sb (sumI s.data.toList) 2, sb (sumI s.data.toList) 3] : List UInt8).toArray⟩ := by
    apply ByteArray.ext
    simp [sealB, ByteArray.data_append]
  rw [e]
  have e2 : bR [sb (sumI s.data.toList) 0, sb (sumI s.data.toList) 1, sb (sumI s.data.toList) 2, sb (sumI s.data.toList) 3] = [[.int .u8 (IntKind.u8.wrap ((sumI s.data.toList).fdiv (2 ^ (min (24 : Int).toNat 64))))], [.int .u8 (IntKind.u8.wrap ((sumI s.data.toList).fdiv (2 ^ (min (16 : Int).toNat 64))))], [.int .u8 (IntKind.u8.wrap ((sumI s.data.toList).fdiv (2 ^ (min (8 : Int).toNat 64))))], [.int .u8 (IntKind.u8.wrap (sumI s.data.toList))]] := by
    have h3 : sb (sumI s.data.toList) 3 = u8 (sumI s.data.toList) := by
      unfold sb
      rw [show (2 : Int) ^ (min (8 * (3 - ((3 : Nat) : Int))).toNat 64) = 1 by decide]
      rw [Int.fdiv_one]
    rw [h3]
    simp only [u8_wrap]
    rfl
  generalize sumI s.data.toList = q at *
  refine call_pure (E := env 0) (fn := Try.f22) (c := bodyOf Try.f22) (env_ok 0) mixed (by kernel_rfl) (by kernel_rfl) (by kernel_rfl) (by kernel_rfl) (by kernel_rfl) (by kernel_rfl) rfl ?_
  conv => whnf
  try (refine draw_intro true (by kernel_rfl) ?_; conv => whnf)
  refine CallSt.use hc [] trivial (by decide) rfl ?_
  rintro _ _ ⟨rfl, rfl⟩ _
  conv => whnf
  repeat (first | (refine And.intro rfl ?_; conv => whnf) | (refine And.intro (by decide) ?_; conv => whnf) | (refine draw_intro true (by kernel_rfl) ?_; conv => whnf) | (refine And.intro ⟨by omega, by omega⟩ ?_; conv => whnf) | (refine And.intro (by omega) ?_; conv => whnf) | (refine And.intro (fun _ => ⟨by omega, by omega⟩) ?_; conv => whnf) | (refine And.intro (fun _ => ?_) (fun h => absurd h ?_); rotate_left; (focus (first | decide | (simp; done) | (simp [tcs]; done))); conv => whnf) | (refine And.intro (fun h => absurd h ?_) (fun _ => ?_); (focus (first | decide | (simp; done) | (simp [tcs]; done))); conv => whnf) | (intro _; conv => whnf))
  refine ⟨show (0 : Int) ≤ 24 by decide, ?_⟩
  conv => whnf
  refine ⟨show (0 : Int) ≤ 16 by decide, ?_⟩
  conv => whnf
  refine ⟨show (0 : Int) ≤ 8 by decide, ?_⟩
  conv => whnf
  repeat (first | (refine And.intro rfl ?_; conv => whnf) | (refine And.intro (by decide) ?_; conv => whnf) | (refine draw_intro true (by kernel_rfl) ?_; conv => whnf) | (refine And.intro ⟨by omega, by omega⟩ ?_; conv => whnf) | (refine And.intro (by omega) ?_; conv => whnf) | (refine And.intro (fun _ => ⟨by omega, by omega⟩) ?_; conv => whnf) | (refine And.intro (fun _ => ?_) (fun h => absurd h ?_); rotate_left; (focus (first | decide | (simp; done) | (simp [tcs]; done))); conv => whnf) | (refine And.intro (fun h => absurd h ?_) (fun _ => ?_); (focus (first | decide | (simp; done) | (simp [tcs]; done))); conv => whnf) | (intro _; conv => whnf))
  refine ⟨[sb q 0, sb q 1, sb q 2, sb q 3], e2.symm, ?_⟩
  conv => whnf
  refine ⟨?_, ?_⟩
  · show s.size + 4 ≤ 9223372036854775807
    omega
  conv => whnf
  repeat (first | (refine And.intro rfl ?_; conv => whnf) | (refine And.intro (by decide) ?_; conv => whnf) | (refine draw_intro true (by kernel_rfl) ?_; conv => whnf) | (refine And.intro ⟨by omega, by omega⟩ ?_; conv => whnf) | (refine And.intro (by omega) ?_; conv => whnf) | (refine And.intro (fun _ => ⟨by omega, by omega⟩) ?_; conv => whnf) | (refine And.intro (fun _ => ?_) (fun h => absurd h ?_); rotate_left; (focus (first | decide | (simp; done) | (simp [tcs]; done))); conv => whnf) | (refine And.intro (fun h => absurd h ?_) (fun _ => ?_); (focus (first | decide | (simp; done) | (simp [tcs]; done))); conv => whnf) | (intro _; conv => whnf))
  all_goals (first | rfl | exact ⟨rfl, rfl⟩ | exact ⟨rfl, rfl, rfl⟩)
end Go.Tr
/- cert: a list of numbers by a closure; packed. -/
namespace Go.Tr
open Go.Proofs
theorem cListC (f : FuncId) (q : Int) (g : Nat → List UInt8) (l : List UInt8) (L : List Nat) (hb : ∀ x ∈ L, (g x).length ≤ 9) (hl : l.length + 9 + 9 * L.length ≤ 900000000)
    (hf : ∀ (l' : List UInt8) (x : Nat), x ∈ L → l'.length ≤ 900000000 → CallSt Try.prog f [.own 0, .c (.int .i64 (x)), .ptr 1 0] [.row 5 1 1 (bR l'), .box [.c (.int .i64 (q))]] (fun r H' => r = .own 2 ∧ H' = [.dead, .box [.c (.int .i64 (q))], .row 5 1 1 (bR (l' ++ g x))])) :
    CallSt Try.prog 43 [.own 0, .c (.sl 1 8 (rowN L)), .fn f [.ptr 1 0]] [.row 5 1 1 (bR l), .box [.c (.int .i64 (q))]] (fun r H' => r = .own 2 ∧ H' = [.dead, .box [.c (.int .i64 (q))], .row 5 1 1 (bR (l ++ lstB g L))]) := by
  have hrl := rowN_len L
  have hdl : (digs L.length).length ≤ 9 := digs_len 8 _ (by omega)
  have hn := cNumber l L.length (by omega) (by omega)
  rw [← hrl] at hn
  refine call_wk (E := envK 2) (fn := Try.f43) (c := bodyOf Try.f43) (envK_ok 2) mixed (by kernel_rfl) (by kernel_rfl) (by kernel_rfl) (by kernel_rfl) (by kernel_rfl) (by kernel_rfl) rfl false ?_
  conv => whnf
  repeat (first | (refine And.intro rfl ?_; conv => whnf) | (refine And.intro (by decide) ?_; conv => whnf) | (refine draw_intro true (by kernel_rfl) ?_; conv => whnf) | (refine And.intro ⟨by omega, by omega⟩ ?_; conv => whnf) | (refine And.intro (by omega) ?_; conv => whnf) | (refine And.intro (fun _ => ⟨by omega, by omega⟩) ?_; conv => whnf) | (refine And.intro (fun _ => ?_) (fun h => absurd h ?_); rotate_left; (focus (first | decide | (simp; done) | (simp [tcs]; done))); conv => whnf) | (refine And.intro (fun h => absurd h ?_) (fun _ => ?_); (focus (first | decide | (simp; done) | (simp [tcs]; done))); conv => whnf) | (intro _; conv => whnf))
  try (refine draw_intro true (by kernel_rfl) ?_; conv => whnf)
  refine CallSt.use hn [0] ⟨rfl, trivial⟩ (by decide) rfl ?_
  rintro _ _ ⟨rfl, rfl⟩ _
  conv => whnf
  repeat (first | (refine And.intro rfl ?_; conv => whnf) | (refine And.intro (by decide) ?_; conv => whnf) | (refine draw_intro true (by kernel_rfl) ?_; conv => whnf) | (refine And.intro ⟨by omega, by omega⟩ ?_; conv => whnf) | (refine And.intro (by omega) ?_; conv => whnf) | (refine And.intro (fun _ => ⟨by omega, by omega⟩) ?_; conv => whnf) | (refine And.intro (fun _ => ?_) (fun h => absurd h ?_); rotate_left; (focus (first | decide | (simp; done) | (simp [tcs]; done))); conv => whnf) | (refine And.intro (fun h => absurd h ?_) (fun _ => ?_); (focus (first | decide | (simp; done) | (simp [tcs]; done))); conv => whnf) | (intro _; conv => whnf))
  refine loop_intro (fun m tm H => ∃ (j : Nat), L.length = m + j ∧ tm = [(15, .c (.int .i64 (j))), (14, .c (.int .i64 ((rowN L).length))), (13, .c (.sl 1 8 (rowN L))), (0, .own 2), (2, .fn f [.ptr 1 0])] ∧ H = [.dead, .box [.c (.int .i64 (q))], .row 5 1 1 (bR (l ++ (digs (rowN L).length ++ (L.take j).flatMap g)))])
    L.length _ _ ⟨0, by omega, rfl, rfl⟩ ?_ ?_
  · refine Wk.sel [0, 1, 2] (by decide) (by decide) (by decide) ⟨rfl, rfl, ?_, trivial⟩ ⟨rfl, rfl, rfl, rfl, rfl, trivial⟩ rfl
    exact congrArg (fun z => some (Ent.row 5 1 1 (bR z))) (by simp)
  rintro m tm H ⟨j, hj, rfl, rfl⟩
  conv => whnf
  refine ⟨fun hc => ?_, fun hc => ?_⟩
  · replace hc : (j : Int) < (rowN L).length := of_decide_eq_true hc
    obtain ⟨x, hx⟩ : ∃ x, L[j]? = some x := ⟨L[j]'(by omega), List.getElem?_eq_getElem (by omega)⟩
    have hxr := rowN_at hx
    have hfl : ((L.take j).flatMap g).length ≤ 9 * j := by
      have : ∀ (M : List Nat), (∀ x ∈ M, (g x).length ≤ 9) → (M.flatMap g).length ≤ 9 * M.length := fun M => by
        induction M with
        | nil => intro _; simp
        | cons a M ih =>
          intro h
          have := ih fun x hx => h x (by simp [hx])
          have := h a (by simp)
          simp only [List.flatMap_cons, List.length_append, List.length_cons]
          omega
      have h2 := this (L.take j) fun x hx => hb x (List.mem_of_mem_take hx)
      rw [List.length_take] at h2
      omega
    have hfx := hf (l ++ (digs (rowN L).length ++ (L.take j).flatMap g)) x (List.mem_of_getElem? hx) (by
      simp only [List.length_append]
      rw [hrl]
      omega)
    conv => whnf
    refine ⟨_, ⟨by omega, by simpa using hxr⟩, ?_⟩
    conv => whnf
    refine ⟨Nat.le_refl 1, ?_⟩
    conv => whnf
    try (refine draw_intro true (by kernel_rfl) ?_; conv => whnf)
    refine CallSt.use hfx [2, 1] ⟨rfl, rfl, trivial⟩ (by decide) rfl ?_
    rintro _ _ ⟨rfl, rfl⟩ _
    conv => whnf
    repeat (first | (refine And.intro rfl ?_; conv => whnf) | (refine And.intro (by decide) ?_; conv => whnf) | (refine draw_intro true (by kernel_rfl) ?_; conv => whnf) | (refine And.intro ⟨by omega, by omega⟩ ?_; conv => whnf) | (refine And.intro (by omega) ?_; conv => whnf) | (refine And.intro (fun _ => ⟨by omega, by omega⟩) ?_; conv => whnf) | (refine And.intro (fun _ => ?_) (fun h => absurd h ?_); rotate_left; (focus (first | decide | (simp; done) | (simp [tcs]; done))); conv => whnf) | (refine And.intro (fun h => absurd h ?_) (fun _ => ?_); (focus (first | decide | (simp; done) | (simp [tcs]; done))); conv => whnf) | (intro _; conv => whnf))
    refine ⟨m - 1, _, _, by omega, ⟨j + 1, by omega, rfl, rfl⟩, Wk.sel [0, 1, 3] (by decide) (by decide) (by decide) ⟨rfl, rfl, ?_, trivial⟩ ⟨rfl, rfl, rfl, rfl, rfl, trivial⟩ rfl⟩
    refine congrArg (fun z => some (Ent.row 5 1 1 (bR z))) ?_
    rw [List.take_add_one, hx]
    simp
  · replace hc : ¬ (j : Int) < (rowN L).length := of_decide_eq_false hc
    obtain rfl : j = L.length := by omega
    conv => whnf
    repeat (first | (refine And.intro rfl ?_; conv => whnf) | (refine And.intro (by decide) ?_; conv => whnf) | (refine draw_intro true (by kernel_rfl) ?_; conv => whnf) | (refine And.intro ⟨by omega, by omega⟩ ?_; conv => whnf) | (refine And.intro (by omega) ?_; conv => whnf) | (refine And.intro (fun _ => ⟨by omega, by omega⟩) ?_; conv => whnf) | (refine And.intro (fun _ => ?_) (fun h => absurd h ?_); rotate_left; (focus (first | decide | (simp; done) | (simp [tcs]; done))); conv => whnf) | (refine And.intro (fun h => absurd h ?_) (fun _ => ?_); (focus (first | decide | (simp; done) | (simp [tcs]; done))); conv => whnf) | (intro _; conv => whnf))
    refine ⟨[(6, .own 2)], [.dead, .box [.c (.int .i64 (q))], .row 5 1 1 (bR (l ++ lstB g L))], Wk.sel [0, 1, 2] (by decide) (by decide) (by decide) ⟨rfl, rfl, ?_, trivial⟩ ⟨rfl, trivial⟩ rfl, ?_⟩
    · refine congrArg (fun z => some (Ent.row 5 1 1 (bR z))) ?_
      rw [hrl, List.take_length]
      rfl
    conv => whnf
    exact ⟨rfl, rfl⟩
theorem cPackedF (l : List UInt8) (i x : Nat) (hx : x < i) (hi : i ≤ 1000000) (hl : l.length ≤ 900000000) : CallSt Try.prog 44 [.own 0, .c (.int .i64 (x)), .ptr 1 0] [.row 5 1 1 (bR l), .box [.c (.int .i64 (i))]] (fun r H' => r = .own 2 ∧ H' = [.dead, .box [.c (.int .i64 (i))], .row 5 1 1 (bR (l ++ digs (i - x - 1)))]) := by
  have hd := digs9 (n := i - x - 1) (by omega)
  have hn := cNumber l (i - x - 1) (by omega) (by omega)
  have e : ((i - x - 1 : Nat) : Int) = (i : Int) - x - 1 := by omega
  rw [e] at hn
  refine call_wk (E := envK 2) (fn := Try.f44) (c := bodyOf Try.f44) (envK_ok 2) mixed (by kernel_rfl) (by kernel_rfl) (by kernel_rfl) (by kernel_rfl) (by kernel_rfl) (by kernel_rfl) rfl false ?_
  conv => whnf
  repeat (first | (refine And.intro rfl ?_; conv => whnf) | (refine And.intro (by decide) ?_; conv => whnf) | (refine draw_intro true (by kernel_rfl) ?_; conv => whnf) | (refine And.intro ⟨by omega, by omega⟩ ?_; conv => whnf) | (refine And.intro (by omega) ?_; conv => whnf) | (refine And.intro (fun _ => ⟨by omega, by omega⟩) ?_; conv => whnf) | (refine And.intro (fun _ => ?_) (fun h => absurd h ?_); rotate_left; (focus (first | decide | (simp; done) | (simp [tcs]; done))); conv => whnf) | (refine And.intro (fun h => absurd h ?_) (fun _ => ?_); (focus (first | decide | (simp; done) | (simp [tcs]; done))); conv => whnf) | (intro _; conv => whnf))
  try (refine draw_intro true (by kernel_rfl) ?_; conv => whnf)
  refine CallSt.use hn [0] ⟨rfl, trivial⟩ (by decide) rfl ?_
  rintro _ _ ⟨rfl, rfl⟩ _
  conv => whnf
  repeat (first | (refine And.intro rfl ?_; conv => whnf) | (refine And.intro (by decide) ?_; conv => whnf) | (refine draw_intro true (by kernel_rfl) ?_; conv => whnf) | (refine And.intro ⟨by omega, by omega⟩ ?_; conv => whnf) | (refine And.intro (by omega) ?_; conv => whnf) | (refine And.intro (fun _ => ⟨by omega, by omega⟩) ?_; conv => whnf) | (refine And.intro (fun _ => ?_) (fun h => absurd h ?_); rotate_left; (focus (first | decide | (simp; done) | (simp [tcs]; done))); conv => whnf) | (refine And.intro (fun h => absurd h ?_) (fun _ => ?_); (focus (first | decide | (simp; done) | (simp [tcs]; done))); conv => whnf) | (intro _; conv => whnf))
  refine ⟨[(5, .own 2)], [.dead, .box [.c (.int .i64 (i))], .row 5 1 1 (bR (l ++ digs (i - x - 1)))], Wk.sel [0, 1, 2] (by decide) (by decide) (by decide) ⟨rfl, rfl, rfl, trivial⟩ ⟨rfl, trivial⟩ rfl, ?_⟩
  conv => whnf
  exact ⟨rfl, rfl⟩
/-- A node's bytes. -/
def nodeB (B : List Term) (i : Nat) (t : Term) : List UInt8 := [u8 (t.k + 8 * t.l)] ++ ((match decide (t.k = 4) with | true => digs t.n.toNat | false => []) ++ lstB (fun k => digs (i - k - 1)) (kd B t))
def nodesB (B : List Term) : Nat → List UInt8
  | 0 => []
  | n + 1 => nodesB B n ++ (match B[n]? with | some t => nodeB B n t | none => [])
def declB (d : Dcl) (r : Nat) : List UInt8 := digs d.s.size ++ d.s.data.toList ++ digs r ++ digs d.i.toNat
def declsB (S : List Dcl) (R : List Nat) : Nat → List UInt8
  | 0 => []
  | n + 1 => declsB S R n ++ (match S[n]?, R[n]? with | some d, some r => declB d r | _, _ => [])
/-- The bytes ahead of the sum. -/
def packL (S : List Dcl) (X : List Term) (B : List Term) (R : List Nat) : List UInt8 :=
  [116, 114, 49] ++ digs B.length ++ nodesB B B.length ++ digs S.length ++ declsB S R S.length ++ lstB digs ((R.drop S.length).take X.length) ++ ((R.drop S.length).drop X.length).flatMap digs
/-- What a well built certificate is like. -/
structure OkC (c : Crt) : Prop where
  sane : Sane c
  X : c.X.length ≤ 30
  names : ∀ d ∈ c.S, d.s.size ≤ 16 ∧ 0 ≤ d.i ∧ d.i ≤ 600
theorem built_ok {c : Crt} (h : builtB c = true) : OkC c := by
  unfold builtB at h
  simp only [Bool.and_eq_true, List.all_eq_true] at h
  obtain ⟨⟨hX, hS⟩, ht⟩ := h
  have hX := of_decide_eq_true hX
  have hSl : c.S.length ≤ 100 := by unfold checkB at hS; simp only [Bool.and_eq_true] at hS; exact of_decide_eq_true hS.1
  have htp : ∀ t ∈ crl c, prop t = true := fun t hm => by
    have := ht t hm
    unfold closedT at this
    simp only [Bool.and_eq_true] at this
    exact this.1
  refine ⟨⟨hSl, by omega, fun t hm => ⟨wf_prop (htp t hm), prop_sz (htp t hm)⟩⟩, hX, fun d hd => ?_⟩
  obtain ⟨i, hi⟩ := List.mem_iff_getElem?.1 hd
  have hil := (List.getElem?_eq_some_iff.1 hi).1
  unfold checkB at hS
  simp only [Bool.and_eq_true, List.all_eq_true] at hS
  have hg := hS.2 i (by simpa using hil)
  unfold goodD at hg
  rw [hi] at hg
  simp only [Bool.and_eq_true] at hg
  have hf := hg.2
  unfold formedF nameF isSmallF at hf
  simp only [Bool.and_eq_true, decide_eq_true_eq] at hf
  have hp := prop_sz hf.1.1.1.1
  have hdl := dom_len d.c 1 (prop_fm1 hf.1.1.1.1)
  exact ⟨hf.1.1.1.2.1.1.1.2, hf.1.1.2, by have := hf.1.2.1; omega⟩
theorem digs_le {n : Nat} (h : n ≤ 4611686018427387904) : (digs n).length ≤ 9 := digs9 h
theorem flat9 (g : Nat → List UInt8) : ∀ (M : List Nat), (∀ x ∈ M, (g x).length ≤ 9) → (M.flatMap g).length ≤ 9 * M.length
  | [], _ => by simp
  | a :: M, h => by
    have := flat9 g M fun x hx => h x (by simp [hx])
    have := h a (by simp)
    simp only [List.flatMap_cons, List.length_append, List.length_cons]
    omega
theorem lstB_len (g : Nat → List UInt8) (M : List Nat) (h : ∀ x ∈ M, (g x).length ≤ 9) (hl : M.length ≤ 4611686018427387904) : (lstB g M).length ≤ 9 + 9 * M.length := by
  have := flat9 g M h
  have := digs9 hl
  unfold lstB
  rw [List.length_append]
  omega
theorem nodeB_len {B : List Term} {i : Nat} {t : Term} (hw : wf t) (hs : szT t ≤ 600) (hi : i ≤ 1000000) : (nodeB B i t).length ≤ 5419 := by
  have hn := wf_node hw
  have hsl := szL_len t.ts
  have hsz : szT t = 1 + szL t.ts := by cases t; rw [szT]; rfl
  have h1 := lstB_len (fun k => digs (i - k - 1)) (kd B t) (fun x _ => digs9 (by omega)) (by unfold kd; rw [List.length_map]; omega)
  have h2 : (digs t.n.toNat).length ≤ 9 := digs9 (by omega)
  have h3 : (kd B t).length = t.ts.length := by simp [kd]
  unfold nodeB
  simp only [List.length_append, List.length_singleton]
  cases decide (t.k = 4) <;> simp only [List.length_nil] <;> omega
theorem nodesB_len {B : List Term} (h : ∀ t ∈ B, wf t ∧ szT t ≤ 600) (hB : B.length ≤ 1000000) : ∀ n : Nat, n ≤ B.length → (nodesB B n).length ≤ 5419 * n
  | 0, _ => by simp [nodesB]
  | n + 1, hn => by
    have := nodesB_len h hB n (by omega)
    have hg : B[n]? = some B[n] := List.getElem?_eq_getElem (by omega)
    have h2 := h B[n] (List.getElem_mem _)
    have := nodeB_len (B := B) (i := n) h2.1 h2.2 (by omega)
    rw [nodesB, hg, List.length_append]
    simp only
    omega
end Go.Tr
/- cert: packed. -/
namespace Go.Tr
open Go.Proofs
theorem bR_tr1 : bR [116, 114, 49] = [[.int .u8 116], [.int .u8 114], [.int .u8 49]] := rfl
theorem szL_mem' : ∀ (ts : List Term) (u : Term), u ∈ ts → szT u ≤ szL ts
  | [], u, h => by cases h
  | t :: r, u, h => by
    have := szT_pos t
    have := szL_pos r
    rw [szL]
    rcases List.mem_cons.1 h with rfl | h
    · omega
    · have := szL_mem' r u h
      omega
mutual
theorem adT_sub : ∀ (u : Term) (B : List Term), ∀ t ∈ adT u B, t ∈ B ∨ szT t ≤ szT u
  | .mk k l n ts, B, t, ht => by
    have ih := adL_sub ts B
    have hs : t ∈ adL ts B → t ∈ B ∨ szT t ≤ szT (.mk k l n ts) := fun h => by
      rcases ih t h with h | ⟨u, hu, hl⟩
      · exact .inl h
      · have := szL_mem' ts u hu
        exact .inr (by rw [szT]; omega)
    rw [adT] at ht
    split at ht
    · exact hs ht
    · rcases List.mem_append.1 ht with h | h
      · exact hs h
      · simp at h
        subst h
        exact .inr (Int.le_refl _)
theorem adL_sub : ∀ (ts : List Term) (B : List Term), ∀ t ∈ adL ts B, t ∈ B ∨ ∃ u ∈ ts, szT t ≤ szT u
  | [], B, t, ht => by
    rw [adL] at ht
    exact .inl ht
  | a :: r, B, t, ht => by
    rw [adL] at ht
    rcases adL_sub r (adT a B) t ht with h | ⟨u, hu, hl⟩
    · rcases adT_sub a B t h with h | h
      · exact .inl h
      · exact .inr ⟨a, by simp, h⟩
    · exact .inr ⟨u, by simp [hu], hl⟩
end
theorem bk_sz {c : Crt} (h : Sane c) (n : Nat) : ∀ t ∈ bk c n, szT t ≤ 600 := fun t ht => by
  rcases adL_sub _ _ t ht with h2 | ⟨u, hu, hl⟩
  · cases h2
  · have := (h.t u (List.mem_of_mem_take hu)).2
    omega
theorem decls_len {S : List Dcl} {R : List Nat} (hS : ∀ d ∈ S, d.s.size ≤ 16 ∧ 0 ≤ d.i ∧ d.i ≤ 600) (hR : ∀ x ∈ R, x ≤ 1000000) : ∀ n : Nat, n ≤ S.length → (declsB S R n).length ≤ 43 * n
  | 0, _ => by simp [declsB]
  | n + 1, hn => by
    have ih := decls_len hS hR n (by omega)
    rw [declsB, List.length_append]
    have hs : S[n]? = some S[n] := List.getElem?_eq_getElem (by omega)
    rw [hs]
    cases hr : R[n]? with
    | none =>
      simp only [List.length_nil]
      omega
    | some r =>
      simp only
      have h1 := hS S[n] (List.getElem_mem _)
      have h2 := hR r (List.mem_of_getElem? hr)
      have d1 := digs9 (n := S[n].s.size) (by omega)
      have d2 := digs9 (n := r) (by omega)
      have d3 := digs9 (n := S[n].i.toNat) (by omega)
      have d4 : S[n].s.data.toList.length = S[n].s.size := by rw [Array.length_toList]; rfl
      unfold declB
      simp only [List.length_append]
      omega
theorem cPacked (c : Crt) (h : OkC c) : CallSt Try.prog 36 [crv c] [] (fun r H' => r = .c (.str ⟨(sealB (packL c.S c.X (bk c (crl c).length) (rt c (crl c).length))).toArray⟩) ∧ H' = []) := by
  have hnw := cNewNodes c h.sane
  have hcl := crl_len c
  have hS := h.sane.S
  have hX := h.sane.X
  obtain ⟨g1, g2, g3⟩ := bk_good h.sane (crl c).length
  rw [List.take_length] at g2 g3
  have hsa := szL_all (crl c) fun u hu => (h.sane.t u hu).2
  have hBs : ∀ t ∈ bk c (crl c).length, wf t ∧ szT t ≤ 600 := fun t ht => ⟨g1.wf t ht, bk_sz h.sane _ t ht⟩
  have hRl : (rt c (crl c).length).length = (crl c).length := by unfold rt; rw [List.length_map, List.take_length]
  have hRb : ∀ x ∈ rt c (crl c).length, x < (bk c (crl c).length).length := fun x hx => by
    unfold rt at hx
    rw [List.take_length] at hx
    obtain ⟨u, hu, rfl⟩ := List.mem_map.1 hx
    exact pl_lt (g2 u hu)
  have hnm := h.names
  clear h g2
  generalize crl c = q at *
  obtain ⟨S, X, ⟨k, l, n, ts⟩, ⟨k2, l2, n2, us⟩⟩ := c
  generalize bk _ _ = B at *
  generalize rt _ _ = R at *
  unfold crv at *
  dsimp only [Term.k, Term.l, Term.n, Term.ts] at *
  have hnl := nds_len B
  have hBl : B.length ≤ 121200 := by omega
  have hnb := nodesB_len hBs (by omega)
  have hn0 := cNumber [116, 114, 49] B.length (by have := digs9 (n := B.length) (by omega); simp; omega) (by omega)
  rw [← hnl] at hn0
  have hd0 := digs9 (n := B.length) (by omega)
  refine call_pure (E := envK 0) (fn := Try.f36) (c := bodyOf Try.f36) (envK_ok 0) mixed (by kernel_rfl) (by kernel_rfl) (by kernel_rfl) (by kernel_rfl) (by kernel_rfl) (by kernel_rfl) rfl ?_
  conv => whnf
  repeat (first | (refine And.intro rfl ?_; conv => whnf) | (refine And.intro (by decide) ?_; conv => whnf) | (refine draw_intro true (by kernel_rfl) ?_; conv => whnf) | (refine And.intro ⟨by omega, by omega⟩ ?_; conv => whnf) | (refine And.intro (by omega) ?_; conv => whnf) | (refine And.intro (fun _ => ⟨by omega, by omega⟩) ?_; conv => whnf) | (refine And.intro (fun _ => ?_) (fun h => absurd h ?_); rotate_left; (focus (first | decide | (simp; done) | (simp [tcs]; done))); conv => whnf) | (refine And.intro (fun h => absurd h ?_) (fun _ => ?_); (focus (first | decide | (simp; done) | (simp [tcs]; done))); conv => whnf) | (intro _; conv => whnf))
  try (refine draw_intro true (by kernel_rfl) ?_; conv => whnf)
  refine CallSt.use hnw [] trivial (by decide) rfl ?_
  rintro _ _ ⟨rfl, rfl⟩ _
  conv => whnf
  repeat (first | (refine And.intro rfl ?_; conv => whnf) | (refine And.intro (by decide) ?_; conv => whnf) | (refine draw_intro true (by kernel_rfl) ?_; conv => whnf) | (refine And.intro ⟨by omega, by omega⟩ ?_; conv => whnf) | (refine And.intro (by omega) ?_; conv => whnf) | (refine And.intro (fun _ => ⟨by omega, by omega⟩) ?_; conv => whnf) | (refine And.intro (fun _ => ?_) (fun h => absurd h ?_); rotate_left; (focus (first | decide | (simp; done) | (simp [tcs]; done))); conv => whnf) | (refine And.intro (fun h => absurd h ?_) (fun _ => ?_); (focus (first | decide | (simp; done) | (simp [tcs]; done))); conv => whnf) | (intro _; conv => whnf))
  try (refine draw_intro true (by kernel_rfl) ?_; conv => whnf)
  refine CallSt.use hn0 [5] ⟨rfl, trivial⟩ (by decide) rfl ?_
  rintro _ _ ⟨rfl, rfl⟩ _
  conv => whnf
  repeat (first | (refine And.intro rfl ?_; conv => whnf) | (refine And.intro (by decide) ?_; conv => whnf) | (refine draw_intro true (by kernel_rfl) ?_; conv => whnf) | (refine And.intro ⟨by omega, by omega⟩ ?_; conv => whnf) | (refine And.intro (by omega) ?_; conv => whnf) | (refine And.intro (fun _ => ⟨by omega, by omega⟩) ?_; conv => whnf) | (refine And.intro (fun _ => ?_) (fun h => absurd h ?_); rotate_left; (focus (first | decide | (simp; done) | (simp [tcs]; done))); conv => whnf) | (refine And.intro (fun h => absurd h ?_) (fun _ => ?_); (focus (first | decide | (simp; done) | (simp [tcs]; done))); conv => whnf) | (intro _; conv => whnf))
  refine loop_intro (fun m tm H => ∃ (j : Nat), B.length = m + j ∧ tm = [(31, .c (.int .i64 (j))), (30, .c (.int .i64 ((nds B).length))), (29, .own 1), (4, .c (.sl 1 8 (rowN R))), (5, .own 2), (1, .ptr 0 0)] ∧
      H = [.box [.c (.sl 6 72 (dcs S)), .c (.sl 4 48 (tcs X)), .c (.int .i64 (k)), .c (.int .i64 (l)), .c (.int .i64 (n)), .c (.sl 4 48 (tcs ts)), .c (.int .i64 (k2)), .c (.int .i64 (l2)), .c (.int .i64 (n2)), .c (.sl 4 48 (tcs us))], .row 65 5 72 (nds B), .row 5 1 1 (bR ([116, 114, 49] ++ digs B.length ++ nodesB B j))])
    B.length _ _ ⟨0, by omega, rfl, rfl⟩ ?_ ?_
  · refine Wk.sel [0, 2, 6] (by decide) (by decide) (by decide) ⟨rfl, rfl, ?_, trivial⟩ ⟨rfl, rfl, rfl, rfl, rfl, rfl, trivial⟩ rfl
    rw [nodesB, List.append_nil, ← hnl]
    rfl
  rintro m tm H ⟨j, hj, rfl, rfl⟩
  conv => whnf
  refine ⟨fun hc => ?_, fun hc => ?_⟩
  · replace hc : (j : Int) < (nds B).length := of_decide_eq_true hc
    obtain ⟨t, ht⟩ : ∃ t, B[j]? = some t := ⟨B[j]'(by omega), List.getElem?_eq_getElem (by omega)⟩
    have htm := List.mem_of_getElem? ht
    have htw := hBs t htm
    have hwn := wf_node htw.1
    have hnc : (nds B)[j]? = some [.int .i64 t.k, .int .i64 t.l, .int .i64 t.n, .sl 4 48 (tcs t.ts), .sl 1 8 (rowN (kd B t))] := by simp [nds, ht, ndc]
    have hjb := hnb j (by omega)
    have hlen : ([116, 114, 49] ++ digs B.length ++ nodesB B j : List UInt8).length ≤ 657000000 := by simp only [List.length_append, List.length_cons, List.length_nil]; omega
    have hkl : (kd B t).length ≤ 600 := by
      have := szL_len t.ts
      have hsz : szT t = 1 + szL t.ts := by cases t; rw [szT]; rfl
      unfold kd
      rw [List.length_map]
      omega
    have hkx : ∀ x ∈ kd B t, x < j := fun x hx => by
      obtain ⟨u, hu, rfl⟩ := List.mem_map.1 hx
      obtain ⟨p, hp, hpu⟩ := g1.lo j t ht u hu
      rw [pl_of g1.nd hpu]
      exact hp
    have hstep : nodesB B (j + 1) = nodesB B j ++ nodeB B j t := by rw [nodesB, ht]
    have e1 : bR (([116, 114, 49] ++ digs B.length ++ nodesB B j) ++ [u8 (t.k + 8 * t.l)]) = bR ([116, 114, 49] ++ digs B.length ++ nodesB B j) ++ [[CV.int .u8 (IntKind.u8.wrap (t.k + 8 * t.l))]] := (bR_snoc _ _).symm
    have hbl := bR_len ([116, 114, 49] ++ digs B.length ++ nodesB B j)
    have hb1 : ((bR ([116, 114, 49] ++ digs B.length ++ nodesB B j)).length + 1) * 1 ≤ 140737488355328 := by omega
    have hb2 : (bR ([116, 114, 49] ++ digs B.length ++ nodesB B j)).length + 1 ≤ 9223372036854775807 := by omega
    obtain ⟨N, hN⟩ : ∃ N : Nat, t.n = N := ⟨t.n.toNat, by omega⟩
    have hdN := digs9 (n := N) (by omega)
    have hnum := cNumber (([116, 114, 49] ++ digs B.length ++ nodesB B j) ++ [u8 (t.k + 8 * t.l)]) N (by simp only [List.length_append, List.length_singleton] at hlen ⊢; omega) (by omega)
    have hls1 := cListC 44 j (fun k => digs (j - k - 1)) ((([116, 114, 49] ++ digs B.length ++ nodesB B j) ++ [u8 (t.k + 8 * t.l)]) ++ digs N) (kd B t) (fun x _ => digs9 (by omega)) (by simp only [List.length_append, List.length_singleton] at hlen ⊢; omega) (fun l' x hx hl' => cPackedF l' j x (hkx x hx) (by omega) hl')
    have hls2 := cListC 44 j (fun k => digs (j - k - 1)) (([116, 114, 49] ++ digs B.length ++ nodesB B j) ++ [u8 (t.k + 8 * t.l)]) (kd B t) (fun x _ => digs9 (by omega)) (by simp only [List.length_append, List.length_singleton] at hlen ⊢; omega) (fun l' x hx hl' => cPackedF l' j x (hkx x hx) (by omega) hl')
    rw [nodeB, hN, Int.toNat_natCast] at hstep
    rw [hN] at hnc
    rw [e1] at hnum hls2
    generalize kd B t = K at *
    generalize t.k = tk at *
    generalize t.l = tl at *
    generalize t.ts = tts at *
    conv => whnf
    repeat (first | (refine And.intro rfl ?_; conv => whnf) | (refine And.intro (by decide) ?_; conv => whnf) | (refine draw_intro true (by kernel_rfl) ?_; conv => whnf) | (refine And.intro ⟨by omega, by omega⟩ ?_; conv => whnf) | (refine And.intro (by omega) ?_; conv => whnf) | (refine And.intro (fun _ => ⟨by omega, by omega⟩) ?_; conv => whnf) | (refine And.intro (fun _ => ?_) (fun h => absurd h ?_); rotate_left; (focus (first | decide | (simp; done) | (simp [tcs]; done))); conv => whnf) | (refine And.intro (fun h => absurd h ?_) (fun _ => ?_); (focus (first | decide | (simp; done) | (simp [tcs]; done))); conv => whnf) | (intro _; conv => whnf))
    refine ⟨[.int .i64 tk, .int .i64 tl, .int .i64 (N : Int), .sl 4 48 (tcs tts), .sl 1 8 (rowN K)], by rw [Int.toNat_natCast]; exact hnc, show 0 + 5 ≤ 5 by decide, ?_⟩
    conv => whnf
    repeat (first | (refine And.intro rfl ?_; conv => whnf) | (refine And.intro (by decide) ?_; conv => whnf) | (refine draw_intro true (by kernel_rfl) ?_; conv => whnf) | (refine And.intro ⟨by omega, by omega⟩ ?_; conv => whnf) | (refine And.intro (by omega) ?_; conv => whnf) | (refine And.intro (fun _ => ⟨by omega, by omega⟩) ?_; conv => whnf) | (refine And.intro (fun _ => ?_) (fun h => absurd h ?_); rotate_left; (focus (first | decide | (simp; done) | (simp [tcs]; done))); conv => whnf) | (refine And.intro (fun h => absurd h ?_) (fun _ => ?_); (focus (first | decide | (simp; done) | (simp [tcs]; done))); conv => whnf) | (intro _; conv => whnf))
    refine ⟨fun hk4 => ?_, fun hk4 => ?_⟩
    · rw [show decide (tk = 4) = true from hk4] at hstep
      conv => whnf
      repeat (first | (refine And.intro rfl ?_; conv => whnf) | (refine And.intro (by decide) ?_; conv => whnf) | (refine draw_intro true (by kernel_rfl) ?_; conv => whnf) | (refine And.intro ⟨by omega, by omega⟩ ?_; conv => whnf) | (refine And.intro (by omega) ?_; conv => whnf) | (refine And.intro (fun _ => ⟨by omega, by omega⟩) ?_; conv => whnf) | (refine And.intro (fun _ => ?_) (fun h => absurd h ?_); rotate_left; (focus (first | decide | (simp; done) | (simp [tcs]; done))); conv => whnf) | (refine And.intro (fun h => absurd h ?_) (fun _ => ?_); (focus (first | decide | (simp; done) | (simp [tcs]; done))); conv => whnf) | (intro _; conv => whnf))
      try (refine draw_intro true (by kernel_rfl) ?_; conv => whnf)
      refine CallSt.use hnum [6] ⟨rfl, trivial⟩ (by decide) rfl ?_
      rintro _ _ ⟨rfl, rfl⟩ _
      conv => whnf
      repeat (first | (refine And.intro rfl ?_; conv => whnf) | (refine And.intro (by decide) ?_; conv => whnf) | (refine draw_intro true (by kernel_rfl) ?_; conv => whnf) | (refine And.intro ⟨by omega, by omega⟩ ?_; conv => whnf) | (refine And.intro (by omega) ?_; conv => whnf) | (refine And.intro (fun _ => ⟨by omega, by omega⟩) ?_; conv => whnf) | (refine And.intro (fun _ => ?_) (fun h => absurd h ?_); rotate_left; (focus (first | decide | (simp; done) | (simp [tcs]; done))); conv => whnf) | (refine And.intro (fun h => absurd h ?_) (fun _ => ?_); (focus (first | decide | (simp; done) | (simp [tcs]; done))); conv => whnf) | (intro _; conv => whnf))
      try (refine draw_intro true (by kernel_rfl) ?_; conv => whnf)
      refine CallSt.use hls1 [7, 3] ⟨rfl, rfl, trivial⟩ (by decide) rfl ?_
      rintro _ _ ⟨rfl, rfl⟩ _
      conv => whnf
      repeat (first | (refine And.intro rfl ?_; conv => whnf) | (refine And.intro (by decide) ?_; conv => whnf) | (refine draw_intro true (by kernel_rfl) ?_; conv => whnf) | (refine And.intro ⟨by omega, by omega⟩ ?_; conv => whnf) | (refine And.intro (by omega) ?_; conv => whnf) | (refine And.intro (fun _ => ⟨by omega, by omega⟩) ?_; conv => whnf) | (refine And.intro (fun _ => ?_) (fun h => absurd h ?_); rotate_left; (focus (first | decide | (simp; done) | (simp [tcs]; done))); conv => whnf) | (refine And.intro (fun h => absurd h ?_) (fun _ => ?_); (focus (first | decide | (simp; done) | (simp [tcs]; done))); conv => whnf) | (intro _; conv => whnf))
      refine ⟨m - 1, _, _, by omega, ⟨j + 1, by omega, rfl, rfl⟩, Wk.sel [0, 1, 8] (by decide) (by decide) (by decide) ⟨rfl, rfl, ?_, trivial⟩ ⟨rfl, rfl, rfl, rfl, rfl, rfl, trivial⟩ rfl⟩
      refine congrArg (fun z => some (Ent.row 5 1 1 (bR z))) ?_
      rw [hstep]
      simp only [List.append_assoc]
    · rw [show decide (tk = 4) = false from hk4] at hstep
      conv => whnf
      repeat (first | (refine And.intro rfl ?_; conv => whnf) | (refine And.intro (by decide) ?_; conv => whnf) | (refine draw_intro true (by kernel_rfl) ?_; conv => whnf) | (refine And.intro ⟨by omega, by omega⟩ ?_; conv => whnf) | (refine And.intro (by omega) ?_; conv => whnf) | (refine And.intro (fun _ => ⟨by omega, by omega⟩) ?_; conv => whnf) | (refine And.intro (fun _ => ?_) (fun h => absurd h ?_); rotate_left; (focus (first | decide | (simp; done) | (simp [tcs]; done))); conv => whnf) | (refine And.intro (fun h => absurd h ?_) (fun _ => ?_); (focus (first | decide | (simp; done) | (simp [tcs]; done))); conv => whnf) | (intro _; conv => whnf))
      try (refine draw_intro true (by kernel_rfl) ?_; conv => whnf)
      refine CallSt.use hls2 [6, 3] ⟨rfl, rfl, trivial⟩ (by decide) rfl ?_
      rintro _ _ ⟨rfl, rfl⟩ _
      conv => whnf
      repeat (first | (refine And.intro rfl ?_; conv => whnf) | (refine And.intro (by decide) ?_; conv => whnf) | (refine draw_intro true (by kernel_rfl) ?_; conv => whnf) | (refine And.intro ⟨by omega, by omega⟩ ?_; conv => whnf) | (refine And.intro (by omega) ?_; conv => whnf) | (refine And.intro (fun _ => ⟨by omega, by omega⟩) ?_; conv => whnf) | (refine And.intro (fun _ => ?_) (fun h => absurd h ?_); rotate_left; (focus (first | decide | (simp; done) | (simp [tcs]; done))); conv => whnf) | (refine And.intro (fun h => absurd h ?_) (fun _ => ?_); (focus (first | decide | (simp; done) | (simp [tcs]; done))); conv => whnf) | (intro _; conv => whnf))
      refine ⟨m - 1, _, _, by omega, ⟨j + 1, by omega, rfl, rfl⟩, Wk.sel [0, 1, 7] (by decide) (by decide) (by decide) ⟨rfl, rfl, ?_, trivial⟩ ⟨rfl, rfl, rfl, rfl, rfl, rfl, trivial⟩ rfl⟩
      refine congrArg (fun z => some (Ent.row 5 1 1 (bR z))) ?_
      rw [hstep]
      simp only [List.append_assoc, List.nil_append]
  · replace hc : ¬ (j : Int) < (nds B).length := of_decide_eq_false hc
    obtain rfl : j = B.length := by omega
    have hnbb := hnb B.length (by omega)
    have hSl := len_dcs S
    have hXl := len_tcs X
    have hlen : ([116, 114, 49] ++ digs B.length ++ nodesB B B.length : List UInt8).length ≤ 657000000 := by simp only [List.length_append, List.length_cons, List.length_nil]; omega
    have hdS := digs9 (n := S.length) (by omega)
    have hnS := cNumber ([116, 114, 49] ++ digs B.length ++ nodesB B B.length) S.length (by omega) (by omega)
    rw [← hSl] at hnS
    generalize hP : ([116, 114, 49] ++ digs B.length ++ nodesB B B.length : List UInt8) = P at *
    have hdb : ∀ j : Nat, j ≤ S.length → (declsB S R j).length ≤ 43 * j := decls_len (fun d hd => hnm d hd) (fun x hx => by have := hRb x hx; omega)
    conv => whnf
    repeat (first | (refine And.intro rfl ?_; conv => whnf) | (refine And.intro (by decide) ?_; conv => whnf) | (refine draw_intro true (by kernel_rfl) ?_; conv => whnf) | (refine And.intro ⟨by omega, by omega⟩ ?_; conv => whnf) | (refine And.intro (by omega) ?_; conv => whnf) | (refine And.intro (fun _ => ⟨by omega, by omega⟩) ?_; conv => whnf) | (refine And.intro (fun _ => ?_) (fun h => absurd h ?_); rotate_left; (focus (first | decide | (simp; done) | (simp [tcs]; done))); conv => whnf) | (refine And.intro (fun h => absurd h ?_) (fun _ => ?_); (focus (first | decide | (simp; done) | (simp [tcs]; done))); conv => whnf) | (intro _; conv => whnf))
    try (refine draw_intro true (by kernel_rfl) ?_; conv => whnf)
    refine CallSt.use hnS [2] ⟨rfl, trivial⟩ (by decide) rfl ?_
    rintro _ _ ⟨rfl, rfl⟩ _
    conv => whnf
    repeat (first | (refine And.intro rfl ?_; conv => whnf) | (refine And.intro (by decide) ?_; conv => whnf) | (refine draw_intro true (by kernel_rfl) ?_; conv => whnf) | (refine And.intro ⟨by omega, by omega⟩ ?_; conv => whnf) | (refine And.intro (by omega) ?_; conv => whnf) | (refine And.intro (fun _ => ⟨by omega, by omega⟩) ?_; conv => whnf) | (refine And.intro (fun _ => ?_) (fun h => absurd h ?_); rotate_left; (focus (first | decide | (simp; done) | (simp [tcs]; done))); conv => whnf) | (refine And.intro (fun h => absurd h ?_) (fun _ => ?_); (focus (first | decide | (simp; done) | (simp [tcs]; done))); conv => whnf) | (intro _; conv => whnf))
    refine loop_intro (fun m tm H => ∃ (j : Nat), S.length = m + j ∧ tm = [(71, .c (.int .i64 (j))), (70, .c (.int .i64 ((dcs S).length))), (69, .c (.sl 6 72 (dcs S))), (4, .c (.sl 1 8 (rowN R))), (5, .own 1), (1, .ptr 0 0)] ∧
        H = [.box [.c (.sl 6 72 (dcs S)), .c (.sl 4 48 (tcs X)), .c (.int .i64 (k)), .c (.int .i64 (l)), .c (.int .i64 (n)), .c (.sl 4 48 (tcs ts)), .c (.int .i64 (k2)), .c (.int .i64 (l2)), .c (.int .i64 (n2)), .c (.sl 4 48 (tcs us))], .row 5 1 1 (bR (P ++ digs S.length ++ declsB S R j))])
      S.length _ _ ⟨0, by omega, rfl, rfl⟩ ?_ ?_
    · refine Wk.sel [0, 3] (by decide) (by decide) (by decide) ⟨rfl, ?_, trivial⟩ ⟨rfl, rfl, rfl, rfl, rfl, rfl, trivial⟩ rfl
      rw [declsB, List.append_nil, ← hSl]
      rfl
    rintro m tm H ⟨j, hj, rfl, rfl⟩
    conv => whnf
    refine ⟨fun hc => ?_, fun hc => ?_⟩
    · replace hc : (j : Int) < (dcs S).length := of_decide_eq_true hc
      obtain ⟨d, hd⟩ : ∃ d, S[j]? = some d := ⟨S[j]'(by omega), List.getElem?_eq_getElem (by omega)⟩
      obtain ⟨r, hr⟩ : ∃ r, R[j]? = some r := ⟨R[j]'(by omega), List.getElem?_eq_getElem (by omega)⟩
      have hdc := dcs_at hd
      have hrr := rowN_at hr
      have hdm := hnm d (List.mem_of_getElem? hd)
      have hrm := hRb r (List.mem_of_getElem? hr)
      have hjb := hdb j (by omega)
      have hstep : declsB S R (j + 1) = declsB S R j ++ declB d r := by rw [declsB, hd, hr]
      have hQ : (P ++ digs S.length ++ declsB S R j).length ≤ 657005000 := by simp only [List.length_append]; omega
      generalize hQe : P ++ digs S.length ++ declsB S R j = Q at *
      obtain ⟨i, hi⟩ : ∃ i : Nat, d.i = i := ⟨d.i.toNat, by omega⟩
      unfold declB at hstep
      rw [hi, Int.toNat_natCast] at hstep
      obtain ⟨s', ⟨k', l', n', us'⟩, i'⟩ := d
      simp only at hdm hi hstep
      subst hi
      have d1 := digs9 (n := s'.size) (by omega)
      have d2 := digs9 (n := r) (by omega)
      have d3 := digs9 (n := i) (by omega)
      have d4 : s'.data.toList.length = s'.size := by rw [Array.length_toList]; rfl
      have hn1 := cNumber Q s'.size (by omega) (by omega)
      have hn2 := cNumber (Q ++ digs s'.size ++ s'.data.toList) r (by simp only [List.length_append]; omega) (by omega)
      have hn3 := cNumber (Q ++ digs s'.size ++ s'.data.toList ++ digs r) i (by simp only [List.length_append]; omega) (by omega)
      rw [bR_app _ s'.data.toList] at hn2
      have hbl := bR_len (Q ++ digs s'.size)
      have hp := digs_pos s'.size
      rw [List.length_append] at hbl
      conv => whnf
      refine ⟨_, ⟨by omega, hdc⟩, ?_⟩
      conv => whnf
      refine ⟨show 6 ≤ 6 by decide, ?_⟩
      conv => whnf
      repeat (first | (refine And.intro rfl ?_; conv => whnf) | (refine And.intro (by decide) ?_; conv => whnf) | (refine draw_intro true (by kernel_rfl) ?_; conv => whnf) | (refine And.intro ⟨by omega, by omega⟩ ?_; conv => whnf) | (refine And.intro (by omega) ?_; conv => whnf) | (refine And.intro (fun _ => ⟨by omega, by omega⟩) ?_; conv => whnf) | (refine And.intro (fun _ => ?_) (fun h => absurd h ?_); rotate_left; (focus (first | decide | (simp; done) | (simp [tcs]; done))); conv => whnf) | (refine And.intro (fun h => absurd h ?_) (fun _ => ?_); (focus (first | decide | (simp; done) | (simp [tcs]; done))); conv => whnf) | (intro _; conv => whnf))
      try (refine draw_intro true (by kernel_rfl) ?_; conv => whnf)
      refine CallSt.use hn1 [1] ⟨rfl, trivial⟩ (by decide) rfl ?_
      rintro _ _ ⟨rfl, rfl⟩ _
      conv => whnf
      refine ⟨show 0 < (bR (Q ++ digs s'.size)).length by omega, show (bR (Q ++ digs s'.size)).length + s'.size ≤ 140737488355328 by omega, ?_⟩
      conv => whnf
      repeat (first | (refine And.intro rfl ?_; conv => whnf) | (refine And.intro (by decide) ?_; conv => whnf) | (refine draw_intro true (by kernel_rfl) ?_; conv => whnf) | (refine And.intro ⟨by omega, by omega⟩ ?_; conv => whnf) | (refine And.intro (by omega) ?_; conv => whnf) | (refine And.intro (fun _ => ⟨by omega, by omega⟩) ?_; conv => whnf) | (refine And.intro (fun _ => ?_) (fun h => absurd h ?_); rotate_left; (focus (first | decide | (simp; done) | (simp [tcs]; done))); conv => whnf) | (refine And.intro (fun h => absurd h ?_) (fun _ => ?_); (focus (first | decide | (simp; done) | (simp [tcs]; done))); conv => whnf) | (intro _; conv => whnf))
      refine ⟨_, ⟨by omega, hrr⟩, ?_⟩
      conv => whnf
      refine ⟨show 1 ≤ 1 by decide, ?_⟩
      conv => whnf
      repeat (first | (refine And.intro rfl ?_; conv => whnf) | (refine And.intro (by decide) ?_; conv => whnf) | (refine draw_intro true (by kernel_rfl) ?_; conv => whnf) | (refine And.intro ⟨by omega, by omega⟩ ?_; conv => whnf) | (refine And.intro (by omega) ?_; conv => whnf) | (refine And.intro (fun _ => ⟨by omega, by omega⟩) ?_; conv => whnf) | (refine And.intro (fun _ => ?_) (fun h => absurd h ?_); rotate_left; (focus (first | decide | (simp; done) | (simp [tcs]; done))); conv => whnf) | (refine And.intro (fun h => absurd h ?_) (fun _ => ?_); (focus (first | decide | (simp; done) | (simp [tcs]; done))); conv => whnf) | (intro _; conv => whnf))
      try (refine draw_intro true (by kernel_rfl) ?_; conv => whnf)
      refine CallSt.use hn2 [4] ⟨rfl, trivial⟩ (by decide) rfl ?_
      rintro _ _ ⟨rfl, rfl⟩ _
      conv => whnf
      repeat (first | (refine And.intro rfl ?_; conv => whnf) | (refine And.intro (by decide) ?_; conv => whnf) | (refine draw_intro true (by kernel_rfl) ?_; conv => whnf) | (refine And.intro ⟨by omega, by omega⟩ ?_; conv => whnf) | (refine And.intro (by omega) ?_; conv => whnf) | (refine And.intro (fun _ => ⟨by omega, by omega⟩) ?_; conv => whnf) | (refine And.intro (fun _ => ?_) (fun h => absurd h ?_); rotate_left; (focus (first | decide | (simp; done) | (simp [tcs]; done))); conv => whnf) | (refine And.intro (fun h => absurd h ?_) (fun _ => ?_); (focus (first | decide | (simp; done) | (simp [tcs]; done))); conv => whnf) | (intro _; conv => whnf))
      try (refine draw_intro true (by kernel_rfl) ?_; conv => whnf)
      refine CallSt.use hn3 [5] ⟨rfl, trivial⟩ (by decide) rfl ?_
      rintro _ _ ⟨rfl, rfl⟩ _
      conv => whnf
      repeat (first | (refine And.intro rfl ?_; conv => whnf) | (refine And.intro (by decide) ?_; conv => whnf) | (refine draw_intro true (by kernel_rfl) ?_; conv => whnf) | (refine And.intro ⟨by omega, by omega⟩ ?_; conv => whnf) | (refine And.intro (by omega) ?_; conv => whnf) | (refine And.intro (fun _ => ⟨by omega, by omega⟩) ?_; conv => whnf) | (refine And.intro (fun _ => ?_) (fun h => absurd h ?_); rotate_left; (focus (first | decide | (simp; done) | (simp [tcs]; done))); conv => whnf) | (refine And.intro (fun h => absurd h ?_) (fun _ => ?_); (focus (first | decide | (simp; done) | (simp [tcs]; done))); conv => whnf) | (intro _; conv => whnf))
      refine ⟨m - 1, _, _, by omega, ⟨j + 1, by omega, rfl, rfl⟩, Wk.sel [0, 6] (by decide) (by decide) (by decide) ⟨rfl, ?_, trivial⟩ ⟨rfl, rfl, rfl, rfl, rfl, rfl, trivial⟩ rfl⟩
      refine congrArg (fun z => some (Ent.row 5 1 1 (bR z))) ?_
      rw [hstep, ← List.append_assoc, hQe]
      simp only [List.append_assoc]
    · replace hc : ¬ (j : Int) < (dcs S).length := of_decide_eq_false hc
      obtain rfl : j = S.length := by omega
      have hdS2 := hdb S.length (by omega)
      have hQ : (P ++ digs S.length ++ declsB S R S.length).length ≤ 657005000 := by simp only [List.length_append]; omega
      have hpk : packL S X B R = P ++ digs S.length ++ declsB S R S.length ++ lstB digs ((R.drop S.length).take X.length) ++ ((R.drop S.length).drop X.length).flatMap digs := by
        rw [← hP]
        simp only [packL, List.append_assoc]
      rw [hpk]
      clear hpk
      generalize hQe : P ++ digs S.length ++ declsB S R S.length = Q at *
      have hRn := rowN_len R
      have hr1 : ((rowN R).take (((rowN R).length : Int).toNat)).drop (((dcs S).length : Int).toNat) = rowN (R.drop S.length) := by rw [Int.toNat_natCast, Int.toNat_natCast, List.take_length, hSl]; simp [rowN]
      have hRd := rowN_len (R.drop S.length)
      rw [List.length_drop] at hRd
      have hr2 : ((rowN (R.drop S.length)).take (((tcs X).length : Int).toNat)).drop (Int.toNat 0) = rowN ((R.drop S.length).take X.length) := by
        rw [Int.toNat_natCast, hXl]
        simp [rowN]
      have hr3 : ((rowN (R.drop S.length)).take (((rowN (R.drop S.length)).length : Int).toNat)).drop (((tcs X).length : Int).toNat) = rowN ((R.drop S.length).drop X.length) := by rw [Int.toNat_natCast, Int.toNat_natCast, List.take_length, hXl]; simp [rowN]
      have hls := cListN Q ((R.drop S.length).take X.length) (fun x hx => by have := hRb x (List.mem_of_mem_drop (List.mem_of_mem_take hx)); omega) (by rw [List.length_take]; omega)
      conv => whnf
      repeat (first | (refine And.intro rfl ?_; conv => whnf) | (refine And.intro (by decide) ?_; conv => whnf) | (refine draw_intro true (by kernel_rfl) ?_; conv => whnf) | (refine And.intro ⟨by omega, by omega⟩ ?_; conv => whnf) | (refine And.intro (by omega) ?_; conv => whnf) | (refine And.intro (fun _ => ⟨by omega, by omega⟩) ?_; conv => whnf) | (refine And.intro (fun _ => ?_) (fun h => absurd h ?_); rotate_left; (focus (first | decide | (simp; done) | (simp [tcs]; done))); conv => whnf) | (refine And.intro (fun h => absurd h ?_) (fun _ => ?_); (focus (first | decide | (simp; done) | (simp [tcs]; done))); conv => whnf) | (intro _; conv => whnf))
      rw [hr1]
      refine ⟨⟨by omega, by omega, by omega⟩, ?_⟩
      conv => whnf
      rw [hr2]
      try (refine draw_intro true (by kernel_rfl) ?_; conv => whnf)
      refine CallSt.use hls [1] ⟨rfl, trivial⟩ (by decide) rfl ?_
      rintro _ _ ⟨rfl, rfl⟩ _
      conv => whnf
      repeat (first | (refine And.intro rfl ?_; conv => whnf) | (refine And.intro (by decide) ?_; conv => whnf) | (refine draw_intro true (by kernel_rfl) ?_; conv => whnf) | (refine And.intro ⟨by omega, by omega⟩ ?_; conv => whnf) | (refine And.intro (by omega) ?_; conv => whnf) | (refine And.intro (fun _ => ⟨by omega, by omega⟩) ?_; conv => whnf) | (refine And.intro (fun _ => ?_) (fun h => absurd h ?_); rotate_left; (focus (first | decide | (simp; done) | (simp [tcs]; done))); conv => whnf) | (refine And.intro (fun h => absurd h ?_) (fun _ => ?_); (focus (first | decide | (simp; done) | (simp [tcs]; done))); conv => whnf) | (intro _; conv => whnf))
      rw [hr3]
      conv => whnf
      repeat (first | (refine And.intro rfl ?_; conv => whnf) | (refine And.intro (by decide) ?_; conv => whnf) | (refine draw_intro true (by kernel_rfl) ?_; conv => whnf) | (refine And.intro ⟨by omega, by omega⟩ ?_; conv => whnf) | (refine And.intro (by omega) ?_; conv => whnf) | (refine And.intro (fun _ => ⟨by omega, by omega⟩) ?_; conv => whnf) | (refine And.intro (fun _ => ?_) (fun h => absurd h ?_); rotate_left; (focus (first | decide | (simp; done) | (simp [tcs]; done))); conv => whnf) | (refine And.intro (fun h => absurd h ?_) (fun _ => ?_); (focus (first | decide | (simp; done) | (simp [tcs]; done))); conv => whnf) | (intro _; conv => whnf))
      have hTl : ((R.drop S.length).drop X.length).length = 2 := by rw [List.length_drop, List.length_drop]; omega
      have hTb : ∀ x ∈ (R.drop S.length).drop X.length, x ≤ 1000000 := fun x hx => by have := hRb x (List.mem_of_mem_drop (List.mem_of_mem_drop hx)); omega
      have hlb := lstB_len digs ((R.drop S.length).take X.length) (fun x hx => by
        have := hRb x (List.mem_of_mem_drop (List.mem_of_mem_take hx))
        exact digs9 (by omega)) (by rw [List.length_take]; omega)
      have hlt : ((R.drop S.length).take X.length).length ≤ 100 := by rw [List.length_take]; omega
      have hGl : (Q ++ lstB digs ((R.drop S.length).take X.length)).length ≤ 658000000 := by rw [List.length_append]; omega
      generalize hG : Q ++ lstB digs ((R.drop S.length).take X.length) = G at *
      generalize (R.drop S.length).drop X.length = T at *
      have hTr := rowN_len T
      refine loop_intro (fun m tm H => ∃ (j : Nat), T.length = m + j ∧ tm = [(112, .c (.int .i64 (j))), (111, .c (.int .i64 ((rowN T).length))), (110, .c (.sl 1 8 (rowN T))), (5, .own 0)] ∧
          H = [.row 5 1 1 (bR (G ++ (T.take j).flatMap digs))])
        T.length _ _ ⟨0, by omega, rfl, rfl⟩ ?_ ?_
      · refine Wk.sel [2] (by decide) (by decide) (by decide) ⟨?_, trivial⟩ ⟨rfl, rfl, rfl, rfl, trivial⟩ rfl
        refine congrArg (fun z => some (Ent.row 5 1 1 (bR z))) ?_
        simp
      rintro m tm H ⟨j, hj, rfl, rfl⟩
      conv => whnf
      refine ⟨fun hc => ?_, fun hc => ?_⟩
      · replace hc : (j : Int) < (rowN T).length := of_decide_eq_true hc
        obtain ⟨x, hx⟩ : ∃ x, T[j]? = some x := ⟨T[j]'(by omega), List.getElem?_eq_getElem (by omega)⟩
        have hxr := rowN_at hx
        have hxb := hTb x (List.mem_of_getElem? hx)
        have hd := digs9 (n := x) (by omega)
        have hfl := flat9 digs (T.take j) fun y hy => digs9 (by have := hTb y (List.mem_of_mem_take hy); omega)
        have hjl : (T.take j).length ≤ 2 := by rw [List.length_take]; omega
        have hnx := cNumber (G ++ (T.take j).flatMap digs) x (by rw [List.length_append]; omega) (by omega)
        conv => whnf
        refine ⟨_, ⟨by omega, by simpa using hxr⟩, ?_⟩
        conv => whnf
        refine ⟨Nat.le_refl 1, ?_⟩
        conv => whnf
        repeat (first | (refine And.intro rfl ?_; conv => whnf) | (refine And.intro (by decide) ?_; conv => whnf) | (refine draw_intro true (by kernel_rfl) ?_; conv => whnf) | (refine And.intro ⟨by omega, by omega⟩ ?_; conv => whnf) | (refine And.intro (by omega) ?_; conv => whnf) | (refine And.intro (fun _ => ⟨by omega, by omega⟩) ?_; conv => whnf) | (refine And.intro (fun _ => ?_) (fun h => absurd h ?_); rotate_left; (focus (first | decide | (simp; done) | (simp [tcs]; done))); conv => whnf) | (refine And.intro (fun h => absurd h ?_) (fun _ => ?_); (focus (first | decide | (simp; done) | (simp [tcs]; done))); conv => whnf) | (intro _; conv => whnf))
        try (refine draw_intro true (by kernel_rfl) ?_; conv => whnf)
        refine CallSt.use hnx [0] ⟨rfl, trivial⟩ (by decide) rfl ?_
        rintro _ _ ⟨rfl, rfl⟩ _
        conv => whnf
        repeat (first | (refine And.intro rfl ?_; conv => whnf) | (refine And.intro (by decide) ?_; conv => whnf) | (refine draw_intro true (by kernel_rfl) ?_; conv => whnf) | (refine And.intro ⟨by omega, by omega⟩ ?_; conv => whnf) | (refine And.intro (by omega) ?_; conv => whnf) | (refine And.intro (fun _ => ⟨by omega, by omega⟩) ?_; conv => whnf) | (refine And.intro (fun _ => ?_) (fun h => absurd h ?_); rotate_left; (focus (first | decide | (simp; done) | (simp [tcs]; done))); conv => whnf) | (refine And.intro (fun h => absurd h ?_) (fun _ => ?_); (focus (first | decide | (simp; done) | (simp [tcs]; done))); conv => whnf) | (intro _; conv => whnf))
        refine ⟨m - 1, _, _, by omega, ⟨j + 1, by omega, rfl, rfl⟩, Wk.sel [1] (by decide) (by decide) (by decide) ⟨?_, trivial⟩ ⟨rfl, rfl, rfl, rfl, trivial⟩ rfl⟩
        refine congrArg (fun z => some (Ent.row 5 1 1 (bR z))) ?_
        rw [List.take_add_one, hx]
        simp
      · replace hc : ¬ (j : Int) < (rowN T).length := of_decide_eq_false hc
        obtain rfl : j = T.length := by omega
        rw [List.take_length]
        have hfl := flat9 digs T fun y hy => digs9 (by have := hTb y hy; omega)
        have hse := cSealed (G ++ T.flatMap digs) (by rw [List.length_append]; omega)
        generalize G ++ T.flatMap digs = Z at *
        conv => whnf
        repeat (first | (refine And.intro rfl ?_; conv => whnf) | (refine And.intro (by decide) ?_; conv => whnf) | (refine draw_intro true (by kernel_rfl) ?_; conv => whnf) | (refine And.intro ⟨by omega, by omega⟩ ?_; conv => whnf) | (refine And.intro (by omega) ?_; conv => whnf) | (refine And.intro (fun _ => ⟨by omega, by omega⟩) ?_; conv => whnf) | (refine And.intro (fun _ => ?_) (fun h => absurd h ?_); rotate_left; (focus (first | decide | (simp; done) | (simp [tcs]; done))); conv => whnf) | (refine And.intro (fun h => absurd h ?_) (fun _ => ?_); (focus (first | decide | (simp; done) | (simp [tcs]; done))); conv => whnf) | (intro _; conv => whnf))
        try (refine draw_intro true (by kernel_rfl) ?_; conv => whnf)
        refine CallSt.use hse [0] ⟨rfl, trivial⟩ (by decide) rfl ?_
        rintro _ _ ⟨rfl, rfl⟩ _
        conv => whnf
        repeat (first | (refine And.intro rfl ?_; conv => whnf) | (refine And.intro (by decide) ?_; conv => whnf) | (refine draw_intro true (by kernel_rfl) ?_; conv => whnf) | (refine And.intro ⟨by omega, by omega⟩ ?_; conv => whnf) | (refine And.intro (by omega) ?_; conv => whnf) | (refine And.intro (fun _ => ⟨by omega, by omega⟩) ?_; conv => whnf) | (refine And.intro (fun _ => ?_) (fun h => absurd h ?_); rotate_left; (focus (first | decide | (simp; done) | (simp [tcs]; done))); conv => whnf) | (refine And.intro (fun h => absurd h ?_) (fun _ => ?_); (focus (first | decide | (simp; done) | (simp [tcs]; done))); conv => whnf) | (intro _; conv => whnf))
        all_goals (first | rfl | exact ⟨rfl, rfl⟩ | exact ⟨rfl, rfl, rfl⟩)
end Go.Tr
/- cert: Saved, Pack; awake of trusslaw19. -/
namespace Go.Tr
open Go.Proofs
def kindC : Crt := ⟨[], [], .mk 1 0 0 [], .mk 1 0 0 []⟩
theorem cKindC : CallSt Try.prog 25 [] [] (fun r H' => r = crv kindC ∧ H' = []) := by
  unfold crv kindC
  refine call_pure (E := env 0) (fn := Try.f25) (c := bodyOf Try.f25) (env_ok 0) mixed (by kernel_rfl) (by kernel_rfl) (by kernel_rfl) (by kernel_rfl) (by kernel_rfl) (by kernel_rfl) rfl ?_
  conv => whnf
  repeat (first | (refine And.intro rfl ?_; conv => whnf) | (refine And.intro (by decide) ?_; conv => whnf) | (refine draw_intro true (by kernel_rfl) ?_; conv => whnf) | (refine And.intro ⟨by omega, by omega⟩ ?_; conv => whnf) | (refine And.intro (by omega) ?_; conv => whnf) | (refine And.intro (fun _ => ⟨by omega, by omega⟩) ?_; conv => whnf) | (refine And.intro (fun _ => ?_) (fun h => absurd h ?_); rotate_left; (focus (first | decide | (simp; done) | (simp [tcs]; done))); conv => whnf) | (refine And.intro (fun h => absurd h ?_) (fun _ => ?_); (focus (first | decide | (simp; done) | (simp [tcs]; done))); conv => whnf) | (intro _; conv => whnf))
  all_goals (first | rfl | exact ⟨rfl, rfl⟩ | exact ⟨rfl, rfl, rfl⟩)
/-- The nodes, and their number. -/
def nodesOf (c : Crt) : List Term := bk c (crl c).length
def savedV (c : Crt) : AV := match builtB c with
  | true => .tup [.c (.int .i64 (szL (crl c))), .c (.int .i64 ((nodesOf c).length)), .c (.int .i64 (0))]
  | false => .tup [.c (.int .i64 (0)), .c (.int .i64 (0)), .c (.int .i64 (2))]
theorem cSaved (c : Crt) : CallSt Try.prog 11 [crv c] [] (fun r H' => r = savedV c ∧ H' = []) := by
  have hb := cBuilt c
  unfold savedV nodesOf
  cases hbc : builtB c with
  | false =>
    rw [hbc] at hb
    obtain ⟨S, X, ⟨k, l, n, ts⟩, ⟨k2, l2, n2, us⟩⟩ := c
    unfold crv at *
    dsimp only [Term.k, Term.l, Term.n, Term.ts] at *
    refine call_pure (E := env 0) (fn := Try.f11) (c := bodyOf Try.f11) (env_ok 0) mixed (by kernel_rfl) (by kernel_rfl) (by kernel_rfl) (by kernel_rfl) (by kernel_rfl) (by kernel_rfl) rfl ?_
    conv => whnf
    try (refine draw_intro true (by kernel_rfl) ?_; conv => whnf)
    refine CallSt.use hb [] trivial (by decide) rfl ?_
    rintro _ _ ⟨rfl, rfl⟩ _
    conv => whnf
    repeat (first | (refine And.intro rfl ?_; conv => whnf) | (refine And.intro (by decide) ?_; conv => whnf) | (refine draw_intro true (by kernel_rfl) ?_; conv => whnf) | (refine And.intro ⟨by omega, by omega⟩ ?_; conv => whnf) | (refine And.intro (by omega) ?_; conv => whnf) | (refine And.intro (fun _ => ⟨by omega, by omega⟩) ?_; conv => whnf) | (refine And.intro (fun _ => ?_) (fun h => absurd h ?_); rotate_left; (focus (first | decide | (simp; done) | (simp [tcs]; done))); conv => whnf) | (refine And.intro (fun h => absurd h ?_) (fun _ => ?_); (focus (first | decide | (simp; done) | (simp [tcs]; done))); conv => whnf) | (intro _; conv => whnf))
    all_goals (first | rfl | exact ⟨rfl, rfl⟩ | exact ⟨rfl, rfl, rfl⟩)
  | true =>
    rw [hbc] at hb
    have hn := cNewNodes c (built_ok hbc).sane
    have hl := nds_len (bk c (crl c).length)
    have hB : (bk c (crl c).length).length ≤ 1000000 := by
      have hs := (built_ok hbc).sane
      obtain ⟨_, _, g3⟩ := bk_good hs (crl c).length
      rw [List.take_length] at g3
      have hsa := szL_all (crl c) fun u hu => (hs.t u hu).2
      have := crl_len c
      have := hs.S
      have := hs.X
      omega
    have hb1 : (nds (bk c (crl c).length)).length * 72 ≤ 140737488355328 := by omega
    rw [← hl]
    clear hbc
    generalize nds (bk _ _) = N at *
    generalize bk _ _ = B at *
    generalize rt _ _ = R at *
    generalize crl c = q at *
    obtain ⟨S, X, ⟨k, l, n, ts⟩, ⟨k2, l2, n2, us⟩⟩ := c
    unfold crv at *
    dsimp only [Term.k, Term.l, Term.n, Term.ts] at *
    refine call_pure (E := env 0) (fn := Try.f11) (c := bodyOf Try.f11) (env_ok 0) mixed (by kernel_rfl) (by kernel_rfl) (by kernel_rfl) (by kernel_rfl) (by kernel_rfl) (by kernel_rfl) rfl ?_
    conv => whnf
    try (refine draw_intro true (by kernel_rfl) ?_; conv => whnf)
    refine CallSt.use hb [] trivial (by decide) rfl ?_
    rintro _ _ ⟨rfl, rfl⟩ _
    conv => whnf
    repeat (first | (refine And.intro rfl ?_; conv => whnf) | (refine And.intro (by decide) ?_; conv => whnf) | (refine draw_intro true (by kernel_rfl) ?_; conv => whnf) | (refine And.intro ⟨by omega, by omega⟩ ?_; conv => whnf) | (refine And.intro (by omega) ?_; conv => whnf) | (refine And.intro (fun _ => ⟨by omega, by omega⟩) ?_; conv => whnf) | (refine And.intro (fun _ => ?_) (fun h => absurd h ?_); rotate_left; (focus (first | decide | (simp; done) | (simp [tcs]; done))); conv => whnf) | (refine And.intro (fun h => absurd h ?_) (fun _ => ?_); (focus (first | decide | (simp; done) | (simp [tcs]; done))); conv => whnf) | (intro _; conv => whnf))
    try (refine draw_intro true (by kernel_rfl) ?_; conv => whnf)
    refine CallSt.use hn [] trivial (by decide) rfl ?_
    rintro _ _ ⟨rfl, rfl⟩ _
    conv => whnf
    repeat (first | (refine And.intro rfl ?_; conv => whnf) | (refine And.intro (by decide) ?_; conv => whnf) | (refine draw_intro true (by kernel_rfl) ?_; conv => whnf) | (refine And.intro ⟨by omega, by omega⟩ ?_; conv => whnf) | (refine And.intro (by omega) ?_; conv => whnf) | (refine And.intro (fun _ => ⟨by omega, by omega⟩) ?_; conv => whnf) | (refine And.intro (fun _ => ?_) (fun h => absurd h ?_); rotate_left; (focus (first | decide | (simp; done) | (simp [tcs]; done))); conv => whnf) | (refine And.intro (fun h => absurd h ?_) (fun _ => ?_); (focus (first | decide | (simp; done) | (simp [tcs]; done))); conv => whnf) | (intro _; conv => whnf))
    all_goals (first | rfl | exact ⟨rfl, rfl⟩ | exact ⟨rfl, rfl, rfl⟩)
/-- A certificate's packed form. -/
def packB (c : Crt) : List UInt8 := sealB (packL c.S c.X (bk c (crl c).length) (rt c (crl c).length))
def packV (c : Crt) : AV := match builtB c with
  | true => (match decide (60000 < ((⟨(packB c).toArray⟩ : ByteArray).size : Int)) with
    | true => .tup [.c (.str ⟨#[]⟩), .c (.int .i64 (5))]
    | false => .tup [.c (.str ⟨(packB c).toArray⟩), .c (.int .i64 (0))])
  | false => .tup [.c (.str ⟨#[]⟩), .c (.int .i64 (2))]
theorem cPack (c : Crt) : CallSt Try.prog 19 [crv c] [] (fun r H' => r = packV c ∧ H' = []) := by
  have hb := cBuilt c
  unfold packV
  cases hbc : builtB c with
  | false =>
    rw [hbc] at hb
    obtain ⟨S, X, ⟨k, l, n, ts⟩, ⟨k2, l2, n2, us⟩⟩ := c
    unfold crv at *
    dsimp only [Term.k, Term.l, Term.n, Term.ts] at *
    refine call_pure (E := env 0) (fn := Try.f19) (c := bodyOf Try.f19) (env_ok 0) mixed (by kernel_rfl) (by kernel_rfl) (by kernel_rfl) (by kernel_rfl) (by kernel_rfl) (by kernel_rfl) rfl ?_
    conv => whnf
    try (refine draw_intro true (by kernel_rfl) ?_; conv => whnf)
    refine CallSt.use hb [] trivial (by decide) rfl ?_
    rintro _ _ ⟨rfl, rfl⟩ _
    conv => whnf
    repeat (first | (refine And.intro rfl ?_; conv => whnf) | (refine And.intro (by decide) ?_; conv => whnf) | (refine draw_intro true (by kernel_rfl) ?_; conv => whnf) | (refine And.intro ⟨by omega, by omega⟩ ?_; conv => whnf) | (refine And.intro (by omega) ?_; conv => whnf) | (refine And.intro (fun _ => ⟨by omega, by omega⟩) ?_; conv => whnf) | (refine And.intro (fun _ => ?_) (fun h => absurd h ?_); rotate_left; (focus (first | decide | (simp; done) | (simp [tcs]; done))); conv => whnf) | (refine And.intro (fun h => absurd h ?_) (fun _ => ?_); (focus (first | decide | (simp; done) | (simp [tcs]; done))); conv => whnf) | (intro _; conv => whnf))
    all_goals (first | rfl | exact ⟨rfl, rfl⟩ | exact ⟨rfl, rfl, rfl⟩)
  | true =>
    rw [hbc] at hb
    have hp := cPacked c (built_ok hbc)
    have e : (⟨(sealB (packL c.S c.X (bk c (crl c).length) (rt c (crl c).length))).toArray⟩ : ByteArray) = ⟨(packB c).toArray⟩ := rfl
    rw [e] at hp
    clear hbc e
    generalize (⟨(packB c).toArray⟩ : ByteArray) = s at *
    obtain ⟨S, X, ⟨k, l, n, ts⟩, ⟨k2, l2, n2, us⟩⟩ := c
    unfold crv at *
    dsimp only [Term.k, Term.l, Term.n, Term.ts] at *
    refine call_pure (E := env 0) (fn := Try.f19) (c := bodyOf Try.f19) (env_ok 0) mixed (by kernel_rfl) (by kernel_rfl) (by kernel_rfl) (by kernel_rfl) (by kernel_rfl) (by kernel_rfl) rfl ?_
    conv => whnf
    try (refine draw_intro true (by kernel_rfl) ?_; conv => whnf)
    refine CallSt.use hb [] trivial (by decide) rfl ?_
    rintro _ _ ⟨rfl, rfl⟩ _
    conv => whnf
    repeat (first | (refine And.intro rfl ?_; conv => whnf) | (refine And.intro (by decide) ?_; conv => whnf) | (refine draw_intro true (by kernel_rfl) ?_; conv => whnf) | (refine And.intro ⟨by omega, by omega⟩ ?_; conv => whnf) | (refine And.intro (by omega) ?_; conv => whnf) | (refine And.intro (fun _ => ⟨by omega, by omega⟩) ?_; conv => whnf) | (refine And.intro (fun _ => ?_) (fun h => absurd h ?_); rotate_left; (focus (first | decide | (simp; done) | (simp [tcs]; done))); conv => whnf) | (refine And.intro (fun h => absurd h ?_) (fun _ => ?_); (focus (first | decide | (simp; done) | (simp [tcs]; done))); conv => whnf) | (intro _; conv => whnf))
    try (refine draw_intro true (by kernel_rfl) ?_; conv => whnf)
    refine CallSt.use hp [] trivial (by decide) rfl ?_
    rintro _ _ ⟨rfl, rfl⟩ _
    conv => whnf
    refine ⟨fun hlt => ?_, fun hlt => ?_⟩
    · rw [show decide ((60000 : Int) < (s.size : Int)) = true from hlt]
      conv => whnf
      repeat (first | (refine And.intro rfl ?_; conv => whnf) | (refine And.intro (by decide) ?_; conv => whnf) | (refine draw_intro true (by kernel_rfl) ?_; conv => whnf) | (refine And.intro ⟨by omega, by omega⟩ ?_; conv => whnf) | (refine And.intro (by omega) ?_; conv => whnf) | (refine And.intro (fun _ => ⟨by omega, by omega⟩) ?_; conv => whnf) | (refine And.intro (fun _ => ?_) (fun h => absurd h ?_); rotate_left; (focus (first | decide | (simp; done) | (simp [tcs]; done))); conv => whnf) | (refine And.intro (fun h => absurd h ?_) (fun _ => ?_); (focus (first | decide | (simp; done) | (simp [tcs]; done))); conv => whnf) | (intro _; conv => whnf))
      all_goals (first | rfl | exact ⟨rfl, rfl⟩ | exact ⟨rfl, rfl, rfl⟩)
    · rw [show decide ((60000 : Int) < (s.size : Int)) = false from hlt]
      conv => whnf
      repeat (first | (refine And.intro rfl ?_; conv => whnf) | (refine And.intro (by decide) ?_; conv => whnf) | (refine draw_intro true (by kernel_rfl) ?_; conv => whnf) | (refine And.intro ⟨by omega, by omega⟩ ?_; conv => whnf) | (refine And.intro (by omega) ?_; conv => whnf) | (refine And.intro (fun _ => ⟨by omega, by omega⟩) ?_; conv => whnf) | (refine And.intro (fun _ => ?_) (fun h => absurd h ?_); rotate_left; (focus (first | decide | (simp; done) | (simp [tcs]; done))); conv => whnf) | (refine And.intro (fun h => absurd h ?_) (fun _ => ?_); (focus (first | decide | (simp; done) | (simp [tcs]; done))); conv => whnf) | (intro _; conv => whnf))
      all_goals (first | rfl | exact ⟨rfl, rfl⟩ | exact ⟨rfl, rfl, rfl⟩)
theorem kind_crl : crl kindC = [.mk 1 0 0 [], .mk 1 0 0 []] := rfl
theorem kind_prop : prop (.mk 1 0 0 []) = true := by decide
theorem kind_built : builtB kindC = true := by
  have h1 : closedT (.mk 1 0 0 []) = true := by
    simp [closedT, kind_prop, conF, headsT, headsL]
  simp only [builtB, kind_crl, List.all_cons, List.all_nil, h1]
  rfl
theorem kind_bk : bk kindC 2 = [.mk 1 0 0 []] := by
  simp [bk, kind_crl, adL, adT]
theorem kind_rt : rt kindC 2 = [0, 0] := by
  unfold rt
  rw [kind_bk, kind_crl]
  rfl
theorem kind_pack : packB kindC = sealB [116, 114, 49, 1, 1, 0, 0, 0, 0, 0] := by
  unfold packB
  rw [show (crl kindC).length = 2 from rfl, kind_bk, kind_rt]
  congr 1
  simp [packL, kindC, nodesB, nodeB, declsB, lstB, kd, Term.k, Term.l, Term.n, Term.ts, digs_small]
  decide
end Go.Tr
/- awake, small of trusslaw19. -/
namespace Go.Tr
open Go.Proofs
theorem kind_saved : savedV kindC = .tup [.c (.int .i64 (2)), .c (.int .i64 (1)), .c (.int .i64 (0))] := by
  unfold savedV nodesOf
  rw [kind_built, show (crl kindC).length = 2 from rfl, kind_bk]
  simp [kind_crl, szL, szT]
theorem kind_packV : packV kindC = .tup [.c (.str ⟨(sealB [116, 114, 49, 1, 1, 0, 0, 0, 0, 0]).toArray⟩), .c (.int .i64 (0))] := by
  unfold packV
  rw [kind_built, kind_pack]
  have : decide ((60000 : Int) < ((⟨(sealB [116, 114, 49, 1, 1, 0, 0, 0, 0, 0]).toArray⟩ : ByteArray).size : Int)) = false := by
    have : (⟨(sealB [116, 114, 49, 1, 1, 0, 0, 0, 0, 0]).toArray⟩ : ByteArray).size = 14 := rfl
    rw [this]
    decide
  rw [this]
theorem cAwake19 : CallSt Try.prog 10 [] [] (fun r H' => r = .c (.bool true) ∧ H' = []) := by
  have hk := cKindC
  have hp := cPack kindC
  have hs := cSaved kindC
  have hb := cBuilt kindC
  have hr := cRSeal ⟨#[116, 114, 49, 1, 1, 0, 0, 0, 0, 0]⟩ (by decide)
  have hm := cSum ⟨#[]⟩ (by decide)
  rw [kind_saved] at hs
  rw [kind_packV] at hp
  rw [kind_built] at hb
  have e : sealB (⟨#[116, 114, 49, 1, 1, 0, 0, 0, 0, 0]⟩ : ByteArray).data.toList = sealB [116, 114, 49, 1, 1, 0, 0, 0, 0, 0] := rfl
  rw [e] at hr
  have e2 : sumI (⟨#[]⟩ : ByteArray).data.toList = 1 := rfl
  rw [e2] at hm
  clear e e2
  unfold crv at *
  generalize (⟨(sealB [116, 114, 49, 1, 1, 0, 0, 0, 0, 0]).toArray⟩ : ByteArray) = z at *
  refine call_pure (E := env 0) (fn := Try.f10) (c := bodyOf Try.f10) (env_ok 0) mixed (by kernel_rfl) (by kernel_rfl) (by kernel_rfl) (by kernel_rfl) (by kernel_rfl) (by kernel_rfl) rfl ?_
  conv => whnf
  try (refine draw_intro true (by kernel_rfl) ?_; conv => whnf)
  refine CallSt.use hk [] trivial (by decide) rfl ?_
  rintro _ _ ⟨rfl, rfl⟩ _
  conv => whnf
  try (refine draw_intro true (by kernel_rfl) ?_; conv => whnf)
  refine CallSt.use hp [] trivial (by decide) rfl ?_
  rintro _ _ ⟨rfl, rfl⟩ _
  conv => whnf
  repeat (first | (refine And.intro rfl ?_; conv => whnf) | (refine And.intro (by decide) ?_; conv => whnf) | (refine draw_intro true (by kernel_rfl) ?_; conv => whnf) | (refine And.intro ⟨by omega, by omega⟩ ?_; conv => whnf) | (refine And.intro (by omega) ?_; conv => whnf) | (refine And.intro (fun _ => ⟨by omega, by omega⟩) ?_; conv => whnf) | (refine And.intro (fun _ => ?_) (fun h => absurd h ?_); rotate_left; (focus (first | decide | (simp; done) | (simp [tcs]; done))); conv => whnf) | (refine And.intro (fun h => absurd h ?_) (fun _ => ?_); (focus (first | decide | (simp; done) | (simp [tcs]; done))); conv => whnf) | (intro _; conv => whnf))
  try (refine draw_intro true (by kernel_rfl) ?_; conv => whnf)
  refine CallSt.use hk [] trivial (by decide) rfl ?_
  rintro _ _ ⟨rfl, rfl⟩ _
  conv => whnf
  try (refine draw_intro true (by kernel_rfl) ?_; conv => whnf)
  refine CallSt.use hs [] trivial (by decide) rfl ?_
  rintro _ _ ⟨rfl, rfl⟩ _
  conv => whnf
  repeat (first | (refine And.intro rfl ?_; conv => whnf) | (refine And.intro (by decide) ?_; conv => whnf) | (refine draw_intro true (by kernel_rfl) ?_; conv => whnf) | (refine And.intro ⟨by omega, by omega⟩ ?_; conv => whnf) | (refine And.intro (by omega) ?_; conv => whnf) | (refine And.intro (fun _ => ⟨by omega, by omega⟩) ?_; conv => whnf) | (refine And.intro (fun _ => ?_) (fun h => absurd h ?_); rotate_left; (focus (first | decide | (simp; done) | (simp [tcs]; done))); conv => whnf) | (refine And.intro (fun h => absurd h ?_) (fun _ => ?_); (focus (first | decide | (simp; done) | (simp [tcs]; done))); conv => whnf) | (intro _; conv => whnf))
  try (refine draw_intro true (by kernel_rfl) ?_; conv => whnf)
  refine CallSt.use hr [] trivial (by decide) rfl ?_
  rintro _ _ ⟨rfl, rfl⟩ _
  conv => whnf
  repeat (first | (refine And.intro rfl ?_; conv => whnf) | (refine And.intro (by decide) ?_; conv => whnf) | (refine draw_intro true (by kernel_rfl) ?_; conv => whnf) | (refine And.intro ⟨by omega, by omega⟩ ?_; conv => whnf) | (refine And.intro (by omega) ?_; conv => whnf) | (refine And.intro (fun _ => ⟨by omega, by omega⟩) ?_; conv => whnf) | (refine And.intro (fun _ => ?_) (fun h => absurd h ?_); rotate_left; (focus (first | decide | (simp; done) | (simp [tcs]; done))); conv => whnf) | (refine And.intro (fun h => absurd h ?_) (fun _ => ?_); (focus (first | decide | (simp; done) | (simp [tcs]; done))); conv => whnf) | (intro _; conv => whnf))
  rw [decide_eq_true (show z = z from rfl)]
  repeat (first | (refine And.intro rfl ?_; conv => whnf) | (refine And.intro (by decide) ?_; conv => whnf) | (refine draw_intro true (by kernel_rfl) ?_; conv => whnf) | (refine And.intro ⟨by omega, by omega⟩ ?_; conv => whnf) | (refine And.intro (by omega) ?_; conv => whnf) | (refine And.intro (fun _ => ⟨by omega, by omega⟩) ?_; conv => whnf) | (refine And.intro (fun _ => ?_) (fun h => absurd h ?_); rotate_left; (focus (first | decide | (simp; done) | (simp [tcs]; done))); conv => whnf) | (refine And.intro (fun h => absurd h ?_) (fun _ => ?_); (focus (first | decide | (simp; done) | (simp [tcs]; done))); conv => whnf) | (intro _; conv => whnf))
  try (refine draw_intro true (by kernel_rfl) ?_; conv => whnf)
  refine CallSt.use hk [] trivial (by decide) rfl ?_
  rintro _ _ ⟨rfl, rfl⟩ _
  conv => whnf
  repeat (first | (refine And.intro rfl ?_; conv => whnf) | (refine And.intro (by decide) ?_; conv => whnf) | (refine draw_intro true (by kernel_rfl) ?_; conv => whnf) | (refine And.intro ⟨by omega, by omega⟩ ?_; conv => whnf) | (refine And.intro (by omega) ?_; conv => whnf) | (refine And.intro (fun _ => ⟨by omega, by omega⟩) ?_; conv => whnf) | (refine And.intro (fun _ => ?_) (fun h => absurd h ?_); rotate_left; (focus (first | decide | (simp; done) | (simp [tcs]; done))); conv => whnf) | (refine And.intro (fun h => absurd h ?_) (fun _ => ?_); (focus (first | decide | (simp; done) | (simp [tcs]; done))); conv => whnf) | (intro _; conv => whnf))
  try (refine draw_intro true (by kernel_rfl) ?_; conv => whnf)
  refine CallSt.use hb [] trivial (by decide) rfl ?_
  rintro _ _ ⟨rfl, rfl⟩ _
  conv => whnf
  repeat (first | (refine And.intro rfl ?_; conv => whnf) | (refine And.intro (by decide) ?_; conv => whnf) | (refine draw_intro true (by kernel_rfl) ?_; conv => whnf) | (refine And.intro ⟨by omega, by omega⟩ ?_; conv => whnf) | (refine And.intro (by omega) ?_; conv => whnf) | (refine And.intro (fun _ => ⟨by omega, by omega⟩) ?_; conv => whnf) | (refine And.intro (fun _ => ?_) (fun h => absurd h ?_); rotate_left; (focus (first | decide | (simp; done) | (simp [tcs]; done))); conv => whnf) | (refine And.intro (fun h => absurd h ?_) (fun _ => ?_); (focus (first | decide | (simp; done) | (simp [tcs]; done))); conv => whnf) | (intro _; conv => whnf))
  try (refine draw_intro true (by kernel_rfl) ?_; conv => whnf)
  refine CallSt.use hm [] trivial (by decide) rfl ?_
  rintro _ _ ⟨rfl, rfl⟩ _
  conv => whnf
  repeat (first | (refine And.intro rfl ?_; conv => whnf) | (refine And.intro (by decide) ?_; conv => whnf) | (refine draw_intro true (by kernel_rfl) ?_; conv => whnf) | (refine And.intro ⟨by omega, by omega⟩ ?_; conv => whnf) | (refine And.intro (by omega) ?_; conv => whnf) | (refine And.intro (fun _ => ⟨by omega, by omega⟩) ?_; conv => whnf) | (refine And.intro (fun _ => ?_) (fun h => absurd h ?_); rotate_left; (focus (first | decide | (simp; done) | (simp [tcs]; done))); conv => whnf) | (refine And.intro (fun h => absurd h ?_) (fun _ => ?_); (focus (first | decide | (simp; done) | (simp [tcs]; done))); conv => whnf) | (intro _; conv => whnf))
  all_goals (first | rfl | exact ⟨rfl, rfl⟩ | exact ⟨rfl, rfl, rfl⟩)
end Go.Tr
/- small of trusslaw19. -/
namespace Go.Tr
open Go.Proofs
theorem cWeigh (t : Term) : ∀ (d : Int), 0 ≤ d ∧ d ≤ 101 → CallSt Try.prog 24 [tv t, .c (.int .i64 (d))] [] (fun r H' => ∃ v : Int, r = .c (.int .i64 (v)) ∧ (1 ≤ v ∧ v ≤ 4000 + 3000 * (101 - d)) ∧ H' = []) := by
  induction t using Term.ind with
  | _ t ih =>
  intro d hd
  obtain ⟨k, l, n, ts⟩ := t
  replace ih : ∀ u, u ∈ ts → _ := ih
  have hln := len_tcs ts
  rw [tv_mk]
  by_cases hdd : 100 < d
  · refine call_pure (E := env 0) (fn := Try.f24) (c := bodyOf Try.f24) (env_ok 0) mixed (by kernel_rfl) (by kernel_rfl) (by kernel_rfl) (by kernel_rfl) (by kernel_rfl) (by kernel_rfl) rfl ?_
    conv => whnf
    repeat (first | (refine And.intro rfl ?_; conv => whnf) | (refine And.intro (by decide) ?_; conv => whnf) | (refine draw_intro true (by kernel_rfl) ?_; conv => whnf) | (refine And.intro ⟨by omega, by omega⟩ ?_; conv => whnf) | (refine And.intro (by omega) ?_; conv => whnf) | (refine And.intro (fun _ => ⟨by omega, by omega⟩) ?_; conv => whnf) | (refine And.intro (fun _ => ?_) (fun h => absurd h ?_); rotate_left; (focus (first | decide | (simp; done) | (simp [tcs]; done))); conv => whnf) | (refine And.intro (fun h => absurd h ?_) (fun _ => ?_); (focus (first | decide | (simp; done) | (simp [tcs]; done))); conv => whnf) | (intro _; conv => whnf))
    rw [decide_eq_true hdd]
    (refine ⟨fun _ => ?_, fun h => absurd h ?_⟩; rotate_left; (focus (first | decide | (simp; done) | (simp [tcs]; done))); conv => whnf)
    repeat (first | (refine And.intro rfl ?_; conv => whnf) | (refine And.intro (by decide) ?_; conv => whnf) | (refine draw_intro true (by kernel_rfl) ?_; conv => whnf) | (refine And.intro ⟨by omega, by omega⟩ ?_; conv => whnf) | (refine And.intro (by omega) ?_; conv => whnf) | (refine And.intro (fun _ => ⟨by omega, by omega⟩) ?_; conv => whnf) | (refine And.intro (fun _ => ?_) (fun h => absurd h ?_); rotate_left; (focus (first | decide | (simp; done) | (simp [tcs]; done))); conv => whnf) | (refine And.intro (fun h => absurd h ?_) (fun _ => ?_); (focus (first | decide | (simp; done) | (simp [tcs]; done))); conv => whnf) | (intro _; conv => whnf))
    exact ⟨4000, rfl, by omega, rfl⟩
  · refine call_pure (E := env 0) (fn := Try.f24) (c := bodyOf Try.f24) (env_ok 0) mixed (by kernel_rfl) (by kernel_rfl) (by kernel_rfl) (by kernel_rfl) (by kernel_rfl) (by kernel_rfl) rfl ?_
    conv => whnf
    repeat (first | (refine And.intro rfl ?_; conv => whnf) | (refine And.intro (by decide) ?_; conv => whnf) | (refine draw_intro true (by kernel_rfl) ?_; conv => whnf) | (refine And.intro ⟨by omega, by omega⟩ ?_; conv => whnf) | (refine And.intro (by omega) ?_; conv => whnf) | (refine And.intro (fun _ => ⟨by omega, by omega⟩) ?_; conv => whnf) | (refine And.intro (fun _ => ?_) (fun h => absurd h ?_); rotate_left; (focus (first | decide | (simp; done) | (simp [tcs]; done))); conv => whnf) | (refine And.intro (fun h => absurd h ?_) (fun _ => ?_); (focus (first | decide | (simp; done) | (simp [tcs]; done))); conv => whnf) | (intro _; conv => whnf))
    rw [decide_eq_false hdd]
    (refine ⟨fun h => absurd h ?_, fun _ => ?_⟩; (focus (first | decide | (simp; done) | (simp [tcs]; done))); conv => whnf)
    repeat (first | (refine And.intro rfl ?_; conv => whnf) | (refine And.intro (by decide) ?_; conv => whnf) | (refine draw_intro true (by kernel_rfl) ?_; conv => whnf) | (refine And.intro ⟨by omega, by omega⟩ ?_; conv => whnf) | (refine And.intro (by omega) ?_; conv => whnf) | (refine And.intro (fun _ => ⟨by omega, by omega⟩) ?_; conv => whnf) | (refine And.intro (fun _ => ?_) (fun h => absurd h ?_); rotate_left; (focus (first | decide | (simp; done) | (simp [tcs]; done))); conv => whnf) | (refine And.intro (fun h => absurd h ?_) (fun _ => ?_); (focus (first | decide | (simp; done) | (simp [tcs]; done))); conv => whnf) | (intro _; conv => whnf))
    refine loop_intro (fun m tm H => ∃ (j : Nat) (w : Int), ts.length = m + j ∧ (1 ≤ w ∧ w ≤ 4000 + 3000 * (101 - d)) ∧ tm = [(6, .c (.int .i64 (j))), (5, .c (.int .i64 (w))), (1, .c (.int .i64 (d))), (2, .ptr 0 0)] ∧ H = [.box [.c (.int .i64 (k)), .c (.int .i64 (l)), .c (.int .i64 (n)), .c (.sl 4 48 (tcs ts))]])
      ts.length _ _ ⟨0, 1, by omega, by omega, rfl, rfl⟩ (Wk.sel [0] (by decide) (by decide) (by decide) ⟨rfl, trivial⟩ ⟨rfl, rfl, rfl, rfl, trivial⟩ rfl) ?_
    rintro m tm H ⟨j, w, hj, hw, rfl, rfl⟩
    conv => whnf
    intro hlen
    replace hlen : (tcs ts).length * 48 ≤ 140737488355328 := hlen
    conv => whnf
    repeat (first | (refine And.intro rfl ?_; conv => whnf) | (refine And.intro (by decide) ?_; conv => whnf) | (refine draw_intro true (by kernel_rfl) ?_; conv => whnf) | (refine And.intro ⟨by omega, by omega⟩ ?_; conv => whnf) | (refine And.intro (by omega) ?_; conv => whnf) | (refine And.intro (fun _ => ⟨by omega, by omega⟩) ?_; conv => whnf) | (refine And.intro (fun _ => ?_) (fun h => absurd h ?_); rotate_left; (focus (first | decide | (simp; done) | (simp [tcs]; done))); conv => whnf) | (refine And.intro (fun h => absurd h ?_) (fun _ => ?_); (focus (first | decide | (simp; done) | (simp [tcs]; done))); conv => whnf) | (intro _; conv => whnf))
    refine ⟨fun hc => ?_, fun hc => ?_⟩
    · rw [Bool.and_eq_true] at hc
      have hc1 : (j : Int) < (tcs ts).length := of_decide_eq_true hc.1
      have hc2 : w ≤ 3000 := of_decide_eq_true hc.2
      obtain ⟨u, hu⟩ : ∃ u, ts[j]? = some u := ⟨ts[j]'(by omega), List.getElem?_eq_getElem (by omega)⟩
      have huc := tcs_at ts j u hu
      have hi := ih u (List.mem_of_getElem? hu) (d + 1) (by omega)
      obtain ⟨k', l', n', us⟩ := u
      rw [tv_mk] at hi
      conv => whnf
      refine ⟨_, ⟨by omega, by simpa using huc⟩, ?_⟩
      conv => whnf
      refine ⟨Nat.le_refl 4, ?_⟩
      conv => whnf
      repeat (first | (refine And.intro rfl ?_; conv => whnf) | (refine And.intro (by decide) ?_; conv => whnf) | (refine draw_intro true (by kernel_rfl) ?_; conv => whnf) | (refine And.intro ⟨by omega, by omega⟩ ?_; conv => whnf) | (refine And.intro (by omega) ?_; conv => whnf) | (refine And.intro (fun _ => ⟨by omega, by omega⟩) ?_; conv => whnf) | (refine And.intro (fun _ => ?_) (fun h => absurd h ?_); rotate_left; (focus (first | decide | (simp; done) | (simp [tcs]; done))); conv => whnf) | (refine And.intro (fun h => absurd h ?_) (fun _ => ?_); (focus (first | decide | (simp; done) | (simp [tcs]; done))); conv => whnf) | (intro _; conv => whnf))
      try (refine draw_intro true (by kernel_rfl) ?_; conv => whnf)
      refine CallSt.use hi [] trivial (by decide) rfl ?_
      rintro _ _ ⟨v, rfl, hv, rfl⟩ _
      conv => whnf
      refine ⟨⟨by omega, by omega⟩, ?_⟩
      conv => whnf
      repeat (first | (refine And.intro rfl ?_; conv => whnf) | (refine And.intro (by decide) ?_; conv => whnf) | (refine draw_intro true (by kernel_rfl) ?_; conv => whnf) | (refine And.intro ⟨by omega, by omega⟩ ?_; conv => whnf) | (refine And.intro (by omega) ?_; conv => whnf) | (refine And.intro (fun _ => ⟨by omega, by omega⟩) ?_; conv => whnf) | (refine And.intro (fun _ => ?_) (fun h => absurd h ?_); rotate_left; (focus (first | decide | (simp; done) | (simp [tcs]; done))); conv => whnf) | (refine And.intro (fun h => absurd h ?_) (fun _ => ?_); (focus (first | decide | (simp; done) | (simp [tcs]; done))); conv => whnf) | (intro _; conv => whnf))
      refine ⟨m - 1, _, _, by omega, ⟨j + 1, w + v, by omega, by omega, rfl, rfl⟩, Wk.sel [0] (by decide) (by decide) (by decide) ⟨rfl, trivial⟩ ⟨rfl, rfl, rfl, rfl, trivial⟩ rfl⟩
    · conv => whnf
      repeat (first | (refine And.intro rfl ?_; conv => whnf) | (refine And.intro (by decide) ?_; conv => whnf) | (refine draw_intro true (by kernel_rfl) ?_; conv => whnf) | (refine And.intro ⟨by omega, by omega⟩ ?_; conv => whnf) | (refine And.intro (by omega) ?_; conv => whnf) | (refine And.intro (fun _ => ⟨by omega, by omega⟩) ?_; conv => whnf) | (refine And.intro (fun _ => ?_) (fun h => absurd h ?_); rotate_left; (focus (first | decide | (simp; done) | (simp [tcs]; done))); conv => whnf) | (refine And.intro (fun h => absurd h ?_) (fun _ => ?_); (focus (first | decide | (simp; done) | (simp [tcs]; done))); conv => whnf) | (intro _; conv => whnf))
      exact ⟨w, rfl, hw, rfl⟩
theorem cSmall19 (c : Crt) : CallSt Try.prog 9 [crv c] [] (fun r H' => ∃ b : Bool, r = .c (.bool b) ∧ H' = []) := by
  have ho := cWeigh c.o 0 (by decide)
  have hc := cWeigh c.c 0 (by decide)
  have hds := len_dcs c.S
  have hxl := len_tcs c.X
  obtain ⟨S, X, ⟨k, l, n, ts⟩, ⟨k2, l2, n2, us⟩⟩ := c
  unfold crv at *
  dsimp only [Term.k, Term.l, Term.n, Term.ts] at *
  rw [tv_mk] at *
  refine call_pure (E := env 0) (fn := Try.f9) (c := bodyOf Try.f9) (env_ok 0) mixed (by kernel_rfl) (by kernel_rfl) (by kernel_rfl) (by kernel_rfl) (by kernel_rfl) (by kernel_rfl) rfl ?_
  conv => whnf
  repeat (first | (refine And.intro rfl ?_; conv => whnf) | (refine And.intro (by decide) ?_; conv => whnf) | (refine draw_intro true (by kernel_rfl) ?_; conv => whnf) | (refine And.intro ⟨by omega, by omega⟩ ?_; conv => whnf) | (refine And.intro (by omega) ?_; conv => whnf) | (refine And.intro (fun _ => ⟨by omega, by omega⟩) ?_; conv => whnf) | (refine And.intro (fun _ => ?_) (fun h => absurd h ?_); rotate_left; (focus (first | decide | (simp; done) | (simp [tcs]; done))); conv => whnf) | (refine And.intro (fun h => absurd h ?_) (fun _ => ?_); (focus (first | decide | (simp; done) | (simp [tcs]; done))); conv => whnf) | (intro _; conv => whnf))
  try (refine draw_intro true (by kernel_rfl) ?_; conv => whnf)
  refine CallSt.use ho [] trivial (by decide) rfl ?_
  rintro _ _ ⟨a, rfl, ha, rfl⟩ _
  conv => whnf
  repeat (first | (refine And.intro rfl ?_; conv => whnf) | (refine And.intro (by decide) ?_; conv => whnf) | (refine draw_intro true (by kernel_rfl) ?_; conv => whnf) | (refine And.intro ⟨by omega, by omega⟩ ?_; conv => whnf) | (refine And.intro (by omega) ?_; conv => whnf) | (refine And.intro (fun _ => ⟨by omega, by omega⟩) ?_; conv => whnf) | (refine And.intro (fun _ => ?_) (fun h => absurd h ?_); rotate_left; (focus (first | decide | (simp; done) | (simp [tcs]; done))); conv => whnf) | (refine And.intro (fun h => absurd h ?_) (fun _ => ?_); (focus (first | decide | (simp; done) | (simp [tcs]; done))); conv => whnf) | (intro _; conv => whnf))
  try (refine draw_intro true (by kernel_rfl) ?_; conv => whnf)
  refine CallSt.use hc [] trivial (by decide) rfl ?_
  rintro _ _ ⟨b, rfl, hb, rfl⟩ _
  conv => whnf
  refine ⟨⟨by omega, by omega⟩, ?_⟩
  conv => whnf
  repeat (first | (refine And.intro rfl ?_; conv => whnf) | (refine And.intro (by decide) ?_; conv => whnf) | (refine draw_intro true (by kernel_rfl) ?_; conv => whnf) | (refine And.intro ⟨by omega, by omega⟩ ?_; conv => whnf) | (refine And.intro (by omega) ?_; conv => whnf) | (refine And.intro (fun _ => ⟨by omega, by omega⟩) ?_; conv => whnf) | (refine And.intro (fun _ => ?_) (fun h => absurd h ?_); rotate_left; (focus (first | decide | (simp; done) | (simp [tcs]; done))); conv => whnf) | (refine And.intro (fun h => absurd h ?_) (fun _ => ?_); (focus (first | decide | (simp; done) | (simp [tcs]; done))); conv => whnf) | (intro _; conv => whnf))
  refine loop_intro (fun m tm H => ∃ (j : Nat) (w : Int), S.length = m + j ∧ (0 ≤ w ∧ w ≤ 614000) ∧ tm = [(4, .c (.int .i64 (j))), (3, .c (.int .i64 (w))), (1, .ptr 0 0)] ∧ H = [.box [.c (.sl 6 72 (dcs S)), .c (.sl 4 48 (tcs X)), .c (.int .i64 (k)), .c (.int .i64 (l)), .c (.int .i64 (n)), .c (.sl 4 48 (tcs ts)), .c (.int .i64 (k2)), .c (.int .i64 (l2)), .c (.int .i64 (n2)), .c (.sl 4 48 (tcs us))]])
    S.length _ _ ⟨0, a + b, by omega, by omega, rfl, rfl⟩ (Wk.sel [0] (by decide) (by decide) (by decide) ⟨rfl, trivial⟩ ⟨rfl, rfl, rfl, trivial⟩ rfl) ?_
  rintro m tm H ⟨j, w, hj, hw, rfl, rfl⟩
  conv => whnf
  intro hlen
  replace hlen : (dcs S).length * 72 ≤ 140737488355328 := hlen
  conv => whnf
  repeat (first | (refine And.intro rfl ?_; conv => whnf) | (refine And.intro (by decide) ?_; conv => whnf) | (refine draw_intro true (by kernel_rfl) ?_; conv => whnf) | (refine And.intro ⟨by omega, by omega⟩ ?_; conv => whnf) | (refine And.intro (by omega) ?_; conv => whnf) | (refine And.intro (fun _ => ⟨by omega, by omega⟩) ?_; conv => whnf) | (refine And.intro (fun _ => ?_) (fun h => absurd h ?_); rotate_left; (focus (first | decide | (simp; done) | (simp [tcs]; done))); conv => whnf) | (refine And.intro (fun h => absurd h ?_) (fun _ => ?_); (focus (first | decide | (simp; done) | (simp [tcs]; done))); conv => whnf) | (intro _; conv => whnf))
  refine ⟨fun hcc => ?_, fun hcc => ?_⟩
  · rw [Bool.and_eq_true] at hcc
    have hc1 : (j : Int) < (dcs S).length := of_decide_eq_true hcc.1
    have hc2 : w ≤ 3000 := of_decide_eq_true hcc.2
    obtain ⟨d, hd⟩ : ∃ d, S[j]? = some d := ⟨S[j]'(by omega), List.getElem?_eq_getElem (by omega)⟩
    have hdc := dcs_at hd
    have hi := cWeigh d.c 0 (by decide)
    obtain ⟨s', ⟨k', l', n', us'⟩, i'⟩ := d
    dsimp only at hi
    rw [tv_mk] at hi
    conv => whnf
    refine ⟨⟨by omega, by omega⟩, ?_⟩
    conv => whnf
    repeat (first | (refine And.intro rfl ?_; conv => whnf) | (refine And.intro (by decide) ?_; conv => whnf) | (refine draw_intro true (by kernel_rfl) ?_; conv => whnf) | (refine And.intro ⟨by omega, by omega⟩ ?_; conv => whnf) | (refine And.intro (by omega) ?_; conv => whnf) | (refine And.intro (fun _ => ⟨by omega, by omega⟩) ?_; conv => whnf) | (refine And.intro (fun _ => ?_) (fun h => absurd h ?_); rotate_left; (focus (first | decide | (simp; done) | (simp [tcs]; done))); conv => whnf) | (refine And.intro (fun h => absurd h ?_) (fun _ => ?_); (focus (first | decide | (simp; done) | (simp [tcs]; done))); conv => whnf) | (intro _; conv => whnf))
    refine ⟨_, ⟨by omega, hdc⟩, ?_⟩
    conv => whnf
    refine ⟨show 4 ≤ 5 by decide, ?_⟩
    conv => whnf
    try (refine draw_intro true (by kernel_rfl) ?_; conv => whnf)
    refine CallSt.use hi [] trivial (by decide) rfl ?_
    rintro _ _ ⟨v, rfl, hv, rfl⟩ _
    conv => whnf
    refine ⟨⟨by omega, by omega⟩, ?_⟩
    conv => whnf
    repeat (first | (refine And.intro rfl ?_; conv => whnf) | (refine And.intro (by decide) ?_; conv => whnf) | (refine draw_intro true (by kernel_rfl) ?_; conv => whnf) | (refine And.intro ⟨by omega, by omega⟩ ?_; conv => whnf) | (refine And.intro (by omega) ?_; conv => whnf) | (refine And.intro (fun _ => ⟨by omega, by omega⟩) ?_; conv => whnf) | (refine And.intro (fun _ => ?_) (fun h => absurd h ?_); rotate_left; (focus (first | decide | (simp; done) | (simp [tcs]; done))); conv => whnf) | (refine And.intro (fun h => absurd h ?_) (fun _ => ?_); (focus (first | decide | (simp; done) | (simp [tcs]; done))); conv => whnf) | (intro _; conv => whnf))
    refine ⟨m - 1, _, _, by omega, ⟨j + 1, w + 1 + v, by omega, by omega, rfl, rfl⟩, Wk.sel [0] (by decide) (by decide) (by decide) ⟨rfl, trivial⟩ ⟨rfl, rfl, rfl, trivial⟩ rfl⟩
  · conv => whnf
    repeat (first | (refine And.intro rfl ?_; conv => whnf) | (refine And.intro (by decide) ?_; conv => whnf) | (refine draw_intro true (by kernel_rfl) ?_; conv => whnf) | (refine And.intro ⟨by omega, by omega⟩ ?_; conv => whnf) | (refine And.intro (by omega) ?_; conv => whnf) | (refine And.intro (fun _ => ⟨by omega, by omega⟩) ?_; conv => whnf) | (refine And.intro (fun _ => ?_) (fun h => absurd h ?_); rotate_left; (focus (first | decide | (simp; done) | (simp [tcs]; done))); conv => whnf) | (refine And.intro (fun h => absurd h ?_) (fun _ => ?_); (focus (first | decide | (simp; done) | (simp [tcs]; done))); conv => whnf) | (intro _; conv => whnf))
    refine loop_intro (fun m tm H => ∃ (j : Nat) (w : Int), X.length = m + j ∧ (0 ≤ w ∧ w ≤ 614000) ∧ tm = [(5, .c (.int .i64 (j))), (3, .c (.int .i64 (w))), (1, .ptr 0 0)] ∧ H = [.box [.c (.sl 6 72 (dcs S)), .c (.sl 4 48 (tcs X)), .c (.int .i64 (k)), .c (.int .i64 (l)), .c (.int .i64 (n)), .c (.sl 4 48 (tcs ts)), .c (.int .i64 (k2)), .c (.int .i64 (l2)), .c (.int .i64 (n2)), .c (.sl 4 48 (tcs us))]])
      X.length _ _ ⟨0, w, by omega, by omega, rfl, rfl⟩ (Wk.sel [0] (by decide) (by decide) (by decide) ⟨rfl, trivial⟩ ⟨rfl, rfl, rfl, trivial⟩ rfl) ?_
    rintro m tm H ⟨j, w, hj, hw, rfl, rfl⟩
    conv => whnf
    intro hlen
    replace hlen : (tcs X).length * 48 ≤ 140737488355328 := hlen
    conv => whnf
    repeat (first | (refine And.intro rfl ?_; conv => whnf) | (refine And.intro (by decide) ?_; conv => whnf) | (refine draw_intro true (by kernel_rfl) ?_; conv => whnf) | (refine And.intro ⟨by omega, by omega⟩ ?_; conv => whnf) | (refine And.intro (by omega) ?_; conv => whnf) | (refine And.intro (fun _ => ⟨by omega, by omega⟩) ?_; conv => whnf) | (refine And.intro (fun _ => ?_) (fun h => absurd h ?_); rotate_left; (focus (first | decide | (simp; done) | (simp [tcs]; done))); conv => whnf) | (refine And.intro (fun h => absurd h ?_) (fun _ => ?_); (focus (first | decide | (simp; done) | (simp [tcs]; done))); conv => whnf) | (intro _; conv => whnf))
    refine ⟨fun hcc => ?_, fun hcc => ?_⟩
    · rw [Bool.and_eq_true] at hcc
      have hc1 : (j : Int) < (tcs X).length := of_decide_eq_true hcc.1
      have hc2 : w ≤ 3000 := of_decide_eq_true hcc.2
      obtain ⟨u, hu⟩ : ∃ u, X[j]? = some u := ⟨X[j]'(by omega), List.getElem?_eq_getElem (by omega)⟩
      have huc := tcs_at X j u hu
      have hi := cWeigh u 0 (by decide)
      obtain ⟨k', l', n', us'⟩ := u
      rw [tv_mk] at hi
      conv => whnf
      refine ⟨⟨by omega, by omega⟩, ?_⟩
      conv => whnf
      repeat (first | (refine And.intro rfl ?_; conv => whnf) | (refine And.intro (by decide) ?_; conv => whnf) | (refine draw_intro true (by kernel_rfl) ?_; conv => whnf) | (refine And.intro ⟨by omega, by omega⟩ ?_; conv => whnf) | (refine And.intro (by omega) ?_; conv => whnf) | (refine And.intro (fun _ => ⟨by omega, by omega⟩) ?_; conv => whnf) | (refine And.intro (fun _ => ?_) (fun h => absurd h ?_); rotate_left; (focus (first | decide | (simp; done) | (simp [tcs]; done))); conv => whnf) | (refine And.intro (fun h => absurd h ?_) (fun _ => ?_); (focus (first | decide | (simp; done) | (simp [tcs]; done))); conv => whnf) | (intro _; conv => whnf))
      refine ⟨_, ⟨by omega, by simpa using huc⟩, ?_⟩
      conv => whnf
      refine ⟨Nat.le_refl 4, ?_⟩
      conv => whnf
      repeat (first | (refine And.intro rfl ?_; conv => whnf) | (refine And.intro (by decide) ?_; conv => whnf) | (refine draw_intro true (by kernel_rfl) ?_; conv => whnf) | (refine And.intro ⟨by omega, by omega⟩ ?_; conv => whnf) | (refine And.intro (by omega) ?_; conv => whnf) | (refine And.intro (fun _ => ⟨by omega, by omega⟩) ?_; conv => whnf) | (refine And.intro (fun _ => ?_) (fun h => absurd h ?_); rotate_left; (focus (first | decide | (simp; done) | (simp [tcs]; done))); conv => whnf) | (refine And.intro (fun h => absurd h ?_) (fun _ => ?_); (focus (first | decide | (simp; done) | (simp [tcs]; done))); conv => whnf) | (intro _; conv => whnf))
      try (refine draw_intro true (by kernel_rfl) ?_; conv => whnf)
      refine CallSt.use hi [] trivial (by decide) rfl ?_
      rintro _ _ ⟨v, rfl, hv, rfl⟩ _
      conv => whnf
      refine ⟨⟨by omega, by omega⟩, ?_⟩
      conv => whnf
      repeat (first | (refine And.intro rfl ?_; conv => whnf) | (refine And.intro (by decide) ?_; conv => whnf) | (refine draw_intro true (by kernel_rfl) ?_; conv => whnf) | (refine And.intro ⟨by omega, by omega⟩ ?_; conv => whnf) | (refine And.intro (by omega) ?_; conv => whnf) | (refine And.intro (fun _ => ⟨by omega, by omega⟩) ?_; conv => whnf) | (refine And.intro (fun _ => ?_) (fun h => absurd h ?_); rotate_left; (focus (first | decide | (simp; done) | (simp [tcs]; done))); conv => whnf) | (refine And.intro (fun h => absurd h ?_) (fun _ => ?_); (focus (first | decide | (simp; done) | (simp [tcs]; done))); conv => whnf) | (intro _; conv => whnf))
      refine ⟨m - 1, _, _, by omega, ⟨j + 1, w + 1 + v, by omega, by omega, rfl, rfl⟩, Wk.sel [0] (by decide) (by decide) (by decide) ⟨rfl, trivial⟩ ⟨rfl, rfl, rfl, trivial⟩ rfl⟩
    · conv => whnf
      repeat (first | (refine And.intro rfl ?_; conv => whnf) | (refine And.intro (by decide) ?_; conv => whnf) | (refine draw_intro true (by kernel_rfl) ?_; conv => whnf) | (refine And.intro ⟨by omega, by omega⟩ ?_; conv => whnf) | (refine And.intro (by omega) ?_; conv => whnf) | (refine And.intro (fun _ => ⟨by omega, by omega⟩) ?_; conv => whnf) | (refine And.intro (fun _ => ?_) (fun h => absurd h ?_); rotate_left; (focus (first | decide | (simp; done) | (simp [tcs]; done))); conv => whnf) | (refine And.intro (fun h => absurd h ?_) (fun _ => ?_); (focus (first | decide | (simp; done) | (simp [tcs]; done))); conv => whnf) | (intro _; conv => whnf))
      exact ⟨_, rfl, rfl⟩
end Go.Tr
/- cert: which terms are among the nodes. -/
namespace Go.Tr
open Go.Proofs
mutual
/-- A term and the terms in it. -/
def subT : Term → List Term
  | .mk k l n ts => .mk k l n ts :: subL ts
def subL : List Term → List Term
  | [] => []
  | t :: r => subT t ++ subL r
end
mutual
theorem sub_closed {B : List Term} (hg : Good B) : ∀ (t : Term), t ∈ B → ∀ x ∈ subT t, x ∈ B
  | .mk k l n ts, ht, x, hx => by
    rw [subT] at hx
    rcases List.mem_cons.1 hx with rfl | hx
    · exact ht
    · exact subL_closed hg ts (fun u hu => hg.kid ht hu) x hx
theorem subL_closed {B : List Term} (hg : Good B) : ∀ (ts : List Term), (∀ t ∈ ts, t ∈ B) → ∀ x ∈ subL ts, x ∈ B
  | [], _, x, hx => by rw [subL] at hx; cases hx
  | t :: r, h, x, hx => by
    rw [subL] at hx
    rcases List.mem_append.1 hx with hx | hx
    · exact sub_closed hg t (h t (by simp)) x hx
    · exact subL_closed hg r (fun u hu => h u (by simp [hu])) x hx
end
theorem subT_self (t : Term) : t ∈ subT t := by cases t; rw [subT]; simp
mutual
theorem adT_mem : ∀ (u : Term) (B : List Term), ∀ t ∈ adT u B, t ∈ B ∨ t ∈ subT u
  | .mk k l n ts, B, t, ht => by
    have hs : t ∈ adL ts B → t ∈ B ∨ t ∈ subT (.mk k l n ts) := fun h => by
      rcases adL_mem ts B t h with h | h
      · exact .inl h
      · exact .inr (by rw [subT]; simp [h])
    rw [adT] at ht
    split at ht
    · exact hs ht
    · rcases List.mem_append.1 ht with h | h
      · exact hs h
      · simp at h
        subst h
        exact .inr (subT_self _)
theorem adL_mem : ∀ (ts : List Term) (B : List Term), ∀ t ∈ adL ts B, t ∈ B ∨ t ∈ subL ts
  | [], B, t, ht => by
    rw [adL] at ht
    exact .inl ht
  | a :: r, B, t, ht => by
    rw [adL] at ht
    rcases adL_mem r (adT a B) t ht with h | h
    · rcases adT_mem a B t h with h | h
      · exact .inl h
      · exact .inr (by rw [subL]; simp [h])
    · exact .inr (by rw [subL]; simp [h])
end
theorem adL_iff {ts : List Term} (hw : ∀ t ∈ ts, wf t) (x : Term) : x ∈ adL ts [] ↔ x ∈ subL ts := by
  obtain ⟨h1, _, h3, _⟩ := adL_spec ts [] Good.nil hw
  constructor
  · intro h
    rcases adL_mem ts [] x h with h | h
    · cases h
    · exact h
  · exact subL_closed h1 ts h3 x
theorem len_of_same {A B : List Term} (ha : A.Nodup) (hb : B.Nodup) (h : ∀ x, x ∈ A ↔ x ∈ B) : A.length = B.length :=
  ((List.perm_ext_iff_of_nodup ha hb).2 h).length_eq
theorem subL_iff : ∀ (ts : List Term) (x : Term), x ∈ subL ts ↔ ∃ t ∈ ts, x ∈ subT t
  | [], x => by simp [subL]
  | t :: r, x => by simp [subL, subL_iff r x]
end Go.Tr
/- The law CertTwice. -/
namespace Go.Tr
open Go.Proofs
theorem tcs_snoc19 : ∀ (l : List Term) (t : Term), tcs (l ++ [t]) = tcs l ++ [tc t]
  | [], t => rfl
  | a :: l, t => by
    rw [List.cons_append, tcs, tcs, tcs_snoc19 l t]
    rfl
def twiceC (c : Crt) : Crt := ⟨c.S, c.X ++ [c.c], c.o, c.c⟩
theorem szL_append : ∀ (a b : List Term), szL (a ++ b) = szL a + szL b
  | [], b => by simp [szL]
  | t :: a, b => by
    rw [List.cons_append, szL, szL, szL_append a b]
    omega
theorem twice_crl (c : Crt) : crl (twiceC c) = c.S.map (·.c) ++ (c.X ++ [c.c] ++ [c.o, c.c]) := rfl
theorem twice_saved {c : Crt} (h : builtB c = true) (hX : c.X.length < 30) : savedV (twiceC c) = .tup [.c (.int .i64 (szL (crl c) + szT c.c)), .c (.int .i64 ((nodesOf c).length)), .c (.int .i64 (0))] ∧ ((nodesOf c).length : Int) ≤ szL (crl c) ∧ prop c.c = true := by
  have hok := built_ok h
  have hm : c.c ∈ crl c := by simp [crl]
  have h0 := h
  unfold builtB at h
  simp only [Bool.and_eq_true, List.all_eq_true] at h
  obtain ⟨⟨_, hS⟩, ht⟩ := h
  have hmem : ∀ x, x ∈ crl (twiceC c) ↔ x ∈ crl c := fun x => by
    rw [twice_crl]
    simp only [crl, List.mem_append, List.mem_cons, List.not_mem_nil, or_false]
    constructor
    · rintro (h | ((h | h) | h | h))
      · exact .inl h
      · exact .inr (.inl h)
      · exact .inr (.inr (.inr h))
      · exact .inr (.inr (.inl h))
      · exact .inr (.inr (.inr h))
    · rintro (h | h | h | h)
      · exact .inl h
      · exact .inr (.inl (.inl h))
      · exact .inr (.inr (.inl h))
      · exact .inr (.inr (.inr h))
  have hb : builtB (twiceC c) = true := by
    unfold builtB
    simp only [Bool.and_eq_true, List.all_eq_true]
    exact ⟨⟨decide_eq_true (by simp [twiceC]; omega), hS⟩, fun t h2 => ht t ((hmem t).1 h2)⟩
  have hok2 := built_ok hb
  have e1 : ∀ c : Crt, nodesOf c = adL (crl c) [] := fun c => by unfold nodesOf bk; rw [List.take_length]
  have hlen : (nodesOf (twiceC c)).length = (nodesOf c).length := by
    rw [e1, e1]
    have w1 : ∀ t ∈ crl c, wf t := fun t h => (hok.sane.t t h).1
    have w2 : ∀ t ∈ crl (twiceC c), wf t := fun t h => (hok2.sane.t t h).1
    refine len_of_same (adL_spec _ [] Good.nil w2).1.nd (adL_spec _ [] Good.nil w1).1.nd fun x => ?_
    rw [adL_iff w2, adL_iff w1, subL_iff, subL_iff]
    constructor
    · rintro ⟨t, h1, h2⟩
      exact ⟨t, (hmem t).1 h1, h2⟩
    · rintro ⟨t, h1, h2⟩
      exact ⟨t, (hmem t).2 h1, h2⟩
  have hsz : szL (crl (twiceC c)) = szL (crl c) + szT c.c := by
    rw [twice_crl]
    simp only [crl, szL_append, szL]
    omega
  refine ⟨?_, ?_, ?_⟩
  · unfold savedV
    rw [hb, hlen, hsz]
  · have := (adL_spec (crl c) [] Good.nil fun t h => (hok.sane.t t h).1).2.2.2
    rw [e1]
    simpa using this
  · have := ht c.c hm
    unfold closedT at this
    simp only [Bool.and_eq_true] at this
    exact this.1
theorem cTwice (c : Crt) : CallSt Try.prog 3 [crv c] [] (fun r H' => r = .c (.bool true) ∧ H' = []) := by
  have hsm := cSmall19 c
  have haw := cAwake19
  have hsv := cSaved c
  have hxl := len_tcs c.X
  cases hb : builtB c with
  | false =>
    have e : savedV c = .tup [.c (.int .i64 (0)), .c (.int .i64 (0)), .c (.int .i64 (2))] := by unfold savedV; rw [hb]
    rw [e] at hsv
    obtain ⟨S, X, ⟨k, l, n, ts⟩, ⟨k2, l2, n2, us⟩⟩ := c
    unfold crv at *
    dsimp only [Term.k, Term.l, Term.n, Term.ts] at *
    refine call_pure (E := env 0) (fn := Try.f3) (c := bodyOf Try.f3) (env_ok 0) mixed (by kernel_rfl) (by kernel_rfl) (by kernel_rfl) (by kernel_rfl) (by kernel_rfl) (by kernel_rfl) rfl ?_
    conv => whnf
    try (refine draw_intro true (by kernel_rfl) ?_; conv => whnf)
    refine CallSt.use hsm [] trivial (by decide) rfl ?_
    rintro _ _ ⟨b, rfl, rfl⟩ _
    conv => whnf
    cases b with
    | false =>
      repeat (first | (refine And.intro rfl ?_; conv => whnf) | (refine And.intro (by decide) ?_; conv => whnf) | (refine draw_intro true (by kernel_rfl) ?_; conv => whnf) | (refine And.intro ⟨by omega, by omega⟩ ?_; conv => whnf) | (refine And.intro (by omega) ?_; conv => whnf) | (refine And.intro (fun _ => ⟨by omega, by omega⟩) ?_; conv => whnf) | (refine And.intro (fun _ => ?_) (fun h => absurd h ?_); rotate_left; (focus (first | decide | (simp; done) | (simp [tcs]; done))); conv => whnf) | (refine And.intro (fun h => absurd h ?_) (fun _ => ?_); (focus (first | decide | (simp; done) | (simp [tcs]; done))); conv => whnf) | (intro _; conv => whnf))
      try (refine draw_intro true (by kernel_rfl) ?_; conv => whnf)
      refine CallSt.use haw [] trivial (by decide) rfl ?_
      rintro _ _ ⟨rfl, rfl⟩ _
      conv => whnf
      repeat (first | (refine And.intro rfl ?_; conv => whnf) | (refine And.intro (by decide) ?_; conv => whnf) | (refine draw_intro true (by kernel_rfl) ?_; conv => whnf) | (refine And.intro ⟨by omega, by omega⟩ ?_; conv => whnf) | (refine And.intro (by omega) ?_; conv => whnf) | (refine And.intro (fun _ => ⟨by omega, by omega⟩) ?_; conv => whnf) | (refine And.intro (fun _ => ?_) (fun h => absurd h ?_); rotate_left; (focus (first | decide | (simp; done) | (simp [tcs]; done))); conv => whnf) | (refine And.intro (fun h => absurd h ?_) (fun _ => ?_); (focus (first | decide | (simp; done) | (simp [tcs]; done))); conv => whnf) | (intro _; conv => whnf))
      all_goals (first | rfl | exact ⟨rfl, rfl⟩ | exact ⟨rfl, rfl, rfl⟩)
    | true =>
      repeat (first | (refine And.intro rfl ?_; conv => whnf) | (refine And.intro (by decide) ?_; conv => whnf) | (refine draw_intro true (by kernel_rfl) ?_; conv => whnf) | (refine And.intro ⟨by omega, by omega⟩ ?_; conv => whnf) | (refine And.intro (by omega) ?_; conv => whnf) | (refine And.intro (fun _ => ⟨by omega, by omega⟩) ?_; conv => whnf) | (refine And.intro (fun _ => ?_) (fun h => absurd h ?_); rotate_left; (focus (first | decide | (simp; done) | (simp [tcs]; done))); conv => whnf) | (refine And.intro (fun h => absurd h ?_) (fun _ => ?_); (focus (first | decide | (simp; done) | (simp [tcs]; done))); conv => whnf) | (intro _; conv => whnf))
      try (refine draw_intro true (by kernel_rfl) ?_; conv => whnf)
      refine CallSt.use hsv [] trivial (by decide) rfl ?_
      rintro _ _ ⟨rfl, rfl⟩ _
      conv => whnf
      repeat (first | (refine And.intro rfl ?_; conv => whnf) | (refine And.intro (by decide) ?_; conv => whnf) | (refine draw_intro true (by kernel_rfl) ?_; conv => whnf) | (refine And.intro ⟨by omega, by omega⟩ ?_; conv => whnf) | (refine And.intro (by omega) ?_; conv => whnf) | (refine And.intro (fun _ => ⟨by omega, by omega⟩) ?_; conv => whnf) | (refine And.intro (fun _ => ?_) (fun h => absurd h ?_); rotate_left; (focus (first | decide | (simp; done) | (simp [tcs]; done))); conv => whnf) | (refine And.intro (fun h => absurd h ?_) (fun _ => ?_); (focus (first | decide | (simp; done) | (simp [tcs]; done))); conv => whnf) | (intro _; conv => whnf))
      try (refine draw_intro true (by kernel_rfl) ?_; conv => whnf)
      refine CallSt.use haw [] trivial (by decide) rfl ?_
      rintro _ _ ⟨rfl, rfl⟩ _
      conv => whnf
      repeat (first | (refine And.intro rfl ?_; conv => whnf) | (refine And.intro (by decide) ?_; conv => whnf) | (refine draw_intro true (by kernel_rfl) ?_; conv => whnf) | (refine And.intro ⟨by omega, by omega⟩ ?_; conv => whnf) | (refine And.intro (by omega) ?_; conv => whnf) | (refine And.intro (fun _ => ⟨by omega, by omega⟩) ?_; conv => whnf) | (refine And.intro (fun _ => ?_) (fun h => absurd h ?_); rotate_left; (focus (first | decide | (simp; done) | (simp [tcs]; done))); conv => whnf) | (refine And.intro (fun h => absurd h ?_) (fun _ => ?_); (focus (first | decide | (simp; done) | (simp [tcs]; done))); conv => whnf) | (intro _; conv => whnf))
      all_goals (first | rfl | exact ⟨rfl, rfl⟩ | exact ⟨rfl, rfl, rfl⟩)
  | true =>
    by_cases hX : c.X.length < 30
    · obtain ⟨ht, hle, hp⟩ := twice_saved hb hX
      have hsd := cSaved (twiceC c)
      rw [ht] at hsd
      have e : savedV c = .tup [.c (.int .i64 (szL (crl c))), .c (.int .i64 ((nodesOf c).length)), .c (.int .i64 (0))] := by unfold savedV; rw [hb]
      rw [e] at hsv
      have hsz := prop_sz hp
      have hnd := (ndT_sz c.c 600 (by decide)).1 hsz
      have hdp : dpT c.c ≤ 1000 := by have := propT_dp c.c 1 0 hp; omega
      have hzz := c18 c.c hdp
      rw [hnd] at hzz
      have hab := szL_all (crl c) fun u hu => ((built_ok hb).sane.t u hu).2
      have hcl := crl_len c
      have hS := (built_ok hb).sane.S
      have hnn := szL_pos (crl c)
      have htp := szT_pos c.c
      have hcv : crv (twiceC c) = .agg [.c (.sl 6 72 (dcs c.S)), .c (.sl 4 48 (tcs c.X ++ [tc c.c])), .c (.int .i64 (c.o.k)), .c (.int .i64 (c.o.l)), .c (.int .i64 (c.o.n)), .c (.sl 4 48 (tcs c.o.ts)), .c (.int .i64 (c.c.k)), .c (.int .i64 (c.c.l)), .c (.int .i64 (c.c.n)), .c (.sl 4 48 (tcs c.c.ts))] := by
        unfold crv twiceC
        rw [tcs_snoc19]
      rw [hcv] at hsd
      clear ht hcv e hb hnd
      generalize szL (crl c) = a at *
      generalize nodesOf c = N at *
      generalize szT c.c = z at *
      have hb1 : (tcs c.X).length * 48 ≤ 140737488355328 := by omega
      have hb2 : ((tcs c.X).length + 1) * 48 ≤ 140737488355328 := by omega
      have hb3 : (tcs c.X).length + 1 ≤ 9223372036854775807 := by omega
      have e3 : (decide ((0 : Int) = 0) && decide (a + z = a + z) && decide ((N.length : Int) = N.length) && decide ((N.length : Int) ≤ a)) = true := by simp [hle]
      have e2 : decide ((30 : Int) ≤ (tcs c.X).length) = false := decide_eq_false (by omega)
      obtain ⟨S, X, ⟨k, l, n, ts⟩, ⟨k2, l2, n2, us⟩⟩ := c
      unfold crv at *
      rw [tv_mk] at hzz
      dsimp only [Term.k, Term.l, Term.n, Term.ts, tc] at *
      refine call_pure (E := env 0) (fn := Try.f3) (c := bodyOf Try.f3) (env_ok 0) mixed (by kernel_rfl) (by kernel_rfl) (by kernel_rfl) (by kernel_rfl) (by kernel_rfl) (by kernel_rfl) rfl ?_
      conv => whnf
      try (refine draw_intro true (by kernel_rfl) ?_; conv => whnf)
      refine CallSt.use hsm [] trivial (by decide) rfl ?_
      rintro _ _ ⟨b, rfl, rfl⟩ _
      conv => whnf
      cases b with
      | false =>
        repeat (first | (refine And.intro rfl ?_; conv => whnf) | (refine And.intro (by decide) ?_; conv => whnf) | (refine draw_intro true (by kernel_rfl) ?_; conv => whnf) | (refine And.intro ⟨by omega, by omega⟩ ?_; conv => whnf) | (refine And.intro (by omega) ?_; conv => whnf) | (refine And.intro (fun _ => ⟨by omega, by omega⟩) ?_; conv => whnf) | (refine And.intro (fun _ => ?_) (fun h => absurd h ?_); rotate_left; (focus (first | decide | (simp; done) | (simp [tcs]; done))); conv => whnf) | (refine And.intro (fun h => absurd h ?_) (fun _ => ?_); (focus (first | decide | (simp; done) | (simp [tcs]; done))); conv => whnf) | (intro _; conv => whnf))
        try (refine draw_intro true (by kernel_rfl) ?_; conv => whnf)
        refine CallSt.use haw [] trivial (by decide) rfl ?_
        rintro _ _ ⟨rfl, rfl⟩ _
        conv => whnf
        repeat (first | (refine And.intro rfl ?_; conv => whnf) | (refine And.intro (by decide) ?_; conv => whnf) | (refine draw_intro true (by kernel_rfl) ?_; conv => whnf) | (refine And.intro ⟨by omega, by omega⟩ ?_; conv => whnf) | (refine And.intro (by omega) ?_; conv => whnf) | (refine And.intro (fun _ => ⟨by omega, by omega⟩) ?_; conv => whnf) | (refine And.intro (fun _ => ?_) (fun h => absurd h ?_); rotate_left; (focus (first | decide | (simp; done) | (simp [tcs]; done))); conv => whnf) | (refine And.intro (fun h => absurd h ?_) (fun _ => ?_); (focus (first | decide | (simp; done) | (simp [tcs]; done))); conv => whnf) | (intro _; conv => whnf))
        all_goals (first | rfl | exact ⟨rfl, rfl⟩ | exact ⟨rfl, rfl, rfl⟩)
      | true =>
        repeat (first | (refine And.intro rfl ?_; conv => whnf) | (refine And.intro (by decide) ?_; conv => whnf) | (refine draw_intro true (by kernel_rfl) ?_; conv => whnf) | (refine And.intro ⟨by omega, by omega⟩ ?_; conv => whnf) | (refine And.intro (by omega) ?_; conv => whnf) | (refine And.intro (fun _ => ⟨by omega, by omega⟩) ?_; conv => whnf) | (refine And.intro (fun _ => ?_) (fun h => absurd h ?_); rotate_left; (focus (first | decide | (simp; done) | (simp [tcs]; done))); conv => whnf) | (refine And.intro (fun h => absurd h ?_) (fun _ => ?_); (focus (first | decide | (simp; done) | (simp [tcs]; done))); conv => whnf) | (intro _; conv => whnf))
        try (refine draw_intro true (by kernel_rfl) ?_; conv => whnf)
        refine CallSt.use hsv [] trivial (by decide) rfl ?_
        rintro _ _ ⟨rfl, rfl⟩ _
        conv => whnf
        repeat (first | (refine And.intro rfl ?_; conv => whnf) | (refine And.intro (by decide) ?_; conv => whnf) | (refine draw_intro true (by kernel_rfl) ?_; conv => whnf) | (refine And.intro ⟨by omega, by omega⟩ ?_; conv => whnf) | (refine And.intro (by omega) ?_; conv => whnf) | (refine And.intro (fun _ => ⟨by omega, by omega⟩) ?_; conv => whnf) | (refine And.intro (fun _ => ?_) (fun h => absurd h ?_); rotate_left; (focus (first | decide | (simp; done) | (simp [tcs]; done))); conv => whnf) | (refine And.intro (fun h => absurd h ?_) (fun _ => ?_); (focus (first | decide | (simp; done) | (simp [tcs]; done))); conv => whnf) | (intro _; conv => whnf))
        rw [e2]
        repeat (first | (refine And.intro rfl ?_; conv => whnf) | (refine And.intro (by decide) ?_; conv => whnf) | (refine draw_intro true (by kernel_rfl) ?_; conv => whnf) | (refine And.intro ⟨by omega, by omega⟩ ?_; conv => whnf) | (refine And.intro (by omega) ?_; conv => whnf) | (refine And.intro (fun _ => ⟨by omega, by omega⟩) ?_; conv => whnf) | (refine And.intro (fun _ => ?_) (fun h => absurd h ?_); rotate_left; (focus (first | decide | (simp; done) | (simp [tcs]; done))); conv => whnf) | (refine And.intro (fun h => absurd h ?_) (fun _ => ?_); (focus (first | decide | (simp; done) | (simp [tcs]; done))); conv => whnf) | (intro _; conv => whnf))
        refine ⟨hb1, by omega, ?_⟩
        conv => whnf
        repeat (first | (refine And.intro rfl ?_; conv => whnf) | (refine And.intro (by decide) ?_; conv => whnf) | (refine draw_intro true (by kernel_rfl) ?_; conv => whnf) | (refine And.intro ⟨by omega, by omega⟩ ?_; conv => whnf) | (refine And.intro (by omega) ?_; conv => whnf) | (refine And.intro (fun _ => ⟨by omega, by omega⟩) ?_; conv => whnf) | (refine And.intro (fun _ => ?_) (fun h => absurd h ?_); rotate_left; (focus (first | decide | (simp; done) | (simp [tcs]; done))); conv => whnf) | (refine And.intro (fun h => absurd h ?_) (fun _ => ?_); (focus (first | decide | (simp; done) | (simp [tcs]; done))); conv => whnf) | (intro _; conv => whnf))
        refine ⟨hb2, hb3, ?_⟩
        conv => whnf
        repeat (first | (refine And.intro rfl ?_; conv => whnf) | (refine And.intro (by decide) ?_; conv => whnf) | (refine draw_intro true (by kernel_rfl) ?_; conv => whnf) | (refine And.intro ⟨by omega, by omega⟩ ?_; conv => whnf) | (refine And.intro (by omega) ?_; conv => whnf) | (refine And.intro (fun _ => ⟨by omega, by omega⟩) ?_; conv => whnf) | (refine And.intro (fun _ => ?_) (fun h => absurd h ?_); rotate_left; (focus (first | decide | (simp; done) | (simp [tcs]; done))); conv => whnf) | (refine And.intro (fun h => absurd h ?_) (fun _ => ?_); (focus (first | decide | (simp; done) | (simp [tcs]; done))); conv => whnf) | (intro _; conv => whnf))
        try (refine draw_intro true (by kernel_rfl) ?_; conv => whnf)
        refine CallSt.use hzz [] trivial (by decide) rfl ?_
        rintro _ _ ⟨rfl, rfl⟩ _
        conv => whnf
        repeat (first | (refine And.intro rfl ?_; conv => whnf) | (refine And.intro (by decide) ?_; conv => whnf) | (refine draw_intro true (by kernel_rfl) ?_; conv => whnf) | (refine And.intro ⟨by omega, by omega⟩ ?_; conv => whnf) | (refine And.intro (by omega) ?_; conv => whnf) | (refine And.intro (fun _ => ⟨by omega, by omega⟩) ?_; conv => whnf) | (refine And.intro (fun _ => ?_) (fun h => absurd h ?_); rotate_left; (focus (first | decide | (simp; done) | (simp [tcs]; done))); conv => whnf) | (refine And.intro (fun h => absurd h ?_) (fun _ => ?_); (focus (first | decide | (simp; done) | (simp [tcs]; done))); conv => whnf) | (intro _; conv => whnf))
        try (refine draw_intro true (by kernel_rfl) ?_; conv => whnf)
        refine CallSt.use hsd [] trivial (by decide) rfl ?_
        rintro _ _ ⟨rfl, rfl⟩ _
        conv => whnf
        repeat (first | (refine And.intro rfl ?_; conv => whnf) | (refine And.intro (by decide) ?_; conv => whnf) | (refine draw_intro true (by kernel_rfl) ?_; conv => whnf) | (refine And.intro ⟨by omega, by omega⟩ ?_; conv => whnf) | (refine And.intro (by omega) ?_; conv => whnf) | (refine And.intro (fun _ => ⟨by omega, by omega⟩) ?_; conv => whnf) | (refine And.intro (fun _ => ?_) (fun h => absurd h ?_); rotate_left; (focus (first | decide | (simp; done) | (simp [tcs]; done))); conv => whnf) | (refine And.intro (fun h => absurd h ?_) (fun _ => ?_); (focus (first | decide | (simp; done) | (simp [tcs]; done))); conv => whnf) | (intro _; conv => whnf))
        rw [e3]
        repeat (first | (refine And.intro rfl ?_; conv => whnf) | (refine And.intro (by decide) ?_; conv => whnf) | (refine draw_intro true (by kernel_rfl) ?_; conv => whnf) | (refine And.intro ⟨by omega, by omega⟩ ?_; conv => whnf) | (refine And.intro (by omega) ?_; conv => whnf) | (refine And.intro (fun _ => ⟨by omega, by omega⟩) ?_; conv => whnf) | (refine And.intro (fun _ => ?_) (fun h => absurd h ?_); rotate_left; (focus (first | decide | (simp; done) | (simp [tcs]; done))); conv => whnf) | (refine And.intro (fun h => absurd h ?_) (fun _ => ?_); (focus (first | decide | (simp; done) | (simp [tcs]; done))); conv => whnf) | (intro _; conv => whnf))
        try (refine draw_intro true (by kernel_rfl) ?_; conv => whnf)
        refine CallSt.use haw [] trivial (by decide) rfl ?_
        rintro _ _ ⟨rfl, rfl⟩ _
        conv => whnf
        repeat (first | (refine And.intro rfl ?_; conv => whnf) | (refine And.intro (by decide) ?_; conv => whnf) | (refine draw_intro true (by kernel_rfl) ?_; conv => whnf) | (refine And.intro ⟨by omega, by omega⟩ ?_; conv => whnf) | (refine And.intro (by omega) ?_; conv => whnf) | (refine And.intro (fun _ => ⟨by omega, by omega⟩) ?_; conv => whnf) | (refine And.intro (fun _ => ?_) (fun h => absurd h ?_); rotate_left; (focus (first | decide | (simp; done) | (simp [tcs]; done))); conv => whnf) | (refine And.intro (fun h => absurd h ?_) (fun _ => ?_); (focus (first | decide | (simp; done) | (simp [tcs]; done))); conv => whnf) | (intro _; conv => whnf))
        all_goals (first | rfl | exact ⟨rfl, rfl⟩ | exact ⟨rfl, rfl, rfl⟩)
    · have e2 : decide ((30 : Int) ≤ (tcs c.X).length) = true := decide_eq_true (by omega)
      have e : savedV c = .tup [.c (.int .i64 (szL (crl c))), .c (.int .i64 ((nodesOf c).length)), .c (.int .i64 (0))] := by unfold savedV; rw [hb]
      rw [e] at hsv
      generalize szL (crl c) = a at *
      generalize nodesOf c = N at *
      obtain ⟨S, X, ⟨k, l, n, ts⟩, ⟨k2, l2, n2, us⟩⟩ := c
      unfold crv at *
      dsimp only [Term.k, Term.l, Term.n, Term.ts] at *
      refine call_pure (E := env 0) (fn := Try.f3) (c := bodyOf Try.f3) (env_ok 0) mixed (by kernel_rfl) (by kernel_rfl) (by kernel_rfl) (by kernel_rfl) (by kernel_rfl) (by kernel_rfl) rfl ?_
      conv => whnf
      try (refine draw_intro true (by kernel_rfl) ?_; conv => whnf)
      refine CallSt.use hsm [] trivial (by decide) rfl ?_
      rintro _ _ ⟨b, rfl, rfl⟩ _
      conv => whnf
      cases b with
      | false =>
        repeat (first | (refine And.intro rfl ?_; conv => whnf) | (refine And.intro (by decide) ?_; conv => whnf) | (refine draw_intro true (by kernel_rfl) ?_; conv => whnf) | (refine And.intro ⟨by omega, by omega⟩ ?_; conv => whnf) | (refine And.intro (by omega) ?_; conv => whnf) | (refine And.intro (fun _ => ⟨by omega, by omega⟩) ?_; conv => whnf) | (refine And.intro (fun _ => ?_) (fun h => absurd h ?_); rotate_left; (focus (first | decide | (simp; done) | (simp [tcs]; done))); conv => whnf) | (refine And.intro (fun h => absurd h ?_) (fun _ => ?_); (focus (first | decide | (simp; done) | (simp [tcs]; done))); conv => whnf) | (intro _; conv => whnf))
        try (refine draw_intro true (by kernel_rfl) ?_; conv => whnf)
        refine CallSt.use haw [] trivial (by decide) rfl ?_
        rintro _ _ ⟨rfl, rfl⟩ _
        conv => whnf
        repeat (first | (refine And.intro rfl ?_; conv => whnf) | (refine And.intro (by decide) ?_; conv => whnf) | (refine draw_intro true (by kernel_rfl) ?_; conv => whnf) | (refine And.intro ⟨by omega, by omega⟩ ?_; conv => whnf) | (refine And.intro (by omega) ?_; conv => whnf) | (refine And.intro (fun _ => ⟨by omega, by omega⟩) ?_; conv => whnf) | (refine And.intro (fun _ => ?_) (fun h => absurd h ?_); rotate_left; (focus (first | decide | (simp; done) | (simp [tcs]; done))); conv => whnf) | (refine And.intro (fun h => absurd h ?_) (fun _ => ?_); (focus (first | decide | (simp; done) | (simp [tcs]; done))); conv => whnf) | (intro _; conv => whnf))
        all_goals (first | rfl | exact ⟨rfl, rfl⟩ | exact ⟨rfl, rfl, rfl⟩)
      | true =>
        repeat (first | (refine And.intro rfl ?_; conv => whnf) | (refine And.intro (by decide) ?_; conv => whnf) | (refine draw_intro true (by kernel_rfl) ?_; conv => whnf) | (refine And.intro ⟨by omega, by omega⟩ ?_; conv => whnf) | (refine And.intro (by omega) ?_; conv => whnf) | (refine And.intro (fun _ => ⟨by omega, by omega⟩) ?_; conv => whnf) | (refine And.intro (fun _ => ?_) (fun h => absurd h ?_); rotate_left; (focus (first | decide | (simp; done) | (simp [tcs]; done))); conv => whnf) | (refine And.intro (fun h => absurd h ?_) (fun _ => ?_); (focus (first | decide | (simp; done) | (simp [tcs]; done))); conv => whnf) | (intro _; conv => whnf))
        try (refine draw_intro true (by kernel_rfl) ?_; conv => whnf)
        refine CallSt.use hsv [] trivial (by decide) rfl ?_
        rintro _ _ ⟨rfl, rfl⟩ _
        conv => whnf
        repeat (first | (refine And.intro rfl ?_; conv => whnf) | (refine And.intro (by decide) ?_; conv => whnf) | (refine draw_intro true (by kernel_rfl) ?_; conv => whnf) | (refine And.intro ⟨by omega, by omega⟩ ?_; conv => whnf) | (refine And.intro (by omega) ?_; conv => whnf) | (refine And.intro (fun _ => ⟨by omega, by omega⟩) ?_; conv => whnf) | (refine And.intro (fun _ => ?_) (fun h => absurd h ?_); rotate_left; (focus (first | decide | (simp; done) | (simp [tcs]; done))); conv => whnf) | (refine And.intro (fun h => absurd h ?_) (fun _ => ?_); (focus (first | decide | (simp; done) | (simp [tcs]; done))); conv => whnf) | (intro _; conv => whnf))
        rw [e2]
        repeat (first | (refine And.intro rfl ?_; conv => whnf) | (refine And.intro (by decide) ?_; conv => whnf) | (refine draw_intro true (by kernel_rfl) ?_; conv => whnf) | (refine And.intro ⟨by omega, by omega⟩ ?_; conv => whnf) | (refine And.intro (by omega) ?_; conv => whnf) | (refine And.intro (fun _ => ⟨by omega, by omega⟩) ?_; conv => whnf) | (refine And.intro (fun _ => ?_) (fun h => absurd h ?_); rotate_left; (focus (first | decide | (simp; done) | (simp [tcs]; done))); conv => whnf) | (refine And.intro (fun h => absurd h ?_) (fun _ => ?_); (focus (first | decide | (simp; done) | (simp [tcs]; done))); conv => whnf) | (intro _; conv => whnf))
        try (refine draw_intro true (by kernel_rfl) ?_; conv => whnf)
        refine CallSt.use haw [] trivial (by decide) rfl ?_
        rintro _ _ ⟨rfl, rfl⟩ _
        conv => whnf
        repeat (first | (refine And.intro rfl ?_; conv => whnf) | (refine And.intro (by decide) ?_; conv => whnf) | (refine draw_intro true (by kernel_rfl) ?_; conv => whnf) | (refine And.intro ⟨by omega, by omega⟩ ?_; conv => whnf) | (refine And.intro (by omega) ?_; conv => whnf) | (refine And.intro (fun _ => ⟨by omega, by omega⟩) ?_; conv => whnf) | (refine And.intro (fun _ => ?_) (fun h => absurd h ?_); rotate_left; (focus (first | decide | (simp; done) | (simp [tcs]; done))); conv => whnf) | (refine And.intro (fun h => absurd h ?_) (fun _ => ?_); (focus (first | decide | (simp; done) | (simp [tcs]; done))); conv => whnf) | (intro _; conv => whnf))
        all_goals (first | rfl | exact ⟨rfl, rfl⟩ | exact ⟨rfl, rfl, rfl⟩)
end Go.Tr
/- cert.copied. -/
namespace Go.Tr
open Go.Proofs
theorem tcs_take_snoc {ts : List Term} {j : Nat} {u : Term} (h : ts[j]? = some u) : tcs (ts.take (j + 1)) = tcs (ts.take j) ++ [tc u] := by
  rw [List.take_add_one, h]
  exact tcs_snoc19 _ _
theorem cCopied (t : Term) : szT t ≤ 1000000 → CallSt Try.prog 29 [tv t] [] (fun r H' => r = tv t ∧ H' = []) := by
  induction t using Term.ind with
  | _ t ih =>
  intro hsz
  obtain ⟨k, l, n, ts⟩ := t
  replace ih : ∀ u, u ∈ ts → _ := ih
  have hln := len_tcs ts
  rw [szT] at hsz
  have hsl := szL_len ts
  rw [tv_mk]
  refine call_pure (E := env 0) (fn := Try.f29) (c := bodyOf Try.f29) (env_ok 0) mixed (by kernel_rfl) (by kernel_rfl) (by kernel_rfl) (by kernel_rfl) (by kernel_rfl) (by kernel_rfl) rfl ?_
  conv => whnf
  repeat (first | (refine And.intro rfl ?_; conv => whnf) | (refine And.intro (by decide) ?_; conv => whnf) | (refine draw_intro true (by kernel_rfl) ?_; conv => whnf) | (refine And.intro ⟨by omega, by omega⟩ ?_; conv => whnf) | (refine And.intro (by omega) ?_; conv => whnf) | (refine And.intro (fun _ => ⟨by omega, by omega⟩) ?_; conv => whnf) | (refine And.intro (fun _ => ?_) (fun h => absurd h ?_); rotate_left; (focus (first | decide | (simp; done) | (simp [tcs]; done))); conv => whnf) | (refine And.intro (fun h => absurd h ?_) (fun _ => ?_); (focus (first | decide | (simp; done) | (simp [tcs]; done))); conv => whnf) | (intro _; conv => whnf))
  refine loop_intro (fun m tm H => ∃ (j : Nat), ts.length = m + j ∧ tm = [(9, .c (.int .i64 (j))), (8, .c (.int .i64 ((tcs ts).length))), (7, .c (.sl 4 48 (tcs ts))), (3, .own 2), (1, .ptr 0 0), (2, .ptr 1 0)] ∧
      H = [.box [.c (.int .i64 (k)), .c (.int .i64 (l)), .c (.int .i64 (n)), .c (.sl 4 48 (tcs ts))], .box [.c (.int .i64 (0)), .c (.int .i64 (0)), .c (.int .i64 (0)), .nil], .row 25 4 48 (tcs (ts.take j))])
    ts.length _ _ ⟨0, by omega, rfl, rfl⟩ ?_ ?_
  · refine Wk.trans (Wk.niltmp 3 25 4 48 rfl rfl) ?_
    exact Wk.sel [0, 1, 2] (by decide) (by decide) (by decide) ⟨rfl, rfl, rfl, trivial⟩ ⟨rfl, rfl, rfl, rfl, rfl, rfl, trivial⟩ rfl
  rintro m tm H ⟨j, hj, rfl, rfl⟩
  have hlt : (tcs (ts.take j)).length = j := by rw [len_tcs, List.length_take]; omega
  have hb1 : ((tcs (ts.take j)).length + 1) * 48 ≤ 140737488355328 := by omega
  have hb2 : (tcs (ts.take j)).length + 1 ≤ 9223372036854775807 := by omega
  conv => whnf
  refine ⟨fun hc => ?_, fun hc => ?_⟩
  · replace hc : (j : Int) < (tcs ts).length := of_decide_eq_true hc
    obtain ⟨u, hu⟩ : ∃ u, ts[j]? = some u := ⟨ts[j]'(by omega), List.getElem?_eq_getElem (by omega)⟩
    have huc := tcs_at ts j u hu
    have hi := ih u (List.mem_of_getElem? hu) (by have := szL_mem' ts u (List.mem_of_getElem? hu); omega)
    have hst := tcs_take_snoc hu
    obtain ⟨k', l', n', us⟩ := u
    rw [tv_mk] at hi
    conv => whnf
    refine ⟨_, ⟨by omega, by simpa using huc⟩, ?_⟩
    conv => whnf
    refine ⟨Nat.le_refl 4, ?_⟩
    conv => whnf
    repeat (first | (refine And.intro rfl ?_; conv => whnf) | (refine And.intro (by decide) ?_; conv => whnf) | (refine draw_intro true (by kernel_rfl) ?_; conv => whnf) | (refine And.intro ⟨by omega, by omega⟩ ?_; conv => whnf) | (refine And.intro (by omega) ?_; conv => whnf) | (refine And.intro (fun _ => ⟨by omega, by omega⟩) ?_; conv => whnf) | (refine And.intro (fun _ => ?_) (fun h => absurd h ?_); rotate_left; (focus (first | decide | (simp; done) | (simp [tcs]; done))); conv => whnf) | (refine And.intro (fun h => absurd h ?_) (fun _ => ?_); (focus (first | decide | (simp; done) | (simp [tcs]; done))); conv => whnf) | (intro _; conv => whnf))
    try (refine draw_intro true (by kernel_rfl) ?_; conv => whnf)
    refine CallSt.use hi [] trivial (by decide) rfl ?_
    rintro _ _ ⟨rfl, rfl⟩ _
    conv => whnf
    repeat (first | (refine And.intro rfl ?_; conv => whnf) | (refine And.intro (by decide) ?_; conv => whnf) | (refine draw_intro true (by kernel_rfl) ?_; conv => whnf) | (refine And.intro ⟨by omega, by omega⟩ ?_; conv => whnf) | (refine And.intro (by omega) ?_; conv => whnf) | (refine And.intro (fun _ => ⟨by omega, by omega⟩) ?_; conv => whnf) | (refine And.intro (fun _ => ?_) (fun h => absurd h ?_); rotate_left; (focus (first | decide | (simp; done) | (simp [tcs]; done))); conv => whnf) | (refine And.intro (fun h => absurd h ?_) (fun _ => ?_); (focus (first | decide | (simp; done) | (simp [tcs]; done))); conv => whnf) | (intro _; conv => whnf))
    refine ⟨m - 1, _, _, by omega, ⟨j + 1, by omega, rfl, rfl⟩, Wk.sel [0, 1, 5] (by decide) (by decide) (by decide) ⟨rfl, rfl, ?_, trivial⟩ ⟨rfl, rfl, rfl, rfl, rfl, rfl, trivial⟩ rfl⟩
    rw [hst]
    rfl
  · replace hc : ¬ (j : Int) < (tcs ts).length := of_decide_eq_false hc
    obtain rfl : j = ts.length := by omega
    rw [List.take_length]
    conv => whnf
    repeat (first | (refine And.intro rfl ?_; conv => whnf) | (refine And.intro (by decide) ?_; conv => whnf) | (refine draw_intro true (by kernel_rfl) ?_; conv => whnf) | (refine And.intro ⟨by omega, by omega⟩ ?_; conv => whnf) | (refine And.intro (by omega) ?_; conv => whnf) | (refine And.intro (fun _ => ⟨by omega, by omega⟩) ?_; conv => whnf) | (refine And.intro (fun _ => ?_) (fun h => absurd h ?_); rotate_left; (focus (first | decide | (simp; done) | (simp [tcs]; done))); conv => whnf) | (refine And.intro (fun h => absurd h ?_) (fun _ => ?_); (focus (first | decide | (simp; done) | (simp [tcs]; done))); conv => whnf) | (intro _; conv => whnf))
    all_goals (first | rfl | exact ⟨rfl, rfl⟩ | exact ⟨rfl, rfl, rfl⟩)
end Go.Tr
/- cert.Nodes. -/
namespace Go.Tr
open Go.Proofs
def nodesV (c : Crt) : AV := match builtB c with
  | true => .tup [.c (.sl 4 48 (tcs (nodesOf c))), .c (.int .i64 (0))]
  | false => .tup [.c (.sl 4 48 []), .c (.int .i64 (2))]
theorem nodes_sz {c : Crt} (h : builtB c = true) : (nodesOf c).length ≤ 121200 ∧ ∀ t ∈ nodesOf c, szT t ≤ 600 := by
  have hs := (built_ok h).sane
  obtain ⟨_, _, g3⟩ := bk_good hs (crl c).length
  rw [List.take_length] at g3
  have hsa := szL_all (crl c) fun u hu => (hs.t u hu).2
  have := crl_len c
  have := hs.S
  have := hs.X
  exact ⟨by unfold nodesOf; omega, bk_sz hs _⟩
theorem cNodes (c : Crt) : CallSt Try.prog 13 [crv c] [] (fun r H' => r = nodesV c ∧ H' = []) := by
  have hb := cBuilt c
  unfold nodesV
  cases hbc : builtB c with
  | false =>
    rw [hbc] at hb
    obtain ⟨S, X, ⟨k, l, n, ts⟩, ⟨k2, l2, n2, us⟩⟩ := c
    unfold crv at *
    dsimp only [Term.k, Term.l, Term.n, Term.ts] at *
    refine call_pure (E := env 0) (fn := Try.f13) (c := bodyOf Try.f13) (env_ok 0) mixed (by kernel_rfl) (by kernel_rfl) (by kernel_rfl) (by kernel_rfl) (by kernel_rfl) (by kernel_rfl) rfl ?_
    conv => whnf
    try (refine draw_intro true (by kernel_rfl) ?_; conv => whnf)
    refine CallSt.use hb [] trivial (by decide) rfl ?_
    rintro _ _ ⟨rfl, rfl⟩ _
    conv => whnf
    repeat (first | (refine And.intro rfl ?_; conv => whnf) | (refine And.intro (by decide) ?_; conv => whnf) | (refine draw_intro true (by kernel_rfl) ?_; conv => whnf) | (refine And.intro ⟨by omega, by omega⟩ ?_; conv => whnf) | (refine And.intro (by omega) ?_; conv => whnf) | (refine And.intro (fun _ => ⟨by omega, by omega⟩) ?_; conv => whnf) | (refine And.intro (fun _ => ?_) (fun h => absurd h ?_); rotate_left; (focus (first | decide | (simp; done) | (simp [tcs]; done))); conv => whnf) | (refine And.intro (fun h => absurd h ?_) (fun _ => ?_); (focus (first | decide | (simp; done) | (simp [tcs]; done))); conv => whnf) | (intro _; conv => whnf))
    all_goals (first | rfl | exact ⟨rfl, rfl⟩ | exact ⟨rfl, rfl, rfl⟩)
  | true =>
    rw [hbc] at hb
    have hn := cNewNodes c (built_ok hbc).sane
    obtain ⟨hB, hsz⟩ := nodes_sz hbc
    have e : nodesOf c = bk c (crl c).length := rfl
    rw [e] at hB hsz ⊢
    clear e hbc
    have hl := nds_len (bk c (crl c).length)
    have hlt := len_tcs (bk c (crl c).length)
    generalize bk _ _ = B at *
    generalize rt _ _ = R at *
    generalize crl c = q at *
    obtain ⟨S, X, ⟨k, l, n, ts⟩, ⟨k2, l2, n2, us⟩⟩ := c
    unfold crv at *
    dsimp only [Term.k, Term.l, Term.n, Term.ts] at *
    refine call_pure (E := env 0) (fn := Try.f13) (c := bodyOf Try.f13) (env_ok 0) mixed (by kernel_rfl) (by kernel_rfl) (by kernel_rfl) (by kernel_rfl) (by kernel_rfl) (by kernel_rfl) rfl ?_
    conv => whnf
    try (refine draw_intro true (by kernel_rfl) ?_; conv => whnf)
    refine CallSt.use hb [] trivial (by decide) rfl ?_
    rintro _ _ ⟨rfl, rfl⟩ _
    conv => whnf
    repeat (first | (refine And.intro rfl ?_; conv => whnf) | (refine And.intro (by decide) ?_; conv => whnf) | (refine draw_intro true (by kernel_rfl) ?_; conv => whnf) | (refine And.intro ⟨by omega, by omega⟩ ?_; conv => whnf) | (refine And.intro (by omega) ?_; conv => whnf) | (refine And.intro (fun _ => ⟨by omega, by omega⟩) ?_; conv => whnf) | (refine And.intro (fun _ => ?_) (fun h => absurd h ?_); rotate_left; (focus (first | decide | (simp; done) | (simp [tcs]; done))); conv => whnf) | (refine And.intro (fun h => absurd h ?_) (fun _ => ?_); (focus (first | decide | (simp; done) | (simp [tcs]; done))); conv => whnf) | (intro _; conv => whnf))
    try (refine draw_intro true (by kernel_rfl) ?_; conv => whnf)
    refine CallSt.use hn [] trivial (by decide) rfl ?_
    rintro _ _ ⟨rfl, rfl⟩ _
    conv => whnf
    repeat (first | (refine And.intro rfl ?_; conv => whnf) | (refine And.intro (by decide) ?_; conv => whnf) | (refine draw_intro true (by kernel_rfl) ?_; conv => whnf) | (refine And.intro ⟨by omega, by omega⟩ ?_; conv => whnf) | (refine And.intro (by omega) ?_; conv => whnf) | (refine And.intro (fun _ => ⟨by omega, by omega⟩) ?_; conv => whnf) | (refine And.intro (fun _ => ?_) (fun h => absurd h ?_); rotate_left; (focus (first | decide | (simp; done) | (simp [tcs]; done))); conv => whnf) | (refine And.intro (fun h => absurd h ?_) (fun _ => ?_); (focus (first | decide | (simp; done) | (simp [tcs]; done))); conv => whnf) | (intro _; conv => whnf))
    refine loop_intro (fun m tm H => ∃ (j : Nat), B.length = m + j ∧ tm = [(22, .c (.int .i64 (j))), (21, .c (.int .i64 ((nds B).length))), (20, .own 0), (6, .own 1)] ∧
        H = [.row 65 5 72 (nds B), .row 25 4 48 (tcs (B.take j))])
      B.length _ _ ⟨0, by omega, rfl, rfl⟩ ?_ ?_
    · refine Wk.trans (Wk.niltmp 6 25 4 48 rfl rfl) ?_
      exact Wk.sel [2, 5] (by decide) (by decide) (by decide) ⟨rfl, rfl, trivial⟩ ⟨rfl, rfl, rfl, rfl, trivial⟩ rfl
    rintro m tm H ⟨j, hj, rfl, rfl⟩
    have hlj : (tcs (B.take j)).length = j := by rw [len_tcs, List.length_take]; omega
    have hb1 : ((tcs (B.take j)).length + 1) * 48 ≤ 140737488355328 := by omega
    have hb2 : (tcs (B.take j)).length + 1 ≤ 9223372036854775807 := by omega
    conv => whnf
    refine ⟨fun hc => ?_, fun hc => ?_⟩
    · replace hc : (j : Int) < (nds B).length := of_decide_eq_true hc
      obtain ⟨t, ht⟩ : ∃ t, B[j]? = some t := ⟨B[j]'(by omega), List.getElem?_eq_getElem (by omega)⟩
      have htm := List.mem_of_getElem? ht
      have hst := tcs_take_snoc ht
      have hnc : (nds B)[j]? = some [.int .i64 t.k, .int .i64 t.l, .int .i64 t.n, .sl 4 48 (tcs t.ts), .sl 1 8 (rowN (kd B t))] := by simp [nds, ht, ndc]
      have hcp := cCopied t (by have := hsz t htm; omega)
      generalize kd B t = K at *
      obtain ⟨k', l', n', us⟩ := t
      rw [tv_mk] at hcp
      simp only [Term.k, Term.l, Term.n, Term.ts] at hnc
      conv => whnf
      refine ⟨⟨by omega, by omega⟩, ?_⟩
      conv => whnf
      refine ⟨[.int .i64 k', .int .i64 l', .int .i64 n', .sl 4 48 (tcs us), .sl 1 8 (rowN K)], by rw [Int.toNat_natCast]; exact hnc, show 0 + 5 ≤ 5 by decide, ?_⟩
      conv => whnf
      repeat (first | (refine And.intro rfl ?_; conv => whnf) | (refine And.intro (by decide) ?_; conv => whnf) | (refine draw_intro true (by kernel_rfl) ?_; conv => whnf) | (refine And.intro ⟨by omega, by omega⟩ ?_; conv => whnf) | (refine And.intro (by omega) ?_; conv => whnf) | (refine And.intro (fun _ => ⟨by omega, by omega⟩) ?_; conv => whnf) | (refine And.intro (fun _ => ?_) (fun h => absurd h ?_); rotate_left; (focus (first | decide | (simp; done) | (simp [tcs]; done))); conv => whnf) | (refine And.intro (fun h => absurd h ?_) (fun _ => ?_); (focus (first | decide | (simp; done) | (simp [tcs]; done))); conv => whnf) | (intro _; conv => whnf))
      try (refine draw_intro true (by kernel_rfl) ?_; conv => whnf)
      refine CallSt.use hcp [] trivial (by decide) rfl ?_
      rintro _ _ ⟨rfl, rfl⟩ _
      conv => whnf
      repeat (first | (refine And.intro rfl ?_; conv => whnf) | (refine And.intro (by decide) ?_; conv => whnf) | (refine draw_intro true (by kernel_rfl) ?_; conv => whnf) | (refine And.intro ⟨by omega, by omega⟩ ?_; conv => whnf) | (refine And.intro (by omega) ?_; conv => whnf) | (refine And.intro (fun _ => ⟨by omega, by omega⟩) ?_; conv => whnf) | (refine And.intro (fun _ => ?_) (fun h => absurd h ?_); rotate_left; (focus (first | decide | (simp; done) | (simp [tcs]; done))); conv => whnf) | (refine And.intro (fun h => absurd h ?_) (fun _ => ?_); (focus (first | decide | (simp; done) | (simp [tcs]; done))); conv => whnf) | (intro _; conv => whnf))
      refine ⟨m - 1, _, _, by omega, ⟨j + 1, by omega, rfl, rfl⟩, Wk.sel [0, 4] (by decide) (by decide) (by decide) ⟨rfl, ?_, trivial⟩ ⟨rfl, rfl, rfl, rfl, trivial⟩ rfl⟩
      rw [hst]
      rfl
    · replace hc : ¬ (j : Int) < (nds B).length := of_decide_eq_false hc
      obtain rfl : j = B.length := by omega
      rw [List.take_length]
      conv => whnf
      repeat (first | (refine And.intro rfl ?_; conv => whnf) | (refine And.intro (by decide) ?_; conv => whnf) | (refine draw_intro true (by kernel_rfl) ?_; conv => whnf) | (refine And.intro ⟨by omega, by omega⟩ ?_; conv => whnf) | (refine And.intro (by omega) ?_; conv => whnf) | (refine And.intro (fun _ => ⟨by omega, by omega⟩) ?_; conv => whnf) | (refine And.intro (fun _ => ?_) (fun h => absurd h ?_); rotate_left; (focus (first | decide | (simp; done) | (simp [tcs]; done))); conv => whnf) | (refine And.intro (fun h => absurd h ?_) (fun _ => ?_); (focus (first | decide | (simp; done) | (simp [tcs]; done))); conv => whnf) | (intro _; conv => whnf))
      all_goals (first | rfl | exact ⟨rfl, rfl⟩ | exact ⟨rfl, rfl, rfl⟩)
end Go.Tr
/- The law CertNodes. -/
namespace Go.Tr
open Go.Proofs
def inB (l : List Term) (t : Term) : Bool := l.any fun u => sameT u t
theorem inB_iff {l : List Term} {t : Term} : inB l t = true ↔ t ∈ l := by
  unfold inB
  rw [List.any_eq_true]
  constructor
  · rintro ⟨u, hu, h⟩
    rw [← (sameT_iff u t).1 h]
    exact hu
  · exact fun h => ⟨t, h, sameT_self t⟩
theorem inB_false {l : List Term} {t : Term} (h : t ∉ l) : inB l t = false := by
  cases hb : inB l t with
  | false => rfl
  | true => exact absurd (inB_iff.1 hb) h
theorem inB_drop {l : List Term} {j : Nat} {u : Term} (t : Term) (h : l[j]? = some u) : inB (l.drop j) t = (sameT u t || inB (l.drop (j + 1)) t) := by
  unfold inB
  rw [drop_at h, List.any_cons]
theorem cAmong (l : List Term) (t : Term) : CallSt Try.prog 14 [.c (.sl 4 48 (tcs l)), tv t] [] (fun r H' => r = .c (.bool (inB l t)) ∧ H' = []) := by
  have hs := fun u => c23 u t
  have hln := len_tcs l
  have hd := @inB_drop l
  have hdt := fun j u => @inB_drop l j u t
  clear hd
  have h0 : inB [] t = false := rfl
  have h1 : inB (l.drop 0) t = inB l t := rfl
  generalize hg : (fun l => inB l t) = g at *
  have hg' : ∀ l, inB l t = g l := fun l => by rw [← hg]
  simp only [hg'] at *
  clear hg hg'
  generalize hf : (fun u => sameT u t) = f at *
  have hf' : ∀ u, sameT u t = f u := fun l => by rw [← hf]
  simp only [hf'] at *
  clear hf hf'
  obtain ⟨k, l1, n, ts⟩ := t
  rw [tv_mk] at hs ⊢
  refine call_pure (E := env 0) (fn := Try.f14) (c := bodyOf Try.f14) (env_ok 0) mixed (by kernel_rfl) (by kernel_rfl) (by kernel_rfl) (by kernel_rfl) (by kernel_rfl) (by kernel_rfl) rfl ?_
  conv => whnf
  repeat (first | (refine And.intro rfl ?_; conv => whnf) | (refine And.intro (by decide) ?_; conv => whnf) | (refine draw_intro true (by kernel_rfl) ?_; conv => whnf) | (refine And.intro ⟨by omega, by omega⟩ ?_; conv => whnf) | (refine And.intro (by omega) ?_; conv => whnf) | (refine And.intro (fun _ => ⟨by omega, by omega⟩) ?_; conv => whnf) | (refine And.intro (fun _ => ?_) (fun h => absurd h ?_); rotate_left; (focus (first | decide | (simp; done) | (simp [tcs]; done))); conv => whnf) | (refine And.intro (fun h => absurd h ?_) (fun _ => ?_); (focus (first | decide | (simp; done) | (simp [tcs]; done))); conv => whnf) | (intro _; conv => whnf))
  refine loop_intro (fun m tm H => ∃ (j : Nat), l.length = m + j ∧ g (l.drop j) = g l ∧ tm = [(5, .c (.int .i64 (j))), (0, .c (.sl 4 48 (tcs l))), (3, .ptr 0 0)] ∧ H = [.box [.c (.int .i64 (k)), .c (.int .i64 (l1)), .c (.int .i64 (n)), .c (.sl 4 48 (tcs ts))]])
    l.length _ _ ⟨0, by omega, h1, rfl, rfl⟩ (Wk.sel [0] (by decide) (by decide) (by decide) ⟨rfl, trivial⟩ ⟨rfl, rfl, rfl, trivial⟩ rfl) ?_
  rintro m tm H ⟨j, hj, hR, rfl, rfl⟩
  conv => whnf
  intro hlen
  replace hlen : (tcs l).length * 48 ≤ 140737488355328 := hlen
  conv => whnf
  refine ⟨fun hc => ?_, fun hc => ?_⟩
  · replace hc : (j : Int) < (tcs l).length := of_decide_eq_true hc
    obtain ⟨u, hu⟩ : ∃ u, l[j]? = some u := ⟨l[j]'(by omega), List.getElem?_eq_getElem (by omega)⟩
    have huc := tcs_at l j u hu
    have hsu := hs u
    rw [hdt j u hu] at hR
    generalize f u = b at *
    obtain ⟨k', l', n', us⟩ := u
    rw [tv_mk] at hsu
    conv => whnf
    refine draw_intro true (by kernel_rfl) ?_
    conv => whnf
    refine ⟨_, ⟨by omega, by simpa using huc⟩, ?_⟩
    conv => whnf
    refine ⟨Nat.le_refl 4, ?_⟩
    conv => whnf
    repeat (first | (refine And.intro rfl ?_; conv => whnf) | (refine And.intro (by decide) ?_; conv => whnf) | (refine draw_intro true (by kernel_rfl) ?_; conv => whnf) | (refine And.intro ⟨by omega, by omega⟩ ?_; conv => whnf) | (refine And.intro (by omega) ?_; conv => whnf) | (refine And.intro (fun _ => ⟨by omega, by omega⟩) ?_; conv => whnf) | (refine And.intro (fun _ => ?_) (fun h => absurd h ?_); rotate_left; (focus (first | decide | (simp; done) | (simp [tcs]; done))); conv => whnf) | (refine And.intro (fun h => absurd h ?_) (fun _ => ?_); (focus (first | decide | (simp; done) | (simp [tcs]; done))); conv => whnf) | (intro _; conv => whnf))
    try (refine draw_intro true (by kernel_rfl) ?_; conv => whnf)
    refine CallSt.use hsu [] trivial (by decide) rfl ?_
    rintro _ _ ⟨rfl, rfl⟩ _
    conv => whnf
    cases b with
    | true =>
      repeat (first | (refine And.intro rfl ?_; conv => whnf) | (refine And.intro (by decide) ?_; conv => whnf) | (refine draw_intro true (by kernel_rfl) ?_; conv => whnf) | (refine And.intro ⟨by omega, by omega⟩ ?_; conv => whnf) | (refine And.intro (by omega) ?_; conv => whnf) | (refine And.intro (fun _ => ⟨by omega, by omega⟩) ?_; conv => whnf) | (refine And.intro (fun _ => ?_) (fun h => absurd h ?_); rotate_left; (focus (first | decide | (simp; done) | (simp [tcs]; done))); conv => whnf) | (refine And.intro (fun h => absurd h ?_) (fun _ => ?_); (focus (first | decide | (simp; done) | (simp [tcs]; done))); conv => whnf) | (intro _; conv => whnf))
      rw [← hR]
      repeat (first | (refine And.intro rfl ?_; conv => whnf) | (refine And.intro (by decide) ?_; conv => whnf) | (refine draw_intro true (by kernel_rfl) ?_; conv => whnf) | (refine And.intro ⟨by omega, by omega⟩ ?_; conv => whnf) | (refine And.intro (by omega) ?_; conv => whnf) | (refine And.intro (fun _ => ⟨by omega, by omega⟩) ?_; conv => whnf) | (refine And.intro (fun _ => ?_) (fun h => absurd h ?_); rotate_left; (focus (first | decide | (simp; done) | (simp [tcs]; done))); conv => whnf) | (refine And.intro (fun h => absurd h ?_) (fun _ => ?_); (focus (first | decide | (simp; done) | (simp [tcs]; done))); conv => whnf) | (intro _; conv => whnf))
      all_goals (first | rfl | exact ⟨rfl, rfl⟩ | exact ⟨rfl, rfl, rfl⟩)
    | false =>
      repeat (first | (refine And.intro rfl ?_; conv => whnf) | (refine And.intro (by decide) ?_; conv => whnf) | (refine draw_intro true (by kernel_rfl) ?_; conv => whnf) | (refine And.intro ⟨by omega, by omega⟩ ?_; conv => whnf) | (refine And.intro (by omega) ?_; conv => whnf) | (refine And.intro (fun _ => ⟨by omega, by omega⟩) ?_; conv => whnf) | (refine And.intro (fun _ => ?_) (fun h => absurd h ?_); rotate_left; (focus (first | decide | (simp; done) | (simp [tcs]; done))); conv => whnf) | (refine And.intro (fun h => absurd h ?_) (fun _ => ?_); (focus (first | decide | (simp; done) | (simp [tcs]; done))); conv => whnf) | (intro _; conv => whnf))
      refine ⟨m - 1, _, _, by omega, ⟨j + 1, by omega, by simpa using hR, rfl, rfl⟩, Wk.sel [0] (by decide) (by decide) (by decide) ⟨rfl, trivial⟩ ⟨rfl, rfl, rfl, trivial⟩ rfl⟩
  · replace hc : ¬ (j : Int) < (tcs l).length := of_decide_eq_false hc
    rw [List.drop_eq_nil_of_le (by omega), h0] at hR
    rw [← hR]
    conv => whnf
    repeat (first | (refine And.intro rfl ?_; conv => whnf) | (refine And.intro (by decide) ?_; conv => whnf) | (refine draw_intro true (by kernel_rfl) ?_; conv => whnf) | (refine And.intro ⟨by omega, by omega⟩ ?_; conv => whnf) | (refine And.intro (by omega) ?_; conv => whnf) | (refine And.intro (fun _ => ⟨by omega, by omega⟩) ?_; conv => whnf) | (refine And.intro (fun _ => ?_) (fun h => absurd h ?_); rotate_left; (focus (first | decide | (simp; done) | (simp [tcs]; done))); conv => whnf) | (refine And.intro (fun h => absurd h ?_) (fun _ => ?_); (focus (first | decide | (simp; done) | (simp [tcs]; done))); conv => whnf) | (intro _; conv => whnf))
    all_goals (first | rfl | exact ⟨rfl, rfl⟩ | exact ⟨rfl, rfl, rfl⟩)
end Go.Tr
