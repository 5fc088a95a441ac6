/- What each function computes, and the plain laws of it. -/
import Derived.Shelf.Pu.Clone
import Derived.Test.YtdclcamgmepjpaaTrXc9d6ec9a
set_option linter.unusedVariables false
set_option linter.unusedSimpArgs false
set_option linter.unnecessarySimpa false
set_option autoImplicit false
/- cert: newNodes. -/
namespace Go.Tr
open Go.Proofs
/-- What a certificate's terms must be like for its nodes. -/
structure Sane (c : Crt) : Prop where
  S : c.S.length ≤ 100
  X : c.X.length ≤ 100
  t : ∀ t ∈ crl c, wf t ∧ szT t ≤ 600
theorem szL_all : ∀ (ts : List Term), (∀ t ∈ ts, szT t ≤ 600) → szL ts ≤ 600 * ts.length
  | [], _ => by simp [szL]
  | t :: r, h => by
    have := szL_all r fun u hu => h u (by simp [hu])
    have := h t (by simp)
    simp only [szL, List.length_cons]
    omega
/-- The nodes before round n, and the places of the terms. -/
def bk (c : Crt) (n : Nat) : List Term := adL ((crl c).take n) []
def rt (c : Crt) (n : Nat) : List Nat := ((crl c).take n).map (pl (bk c n))
theorem bk_good {c : Crt} (h : Sane c) (n : Nat) : Good (bk c n) ∧ (∀ t ∈ (crl c).take n, t ∈ bk c n) ∧ ((bk c n).length : Int) ≤ szL ((crl c).take n) := by
  obtain ⟨h1, _, h3, h4⟩ := adL_spec ((crl c).take n) [] Good.nil fun t ht => (h.t t (List.mem_of_mem_take ht)).1
  exact ⟨h1, h3, by simpa [bk] using h4⟩
theorem bk_step {c : Crt} {n : Nat} {t : Term} (ht : (crl c)[n]? = some t) : bk c (n + 1) = adT t (bk c n) := adL_take _ _ _ _ ht
theorem rt_step {c : Crt} (h : Sane c) {n : Nat} {t : Term} (ht : (crl c)[n]? = some t) : rt c (n + 1) = rt c n ++ [pl (adT t (bk c n)) t] := by
  obtain ⟨h1, h2, _⟩ := bk_good h n
  obtain ⟨_, q2, _⟩ := adT_spec t (bk c n) h1 (h.t t (List.mem_of_getElem? ht)).1
  unfold rt
  rw [List.take_add_one, ht, List.map_append, bk_step ht]
  congr 1
  obtain ⟨C, hC⟩ := q2
  rw [← hC]
  exact List.map_congr_left fun v hv => pl_app (h2 v hv)
theorem bk0 (c : Crt) : bk c 0 = [] := by simp [bk, adL]
theorem rt0 (c : Crt) : rt c 0 = [] := by simp [rt]
theorem cNewNodes (c : Crt) (h : Sane c) : CallSt Try.prog 26 [crv c] [] (fun r H' => r = .tup [.ptr 0 0, .c (.sl 1 8 (rowN (rt c (crl c).length)))] ∧
    H' = [.box [.own 1, .mpv 2, .c (.int .i64 (szL (crl c)))], .row 65 5 72 (nds (bk c (crl c).length)), .mp true (.n (atF (bk c (crl c).length))), .frz (.sl 1 8 (rowN (rt c (crl c).length)))]) := by
  have hti := cTermsI c
  have hIt := fun {ps} {asg} {body} => @cTermsN ps asg body c h.S h.X (bk c) (fun n => szL ((crl c).take n)) (rt c)
  simp only [bk0, rt0, atF_nil, List.take_zero, List.take_length] at hIt
  have hstep := fun n t (ht : (crl c)[n]? = some t) => rt_step h ht
  have hbstep := fun n t (ht : (crl c)[n]? = some t) => bk_step ht
  have hsstep := fun n t (ht : (crl c)[n]? = some t) => szL_take _ n t ht
  have hgood := bk_good h
  have hRlen : ∀ q, (rt c q).length ≤ (crl c).length := fun q => by unfold rt; rw [List.length_map, List.length_take]; omega
  have htt := h.t
  have hcl := crl_len c
  have hS := h.S
  have hX := h.X
  clear h
  generalize crl c = l at *
  generalize bk c = B at *
  generalize rt c = R at *
  obtain ⟨S, X, ⟨k, h, n, ts⟩, ⟨k2, l2, n2, us⟩⟩ := c
  unfold crv at *
  dsimp only [Term.k, Term.l, Term.n, Term.ts] at *
  refine call_wk (E := env 0) (fn := Try.f26) (c := bodyOf Try.f26) (env_ok 0) mixed (by kernel_rfl) (by kernel_rfl) (by kernel_rfl) (by kernel_rfl) (by kernel_rfl) (by kernel_rfl) rfl true ?_
  conv => whnf
  repeat (first | (refine And.intro rfl ?_; conv => whnf) | (refine And.intro (by decide) ?_; conv => whnf) | (refine draw_intro true (by kernel_rfl) ?_; conv => whnf) | (refine And.intro ⟨by omega, by omega⟩ ?_; conv => whnf) | (refine And.intro (by omega) ?_; conv => whnf) | (refine And.intro (fun _ => ⟨by omega, by omega⟩) ?_; conv => whnf) | (refine And.intro (of_decide_eq_true rfl) ?_; conv => whnf) | (refine And.intro (fun _ => ?_) (fun h => absurd h ?_); rotate_left; (focus (first | decide | (simp; done) | (simp [tcs]; done))); conv => whnf) | (refine And.intro (fun h => absurd h ?_) (fun _ => ?_); (focus (first | decide | (simp; done) | (simp [tcs]; done))); conv => whnf) | (intro _; conv => whnf))
  try (refine draw_intro true (by kernel_rfl) ?_; conv => whnf)
  first | refine CallSt.use hti [] trivial (by decide) rfl ?_ | refine CallPt.useS hti [] trivial (by decide) rfl ?_
  rintro _ _ ⟨rfl, rfl⟩ _
  conv => whnf
  repeat (first | (refine And.intro rfl ?_; conv => whnf) | (refine And.intro (by decide) ?_; conv => whnf) | (refine draw_intro true (by kernel_rfl) ?_; conv => whnf) | (refine And.intro ⟨by omega, by omega⟩ ?_; conv => whnf) | (refine And.intro (by omega) ?_; conv => whnf) | (refine And.intro (fun _ => ⟨by omega, by omega⟩) ?_; conv => whnf) | (refine And.intro (of_decide_eq_true rfl) ?_; conv => whnf) | (refine And.intro (fun _ => ?_) (fun h => absurd h ?_); rotate_left; (focus (first | decide | (simp; done) | (simp [tcs]; done))); conv => whnf) | (refine And.intro (fun h => absurd h ?_) (fun _ => ?_); (focus (first | decide | (simp; done) | (simp [tcs]; done))); conv => whnf) | (intro _; conv => whnf))
  refine CallSt.wkl 6 [(4, .ptr 3 0), (5, .ptr 4 0)] rfl (subTM_lk ⟨rfl, rfl, trivial⟩) ?_
  refine CallSt.wk _ (Wk.trans (Wk.nilrow (i := 2) (j := 0) 65 5 72 rfl rfl rfl) (Wk.nilrow (i := 4) (j := 0) 3 1 8 rfl rfl rfl)) ?_
  refine CallSt.use (hIt ?_) [5, 2, 7, 1, 4, 8, 6, 3] ⟨rfl, rfl, rfl, rfl, rfl, rfl, rfl, rfl, trivial⟩ (by decide) rfl ?_
  · intro q t ht
    have hm := List.mem_of_getElem? ht
    have hql := (List.getElem?_eq_some_iff.1 ht).1
    obtain ⟨g1, g2, g3⟩ := hgood q
    have htm := htt t hm
    have htp := szT_pos t
    have hsn := szL_pos (l.take q)
    have hsa := szL_all (l.take q) fun u hu => (htt u (List.mem_of_mem_take hu)).2
    have hlt : (l.take q).length ≤ 202 := by rw [List.length_take]; omega
    have hadd := cAddN t (B q) (szL (l.take q)) g1 htm.1 (by omega) (by omega)
    rw [hbstep q t ht, hstep q t ht, hsstep q t ht, ← rowN_map_snoc]
    have hRl := hRlen q
    have hRn := rowN_len (R q)
    have hb1 : ((rowN (R q)).length + 1) * 8 ≤ 140737488355328 := by omega
    have hb2 : (rowN (R q)).length + 1 ≤ 9223372036854775807 := by omega
    generalize adT t (B q) = B2 at *
    generalize B q = B1 at *
    generalize pl B2 t = p at *
    obtain ⟨k', l', n', us'⟩ := t
    rw [tv_mk] at *
    refine y_wk (E := envY 7) (envY_ok 7) mixed rfl rfl (i := 5) rfl rfl rfl ?_
    conv => whnf
    repeat (first | (refine And.intro rfl ?_; conv => whnf) | (refine And.intro (by decide) ?_; conv => whnf) | (refine draw_intro true (by kernel_rfl) ?_; conv => whnf) | (refine And.intro ⟨by omega, by omega⟩ ?_; conv => whnf) | (refine And.intro (by omega) ?_; conv => whnf) | (refine And.intro (fun _ => ⟨by omega, by omega⟩) ?_; conv => whnf) | (refine And.intro (of_decide_eq_true rfl) ?_; conv => whnf) | (refine And.intro (fun _ => ?_) (fun h => absurd h ?_); rotate_left; (focus (first | decide | (simp; done) | (simp [tcs]; done))); conv => whnf) | (refine And.intro (fun h => absurd h ?_) (fun _ => ?_); (focus (first | decide | (simp; done) | (simp [tcs]; done))); conv => whnf) | (intro _; conv => whnf))
    try (refine draw_intro true (by kernel_rfl) ?_; conv => whnf)
    first | refine CallSt.use hadd [0, 1, 2] ⟨rfl, rfl, rfl, trivial⟩ (by decide) rfl ?_ | refine CallPt.useS hadd [0, 1, 2] ⟨rfl, rfl, rfl, trivial⟩ (by decide) rfl ?_
    rintro _ _ ⟨rfl, rfl⟩ _
    conv => whnf
    repeat (first | (refine And.intro rfl ?_; conv => whnf) | (refine And.intro (by decide) ?_; conv => whnf) | (refine draw_intro true (by kernel_rfl) ?_; conv => whnf) | (refine And.intro ⟨by omega, by omega⟩ ?_; conv => whnf) | (refine And.intro (by omega) ?_; conv => whnf) | (refine And.intro (fun _ => ⟨by omega, by omega⟩) ?_; conv => whnf) | (refine And.intro (of_decide_eq_true rfl) ?_; conv => whnf) | (refine And.intro (fun _ => ?_) (fun h => absurd h ?_); rotate_left; (focus (first | decide | (simp; done) | (simp [tcs]; done))); conv => whnf) | (refine And.intro (fun h => absurd h ?_) (fun _ => ?_); (focus (first | decide | (simp; done) | (simp [tcs]; done))); conv => whnf) | (intro _; conv => whnf))
    refine ⟨[], [.box [.own 7, .mpv 2, .c (.int .i64 (szL (l.take q) + szT (.mk k' l' n' us')))], .dead, .mp true (.n (atF B2)), .box [.own 8], .dead, .lrec .busy [(4, .ptr 6 0), (5, .ptr 3 0)] _ _ _, .box [.ptr 0 0], .row 65 5 72 (nds B2), .row 3 1 8 (rowN (R q) ++ [[.int .i64 (p : Int)]])],
      Wk.sel [0, 1, 2, 3, 4, 5, 6, 8, 10] (by decide) (by decide) (by decide) ⟨rfl, rfl, rfl, rfl, rfl, rfl, rfl, rfl, rfl, trivial⟩ trivial rfl, ?_⟩
    conv => whnf
    exact ⟨rfl, rfl⟩
  rintro _ _ ⟨rfl, rfl⟩ _
  conv => whnf
  repeat (first | (refine And.intro rfl ?_; conv => whnf) | (refine And.intro (by decide) ?_; conv => whnf) | (refine draw_intro true (by kernel_rfl) ?_; conv => whnf) | (refine And.intro ⟨by omega, by omega⟩ ?_; conv => whnf) | (refine And.intro (by omega) ?_; conv => whnf) | (refine And.intro (fun _ => ⟨by omega, by omega⟩) ?_; conv => whnf) | (refine And.intro (of_decide_eq_true rfl) ?_; conv => whnf) | (refine And.intro (fun _ => ?_) (fun h => absurd h ?_); rotate_left; (focus (first | decide | (simp; done) | (simp [tcs]; done))); conv => whnf) | (refine And.intro (fun h => absurd h ?_) (fun _ => ?_); (focus (first | decide | (simp; done) | (simp [tcs]; done))); conv => whnf) | (intro _; conv => whnf))
  refine ⟨[(2, .ptr 0 0), (3, .own 3)], [.box [.own 1, .mpv 2, .c (.int .i64 (szL l))], .row 65 5 72 (nds (B l.length)), .mp true (.n (atF (B l.length))), .row 3 1 8 (rowN (R l.length))], Wk.sel [2, 9, 1, 10] (by decide) (by decide) (by decide) ⟨rfl, rfl, rfl, rfl, trivial⟩ ⟨rfl, rfl, trivial⟩ rfl, ?_⟩
  conv => whnf
  exact ⟨rfl, rfl⟩
end Go.Tr
/- cert: Built. -/
namespace Go.Tr
open Go.Proofs
/-- A proper term without metavariables. -/
def closedT (t : Term) : Bool := prop t && decide ((conF 3 t).length = 0)
theorem cIsClosed (t : Term) : CallSt Try.prog 40 [tv t] [] (fun r H' => r = .c (.bool (closedT t)) ∧ H' = []) := by
  have h := cMetasP t
  have hl := len_rowI (conF 3 t)
  unfold closedT
  generalize conF 3 t = L at *
  cases hp : prop t with
  | false =>
    rw [hp] at h
    obtain ⟨k, l, n, ts⟩ := t
    rw [tv_mk] at *
    refine call_pure (E := env 0) (fn := Try.f40) (c := bodyOf Try.f40) (env_ok 0) mixed (by kernel_rfl) (by kernel_rfl) (by kernel_rfl) (by kernel_rfl) (by kernel_rfl) (by kernel_rfl) rfl ?_
    conv => whnf
    try (refine draw_intro true (by kernel_rfl) ?_; conv => whnf)
    first | refine CallSt.use h [] trivial (by decide) rfl ?_ | refine CallPt.useS h [] trivial (by decide) rfl ?_
    rintro _ _ ⟨rfl, rfl⟩ _
    conv => whnf
    repeat (first | (refine And.intro rfl ?_; conv => whnf) | (refine And.intro (by decide) ?_; conv => whnf) | (refine draw_intro true (by kernel_rfl) ?_; conv => whnf) | (refine And.intro ⟨by omega, by omega⟩ ?_; conv => whnf) | (refine And.intro (by omega) ?_; conv => whnf) | (refine And.intro (fun _ => ⟨by omega, by omega⟩) ?_; conv => whnf) | (refine And.intro (of_decide_eq_true rfl) ?_; conv => whnf) | (refine And.intro (fun _ => ?_) (fun h => absurd h ?_); rotate_left; (focus (first | decide | (simp; done) | (simp [tcs]; done))); conv => whnf) | (refine And.intro (fun h => absurd h ?_) (fun _ => ?_); (focus (first | decide | (simp; done) | (simp [tcs]; done))); conv => whnf) | (intro _; conv => whnf))
    all_goals (first | rfl | exact ⟨rfl, rfl⟩ | exact ⟨rfl, rfl, rfl⟩)
  | true =>
    rw [hp] at h
    obtain ⟨k, l, n, ts⟩ := t
    rw [tv_mk] at *
    refine call_pure (E := env 0) (fn := Try.f40) (c := bodyOf Try.f40) (env_ok 0) mixed (by kernel_rfl) (by kernel_rfl) (by kernel_rfl) (by kernel_rfl) (by kernel_rfl) (by kernel_rfl) rfl ?_
    conv => whnf
    try (refine draw_intro true (by kernel_rfl) ?_; conv => whnf)
    first | refine CallSt.use h [] trivial (by decide) rfl ?_ | refine CallPt.useS h [] trivial (by decide) rfl ?_
    rintro _ _ ⟨rfl, rfl⟩ _
    conv => whnf
    repeat (first | (refine And.intro rfl ?_; conv => whnf) | (refine And.intro (by decide) ?_; conv => whnf) | (refine draw_intro true (by kernel_rfl) ?_; conv => whnf) | (refine And.intro ⟨by omega, by omega⟩ ?_; conv => whnf) | (refine And.intro (by omega) ?_; conv => whnf) | (refine And.intro (fun _ => ⟨by omega, by omega⟩) ?_; conv => whnf) | (refine And.intro (of_decide_eq_true rfl) ?_; conv => whnf) | (refine And.intro (fun _ => ?_) (fun h => absurd h ?_); rotate_left; (focus (first | decide | (simp; done) | (simp [tcs]; done))); conv => whnf) | (refine And.intro (fun h => absurd h ?_) (fun _ => ?_); (focus (first | decide | (simp; done) | (simp [tcs]; done))); conv => whnf) | (intro _; conv => whnf))
    exact ⟨congrArg (fun z => AV.c (CV.bool z)) (by rw [hl]; simp), rfl⟩
theorem cTermsG {ps : Array Nat} {asg body : Code} (c : Crt) (hS : c.S.length ≤ 100) (hX : c.X.length ≤ 100) (good : Nat → Bool)
    (hY : ∀ (n : Nat) (t : Term), (crl c)[n]? = some t → (∀ i, i < n → good i = true) → YSt Try.prog 1 [tv t] [.box [.c (.bool false)], .lrec .ready [(2, .ptr 0 0)] ps asg body]
      (fun r H' => (good n = true ∧ r = .c (.bool true) ∧ H' = [.box [.c (.bool false)], .lrec .ready [(2, .ptr 0 0)] ps asg body]) ∨ (good n = false ∧ r = .c (.bool false) ∧ H' = [.box [.c (.bool false)], .lrec .ret [(2, .ptr 0 0)] ps asg body]))) :
    CallSt Try.prog 51 [.yv 2, .ptr 0 0] [.box [.c (.sl 6 72 (dcs c.S)), .c (.sl 4 48 (tcs c.X)), .c (.int .i64 (c.o.k)), .c (.int .i64 (c.o.l)), .c (.int .i64 (c.o.n)), .c (.sl 4 48 (tcs c.o.ts)), .c (.int .i64 (c.c.k)), .c (.int .i64 (c.c.l)), .c (.int .i64 (c.c.n)), .c (.sl 4 48 (tcs c.c.ts))], .box [.c (.bool false)], .lrec .ready [(2, .ptr 1 0)] ps asg body]
      (fun r H' => r = .tup [] ∧ (((∀ n, n < (crl c).length → good n = true) ∧ H' = [.box [.c (.sl 6 72 (dcs c.S)), .c (.sl 4 48 (tcs c.X)), .c (.int .i64 (c.o.k)), .c (.int .i64 (c.o.l)), .c (.int .i64 (c.o.n)), .c (.sl 4 48 (tcs c.o.ts)), .c (.int .i64 (c.c.k)), .c (.int .i64 (c.c.l)), .c (.int .i64 (c.c.n)), .c (.sl 4 48 (tcs c.c.ts))], .box [.c (.bool false)], .lrec .ready [(2, .ptr 1 0)] ps asg body]) ∨
        ((∃ n, n < (crl c).length ∧ good n = false) ∧ H' = [.box [.c (.sl 6 72 (dcs c.S)), .c (.sl 4 48 (tcs c.X)), .c (.int .i64 (c.o.k)), .c (.int .i64 (c.o.l)), .c (.int .i64 (c.o.n)), .c (.sl 4 48 (tcs c.o.ts)), .c (.int .i64 (c.c.k)), .c (.int .i64 (c.c.l)), .c (.int .i64 (c.c.n)), .c (.sl 4 48 (tcs c.c.ts))], .box [.c (.bool false)], .lrec .ret [(2, .ptr 1 0)] ps asg body]))) := by
  have hds := len_dcs c.S
  have hxl := len_tcs c.X
  have hcl := crl_len c
  have hyS := fun n d (h : c.S[n]? = some d) => hY n d.c (crl_S h)
  have hyX := fun n t (h : c.X[n]? = some t) => hY _ t (crl_X h)
  have hyo := hY _ _ (crl_o c)
  have hyc := hY _ _ (crl_c c)
  clear hY
  rw [hcl]
  obtain ⟨S, X, ⟨k, l, n, ts⟩, ⟨k2, l2, n2, us⟩⟩ := c
  dsimp only [Term.k, Term.l, Term.n, Term.ts] at *
  rw [tv_mk] at hyo hyc
  refine call_trim (E := envK 3) (fn := Try.f51) (c := bodyOf Try.f51) (envK_ok 3) mixed (by kernel_rfl) (by kernel_rfl) (by kernel_rfl) (by kernel_rfl) (by kernel_rfl) (by kernel_rfl) rfl ?_
  conv => whnf
  repeat (first | (refine And.intro rfl ?_; conv => whnf) | (refine And.intro (by decide) ?_; conv => whnf) | (refine draw_intro true (by kernel_rfl) ?_; conv => whnf) | (refine And.intro ⟨by omega, by omega⟩ ?_; conv => whnf) | (refine And.intro (by omega) ?_; conv => whnf) | (refine And.intro (fun _ => ⟨by omega, by omega⟩) ?_; conv => whnf) | (refine And.intro (of_decide_eq_true rfl) ?_; conv => whnf) | (refine And.intro (fun _ => ?_) (fun h => absurd h ?_); rotate_left; (focus (first | decide | (simp; done) | (simp [tcs]; done))); conv => whnf) | (refine And.intro (fun h => absurd h ?_) (fun _ => ?_); (focus (first | decide | (simp; done) | (simp [tcs]; done))); conv => whnf) | (intro _; conv => whnf))
  refine loop_intro (fun m tm H => ∃ (j : Nat), S.length = m + j ∧ (∀ i, i < j → good i = true) ∧ tm = [(10, .c (.int .i64 (j))), (9, .c (.int .i64 ((dcs S).length))), (8, .c (.sl 6 72 (dcs S))), (0, .yv 2), (1, .ptr 0 0)] ∧
      H = [.box [.c (.sl 6 72 (dcs S)), .c (.sl 4 48 (tcs X)), .c (.int .i64 (k)), .c (.int .i64 (l)), .c (.int .i64 (n)), .c (.sl 4 48 (tcs ts)), .c (.int .i64 (k2)), .c (.int .i64 (l2)), .c (.int .i64 (n2)), .c (.sl 4 48 (tcs us))], .box [.c (.bool false)], .lrec .ready [(2, .ptr 1 0)] ps asg body])
    S.length _ _ ⟨0, by omega, fun i hi => absurd hi (by omega), rfl, rfl⟩ (Wk.sel [0, 1, 2] (by decide) (by first | decide | (show (0 : Nat) ≤ _; decide) | (show ∀ i, i < 0 → _; decide) | (show (1 : Nat) ≤ _; decide) | (show ∀ i, i < 1 → _; decide) | (show (2 : Nat) ≤ _; decide) | (show ∀ i, i < 2 → _; decide) | (show (3 : Nat) ≤ _; decide) | (show ∀ i, i < 3 → _; decide) | (show (4 : Nat) ≤ _; decide) | (show ∀ i, i < 4 → _; decide) | (show (5 : Nat) ≤ _; decide) | (show ∀ i, i < 5 → _; decide) | (show (6 : Nat) ≤ _; decide) | (show ∀ i, i < 6 → _; decide) | (show (7 : Nat) ≤ _; decide) | (show ∀ i, i < 7 → _; decide)) (by first | decide | (show (0 : Nat) ≤ _; decide) | (show ∀ i, i < 0 → _; decide) | (show (1 : Nat) ≤ _; decide) | (show ∀ i, i < 1 → _; decide) | (show (2 : Nat) ≤ _; decide) | (show ∀ i, i < 2 → _; decide) | (show (3 : Nat) ≤ _; decide) | (show ∀ i, i < 3 → _; decide) | (show (4 : Nat) ≤ _; decide) | (show ∀ i, i < 4 → _; decide) | (show (5 : Nat) ≤ _; decide) | (show ∀ i, i < 5 → _; decide) | (show (6 : Nat) ≤ _; decide) | (show ∀ i, i < 6 → _; decide) | (show (7 : Nat) ≤ _; decide) | (show ∀ i, i < 7 → _; decide)) ⟨rfl, rfl, rfl, trivial⟩ ⟨rfl, rfl, rfl, rfl, rfl, trivial⟩ rfl) ?_
  rintro m tm H ⟨j, hj, hall, rfl, rfl⟩
  conv => whnf
  refine ⟨fun hc => ?_, fun hc => ?_⟩
  · replace hc : (j : Int) < (dcs S).length := of_decide_eq_true hc
    obtain ⟨d, hd⟩ : ∃ d, S[j]? = some d := ⟨S[j]'(by omega), List.getElem?_eq_getElem (by omega)⟩
    have hdc := dcs_at hd
    have hy := hyS j d hd hall
    obtain ⟨s', ⟨k', l', n', us'⟩, i'⟩ := d
    dsimp only at hy
    rw [tv_mk] at hy
    conv => whnf
    refine ⟨_, ⟨by omega, hdc⟩, ?_⟩
    conv => whnf
    refine ⟨show 6 ≤ 6 by decide, ?_⟩
    conv => whnf
    repeat (first | (refine And.intro rfl ?_; conv => whnf) | (refine And.intro (by decide) ?_; conv => whnf) | (refine draw_intro true (by kernel_rfl) ?_; conv => whnf) | (refine And.intro ⟨by omega, by omega⟩ ?_; conv => whnf) | (refine And.intro (by omega) ?_; conv => whnf) | (refine And.intro (fun _ => ⟨by omega, by omega⟩) ?_; conv => whnf) | (refine And.intro (of_decide_eq_true rfl) ?_; conv => whnf) | (refine And.intro (fun _ => ?_) (fun h => absurd h ?_); rotate_left; (focus (first | decide | (simp; done) | (simp [tcs]; done))); conv => whnf) | (refine And.intro (fun h => absurd h ?_) (fun _ => ?_); (focus (first | decide | (simp; done) | (simp [tcs]; done))); conv => whnf) | (intro _; conv => whnf))
    try (refine draw_intro true (by kernel_rfl) ?_; conv => whnf)
    refine YSt.use hy [1, 2] rfl ⟨rfl, rfl, trivial⟩ (by decide) rfl ?_
    rintro _ _ (⟨hg, rfl, rfl⟩ | ⟨hg, rfl, rfl⟩) _
    conv => whnf
    · repeat (first | (refine And.intro rfl ?_; conv => whnf) | (refine And.intro (by decide) ?_; conv => whnf) | (refine draw_intro true (by kernel_rfl) ?_; conv => whnf) | (refine And.intro ⟨by omega, by omega⟩ ?_; conv => whnf) | (refine And.intro (by omega) ?_; conv => whnf) | (refine And.intro (fun _ => ⟨by omega, by omega⟩) ?_; conv => whnf) | (refine And.intro (of_decide_eq_true rfl) ?_; conv => whnf) | (refine And.intro (fun _ => ?_) (fun h => absurd h ?_); rotate_left; (focus (first | decide | (simp; done) | (simp [tcs]; done))); conv => whnf) | (refine And.intro (fun h => absurd h ?_) (fun _ => ?_); (focus (first | decide | (simp; done) | (simp [tcs]; done))); conv => whnf) | (intro _; conv => whnf))
      refine ⟨m - 1, _, _, by omega, ⟨j + 1, by omega, fun i hi => ?_, rfl, rfl⟩, Wk.sel [0, 1, 2] (by decide) (by first | decide | (show (0 : Nat) ≤ _; decide) | (show ∀ i, i < 0 → _; decide) | (show (1 : Nat) ≤ _; decide) | (show ∀ i, i < 1 → _; decide) | (show (2 : Nat) ≤ _; decide) | (show ∀ i, i < 2 → _; decide) | (show (3 : Nat) ≤ _; decide) | (show ∀ i, i < 3 → _; decide) | (show (4 : Nat) ≤ _; decide) | (show ∀ i, i < 4 → _; decide) | (show (5 : Nat) ≤ _; decide) | (show ∀ i, i < 5 → _; decide) | (show (6 : Nat) ≤ _; decide) | (show ∀ i, i < 6 → _; decide) | (show (7 : Nat) ≤ _; decide) | (show ∀ i, i < 7 → _; decide)) (by first | decide | (show (0 : Nat) ≤ _; decide) | (show ∀ i, i < 0 → _; decide) | (show (1 : Nat) ≤ _; decide) | (show ∀ i, i < 1 → _; decide) | (show (2 : Nat) ≤ _; decide) | (show ∀ i, i < 2 → _; decide) | (show (3 : Nat) ≤ _; decide) | (show ∀ i, i < 3 → _; decide) | (show (4 : Nat) ≤ _; decide) | (show ∀ i, i < 4 → _; decide) | (show (5 : Nat) ≤ _; decide) | (show ∀ i, i < 5 → _; decide) | (show (6 : Nat) ≤ _; decide) | (show ∀ i, i < 6 → _; decide) | (show (7 : Nat) ≤ _; decide) | (show ∀ i, i < 7 → _; decide)) ⟨rfl, rfl, rfl, trivial⟩ ⟨rfl, rfl, rfl, rfl, rfl, trivial⟩ rfl⟩
      by_cases hij : i < j
      · exact hall i hij
      · obtain rfl : i = j := by omega
        exact hg
    · (refine ⟨fun _ => ?_, fun h => absurd h ?_⟩; rotate_left; (focus (first | decide | (simp; done) | (simp [tcs]; done))); conv => whnf)
      exact ⟨rfl, rfl, rfl, .inr ⟨⟨j, by omega, hg⟩, rfl⟩⟩
  · replace hc : ¬ (j : Int) < (dcs S).length := of_decide_eq_false hc
    obtain rfl : j = S.length := by omega
    conv => whnf
    repeat (first | (refine And.intro rfl ?_; conv => whnf) | (refine And.intro (by decide) ?_; conv => whnf) | (refine draw_intro true (by kernel_rfl) ?_; conv => whnf) | (refine And.intro ⟨by omega, by omega⟩ ?_; conv => whnf) | (refine And.intro (by omega) ?_; conv => whnf) | (refine And.intro (fun _ => ⟨by omega, by omega⟩) ?_; conv => whnf) | (refine And.intro (of_decide_eq_true rfl) ?_; conv => whnf) | (refine And.intro (fun _ => ?_) (fun h => absurd h ?_); rotate_left; (focus (first | decide | (simp; done) | (simp [tcs]; done))); conv => whnf) | (refine And.intro (fun h => absurd h ?_) (fun _ => ?_); (focus (first | decide | (simp; done) | (simp [tcs]; done))); conv => whnf) | (intro _; conv => whnf))
    refine loop_intro (fun m tm H => ∃ (j : Nat), X.length = m + j ∧ (∀ i, i < S.length + j → good i = true) ∧ tm = [(23, .c (.int .i64 (j))), (22, .c (.int .i64 ((tcs X).length))), (21, .c (.sl 4 48 (tcs X))), (0, .yv 2), (1, .ptr 0 0)] ∧
        H = [.box [.c (.sl 6 72 (dcs S)), .c (.sl 4 48 (tcs X)), .c (.int .i64 (k)), .c (.int .i64 (l)), .c (.int .i64 (n)), .c (.sl 4 48 (tcs ts)), .c (.int .i64 (k2)), .c (.int .i64 (l2)), .c (.int .i64 (n2)), .c (.sl 4 48 (tcs us))], .box [.c (.bool false)], .lrec .ready [(2, .ptr 1 0)] ps asg body])
      X.length _ _ ⟨0, by omega, hall, rfl, rfl⟩ (Wk.sel [0, 1, 2] (by decide) (by first | decide | (show (0 : Nat) ≤ _; decide) | (show ∀ i, i < 0 → _; decide) | (show (1 : Nat) ≤ _; decide) | (show ∀ i, i < 1 → _; decide) | (show (2 : Nat) ≤ _; decide) | (show ∀ i, i < 2 → _; decide) | (show (3 : Nat) ≤ _; decide) | (show ∀ i, i < 3 → _; decide) | (show (4 : Nat) ≤ _; decide) | (show ∀ i, i < 4 → _; decide) | (show (5 : Nat) ≤ _; decide) | (show ∀ i, i < 5 → _; decide) | (show (6 : Nat) ≤ _; decide) | (show ∀ i, i < 6 → _; decide) | (show (7 : Nat) ≤ _; decide) | (show ∀ i, i < 7 → _; decide)) (by first | decide | (show (0 : Nat) ≤ _; decide) | (show ∀ i, i < 0 → _; decide) | (show (1 : Nat) ≤ _; decide) | (show ∀ i, i < 1 → _; decide) | (show (2 : Nat) ≤ _; decide) | (show ∀ i, i < 2 → _; decide) | (show (3 : Nat) ≤ _; decide) | (show ∀ i, i < 3 → _; decide) | (show (4 : Nat) ≤ _; decide) | (show ∀ i, i < 4 → _; decide) | (show (5 : Nat) ≤ _; decide) | (show ∀ i, i < 5 → _; decide) | (show (6 : Nat) ≤ _; decide) | (show ∀ i, i < 6 → _; decide) | (show (7 : Nat) ≤ _; decide) | (show ∀ i, i < 7 → _; decide)) ⟨rfl, rfl, rfl, trivial⟩ ⟨rfl, rfl, rfl, rfl, rfl, trivial⟩ rfl) ?_
    rintro m tm H ⟨j, hj, hall, rfl, rfl⟩
    conv => whnf
    refine ⟨fun hc => ?_, fun hc => ?_⟩
    · replace hc : (j : Int) < (tcs X).length := of_decide_eq_true hc
      obtain ⟨u, hu⟩ : ∃ u, X[j]? = some u := ⟨X[j]'(by omega), List.getElem?_eq_getElem (by omega)⟩
      have huc := tcs_at X j u hu
      have hy := hyX j u hu hall
      obtain ⟨k', l', n', us'⟩ := u
      rw [tv_mk] at hy
      conv => whnf
      refine ⟨_, ⟨by omega, by simpa using huc⟩, ?_⟩
      conv => whnf
      refine ⟨Nat.le_refl 4, ?_⟩
      conv => whnf
      repeat (first | (refine And.intro rfl ?_; conv => whnf) | (refine And.intro (by decide) ?_; conv => whnf) | (refine draw_intro true (by kernel_rfl) ?_; conv => whnf) | (refine And.intro ⟨by omega, by omega⟩ ?_; conv => whnf) | (refine And.intro (by omega) ?_; conv => whnf) | (refine And.intro (fun _ => ⟨by omega, by omega⟩) ?_; conv => whnf) | (refine And.intro (of_decide_eq_true rfl) ?_; conv => whnf) | (refine And.intro (fun _ => ?_) (fun h => absurd h ?_); rotate_left; (focus (first | decide | (simp; done) | (simp [tcs]; done))); conv => whnf) | (refine And.intro (fun h => absurd h ?_) (fun _ => ?_); (focus (first | decide | (simp; done) | (simp [tcs]; done))); conv => whnf) | (intro _; conv => whnf))
      try (refine draw_intro true (by kernel_rfl) ?_; conv => whnf)
      refine YSt.use hy [1, 2] rfl ⟨rfl, rfl, trivial⟩ (by decide) rfl ?_
      rintro _ _ (⟨hg, rfl, rfl⟩ | ⟨hg, rfl, rfl⟩) _
      conv => whnf
      · repeat (first | (refine And.intro rfl ?_; conv => whnf) | (refine And.intro (by decide) ?_; conv => whnf) | (refine draw_intro true (by kernel_rfl) ?_; conv => whnf) | (refine And.intro ⟨by omega, by omega⟩ ?_; conv => whnf) | (refine And.intro (by omega) ?_; conv => whnf) | (refine And.intro (fun _ => ⟨by omega, by omega⟩) ?_; conv => whnf) | (refine And.intro (of_decide_eq_true rfl) ?_; conv => whnf) | (refine And.intro (fun _ => ?_) (fun h => absurd h ?_); rotate_left; (focus (first | decide | (simp; done) | (simp [tcs]; done))); conv => whnf) | (refine And.intro (fun h => absurd h ?_) (fun _ => ?_); (focus (first | decide | (simp; done) | (simp [tcs]; done))); conv => whnf) | (intro _; conv => whnf))
        refine ⟨m - 1, _, _, by omega, ⟨j + 1, by omega, fun i hi => ?_, rfl, rfl⟩, Wk.sel [0, 1, 2] (by decide) (by first | decide | (show (0 : Nat) ≤ _; decide) | (show ∀ i, i < 0 → _; decide) | (show (1 : Nat) ≤ _; decide) | (show ∀ i, i < 1 → _; decide) | (show (2 : Nat) ≤ _; decide) | (show ∀ i, i < 2 → _; decide) | (show (3 : Nat) ≤ _; decide) | (show ∀ i, i < 3 → _; decide) | (show (4 : Nat) ≤ _; decide) | (show ∀ i, i < 4 → _; decide) | (show (5 : Nat) ≤ _; decide) | (show ∀ i, i < 5 → _; decide) | (show (6 : Nat) ≤ _; decide) | (show ∀ i, i < 6 → _; decide) | (show (7 : Nat) ≤ _; decide) | (show ∀ i, i < 7 → _; decide)) (by first | decide | (show (0 : Nat) ≤ _; decide) | (show ∀ i, i < 0 → _; decide) | (show (1 : Nat) ≤ _; decide) | (show ∀ i, i < 1 → _; decide) | (show (2 : Nat) ≤ _; decide) | (show ∀ i, i < 2 → _; decide) | (show (3 : Nat) ≤ _; decide) | (show ∀ i, i < 3 → _; decide) | (show (4 : Nat) ≤ _; decide) | (show ∀ i, i < 4 → _; decide) | (show (5 : Nat) ≤ _; decide) | (show ∀ i, i < 5 → _; decide) | (show (6 : Nat) ≤ _; decide) | (show ∀ i, i < 6 → _; decide) | (show (7 : Nat) ≤ _; decide) | (show ∀ i, i < 7 → _; decide)) ⟨rfl, rfl, rfl, trivial⟩ ⟨rfl, rfl, rfl, rfl, rfl, trivial⟩ rfl⟩
        by_cases hij : i < S.length + j
        · exact hall i hij
        · obtain rfl : i = S.length + j := by omega
          exact hg
      · (refine ⟨fun _ => ?_, fun h => absurd h ?_⟩; rotate_left; (focus (first | decide | (simp; done) | (simp [tcs]; done))); conv => whnf)
        exact ⟨rfl, rfl, rfl, .inr ⟨⟨S.length + j, by omega, hg⟩, rfl⟩⟩
    · replace hc : ¬ (j : Int) < (tcs X).length := of_decide_eq_false hc
      obtain rfl : j = X.length := by omega
      have hyo := hyo hall
      conv => whnf
      try (refine draw_intro true (by kernel_rfl) ?_; conv => whnf)
      refine YSt.use hyo [1, 2] rfl ⟨rfl, rfl, trivial⟩ (by decide) rfl ?_
      rintro _ _ (⟨hg, rfl, rfl⟩ | ⟨hg, rfl, rfl⟩) _
      conv => whnf
      · (refine ⟨fun _ => ?_, fun h => absurd h ?_⟩; rotate_left; (focus (first | decide | (simp; done) | (simp [tcs]; done))); conv => whnf)
        have hyc := hyc (fun i hi => by
          by_cases hij : i < S.length + X.length
          · exact hall i hij
          · obtain rfl : i = S.length + X.length := by omega
            exact hg)
        try (refine draw_intro true (by kernel_rfl) ?_; conv => whnf)
        refine YSt.use hyc [1, 2] rfl ⟨rfl, rfl, trivial⟩ (by decide) rfl ?_
        rintro _ _ (⟨hg2, rfl, rfl⟩ | ⟨hg2, rfl, rfl⟩) _
        conv => whnf
        · refine ⟨rfl, rfl, rfl, .inl ⟨fun i hi => ?_, rfl⟩⟩
          by_cases hij : i < S.length + X.length
          · exact hall i hij
          · by_cases hij2 : i = S.length + X.length
            · rw [hij2]; exact hg
            · obtain rfl : i = S.length + X.length + 1 := by omega
              exact hg2
        · exact ⟨rfl, rfl, rfl, .inr ⟨⟨S.length + X.length + 1, by omega, hg2⟩, rfl⟩⟩
      · (refine ⟨fun h => absurd h ?_, fun _ => ?_⟩; (focus (first | decide | (simp; done) | (simp [tcs]; done))); conv => whnf)
        exact ⟨rfl, rfl, rfl, .inr ⟨⟨S.length + X.length, by omega, hg⟩, rfl⟩⟩
/-- A well built certificate. -/
def builtB (c : Crt) : Bool := decide (c.X.length ≤ 30) && checkB c.S && (crl c).all closedT
theorem cBuilt (c : Crt) : CallSt Try.prog 23 [crv c] [] (fun r H' => r = .c (.bool (builtB c)) ∧ H' = []) := by
  have hti := cTermsI c
  have hck := cCheck c.S
  have hxl := len_tcs c.X
  by_cases hX : c.X.length ≤ 30
  · cases hcb : checkB c.S with
    | false =>
      rw [show builtB c = false by simp [builtB, hcb]]
      rw [hcb] at hck
      obtain ⟨S, X, ⟨k, l, n, ts⟩, ⟨k2, l2, n2, us⟩⟩ := c
      unfold crv at *
      dsimp only [Term.k, Term.l, Term.n, Term.ts] at *
      have e : decide ((30 : Int) < (tcs X).length) = false := decide_eq_false (by omega)
      refine call_pure (E := env 0) (fn := Try.f23) (c := bodyOf Try.f23) (env_ok 0) mixed (by kernel_rfl) (by kernel_rfl) (by kernel_rfl) (by kernel_rfl) (by kernel_rfl) (by kernel_rfl) rfl ?_
      conv => whnf
      repeat (first | (refine And.intro rfl ?_; conv => whnf) | (refine And.intro (by decide) ?_; conv => whnf) | (refine draw_intro true (by kernel_rfl) ?_; conv => whnf) | (refine And.intro ⟨by omega, by omega⟩ ?_; conv => whnf) | (refine And.intro (by omega) ?_; conv => whnf) | (refine And.intro (fun _ => ⟨by omega, by omega⟩) ?_; conv => whnf) | (refine And.intro (of_decide_eq_true rfl) ?_; conv => whnf) | (refine And.intro (fun _ => ?_) (fun h => absurd h ?_); rotate_left; (focus (first | decide | (simp; done) | (simp [tcs]; done))); conv => whnf) | (refine And.intro (fun h => absurd h ?_) (fun _ => ?_); (focus (first | decide | (simp; done) | (simp [tcs]; done))); conv => whnf) | (intro _; conv => whnf))
      rw [e]
      (refine ⟨fun _ => ?_, fun h => absurd h ?_⟩; rotate_left; (focus (first | decide | (simp; done) | (simp [tcs]; done))); conv => whnf)
      try (refine draw_intro true (by kernel_rfl) ?_; conv => whnf)
      first | refine CallSt.use hck [] trivial (by decide) rfl ?_ | refine CallPt.useS hck [] trivial (by decide) rfl ?_
      rintro _ _ ⟨rfl, rfl⟩ _
      conv => whnf
      repeat (first | (refine And.intro rfl ?_; conv => whnf) | (refine And.intro (by decide) ?_; conv => whnf) | (refine draw_intro true (by kernel_rfl) ?_; conv => whnf) | (refine And.intro ⟨by omega, by omega⟩ ?_; conv => whnf) | (refine And.intro (by omega) ?_; conv => whnf) | (refine And.intro (fun _ => ⟨by omega, by omega⟩) ?_; conv => whnf) | (refine And.intro (of_decide_eq_true rfl) ?_; conv => whnf) | (refine And.intro (fun _ => ?_) (fun h => absurd h ?_); rotate_left; (focus (first | decide | (simp; done) | (simp [tcs]; done))); conv => whnf) | (refine And.intro (fun h => absurd h ?_) (fun _ => ?_); (focus (first | decide | (simp; done) | (simp [tcs]; done))); conv => whnf) | (intro _; conv => whnf))
      rfl
    | true =>
      have hS : c.S.length ≤ 100 := by unfold checkB at hcb; simp only [Bool.and_eq_true] at hcb; exact of_decide_eq_true hcb.1
      rw [hcb] at hck
      have hIt := fun {ps} {asg} {body} => @cTermsG ps asg body c (by omega) (by omega) (fun n => match (crl c)[n]? with | some t => closedT t | none => true)
      have hbl : builtB c = (crl c).all closedT := by simp [builtB, hcb, hX]
      rw [hbl]
      generalize crl c = q at *
      obtain ⟨S, X, ⟨k, l, n, ts⟩, ⟨k2, l2, n2, us⟩⟩ := c
      unfold crv at *
      dsimp only [Term.k, Term.l, Term.n, Term.ts] at *
      have e : decide ((30 : Int) < (tcs X).length) = false := decide_eq_false (by omega)
      refine call_pure (E := env 0) (fn := Try.f23) (c := bodyOf Try.f23) (env_ok 0) mixed (by kernel_rfl) (by kernel_rfl) (by kernel_rfl) (by kernel_rfl) (by kernel_rfl) (by kernel_rfl) rfl ?_
      conv => whnf
      repeat (first | (refine And.intro rfl ?_; conv => whnf) | (refine And.intro (by decide) ?_; conv => whnf) | (refine draw_intro true (by kernel_rfl) ?_; conv => whnf) | (refine And.intro ⟨by omega, by omega⟩ ?_; conv => whnf) | (refine And.intro (by omega) ?_; conv => whnf) | (refine And.intro (fun _ => ⟨by omega, by omega⟩) ?_; conv => whnf) | (refine And.intro (of_decide_eq_true rfl) ?_; conv => whnf) | (refine And.intro (fun _ => ?_) (fun h => absurd h ?_); rotate_left; (focus (first | decide | (simp; done) | (simp [tcs]; done))); conv => whnf) | (refine And.intro (fun h => absurd h ?_) (fun _ => ?_); (focus (first | decide | (simp; done) | (simp [tcs]; done))); conv => whnf) | (intro _; conv => whnf))
      rw [e]
      (refine ⟨fun _ => ?_, fun h => absurd h ?_⟩; rotate_left; (focus (first | decide | (simp; done) | (simp [tcs]; done))); conv => whnf)
      try (refine draw_intro true (by kernel_rfl) ?_; conv => whnf)
      first | refine CallSt.use hck [] trivial (by decide) rfl ?_ | refine CallPt.useS hck [] trivial (by decide) rfl ?_
      rintro _ _ ⟨rfl, rfl⟩ _
      conv => whnf
      repeat (first | (refine And.intro rfl ?_; conv => whnf) | (refine And.intro (by decide) ?_; conv => whnf) | (refine draw_intro true (by kernel_rfl) ?_; conv => whnf) | (refine And.intro ⟨by omega, by omega⟩ ?_; conv => whnf) | (refine And.intro (by omega) ?_; conv => whnf) | (refine And.intro (fun _ => ⟨by omega, by omega⟩) ?_; conv => whnf) | (refine And.intro (of_decide_eq_true rfl) ?_; conv => whnf) | (refine And.intro (fun _ => ?_) (fun h => absurd h ?_); rotate_left; (focus (first | decide | (simp; done) | (simp [tcs]; done))); conv => whnf) | (refine And.intro (fun h => absurd h ?_) (fun _ => ?_); (focus (first | decide | (simp; done) | (simp [tcs]; done))); conv => whnf) | (intro _; conv => whnf))
      try (refine draw_intro true (by kernel_rfl) ?_; conv => whnf)
      first | refine CallSt.use hti [] trivial (by decide) rfl ?_ | refine CallPt.useS hti [] trivial (by decide) rfl ?_
      rintro _ _ ⟨rfl, rfl⟩ _
      conv => whnf
      repeat (first | (refine And.intro rfl ?_; conv => whnf) | (refine And.intro (by decide) ?_; conv => whnf) | (refine draw_intro true (by kernel_rfl) ?_; conv => whnf) | (refine And.intro ⟨by omega, by omega⟩ ?_; conv => whnf) | (refine And.intro (by omega) ?_; conv => whnf) | (refine And.intro (fun _ => ⟨by omega, by omega⟩) ?_; conv => whnf) | (refine And.intro (of_decide_eq_true rfl) ?_; conv => whnf) | (refine And.intro (fun _ => ?_) (fun h => absurd h ?_); rotate_left; (focus (first | decide | (simp; done) | (simp [tcs]; done))); conv => whnf) | (refine And.intro (fun h => absurd h ?_) (fun _ => ?_); (focus (first | decide | (simp; done) | (simp [tcs]; done))); conv => whnf) | (intro _; conv => whnf))
      refine CallSt.wkl 3 [(2, .ptr 1 0)] rfl (subTM_lk ⟨rfl, trivial⟩) ?_
      refine CallSt.use (hIt ?_) [2, 1, 3] ⟨rfl, rfl, rfl, trivial⟩ (by decide) rfl ?_
      · intro n t ht _
        have hcl := cIsClosed t
        rw [ht]
        dsimp only
        generalize closedT t = b at *
        obtain ⟨k', l', n', us'⟩ := t
        rw [tv_mk] at *
        refine y_intro (E := envY 2) (envY_ok 2) mixed rfl rfl (i := 1) rfl rfl rfl ?_
        conv => whnf
        repeat (first | (refine And.intro rfl ?_; conv => whnf) | (refine And.intro (by decide) ?_; conv => whnf) | (refine draw_intro true (by kernel_rfl) ?_; conv => whnf) | (refine And.intro ⟨by omega, by omega⟩ ?_; conv => whnf) | (refine And.intro (by omega) ?_; conv => whnf) | (refine And.intro (fun _ => ⟨by omega, by omega⟩) ?_; conv => whnf) | (refine And.intro (of_decide_eq_true rfl) ?_; conv => whnf) | (refine And.intro (fun _ => ?_) (fun h => absurd h ?_); rotate_left; (focus (first | decide | (simp; done) | (simp [tcs]; done))); conv => whnf) | (refine And.intro (fun h => absurd h ?_) (fun _ => ?_); (focus (first | decide | (simp; done) | (simp [tcs]; done))); conv => whnf) | (intro _; conv => whnf))
        try (refine draw_intro true (by kernel_rfl) ?_; conv => whnf)
        first | refine CallSt.use hcl [] trivial (by decide) rfl ?_ | refine CallPt.useS hcl [] trivial (by decide) rfl ?_
        rintro _ _ ⟨rfl, rfl⟩ _
        conv => whnf
        repeat (first | (refine And.intro rfl ?_; conv => whnf) | (refine And.intro (by decide) ?_; conv => whnf) | (refine draw_intro true (by kernel_rfl) ?_; conv => whnf) | (refine And.intro ⟨by omega, by omega⟩ ?_; conv => whnf) | (refine And.intro (by omega) ?_; conv => whnf) | (refine And.intro (fun _ => ⟨by omega, by omega⟩) ?_; conv => whnf) | (refine And.intro (of_decide_eq_true rfl) ?_; conv => whnf) | (refine And.intro (fun _ => ?_) (fun h => absurd h ?_); rotate_left; (focus (first | decide | (simp; done) | (simp [tcs]; done))); conv => whnf) | (refine And.intro (fun h => absurd h ?_) (fun _ => ?_); (focus (first | decide | (simp; done) | (simp [tcs]; done))); conv => whnf) | (intro _; conv => whnf))
        cases b with
        | true =>
          (refine ⟨fun h => absurd h ?_, fun _ => ?_⟩; (focus (first | decide | (simp; done) | (simp [tcs]; done))); conv => whnf)
          repeat (first | (refine And.intro rfl ?_; conv => whnf) | (refine And.intro (by decide) ?_; conv => whnf) | (refine draw_intro true (by kernel_rfl) ?_; conv => whnf) | (refine And.intro ⟨by omega, by omega⟩ ?_; conv => whnf) | (refine And.intro (by omega) ?_; conv => whnf) | (refine And.intro (fun _ => ⟨by omega, by omega⟩) ?_; conv => whnf) | (refine And.intro (of_decide_eq_true rfl) ?_; conv => whnf) | (refine And.intro (fun _ => ?_) (fun h => absurd h ?_); rotate_left; (focus (first | decide | (simp; done) | (simp [tcs]; done))); conv => whnf) | (refine And.intro (fun h => absurd h ?_) (fun _ => ?_); (focus (first | decide | (simp; done) | (simp [tcs]; done))); conv => whnf) | (intro _; conv => whnf))
          exact .inl ⟨rfl, rfl, rfl⟩
        | false =>
          (refine ⟨fun _ => ?_, fun h => absurd h ?_⟩; rotate_left; (focus (first | decide | (simp; done) | (simp [tcs]; done))); conv => whnf)
          repeat (first | (refine And.intro rfl ?_; conv => whnf) | (refine And.intro (by decide) ?_; conv => whnf) | (refine draw_intro true (by kernel_rfl) ?_; conv => whnf) | (refine And.intro ⟨by omega, by omega⟩ ?_; conv => whnf) | (refine And.intro (by omega) ?_; conv => whnf) | (refine And.intro (fun _ => ⟨by omega, by omega⟩) ?_; conv => whnf) | (refine And.intro (of_decide_eq_true rfl) ?_; conv => whnf) | (refine And.intro (fun _ => ?_) (fun h => absurd h ?_); rotate_left; (focus (first | decide | (simp; done) | (simp [tcs]; done))); conv => whnf) | (refine And.intro (fun h => absurd h ?_) (fun _ => ?_); (focus (first | decide | (simp; done) | (simp [tcs]; done))); conv => whnf) | (intro _; conv => whnf))
          exact .inr ⟨rfl, rfl, rfl⟩
      rintro _ _ ⟨rfl, (⟨hall, rfl⟩ | ⟨⟨n, hn, hg⟩, rfl⟩)⟩ _
      · have hq : q.all closedT = true := by
          rw [List.all_eq_true]
          intro t ht
          obtain ⟨i, hi⟩ := List.mem_iff_getElem?.1 ht
          have := hall i (List.getElem?_eq_some_iff.1 hi).1
          rw [hi] at this
          exact this
        rw [hq]
        conv => whnf
        repeat (first | (refine And.intro rfl ?_; conv => whnf) | (refine And.intro (by decide) ?_; conv => whnf) | (refine draw_intro true (by kernel_rfl) ?_; conv => whnf) | (refine And.intro ⟨by omega, by omega⟩ ?_; conv => whnf) | (refine And.intro (by omega) ?_; conv => whnf) | (refine And.intro (fun _ => ⟨by omega, by omega⟩) ?_; conv => whnf) | (refine And.intro (of_decide_eq_true rfl) ?_; conv => whnf) | (refine And.intro (fun _ => ?_) (fun h => absurd h ?_); rotate_left; (focus (first | decide | (simp; done) | (simp [tcs]; done))); conv => whnf) | (refine And.intro (fun h => absurd h ?_) (fun _ => ?_); (focus (first | decide | (simp; done) | (simp [tcs]; done))); conv => whnf) | (intro _; conv => whnf))
        all_goals (first | rfl | exact ⟨rfl, rfl⟩ | exact ⟨rfl, rfl, rfl⟩)
      · have hq : q.all closedT = false := by
          rw [List.all_eq_false]
          rw [List.getElem?_eq_getElem hn] at hg
          have hg2 : closedT q[n] = false := hg
          exact ⟨q[n], List.getElem_mem hn, by rw [hg2]; simp⟩
        rw [hq]
        conv => whnf
        repeat (first | (refine And.intro rfl ?_; conv => whnf) | (refine And.intro (by decide) ?_; conv => whnf) | (refine draw_intro true (by kernel_rfl) ?_; conv => whnf) | (refine And.intro ⟨by omega, by omega⟩ ?_; conv => whnf) | (refine And.intro (by omega) ?_; conv => whnf) | (refine And.intro (fun _ => ⟨by omega, by omega⟩) ?_; conv => whnf) | (refine And.intro (of_decide_eq_true rfl) ?_; conv => whnf) | (refine And.intro (fun _ => ?_) (fun h => absurd h ?_); rotate_left; (focus (first | decide | (simp; done) | (simp [tcs]; done))); conv => whnf) | (refine And.intro (fun h => absurd h ?_) (fun _ => ?_); (focus (first | decide | (simp; done) | (simp [tcs]; done))); conv => whnf) | (intro _; conv => whnf))
        all_goals (first | rfl | exact ⟨rfl, rfl⟩ | exact ⟨rfl, rfl, rfl⟩)
  · rw [show builtB c = false by simp [builtB, hX]]
    obtain ⟨S, X, ⟨k, l, n, ts⟩, ⟨k2, l2, n2, us⟩⟩ := c
    unfold crv at *
    dsimp only [Term.k, Term.l, Term.n, Term.ts] at *
    have e : decide ((30 : Int) < (tcs X).length) = true := decide_eq_true (by omega)
    refine call_pure (E := env 0) (fn := Try.f23) (c := bodyOf Try.f23) (env_ok 0) mixed (by kernel_rfl) (by kernel_rfl) (by kernel_rfl) (by kernel_rfl) (by kernel_rfl) (by kernel_rfl) rfl ?_
    conv => whnf
    repeat (first | (refine And.intro rfl ?_; conv => whnf) | (refine And.intro (by decide) ?_; conv => whnf) | (refine draw_intro true (by kernel_rfl) ?_; conv => whnf) | (refine And.intro ⟨by omega, by omega⟩ ?_; conv => whnf) | (refine And.intro (by omega) ?_; conv => whnf) | (refine And.intro (fun _ => ⟨by omega, by omega⟩) ?_; conv => whnf) | (refine And.intro (of_decide_eq_true rfl) ?_; conv => whnf) | (refine And.intro (fun _ => ?_) (fun h => absurd h ?_); rotate_left; (focus (first | decide | (simp; done) | (simp [tcs]; done))); conv => whnf) | (refine And.intro (fun h => absurd h ?_) (fun _ => ?_); (focus (first | decide | (simp; done) | (simp [tcs]; done))); conv => whnf) | (intro _; conv => whnf))
    rw [e]
    (refine ⟨fun h => absurd h ?_, fun _ => ?_⟩; (focus (first | decide | (simp; done) | (simp [tcs]; done))); conv => whnf)
    repeat (first | (refine And.intro rfl ?_; conv => whnf) | (refine And.intro (by decide) ?_; conv => whnf) | (refine draw_intro true (by kernel_rfl) ?_; conv => whnf) | (refine And.intro ⟨by omega, by omega⟩ ?_; conv => whnf) | (refine And.intro (by omega) ?_; conv => whnf) | (refine And.intro (fun _ => ⟨by omega, by omega⟩) ?_; conv => whnf) | (refine And.intro (of_decide_eq_true rfl) ?_; conv => whnf) | (refine And.intro (fun _ => ?_) (fun h => absurd h ?_); rotate_left; (focus (first | decide | (simp; done) | (simp [tcs]; done))); conv => whnf) | (refine And.intro (fun h => absurd h ?_) (fun _ => ?_); (focus (first | decide | (simp; done) | (simp [tcs]; done))); conv => whnf) | (intro _; conv => whnf))
    rfl
end Go.Tr
/- cert: Sum of both sides, sealed, Seal. -/
namespace Go.Tr
open Go.Proofs
def sumF : List UInt8 → Int × Int → Int × Int
  | [], p => p
  | x :: r, p => sumF r ((p.1 + (x.toNat : Int)) % 65521, (p.2 + (p.1 + (x.toNat : Int)) % 65521) % 65521)
theorem sumF_bd : ∀ (l : List UInt8) (p : Int × Int), (0 ≤ p.1 ∧ p.1 < 65521) ∧ (0 ≤ p.2 ∧ p.2 < 65521) → (0 ≤ (sumF l p).1 ∧ (sumF l p).1 < 65521) ∧ (0 ≤ (sumF l p).2 ∧ (sumF l p).2 < 65521)
  | [], p, h => h
  | x :: r, p, h => by
    rw [sumF]
    exact sumF_bd r _ ⟨⟨Int.emod_nonneg _ (by decide), Int.emod_lt_of_pos _ (by decide)⟩, Int.emod_nonneg _ (by decide), Int.emod_lt_of_pos _ (by decide)⟩
/-- The sum of bytes. -/
def sumI (l : List UInt8) : Int := (sumF l (1, 0)).2 * 65536 + (sumF l (1, 0)).1
theorem sumI_bd (l : List UInt8) : 0 ≤ sumI l ∧ sumI l < 4294967296 := by
  have := sumF_bd l (1, 0) (by decide)
  unfold sumI
  omega
theorem i64_wrap {x : Int} (h : -9223372036854775808 ≤ x ∧ x ≤ 9223372036854775807) : IntKind.i64.wrap x = x := wrap_in h
theorem shl16 {b : Int} (h : 0 ≤ b ∧ b < 65521) : IntKind.i64.wrap (b * 2 ^ (min (16 : Int).toNat 64)) = b * 65536 := by
  rw [show (2 : Int) ^ (min (16 : Int).toNat 64) = 65536 by decide]
  exact i64_wrap (by omega)
theorem cSum (s : ByteArray) (hss : s.size ≤ 1000000000) : CallSt Try.prog 15 [.c (.str s)] [] (fun r H' => r = .c (.int .i64 (sumI s.data.toList)) ∧ H' = []) := by
  have hsz : s.data.toList.length = s.size := by rw [Array.length_toList]; rfl
  have hbd := sumF_bd s.data.toList (1, 0) (by decide)
  unfold sumI
  refine call_pure (E := env 0) (fn := Try.f15) (c := bodyOf Try.f15) (env_ok 0) mixed (by kernel_rfl) (by kernel_rfl) (by kernel_rfl) (by kernel_rfl) (by kernel_rfl) (by kernel_rfl) rfl ?_
  conv => whnf
  repeat (first | (refine And.intro rfl ?_; conv => whnf) | (refine And.intro (by decide) ?_; conv => whnf) | (refine draw_intro true (by kernel_rfl) ?_; conv => whnf) | (refine And.intro ⟨by omega, by omega⟩ ?_; conv => whnf) | (refine And.intro (by omega) ?_; conv => whnf) | (refine And.intro (fun _ => ⟨by omega, by omega⟩) ?_; conv => whnf) | (refine And.intro (of_decide_eq_true rfl) ?_; conv => whnf) | (refine And.intro (fun _ => ?_) (fun h => absurd h ?_); rotate_left; (focus (first | decide | (simp; done) | (simp [tcs]; done))); conv => whnf) | (refine And.intro (fun h => absurd h ?_) (fun _ => ?_); (focus (first | decide | (simp; done) | (simp [tcs]; done))); conv => whnf) | (intro _; conv => whnf))
  refine loop_intro (fun m tm H => ∃ (j : Nat) (a b : Int), s.size = m + j ∧ sumF (s.data.toList.drop j) (a, b) = sumF s.data.toList (1, 0) ∧ ((0 ≤ a ∧ a < 65521) ∧ (0 ≤ b ∧ b < 65521)) ∧
      tm = [(8, .c (.int .i64 (j))), (7, .c (.int .i64 (s.size))), (0, .c (.str s)), (3, .c (.int .i64 (a))), (4, .c (.int .i64 (b)))] ∧ H = [])
    s.size _ _ ⟨0, 1, 0, by omega, rfl, by decide, rfl, rfl⟩ (Wk.sel [] (by decide) (by first | decide | (show (0 : Nat) ≤ _; decide) | (show ∀ i, i < 0 → _; decide) | (show (1 : Nat) ≤ _; decide) | (show ∀ i, i < 1 → _; decide) | (show (2 : Nat) ≤ _; decide) | (show ∀ i, i < 2 → _; decide) | (show (3 : Nat) ≤ _; decide) | (show ∀ i, i < 3 → _; decide) | (show (4 : Nat) ≤ _; decide) | (show ∀ i, i < 4 → _; decide) | (show (5 : Nat) ≤ _; decide) | (show ∀ i, i < 5 → _; decide) | (show (6 : Nat) ≤ _; decide) | (show ∀ i, i < 6 → _; decide) | (show (7 : Nat) ≤ _; decide) | (show ∀ i, i < 7 → _; decide)) (by first | decide | (show (0 : Nat) ≤ _; decide) | (show ∀ i, i < 0 → _; decide) | (show (1 : Nat) ≤ _; decide) | (show ∀ i, i < 1 → _; decide) | (show (2 : Nat) ≤ _; decide) | (show ∀ i, i < 2 → _; decide) | (show (3 : Nat) ≤ _; decide) | (show ∀ i, i < 3 → _; decide) | (show (4 : Nat) ≤ _; decide) | (show ∀ i, i < 4 → _; decide) | (show (5 : Nat) ≤ _; decide) | (show ∀ i, i < 5 → _; decide) | (show (6 : Nat) ≤ _; decide) | (show ∀ i, i < 6 → _; decide) | (show (7 : Nat) ≤ _; decide) | (show ∀ i, i < 7 → _; decide)) trivial ⟨rfl, rfl, rfl, rfl, rfl, trivial⟩ rfl) ?_
  rintro m tm H ⟨j, a, b, hj, hs, hab, rfl, rfl⟩
  conv => whnf
  refine ⟨fun hc => ?_, fun hc => ?_⟩
  · replace hc : (j : Int) < s.size := of_decide_eq_true hc
    have hlt : j < s.data.toList.length := by omega
    obtain ⟨x, hx⟩ : ∃ x, s.data.toList[j]? = some x := ⟨_, List.getElem?_eq_getElem hlt⟩
    have hxb : 0 ≤ (x.toNat : Int) ∧ (x.toNat : Int) < 256 := ⟨by omega, by have := x.toNat_lt; omega⟩
    rw [drop_at hx, sumF] at hs
    have hgd : s.data.toList.getD (Int.toNat j) 0 = x := by rw [Int.toNat_natCast, List.getD_eq_getElem?_getD, hx]; rfl
    have e1 : (a + (x.toNat : Int)).tmod 65521 = (a + (x.toNat : Int)) % 65521 := Int.tmod_eq_emod_of_nonneg (by omega)
    have hm1 := Int.emod_nonneg (a + (x.toNat : Int)) (show (65521 : Int) ≠ 0 by decide)
    have hm2 := Int.emod_lt_of_pos (a + (x.toNat : Int)) (show (0 : Int) < 65521 by decide)
    have e2 : (b + (a + (x.toNat : Int)) % 65521).tmod 65521 = (b + (a + (x.toNat : Int)) % 65521) % 65521 := Int.tmod_eq_emod_of_nonneg (by omega)
    have e3 : IntKind.i64.wrap (x.toNat : Int) = x.toNat := i64_wrap (by omega)
    dsimp only at hs
    conv => whnf
    repeat (first | (refine And.intro rfl ?_; conv => whnf) | (refine And.intro (by decide) ?_; conv => whnf) | (refine draw_intro true (by kernel_rfl) ?_; conv => whnf) | (refine And.intro ⟨by omega, by omega⟩ ?_; conv => whnf) | (refine And.intro (by omega) ?_; conv => whnf) | (refine And.intro (fun _ => ⟨by omega, by omega⟩) ?_; conv => whnf) | (refine And.intro (of_decide_eq_true rfl) ?_; conv => whnf) | (refine And.intro (fun _ => ?_) (fun h => absurd h ?_); rotate_left; (focus (first | decide | (simp; done) | (simp [tcs]; done))); conv => whnf) | (refine And.intro (fun h => absurd h ?_) (fun _ => ?_); (focus (first | decide | (simp; done) | (simp [tcs]; done))); conv => whnf) | (intro _; conv => whnf))
    rw [hgd, e3]
    refine ⟨⟨by omega, by omega⟩, ?_⟩
    conv => whnf
    refine ⟨show (65521 : Int) ≠ 0 by decide, ?_⟩
    conv => whnf
    rw [e1]
    conv => whnf
    refine ⟨⟨by omega, by omega⟩, ?_⟩
    conv => whnf
    refine ⟨show (65521 : Int) ≠ 0 by decide, ?_⟩
    conv => whnf
    rw [e2]
    conv => whnf
    repeat (first | (refine And.intro rfl ?_; conv => whnf) | (refine And.intro (by decide) ?_; conv => whnf) | (refine draw_intro true (by kernel_rfl) ?_; conv => whnf) | (refine And.intro ⟨by omega, by omega⟩ ?_; conv => whnf) | (refine And.intro (by omega) ?_; conv => whnf) | (refine And.intro (fun _ => ⟨by omega, by omega⟩) ?_; conv => whnf) | (refine And.intro (of_decide_eq_true rfl) ?_; conv => whnf) | (refine And.intro (fun _ => ?_) (fun h => absurd h ?_); rotate_left; (focus (first | decide | (simp; done) | (simp [tcs]; done))); conv => whnf) | (refine And.intro (fun h => absurd h ?_) (fun _ => ?_); (focus (first | decide | (simp; done) | (simp [tcs]; done))); conv => whnf) | (intro _; conv => whnf))
    refine ⟨m - 1, _, _, by omega, ⟨j + 1, _, _, by omega, hs, ⟨⟨hm1, hm2⟩, Int.emod_nonneg _ (by decide), Int.emod_lt_of_pos _ (by decide)⟩, rfl, rfl⟩, Wk.sel [] (by decide) (by first | decide | (show (0 : Nat) ≤ _; decide) | (show ∀ i, i < 0 → _; decide) | (show (1 : Nat) ≤ _; decide) | (show ∀ i, i < 1 → _; decide) | (show (2 : Nat) ≤ _; decide) | (show ∀ i, i < 2 → _; decide) | (show (3 : Nat) ≤ _; decide) | (show ∀ i, i < 3 → _; decide) | (show (4 : Nat) ≤ _; decide) | (show ∀ i, i < 4 → _; decide) | (show (5 : Nat) ≤ _; decide) | (show ∀ i, i < 5 → _; decide) | (show (6 : Nat) ≤ _; decide) | (show ∀ i, i < 6 → _; decide) | (show (7 : Nat) ≤ _; decide) | (show ∀ i, i < 7 → _; decide)) (by first | decide | (show (0 : Nat) ≤ _; decide) | (show ∀ i, i < 0 → _; decide) | (show (1 : Nat) ≤ _; decide) | (show ∀ i, i < 1 → _; decide) | (show (2 : Nat) ≤ _; decide) | (show ∀ i, i < 2 → _; decide) | (show (3 : Nat) ≤ _; decide) | (show ∀ i, i < 3 → _; decide) | (show (4 : Nat) ≤ _; decide) | (show ∀ i, i < 4 → _; decide) | (show (5 : Nat) ≤ _; decide) | (show ∀ i, i < 5 → _; decide) | (show (6 : Nat) ≤ _; decide) | (show ∀ i, i < 6 → _; decide) | (show (7 : Nat) ≤ _; decide) | (show ∀ i, i < 7 → _; decide)) trivial ⟨rfl, rfl, rfl, rfl, rfl, trivial⟩ rfl⟩
  · replace hc : ¬ (j : Int) < s.size := of_decide_eq_false hc
    obtain rfl : j = s.size := by omega
    rw [List.drop_eq_nil_of_le (by omega), sumF] at hs
    rw [← hs]
    conv => whnf
    refine ⟨show (0 : Int) ≤ 16 by decide, ?_⟩
    conv => whnf
    rw [shl16 hab.2]
    conv => whnf
    refine ⟨⟨by omega, by omega⟩, ?_⟩
    conv => whnf
    repeat (first | (refine And.intro rfl ?_; conv => whnf) | (refine And.intro (by decide) ?_; conv => whnf) | (refine draw_intro true (by kernel_rfl) ?_; conv => whnf) | (refine And.intro ⟨by omega, by omega⟩ ?_; conv => whnf) | (refine And.intro (by omega) ?_; conv => whnf) | (refine And.intro (fun _ => ⟨by omega, by omega⟩) ?_; conv => whnf) | (refine And.intro (of_decide_eq_true rfl) ?_; conv => whnf) | (refine And.intro (fun _ => ?_) (fun h => absurd h ?_); rotate_left; (focus (first | decide | (simp; done) | (simp [tcs]; done))); conv => whnf) | (refine And.intro (fun h => absurd h ?_) (fun _ => ?_); (focus (first | decide | (simp; done) | (simp [tcs]; done))); conv => whnf) | (intro _; conv => whnf))
    all_goals (first | rfl | exact ⟨rfl, rfl⟩ | exact ⟨rfl, rfl, rfl⟩)
theorem cRSum (s : ByteArray) (hss : s.size ≤ 1000000000) : CallSt Try.prog 16 [.c (.str s)] [] (fun r H' => r = .c (.int .i64 (sumI s.data.toList)) ∧ H' = []) := by
  have hsz : s.data.toList.length = s.size := by rw [Array.length_toList]; rfl
  have hbd := sumF_bd s.data.toList (1, 0) (by decide)
  unfold sumI
  refine call_pure (E := env 0) (fn := Try.f16) (c := bodyOf Try.f16) (env_ok 0) mixed (by kernel_rfl) (by kernel_rfl) (by kernel_rfl) (by kernel_rfl) (by kernel_rfl) (by kernel_rfl) rfl ?_
  conv => whnf
  repeat (first | (refine And.intro rfl ?_; conv => whnf) | (refine And.intro (by decide) ?_; conv => whnf) | (refine draw_intro true (by kernel_rfl) ?_; conv => whnf) | (refine And.intro ⟨by omega, by omega⟩ ?_; conv => whnf) | (refine And.intro (by omega) ?_; conv => whnf) | (refine And.intro (fun _ => ⟨by omega, by omega⟩) ?_; conv => whnf) | (refine And.intro (of_decide_eq_true rfl) ?_; conv => whnf) | (refine And.intro (fun _ => ?_) (fun h => absurd h ?_); rotate_left; (focus (first | decide | (simp; done) | (simp [tcs]; done))); conv => whnf) | (refine And.intro (fun h => absurd h ?_) (fun _ => ?_); (focus (first | decide | (simp; done) | (simp [tcs]; done))); conv => whnf) | (intro _; conv => whnf))
  refine loop_intro (fun m tm H => ∃ (j : Nat) (a b : Int), s.size = m + j ∧ sumF (s.data.toList.drop j) (a, b) = sumF s.data.toList (1, 0) ∧ ((0 ≤ a ∧ a < 65521) ∧ (0 ≤ b ∧ b < 65521)) ∧
      tm = [(5, .c (.int .i64 (j))), (0, .c (.str s)), (3, .c (.int .i64 (a))), (4, .c (.int .i64 (b)))] ∧ H = [])
    s.size _ _ ⟨0, 1, 0, by omega, rfl, by decide, rfl, rfl⟩ (Wk.sel [] (by decide) (by first | decide | (show (0 : Nat) ≤ _; decide) | (show ∀ i, i < 0 → _; decide) | (show (1 : Nat) ≤ _; decide) | (show ∀ i, i < 1 → _; decide) | (show (2 : Nat) ≤ _; decide) | (show ∀ i, i < 2 → _; decide) | (show (3 : Nat) ≤ _; decide) | (show ∀ i, i < 3 → _; decide) | (show (4 : Nat) ≤ _; decide) | (show ∀ i, i < 4 → _; decide) | (show (5 : Nat) ≤ _; decide) | (show ∀ i, i < 5 → _; decide) | (show (6 : Nat) ≤ _; decide) | (show ∀ i, i < 6 → _; decide) | (show (7 : Nat) ≤ _; decide) | (show ∀ i, i < 7 → _; decide)) (by first | decide | (show (0 : Nat) ≤ _; decide) | (show ∀ i, i < 0 → _; decide) | (show (1 : Nat) ≤ _; decide) | (show ∀ i, i < 1 → _; decide) | (show (2 : Nat) ≤ _; decide) | (show ∀ i, i < 2 → _; decide) | (show (3 : Nat) ≤ _; decide) | (show ∀ i, i < 3 → _; decide) | (show (4 : Nat) ≤ _; decide) | (show ∀ i, i < 4 → _; decide) | (show (5 : Nat) ≤ _; decide) | (show ∀ i, i < 5 → _; decide) | (show (6 : Nat) ≤ _; decide) | (show ∀ i, i < 6 → _; decide) | (show (7 : Nat) ≤ _; decide) | (show ∀ i, i < 7 → _; decide)) trivial ⟨rfl, rfl, rfl, rfl, trivial⟩ rfl) ?_
  rintro m tm H ⟨j, a, b, hj, hs, hab, rfl, rfl⟩
  conv => whnf
  refine ⟨fun hc => ?_, fun hc => ?_⟩
  · replace hc : (j : Int) < s.size := of_decide_eq_true hc
    have hlt : j < s.data.toList.length := by omega
    obtain ⟨x, hx⟩ : ∃ x, s.data.toList[j]? = some x := ⟨_, List.getElem?_eq_getElem hlt⟩
    have hxb : 0 ≤ (x.toNat : Int) ∧ (x.toNat : Int) < 256 := ⟨by omega, by have := x.toNat_lt; omega⟩
    rw [drop_at hx, sumF] at hs
    have hgd : s.data.toList.getD (Int.toNat j) 0 = x := by rw [Int.toNat_natCast, List.getD_eq_getElem?_getD, hx]; rfl
    have e1 : (a + (x.toNat : Int)).tmod 65521 = (a + (x.toNat : Int)) % 65521 := Int.tmod_eq_emod_of_nonneg (by omega)
    have hm1 := Int.emod_nonneg (a + (x.toNat : Int)) (show (65521 : Int) ≠ 0 by decide)
    have hm2 := Int.emod_lt_of_pos (a + (x.toNat : Int)) (show (0 : Int) < 65521 by decide)
    have e2 : (b + (a + (x.toNat : Int)) % 65521).tmod 65521 = (b + (a + (x.toNat : Int)) % 65521) % 65521 := Int.tmod_eq_emod_of_nonneg (by omega)
    have e3 : IntKind.i64.wrap (x.toNat : Int) = x.toNat := i64_wrap (by omega)
    dsimp only at hs
    conv => whnf
    repeat (first | (refine And.intro rfl ?_; conv => whnf) | (refine And.intro (by decide) ?_; conv => whnf) | (refine draw_intro true (by kernel_rfl) ?_; conv => whnf) | (refine And.intro ⟨by omega, by omega⟩ ?_; conv => whnf) | (refine And.intro (by omega) ?_; conv => whnf) | (refine And.intro (fun _ => ⟨by omega, by omega⟩) ?_; conv => whnf) | (refine And.intro (of_decide_eq_true rfl) ?_; conv => whnf) | (refine And.intro (fun _ => ?_) (fun h => absurd h ?_); rotate_left; (focus (first | decide | (simp; done) | (simp [tcs]; done))); conv => whnf) | (refine And.intro (fun h => absurd h ?_) (fun _ => ?_); (focus (first | decide | (simp; done) | (simp [tcs]; done))); conv => whnf) | (intro _; conv => whnf))
    rw [hgd, e3]
    refine ⟨⟨by omega, by omega⟩, ?_⟩
    conv => whnf
    refine ⟨show (65521 : Int) ≠ 0 by decide, ?_⟩
    conv => whnf
    rw [e1]
    conv => whnf
    refine ⟨⟨by omega, by omega⟩, ?_⟩
    conv => whnf
    refine ⟨show (65521 : Int) ≠ 0 by decide, ?_⟩
    conv => whnf
    rw [e2]
    conv => whnf
    repeat (first | (refine And.intro rfl ?_; conv => whnf) | (refine And.intro (by decide) ?_; conv => whnf) | (refine draw_intro true (by kernel_rfl) ?_; conv => whnf) | (refine And.intro ⟨by omega, by omega⟩ ?_; conv => whnf) | (refine And.intro (by omega) ?_; conv => whnf) | (refine And.intro (fun _ => ⟨by omega, by omega⟩) ?_; conv => whnf) | (refine And.intro (of_decide_eq_true rfl) ?_; conv => whnf) | (refine And.intro (fun _ => ?_) (fun h => absurd h ?_); rotate_left; (focus (first | decide | (simp; done) | (simp [tcs]; done))); conv => whnf) | (refine And.intro (fun h => absurd h ?_) (fun _ => ?_); (focus (first | decide | (simp; done) | (simp [tcs]; done))); conv => whnf) | (intro _; conv => whnf))
    refine ⟨m - 1, _, _, by omega, ⟨j + 1, _, _, by omega, hs, ⟨⟨hm1, hm2⟩, Int.emod_nonneg _ (by decide), Int.emod_lt_of_pos _ (by decide)⟩, rfl, rfl⟩, Wk.sel [] (by decide) (by first | decide | (show (0 : Nat) ≤ _; decide) | (show ∀ i, i < 0 → _; decide) | (show (1 : Nat) ≤ _; decide) | (show ∀ i, i < 1 → _; decide) | (show (2 : Nat) ≤ _; decide) | (show ∀ i, i < 2 → _; decide) | (show (3 : Nat) ≤ _; decide) | (show ∀ i, i < 3 → _; decide) | (show (4 : Nat) ≤ _; decide) | (show ∀ i, i < 4 → _; decide) | (show (5 : Nat) ≤ _; decide) | (show ∀ i, i < 5 → _; decide) | (show (6 : Nat) ≤ _; decide) | (show ∀ i, i < 6 → _; decide) | (show (7 : Nat) ≤ _; decide) | (show ∀ i, i < 7 → _; decide)) (by first | decide | (show (0 : Nat) ≤ _; decide) | (show ∀ i, i < 0 → _; decide) | (show (1 : Nat) ≤ _; decide) | (show ∀ i, i < 1 → _; decide) | (show (2 : Nat) ≤ _; decide) | (show ∀ i, i < 2 → _; decide) | (show (3 : Nat) ≤ _; decide) | (show ∀ i, i < 3 → _; decide) | (show (4 : Nat) ≤ _; decide) | (show ∀ i, i < 4 → _; decide) | (show (5 : Nat) ≤ _; decide) | (show ∀ i, i < 5 → _; decide) | (show (6 : Nat) ≤ _; decide) | (show ∀ i, i < 6 → _; decide) | (show (7 : Nat) ≤ _; decide) | (show ∀ i, i < 7 → _; decide)) trivial ⟨rfl, rfl, rfl, rfl, trivial⟩ rfl⟩
  · replace hc : ¬ (j : Int) < s.size := of_decide_eq_false hc
    obtain rfl : j = s.size := by omega
    rw [List.drop_eq_nil_of_le (by omega), sumF] at hs
    rw [← hs]
    conv => whnf
    refine ⟨⟨by omega, by omega⟩, ?_⟩
    conv => whnf
    refine ⟨⟨by omega, by omega⟩, ?_⟩
    conv => whnf
    repeat (first | (refine And.intro rfl ?_; conv => whnf) | (refine And.intro (by decide) ?_; conv => whnf) | (refine draw_intro true (by kernel_rfl) ?_; conv => whnf) | (refine And.intro ⟨by omega, by omega⟩ ?_; conv => whnf) | (refine And.intro (by omega) ?_; conv => whnf) | (refine And.intro (fun _ => ⟨by omega, by omega⟩) ?_; conv => whnf) | (refine And.intro (of_decide_eq_true rfl) ?_; conv => whnf) | (refine And.intro (fun _ => ?_) (fun h => absurd h ?_); rotate_left; (focus (first | decide | (simp; done) | (simp [tcs]; done))); conv => whnf) | (refine And.intro (fun h => absurd h ?_) (fun _ => ?_); (focus (first | decide | (simp; done) | (simp [tcs]; done))); conv => whnf) | (intro _; conv => whnf))
    all_goals (first | rfl | exact ⟨rfl, rfl⟩ | exact ⟨rfl, rfl, rfl⟩)
/-- The last byte of a number that is shifted. -/
def sb (n : Int) (j : Nat) : UInt8 := u8 (n.fdiv (2 ^ (min (8 * (3 - (j : Int))).toNat 64)))
/-- Bytes, and their sum behind them. -/
def sealB (l : List UInt8) : List UInt8 := l ++ [sb (sumI l) 0, sb (sumI l) 1, sb (sumI l) 2, sb (sumI l) 3]
theorem cSealed (l : List UInt8) (hl : l.length ≤ 900000000) : CallSt Try.prog 45 [.own 0] [.row 5 1 1 (bR l)] (fun r H' => r = .c (.str ⟨(sealB l).toArray⟩) ∧ H' = [.dead]) := by
  have hs := cSum ⟨l.toArray⟩ (by simpa [ByteArray.size] using (by omega : l.length ≤ 1000000000))
  dsimp only at hs
  have hbd := sumI_bd l
  have hsb : ∀ j : Nat, j < 4 → sealB l = l ++ ([sb (sumI l) 0, sb (sumI l) 1, sb (sumI l) 2, sb (sumI l) 3] : List UInt8) := fun _ _ => rfl
  refine call_wk (E := envK 1) (fn := Try.f45) (c := bodyOf Try.f45) (envK_ok 1) mixed (by kernel_rfl) (by kernel_rfl) (by kernel_rfl) (by kernel_rfl) (by kernel_rfl) (by kernel_rfl) rfl false ?_
  conv => whnf
  repeat (first | (refine And.intro rfl ?_; conv => whnf) | (refine And.intro (by decide) ?_; conv => whnf) | (refine draw_intro true (by kernel_rfl) ?_; conv => whnf) | (refine And.intro ⟨by omega, by omega⟩ ?_; conv => whnf) | (refine And.intro (by omega) ?_; conv => whnf) | (refine And.intro (fun _ => ⟨by omega, by omega⟩) ?_; conv => whnf) | (refine And.intro (of_decide_eq_true rfl) ?_; conv => whnf) | (refine And.intro (fun _ => ?_) (fun h => absurd h ?_); rotate_left; (focus (first | decide | (simp; done) | (simp [tcs]; done))); conv => whnf) | (refine And.intro (fun h => absurd h ?_) (fun _ => ?_); (focus (first | decide | (simp; done) | (simp [tcs]; done))); conv => whnf) | (intro _; conv => whnf))
  refine ⟨l, rfl, ?_⟩
  conv => whnf
  repeat (first | (refine And.intro rfl ?_; conv => whnf) | (refine And.intro (by decide) ?_; conv => whnf) | (refine draw_intro true (by kernel_rfl) ?_; conv => whnf) | (refine And.intro ⟨by omega, by omega⟩ ?_; conv => whnf) | (refine And.intro (by omega) ?_; conv => whnf) | (refine And.intro (fun _ => ⟨by omega, by omega⟩) ?_; conv => whnf) | (refine And.intro (of_decide_eq_true rfl) ?_; conv => whnf) | (refine And.intro (fun _ => ?_) (fun h => absurd h ?_); rotate_left; (focus (first | decide | (simp; done) | (simp [tcs]; done))); conv => whnf) | (refine And.intro (fun h => absurd h ?_) (fun _ => ?_); (focus (first | decide | (simp; done) | (simp [tcs]; done))); conv => whnf) | (intro _; conv => whnf))
  try (refine draw_intro true (by kernel_rfl) ?_; conv => whnf)
  first | refine CallSt.use hs [] trivial (by decide) rfl ?_ | refine CallPt.useS hs [] trivial (by decide) rfl ?_
  rintro _ _ ⟨rfl, rfl⟩ _
  conv => whnf
  repeat (first | (refine And.intro rfl ?_; conv => whnf) | (refine And.intro (by decide) ?_; conv => whnf) | (refine draw_intro true (by kernel_rfl) ?_; conv => whnf) | (refine And.intro ⟨by omega, by omega⟩ ?_; conv => whnf) | (refine And.intro (by omega) ?_; conv => whnf) | (refine And.intro (fun _ => ⟨by omega, by omega⟩) ?_; conv => whnf) | (refine And.intro (of_decide_eq_true rfl) ?_; conv => whnf) | (refine And.intro (fun _ => ?_) (fun h => absurd h ?_); rotate_left; (focus (first | decide | (simp; done) | (simp [tcs]; done))); conv => whnf) | (refine And.intro (fun h => absurd h ?_) (fun _ => ?_); (focus (first | decide | (simp; done) | (simp [tcs]; done))); conv => whnf) | (intro _; conv => whnf))
  refine loop_intro (fun m tm H => ∃ (j : Nat), 4 = m + j ∧ tm = [(8, .c (.int .i64 (j))), (3, .c (.int .i64 (sumI l))), (0, .own 1)] ∧ H = [.dead, .row 5 1 1 (bR (l ++ ([sb (sumI l) 0, sb (sumI l) 1, sb (sumI l) 2, sb (sumI l) 3] : List UInt8).take j))])
    4 _ _ ⟨0, by omega, rfl, rfl⟩ ?_ ?_
  · refine Wk.trans (Wk.mvtmp 0 0 5 1 1 (bR l) rfl rfl rfl) ?_
    refine Wk.sel [0, 1] (by decide) (by decide) (by decide) ⟨rfl, ?_, trivial⟩ ⟨rfl, rfl, rfl, trivial⟩ rfl
    exact congrArg (fun z => some (Ent.row 5 1 1 (bR z))) (by simp)
  rintro m tm H ⟨j, hj, rfl, rfl⟩
  conv => whnf
  refine ⟨fun hc => ?_, fun hc => ?_⟩
  · replace hc : (j : Int) < 4 := of_decide_eq_true hc
    have hgj : ([sb (sumI l) 0, sb (sumI l) 1, sb (sumI l) 2, sb (sumI l) 3] : List UInt8)[j]? = some (sb (sumI l) j) := by
      rcases (by omega : j = 0 ∨ j = 1 ∨ j = 2 ∨ j = 3) with rfl | rfl | rfl | rfl <;> rfl
    have htk : ([sb (sumI l) 0, sb (sumI l) 1, sb (sumI l) 2, sb (sumI l) 3] : List UInt8).take (j + 1) = ([sb (sumI l) 0, sb (sumI l) 1, sb (sumI l) 2, sb (sumI l) 3] : List UInt8).take j ++ [sb (sumI l) j] := by
      rw [List.take_add_one, hgj]
      rfl
    generalize hL : ([sb (sumI l) 0, sb (sumI l) 1, sb (sumI l) 2, sb (sumI l) 3] : List UInt8) = L4 at *
    have hll : (bR (l ++ L4.take j)).length ≤ 900000004 := by
      rw [bR_len, List.length_append, List.length_take]
      omega
    have hb1 : ((bR (l ++ L4.take j)).length + 1) * 1 ≤ 140737488355328 := by omega
    have hb2 : (bR (l ++ L4.take j)).length + 1 ≤ 9223372036854775807 := by omega
    have hsbj : sb (sumI l) j = u8 ((sumI l).fdiv (2 ^ (min (8 * (3 - (j : Int))).toNat 64))) := rfl
    have hsn := bR_snoc (l ++ L4.take j) ((sumI l).fdiv (2 ^ (min (8 * (3 - (j : Int))).toNat 64)))
    rw [← hsbj] at hsn
    conv => whnf
    repeat (first | (refine And.intro rfl ?_; conv => whnf) | (refine And.intro (by decide) ?_; conv => whnf) | (refine draw_intro true (by kernel_rfl) ?_; conv => whnf) | (refine And.intro ⟨by omega, by omega⟩ ?_; conv => whnf) | (refine And.intro (by omega) ?_; conv => whnf) | (refine And.intro (fun _ => ⟨by omega, by omega⟩) ?_; conv => whnf) | (refine And.intro (of_decide_eq_true rfl) ?_; conv => whnf) | (refine And.intro (fun _ => ?_) (fun h => absurd h ?_); rotate_left; (focus (first | decide | (simp; done) | (simp [tcs]; done))); conv => whnf) | (refine And.intro (fun h => absurd h ?_) (fun _ => ?_); (focus (first | decide | (simp; done) | (simp [tcs]; done))); conv => whnf) | (intro _; conv => whnf))
    refine ⟨show 0 ≤ 8 * (3 - (j : Int)) by omega, ?_⟩
    conv => whnf
    repeat (first | (refine And.intro rfl ?_; conv => whnf) | (refine And.intro (by decide) ?_; conv => whnf) | (refine draw_intro true (by kernel_rfl) ?_; conv => whnf) | (refine And.intro ⟨by omega, by omega⟩ ?_; conv => whnf) | (refine And.intro (by omega) ?_; conv => whnf) | (refine And.intro (fun _ => ⟨by omega, by omega⟩) ?_; conv => whnf) | (refine And.intro (of_decide_eq_true rfl) ?_; conv => whnf) | (refine And.intro (fun _ => ?_) (fun h => absurd h ?_); rotate_left; (focus (first | decide | (simp; done) | (simp [tcs]; done))); conv => whnf) | (refine And.intro (fun h => absurd h ?_) (fun _ => ?_); (focus (first | decide | (simp; done) | (simp [tcs]; done))); conv => whnf) | (intro _; conv => whnf))
    refine ⟨m - 1, _, _, by omega, ⟨j + 1, by omega, rfl, rfl⟩, Wk.sel [0, 3] (by decide) (by decide) (by decide) ⟨rfl, ?_, trivial⟩ ⟨rfl, rfl, rfl, trivial⟩ rfl⟩
    rw [htk, ← List.append_assoc, ← hsn]
    rfl
  · replace hc : ¬ (j : Int) < 4 := of_decide_eq_false hc
    obtain rfl : j = 4 := by omega
    conv => whnf
    repeat (first | (refine And.intro rfl ?_; conv => whnf) | (refine And.intro (by decide) ?_; conv => whnf) | (refine draw_intro true (by kernel_rfl) ?_; conv => whnf) | (refine And.intro ⟨by omega, by omega⟩ ?_; conv => whnf) | (refine And.intro (by omega) ?_; conv => whnf) | (refine And.intro (fun _ => ⟨by omega, by omega⟩) ?_; conv => whnf) | (refine And.intro (of_decide_eq_true rfl) ?_; conv => whnf) | (refine And.intro (fun _ => ?_) (fun h => absurd h ?_); rotate_left; (focus (first | decide | (simp; done) | (simp [tcs]; done))); conv => whnf) | (refine And.intro (fun h => absurd h ?_) (fun _ => ?_); (focus (first | decide | (simp; done) | (simp [tcs]; done))); conv => whnf) | (intro _; conv => whnf))
    refine ⟨sealB l, rfl, ?_⟩
    conv => whnf
    repeat (first | (refine And.intro rfl ?_; conv => whnf) | (refine And.intro (by decide) ?_; conv => whnf) | (refine draw_intro true (by kernel_rfl) ?_; conv => whnf) | (refine And.intro ⟨by omega, by omega⟩ ?_; conv => whnf) | (refine And.intro (by omega) ?_; conv => whnf) | (refine And.intro (fun _ => ⟨by omega, by omega⟩) ?_; conv => whnf) | (refine And.intro (of_decide_eq_true rfl) ?_; conv => whnf) | (refine And.intro (fun _ => ?_) (fun h => absurd h ?_); rotate_left; (focus (first | decide | (simp; done) | (simp [tcs]; done))); conv => whnf) | (refine And.intro (fun h => absurd h ?_) (fun _ => ?_); (focus (first | decide | (simp; done) | (simp [tcs]; done))); conv => whnf) | (intro _; conv => whnf))
    refine ⟨[(2, .c (.str ⟨(sealB l).toArray⟩))], [.dead], Wk.sel [0] (by decide) (by first | decide | (show (0 : Nat) ≤ _; decide) | (show ∀ i, i < 0 → _; decide) | (show (1 : Nat) ≤ _; decide) | (show ∀ i, i < 1 → _; decide) | (show (2 : Nat) ≤ _; decide) | (show ∀ i, i < 2 → _; decide) | (show (3 : Nat) ≤ _; decide) | (show ∀ i, i < 3 → _; decide) | (show (4 : Nat) ≤ _; decide) | (show ∀ i, i < 4 → _; decide) | (show (5 : Nat) ≤ _; decide) | (show ∀ i, i < 5 → _; decide) | (show (6 : Nat) ≤ _; decide) | (show ∀ i, i < 6 → _; decide) | (show (7 : Nat) ≤ _; decide) | (show ∀ i, i < 7 → _; decide)) (by first | decide | (show (0 : Nat) ≤ _; decide) | (show ∀ i, i < 0 → _; decide) | (show (1 : Nat) ≤ _; decide) | (show ∀ i, i < 1 → _; decide) | (show (2 : Nat) ≤ _; decide) | (show ∀ i, i < 2 → _; decide) | (show (3 : Nat) ≤ _; decide) | (show ∀ i, i < 3 → _; decide) | (show (4 : Nat) ≤ _; decide) | (show ∀ i, i < 4 → _; decide) | (show (5 : Nat) ≤ _; decide) | (show ∀ i, i < 5 → _; decide) | (show (6 : Nat) ≤ _; decide) | (show ∀ i, i < 6 → _; decide) | (show (7 : Nat) ≤ _; decide) | (show ∀ i, i < 7 → _; decide)) ⟨rfl, trivial⟩ ⟨rfl, trivial⟩ rfl, ?_⟩
    conv => whnf
    exact ⟨rfl, rfl⟩
theorem cRSeal (s : ByteArray) (hs : s.size ≤ 900000000) : CallSt Try.prog 22 [.c (.str s)] [] (fun r H' => r = .c (.str ⟨(sealB s.data.toList).toArray⟩) ∧ H' = []) := by
  have hc := cRSum s (by omega)
  have hbd := sumI_bd s.data.toList
  have e : (⟨(sealB s.data.toList).toArray⟩ : ByteArray) = s ++ ⟨([sb (sumI s.data.toList) 0, sb (sumI s.data.toList) 1, sb (sumI s.data.toList) 2, sb (sumI s.data.toList) 3] : List UInt8).toArray⟩ := by
    apply ByteArray.ext
    simp [sealB, ByteArray.data_append]
  rw [e]
  have e2 : bR [sb (sumI s.data.toList) 0, sb (sumI s.data.toList) 1, sb (sumI s.data.toList) 2, sb (sumI s.data.toList) 3] = [[.int .u8 (IntKind.u8.wrap ((sumI s.data.toList).fdiv (2 ^ (min (24 : Int).toNat 64))))], [.int .u8 (IntKind.u8.wrap ((sumI s.data.toList).fdiv (2 ^ (min (16 : Int).toNat 64))))], [.int .u8 (IntKind.u8.wrap ((sumI s.data.toList).fdiv (2 ^ (min (8 : Int).toNat 64))))], [.int .u8 (IntKind.u8.wrap (sumI s.data.toList))]] := by
    have h3 : sb (sumI s.data.toList) 3 = u8 (sumI s.data.toList) := by
      unfold sb
      rw [show (2 : Int) ^ (min (8 * (3 - ((3 : Nat) : Int))).toNat 64) = 1 by decide]
      rw [Int.fdiv_one]
    rw [h3]
    simp only [u8_wrap]
    rfl
  generalize sumI s.data.toList = q at *
  refine call_pure (E := env 0) (fn := Try.f22) (c := bodyOf Try.f22) (env_ok 0) mixed (by kernel_rfl) (by kernel_rfl) (by kernel_rfl) (by kernel_rfl) (by kernel_rfl) (by kernel_rfl) rfl ?_
  conv => whnf
  try (refine draw_intro true (by kernel_rfl) ?_; conv => whnf)
  first | refine CallSt.use hc [] trivial (by decide) rfl ?_ | refine CallPt.useS hc [] trivial (by decide) rfl ?_
  rintro _ _ ⟨rfl, rfl⟩ _
  conv => whnf
  repeat (first | (refine And.intro rfl ?_; conv => whnf) | (refine And.intro (by decide) ?_; conv => whnf) | (refine draw_intro true (by kernel_rfl) ?_; conv => whnf) | (refine And.intro ⟨by omega, by omega⟩ ?_; conv => whnf) | (refine And.intro (by omega) ?_; conv => whnf) | (refine And.intro (fun _ => ⟨by omega, by omega⟩) ?_; conv => whnf) | (refine And.intro (of_decide_eq_true rfl) ?_; conv => whnf) | (refine And.intro (fun _ => ?_) (fun h => absurd h ?_); rotate_left; (focus (first | decide | (simp; done) | (simp [tcs]; done))); conv => whnf) | (refine And.intro (fun h => absurd h ?_) (fun _ => ?_); (focus (first | decide | (simp; done) | (simp [tcs]; done))); conv => whnf) | (intro _; conv => whnf))
  refine ⟨show (0 : Int) ≤ 24 by decide, ?_⟩
  conv => whnf
  refine ⟨show (0 : Int) ≤ 16 by decide, ?_⟩
  conv => whnf
  refine ⟨show (0 : Int) ≤ 8 by decide, ?_⟩
  conv => whnf
  repeat (first | (refine And.intro rfl ?_; conv => whnf) | (refine And.intro (by decide) ?_; conv => whnf) | (refine draw_intro true (by kernel_rfl) ?_; conv => whnf) | (refine And.intro ⟨by omega, by omega⟩ ?_; conv => whnf) | (refine And.intro (by omega) ?_; conv => whnf) | (refine And.intro (fun _ => ⟨by omega, by omega⟩) ?_; conv => whnf) | (refine And.intro (of_decide_eq_true rfl) ?_; conv => whnf) | (refine And.intro (fun _ => ?_) (fun h => absurd h ?_); rotate_left; (focus (first | decide | (simp; done) | (simp [tcs]; done))); conv => whnf) | (refine And.intro (fun h => absurd h ?_) (fun _ => ?_); (focus (first | decide | (simp; done) | (simp [tcs]; done))); conv => whnf) | (intro _; conv => whnf))
  refine ⟨[sb q 0, sb q 1, sb q 2, sb q 3], e2.symm, ?_⟩
  conv => whnf
  refine ⟨?_, ?_⟩
  · show s.size + 4 ≤ 9223372036854775807
    omega
  conv => whnf
  repeat (first | (refine And.intro rfl ?_; conv => whnf) | (refine And.intro (by decide) ?_; conv => whnf) | (refine draw_intro true (by kernel_rfl) ?_; conv => whnf) | (refine And.intro ⟨by omega, by omega⟩ ?_; conv => whnf) | (refine And.intro (by omega) ?_; conv => whnf) | (refine And.intro (fun _ => ⟨by omega, by omega⟩) ?_; conv => whnf) | (refine And.intro (of_decide_eq_true rfl) ?_; conv => whnf) | (refine And.intro (fun _ => ?_) (fun h => absurd h ?_); rotate_left; (focus (first | decide | (simp; done) | (simp [tcs]; done))); conv => whnf) | (refine And.intro (fun h => absurd h ?_) (fun _ => ?_); (focus (first | decide | (simp; done) | (simp [tcs]; done))); conv => whnf) | (intro _; conv => whnf))
  all_goals (first | rfl | exact ⟨rfl, rfl⟩ | exact ⟨rfl, rfl, rfl⟩)
end Go.Tr
/- cert: a list of numbers by a closure; packed. -/
namespace Go.Tr
open Go.Proofs
theorem cListC (f : FuncId) (q : Int) (g : Nat → List UInt8) (l : List UInt8) (L : List Nat) (hb : ∀ x ∈ L, (g x).length ≤ 9) (hl : l.length + 9 + 9 * L.length ≤ 900000000)
    (hf : ∀ (l' : List UInt8) (x : Nat), x ∈ L → l'.length ≤ 900000000 → CallSt Try.prog f [.own 0, .c (.int .i64 (x)), .ptr 1 0] [.row 5 1 1 (bR l'), .box [.c (.int .i64 (q))]] (fun r H' => r = .own 2 ∧ H' = [.dead, .box [.c (.int .i64 (q))], .row 5 1 1 (bR (l' ++ g x))])) :
    CallSt Try.prog 43 [.own 0, .c (.sl 1 8 (rowN L)), .fn f [.ptr 1 0]] [.row 5 1 1 (bR l), .box [.c (.int .i64 (q))]] (fun r H' => r = .own 2 ∧ H' = [.dead, .box [.c (.int .i64 (q))], .row 5 1 1 (bR (l ++ lstB g L))]) := by
  have hrl := rowN_len L
  have hdl : (digs L.length).length ≤ 9 := digs_len 8 _ (by omega)
  have hn := cNumber l L.length (by omega) (by omega)
  rw [← hrl] at hn
  refine call_wk (E := envK 2) (fn := Try.f43) (c := bodyOf Try.f43) (envK_ok 2) mixed (by kernel_rfl) (by kernel_rfl) (by kernel_rfl) (by kernel_rfl) (by kernel_rfl) (by kernel_rfl) rfl false ?_
  conv => whnf
  repeat (first | (refine And.intro rfl ?_; conv => whnf) | (refine And.intro (by decide) ?_; conv => whnf) | (refine draw_intro true (by kernel_rfl) ?_; conv => whnf) | (refine And.intro ⟨by omega, by omega⟩ ?_; conv => whnf) | (refine And.intro (by omega) ?_; conv => whnf) | (refine And.intro (fun _ => ⟨by omega, by omega⟩) ?_; conv => whnf) | (refine And.intro (of_decide_eq_true rfl) ?_; conv => whnf) | (refine And.intro (fun _ => ?_) (fun h => absurd h ?_); rotate_left; (focus (first | decide | (simp; done) | (simp [tcs]; done))); conv => whnf) | (refine And.intro (fun h => absurd h ?_) (fun _ => ?_); (focus (first | decide | (simp; done) | (simp [tcs]; done))); conv => whnf) | (intro _; conv => whnf))
  try (refine draw_intro true (by kernel_rfl) ?_; conv => whnf)
  first | refine CallSt.use hn [0] ⟨rfl, trivial⟩ (by decide) rfl ?_ | refine CallPt.useS hn [0] ⟨rfl, trivial⟩ (by decide) rfl ?_
  rintro _ _ ⟨rfl, rfl⟩ _
  conv => whnf
  repeat (first | (refine And.intro rfl ?_; conv => whnf) | (refine And.intro (by decide) ?_; conv => whnf) | (refine draw_intro true (by kernel_rfl) ?_; conv => whnf) | (refine And.intro ⟨by omega, by omega⟩ ?_; conv => whnf) | (refine And.intro (by omega) ?_; conv => whnf) | (refine And.intro (fun _ => ⟨by omega, by omega⟩) ?_; conv => whnf) | (refine And.intro (of_decide_eq_true rfl) ?_; conv => whnf) | (refine And.intro (fun _ => ?_) (fun h => absurd h ?_); rotate_left; (focus (first | decide | (simp; done) | (simp [tcs]; done))); conv => whnf) | (refine And.intro (fun h => absurd h ?_) (fun _ => ?_); (focus (first | decide | (simp; done) | (simp [tcs]; done))); conv => whnf) | (intro _; conv => whnf))
  refine loop_intro (fun m tm H => ∃ (j : Nat), L.length = m + j ∧ tm = [(15, .c (.int .i64 (j))), (14, .c (.int .i64 ((rowN L).length))), (13, .c (.sl 1 8 (rowN L))), (0, .own 2), (2, .fn f [.ptr 1 0])] ∧ H = [.dead, .box [.c (.int .i64 (q))], .row 5 1 1 (bR (l ++ (digs (rowN L).length ++ (L.take j).flatMap g)))])
    L.length _ _ ⟨0, by omega, rfl, rfl⟩ ?_ ?_
  · refine Wk.sel [0, 1, 2] (by decide) (by decide) (by decide) ⟨rfl, rfl, ?_, trivial⟩ ⟨rfl, rfl, rfl, rfl, rfl, trivial⟩ rfl
    exact congrArg (fun z => some (Ent.row 5 1 1 (bR z))) (by simp)
  rintro m tm H ⟨j, hj, rfl, rfl⟩
  conv => whnf
  refine ⟨fun hc => ?_, fun hc => ?_⟩
  · replace hc : (j : Int) < (rowN L).length := of_decide_eq_true hc
    obtain ⟨x, hx⟩ : ∃ x, L[j]? = some x := ⟨L[j]'(by omega), List.getElem?_eq_getElem (by omega)⟩
    have hxr := rowN_at hx
    have hfl : ((L.take j).flatMap g).length ≤ 9 * j := by
      have : ∀ (M : List Nat), (∀ x ∈ M, (g x).length ≤ 9) → (M.flatMap g).length ≤ 9 * M.length := fun M => by
        induction M with
        | nil => intro _; simp
        | cons a M ih =>
          intro h
          have := ih fun x hx => h x (by simp [hx])
          have := h a (by simp)
          simp only [List.flatMap_cons, List.length_append, List.length_cons]
          omega
      have h2 := this (L.take j) fun x hx => hb x (List.mem_of_mem_take hx)
      rw [List.length_take] at h2
      omega
    have hfx := hf (l ++ (digs (rowN L).length ++ (L.take j).flatMap g)) x (List.mem_of_getElem? hx) (by
      simp only [List.length_append]
      rw [hrl]
      omega)
    conv => whnf
    refine ⟨_, ⟨by omega, by simpa using hxr⟩, ?_⟩
    conv => whnf
    refine ⟨Nat.le_refl 1, ?_⟩
    conv => whnf
    try (refine draw_intro true (by kernel_rfl) ?_; conv => whnf)
    first | refine CallSt.use hfx [2, 1] ⟨rfl, rfl, trivial⟩ (by decide) rfl ?_ | refine CallPt.useS hfx [2, 1] ⟨rfl, rfl, trivial⟩ (by decide) rfl ?_
    rintro _ _ ⟨rfl, rfl⟩ _
    conv => whnf
    repeat (first | (refine And.intro rfl ?_; conv => whnf) | (refine And.intro (by decide) ?_; conv => whnf) | (refine draw_intro true (by kernel_rfl) ?_; conv => whnf) | (refine And.intro ⟨by omega, by omega⟩ ?_; conv => whnf) | (refine And.intro (by omega) ?_; conv => whnf) | (refine And.intro (fun _ => ⟨by omega, by omega⟩) ?_; conv => whnf) | (refine And.intro (of_decide_eq_true rfl) ?_; conv => whnf) | (refine And.intro (fun _ => ?_) (fun h => absurd h ?_); rotate_left; (focus (first | decide | (simp; done) | (simp [tcs]; done))); conv => whnf) | (refine And.intro (fun h => absurd h ?_) (fun _ => ?_); (focus (first | decide | (simp; done) | (simp [tcs]; done))); conv => whnf) | (intro _; conv => whnf))
    refine ⟨m - 1, _, _, by omega, ⟨j + 1, by omega, rfl, rfl⟩, Wk.sel [0, 1, 3] (by decide) (by decide) (by decide) ⟨rfl, rfl, ?_, trivial⟩ ⟨rfl, rfl, rfl, rfl, rfl, trivial⟩ rfl⟩
    refine congrArg (fun z => some (Ent.row 5 1 1 (bR z))) ?_
    rw [List.take_add_one, hx]
    simp
  · replace hc : ¬ (j : Int) < (rowN L).length := of_decide_eq_false hc
    obtain rfl : j = L.length := by omega
    conv => whnf
    repeat (first | (refine And.intro rfl ?_; conv => whnf) | (refine And.intro (by decide) ?_; conv => whnf) | (refine draw_intro true (by kernel_rfl) ?_; conv => whnf) | (refine And.intro ⟨by omega, by omega⟩ ?_; conv => whnf) | (refine And.intro (by omega) ?_; conv => whnf) | (refine And.intro (fun _ => ⟨by omega, by omega⟩) ?_; conv => whnf) | (refine And.intro (of_decide_eq_true rfl) ?_; conv => whnf) | (refine And.intro (fun _ => ?_) (fun h => absurd h ?_); rotate_left; (focus (first | decide | (simp; done) | (simp [tcs]; done))); conv => whnf) | (refine And.intro (fun h => absurd h ?_) (fun _ => ?_); (focus (first | decide | (simp; done) | (simp [tcs]; done))); conv => whnf) | (intro _; conv => whnf))
    refine ⟨[(6, .own 2)], [.dead, .box [.c (.int .i64 (q))], .row 5 1 1 (bR (l ++ lstB g L))], Wk.sel [0, 1, 2] (by decide) (by decide) (by decide) ⟨rfl, rfl, ?_, trivial⟩ ⟨rfl, trivial⟩ rfl, ?_⟩
    · refine congrArg (fun z => some (Ent.row 5 1 1 (bR z))) ?_
      rw [hrl, List.take_length]
      rfl
    conv => whnf
    exact ⟨rfl, rfl⟩
theorem cPackedF (l : List UInt8) (i x : Nat) (hx : x < i) (hi : i ≤ 1000000) (hl : l.length ≤ 900000000) : CallSt Try.prog 44 [.own 0, .c (.int .i64 (x)), .ptr 1 0] [.row 5 1 1 (bR l), .box [.c (.int .i64 (i))]] (fun r H' => r = .own 2 ∧ H' = [.dead, .box [.c (.int .i64 (i))], .row 5 1 1 (bR (l ++ digs (i - x - 1)))]) := by
  have hd := digs9 (n := i - x - 1) (by omega)
  have hn := cNumber l (i - x - 1) (by omega) (by omega)
  have e : ((i - x - 1 : Nat) : Int) = (i : Int) - x - 1 := by omega
  rw [e] at hn
  refine call_wk (E := envK 2) (fn := Try.f44) (c := bodyOf Try.f44) (envK_ok 2) mixed (by kernel_rfl) (by kernel_rfl) (by kernel_rfl) (by kernel_rfl) (by kernel_rfl) (by kernel_rfl) rfl false ?_
  conv => whnf
  repeat (first | (refine And.intro rfl ?_; conv => whnf) | (refine And.intro (by decide) ?_; conv => whnf) | (refine draw_intro true (by kernel_rfl) ?_; conv => whnf) | (refine And.intro ⟨by omega, by omega⟩ ?_; conv => whnf) | (refine And.intro (by omega) ?_; conv => whnf) | (refine And.intro (fun _ => ⟨by omega, by omega⟩) ?_; conv => whnf) | (refine And.intro (of_decide_eq_true rfl) ?_; conv => whnf) | (refine And.intro (fun _ => ?_) (fun h => absurd h ?_); rotate_left; (focus (first | decide | (simp; done) | (simp [tcs]; done))); conv => whnf) | (refine And.intro (fun h => absurd h ?_) (fun _ => ?_); (focus (first | decide | (simp; done) | (simp [tcs]; done))); conv => whnf) | (intro _; conv => whnf))
  try (refine draw_intro true (by kernel_rfl) ?_; conv => whnf)
  first | refine CallSt.use hn [0] ⟨rfl, trivial⟩ (by decide) rfl ?_ | refine CallPt.useS hn [0] ⟨rfl, trivial⟩ (by decide) rfl ?_
  rintro _ _ ⟨rfl, rfl⟩ _
  conv => whnf
  repeat (first | (refine And.intro rfl ?_; conv => whnf) | (refine And.intro (by decide) ?_; conv => whnf) | (refine draw_intro true (by kernel_rfl) ?_; conv => whnf) | (refine And.intro ⟨by omega, by omega⟩ ?_; conv => whnf) | (refine And.intro (by omega) ?_; conv => whnf) | (refine And.intro (fun _ => ⟨by omega, by omega⟩) ?_; conv => whnf) | (refine And.intro (of_decide_eq_true rfl) ?_; conv => whnf) | (refine And.intro (fun _ => ?_) (fun h => absurd h ?_); rotate_left; (focus (first | decide | (simp; done) | (simp [tcs]; done))); conv => whnf) | (refine And.intro (fun h => absurd h ?_) (fun _ => ?_); (focus (first | decide | (simp; done) | (simp [tcs]; done))); conv => whnf) | (intro _; conv => whnf))
  refine ⟨[(5, .own 2)], [.dead, .box [.c (.int .i64 (i))], .row 5 1 1 (bR (l ++ digs (i - x - 1)))], Wk.sel [0, 1, 2] (by decide) (by first | decide | (show (0 : Nat) ≤ _; decide) | (show ∀ i, i < 0 → _; decide) | (show (1 : Nat) ≤ _; decide) | (show ∀ i, i < 1 → _; decide) | (show (2 : Nat) ≤ _; decide) | (show ∀ i, i < 2 → _; decide) | (show (3 : Nat) ≤ _; decide) | (show ∀ i, i < 3 → _; decide) | (show (4 : Nat) ≤ _; decide) | (show ∀ i, i < 4 → _; decide) | (show (5 : Nat) ≤ _; decide) | (show ∀ i, i < 5 → _; decide) | (show (6 : Nat) ≤ _; decide) | (show ∀ i, i < 6 → _; decide) | (show (7 : Nat) ≤ _; decide) | (show ∀ i, i < 7 → _; decide)) (by first | decide | (show (0 : Nat) ≤ _; decide) | (show ∀ i, i < 0 → _; decide) | (show (1 : Nat) ≤ _; decide) | (show ∀ i, i < 1 → _; decide) | (show (2 : Nat) ≤ _; decide) | (show ∀ i, i < 2 → _; decide) | (show (3 : Nat) ≤ _; decide) | (show ∀ i, i < 3 → _; decide) | (show (4 : Nat) ≤ _; decide) | (show ∀ i, i < 4 → _; decide) | (show (5 : Nat) ≤ _; decide) | (show ∀ i, i < 5 → _; decide) | (show (6 : Nat) ≤ _; decide) | (show ∀ i, i < 6 → _; decide) | (show (7 : Nat) ≤ _; decide) | (show ∀ i, i < 7 → _; decide)) ⟨rfl, rfl, rfl, trivial⟩ ⟨rfl, trivial⟩ rfl, ?_⟩
  conv => whnf
  exact ⟨rfl, rfl⟩
/-- A node's bytes. -/
def nodeB (B : List Term) (i : Nat) (t : Term) : List UInt8 := [u8 (t.k + 8 * t.l)] ++ ((match decide (t.k = 4) with | true => digs t.n.toNat | false => []) ++ lstB (fun k => digs (i - k - 1)) (kd B t))
def nodesB (B : List Term) : Nat → List UInt8
  | 0 => []
  | n + 1 => nodesB B n ++ (match B[n]? with | some t => nodeB B n t | none => [])
def declB (d : Dcl) (r : Nat) : List UInt8 := digs d.s.size ++ d.s.data.toList ++ digs r ++ digs d.i.toNat
def declsB (S : List Dcl) (R : List Nat) : Nat → List UInt8
  | 0 => []
  | n + 1 => declsB S R n ++ (match S[n]?, R[n]? with | some d, some r => declB d r | _, _ => [])
/-- The bytes ahead of the sum. -/
def packL (S : List Dcl) (X : List Term) (B : List Term) (R : List Nat) : List UInt8 :=
  [116, 114, 49] ++ digs B.length ++ nodesB B B.length ++ digs S.length ++ declsB S R S.length ++ lstB digs ((R.drop S.length).take X.length) ++ ((R.drop S.length).drop X.length).flatMap digs
/-- What a well built certificate is like. -/
structure OkC (c : Crt) : Prop where
  sane : Sane c
  X : c.X.length ≤ 30
  names : ∀ d ∈ c.S, d.s.size ≤ 16 ∧ 0 ≤ d.i ∧ d.i ≤ 600
theorem built_ok {c : Crt} (h : builtB c = true) : OkC c := by
  unfold builtB at h
  simp only [Bool.and_eq_true, List.all_eq_true] at h
  obtain ⟨⟨hX, hS⟩, ht⟩ := h
  have hX := of_decide_eq_true hX
  have hSl : c.S.length ≤ 100 := by unfold checkB at hS; simp only [Bool.and_eq_true] at hS; exact of_decide_eq_true hS.1
  have htp : ∀ t ∈ crl c, prop t = true := fun t hm => by
    have := ht t hm
    unfold closedT at this
    simp only [Bool.and_eq_true] at this
    exact this.1
  refine ⟨⟨hSl, by omega, fun t hm => ⟨wf_prop (htp t hm), prop_sz (htp t hm)⟩⟩, hX, fun d hd => ?_⟩
  obtain ⟨i, hi⟩ := List.mem_iff_getElem?.1 hd
  have hil := (List.getElem?_eq_some_iff.1 hi).1
  unfold checkB at hS
  simp only [Bool.and_eq_true, List.all_eq_true] at hS
  have hg := hS.2 i (by simpa using hil)
  unfold goodD at hg
  rw [hi] at hg
  simp only [Bool.and_eq_true] at hg
  have hf := hg.2
  unfold formedF nameF isSmallF at hf
  simp only [Bool.and_eq_true, decide_eq_true_eq] at hf
  have hp := prop_sz hf.1.1.1.1
  have hdl := dom_len d.c 1 (prop_fm1 hf.1.1.1.1)
  exact ⟨hf.1.1.1.2.1.1.1.2, hf.1.1.2, by have := hf.1.2.1; omega⟩
theorem flat9 (g : Nat → List UInt8) : ∀ (M : List Nat), (∀ x ∈ M, (g x).length ≤ 9) → (M.flatMap g).length ≤ 9 * M.length
  | [], _ => by simp
  | a :: M, h => by
    have := flat9 g M fun x hx => h x (by simp [hx])
    have := h a (by simp)
    simp only [List.flatMap_cons, List.length_append, List.length_cons]
    omega
theorem lstB_len (g : Nat → List UInt8) (M : List Nat) (h : ∀ x ∈ M, (g x).length ≤ 9) (hl : M.length ≤ 4611686018427387904) : (lstB g M).length ≤ 9 + 9 * M.length := by
  have := flat9 g M h
  have := digs9 hl
  unfold lstB
  rw [List.length_append]
  omega
theorem nodeB_len {B : List Term} {i : Nat} {t : Term} (hw : wf t) (hs : szT t ≤ 600) (hi : i ≤ 1000000) : (nodeB B i t).length ≤ 5419 := by
  have hn := wf_node hw
  have hsl := szL_len t.ts
  have hsz : szT t = 1 + szL t.ts := by cases t; rw [szT]; rfl
  have h1 := lstB_len (fun k => digs (i - k - 1)) (kd B t) (fun x _ => digs9 (by omega)) (by unfold kd; rw [List.length_map]; omega)
  have h2 : (digs t.n.toNat).length ≤ 9 := digs9 (by omega)
  have h3 : (kd B t).length = t.ts.length := by simp [kd]
  unfold nodeB
  simp only [List.length_append, List.length_singleton]
  cases decide (t.k = 4) <;> simp only [List.length_nil] <;> omega
theorem nodesB_len {B : List Term} (h : ∀ t ∈ B, wf t ∧ szT t ≤ 600) (hB : B.length ≤ 1000000) : ∀ n : Nat, n ≤ B.length → (nodesB B n).length ≤ 5419 * n
  | 0, _ => by simp [nodesB]
  | n + 1, hn => by
    have := nodesB_len h hB n (by omega)
    have hg : B[n]? = some B[n] := List.getElem?_eq_getElem (by omega)
    have h2 := h B[n] (List.getElem_mem _)
    have := nodeB_len (B := B) (i := n) h2.1 h2.2 (by omega)
    rw [nodesB, hg, List.length_append]
    simp only
    omega
end Go.Tr
/- cert: packed. -/
namespace Go.Tr
open Go.Proofs
theorem szL_mem' : ∀ (ts : List Term) (u : Term), u ∈ ts → szT u ≤ szL ts
  | [], u, h => by cases h
  | t :: r, u, h => by
    have := szT_pos t
    have := szL_pos r
    rw [szL]
    rcases List.mem_cons.1 h with rfl | h
    · omega
    · have := szL_mem' r u h
      omega
mutual
theorem adT_sub : ∀ (u : Term) (B : List Term), ∀ t ∈ adT u B, t ∈ B ∨ szT t ≤ szT u
  | .mk k l n ts, B, t, ht => by
    have ih := adL_sub ts B
    have hs : t ∈ adL ts B → t ∈ B ∨ szT t ≤ szT (.mk k l n ts) := fun h => by
      rcases ih t h with h | ⟨u, hu, hl⟩
      · exact .inl h
      · have := szL_mem' ts u hu
        exact .inr (by rw [szT]; omega)
    rw [adT] at ht
    split at ht
    · exact hs ht
    · rcases List.mem_append.1 ht with h | h
      · exact hs h
      · simp at h
        subst h
        exact .inr (Int.le_refl _)
theorem adL_sub : ∀ (ts : List Term) (B : List Term), ∀ t ∈ adL ts B, t ∈ B ∨ ∃ u ∈ ts, szT t ≤ szT u
  | [], B, t, ht => by
    rw [adL] at ht
    exact .inl ht
  | a :: r, B, t, ht => by
    rw [adL] at ht
    rcases adL_sub r (adT a B) t ht with h | ⟨u, hu, hl⟩
    · rcases adT_sub a B t h with h | h
      · exact .inl h
      · exact .inr ⟨a, by simp, h⟩
    · exact .inr ⟨u, by simp [hu], hl⟩
end
theorem bk_sz {c : Crt} (h : Sane c) (n : Nat) : ∀ t ∈ bk c n, szT t ≤ 600 := fun t ht => by
  rcases adL_sub _ _ t ht with h2 | ⟨u, hu, hl⟩
  · cases h2
  · have := (h.t u (List.mem_of_mem_take hu)).2
    omega
theorem decls_len {S : List Dcl} {R : List Nat} (hS : ∀ d ∈ S, d.s.size ≤ 16 ∧ 0 ≤ d.i ∧ d.i ≤ 600) (hR : ∀ x ∈ R, x ≤ 1000000) : ∀ n : Nat, n ≤ S.length → (declsB S R n).length ≤ 43 * n
  | 0, _ => by simp [declsB]
  | n + 1, hn => by
    have ih := decls_len hS hR n (by omega)
    rw [declsB, List.length_append]
    have hs : S[n]? = some S[n] := List.getElem?_eq_getElem (by omega)
    rw [hs]
    cases hr : R[n]? with
    | none =>
      simp only [List.length_nil]
      omega
    | some r =>
      simp only
      have h1 := hS S[n] (List.getElem_mem _)
      have h2 := hR r (List.mem_of_getElem? hr)
      have d1 := digs9 (n := S[n].s.size) (by omega)
      have d2 := digs9 (n := r) (by omega)
      have d3 := digs9 (n := S[n].i.toNat) (by omega)
      have d4 : S[n].s.data.toList.length = S[n].s.size := by rw [Array.length_toList]; rfl
      unfold declB
      simp only [List.length_append]
      omega
theorem cPacked (c : Crt) (h : OkC c) : CallSt Try.prog 36 [crv c] [] (fun r H' => r = .c (.str ⟨(sealB (packL c.S c.X (bk c (crl c).length) (rt c (crl c).length))).toArray⟩) ∧ H' = []) := by
  have hnw := cNewNodes c h.sane
  have hcl := crl_len c
  have hS := h.sane.S
  have hX := h.sane.X
  obtain ⟨g1, g2, g3⟩ := bk_good h.sane (crl c).length
  rw [List.take_length] at g2 g3
  have hsa := szL_all (crl c) fun u hu => (h.sane.t u hu).2
  have hBs : ∀ t ∈ bk c (crl c).length, wf t ∧ szT t ≤ 600 := fun t ht => ⟨g1.wf t ht, bk_sz h.sane _ t ht⟩
  have hRl : (rt c (crl c).length).length = (crl c).length := by unfold rt; rw [List.length_map, List.take_length]
  have hRb : ∀ x ∈ rt c (crl c).length, x < (bk c (crl c).length).length := fun x hx => by
    unfold rt at hx
    rw [List.take_length] at hx
    obtain ⟨u, hu, rfl⟩ := List.mem_map.1 hx
    exact pl_lt (g2 u hu)
  have hnm := h.names
  clear h g2
  generalize crl c = q at *
  obtain ⟨S, X, ⟨k, l, n, ts⟩, ⟨k2, l2, n2, us⟩⟩ := c
  generalize bk _ _ = B at *
  generalize rt _ _ = R at *
  unfold crv at *
  dsimp only [Term.k, Term.l, Term.n, Term.ts] at *
  have hnl := nds_len B
  have hBl : B.length ≤ 121200 := by omega
  have hnb := nodesB_len hBs (by omega)
  have hn0 := cNumber [116, 114, 49] B.length (by have := digs9 (n := B.length) (by omega); simp; omega) (by omega)
  rw [← hnl] at hn0
  have hd0 := digs9 (n := B.length) (by omega)
  refine call_pure (E := envK 0) (fn := Try.f36) (c := bodyOf Try.f36) (envK_ok 0) mixed (by kernel_rfl) (by kernel_rfl) (by kernel_rfl) (by kernel_rfl) (by kernel_rfl) (by kernel_rfl) rfl ?_
  conv => whnf
  repeat (first | (refine And.intro rfl ?_; conv => whnf) | (refine And.intro (by decide) ?_; conv => whnf) | (refine draw_intro true (by kernel_rfl) ?_; conv => whnf) | (refine And.intro ⟨by omega, by omega⟩ ?_; conv => whnf) | (refine And.intro (by omega) ?_; conv => whnf) | (refine And.intro (fun _ => ⟨by omega, by omega⟩) ?_; conv => whnf) | (refine And.intro (of_decide_eq_true rfl) ?_; conv => whnf) | (refine And.intro (fun _ => ?_) (fun h => absurd h ?_); rotate_left; (focus (first | decide | (simp; done) | (simp [tcs]; done))); conv => whnf) | (refine And.intro (fun h => absurd h ?_) (fun _ => ?_); (focus (first | decide | (simp; done) | (simp [tcs]; done))); conv => whnf) | (intro _; conv => whnf))
  try (refine draw_intro true (by kernel_rfl) ?_; conv => whnf)
  first | refine CallSt.use hnw [] trivial (by decide) rfl ?_ | refine CallPt.useS hnw [] trivial (by decide) rfl ?_
  rintro _ _ ⟨rfl, rfl⟩ _
  conv => whnf
  repeat (first | (refine And.intro rfl ?_; conv => whnf) | (refine And.intro (by decide) ?_; conv => whnf) | (refine draw_intro true (by kernel_rfl) ?_; conv => whnf) | (refine And.intro ⟨by omega, by omega⟩ ?_; conv => whnf) | (refine And.intro (by omega) ?_; conv => whnf) | (refine And.intro (fun _ => ⟨by omega, by omega⟩) ?_; conv => whnf) | (refine And.intro (of_decide_eq_true rfl) ?_; conv => whnf) | (refine And.intro (fun _ => ?_) (fun h => absurd h ?_); rotate_left; (focus (first | decide | (simp; done) | (simp [tcs]; done))); conv => whnf) | (refine And.intro (fun h => absurd h ?_) (fun _ => ?_); (focus (first | decide | (simp; done) | (simp [tcs]; done))); conv => whnf) | (intro _; conv => whnf))
  try (refine draw_intro true (by kernel_rfl) ?_; conv => whnf)
  first | refine CallSt.use hn0 [5] ⟨rfl, trivial⟩ (by decide) rfl ?_ | refine CallPt.useS hn0 [5] ⟨rfl, trivial⟩ (by decide) rfl ?_
  rintro _ _ ⟨rfl, rfl⟩ _
  conv => whnf
  repeat (first | (refine And.intro rfl ?_; conv => whnf) | (refine And.intro (by decide) ?_; conv => whnf) | (refine draw_intro true (by kernel_rfl) ?_; conv => whnf) | (refine And.intro ⟨by omega, by omega⟩ ?_; conv => whnf) | (refine And.intro (by omega) ?_; conv => whnf) | (refine And.intro (fun _ => ⟨by omega, by omega⟩) ?_; conv => whnf) | (refine And.intro (of_decide_eq_true rfl) ?_; conv => whnf) | (refine And.intro (fun _ => ?_) (fun h => absurd h ?_); rotate_left; (focus (first | decide | (simp; done) | (simp [tcs]; done))); conv => whnf) | (refine And.intro (fun h => absurd h ?_) (fun _ => ?_); (focus (first | decide | (simp; done) | (simp [tcs]; done))); conv => whnf) | (intro _; conv => whnf))
  refine loop_intro (fun m tm H => ∃ (j : Nat), B.length = m + j ∧ tm = [(31, .c (.int .i64 (j))), (30, .c (.int .i64 ((nds B).length))), (29, .own 1), (4, .c (.sl 1 8 (rowN R))), (5, .own 2), (1, .ptr 0 0)] ∧
      H = [.box [.c (.sl 6 72 (dcs S)), .c (.sl 4 48 (tcs X)), .c (.int .i64 (k)), .c (.int .i64 (l)), .c (.int .i64 (n)), .c (.sl 4 48 (tcs ts)), .c (.int .i64 (k2)), .c (.int .i64 (l2)), .c (.int .i64 (n2)), .c (.sl 4 48 (tcs us))], .row 65 5 72 (nds B), .row 5 1 1 (bR ([116, 114, 49] ++ digs B.length ++ nodesB B j))])
    B.length _ _ ⟨0, by omega, rfl, rfl⟩ ?_ ?_
  · refine Wk.sel [0, 2, 6] (by decide) (by decide) (by decide) ⟨rfl, rfl, ?_, trivial⟩ ⟨rfl, rfl, rfl, rfl, rfl, rfl, trivial⟩ rfl
    rw [nodesB, List.append_nil, ← hnl]
    rfl
  rintro m tm H ⟨j, hj, rfl, rfl⟩
  conv => whnf
  refine ⟨fun hc => ?_, fun hc => ?_⟩
  · replace hc : (j : Int) < (nds B).length := of_decide_eq_true hc
    obtain ⟨t, ht⟩ : ∃ t, B[j]? = some t := ⟨B[j]'(by omega), List.getElem?_eq_getElem (by omega)⟩
    have htm := List.mem_of_getElem? ht
    have htw := hBs t htm
    have hwn := wf_node htw.1
    have hnc : (nds B)[j]? = some [.int .i64 t.k, .int .i64 t.l, .int .i64 t.n, .sl 4 48 (tcs t.ts), .sl 1 8 (rowN (kd B t))] := by simp [nds, ht, ndc]
    have hjb := hnb j (by omega)
    have hlen : ([116, 114, 49] ++ digs B.length ++ nodesB B j : List UInt8).length ≤ 657000000 := by simp only [List.length_append, List.length_cons, List.length_nil]; omega
    have hkl : (kd B t).length ≤ 600 := by
      have := szL_len t.ts
      have hsz : szT t = 1 + szL t.ts := by cases t; rw [szT]; rfl
      unfold kd
      rw [List.length_map]
      omega
    have hkx : ∀ x ∈ kd B t, x < j := fun x hx => by
      obtain ⟨u, hu, rfl⟩ := List.mem_map.1 hx
      obtain ⟨p, hp, hpu⟩ := g1.lo j t ht u hu
      rw [pl_of g1.nd hpu]
      exact hp
    have hstep : nodesB B (j + 1) = nodesB B j ++ nodeB B j t := by rw [nodesB, ht]
    have e1 : bR (([116, 114, 49] ++ digs B.length ++ nodesB B j) ++ [u8 (t.k + 8 * t.l)]) = bR ([116, 114, 49] ++ digs B.length ++ nodesB B j) ++ [[CV.int .u8 (IntKind.u8.wrap (t.k + 8 * t.l))]] := (bR_snoc _ _).symm
    have hbl := bR_len ([116, 114, 49] ++ digs B.length ++ nodesB B j)
    have hb1 : ((bR ([116, 114, 49] ++ digs B.length ++ nodesB B j)).length + 1) * 1 ≤ 140737488355328 := by omega
    have hb2 : (bR ([116, 114, 49] ++ digs B.length ++ nodesB B j)).length + 1 ≤ 9223372036854775807 := by omega
    obtain ⟨N, hN⟩ : ∃ N : Nat, t.n = N := ⟨t.n.toNat, by omega⟩
    have hdN := digs9 (n := N) (by omega)
    have hnum := cNumber (([116, 114, 49] ++ digs B.length ++ nodesB B j) ++ [u8 (t.k + 8 * t.l)]) N (by simp only [List.length_append, List.length_singleton] at hlen ⊢; omega) (by omega)
    have hls1 := cListC 44 j (fun k => digs (j - k - 1)) ((([116, 114, 49] ++ digs B.length ++ nodesB B j) ++ [u8 (t.k + 8 * t.l)]) ++ digs N) (kd B t) (fun x _ => digs9 (by omega)) (by simp only [List.length_append, List.length_singleton] at hlen ⊢; omega) (fun l' x hx hl' => cPackedF l' j x (hkx x hx) (by omega) hl')
    have hls2 := cListC 44 j (fun k => digs (j - k - 1)) (([116, 114, 49] ++ digs B.length ++ nodesB B j) ++ [u8 (t.k + 8 * t.l)]) (kd B t) (fun x _ => digs9 (by omega)) (by simp only [List.length_append, List.length_singleton] at hlen ⊢; omega) (fun l' x hx hl' => cPackedF l' j x (hkx x hx) (by omega) hl')
    rw [nodeB, hN, Int.toNat_natCast] at hstep
    rw [hN] at hnc
    rw [e1] at hnum hls2
    generalize kd B t = K at *
    generalize t.k = tk at *
    generalize t.l = tl at *
    generalize t.ts = tts at *
    conv => whnf
    repeat (first | (refine And.intro rfl ?_; conv => whnf) | (refine And.intro (by decide) ?_; conv => whnf) | (refine draw_intro true (by kernel_rfl) ?_; conv => whnf) | (refine And.intro ⟨by omega, by omega⟩ ?_; conv => whnf) | (refine And.intro (by omega) ?_; conv => whnf) | (refine And.intro (fun _ => ⟨by omega, by omega⟩) ?_; conv => whnf) | (refine And.intro (of_decide_eq_true rfl) ?_; conv => whnf) | (refine And.intro (fun _ => ?_) (fun h => absurd h ?_); rotate_left; (focus (first | decide | (simp; done) | (simp [tcs]; done))); conv => whnf) | (refine And.intro (fun h => absurd h ?_) (fun _ => ?_); (focus (first | decide | (simp; done) | (simp [tcs]; done))); conv => whnf) | (intro _; conv => whnf))
    refine ⟨[.int .i64 tk, .int .i64 tl, .int .i64 (N : Int), .sl 4 48 (tcs tts), .sl 1 8 (rowN K)], by rw [Int.toNat_natCast]; exact hnc, show 0 + 5 ≤ 5 by decide, ?_⟩
    conv => whnf
    repeat (first | (refine And.intro rfl ?_; conv => whnf) | (refine And.intro (by decide) ?_; conv => whnf) | (refine draw_intro true (by kernel_rfl) ?_; conv => whnf) | (refine And.intro ⟨by omega, by omega⟩ ?_; conv => whnf) | (refine And.intro (by omega) ?_; conv => whnf) | (refine And.intro (fun _ => ⟨by omega, by omega⟩) ?_; conv => whnf) | (refine And.intro (of_decide_eq_true rfl) ?_; conv => whnf) | (refine And.intro (fun _ => ?_) (fun h => absurd h ?_); rotate_left; (focus (first | decide | (simp; done) | (simp [tcs]; done))); conv => whnf) | (refine And.intro (fun h => absurd h ?_) (fun _ => ?_); (focus (first | decide | (simp; done) | (simp [tcs]; done))); conv => whnf) | (intro _; conv => whnf))
    refine ⟨fun hk4 => ?_, fun hk4 => ?_⟩
    · rw [show decide (tk = 4) = true from hk4] at hstep
      conv => whnf
      repeat (first | (refine And.intro rfl ?_; conv => whnf) | (refine And.intro (by decide) ?_; conv => whnf) | (refine draw_intro true (by kernel_rfl) ?_; conv => whnf) | (refine And.intro ⟨by omega, by omega⟩ ?_; conv => whnf) | (refine And.intro (by omega) ?_; conv => whnf) | (refine And.intro (fun _ => ⟨by omega, by omega⟩) ?_; conv => whnf) | (refine And.intro (of_decide_eq_true rfl) ?_; conv => whnf) | (refine And.intro (fun _ => ?_) (fun h => absurd h ?_); rotate_left; (focus (first | decide | (simp; done) | (simp [tcs]; done))); conv => whnf) | (refine And.intro (fun h => absurd h ?_) (fun _ => ?_); (focus (first | decide | (simp; done) | (simp [tcs]; done))); conv => whnf) | (intro _; conv => whnf))
      try (refine draw_intro true (by kernel_rfl) ?_; conv => whnf)
      first | refine CallSt.use hnum [6] ⟨rfl, trivial⟩ (by decide) rfl ?_ | refine CallPt.useS hnum [6] ⟨rfl, trivial⟩ (by decide) rfl ?_
      rintro _ _ ⟨rfl, rfl⟩ _
      conv => whnf
      repeat (first | (refine And.intro rfl ?_; conv => whnf) | (refine And.intro (by decide) ?_; conv => whnf) | (refine draw_intro true (by kernel_rfl) ?_; conv => whnf) | (refine And.intro ⟨by omega, by omega⟩ ?_; conv => whnf) | (refine And.intro (by omega) ?_; conv => whnf) | (refine And.intro (fun _ => ⟨by omega, by omega⟩) ?_; conv => whnf) | (refine And.intro (of_decide_eq_true rfl) ?_; conv => whnf) | (refine And.intro (fun _ => ?_) (fun h => absurd h ?_); rotate_left; (focus (first | decide | (simp; done) | (simp [tcs]; done))); conv => whnf) | (refine And.intro (fun h => absurd h ?_) (fun _ => ?_); (focus (first | decide | (simp; done) | (simp [tcs]; done))); conv => whnf) | (intro _; conv => whnf))
      try (refine draw_intro true (by kernel_rfl) ?_; conv => whnf)
      first | refine CallSt.use hls1 [7, 3] ⟨rfl, rfl, trivial⟩ (by decide) rfl ?_ | refine CallPt.useS hls1 [7, 3] ⟨rfl, rfl, trivial⟩ (by decide) rfl ?_
      rintro _ _ ⟨rfl, rfl⟩ _
      conv => whnf
      repeat (first | (refine And.intro rfl ?_; conv => whnf) | (refine And.intro (by decide) ?_; conv => whnf) | (refine draw_intro true (by kernel_rfl) ?_; conv => whnf) | (refine And.intro ⟨by omega, by omega⟩ ?_; conv => whnf) | (refine And.intro (by omega) ?_; conv => whnf) | (refine And.intro (fun _ => ⟨by omega, by omega⟩) ?_; conv => whnf) | (refine And.intro (of_decide_eq_true rfl) ?_; conv => whnf) | (refine And.intro (fun _ => ?_) (fun h => absurd h ?_); rotate_left; (focus (first | decide | (simp; done) | (simp [tcs]; done))); conv => whnf) | (refine And.intro (fun h => absurd h ?_) (fun _ => ?_); (focus (first | decide | (simp; done) | (simp [tcs]; done))); conv => whnf) | (intro _; conv => whnf))
      refine ⟨m - 1, _, _, by omega, ⟨j + 1, by omega, rfl, rfl⟩, Wk.sel [0, 1, 8] (by decide) (by decide) (by decide) ⟨rfl, rfl, ?_, trivial⟩ ⟨rfl, rfl, rfl, rfl, rfl, rfl, trivial⟩ rfl⟩
      refine congrArg (fun z => some (Ent.row 5 1 1 (bR z))) ?_
      rw [hstep]
      simp only [List.append_assoc]
    · rw [show decide (tk = 4) = false from hk4] at hstep
      conv => whnf
      repeat (first | (refine And.intro rfl ?_; conv => whnf) | (refine And.intro (by decide) ?_; conv => whnf) | (refine draw_intro true (by kernel_rfl) ?_; conv => whnf) | (refine And.intro ⟨by omega, by omega⟩ ?_; conv => whnf) | (refine And.intro (by omega) ?_; conv => whnf) | (refine And.intro (fun _ => ⟨by omega, by omega⟩) ?_; conv => whnf) | (refine And.intro (of_decide_eq_true rfl) ?_; conv => whnf) | (refine And.intro (fun _ => ?_) (fun h => absurd h ?_); rotate_left; (focus (first | decide | (simp; done) | (simp [tcs]; done))); conv => whnf) | (refine And.intro (fun h => absurd h ?_) (fun _ => ?_); (focus (first | decide | (simp; done) | (simp [tcs]; done))); conv => whnf) | (intro _; conv => whnf))
      try (refine draw_intro true (by kernel_rfl) ?_; conv => whnf)
      first | refine CallSt.use hls2 [6, 3] ⟨rfl, rfl, trivial⟩ (by decide) rfl ?_ | refine CallPt.useS hls2 [6, 3] ⟨rfl, rfl, trivial⟩ (by decide) rfl ?_
      rintro _ _ ⟨rfl, rfl⟩ _
      conv => whnf
      repeat (first | (refine And.intro rfl ?_; conv => whnf) | (refine And.intro (by decide) ?_; conv => whnf) | (refine draw_intro true (by kernel_rfl) ?_; conv => whnf) | (refine And.intro ⟨by omega, by omega⟩ ?_; conv => whnf) | (refine And.intro (by omega) ?_; conv => whnf) | (refine And.intro (fun _ => ⟨by omega, by omega⟩) ?_; conv => whnf) | (refine And.intro (of_decide_eq_true rfl) ?_; conv => whnf) | (refine And.intro (fun _ => ?_) (fun h => absurd h ?_); rotate_left; (focus (first | decide | (simp; done) | (simp [tcs]; done))); conv => whnf) | (refine And.intro (fun h => absurd h ?_) (fun _ => ?_); (focus (first | decide | (simp; done) | (simp [tcs]; done))); conv => whnf) | (intro _; conv => whnf))
      refine ⟨m - 1, _, _, by omega, ⟨j + 1, by omega, rfl, rfl⟩, Wk.sel [0, 1, 7] (by decide) (by decide) (by decide) ⟨rfl, rfl, ?_, trivial⟩ ⟨rfl, rfl, rfl, rfl, rfl, rfl, trivial⟩ rfl⟩
      refine congrArg (fun z => some (Ent.row 5 1 1 (bR z))) ?_
      rw [hstep]
      simp only [List.append_assoc, List.nil_append]
  · replace hc : ¬ (j : Int) < (nds B).length := of_decide_eq_false hc
    obtain rfl : j = B.length := by omega
    have hnbb := hnb B.length (by omega)
    have hSl := len_dcs S
    have hXl := len_tcs X
    have hlen : ([116, 114, 49] ++ digs B.length ++ nodesB B B.length : List UInt8).length ≤ 657000000 := by simp only [List.length_append, List.length_cons, List.length_nil]; omega
    have hdS := digs9 (n := S.length) (by omega)
    have hnS := cNumber ([116, 114, 49] ++ digs B.length ++ nodesB B B.length) S.length (by omega) (by omega)
    rw [← hSl] at hnS
    generalize hP : ([116, 114, 49] ++ digs B.length ++ nodesB B B.length : List UInt8) = P at *
    have hdb : ∀ j : Nat, j ≤ S.length → (declsB S R j).length ≤ 43 * j := decls_len (fun d hd => hnm d hd) (fun x hx => by have := hRb x hx; omega)
    conv => whnf
    repeat (first | (refine And.intro rfl ?_; conv => whnf) | (refine And.intro (by decide) ?_; conv => whnf) | (refine draw_intro true (by kernel_rfl) ?_; conv => whnf) | (refine And.intro ⟨by omega, by omega⟩ ?_; conv => whnf) | (refine And.intro (by omega) ?_; conv => whnf) | (refine And.intro (fun _ => ⟨by omega, by omega⟩) ?_; conv => whnf) | (refine And.intro (of_decide_eq_true rfl) ?_; conv => whnf) | (refine And.intro (fun _ => ?_) (fun h => absurd h ?_); rotate_left; (focus (first | decide | (simp; done) | (simp [tcs]; done))); conv => whnf) | (refine And.intro (fun h => absurd h ?_) (fun _ => ?_); (focus (first | decide | (simp; done) | (simp [tcs]; done))); conv => whnf) | (intro _; conv => whnf))
    try (refine draw_intro true (by kernel_rfl) ?_; conv => whnf)
    first | refine CallSt.use hnS [2] ⟨rfl, trivial⟩ (by decide) rfl ?_ | refine CallPt.useS hnS [2] ⟨rfl, trivial⟩ (by decide) rfl ?_
    rintro _ _ ⟨rfl, rfl⟩ _
    conv => whnf
    repeat (first | (refine And.intro rfl ?_; conv => whnf) | (refine And.intro (by decide) ?_; conv => whnf) | (refine draw_intro true (by kernel_rfl) ?_; conv => whnf) | (refine And.intro ⟨by omega, by omega⟩ ?_; conv => whnf) | (refine And.intro (by omega) ?_; conv => whnf) | (refine And.intro (fun _ => ⟨by omega, by omega⟩) ?_; conv => whnf) | (refine And.intro (of_decide_eq_true rfl) ?_; conv => whnf) | (refine And.intro (fun _ => ?_) (fun h => absurd h ?_); rotate_left; (focus (first | decide | (simp; done) | (simp [tcs]; done))); conv => whnf) | (refine And.intro (fun h => absurd h ?_) (fun _ => ?_); (focus (first | decide | (simp; done) | (simp [tcs]; done))); conv => whnf) | (intro _; conv => whnf))
    refine loop_intro (fun m tm H => ∃ (j : Nat), S.length = m + j ∧ tm = [(71, .c (.int .i64 (j))), (70, .c (.int .i64 ((dcs S).length))), (69, .c (.sl 6 72 (dcs S))), (4, .c (.sl 1 8 (rowN R))), (5, .own 1), (1, .ptr 0 0)] ∧
        H = [.box [.c (.sl 6 72 (dcs S)), .c (.sl 4 48 (tcs X)), .c (.int .i64 (k)), .c (.int .i64 (l)), .c (.int .i64 (n)), .c (.sl 4 48 (tcs ts)), .c (.int .i64 (k2)), .c (.int .i64 (l2)), .c (.int .i64 (n2)), .c (.sl 4 48 (tcs us))], .row 5 1 1 (bR (P ++ digs S.length ++ declsB S R j))])
      S.length _ _ ⟨0, by omega, rfl, rfl⟩ ?_ ?_
    · refine Wk.sel [0, 3] (by decide) (by decide) (by decide) ⟨rfl, ?_, trivial⟩ ⟨rfl, rfl, rfl, rfl, rfl, rfl, trivial⟩ rfl
      rw [declsB, List.append_nil, ← hSl]
      rfl
    rintro m tm H ⟨j, hj, rfl, rfl⟩
    conv => whnf
    refine ⟨fun hc => ?_, fun hc => ?_⟩
    · replace hc : (j : Int) < (dcs S).length := of_decide_eq_true hc
      obtain ⟨d, hd⟩ : ∃ d, S[j]? = some d := ⟨S[j]'(by omega), List.getElem?_eq_getElem (by omega)⟩
      obtain ⟨r, hr⟩ : ∃ r, R[j]? = some r := ⟨R[j]'(by omega), List.getElem?_eq_getElem (by omega)⟩
      have hdc := dcs_at hd
      have hrr := rowN_at hr
      have hdm := hnm d (List.mem_of_getElem? hd)
      have hrm := hRb r (List.mem_of_getElem? hr)
      have hjb := hdb j (by omega)
      have hstep : declsB S R (j + 1) = declsB S R j ++ declB d r := by rw [declsB, hd, hr]
      have hQ : (P ++ digs S.length ++ declsB S R j).length ≤ 657005000 := by simp only [List.length_append]; omega
      generalize hQe : P ++ digs S.length ++ declsB S R j = Q at *
      obtain ⟨i, hi⟩ : ∃ i : Nat, d.i = i := ⟨d.i.toNat, by omega⟩
      unfold declB at hstep
      rw [hi, Int.toNat_natCast] at hstep
      obtain ⟨s', ⟨k', l', n', us'⟩, i'⟩ := d
      simp only at hdm hi hstep
      subst hi
      have d1 := digs9 (n := s'.size) (by omega)
      have d2 := digs9 (n := r) (by omega)
      have d3 := digs9 (n := i) (by omega)
      have d4 : s'.data.toList.length = s'.size := by rw [Array.length_toList]; rfl
      have hn1 := cNumber Q s'.size (by omega) (by omega)
      have hn2 := cNumber (Q ++ digs s'.size ++ s'.data.toList) r (by simp only [List.length_append]; omega) (by omega)
      have hn3 := cNumber (Q ++ digs s'.size ++ s'.data.toList ++ digs r) i (by simp only [List.length_append]; omega) (by omega)
      rw [bR_app _ s'.data.toList] at hn2
      have hbl := bR_len (Q ++ digs s'.size)
      have hp := digs_pos s'.size
      rw [List.length_append] at hbl
      conv => whnf
      refine ⟨_, ⟨by omega, hdc⟩, ?_⟩
      conv => whnf
      refine ⟨show 6 ≤ 6 by decide, ?_⟩
      conv => whnf
      repeat (first | (refine And.intro rfl ?_; conv => whnf) | (refine And.intro (by decide) ?_; conv => whnf) | (refine draw_intro true (by kernel_rfl) ?_; conv => whnf) | (refine And.intro ⟨by omega, by omega⟩ ?_; conv => whnf) | (refine And.intro (by omega) ?_; conv => whnf) | (refine And.intro (fun _ => ⟨by omega, by omega⟩) ?_; conv => whnf) | (refine And.intro (of_decide_eq_true rfl) ?_; conv => whnf) | (refine And.intro (fun _ => ?_) (fun h => absurd h ?_); rotate_left; (focus (first | decide | (simp; done) | (simp [tcs]; done))); conv => whnf) | (refine And.intro (fun h => absurd h ?_) (fun _ => ?_); (focus (first | decide | (simp; done) | (simp [tcs]; done))); conv => whnf) | (intro _; conv => whnf))
      try (refine draw_intro true (by kernel_rfl) ?_; conv => whnf)
      first | refine CallSt.use hn1 [1] ⟨rfl, trivial⟩ (by decide) rfl ?_ | refine CallPt.useS hn1 [1] ⟨rfl, trivial⟩ (by decide) rfl ?_
      rintro _ _ ⟨rfl, rfl⟩ _
      conv => whnf
      refine ⟨show 0 < (bR (Q ++ digs s'.size)).length by omega, show (bR (Q ++ digs s'.size)).length + s'.size ≤ 140737488355328 by omega, ?_⟩
      conv => whnf
      repeat (first | (refine And.intro rfl ?_; conv => whnf) | (refine And.intro (by decide) ?_; conv => whnf) | (refine draw_intro true (by kernel_rfl) ?_; conv => whnf) | (refine And.intro ⟨by omega, by omega⟩ ?_; conv => whnf) | (refine And.intro (by omega) ?_; conv => whnf) | (refine And.intro (fun _ => ⟨by omega, by omega⟩) ?_; conv => whnf) | (refine And.intro (of_decide_eq_true rfl) ?_; conv => whnf) | (refine And.intro (fun _ => ?_) (fun h => absurd h ?_); rotate_left; (focus (first | decide | (simp; done) | (simp [tcs]; done))); conv => whnf) | (refine And.intro (fun h => absurd h ?_) (fun _ => ?_); (focus (first | decide | (simp; done) | (simp [tcs]; done))); conv => whnf) | (intro _; conv => whnf))
      refine ⟨_, ⟨by omega, hrr⟩, ?_⟩
      conv => whnf
      refine ⟨show 1 ≤ 1 by decide, ?_⟩
      conv => whnf
      repeat (first | (refine And.intro rfl ?_; conv => whnf) | (refine And.intro (by decide) ?_; conv => whnf) | (refine draw_intro true (by kernel_rfl) ?_; conv => whnf) | (refine And.intro ⟨by omega, by omega⟩ ?_; conv => whnf) | (refine And.intro (by omega) ?_; conv => whnf) | (refine And.intro (fun _ => ⟨by omega, by omega⟩) ?_; conv => whnf) | (refine And.intro (of_decide_eq_true rfl) ?_; conv => whnf) | (refine And.intro (fun _ => ?_) (fun h => absurd h ?_); rotate_left; (focus (first | decide | (simp; done) | (simp [tcs]; done))); conv => whnf) | (refine And.intro (fun h => absurd h ?_) (fun _ => ?_); (focus (first | decide | (simp; done) | (simp [tcs]; done))); conv => whnf) | (intro _; conv => whnf))
      try (refine draw_intro true (by kernel_rfl) ?_; conv => whnf)
      first | refine CallSt.use hn2 [4] ⟨rfl, trivial⟩ (by decide) rfl ?_ | refine CallPt.useS hn2 [4] ⟨rfl, trivial⟩ (by decide) rfl ?_
      rintro _ _ ⟨rfl, rfl⟩ _
      conv => whnf
      repeat (first | (refine And.intro rfl ?_; conv => whnf) | (refine And.intro (by decide) ?_; conv => whnf) | (refine draw_intro true (by kernel_rfl) ?_; conv => whnf) | (refine And.intro ⟨by omega, by omega⟩ ?_; conv => whnf) | (refine And.intro (by omega) ?_; conv => whnf) | (refine And.intro (fun _ => ⟨by omega, by omega⟩) ?_; conv => whnf) | (refine And.intro (of_decide_eq_true rfl) ?_; conv => whnf) | (refine And.intro (fun _ => ?_) (fun h => absurd h ?_); rotate_left; (focus (first | decide | (simp; done) | (simp [tcs]; done))); conv => whnf) | (refine And.intro (fun h => absurd h ?_) (fun _ => ?_); (focus (first | decide | (simp; done) | (simp [tcs]; done))); conv => whnf) | (intro _; conv => whnf))
      try (refine draw_intro true (by kernel_rfl) ?_; conv => whnf)
      first | refine CallSt.use hn3 [5] ⟨rfl, trivial⟩ (by decide) rfl ?_ | refine CallPt.useS hn3 [5] ⟨rfl, trivial⟩ (by decide) rfl ?_
      rintro _ _ ⟨rfl, rfl⟩ _
      conv => whnf
      repeat (first | (refine And.intro rfl ?_; conv => whnf) | (refine And.intro (by decide) ?_; conv => whnf) | (refine draw_intro true (by kernel_rfl) ?_; conv => whnf) | (refine And.intro ⟨by omega, by omega⟩ ?_; conv => whnf) | (refine And.intro (by omega) ?_; conv => whnf) | (refine And.intro (fun _ => ⟨by omega, by omega⟩) ?_; conv => whnf) | (refine And.intro (of_decide_eq_true rfl) ?_; conv => whnf) | (refine And.intro (fun _ => ?_) (fun h => absurd h ?_); rotate_left; (focus (first | decide | (simp; done) | (simp [tcs]; done))); conv => whnf) | (refine And.intro (fun h => absurd h ?_) (fun _ => ?_); (focus (first | decide | (simp; done) | (simp [tcs]; done))); conv => whnf) | (intro _; conv => whnf))
      refine ⟨m - 1, _, _, by omega, ⟨j + 1, by omega, rfl, rfl⟩, Wk.sel [0, 6] (by decide) (by decide) (by decide) ⟨rfl, ?_, trivial⟩ ⟨rfl, rfl, rfl, rfl, rfl, rfl, trivial⟩ rfl⟩
      refine congrArg (fun z => some (Ent.row 5 1 1 (bR z))) ?_
      rw [hstep, ← List.append_assoc, hQe]
      simp only [List.append_assoc]
    · replace hc : ¬ (j : Int) < (dcs S).length := of_decide_eq_false hc
      obtain rfl : j = S.length := by omega
      have hdS2 := hdb S.length (by omega)
      have hQ : (P ++ digs S.length ++ declsB S R S.length).length ≤ 657005000 := by simp only [List.length_append]; omega
      have hpk : packL S X B R = P ++ digs S.length ++ declsB S R S.length ++ lstB digs ((R.drop S.length).take X.length) ++ ((R.drop S.length).drop X.length).flatMap digs := by
        rw [← hP]
        simp only [packL, List.append_assoc]
      rw [hpk]
      clear hpk
      generalize hQe : P ++ digs S.length ++ declsB S R S.length = Q at *
      have hRn := rowN_len R
      have hr1 : ((rowN R).take (((rowN R).length : Int).toNat)).drop (((dcs S).length : Int).toNat) = rowN (R.drop S.length) := by rw [Int.toNat_natCast, Int.toNat_natCast, List.take_length, hSl]; simp [rowN]
      have hRd := rowN_len (R.drop S.length)
      rw [List.length_drop] at hRd
      have hr2 : ((rowN (R.drop S.length)).take (((tcs X).length : Int).toNat)).drop (Int.toNat 0) = rowN ((R.drop S.length).take X.length) := by
        rw [Int.toNat_natCast, hXl]
        simp [rowN]
      have hr3 : ((rowN (R.drop S.length)).take (((rowN (R.drop S.length)).length : Int).toNat)).drop (((tcs X).length : Int).toNat) = rowN ((R.drop S.length).drop X.length) := by rw [Int.toNat_natCast, Int.toNat_natCast, List.take_length, hXl]; simp [rowN]
      have hls := cListN Q ((R.drop S.length).take X.length) (fun x hx => by have := hRb x (List.mem_of_mem_drop (List.mem_of_mem_take hx)); omega) (by rw [List.length_take]; omega)
      conv => whnf
      repeat (first | (refine And.intro rfl ?_; conv => whnf) | (refine And.intro (by decide) ?_; conv => whnf) | (refine draw_intro true (by kernel_rfl) ?_; conv => whnf) | (refine And.intro ⟨by omega, by omega⟩ ?_; conv => whnf) | (refine And.intro (by omega) ?_; conv => whnf) | (refine And.intro (fun _ => ⟨by omega, by omega⟩) ?_; conv => whnf) | (refine And.intro (of_decide_eq_true rfl) ?_; conv => whnf) | (refine And.intro (fun _ => ?_) (fun h => absurd h ?_); rotate_left; (focus (first | decide | (simp; done) | (simp [tcs]; done))); conv => whnf) | (refine And.intro (fun h => absurd h ?_) (fun _ => ?_); (focus (first | decide | (simp; done) | (simp [tcs]; done))); conv => whnf) | (intro _; conv => whnf))
      rw [hr1]
      refine ⟨⟨by omega, by omega, by omega⟩, ?_⟩
      conv => whnf
      rw [hr2]
      try (refine draw_intro true (by kernel_rfl) ?_; conv => whnf)
      first | refine CallSt.use hls [1] ⟨rfl, trivial⟩ (by decide) rfl ?_ | refine CallPt.useS hls [1] ⟨rfl, trivial⟩ (by decide) rfl ?_
      rintro _ _ ⟨rfl, rfl⟩ _
      conv => whnf
      repeat (first | (refine And.intro rfl ?_; conv => whnf) | (refine And.intro (by decide) ?_; conv => whnf) | (refine draw_intro true (by kernel_rfl) ?_; conv => whnf) | (refine And.intro ⟨by omega, by omega⟩ ?_; conv => whnf) | (refine And.intro (by omega) ?_; conv => whnf) | (refine And.intro (fun _ => ⟨by omega, by omega⟩) ?_; conv => whnf) | (refine And.intro (of_decide_eq_true rfl) ?_; conv => whnf) | (refine And.intro (fun _ => ?_) (fun h => absurd h ?_); rotate_left; (focus (first | decide | (simp; done) | (simp [tcs]; done))); conv => whnf) | (refine And.intro (fun h => absurd h ?_) (fun _ => ?_); (focus (first | decide | (simp; done) | (simp [tcs]; done))); conv => whnf) | (intro _; conv => whnf))
      rw [hr3]
      conv => whnf
      repeat (first | (refine And.intro rfl ?_; conv => whnf) | (refine And.intro (by decide) ?_; conv => whnf) | (refine draw_intro true (by kernel_rfl) ?_; conv => whnf) | (refine And.intro ⟨by omega, by omega⟩ ?_; conv => whnf) | (refine And.intro (by omega) ?_; conv => whnf) | (refine And.intro (fun _ => ⟨by omega, by omega⟩) ?_; conv => whnf) | (refine And.intro (of_decide_eq_true rfl) ?_; conv => whnf) | (refine And.intro (fun _ => ?_) (fun h => absurd h ?_); rotate_left; (focus (first | decide | (simp; done) | (simp [tcs]; done))); conv => whnf) | (refine And.intro (fun h => absurd h ?_) (fun _ => ?_); (focus (first | decide | (simp; done) | (simp [tcs]; done))); conv => whnf) | (intro _; conv => whnf))
      have hTl : ((R.drop S.length).drop X.length).length = 2 := by rw [List.length_drop, List.length_drop]; omega
      have hTb : ∀ x ∈ (R.drop S.length).drop X.length, x ≤ 1000000 := fun x hx => by have := hRb x (List.mem_of_mem_drop (List.mem_of_mem_drop hx)); omega
      have hlb := lstB_len digs ((R.drop S.length).take X.length) (fun x hx => by
        have := hRb x (List.mem_of_mem_drop (List.mem_of_mem_take hx))
        exact digs9 (by omega)) (by rw [List.length_take]; omega)
      have hlt : ((R.drop S.length).take X.length).length ≤ 100 := by rw [List.length_take]; omega
      have hGl : (Q ++ lstB digs ((R.drop S.length).take X.length)).length ≤ 658000000 := by rw [List.length_append]; omega
      generalize hG : Q ++ lstB digs ((R.drop S.length).take X.length) = G at *
      generalize (R.drop S.length).drop X.length = T at *
      have hTr := rowN_len T
      refine loop_intro (fun m tm H => ∃ (j : Nat), T.length = m + j ∧ tm = [(112, .c (.int .i64 (j))), (111, .c (.int .i64 ((rowN T).length))), (110, .c (.sl 1 8 (rowN T))), (5, .own 0)] ∧
          H = [.row 5 1 1 (bR (G ++ (T.take j).flatMap digs))])
        T.length _ _ ⟨0, by omega, rfl, rfl⟩ ?_ ?_
      · refine Wk.sel [2] (by decide) (by decide) (by decide) ⟨?_, trivial⟩ ⟨rfl, rfl, rfl, rfl, trivial⟩ rfl
        refine congrArg (fun z => some (Ent.row 5 1 1 (bR z))) ?_
        simp
      rintro m tm H ⟨j, hj, rfl, rfl⟩
      conv => whnf
      refine ⟨fun hc => ?_, fun hc => ?_⟩
      · replace hc : (j : Int) < (rowN T).length := of_decide_eq_true hc
        obtain ⟨x, hx⟩ : ∃ x, T[j]? = some x := ⟨T[j]'(by omega), List.getElem?_eq_getElem (by omega)⟩
        have hxr := rowN_at hx
        have hxb := hTb x (List.mem_of_getElem? hx)
        have hd := digs9 (n := x) (by omega)
        have hfl := flat9 digs (T.take j) fun y hy => digs9 (by have := hTb y (List.mem_of_mem_take hy); omega)
        have hjl : (T.take j).length ≤ 2 := by rw [List.length_take]; omega
        have hnx := cNumber (G ++ (T.take j).flatMap digs) x (by rw [List.length_append]; omega) (by omega)
        conv => whnf
        refine ⟨_, ⟨by omega, by simpa using hxr⟩, ?_⟩
        conv => whnf
        refine ⟨Nat.le_refl 1, ?_⟩
        conv => whnf
        repeat (first | (refine And.intro rfl ?_; conv => whnf) | (refine And.intro (by decide) ?_; conv => whnf) | (refine draw_intro true (by kernel_rfl) ?_; conv => whnf) | (refine And.intro ⟨by omega, by omega⟩ ?_; conv => whnf) | (refine And.intro (by omega) ?_; conv => whnf) | (refine And.intro (fun _ => ⟨by omega, by omega⟩) ?_; conv => whnf) | (refine And.intro (of_decide_eq_true rfl) ?_; conv => whnf) | (refine And.intro (fun _ => ?_) (fun h => absurd h ?_); rotate_left; (focus (first | decide | (simp; done) | (simp [tcs]; done))); conv => whnf) | (refine And.intro (fun h => absurd h ?_) (fun _ => ?_); (focus (first | decide | (simp; done) | (simp [tcs]; done))); conv => whnf) | (intro _; conv => whnf))
        try (refine draw_intro true (by kernel_rfl) ?_; conv => whnf)
        first | refine CallSt.use hnx [0] ⟨rfl, trivial⟩ (by decide) rfl ?_ | refine CallPt.useS hnx [0] ⟨rfl, trivial⟩ (by decide) rfl ?_
        rintro _ _ ⟨rfl, rfl⟩ _
        conv => whnf
        repeat (first | (refine And.intro rfl ?_; conv => whnf) | (refine And.intro (by decide) ?_; conv => whnf) | (refine draw_intro true (by kernel_rfl) ?_; conv => whnf) | (refine And.intro ⟨by omega, by omega⟩ ?_; conv => whnf) | (refine And.intro (by omega) ?_; conv => whnf) | (refine And.intro (fun _ => ⟨by omega, by omega⟩) ?_; conv => whnf) | (refine And.intro (of_decide_eq_true rfl) ?_; conv => whnf) | (refine And.intro (fun _ => ?_) (fun h => absurd h ?_); rotate_left; (focus (first | decide | (simp; done) | (simp [tcs]; done))); conv => whnf) | (refine And.intro (fun h => absurd h ?_) (fun _ => ?_); (focus (first | decide | (simp; done) | (simp [tcs]; done))); conv => whnf) | (intro _; conv => whnf))
        refine ⟨m - 1, _, _, by omega, ⟨j + 1, by omega, rfl, rfl⟩, Wk.sel [1] (by decide) (by decide) (by decide) ⟨?_, trivial⟩ ⟨rfl, rfl, rfl, rfl, trivial⟩ rfl⟩
        refine congrArg (fun z => some (Ent.row 5 1 1 (bR z))) ?_
        rw [List.take_add_one, hx]
        simp
      · replace hc : ¬ (j : Int) < (rowN T).length := of_decide_eq_false hc
        obtain rfl : j = T.length := by omega
        rw [List.take_length]
        have hfl := flat9 digs T fun y hy => digs9 (by have := hTb y hy; omega)
        have hse := cSealed (G ++ T.flatMap digs) (by rw [List.length_append]; omega)
        generalize G ++ T.flatMap digs = Z at *
        conv => whnf
        repeat (first | (refine And.intro rfl ?_; conv => whnf) | (refine And.intro (by decide) ?_; conv => whnf) | (refine draw_intro true (by kernel_rfl) ?_; conv => whnf) | (refine And.intro ⟨by omega, by omega⟩ ?_; conv => whnf) | (refine And.intro (by omega) ?_; conv => whnf) | (refine And.intro (fun _ => ⟨by omega, by omega⟩) ?_; conv => whnf) | (refine And.intro (of_decide_eq_true rfl) ?_; conv => whnf) | (refine And.intro (fun _ => ?_) (fun h => absurd h ?_); rotate_left; (focus (first | decide | (simp; done) | (simp [tcs]; done))); conv => whnf) | (refine And.intro (fun h => absurd h ?_) (fun _ => ?_); (focus (first | decide | (simp; done) | (simp [tcs]; done))); conv => whnf) | (intro _; conv => whnf))
        try (refine draw_intro true (by kernel_rfl) ?_; conv => whnf)
        first | refine CallSt.use hse [0] ⟨rfl, trivial⟩ (by decide) rfl ?_ | refine CallPt.useS hse [0] ⟨rfl, trivial⟩ (by decide) rfl ?_
        rintro _ _ ⟨rfl, rfl⟩ _
        conv => whnf
        repeat (first | (refine And.intro rfl ?_; conv => whnf) | (refine And.intro (by decide) ?_; conv => whnf) | (refine draw_intro true (by kernel_rfl) ?_; conv => whnf) | (refine And.intro ⟨by omega, by omega⟩ ?_; conv => whnf) | (refine And.intro (by omega) ?_; conv => whnf) | (refine And.intro (fun _ => ⟨by omega, by omega⟩) ?_; conv => whnf) | (refine And.intro (of_decide_eq_true rfl) ?_; conv => whnf) | (refine And.intro (fun _ => ?_) (fun h => absurd h ?_); rotate_left; (focus (first | decide | (simp; done) | (simp [tcs]; done))); conv => whnf) | (refine And.intro (fun h => absurd h ?_) (fun _ => ?_); (focus (first | decide | (simp; done) | (simp [tcs]; done))); conv => whnf) | (intro _; conv => whnf))
        all_goals (first | rfl | exact ⟨rfl, rfl⟩ | exact ⟨rfl, rfl, rfl⟩)
end Go.Tr
/- cert: Saved, Pack; awake of trusslaw19. -/
namespace Go.Tr
open Go.Proofs
def kindC : Crt := ⟨[], [], .mk 1 0 0 [], .mk 1 0 0 []⟩
theorem cKindC : CallSt Try.prog 25 [] [] (fun r H' => r = crv kindC ∧ H' = []) := by
  unfold crv kindC
  refine call_pure (E := env 0) (fn := Try.f25) (c := bodyOf Try.f25) (env_ok 0) mixed (by kernel_rfl) (by kernel_rfl) (by kernel_rfl) (by kernel_rfl) (by kernel_rfl) (by kernel_rfl) rfl ?_
  conv => whnf
  repeat (first | (refine And.intro rfl ?_; conv => whnf) | (refine And.intro (by decide) ?_; conv => whnf) | (refine draw_intro true (by kernel_rfl) ?_; conv => whnf) | (refine And.intro ⟨by omega, by omega⟩ ?_; conv => whnf) | (refine And.intro (by omega) ?_; conv => whnf) | (refine And.intro (fun _ => ⟨by omega, by omega⟩) ?_; conv => whnf) | (refine And.intro (of_decide_eq_true rfl) ?_; conv => whnf) | (refine And.intro (fun _ => ?_) (fun h => absurd h ?_); rotate_left; (focus (first | decide | (simp; done) | (simp [tcs]; done))); conv => whnf) | (refine And.intro (fun h => absurd h ?_) (fun _ => ?_); (focus (first | decide | (simp; done) | (simp [tcs]; done))); conv => whnf) | (intro _; conv => whnf))
  all_goals (first | rfl | exact ⟨rfl, rfl⟩ | exact ⟨rfl, rfl, rfl⟩)
/-- The nodes, and their number. -/
def nodesOf (c : Crt) : List Term := bk c (crl c).length
def savedV (c : Crt) : AV := match builtB c with
  | true => .tup [.c (.int .i64 (szL (crl c))), .c (.int .i64 ((nodesOf c).length)), .c (.int .i64 (0))]
  | false => .tup [.c (.int .i64 (0)), .c (.int .i64 (0)), .c (.int .i64 (2))]
theorem cSaved (c : Crt) : CallSt Try.prog 11 [crv c] [] (fun r H' => r = savedV c ∧ H' = []) := by
  have hb := cBuilt c
  unfold savedV nodesOf
  cases hbc : builtB c with
  | false =>
    rw [hbc] at hb
    obtain ⟨S, X, ⟨k, l, n, ts⟩, ⟨k2, l2, n2, us⟩⟩ := c
    unfold crv at *
    dsimp only [Term.k, Term.l, Term.n, Term.ts] at *
    refine call_pure (E := env 0) (fn := Try.f11) (c := bodyOf Try.f11) (env_ok 0) mixed (by kernel_rfl) (by kernel_rfl) (by kernel_rfl) (by kernel_rfl) (by kernel_rfl) (by kernel_rfl) rfl ?_
    conv => whnf
    try (refine draw_intro true (by kernel_rfl) ?_; conv => whnf)
    first | refine CallSt.use hb [] trivial (by decide) rfl ?_ | refine CallPt.useS hb [] trivial (by decide) rfl ?_
    rintro _ _ ⟨rfl, rfl⟩ _
    conv => whnf
    repeat (first | (refine And.intro rfl ?_; conv => whnf) | (refine And.intro (by decide) ?_; conv => whnf) | (refine draw_intro true (by kernel_rfl) ?_; conv => whnf) | (refine And.intro ⟨by omega, by omega⟩ ?_; conv => whnf) | (refine And.intro (by omega) ?_; conv => whnf) | (refine And.intro (fun _ => ⟨by omega, by omega⟩) ?_; conv => whnf) | (refine And.intro (of_decide_eq_true rfl) ?_; conv => whnf) | (refine And.intro (fun _ => ?_) (fun h => absurd h ?_); rotate_left; (focus (first | decide | (simp; done) | (simp [tcs]; done))); conv => whnf) | (refine And.intro (fun h => absurd h ?_) (fun _ => ?_); (focus (first | decide | (simp; done) | (simp [tcs]; done))); conv => whnf) | (intro _; conv => whnf))
    all_goals (first | rfl | exact ⟨rfl, rfl⟩ | exact ⟨rfl, rfl, rfl⟩)
  | true =>
    rw [hbc] at hb
    have hn := cNewNodes c (built_ok hbc).sane
    have hl := nds_len (bk c (crl c).length)
    have hB : (bk c (crl c).length).length ≤ 1000000 := by
      have hs := (built_ok hbc).sane
      obtain ⟨_, _, g3⟩ := bk_good hs (crl c).length
      rw [List.take_length] at g3
      have hsa := szL_all (crl c) fun u hu => (hs.t u hu).2
      have := crl_len c
      have := hs.S
      have := hs.X
      omega
    have hb1 : (nds (bk c (crl c).length)).length * 72 ≤ 140737488355328 := by omega
    rw [← hl]
    clear hbc
    generalize nds (bk _ _) = N at *
    generalize bk _ _ = B at *
    generalize rt _ _ = R at *
    generalize crl c = q at *
    obtain ⟨S, X, ⟨k, l, n, ts⟩, ⟨k2, l2, n2, us⟩⟩ := c
    unfold crv at *
    dsimp only [Term.k, Term.l, Term.n, Term.ts] at *
    refine call_pure (E := env 0) (fn := Try.f11) (c := bodyOf Try.f11) (env_ok 0) mixed (by kernel_rfl) (by kernel_rfl) (by kernel_rfl) (by kernel_rfl) (by kernel_rfl) (by kernel_rfl) rfl ?_
    conv => whnf
    try (refine draw_intro true (by kernel_rfl) ?_; conv => whnf)
    first | refine CallSt.use hb [] trivial (by decide) rfl ?_ | refine CallPt.useS hb [] trivial (by decide) rfl ?_
    rintro _ _ ⟨rfl, rfl⟩ _
    conv => whnf
    repeat (first | (refine And.intro rfl ?_; conv => whnf) | (refine And.intro (by decide) ?_; conv => whnf) | (refine draw_intro true (by kernel_rfl) ?_; conv => whnf) | (refine And.intro ⟨by omega, by omega⟩ ?_; conv => whnf) | (refine And.intro (by omega) ?_; conv => whnf) | (refine And.intro (fun _ => ⟨by omega, by omega⟩) ?_; conv => whnf) | (refine And.intro (of_decide_eq_true rfl) ?_; conv => whnf) | (refine And.intro (fun _ => ?_) (fun h => absurd h ?_); rotate_left; (focus (first | decide | (simp; done) | (simp [tcs]; done))); conv => whnf) | (refine And.intro (fun h => absurd h ?_) (fun _ => ?_); (focus (first | decide | (simp; done) | (simp [tcs]; done))); conv => whnf) | (intro _; conv => whnf))
    try (refine draw_intro true (by kernel_rfl) ?_; conv => whnf)
    first | refine CallSt.use hn [] trivial (by decide) rfl ?_ | refine CallPt.useS hn [] trivial (by decide) rfl ?_
    rintro _ _ ⟨rfl, rfl⟩ _
    conv => whnf
    repeat (first | (refine And.intro rfl ?_; conv => whnf) | (refine And.intro (by decide) ?_; conv => whnf) | (refine draw_intro true (by kernel_rfl) ?_; conv => whnf) | (refine And.intro ⟨by omega, by omega⟩ ?_; conv => whnf) | (refine And.intro (by omega) ?_; conv => whnf) | (refine And.intro (fun _ => ⟨by omega, by omega⟩) ?_; conv => whnf) | (refine And.intro (of_decide_eq_true rfl) ?_; conv => whnf) | (refine And.intro (fun _ => ?_) (fun h => absurd h ?_); rotate_left; (focus (first | decide | (simp; done) | (simp [tcs]; done))); conv => whnf) | (refine And.intro (fun h => absurd h ?_) (fun _ => ?_); (focus (first | decide | (simp; done) | (simp [tcs]; done))); conv => whnf) | (intro _; conv => whnf))
    all_goals (first | rfl | exact ⟨rfl, rfl⟩ | exact ⟨rfl, rfl, rfl⟩)
/-- A certificate's packed form. -/
def packB (c : Crt) : List UInt8 := sealB (packL c.S c.X (bk c (crl c).length) (rt c (crl c).length))
def packV (c : Crt) : AV := match builtB c with
  | true => (match decide (60000 < ((⟨(packB c).toArray⟩ : ByteArray).size : Int)) with
    | true => .tup [.c (.str ⟨#[]⟩), .c (.int .i64 (5))]
    | false => .tup [.c (.str ⟨(packB c).toArray⟩), .c (.int .i64 (0))])
  | false => .tup [.c (.str ⟨#[]⟩), .c (.int .i64 (2))]
theorem cPack (c : Crt) : CallSt Try.prog 19 [crv c] [] (fun r H' => r = packV c ∧ H' = []) := by
  have hb := cBuilt c
  unfold packV
  cases hbc : builtB c with
  | false =>
    rw [hbc] at hb
    obtain ⟨S, X, ⟨k, l, n, ts⟩, ⟨k2, l2, n2, us⟩⟩ := c
    unfold crv at *
    dsimp only [Term.k, Term.l, Term.n, Term.ts] at *
    refine call_pure (E := env 0) (fn := Try.f19) (c := bodyOf Try.f19) (env_ok 0) mixed (by kernel_rfl) (by kernel_rfl) (by kernel_rfl) (by kernel_rfl) (by kernel_rfl) (by kernel_rfl) rfl ?_
    conv => whnf
    try (refine draw_intro true (by kernel_rfl) ?_; conv => whnf)
    first | refine CallSt.use hb [] trivial (by decide) rfl ?_ | refine CallPt.useS hb [] trivial (by decide) rfl ?_
    rintro _ _ ⟨rfl, rfl⟩ _
    conv => whnf
    repeat (first | (refine And.intro rfl ?_; conv => whnf) | (refine And.intro (by decide) ?_; conv => whnf) | (refine draw_intro true (by kernel_rfl) ?_; conv => whnf) | (refine And.intro ⟨by omega, by omega⟩ ?_; conv => whnf) | (refine And.intro (by omega) ?_; conv => whnf) | (refine And.intro (fun _ => ⟨by omega, by omega⟩) ?_; conv => whnf) | (refine And.intro (of_decide_eq_true rfl) ?_; conv => whnf) | (refine And.intro (fun _ => ?_) (fun h => absurd h ?_); rotate_left; (focus (first | decide | (simp; done) | (simp [tcs]; done))); conv => whnf) | (refine And.intro (fun h => absurd h ?_) (fun _ => ?_); (focus (first | decide | (simp; done) | (simp [tcs]; done))); conv => whnf) | (intro _; conv => whnf))
    all_goals (first | rfl | exact ⟨rfl, rfl⟩ | exact ⟨rfl, rfl, rfl⟩)
  | true =>
    rw [hbc] at hb
    have hp := cPacked c (built_ok hbc)
    have e : (⟨(sealB (packL c.S c.X (bk c (crl c).length) (rt c (crl c).length))).toArray⟩ : ByteArray) = ⟨(packB c).toArray⟩ := rfl
    rw [e] at hp
    clear hbc e
    generalize (⟨(packB c).toArray⟩ : ByteArray) = s at *
    obtain ⟨S, X, ⟨k, l, n, ts⟩, ⟨k2, l2, n2, us⟩⟩ := c
    unfold crv at *
    dsimp only [Term.k, Term.l, Term.n, Term.ts] at *
    refine call_pure (E := env 0) (fn := Try.f19) (c := bodyOf Try.f19) (env_ok 0) mixed (by kernel_rfl) (by kernel_rfl) (by kernel_rfl) (by kernel_rfl) (by kernel_rfl) (by kernel_rfl) rfl ?_
    conv => whnf
    try (refine draw_intro true (by kernel_rfl) ?_; conv => whnf)
    first | refine CallSt.use hb [] trivial (by decide) rfl ?_ | refine CallPt.useS hb [] trivial (by decide) rfl ?_
    rintro _ _ ⟨rfl, rfl⟩ _
    conv => whnf
    repeat (first | (refine And.intro rfl ?_; conv => whnf) | (refine And.intro (by decide) ?_; conv => whnf) | (refine draw_intro true (by kernel_rfl) ?_; conv => whnf) | (refine And.intro ⟨by omega, by omega⟩ ?_; conv => whnf) | (refine And.intro (by omega) ?_; conv => whnf) | (refine And.intro (fun _ => ⟨by omega, by omega⟩) ?_; conv => whnf) | (refine And.intro (of_decide_eq_true rfl) ?_; conv => whnf) | (refine And.intro (fun _ => ?_) (fun h => absurd h ?_); rotate_left; (focus (first | decide | (simp; done) | (simp [tcs]; done))); conv => whnf) | (refine And.intro (fun h => absurd h ?_) (fun _ => ?_); (focus (first | decide | (simp; done) | (simp [tcs]; done))); conv => whnf) | (intro _; conv => whnf))
    try (refine draw_intro true (by kernel_rfl) ?_; conv => whnf)
    first | refine CallSt.use hp [] trivial (by decide) rfl ?_ | refine CallPt.useS hp [] trivial (by decide) rfl ?_
    rintro _ _ ⟨rfl, rfl⟩ _
    conv => whnf
    refine ⟨fun hlt => ?_, fun hlt => ?_⟩
    · rw [show decide ((60000 : Int) < (s.size : Int)) = true from hlt]
      conv => whnf
      repeat (first | (refine And.intro rfl ?_; conv => whnf) | (refine And.intro (by decide) ?_; conv => whnf) | (refine draw_intro true (by kernel_rfl) ?_; conv => whnf) | (refine And.intro ⟨by omega, by omega⟩ ?_; conv => whnf) | (refine And.intro (by omega) ?_; conv => whnf) | (refine And.intro (fun _ => ⟨by omega, by omega⟩) ?_; conv => whnf) | (refine And.intro (of_decide_eq_true rfl) ?_; conv => whnf) | (refine And.intro (fun _ => ?_) (fun h => absurd h ?_); rotate_left; (focus (first | decide | (simp; done) | (simp [tcs]; done))); conv => whnf) | (refine And.intro (fun h => absurd h ?_) (fun _ => ?_); (focus (first | decide | (simp; done) | (simp [tcs]; done))); conv => whnf) | (intro _; conv => whnf))
      all_goals (first | rfl | exact ⟨rfl, rfl⟩ | exact ⟨rfl, rfl, rfl⟩)
    · rw [show decide ((60000 : Int) < (s.size : Int)) = false from hlt]
      conv => whnf
      repeat (first | (refine And.intro rfl ?_; conv => whnf) | (refine And.intro (by decide) ?_; conv => whnf) | (refine draw_intro true (by kernel_rfl) ?_; conv => whnf) | (refine And.intro ⟨by omega, by omega⟩ ?_; conv => whnf) | (refine And.intro (by omega) ?_; conv => whnf) | (refine And.intro (fun _ => ⟨by omega, by omega⟩) ?_; conv => whnf) | (refine And.intro (of_decide_eq_true rfl) ?_; conv => whnf) | (refine And.intro (fun _ => ?_) (fun h => absurd h ?_); rotate_left; (focus (first | decide | (simp; done) | (simp [tcs]; done))); conv => whnf) | (refine And.intro (fun h => absurd h ?_) (fun _ => ?_); (focus (first | decide | (simp; done) | (simp [tcs]; done))); conv => whnf) | (intro _; conv => whnf))
      all_goals (first | rfl | exact ⟨rfl, rfl⟩ | exact ⟨rfl, rfl, rfl⟩)
theorem kind_crl : crl kindC = [.mk 1 0 0 [], .mk 1 0 0 []] := rfl
theorem kind_prop : prop (.mk 1 0 0 []) = true := by decide
theorem kind_built : builtB kindC = true := by
  have h1 : closedT (.mk 1 0 0 []) = true := by
    simp [closedT, kind_prop, conF, headsT, headsL]
  simp only [builtB, kind_crl, List.all_cons, List.all_nil, h1]
  rfl
theorem kind_bk : bk kindC 2 = [.mk 1 0 0 []] := by
  simp [bk, kind_crl, adL, adT]
theorem kind_rt : rt kindC 2 = [0, 0] := by
  unfold rt
  rw [kind_bk, kind_crl]
  rfl
theorem kind_pack : packB kindC = sealB [116, 114, 49, 1, 1, 0, 0, 0, 0, 0] := by
  unfold packB
  rw [show (crl kindC).length = 2 from rfl, kind_bk, kind_rt]
  congr 1
  simp [packL, kindC, nodesB, nodeB, declsB, lstB, kd, Term.k, Term.l, Term.n, Term.ts, digs_small]
  decide
end Go.Tr
/- awake, small of trusslaw19. -/
namespace Go.Tr
open Go.Proofs
theorem kind_saved : savedV kindC = .tup [.c (.int .i64 (2)), .c (.int .i64 (1)), .c (.int .i64 (0))] := by
  unfold savedV nodesOf
  rw [kind_built, show (crl kindC).length = 2 from rfl, kind_bk]
  simp [kind_crl, szL, szT]
theorem kind_packV : packV kindC = .tup [.c (.str ⟨(sealB [116, 114, 49, 1, 1, 0, 0, 0, 0, 0]).toArray⟩), .c (.int .i64 (0))] := by
  unfold packV
  rw [kind_built, kind_pack]
  have : decide ((60000 : Int) < ((⟨(sealB [116, 114, 49, 1, 1, 0, 0, 0, 0, 0]).toArray⟩ : ByteArray).size : Int)) = false := by
    have : (⟨(sealB [116, 114, 49, 1, 1, 0, 0, 0, 0, 0]).toArray⟩ : ByteArray).size = 14 := rfl
    rw [this]
    decide
  rw [this]
theorem cAwake19 : CallSt Try.prog 10 [] [] (fun r H' => r = .c (.bool true) ∧ H' = []) := by
  have hk := cKindC
  have hp := cPack kindC
  have hs := cSaved kindC
  have hb := cBuilt kindC
  have hr := cRSeal ⟨#[116, 114, 49, 1, 1, 0, 0, 0, 0, 0]⟩ (by decide)
  have hm := cSum ⟨#[]⟩ (by decide)
  rw [kind_saved] at hs
  rw [kind_packV] at hp
  rw [kind_built] at hb
  have e : sealB (⟨#[116, 114, 49, 1, 1, 0, 0, 0, 0, 0]⟩ : ByteArray).data.toList = sealB [116, 114, 49, 1, 1, 0, 0, 0, 0, 0] := rfl
  rw [e] at hr
  have e2 : sumI (⟨#[]⟩ : ByteArray).data.toList = 1 := rfl
  rw [e2] at hm
  clear e e2
  unfold crv at *
  generalize (⟨(sealB [116, 114, 49, 1, 1, 0, 0, 0, 0, 0]).toArray⟩ : ByteArray) = z at *
  refine call_pure (E := env 0) (fn := Try.f10) (c := bodyOf Try.f10) (env_ok 0) mixed (by kernel_rfl) (by kernel_rfl) (by kernel_rfl) (by kernel_rfl) (by kernel_rfl) (by kernel_rfl) rfl ?_
  conv => whnf
  try (refine draw_intro true (by kernel_rfl) ?_; conv => whnf)
  first | refine CallSt.use hk [] trivial (by decide) rfl ?_ | refine CallPt.useS hk [] trivial (by decide) rfl ?_
  rintro _ _ ⟨rfl, rfl⟩ _
  conv => whnf
  try (refine draw_intro true (by kernel_rfl) ?_; conv => whnf)
  first | refine CallSt.use hp [] trivial (by decide) rfl ?_ | refine CallPt.useS hp [] trivial (by decide) rfl ?_
  rintro _ _ ⟨rfl, rfl⟩ _
  conv => whnf
  repeat (first | (refine And.intro rfl ?_; conv => whnf) | (refine And.intro (by decide) ?_; conv => whnf) | (refine draw_intro true (by kernel_rfl) ?_; conv => whnf) | (refine And.intro ⟨by omega, by omega⟩ ?_; conv => whnf) | (refine And.intro (by omega) ?_; conv => whnf) | (refine And.intro (fun _ => ⟨by omega, by omega⟩) ?_; conv => whnf) | (refine And.intro (of_decide_eq_true rfl) ?_; conv => whnf) | (refine And.intro (fun _ => ?_) (fun h => absurd h ?_); rotate_left; (focus (first | decide | (simp; done) | (simp [tcs]; done))); conv => whnf) | (refine And.intro (fun h => absurd h ?_) (fun _ => ?_); (focus (first | decide | (simp; done) | (simp [tcs]; done))); conv => whnf) | (intro _; conv => whnf))
  try (refine draw_intro true (by kernel_rfl) ?_; conv => whnf)
  first | refine CallSt.use hk [] trivial (by decide) rfl ?_ | refine CallPt.useS hk [] trivial (by decide) rfl ?_
  rintro _ _ ⟨rfl, rfl⟩ _
  conv => whnf
  try (refine draw_intro true (by kernel_rfl) ?_; conv => whnf)
  first | refine CallSt.use hs [] trivial (by decide) rfl ?_ | refine CallPt.useS hs [] trivial (by decide) rfl ?_
  rintro _ _ ⟨rfl, rfl⟩ _
  conv => whnf
  repeat (first | (refine And.intro rfl ?_; conv => whnf) | (refine And.intro (by decide) ?_; conv => whnf) | (refine draw_intro true (by kernel_rfl) ?_; conv => whnf) | (refine And.intro ⟨by omega, by omega⟩ ?_; conv => whnf) | (refine And.intro (by omega) ?_; conv => whnf) | (refine And.intro (fun _ => ⟨by omega, by omega⟩) ?_; conv => whnf) | (refine And.intro (of_decide_eq_true rfl) ?_; conv => whnf) | (refine And.intro (fun _ => ?_) (fun h => absurd h ?_); rotate_left; (focus (first | decide | (simp; done) | (simp [tcs]; done))); conv => whnf) | (refine And.intro (fun h => absurd h ?_) (fun _ => ?_); (focus (first | decide | (simp; done) | (simp [tcs]; done))); conv => whnf) | (intro _; conv => whnf))
  try (refine draw_intro true (by kernel_rfl) ?_; conv => whnf)
  first | refine CallSt.use hr [] trivial (by decide) rfl ?_ | refine CallPt.useS hr [] trivial (by decide) rfl ?_
  rintro _ _ ⟨rfl, rfl⟩ _
  conv => whnf
  repeat (first | (refine And.intro rfl ?_; conv => whnf) | (refine And.intro (by decide) ?_; conv => whnf) | (refine draw_intro true (by kernel_rfl) ?_; conv => whnf) | (refine And.intro ⟨by omega, by omega⟩ ?_; conv => whnf) | (refine And.intro (by omega) ?_; conv => whnf) | (refine And.intro (fun _ => ⟨by omega, by omega⟩) ?_; conv => whnf) | (refine And.intro (of_decide_eq_true rfl) ?_; conv => whnf) | (refine And.intro (fun _ => ?_) (fun h => absurd h ?_); rotate_left; (focus (first | decide | (simp; done) | (simp [tcs]; done))); conv => whnf) | (refine And.intro (fun h => absurd h ?_) (fun _ => ?_); (focus (first | decide | (simp; done) | (simp [tcs]; done))); conv => whnf) | (intro _; conv => whnf))
  rw [decide_eq_true (show z = z from rfl)]
  repeat (first | (refine And.intro rfl ?_; conv => whnf) | (refine And.intro (by decide) ?_; conv => whnf) | (refine draw_intro true (by kernel_rfl) ?_; conv => whnf) | (refine And.intro ⟨by omega, by omega⟩ ?_; conv => whnf) | (refine And.intro (by omega) ?_; conv => whnf) | (refine And.intro (fun _ => ⟨by omega, by omega⟩) ?_; conv => whnf) | (refine And.intro (of_decide_eq_true rfl) ?_; conv => whnf) | (refine And.intro (fun _ => ?_) (fun h => absurd h ?_); rotate_left; (focus (first | decide | (simp; done) | (simp [tcs]; done))); conv => whnf) | (refine And.intro (fun h => absurd h ?_) (fun _ => ?_); (focus (first | decide | (simp; done) | (simp [tcs]; done))); conv => whnf) | (intro _; conv => whnf))
  try (refine draw_intro true (by kernel_rfl) ?_; conv => whnf)
  first | refine CallSt.use hk [] trivial (by decide) rfl ?_ | refine CallPt.useS hk [] trivial (by decide) rfl ?_
  rintro _ _ ⟨rfl, rfl⟩ _
  conv => whnf
  repeat (first | (refine And.intro rfl ?_; conv => whnf) | (refine And.intro (by decide) ?_; conv => whnf) | (refine draw_intro true (by kernel_rfl) ?_; conv => whnf) | (refine And.intro ⟨by omega, by omega⟩ ?_; conv => whnf) | (refine And.intro (by omega) ?_; conv => whnf) | (refine And.intro (fun _ => ⟨by omega, by omega⟩) ?_; conv => whnf) | (refine And.intro (of_decide_eq_true rfl) ?_; conv => whnf) | (refine And.intro (fun _ => ?_) (fun h => absurd h ?_); rotate_left; (focus (first | decide | (simp; done) | (simp [tcs]; done))); conv => whnf) | (refine And.intro (fun h => absurd h ?_) (fun _ => ?_); (focus (first | decide | (simp; done) | (simp [tcs]; done))); conv => whnf) | (intro _; conv => whnf))
  try (refine draw_intro true (by kernel_rfl) ?_; conv => whnf)
  first | refine CallSt.use hb [] trivial (by decide) rfl ?_ | refine CallPt.useS hb [] trivial (by decide) rfl ?_
  rintro _ _ ⟨rfl, rfl⟩ _
  conv => whnf
  repeat (first | (refine And.intro rfl ?_; conv => whnf) | (refine And.intro (by decide) ?_; conv => whnf) | (refine draw_intro true (by kernel_rfl) ?_; conv => whnf) | (refine And.intro ⟨by omega, by omega⟩ ?_; conv => whnf) | (refine And.intro (by omega) ?_; conv => whnf) | (refine And.intro (fun _ => ⟨by omega, by omega⟩) ?_; conv => whnf) | (refine And.intro (of_decide_eq_true rfl) ?_; conv => whnf) | (refine And.intro (fun _ => ?_) (fun h => absurd h ?_); rotate_left; (focus (first | decide | (simp; done) | (simp [tcs]; done))); conv => whnf) | (refine And.intro (fun h => absurd h ?_) (fun _ => ?_); (focus (first | decide | (simp; done) | (simp [tcs]; done))); conv => whnf) | (intro _; conv => whnf))
  try (refine draw_intro true (by kernel_rfl) ?_; conv => whnf)
  first | refine CallSt.use hm [] trivial (by decide) rfl ?_ | refine CallPt.useS hm [] trivial (by decide) rfl ?_
  rintro _ _ ⟨rfl, rfl⟩ _
  conv => whnf
  repeat (first | (refine And.intro rfl ?_; conv => whnf) | (refine And.intro (by decide) ?_; conv => whnf) | (refine draw_intro true (by kernel_rfl) ?_; conv => whnf) | (refine And.intro ⟨by omega, by omega⟩ ?_; conv => whnf) | (refine And.intro (by omega) ?_; conv => whnf) | (refine And.intro (fun _ => ⟨by omega, by omega⟩) ?_; conv => whnf) | (refine And.intro (of_decide_eq_true rfl) ?_; conv => whnf) | (refine And.intro (fun _ => ?_) (fun h => absurd h ?_); rotate_left; (focus (first | decide | (simp; done) | (simp [tcs]; done))); conv => whnf) | (refine And.intro (fun h => absurd h ?_) (fun _ => ?_); (focus (first | decide | (simp; done) | (simp [tcs]; done))); conv => whnf) | (intro _; conv => whnf))
  all_goals (first | rfl | exact ⟨rfl, rfl⟩ | exact ⟨rfl, rfl, rfl⟩)
end Go.Tr
/- small of trusslaw19. -/
namespace Go.Tr
open Go.Proofs
theorem cWeigh (t : Term) : ∀ (d : Int), 0 ≤ d ∧ d ≤ 101 → CallSt Try.prog 24 [tv t, .c (.int .i64 (d))] [] (fun r H' => ∃ v : Int, r = .c (.int .i64 (v)) ∧ (1 ≤ v ∧ v ≤ 4000 + 3000 * (101 - d)) ∧ H' = []) := by
  induction t using Term.ind with
  | _ t ih =>
  intro d hd
  obtain ⟨k, l, n, ts⟩ := t
  replace ih : ∀ u, u ∈ ts → _ := ih
  have hln := len_tcs ts
  rw [tv_mk]
  by_cases hdd : 100 < d
  · refine call_pure (E := env 0) (fn := Try.f24) (c := bodyOf Try.f24) (env_ok 0) mixed (by kernel_rfl) (by kernel_rfl) (by kernel_rfl) (by kernel_rfl) (by kernel_rfl) (by kernel_rfl) rfl ?_
    conv => whnf
    repeat (first | (refine And.intro rfl ?_; conv => whnf) | (refine And.intro (by decide) ?_; conv => whnf) | (refine draw_intro true (by kernel_rfl) ?_; conv => whnf) | (refine And.intro ⟨by omega, by omega⟩ ?_; conv => whnf) | (refine And.intro (by omega) ?_; conv => whnf) | (refine And.intro (fun _ => ⟨by omega, by omega⟩) ?_; conv => whnf) | (refine And.intro (of_decide_eq_true rfl) ?_; conv => whnf) | (refine And.intro (fun _ => ?_) (fun h => absurd h ?_); rotate_left; (focus (first | decide | (simp; done) | (simp [tcs]; done))); conv => whnf) | (refine And.intro (fun h => absurd h ?_) (fun _ => ?_); (focus (first | decide | (simp; done) | (simp [tcs]; done))); conv => whnf) | (intro _; conv => whnf))
    rw [decide_eq_true hdd]
    (refine ⟨fun _ => ?_, fun h => absurd h ?_⟩; rotate_left; (focus (first | decide | (simp; done) | (simp [tcs]; done))); conv => whnf)
    repeat (first | (refine And.intro rfl ?_; conv => whnf) | (refine And.intro (by decide) ?_; conv => whnf) | (refine draw_intro true (by kernel_rfl) ?_; conv => whnf) | (refine And.intro ⟨by omega, by omega⟩ ?_; conv => whnf) | (refine And.intro (by omega) ?_; conv => whnf) | (refine And.intro (fun _ => ⟨by omega, by omega⟩) ?_; conv => whnf) | (refine And.intro (of_decide_eq_true rfl) ?_; conv => whnf) | (refine And.intro (fun _ => ?_) (fun h => absurd h ?_); rotate_left; (focus (first | decide | (simp; done) | (simp [tcs]; done))); conv => whnf) | (refine And.intro (fun h => absurd h ?_) (fun _ => ?_); (focus (first | decide | (simp; done) | (simp [tcs]; done))); conv => whnf) | (intro _; conv => whnf))
    exact ⟨4000, rfl, by omega, rfl⟩
  · refine call_pure (E := env 0) (fn := Try.f24) (c := bodyOf Try.f24) (env_ok 0) mixed (by kernel_rfl) (by kernel_rfl) (by kernel_rfl) (by kernel_rfl) (by kernel_rfl) (by kernel_rfl) rfl ?_
    conv => whnf
    repeat (first | (refine And.intro rfl ?_; conv => whnf) | (refine And.intro (by decide) ?_; conv => whnf) | (refine draw_intro true (by kernel_rfl) ?_; conv => whnf) | (refine And.intro ⟨by omega, by omega⟩ ?_; conv => whnf) | (refine And.intro (by omega) ?_; conv => whnf) | (refine And.intro (fun _ => ⟨by omega, by omega⟩) ?_; conv => whnf) | (refine And.intro (of_decide_eq_true rfl) ?_; conv => whnf) | (refine And.intro (fun _ => ?_) (fun h => absurd h ?_); rotate_left; (focus (first | decide | (simp; done) | (simp [tcs]; done))); conv => whnf) | (refine And.intro (fun h => absurd h ?_) (fun _ => ?_); (focus (first | decide | (simp; done) | (simp [tcs]; done))); conv => whnf) | (intro _; conv => whnf))
    rw [decide_eq_false hdd]
    (refine ⟨fun h => absurd h ?_, fun _ => ?_⟩; (focus (first | decide | (simp; done) | (simp [tcs]; done))); conv => whnf)
    repeat (first | (refine And.intro rfl ?_; conv => whnf) | (refine And.intro (by decide) ?_; conv => whnf) | (refine draw_intro true (by kernel_rfl) ?_; conv => whnf) | (refine And.intro ⟨by omega, by omega⟩ ?_; conv => whnf) | (refine And.intro (by omega) ?_; conv => whnf) | (refine And.intro (fun _ => ⟨by omega, by omega⟩) ?_; conv => whnf) | (refine And.intro (of_decide_eq_true rfl) ?_; conv => whnf) | (refine And.intro (fun _ => ?_) (fun h => absurd h ?_); rotate_left; (focus (first | decide | (simp; done) | (simp [tcs]; done))); conv => whnf) | (refine And.intro (fun h => absurd h ?_) (fun _ => ?_); (focus (first | decide | (simp; done) | (simp [tcs]; done))); conv => whnf) | (intro _; conv => whnf))
    refine loop_intro (fun m tm H => ∃ (j : Nat) (w : Int), ts.length = m + j ∧ (1 ≤ w ∧ w ≤ 4000 + 3000 * (101 - d)) ∧ tm = [(6, .c (.int .i64 (j))), (5, .c (.int .i64 (w))), (1, .c (.int .i64 (d))), (2, .ptr 0 0)] ∧ H = [.box [.c (.int .i64 (k)), .c (.int .i64 (l)), .c (.int .i64 (n)), .c (.sl 4 48 (tcs ts))]])
      ts.length _ _ ⟨0, 1, by omega, by omega, rfl, rfl⟩ (Wk.sel [0] (by decide) (by first | decide | (show (0 : Nat) ≤ _; decide) | (show ∀ i, i < 0 → _; decide) | (show (1 : Nat) ≤ _; decide) | (show ∀ i, i < 1 → _; decide) | (show (2 : Nat) ≤ _; decide) | (show ∀ i, i < 2 → _; decide) | (show (3 : Nat) ≤ _; decide) | (show ∀ i, i < 3 → _; decide) | (show (4 : Nat) ≤ _; decide) | (show ∀ i, i < 4 → _; decide) | (show (5 : Nat) ≤ _; decide) | (show ∀ i, i < 5 → _; decide) | (show (6 : Nat) ≤ _; decide) | (show ∀ i, i < 6 → _; decide) | (show (7 : Nat) ≤ _; decide) | (show ∀ i, i < 7 → _; decide)) (by first | decide | (show (0 : Nat) ≤ _; decide) | (show ∀ i, i < 0 → _; decide) | (show (1 : Nat) ≤ _; decide) | (show ∀ i, i < 1 → _; decide) | (show (2 : Nat) ≤ _; decide) | (show ∀ i, i < 2 → _; decide) | (show (3 : Nat) ≤ _; decide) | (show ∀ i, i < 3 → _; decide) | (show (4 : Nat) ≤ _; decide) | (show ∀ i, i < 4 → _; decide) | (show (5 : Nat) ≤ _; decide) | (show ∀ i, i < 5 → _; decide) | (show (6 : Nat) ≤ _; decide) | (show ∀ i, i < 6 → _; decide) | (show (7 : Nat) ≤ _; decide) | (show ∀ i, i < 7 → _; decide)) ⟨rfl, trivial⟩ ⟨rfl, rfl, rfl, rfl, trivial⟩ rfl) ?_
    rintro m tm H ⟨j, w, hj, hw, rfl, rfl⟩
    conv => whnf
    intro hlen
    replace hlen : (tcs ts).length * 48 ≤ 140737488355328 := hlen
    conv => whnf
    repeat (first | (refine And.intro rfl ?_; conv => whnf) | (refine And.intro (by decide) ?_; conv => whnf) | (refine draw_intro true (by kernel_rfl) ?_; conv => whnf) | (refine And.intro ⟨by omega, by omega⟩ ?_; conv => whnf) | (refine And.intro (by omega) ?_; conv => whnf) | (refine And.intro (fun _ => ⟨by omega, by omega⟩) ?_; conv => whnf) | (refine And.intro (of_decide_eq_true rfl) ?_; conv => whnf) | (refine And.intro (fun _ => ?_) (fun h => absurd h ?_); rotate_left; (focus (first | decide | (simp; done) | (simp [tcs]; done))); conv => whnf) | (refine And.intro (fun h => absurd h ?_) (fun _ => ?_); (focus (first | decide | (simp; done) | (simp [tcs]; done))); conv => whnf) | (intro _; conv => whnf))
    refine ⟨fun hc => ?_, fun hc => ?_⟩
    · rw [Bool.and_eq_true] at hc
      have hc1 : (j : Int) < (tcs ts).length := of_decide_eq_true hc.1
      have hc2 : w ≤ 3000 := of_decide_eq_true hc.2
      obtain ⟨u, hu⟩ : ∃ u, ts[j]? = some u := ⟨ts[j]'(by omega), List.getElem?_eq_getElem (by omega)⟩
      have huc := tcs_at ts j u hu
      have hi := ih u (List.mem_of_getElem? hu) (d + 1) (by omega)
      obtain ⟨k', l', n', us⟩ := u
      rw [tv_mk] at hi
      conv => whnf
      refine ⟨_, ⟨by omega, by simpa using huc⟩, ?_⟩
      conv => whnf
      refine ⟨Nat.le_refl 4, ?_⟩
      conv => whnf
      repeat (first | (refine And.intro rfl ?_; conv => whnf) | (refine And.intro (by decide) ?_; conv => whnf) | (refine draw_intro true (by kernel_rfl) ?_; conv => whnf) | (refine And.intro ⟨by omega, by omega⟩ ?_; conv => whnf) | (refine And.intro (by omega) ?_; conv => whnf) | (refine And.intro (fun _ => ⟨by omega, by omega⟩) ?_; conv => whnf) | (refine And.intro (of_decide_eq_true rfl) ?_; conv => whnf) | (refine And.intro (fun _ => ?_) (fun h => absurd h ?_); rotate_left; (focus (first | decide | (simp; done) | (simp [tcs]; done))); conv => whnf) | (refine And.intro (fun h => absurd h ?_) (fun _ => ?_); (focus (first | decide | (simp; done) | (simp [tcs]; done))); conv => whnf) | (intro _; conv => whnf))
      try (refine draw_intro true (by kernel_rfl) ?_; conv => whnf)
      first | refine CallSt.use hi [] trivial (by decide) rfl ?_ | refine CallPt.useS hi [] trivial (by decide) rfl ?_
      rintro _ _ ⟨v, rfl, hv, rfl⟩ _
      conv => whnf
      refine ⟨⟨by omega, by omega⟩, ?_⟩
      conv => whnf
      repeat (first | (refine And.intro rfl ?_; conv => whnf) | (refine And.intro (by decide) ?_; conv => whnf) | (refine draw_intro true (by kernel_rfl) ?_; conv => whnf) | (refine And.intro ⟨by omega, by omega⟩ ?_; conv => whnf) | (refine And.intro (by omega) ?_; conv => whnf) | (refine And.intro (fun _ => ⟨by omega, by omega⟩) ?_; conv => whnf) | (refine And.intro (of_decide_eq_true rfl) ?_; conv => whnf) | (refine And.intro (fun _ => ?_) (fun h => absurd h ?_); rotate_left; (focus (first | decide | (simp; done) | (simp [tcs]; done))); conv => whnf) | (refine And.intro (fun h => absurd h ?_) (fun _ => ?_); (focus (first | decide | (simp; done) | (simp [tcs]; done))); conv => whnf) | (intro _; conv => whnf))
      refine ⟨m - 1, _, _, by omega, ⟨j + 1, w + v, by omega, by omega, rfl, rfl⟩, Wk.sel [0] (by decide) (by first | decide | (show (0 : Nat) ≤ _; decide) | (show ∀ i, i < 0 → _; decide) | (show (1 : Nat) ≤ _; decide) | (show ∀ i, i < 1 → _; decide) | (show (2 : Nat) ≤ _; decide) | (show ∀ i, i < 2 → _; decide) | (show (3 : Nat) ≤ _; decide) | (show ∀ i, i < 3 → _; decide) | (show (4 : Nat) ≤ _; decide) | (show ∀ i, i < 4 → _; decide) | (show (5 : Nat) ≤ _; decide) | (show ∀ i, i < 5 → _; decide) | (show (6 : Nat) ≤ _; decide) | (show ∀ i, i < 6 → _; decide) | (show (7 : Nat) ≤ _; decide) | (show ∀ i, i < 7 → _; decide)) (by first | decide | (show (0 : Nat) ≤ _; decide) | (show ∀ i, i < 0 → _; decide) | (show (1 : Nat) ≤ _; decide) | (show ∀ i, i < 1 → _; decide) | (show (2 : Nat) ≤ _; decide) | (show ∀ i, i < 2 → _; decide) | (show (3 : Nat) ≤ _; decide) | (show ∀ i, i < 3 → _; decide) | (show (4 : Nat) ≤ _; decide) | (show ∀ i, i < 4 → _; decide) | (show (5 : Nat) ≤ _; decide) | (show ∀ i, i < 5 → _; decide) | (show (6 : Nat) ≤ _; decide) | (show ∀ i, i < 6 → _; decide) | (show (7 : Nat) ≤ _; decide) | (show ∀ i, i < 7 → _; decide)) ⟨rfl, trivial⟩ ⟨rfl, rfl, rfl, rfl, trivial⟩ rfl⟩
    · conv => whnf
      repeat (first | (refine And.intro rfl ?_; conv => whnf) | (refine And.intro (by decide) ?_; conv => whnf) | (refine draw_intro true (by kernel_rfl) ?_; conv => whnf) | (refine And.intro ⟨by omega, by omega⟩ ?_; conv => whnf) | (refine And.intro (by omega) ?_; conv => whnf) | (refine And.intro (fun _ => ⟨by omega, by omega⟩) ?_; conv => whnf) | (refine And.intro (of_decide_eq_true rfl) ?_; conv => whnf) | (refine And.intro (fun _ => ?_) (fun h => absurd h ?_); rotate_left; (focus (first | decide | (simp; done) | (simp [tcs]; done))); conv => whnf) | (refine And.intro (fun h => absurd h ?_) (fun _ => ?_); (focus (first | decide | (simp; done) | (simp [tcs]; done))); conv => whnf) | (intro _; conv => whnf))
      exact ⟨w, rfl, hw, rfl⟩
theorem cSmall19 (c : Crt) : CallSt Try.prog 9 [crv c] [] (fun r H' => ∃ b : Bool, r = .c (.bool b) ∧ H' = []) := by
  have ho := cWeigh c.o 0 (by decide)
  have hc := cWeigh c.c 0 (by decide)
  have hds := len_dcs c.S
  have hxl := len_tcs c.X
  obtain ⟨S, X, ⟨k, l, n, ts⟩, ⟨k2, l2, n2, us⟩⟩ := c
  unfold crv at *
  dsimp only [Term.k, Term.l, Term.n, Term.ts] at *
  rw [tv_mk] at *
  refine call_pure (E := env 0) (fn := Try.f9) (c := bodyOf Try.f9) (env_ok 0) mixed (by kernel_rfl) (by kernel_rfl) (by kernel_rfl) (by kernel_rfl) (by kernel_rfl) (by kernel_rfl) rfl ?_
  conv => whnf
  repeat (first | (refine And.intro rfl ?_; conv => whnf) | (refine And.intro (by decide) ?_; conv => whnf) | (refine draw_intro true (by kernel_rfl) ?_; conv => whnf) | (refine And.intro ⟨by omega, by omega⟩ ?_; conv => whnf) | (refine And.intro (by omega) ?_; conv => whnf) | (refine And.intro (fun _ => ⟨by omega, by omega⟩) ?_; conv => whnf) | (refine And.intro (of_decide_eq_true rfl) ?_; conv => whnf) | (refine And.intro (fun _ => ?_) (fun h => absurd h ?_); rotate_left; (focus (first | decide | (simp; done) | (simp [tcs]; done))); conv => whnf) | (refine And.intro (fun h => absurd h ?_) (fun _ => ?_); (focus (first | decide | (simp; done) | (simp [tcs]; done))); conv => whnf) | (intro _; conv => whnf))
  try (refine draw_intro true (by kernel_rfl) ?_; conv => whnf)
  first | refine CallSt.use ho [] trivial (by decide) rfl ?_ | refine CallPt.useS ho [] trivial (by decide) rfl ?_
  rintro _ _ ⟨a, rfl, ha, rfl⟩ _
  conv => whnf
  repeat (first | (refine And.intro rfl ?_; conv => whnf) | (refine And.intro (by decide) ?_; conv => whnf) | (refine draw_intro true (by kernel_rfl) ?_; conv => whnf) | (refine And.intro ⟨by omega, by omega⟩ ?_; conv => whnf) | (refine And.intro (by omega) ?_; conv => whnf) | (refine And.intro (fun _ => ⟨by omega, by omega⟩) ?_; conv => whnf) | (refine And.intro (of_decide_eq_true rfl) ?_; conv => whnf) | (refine And.intro (fun _ => ?_) (fun h => absurd h ?_); rotate_left; (focus (first | decide | (simp; done) | (simp [tcs]; done))); conv => whnf) | (refine And.intro (fun h => absurd h ?_) (fun _ => ?_); (focus (first | decide | (simp; done) | (simp [tcs]; done))); conv => whnf) | (intro _; conv => whnf))
  try (refine draw_intro true (by kernel_rfl) ?_; conv => whnf)
  first | refine CallSt.use hc [] trivial (by decide) rfl ?_ | refine CallPt.useS hc [] trivial (by decide) rfl ?_
  rintro _ _ ⟨b, rfl, hb, rfl⟩ _
  conv => whnf
  refine ⟨⟨by omega, by omega⟩, ?_⟩
  conv => whnf
  repeat (first | (refine And.intro rfl ?_; conv => whnf) | (refine And.intro (by decide) ?_; conv => whnf) | (refine draw_intro true (by kernel_rfl) ?_; conv => whnf) | (refine And.intro ⟨by omega, by omega⟩ ?_; conv => whnf) | (refine And.intro (by omega) ?_; conv => whnf) | (refine And.intro (fun _ => ⟨by omega, by omega⟩) ?_; conv => whnf) | (refine And.intro (of_decide_eq_true rfl) ?_; conv => whnf) | (refine And.intro (fun _ => ?_) (fun h => absurd h ?_); rotate_left; (focus (first | decide | (simp; done) | (simp [tcs]; done))); conv => whnf) | (refine And.intro (fun h => absurd h ?_) (fun _ => ?_); (focus (first | decide | (simp; done) | (simp [tcs]; done))); conv => whnf) | (intro _; conv => whnf))
  refine loop_intro (fun m tm H => ∃ (j : Nat) (w : Int), S.length = m + j ∧ (0 ≤ w ∧ w ≤ 614000) ∧ tm = [(4, .c (.int .i64 (j))), (3, .c (.int .i64 (w))), (1, .ptr 0 0)] ∧ H = [.box [.c (.sl 6 72 (dcs S)), .c (.sl 4 48 (tcs X)), .c (.int .i64 (k)), .c (.int .i64 (l)), .c (.int .i64 (n)), .c (.sl 4 48 (tcs ts)), .c (.int .i64 (k2)), .c (.int .i64 (l2)), .c (.int .i64 (n2)), .c (.sl 4 48 (tcs us))]])
    S.length _ _ ⟨0, a + b, by omega, by omega, rfl, rfl⟩ (Wk.sel [0] (by decide) (by first | decide | (show (0 : Nat) ≤ _; decide) | (show ∀ i, i < 0 → _; decide) | (show (1 : Nat) ≤ _; decide) | (show ∀ i, i < 1 → _; decide) | (show (2 : Nat) ≤ _; decide) | (show ∀ i, i < 2 → _; decide) | (show (3 : Nat) ≤ _; decide) | (show ∀ i, i < 3 → _; decide) | (show (4 : Nat) ≤ _; decide) | (show ∀ i, i < 4 → _; decide) | (show (5 : Nat) ≤ _; decide) | (show ∀ i, i < 5 → _; decide) | (show (6 : Nat) ≤ _; decide) | (show ∀ i, i < 6 → _; decide) | (show (7 : Nat) ≤ _; decide) | (show ∀ i, i < 7 → _; decide)) (by first | decide | (show (0 : Nat) ≤ _; decide) | (show ∀ i, i < 0 → _; decide) | (show (1 : Nat) ≤ _; decide) | (show ∀ i, i < 1 → _; decide) | (show (2 : Nat) ≤ _; decide) | (show ∀ i, i < 2 → _; decide) | (show (3 : Nat) ≤ _; decide) | (show ∀ i, i < 3 → _; decide) | (show (4 : Nat) ≤ _; decide) | (show ∀ i, i < 4 → _; decide) | (show (5 : Nat) ≤ _; decide) | (show ∀ i, i < 5 → _; decide) | (show (6 : Nat) ≤ _; decide) | (show ∀ i, i < 6 → _; decide) | (show (7 : Nat) ≤ _; decide) | (show ∀ i, i < 7 → _; decide)) ⟨rfl, trivial⟩ ⟨rfl, rfl, rfl, trivial⟩ rfl) ?_
  rintro m tm H ⟨j, w, hj, hw, rfl, rfl⟩
  conv => whnf
  intro hlen
  replace hlen : (dcs S).length * 72 ≤ 140737488355328 := hlen
  conv => whnf
  repeat (first | (refine And.intro rfl ?_; conv => whnf) | (refine And.intro (by decide) ?_; conv => whnf) | (refine draw_intro true (by kernel_rfl) ?_; conv => whnf) | (refine And.intro ⟨by omega, by omega⟩ ?_; conv => whnf) | (refine And.intro (by omega) ?_; conv => whnf) | (refine And.intro (fun _ => ⟨by omega, by omega⟩) ?_; conv => whnf) | (refine And.intro (of_decide_eq_true rfl) ?_; conv => whnf) | (refine And.intro (fun _ => ?_) (fun h => absurd h ?_); rotate_left; (focus (first | decide | (simp; done) | (simp [tcs]; done))); conv => whnf) | (refine And.intro (fun h => absurd h ?_) (fun _ => ?_); (focus (first | decide | (simp; done) | (simp [tcs]; done))); conv => whnf) | (intro _; conv => whnf))
  refine ⟨fun hcc => ?_, fun hcc => ?_⟩
  · rw [Bool.and_eq_true] at hcc
    have hc1 : (j : Int) < (dcs S).length := of_decide_eq_true hcc.1
    have hc2 : w ≤ 3000 := of_decide_eq_true hcc.2
    obtain ⟨d, hd⟩ : ∃ d, S[j]? = some d := ⟨S[j]'(by omega), List.getElem?_eq_getElem (by omega)⟩
    have hdc := dcs_at hd
    have hi := cWeigh d.c 0 (by decide)
    obtain ⟨s', ⟨k', l', n', us'⟩, i'⟩ := d
    dsimp only at hi
    rw [tv_mk] at hi
    conv => whnf
    refine ⟨⟨by omega, by omega⟩, ?_⟩
    conv => whnf
    repeat (first | (refine And.intro rfl ?_; conv => whnf) | (refine And.intro (by decide) ?_; conv => whnf) | (refine draw_intro true (by kernel_rfl) ?_; conv => whnf) | (refine And.intro ⟨by omega, by omega⟩ ?_; conv => whnf) | (refine And.intro (by omega) ?_; conv => whnf) | (refine And.intro (fun _ => ⟨by omega, by omega⟩) ?_; conv => whnf) | (refine And.intro (of_decide_eq_true rfl) ?_; conv => whnf) | (refine And.intro (fun _ => ?_) (fun h => absurd h ?_); rotate_left; (focus (first | decide | (simp; done) | (simp [tcs]; done))); conv => whnf) | (refine And.intro (fun h => absurd h ?_) (fun _ => ?_); (focus (first | decide | (simp; done) | (simp [tcs]; done))); conv => whnf) | (intro _; conv => whnf))
    refine ⟨_, ⟨by omega, hdc⟩, ?_⟩
    conv => whnf
    refine ⟨show 4 ≤ 5 by decide, ?_⟩
    conv => whnf
    try (refine draw_intro true (by kernel_rfl) ?_; conv => whnf)
    first | refine CallSt.use hi [] trivial (by decide) rfl ?_ | refine CallPt.useS hi [] trivial (by decide) rfl ?_
    rintro _ _ ⟨v, rfl, hv, rfl⟩ _
    conv => whnf
    refine ⟨⟨by omega, by omega⟩, ?_⟩
    conv => whnf
    repeat (first | (refine And.intro rfl ?_; conv => whnf) | (refine And.intro (by decide) ?_; conv => whnf) | (refine draw_intro true (by kernel_rfl) ?_; conv => whnf) | (refine And.intro ⟨by omega, by omega⟩ ?_; conv => whnf) | (refine And.intro (by omega) ?_; conv => whnf) | (refine And.intro (fun _ => ⟨by omega, by omega⟩) ?_; conv => whnf) | (refine And.intro (of_decide_eq_true rfl) ?_; conv => whnf) | (refine And.intro (fun _ => ?_) (fun h => absurd h ?_); rotate_left; (focus (first | decide | (simp; done) | (simp [tcs]; done))); conv => whnf) | (refine And.intro (fun h => absurd h ?_) (fun _ => ?_); (focus (first | decide | (simp; done) | (simp [tcs]; done))); conv => whnf) | (intro _; conv => whnf))
    refine ⟨m - 1, _, _, by omega, ⟨j + 1, w + 1 + v, by omega, by omega, rfl, rfl⟩, Wk.sel [0] (by decide) (by first | decide | (show (0 : Nat) ≤ _; decide) | (show ∀ i, i < 0 → _; decide) | (show (1 : Nat) ≤ _; decide) | (show ∀ i, i < 1 → _; decide) | (show (2 : Nat) ≤ _; decide) | (show ∀ i, i < 2 → _; decide) | (show (3 : Nat) ≤ _; decide) | (show ∀ i, i < 3 → _; decide) | (show (4 : Nat) ≤ _; decide) | (show ∀ i, i < 4 → _; decide) | (show (5 : Nat) ≤ _; decide) | (show ∀ i, i < 5 → _; decide) | (show (6 : Nat) ≤ _; decide) | (show ∀ i, i < 6 → _; decide) | (show (7 : Nat) ≤ _; decide) | (show ∀ i, i < 7 → _; decide)) (by first | decide | (show (0 : Nat) ≤ _; decide) | (show ∀ i, i < 0 → _; decide) | (show (1 : Nat) ≤ _; decide) | (show ∀ i, i < 1 → _; decide) | (show (2 : Nat) ≤ _; decide) | (show ∀ i, i < 2 → _; decide) | (show (3 : Nat) ≤ _; decide) | (show ∀ i, i < 3 → _; decide) | (show (4 : Nat) ≤ _; decide) | (show ∀ i, i < 4 → _; decide) | (show (5 : Nat) ≤ _; decide) | (show ∀ i, i < 5 → _; decide) | (show (6 : Nat) ≤ _; decide) | (show ∀ i, i < 6 → _; decide) | (show (7 : Nat) ≤ _; decide) | (show ∀ i, i < 7 → _; decide)) ⟨rfl, trivial⟩ ⟨rfl, rfl, rfl, trivial⟩ rfl⟩
  · conv => whnf
    repeat (first | (refine And.intro rfl ?_; conv => whnf) | (refine And.intro (by decide) ?_; conv => whnf) | (refine draw_intro true (by kernel_rfl) ?_; conv => whnf) | (refine And.intro ⟨by omega, by omega⟩ ?_; conv => whnf) | (refine And.intro (by omega) ?_; conv => whnf) | (refine And.intro (fun _ => ⟨by omega, by omega⟩) ?_; conv => whnf) | (refine And.intro (of_decide_eq_true rfl) ?_; conv => whnf) | (refine And.intro (fun _ => ?_) (fun h => absurd h ?_); rotate_left; (focus (first | decide | (simp; done) | (simp [tcs]; done))); conv => whnf) | (refine And.intro (fun h => absurd h ?_) (fun _ => ?_); (focus (first | decide | (simp; done) | (simp [tcs]; done))); conv => whnf) | (intro _; conv => whnf))
    refine loop_intro (fun m tm H => ∃ (j : Nat) (w : Int), X.length = m + j ∧ (0 ≤ w ∧ w ≤ 614000) ∧ tm = [(5, .c (.int .i64 (j))), (3, .c (.int .i64 (w))), (1, .ptr 0 0)] ∧ H = [.box [.c (.sl 6 72 (dcs S)), .c (.sl 4 48 (tcs X)), .c (.int .i64 (k)), .c (.int .i64 (l)), .c (.int .i64 (n)), .c (.sl 4 48 (tcs ts)), .c (.int .i64 (k2)), .c (.int .i64 (l2)), .c (.int .i64 (n2)), .c (.sl 4 48 (tcs us))]])
      X.length _ _ ⟨0, w, by omega, by omega, rfl, rfl⟩ (Wk.sel [0] (by decide) (by first | decide | (show (0 : Nat) ≤ _; decide) | (show ∀ i, i < 0 → _; decide) | (show (1 : Nat) ≤ _; decide) | (show ∀ i, i < 1 → _; decide) | (show (2 : Nat) ≤ _; decide) | (show ∀ i, i < 2 → _; decide) | (show (3 : Nat) ≤ _; decide) | (show ∀ i, i < 3 → _; decide) | (show (4 : Nat) ≤ _; decide) | (show ∀ i, i < 4 → _; decide) | (show (5 : Nat) ≤ _; decide) | (show ∀ i, i < 5 → _; decide) | (show (6 : Nat) ≤ _; decide) | (show ∀ i, i < 6 → _; decide) | (show (7 : Nat) ≤ _; decide) | (show ∀ i, i < 7 → _; decide)) (by first | decide | (show (0 : Nat) ≤ _; decide) | (show ∀ i, i < 0 → _; decide) | (show (1 : Nat) ≤ _; decide) | (show ∀ i, i < 1 → _; decide) | (show (2 : Nat) ≤ _; decide) | (show ∀ i, i < 2 → _; decide) | (show (3 : Nat) ≤ _; decide) | (show ∀ i, i < 3 → _; decide) | (show (4 : Nat) ≤ _; decide) | (show ∀ i, i < 4 → _; decide) | (show (5 : Nat) ≤ _; decide) | (show ∀ i, i < 5 → _; decide) | (show (6 : Nat) ≤ _; decide) | (show ∀ i, i < 6 → _; decide) | (show (7 : Nat) ≤ _; decide) | (show ∀ i, i < 7 → _; decide)) ⟨rfl, trivial⟩ ⟨rfl, rfl, rfl, trivial⟩ rfl) ?_
    rintro m tm H ⟨j, w, hj, hw, rfl, rfl⟩
    conv => whnf
    intro hlen
    replace hlen : (tcs X).length * 48 ≤ 140737488355328 := hlen
    conv => whnf
    repeat (first | (refine And.intro rfl ?_; conv => whnf) | (refine And.intro (by decide) ?_; conv => whnf) | (refine draw_intro true (by kernel_rfl) ?_; conv => whnf) | (refine And.intro ⟨by omega, by omega⟩ ?_; conv => whnf) | (refine And.intro (by omega) ?_; conv => whnf) | (refine And.intro (fun _ => ⟨by omega, by omega⟩) ?_; conv => whnf) | (refine And.intro (of_decide_eq_true rfl) ?_; conv => whnf) | (refine And.intro (fun _ => ?_) (fun h => absurd h ?_); rotate_left; (focus (first | decide | (simp; done) | (simp [tcs]; done))); conv => whnf) | (refine And.intro (fun h => absurd h ?_) (fun _ => ?_); (focus (first | decide | (simp; done) | (simp [tcs]; done))); conv => whnf) | (intro _; conv => whnf))
    refine ⟨fun hcc => ?_, fun hcc => ?_⟩
    · rw [Bool.and_eq_true] at hcc
      have hc1 : (j : Int) < (tcs X).length := of_decide_eq_true hcc.1
      have hc2 : w ≤ 3000 := of_decide_eq_true hcc.2
      obtain ⟨u, hu⟩ : ∃ u, X[j]? = some u := ⟨X[j]'(by omega), List.getElem?_eq_getElem (by omega)⟩
      have huc := tcs_at X j u hu
      have hi := cWeigh u 0 (by decide)
      obtain ⟨k', l', n', us'⟩ := u
      rw [tv_mk] at hi
      conv => whnf
      refine ⟨⟨by omega, by omega⟩, ?_⟩
      conv => whnf
      repeat (first | (refine And.intro rfl ?_; conv => whnf) | (refine And.intro (by decide) ?_; conv => whnf) | (refine draw_intro true (by kernel_rfl) ?_; conv => whnf) | (refine And.intro ⟨by omega, by omega⟩ ?_; conv => whnf) | (refine And.intro (by omega) ?_; conv => whnf) | (refine And.intro (fun _ => ⟨by omega, by omega⟩) ?_; conv => whnf) | (refine And.intro (of_decide_eq_true rfl) ?_; conv => whnf) | (refine And.intro (fun _ => ?_) (fun h => absurd h ?_); rotate_left; (focus (first | decide | (simp; done) | (simp [tcs]; done))); conv => whnf) | (refine And.intro (fun h => absurd h ?_) (fun _ => ?_); (focus (first | decide | (simp; done) | (simp [tcs]; done))); conv => whnf) | (intro _; conv => whnf))
      refine ⟨_, ⟨by omega, by simpa using huc⟩, ?_⟩
      conv => whnf
      refine ⟨Nat.le_refl 4, ?_⟩
      conv => whnf
      repeat (first | (refine And.intro rfl ?_; conv => whnf) | (refine And.intro (by decide) ?_; conv => whnf) | (refine draw_intro true (by kernel_rfl) ?_; conv => whnf) | (refine And.intro ⟨by omega, by omega⟩ ?_; conv => whnf) | (refine And.intro (by omega) ?_; conv => whnf) | (refine And.intro (fun _ => ⟨by omega, by omega⟩) ?_; conv => whnf) | (refine And.intro (of_decide_eq_true rfl) ?_; conv => whnf) | (refine And.intro (fun _ => ?_) (fun h => absurd h ?_); rotate_left; (focus (first | decide | (simp; done) | (simp [tcs]; done))); conv => whnf) | (refine And.intro (fun h => absurd h ?_) (fun _ => ?_); (focus (first | decide | (simp; done) | (simp [tcs]; done))); conv => whnf) | (intro _; conv => whnf))
      try (refine draw_intro true (by kernel_rfl) ?_; conv => whnf)
      first | refine CallSt.use hi [] trivial (by decide) rfl ?_ | refine CallPt.useS hi [] trivial (by decide) rfl ?_
      rintro _ _ ⟨v, rfl, hv, rfl⟩ _
      conv => whnf
      refine ⟨⟨by omega, by omega⟩, ?_⟩
      conv => whnf
      repeat (first | (refine And.intro rfl ?_; conv => whnf) | (refine And.intro (by decide) ?_; conv => whnf) | (refine draw_intro true (by kernel_rfl) ?_; conv => whnf) | (refine And.intro ⟨by omega, by omega⟩ ?_; conv => whnf) | (refine And.intro (by omega) ?_; conv => whnf) | (refine And.intro (fun _ => ⟨by omega, by omega⟩) ?_; conv => whnf) | (refine And.intro (of_decide_eq_true rfl) ?_; conv => whnf) | (refine And.intro (fun _ => ?_) (fun h => absurd h ?_); rotate_left; (focus (first | decide | (simp; done) | (simp [tcs]; done))); conv => whnf) | (refine And.intro (fun h => absurd h ?_) (fun _ => ?_); (focus (first | decide | (simp; done) | (simp [tcs]; done))); conv => whnf) | (intro _; conv => whnf))
      refine ⟨m - 1, _, _, by omega, ⟨j + 1, w + 1 + v, by omega, by omega, rfl, rfl⟩, Wk.sel [0] (by decide) (by first | decide | (show (0 : Nat) ≤ _; decide) | (show ∀ i, i < 0 → _; decide) | (show (1 : Nat) ≤ _; decide) | (show ∀ i, i < 1 → _; decide) | (show (2 : Nat) ≤ _; decide) | (show ∀ i, i < 2 → _; decide) | (show (3 : Nat) ≤ _; decide) | (show ∀ i, i < 3 → _; decide) | (show (4 : Nat) ≤ _; decide) | (show ∀ i, i < 4 → _; decide) | (show (5 : Nat) ≤ _; decide) | (show ∀ i, i < 5 → _; decide) | (show (6 : Nat) ≤ _; decide) | (show ∀ i, i < 6 → _; decide) | (show (7 : Nat) ≤ _; decide) | (show ∀ i, i < 7 → _; decide)) (by first | decide | (show (0 : Nat) ≤ _; decide) | (show ∀ i, i < 0 → _; decide) | (show (1 : Nat) ≤ _; decide) | (show ∀ i, i < 1 → _; decide) | (show (2 : Nat) ≤ _; decide) | (show ∀ i, i < 2 → _; decide) | (show (3 : Nat) ≤ _; decide) | (show ∀ i, i < 3 → _; decide) | (show (4 : Nat) ≤ _; decide) | (show ∀ i, i < 4 → _; decide) | (show (5 : Nat) ≤ _; decide) | (show ∀ i, i < 5 → _; decide) | (show (6 : Nat) ≤ _; decide) | (show ∀ i, i < 6 → _; decide) | (show (7 : Nat) ≤ _; decide) | (show ∀ i, i < 7 → _; decide)) ⟨rfl, trivial⟩ ⟨rfl, rfl, rfl, trivial⟩ rfl⟩
    · conv => whnf
      repeat (first | (refine And.intro rfl ?_; conv => whnf) | (refine And.intro (by decide) ?_; conv => whnf) | (refine draw_intro true (by kernel_rfl) ?_; conv => whnf) | (refine And.intro ⟨by omega, by omega⟩ ?_; conv => whnf) | (refine And.intro (by omega) ?_; conv => whnf) | (refine And.intro (fun _ => ⟨by omega, by omega⟩) ?_; conv => whnf) | (refine And.intro (of_decide_eq_true rfl) ?_; conv => whnf) | (refine And.intro (fun _ => ?_) (fun h => absurd h ?_); rotate_left; (focus (first | decide | (simp; done) | (simp [tcs]; done))); conv => whnf) | (refine And.intro (fun h => absurd h ?_) (fun _ => ?_); (focus (first | decide | (simp; done) | (simp [tcs]; done))); conv => whnf) | (intro _; conv => whnf))
      exact ⟨_, rfl, rfl⟩
end Go.Tr
/- cert.Same: the declarations. -/
namespace Go.Tr
open Go.Proofs
end Go.Tr
/- cert.Same: the declarations. -/
namespace Go.Tr
open Go.Proofs
end Go.Tr
/- cert.Same: the lists of declarations. -/
namespace Go.Tr
open Go.Proofs
end Go.Tr
/- cert.Same. -/
namespace Go.Tr
open Go.Proofs
end Go.Tr
/- Clone, Backward; Pi, kept; Arrow. -/
namespace Go.Tr
open Go.Proofs
end Go.Tr
/- TermBack: the plain law. -/
namespace Go.Tr
open Go.Proofs
end Go.Tr
/- Arrow, Join: both sides. -/
namespace Go.Tr
open Go.Proofs
end Go.Tr
/- Join: both sides. -/
namespace Go.Tr
open Go.Proofs
end Go.Tr
/- Join of the program. -/
namespace Go.Tr
open Go.Proofs
end Go.Tr
/- Split: both sides; SameAll. -/
namespace Go.Tr
open Go.Proofs
end Go.Tr
/- R19.Same: the plain fact. -/
namespace Go.Tr
open Go.Proofs
end Go.Tr
/- R19.Same. -/
namespace Go.Tr
open Go.Proofs
end Go.Tr
/- The law CertSums. -/
namespace Go.Tr
open Go.Proofs
end Go.Tr
/- strings.Clone at the seat. -/
namespace Go.Proofs
open Go.RowKit Go.Shelf
def Try.cloneA_ren : Ren where
  f := fun x => match x with
    | 25 => 80
    | n => n
  t := fun x => match x with
    | 0 => 0
    | 3 => 3
    | 4 => 4
    | 5 => 5
    | 9 => 9
    | 37 => 48
    | 47 => 121
    | n => n
  g := fun n => n
theorem Try.cloneA : LaysPu.n25 Try.prog Try.cloneA_ren where
  mixed := rfl
  f25 := Try.func80.trans (by kernel_rfl)
  t0 := Try.underlying0
  a0 := Try.isAgg0
  z0 := Try.sizeOf0
  v0 := Try.zeroValue0
  i0 := by kernel_rfl
  t3 := Try.underlying3
  a3 := Try.isAgg3
  z3 := Try.sizeOf3
  v3 := Try.zeroValue3
  i3 := by kernel_rfl
  t4 := Try.underlying4
  a4 := Try.isAgg4
  z4 := Try.sizeOf4
  v4 := Try.zeroValue4
  i4 := by kernel_rfl
  t5 := Try.underlying5
  a5 := Try.isAgg5
  z5 := Try.sizeOf5
  v5 := Try.zeroValue5
  i5 := by kernel_rfl
  t9 := Try.underlying9
  a9 := Try.isAgg9
  z9 := Try.sizeOf9
  v9 := Try.zeroValue9
  i9 := by kernel_rfl
  t37 := Try.underlying48
  a37 := Try.isAgg48
  z37 := Try.sizeOf48
  v37 := Try.zeroValue48
  i37 := by kernel_rfl
  t47 := Try.underlying121
  a47 := Try.isAgg121
  z47 := Try.sizeOf121
  v47 := Try.zeroValue121
  i47 := by kernel_rfl
end Go.Proofs
/- cert: which terms are among the nodes. -/
namespace Go.Tr
open Go.Proofs
end Go.Tr
/- The law CertTwice. -/
namespace Go.Tr
open Go.Proofs
theorem tcs_snoc19 : ∀ (l : List Term) (t : Term), tcs (l ++ [t]) = tcs l ++ [tc t]
  | [], t => rfl
  | a :: l, t => by
    rw [List.cons_append, tcs, tcs, tcs_snoc19 l t]
    rfl
theorem szL_append : ∀ (a b : List Term), szL (a ++ b) = szL a + szL b
  | [], b => by simp [szL]
  | t :: a, b => by
    rw [List.cons_append, szL, szL, szL_append a b]
    omega
end Go.Tr
/- cert.copied. -/
namespace Go.Tr
open Go.Proofs
theorem tcs_take_snoc {ts : List Term} {j : Nat} {u : Term} (h : ts[j]? = some u) : tcs (ts.take (j + 1)) = tcs (ts.take j) ++ [tc u] := by
  rw [List.take_add_one, h]
  exact tcs_snoc19 _ _
theorem cCopied (t : Term) : szT t ≤ 1000000 → CallSt Try.prog 29 [tv t] [] (fun r H' => r = tv t ∧ H' = []) := by
  induction t using Term.ind with
  | _ t ih =>
  intro hsz
  obtain ⟨k, l, n, ts⟩ := t
  replace ih : ∀ u, u ∈ ts → _ := ih
  have hln := len_tcs ts
  rw [szT] at hsz
  have hsl := szL_len ts
  rw [tv_mk]
  refine call_pure (E := env 0) (fn := Try.f29) (c := bodyOf Try.f29) (env_ok 0) mixed (by kernel_rfl) (by kernel_rfl) (by kernel_rfl) (by kernel_rfl) (by kernel_rfl) (by kernel_rfl) rfl ?_
  conv => whnf
  repeat (first | (refine And.intro rfl ?_; conv => whnf) | (refine And.intro (by decide) ?_; conv => whnf) | (refine draw_intro true (by kernel_rfl) ?_; conv => whnf) | (refine And.intro ⟨by omega, by omega⟩ ?_; conv => whnf) | (refine And.intro (by omega) ?_; conv => whnf) | (refine And.intro (fun _ => ⟨by omega, by omega⟩) ?_; conv => whnf) | (refine And.intro (of_decide_eq_true rfl) ?_; conv => whnf) | (refine And.intro (fun _ => ?_) (fun h => absurd h ?_); rotate_left; (focus (first | decide | (simp; done) | (simp [tcs]; done))); conv => whnf) | (refine And.intro (fun h => absurd h ?_) (fun _ => ?_); (focus (first | decide | (simp; done) | (simp [tcs]; done))); conv => whnf) | (intro _; conv => whnf))
  refine loop_intro (fun m tm H => ∃ (j : Nat), ts.length = m + j ∧ tm = [(9, .c (.int .i64 (j))), (8, .c (.int .i64 ((tcs ts).length))), (7, .c (.sl 4 48 (tcs ts))), (3, .own 2), (1, .ptr 0 0), (2, .ptr 1 0)] ∧
      H = [.box [.c (.int .i64 (k)), .c (.int .i64 (l)), .c (.int .i64 (n)), .c (.sl 4 48 (tcs ts))], .box [.c (.int .i64 (0)), .c (.int .i64 (0)), .c (.int .i64 (0)), .nil], .row 25 4 48 (tcs (ts.take j))])
    ts.length _ _ ⟨0, by omega, rfl, rfl⟩ ?_ ?_
  · refine Wk.trans (Wk.niltmp 3 25 4 48 rfl rfl) ?_
    exact Wk.sel [0, 1, 2] (by decide) (by first | decide | (show (0 : Nat) ≤ _; decide) | (show ∀ i, i < 0 → _; decide) | (show (1 : Nat) ≤ _; decide) | (show ∀ i, i < 1 → _; decide) | (show (2 : Nat) ≤ _; decide) | (show ∀ i, i < 2 → _; decide) | (show (3 : Nat) ≤ _; decide) | (show ∀ i, i < 3 → _; decide) | (show (4 : Nat) ≤ _; decide) | (show ∀ i, i < 4 → _; decide) | (show (5 : Nat) ≤ _; decide) | (show ∀ i, i < 5 → _; decide) | (show (6 : Nat) ≤ _; decide) | (show ∀ i, i < 6 → _; decide) | (show (7 : Nat) ≤ _; decide) | (show ∀ i, i < 7 → _; decide)) (by first | decide | (show (0 : Nat) ≤ _; decide) | (show ∀ i, i < 0 → _; decide) | (show (1 : Nat) ≤ _; decide) | (show ∀ i, i < 1 → _; decide) | (show (2 : Nat) ≤ _; decide) | (show ∀ i, i < 2 → _; decide) | (show (3 : Nat) ≤ _; decide) | (show ∀ i, i < 3 → _; decide) | (show (4 : Nat) ≤ _; decide) | (show ∀ i, i < 4 → _; decide) | (show (5 : Nat) ≤ _; decide) | (show ∀ i, i < 5 → _; decide) | (show (6 : Nat) ≤ _; decide) | (show ∀ i, i < 6 → _; decide) | (show (7 : Nat) ≤ _; decide) | (show ∀ i, i < 7 → _; decide)) ⟨rfl, rfl, rfl, trivial⟩ ⟨rfl, rfl, rfl, rfl, rfl, rfl, trivial⟩ rfl
  rintro m tm H ⟨j, hj, rfl, rfl⟩
  have hlt : (tcs (ts.take j)).length = j := by rw [len_tcs, List.length_take]; omega
  have hb1 : ((tcs (ts.take j)).length + 1) * 48 ≤ 140737488355328 := by omega
  have hb2 : (tcs (ts.take j)).length + 1 ≤ 9223372036854775807 := by omega
  conv => whnf
  refine ⟨fun hc => ?_, fun hc => ?_⟩
  · replace hc : (j : Int) < (tcs ts).length := of_decide_eq_true hc
    obtain ⟨u, hu⟩ : ∃ u, ts[j]? = some u := ⟨ts[j]'(by omega), List.getElem?_eq_getElem (by omega)⟩
    have huc := tcs_at ts j u hu
    have hi := ih u (List.mem_of_getElem? hu) (by have := szL_mem' ts u (List.mem_of_getElem? hu); omega)
    have hst := tcs_take_snoc hu
    obtain ⟨k', l', n', us⟩ := u
    rw [tv_mk] at hi
    conv => whnf
    refine ⟨_, ⟨by omega, by simpa using huc⟩, ?_⟩
    conv => whnf
    refine ⟨Nat.le_refl 4, ?_⟩
    conv => whnf
    repeat (first | (refine And.intro rfl ?_; conv => whnf) | (refine And.intro (by decide) ?_; conv => whnf) | (refine draw_intro true (by kernel_rfl) ?_; conv => whnf) | (refine And.intro ⟨by omega, by omega⟩ ?_; conv => whnf) | (refine And.intro (by omega) ?_; conv => whnf) | (refine And.intro (fun _ => ⟨by omega, by omega⟩) ?_; conv => whnf) | (refine And.intro (of_decide_eq_true rfl) ?_; conv => whnf) | (refine And.intro (fun _ => ?_) (fun h => absurd h ?_); rotate_left; (focus (first | decide | (simp; done) | (simp [tcs]; done))); conv => whnf) | (refine And.intro (fun h => absurd h ?_) (fun _ => ?_); (focus (first | decide | (simp; done) | (simp [tcs]; done))); conv => whnf) | (intro _; conv => whnf))
    try (refine draw_intro true (by kernel_rfl) ?_; conv => whnf)
    first | refine CallSt.use hi [] trivial (by decide) rfl ?_ | refine CallPt.useS hi [] trivial (by decide) rfl ?_
    rintro _ _ ⟨rfl, rfl⟩ _
    conv => whnf
    repeat (first | (refine And.intro rfl ?_; conv => whnf) | (refine And.intro (by decide) ?_; conv => whnf) | (refine draw_intro true (by kernel_rfl) ?_; conv => whnf) | (refine And.intro ⟨by omega, by omega⟩ ?_; conv => whnf) | (refine And.intro (by omega) ?_; conv => whnf) | (refine And.intro (fun _ => ⟨by omega, by omega⟩) ?_; conv => whnf) | (refine And.intro (of_decide_eq_true rfl) ?_; conv => whnf) | (refine And.intro (fun _ => ?_) (fun h => absurd h ?_); rotate_left; (focus (first | decide | (simp; done) | (simp [tcs]; done))); conv => whnf) | (refine And.intro (fun h => absurd h ?_) (fun _ => ?_); (focus (first | decide | (simp; done) | (simp [tcs]; done))); conv => whnf) | (intro _; conv => whnf))
    refine ⟨m - 1, _, _, by omega, ⟨j + 1, by omega, rfl, rfl⟩, Wk.sel [0, 1, 5] (by decide) (by decide) (by decide) ⟨rfl, rfl, ?_, trivial⟩ ⟨rfl, rfl, rfl, rfl, rfl, rfl, trivial⟩ rfl⟩
    rw [hst]
    rfl
  · replace hc : ¬ (j : Int) < (tcs ts).length := of_decide_eq_false hc
    obtain rfl : j = ts.length := by omega
    rw [List.take_length]
    conv => whnf
    repeat (first | (refine And.intro rfl ?_; conv => whnf) | (refine And.intro (by decide) ?_; conv => whnf) | (refine draw_intro true (by kernel_rfl) ?_; conv => whnf) | (refine And.intro ⟨by omega, by omega⟩ ?_; conv => whnf) | (refine And.intro (by omega) ?_; conv => whnf) | (refine And.intro (fun _ => ⟨by omega, by omega⟩) ?_; conv => whnf) | (refine And.intro (of_decide_eq_true rfl) ?_; conv => whnf) | (refine And.intro (fun _ => ?_) (fun h => absurd h ?_); rotate_left; (focus (first | decide | (simp; done) | (simp [tcs]; done))); conv => whnf) | (refine And.intro (fun h => absurd h ?_) (fun _ => ?_); (focus (first | decide | (simp; done) | (simp [tcs]; done))); conv => whnf) | (intro _; conv => whnf))
    all_goals (first | rfl | exact ⟨rfl, rfl⟩ | exact ⟨rfl, rfl, rfl⟩)
end Go.Tr
/- cert.Nodes. -/
namespace Go.Tr
open Go.Proofs
end Go.Tr
/- The law CertNodes. -/
namespace Go.Tr
open Go.Proofs
end Go.Tr
/- The law CertNodes. -/
namespace Go.Tr
open Go.Proofs
end Go.Tr
/- cert: the reader's bytes and numbers. -/
namespace Go.Tr
open Go.Proofs
/-- What the reader's panic tells. -/
def trb : CV := .ifc 83 []
theorem cDemand (b : Bool) : CallPt Try.prog 47 [.c (.bool b)] [] (fun r H' => b = true ∧ r = .tup [] ∧ H' = []) (fun x H' => (x = trb ∧ b = false) ∧ H' = []) := by
  refine call_pan (E := env 0) (fn := Try.f47) (c := bodyOf Try.f47) (env_ok 0) mixed (by kernel_rfl) (by kernel_rfl) (by kernel_rfl) (by kernel_rfl) (by kernel_rfl) (by kernel_rfl) rfl .q ?_
  conv => whnf
  repeat (first | (refine And.intro rfl ?_; conv => whnf) | (refine And.intro (by decide) ?_; conv => whnf) | (refine draw_intro true (by kernel_rfl) ?_; conv => whnf) | (refine And.intro ⟨by omega, by omega⟩ ?_; conv => whnf) | (refine And.intro (by omega) ?_; conv => whnf) | (refine And.intro (fun _ => ⟨by omega, by omega⟩) ?_; conv => whnf) | (refine And.intro (of_decide_eq_true rfl) ?_; conv => whnf) | (refine And.intro (fun _ => ?_) (fun h => absurd h ?_); rotate_left; (focus (first | decide | (simp; done) | (simp [tcs]; done))); conv => whnf) | (refine And.intro (fun h => absurd h ?_) (fun _ => ?_); (focus (first | decide | (simp; done) | (simp [tcs]; done))); conv => whnf) | (intro _; conv => whnf))
  cases b with
  | true =>
    (refine ⟨fun h => absurd h ?_, fun _ => ?_⟩; (focus (first | decide | (simp; done) | (simp [tcs]; done))); conv => whnf)
    repeat (first | (refine And.intro rfl ?_; conv => whnf) | (refine And.intro (by decide) ?_; conv => whnf) | (refine draw_intro true (by kernel_rfl) ?_; conv => whnf) | (refine And.intro ⟨by omega, by omega⟩ ?_; conv => whnf) | (refine And.intro (by omega) ?_; conv => whnf) | (refine And.intro (fun _ => ⟨by omega, by omega⟩) ?_; conv => whnf) | (refine And.intro (of_decide_eq_true rfl) ?_; conv => whnf) | (refine And.intro (fun _ => ?_) (fun h => absurd h ?_); rotate_left; (focus (first | decide | (simp; done) | (simp [tcs]; done))); conv => whnf) | (refine And.intro (fun h => absurd h ?_) (fun _ => ?_); (focus (first | decide | (simp; done) | (simp [tcs]; done))); conv => whnf) | (intro _; conv => whnf))
    all_goals (first | rfl | exact ⟨rfl, rfl⟩ | exact ⟨rfl, rfl, rfl⟩)
  | false =>
    (refine ⟨fun _ => ?_, fun h => absurd h ?_⟩; rotate_left; (focus (first | decide | (simp; done) | (simp [tcs]; done))); conv => whnf)
    exact ⟨rfl, rfl⟩
/-- A string of these bytes. -/
def sB (l : List UInt8) : ByteArray := ⟨l.toArray⟩
theorem sB_size (l : List UInt8) : (sB l).size = l.length := by simp [sB, ByteArray.size]
theorem sB_list (l : List UInt8) : (sB l).data.toList = l := by simp [sB]
theorem sB_inj {l m : List UInt8} (h : sB l = sB m) : l = m := by rw [← sB_list l, h, sB_list]
theorem sB_of (s : ByteArray) : s = sB s.data.toList := by simp [sB]
theorem sB_extract (l : List UInt8) (a b : Nat) : (sB l).extract a b = sB ((l.take b).drop a) := by
  have h : ((sB l).extract a b).data.toList = (sB ((l.take b).drop a)).data.toList := by
    rw [sB_list, ByteArray.data_extract, Array.toList_extract, sB_list, List.extract_eq_take_drop]
    rw [List.drop_take]
  have h2 := congrArg sB h
  rw [← sB_of, ← sB_of] at h2
  exact h2
theorem sB_nil (l : List UInt8) : decide (sB l = sB []) = decide (l = []) := by
  by_cases h : l = []
  · simp [h]
  · rw [decide_eq_false h, decide_eq_false fun e => h (sB_inj e)]
/-- The reader's memory. -/
abbrev rdH (l : List UInt8) (N : List Term) (Z : List Nat) : HP := [.box [.c (.str (sB l)), .own 1, .own 2], .row 25 4 48 (tcs N), .row 3 1 8 (rowN Z)]
abbrev dead3 : HP := [.dead, .dead, .dead]
theorem cNext (l : List UInt8) (N : List Term) (Z : List Nat) (hl : l.length ≤ 1000000) : CallPt Try.prog 70 [.ptr 0 0] (rdH l N Z)
    (fun r H' => ∃ b m, l = b :: m ∧ r = .c (.int .i64 ((b.toNat : Int))) ∧ H' = rdH m N Z) (fun x H' => (x = trb ∧ l = []) ∧ H' = dead3) := by
  cases l with
  | nil =>
    have e : (!decide (sB [] = ⟨#[]⟩)) = false := rfl
    have hd := cDemand false
    refine call_pan (E := envK 3) (fn := Try.f70) (c := bodyOf Try.f70) (envK_ok 3) mixed (by kernel_rfl) (by kernel_rfl) (by kernel_rfl) (by kernel_rfl) (by kernel_rfl) (by kernel_rfl) rfl .t ?_
    refine aw_cut _ _ rfl fun C hC => ?_
    conv => whnf
    subst hC
    refine aw_cut _ _ rfl fun C hC => ?_
    conv => whnf
    rw [e]
    try (refine draw_intro true (by kernel_rfl) ?_; conv => whnf)
    refine CallPt.use hd [] trivial (by decide) rfl ?_ ?_
    (focus (rintro x _ hx _; (conv => whnf); exact ⟨hx.1.1, rfl⟩))
    rintro _ _ ⟨h, _⟩ _
    conv => whnf
    cases h
  | cons b m =>
    have e : (!decide (sB (b :: m) = ⟨#[]⟩)) = true := by rw [decide_eq_false (fun h => by have := sB_inj (l := b :: m) (m := []) h; cases this)]; rfl
    have hd := cDemand true
    have hsz : ((sB (b :: m)).size : Int) = m.length + 1 := by rw [sB_size]; simp
    have hg : (sB (b :: m)).data.toList.getD (Int.toNat 0) 0 = b := by rw [sB_list]; rfl
    have hx : (sB (b :: m)).extract (Int.toNat 1) ((sB (b :: m)).size : Int).toNat = sB m := by
      rw [sB_extract, Int.toNat_natCast, sB_size, List.take_length]
      rfl
    have hw : IntKind.i64.wrap (b.toNat : Int) = b.toNat := i64_wrap (by have := b.toNat_lt; omega)
    simp only [List.length_cons] at hl
    refine call_pan (E := envK 3) (fn := Try.f70) (c := bodyOf Try.f70) (envK_ok 3) mixed (by kernel_rfl) (by kernel_rfl) (by kernel_rfl) (by kernel_rfl) (by kernel_rfl) (by kernel_rfl) rfl .t ?_
    refine aw_cut _ _ rfl fun C hC => ?_
    conv => whnf
    subst hC
    refine aw_cut _ _ rfl fun C hC => ?_
    conv => whnf
    rw [e]
    try (refine draw_intro true (by kernel_rfl) ?_; conv => whnf)
    refine CallPt.use hd [] trivial (by decide) rfl ?_ ?_
    (focus (rintro x _ hx _; (conv => whnf); exact absurd hx.1.2 (by simp)))
    rintro _ _ ⟨_, rfl, rfl⟩ _
    conv => whnf
    subst hC
    refine aw_cut _ _ rfl fun C hC => ?_
    conv => whnf
    repeat (first | (refine And.intro rfl ?_; conv => whnf) | (refine And.intro (by decide) ?_; conv => whnf) | (refine draw_intro true (by kernel_rfl) ?_; conv => whnf) | (refine And.intro ⟨by omega, by omega⟩ ?_; conv => whnf) | (refine And.intro (by omega) ?_; conv => whnf) | (refine And.intro (fun _ => ⟨by omega, by omega⟩) ?_; conv => whnf) | (refine And.intro (of_decide_eq_true rfl) ?_; conv => whnf) | (refine And.intro (fun _ => ?_) (fun h => absurd h ?_); rotate_left; (focus (first | decide | (simp; done) | (simp [tcs]; done))); conv => whnf) | (refine And.intro (fun h => absurd h ?_) (fun _ => ?_); (focus (first | decide | (simp; done) | (simp [tcs]; done))); conv => whnf) | (intro _; conv => whnf))
    subst hC
    refine aw_cut _ _ rfl fun C hC => ?_
    conv => whnf
    repeat (first | (refine And.intro rfl ?_; conv => whnf) | (refine And.intro (by decide) ?_; conv => whnf) | (refine draw_intro true (by kernel_rfl) ?_; conv => whnf) | (refine And.intro ⟨by omega, by omega⟩ ?_; conv => whnf) | (refine And.intro (by omega) ?_; conv => whnf) | (refine And.intro (fun _ => ⟨by omega, by omega⟩) ?_; conv => whnf) | (refine And.intro (of_decide_eq_true rfl) ?_; conv => whnf) | (refine And.intro (fun _ => ?_) (fun h => absurd h ?_); rotate_left; (focus (first | decide | (simp; done) | (simp [tcs]; done))); conv => whnf) | (refine And.intro (fun h => absurd h ?_) (fun _ => ?_); (focus (first | decide | (simp; done) | (simp [tcs]; done))); conv => whnf) | (intro _; conv => whnf))
    rw [hx]
    subst hC
    conv => whnf
    repeat (first | (refine And.intro rfl ?_; conv => whnf) | (refine And.intro (by decide) ?_; conv => whnf) | (refine draw_intro true (by kernel_rfl) ?_; conv => whnf) | (refine And.intro ⟨by omega, by omega⟩ ?_; conv => whnf) | (refine And.intro (by omega) ?_; conv => whnf) | (refine And.intro (fun _ => ⟨by omega, by omega⟩) ?_; conv => whnf) | (refine And.intro (of_decide_eq_true rfl) ?_; conv => whnf) | (refine And.intro (fun _ => ?_) (fun h => absurd h ?_); rotate_left; (focus (first | decide | (simp; done) | (simp [tcs]; done))); conv => whnf) | (refine And.intro (fun h => absurd h ?_) (fun _ => ?_); (focus (first | decide | (simp; done) | (simp [tcs]; done))); conv => whnf) | (intro _; conv => whnf))
    refine ⟨b, m, rfl, by rw [hg, hw], ?_⟩
    rfl
end Go.Tr
/- cert: the reader's numbers. -/
namespace Go.Tr
open Go.Proofs
/-- A number that is read. -/
def rdNum : List UInt8 → Nat → Nat → Option (Nat × List UInt8)
  | [], _, _ => none
  | b :: r, p, o => if p < 1099511627776 then (if b.toNat < 128 then some (o + b.toNat % 128 * p, r) else rdNum r (p * 128) (o + b.toNat % 128 * p)) else none
theorem rdNum_len : ∀ (l : List UInt8) (p o n : Nat) (m : List UInt8), rdNum l p o = some (n, m) → m.length < l.length
  | [], _, _, _, _, h => by simp [rdNum] at h
  | b :: r, p, o, n, m, h => by
    rw [rdNum] at h
    split at h
    · split at h
      · injection h with h
        injection h with _ h
        rw [← h]
        simp
      · have := rdNum_len r _ _ n m h
        simp only [List.length_cons]
        omega
    · cases h
theorem rdNum_le : ∀ (l : List UInt8) (p o n : Nat) (m : List UInt8), o < p → rdNum l p o = some (n, m) → n < 140737488355328
  | [], _, _, _, _, _, h => by simp [rdNum] at h
  | b :: r, p, o, n, m, ho, h => by
    rw [rdNum] at h
    have hb : b.toNat % 128 ≤ 127 := by omega
    have hm : b.toNat % 128 * p ≤ 127 * p := Nat.mul_le_mul_right _ hb
    split at h
    · split at h
      · injection h with h
        injection h with h _
        omega
      · exact rdNum_le r _ _ n m (by omega) h
    · cases h
theorem cRdNumber (l : List UInt8) (N : List Term) (Z : List Nat) (hl : l.length ≤ 1000000) : CallPt Try.prog 71 [.ptr 0 0] (rdH l N Z)
    (fun r H' => ∃ n m, rdNum l 1 0 = some (n, m) ∧ r = .c (.int .i64 ((n : Nat))) ∧ H' = rdH m N Z) (fun x H' => (x = trb ∧ rdNum l 1 0 = none) ∧ H' = dead3) := by
  refine call_pan (E := envK 3) (fn := Try.f71) (c := bodyOf Try.f71) (envK_ok 3) mixed (by kernel_rfl) (by kernel_rfl) (by kernel_rfl) (by kernel_rfl) (by kernel_rfl) (by kernel_rfl) rfl .t ?_
  refine aw_cut _ _ rfl fun C hC => ?_
  conv => whnf
  subst hC
  refine aw_cut _ _ rfl fun C hC => ?_
  conv => whnf
  subst hC
  refine aw_cut _ _ rfl fun C hC => ?_
  conv => whnf
  subst hC
  conv => whnf
  repeat (first | (refine And.intro rfl ?_; conv => whnf) | (refine And.intro (by decide) ?_; conv => whnf) | (refine draw_intro true (by kernel_rfl) ?_; conv => whnf) | (refine And.intro ⟨by omega, by omega⟩ ?_; conv => whnf) | (refine And.intro (by omega) ?_; conv => whnf) | (refine And.intro (fun _ => ⟨by omega, by omega⟩) ?_; conv => whnf) | (refine And.intro (of_decide_eq_true rfl) ?_; conv => whnf) | (refine And.intro (fun _ => ?_) (fun h => absurd h ?_); rotate_left; (focus (first | decide | (simp; done) | (simp [tcs]; done))); conv => whnf) | (refine And.intro (fun h => absurd h ?_) (fun _ => ?_); (focus (first | decide | (simp; done) | (simp [tcs]; done))); conv => whnf) | (intro _; conv => whnf))
  refine loop_intro (fun m tm H => ∃ (l' : List UInt8) (p o : Nat), m = l'.length ∧ l'.length ≤ 1000000 ∧ o < p ∧ p ≤ 140737488355328 ∧ rdNum l' p o = rdNum l 1 0 ∧ tm = [(4, .c (.int .i64 (p))), (3, .c (.int .i64 (o))), (0, .ptr 0 0)] ∧ H = rdH l' N Z)
    l.length _ _ ⟨l, 1, 0, rfl, hl, by omega, by omega, rfl, rfl, rfl⟩ (Wk.sel [0, 1, 2] (by decide) (by first | decide | (show (0 : Nat) ≤ _; decide) | (show ∀ i, i < 0 → _; decide) | (show (1 : Nat) ≤ _; decide) | (show ∀ i, i < 1 → _; decide) | (show (2 : Nat) ≤ _; decide) | (show ∀ i, i < 2 → _; decide) | (show (3 : Nat) ≤ _; decide) | (show ∀ i, i < 3 → _; decide) | (show (4 : Nat) ≤ _; decide) | (show ∀ i, i < 4 → _; decide) | (show (5 : Nat) ≤ _; decide) | (show ∀ i, i < 5 → _; decide) | (show (6 : Nat) ≤ _; decide) | (show ∀ i, i < 6 → _; decide) | (show (7 : Nat) ≤ _; decide) | (show ∀ i, i < 7 → _; decide)) (by first | decide | (show (0 : Nat) ≤ _; decide) | (show ∀ i, i < 0 → _; decide) | (show (1 : Nat) ≤ _; decide) | (show ∀ i, i < 1 → _; decide) | (show (2 : Nat) ≤ _; decide) | (show ∀ i, i < 2 → _; decide) | (show (3 : Nat) ≤ _; decide) | (show ∀ i, i < 3 → _; decide) | (show (4 : Nat) ≤ _; decide) | (show ∀ i, i < 4 → _; decide) | (show (5 : Nat) ≤ _; decide) | (show ∀ i, i < 5 → _; decide) | (show (6 : Nat) ≤ _; decide) | (show ∀ i, i < 6 → _; decide) | (show (7 : Nat) ≤ _; decide) | (show ∀ i, i < 7 → _; decide)) ⟨rfl, rfl, rfl, trivial⟩ ⟨rfl, rfl, rfl, trivial⟩ rfl) ?_
  rintro m tm H ⟨l', p, o, rfl, hl', hop, hpp, hR, rfl, rfl⟩
  have hnx := cNext l' N Z hl'
  refine aw_cut _ _ rfl fun C hC => ?_
  conv => whnf
  try (refine draw_intro true (by kernel_rfl) ?_; conv => whnf)
  refine CallPt.use hnx [0, 1, 2] ⟨rfl, rfl, rfl, trivial⟩ (by decide) rfl ?_ ?_
  (focus (rintro x _ hx _; (conv => whnf); exact ⟨hx.1.1, by rw [← hR, hx.1.2]; rfl⟩))
  rintro _ _ ⟨b, l2, rfl, rfl, rfl⟩ _
  conv => whnf
  rw [rdNum] at hR
  have hbl := b.toNat_lt
  have hm1 : b.toNat % 128 * p ≤ 127 * p := Nat.mul_le_mul_right _ (by omega)
  have e1 : ((b.toNat : Int)).tmod 128 = ((b.toNat % 128 : Nat) : Int) := by rw [Int.tmod_eq_emod_of_nonneg (by omega)]; omega
  have e2 : ((b.toNat % 128 : Nat) : Int) * (p : Int) = ((b.toNat % 128 * p : Nat) : Int) := by rw [Int.natCast_mul]
  have e3 : (o : Int) + ((b.toNat % 128 * p : Nat) : Int) = ((o + b.toNat % 128 * p : Nat) : Int) := by omega
  have e4 : decide ((b.toNat : Int) < 128) = decide (b.toNat < 128) := by
    by_cases h : b.toNat < 128
    · rw [decide_eq_true h, decide_eq_true (by omega)]
    · rw [decide_eq_false h, decide_eq_false (by omega)]
  have hd := cDemand (decide ((p : Int) < 1099511627776))
  simp only [List.length_cons] at hl'
  generalize hq : b.toNat % 128 * p = q at *
  by_cases hp : p < 1099511627776
  · rw [if_pos hp] at hR
    rw [decide_eq_true (show (p : Int) < 1099511627776 by omega)] at hd ⊢
    try (refine draw_intro true (by kernel_rfl) ?_; conv => whnf)
    refine CallPt.use hd [] trivial (by decide) rfl ?_ ?_
    (focus (rintro x _ hx _; (conv => whnf); exact absurd hx.1.2 (by simp)))
    rintro _ _ ⟨_, rfl, rfl⟩ _
    conv => whnf
    refine ⟨show (128 : Int) ≠ 0 by decide, ?_⟩
    conv => whnf
    rw [e1]
    refine ⟨by rw [e2]; exact ⟨by omega, by omega⟩, ?_⟩
    conv => whnf
    rw [e2]
    refine ⟨⟨by omega, by omega⟩, ?_⟩
    conv => whnf
    rw [e4]
    rw [e3]
    by_cases hb : b.toNat < 128
    · rw [if_pos hb] at hR
      rw [decide_eq_true hb]
      repeat (first | (refine And.intro rfl ?_; conv => whnf) | (refine And.intro (by decide) ?_; conv => whnf) | (refine draw_intro true (by kernel_rfl) ?_; conv => whnf) | (refine And.intro ⟨by omega, by omega⟩ ?_; conv => whnf) | (refine And.intro (by omega) ?_; conv => whnf) | (refine And.intro (fun _ => ⟨by omega, by omega⟩) ?_; conv => whnf) | (refine And.intro (of_decide_eq_true rfl) ?_; conv => whnf) | (refine And.intro (fun _ => ?_) (fun h => absurd h ?_); rotate_left; (focus (first | decide | (simp; done) | (simp [tcs]; done))); conv => whnf) | (refine And.intro (fun h => absurd h ?_) (fun _ => ?_); (focus (first | decide | (simp; done) | (simp [tcs]; done))); conv => whnf) | (intro _; conv => whnf))
      exact ⟨o + q, l2, hR.symm, rfl, rfl⟩
    · rw [if_neg hb] at hR
      rw [decide_eq_false hb]
      repeat (first | (refine And.intro rfl ?_; conv => whnf) | (refine And.intro (by decide) ?_; conv => whnf) | (refine draw_intro true (by kernel_rfl) ?_; conv => whnf) | (refine And.intro ⟨by omega, by omega⟩ ?_; conv => whnf) | (refine And.intro (by omega) ?_; conv => whnf) | (refine And.intro (fun _ => ⟨by omega, by omega⟩) ?_; conv => whnf) | (refine And.intro (of_decide_eq_true rfl) ?_; conv => whnf) | (refine And.intro (fun _ => ?_) (fun h => absurd h ?_); rotate_left; (focus (first | decide | (simp; done) | (simp [tcs]; done))); conv => whnf) | (refine And.intro (fun h => absurd h ?_) (fun _ => ?_); (focus (first | decide | (simp; done) | (simp [tcs]; done))); conv => whnf) | (intro _; conv => whnf))
      subst hC
      conv => whnf
      repeat (first | (refine And.intro rfl ?_; conv => whnf) | (refine And.intro (by decide) ?_; conv => whnf) | (refine draw_intro true (by kernel_rfl) ?_; conv => whnf) | (refine And.intro ⟨by omega, by omega⟩ ?_; conv => whnf) | (refine And.intro (by omega) ?_; conv => whnf) | (refine And.intro (fun _ => ⟨by omega, by omega⟩) ?_; conv => whnf) | (refine And.intro (of_decide_eq_true rfl) ?_; conv => whnf) | (refine And.intro (fun _ => ?_) (fun h => absurd h ?_); rotate_left; (focus (first | decide | (simp; done) | (simp [tcs]; done))); conv => whnf) | (refine And.intro (fun h => absurd h ?_) (fun _ => ?_); (focus (first | decide | (simp; done) | (simp [tcs]; done))); conv => whnf) | (intro _; conv => whnf))
      refine ⟨l2.length, _, _, by simp, ⟨l2, p * 128, o + q, rfl, by omega, by omega, by omega, hR, rfl, rfl⟩, Wk.sel [0, 1, 2] (by decide) (by first | decide | (show (0 : Nat) ≤ _; decide) | (show ∀ i, i < 0 → _; decide) | (show (1 : Nat) ≤ _; decide) | (show ∀ i, i < 1 → _; decide) | (show (2 : Nat) ≤ _; decide) | (show ∀ i, i < 2 → _; decide) | (show (3 : Nat) ≤ _; decide) | (show ∀ i, i < 3 → _; decide) | (show (4 : Nat) ≤ _; decide) | (show ∀ i, i < 4 → _; decide) | (show (5 : Nat) ≤ _; decide) | (show ∀ i, i < 5 → _; decide) | (show (6 : Nat) ≤ _; decide) | (show ∀ i, i < 6 → _; decide) | (show (7 : Nat) ≤ _; decide) | (show ∀ i, i < 7 → _; decide)) (by first | decide | (show (0 : Nat) ≤ _; decide) | (show ∀ i, i < 0 → _; decide) | (show (1 : Nat) ≤ _; decide) | (show ∀ i, i < 1 → _; decide) | (show (2 : Nat) ≤ _; decide) | (show ∀ i, i < 2 → _; decide) | (show (3 : Nat) ≤ _; decide) | (show ∀ i, i < 3 → _; decide) | (show (4 : Nat) ≤ _; decide) | (show ∀ i, i < 4 → _; decide) | (show (5 : Nat) ≤ _; decide) | (show ∀ i, i < 5 → _; decide) | (show (6 : Nat) ≤ _; decide) | (show ∀ i, i < 6 → _; decide) | (show (7 : Nat) ≤ _; decide) | (show ∀ i, i < 7 → _; decide)) ⟨rfl, rfl, rfl, trivial⟩ ⟨rfl, rfl, rfl, trivial⟩ rfl⟩
  · rw [if_neg hp] at hR
    rw [decide_eq_false (show ¬ (p : Int) < 1099511627776 by omega)] at hd ⊢
    try (refine draw_intro true (by kernel_rfl) ?_; conv => whnf)
    refine CallPt.use hd [] trivial (by decide) rfl ?_ ?_
    (focus (rintro x _ hx _; (conv => whnf); exact ⟨hx.1.1, hR.symm⟩))
    rintro _ _ ⟨h, _⟩ _
    conv => whnf
    cases h
end Go.Tr
/- cert: the reader's lengths, terms, names. -/
namespace Go.Tr
open Go.Proofs
/-- A length that is read. -/
def rdCount (l : List UInt8) : Option (Nat × List UInt8) := match rdNum l 1 0 with
  | some (n, m) => if n ≤ m.length then some (n, m) else none
  | none => none
theorem cRdCount (l : List UInt8) (N : List Term) (Z : List Nat) (hl : l.length ≤ 1000000) : CallPt Try.prog 69 [.ptr 0 0] (rdH l N Z)
    (fun r H' => ∃ n m, rdCount l = some (n, m) ∧ r = .c (.int .i64 ((n : Nat))) ∧ H' = rdH m N Z) (fun x H' => (x = trb ∧ rdCount l = none) ∧ H' = dead3) := by
  have hn := cRdNumber l N Z hl
  refine call_pan (E := envK 3) (fn := Try.f69) (c := bodyOf Try.f69) (envK_ok 3) mixed (by kernel_rfl) (by kernel_rfl) (by kernel_rfl) (by kernel_rfl) (by kernel_rfl) (by kernel_rfl) rfl .t ?_
  refine aw_cut _ _ rfl fun C hC => ?_
  conv => whnf
  subst hC
  refine aw_cut _ _ rfl fun C hC => ?_
  conv => whnf
  try (refine draw_intro true (by kernel_rfl) ?_; conv => whnf)
  refine CallPt.use hn [0, 1, 2] ⟨rfl, rfl, rfl, trivial⟩ (by decide) rfl ?_ ?_
  (focus (rintro x _ hx _; (conv => whnf); exact ⟨hx.1.1, by unfold rdCount; rw [hx.1.2]⟩))
  rintro _ _ ⟨n, m, hR, rfl, rfl⟩ _
  conv => whnf
  have hsz := sB_size m
  have hd := cDemand (decide ((n : Int) ≤ ((sB m).size : Int)))
  subst hC
  refine aw_cut _ _ rfl fun C hC => ?_
  conv => whnf
  by_cases hb : n ≤ m.length
  · rw [decide_eq_true (show (n : Int) ≤ ((sB m).size : Int) by omega)] at hd ⊢
    try (refine draw_intro true (by kernel_rfl) ?_; conv => whnf)
    refine CallPt.use hd [] trivial (by decide) rfl ?_ ?_
    (focus (rintro x _ hx _; (conv => whnf); exact absurd hx.1.2 (by simp)))
    rintro _ _ ⟨_, rfl, rfl⟩ _
    conv => whnf
    subst hC
    conv => whnf
    repeat (first | (refine And.intro rfl ?_; conv => whnf) | (refine And.intro (by decide) ?_; conv => whnf) | (refine draw_intro true (by kernel_rfl) ?_; conv => whnf) | (refine And.intro ⟨by omega, by omega⟩ ?_; conv => whnf) | (refine And.intro (by omega) ?_; conv => whnf) | (refine And.intro (fun _ => ⟨by omega, by omega⟩) ?_; conv => whnf) | (refine And.intro (of_decide_eq_true rfl) ?_; conv => whnf) | (refine And.intro (fun _ => ?_) (fun h => absurd h ?_); rotate_left; (focus (first | decide | (simp; done) | (simp [tcs]; done))); conv => whnf) | (refine And.intro (fun h => absurd h ?_) (fun _ => ?_); (focus (first | decide | (simp; done) | (simp [tcs]; done))); conv => whnf) | (intro _; conv => whnf))
    exact ⟨n, m, by unfold rdCount; rw [hR]; simp only; rw [if_pos hb], rfl, rfl⟩
  · rw [decide_eq_false (show ¬ (n : Int) ≤ ((sB m).size : Int) by omega)] at hd ⊢
    try (refine draw_intro true (by kernel_rfl) ?_; conv => whnf)
    refine CallPt.use hd [] trivial (by decide) rfl ?_ ?_
    (focus (rintro x _ hx _; (conv => whnf); exact ⟨hx.1.1, by unfold rdCount; rw [hR]; simp only; rw [if_neg hb]⟩))
    rintro _ _ ⟨h, _⟩ _
    conv => whnf
    cases h
/-- A node's term that is read. -/
def rdTerm (l : List UInt8) (N : List Term) : Option (Term × List UInt8) := match rdNum l 1 0 with
  | some (n, m) => (match N[n]? with
    | some t => some (t, m)
    | none => none)
  | none => none
theorem cRdTerm (l : List UInt8) (N : List Term) (Z : List Nat) (hl : l.length ≤ 1000000) (hN : ∀ t ∈ N, szT t ≤ 600) (hNl : N.length ≤ 1000000) : CallPt Try.prog 58 [.ptr 0 0] (rdH l N Z)
    (fun r H' => ∃ t m, rdTerm l N = some (t, m) ∧ r = tv t ∧ H' = rdH m N Z) (fun x H' => (x = trb ∧ rdTerm l N = none) ∧ H' = dead3) := by
  have hn := cRdNumber l N Z hl
  have hlt := len_tcs N
  refine call_pan (E := env 3) (fn := Try.f58) (c := bodyOf Try.f58) (env_ok 3) mixed (by kernel_rfl) (by kernel_rfl) (by kernel_rfl) (by kernel_rfl) (by kernel_rfl) (by kernel_rfl) rfl .p ?_
  refine aw_cut _ _ rfl fun C hC => ?_
  conv => whnf
  subst hC
  refine aw_cut _ _ rfl fun C hC => ?_
  conv => whnf
  try (refine draw_intro true (by kernel_rfl) ?_; conv => whnf)
  refine CallPt.use hn [0, 1, 2] ⟨rfl, rfl, rfl, trivial⟩ (by decide) rfl ?_ ?_
  (focus (rintro x _ hx _; (conv => whnf); exact ⟨hx.1.1, by unfold rdTerm; rw [hx.1.2]⟩))
  rintro _ _ ⟨n, m, hR, rfl, rfl⟩ _
  conv => whnf
  subst hC
  refine aw_cut _ _ rfl fun C hC => ?_
  conv => whnf
  intro hlen
  conv => whnf
  have hd := cDemand (decide ((n : Int) < ((tcs N).length : Int)))
  cases hu : N[n]? with
  | some u =>
    have hul := (List.getElem?_eq_some_iff.1 hu).1
    have huc := tcs_at N n u hu
    have hcp := cCopied u (by have := hN u (List.mem_of_getElem? hu); omega)
    have hT : rdTerm l N = some (u, m) := by unfold rdTerm; rw [hR]; simp only; rw [hu]
    rw [decide_eq_true (show (n : Int) < ((tcs N).length : Int) by omega)] at hd ⊢
    try (refine draw_intro true (by kernel_rfl) ?_; conv => whnf)
    refine CallPt.use hd [] trivial (by decide) rfl ?_ ?_
    (focus (rintro x _ hx _; (conv => whnf); exact absurd hx.1.2 (by simp)))
    rintro _ _ ⟨_, rfl, rfl⟩ _
    conv => whnf
    obtain ⟨k', l', n', us⟩ := u
    rw [tv_mk] at hcp
    replace huc : (tcs N)[n]? = some [.int .i64 k', .int .i64 l', .int .i64 n', .sl 4 48 (tcs us)] := huc
    subst hC
    conv => whnf
    refine ⟨⟨by omega, by omega⟩, ?_⟩
    conv => whnf
    refine ⟨[.int .i64 k', .int .i64 l', .int .i64 n', .sl 4 48 (tcs us)], by rw [Int.toNat_natCast]; exact huc, show 0 + 4 ≤ 4 by decide, ?_⟩
    conv => whnf
    repeat (first | (refine And.intro rfl ?_; conv => whnf) | (refine And.intro (by decide) ?_; conv => whnf) | (refine draw_intro true (by kernel_rfl) ?_; conv => whnf) | (refine And.intro ⟨by omega, by omega⟩ ?_; conv => whnf) | (refine And.intro (by omega) ?_; conv => whnf) | (refine And.intro (fun _ => ⟨by omega, by omega⟩) ?_; conv => whnf) | (refine And.intro (of_decide_eq_true rfl) ?_; conv => whnf) | (refine And.intro (fun _ => ?_) (fun h => absurd h ?_); rotate_left; (focus (first | decide | (simp; done) | (simp [tcs]; done))); conv => whnf) | (refine And.intro (fun h => absurd h ?_) (fun _ => ?_); (focus (first | decide | (simp; done) | (simp [tcs]; done))); conv => whnf) | (intro _; conv => whnf))
    try (refine draw_intro true (by kernel_rfl) ?_; conv => whnf)
    first | refine CallSt.use hcp [] trivial (by decide) rfl ?_ | refine CallPt.useS hcp [] trivial (by decide) rfl ?_
    rintro _ _ ⟨rfl, rfl⟩ _
    conv => whnf
    repeat (first | (refine And.intro rfl ?_; conv => whnf) | (refine And.intro (by decide) ?_; conv => whnf) | (refine draw_intro true (by kernel_rfl) ?_; conv => whnf) | (refine And.intro ⟨by omega, by omega⟩ ?_; conv => whnf) | (refine And.intro (by omega) ?_; conv => whnf) | (refine And.intro (fun _ => ⟨by omega, by omega⟩) ?_; conv => whnf) | (refine And.intro (of_decide_eq_true rfl) ?_; conv => whnf) | (refine And.intro (fun _ => ?_) (fun h => absurd h ?_); rotate_left; (focus (first | decide | (simp; done) | (simp [tcs]; done))); conv => whnf) | (refine And.intro (fun h => absurd h ?_) (fun _ => ?_); (focus (first | decide | (simp; done) | (simp [tcs]; done))); conv => whnf) | (intro _; conv => whnf))
    exact ⟨_, m, hT, rfl, rfl⟩
  | none =>
    have hul := List.getElem?_eq_none_iff.1 hu
    rw [decide_eq_false (show ¬ (n : Int) < ((tcs N).length : Int) by omega)] at hd ⊢
    try (refine draw_intro true (by kernel_rfl) ?_; conv => whnf)
    refine CallPt.use hd [] trivial (by decide) rfl ?_ ?_
    (focus (rintro x _ hx _; (conv => whnf); exact ⟨hx.1.1, by unfold rdTerm; rw [hR]; simp only; rw [hu]⟩))
    rintro _ _ ⟨h, _⟩ _
    conv => whnf
    cases h
end Go.Tr
/- strings.Clone; the reader's names and declarations. -/
namespace Go.Tr
open Go.Proofs
theorem cCloneLite (s : ByteArray) (hs : s.size ≤ 281474976710656) : CallSt Try.prog 80 [.c (.str s)] [] (fun r H' => r = .c (.str s) ∧ H' = []) := by
  unfold CallSt
  refine ⟨by kernel_rfl, fun w S κ vs hh hvs => ?_⟩
  simp only [AVRs, AVR, CVR] at hvs
  obtain ⟨v, r, rfl, rfl, rfl⟩ := hvs
  have h := AnyPu.stringslite_Clone Try.cloneA s w hs
  refine h.mono ?_
  rintro e w' ⟨rfl, hb⟩
  have hmono : ∀ B off u, ¬ S B → cellAt w.heap B off = some u → ¬ S B ∧ cellAt w'.heap B off = some u := fun B off u h1 h2 => ⟨h1, by
    rw [cellAt_same (hb.block B (cellAt_lt h2))]
    exact h2⟩
  refine ⟨.string s, .c (.str s), [], κ, S, rfl, ⟨rfl, rfl⟩, ⟨⟨fun i e h => by simp at h, hh.out, fun i B h => hh.own i B h, hh.excl, fun B hB => Nat.lt_of_lt_of_le (hh.sz B hB) hb.size⟩,
    ⟨hb.os, hb.tape, hb.output, hb.size, fun B hB _ => hb.block B hB, fun _ _ h => h, fun _ _ h _ => h⟩, fun _ _ => rfl, Nat.le_refl _, fun i B h _ => ⟨i, h⟩⟩, by simp only [AVR, CVR]⟩
theorem cClone (s : ByteArray) (hs : s.size ≤ 281474976710656) : CallSt Try.prog 72 [.c (.str s)] [] (fun r H' => r = .c (.str s) ∧ H' = []) := by
  have h := cCloneLite s hs
  refine call_pure (E := env 0) (fn := Try.f72) (c := bodyOf Try.f72) (env_ok 0) mixed (by kernel_rfl) (by kernel_rfl) (by kernel_rfl) (by kernel_rfl) (by kernel_rfl) (by kernel_rfl) rfl ?_
  conv => whnf
  try (refine draw_intro true (by kernel_rfl) ?_; conv => whnf)
  first | refine CallSt.use h [] trivial (by decide) rfl ?_ | refine CallPt.useS h [] trivial (by decide) rfl ?_
  rintro _ _ ⟨rfl, rfl⟩ _
  conv => whnf
  repeat (first | (refine And.intro rfl ?_; conv => whnf) | (refine And.intro (by decide) ?_; conv => whnf) | (refine draw_intro true (by kernel_rfl) ?_; conv => whnf) | (refine And.intro ⟨by omega, by omega⟩ ?_; conv => whnf) | (refine And.intro (by omega) ?_; conv => whnf) | (refine And.intro (fun _ => ⟨by omega, by omega⟩) ?_; conv => whnf) | (refine And.intro (of_decide_eq_true rfl) ?_; conv => whnf) | (refine And.intro (fun _ => ?_) (fun h => absurd h ?_); rotate_left; (focus (first | decide | (simp; done) | (simp [tcs]; done))); conv => whnf) | (refine And.intro (fun h => absurd h ?_) (fun _ => ?_); (focus (first | decide | (simp; done) | (simp [tcs]; done))); conv => whnf) | (intro _; conv => whnf))
  all_goals (first | rfl | exact ⟨rfl, rfl⟩ | exact ⟨rfl, rfl, rfl⟩)
/-- A name that is read. -/
def rdName (l : List UInt8) : Option (List UInt8 × List UInt8) := match rdCount l with
  | some (n, m) => some (m.take n, m.drop n)
  | none => none
theorem rdCount_le {l m : List UInt8} {n : Nat} (h : rdCount l = some (n, m)) : n ≤ m.length ∧ m.length < l.length := by
  unfold rdCount at h
  split at h
  · rename_i n' m' hR
    have := rdNum_len _ _ _ _ _ hR
    split at h
    · injection h with h
      injection h with h1 h2
      subst h1 h2
      exact ⟨by assumption, this⟩
    · cases h
  · cases h
theorem cRdName (l : List UInt8) (N : List Term) (Z : List Nat) (hl : l.length ≤ 1000000) : CallPt Try.prog 73 [.ptr 0 0] (rdH l N Z)
    (fun r H' => ∃ s m, rdName l = some (s, m) ∧ r = .c (.str (sB s)) ∧ H' = rdH m N Z) (fun x H' => (x = trb ∧ rdName l = none) ∧ H' = dead3) := by
  have hn := cRdCount l N Z hl
  refine call_pan (E := envK 3) (fn := Try.f73) (c := bodyOf Try.f73) (envK_ok 3) mixed (by kernel_rfl) (by kernel_rfl) (by kernel_rfl) (by kernel_rfl) (by kernel_rfl) (by kernel_rfl) rfl .t ?_
  refine aw_cut _ _ rfl fun C hC => ?_
  conv => whnf
  subst hC
  refine aw_cut _ _ rfl fun C hC => ?_
  conv => whnf
  try (refine draw_intro true (by kernel_rfl) ?_; conv => whnf)
  refine CallPt.use hn [0, 1, 2] ⟨rfl, rfl, rfl, trivial⟩ (by decide) rfl ?_ ?_
  (focus (rintro x _ hx _; (conv => whnf); exact ⟨hx.1.1, by unfold rdName; rw [hx.1.2]⟩))
  rintro _ _ ⟨n, m, hR, rfl, rfl⟩ _
  conv => whnf
  obtain ⟨hnm, hml⟩ := rdCount_le hR
  have hsz := sB_size m
  have e1 : (sB m).extract (Int.toNat 0) ((n : Int)).toNat = sB (m.take n) := by rw [sB_extract, Int.toNat_natCast]; rfl
  have e2 : (sB m).extract ((n : Int)).toNat (((sB m).size : Int)).toNat = sB (m.drop n) := by rw [sB_extract, Int.toNat_natCast, Int.toNat_natCast, hsz, List.take_length]
  subst hC
  refine aw_cut _ _ rfl fun C hC => ?_
  conv => whnf
  refine ⟨⟨by omega, by omega, by omega⟩, ?_⟩
  conv => whnf
  rw [e1]
  subst hC
  refine aw_cut _ _ rfl fun C hC => ?_
  conv => whnf
  refine ⟨⟨by omega, by omega, by omega⟩, ?_⟩
  conv => whnf
  rw [e2]
  subst hC
  conv => whnf
  repeat (first | (refine And.intro rfl ?_; conv => whnf) | (refine And.intro (by decide) ?_; conv => whnf) | (refine draw_intro true (by kernel_rfl) ?_; conv => whnf) | (refine And.intro ⟨by omega, by omega⟩ ?_; conv => whnf) | (refine And.intro (by omega) ?_; conv => whnf) | (refine And.intro (fun _ => ⟨by omega, by omega⟩) ?_; conv => whnf) | (refine And.intro (of_decide_eq_true rfl) ?_; conv => whnf) | (refine And.intro (fun _ => ?_) (fun h => absurd h ?_); rotate_left; (focus (first | decide | (simp; done) | (simp [tcs]; done))); conv => whnf) | (refine And.intro (fun h => absurd h ?_) (fun _ => ?_); (focus (first | decide | (simp; done) | (simp [tcs]; done))); conv => whnf) | (intro _; conv => whnf))
  exact ⟨m.take n, m.drop n, by unfold rdName; rw [hR], rfl, rfl⟩
end Go.Tr
/- cert: the reader's declarations; lists of terms and of declarations. -/
namespace Go.Tr
open Go.Proofs
theorem rdTerm_len {l m : List UInt8} {N : List Term} {t : Term} (h : rdTerm l N = some (t, m)) : m.length < l.length ∧ t ∈ N := by
  unfold rdTerm at h
  split at h
  · rename_i n m' hR
    have := rdNum_len _ _ _ _ _ hR
    split at h
    · rename_i t' ht
      injection h with h
      injection h with h1 h2
      subst h1 h2
      exact ⟨this, List.mem_of_getElem? ht⟩
    · cases h
  · cases h
theorem rdName_len {l m s : List UInt8} (h : rdName l = some (s, m)) : m.length < l.length ∧ s.length < l.length := by
  unfold rdName at h
  split at h
  · rename_i n m' hR
    have := rdCount_le hR
    injection h with h
    injection h with h1 h2
    subst h1 h2
    simp only [List.length_drop, List.length_take]
    omega
  · cases h
/-- A declaration that is read. -/
def rdDecl (l : List UInt8) (N : List Term) : Option (Dcl × List UInt8) := match rdName l with
  | some (s, m) => (match rdTerm m N with
    | some (t, m2) => (match rdNum m2 1 0 with
      | some (n, m3) => some (⟨sB s, t, n⟩, m3)
      | none => none)
    | none => none)
  | none => none
theorem cRdDecl (l : List UInt8) (N : List Term) (Z : List Nat) (hl : l.length ≤ 1000000) (hN : ∀ t ∈ N, szT t ≤ 600) (hNl : N.length ≤ 1000000) : CallPt Try.prog 57 [.ptr 0 0] (rdH l N Z)
    (fun r H' => ∃ d m, rdDecl l N = some (d, m) ∧ r = dv d ∧ H' = rdH m N Z) (fun x H' => (x = trb ∧ rdDecl l N = none) ∧ H' = dead3) := by
  have hn := cRdName l N Z hl
  refine call_pan (E := env 3) (fn := Try.f57) (c := bodyOf Try.f57) (env_ok 3) mixed (by kernel_rfl) (by kernel_rfl) (by kernel_rfl) (by kernel_rfl) (by kernel_rfl) (by kernel_rfl) rfl .p ?_
  refine aw_cut _ _ rfl fun C hC => ?_
  conv => whnf
  subst hC
  refine aw_cut _ _ rfl fun C hC => ?_
  conv => whnf
  try (refine draw_intro true (by kernel_rfl) ?_; conv => whnf)
  refine CallPt.use hn [0, 1, 2] ⟨rfl, rfl, rfl, trivial⟩ (by decide) rfl ?_ ?_
  (focus (rintro x _ hx _; (conv => whnf); exact ⟨hx.1.1, by unfold rdDecl; rw [hx.1.2]⟩))
  rintro _ _ ⟨s, m, hR, rfl, rfl⟩ _
  conv => whnf
  have hlen := rdName_len hR
  have hcl := cClone (sB s) (by rw [sB_size]; omega)
  have ht := cRdTerm m N Z (by omega) hN hNl
  try (refine draw_intro true (by kernel_rfl) ?_; conv => whnf)
  first | refine CallSt.use hcl [] trivial (by decide) rfl ?_ | refine CallPt.useS hcl [] trivial (by decide) rfl ?_
  rintro _ _ ⟨rfl, rfl⟩ _
  conv => whnf
  repeat (first | (refine And.intro rfl ?_; conv => whnf) | (refine And.intro (by decide) ?_; conv => whnf) | (refine draw_intro true (by kernel_rfl) ?_; conv => whnf) | (refine And.intro ⟨by omega, by omega⟩ ?_; conv => whnf) | (refine And.intro (by omega) ?_; conv => whnf) | (refine And.intro (fun _ => ⟨by omega, by omega⟩) ?_; conv => whnf) | (refine And.intro (of_decide_eq_true rfl) ?_; conv => whnf) | (refine And.intro (fun _ => ?_) (fun h => absurd h ?_); rotate_left; (focus (first | decide | (simp; done) | (simp [tcs]; done))); conv => whnf) | (refine And.intro (fun h => absurd h ?_) (fun _ => ?_); (focus (first | decide | (simp; done) | (simp [tcs]; done))); conv => whnf) | (intro _; conv => whnf))
  subst hC
  refine aw_cut _ _ rfl fun C hC => ?_
  conv => whnf
  try (refine draw_intro true (by kernel_rfl) ?_; conv => whnf)
  refine CallPt.use ht [0, 1, 2] ⟨rfl, rfl, rfl, trivial⟩ (by decide) rfl ?_ ?_
  (focus (rintro x _ hx _; (conv => whnf); exact ⟨hx.1.1, by unfold rdDecl; rw [hR]; simp only; rw [hx.1.2]⟩))
  rintro _ _ ⟨t, m2, hR2, rfl, rfl⟩ _
  conv => whnf
  have hlen2 := rdTerm_len hR2
  have hnm := cRdNumber m2 N Z (by omega)
  have e : rdDecl l N = match rdNum m2 1 0 with | some (n, m3) => some (⟨sB s, t, n⟩, m3) | none => none := by unfold rdDecl; rw [hR]; simp only; rw [hR2]
  rw [e]
  clear e
  obtain ⟨k', l', n', us⟩ := t
  rw [tv_mk]
  repeat (first | (refine And.intro rfl ?_; conv => whnf) | (refine And.intro (by decide) ?_; conv => whnf) | (refine draw_intro true (by kernel_rfl) ?_; conv => whnf) | (refine And.intro ⟨by omega, by omega⟩ ?_; conv => whnf) | (refine And.intro (by omega) ?_; conv => whnf) | (refine And.intro (fun _ => ⟨by omega, by omega⟩) ?_; conv => whnf) | (refine And.intro (of_decide_eq_true rfl) ?_; conv => whnf) | (refine And.intro (fun _ => ?_) (fun h => absurd h ?_); rotate_left; (focus (first | decide | (simp; done) | (simp [tcs]; done))); conv => whnf) | (refine And.intro (fun h => absurd h ?_) (fun _ => ?_); (focus (first | decide | (simp; done) | (simp [tcs]; done))); conv => whnf) | (intro _; conv => whnf))
  subst hC
  refine aw_cut _ _ rfl fun C hC => ?_
  conv => whnf
  try (refine draw_intro true (by kernel_rfl) ?_; conv => whnf)
  refine CallPt.use hnm [0, 1, 2] ⟨rfl, rfl, rfl, trivial⟩ (by decide) rfl ?_ ?_
  (focus (rintro x _ hx _; (conv => whnf); exact ⟨hx.1.1, by rw [hx.1.2]⟩))
  rintro _ _ ⟨n, m3, hR3, rfl, rfl⟩ _
  conv => whnf
  rw [hR3]
  repeat (first | (refine And.intro rfl ?_; conv => whnf) | (refine And.intro (by decide) ?_; conv => whnf) | (refine draw_intro true (by kernel_rfl) ?_; conv => whnf) | (refine And.intro ⟨by omega, by omega⟩ ?_; conv => whnf) | (refine And.intro (by omega) ?_; conv => whnf) | (refine And.intro (fun _ => ⟨by omega, by omega⟩) ?_; conv => whnf) | (refine And.intro (of_decide_eq_true rfl) ?_; conv => whnf) | (refine And.intro (fun _ => ?_) (fun h => absurd h ?_); rotate_left; (focus (first | decide | (simp; done) | (simp [tcs]; done))); conv => whnf) | (refine And.intro (fun h => absurd h ?_) (fun _ => ?_); (focus (first | decide | (simp; done) | (simp [tcs]; done))); conv => whnf) | (intro _; conv => whnf))
  subst hC
  conv => whnf
  repeat (first | (refine And.intro rfl ?_; conv => whnf) | (refine And.intro (by decide) ?_; conv => whnf) | (refine draw_intro true (by kernel_rfl) ?_; conv => whnf) | (refine And.intro ⟨by omega, by omega⟩ ?_; conv => whnf) | (refine And.intro (by omega) ?_; conv => whnf) | (refine And.intro (fun _ => ⟨by omega, by omega⟩) ?_; conv => whnf) | (refine And.intro (of_decide_eq_true rfl) ?_; conv => whnf) | (refine And.intro (fun _ => ?_) (fun h => absurd h ?_); rotate_left; (focus (first | decide | (simp; done) | (simp [tcs]; done))); conv => whnf) | (refine And.intro (fun h => absurd h ?_) (fun _ => ?_); (focus (first | decide | (simp; done) | (simp [tcs]; done))); conv => whnf) | (intro _; conv => whnf))
  exact ⟨_, m3, rfl, rfl, rfl⟩
end Go.Tr
/- cert: lists that are read. -/
namespace Go.Tr
open Go.Proofs
def rdMany {α : Type} (one : List UInt8 → Option (α × List UInt8)) : Nat → List UInt8 → List α → Option (List α × List UInt8)
  | 0, l, acc => some (acc, l)
  | n + 1, l, acc => match one l with
    | some (x, m) => rdMany one n m (acc ++ [x])
    | none => none
/-- A list that is read. -/
def rdList {α : Type} (one : List UInt8 → Option (α × List UInt8)) (l : List UInt8) : Option (List α × List UInt8) := match rdCount l with
  | some (n, m) => rdMany one n m []
  | none => none
theorem cReadTerms (l : List UInt8) (N : List Term) (Z : List Nat) (hl : l.length ≤ 1000000) (hN : ∀ t ∈ N, szT t ≤ 600) (hNl : N.length ≤ 1000000) :
    CallPt Try.prog 54 [.ptr 0 0, .bd 58 [.ptr 0 0]] (rdH l N Z)
    (fun r H' => ∃ ts m, rdList (fun l => rdTerm l N) l = some (ts, m) ∧ r = .c (.sl 4 48 (tcs ts)) ∧ H' = rdH m N Z) (fun x H' => (x = trb ∧ rdList (fun l => rdTerm l N) l = none) ∧ H' = dead3) := by
  have hn := cRdCount l N Z hl
  refine call_pan (E := envK 3) (fn := Try.f54) (c := bodyOf Try.f54) (envK_ok 3) mixed (by kernel_rfl) (by kernel_rfl) (by kernel_rfl) (by kernel_rfl) (by kernel_rfl) (by kernel_rfl) rfl .p ?_
  refine aw_cut _ _ rfl fun C hC => ?_
  conv => whnf
  subst hC
  refine aw_cut _ _ rfl fun C hC => ?_
  conv => whnf
  subst hC
  refine aw_cut _ _ rfl fun C hC => ?_
  conv => whnf
  try (refine draw_intro true (by kernel_rfl) ?_; conv => whnf)
  refine CallPt.use hn [0, 1, 2] ⟨rfl, rfl, rfl, trivial⟩ (by decide) rfl ?_ ?_
  (focus (rintro x _ hx _; (conv => whnf); exact ⟨hx.1.1, by unfold rdList; rw [hx.1.2]⟩))
  rintro _ _ ⟨n, m, hR, rfl, rfl⟩ _
  conv => whnf
  obtain ⟨hnm, hml⟩ := rdCount_le hR
  have e : rdList (fun l => rdTerm l N) l = rdMany (fun l => rdTerm l N) n m [] := by unfold rdList; rw [hR]
  rw [e]
  clear e hR hn
  generalize hRR : rdMany (fun l => rdTerm l N) n m [] = R at *
  repeat (first | (refine And.intro rfl ?_; conv => whnf) | (refine And.intro (by decide) ?_; conv => whnf) | (refine draw_intro true (by kernel_rfl) ?_; conv => whnf) | (refine And.intro ⟨by omega, by omega⟩ ?_; conv => whnf) | (refine And.intro (by omega) ?_; conv => whnf) | (refine And.intro (fun _ => ⟨by omega, by omega⟩) ?_; conv => whnf) | (refine And.intro (of_decide_eq_true rfl) ?_; conv => whnf) | (refine And.intro (fun _ => ?_) (fun h => absurd h ?_); rotate_left; (focus (first | decide | (simp; done) | (simp [tcs]; done))); conv => whnf) | (refine And.intro (fun h => absurd h ?_) (fun _ => ?_); (focus (first | decide | (simp; done) | (simp [tcs]; done))); conv => whnf) | (intro _; conv => whnf))
  refine loop_intro (fun q tm H => ∃ (j : Nat) (l' : List UInt8) (acc : List Term), n = q + j ∧ acc.length = j ∧ l'.length ≤ 1000000 ∧ rdMany (fun l => rdTerm l N) q l' acc = R ∧
      tm = [(9, .c (.int .i64 (j))), (8, .c (.int .i64 (n))), (5, .own 3), (1, .bd 58 [.ptr 0 0]), (0, .ptr 0 0)] ∧ H = [.box [.c (.str (sB l')), .own 1, .own 2], .row 25 4 48 (tcs N), .row 3 1 8 (rowN Z), .row 25 4 48 (tcs acc)])
    n _ _ ⟨0, m, [], by omega, rfl, by omega, hRR, rfl, rfl⟩ ?_ ?_
  · refine Wk.trans (Wk.niltmp 5 25 4 48 rfl rfl) ?_
    exact Wk.sel [0, 1, 2, 3] (by decide) (by first | decide | (show (0 : Nat) ≤ _; decide) | (show ∀ i, i < 0 → _; decide) | (show (1 : Nat) ≤ _; decide) | (show ∀ i, i < 1 → _; decide) | (show (2 : Nat) ≤ _; decide) | (show ∀ i, i < 2 → _; decide) | (show (3 : Nat) ≤ _; decide) | (show ∀ i, i < 3 → _; decide) | (show (4 : Nat) ≤ _; decide) | (show ∀ i, i < 4 → _; decide) | (show (5 : Nat) ≤ _; decide) | (show ∀ i, i < 5 → _; decide) | (show (6 : Nat) ≤ _; decide) | (show ∀ i, i < 6 → _; decide) | (show (7 : Nat) ≤ _; decide) | (show ∀ i, i < 7 → _; decide)) (by first | decide | (show (0 : Nat) ≤ _; decide) | (show ∀ i, i < 0 → _; decide) | (show (1 : Nat) ≤ _; decide) | (show ∀ i, i < 1 → _; decide) | (show (2 : Nat) ≤ _; decide) | (show ∀ i, i < 2 → _; decide) | (show (3 : Nat) ≤ _; decide) | (show ∀ i, i < 3 → _; decide) | (show (4 : Nat) ≤ _; decide) | (show ∀ i, i < 4 → _; decide) | (show (5 : Nat) ≤ _; decide) | (show ∀ i, i < 5 → _; decide) | (show (6 : Nat) ≤ _; decide) | (show ∀ i, i < 6 → _; decide) | (show (7 : Nat) ≤ _; decide) | (show ∀ i, i < 7 → _; decide)) ⟨rfl, rfl, rfl, rfl, trivial⟩ ⟨rfl, rfl, rfl, rfl, rfl, trivial⟩ rfl
  rintro q tm H ⟨j, l', acc, hj, hacc, hl', hRm, rfl, rfl⟩
  have hla := len_tcs acc
  have hb1 : ((tcs acc).length + 1) * 48 ≤ 140737488355328 := by omega
  have hb2 : (tcs acc).length + 1 ≤ 9223372036854775807 := by omega
  conv => whnf
  refine ⟨fun hc => ?_, fun hc => ?_⟩
  · replace hc : (j : Int) < n := of_decide_eq_true hc
    obtain ⟨q2, rfl⟩ : ∃ q2, q = q2 + 1 := ⟨q - 1, by omega⟩
    rw [rdMany] at hRm
    have ht := cRdTerm l' N Z hl' hN hNl
    conv => whnf
    try (refine draw_intro true (by kernel_rfl) ?_; conv => whnf)
    refine CallPt.use ht [0, 1, 2] ⟨rfl, rfl, rfl, trivial⟩ (by decide) rfl ?_ ?_
    (focus (rintro x _ hx _; (conv => whnf); exact ⟨hx.1.1, by rw [hx.1.2] at hRm; exact hRm.symm⟩))
    rintro _ _ ⟨t, m2, hR2, rfl, rfl⟩ _
    conv => whnf
    rw [hR2] at hRm
    have hlen2 := rdTerm_len hR2
    have hst : tcs (acc ++ [t]) = tcs acc ++ [tc t] := tcs_snoc19 acc t
    obtain ⟨k', l2, n', us⟩ := t
    rw [tv_mk]
    repeat (first | (refine And.intro rfl ?_; conv => whnf) | (refine And.intro (by decide) ?_; conv => whnf) | (refine draw_intro true (by kernel_rfl) ?_; conv => whnf) | (refine And.intro ⟨by omega, by omega⟩ ?_; conv => whnf) | (refine And.intro (by omega) ?_; conv => whnf) | (refine And.intro (fun _ => ⟨by omega, by omega⟩) ?_; conv => whnf) | (refine And.intro (of_decide_eq_true rfl) ?_; conv => whnf) | (refine And.intro (fun _ => ?_) (fun h => absurd h ?_); rotate_left; (focus (first | decide | (simp; done) | (simp [tcs]; done))); conv => whnf) | (refine And.intro (fun h => absurd h ?_) (fun _ => ?_); (focus (first | decide | (simp; done) | (simp [tcs]; done))); conv => whnf) | (intro _; conv => whnf))
    refine ⟨q2, _, _, by omega, ⟨j + 1, m2, acc ++ [.mk k' l2 n' us], by omega, by simp [hacc], by omega, hRm, rfl, rfl⟩, Wk.sel [0, 1, 2, 6] (by decide) (by first | decide | (show (0 : Nat) ≤ _; decide) | (show ∀ i, i < 0 → _; decide) | (show (1 : Nat) ≤ _; decide) | (show ∀ i, i < 1 → _; decide) | (show (2 : Nat) ≤ _; decide) | (show ∀ i, i < 2 → _; decide) | (show (3 : Nat) ≤ _; decide) | (show ∀ i, i < 3 → _; decide) | (show (4 : Nat) ≤ _; decide) | (show ∀ i, i < 4 → _; decide) | (show (5 : Nat) ≤ _; decide) | (show ∀ i, i < 5 → _; decide) | (show (6 : Nat) ≤ _; decide) | (show ∀ i, i < 6 → _; decide) | (show (7 : Nat) ≤ _; decide) | (show ∀ i, i < 7 → _; decide)) (by first | decide | (show (0 : Nat) ≤ _; decide) | (show ∀ i, i < 0 → _; decide) | (show (1 : Nat) ≤ _; decide) | (show ∀ i, i < 1 → _; decide) | (show (2 : Nat) ≤ _; decide) | (show ∀ i, i < 2 → _; decide) | (show (3 : Nat) ≤ _; decide) | (show ∀ i, i < 3 → _; decide) | (show (4 : Nat) ≤ _; decide) | (show ∀ i, i < 4 → _; decide) | (show (5 : Nat) ≤ _; decide) | (show ∀ i, i < 5 → _; decide) | (show (6 : Nat) ≤ _; decide) | (show ∀ i, i < 6 → _; decide) | (show (7 : Nat) ≤ _; decide) | (show ∀ i, i < 7 → _; decide)) ⟨rfl, rfl, rfl, ?_, trivial⟩ ⟨rfl, rfl, rfl, rfl, rfl, trivial⟩ rfl⟩
    rw [hst]
    rfl
  · replace hc : ¬ (j : Int) < n := of_decide_eq_false hc
    obtain rfl : q = 0 := by omega
    rw [rdMany] at hRm
    subst hC
    conv => whnf
    repeat (first | (refine And.intro rfl ?_; conv => whnf) | (refine And.intro (by decide) ?_; conv => whnf) | (refine draw_intro true (by kernel_rfl) ?_; conv => whnf) | (refine And.intro ⟨by omega, by omega⟩ ?_; conv => whnf) | (refine And.intro (by omega) ?_; conv => whnf) | (refine And.intro (fun _ => ⟨by omega, by omega⟩) ?_; conv => whnf) | (refine And.intro (of_decide_eq_true rfl) ?_; conv => whnf) | (refine And.intro (fun _ => ?_) (fun h => absurd h ?_); rotate_left; (focus (first | decide | (simp; done) | (simp [tcs]; done))); conv => whnf) | (refine And.intro (fun h => absurd h ?_) (fun _ => ?_); (focus (first | decide | (simp; done) | (simp [tcs]; done))); conv => whnf) | (intro _; conv => whnf))
    exact ⟨acc, l', hRm.symm, rfl, rfl⟩
theorem rdDecl_len {l m : List UInt8} {N : List Term} {d : Dcl} (h : rdDecl l N = some (d, m)) : m.length < l.length := by
  unfold rdDecl at h
  split at h
  · rename_i s m1 h1
    have g1 := rdName_len h1
    split at h
    · rename_i t m2 h2
      have g2 := rdTerm_len h2
      split at h
      · rename_i n m3 h3
        have g3 := rdNum_len _ _ _ _ _ h3
        injection h with h
        injection h with _ h
        subst h
        omega
      · cases h
    · cases h
  · cases h
theorem cReadDecls (l : List UInt8) (N : List Term) (Z : List Nat) (hl : l.length ≤ 1000000) (hN : ∀ t ∈ N, szT t ≤ 600) (hNl : N.length ≤ 1000000) :
    CallPt Try.prog 56 [.ptr 0 0, .bd 57 [.ptr 0 0]] (rdH l N Z)
    (fun r H' => ∃ ts m, rdList (fun l => rdDecl l N) l = some (ts, m) ∧ r = .c (.sl 6 72 (dcs ts)) ∧ H' = rdH m N Z) (fun x H' => (x = trb ∧ rdList (fun l => rdDecl l N) l = none) ∧ H' = dead3) := by
  have hn := cRdCount l N Z hl
  refine call_pan (E := envK 3) (fn := Try.f56) (c := bodyOf Try.f56) (envK_ok 3) mixed (by kernel_rfl) (by kernel_rfl) (by kernel_rfl) (by kernel_rfl) (by kernel_rfl) (by kernel_rfl) rfl .p ?_
  refine aw_cut _ _ rfl fun C hC => ?_
  conv => whnf
  subst hC
  refine aw_cut _ _ rfl fun C hC => ?_
  conv => whnf
  subst hC
  refine aw_cut _ _ rfl fun C hC => ?_
  conv => whnf
  try (refine draw_intro true (by kernel_rfl) ?_; conv => whnf)
  refine CallPt.use hn [0, 1, 2] ⟨rfl, rfl, rfl, trivial⟩ (by decide) rfl ?_ ?_
  (focus (rintro x _ hx _; (conv => whnf); exact ⟨hx.1.1, by unfold rdList; rw [hx.1.2]⟩))
  rintro _ _ ⟨n, m, hR, rfl, rfl⟩ _
  conv => whnf
  obtain ⟨hnm, hml⟩ := rdCount_le hR
  have e : rdList (fun l => rdDecl l N) l = rdMany (fun l => rdDecl l N) n m [] := by unfold rdList; rw [hR]
  rw [e]
  clear e hR hn
  generalize hRR : rdMany (fun l => rdDecl l N) n m [] = R at *
  repeat (first | (refine And.intro rfl ?_; conv => whnf) | (refine And.intro (by decide) ?_; conv => whnf) | (refine draw_intro true (by kernel_rfl) ?_; conv => whnf) | (refine And.intro ⟨by omega, by omega⟩ ?_; conv => whnf) | (refine And.intro (by omega) ?_; conv => whnf) | (refine And.intro (fun _ => ⟨by omega, by omega⟩) ?_; conv => whnf) | (refine And.intro (of_decide_eq_true rfl) ?_; conv => whnf) | (refine And.intro (fun _ => ?_) (fun h => absurd h ?_); rotate_left; (focus (first | decide | (simp; done) | (simp [tcs]; done))); conv => whnf) | (refine And.intro (fun h => absurd h ?_) (fun _ => ?_); (focus (first | decide | (simp; done) | (simp [tcs]; done))); conv => whnf) | (intro _; conv => whnf))
  refine loop_intro (fun q tm H => ∃ (j : Nat) (l' : List UInt8) (acc : List Dcl), n = q + j ∧ acc.length = j ∧ l'.length ≤ 1000000 ∧ rdMany (fun l => rdDecl l N) q l' acc = R ∧
      tm = [(9, .c (.int .i64 (j))), (8, .c (.int .i64 (n))), (5, .own 3), (1, .bd 57 [.ptr 0 0]), (0, .ptr 0 0)] ∧ H = [.box [.c (.str (sB l')), .own 1, .own 2], .row 25 4 48 (tcs N), .row 3 1 8 (rowN Z), .row 39 6 72 (dcs acc)])
    n _ _ ⟨0, m, [], by omega, rfl, by omega, hRR, rfl, rfl⟩ ?_ ?_
  · refine Wk.trans (Wk.niltmp 5 39 6 72 rfl rfl) ?_
    exact Wk.sel [0, 1, 2, 3] (by decide) (by first | decide | (show (0 : Nat) ≤ _; decide) | (show ∀ i, i < 0 → _; decide) | (show (1 : Nat) ≤ _; decide) | (show ∀ i, i < 1 → _; decide) | (show (2 : Nat) ≤ _; decide) | (show ∀ i, i < 2 → _; decide) | (show (3 : Nat) ≤ _; decide) | (show ∀ i, i < 3 → _; decide) | (show (4 : Nat) ≤ _; decide) | (show ∀ i, i < 4 → _; decide) | (show (5 : Nat) ≤ _; decide) | (show ∀ i, i < 5 → _; decide) | (show (6 : Nat) ≤ _; decide) | (show ∀ i, i < 6 → _; decide) | (show (7 : Nat) ≤ _; decide) | (show ∀ i, i < 7 → _; decide)) (by first | decide | (show (0 : Nat) ≤ _; decide) | (show ∀ i, i < 0 → _; decide) | (show (1 : Nat) ≤ _; decide) | (show ∀ i, i < 1 → _; decide) | (show (2 : Nat) ≤ _; decide) | (show ∀ i, i < 2 → _; decide) | (show (3 : Nat) ≤ _; decide) | (show ∀ i, i < 3 → _; decide) | (show (4 : Nat) ≤ _; decide) | (show ∀ i, i < 4 → _; decide) | (show (5 : Nat) ≤ _; decide) | (show ∀ i, i < 5 → _; decide) | (show (6 : Nat) ≤ _; decide) | (show ∀ i, i < 6 → _; decide) | (show (7 : Nat) ≤ _; decide) | (show ∀ i, i < 7 → _; decide)) ⟨rfl, rfl, rfl, rfl, trivial⟩ ⟨rfl, rfl, rfl, rfl, rfl, trivial⟩ rfl
  rintro q tm H ⟨j, l', acc, hj, hacc, hl', hRm, rfl, rfl⟩
  have hla := len_dcs acc
  have hb1 : ((dcs acc).length + 1) * 72 ≤ 140737488355328 := by omega
  have hb2 : (dcs acc).length + 1 ≤ 9223372036854775807 := by omega
  conv => whnf
  refine ⟨fun hc => ?_, fun hc => ?_⟩
  · replace hc : (j : Int) < n := of_decide_eq_true hc
    obtain ⟨q2, rfl⟩ : ∃ q2, q = q2 + 1 := ⟨q - 1, by omega⟩
    rw [rdMany] at hRm
    have ht := cRdDecl l' N Z hl' hN hNl
    conv => whnf
    try (refine draw_intro true (by kernel_rfl) ?_; conv => whnf)
    refine CallPt.use ht [0, 1, 2] ⟨rfl, rfl, rfl, trivial⟩ (by decide) rfl ?_ ?_
    (focus (rintro x _ hx _; (conv => whnf); exact ⟨hx.1.1, by rw [hx.1.2] at hRm; exact hRm.symm⟩))
    rintro _ _ ⟨t, m2, hR2, rfl, rfl⟩ _
    conv => whnf
    rw [hR2] at hRm
    have hlen2 := rdDecl_len hR2
    have hst : dcs (acc ++ [t]) = dcs acc ++ [dc t] := by simp [dcs]
    obtain ⟨s', ⟨k', l2, n', us⟩, i'⟩ := t
    repeat (first | (refine And.intro rfl ?_; conv => whnf) | (refine And.intro (by decide) ?_; conv => whnf) | (refine draw_intro true (by kernel_rfl) ?_; conv => whnf) | (refine And.intro ⟨by omega, by omega⟩ ?_; conv => whnf) | (refine And.intro (by omega) ?_; conv => whnf) | (refine And.intro (fun _ => ⟨by omega, by omega⟩) ?_; conv => whnf) | (refine And.intro (of_decide_eq_true rfl) ?_; conv => whnf) | (refine And.intro (fun _ => ?_) (fun h => absurd h ?_); rotate_left; (focus (first | decide | (simp; done) | (simp [tcs]; done))); conv => whnf) | (refine And.intro (fun h => absurd h ?_) (fun _ => ?_); (focus (first | decide | (simp; done) | (simp [tcs]; done))); conv => whnf) | (intro _; conv => whnf))
    refine ⟨q2, _, _, by omega, ⟨j + 1, m2, acc ++ [⟨s', .mk k' l2 n' us, i'⟩], by omega, by simp [hacc], by omega, hRm, rfl, rfl⟩, Wk.sel [0, 1, 2, 6] (by decide) (by first | decide | (show (0 : Nat) ≤ _; decide) | (show ∀ i, i < 0 → _; decide) | (show (1 : Nat) ≤ _; decide) | (show ∀ i, i < 1 → _; decide) | (show (2 : Nat) ≤ _; decide) | (show ∀ i, i < 2 → _; decide) | (show (3 : Nat) ≤ _; decide) | (show ∀ i, i < 3 → _; decide) | (show (4 : Nat) ≤ _; decide) | (show ∀ i, i < 4 → _; decide) | (show (5 : Nat) ≤ _; decide) | (show ∀ i, i < 5 → _; decide) | (show (6 : Nat) ≤ _; decide) | (show ∀ i, i < 6 → _; decide) | (show (7 : Nat) ≤ _; decide) | (show ∀ i, i < 7 → _; decide)) (by first | decide | (show (0 : Nat) ≤ _; decide) | (show ∀ i, i < 0 → _; decide) | (show (1 : Nat) ≤ _; decide) | (show ∀ i, i < 1 → _; decide) | (show (2 : Nat) ≤ _; decide) | (show ∀ i, i < 2 → _; decide) | (show (3 : Nat) ≤ _; decide) | (show ∀ i, i < 3 → _; decide) | (show (4 : Nat) ≤ _; decide) | (show ∀ i, i < 4 → _; decide) | (show (5 : Nat) ≤ _; decide) | (show ∀ i, i < 5 → _; decide) | (show (6 : Nat) ≤ _; decide) | (show ∀ i, i < 6 → _; decide) | (show (7 : Nat) ≤ _; decide) | (show ∀ i, i < 7 → _; decide)) ⟨rfl, rfl, rfl, ?_, trivial⟩ ⟨rfl, rfl, rfl, rfl, rfl, trivial⟩ rfl⟩
    rw [hst]
    rfl
  · replace hc : ¬ (j : Int) < n := of_decide_eq_false hc
    obtain rfl : q = 0 := by omega
    rw [rdMany] at hRm
    subst hC
    conv => whnf
    repeat (first | (refine And.intro rfl ?_; conv => whnf) | (refine And.intro (by decide) ?_; conv => whnf) | (refine draw_intro true (by kernel_rfl) ?_; conv => whnf) | (refine And.intro ⟨by omega, by omega⟩ ?_; conv => whnf) | (refine And.intro (by omega) ?_; conv => whnf) | (refine And.intro (fun _ => ⟨by omega, by omega⟩) ?_; conv => whnf) | (refine And.intro (of_decide_eq_true rfl) ?_; conv => whnf) | (refine And.intro (fun _ => ?_) (fun h => absurd h ?_); rotate_left; (focus (first | decide | (simp; done) | (simp [tcs]; done))); conv => whnf) | (refine And.intro (fun h => absurd h ?_) (fun _ => ?_); (focus (first | decide | (simp; done) | (simp [tcs]; done))); conv => whnf) | (intro _; conv => whnf))
    exact ⟨acc, l', hRm.symm, rfl, rfl⟩
end Go.Tr
