/- What each function computes, and the plain laws of it. -/
import Derived.Test.YtbdomphfbpapdaaGreatTrXdee01833
set_option linter.unusedVariables false
set_option linter.unusedSimpArgs false
set_option linter.unnecessarySimpa false
set_option autoImplicit false
/- The reference's renumbered and uses. -/
namespace Go.Tr
open Go.Proofs
/-- A list's number at a place. -/
def getL (L : List Int) (x : Int) : Int := (L[x.toNat]?).getD 0
theorem getL_at {L : List Int} {x : Int} (h : 0 ≤ x ∧ x < L.length) : (rowI L)[x.toNat]? = some [.int .i64 (getL L x)] := by
  refine rowI_at ?_
  unfold getL
  rw [List.getElem?_eq_getElem (by omega)]
  rfl
theorem cnL_mem : ∀ {ts : List Term} {u : Term}, u ∈ ts → ∀ {x : Int}, x ∈ cnT u → x ∈ cnL ts
  | t :: r, u, hu, x, hx => by
    rw [cnL]
    rcases List.mem_cons.1 hu with rfl | hu
    · exact List.mem_append.2 (.inl hx)
    · exact List.mem_append.2 (.inr (cnL_mem hu hx))
theorem cRRenum (L : List Int) (t : Term) : (∀ x ∈ cnT t, 0 ≤ x ∧ x < L.length) → CallSt Tryz.prog 30 [tv t, .c (.sl 1 8 (rowI L))] [] (fun r H' => r = tv (rnT (getL L) t) ∧ H' = []) := by
  induction t using Term.ind with
  | _ t ih =>
  intro hcn
  obtain ⟨k, l, n, ts⟩ := t
  replace ih : ∀ u, u ∈ ts → _ := ih
  have hcn0 := hcn
  replace hcn : ∀ x ∈ cnL ts, 0 ≤ x ∧ x < (L.length : Int) := fun x hx => hcn0 x (by rw [cnT]; exact List.mem_append.2 (.inr hx))
  rw [rnT, tv_mk, tv_mk]
  by_cases hg : k = 4 ∧ l = 2
  · obtain ⟨rfl, rfl⟩ := hg
    have hn := getL_at (hcn0 n (by rw [cnT]; simp))
    simp only [decide_true, Bool.and_self]
    refine call_pure (E := env 0) (fn := Tryz.f30) (c := bodyOf Tryz.f30) (env_ok 0) mixed (by kernel_rfl) (by kernel_rfl) (by kernel_rfl) (by kernel_rfl) (by kernel_rfl) (by kernel_rfl) rfl ?_
    conv => whnf
    repeat (first | (refine And.intro rfl ?_; conv => whnf) | (refine And.intro (by decide) ?_; conv => whnf) | (refine draw_intro true (by kernel_rfl) ?_; conv => whnf) | (refine And.intro ⟨by omega, by omega⟩ ?_; conv => whnf) | (refine And.intro (by omega) ?_; conv => whnf) | (refine And.intro (fun _ => ⟨by omega, by omega⟩) ?_; conv => whnf) | (refine And.intro (fun _ => ?_) (fun h => absurd h ?_); rotate_left; (focus (first | decide | (simp; done) | (simp [tcs]; done))); conv => whnf) | (refine And.intro (fun h => absurd h ?_) (fun _ => ?_); (focus (first | decide | (simp; done) | (simp [tcs]; done))); conv => whnf) | (intro _; conv => whnf))
    refine ⟨_, ⟨(hcn0 n (by rw [cnT]; simp)).1, hn⟩, ?_⟩
    conv => whnf
    refine ⟨show 1 ≤ 1 by decide, ?_⟩
    conv => whnf
    refine loop_intro (fun m tm H => ∃ (j : Nat) (us : List Term), ts.length = m + j ∧ us.length = j ∧ us ++ rnL (getL L) (ts.drop j) = rnL (getL L) ts ∧
        tm = [(6, .c (.int .i64 (j))), (2, .ptr 0 0), (4, .ptr 1 0), (5, .ptr 2 0), (1, .c (.sl 1 8 (rowI L)))] ∧
        H = [.box [.c (.int .i64 (4)), .c (.int .i64 (2)), .c (.int .i64 (n)), .c (.sl 4 48 (tcs ts))], .box [.c (.int .i64 (0)), .c (.int .i64 (0)), .c (.int .i64 (0)), .nil], .box [.c (.int .i64 (4)), .c (.int .i64 (2)), .c (.int .i64 (getL L n)), .own 3], .row 37 4 48 (tcs us)])
      ts.length _ _ ⟨0, [], by omega, rfl, rfl, rfl, rfl⟩ ?_ ?_
    · refine Wk.trans (H1 := [.box [.c (.int .i64 (4)), .c (.int .i64 (2)), .c (.int .i64 (n)), .c (.sl 4 48 (tcs ts))], .box [.c (.int .i64 (0)), .c (.int .i64 (0)), .c (.int .i64 (0)), .nil], .box [.c (.int .i64 (4)), .c (.int .i64 (2)), .c (.int .i64 (getL L n)), .nil]]) ?_ (Wk.nilrow' 2 3 37 4 48 rfl rfl rfl rfl)
      exact Wk.sel [0, 1, 2] (by decide) (by decide) (by decide) ⟨rfl, rfl, rfl, trivial⟩ ⟨rfl, rfl, rfl, rfl, rfl, trivial⟩ rfl
    rintro m tm H ⟨j, us, hj, hus, hR, rfl, rfl⟩
    conv => whnf
    intro hlen
    replace hlen : (tcs ts).length * 48 ≤ 140737488355328 := hlen
    rw [len_tcs] at hlen
    conv => whnf
    refine ⟨fun hc => ?_, fun hc => ?_⟩
    · replace hc : (j : Int) < (tcs ts).length := of_decide_eq_true hc
      rw [len_tcs] at hc
      have hlt : j < ts.length := by omega
      obtain ⟨u, hu⟩ : ∃ u, ts[j]? = some u := ⟨ts[j], List.getElem?_eq_getElem hlt⟩
      have hm := List.mem_of_getElem? hu
      have huc := tcs_at ts j u hu
      have hcc := ih u hm (fun x hx => hcn x (cnL_mem hm hx))
      rw [drop_at hu, rnL] at hR
      generalize hv : rnT (getL L) u = v at *
      obtain ⟨k', l', n', us'⟩ := u
      obtain ⟨k3, l3, n3, us3⟩ := v
      rw [tv_mk] at hcc
      rw [tv_mk] at hcc
      have hl1 : (tcs us).length = j := by rw [len_tcs, hus]
      have hl2 : ((tcs us).length + 1) * 48 ≤ 140737488355328 := by omega
      have hl3 : (tcs us).length + 1 ≤ 9223372036854775807 := by omega
      conv => whnf
      refine draw_intro true (by kernel_rfl) ?_
      conv => whnf
      refine ⟨_, ⟨by omega, by simpa using huc⟩, ?_⟩
      conv => whnf
      refine ⟨Nat.le_refl 4, ?_⟩
      conv => whnf
      try (refine draw_intro true (by kernel_rfl) ?_; conv => whnf)
      refine CallSt.use hcc [] trivial (by decide) rfl ?_
      rintro _ _ ⟨rfl, rfl⟩ _
      conv => whnf
      refine ⟨by decide, ?_⟩
      conv => whnf
      refine ⟨by decide, ?_⟩
      conv => whnf
      refine ⟨hl2, hl3, ?_⟩
      conv => whnf
      refine ⟨⟨by omega, by omega⟩, ?_⟩
      conv => whnf
      refine ⟨m - 1, _, _, by omega, ⟨j + 1, us ++ [.mk k3 l3 n3 us3], by omega, by simp [hus], ?_, rfl, rfl⟩, Wk.sel [0, 1, 2, 5] (by decide) (by decide) (by decide) ⟨rfl, rfl, rfl, ?_, trivial⟩ ⟨rfl, rfl, rfl, rfl, rfl, trivial⟩ rfl⟩
      · rw [← hR, List.append_assoc]
        rfl
      · rw [← tcs_snoc]
        rfl
    · replace hc : ¬ (j : Int) < (tcs ts).length := of_decide_eq_false hc
      rw [len_tcs] at hc
      rw [List.drop_eq_nil_of_le (by omega), rnL, List.append_nil] at hR
      rw [← hR]
      conv => whnf
      repeat (first | (refine And.intro rfl ?_; conv => whnf) | (refine And.intro (by decide) ?_; conv => whnf) | (refine draw_intro true (by kernel_rfl) ?_; conv => whnf) | (refine And.intro ⟨by omega, by omega⟩ ?_; conv => whnf) | (refine And.intro (by omega) ?_; conv => whnf) | (refine And.intro (fun _ => ⟨by omega, by omega⟩) ?_; conv => whnf) | (refine And.intro (fun _ => ?_) (fun h => absurd h ?_); rotate_left; (focus (first | decide | (simp; done) | (simp [tcs]; done))); conv => whnf) | (refine And.intro (fun h => absurd h ?_) (fun _ => ?_); (focus (first | decide | (simp; done) | (simp [tcs]; done))); conv => whnf) | (intro _; conv => whnf))
      all_goals (first | rfl | exact ⟨rfl, rfl⟩ | exact ⟨rfl, rfl, rfl⟩)
  · have hb : (decide (k = 4) && decide (l = 2)) = false := by
      rw [Bool.and_eq_false_iff, decide_eq_false_iff_not, decide_eq_false_iff_not]
      omega
    rw [hb]
    simp only
    refine call_pure (E := env 0) (fn := Tryz.f30) (c := bodyOf Tryz.f30) (env_ok 0) mixed (by kernel_rfl) (by kernel_rfl) (by kernel_rfl) (by kernel_rfl) (by kernel_rfl) (by kernel_rfl) rfl ?_
    conv => whnf
    refine ⟨fun hq => ?_, fun hq => ?_⟩
    · exact absurd (hb.symm.trans hq) (by decide)
    conv => whnf
    refine loop_intro (fun m tm H => ∃ (j : Nat) (us : List Term), ts.length = m + j ∧ us.length = j ∧ us ++ rnL (getL L) (ts.drop j) = rnL (getL L) ts ∧
        tm = [(6, .c (.int .i64 (j))), (2, .ptr 0 0), (4, .ptr 1 0), (5, .ptr 2 0), (1, .c (.sl 1 8 (rowI L)))] ∧
        H = [.box [.c (.int .i64 (k)), .c (.int .i64 (l)), .c (.int .i64 (n)), .c (.sl 4 48 (tcs ts))], .box [.c (.int .i64 (0)), .c (.int .i64 (0)), .c (.int .i64 (0)), .nil], .box [.c (.int .i64 (k)), .c (.int .i64 (l)), .c (.int .i64 (n)), .own 3], .row 37 4 48 (tcs us)])
      ts.length _ _ ⟨0, [], by omega, rfl, rfl, rfl, rfl⟩ ?_ ?_
    · refine Wk.trans (H1 := [.box [.c (.int .i64 (k)), .c (.int .i64 (l)), .c (.int .i64 (n)), .c (.sl 4 48 (tcs ts))], .box [.c (.int .i64 (0)), .c (.int .i64 (0)), .c (.int .i64 (0)), .nil], .box [.c (.int .i64 (k)), .c (.int .i64 (l)), .c (.int .i64 (n)), .nil]]) ?_ (Wk.nilrow' 2 3 37 4 48 rfl rfl rfl rfl)
      exact Wk.sel [0, 1, 2] (by decide) (by decide) (by decide) ⟨rfl, rfl, rfl, trivial⟩ ⟨rfl, rfl, rfl, rfl, rfl, trivial⟩ rfl
    rintro m tm H ⟨j, us, hj, hus, hR, rfl, rfl⟩
    conv => whnf
    intro hlen
    replace hlen : (tcs ts).length * 48 ≤ 140737488355328 := hlen
    rw [len_tcs] at hlen
    conv => whnf
    refine ⟨fun hc => ?_, fun hc => ?_⟩
    · replace hc : (j : Int) < (tcs ts).length := of_decide_eq_true hc
      rw [len_tcs] at hc
      have hlt : j < ts.length := by omega
      obtain ⟨u, hu⟩ : ∃ u, ts[j]? = some u := ⟨ts[j], List.getElem?_eq_getElem hlt⟩
      have hm := List.mem_of_getElem? hu
      have huc := tcs_at ts j u hu
      have hcc := ih u hm (fun x hx => hcn x (cnL_mem hm hx))
      rw [drop_at hu, rnL] at hR
      generalize hv : rnT (getL L) u = v at *
      obtain ⟨k', l', n', us'⟩ := u
      obtain ⟨k3, l3, n3, us3⟩ := v
      rw [tv_mk] at hcc
      rw [tv_mk] at hcc
      have hl1 : (tcs us).length = j := by rw [len_tcs, hus]
      have hl2 : ((tcs us).length + 1) * 48 ≤ 140737488355328 := by omega
      have hl3 : (tcs us).length + 1 ≤ 9223372036854775807 := by omega
      conv => whnf
      refine draw_intro true (by kernel_rfl) ?_
      conv => whnf
      refine ⟨_, ⟨by omega, by simpa using huc⟩, ?_⟩
      conv => whnf
      refine ⟨Nat.le_refl 4, ?_⟩
      conv => whnf
      try (refine draw_intro true (by kernel_rfl) ?_; conv => whnf)
      refine CallSt.use hcc [] trivial (by decide) rfl ?_
      rintro _ _ ⟨rfl, rfl⟩ _
      conv => whnf
      refine ⟨by decide, ?_⟩
      conv => whnf
      refine ⟨by decide, ?_⟩
      conv => whnf
      refine ⟨hl2, hl3, ?_⟩
      conv => whnf
      refine ⟨⟨by omega, by omega⟩, ?_⟩
      conv => whnf
      refine ⟨m - 1, _, _, by omega, ⟨j + 1, us ++ [.mk k3 l3 n3 us3], by omega, by simp [hus], ?_, rfl, rfl⟩, Wk.sel [0, 1, 2, 5] (by decide) (by decide) (by decide) ⟨rfl, rfl, rfl, ?_, trivial⟩ ⟨rfl, rfl, rfl, rfl, rfl, trivial⟩ rfl⟩
      · rw [← hR, List.append_assoc]
        rfl
      · rw [← tcs_snoc]
        rfl
    · replace hc : ¬ (j : Int) < (tcs ts).length := of_decide_eq_false hc
      rw [len_tcs] at hc
      rw [List.drop_eq_nil_of_le (by omega), rnL, List.append_nil] at hR
      rw [← hR]
      conv => whnf
      repeat (first | (refine And.intro rfl ?_; conv => whnf) | (refine And.intro (by decide) ?_; conv => whnf) | (refine draw_intro true (by kernel_rfl) ?_; conv => whnf) | (refine And.intro ⟨by omega, by omega⟩ ?_; conv => whnf) | (refine And.intro (by omega) ?_; conv => whnf) | (refine And.intro (fun _ => ⟨by omega, by omega⟩) ?_; conv => whnf) | (refine And.intro (fun _ => ?_) (fun h => absurd h ?_); rotate_left; (focus (first | decide | (simp; done) | (simp [tcs]; done))); conv => whnf) | (refine And.intro (fun h => absurd h ?_) (fun _ => ?_); (focus (first | decide | (simp; done) | (simp [tcs]; done))); conv => whnf) | (intro _; conv => whnf))
      all_goals (first | rfl | exact ⟨rfl, rfl⟩ | exact ⟨rfl, rfl, rfl⟩)
theorem uses_con (n : Int) {t : Term} (hp : prop t = true) : usesT n t = decide (n ∈ conF 2 t) := by
  rw [Bool.eq_iff_iff, decide_eq_true_eq]
  unfold usesT
  rw [Bool.not_eq_true', ← Bool.not_eq_true, ← con_all 2 _ hp]
  constructor
  · intro h
    refine Decidable.byContradiction fun hn => h fun x hx => ?_
    simp only [Bool.not_eq_true', decide_eq_false_iff_not]
    exact fun e => hn (e ▸ hx)
  · intro h h2
    have := h2 n h
    simp at this
theorem cRUses (sig : List Dcl) (n k : Int) (h0 : 0 ≤ n) (d : Dcl) (hd : sig[n.toNat]? = some d) (hp : prop d.c = true) : CallSt Tryz.prog 29 [.c (.sl 6 72 (dcs sig)), .c (.int .i64 (n)), .c (.int .i64 (k))] [] (fun r H' => r = .c (.bool (usesT k d.c)) ∧ H' = []) := by
  have hcs := cRCons hp
  have hdc := dcs_at hd
  have hcl := conF_len 2 d.c
  rw [uses_con k hp]
  have hrl := len_rowI (conF 2 d.c)
  clear hp
  generalize conF 2 d.c = C at *
  obtain ⟨s, ⟨k2, l, x, ts⟩, i⟩ := d
  rw [tv_mk] at hcs
  refine call_pure (E := env 0) (fn := Tryz.f29) (c := bodyOf Tryz.f29) (env_ok 0) mixed (by kernel_rfl) (by kernel_rfl) (by kernel_rfl) (by kernel_rfl) (by kernel_rfl) (by kernel_rfl) rfl ?_
  conv => whnf
  refine ⟨_, ⟨h0, hdc⟩, ?_⟩
  conv => whnf
  refine ⟨show 4 ≤ 5 by decide, ?_⟩
  conv => whnf
  try (refine draw_intro true (by kernel_rfl) ?_; conv => whnf)
  refine CallSt.use hcs [] trivial (by decide) rfl ?_
  rintro _ _ ⟨rfl, rfl⟩ _
  conv => whnf
  repeat (first | (refine And.intro rfl ?_; conv => whnf) | (refine And.intro (by decide) ?_; conv => whnf) | (refine draw_intro true (by kernel_rfl) ?_; conv => whnf) | (refine And.intro ⟨by omega, by omega⟩ ?_; conv => whnf) | (refine And.intro (by omega) ?_; conv => whnf) | (refine And.intro (fun _ => ⟨by omega, by omega⟩) ?_; conv => whnf) | (refine And.intro (fun _ => ?_) (fun h => absurd h ?_); rotate_left; (focus (first | decide | (simp; done) | (simp [tcs]; done))); conv => whnf) | (refine And.intro (fun h => absurd h ?_) (fun _ => ?_); (focus (first | decide | (simp; done) | (simp [tcs]; done))); conv => whnf) | (intro _; conv => whnf))
  refine loop_intro (fun m tm H => ∃ j : Nat, C.length = m + j ∧ (∀ (q : Nat) y, q < j → C[q]? = some y → y ≠ k) ∧
    tm = [(16, .c (.int .i64 (j))), (15, .c (.int .i64 ((rowI C).length))), (14, .c (.sl 1 8 (rowI C))), (2, .c (.int .i64 (k)))] ∧ H = [])
    C.length _ _ ⟨0, by omega, fun q y hq => absurd hq (by omega), rfl, rfl⟩ (Wk.sel [] (by decide) (by decide) (by decide) trivial ⟨rfl, rfl, rfl, rfl, trivial⟩ rfl) ?_
  rintro m tm H ⟨j, hj, hall, rfl, rfl⟩
  conv => whnf
  refine ⟨fun hlt => ?_, fun hlt => ?_⟩
  · replace hlt : (j : Int) < (rowI C).length := of_decide_eq_true hlt
    obtain ⟨y, hy⟩ : ∃ y, C[j]? = some y := ⟨C[j]'(by omega), List.getElem?_eq_getElem (by omega)⟩
    have hyr := rowI_at hy
    conv => whnf
    refine ⟨_, ⟨by omega, by simpa using hyr⟩, ?_⟩
    conv => whnf
    refine ⟨Nat.le_refl 1, ?_⟩
    conv => whnf
    refine ⟨fun he => ?_, fun he => ?_⟩
    · rw [decide_eq_true (show k ∈ C by rw [← (of_decide_eq_true he : y = k)]; exact List.mem_of_getElem? hy)]
      conv => whnf
      repeat (first | (refine And.intro rfl ?_; conv => whnf) | (refine And.intro (by decide) ?_; conv => whnf) | (refine draw_intro true (by kernel_rfl) ?_; conv => whnf) | (refine And.intro ⟨by omega, by omega⟩ ?_; conv => whnf) | (refine And.intro (by omega) ?_; conv => whnf) | (refine And.intro (fun _ => ⟨by omega, by omega⟩) ?_; conv => whnf) | (refine And.intro (fun _ => ?_) (fun h => absurd h ?_); rotate_left; (focus (first | decide | (simp; done) | (simp [tcs]; done))); conv => whnf) | (refine And.intro (fun h => absurd h ?_) (fun _ => ?_); (focus (first | decide | (simp; done) | (simp [tcs]; done))); conv => whnf) | (intro _; conv => whnf))
      all_goals (first | rfl | exact ⟨rfl, rfl⟩ | exact ⟨rfl, rfl, rfl⟩)
    · conv => whnf
      refine ⟨⟨by omega, by omega⟩, ?_⟩
      conv => whnf
      refine ⟨m - 1, _, _, by omega, ⟨j + 1, by omega, fun q z hq hz => ?_, rfl, rfl⟩, Wk.sel [] (by decide) (by decide) (by decide) trivial ⟨rfl, rfl, rfl, rfl, trivial⟩ rfl⟩
      by_cases hqj : q < j
      · exact hall q z hqj hz
      · obtain rfl : q = j := by omega
        rw [hy] at hz
        injection hz with hz
        subst hz
        exact of_decide_eq_false he
  · replace hlt : ¬ (j : Int) < (rowI C).length := of_decide_eq_false hlt
    rw [decide_eq_false (show k ∉ C from fun h => by
      obtain ⟨q, hq⟩ := List.mem_iff_getElem?.1 h
      exact hall q k (by have := (List.getElem?_eq_some_iff.1 hq).1; omega) hq rfl)]
    conv => whnf
    repeat (first | (refine And.intro rfl ?_; conv => whnf) | (refine And.intro (by decide) ?_; conv => whnf) | (refine draw_intro true (by kernel_rfl) ?_; conv => whnf) | (refine And.intro ⟨by omega, by omega⟩ ?_; conv => whnf) | (refine And.intro (by omega) ?_; conv => whnf) | (refine And.intro (fun _ => ⟨by omega, by omega⟩) ?_; conv => whnf) | (refine And.intro (fun _ => ?_) (fun h => absurd h ?_); rotate_left; (focus (first | decide | (simp; done) | (simp [tcs]; done))); conv => whnf) | (refine And.intro (fun h => absurd h ?_) (fun _ => ?_); (focus (first | decide | (simp; done) | (simp [tcs]; done))); conv => whnf) | (intro _; conv => whnf))
    all_goals (first | rfl | exact ⟨rfl, rfl⟩ | exact ⟨rfl, rfl, rfl⟩)
end Go.Tr
/- The reference's Same and Add; the law's helpers; awake. -/
namespace Go.Tr
open Go.Proofs
theorem cRSame (l : List Dcl) : CallSt Tryz.prog 19 [.c (.sl 6 72 (dcs l)), .c (.sl 6 72 (dcs l))] [] (fun r H' => r = .c (.bool true) ∧ H' = []) := by
  have hbl := len_dcs l
  refine call_pure (E := env 0) (fn := Tryz.f19) (c := bodyOf Tryz.f19) (env_ok 0) mixed (by kernel_rfl) (by kernel_rfl) (by kernel_rfl) (by kernel_rfl) (by kernel_rfl) (by kernel_rfl) rfl ?_
  conv => whnf
  intro hlen
  replace hlen : (dcs l).length * 72 ≤ 140737488355328 := hlen
  conv => whnf
  intro _
  conv => whnf
  (refine ⟨fun h => absurd h (by simp), fun _ => ?_⟩; conv => whnf)
  repeat (first | (refine And.intro rfl ?_; conv => whnf) | (refine And.intro (by decide) ?_; conv => whnf) | (refine draw_intro true (by kernel_rfl) ?_; conv => whnf) | (refine And.intro ⟨by omega, by omega⟩ ?_; conv => whnf) | (refine And.intro (by omega) ?_; conv => whnf) | (refine And.intro (fun _ => ⟨by omega, by omega⟩) ?_; conv => whnf) | (refine And.intro (fun _ => ?_) (fun h => absurd h ?_); rotate_left; (focus (first | decide | (simp; done) | (simp [tcs]; done))); conv => whnf) | (refine And.intro (fun h => absurd h ?_) (fun _ => ?_); (focus (first | decide | (simp; done) | (simp [tcs]; done))); conv => whnf) | (intro _; conv => whnf))
  refine loop_intro (fun m tm H => ∃ j : Nat, l.length = m + j ∧
    tm = [(14, .c (.int .i64 (j))), (13, .c (.int .i64 ((dcs l).length))), (12, .c (.sl 6 72 (dcs l))), (1, .c (.sl 6 72 (dcs l)))] ∧ H = [])
    l.length _ _ ⟨0, by omega, rfl, rfl⟩ (Wk.sel [] (by decide) (by decide) (by decide) trivial ⟨rfl, rfl, rfl, rfl, trivial⟩ rfl) ?_
  rintro m tm H ⟨j, hj, rfl, rfl⟩
  conv => whnf
  refine ⟨fun hlt => ?_, fun hlt => ?_⟩
  · replace hlt : (j : Int) < (dcs l).length := of_decide_eq_true hlt
    obtain ⟨e, hee⟩ : ∃ e, l[j]? = some e := ⟨l[j]'(by omega), List.getElem?_eq_getElem (by omega)⟩
    have hec := dcs_at hee
    have hsm := c23 e.c e.c
    rw [sameT_self] at hsm
    obtain ⟨s', ⟨k', l', n', us⟩, i'⟩ := e
    rw [tv_mk] at hsm
    conv => whnf
    refine ⟨_, ⟨by omega, hec⟩, ?_⟩
    conv => whnf
    refine ⟨show 6 ≤ 6 by decide, ?_⟩
    conv => whnf
    refine draw_intro true (by kernel_rfl) ?_
    conv => whnf
    refine ⟨_, ⟨by omega, hec⟩, ?_⟩
    conv => whnf
    refine ⟨show 1 ≤ 6 by decide, ?_⟩
    conv => whnf
    refine ⟨_, fun _ => ⟨by omega, hec⟩, ?_⟩
    conv => whnf
    refine ⟨show 1 ≤ 1 by decide, ?_⟩
    conv => whnf
    refine ⟨_, fun _ => ⟨by omega, hec⟩, ?_⟩
    conv => whnf
    refine ⟨show 4 ≤ 5 by decide, ?_⟩
    conv => whnf
    (refine ⟨fun _ => ?_, fun h => absurd h (by simp)⟩; conv => whnf)
    try (refine draw_intro true (by kernel_rfl) ?_; conv => whnf)
    refine CallSt.use hsm [] trivial (by decide) rfl ?_
    rintro _ _ ⟨rfl, rfl⟩ _
    conv => whnf
    (refine ⟨fun h => absurd h (by simp), fun _ => ?_⟩; conv => whnf)
    refine ⟨⟨by omega, by omega⟩, ?_⟩
    conv => whnf
    exact ⟨m - 1, _, _, by omega, ⟨j + 1, by omega, rfl, rfl⟩, Wk.sel [] (by decide) (by decide) (by decide) trivial ⟨rfl, rfl, rfl, rfl, trivial⟩ rfl⟩
  · replace hlt : ¬ (j : Int) < (dcs l).length := of_decide_eq_false hlt
    conv => whnf
    repeat (first | (refine And.intro rfl ?_; conv => whnf) | (refine And.intro (by decide) ?_; conv => whnf) | (refine draw_intro true (by kernel_rfl) ?_; conv => whnf) | (refine And.intro ⟨by omega, by omega⟩ ?_; conv => whnf) | (refine And.intro (by omega) ?_; conv => whnf) | (refine And.intro (fun _ => ⟨by omega, by omega⟩) ?_; conv => whnf) | (refine And.intro (fun _ => ?_) (fun h => absurd h ?_); rotate_left; (focus (first | decide | (simp; done) | (simp [tcs]; done))); conv => whnf) | (refine And.intro (fun h => absurd h ?_) (fun _ => ?_); (focus (first | decide | (simp; done) | (simp [tcs]; done))); conv => whnf) | (intro _; conv => whnf))
    all_goals (first | rfl | exact ⟨rfl, rfl⟩ | exact ⟨rfl, rfl, rfl⟩)
def con0 (n : Int) (ts : List Term) : Term := .mk 4 2 n ts
theorem cConL (n : Int) (ts : List Term) : CallSt Tryz.prog 24 [.c (.int .i64 (n)), .c (.sl 4 48 (tcs ts))] [] (fun r H' => r = tv (con0 n ts) ∧ H' = []) := by
  refine call_pure (E := env 0) (fn := Tryz.f24) (c := bodyOf Tryz.f24) (env_ok 0) mixed (by kernel_rfl) (by kernel_rfl) (by kernel_rfl) (by kernel_rfl) (by kernel_rfl) (by kernel_rfl) rfl ?_
  conv => whnf
  repeat (first | (refine And.intro rfl ?_; conv => whnf) | (refine And.intro (by decide) ?_; conv => whnf) | (refine draw_intro true (by kernel_rfl) ?_; conv => whnf) | (refine And.intro ⟨by omega, by omega⟩ ?_; conv => whnf) | (refine And.intro (by omega) ?_; conv => whnf) | (refine And.intro (fun _ => ⟨by omega, by omega⟩) ?_; conv => whnf) | (refine And.intro (fun _ => ?_) (fun h => absurd h ?_); rotate_left; (focus (first | decide | (simp; done) | (simp [tcs]; done))); conv => whnf) | (refine And.intro (fun h => absurd h ?_) (fun _ => ?_); (focus (first | decide | (simp; done) | (simp [tcs]; done))); conv => whnf) | (intro _; conv => whnf))
  all_goals (first | rfl | exact ⟨rfl, rfl⟩ | exact ⟨rfl, rfl, rfl⟩)
theorem cArrowL (a b : Term) : CallSt Tryz.prog 45 [tv a, tv b] [] (fun r H' => r = tv (.mk 2 0 0 [a, b]) ∧ H' = []) := by
  obtain ⟨k, l, n, ts⟩ := a
  obtain ⟨k2, l2, n2, us⟩ := b
  rw [tv_mk, tv_mk]
  refine call_pure (E := env 0) (fn := Tryz.f45) (c := bodyOf Tryz.f45) (env_ok 0) mixed (by kernel_rfl) (by kernel_rfl) (by kernel_rfl) (by kernel_rfl) (by kernel_rfl) (by kernel_rfl) rfl ?_
  conv => whnf
  repeat (first | (refine And.intro rfl ?_; conv => whnf) | (refine And.intro (by decide) ?_; conv => whnf) | (refine draw_intro true (by kernel_rfl) ?_; conv => whnf) | (refine And.intro ⟨by omega, by omega⟩ ?_; conv => whnf) | (refine And.intro (by omega) ?_; conv => whnf) | (refine And.intro (fun _ => ⟨by omega, by omega⟩) ?_; conv => whnf) | (refine And.intro (fun _ => ?_) (fun h => absurd h ?_); rotate_left; (focus (first | decide | (simp; done) | (simp [tcs]; done))); conv => whnf) | (refine And.intro (fun h => absurd h ?_) (fun _ => ?_); (focus (first | decide | (simp; done) | (simp [tcs]; done))); conv => whnf) | (intro _; conv => whnf))
  all_goals (first | rfl | exact ⟨rfl, rfl⟩ | exact ⟨rfl, rfl, rfl⟩)
def sNat : ByteArray := ⟨#[110, 97, 116]⟩
def sZ : ByteArray := ⟨#[122]⟩
def sS : ByteArray := ⟨#[115]⟩
def natS : List Dcl := [⟨sNat, .mk 1 0 0 [], 0⟩, ⟨sZ, con0 0 [], 0⟩, ⟨sS, .mk 2 0 0 [con0 0 [], con0 0 []], 0⟩]
theorem cNatL : CallSt Tryz.prog 21 [] [] (fun r H' => r = .c (.sl 6 72 (dcs natS)) ∧ H' = []) := by
  have h1 := cConL 0 []
  have h2 := cArrowL (con0 0 []) (con0 0 [])
  refine call_pure (E := env 0) (fn := Tryz.f21) (c := bodyOf Tryz.f21) (env_ok 0) mixed (by kernel_rfl) (by kernel_rfl) (by kernel_rfl) (by kernel_rfl) (by kernel_rfl) (by kernel_rfl) rfl ?_
  conv => whnf
  try (refine draw_intro true (by kernel_rfl) ?_; conv => whnf)
  refine CallSt.use h1 [] trivial (by decide) rfl ?_
  rintro _ _ ⟨rfl, rfl⟩ _
  conv => whnf
  try (refine draw_intro true (by kernel_rfl) ?_; conv => whnf)
  refine CallSt.use h1 [] trivial (by decide) rfl ?_
  rintro _ _ ⟨rfl, rfl⟩ _
  conv => whnf
  try (refine draw_intro true (by kernel_rfl) ?_; conv => whnf)
  refine CallSt.use h1 [] trivial (by decide) rfl ?_
  rintro _ _ ⟨rfl, rfl⟩ _
  conv => whnf
  try (refine draw_intro true (by kernel_rfl) ?_; conv => whnf)
  refine CallSt.use h2 [] trivial (by decide) rfl ?_
  rintro _ _ ⟨rfl, rfl⟩ _
  conv => whnf
  repeat (first | (refine And.intro rfl ?_; conv => whnf) | (refine And.intro (by decide) ?_; conv => whnf) | (refine draw_intro true (by kernel_rfl) ?_; conv => whnf) | (refine And.intro ⟨by omega, by omega⟩ ?_; conv => whnf) | (refine And.intro (by omega) ?_; conv => whnf) | (refine And.intro (fun _ => ⟨by omega, by omega⟩) ?_; conv => whnf) | (refine And.intro (fun _ => ?_) (fun h => absurd h ?_); rotate_left; (focus (first | decide | (simp; done) | (simp [tcs]; done))); conv => whnf) | (refine And.intro (fun h => absurd h ?_) (fun _ => ?_); (focus (first | decide | (simp; done) | (simp [tcs]; done))); conv => whnf) | (intro _; conv => whnf))
  all_goals (first | rfl | exact ⟨rfl, rfl⟩ | exact ⟨rfl, rfl, rfl⟩)
theorem cGivesL (l : List Dcl) (e : Int) : CallSt Tryz.prog 8 [.c (.sl 6 72 (dcs l)), .c (.int .i64 (e)), .c (.bool true), .c (.sl 6 72 (dcs l)), .c (.int .i64 (e))] [] (fun r H' => r = .c (.bool true) ∧ H' = []) := by
  have hs := cRSame l
  refine call_pure (E := env 0) (fn := Tryz.f8) (c := bodyOf Tryz.f8) (env_ok 0) mixed (by kernel_rfl) (by kernel_rfl) (by kernel_rfl) (by kernel_rfl) (by kernel_rfl) (by kernel_rfl) rfl ?_
  conv => whnf
  repeat (first | (refine And.intro rfl ?_; conv => whnf) | (refine And.intro (by decide) ?_; conv => whnf) | (refine draw_intro true (by kernel_rfl) ?_; conv => whnf) | (refine And.intro ⟨by omega, by omega⟩ ?_; conv => whnf) | (refine And.intro (by omega) ?_; conv => whnf) | (refine And.intro (fun _ => ⟨by omega, by omega⟩) ?_; conv => whnf) | (refine And.intro (fun _ => ?_) (fun h => absurd h ?_); rotate_left; (focus (first | decide | (simp; done) | (simp [tcs]; done))); conv => whnf) | (refine And.intro (fun h => absurd h ?_) (fun _ => ?_); (focus (first | decide | (simp; done) | (simp [tcs]; done))); conv => whnf) | (intro _; conv => whnf))
  try (refine draw_intro true (by kernel_rfl) ?_; conv => whnf)
  refine CallSt.use hs [] trivial (by decide) rfl ?_
  rintro _ _ ⟨rfl, rfl⟩ _
  conv => whnf
  repeat (first | (refine And.intro rfl ?_; conv => whnf) | (refine And.intro (by decide) ?_; conv => whnf) | (refine draw_intro true (by kernel_rfl) ?_; conv => whnf) | (refine And.intro ⟨by omega, by omega⟩ ?_; conv => whnf) | (refine And.intro (by omega) ?_; conv => whnf) | (refine And.intro (fun _ => ⟨by omega, by omega⟩) ?_; conv => whnf) | (refine And.intro (fun _ => ?_) (fun h => absurd h ?_); rotate_left; (focus (first | decide | (simp; done) | (simp [tcs]; done))); conv => whnf) | (refine And.intro (fun h => absurd h ?_) (fun _ => ?_); (focus (first | decide | (simp; done) | (simp [tcs]; done))); conv => whnf) | (intro _; conv => whnf))
  exact ⟨congrArg (fun z => AV.c (.bool z)) (by simp), rfl⟩
theorem cGivesN (m : List Dcl) (f : Int) : CallSt Tryz.prog 8 [.c (.sl 6 72 (dcs [])), .c (.int .i64 (2)), .c (.bool false), .c (.sl 6 72 (dcs m)), .c (.int .i64 (f))] [] (fun r H' => r = .c (.bool true) ∧ H' = []) := by
  refine call_pure (E := env 0) (fn := Tryz.f8) (c := bodyOf Tryz.f8) (env_ok 0) mixed (by kernel_rfl) (by kernel_rfl) (by kernel_rfl) (by kernel_rfl) (by kernel_rfl) (by kernel_rfl) rfl ?_
  conv => whnf
  repeat (first | (refine And.intro rfl ?_; conv => whnf) | (refine And.intro (by decide) ?_; conv => whnf) | (refine draw_intro true (by kernel_rfl) ?_; conv => whnf) | (refine And.intro ⟨by omega, by omega⟩ ?_; conv => whnf) | (refine And.intro (by omega) ?_; conv => whnf) | (refine And.intro (fun _ => ⟨by omega, by omega⟩) ?_; conv => whnf) | (refine And.intro (fun _ => ?_) (fun h => absurd h ?_); rotate_left; (focus (first | decide | (simp; done) | (simp [tcs]; done))); conv => whnf) | (refine And.intro (fun h => absurd h ?_) (fun _ => ?_); (focus (first | decide | (simp; done) | (simp [tcs]; done))); conv => whnf) | (intro _; conv => whnf))
  all_goals (first | rfl | exact ⟨rfl, rfl⟩ | exact ⟨rfl, rfl, rfl⟩)
end Go.Tr
/- awake. -/
namespace Go.Tr
open Go.Proofs
theorem nat_of : ofF natS 0 = [1, 2] := by kernel_rfl
theorem nat_ofE : ofE natS 0 = 0 := by kernel_rfl
theorem nat_has : hasE natS 2 = 0 := by kernel_rfl
theorem nat_head : headAt natS 2 = 0 := by kernel_rfl
theorem nat_swap : swapF natS 1 = [⟨sNat, .mk 1 0 0 [], 0⟩, ⟨sS, .mk 2 0 0 [con0 0 [], con0 0 []], 0⟩, ⟨sZ, con0 0 [], 0⟩] := by kernel_rfl
theorem nat_swapE : swapE natS 1 = 0 := by kernel_rfl
theorem nat_swapE0 : swapE natS 0 = 27 := by kernel_rfl
theorem nat_swap0 : swapF natS 0 = [] := by kernel_rfl
theorem nat_ok : checkB natS = true := by kernel_rfl
theorem nat_prop : prop (con0 2 [con0 1 []]) = true := by kernel_rfl
theorem nat_lev : levelF natS (con0 2 [con0 1 []]) = 3 := by kernel_rfl
theorem nat_levE : levelE natS (con0 2 [con0 1 []]) = 0 := by kernel_rfl
theorem cAwakeL : CallSt Tryz.prog 9 [] [] (fun r H' => r = .c (.bool true) ∧ H' = []) := by
  have h0 := cNatL
  have h1 := cOf natS 0
  rw [nat_of, nat_ofE] at h1
  have h2 := cTargetS natS 2
  rw [nat_has, nat_head] at h2
  have h3 := cSwap natS 1
  rw [nat_swap, nat_swapE] at h3
  have h4 := cSwap natS 0
  rw [nat_swap0, nat_swapE0] at h4
  have h5 := cLevel natS (con0 2 [con0 1 []])
  rw [nat_ok, nat_prop, nat_lev, nat_levE] at h5
  have h6 := cConL 1 []
  have h7 := cConL 2 [con0 1 []]
  have h8 := cNumsEq [1, 2] [1, 2] (by decide) (by decide)
  rw [decide_eq_true rfl] at h8
  refine call_pure (E := env 0) (fn := Tryz.f9) (c := bodyOf Tryz.f9) (env_ok 0) mixed (by kernel_rfl) (by kernel_rfl) (by kernel_rfl) (by kernel_rfl) (by kernel_rfl) (by kernel_rfl) rfl ?_
  conv => whnf
  try (refine draw_intro true (by kernel_rfl) ?_; conv => whnf)
  refine CallSt.use h0 [] trivial (by decide) rfl ?_
  rintro _ _ ⟨rfl, rfl⟩ _
  conv => whnf
  try (refine draw_intro true (by kernel_rfl) ?_; conv => whnf)
  refine CallSt.use h1 [] trivial (by decide) rfl ?_
  rintro _ _ ⟨rfl, rfl⟩ _
  conv => whnf
  try (refine draw_intro true (by kernel_rfl) ?_; conv => whnf)
  refine CallSt.use h0 [] trivial (by decide) rfl ?_
  rintro _ _ ⟨rfl, rfl⟩ _
  conv => whnf
  try (refine draw_intro true (by kernel_rfl) ?_; conv => whnf)
  refine CallSt.use h2 [] trivial (by decide) rfl ?_
  rintro _ _ ⟨rfl, rfl⟩ _
  conv => whnf
  try (refine draw_intro true (by kernel_rfl) ?_; conv => whnf)
  refine CallSt.use h0 [] trivial (by decide) rfl ?_
  rintro _ _ ⟨rfl, rfl⟩ _
  conv => whnf
  try (refine draw_intro true (by kernel_rfl) ?_; conv => whnf)
  refine CallSt.use h3 [] trivial (by decide) rfl ?_
  rintro _ _ ⟨rfl, rfl⟩ _
  conv => whnf
  try (refine draw_intro true (by kernel_rfl) ?_; conv => whnf)
  refine CallSt.use h0 [] trivial (by decide) rfl ?_
  rintro _ _ ⟨rfl, rfl⟩ _
  conv => whnf
  try (refine draw_intro true (by kernel_rfl) ?_; conv => whnf)
  refine CallSt.use h4 [] trivial (by decide) rfl ?_
  rintro _ _ ⟨rfl, rfl⟩ _
  conv => whnf
  try (refine draw_intro true (by kernel_rfl) ?_; conv => whnf)
  refine CallSt.use h0 [] trivial (by decide) rfl ?_
  rintro _ _ ⟨rfl, rfl⟩ _
  conv => whnf
  try (refine draw_intro true (by kernel_rfl) ?_; conv => whnf)
  refine CallSt.use h6 [] trivial (by decide) rfl ?_
  rintro _ _ ⟨rfl, rfl⟩ _
  conv => whnf
  repeat (first | (refine And.intro rfl ?_; conv => whnf) | (refine And.intro (by decide) ?_; conv => whnf) | (refine draw_intro true (by kernel_rfl) ?_; conv => whnf) | (refine And.intro ⟨by omega, by omega⟩ ?_; conv => whnf) | (refine And.intro (by omega) ?_; conv => whnf) | (refine And.intro (fun _ => ⟨by omega, by omega⟩) ?_; conv => whnf) | (refine And.intro (fun _ => ?_) (fun h => absurd h ?_); rotate_left; (focus (first | decide | (simp; done) | (simp [tcs]; done))); conv => whnf) | (refine And.intro (fun h => absurd h ?_) (fun _ => ?_); (focus (first | decide | (simp; done) | (simp [tcs]; done))); conv => whnf) | (intro _; conv => whnf))
  try (refine draw_intro true (by kernel_rfl) ?_; conv => whnf)
  refine CallSt.use h7 [] trivial (by decide) rfl ?_
  rintro _ _ ⟨rfl, rfl⟩ _
  conv => whnf
  try (refine draw_intro true (by kernel_rfl) ?_; conv => whnf)
  refine CallSt.use h5 [] trivial (by decide) rfl ?_
  rintro _ _ ⟨rfl, rfl⟩ _
  conv => whnf
  repeat (first | (refine And.intro rfl ?_; conv => whnf) | (refine And.intro (by decide) ?_; conv => whnf) | (refine draw_intro true (by kernel_rfl) ?_; conv => whnf) | (refine And.intro ⟨by omega, by omega⟩ ?_; conv => whnf) | (refine And.intro (by omega) ?_; conv => whnf) | (refine And.intro (fun _ => ⟨by omega, by omega⟩) ?_; conv => whnf) | (refine And.intro (fun _ => ?_) (fun h => absurd h ?_); rotate_left; (focus (first | decide | (simp; done) | (simp [tcs]; done))); conv => whnf) | (refine And.intro (fun h => absurd h ?_) (fun _ => ?_); (focus (first | decide | (simp; done) | (simp [tcs]; done))); conv => whnf) | (intro _; conv => whnf))
  try (refine draw_intro true (by kernel_rfl) ?_; conv => whnf)
  refine CallSt.use h8 [] trivial (by decide) rfl ?_
  rintro _ _ ⟨rfl, rfl⟩ _
  conv => whnf
  repeat (first | (refine And.intro rfl ?_; conv => whnf) | (refine And.intro (by decide) ?_; conv => whnf) | (refine draw_intro true (by kernel_rfl) ?_; conv => whnf) | (refine And.intro ⟨by omega, by omega⟩ ?_; conv => whnf) | (refine And.intro (by omega) ?_; conv => whnf) | (refine And.intro (fun _ => ⟨by omega, by omega⟩) ?_; conv => whnf) | (refine And.intro (fun _ => ?_) (fun h => absurd h ?_); rotate_left; (focus (first | decide | (simp; done) | (simp [tcs]; done))); conv => whnf) | (refine And.intro (fun h => absurd h ?_) (fun _ => ?_); (focus (first | decide | (simp; done) | (simp [tcs]; done))); conv => whnf) | (intro _; conv => whnf))
  refine ⟨[.str sS, .int .i64 2, .int .i64 0, .int .i64 0, .sl 4 48 (tcs [con0 0 [], con0 0 []]), .int .i64 0], fun _ => ⟨by decide, rfl⟩, ?_⟩
  conv => whnf
  refine ⟨show 1 ≤ 6 by decide, ?_⟩
  conv => whnf
  exact ⟨rfl, rfl, congrArg (fun z => AV.c (.bool z)) (by kernel_rfl), rfl⟩
end Go.Tr
/- The laws SignLooks, SignLevels, SignAdds. -/
namespace Go.Tr
open Go.Proofs
theorem len_row_nil : (rowI []).length = 0 := rfl
end Go.Tr
/- The laws SignSwapped, SignUndone. -/
namespace Go.Tr
open Go.Proofs
theorem swap_of {sig : List Dcl} (hc : checkB sig = true) {q : Nat} (h : q + 1 < sig.length) (hu : ∀ d, sig[q + 1]? = some d → usesT q d.c = false) : swapE sig q = 0 ∧ swapF sig q = swX sig q := by
  have hh : hasE sig (q : Int) = 0 := by
    unfold hasE
    rw [hc]
    simp only
    rw [decide_eq_false (by omega), decide_eq_false (by omega)]
    rfl
  have hd : sig[q + 1]? = some (sig[q + 1]'h) := List.getElem?_eq_getElem h
  have hE : swapE sig q = 0 := by
    unfold swapE
    rw [hh, Int.toNat_natCast, hd, decide_eq_false (show ¬ ((sig.length : Int) ≤ (q : Int) + 1) by omega)]
    simp only [decide_true]
    rw [hu _ hd]
  refine ⟨hE, ?_⟩
  unfold swapF
  rw [hE]
  simp only [decide_true]
  rw [Int.toNat_natCast, swap_eq hc h]
  rfl
theorem swap_cases (sig : List Dcl) (n : Int) : ((swapE sig n = 2 ∨ swapE sig n = 6 ∨ swapE sig n = 27) ∧ swapF sig n = []) ∨
    ∃ q : Nat, n = q ∧ checkB sig = true ∧ q + 1 < sig.length ∧ (∀ d, sig[q + 1]? = some d → usesT q d.c = false) ∧ swapE sig n = 0 ∧ swapF sig n = swX sig q := by
  rcases hasE_cases sig n with ⟨he, _⟩ | ⟨he, _⟩ | ⟨he, hc, hn⟩
  · exact .inl ⟨.inl (by simp [swapE, he]), by simp [swapF, swapE, he]⟩
  · exact .inl ⟨.inr (.inl (by simp [swapE, he])), by simp [swapF, swapE, he]⟩
  · obtain ⟨q, d, rfl, hq, hd⟩ := get_nat hn
    by_cases hq1 : q + 1 < sig.length
    · have hd1 : sig[q + 1]? = some (sig[q + 1]'hq1) := List.getElem?_eq_getElem hq1
      cases hu : usesT q (sig[q + 1]'hq1).c with
      | true =>
        have hE : swapE sig q = 27 := by
          unfold swapE
          rw [he, Int.toNat_natCast, hd1, decide_eq_false (show ¬ ((sig.length : Int) ≤ (q : Int) + 1) by omega)]
          simp only [decide_true]
          rw [hu]
        exact .inl ⟨.inr (.inr hE), by simp [swapF, hE]⟩
      | false =>
        have hu2 : ∀ d, sig[q + 1]? = some d → usesT q d.c = false := fun d hd2 => by
          rw [hd1] at hd2
          injection hd2 with hd2
          subst hd2
          exact hu
        obtain ⟨h1, h2⟩ := swap_of hc hq1 hu2
        exact .inr ⟨q, rfl, hc, hq1, hu2, h1, h2⟩
    · have hE : swapE sig q = 6 := by
        unfold swapE
        rw [he, decide_eq_true (show ((sig.length : Int) ≤ (q : Int) + 1) by omega)]
        rfl
      exact .inl ⟨.inr (.inl hE), by simp [swapF, hE]⟩
end Go.Tr
/- The law SignUndone. -/
namespace Go.Tr
open Go.Proofs
theorem u64_nat {m : Nat} (h : m ≤ 1000000) : IntKind.u64.wrap (m : Int) = m := by
  simp only [IntKind.wrap, IntKind.bits, IntKind.signed, Bool.false_and, Bool.false_eq_true, if_false]
  exact Int.emod_eq_of_lt (by omega) (by omega)
theorem mod_len (n : Int) (m : Nat) (h0 : 0 < m) (h : m ≤ 1000000) : ∃ q : Nat, q < m ∧ IntKind.i64.wrap ((IntKind.u64.wrap n).tmod (IntKind.u64.wrap (m : Int))) = q := by
  have h1 : 0 ≤ IntKind.u64.wrap n := by
    simp only [IntKind.wrap, IntKind.bits, IntKind.signed, Bool.false_and, Bool.false_eq_true, if_false]
    exact Int.emod_nonneg _ (by decide)
  rw [u64_nat h, Int.tmod_eq_emod_of_nonneg h1]
  generalize IntKind.u64.wrap n = u at *
  have h2 : 0 ≤ u % (m : Int) := Int.emod_nonneg _ (by omega)
  have h3 : u % (m : Int) < m := Int.emod_lt_of_pos _ (by omega)
  refine ⟨(u % (m : Int)).toNat, by omega, ?_⟩
  rw [wrap_in ⟨by omega, by omega⟩]
  omega
theorem rename_cases {sig : List Dcl} (hc : checkB sig = true) {q : Nat} {e : Dcl} (he : sig[q]? = some e) (s : ByteArray) :
    (renameE sig q s = 21 ∧ renameF sig q s = []) ∨ (renameE sig q s = 2 ∧ renameF sig q s = []) ∨ renameE sig q s = 0 := by
  have hlt := (List.getElem?_eq_some_iff.1 he).1
  have hh : hasE sig (q : Int) = 0 := by
    unfold hasE
    rw [hc]
    simp only
    rw [decide_eq_false (by omega), decide_eq_false (by omega)]
    rfl
  have hE : renameE sig q s = match nameElse sig q s with | true => 21 | false => (match nameF s with | true => 0 | false => 2) := by
    unfold renameE
    rw [hh]
    rfl
  have hF : renameE sig q s ≠ 0 → renameF sig q s = [] := fun h => by unfold renameF; rw [decide_eq_false h]
  cases hn : nameElse sig q s with
  | true =>
    rw [hn] at hE
    have hE : renameE sig q s = 21 := hE
    exact .inl ⟨hE, hF (by rw [hE]; decide)⟩
  | false =>
    rw [hn] at hE
    cases hm : nameF s with
    | true => rw [hm] at hE; exact .inr (.inr hE)
    | false =>
      rw [hm] at hE
      have hE : renameE sig q s = 2 := hE
      exact .inr (.inl ⟨hE, hF (by rw [hE]; decide)⟩)
end Go.Tr
/- The reference's Rename, Swap. -/
namespace Go.Tr
open Go.Proofs
theorem else_find {sig : List Dcl} (hc : checkB sig = true) {n : Int} {s : ByteArray} : nameElse sig n s = (nameIn sig s && !decide (findI sig s = n)) := by
  rw [Bool.eq_iff_iff, Bool.and_eq_true, Bool.not_eq_true', decide_eq_false_iff_not]
  obtain ⟨_, c2, _⟩ := (check_iff sig).1 hc
  have uniq : ∀ (i j : Nat) a b, sig[i]? = some a → sig[j]? = some b → a.s = b.s → i = j := fun i j a b ha hb hs => by
    rcases Nat.lt_trichotomy i j with h | h | h
    · exact absurd hs (c2 i j a b h ha hb)
    · exact h
    · exact absurd hs.symm (c2 j i b a h hb ha)
  have fnd : ∀ (k : Nat) e, sig[k]? = some e → e.s = s → findI sig s = k := fun k e he hs => by
    unfold findI
    rw [find_at he hs fun q x hq hx hxs => by have := uniq q k x e hx he (hxs.trans hs.symm); omega]
  constructor
  · intro h
    unfold nameElse at h
    rw [List.any_eq_true] at h
    obtain ⟨k, hk, h⟩ := h
    have hk := List.mem_range.1 hk
    have he : sig[k]? = some sig[k] := List.getElem?_eq_getElem hk
    rw [he, Bool.and_eq_true, Bool.not_eq_true', decide_eq_false_iff_not] at h
    have hs := of_decide_eq_true h.2
    exact ⟨nameIn_yes he hs, by rw [fnd k _ he hs]; exact h.1⟩
  · rintro ⟨h1, h2⟩
    obtain ⟨e, he, hs⟩ := (nameIn_iff _ _).1 h1
    obtain ⟨k, hk⟩ := List.mem_iff_getElem?.1 he
    rw [fnd k e hk hs] at h2
    unfold nameElse
    rw [List.any_eq_true]
    exact ⟨k, List.mem_range.2 (List.getElem?_eq_some_iff.1 hk).1, by rw [hk]; simp [h2, hs]⟩
def findR (sig : List Dcl) (s : ByteArray) : Int := match nameIn sig s with | true => findI sig s | false => -1
theorem cRFind' (sig : List Dcl) (hl : sig.length ≤ 100000) (s : ByteArray) : CallSt Tryz.prog 26 [.c (.sl 6 72 (dcs sig)), .c (.str s)] [] (fun r H' => r = .c (.int .i64 (findR sig s)) ∧ H' = []) := cRFind sig hl s
theorem set_cells (l : List Dcl) (q : Nat) (d : Dcl) : dcs (l.set q d) = (dcs l).set q (dc d) := by simp [dcs, List.map_set]
theorem cRRename (sig : List Dcl) (hc : checkB sig = true) (n : Int) (s : ByteArray) : CallSt Tryz.prog 10 [.c (.sl 6 72 (dcs sig)), .c (.int .i64 (n)), .c (.str s)] [] (fun r H' => r = .tup [.c (.sl 6 72 (dcs (renameF sig n s))), .c (.int .i64 (renameE sig n s))] ∧ H' = []) := by
  have hsl := check_len hc
  have hbl := len_dcs sig
  have hfd := cRFind' sig (by omega) s
  have hhs := cRHas sig n
  have hnm : CallSt Tryz.prog 28 [.c (.str s)] [] (fun r H' => r = .c (.bool (nameF s)) ∧ H' = []) := cRIsNameS s
  rcases hasE_cases sig n with ⟨_, hc0⟩ | ⟨he, _, hn⟩ | ⟨he, _, hn⟩
  · rw [hc] at hc0; cases hc0
  · rw [show renameF sig n s = [] by simp [renameF, renameE, he], show renameE sig n s = 6 by simp [renameE, he]]
    rw [show (decide (0 ≤ n) && decide (n < (sig.length : Int))) = false by
      rw [Bool.and_eq_false_iff, decide_eq_false_iff_not, decide_eq_false_iff_not]; omega] at hhs
    generalize findR sig s = v at *
    refine call_pure (E := env 0) (fn := Tryz.f10) (c := bodyOf Tryz.f10) (env_ok 0) mixed (by kernel_rfl) (by kernel_rfl) (by kernel_rfl) (by kernel_rfl) (by kernel_rfl) (by kernel_rfl) rfl ?_
    conv => whnf
    try (refine draw_intro true (by kernel_rfl) ?_; conv => whnf)
    refine CallSt.use hfd [] trivial (by decide) rfl ?_
    rintro _ _ ⟨rfl, rfl⟩ _
    conv => whnf
    try (refine draw_intro true (by kernel_rfl) ?_; conv => whnf)
    refine CallSt.use hhs [] trivial (by decide) rfl ?_
    rintro _ _ ⟨rfl, rfl⟩ _
    conv => whnf
    repeat (first | (refine And.intro rfl ?_; conv => whnf) | (refine And.intro (by decide) ?_; conv => whnf) | (refine draw_intro true (by kernel_rfl) ?_; conv => whnf) | (refine And.intro ⟨by omega, by omega⟩ ?_; conv => whnf) | (refine And.intro (by omega) ?_; conv => whnf) | (refine And.intro (fun _ => ⟨by omega, by omega⟩) ?_; conv => whnf) | (refine And.intro (fun _ => ?_) (fun h => absurd h ?_); rotate_left; (focus (first | decide | (simp; done) | (simp [tcs]; done))); conv => whnf) | (refine And.intro (fun h => absurd h ?_) (fun _ => ?_); (focus (first | decide | (simp; done) | (simp [tcs]; done))); conv => whnf) | (intro _; conv => whnf))
    all_goals (first | rfl | exact ⟨rfl, rfl⟩ | exact ⟨rfl, rfl, rfl⟩)
  · rw [show (decide (0 ≤ n) && decide (n < (sig.length : Int))) = true by
      rw [Bool.and_eq_true, decide_eq_true_eq, decide_eq_true_eq]; omega] at hhs
    have hE : renameE sig n s = match nameElse sig n s with | true => 21 | false => (match nameF s with | true => 0 | false => 2) := by
      unfold renameE
      rw [he]
      rfl
    have hF : renameE sig n s ≠ 0 → renameF sig n s = [] := fun h => by unfold renameF; rw [decide_eq_false h]
    obtain ⟨q, d, rfl, hq, hd⟩ := get_nat hn
    have hdc := dcs_at hd
    have hF0 : renameE sig q s = 0 → renameF sig q s = sig.set q ⟨s, d.c, d.i⟩ := fun h => (rename_ok hd h).2.1
    have helse := @else_find sig hc q s
    have hfi : 0 ≤ findI sig s := by unfold findI; omega
    cases hne : nameElse sig q s with
    | true =>
      rw [hne] at hE helse
      have hE : renameE sig q s = 21 := hE
      rw [hF (by rw [hE]; decide), hE]
      rw [Bool.true_eq, Bool.and_eq_true, Bool.not_eq_true', decide_eq_false_iff_not] at helse
      have hfr : findR sig s = findI sig s := by unfold findR; rw [helse.1]
      rw [hfr] at hfd
      have hne2 := helse.2
      clear hfr
      generalize findI sig s = v at *
      refine call_pure (E := env 0) (fn := Tryz.f10) (c := bodyOf Tryz.f10) (env_ok 0) mixed (by kernel_rfl) (by kernel_rfl) (by kernel_rfl) (by kernel_rfl) (by kernel_rfl) (by kernel_rfl) rfl ?_
      conv => whnf
      try (refine draw_intro true (by kernel_rfl) ?_; conv => whnf)
      refine CallSt.use hfd [] trivial (by decide) rfl ?_
      rintro _ _ ⟨rfl, rfl⟩ _
      conv => whnf
      try (refine draw_intro true (by kernel_rfl) ?_; conv => whnf)
      refine CallSt.use hhs [] trivial (by decide) rfl ?_
      rintro _ _ ⟨rfl, rfl⟩ _
      conv => whnf
      repeat (first | (refine And.intro rfl ?_; conv => whnf) | (refine And.intro (by decide) ?_; conv => whnf) | (refine draw_intro true (by kernel_rfl) ?_; conv => whnf) | (refine And.intro ⟨by omega, by omega⟩ ?_; conv => whnf) | (refine And.intro (by omega) ?_; conv => whnf) | (refine And.intro (fun _ => ⟨by omega, by omega⟩) ?_; conv => whnf) | (refine And.intro (fun _ => ?_) (fun h => absurd h ?_); rotate_left; (focus (first | decide | (simp; done) | (simp [tcs]; done))); conv => whnf) | (refine And.intro (fun h => absurd h ?_) (fun _ => ?_); (focus (first | decide | (simp; done) | (simp [tcs]; done))); conv => whnf) | (intro _; conv => whnf))
      (refine ⟨fun _ => ?_, fun h => absurd h (by rw [decide_eq_true hfi, decide_eq_false hne2]; simp)⟩; conv => whnf)
      repeat (first | (refine And.intro rfl ?_; conv => whnf) | (refine And.intro (by decide) ?_; conv => whnf) | (refine draw_intro true (by kernel_rfl) ?_; conv => whnf) | (refine And.intro ⟨by omega, by omega⟩ ?_; conv => whnf) | (refine And.intro (by omega) ?_; conv => whnf) | (refine And.intro (fun _ => ⟨by omega, by omega⟩) ?_; conv => whnf) | (refine And.intro (fun _ => ?_) (fun h => absurd h ?_); rotate_left; (focus (first | decide | (simp; done) | (simp [tcs]; done))); conv => whnf) | (refine And.intro (fun h => absurd h ?_) (fun _ => ?_); (focus (first | decide | (simp; done) | (simp [tcs]; done))); conv => whnf) | (intro _; conv => whnf))
      all_goals (first | rfl | exact ⟨rfl, rfl⟩ | exact ⟨rfl, rfl, rfl⟩)
    | false =>
      rw [hne] at hE helse
      have hcond : (decide (0 ≤ findR sig s) && !decide (findR sig s = (q : Int))) = false := by
        unfold findR
        cases hni : nameIn sig s with
        | true =>
          rw [hni, Bool.true_and] at helse
          simp only
          rw [decide_eq_true hfi, Bool.true_and]
          exact helse.symm
        | false => rfl
      generalize findR sig s = v at *
      cases hnf : nameF s with
      | false =>
        rw [hnf] at hE hnm
        have hE : renameE sig q s = 2 := hE
        rw [hF (by rw [hE]; decide), hE]
        refine call_pure (E := env 0) (fn := Tryz.f10) (c := bodyOf Tryz.f10) (env_ok 0) mixed (by kernel_rfl) (by kernel_rfl) (by kernel_rfl) (by kernel_rfl) (by kernel_rfl) (by kernel_rfl) rfl ?_
        conv => whnf
        try (refine draw_intro true (by kernel_rfl) ?_; conv => whnf)
        refine CallSt.use hfd [] trivial (by decide) rfl ?_
        rintro _ _ ⟨rfl, rfl⟩ _
        conv => whnf
        try (refine draw_intro true (by kernel_rfl) ?_; conv => whnf)
        refine CallSt.use hhs [] trivial (by decide) rfl ?_
        rintro _ _ ⟨rfl, rfl⟩ _
        conv => whnf
        repeat (first | (refine And.intro rfl ?_; conv => whnf) | (refine And.intro (by decide) ?_; conv => whnf) | (refine draw_intro true (by kernel_rfl) ?_; conv => whnf) | (refine And.intro ⟨by omega, by omega⟩ ?_; conv => whnf) | (refine And.intro (by omega) ?_; conv => whnf) | (refine And.intro (fun _ => ⟨by omega, by omega⟩) ?_; conv => whnf) | (refine And.intro (fun _ => ?_) (fun h => absurd h ?_); rotate_left; (focus (first | decide | (simp; done) | (simp [tcs]; done))); conv => whnf) | (refine And.intro (fun h => absurd h ?_) (fun _ => ?_); (focus (first | decide | (simp; done) | (simp [tcs]; done))); conv => whnf) | (intro _; conv => whnf))
        (refine ⟨fun h => absurd (hcond.symm.trans h) (by decide), fun _ => ?_⟩; conv => whnf)
        try (refine draw_intro true (by kernel_rfl) ?_; conv => whnf)
        refine CallSt.use hnm [] trivial (by decide) rfl ?_
        rintro _ _ ⟨rfl, rfl⟩ _
        conv => whnf
        repeat (first | (refine And.intro rfl ?_; conv => whnf) | (refine And.intro (by decide) ?_; conv => whnf) | (refine draw_intro true (by kernel_rfl) ?_; conv => whnf) | (refine And.intro ⟨by omega, by omega⟩ ?_; conv => whnf) | (refine And.intro (by omega) ?_; conv => whnf) | (refine And.intro (fun _ => ⟨by omega, by omega⟩) ?_; conv => whnf) | (refine And.intro (fun _ => ?_) (fun h => absurd h ?_); rotate_left; (focus (first | decide | (simp; done) | (simp [tcs]; done))); conv => whnf) | (refine And.intro (fun h => absurd h ?_) (fun _ => ?_); (focus (first | decide | (simp; done) | (simp [tcs]; done))); conv => whnf) | (intro _; conv => whnf))
        all_goals (first | rfl | exact ⟨rfl, rfl⟩ | exact ⟨rfl, rfl, rfl⟩)
      | true =>
        rw [hnf] at hE hnm
        have hE : renameE sig q s = 0 := hE
        rw [hF0 hE, hE]
        rw [set_cells]
        obtain ⟨s', ⟨k', l', n', us⟩, i'⟩ := d
        refine call_pure (E := env 0) (fn := Tryz.f10) (c := bodyOf Tryz.f10) (env_ok 0) mixed (by kernel_rfl) (by kernel_rfl) (by kernel_rfl) (by kernel_rfl) (by kernel_rfl) (by kernel_rfl) rfl ?_
        conv => whnf
        try (refine draw_intro true (by kernel_rfl) ?_; conv => whnf)
        refine CallSt.use hfd [] trivial (by decide) rfl ?_
        rintro _ _ ⟨rfl, rfl⟩ _
        conv => whnf
        try (refine draw_intro true (by kernel_rfl) ?_; conv => whnf)
        refine CallSt.use hhs [] trivial (by decide) rfl ?_
        rintro _ _ ⟨rfl, rfl⟩ _
        conv => whnf
        repeat (first | (refine And.intro rfl ?_; conv => whnf) | (refine And.intro (by decide) ?_; conv => whnf) | (refine draw_intro true (by kernel_rfl) ?_; conv => whnf) | (refine And.intro ⟨by omega, by omega⟩ ?_; conv => whnf) | (refine And.intro (by omega) ?_; conv => whnf) | (refine And.intro (fun _ => ⟨by omega, by omega⟩) ?_; conv => whnf) | (refine And.intro (fun _ => ?_) (fun h => absurd h ?_); rotate_left; (focus (first | decide | (simp; done) | (simp [tcs]; done))); conv => whnf) | (refine And.intro (fun h => absurd h ?_) (fun _ => ?_); (focus (first | decide | (simp; done) | (simp [tcs]; done))); conv => whnf) | (intro _; conv => whnf))
        (refine ⟨fun h => absurd (hcond.symm.trans h) (by decide), fun _ => ?_⟩; conv => whnf)
        try (refine draw_intro true (by kernel_rfl) ?_; conv => whnf)
        refine CallSt.use hnm [] trivial (by decide) rfl ?_
        rintro _ _ ⟨rfl, rfl⟩ _
        conv => whnf
        repeat (first | (refine And.intro rfl ?_; conv => whnf) | (refine And.intro (by decide) ?_; conv => whnf) | (refine draw_intro true (by kernel_rfl) ?_; conv => whnf) | (refine And.intro ⟨by omega, by omega⟩ ?_; conv => whnf) | (refine And.intro (by omega) ?_; conv => whnf) | (refine And.intro (fun _ => ⟨by omega, by omega⟩) ?_; conv => whnf) | (refine And.intro (fun _ => ?_) (fun h => absurd h ?_); rotate_left; (focus (first | decide | (simp; done) | (simp [tcs]; done))); conv => whnf) | (refine And.intro (fun h => absurd h ?_) (fun _ => ?_); (focus (first | decide | (simp; done) | (simp [tcs]; done))); conv => whnf) | (intro _; conv => whnf))
        refine ⟨show (dcs sig).length * 72 ≤ 140737488355328 by omega, by omega, ?_⟩
        conv => whnf
        refine ⟨_, ⟨by omega, by simpa using hdc⟩, ?_⟩
        conv => whnf
        refine ⟨show 6 ≤ 6 by decide, ?_⟩
        conv => whnf
        repeat (first | (refine And.intro rfl ?_; conv => whnf) | (refine And.intro (by decide) ?_; conv => whnf) | (refine draw_intro true (by kernel_rfl) ?_; conv => whnf) | (refine And.intro ⟨by omega, by omega⟩ ?_; conv => whnf) | (refine And.intro (by omega) ?_; conv => whnf) | (refine And.intro (fun _ => ⟨by omega, by omega⟩) ?_; conv => whnf) | (refine And.intro (fun _ => ?_) (fun h => absurd h ?_); rotate_left; (focus (first | decide | (simp; done) | (simp [tcs]; done))); conv => whnf) | (refine And.intro (fun h => absurd h ?_) (fun _ => ?_); (focus (first | decide | (simp; done) | (simp [tcs]; done))); conv => whnf) | (intro _; conv => whnf))
        refine ⟨dc ⟨s', ⟨k', l', n', us⟩, i'⟩, by rw [Int.toNat_natCast]; exact hdc, show 0 + 6 ≤ 6 by decide, ?_⟩
        conv => whnf
        repeat (first | (refine And.intro rfl ?_; conv => whnf) | (refine And.intro (by decide) ?_; conv => whnf) | (refine draw_intro true (by kernel_rfl) ?_; conv => whnf) | (refine And.intro ⟨by omega, by omega⟩ ?_; conv => whnf) | (refine And.intro (by omega) ?_; conv => whnf) | (refine And.intro (fun _ => ⟨by omega, by omega⟩) ?_; conv => whnf) | (refine And.intro (fun _ => ?_) (fun h => absurd h ?_); rotate_left; (focus (first | decide | (simp; done) | (simp [tcs]; done))); conv => whnf) | (refine And.intro (fun h => absurd h ?_) (fun _ => ?_); (focus (first | decide | (simp; done) | (simp [tcs]; done))); conv => whnf) | (intro _; conv => whnf))
        all_goals (first | rfl | exact ⟨rfl, rfl⟩ | exact ⟨rfl, rfl, rfl⟩)
theorem swG_eq {sig : List Dcl} (hc : checkB sig = true) {q : Nat} (hq1 : q + 1 < sig.length) : (swL sig.length q).map (pickD sig (getL (swL sig.length q))) = swX sig q := by
  refine pick_all hc fun x hx => ?_
  unfold getL
  rw [swL_at hq1 (by omega), show ((x.toNat : Nat) : Int) = x by omega]
  rfl
theorem cRSwap (sig : List Dcl) (hc : checkB sig = true) (n : Int) : CallSt Tryz.prog 11 [.c (.sl 6 72 (dcs sig)), .c (.int .i64 (n))] [] (fun r H' => r = .tup [.c (.sl 6 72 (dcs (swapF sig n))), .c (.int .i64 (swapE sig n))] ∧ H' = []) := by
  have hsl := check_len hc
  have hbl := len_dcs sig
  have hhs := cRHas sig n
  rcases hasE_cases sig n with ⟨_, hc0⟩ | ⟨he, _, hn⟩ | ⟨he, _, hn⟩
  · rw [hc] at hc0; cases hc0
  · rw [show swapF sig n = [] by simp [swapF, swapE, he], show swapE sig n = 6 by simp [swapE, he]]
    rw [show (decide (0 ≤ n) && decide (n < (sig.length : Int))) = false by
      rw [Bool.and_eq_false_iff, decide_eq_false_iff_not, decide_eq_false_iff_not]; omega] at hhs
    refine call_pure (E := env 0) (fn := Tryz.f11) (c := bodyOf Tryz.f11) (env_ok 0) mixed (by kernel_rfl) (by kernel_rfl) (by kernel_rfl) (by kernel_rfl) (by kernel_rfl) (by kernel_rfl) rfl ?_
    conv => whnf
    try (refine draw_intro true (by kernel_rfl) ?_; conv => whnf)
    refine CallSt.use hhs [] trivial (by decide) rfl ?_
    rintro _ _ ⟨rfl, rfl⟩ _
    conv => whnf
    repeat (first | (refine And.intro rfl ?_; conv => whnf) | (refine And.intro (by decide) ?_; conv => whnf) | (refine draw_intro true (by kernel_rfl) ?_; conv => whnf) | (refine And.intro ⟨by omega, by omega⟩ ?_; conv => whnf) | (refine And.intro (by omega) ?_; conv => whnf) | (refine And.intro (fun _ => ⟨by omega, by omega⟩) ?_; conv => whnf) | (refine And.intro (fun _ => ?_) (fun h => absurd h ?_); rotate_left; (focus (first | decide | (simp; done) | (simp [tcs]; done))); conv => whnf) | (refine And.intro (fun h => absurd h ?_) (fun _ => ?_); (focus (first | decide | (simp; done) | (simp [tcs]; done))); conv => whnf) | (intro _; conv => whnf))
    all_goals (first | rfl | exact ⟨rfl, rfl⟩ | exact ⟨rfl, rfl, rfl⟩)
  · rw [show (decide (0 ≤ n) && decide (n < (sig.length : Int))) = true by
      rw [Bool.and_eq_true, decide_eq_true_eq, decide_eq_true_eq]; omega] at hhs
    obtain ⟨q, d, rfl, hq, hd⟩ := get_nat hn
    by_cases hq1 : q + 1 < sig.length
    · obtain ⟨e1, he1⟩ : ∃ e, sig[q + 1]? = some e := ⟨sig[q + 1]'hq1, List.getElem?_eq_getElem hq1⟩
      have hus := cRUses sig (q + 1) q (by omega) e1 (by rw [show ((q : Int) + 1).toNat = q + 1 by omega]; exact he1) (check_prop hc e1 (List.mem_of_getElem? he1))
      cases hu : usesT q e1.c with
      | true =>
        have hE : swapE sig q = 27 := by
          unfold swapE
          rw [he, Int.toNat_natCast, he1, decide_eq_false (show ¬ ((sig.length : Int) ≤ (q : Int) + 1) by omega)]
          simp only [decide_true]
          rw [hu]
        rw [show swapF sig q = [] by simp [swapF, hE], hE]
        rw [hu] at hus
        refine call_pure (E := env 0) (fn := Tryz.f11) (c := bodyOf Tryz.f11) (env_ok 0) mixed (by kernel_rfl) (by kernel_rfl) (by kernel_rfl) (by kernel_rfl) (by kernel_rfl) (by kernel_rfl) rfl ?_
        conv => whnf
        try (refine draw_intro true (by kernel_rfl) ?_; conv => whnf)
        refine CallSt.use hhs [] trivial (by decide) rfl ?_
        rintro _ _ ⟨rfl, rfl⟩ _
        conv => whnf
        repeat (first | (refine And.intro rfl ?_; conv => whnf) | (refine And.intro (by decide) ?_; conv => whnf) | (refine draw_intro true (by kernel_rfl) ?_; conv => whnf) | (refine And.intro ⟨by omega, by omega⟩ ?_; conv => whnf) | (refine And.intro (by omega) ?_; conv => whnf) | (refine And.intro (fun _ => ⟨by omega, by omega⟩) ?_; conv => whnf) | (refine And.intro (fun _ => ?_) (fun h => absurd h ?_); rotate_left; (focus (first | decide | (simp; done) | (simp [tcs]; done))); conv => whnf) | (refine And.intro (fun h => absurd h ?_) (fun _ => ?_); (focus (first | decide | (simp; done) | (simp [tcs]; done))); conv => whnf) | (intro _; conv => whnf))
        (refine ⟨fun h => absurd h (by simp; omega), fun _ => ?_⟩; conv => whnf)
        repeat (first | (refine And.intro rfl ?_; conv => whnf) | (refine And.intro (by decide) ?_; conv => whnf) | (refine draw_intro true (by kernel_rfl) ?_; conv => whnf) | (refine And.intro ⟨by omega, by omega⟩ ?_; conv => whnf) | (refine And.intro (by omega) ?_; conv => whnf) | (refine And.intro (fun _ => ⟨by omega, by omega⟩) ?_; conv => whnf) | (refine And.intro (fun _ => ?_) (fun h => absurd h ?_); rotate_left; (focus (first | decide | (simp; done) | (simp [tcs]; done))); conv => whnf) | (refine And.intro (fun h => absurd h ?_) (fun _ => ?_); (focus (first | decide | (simp; done) | (simp [tcs]; done))); conv => whnf) | (intro _; conv => whnf))
        try (refine draw_intro true (by kernel_rfl) ?_; conv => whnf)
        refine CallSt.use hus [] trivial (by decide) rfl ?_
        rintro _ _ ⟨rfl, rfl⟩ _
        conv => whnf
        repeat (first | (refine And.intro rfl ?_; conv => whnf) | (refine And.intro (by decide) ?_; conv => whnf) | (refine draw_intro true (by kernel_rfl) ?_; conv => whnf) | (refine And.intro ⟨by omega, by omega⟩ ?_; conv => whnf) | (refine And.intro (by omega) ?_; conv => whnf) | (refine And.intro (fun _ => ⟨by omega, by omega⟩) ?_; conv => whnf) | (refine And.intro (fun _ => ?_) (fun h => absurd h ?_); rotate_left; (focus (first | decide | (simp; done) | (simp [tcs]; done))); conv => whnf) | (refine And.intro (fun h => absurd h ?_) (fun _ => ?_); (focus (first | decide | (simp; done) | (simp [tcs]; done))); conv => whnf) | (intro _; conv => whnf))
        all_goals (first | rfl | exact ⟨rfl, rfl⟩ | exact ⟨rfl, rfl, rfl⟩)
      | false =>
        obtain ⟨hE, hF⟩ := swap_of hc hq1 (fun d hd2 => by rw [he1] at hd2; injection hd2 with hd2; rw [← hd2]; exact hu)
        rw [hF, hE]
        rw [hu] at hus
        have hX := (swG_eq hc hq1).symm
        have h1 : (rowI (nums sig.length))[q]? = some [.int .i64 q] := rowI_at (nums_at hq)
        have h2 : ((rowI (nums sig.length)).set q [.int .i64 ((q : Int) + 1)])[((q : Int) + 1).toNat]? = some [.int .i64 ((q : Int) + 1)] := by
          rw [show ((q : Int) + 1).toNat = q + 1 by omega, rowI_set]
          refine rowI_at ?_
          rw [List.getElem?_set_ne (by omega)]
          exact nums_at hq1
        have h3 : ((rowI (nums sig.length)).set q [.int .i64 ((q : Int) + 1)]).set ((q : Int) + 1).toNat [.int .i64 q] = rowI (swL sig.length q) := by
          rw [show ((q : Int) + 1).toNat = q + 1 by omega, rowI_set, rowI_set]
          rfl
        have hnl := len_rowI (nums sig.length)
        have hnl2 := nums_len sig.length
        refine call_pure (E := env 0) (fn := Tryz.f11) (c := bodyOf Tryz.f11) (env_ok 0) mixed (by kernel_rfl) (by kernel_rfl) (by kernel_rfl) (by kernel_rfl) (by kernel_rfl) (by kernel_rfl) rfl ?_
        conv => whnf
        try (refine draw_intro true (by kernel_rfl) ?_; conv => whnf)
        refine CallSt.use hhs [] trivial (by decide) rfl ?_
        rintro _ _ ⟨rfl, rfl⟩ _
        conv => whnf
        repeat (first | (refine And.intro rfl ?_; conv => whnf) | (refine And.intro (by decide) ?_; conv => whnf) | (refine draw_intro true (by kernel_rfl) ?_; conv => whnf) | (refine And.intro ⟨by omega, by omega⟩ ?_; conv => whnf) | (refine And.intro (by omega) ?_; conv => whnf) | (refine And.intro (fun _ => ⟨by omega, by omega⟩) ?_; conv => whnf) | (refine And.intro (fun _ => ?_) (fun h => absurd h ?_); rotate_left; (focus (first | decide | (simp; done) | (simp [tcs]; done))); conv => whnf) | (refine And.intro (fun h => absurd h ?_) (fun _ => ?_); (focus (first | decide | (simp; done) | (simp [tcs]; done))); conv => whnf) | (intro _; conv => whnf))
        (refine ⟨fun h => absurd h (by simp; omega), fun _ => ?_⟩; conv => whnf)
        repeat (first | (refine And.intro rfl ?_; conv => whnf) | (refine And.intro (by decide) ?_; conv => whnf) | (refine draw_intro true (by kernel_rfl) ?_; conv => whnf) | (refine And.intro ⟨by omega, by omega⟩ ?_; conv => whnf) | (refine And.intro (by omega) ?_; conv => whnf) | (refine And.intro (fun _ => ⟨by omega, by omega⟩) ?_; conv => whnf) | (refine And.intro (fun _ => ?_) (fun h => absurd h ?_); rotate_left; (focus (first | decide | (simp; done) | (simp [tcs]; done))); conv => whnf) | (refine And.intro (fun h => absurd h ?_) (fun _ => ?_); (focus (first | decide | (simp; done) | (simp [tcs]; done))); conv => whnf) | (intro _; conv => whnf))
        try (refine draw_intro true (by kernel_rfl) ?_; conv => whnf)
        refine CallSt.use hus [] trivial (by decide) rfl ?_
        rintro _ _ ⟨rfl, rfl⟩ _
        conv => whnf
        repeat (first | (refine And.intro rfl ?_; conv => whnf) | (refine And.intro (by decide) ?_; conv => whnf) | (refine draw_intro true (by kernel_rfl) ?_; conv => whnf) | (refine And.intro ⟨by omega, by omega⟩ ?_; conv => whnf) | (refine And.intro (by omega) ?_; conv => whnf) | (refine And.intro (fun _ => ⟨by omega, by omega⟩) ?_; conv => whnf) | (refine And.intro (fun _ => ?_) (fun h => absurd h ?_); rotate_left; (focus (first | decide | (simp; done) | (simp [tcs]; done))); conv => whnf) | (refine And.intro (fun h => absurd h ?_) (fun _ => ?_); (focus (first | decide | (simp; done) | (simp [tcs]; done))); conv => whnf) | (intro _; conv => whnf))
        refine loop_intro (fun m tm H => ∃ j : Nat, sig.length = m + j ∧
          tm = [(29, .c (.int .i64 (j))), (28, .c (.int .i64 ((dcs sig).length))), (0, .c (.sl 6 72 (dcs sig))), (1, .c (.int .i64 (q))), (6, .own 0)] ∧ H = [.row 3 1 8 (rowI (nums j))])
          sig.length _ _ ⟨0, by omega, rfl, rfl⟩ ?_ ?_
        · refine Wk.trans (tm1 := [(29, .c (.int .i64 (0))), (28, .c (.int .i64 ((dcs sig).length))), (0, .c (.sl 6 72 (dcs sig))), (1, .c (.int .i64 (q))), (6, .nil)]) (H1 := []) ?_ (Wk.trans (Wk.niltmp 6 3 1 8 rfl rfl) ?_)
          · exact Wk.sel [] (by decide) (by decide) (by decide) trivial ⟨rfl, rfl, rfl, rfl, rfl, trivial⟩ rfl
          · exact Wk.sel [0] (by decide) (by decide) (by decide) ⟨rfl, trivial⟩ ⟨rfl, rfl, rfl, rfl, rfl, trivial⟩ rfl
        rintro m tm H ⟨j, hj, rfl, rfl⟩
        conv => whnf
        refine ⟨fun hlt => ?_, fun hlt => ?_⟩
        · replace hlt : (j : Int) < (dcs sig).length := of_decide_eq_true hlt
          have hrl := len_rowI (nums j)
          have hnj := nums_len j
          have hl2 : ((rowI (nums j)).length + 1) * 8 ≤ 140737488355328 := by omega
          have hl3 : (rowI (nums j)).length + 1 ≤ 9223372036854775807 := by omega
          conv => whnf
          refine ⟨by decide, ?_⟩
          conv => whnf
          refine ⟨by decide, ?_⟩
          conv => whnf
          refine ⟨hl2, hl3, ?_⟩
          conv => whnf
          refine ⟨⟨by omega, by omega⟩, ?_⟩
          conv => whnf
          refine ⟨m - 1, _, _, by omega, ⟨j + 1, by omega, rfl, rfl⟩, Wk.sel [2] (by decide) (by decide) (by decide) ⟨?_, trivial⟩ ⟨rfl, rfl, rfl, rfl, rfl, trivial⟩ rfl⟩
          rw [nums_succ, ← rowI_snoc]
          rfl
        · replace hlt : ¬ (j : Int) < (dcs sig).length := of_decide_eq_false hlt
          obtain rfl : j = sig.length := by omega
          conv => whnf
          repeat (first | (refine And.intro rfl ?_; conv => whnf) | (refine And.intro (by decide) ?_; conv => whnf) | (refine draw_intro true (by kernel_rfl) ?_; conv => whnf) | (refine And.intro ⟨by omega, by omega⟩ ?_; conv => whnf) | (refine And.intro (by omega) ?_; conv => whnf) | (refine And.intro (fun _ => ⟨by omega, by omega⟩) ?_; conv => whnf) | (refine And.intro (fun _ => ?_) (fun h => absurd h ?_); rotate_left; (focus (first | decide | (simp; done) | (simp [tcs]; done))); conv => whnf) | (refine And.intro (fun h => absurd h ?_) (fun _ => ?_); (focus (first | decide | (simp; done) | (simp [tcs]; done))); conv => whnf) | (intro _; conv => whnf))
          refine ⟨[.int .i64 q], by simpa using h1, Nat.le_refl 1, ?_⟩
          conv => whnf
          refine ⟨⟨by omega, by omega⟩, ?_⟩
          conv => whnf
          refine ⟨⟨by omega, by rw [List.length_set]; omega⟩, ?_⟩
          conv => whnf
          refine ⟨[.int .i64 ((q : Int) + 1)], h2, Nat.le_refl 1, ?_⟩
          conv => whnf
          repeat (first | (refine And.intro rfl ?_; conv => whnf) | (refine And.intro (by decide) ?_; conv => whnf) | (refine draw_intro true (by kernel_rfl) ?_; conv => whnf) | (refine And.intro ⟨by omega, by omega⟩ ?_; conv => whnf) | (refine And.intro (by omega) ?_; conv => whnf) | (refine And.intro (fun _ => ⟨by omega, by omega⟩) ?_; conv => whnf) | (refine And.intro (fun _ => ?_) (fun h => absurd h ?_); rotate_left; (focus (first | decide | (simp; done) | (simp [tcs]; done))); conv => whnf) | (refine And.intro (fun h => absurd h ?_) (fun _ => ?_); (focus (first | decide | (simp; done) | (simp [tcs]; done))); conv => whnf) | (intro _; conv => whnf))
          have hrl := len_rowI (swL sig.length q)
          refine loop_intro (fun m tm H => ∃ j : Nat, sig.length = m + j ∧
            tm = [(49, .c (.int .i64 (j))), (48, .c (.int .i64 ((dcs sig).length))), (0, .c (.sl 6 72 (dcs sig))), (6, .own 0), (8, .own 1)] ∧
            (H = [.row 3 1 8 (rowI (swL sig.length q)), .row 39 6 72 (dcs (((swL sig.length q).take j).map (pickD sig (getL (swL sig.length q)))))] ∨
              H = [.frz (.sl 1 8 (rowI (swL sig.length q))), .row 39 6 72 (dcs (((swL sig.length q).take j).map (pickD sig (getL (swL sig.length q)))))]))
            sig.length _ _ ⟨0, by omega, rfl, .inl rfl⟩ ?_ ?_
          · refine Wk.trans (tm1 := [(49, .c (.int .i64 (0))), (48, .c (.int .i64 ((dcs sig).length))), (0, .c (.sl 6 72 (dcs sig))), (6, .own 0), (8, .nil)]) (H1 := [.row 3 1 8 (rowI (swL sig.length q))]) ?_ (Wk.trans (Wk.niltmp 8 39 6 72 rfl rfl) ?_)
            · refine Wk.sel [0] (by decide) (by decide) (by decide) ⟨?_, trivial⟩ ⟨rfl, rfl, rfl, rfl, rfl, trivial⟩ rfl
              rw [← h3]
              rfl
            · exact Wk.sel [0, 1] (by decide) (by decide) (by decide) ⟨rfl, rfl, trivial⟩ ⟨rfl, rfl, rfl, rfl, rfl, trivial⟩ rfl
          rintro m tm H ⟨j, hj, rfl, (rfl | rfl)⟩
          · have hX : swX sig q = ((swL sig.length q).take sig.length).map (pickD sig (getL (swL sig.length q))) := by rw [hX, List.take_of_length_le (by rw [swL_len]; omega)]
            conv => whnf
            refine ⟨fun hlt => ?_, fun hlt => ?_⟩
            · replace hlt : (j : Int) < (dcs sig).length := of_decide_eq_true hlt
              obtain ⟨y, hy, hy0⟩ : ∃ y, (swL sig.length q)[j]? = some y ∧ 0 ≤ y ∧ y < sig.length := ⟨swF q j, swL_at hq1 (by omega), swF_in hq1 ⟨by omega, by omega⟩⟩
              have hyr := rowI_at hy
              obtain ⟨e, he⟩ : ∃ e, sig[y.toNat]? = some e := ⟨sig[y.toNat]'(by omega), List.getElem?_eq_getElem (by omega)⟩
              have hec := dcs_at he
              have hcr := cRRenum (swL sig.length q) e.c (fun x hx => by have := check_cn hc he x hx; rw [swL_len]; have := (List.getElem?_eq_some_iff.1 he).1; omega)
              have htk : ((swL sig.length q).take (j + 1)).map (pickD sig (getL (swL sig.length q))) = ((swL sig.length q).take j).map (pickD sig (getL (swL sig.length q))) ++ [⟨e.s, rnT (getL (swL sig.length q)) e.c, e.i⟩] := by
                rw [List.take_add_one, hy, List.map_append]
                simp [pickD_at he]
              have hml := len_dcs (((swL sig.length q).take j).map (pickD sig (getL (swL sig.length q))))
              have hul : (((swL sig.length q).take j).map (pickD sig (getL (swL sig.length q)))).length ≤ j := by simp; omega
              have hl2 : ((dcs (((swL sig.length q).take j).map (pickD sig (getL (swL sig.length q))))).length + 1) * 72 ≤ 140737488355328 := by omega
              have hl3 : (dcs (((swL sig.length q).take j).map (pickD sig (getL (swL sig.length q))))).length + 1 ≤ 9223372036854775807 := by omega
              generalize rnT (getL (swL sig.length q)) e.c = u at *
              obtain ⟨s', ⟨k', l', n', us⟩, i'⟩ := e
              obtain ⟨k2, l2, n2, us2⟩ := u
              rw [tv_mk] at hcr
              rw [tv_mk] at hcr
              conv => whnf
              refine ⟨⟨by omega, by rw [Int.toNat_natCast, hrl, swL_len]; omega⟩, ?_⟩
              conv => whnf
              refine ⟨[.int .i64 y], by rw [Int.toNat_natCast]; exact hyr, show 0 + 1 ≤ 1 by decide, ?_⟩
              conv => whnf
              refine ⟨_, ⟨hy0.1, hec⟩, ?_⟩
              conv => whnf
              refine ⟨show 6 ≤ 6 by decide, ?_⟩
              conv => whnf
              try (refine draw_intro true (by kernel_rfl) ?_; conv => whnf)
              refine CallSt.use hcr [] trivial (by decide) rfl ?_
              rintro _ _ ⟨rfl, rfl⟩ _
              conv => whnf
              repeat (first | (refine And.intro rfl ?_; conv => whnf) | (refine And.intro (by decide) ?_; conv => whnf) | (refine draw_intro true (by kernel_rfl) ?_; conv => whnf) | (refine And.intro ⟨by omega, by omega⟩ ?_; conv => whnf) | (refine And.intro (by omega) ?_; conv => whnf) | (refine And.intro (fun _ => ⟨by omega, by omega⟩) ?_; conv => whnf) | (refine And.intro (fun _ => ?_) (fun h => absurd h ?_); rotate_left; (focus (first | decide | (simp; done) | (simp [tcs]; done))); conv => whnf) | (refine And.intro (fun h => absurd h ?_) (fun _ => ?_); (focus (first | decide | (simp; done) | (simp [tcs]; done))); conv => whnf) | (intro _; conv => whnf))
              refine ⟨m - 1, _, _, by omega, ⟨j + 1, by omega, rfl, .inr rfl⟩, Wk.sel [0, 4] (by decide) (by decide) (by decide) ⟨rfl, ?_, trivial⟩ ⟨rfl, rfl, rfl, rfl, rfl, trivial⟩ rfl⟩
              rw [htk, ← dcs_snoc]
              rfl
            · replace hlt : ¬ (j : Int) < (dcs sig).length := of_decide_eq_false hlt
              obtain rfl : j = sig.length := by omega
              rw [hX]
              conv => whnf
              repeat (first | (refine And.intro rfl ?_; conv => whnf) | (refine And.intro (by decide) ?_; conv => whnf) | (refine draw_intro true (by kernel_rfl) ?_; conv => whnf) | (refine And.intro ⟨by omega, by omega⟩ ?_; conv => whnf) | (refine And.intro (by omega) ?_; conv => whnf) | (refine And.intro (fun _ => ⟨by omega, by omega⟩) ?_; conv => whnf) | (refine And.intro (fun _ => ?_) (fun h => absurd h ?_); rotate_left; (focus (first | decide | (simp; done) | (simp [tcs]; done))); conv => whnf) | (refine And.intro (fun h => absurd h ?_) (fun _ => ?_); (focus (first | decide | (simp; done) | (simp [tcs]; done))); conv => whnf) | (intro _; conv => whnf))
              all_goals (first | rfl | exact ⟨rfl, rfl⟩ | exact ⟨rfl, rfl, rfl⟩)
          · have hX : swX sig q = ((swL sig.length q).take sig.length).map (pickD sig (getL (swL sig.length q))) := by rw [hX, List.take_of_length_le (by rw [swL_len]; omega)]
            conv => whnf
            refine ⟨fun hlt => ?_, fun hlt => ?_⟩
            · replace hlt : (j : Int) < (dcs sig).length := of_decide_eq_true hlt
              obtain ⟨y, hy, hy0⟩ : ∃ y, (swL sig.length q)[j]? = some y ∧ 0 ≤ y ∧ y < sig.length := ⟨swF q j, swL_at hq1 (by omega), swF_in hq1 ⟨by omega, by omega⟩⟩
              have hyr := rowI_at hy
              obtain ⟨e, he⟩ : ∃ e, sig[y.toNat]? = some e := ⟨sig[y.toNat]'(by omega), List.getElem?_eq_getElem (by omega)⟩
              have hec := dcs_at he
              have hcr := cRRenum (swL sig.length q) e.c (fun x hx => by have := check_cn hc he x hx; rw [swL_len]; have := (List.getElem?_eq_some_iff.1 he).1; omega)
              have htk : ((swL sig.length q).take (j + 1)).map (pickD sig (getL (swL sig.length q))) = ((swL sig.length q).take j).map (pickD sig (getL (swL sig.length q))) ++ [⟨e.s, rnT (getL (swL sig.length q)) e.c, e.i⟩] := by
                rw [List.take_add_one, hy, List.map_append]
                simp [pickD_at he]
              have hml := len_dcs (((swL sig.length q).take j).map (pickD sig (getL (swL sig.length q))))
              have hul : (((swL sig.length q).take j).map (pickD sig (getL (swL sig.length q)))).length ≤ j := by simp; omega
              have hl2 : ((dcs (((swL sig.length q).take j).map (pickD sig (getL (swL sig.length q))))).length + 1) * 72 ≤ 140737488355328 := by omega
              have hl3 : (dcs (((swL sig.length q).take j).map (pickD sig (getL (swL sig.length q))))).length + 1 ≤ 9223372036854775807 := by omega
              generalize rnT (getL (swL sig.length q)) e.c = u at *
              obtain ⟨s', ⟨k', l', n', us⟩, i'⟩ := e
              obtain ⟨k2, l2, n2, us2⟩ := u
              rw [tv_mk] at hcr
              rw [tv_mk] at hcr
              conv => whnf
              refine ⟨_, ⟨by omega, by rw [Int.toNat_natCast]; exact hyr⟩, ?_⟩
              conv => whnf
              refine ⟨show 1 ≤ 1 by decide, ?_⟩
              conv => whnf
              refine ⟨_, ⟨hy0.1, hec⟩, ?_⟩
              conv => whnf
              refine ⟨show 6 ≤ 6 by decide, ?_⟩
              conv => whnf
              try (refine draw_intro true (by kernel_rfl) ?_; conv => whnf)
              refine CallSt.use hcr [] trivial (by decide) rfl ?_
              rintro _ _ ⟨rfl, rfl⟩ _
              conv => whnf
              repeat (first | (refine And.intro rfl ?_; conv => whnf) | (refine And.intro (by decide) ?_; conv => whnf) | (refine draw_intro true (by kernel_rfl) ?_; conv => whnf) | (refine And.intro ⟨by omega, by omega⟩ ?_; conv => whnf) | (refine And.intro (by omega) ?_; conv => whnf) | (refine And.intro (fun _ => ⟨by omega, by omega⟩) ?_; conv => whnf) | (refine And.intro (fun _ => ?_) (fun h => absurd h ?_); rotate_left; (focus (first | decide | (simp; done) | (simp [tcs]; done))); conv => whnf) | (refine And.intro (fun h => absurd h ?_) (fun _ => ?_); (focus (first | decide | (simp; done) | (simp [tcs]; done))); conv => whnf) | (intro _; conv => whnf))
              refine ⟨m - 1, _, _, by omega, ⟨j + 1, by omega, rfl, .inr rfl⟩, Wk.sel [0, 4] (by decide) (by decide) (by decide) ⟨rfl, ?_, trivial⟩ ⟨rfl, rfl, rfl, rfl, rfl, trivial⟩ rfl⟩
              rw [htk, ← dcs_snoc]
              rfl
            · replace hlt : ¬ (j : Int) < (dcs sig).length := of_decide_eq_false hlt
              obtain rfl : j = sig.length := by omega
              rw [hX]
              conv => whnf
              repeat (first | (refine And.intro rfl ?_; conv => whnf) | (refine And.intro (by decide) ?_; conv => whnf) | (refine draw_intro true (by kernel_rfl) ?_; conv => whnf) | (refine And.intro ⟨by omega, by omega⟩ ?_; conv => whnf) | (refine And.intro (by omega) ?_; conv => whnf) | (refine And.intro (fun _ => ⟨by omega, by omega⟩) ?_; conv => whnf) | (refine And.intro (fun _ => ?_) (fun h => absurd h ?_); rotate_left; (focus (first | decide | (simp; done) | (simp [tcs]; done))); conv => whnf) | (refine And.intro (fun h => absurd h ?_) (fun _ => ?_); (focus (first | decide | (simp; done) | (simp [tcs]; done))); conv => whnf) | (intro _; conv => whnf))
              all_goals (first | rfl | exact ⟨rfl, rfl⟩ | exact ⟨rfl, rfl, rfl⟩)
    · have hE : swapE sig q = 6 := by
        unfold swapE
        rw [he, decide_eq_true (show ((sig.length : Int) ≤ (q : Int) + 1) by omega)]
        rfl
      rw [show swapF sig q = [] by simp [swapF, hE], hE]
      refine call_pure (E := env 0) (fn := Tryz.f11) (c := bodyOf Tryz.f11) (env_ok 0) mixed (by kernel_rfl) (by kernel_rfl) (by kernel_rfl) (by kernel_rfl) (by kernel_rfl) (by kernel_rfl) rfl ?_
      conv => whnf
      try (refine draw_intro true (by kernel_rfl) ?_; conv => whnf)
      refine CallSt.use hhs [] trivial (by decide) rfl ?_
      rintro _ _ ⟨rfl, rfl⟩ _
      conv => whnf
      repeat (first | (refine And.intro rfl ?_; conv => whnf) | (refine And.intro (by decide) ?_; conv => whnf) | (refine draw_intro true (by kernel_rfl) ?_; conv => whnf) | (refine And.intro ⟨by omega, by omega⟩ ?_; conv => whnf) | (refine And.intro (by omega) ?_; conv => whnf) | (refine And.intro (fun _ => ⟨by omega, by omega⟩) ?_; conv => whnf) | (refine And.intro (fun _ => ?_) (fun h => absurd h ?_); rotate_left; (focus (first | decide | (simp; done) | (simp [tcs]; done))); conv => whnf) | (refine And.intro (fun h => absurd h ?_) (fun _ => ?_); (focus (first | decide | (simp; done) | (simp [tcs]; done))); conv => whnf) | (intro _; conv => whnf))
      (refine ⟨fun _ => ?_, fun h => absurd h (by simp; omega)⟩; conv => whnf)
      repeat (first | (refine And.intro rfl ?_; conv => whnf) | (refine And.intro (by decide) ?_; conv => whnf) | (refine draw_intro true (by kernel_rfl) ?_; conv => whnf) | (refine And.intro ⟨by omega, by omega⟩ ?_; conv => whnf) | (refine And.intro (by omega) ?_; conv => whnf) | (refine And.intro (fun _ => ⟨by omega, by omega⟩) ?_; conv => whnf) | (refine And.intro (fun _ => ?_) (fun h => absurd h ?_); rotate_left; (focus (first | decide | (simp; done) | (simp [tcs]; done))); conv => whnf) | (refine And.intro (fun h => absurd h ?_) (fun _ => ?_); (focus (first | decide | (simp; done) | (simp [tcs]; done))); conv => whnf) | (intro _; conv => whnf))
      all_goals (first | rfl | exact ⟨rfl, rfl⟩ | exact ⟨rfl, rfl, rfl⟩)
end Go.Tr
/- The reference's Without. -/
namespace Go.Tr
open Go.Proofs
/-- The new numbers without one. -/
def woN (n : Int) (i : Nat) : Int := if n < (i : Int) then (i : Int) - 1 else i
def woT (len : Nat) (n : Int) : List Int := (List.range len).map (woN n)
theorem woT_len (len : Nat) (n : Int) : (woT len n).length = len := by simp [woT]
theorem woT_succ (len : Nat) (n : Int) : woT (len + 1) n = woT len n ++ [woN n len] := by simp [woT, List.range_succ]
theorem woT_at {len : Nat} {n x : Int} (h : 0 ≤ x ∧ x < len) : getL (woT len n) x = if n < x then x - 1 else x := by
  unfold getL woT
  rw [List.getElem?_map, List.getElem?_range (by omega)]
  simp only [Option.map_some, Option.getD_some]
  unfold woN
  rw [show ((x.toNat : Nat) : Int) = x by omega]
theorem woL_split (n : Nat) : ∀ r : Nat, woL (n + 1 + r) (n : Int) = nums n ++ (List.range r).map (fun i : Nat => ((n + 1 + i : Nat) : Int))
  | 0 => by rw [Nat.add_zero, nums_eq]; simp
  | r + 1 => by
    have ih := woL_split n r
    unfold woL at ih ⊢
    rw [show n + 1 + (r + 1) = (n + 1 + r) + 1 by omega, upTo_yes (by simp; omega), ih, List.range_succ, List.map_append, ← List.append_assoc]
    rfl
theorem woL_at {len n : Nat} (h : n < len) {x : Int} (hx : 0 ≤ x ∧ x < len) (hne : x ≠ n) : (woL len n)[((if (n : Int) < x then x - 1 else x)).toNat]? = some x := by
  obtain ⟨r, rfl⟩ : ∃ r, len = n + 1 + r := ⟨len - n - 1, by omega⟩
  rw [woL_split]
  split
  · rw [List.getElem?_append_right (by rw [nums_len]; omega), nums_len, List.getElem?_map, List.getElem?_range (by omega)]
    simp only [Option.map_some, Option.some.injEq]
    omega
  · rw [List.getElem?_append_left (by rw [nums_len]; omega), nums_at (by omega)]
    simp only [Option.some.injEq]
    omega
theorem upTo_asc (p : Nat → Bool) : ∀ j, (upTo p j).Pairwise (· < ·)
  | 0 => by simp [upTo]
  | j + 1 => by
    cases h : p j with
    | true =>
      rw [upTo_yes h, List.pairwise_append]
      refine ⟨upTo_asc p j, by simp, fun a ha b hb => ?_⟩
      obtain ⟨i, rfl, hi, _⟩ := upTo_mem.1 ha
      simp at hb
      omega
    | false => rw [upTo_no h]; exact upTo_asc p j
theorem woL_nd (len : Nat) (n : Int) : ∀ (i j : Nat) a, i < j → (woL len n)[i]? = some a → (woL len n)[j]? = some a → False := by
  intro i j a hij hi hj
  have hs : (woL len n).Pairwise (· < ·) := upTo_asc _ _
  have h1 := List.pairwise_iff_getElem.1 hs i j (List.getElem?_eq_some_iff.1 hi).1 (List.getElem?_eq_some_iff.1 hj).1 hij
  rw [(List.getElem?_eq_some_iff.1 hi).2, (List.getElem?_eq_some_iff.1 hj).2] at h1
  omega
theorem without_eq {sig : List Dcl} (hc : checkB sig = true) {n : Nat} (h : n < sig.length) (hu : useAny sig n = false) : chosenF sig (woL sig.length n) = (woL sig.length n).map (pickD sig (getL (woT sig.length n))) := by
  unfold chosenF
  refine List.map_congr_left fun m hm => pickD_congr fun d hd x hx => ?_
  have hb := check_cn hc hd x hx
  have hlt := (List.getElem?_eq_some_iff.1 hd).1
  have hne : x ≠ n := fun e => by
    unfold useAny at hu
    rw [List.any_eq_false] at hu
    have := hu d (List.mem_of_getElem? hd)
    rw [uses_cn] at this
    exact this (e ▸ hx)
  have h1 := mget_at (woL_nd sig.length n) (woL_at h ⟨hb.1, by omega⟩ hne)
  rw [h1, woT_at ⟨hb.1, by omega⟩]
  split <;> omega
theorem cRWithout (sig : List Dcl) (hc : checkB sig = true) (n : Int) : CallSt Tryz.prog 12 [.c (.sl 6 72 (dcs sig)), .c (.int .i64 (n))] [] (fun r H' => r = .tup [.c (.sl 6 72 (dcs (withoutF sig n))), .c (.int .i64 (withoutE sig n))] ∧ H' = []) := by
  have hsl := check_len hc
  have hbl := len_dcs sig
  have hhs := cRHas sig n
  rcases hasE_cases sig n with ⟨_, hc0⟩ | ⟨he, _, hn⟩ | ⟨he, _, hn⟩
  · rw [hc] at hc0; cases hc0
  · rw [show withoutF sig n = [] by simp [withoutF, withoutE, he], show withoutE sig n = 6 by simp [withoutE, he]]
    rw [show (decide (0 ≤ n) && decide (n < (sig.length : Int))) = false by
      rw [Bool.and_eq_false_iff, decide_eq_false_iff_not, decide_eq_false_iff_not]; omega] at hhs
    refine call_pure (E := env 0) (fn := Tryz.f12) (c := bodyOf Tryz.f12) (env_ok 0) mixed (by kernel_rfl) (by kernel_rfl) (by kernel_rfl) (by kernel_rfl) (by kernel_rfl) (by kernel_rfl) rfl ?_
    conv => whnf
    try (refine draw_intro true (by kernel_rfl) ?_; conv => whnf)
    refine CallSt.use hhs [] trivial (by decide) rfl ?_
    rintro _ _ ⟨rfl, rfl⟩ _
    conv => whnf
    repeat (first | (refine And.intro rfl ?_; conv => whnf) | (refine And.intro (by decide) ?_; conv => whnf) | (refine draw_intro true (by kernel_rfl) ?_; conv => whnf) | (refine And.intro ⟨by omega, by omega⟩ ?_; conv => whnf) | (refine And.intro (by omega) ?_; conv => whnf) | (refine And.intro (fun _ => ⟨by omega, by omega⟩) ?_; conv => whnf) | (refine And.intro (fun _ => ?_) (fun h => absurd h ?_); rotate_left; (focus (first | decide | (simp; done) | (simp [tcs]; done))); conv => whnf) | (refine And.intro (fun h => absurd h ?_) (fun _ => ?_); (focus (first | decide | (simp; done) | (simp [tcs]; done))); conv => whnf) | (intro _; conv => whnf))
    all_goals (first | rfl | exact ⟨rfl, rfl⟩ | exact ⟨rfl, rfl, rfl⟩)
  · rw [show (decide (0 ≤ n) && decide (n < (sig.length : Int))) = true by
      rw [Bool.and_eq_true, decide_eq_true_eq, decide_eq_true_eq]; omega] at hhs
    have hE : withoutE sig n = match useAny sig n with | true => 27 | false => 0 := by
      unfold withoutE
      rw [he]
      rfl
    have e1 : useAny sig n = true → withoutF sig n = [] ∧ withoutE sig n = 27 := fun h => by
      have : withoutE sig n = 27 := by rw [hE, h]
      exact ⟨by simp [withoutF, this], this⟩
    have e2 : useAny sig n = false → withoutF sig n = (woL sig.length n).map (pickD sig (getL (woT sig.length n))) ∧ withoutE sig n = 0 := fun h => by
      have h0 : withoutE sig n = 0 := by rw [hE, h]
      refine ⟨?_, h0⟩
      obtain ⟨q, _, rfl, hq, _⟩ := get_nat hn
      rw [← without_eq hc hq h]
      simp [withoutF, h0]
    clear hE
    generalize withoutF sig n = X at *
    generalize withoutE sig n = E at *
    refine call_pure (E := env 0) (fn := Tryz.f12) (c := bodyOf Tryz.f12) (env_ok 0) mixed (by kernel_rfl) (by kernel_rfl) (by kernel_rfl) (by kernel_rfl) (by kernel_rfl) (by kernel_rfl) rfl ?_
    conv => whnf
    try (refine draw_intro true (by kernel_rfl) ?_; conv => whnf)
    refine CallSt.use hhs [] trivial (by decide) rfl ?_
    rintro _ _ ⟨rfl, rfl⟩ _
    conv => whnf
    repeat (first | (refine And.intro rfl ?_; conv => whnf) | (refine And.intro (by decide) ?_; conv => whnf) | (refine draw_intro true (by kernel_rfl) ?_; conv => whnf) | (refine And.intro ⟨by omega, by omega⟩ ?_; conv => whnf) | (refine And.intro (by omega) ?_; conv => whnf) | (refine And.intro (fun _ => ⟨by omega, by omega⟩) ?_; conv => whnf) | (refine And.intro (fun _ => ?_) (fun h => absurd h ?_); rotate_left; (focus (first | decide | (simp; done) | (simp [tcs]; done))); conv => whnf) | (refine And.intro (fun h => absurd h ?_) (fun _ => ?_); (focus (first | decide | (simp; done) | (simp [tcs]; done))); conv => whnf) | (intro _; conv => whnf))
    refine loop_intro (fun m tm H => ∃ j : Nat, sig.length = m + j ∧ (∀ (q : Nat) e, q < j → sig[q]? = some e → usesT n e.c = false) ∧
      tm = [(18, .c (.int .i64 (j))), (17, .c (.int .i64 ((dcs sig).length))), (0, .c (.sl 6 72 (dcs sig))), (1, .c (.int .i64 (n))), (6, .own 0)] ∧ H = [.row 3 1 8 (rowI (woT j n))])
      sig.length _ _ ⟨0, by omega, fun q e hq => absurd hq (by omega), rfl, rfl⟩ ?_ ?_
    · refine Wk.trans (tm1 := [(18, .c (.int .i64 (0))), (17, .c (.int .i64 ((dcs sig).length))), (0, .c (.sl 6 72 (dcs sig))), (1, .c (.int .i64 (n))), (6, .nil)]) (H1 := []) ?_ (Wk.trans (Wk.niltmp 6 3 1 8 rfl rfl) ?_)
      · exact Wk.sel [] (by decide) (by decide) (by decide) trivial ⟨rfl, rfl, rfl, rfl, rfl, trivial⟩ rfl
      · exact Wk.sel [0] (by decide) (by decide) (by decide) ⟨rfl, trivial⟩ ⟨rfl, rfl, rfl, rfl, rfl, trivial⟩ rfl
    rintro m tm H ⟨j, hj, hall, rfl, rfl⟩
    conv => whnf
    refine ⟨fun hlt => ?_, fun hlt => ?_⟩
    · replace hlt : (j : Int) < (dcs sig).length := of_decide_eq_true hlt
      obtain ⟨e, hee⟩ : ∃ e, sig[j]? = some e := ⟨sig[j]'(by omega), List.getElem?_eq_getElem (by omega)⟩
      have hus := cRUses sig j n (by omega) e (by simpa using hee) (check_prop hc e (List.mem_of_getElem? hee))
      have hyes : usesT n e.c = true → useAny sig n = true := fun h => List.any_eq_true.2 ⟨e, List.mem_of_getElem? hee, h⟩
      have hno : usesT n e.c = false → ∀ (q : Nat) x, q < j + 1 → sig[q]? = some x → usesT n x.c = false := fun hf q x hq hx => by
        by_cases hqj : q < j
        · exact hall q x hqj hx
        · obtain rfl : q = j := by omega
          rw [hee] at hx
          injection hx with hx
          subst hx
          exact hf
      have hrl := len_rowI (woT j n)
      have hwl := woT_len j n
      have hl2 : ((rowI (woT j n)).length + 1) * 8 ≤ 140737488355328 := by omega
      have hl3 : (rowI (woT j n)).length + 1 ≤ 9223372036854775807 := by omega
      generalize usesT n e.c = b at *
      conv => whnf
      try (refine draw_intro true (by kernel_rfl) ?_; conv => whnf)
      refine CallSt.use hus [] trivial (by decide) rfl ?_
      rintro _ _ ⟨rfl, rfl⟩ _
      conv => whnf
      cases b with
      | true =>
        obtain ⟨rfl, rfl⟩ := e1 (hyes rfl)
        repeat (first | (refine And.intro rfl ?_; conv => whnf) | (refine And.intro (by decide) ?_; conv => whnf) | (refine draw_intro true (by kernel_rfl) ?_; conv => whnf) | (refine And.intro ⟨by omega, by omega⟩ ?_; conv => whnf) | (refine And.intro (by omega) ?_; conv => whnf) | (refine And.intro (fun _ => ⟨by omega, by omega⟩) ?_; conv => whnf) | (refine And.intro (fun _ => ?_) (fun h => absurd h ?_); rotate_left; (focus (first | decide | (simp; done) | (simp [tcs]; done))); conv => whnf) | (refine And.intro (fun h => absurd h ?_) (fun _ => ?_); (focus (first | decide | (simp; done) | (simp [tcs]; done))); conv => whnf) | (intro _; conv => whnf))
        all_goals (first | rfl | exact ⟨rfl, rfl⟩ | exact ⟨rfl, rfl, rfl⟩)
      | false =>
        (refine ⟨fun h => absurd h ?_, fun _ => ?_⟩; (focus (first | decide | (simp; done) | (simp [tcs]; done))); conv => whnf)
        repeat (first | (refine And.intro rfl ?_; conv => whnf) | (refine And.intro (by decide) ?_; conv => whnf) | (refine draw_intro true (by kernel_rfl) ?_; conv => whnf) | (refine And.intro ⟨by omega, by omega⟩ ?_; conv => whnf) | (refine And.intro (by omega) ?_; conv => whnf) | (refine And.intro (fun _ => ⟨by omega, by omega⟩) ?_; conv => whnf) | (refine And.intro (fun _ => ?_) (fun h => absurd h ?_); rotate_left; (focus (first | decide | (simp; done) | (simp [tcs]; done))); conv => whnf) | (refine And.intro (fun h => absurd h ?_) (fun _ => ?_); (focus (first | decide | (simp; done) | (simp [tcs]; done))); conv => whnf) | (intro _; conv => whnf))
        refine ⟨fun hgt => ?_, fun hgt => ?_⟩
        · have hgt' : n < (j : Int) := of_decide_eq_true hgt
          have hw : woN n j = (j : Int) - 1 := by unfold woN; rw [if_pos hgt']
          conv => whnf
          refine ⟨⟨by omega, by omega⟩, ?_⟩
          conv => whnf
          refine ⟨by decide, ?_⟩
          conv => whnf
          refine ⟨by decide, ?_⟩
          conv => whnf
          refine ⟨hl2, hl3, ?_⟩
          conv => whnf
          refine ⟨⟨by omega, by omega⟩, ?_⟩
          conv => whnf
          refine ⟨m - 1, _, _, by omega, ⟨j + 1, by omega, hno rfl, rfl, rfl⟩, Wk.sel [2] (by decide) (by decide) (by decide) ⟨?_, trivial⟩ ⟨rfl, rfl, rfl, rfl, rfl, trivial⟩ rfl⟩
          rw [woT_succ, hw, ← rowI_snoc]
          rfl
        · have hgt' : ¬ n < (j : Int) := of_decide_eq_false hgt
          have hw : woN n j = (j : Int) := by unfold woN; rw [if_neg hgt']
          conv => whnf
          refine ⟨by decide, ?_⟩
          conv => whnf
          refine ⟨by decide, ?_⟩
          conv => whnf
          refine ⟨hl2, hl3, ?_⟩
          conv => whnf
          refine ⟨⟨by omega, by omega⟩, ?_⟩
          conv => whnf
          refine ⟨m - 1, _, _, by omega, ⟨j + 1, by omega, hno rfl, rfl, rfl⟩, Wk.sel [2] (by decide) (by decide) (by decide) ⟨?_, trivial⟩ ⟨rfl, rfl, rfl, rfl, rfl, trivial⟩ rfl⟩
          rw [woT_succ, hw, ← rowI_snoc]
          rfl
    · replace hlt : ¬ (j : Int) < (dcs sig).length := of_decide_eq_false hlt
      obtain rfl : j = sig.length := by omega
      obtain ⟨hX, rfl⟩ := e2 (by
        unfold useAny
        rw [List.any_eq_false]
        intro e he'
        obtain ⟨q, hq⟩ := List.mem_iff_getElem?.1 he'
        rw [hall q e (List.getElem?_eq_some_iff.1 hq).1 hq]
        simp)
      have hX : X = (upTo (fun i : Nat => !decide ((i : Int) = n)) sig.length).map (pickD sig (getL (woT sig.length n))) := hX
      conv => whnf
      repeat (first | (refine And.intro rfl ?_; conv => whnf) | (refine And.intro (by decide) ?_; conv => whnf) | (refine draw_intro true (by kernel_rfl) ?_; conv => whnf) | (refine And.intro ⟨by omega, by omega⟩ ?_; conv => whnf) | (refine And.intro (by omega) ?_; conv => whnf) | (refine And.intro (fun _ => ⟨by omega, by omega⟩) ?_; conv => whnf) | (refine And.intro (fun _ => ?_) (fun h => absurd h ?_); rotate_left; (focus (first | decide | (simp; done) | (simp [tcs]; done))); conv => whnf) | (refine And.intro (fun h => absurd h ?_) (fun _ => ?_); (focus (first | decide | (simp; done) | (simp [tcs]; done))); conv => whnf) | (intro _; conv => whnf))
      refine loop_intro (fun m tm H => ∃ j : Nat, sig.length = m + j ∧
        tm = [(38, .c (.int .i64 (j))), (37, .c (.int .i64 ((dcs sig).length))), (36, .c (.sl 6 72 (dcs sig))), (1, .c (.int .i64 (n))), (6, .own 0), (9, .own 1)] ∧
        (H = [.row 3 1 8 (rowI (woT sig.length n)), .row 39 6 72 (dcs ((upTo (fun i : Nat => !decide ((i : Int) = n)) j).map (pickD sig (getL (woT sig.length n)))))] ∨
          H = [.frz (.sl 1 8 (rowI (woT sig.length n))), .row 39 6 72 (dcs ((upTo (fun i : Nat => !decide ((i : Int) = n)) j).map (pickD sig (getL (woT sig.length n)))))]))
        sig.length _ _ ⟨0, by omega, rfl, .inl rfl⟩ ?_ ?_
      · refine Wk.trans (tm1 := [(38, .c (.int .i64 (0))), (37, .c (.int .i64 ((dcs sig).length))), (36, .c (.sl 6 72 (dcs sig))), (1, .c (.int .i64 (n))), (6, .own 0), (9, .nil)]) (H1 := [.row 3 1 8 (rowI (woT sig.length n))]) ?_ (Wk.trans (Wk.niltmp 9 39 6 72 rfl rfl) ?_)
        · exact Wk.sel [0] (by decide) (by decide) (by decide) ⟨rfl, trivial⟩ ⟨rfl, rfl, rfl, rfl, rfl, rfl, trivial⟩ rfl
        · exact Wk.sel [0, 1] (by decide) (by decide) (by decide) ⟨rfl, rfl, trivial⟩ ⟨rfl, rfl, rfl, rfl, rfl, rfl, trivial⟩ rfl
      rintro m tm H ⟨j, hj, rfl, (rfl | rfl)⟩
      · conv => whnf
        refine ⟨fun hlt => ?_, fun hlt => ?_⟩
        · replace hlt : (j : Int) < (dcs sig).length := of_decide_eq_true hlt
          obtain ⟨e, he⟩ : ∃ e, sig[j]? = some e := ⟨sig[j]'(by omega), List.getElem?_eq_getElem (by omega)⟩
          have hec := dcs_at he
          have hcr := cRRenum (woT sig.length n) e.c (fun x hx => by have := check_cn hc he x hx; rw [woT_len]; omega)
          have hml := len_dcs ((upTo (fun i : Nat => !decide ((i : Int) = n)) j).map (pickD sig (getL (woT sig.length n))))
          have hul : ((upTo (fun i : Nat => !decide ((i : Int) = n)) j).map (pickD sig (getL (woT sig.length n)))).length ≤ j := by rw [List.length_map]; exact upTo_len _ _
          have hl2 : ((dcs ((upTo (fun i : Nat => !decide ((i : Int) = n)) j).map (pickD sig (getL (woT sig.length n))))).length + 1) * 72 ≤ 140737488355328 := by omega
          have hl3 : (dcs ((upTo (fun i : Nat => !decide ((i : Int) = n)) j).map (pickD sig (getL (woT sig.length n))))).length + 1 ≤ 9223372036854775807 := by omega
          have hpk : pickD sig (getL (woT sig.length n)) j = ⟨e.s, rnT (getL (woT sig.length n)) e.c, e.i⟩ := pickD_at (by simpa using he)
          generalize rnT (getL (woT sig.length n)) e.c = u at *
          obtain ⟨s', ⟨k', l', n', us⟩, i'⟩ := e
          obtain ⟨k2, l2, n2, us2⟩ := u
          rw [tv_mk] at hcr
          rw [tv_mk] at hcr
          conv => whnf
          refine ⟨_, ⟨by omega, hec⟩, ?_⟩
          conv => whnf
          refine ⟨show 6 ≤ 6 by decide, ?_⟩
          conv => whnf
          refine ⟨fun hjn => ?_, fun hjn => ?_⟩
          · have hp : (fun i : Nat => !decide ((i : Int) = n)) j = false := by simp only; rw [hjn]; rfl
            conv => whnf
            refine ⟨⟨by omega, by omega⟩, ?_⟩
            conv => whnf
            refine ⟨m - 1, _, _, by omega, ⟨j + 1, by omega, rfl, .inl rfl⟩, Wk.sel [0, 1] (by decide) (by decide) (by decide) ⟨rfl, ?_, trivial⟩ ⟨rfl, rfl, rfl, rfl, rfl, rfl, trivial⟩ rfl⟩
            rw [upTo_no hp]
            rfl
          · have hp : (fun i : Nat => !decide ((i : Int) = n)) j = true := by simp only; rw [hjn]; rfl
            conv => whnf
            try (refine draw_intro true (by kernel_rfl) ?_; conv => whnf)
            refine CallSt.use hcr [] trivial (by decide) rfl ?_
            rintro _ _ ⟨rfl, rfl⟩ _
            conv => whnf
            repeat (first | (refine And.intro rfl ?_; conv => whnf) | (refine And.intro (by decide) ?_; conv => whnf) | (refine draw_intro true (by kernel_rfl) ?_; conv => whnf) | (refine And.intro ⟨by omega, by omega⟩ ?_; conv => whnf) | (refine And.intro (by omega) ?_; conv => whnf) | (refine And.intro (fun _ => ⟨by omega, by omega⟩) ?_; conv => whnf) | (refine And.intro (fun _ => ?_) (fun h => absurd h ?_); rotate_left; (focus (first | decide | (simp; done) | (simp [tcs]; done))); conv => whnf) | (refine And.intro (fun h => absurd h ?_) (fun _ => ?_); (focus (first | decide | (simp; done) | (simp [tcs]; done))); conv => whnf) | (intro _; conv => whnf))
            refine ⟨m - 1, _, _, by omega, ⟨j + 1, by omega, rfl, .inr rfl⟩, Wk.sel [0, 4] (by decide) (by decide) (by decide) ⟨rfl, ?_, trivial⟩ ⟨rfl, rfl, rfl, rfl, rfl, rfl, trivial⟩ rfl⟩
            have htk : dcs ((upTo (fun i : Nat => !decide ((i : Int) = n)) (j + 1)).map (pickD sig (getL (woT sig.length n)))) = dcs ((upTo (fun i : Nat => !decide ((i : Int) = n)) j).map (pickD sig (getL (woT sig.length n)))) ++ [dc ⟨s', ⟨k2, l2, n2, us2⟩, i'⟩] := by
              rw [upTo_yes hp, List.map_append, dcs_snoc, ← hpk]
              rfl
            rw [htk]
            rfl
        · replace hlt : ¬ (j : Int) < (dcs sig).length := of_decide_eq_false hlt
          obtain rfl : j = sig.length := by omega
          have hX2 : X = (upTo (fun i : Nat => !decide ((i : Int) = n)) sig.length).map (pickD sig (getL (woT sig.length n))) := hX
          rw [hX2]
          conv => whnf
          repeat (first | (refine And.intro rfl ?_; conv => whnf) | (refine And.intro (by decide) ?_; conv => whnf) | (refine draw_intro true (by kernel_rfl) ?_; conv => whnf) | (refine And.intro ⟨by omega, by omega⟩ ?_; conv => whnf) | (refine And.intro (by omega) ?_; conv => whnf) | (refine And.intro (fun _ => ⟨by omega, by omega⟩) ?_; conv => whnf) | (refine And.intro (fun _ => ?_) (fun h => absurd h ?_); rotate_left; (focus (first | decide | (simp; done) | (simp [tcs]; done))); conv => whnf) | (refine And.intro (fun h => absurd h ?_) (fun _ => ?_); (focus (first | decide | (simp; done) | (simp [tcs]; done))); conv => whnf) | (intro _; conv => whnf))
          all_goals (first | rfl | exact ⟨rfl, rfl⟩ | exact ⟨rfl, rfl, rfl⟩)
      · conv => whnf
        refine ⟨fun hlt => ?_, fun hlt => ?_⟩
        · replace hlt : (j : Int) < (dcs sig).length := of_decide_eq_true hlt
          obtain ⟨e, he⟩ : ∃ e, sig[j]? = some e := ⟨sig[j]'(by omega), List.getElem?_eq_getElem (by omega)⟩
          have hec := dcs_at he
          have hcr := cRRenum (woT sig.length n) e.c (fun x hx => by have := check_cn hc he x hx; rw [woT_len]; omega)
          have hml := len_dcs ((upTo (fun i : Nat => !decide ((i : Int) = n)) j).map (pickD sig (getL (woT sig.length n))))
          have hul : ((upTo (fun i : Nat => !decide ((i : Int) = n)) j).map (pickD sig (getL (woT sig.length n)))).length ≤ j := by rw [List.length_map]; exact upTo_len _ _
          have hl2 : ((dcs ((upTo (fun i : Nat => !decide ((i : Int) = n)) j).map (pickD sig (getL (woT sig.length n))))).length + 1) * 72 ≤ 140737488355328 := by omega
          have hl3 : (dcs ((upTo (fun i : Nat => !decide ((i : Int) = n)) j).map (pickD sig (getL (woT sig.length n))))).length + 1 ≤ 9223372036854775807 := by omega
          have hpk : pickD sig (getL (woT sig.length n)) j = ⟨e.s, rnT (getL (woT sig.length n)) e.c, e.i⟩ := pickD_at (by simpa using he)
          generalize rnT (getL (woT sig.length n)) e.c = u at *
          obtain ⟨s', ⟨k', l', n', us⟩, i'⟩ := e
          obtain ⟨k2, l2, n2, us2⟩ := u
          rw [tv_mk] at hcr
          rw [tv_mk] at hcr
          conv => whnf
          refine ⟨_, ⟨by omega, hec⟩, ?_⟩
          conv => whnf
          refine ⟨show 6 ≤ 6 by decide, ?_⟩
          conv => whnf
          refine ⟨fun hjn => ?_, fun hjn => ?_⟩
          · have hp : (fun i : Nat => !decide ((i : Int) = n)) j = false := by simp only; rw [hjn]; rfl
            conv => whnf
            refine ⟨⟨by omega, by omega⟩, ?_⟩
            conv => whnf
            refine ⟨m - 1, _, _, by omega, ⟨j + 1, by omega, rfl, .inr rfl⟩, Wk.sel [0, 1] (by decide) (by decide) (by decide) ⟨rfl, ?_, trivial⟩ ⟨rfl, rfl, rfl, rfl, rfl, rfl, trivial⟩ rfl⟩
            rw [upTo_no hp]
            rfl
          · have hp : (fun i : Nat => !decide ((i : Int) = n)) j = true := by simp only; rw [hjn]; rfl
            conv => whnf
            try (refine draw_intro true (by kernel_rfl) ?_; conv => whnf)
            refine CallSt.use hcr [] trivial (by decide) rfl ?_
            rintro _ _ ⟨rfl, rfl⟩ _
            conv => whnf
            repeat (first | (refine And.intro rfl ?_; conv => whnf) | (refine And.intro (by decide) ?_; conv => whnf) | (refine draw_intro true (by kernel_rfl) ?_; conv => whnf) | (refine And.intro ⟨by omega, by omega⟩ ?_; conv => whnf) | (refine And.intro (by omega) ?_; conv => whnf) | (refine And.intro (fun _ => ⟨by omega, by omega⟩) ?_; conv => whnf) | (refine And.intro (fun _ => ?_) (fun h => absurd h ?_); rotate_left; (focus (first | decide | (simp; done) | (simp [tcs]; done))); conv => whnf) | (refine And.intro (fun h => absurd h ?_) (fun _ => ?_); (focus (first | decide | (simp; done) | (simp [tcs]; done))); conv => whnf) | (intro _; conv => whnf))
            refine ⟨m - 1, _, _, by omega, ⟨j + 1, by omega, rfl, .inr rfl⟩, Wk.sel [0, 4] (by decide) (by decide) (by decide) ⟨rfl, ?_, trivial⟩ ⟨rfl, rfl, rfl, rfl, rfl, rfl, trivial⟩ rfl⟩
            have htk : dcs ((upTo (fun i : Nat => !decide ((i : Int) = n)) (j + 1)).map (pickD sig (getL (woT sig.length n)))) = dcs ((upTo (fun i : Nat => !decide ((i : Int) = n)) j).map (pickD sig (getL (woT sig.length n)))) ++ [dc ⟨s', ⟨k2, l2, n2, us2⟩, i'⟩] := by
              rw [upTo_yes hp, List.map_append, dcs_snoc, ← hpk]
              rfl
            rw [htk]
            rfl
        · replace hlt : ¬ (j : Int) < (dcs sig).length := of_decide_eq_false hlt
          obtain rfl : j = sig.length := by omega
          have hX2 : X = (upTo (fun i : Nat => !decide ((i : Int) = n)) sig.length).map (pickD sig (getL (woT sig.length n))) := hX
          rw [hX2]
          conv => whnf
          repeat (first | (refine And.intro rfl ?_; conv => whnf) | (refine And.intro (by decide) ?_; conv => whnf) | (refine draw_intro true (by kernel_rfl) ?_; conv => whnf) | (refine And.intro ⟨by omega, by omega⟩ ?_; conv => whnf) | (refine And.intro (by omega) ?_; conv => whnf) | (refine And.intro (fun _ => ⟨by omega, by omega⟩) ?_; conv => whnf) | (refine And.intro (fun _ => ?_) (fun h => absurd h ?_); rotate_left; (focus (first | decide | (simp; done) | (simp [tcs]; done))); conv => whnf) | (refine And.intro (fun h => absurd h ?_) (fun _ => ?_); (focus (first | decide | (simp; done) | (simp [tcs]; done))); conv => whnf) | (intro _; conv => whnf))
          all_goals (first | rfl | exact ⟨rfl, rfl⟩ | exact ⟨rfl, rfl, rfl⟩)
end Go.Tr
/- The law SignChanges. -/
namespace Go.Tr
open Go.Proofs
set_option maxRecDepth 100000 in
theorem cSignChanges (sig : List Dcl) (n : Int) (s : ByteArray) : CallSt Tryz.prog 3 [.c (.sl 6 72 (dcs sig)), .c (.int .i64 (n)), .c (.str s)] [] (fun r H' => r = .c (.bool true) ∧ H' = []) := by
  have h1 := cRename sig n s
  have h2 := cSwap sig n
  have h3 := cWithout sig n
  have h4 := cRFormed sig
  have haw := cAwakeL
  cases hc : checkB sig with
  | false =>
    have he : hasE sig n = 2 := by unfold hasE; rw [hc]
    have hg := cGivesN [] 0
    rw [show renameF sig n s = [] by simp [renameF, renameE, he], show renameE sig n s = 2 by simp [renameE, he]] at h1
    rw [show swapF sig n = [] by simp [swapF, swapE, he], show swapE sig n = 2 by simp [swapE, he]] at h2
    rw [show withoutF sig n = [] by simp [withoutF, withoutE, he], show withoutE sig n = 2 by simp [withoutE, he]] at h3
    rw [hc] at h4
    refine call_pure (E := env 0) (fn := Tryz.f3) (c := bodyOf Tryz.f3) (env_ok 0) mixed (by kernel_rfl) (by kernel_rfl) (by kernel_rfl) (by kernel_rfl) (by kernel_rfl) (by kernel_rfl) rfl ?_
    conv => whnf
    try (refine draw_intro true (by kernel_rfl) ?_; conv => whnf)
    refine CallSt.use h1 [] trivial (by decide) rfl ?_
    rintro _ _ ⟨rfl, rfl⟩ _
    conv => whnf
    try (refine draw_intro true (by kernel_rfl) ?_; conv => whnf)
    refine CallSt.use h2 [] trivial (by decide) rfl ?_
    rintro _ _ ⟨rfl, rfl⟩ _
    conv => whnf
    try (refine draw_intro true (by kernel_rfl) ?_; conv => whnf)
    refine CallSt.use h3 [] trivial (by decide) rfl ?_
    rintro _ _ ⟨rfl, rfl⟩ _
    conv => whnf
    try (refine draw_intro true (by kernel_rfl) ?_; conv => whnf)
    refine CallSt.use h4 [] trivial (by decide) rfl ?_
    rintro _ _ ⟨rfl, rfl⟩ _
    conv => whnf
    repeat (first | (refine And.intro rfl ?_; conv => whnf) | (refine And.intro (by decide) ?_; conv => whnf) | (refine draw_intro true (by kernel_rfl) ?_; conv => whnf) | (refine And.intro ⟨by omega, by omega⟩ ?_; conv => whnf) | (refine And.intro (by omega) ?_; conv => whnf) | (refine And.intro (fun _ => ⟨by omega, by omega⟩) ?_; conv => whnf) | (refine And.intro (fun _ => ?_) (fun h => absurd h ?_); rotate_left; (focus (first | decide | (simp; done) | (simp [tcs]; done))); conv => whnf) | (refine And.intro (fun h => absurd h ?_) (fun _ => ?_); (focus (first | decide | (simp; done) | (simp [tcs]; done))); conv => whnf) | (intro _; conv => whnf))
    try (refine draw_intro true (by kernel_rfl) ?_; conv => whnf)
    refine CallSt.use hg [] trivial (by decide) rfl ?_
    rintro _ _ ⟨rfl, rfl⟩ _
    conv => whnf
    repeat (first | (refine And.intro rfl ?_; conv => whnf) | (refine And.intro (by decide) ?_; conv => whnf) | (refine draw_intro true (by kernel_rfl) ?_; conv => whnf) | (refine And.intro ⟨by omega, by omega⟩ ?_; conv => whnf) | (refine And.intro (by omega) ?_; conv => whnf) | (refine And.intro (fun _ => ⟨by omega, by omega⟩) ?_; conv => whnf) | (refine And.intro (fun _ => ?_) (fun h => absurd h ?_); rotate_left; (focus (first | decide | (simp; done) | (simp [tcs]; done))); conv => whnf) | (refine And.intro (fun h => absurd h ?_) (fun _ => ?_); (focus (first | decide | (simp; done) | (simp [tcs]; done))); conv => whnf) | (intro _; conv => whnf))
    try (refine draw_intro true (by kernel_rfl) ?_; conv => whnf)
    refine CallSt.use hg [] trivial (by decide) rfl ?_
    rintro _ _ ⟨rfl, rfl⟩ _
    conv => whnf
    repeat (first | (refine And.intro rfl ?_; conv => whnf) | (refine And.intro (by decide) ?_; conv => whnf) | (refine draw_intro true (by kernel_rfl) ?_; conv => whnf) | (refine And.intro ⟨by omega, by omega⟩ ?_; conv => whnf) | (refine And.intro (by omega) ?_; conv => whnf) | (refine And.intro (fun _ => ⟨by omega, by omega⟩) ?_; conv => whnf) | (refine And.intro (fun _ => ?_) (fun h => absurd h ?_); rotate_left; (focus (first | decide | (simp; done) | (simp [tcs]; done))); conv => whnf) | (refine And.intro (fun h => absurd h ?_) (fun _ => ?_); (focus (first | decide | (simp; done) | (simp [tcs]; done))); conv => whnf) | (intro _; conv => whnf))
    try (refine draw_intro true (by kernel_rfl) ?_; conv => whnf)
    refine CallSt.use hg [] trivial (by decide) rfl ?_
    rintro _ _ ⟨rfl, rfl⟩ _
    conv => whnf
    repeat (first | (refine And.intro rfl ?_; conv => whnf) | (refine And.intro (by decide) ?_; conv => whnf) | (refine draw_intro true (by kernel_rfl) ?_; conv => whnf) | (refine And.intro ⟨by omega, by omega⟩ ?_; conv => whnf) | (refine And.intro (by omega) ?_; conv => whnf) | (refine And.intro (fun _ => ⟨by omega, by omega⟩) ?_; conv => whnf) | (refine And.intro (fun _ => ?_) (fun h => absurd h ?_); rotate_left; (focus (first | decide | (simp; done) | (simp [tcs]; done))); conv => whnf) | (refine And.intro (fun h => absurd h ?_) (fun _ => ?_); (focus (first | decide | (simp; done) | (simp [tcs]; done))); conv => whnf) | (intro _; conv => whnf))
    try (refine draw_intro true (by kernel_rfl) ?_; conv => whnf)
    refine CallSt.use haw [] trivial (by decide) rfl ?_
    rintro _ _ ⟨rfl, rfl⟩ _
    conv => whnf
    repeat (first | (refine And.intro rfl ?_; conv => whnf) | (refine And.intro (by decide) ?_; conv => whnf) | (refine draw_intro true (by kernel_rfl) ?_; conv => whnf) | (refine And.intro ⟨by omega, by omega⟩ ?_; conv => whnf) | (refine And.intro (by omega) ?_; conv => whnf) | (refine And.intro (fun _ => ⟨by omega, by omega⟩) ?_; conv => whnf) | (refine And.intro (fun _ => ?_) (fun h => absurd h ?_); rotate_left; (focus (first | decide | (simp; done) | (simp [tcs]; done))); conv => whnf) | (refine And.intro (fun h => absurd h ?_) (fun _ => ?_); (focus (first | decide | (simp; done) | (simp [tcs]; done))); conv => whnf) | (intro _; conv => whnf))
    all_goals (first | rfl | exact ⟨rfl, rfl⟩ | exact ⟨rfl, rfl, rfl⟩ | exact ⟨congrArg (fun z => AV.c (.bool z)) (by simp), rfl⟩)
  | true =>
    have r1 := cRRename sig hc n s
    have r2 := cRSwap sig hc n
    have r3 := cRWithout sig hc n
    have g1 := cGivesL (renameF sig n s) (renameE sig n s)
    have g2 := cGivesL (swapF sig n) (swapE sig n)
    have g3 := cGivesL (withoutF sig n) (withoutE sig n)
    rw [hc] at h4
    generalize renameF sig n s = A at *
    generalize renameE sig n s = a at *
    generalize swapF sig n = B at *
    generalize swapE sig n = b at *
    generalize withoutF sig n = C at *
    generalize withoutE sig n = c at *
    refine call_pure (E := env 0) (fn := Tryz.f3) (c := bodyOf Tryz.f3) (env_ok 0) mixed (by kernel_rfl) (by kernel_rfl) (by kernel_rfl) (by kernel_rfl) (by kernel_rfl) (by kernel_rfl) rfl ?_
    conv => whnf
    try (refine draw_intro true (by kernel_rfl) ?_; conv => whnf)
    refine CallSt.use h1 [] trivial (by decide) rfl ?_
    rintro _ _ ⟨rfl, rfl⟩ _
    conv => whnf
    try (refine draw_intro true (by kernel_rfl) ?_; conv => whnf)
    refine CallSt.use h2 [] trivial (by decide) rfl ?_
    rintro _ _ ⟨rfl, rfl⟩ _
    conv => whnf
    try (refine draw_intro true (by kernel_rfl) ?_; conv => whnf)
    refine CallSt.use h3 [] trivial (by decide) rfl ?_
    rintro _ _ ⟨rfl, rfl⟩ _
    conv => whnf
    try (refine draw_intro true (by kernel_rfl) ?_; conv => whnf)
    refine CallSt.use h4 [] trivial (by decide) rfl ?_
    rintro _ _ ⟨rfl, rfl⟩ _
    conv => whnf
    repeat (first | (refine And.intro rfl ?_; conv => whnf) | (refine And.intro (by decide) ?_; conv => whnf) | (refine draw_intro true (by kernel_rfl) ?_; conv => whnf) | (refine And.intro ⟨by omega, by omega⟩ ?_; conv => whnf) | (refine And.intro (by omega) ?_; conv => whnf) | (refine And.intro (fun _ => ⟨by omega, by omega⟩) ?_; conv => whnf) | (refine And.intro (fun _ => ?_) (fun h => absurd h ?_); rotate_left; (focus (first | decide | (simp; done) | (simp [tcs]; done))); conv => whnf) | (refine And.intro (fun h => absurd h ?_) (fun _ => ?_); (focus (first | decide | (simp; done) | (simp [tcs]; done))); conv => whnf) | (intro _; conv => whnf))
    try (refine draw_intro true (by kernel_rfl) ?_; conv => whnf)
    refine CallSt.use r1 [] trivial (by decide) rfl ?_
    rintro _ _ ⟨rfl, rfl⟩ _
    conv => whnf
    try (refine draw_intro true (by kernel_rfl) ?_; conv => whnf)
    refine CallSt.use r2 [] trivial (by decide) rfl ?_
    rintro _ _ ⟨rfl, rfl⟩ _
    conv => whnf
    try (refine draw_intro true (by kernel_rfl) ?_; conv => whnf)
    refine CallSt.use r3 [] trivial (by decide) rfl ?_
    rintro _ _ ⟨rfl, rfl⟩ _
    conv => whnf
    try (refine draw_intro true (by kernel_rfl) ?_; conv => whnf)
    refine CallSt.use g1 [] trivial (by decide) rfl ?_
    rintro _ _ ⟨rfl, rfl⟩ _
    conv => whnf
    repeat (first | (refine And.intro rfl ?_; conv => whnf) | (refine And.intro (by decide) ?_; conv => whnf) | (refine draw_intro true (by kernel_rfl) ?_; conv => whnf) | (refine And.intro ⟨by omega, by omega⟩ ?_; conv => whnf) | (refine And.intro (by omega) ?_; conv => whnf) | (refine And.intro (fun _ => ⟨by omega, by omega⟩) ?_; conv => whnf) | (refine And.intro (fun _ => ?_) (fun h => absurd h ?_); rotate_left; (focus (first | decide | (simp; done) | (simp [tcs]; done))); conv => whnf) | (refine And.intro (fun h => absurd h ?_) (fun _ => ?_); (focus (first | decide | (simp; done) | (simp [tcs]; done))); conv => whnf) | (intro _; conv => whnf))
    try (refine draw_intro true (by kernel_rfl) ?_; conv => whnf)
    refine CallSt.use g2 [] trivial (by decide) rfl ?_
    rintro _ _ ⟨rfl, rfl⟩ _
    conv => whnf
    repeat (first | (refine And.intro rfl ?_; conv => whnf) | (refine And.intro (by decide) ?_; conv => whnf) | (refine draw_intro true (by kernel_rfl) ?_; conv => whnf) | (refine And.intro ⟨by omega, by omega⟩ ?_; conv => whnf) | (refine And.intro (by omega) ?_; conv => whnf) | (refine And.intro (fun _ => ⟨by omega, by omega⟩) ?_; conv => whnf) | (refine And.intro (fun _ => ?_) (fun h => absurd h ?_); rotate_left; (focus (first | decide | (simp; done) | (simp [tcs]; done))); conv => whnf) | (refine And.intro (fun h => absurd h ?_) (fun _ => ?_); (focus (first | decide | (simp; done) | (simp [tcs]; done))); conv => whnf) | (intro _; conv => whnf))
    try (refine draw_intro true (by kernel_rfl) ?_; conv => whnf)
    refine CallSt.use g3 [] trivial (by decide) rfl ?_
    rintro _ _ ⟨rfl, rfl⟩ _
    conv => whnf
    repeat (first | (refine And.intro rfl ?_; conv => whnf) | (refine And.intro (by decide) ?_; conv => whnf) | (refine draw_intro true (by kernel_rfl) ?_; conv => whnf) | (refine And.intro ⟨by omega, by omega⟩ ?_; conv => whnf) | (refine And.intro (by omega) ?_; conv => whnf) | (refine And.intro (fun _ => ⟨by omega, by omega⟩) ?_; conv => whnf) | (refine And.intro (fun _ => ?_) (fun h => absurd h ?_); rotate_left; (focus (first | decide | (simp; done) | (simp [tcs]; done))); conv => whnf) | (refine And.intro (fun h => absurd h ?_) (fun _ => ?_); (focus (first | decide | (simp; done) | (simp [tcs]; done))); conv => whnf) | (intro _; conv => whnf))
    try (refine draw_intro true (by kernel_rfl) ?_; conv => whnf)
    refine CallSt.use haw [] trivial (by decide) rfl ?_
    rintro _ _ ⟨rfl, rfl⟩ _
    conv => whnf
    repeat (first | (refine And.intro rfl ?_; conv => whnf) | (refine And.intro (by decide) ?_; conv => whnf) | (refine draw_intro true (by kernel_rfl) ?_; conv => whnf) | (refine And.intro ⟨by omega, by omega⟩ ?_; conv => whnf) | (refine And.intro (by omega) ?_; conv => whnf) | (refine And.intro (fun _ => ⟨by omega, by omega⟩) ?_; conv => whnf) | (refine And.intro (fun _ => ?_) (fun h => absurd h ?_); rotate_left; (focus (first | decide | (simp; done) | (simp [tcs]; done))); conv => whnf) | (refine And.intro (fun h => absurd h ?_) (fun _ => ?_); (focus (first | decide | (simp; done) | (simp [tcs]; done))); conv => whnf) | (intro _; conv => whnf))
    all_goals (first | rfl | exact ⟨rfl, rfl⟩ | exact ⟨rfl, rfl, rfl⟩ | exact ⟨congrArg (fun z => AV.c (.bool z)) (by simp), rfl⟩)
end Go.Tr
