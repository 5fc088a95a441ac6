/- What each function computes, and the plain laws of it. -/
import Derived.Test.YtbdomphfbpapdaaTrX0ff71201
set_option linter.unusedVariables false
set_option linter.unusedSimpArgs false
set_option linter.unnecessarySimpa false
set_option autoImplicit false
/- Without, Rename. -/
namespace Go.Tr
open Go.Proofs
/-- The first numbers are there. -/
def lfMap : Nat → KV → Option Bool
  | 0 => fun _ => none
  | j + 1 => mput (lfMap j) (.i (j : Int)) true
theorem lfMap_at : ∀ {m j : Nat}, j < m → lfMap m (.i (j : Int)) = some true
  | m + 1, j, h => by
    rw [lfMap]
    unfold mput
    by_cases e : j = m
    · subst e; rw [if_pos rfl]
    · rw [if_neg (by intro h2; injection h2 with h2; omega)]
      exact lfMap_at (by omega)
def useAny (sig : List Dcl) (n : Int) : Bool := sig.any fun d => usesT n d.c
def withoutE (sig : List Dcl) (n : Int) : Int := match decide (hasE sig n = 0) with
  | false => hasE sig n
  | true => (match useAny sig n with | true => 27 | false => 0)
def woL (len : Nat) (n : Int) : List Int := upTo (fun j => !decide ((j : Int) = n)) len
def withoutF (sig : List Dcl) (n : Int) : List Dcl := match decide (withoutE sig n = 0) with | true => chosenF sig (woL sig.length n) | false => []
theorem upTo_mem {p : Nat → Bool} {j : Nat} {x : Int} : x ∈ upTo p j ↔ ∃ i : Nat, x = i ∧ i < j ∧ p i = true := by
  unfold upTo
  simp only [List.mem_map, List.mem_filter, List.mem_range]
  constructor
  · rintro ⟨i, ⟨h1, h2⟩, rfl⟩
    exact ⟨i, rfl, h1, h2⟩
  · rintro ⟨i, rfl, h1, h2⟩
    exact ⟨i, ⟨h1, h2⟩, rfl⟩
theorem cWithout (sig : List Dcl) (n : Int) : CallSt Try.prog 32 [.c (.sl 6 72 (dcs sig)), .c (.int .i64 (n))] [] (fun r H' => r = .tup [.c (.sl 6 72 (dcs (withoutF sig n))), .c (.int .i64 (withoutE sig n))] ∧ H' = []) := by
  have hh := cHas sig n
  have hbl := len_dcs sig
  rcases hasE_cases sig n with ⟨he, _⟩ | ⟨he, _⟩ | ⟨he, hc, hn⟩
  · rw [show withoutF sig n = [] by simp [withoutF, withoutE, he], show withoutE sig n = 2 by simp [withoutE, he]]
    rw [he] at hh
    refine call_pure (E := env 0) (fn := Try.f32) (c := bodyOf Try.f32) (env_ok 0) mixed (by kernel_rfl) (by kernel_rfl) (by kernel_rfl) (by kernel_rfl) (by kernel_rfl) (by kernel_rfl) rfl ?_
    conv => whnf
    try (refine draw_intro true (by kernel_rfl) ?_; conv => whnf)
    refine CallSt.use hh [] trivial (by decide) rfl ?_
    rintro _ _ ⟨rfl, rfl⟩ _
    conv => whnf
    repeat (first | (refine And.intro rfl ?_; conv => whnf) | (refine And.intro (by decide) ?_; conv => whnf) | (refine draw_intro true (by kernel_rfl) ?_; conv => whnf) | (refine And.intro ⟨by omega, by omega⟩ ?_; conv => whnf) | (refine And.intro (by omega) ?_; conv => whnf) | (refine And.intro (fun _ => ⟨by omega, by omega⟩) ?_; conv => whnf) | (refine And.intro (fun _ => ?_) (fun h => absurd h ?_); rotate_left; (focus (first | decide | (simp; done) | (simp [tcs]; done))); conv => whnf) | (refine And.intro (fun h => absurd h ?_) (fun _ => ?_); (focus (first | decide | (simp; done) | (simp [tcs]; done))); conv => whnf) | (intro _; conv => whnf))
    all_goals (first | rfl | exact ⟨rfl, rfl⟩ | exact ⟨rfl, rfl, rfl⟩)
  · rw [show withoutF sig n = [] by simp [withoutF, withoutE, he], show withoutE sig n = 6 by simp [withoutE, he]]
    rw [he] at hh
    refine call_pure (E := env 0) (fn := Try.f32) (c := bodyOf Try.f32) (env_ok 0) mixed (by kernel_rfl) (by kernel_rfl) (by kernel_rfl) (by kernel_rfl) (by kernel_rfl) (by kernel_rfl) rfl ?_
    conv => whnf
    try (refine draw_intro true (by kernel_rfl) ?_; conv => whnf)
    refine CallSt.use hh [] trivial (by decide) rfl ?_
    rintro _ _ ⟨rfl, rfl⟩ _
    conv => whnf
    repeat (first | (refine And.intro rfl ?_; conv => whnf) | (refine And.intro (by decide) ?_; conv => whnf) | (refine draw_intro true (by kernel_rfl) ?_; conv => whnf) | (refine And.intro ⟨by omega, by omega⟩ ?_; conv => whnf) | (refine And.intro (by omega) ?_; conv => whnf) | (refine And.intro (fun _ => ⟨by omega, by omega⟩) ?_; conv => whnf) | (refine And.intro (fun _ => ?_) (fun h => absurd h ?_); rotate_left; (focus (first | decide | (simp; done) | (simp [tcs]; done))); conv => whnf) | (refine And.intro (fun h => absurd h ?_) (fun _ => ?_); (focus (first | decide | (simp; done) | (simp [tcs]; done))); conv => whnf) | (intro _; conv => whnf))
    all_goals (first | rfl | exact ⟨rfl, rfl⟩ | exact ⟨rfl, rfl, rfl⟩)
  · have hsl := check_len hc
    have hE : withoutE sig n = match useAny sig n with | true => 27 | false => 0 := by
      unfold withoutE
      rw [he]
      rfl
    have e1 : useAny sig n = true → withoutF sig n = [] ∧ withoutE sig n = 27 := fun h => by
      have : withoutE sig n = 27 := by rw [hE, h]
      exact ⟨by simp [withoutF, this], this⟩
    have e2 : useAny sig n = false → withoutF sig n = chosenF sig (woL sig.length n) ∧ withoutE sig n = 0 := fun h => by
      have : withoutE sig n = 0 := by rw [hE, h]
      exact ⟨by simp [withoutF, this], this⟩
    clear hE
    generalize withoutF sig n = X at *
    generalize withoutE sig n = E at *
    have hch := cChosen sig (check_prop hc) (woL sig.length n) (by have := upTo_len (fun j => !decide ((j : Int) = n)) sig.length; unfold woL; omega) (fun x hx => by
      obtain ⟨i, rfl, h1, _⟩ := upTo_mem.1 hx
      omega)
    rw [he] at hh
    refine call_pure (E := env 0) (fn := Try.f32) (c := bodyOf Try.f32) (env_ok 0) mixed (by kernel_rfl) (by kernel_rfl) (by kernel_rfl) (by kernel_rfl) (by kernel_rfl) (by kernel_rfl) rfl ?_
    conv => whnf
    try (refine draw_intro true (by kernel_rfl) ?_; conv => whnf)
    refine CallSt.use hh [] trivial (by decide) rfl ?_
    rintro _ _ ⟨rfl, rfl⟩ _
    conv => whnf
    repeat (first | (refine And.intro rfl ?_; conv => whnf) | (refine And.intro (by decide) ?_; conv => whnf) | (refine draw_intro true (by kernel_rfl) ?_; conv => whnf) | (refine And.intro ⟨by omega, by omega⟩ ?_; conv => whnf) | (refine And.intro (by omega) ?_; conv => whnf) | (refine And.intro (fun _ => ⟨by omega, by omega⟩) ?_; conv => whnf) | (refine And.intro (fun _ => ?_) (fun h => absurd h ?_); rotate_left; (focus (first | decide | (simp; done) | (simp [tcs]; done))); conv => whnf) | (refine And.intro (fun h => absurd h ?_) (fun _ => ?_); (focus (first | decide | (simp; done) | (simp [tcs]; done))); conv => whnf) | (intro _; conv => whnf))
    refine loop_intro (fun m tm H => ∃ j : Nat, sig.length = m + j ∧ (∀ (q : Nat) e, q < j → sig[q]? = some e → usesT n e.c = false) ∧
      tm = [(21, .c (.int .i64 (j))), (20, .c (.int .i64 ((dcs sig).length))), (19, .c (.sl 6 72 (dcs sig))), (0, .c (.sl 6 72 (dcs sig))), (1, .c (.int .i64 (n))), (7, .mpv 0)] ∧ H = [.mp false (.b (lfMap j))])
      sig.length _ _ ⟨0, by omega, fun q e hq => absurd hq (by omega), rfl, rfl⟩ (Wk.sel [0] (by decide) (by decide) (by decide) ⟨rfl, trivial⟩ ⟨rfl, rfl, rfl, rfl, rfl, rfl, trivial⟩ rfl) ?_
    rintro m tm H ⟨j, hj, hall, rfl, rfl⟩
    conv => whnf
    refine ⟨fun hlt => ?_, fun hlt => ?_⟩
    · replace hlt : (j : Int) < (dcs sig).length := of_decide_eq_true hlt
      obtain ⟨e, hee⟩ : ∃ e, sig[j]? = some e := ⟨sig[j]'(by omega), List.getElem?_eq_getElem (by omega)⟩
      have hec := dcs_at hee
      have hus := cUses e.c n (check_prop hc e (List.mem_of_getElem? hee))
      have hyes : usesT n e.c = true → useAny sig n = true := fun h => List.any_eq_true.2 ⟨e, List.mem_of_getElem? hee, h⟩
      have hno : usesT n e.c = false → ∀ (q : Nat) x, q < j + 1 → sig[q]? = some x → usesT n x.c = false := fun hf q x hq hx => by
        by_cases hqj : q < j
        · exact hall q x hqj hx
        · obtain rfl : q = j := by omega
          rw [hee] at hx
          injection hx with hx
          subst hx
          exact hf
      generalize usesT n e.c = b at *
      obtain ⟨s', ⟨k', l', n', us⟩, i'⟩ := e
      rw [tv_mk] at hus
      conv => whnf
      refine ⟨_, ⟨by omega, hec⟩, ?_⟩
      conv => whnf
      refine ⟨show 6 ≤ 6 by decide, ?_⟩
      conv => whnf
      try (refine draw_intro true (by kernel_rfl) ?_; conv => whnf)
      refine CallSt.use hus [] trivial (by decide) rfl ?_
      rintro _ _ ⟨rfl, rfl⟩ _
      conv => whnf
      cases b with
      | true =>
        obtain ⟨rfl, rfl⟩ := e1 (hyes rfl)
        repeat (first | (refine And.intro rfl ?_; conv => whnf) | (refine And.intro (by decide) ?_; conv => whnf) | (refine draw_intro true (by kernel_rfl) ?_; conv => whnf) | (refine And.intro ⟨by omega, by omega⟩ ?_; conv => whnf) | (refine And.intro (by omega) ?_; conv => whnf) | (refine And.intro (fun _ => ⟨by omega, by omega⟩) ?_; conv => whnf) | (refine And.intro (fun _ => ?_) (fun h => absurd h ?_); rotate_left; (focus (first | decide | (simp; done) | (simp [tcs]; done))); conv => whnf) | (refine And.intro (fun h => absurd h ?_) (fun _ => ?_); (focus (first | decide | (simp; done) | (simp [tcs]; done))); conv => whnf) | (intro _; conv => whnf))
        all_goals (first | rfl | exact ⟨rfl, rfl⟩ | exact ⟨rfl, rfl, rfl⟩)
      | false =>
        (refine ⟨fun h => absurd h ?_, fun _ => ?_⟩; (focus (first | decide | (simp; done) | (simp [tcs]; done))); conv => whnf)
        repeat (first | (refine And.intro rfl ?_; conv => whnf) | (refine And.intro (by decide) ?_; conv => whnf) | (refine draw_intro true (by kernel_rfl) ?_; conv => whnf) | (refine And.intro ⟨by omega, by omega⟩ ?_; conv => whnf) | (refine And.intro (by omega) ?_; conv => whnf) | (refine And.intro (fun _ => ⟨by omega, by omega⟩) ?_; conv => whnf) | (refine And.intro (fun _ => ?_) (fun h => absurd h ?_); rotate_left; (focus (first | decide | (simp; done) | (simp [tcs]; done))); conv => whnf) | (refine And.intro (fun h => absurd h ?_) (fun _ => ?_); (focus (first | decide | (simp; done) | (simp [tcs]; done))); conv => whnf) | (intro _; conv => whnf))
        exact ⟨m - 1, _, _, by omega, ⟨j + 1, by omega, hno rfl, rfl, rfl⟩, Wk.sel [0] (by decide) (by decide) (by decide) ⟨rfl, trivial⟩ ⟨rfl, rfl, rfl, rfl, rfl, rfl, trivial⟩ rfl⟩
    · replace hlt : ¬ (j : Int) < (dcs sig).length := of_decide_eq_false hlt
      obtain rfl : j = sig.length := by omega
      obtain ⟨rfl, rfl⟩ := e2 (by
        unfold useAny
        rw [List.any_eq_false]
        intro e he'
        obtain ⟨q, hq⟩ := List.mem_iff_getElem?.1 he'
        rw [hall q e (List.getElem?_eq_some_iff.1 hq).1 hq]
        simp)
      have hF : ∀ j : Nat, j < sig.length → (mdel (lfMap sig.length) (.i n) (.i (j : Int))).getD false = !decide ((j : Int) = n) := fun j hjl => by
        unfold mdel
        by_cases h : (j : Int) = n
        · rw [if_pos (by rw [h]), decide_eq_true h]; rfl
        · rw [if_neg (by intro h2; injection h2 with h2; exact h h2), decide_eq_false h, lfMap_at hjl]; rfl
      conv => whnf
      repeat (first | (refine And.intro rfl ?_; conv => whnf) | (refine And.intro (by decide) ?_; conv => whnf) | (refine draw_intro true (by kernel_rfl) ?_; conv => whnf) | (refine And.intro ⟨by omega, by omega⟩ ?_; conv => whnf) | (refine And.intro (by omega) ?_; conv => whnf) | (refine And.intro (fun _ => ⟨by omega, by omega⟩) ?_; conv => whnf) | (refine And.intro (fun _ => ?_) (fun h => absurd h ?_); rotate_left; (focus (first | decide | (simp; done) | (simp [tcs]; done))); conv => whnf) | (refine And.intro (fun h => absurd h ?_) (fun _ => ?_); (focus (first | decide | (simp; done) | (simp [tcs]; done))); conv => whnf) | (intro _; conv => whnf))
      generalize chosenF sig (woL sig.length n) = Y at *
      refine loop_intro (fun m tm H => ∃ j : Nat, sig.length = m + j ∧
        tm = [(37, .c (.int .i64 (j))), (36, .c (.int .i64 ((dcs sig).length))), (0, .c (.sl 6 72 (dcs sig))), (7, .mpv 0), (10, .own 1)] ∧
        H = [.mp false (.b (mdel (lfMap sig.length) (.i n))), .row 3 1 8 (rowI (upTo (fun j => !decide ((j : Int) = n)) j))])
        sig.length _ _ ⟨0, by omega, rfl, rfl⟩ ?_ ?_
      · refine Wk.trans (tm1 := [(37, .c (.int .i64 (0))), (36, .c (.int .i64 ((dcs sig).length))), (0, .c (.sl 6 72 (dcs sig))), (7, .mpv 0), (10, .nil)]) (H1 := [.mp false (.b (mdel (lfMap sig.length) (.i n)))]) ?_ (Wk.trans (Wk.niltmp 10 3 1 8 rfl rfl) ?_)
        · exact Wk.sel [0] (by decide) (by decide) (by decide) ⟨rfl, trivial⟩ ⟨rfl, rfl, rfl, rfl, rfl, trivial⟩ rfl
        · exact Wk.sel [0, 1] (by decide) (by decide) (by decide) ⟨rfl, rfl, trivial⟩ ⟨rfl, rfl, rfl, rfl, rfl, trivial⟩ rfl
      rintro m2 tm H ⟨j, hj, rfl, rfl⟩
      conv => whnf
      refine ⟨fun hlt => ?_, fun hlt => ?_⟩
      · replace hlt : (j : Int) < (dcs sig).length := of_decide_eq_true hlt
        have hFj := hF j (by omega)
        have hrl := len_rowI (upTo (fun j => !decide ((j : Int) = n)) j)
        have hul := upTo_len (fun j => !decide ((j : Int) = n)) j
        have hl2 : ((rowI (upTo (fun j => !decide ((j : Int) = n)) j)).length + 1) * 8 ≤ 140737488355328 := by omega
        have hl3 : (rowI (upTo (fun j => !decide ((j : Int) = n)) j)).length + 1 ≤ 9223372036854775807 := by omega
        conv => whnf
        refine ⟨fun h2 => ?_, fun h2 => ?_⟩
        · have hp : (fun j : Nat => !decide ((j : Int) = n)) j = true := hFj.symm.trans h2
          conv => whnf
          refine ⟨by decide, ?_⟩
          conv => whnf
          refine ⟨by decide, ?_⟩
          conv => whnf
          refine ⟨hl2, hl3, ?_⟩
          conv => whnf
          refine ⟨⟨by omega, by omega⟩, ?_⟩
          conv => whnf
          refine ⟨m2 - 1, _, _, by omega, ⟨j + 1, by omega, rfl, rfl⟩, Wk.sel [0, 3] (by decide) (by decide) (by decide) ⟨rfl, ?_, trivial⟩ ⟨rfl, rfl, rfl, rfl, rfl, trivial⟩ rfl⟩
          rw [upTo_yes hp, ← rowI_snoc]
          rfl
        · have hp : (fun j : Nat => !decide ((j : Int) = n)) j = false := hFj.symm.trans h2
          conv => whnf
          refine ⟨⟨by omega, by omega⟩, ?_⟩
          conv => whnf
          refine ⟨m2 - 1, _, _, by omega, ⟨j + 1, by omega, rfl, rfl⟩, Wk.sel [0, 1] (by decide) (by decide) (by decide) ⟨rfl, ?_, trivial⟩ ⟨rfl, rfl, rfl, rfl, rfl, trivial⟩ rfl⟩
          rw [upTo_no hp]
          rfl
      · replace hlt : ¬ (j : Int) < (dcs sig).length := of_decide_eq_false hlt
        obtain rfl : j = sig.length := by omega
        unfold woL at hch
        conv => whnf
        try (refine draw_intro true (by kernel_rfl) ?_; conv => whnf)
        refine CallSt.use hch [] trivial (by decide) rfl ?_
        rintro _ _ ⟨rfl, rfl⟩ _
        conv => whnf
        repeat (first | (refine And.intro rfl ?_; conv => whnf) | (refine And.intro (by decide) ?_; conv => whnf) | (refine draw_intro true (by kernel_rfl) ?_; conv => whnf) | (refine And.intro ⟨by omega, by omega⟩ ?_; conv => whnf) | (refine And.intro (by omega) ?_; conv => whnf) | (refine And.intro (fun _ => ⟨by omega, by omega⟩) ?_; conv => whnf) | (refine And.intro (fun _ => ?_) (fun h => absurd h ?_); rotate_left; (focus (first | decide | (simp; done) | (simp [tcs]; done))); conv => whnf) | (refine And.intro (fun h => absurd h ?_) (fun _ => ?_); (focus (first | decide | (simp; done) | (simp [tcs]; done))); conv => whnf) | (intro _; conv => whnf))
        all_goals (first | rfl | exact ⟨rfl, rfl⟩ | exact ⟨rfl, rfl, rfl⟩)
def nameOk (s : ByteArray) : Bool := nameF s
/-- Another constant has the name. -/
def nameElse (sig : List Dcl) (n : Int) (s : ByteArray) : Bool := (List.range sig.length).any fun k => !decide ((k : Int) = n) && (match sig[k]? with | some d => decide (d.s = s) | none => false)
def renameE (sig : List Dcl) (n : Int) (s : ByteArray) : Int := match decide (hasE sig n = 0) with
  | false => hasE sig n
  | true => (match nameElse sig n s with
    | true => 21
    | false => (match nameF s with | true => 0 | false => 2))
def setName (sig : List Dcl) (n : Nat) (s : ByteArray) : List Dcl := match sig[n]? with | some d => sig.set n ⟨s, d.c, d.i⟩ | none => sig
def renameF (sig : List Dcl) (n : Int) (s : ByteArray) : List Dcl := match decide (renameE sig n s = 0) with | true => setName sig n.toNat s | false => []
theorem cRename (sig : List Dcl) (n : Int) (s : ByteArray) : CallSt Try.prog 33 [.c (.sl 6 72 (dcs sig)), .c (.int .i64 (n)), .c (.str s)] [] (fun r H' => r = .tup [.c (.sl 6 72 (dcs (renameF sig n s))), .c (.int .i64 (renameE sig n s))] ∧ H' = []) := by
  have hh := cHas sig n
  have hbl := len_dcs sig
  rcases hasE_cases sig n with ⟨he, _⟩ | ⟨he, _⟩ | ⟨he, hc, hn⟩
  · rw [show renameF sig n s = [] by simp [renameF, renameE, he], show renameE sig n s = 2 by simp [renameE, he]]
    rw [he] at hh
    refine call_pure (E := env 0) (fn := Try.f33) (c := bodyOf Try.f33) (env_ok 0) mixed (by kernel_rfl) (by kernel_rfl) (by kernel_rfl) (by kernel_rfl) (by kernel_rfl) (by kernel_rfl) rfl ?_
    conv => whnf
    try (refine draw_intro true (by kernel_rfl) ?_; conv => whnf)
    refine CallSt.use hh [] trivial (by decide) rfl ?_
    rintro _ _ ⟨rfl, rfl⟩ _
    conv => whnf
    repeat (first | (refine And.intro rfl ?_; conv => whnf) | (refine And.intro (by decide) ?_; conv => whnf) | (refine draw_intro true (by kernel_rfl) ?_; conv => whnf) | (refine And.intro ⟨by omega, by omega⟩ ?_; conv => whnf) | (refine And.intro (by omega) ?_; conv => whnf) | (refine And.intro (fun _ => ⟨by omega, by omega⟩) ?_; conv => whnf) | (refine And.intro (fun _ => ?_) (fun h => absurd h ?_); rotate_left; (focus (first | decide | (simp; done) | (simp [tcs]; done))); conv => whnf) | (refine And.intro (fun h => absurd h ?_) (fun _ => ?_); (focus (first | decide | (simp; done) | (simp [tcs]; done))); conv => whnf) | (intro _; conv => whnf))
    all_goals (first | rfl | exact ⟨rfl, rfl⟩ | exact ⟨rfl, rfl, rfl⟩)
  · rw [show renameF sig n s = [] by simp [renameF, renameE, he], show renameE sig n s = 6 by simp [renameE, he]]
    rw [he] at hh
    refine call_pure (E := env 0) (fn := Try.f33) (c := bodyOf Try.f33) (env_ok 0) mixed (by kernel_rfl) (by kernel_rfl) (by kernel_rfl) (by kernel_rfl) (by kernel_rfl) (by kernel_rfl) rfl ?_
    conv => whnf
    try (refine draw_intro true (by kernel_rfl) ?_; conv => whnf)
    refine CallSt.use hh [] trivial (by decide) rfl ?_
    rintro _ _ ⟨rfl, rfl⟩ _
    conv => whnf
    repeat (first | (refine And.intro rfl ?_; conv => whnf) | (refine And.intro (by decide) ?_; conv => whnf) | (refine draw_intro true (by kernel_rfl) ?_; conv => whnf) | (refine And.intro ⟨by omega, by omega⟩ ?_; conv => whnf) | (refine And.intro (by omega) ?_; conv => whnf) | (refine And.intro (fun _ => ⟨by omega, by omega⟩) ?_; conv => whnf) | (refine And.intro (fun _ => ?_) (fun h => absurd h ?_); rotate_left; (focus (first | decide | (simp; done) | (simp [tcs]; done))); conv => whnf) | (refine And.intro (fun h => absurd h ?_) (fun _ => ?_); (focus (first | decide | (simp; done) | (simp [tcs]; done))); conv => whnf) | (intro _; conv => whnf))
    all_goals (first | rfl | exact ⟨rfl, rfl⟩ | exact ⟨rfl, rfl, rfl⟩)
  · have hsl := check_len hc
    have hE : renameE sig n s = match nameElse sig n s with | true => 21 | false => (match nameF s with | true => 0 | false => 2) := by
      unfold renameE
      rw [he]
      rfl
    have e1 : nameElse sig n s = true → renameF sig n s = [] ∧ renameE sig n s = 21 := fun h => by
      have : renameE sig n s = 21 := by rw [hE, h]
      exact ⟨by simp [renameF, this], this⟩
    have e2 : nameElse sig n s = false → nameF s = false → renameF sig n s = [] ∧ renameE sig n s = 2 := fun h h2 => by
      have : renameE sig n s = 2 := by rw [hE, h, h2]
      exact ⟨by simp [renameF, this], this⟩
    have e3 : nameElse sig n s = false → nameF s = true → renameF sig n s = setName sig n.toNat s ∧ renameE sig n s = 0 := fun h h2 => by
      have : renameE sig n s = 0 := by rw [hE, h, h2]
      exact ⟨by simp [renameF, this], this⟩
    clear hE
    generalize renameF sig n s = X at *
    generalize renameE sig n s = E at *
    have hcs := cCopyS sig (check_prop hc) (by omega)
    have hnm : CallSt Try.prog 55 [.c (.str s)] [] (fun r H' => r = .c (.bool (nameF s)) ∧ H' = []) := cSignName s
    generalize nameF s = nb at *
    rw [he] at hh
    refine call_pure (E := env 0) (fn := Try.f33) (c := bodyOf Try.f33) (env_ok 0) mixed (by kernel_rfl) (by kernel_rfl) (by kernel_rfl) (by kernel_rfl) (by kernel_rfl) (by kernel_rfl) rfl ?_
    conv => whnf
    try (refine draw_intro true (by kernel_rfl) ?_; conv => whnf)
    refine CallSt.use hh [] trivial (by decide) rfl ?_
    rintro _ _ ⟨rfl, rfl⟩ _
    conv => whnf
    repeat (first | (refine And.intro rfl ?_; conv => whnf) | (refine And.intro (by decide) ?_; conv => whnf) | (refine draw_intro true (by kernel_rfl) ?_; conv => whnf) | (refine And.intro ⟨by omega, by omega⟩ ?_; conv => whnf) | (refine And.intro (by omega) ?_; conv => whnf) | (refine And.intro (fun _ => ⟨by omega, by omega⟩) ?_; conv => whnf) | (refine And.intro (fun _ => ?_) (fun h => absurd h ?_); rotate_left; (focus (first | decide | (simp; done) | (simp [tcs]; done))); conv => whnf) | (refine And.intro (fun h => absurd h ?_) (fun _ => ?_); (focus (first | decide | (simp; done) | (simp [tcs]; done))); conv => whnf) | (intro _; conv => whnf))
    refine loop_intro (fun m tm H => ∃ j : Nat, sig.length = m + j ∧ (∀ (q : Nat) e, q < j → ¬ (q : Int) = n → sig[q]? = some e → ¬ e.s = s) ∧
      tm = [(20, .c (.int .i64 (j))), (19, .c (.int .i64 ((dcs sig).length))), (18, .c (.sl 6 72 (dcs sig))), (0, .c (.sl 6 72 (dcs sig))), (1, .c (.int .i64 (n))), (2, .c (.str s))] ∧ H = [])
      sig.length _ _ ⟨0, by omega, fun q e hq => absurd hq (by omega), rfl, rfl⟩ (Wk.sel [] (by decide) (by decide) (by decide) trivial ⟨rfl, rfl, rfl, rfl, rfl, rfl, trivial⟩ rfl) ?_
    rintro m tm H ⟨j, hj, hall, rfl, rfl⟩
    conv => whnf
    refine ⟨fun hlt => ?_, fun hlt => ?_⟩
    · replace hlt : (j : Int) < (dcs sig).length := of_decide_eq_true hlt
      obtain ⟨e, hee⟩ : ∃ e, sig[j]? = some e := ⟨sig[j]'(by omega), List.getElem?_eq_getElem (by omega)⟩
      have hec := dcs_at hee
      have hyes : ¬ (j : Int) = n → e.s = s → nameElse sig n s = true := fun h h2 => by
        unfold nameElse
        rw [List.any_eq_true]
        exact ⟨j, List.mem_range.2 (by omega), by rw [hee]; simp [h, h2]⟩
      have hno : (¬ (j : Int) = n → ¬ e.s = s) → ∀ (q : Nat) x, q < j + 1 → ¬ (q : Int) = n → sig[q]? = some x → ¬ x.s = s := fun hf q x hq hqn hx => by
        by_cases hqj : q < j
        · exact hall q x hqj hqn hx
        · obtain rfl : q = j := by omega
          rw [hee] at hx
          injection hx with hx
          subst hx
          exact hf hqn
      obtain ⟨s', ⟨k', l', n', us⟩, i'⟩ := e
      conv => whnf
      refine ⟨_, ⟨by omega, hec⟩, ?_⟩
      conv => whnf
      refine ⟨show 6 ≤ 6 by decide, ?_⟩
      conv => whnf
      refine ⟨fun hsq => ?_, fun hsq => ?_⟩
      · rw [Bool.and_eq_true] at hsq
        obtain ⟨rfl, rfl⟩ := e1 (hyes (by have := hsq.1; simpa using this) (of_decide_eq_true hsq.2))
        conv => whnf
        repeat (first | (refine And.intro rfl ?_; conv => whnf) | (refine And.intro (by decide) ?_; conv => whnf) | (refine draw_intro true (by kernel_rfl) ?_; conv => whnf) | (refine And.intro ⟨by omega, by omega⟩ ?_; conv => whnf) | (refine And.intro (by omega) ?_; conv => whnf) | (refine And.intro (fun _ => ⟨by omega, by omega⟩) ?_; conv => whnf) | (refine And.intro (fun _ => ?_) (fun h => absurd h ?_); rotate_left; (focus (first | decide | (simp; done) | (simp [tcs]; done))); conv => whnf) | (refine And.intro (fun h => absurd h ?_) (fun _ => ?_); (focus (first | decide | (simp; done) | (simp [tcs]; done))); conv => whnf) | (intro _; conv => whnf))
        all_goals (first | rfl | exact ⟨rfl, rfl⟩ | exact ⟨rfl, rfl, rfl⟩)
      · conv => whnf
        refine ⟨⟨by omega, by omega⟩, ?_⟩
        conv => whnf
        refine ⟨m - 1, _, _, by omega, ⟨j + 1, by omega, hno fun h h2 => ?_, rfl, rfl⟩, Wk.sel [] (by decide) (by decide) (by decide) trivial ⟨rfl, rfl, rfl, rfl, rfl, rfl, trivial⟩ rfl⟩
        rw [Bool.and_eq_false_iff] at hsq
        rcases hsq with h3 | h3
        · simp at h3
          exact h h3
        · exact of_decide_eq_false h3 h2
    · replace hlt : ¬ (j : Int) < (dcs sig).length := of_decide_eq_false hlt
      obtain rfl : j = sig.length := by omega
      have hne : nameElse sig n s = false := by
        unfold nameElse
        rw [List.any_eq_false]
        intro k hk
        have hk := List.mem_range.1 hk
        rw [List.getElem?_eq_getElem hk]
        by_cases h : (k : Int) = n
        · simp [h]
        · have := hall k _ hk h (List.getElem?_eq_getElem hk)
          simp [h, this]
      conv => whnf
      try (refine draw_intro true (by kernel_rfl) ?_; conv => whnf)
      refine CallSt.use hnm [] trivial (by decide) rfl ?_
      rintro _ _ ⟨rfl, rfl⟩ _
      conv => whnf
      cases nb with
      | false =>
        obtain ⟨rfl, rfl⟩ := e2 hne rfl
        repeat (first | (refine And.intro rfl ?_; conv => whnf) | (refine And.intro (by decide) ?_; conv => whnf) | (refine draw_intro true (by kernel_rfl) ?_; conv => whnf) | (refine And.intro ⟨by omega, by omega⟩ ?_; conv => whnf) | (refine And.intro (by omega) ?_; conv => whnf) | (refine And.intro (fun _ => ⟨by omega, by omega⟩) ?_; conv => whnf) | (refine And.intro (fun _ => ?_) (fun h => absurd h ?_); rotate_left; (focus (first | decide | (simp; done) | (simp [tcs]; done))); conv => whnf) | (refine And.intro (fun h => absurd h ?_) (fun _ => ?_); (focus (first | decide | (simp; done) | (simp [tcs]; done))); conv => whnf) | (intro _; conv => whnf))
        all_goals (first | rfl | exact ⟨rfl, rfl⟩ | exact ⟨rfl, rfl, rfl⟩)
      | true =>
        obtain ⟨rfl, rfl⟩ := e3 hne rfl
        repeat (first | (refine And.intro rfl ?_; conv => whnf) | (refine And.intro (by decide) ?_; conv => whnf) | (refine draw_intro true (by kernel_rfl) ?_; conv => whnf) | (refine And.intro ⟨by omega, by omega⟩ ?_; conv => whnf) | (refine And.intro (by omega) ?_; conv => whnf) | (refine And.intro (fun _ => ⟨by omega, by omega⟩) ?_; conv => whnf) | (refine And.intro (fun _ => ?_) (fun h => absurd h ?_); rotate_left; (focus (first | decide | (simp; done) | (simp [tcs]; done))); conv => whnf) | (refine And.intro (fun h => absurd h ?_) (fun _ => ?_); (focus (first | decide | (simp; done) | (simp [tcs]; done))); conv => whnf) | (intro _; conv => whnf))
        try (refine draw_intro true (by kernel_rfl) ?_; conv => whnf)
        refine CallSt.use hcs [] trivial (by decide) rfl ?_
        rintro _ _ ⟨rfl, rfl⟩ _
        conv => whnf
        obtain ⟨q, d, rfl, hq, hd⟩ := get_nat hn
        have hds : dcs (setName sig ((q : Int)).toNat s) = (dcs sig).set ((q : Int)).toNat (List.take 0 (dc d) ++ [CV.str s] ++ List.drop (0 + [CV.str s].length) (dc d)) := by
          unfold setName
          rw [Int.toNat_natCast, hd]
          simp only [dcs, List.map_set]
          rfl
        refine ⟨⟨by omega, by rw [Int.toNat_natCast]; omega⟩, ?_⟩
        conv => whnf
        refine ⟨dc d, by rw [Int.toNat_natCast]; exact dcs_at hd, show 0 + 1 ≤ 6 by decide, ?_⟩
        conv => whnf
        rw [hds]
        repeat (first | (refine And.intro rfl ?_; conv => whnf) | (refine And.intro (by decide) ?_; conv => whnf) | (refine draw_intro true (by kernel_rfl) ?_; conv => whnf) | (refine And.intro ⟨by omega, by omega⟩ ?_; conv => whnf) | (refine And.intro (by omega) ?_; conv => whnf) | (refine And.intro (fun _ => ⟨by omega, by omega⟩) ?_; conv => whnf) | (refine And.intro (fun _ => ?_) (fun h => absurd h ?_); rotate_left; (focus (first | decide | (simp; done) | (simp [tcs]; done))); conv => whnf) | (refine And.intro (fun h => absurd h ?_) (fun _ => ?_); (focus (first | decide | (simp; done) | (simp [tcs]; done))); conv => whnf) | (intro _; conv => whnf))
        all_goals (first | rfl | exact ⟨rfl, rfl⟩ | exact ⟨rfl, rfl, rfl⟩)
end Go.Tr
/- Renumbered terms: the plain laws. -/
namespace Go.Tr
open Go.Proofs
mutual
/-- A term whose constants have other numbers. -/
def rnT (f : Int → Int) : Term → Term
  | .mk k l n ts => .mk k l (match decide (k = 4) && decide (l = 2) with | true => f n | false => n) (rnL f ts)
def rnL (f : Int → Int) : List Term → List Term
  | [] => []
  | t :: r => rnT f t :: rnL f r
end
mutual
theorem mapT_rn (f : Int → Int) : ∀ (t : Term) (i : Int), mapT (rnG f) t i = rnT f t
  | .mk k l n ts, i => by
    rw [mapT, rnT, ← mapL_rn f _ i ts 0]
    unfold rnG
    cases decide (k = 4) && decide (l = 2) <;> rfl
theorem mapL_rn (f : Int → Int) (k i : Int) : ∀ (ts : List Term) (j : Int), mapL (rnG f) k i j ts = rnL f ts
  | [], j => by rw [mapL, rnL]
  | t :: r, j => by rw [mapL, rnL, mapT_rn f t, mapL_rn f k i r]
end
mutual
/-- The constants in a term. -/
def cnT : Term → List Int
  | .mk k l n ts => (match decide (k = 4) && decide (l = 2) with | true => [n] | false => []) ++ cnL ts
def cnL : List Term → List Int
  | [] => []
  | t :: r => cnT t ++ cnL r
end
theorem rnL_len (f : Int → Int) : ∀ ts : List Term, (rnL f ts).length = ts.length
  | [] => rfl
  | t :: r => by rw [rnL, List.length_cons, List.length_cons, rnL_len f r]
theorem rnT_k (f : Int → Int) (t : Term) : (rnT f t).k = t.k := by cases t; rw [rnT]; rfl
theorem rnT_l (f : Int → Int) (t : Term) : (rnT f t).l = t.l := by cases t; rw [rnT]; rfl
theorem rnT_n (f : Int → Int) (t : Term) : (rnT f t).n = match decide (t.k = 4) && decide (t.l = 2) with | true => f t.n | false => t.n := by cases t; rw [rnT]; rfl
mutual
theorem rn_id {f : Int → Int} : ∀ (t : Term), (∀ x ∈ cnT t, f x = x) → rnT f t = t
  | .mk k l n ts, h => by
    rw [rnT, rnL_id ts (fun x hx => h x (by rw [cnT]; exact List.mem_append.2 (.inr hx)))]
    cases hb : decide (k = 4) && decide (l = 2) with
    | false => rfl
    | true => rw [h n (by rw [cnT, hb]; simp)]
theorem rnL_id {f : Int → Int} : ∀ (ts : List Term), (∀ x ∈ cnL ts, f x = x) → rnL f ts = ts
  | [], _ => by rw [rnL]
  | t :: r, h => by
    rw [rnL, rn_id t (fun x hx => h x (by rw [cnL]; exact List.mem_append.2 (.inl hx))), rnL_id r (fun x hx => h x (by rw [cnL]; exact List.mem_append.2 (.inr hx)))]
end
mutual
theorem rn_congr {f g : Int → Int} : ∀ (t : Term), (∀ x ∈ cnT t, f x = g x) → rnT f t = rnT g t
  | .mk k l n ts, h => by
    rw [rnT, rnT, rnL_congr ts (fun x hx => h x (by rw [cnT]; exact List.mem_append.2 (.inr hx)))]
    cases hb : decide (k = 4) && decide (l = 2) with
    | false => rfl
    | true => rw [h n (by rw [cnT, hb]; simp)]
theorem rnL_congr {f g : Int → Int} : ∀ (ts : List Term), (∀ x ∈ cnL ts, f x = g x) → rnL f ts = rnL g ts
  | [], _ => by rw [rnL, rnL]
  | t :: r, h => by
    rw [rnL, rnL, rn_congr t (fun x hx => h x (by rw [cnL]; exact List.mem_append.2 (.inl hx))), rnL_congr r (fun x hx => h x (by rw [cnL]; exact List.mem_append.2 (.inr hx)))]
end
mutual
theorem rn_rn (f g : Int → Int) : ∀ (t : Term), rnT g (rnT f t) = rnT (fun x => g (f x)) t
  | .mk k l n ts => by
    rw [rnT, rnT, rnT, rnL_rn f g ts]
    cases decide (k = 4) && decide (l = 2) <;> rfl
theorem rnL_rn (f g : Int → Int) : ∀ (ts : List Term), rnL g (rnL f ts) = rnL (fun x => g (f x)) ts
  | [] => by rw [rnL, rnL, rnL]
  | t :: r => by rw [rnL, rnL, rnL, rn_rn f g t, rnL_rn f g r]
end
mutual
theorem rn_cn (f : Int → Int) : ∀ (t : Term), cnT (rnT f t) = (cnT t).map f
  | .mk k l n ts => by
    rw [rnT, cnT, cnT, rnL_cn f ts, List.map_append]
    cases decide (k = 4) && decide (l = 2) <;> rfl
theorem rnL_cn (f : Int → Int) : ∀ (ts : List Term), cnL (rnL f ts) = (cnL ts).map f
  | [] => by rw [rnL, cnL]; rfl
  | t :: r => by rw [rnL, cnL, cnL, rn_cn f t, rnL_cn f r, List.map_append]
end
mutual
theorem rn_sz (f : Int → Int) : ∀ (t : Term), szT (rnT f t) = szT t
  | .mk k l n ts => by rw [rnT, szT, szT, rnL_sz f ts]
theorem rnL_sz (f : Int → Int) : ∀ (ts : List Term), szL (rnL f ts) = szL ts
  | [] => by rw [rnL]
  | t :: r => by rw [rnL, szL, szL, rn_sz f t, rnL_sz f r]
end
mutual
theorem rn_fm {f : Int → Int} : ∀ (t : Term) (d : Int), (∀ x ∈ cnT t, 0 ≤ f x ∧ f x ≤ 9999) → fmT t d = true → fmT (rnT f t) d = true
  | .mk k l n ts, d, h, hf => by
    rw [fmT, Bool.and_eq_true, Bool.and_eq_true] at hf
    rw [rnT, fmT, Bool.and_eq_true, Bool.and_eq_true, rnL_len]
    refine ⟨⟨hf.1.1, ?_⟩, rnL_fm ts d (fun x hx => h x (by rw [cnT]; exact List.mem_append.2 (.inr hx))) hf.2⟩
    have h1 := hf.1.2
    cases hb : decide (k = 4) && decide (l = 2) with
    | false => exact h1
    | true =>
      have hn := h n (by rw [cnT, hb]; simp)
      rw [Bool.and_eq_true] at hb
      have h4 : k = 4 := of_decide_eq_true hb.1
      have h2 : l = 2 := of_decide_eq_true hb.2
      subst h4 h2
      unfold fmB
      simp
      omega
theorem rnL_fm {f : Int → Int} : ∀ (ts : List Term) (d : Int), (∀ x ∈ cnL ts, 0 ≤ f x ∧ f x ≤ 9999) → fmL ts d = true → fmL (rnL f ts) d = true
  | [], d, _, _ => by rw [rnL, fmL]
  | t :: r, d, h, hf => by
    rw [fmL, Bool.and_eq_true] at hf
    rw [rnL, fmL, Bool.and_eq_true]
    exact ⟨rn_fm t (d + 1) (fun x hx => h x (by rw [cnL]; exact List.mem_append.2 (.inl hx))) hf.1, rnL_fm r d (fun x hx => h x (by rw [cnL]; exact List.mem_append.2 (.inr hx))) hf.2⟩
end
theorem prop_iff (t : Term) : prop t = true ↔ szT t ≤ 600 ∧ fmT t 1 = true := by
  rw [prop_rprop, rprop_iff', Bool.and_eq_true, decide_eq_true_eq]
theorem rn_prop {f : Int → Int} {t : Term} (h : ∀ x ∈ cnT t, 0 ≤ f x ∧ f x ≤ 9999) (hp : prop t = true) : prop (rnT f t) = true := by
  rw [prop_iff] at hp ⊢
  rw [rn_sz]
  exact ⟨hp.1, rn_fm t 1 h hp.2⟩
theorem hdOk_mk (P : Int → Bool) (k l n i : Int) (ts : List Term) : hdOk 2 P (.mk k l n ts) i = match decide (k = 4) && decide (l = 2) with | true => P n | false => true := by
  show (match decide (k = 4) && decide (l = 2) with | true => (match !decide ((2 : Int) = 1) with | true => P n | false => (match decide (i ≤ n) with | true => P (n - i) | false => true)) | false => true) = _
  cases decide (k = 4) && decide (l = 2) <;> rfl
theorem nodeOk_mk (m k l n i : Int) (ts : List Term) : nodeOk m (.mk k l n ts) i = ((!decide (l = 3)) && (!decide (l = 1) || decide (n < i)) && (!decide (l = 2) || decide (n < m))) := rfl
mutual
/-- What all nodes must be is what all constants must be. -/
theorem all_cn (P : Int → Bool) : ∀ (t : Term) (i : Int), allT (hdOk 2 P) t i = true ↔ ∀ x ∈ cnT t, P x = true
  | .mk k l n ts, i => by
    rw [allT, Bool.and_eq_true, allL_cn P k i ts 0, cnT, hdOk_mk]
    cases decide (k = 4) && decide (l = 2) with
    | false => simp
    | true =>
      simp only
      constructor
      · rintro ⟨h1, h2⟩ x hx
        rcases List.mem_append.1 hx with hx | hx
        · rw [List.mem_singleton] at hx
          rw [hx]
          exact h1
        · exact h2 x hx
      · exact fun h => ⟨h n (by simp), fun x hx => h x (List.mem_append.2 (.inr hx))⟩
theorem allL_cn (P : Int → Bool) (k i : Int) : ∀ (ts : List Term) (j : Int), allL (hdOk 2 P) k i j ts = true ↔ ∀ x ∈ cnL ts, P x = true
  | [], j => by rw [allL, cnL]; simp
  | t :: r, j => by
    rw [allL, Bool.and_eq_true, all_cn P t, allL_cn P k i r, cnL]
    constructor
    · rintro ⟨h1, h2⟩ x hx
      rcases List.mem_append.1 hx with hx | hx
      · exact h1 x hx
      · exact h2 x hx
    · exact fun h => ⟨fun x hx => h x (List.mem_append.2 (.inl hx)), fun x hx => h x (List.mem_append.2 (.inr hx))⟩
end
theorem uses_cn (n : Int) (t : Term) : usesT n t = true ↔ n ∈ cnT t := by
  unfold usesT
  rw [Bool.not_eq_true', ← Bool.not_eq_true, all_cn]
  constructor
  · intro h
    refine Decidable.byContradiction fun hn => h fun x hx => ?_
    simp only [Bool.not_eq_true', decide_eq_false_iff_not]
    exact fun e => hn (e ▸ hx)
  · intro h h2
    have := h2 n h
    simp at this
mutual
theorem nodes_cn {m : Int} : ∀ (t : Term) (i : Int), nodesT m t i = true → ∀ x ∈ cnT t, x < m
  | .mk k l n ts, i, h, x, hx => by
    rw [nodesT, Bool.and_eq_true] at h
    rw [cnT] at hx
    rcases List.mem_append.1 hx with hx | hx
    · cases hb : decide (k = 4) && decide (l = 2) with
      | false => rw [hb] at hx; cases hx
      | true =>
        rw [hb] at hx
        simp only [List.mem_singleton] at hx
        subst hx
        rw [Bool.and_eq_true] at hb
        have h1 := h.1
        rw [nodeOk_mk, hb.1, hb.2] at h1
        simp at h1
        exact h1.2
    · exact nodesL_cn k i ts 0 h.2 x hx
theorem nodesL_cn {m : Int} (k i : Int) : ∀ (ts : List Term) (j : Int), nodesL m k i j ts = true → ∀ x ∈ cnL ts, x < m
  | [], j, _, x, hx => by rw [cnL] at hx; cases hx
  | t :: r, j, h, x, hx => by
    rw [nodesL, Bool.and_eq_true] at h
    rw [cnL] at hx
    rcases List.mem_append.1 hx with hx | hx
    · exact nodes_cn t _ h.1 x hx
    · exact nodesL_cn k i r (j + 1) h.2 x hx
end
mutual
theorem rn_nodes {f : Int → Int} {m m' : Int} : ∀ (t : Term) (i : Int), (∀ x ∈ cnT t, f x < m') → nodesT m t i = true → nodesT m' (rnT f t) i = true
  | .mk k l n ts, i, hf, h => by
    rw [nodesT, Bool.and_eq_true] at h
    rw [rnT, nodesT, Bool.and_eq_true]
    refine ⟨?_, rnL_nodes k i ts 0 (fun x hx => hf x (by rw [cnT]; exact List.mem_append.2 (.inr hx))) h.2⟩
    have h1 := h.1
    rw [nodeOk_mk] at h1 ⊢
    cases hb : decide (k = 4) && decide (l = 2) with
    | false =>
      simp only
      rw [Bool.and_eq_false_iff] at hb
      rcases hb with hb | hb
      · rw [hb]; rfl
      · rw [hb] at h1 ⊢
        simpa using h1
    | true =>
      have hn := hf n (by rw [cnT, hb]; simp)
      rw [Bool.and_eq_true] at hb
      rw [hb.2] at h1 ⊢
      have e2 : l = 2 := of_decide_eq_true hb.2
      subst e2
      simp [hn]
theorem rnL_nodes {f : Int → Int} {m m' : Int} (k i : Int) : ∀ (ts : List Term) (j : Int), (∀ x ∈ cnL ts, f x < m') → nodesL m k i j ts = true → nodesL m' k i j (rnL f ts) = true
  | [], j, _, _ => by rw [rnL, nodesL]
  | t :: r, j, hf, h => by
    rw [nodesL, Bool.and_eq_true] at h
    rw [rnL, nodesL, Bool.and_eq_true]
    exact ⟨rn_nodes t _ (fun x hx => hf x (by rw [cnL]; exact List.mem_append.2 (.inl hx))) h.1, rnL_nodes k i r (j + 1) (fun x hx => hf x (by rw [cnL]; exact List.mem_append.2 (.inr hx))) h.2⟩
end
theorem rn_dom (f : Int → Int) : ∀ (c : Nat) (t : Term), SizeOf.sizeOf t ≤ c → (domT (rnT f t)).1.length = (domT t).1.length ∧ (domT (rnT f t)).2 = rnT f (domT t).2
  | 0, t, hc => by cases t; simp at hc
  | c + 1, t, hc => by
    by_cases hk : t.k = 2
    · obtain ⟨k, l, n, ts⟩ := t
      replace hk : k = 2 := hk
      subst hk
      rcases ts with _ | ⟨a, _ | ⟨b, r⟩⟩
      · rw [rnT, rnL, show domT (.mk 2 l n []) = ([], .mk 2 l n []) by rw [domT]; try simp]
        rw [show domT (.mk 2 l _ []) = ([], .mk 2 l _ []) by rw [domT]; try simp]
        exact ⟨rfl, by rw [rnT, rnL]⟩
      · rw [rnT, rnL, rnL, show domT (.mk 2 l n [a]) = ([], .mk 2 l n [a]) by rw [domT]; try simp]
        rw [show domT (.mk 2 l _ [rnT f a]) = ([], .mk 2 l _ [rnT f a]) by rw [domT]; try simp]
        exact ⟨rfl, by rw [rnT, rnL, rnL]⟩
      · rw [rnT, rnL, rnL, domT_pi, domT_pi]
        have ih := rn_dom f c b (by simp at hc; omega)
        exact ⟨by simp [ih.1], ih.2⟩
    · rw [domT_no hk, domT_no (by rw [rnT_k]; exact hk)]
      exact ⟨rfl, rfl⟩
theorem rn_kind (f : Int → Int) (t : Term) : kindT (rnT f t) = kindT t := by
  unfold kindT
  rw [(rn_dom f _ t (Nat.le_refl _)).2, rnT_k]
theorem rn_targ (f : Int → Int) (t : Term) : targOk (rnT f t) = targOk t := by
  unfold targOk
  rw [(rn_dom f _ t (Nat.le_refl _)).2, rnT_k, rnT_l]
theorem rn_targN (f : Int → Int) {t : Term} (h : targOk t = true) : (domT (rnT f t)).2.n = f (domT t).2.n := by
  unfold targOk at h
  rw [(rn_dom f _ t (Nat.le_refl _)).2, rnT_n, h]
theorem dom_cn : ∀ (c : Nat) (t : Term), SizeOf.sizeOf t ≤ c → ∀ x ∈ cnT (domT t).2, x ∈ cnT t
  | 0, t, hc, _, _ => by cases t; simp at hc
  | c + 1, t, hc, x, hx => by
    by_cases hk : t.k = 2
    · obtain ⟨k, l, n, ts⟩ := t
      replace hk : k = 2 := hk
      subst hk
      rcases ts with _ | ⟨a, _ | ⟨b, r⟩⟩
      · rwa [show domT (.mk 2 l n []) = ([], .mk 2 l n []) by rw [domT]; try simp] at hx
      · rwa [show domT (.mk 2 l n [a]) = ([], .mk 2 l n [a]) by rw [domT]; try simp] at hx
      · rw [domT_pi] at hx
        have ih := dom_cn c b (by simp at hc; omega) x hx
        rw [cnT, cnL, cnL]
        simp [ih]
    · rwa [domT_no hk] at hx
theorem targ_cn {t : Term} (h : targOk t = true) : (domT t).2.n ∈ cnT t := by
  refine dom_cn _ t (Nat.le_refl _) _ ?_
  unfold targOk at h
  generalize (domT t).2 = u at *
  obtain ⟨k, l, n, ts⟩ := u
  replace h : (decide (k = 4) && decide (l = 2)) = true := h
  show n ∈ cnT (.mk k l n ts)
  rw [cnT, h]
  simp
mutual
theorem fm_cn : ∀ (t : Term) (d : Int), fmT t d = true → ∀ x ∈ cnT t, 0 ≤ x ∧ x ≤ 9999
  | .mk k l n ts, d, h, x, hx => by
    rw [fmT, Bool.and_eq_true, Bool.and_eq_true] at h
    rw [cnT] at hx
    rcases List.mem_append.1 hx with hx | hx
    · cases hb : decide (k = 4) && decide (l = 2) with
      | false => rw [hb] at hx; cases hx
      | true =>
        rw [hb] at hx
        simp only [List.mem_singleton] at hx
        subst hx
        rw [Bool.and_eq_true] at hb
        have h4 : k = 4 := of_decide_eq_true hb.1
        have h1 := h.1.2
        subst h4
        unfold fmB at h1
        simp at h1
        omega
    · exact fmL_cn ts d h.2 x hx
theorem fmL_cn : ∀ (ts : List Term) (d : Int), fmL ts d = true → ∀ x ∈ cnL ts, 0 ≤ x ∧ x ≤ 9999
  | [], d, _, x, hx => by rw [cnL] at hx; cases hx
  | t :: r, d, h, x, hx => by
    rw [fmL, Bool.and_eq_true] at h
    rw [cnL] at hx
    rcases List.mem_append.1 hx with hx | hx
    · exact fm_cn t _ h.1 x hx
    · exact fmL_cn r d h.2 x hx
end
theorem prop_cn {t : Term} (h : prop t = true) : ∀ x ∈ cnT t, 0 ≤ x ∧ x ≤ 9999 := fm_cn t 1 (prop_fm1 h)
end Go.Tr
/- Signatures: what is formed, told by positions; chosen constants. -/
namespace Go.Tr
open Go.Proofs
/-- What is asked of a constant at its place, but for its name's being new. -/
def okAt (sig : List Dcl) (n : Nat) (d : Dcl) : Prop :=
  prop d.c = true ∧ nameF d.s = true ∧ 0 ≤ d.i ∧ d.i ≤ (domT d.c).1.length ∧ nodesT n d.c 0 = true ∧ (kindT d.c = true ∨ (targOk d.c = true ∧ kindAt sig (domT d.c).2.n = true))
theorem kindAt_take {sig : List Dcl} {n : Nat} {x : Int} (h0 : 0 ≤ x) (h : x < n) : kindAt (sig.take n) x = kindAt sig x := by
  unfold kindAt
  rw [List.getElem?_take, if_pos (by omega)]
theorem formed_iff {sig : List Dcl} {n : Nat} {d : Dcl} (hd : sig[n]? = some d) : formedF (sig.take n) d = true ↔ okAt sig n d := by
  have hlt := (List.getElem?_eq_some_iff.1 hd).1
  have hlen : (sig.take n).length = n := by rw [List.length_take]; omega
  unfold formedF okAt
  rw [hlen]
  simp only [Bool.and_eq_true, Bool.or_eq_true, decide_eq_true_eq]
  constructor
  · rintro ⟨⟨⟨⟨h1, h2⟩, h3⟩, h4, h5⟩, h6⟩
    refine ⟨h1, h2, h3, h4, h5, h6.imp id fun h => ⟨h.1, ?_⟩⟩
    rw [← kindAt_take (targ_pos h1 h.1) (nodes_targ h5 h.1)]
    exact h.2
  · rintro ⟨h1, h2, h3, h4, h5, h6⟩
    refine ⟨⟨⟨⟨h1, h2⟩, h3⟩, h4, h5⟩, h6.imp id fun h => ⟨h.1, ?_⟩⟩
    rw [kindAt_take (targ_pos h1 h.1) (nodes_targ h5 h.1)]
    exact h.2
theorem nameIn_iff (l : List Dcl) (s : ByteArray) : nameIn l s = true ↔ ∃ e ∈ l, e.s = s := by
  unfold nameIn
  rw [List.any_eq_true]
  simp
theorem check_iff (sig : List Dcl) : checkB sig = true ↔ sig.length ≤ 100 ∧ (∀ (i j : Nat) d e, i < j → sig[i]? = some d → sig[j]? = some e → d.s ≠ e.s) ∧ ∀ (n : Nat) d, sig[n]? = some d → okAt sig n d := by
  constructor
  · intro h
    refine ⟨check_len h, fun i j d e hij hi hj he => ?_, fun n d hd => ?_⟩
    · have hg := check_good h j (List.getElem?_eq_some_iff.1 hj).1
      rw [good_formed sig hj] at hg
      unfold formedR at hg
      rw [Bool.and_eq_true, Bool.not_eq_true'] at hg
      have : nameIn (sig.take j) e.s = true := (nameIn_iff _ _).2 ⟨d, List.mem_of_getElem? (i := i) (by rw [List.getElem?_take, if_pos hij]; exact hi), he⟩
      rw [this] at hg
      cases hg.1
    · have hg := check_good h n (List.getElem?_eq_some_iff.1 hd).1
      rw [good_formed sig hd] at hg
      unfold formedR at hg
      rw [Bool.and_eq_true] at hg
      exact (formed_iff hd).1 hg.2
  · rintro ⟨h1, h2, h3⟩
    unfold checkB
    rw [decide_eq_true h1, Bool.true_and, List.all_eq_true]
    intro n hn
    have hn := List.mem_range.1 hn
    have hd : sig[n]? = some sig[n] := List.getElem?_eq_getElem hn
    rw [good_formed sig hd]
    unfold formedR
    rw [Bool.and_eq_true, Bool.not_eq_true', ← Bool.not_eq_true, nameIn_iff]
    refine ⟨?_, (formed_iff hd).2 (h3 n _ hd)⟩
    rintro ⟨e, he, hs⟩
    obtain ⟨i, hi⟩ := List.mem_iff_getElem?.1 he
    rw [List.getElem?_take] at hi
    split at hi
    · exact h2 i n e _ (by assumption) hi hd hs
    · cases hi
theorem pickD_at {sig : List Dcl} {f : Int → Int} {n : Int} {d : Dcl} (h : sig[n.toNat]? = some d) : pickD sig f n = ⟨d.s, rnT f d.c, d.i⟩ := by
  unfold pickD
  rw [h]
  simp only [mapT_rn]
theorem chosen_ok {sig : List Dcl} {l : List Int} {f : Int → Int} (hc : checkB sig = true) (hl : l.length ≤ 100) (hnd : ∀ (i j : Nat) a, i < j → l[i]? = some a → l[j]? = some a → False) (hin : ∀ n ∈ l, 0 ≤ n ∧ n < sig.length)
    (hf : ∀ (j : Nat) n d, l[j]? = some n → sig[n.toNat]? = some d → ∀ x ∈ cnT d.c, 0 ≤ f x ∧ f x < j ∧ l[(f x).toNat]? = some x) : checkB (l.map (pickD sig f)) = true := by
  rw [check_iff] at hc ⊢
  obtain ⟨c1, c2, c3⟩ := hc
  have get : ∀ (j : Nat) e, (l.map (pickD sig f))[j]? = some e → ∃ n d, l[j]? = some n ∧ sig[n.toNat]? = some d ∧ e = ⟨d.s, rnT f d.c, d.i⟩ := fun j e he => by
    rw [List.getElem?_map] at he
    cases hn : l[j]? with
    | none => rw [hn] at he; cases he
    | some n =>
      rw [hn] at he
      have hb := hin n (List.mem_of_getElem? hn)
      have hd : sig[n.toNat]? = some (sig[n.toNat]'(by omega)) := List.getElem?_eq_getElem (by omega)
      simp only [Option.map_some, Option.some.injEq] at he
      exact ⟨n, _, rfl, hd, by rw [← he, pickD_at hd]⟩
  refine ⟨by rw [List.length_map]; exact hl, fun i j d e hij hi hj he => ?_, fun j e he => ?_⟩
  · obtain ⟨a, d', h1, h2, rfl⟩ := get i d hi
    obtain ⟨b, e', h3, h4, rfl⟩ := get j e hj
    simp only at he
    have hab : a.toNat ≠ b.toNat := fun h => by
      have ha := hin a (List.mem_of_getElem? h1)
      have hb := hin b (List.mem_of_getElem? h3)
      have : a = b := by omega
      subst this
      exact hnd i j a hij h1 h3
    rcases Nat.lt_or_gt_of_ne hab with h | h
    · exact c2 _ _ _ _ h h2 h4 he
    · exact c2 _ _ _ _ h h4 h2 he.symm
  · obtain ⟨n, d, h1, h2, rfl⟩ := get j e he
    have hjl := (List.getElem?_eq_some_iff.1 h1).1
    obtain ⟨o1, o2, o3, o4, o5, o6⟩ := c3 _ _ h2
    have hfx := hf j n d h1 h2
    refine ⟨rn_prop (fun x hx => by have := hfx x hx; omega) o1, o2, o3, ?_, rn_nodes d.c 0 (fun x hx => (hfx x hx).2.1) o5, ?_⟩
    · simp only
      rw [(rn_dom f _ d.c (Nat.le_refl _)).1]
      exact o4
    · simp only
      rw [rn_kind, rn_targ]
      refine o6.imp id fun h => ⟨h.1, ?_⟩
      rw [rn_targN f h.1]
      have ht := hfx _ (targ_cn h.1)
      have hx := hin _ (List.mem_of_getElem? ht.2.2)
      have hd : sig[((domT d.c).2.n).toNat]? = some (sig[((domT d.c).2.n).toNat]'(by omega)) := List.getElem?_eq_getElem (by omega)
      have hk := h.2
      unfold kindAt at hk ⊢
      rw [List.getElem?_map, ht.2.2]
      rw [hd] at hk
      simp only [Option.map_some]
      rw [pickD_at hd]
      simp only
      rw [rn_kind]
      exact hk
theorem mput_same {α : Type} (F : KV → Option α) (q : KV) (x : α) : mput F q x q = some x := by unfold mput; rw [if_pos rfl]
theorem mput_other {α : Type} (F : KV → Option α) {q r : KV} (x : α) (h : r ≠ q) : mput F q x r = F r := by unfold mput; rw [if_neg h]
theorem chMap_at {l : List Int} (hnd : ∀ (i j : Nat) a, i < j → l[i]? = some a → l[j]? = some a → False) : ∀ {m j : Nat} {n : Int}, j < m → l[j]? = some n → chMap l m (.i n) = some (j : Int)
  | m + 1, j, n, h, hn => by
    rw [chMap]
    by_cases e : j = m
    · subst e
      rw [hn]
      simp only
      rw [mput_same]
    · have ih := chMap_at hnd (show j < m by omega) hn
      cases hm : l[m]? with
      | none => exact ih
      | some b =>
        simp only
        rw [mput_other]
        · exact ih
        · intro h2
          injection h2 with h2
          subst h2
          exact hnd j m n (by omega) hn hm
theorem mget_at {l : List Int} (hnd : ∀ (i j : Nat) a, i < j → l[i]? = some a → l[j]? = some a → False) {j : Nat} {n : Int} (hn : l[j]? = some n) : mget (chMap l l.length) n = j := by
  unfold mget
  rw [chMap_at hnd (List.getElem?_eq_some_iff.1 hn).1 hn]
  rfl
theorem pickD_congr {sig : List Dcl} {f g : Int → Int} {n : Int} (h : ∀ d, sig[n.toNat]? = some d → ∀ x ∈ cnT d.c, f x = g x) : pickD sig f n = pickD sig g n := by
  cases hd : sig[n.toNat]? with
  | none => unfold pickD; rw [hd]
  | some d => rw [pickD_at hd, pickD_at hd, rn_congr d.c (h d hd)]
/-- The constants of a class stand before it. -/
theorem check_cn {sig : List Dcl} (h : checkB sig = true) {n : Nat} {d : Dcl} (hd : sig[n]? = some d) : ∀ x ∈ cnT d.c, 0 ≤ x ∧ x < n := by
  obtain ⟨_, _, c3⟩ := (check_iff sig).1 h
  obtain ⟨o1, _, _, _, o5, _⟩ := c3 n d hd
  exact fun x hx => ⟨(prop_cn o1 x hx).1, nodes_cn d.c 0 o5 x hx⟩
end Go.Tr
/- Swap, Without and Rename of formed signatures: the plain laws. -/
namespace Go.Tr
open Go.Proofs
/-- The exchange of two neighbours. -/
def swF (n : Nat) (x : Int) : Int := if x = n then n + 1 else if x = n + 1 then n else x
theorem swF_swF (n : Nat) (x : Int) : swF n (swF n x) = x := by
  unfold swF
  by_cases h1 : x = n
  · subst h1
    rw [if_pos rfl, if_neg (by omega), if_pos rfl]
  · by_cases h2 : x = n + 1
    · subst h2
      rw [if_neg h1, if_pos rfl, if_pos rfl]
    · rw [if_neg h1, if_neg h2, if_neg h1, if_neg h2]
theorem swF_in {n len : Nat} (h : n + 1 < len) {x : Int} (hx : 0 ≤ x ∧ x < len) : 0 ≤ swF n x ∧ swF n x < len := by
  unfold swF
  split
  · omega
  · split <;> omega
theorem swL_at {len n : Nat} (h : n + 1 < len) {k : Nat} (hk : k < len) : (swL len n)[k]? = some (swF n k) := by
  unfold swL swF
  by_cases h1 : k = n
  · subst h1
    rw [List.getElem?_set_ne (by omega), List.getElem?_set_self (by rw [nums_len]; omega), if_pos rfl]
  · by_cases h2 : k = n + 1
    · subst h2
      rw [List.getElem?_set_self (by rw [List.length_set, nums_len]; omega), if_neg (by omega), if_pos (by omega)]
    · rw [List.getElem?_set_ne (by omega), List.getElem?_set_ne (by omega), nums_at hk, if_neg (by omega), if_neg (by omega)]
theorem swL_nd {len n : Nat} (h : n + 1 < len) : ∀ (i j : Nat) a, i < j → (swL len n)[i]? = some a → (swL len n)[j]? = some a → False := by
  intro i j a hij hi hj
  have hi' := (List.getElem?_eq_some_iff.1 hi).1
  have hj' := (List.getElem?_eq_some_iff.1 hj).1
  rw [swL_len] at hi' hj'
  rw [swL_at h hi'] at hi
  rw [swL_at h hj'] at hj
  injection hi with hi
  injection hj with hj
  have h1 := congrArg (swF n) (hi.trans hj.symm)
  rw [swF_swF, swF_swF] at h1
  omega
theorem swG_at {len n : Nat} (h : n + 1 < len) {x : Int} (hx : 0 ≤ x ∧ x < len) : mget (chMap (swL len n) (swL len n).length) x = swF n x := by
  have hs := swF_in h hx
  have h1 : (swL len n)[(swF n x).toNat]? = some x := by
    rw [swL_at h (by omega), show (((swF n x).toNat : Nat) : Int) = swF n x by omega, swF_swF]
  have := mget_at (swL_nd h) h1
  omega
theorem pick_all {sig : List Dcl} (hc : checkB sig = true) {l : List Int} {f g : Int → Int} (h : ∀ x : Int, 0 ≤ x ∧ x < sig.length → f x = g x) : l.map (pickD sig f) = l.map (pickD sig g) := by
  refine List.map_congr_left fun n _ => pickD_congr fun d hd x hx => h x ?_
  have := check_cn hc hd x hx
  have := (List.getElem?_eq_some_iff.1 hd).1
  omega
theorem swap_eq {sig : List Dcl} (hc : checkB sig = true) {n : Nat} (h : n + 1 < sig.length) : chosenF sig (swL sig.length n) = (swL sig.length n).map (pickD sig (swF n)) := by
  unfold chosenF
  exact pick_all hc fun x hx => swG_at h hx
def swX (sig : List Dcl) (n : Nat) : List Dcl := (swL sig.length n).map (pickD sig (swF n))
theorem swX_len (sig : List Dcl) (n : Nat) : (swX sig n).length = sig.length := by unfold swX; rw [List.length_map, swL_len]
theorem swX_at {sig : List Dcl} {n : Nat} (h : n + 1 < sig.length) {k : Nat} (hk : k < sig.length) : ∃ d, sig[(swF n k).toNat]? = some d ∧ (swX sig n)[k]? = some ⟨d.s, rnT (swF n) d.c, d.i⟩ := by
  have hs := swF_in h (x := (k : Int)) ⟨by omega, by omega⟩
  have hd : sig[(swF n k).toNat]? = some (sig[(swF n k).toNat]'(by omega)) := List.getElem?_eq_getElem (by omega)
  refine ⟨_, hd, ?_⟩
  unfold swX
  rw [List.getElem?_map, swL_at h hk]
  simp only [Option.map_some]
  rw [pickD_at hd]
theorem swX_ok {sig : List Dcl} (hc : checkB sig = true) {n : Nat} (h : n + 1 < sig.length) (hu : ∀ d, sig[n + 1]? = some d → usesT n d.c = false) : checkB (swX sig n) = true := by
  refine chosen_ok hc (by rw [swL_len]; exact check_len hc) (swL_nd h) (swL_mem h) fun j m d hj hd x hx => ?_
  have hjl := (List.getElem?_eq_some_iff.1 hj).1
  rw [swL_len] at hjl
  rw [swL_at h hjl] at hj
  injection hj with hj
  subst hj
  have hb := check_cn hc hd x hx
  have hxn : swF n j = n + 1 → x ≠ n := fun e hxe => by
    subst hxe
    rw [e] at hd
    have := hu d (by rwa [show ((n : Int) + 1).toNat = n + 1 by omega] at hd)
    rw [← Bool.not_eq_true, uses_cn] at this
    exact this hx
  have hlt : swF n x < j := by
    by_cases j1 : j = n
    · subst j1
      have e : swF j (j : Int) = j + 1 := by unfold swF; rw [if_pos rfl]
      have := hxn e
      rw [e] at hb
      have e2 : swF j x = x := by unfold swF; rw [if_neg (by omega), if_neg (by omega)]
      omega
    · by_cases j2 : j = n + 1
      · subst j2
        have e : swF n ((n + 1 : Nat) : Int) = n := by unfold swF; rw [if_neg (by omega), if_pos (by omega)]
        rw [e] at hb
        have e2 : swF n x = x := by unfold swF; rw [if_neg (by omega), if_neg (by omega)]
        omega
      · have e : swF n (j : Int) = j := by unfold swF; rw [if_neg (by omega), if_neg (by omega)]
        rw [e] at hb
        unfold swF
        split
        · omega
        · split <;> omega
  have hs := swF_in h (x := x) ⟨hb.1, by have := (List.getElem?_eq_some_iff.1 hd).1; omega⟩
  refine ⟨hs.1, hlt, ?_⟩
  rw [swL_at h (by omega), show (((swF n x).toNat : Nat) : Int) = swF n x by omega, swF_swF]
theorem swX_uses {sig : List Dcl} (hc : checkB sig = true) {n : Nat} (h : n + 1 < sig.length) : ∀ d, (swX sig n)[n + 1]? = some d → usesT n d.c = false := by
  intro d hd
  obtain ⟨e, he, hx⟩ := swX_at h (show n + 1 < sig.length from h)
  rw [hx] at hd
  injection hd with hd
  subst hd
  have e1 : swF n ((n + 1 : Nat) : Int) = n := by unfold swF; rw [if_neg (by omega), if_pos (by omega)]
  rw [e1] at he
  rw [← Bool.not_eq_true, uses_cn]
  simp only
  rw [rn_cn, List.mem_map]
  rintro ⟨x, hx, hxe⟩
  have hb := check_cn hc he x hx
  have : swF n x = x := by unfold swF; rw [if_neg (by omega), if_neg (by omega)]
  omega
theorem swX_swX {sig : List Dcl} {n : Nat} (h : n + 1 < sig.length) : swX (swX sig n) n = sig := by
  refine List.ext_getElem? fun k => ?_
  by_cases hk : k < sig.length
  · obtain ⟨d, hd, hx⟩ := swX_at (sig := swX sig n) (n := n) (by rw [swX_len]; exact h) (k := k) (by rw [swX_len]; exact hk)
    have hs := swF_in h (x := (k : Int)) ⟨by omega, by omega⟩
    obtain ⟨e, he, hy⟩ := swX_at h (k := (swF n k).toNat) (by omega)
    rw [hy] at hd
    injection hd with hd
    subst hd
    rw [show (((swF n (k : Int)).toNat : Nat) : Int) = swF n k by omega, swF_swF, Int.toNat_natCast] at he
    rw [hx, he]
    simp only
    rw [rn_rn, rn_id e.c (fun x _ => swF_swF n x)]
  · rw [List.getElem?_eq_none (by rw [swX_len, swX_len]; omega), List.getElem?_eq_none (by omega)]
/-- A constant is added. -/
theorem add_ok {sig : List Dcl} {d : Dcl} (h : addE sig d = 0) : checkB (sig ++ [d]) = true ∧ checkB sig = true := by
  unfold addE at h
  cases hc : checkB sig with
  | false => rw [hc] at h; cases h
  | true =>
    rw [hc] at h
    simp only at h
    cases hn : nameIn sig d.s with
    | true => rw [hn] at h; cases h
    | false =>
      rw [hn] at h
      simp only at h
      split at h
      · cases h
      · rename_i hl
        have hl := of_decide_eq_false hl
        split at h
        · rename_i hf
          refine ⟨?_, rfl⟩
          obtain ⟨c1, c2, c3⟩ := (check_iff sig).1 hc
          have old : ∀ (i : Nat) e, (sig ++ [d])[i]? = some e → i < sig.length ∧ sig[i]? = some e ∨ i = sig.length ∧ e = d := fun i e he => by
            rw [List.getElem?_append] at he
            split at he
            · exact .inl ⟨by assumption, he⟩
            · right
              have : i - sig.length = 0 := by
                have := (List.getElem?_eq_some_iff.1 he).1
                simp at this
                omega
              rw [this] at he
              simp at he
              exact ⟨by omega, he.symm⟩
          rw [check_iff]
          refine ⟨by simp; omega, fun i j a b hij ha hb hs => ?_, fun i e he => ?_⟩
          · rcases old i a ha with ⟨h1, ha2⟩ | ⟨h1, _⟩ <;> rcases old j b hb with ⟨h2, hb2⟩ | ⟨h2, hb2⟩
            · exact c2 i j a b hij ha2 hb2 hs
            · subst hb2
              have : nameIn sig b.s = true := (nameIn_iff _ _).2 ⟨a, List.mem_of_getElem? ha2, hs⟩
              rw [hn] at this
              cases this
            · omega
            · omega
          · rcases old i e he with ⟨h1, he'⟩ | ⟨h1, rfl⟩
            · obtain ⟨o1, o2, o3, o4, o5, o6⟩ := c3 i e he'
              refine ⟨o1, o2, o3, o4, o5, o6.imp id fun h => ⟨h.1, ?_⟩⟩
              have ht := nodes_targ o5 h.1
              have ht0 := targ_pos o1 h.1
              have := h.2
              unfold kindAt at this ⊢
              rwa [List.getElem?_append_left (by omega)]
            · subst h1
              rw [← formed_iff he, List.take_left]
              exact hf
        · cases h
theorem nums_eq (n : Nat) : woL (n + 1) (n : Int) = nums n := by
  unfold woL nums
  rw [upTo_no (by simp)]
  unfold upTo
  congr 1
  rw [List.filter_eq_self]
  intro i hi
  have := List.mem_range.1 hi
  simp
  omega
/-- Without what was added. -/
theorem add_without {sig : List Dcl} {d : Dcl} (h : addE sig d = 0) : withoutE (sig ++ [d]) sig.length = 0 ∧ withoutF (sig ++ [d]) sig.length = sig := by
  obtain ⟨hc, hc0⟩ := add_ok h
  have hh : hasE (sig ++ [d]) (sig.length : Int) = 0 := by
    unfold hasE
    rw [hc]
    simp only
    rw [decide_eq_false (by omega), decide_eq_false (by simp; omega)]
    rfl
  have hu : useAny (sig ++ [d]) (sig.length : Int) = false := by
    unfold useAny
    rw [List.any_eq_false]
    intro e he
    obtain ⟨i, hi⟩ := List.mem_iff_getElem?.1 he
    rw [uses_cn]
    intro hx
    have := check_cn hc hi _ hx
    have := (List.getElem?_eq_some_iff.1 hi).1
    simp at this
    omega
  have hE : withoutE (sig ++ [d]) (sig.length : Int) = 0 := by
    unfold withoutE
    rw [hh, hu]
    rfl
  refine ⟨hE, ?_⟩
  unfold withoutF
  rw [hE]
  simp only [decide_true]
  rw [show (sig ++ [d]).length = sig.length + 1 by simp, nums_eq]
  unfold chosenF
  have hnd : ∀ (i j : Nat) a, i < j → (nums sig.length)[i]? = some a → (nums sig.length)[j]? = some a → False := fun i j a hij hi hj => by
    have h1 := (List.getElem?_eq_some_iff.1 hi).1
    have h2 := (List.getElem?_eq_some_iff.1 hj).1
    rw [nums_len] at h1 h2
    rw [nums_at h1] at hi
    rw [nums_at h2] at hj
    rw [← hi] at hj
    injection hj with hj
    omega
  refine List.ext_getElem? fun k => ?_
  rw [List.getElem?_map]
  by_cases hk : k < sig.length
  · rw [nums_at hk]
    simp only [Option.map_some]
    have hd : (sig ++ [d])[((k : Int)).toNat]? = some sig[k] := by rw [Int.toNat_natCast, List.getElem?_append_left hk, List.getElem?_eq_getElem hk]
    rw [pickD_at hd, rn_id _ (fun x hx => ?_), List.getElem?_eq_getElem hk]
    have hb := check_cn hc0 (List.getElem?_eq_getElem hk) x hx
    have hx0 : (nums sig.length)[x.toNat]? = some x := by rw [nums_at (by omega)]; congr 1; omega
    rw [mget_at hnd hx0]
    omega
  · rw [List.getElem?_eq_none (by rw [nums_len]; omega), List.getElem?_eq_none (by omega)]
    rfl
theorem rename_ok {sig : List Dcl} {n : Nat} {d : Dcl} (hd : sig[n]? = some d) {s : ByteArray} (h : renameE sig n s = 0) :
    checkB sig = true ∧ renameF sig n s = sig.set n ⟨s, d.c, d.i⟩ ∧ nameElse sig n s = false ∧ nameF s = true ∧ checkB (sig.set n ⟨s, d.c, d.i⟩) = true := by
  have hF : renameF sig n s = sig.set n ⟨s, d.c, d.i⟩ := by
    unfold renameF setName
    rw [h]
    simp only [decide_true]
    rw [Int.toNat_natCast, hd]
  unfold renameE at h
  split at h
  · rename_i h0
    exact absurd h (of_decide_eq_false h0)
  · rename_i h0
    obtain ⟨hc, h1, h2⟩ := hasE_ok (of_decide_eq_true h0)
    cases hn : nameElse sig n s with
    | true => rw [hn] at h; cases h
    | false =>
      rw [hn] at h
      simp only at h
      split at h
      · rename_i hnm
        refine ⟨hc, hF, rfl, hnm, ?_⟩
        have hlt : n < sig.length := by omega
        have els : ∀ (k : Nat) e, k ≠ n → sig[k]? = some e → e.s ≠ s := fun k e hk he hs => by
          unfold nameElse at hn
          rw [List.any_eq_false] at hn
          have := hn k (List.mem_range.2 (List.getElem?_eq_some_iff.1 he).1)
          rw [he] at this
          simp only [hs, decide_true, Bool.and_true, Bool.not_eq_true', decide_eq_false_iff_not] at this
          exact this (by omega)
        obtain ⟨c1, c2, c3⟩ := (check_iff sig).1 hc
        have old : ∀ (i : Nat) e, (sig.set n ⟨s, d.c, d.i⟩)[i]? = some e → i ≠ n ∧ sig[i]? = some e ∨ i = n ∧ e = ⟨s, d.c, d.i⟩ := fun i e he => by
          by_cases hi : i = n
          · subst hi
            rw [List.getElem?_set_self hlt] at he
            injection he with he
            exact .inr ⟨rfl, he.symm⟩
          · rw [List.getElem?_set_ne (by omega)] at he
            exact .inl ⟨hi, he⟩
        have kin : ∀ x, kindAt (sig.set n ⟨s, d.c, d.i⟩) x = kindAt sig x := fun x => by
          unfold kindAt
          by_cases hx : x.toNat = n
          · rw [hx, List.getElem?_set_self hlt, hd]
          · rw [List.getElem?_set_ne (by omega)]
        rw [check_iff]
        refine ⟨by rw [List.length_set]; exact c1, fun i j a b hij ha hb hs => ?_, fun i e he => ?_⟩
        · rcases old i a ha with ⟨h3, ha⟩ | ⟨h3, rfl⟩ <;> rcases old j b hb with ⟨h4, hb⟩ | ⟨h4, rfl⟩
          · exact c2 i j a b hij ha hb hs
          · exact els i a h3 ha hs
          · exact els j b h4 hb hs.symm
          · omega
        · rcases old i e he with ⟨h3, he⟩ | ⟨rfl, rfl⟩
          · obtain ⟨o1, o2, o3, o4, o5, o6⟩ := c3 i e he
            exact ⟨o1, o2, o3, o4, o5, by rw [kin]; exact o6⟩
          · obtain ⟨o1, o2, o3, o4, o5, o6⟩ := c3 i d hd
            exact ⟨o1, hnm, o3, o4, o5, by rw [kin]; exact o6⟩
      · cases h
/-- Renamed, and renamed back. -/
theorem rename_back {sig : List Dcl} {n : Nat} {d : Dcl} (hd : sig[n]? = some d) {s : ByteArray} (h : renameE sig n s = 0) :
    renameE (sig.set n ⟨s, d.c, d.i⟩) n d.s = 0 ∧ renameF (sig.set n ⟨s, d.c, d.i⟩) n d.s = sig := by
  obtain ⟨hc, hF, hne, hnm, hcu⟩ := rename_ok hd h
  have hlt := (List.getElem?_eq_some_iff.1 hd).1
  obtain ⟨c1, c2, c3⟩ := (check_iff sig).1 hc
  have hh : hasE (sig.set n ⟨s, d.c, d.i⟩) n = 0 := by
    unfold hasE
    rw [hcu]
    simp only
    rw [decide_eq_false (by omega), decide_eq_false (by rw [List.length_set]; omega)]
    rfl
  have hn2 : nameElse (sig.set n ⟨s, d.c, d.i⟩) n d.s = false := by
    unfold nameElse
    rw [List.any_eq_false]
    intro k hk
    have hk := List.mem_range.1 hk
    rw [List.length_set] at hk
    by_cases hkn : k = n
    · subst hkn; simp
    · rw [List.getElem?_set_ne (by omega), List.getElem?_eq_getElem hk]
      have he : sig[k]? = some sig[k] := List.getElem?_eq_getElem hk
      have hs : sig[k].s ≠ d.s := by
        rcases Nat.lt_or_gt_of_ne hkn with h1 | h1
        · exact c2 k n _ _ h1 he hd
        · exact fun h => c2 n k _ _ h1 hd he h.symm
      simp [hs]
  have hE : renameE (sig.set n ⟨s, d.c, d.i⟩) n d.s = 0 := by
    unfold renameE
    rw [hh, hn2, (c3 n d hd).2.1]
    rfl
  refine ⟨hE, ?_⟩
  unfold renameF setName
  rw [hE]
  simp only [decide_true]
  rw [Int.toNat_natCast, List.getElem?_set_self hlt]
  simp only
  rw [List.set_set]
  refine List.ext_getElem? fun k => ?_
  by_cases hk : k = n
  · subst hk
    rw [List.getElem?_set_self hlt, hd]
  · rw [List.getElem?_set_ne (by omega)]
theorem rename_find {sig : List Dcl} {n : Nat} {d : Dcl} (hd : sig[n]? = some d) {s : ByteArray} (h : renameE sig n s = 0) :
    nameIn (sig.set n ⟨s, d.c, d.i⟩) s = true ∧ findI (sig.set n ⟨s, d.c, d.i⟩) s = n := by
  obtain ⟨hc, hF, hne, hnm, hcu⟩ := rename_ok hd h
  have hlt := (List.getElem?_eq_some_iff.1 hd).1
  have hat : (sig.set n ⟨s, d.c, d.i⟩)[n]? = some ⟨s, d.c, d.i⟩ := List.getElem?_set_self hlt
  refine ⟨nameIn_yes hat rfl, ?_⟩
  unfold findI
  rw [find_at hat rfl fun q e hq he hs => ?_]
  obtain ⟨_, c2, _⟩ := (check_iff _).1 hcu
  exact c2 q n e _ hq he hat hs
end Go.Tr
/- The reference's Same and Add; the law's helpers; awake. -/
namespace Go.Tr
open Go.Proofs
theorem cRSame (l : List Dcl) : CallSt Try.prog 16 [.c (.sl 6 72 (dcs l)), .c (.sl 6 72 (dcs l))] [] (fun r H' => r = .c (.bool true) ∧ H' = []) := by
  have hbl := len_dcs l
  refine call_pure (E := env 0) (fn := Try.f16) (c := bodyOf Try.f16) (env_ok 0) mixed (by kernel_rfl) (by kernel_rfl) (by kernel_rfl) (by kernel_rfl) (by kernel_rfl) (by kernel_rfl) rfl ?_
  conv => whnf
  intro hlen
  replace hlen : (dcs l).length * 72 ≤ 140737488355328 := hlen
  conv => whnf
  intro _
  conv => whnf
  (refine ⟨fun h => absurd h (by simp), fun _ => ?_⟩; conv => whnf)
  repeat (first | (refine And.intro rfl ?_; conv => whnf) | (refine And.intro (by decide) ?_; conv => whnf) | (refine draw_intro true (by kernel_rfl) ?_; conv => whnf) | (refine And.intro ⟨by omega, by omega⟩ ?_; conv => whnf) | (refine And.intro (by omega) ?_; conv => whnf) | (refine And.intro (fun _ => ⟨by omega, by omega⟩) ?_; conv => whnf) | (refine And.intro (fun _ => ?_) (fun h => absurd h ?_); rotate_left; (focus (first | decide | (simp; done) | (simp [tcs]; done))); conv => whnf) | (refine And.intro (fun h => absurd h ?_) (fun _ => ?_); (focus (first | decide | (simp; done) | (simp [tcs]; done))); conv => whnf) | (intro _; conv => whnf))
  refine loop_intro (fun m tm H => ∃ j : Nat, l.length = m + j ∧
    tm = [(14, .c (.int .i64 (j))), (13, .c (.int .i64 ((dcs l).length))), (12, .c (.sl 6 72 (dcs l))), (1, .c (.sl 6 72 (dcs l)))] ∧ H = [])
    l.length _ _ ⟨0, by omega, rfl, rfl⟩ (Wk.sel [] (by decide) (by decide) (by decide) trivial ⟨rfl, rfl, rfl, rfl, trivial⟩ rfl) ?_
  rintro m tm H ⟨j, hj, rfl, rfl⟩
  conv => whnf
  refine ⟨fun hlt => ?_, fun hlt => ?_⟩
  · replace hlt : (j : Int) < (dcs l).length := of_decide_eq_true hlt
    obtain ⟨e, hee⟩ : ∃ e, l[j]? = some e := ⟨l[j]'(by omega), List.getElem?_eq_getElem (by omega)⟩
    have hec := dcs_at hee
    have hsm := c23 e.c e.c
    rw [sameT_self] at hsm
    obtain ⟨s', ⟨k', l', n', us⟩, i'⟩ := e
    rw [tv_mk] at hsm
    conv => whnf
    refine ⟨_, ⟨by omega, hec⟩, ?_⟩
    conv => whnf
    refine ⟨show 6 ≤ 6 by decide, ?_⟩
    conv => whnf
    refine draw_intro true (by kernel_rfl) ?_
    conv => whnf
    refine ⟨_, ⟨by omega, hec⟩, ?_⟩
    conv => whnf
    refine ⟨show 1 ≤ 6 by decide, ?_⟩
    conv => whnf
    refine ⟨_, fun _ => ⟨by omega, hec⟩, ?_⟩
    conv => whnf
    refine ⟨show 1 ≤ 1 by decide, ?_⟩
    conv => whnf
    refine ⟨_, fun _ => ⟨by omega, hec⟩, ?_⟩
    conv => whnf
    refine ⟨show 4 ≤ 5 by decide, ?_⟩
    conv => whnf
    (refine ⟨fun _ => ?_, fun h => absurd h (by simp)⟩; conv => whnf)
    try (refine draw_intro true (by kernel_rfl) ?_; conv => whnf)
    refine CallSt.use hsm [] trivial (by decide) rfl ?_
    rintro _ _ ⟨rfl, rfl⟩ _
    conv => whnf
    (refine ⟨fun h => absurd h (by simp), fun _ => ?_⟩; conv => whnf)
    refine ⟨⟨by omega, by omega⟩, ?_⟩
    conv => whnf
    exact ⟨m - 1, _, _, by omega, ⟨j + 1, by omega, rfl, rfl⟩, Wk.sel [] (by decide) (by decide) (by decide) trivial ⟨rfl, rfl, rfl, rfl, trivial⟩ rfl⟩
  · replace hlt : ¬ (j : Int) < (dcs l).length := of_decide_eq_false hlt
    conv => whnf
    repeat (first | (refine And.intro rfl ?_; conv => whnf) | (refine And.intro (by decide) ?_; conv => whnf) | (refine draw_intro true (by kernel_rfl) ?_; conv => whnf) | (refine And.intro ⟨by omega, by omega⟩ ?_; conv => whnf) | (refine And.intro (by omega) ?_; conv => whnf) | (refine And.intro (fun _ => ⟨by omega, by omega⟩) ?_; conv => whnf) | (refine And.intro (fun _ => ?_) (fun h => absurd h ?_); rotate_left; (focus (first | decide | (simp; done) | (simp [tcs]; done))); conv => whnf) | (refine And.intro (fun h => absurd h ?_) (fun _ => ?_); (focus (first | decide | (simp; done) | (simp [tcs]; done))); conv => whnf) | (intro _; conv => whnf))
    all_goals (first | rfl | exact ⟨rfl, rfl⟩ | exact ⟨rfl, rfl, rfl⟩)
theorem cRAdd (sig : List Dcl) (hc : checkB sig = true) (d : Dcl) : CallSt Try.prog 29 [.c (.sl 6 72 (dcs sig)), dv d] [] (fun r H' => r = .tup [.c (.sl 6 72 (dcs (addL sig d))), .c (.int .i64 (addE sig d))] ∧ H' = []) := by
  have hbl := len_dcs sig
  have hsl := check_len hc
  have hfd := cRFind sig (by omega) d.s
  have hfm := cRFormed1 sig (check_prop hc) (by omega) d
  have hE : addE sig d = (match nameIn sig d.s with | true => 21 | false => (match decide (100 ≤ sig.length) with | true => 5 | false => (match formedF sig d with | true => 0 | false => 2))) := by
    unfold addE
    rw [hc]
    rfl
  have e1 : nameIn sig d.s = true → addE sig d = 21 := fun h => by rw [hE, h]
  have e2 : nameIn sig d.s = false → 100 ≤ sig.length → addE sig d = 5 := fun h h2 => by rw [hE, h, decide_eq_true h2]
  have e3 : nameIn sig d.s = false → ¬ 100 ≤ sig.length → formedF sig d = false → addE sig d = 2 := fun h h2 h3 => by rw [hE, h, decide_eq_false h2, h3]
  have e4 : nameIn sig d.s = false → ¬ 100 ≤ sig.length → formedF sig d = true → addE sig d = 0 := fun h h2 h3 => by rw [hE, h, decide_eq_false h2, h3]
  have l0 : addE sig d ≠ 0 → addL sig d = [] := fun h => by unfold addL; rw [decide_eq_false h]
  have l1 : addE sig d = 0 → addL sig d = sig ++ [d] := fun h => by unfold addL; rw [decide_eq_true h]
  clear hE
  generalize addL sig d = L at *
  generalize addE sig d = E at *
  have hfi : 0 ≤ findI sig d.s := by unfold findI; omega
  unfold formedR at hfm
  cases hni : nameIn sig d.s with
  | true =>
    obtain rfl := e1 hni
    obtain rfl := l0 (by decide)
    rw [hni] at hfd
    simp only at hfd
    obtain ⟨s, ⟨k, l, n, ts⟩, i⟩ := d
    generalize findI sig s = x at *
    refine call_pure (E := env 0) (fn := Try.f29) (c := bodyOf Try.f29) (env_ok 0) mixed (by kernel_rfl) (by kernel_rfl) (by kernel_rfl) (by kernel_rfl) (by kernel_rfl) (by kernel_rfl) rfl ?_
    conv => whnf
    try (refine draw_intro true (by kernel_rfl) ?_; conv => whnf)
    refine CallSt.use hfd [] trivial (by decide) rfl ?_
    rintro _ _ ⟨rfl, rfl⟩ _
    conv => whnf
    (refine ⟨fun _ => ?_, fun h => absurd (of_decide_eq_false h) (by omega)⟩; conv => whnf)
    repeat (first | (refine And.intro rfl ?_; conv => whnf) | (refine And.intro (by decide) ?_; conv => whnf) | (refine draw_intro true (by kernel_rfl) ?_; conv => whnf) | (refine And.intro ⟨by omega, by omega⟩ ?_; conv => whnf) | (refine And.intro (by omega) ?_; conv => whnf) | (refine And.intro (fun _ => ⟨by omega, by omega⟩) ?_; conv => whnf) | (refine And.intro (fun _ => ?_) (fun h => absurd h ?_); rotate_left; (focus (first | decide | (simp; done) | (simp [tcs]; done))); conv => whnf) | (refine And.intro (fun h => absurd h ?_) (fun _ => ?_); (focus (first | decide | (simp; done) | (simp [tcs]; done))); conv => whnf) | (intro _; conv => whnf))
    all_goals (first | rfl | exact ⟨rfl, rfl⟩ | exact ⟨rfl, rfl, rfl⟩)
  | false =>
    rw [hni] at hfd hfm
    simp only [Bool.not_false, Bool.true_and] at hfd hfm
    by_cases hfu : 100 ≤ sig.length
    · obtain rfl := e2 hni hfu
      obtain rfl := l0 (by decide)
      obtain ⟨s, ⟨k, l, n, ts⟩, i⟩ := d
      refine call_pure (E := env 0) (fn := Try.f29) (c := bodyOf Try.f29) (env_ok 0) mixed (by kernel_rfl) (by kernel_rfl) (by kernel_rfl) (by kernel_rfl) (by kernel_rfl) (by kernel_rfl) rfl ?_
      conv => whnf
      try (refine draw_intro true (by kernel_rfl) ?_; conv => whnf)
      refine CallSt.use hfd [] trivial (by decide) rfl ?_
      rintro _ _ ⟨rfl, rfl⟩ _
      conv => whnf
      repeat (first | (refine And.intro rfl ?_; conv => whnf) | (refine And.intro (by decide) ?_; conv => whnf) | (refine draw_intro true (by kernel_rfl) ?_; conv => whnf) | (refine And.intro ⟨by omega, by omega⟩ ?_; conv => whnf) | (refine And.intro (by omega) ?_; conv => whnf) | (refine And.intro (fun _ => ⟨by omega, by omega⟩) ?_; conv => whnf) | (refine And.intro (fun _ => ?_) (fun h => absurd h ?_); rotate_left; (focus (first | decide | (simp; done) | (simp [tcs]; done))); conv => whnf) | (refine And.intro (fun h => absurd h ?_) (fun _ => ?_); (focus (first | decide | (simp; done) | (simp [tcs]; done))); conv => whnf) | (intro _; conv => whnf))
      (refine ⟨fun _ => ?_, fun h => absurd (of_decide_eq_false h) (by omega)⟩; conv => whnf)
      repeat (first | (refine And.intro rfl ?_; conv => whnf) | (refine And.intro (by decide) ?_; conv => whnf) | (refine draw_intro true (by kernel_rfl) ?_; conv => whnf) | (refine And.intro ⟨by omega, by omega⟩ ?_; conv => whnf) | (refine And.intro (by omega) ?_; conv => whnf) | (refine And.intro (fun _ => ⟨by omega, by omega⟩) ?_; conv => whnf) | (refine And.intro (fun _ => ?_) (fun h => absurd h ?_); rotate_left; (focus (first | decide | (simp; done) | (simp [tcs]; done))); conv => whnf) | (refine And.intro (fun h => absurd h ?_) (fun _ => ?_); (focus (first | decide | (simp; done) | (simp [tcs]; done))); conv => whnf) | (intro _; conv => whnf))
      all_goals (first | rfl | exact ⟨rfl, rfl⟩ | exact ⟨rfl, rfl, rfl⟩)
    · cases hb : formedF sig d with
      | false =>
        obtain rfl := e3 hni hfu hb
        obtain rfl := l0 (by decide)
        rw [hb] at hfm
        obtain ⟨s, ⟨k, l, n, ts⟩, i⟩ := d
        refine call_pure (E := env 0) (fn := Try.f29) (c := bodyOf Try.f29) (env_ok 0) mixed (by kernel_rfl) (by kernel_rfl) (by kernel_rfl) (by kernel_rfl) (by kernel_rfl) (by kernel_rfl) rfl ?_
        conv => whnf
        try (refine draw_intro true (by kernel_rfl) ?_; conv => whnf)
        refine CallSt.use hfd [] trivial (by decide) rfl ?_
        rintro _ _ ⟨rfl, rfl⟩ _
        conv => whnf
        repeat (first | (refine And.intro rfl ?_; conv => whnf) | (refine And.intro (by decide) ?_; conv => whnf) | (refine draw_intro true (by kernel_rfl) ?_; conv => whnf) | (refine And.intro ⟨by omega, by omega⟩ ?_; conv => whnf) | (refine And.intro (by omega) ?_; conv => whnf) | (refine And.intro (fun _ => ⟨by omega, by omega⟩) ?_; conv => whnf) | (refine And.intro (fun _ => ?_) (fun h => absurd h ?_); rotate_left; (focus (first | decide | (simp; done) | (simp [tcs]; done))); conv => whnf) | (refine And.intro (fun h => absurd h ?_) (fun _ => ?_); (focus (first | decide | (simp; done) | (simp [tcs]; done))); conv => whnf) | (intro _; conv => whnf))
        (refine ⟨fun h => absurd (of_decide_eq_true h) (by omega), fun _ => ?_⟩; conv => whnf)
        try (refine draw_intro true (by kernel_rfl) ?_; conv => whnf)
        refine CallSt.use hfm [] trivial (by decide) rfl ?_
        rintro _ _ ⟨rfl, rfl⟩ _
        conv => whnf
        repeat (first | (refine And.intro rfl ?_; conv => whnf) | (refine And.intro (by decide) ?_; conv => whnf) | (refine draw_intro true (by kernel_rfl) ?_; conv => whnf) | (refine And.intro ⟨by omega, by omega⟩ ?_; conv => whnf) | (refine And.intro (by omega) ?_; conv => whnf) | (refine And.intro (fun _ => ⟨by omega, by omega⟩) ?_; conv => whnf) | (refine And.intro (fun _ => ?_) (fun h => absurd h ?_); rotate_left; (focus (first | decide | (simp; done) | (simp [tcs]; done))); conv => whnf) | (refine And.intro (fun h => absurd h ?_) (fun _ => ?_); (focus (first | decide | (simp; done) | (simp [tcs]; done))); conv => whnf) | (intro _; conv => whnf))
        all_goals (first | rfl | exact ⟨rfl, rfl⟩ | exact ⟨rfl, rfl, rfl⟩)
      | true =>
        obtain rfl := e4 hni hfu hb
        obtain rfl := l1 rfl
        rw [hb] at hfm
        obtain ⟨s, ⟨k, l, n, ts⟩, i⟩ := d
        have hds : dcs (sig ++ [⟨s, ⟨k, l, n, ts⟩, i⟩]) = dcs sig ++ [[.str s, .int .i64 k, .int .i64 l, .int .i64 n, .sl 4 48 (tcs ts), .int .i64 i]] := by rw [← dcs_snoc]; rfl
        rw [hds]
        refine call_pure (E := env 0) (fn := Try.f29) (c := bodyOf Try.f29) (env_ok 0) mixed (by kernel_rfl) (by kernel_rfl) (by kernel_rfl) (by kernel_rfl) (by kernel_rfl) (by kernel_rfl) rfl ?_
        conv => whnf
        try (refine draw_intro true (by kernel_rfl) ?_; conv => whnf)
        refine CallSt.use hfd [] trivial (by decide) rfl ?_
        rintro _ _ ⟨rfl, rfl⟩ _
        conv => whnf
        repeat (first | (refine And.intro rfl ?_; conv => whnf) | (refine And.intro (by decide) ?_; conv => whnf) | (refine draw_intro true (by kernel_rfl) ?_; conv => whnf) | (refine And.intro ⟨by omega, by omega⟩ ?_; conv => whnf) | (refine And.intro (by omega) ?_; conv => whnf) | (refine And.intro (fun _ => ⟨by omega, by omega⟩) ?_; conv => whnf) | (refine And.intro (fun _ => ?_) (fun h => absurd h ?_); rotate_left; (focus (first | decide | (simp; done) | (simp [tcs]; done))); conv => whnf) | (refine And.intro (fun h => absurd h ?_) (fun _ => ?_); (focus (first | decide | (simp; done) | (simp [tcs]; done))); conv => whnf) | (intro _; conv => whnf))
        (refine ⟨fun h => absurd (of_decide_eq_true h) (by omega), fun _ => ?_⟩; conv => whnf)
        try (refine draw_intro true (by kernel_rfl) ?_; conv => whnf)
        refine CallSt.use hfm [] trivial (by decide) rfl ?_
        rintro _ _ ⟨rfl, rfl⟩ _
        conv => whnf
        repeat (first | (refine And.intro rfl ?_; conv => whnf) | (refine And.intro (by decide) ?_; conv => whnf) | (refine draw_intro true (by kernel_rfl) ?_; conv => whnf) | (refine And.intro ⟨by omega, by omega⟩ ?_; conv => whnf) | (refine And.intro (by omega) ?_; conv => whnf) | (refine And.intro (fun _ => ⟨by omega, by omega⟩) ?_; conv => whnf) | (refine And.intro (fun _ => ?_) (fun h => absurd h ?_); rotate_left; (focus (first | decide | (simp; done) | (simp [tcs]; done))); conv => whnf) | (refine And.intro (fun h => absurd h ?_) (fun _ => ?_); (focus (first | decide | (simp; done) | (simp [tcs]; done))); conv => whnf) | (intro _; conv => whnf))
        refine ⟨show (dcs sig).length * 72 ≤ 140737488355328 by omega, by omega, ?_⟩
        conv => whnf
        refine ⟨by decide, ?_⟩
        conv => whnf
        refine ⟨by decide, ?_⟩
        conv => whnf
        refine ⟨show ((dcs sig).length + 1) * 72 ≤ 140737488355328 by omega, show (dcs sig).length + 1 ≤ 9223372036854775807 by omega, ?_⟩
        conv => whnf
        repeat (first | (refine And.intro rfl ?_; conv => whnf) | (refine And.intro (by decide) ?_; conv => whnf) | (refine draw_intro true (by kernel_rfl) ?_; conv => whnf) | (refine And.intro ⟨by omega, by omega⟩ ?_; conv => whnf) | (refine And.intro (by omega) ?_; conv => whnf) | (refine And.intro (fun _ => ⟨by omega, by omega⟩) ?_; conv => whnf) | (refine And.intro (fun _ => ?_) (fun h => absurd h ?_); rotate_left; (focus (first | decide | (simp; done) | (simp [tcs]; done))); conv => whnf) | (refine And.intro (fun h => absurd h ?_) (fun _ => ?_); (focus (first | decide | (simp; done) | (simp [tcs]; done))); conv => whnf) | (intro _; conv => whnf))
        all_goals (first | rfl | exact ⟨rfl, rfl⟩ | exact ⟨rfl, rfl, rfl⟩)
def con0 (n : Int) (ts : List Term) : Term := .mk 4 2 n ts
theorem cConL (n : Int) (ts : List Term) : CallSt Try.prog 31 [.c (.int .i64 (n)), .c (.sl 4 48 (tcs ts))] [] (fun r H' => r = tv (con0 n ts) ∧ H' = []) := by
  refine call_pure (E := env 0) (fn := Try.f31) (c := bodyOf Try.f31) (env_ok 0) mixed (by kernel_rfl) (by kernel_rfl) (by kernel_rfl) (by kernel_rfl) (by kernel_rfl) (by kernel_rfl) rfl ?_
  conv => whnf
  repeat (first | (refine And.intro rfl ?_; conv => whnf) | (refine And.intro (by decide) ?_; conv => whnf) | (refine draw_intro true (by kernel_rfl) ?_; conv => whnf) | (refine And.intro ⟨by omega, by omega⟩ ?_; conv => whnf) | (refine And.intro (by omega) ?_; conv => whnf) | (refine And.intro (fun _ => ⟨by omega, by omega⟩) ?_; conv => whnf) | (refine And.intro (fun _ => ?_) (fun h => absurd h ?_); rotate_left; (focus (first | decide | (simp; done) | (simp [tcs]; done))); conv => whnf) | (refine And.intro (fun h => absurd h ?_) (fun _ => ?_); (focus (first | decide | (simp; done) | (simp [tcs]; done))); conv => whnf) | (intro _; conv => whnf))
  all_goals (first | rfl | exact ⟨rfl, rfl⟩ | exact ⟨rfl, rfl, rfl⟩)
theorem cArrowL (a b : Term) : CallSt Try.prog 61 [tv a, tv b] [] (fun r H' => r = tv (.mk 2 0 0 [a, b]) ∧ H' = []) := by
  obtain ⟨k, l, n, ts⟩ := a
  obtain ⟨k2, l2, n2, us⟩ := b
  rw [tv_mk, tv_mk]
  refine call_pure (E := env 0) (fn := Try.f61) (c := bodyOf Try.f61) (env_ok 0) mixed (by kernel_rfl) (by kernel_rfl) (by kernel_rfl) (by kernel_rfl) (by kernel_rfl) (by kernel_rfl) rfl ?_
  conv => whnf
  repeat (first | (refine And.intro rfl ?_; conv => whnf) | (refine And.intro (by decide) ?_; conv => whnf) | (refine draw_intro true (by kernel_rfl) ?_; conv => whnf) | (refine And.intro ⟨by omega, by omega⟩ ?_; conv => whnf) | (refine And.intro (by omega) ?_; conv => whnf) | (refine And.intro (fun _ => ⟨by omega, by omega⟩) ?_; conv => whnf) | (refine And.intro (fun _ => ?_) (fun h => absurd h ?_); rotate_left; (focus (first | decide | (simp; done) | (simp [tcs]; done))); conv => whnf) | (refine And.intro (fun h => absurd h ?_) (fun _ => ?_); (focus (first | decide | (simp; done) | (simp [tcs]; done))); conv => whnf) | (intro _; conv => whnf))
  all_goals (first | rfl | exact ⟨rfl, rfl⟩ | exact ⟨rfl, rfl, rfl⟩)
def sNat : ByteArray := ⟨#[110, 97, 116]⟩
def sZ : ByteArray := ⟨#[122]⟩
def sS : ByteArray := ⟨#[115]⟩
def natS : List Dcl := [⟨sNat, .mk 1 0 0 [], 0⟩, ⟨sZ, con0 0 [], 0⟩, ⟨sS, .mk 2 0 0 [con0 0 [], con0 0 []], 0⟩]
theorem cNatL : CallSt Try.prog 40 [] [] (fun r H' => r = .c (.sl 6 72 (dcs natS)) ∧ H' = []) := by
  have h1 := cConL 0 []
  have h2 := cArrowL (con0 0 []) (con0 0 [])
  refine call_pure (E := env 0) (fn := Try.f40) (c := bodyOf Try.f40) (env_ok 0) mixed (by kernel_rfl) (by kernel_rfl) (by kernel_rfl) (by kernel_rfl) (by kernel_rfl) (by kernel_rfl) rfl ?_
  conv => whnf
  try (refine draw_intro true (by kernel_rfl) ?_; conv => whnf)
  refine CallSt.use h1 [] trivial (by decide) rfl ?_
  rintro _ _ ⟨rfl, rfl⟩ _
  conv => whnf
  try (refine draw_intro true (by kernel_rfl) ?_; conv => whnf)
  refine CallSt.use h1 [] trivial (by decide) rfl ?_
  rintro _ _ ⟨rfl, rfl⟩ _
  conv => whnf
  try (refine draw_intro true (by kernel_rfl) ?_; conv => whnf)
  refine CallSt.use h1 [] trivial (by decide) rfl ?_
  rintro _ _ ⟨rfl, rfl⟩ _
  conv => whnf
  try (refine draw_intro true (by kernel_rfl) ?_; conv => whnf)
  refine CallSt.use h2 [] trivial (by decide) rfl ?_
  rintro _ _ ⟨rfl, rfl⟩ _
  conv => whnf
  repeat (first | (refine And.intro rfl ?_; conv => whnf) | (refine And.intro (by decide) ?_; conv => whnf) | (refine draw_intro true (by kernel_rfl) ?_; conv => whnf) | (refine And.intro ⟨by omega, by omega⟩ ?_; conv => whnf) | (refine And.intro (by omega) ?_; conv => whnf) | (refine And.intro (fun _ => ⟨by omega, by omega⟩) ?_; conv => whnf) | (refine And.intro (fun _ => ?_) (fun h => absurd h ?_); rotate_left; (focus (first | decide | (simp; done) | (simp [tcs]; done))); conv => whnf) | (refine And.intro (fun h => absurd h ?_) (fun _ => ?_); (focus (first | decide | (simp; done) | (simp [tcs]; done))); conv => whnf) | (intro _; conv => whnf))
  all_goals (first | rfl | exact ⟨rfl, rfl⟩ | exact ⟨rfl, rfl, rfl⟩)
theorem cGivesL (l : List Dcl) (e : Int) : CallSt Try.prog 30 [.c (.sl 6 72 (dcs l)), .c (.int .i64 (e)), .c (.bool true), .c (.sl 6 72 (dcs l)), .c (.int .i64 (e))] [] (fun r H' => r = .c (.bool true) ∧ H' = []) := by
  have hs := cRSame l
  refine call_pure (E := env 0) (fn := Try.f30) (c := bodyOf Try.f30) (env_ok 0) mixed (by kernel_rfl) (by kernel_rfl) (by kernel_rfl) (by kernel_rfl) (by kernel_rfl) (by kernel_rfl) rfl ?_
  conv => whnf
  repeat (first | (refine And.intro rfl ?_; conv => whnf) | (refine And.intro (by decide) ?_; conv => whnf) | (refine draw_intro true (by kernel_rfl) ?_; conv => whnf) | (refine And.intro ⟨by omega, by omega⟩ ?_; conv => whnf) | (refine And.intro (by omega) ?_; conv => whnf) | (refine And.intro (fun _ => ⟨by omega, by omega⟩) ?_; conv => whnf) | (refine And.intro (fun _ => ?_) (fun h => absurd h ?_); rotate_left; (focus (first | decide | (simp; done) | (simp [tcs]; done))); conv => whnf) | (refine And.intro (fun h => absurd h ?_) (fun _ => ?_); (focus (first | decide | (simp; done) | (simp [tcs]; done))); conv => whnf) | (intro _; conv => whnf))
  try (refine draw_intro true (by kernel_rfl) ?_; conv => whnf)
  refine CallSt.use hs [] trivial (by decide) rfl ?_
  rintro _ _ ⟨rfl, rfl⟩ _
  conv => whnf
  repeat (first | (refine And.intro rfl ?_; conv => whnf) | (refine And.intro (by decide) ?_; conv => whnf) | (refine draw_intro true (by kernel_rfl) ?_; conv => whnf) | (refine And.intro ⟨by omega, by omega⟩ ?_; conv => whnf) | (refine And.intro (by omega) ?_; conv => whnf) | (refine And.intro (fun _ => ⟨by omega, by omega⟩) ?_; conv => whnf) | (refine And.intro (fun _ => ?_) (fun h => absurd h ?_); rotate_left; (focus (first | decide | (simp; done) | (simp [tcs]; done))); conv => whnf) | (refine And.intro (fun h => absurd h ?_) (fun _ => ?_); (focus (first | decide | (simp; done) | (simp [tcs]; done))); conv => whnf) | (intro _; conv => whnf))
  exact ⟨congrArg (fun z => AV.c (.bool z)) (by simp), rfl⟩
theorem cGivesN (m : List Dcl) (f : Int) : CallSt Try.prog 30 [.c (.sl 6 72 (dcs [])), .c (.int .i64 (2)), .c (.bool false), .c (.sl 6 72 (dcs m)), .c (.int .i64 (f))] [] (fun r H' => r = .c (.bool true) ∧ H' = []) := by
  refine call_pure (E := env 0) (fn := Try.f30) (c := bodyOf Try.f30) (env_ok 0) mixed (by kernel_rfl) (by kernel_rfl) (by kernel_rfl) (by kernel_rfl) (by kernel_rfl) (by kernel_rfl) rfl ?_
  conv => whnf
  repeat (first | (refine And.intro rfl ?_; conv => whnf) | (refine And.intro (by decide) ?_; conv => whnf) | (refine draw_intro true (by kernel_rfl) ?_; conv => whnf) | (refine And.intro ⟨by omega, by omega⟩ ?_; conv => whnf) | (refine And.intro (by omega) ?_; conv => whnf) | (refine And.intro (fun _ => ⟨by omega, by omega⟩) ?_; conv => whnf) | (refine And.intro (fun _ => ?_) (fun h => absurd h ?_); rotate_left; (focus (first | decide | (simp; done) | (simp [tcs]; done))); conv => whnf) | (refine And.intro (fun h => absurd h ?_) (fun _ => ?_); (focus (first | decide | (simp; done) | (simp [tcs]; done))); conv => whnf) | (intro _; conv => whnf))
  all_goals (first | rfl | exact ⟨rfl, rfl⟩ | exact ⟨rfl, rfl, rfl⟩)
end Go.Tr
/- awake. -/
namespace Go.Tr
open Go.Proofs
theorem nat_of : ofF natS 0 = [1, 2] := by kernel_rfl
theorem nat_ofE : ofE natS 0 = 0 := by kernel_rfl
theorem nat_has : hasE natS 2 = 0 := by kernel_rfl
theorem nat_head : headAt natS 2 = 0 := by kernel_rfl
theorem nat_swap : swapF natS 1 = [⟨sNat, .mk 1 0 0 [], 0⟩, ⟨sS, .mk 2 0 0 [con0 0 [], con0 0 []], 0⟩, ⟨sZ, con0 0 [], 0⟩] := by kernel_rfl
theorem nat_swapE : swapE natS 1 = 0 := by kernel_rfl
theorem nat_swapE0 : swapE natS 0 = 27 := by kernel_rfl
theorem nat_swap0 : swapF natS 0 = [] := by kernel_rfl
theorem nat_ok : checkB natS = true := by kernel_rfl
theorem nat_prop : prop (con0 2 [con0 1 []]) = true := by kernel_rfl
theorem nat_lev : levelF natS (con0 2 [con0 1 []]) = 3 := by kernel_rfl
theorem nat_levE : levelE natS (con0 2 [con0 1 []]) = 0 := by kernel_rfl
theorem cAwakeL : CallSt Try.prog 13 [] [] (fun r H' => r = .c (.bool true) ∧ H' = []) := by
  have h0 := cNatL
  have h1 := cOf natS 0
  rw [nat_of, nat_ofE] at h1
  have h2 := cTargetS natS 2
  rw [nat_has, nat_head] at h2
  have h3 := cSwap natS 1
  rw [nat_swap, nat_swapE] at h3
  have h4 := cSwap natS 0
  rw [nat_swap0, nat_swapE0] at h4
  have h5 := cLevel natS (con0 2 [con0 1 []])
  rw [nat_ok, nat_prop, nat_lev, nat_levE] at h5
  have h6 := cConL 1 []
  have h7 := cConL 2 [con0 1 []]
  have h8 := cNumsEq [1, 2] [1, 2] (by decide) (by decide)
  rw [decide_eq_true rfl] at h8
  refine call_pure (E := env 0) (fn := Try.f13) (c := bodyOf Try.f13) (env_ok 0) mixed (by kernel_rfl) (by kernel_rfl) (by kernel_rfl) (by kernel_rfl) (by kernel_rfl) (by kernel_rfl) rfl ?_
  conv => whnf
  try (refine draw_intro true (by kernel_rfl) ?_; conv => whnf)
  refine CallSt.use h0 [] trivial (by decide) rfl ?_
  rintro _ _ ⟨rfl, rfl⟩ _
  conv => whnf
  try (refine draw_intro true (by kernel_rfl) ?_; conv => whnf)
  refine CallSt.use h1 [] trivial (by decide) rfl ?_
  rintro _ _ ⟨rfl, rfl⟩ _
  conv => whnf
  try (refine draw_intro true (by kernel_rfl) ?_; conv => whnf)
  refine CallSt.use h0 [] trivial (by decide) rfl ?_
  rintro _ _ ⟨rfl, rfl⟩ _
  conv => whnf
  try (refine draw_intro true (by kernel_rfl) ?_; conv => whnf)
  refine CallSt.use h2 [] trivial (by decide) rfl ?_
  rintro _ _ ⟨rfl, rfl⟩ _
  conv => whnf
  try (refine draw_intro true (by kernel_rfl) ?_; conv => whnf)
  refine CallSt.use h0 [] trivial (by decide) rfl ?_
  rintro _ _ ⟨rfl, rfl⟩ _
  conv => whnf
  try (refine draw_intro true (by kernel_rfl) ?_; conv => whnf)
  refine CallSt.use h3 [] trivial (by decide) rfl ?_
  rintro _ _ ⟨rfl, rfl⟩ _
  conv => whnf
  try (refine draw_intro true (by kernel_rfl) ?_; conv => whnf)
  refine CallSt.use h0 [] trivial (by decide) rfl ?_
  rintro _ _ ⟨rfl, rfl⟩ _
  conv => whnf
  try (refine draw_intro true (by kernel_rfl) ?_; conv => whnf)
  refine CallSt.use h4 [] trivial (by decide) rfl ?_
  rintro _ _ ⟨rfl, rfl⟩ _
  conv => whnf
  try (refine draw_intro true (by kernel_rfl) ?_; conv => whnf)
  refine CallSt.use h0 [] trivial (by decide) rfl ?_
  rintro _ _ ⟨rfl, rfl⟩ _
  conv => whnf
  try (refine draw_intro true (by kernel_rfl) ?_; conv => whnf)
  refine CallSt.use h6 [] trivial (by decide) rfl ?_
  rintro _ _ ⟨rfl, rfl⟩ _
  conv => whnf
  repeat (first | (refine And.intro rfl ?_; conv => whnf) | (refine And.intro (by decide) ?_; conv => whnf) | (refine draw_intro true (by kernel_rfl) ?_; conv => whnf) | (refine And.intro ⟨by omega, by omega⟩ ?_; conv => whnf) | (refine And.intro (by omega) ?_; conv => whnf) | (refine And.intro (fun _ => ⟨by omega, by omega⟩) ?_; conv => whnf) | (refine And.intro (fun _ => ?_) (fun h => absurd h ?_); rotate_left; (focus (first | decide | (simp; done) | (simp [tcs]; done))); conv => whnf) | (refine And.intro (fun h => absurd h ?_) (fun _ => ?_); (focus (first | decide | (simp; done) | (simp [tcs]; done))); conv => whnf) | (intro _; conv => whnf))
  try (refine draw_intro true (by kernel_rfl) ?_; conv => whnf)
  refine CallSt.use h7 [] trivial (by decide) rfl ?_
  rintro _ _ ⟨rfl, rfl⟩ _
  conv => whnf
  try (refine draw_intro true (by kernel_rfl) ?_; conv => whnf)
  refine CallSt.use h5 [] trivial (by decide) rfl ?_
  rintro _ _ ⟨rfl, rfl⟩ _
  conv => whnf
  repeat (first | (refine And.intro rfl ?_; conv => whnf) | (refine And.intro (by decide) ?_; conv => whnf) | (refine draw_intro true (by kernel_rfl) ?_; conv => whnf) | (refine And.intro ⟨by omega, by omega⟩ ?_; conv => whnf) | (refine And.intro (by omega) ?_; conv => whnf) | (refine And.intro (fun _ => ⟨by omega, by omega⟩) ?_; conv => whnf) | (refine And.intro (fun _ => ?_) (fun h => absurd h ?_); rotate_left; (focus (first | decide | (simp; done) | (simp [tcs]; done))); conv => whnf) | (refine And.intro (fun h => absurd h ?_) (fun _ => ?_); (focus (first | decide | (simp; done) | (simp [tcs]; done))); conv => whnf) | (intro _; conv => whnf))
  try (refine draw_intro true (by kernel_rfl) ?_; conv => whnf)
  refine CallSt.use h8 [] trivial (by decide) rfl ?_
  rintro _ _ ⟨rfl, rfl⟩ _
  conv => whnf
  repeat (first | (refine And.intro rfl ?_; conv => whnf) | (refine And.intro (by decide) ?_; conv => whnf) | (refine draw_intro true (by kernel_rfl) ?_; conv => whnf) | (refine And.intro ⟨by omega, by omega⟩ ?_; conv => whnf) | (refine And.intro (by omega) ?_; conv => whnf) | (refine And.intro (fun _ => ⟨by omega, by omega⟩) ?_; conv => whnf) | (refine And.intro (fun _ => ?_) (fun h => absurd h ?_); rotate_left; (focus (first | decide | (simp; done) | (simp [tcs]; done))); conv => whnf) | (refine And.intro (fun h => absurd h ?_) (fun _ => ?_); (focus (first | decide | (simp; done) | (simp [tcs]; done))); conv => whnf) | (intro _; conv => whnf))
  refine ⟨[.str sS, .int .i64 2, .int .i64 0, .int .i64 0, .sl 4 48 (tcs [con0 0 [], con0 0 []]), .int .i64 0], fun _ => ⟨by decide, rfl⟩, ?_⟩
  conv => whnf
  refine ⟨show 1 ≤ 6 by decide, ?_⟩
  conv => whnf
  exact ⟨rfl, rfl, congrArg (fun z => AV.c (.bool z)) (by kernel_rfl), rfl⟩
end Go.Tr
/- The laws SignLooks, SignLevels, SignAdds. -/
namespace Go.Tr
open Go.Proofs
theorem cSignLevels (sig : List Dcl) (t : Term) : CallSt Try.prog 3 [.c (.sl 6 72 (dcs sig)), tv t] [] (fun r H' => r = .c (.bool true) ∧ H' = []) := by
  have h1 := cLevel sig t
  have h2 := cRFormed sig
  have h16 := c16 t
  rw [← prop_rprop] at h16
  have haw := cAwakeL
  cases hc : checkB sig with
  | false =>
    rw [hc] at h1 h2
    simp only [Bool.false_and] at h1
    clear hc
    obtain ⟨k, l, m, ts⟩ := t
    rw [tv_mk] at *
    refine call_pure (E := env 0) (fn := Try.f3) (c := bodyOf Try.f3) (env_ok 0) mixed (by kernel_rfl) (by kernel_rfl) (by kernel_rfl) (by kernel_rfl) (by kernel_rfl) (by kernel_rfl) rfl ?_
    conv => whnf
    try (refine draw_intro true (by kernel_rfl) ?_; conv => whnf)
    refine CallSt.use h1 [] trivial (by decide) rfl ?_
    rintro _ _ ⟨rfl, rfl⟩ _
    conv => whnf
    try (refine draw_intro true (by kernel_rfl) ?_; conv => whnf)
    refine CallSt.use h2 [] trivial (by decide) rfl ?_
    rintro _ _ ⟨rfl, rfl⟩ _
    conv => whnf
    repeat (first | (refine And.intro rfl ?_; conv => whnf) | (refine And.intro (by decide) ?_; conv => whnf) | (refine draw_intro true (by kernel_rfl) ?_; conv => whnf) | (refine And.intro ⟨by omega, by omega⟩ ?_; conv => whnf) | (refine And.intro (by omega) ?_; conv => whnf) | (refine And.intro (fun _ => ⟨by omega, by omega⟩) ?_; conv => whnf) | (refine And.intro (fun _ => ?_) (fun h => absurd h ?_); rotate_left; (focus (first | decide | (simp; done) | (simp [tcs]; done))); conv => whnf) | (refine And.intro (fun h => absurd h ?_) (fun _ => ?_); (focus (first | decide | (simp; done) | (simp [tcs]; done))); conv => whnf) | (intro _; conv => whnf))
    try (refine draw_intro true (by kernel_rfl) ?_; conv => whnf)
    refine CallSt.use haw [] trivial (by decide) rfl ?_
    rintro _ _ ⟨rfl, rfl⟩ _
    conv => whnf
    repeat (first | (refine And.intro rfl ?_; conv => whnf) | (refine And.intro (by decide) ?_; conv => whnf) | (refine draw_intro true (by kernel_rfl) ?_; conv => whnf) | (refine And.intro ⟨by omega, by omega⟩ ?_; conv => whnf) | (refine And.intro (by omega) ?_; conv => whnf) | (refine And.intro (fun _ => ⟨by omega, by omega⟩) ?_; conv => whnf) | (refine And.intro (fun _ => ?_) (fun h => absurd h ?_); rotate_left; (focus (first | decide | (simp; done) | (simp [tcs]; done))); conv => whnf) | (refine And.intro (fun h => absurd h ?_) (fun _ => ?_); (focus (first | decide | (simp; done) | (simp [tcs]; done))); conv => whnf) | (intro _; conv => whnf))
    all_goals (first | rfl | exact ⟨rfl, rfl⟩ | exact ⟨rfl, rfl, rfl⟩)
  | true =>
    cases hp : prop t with
    | false =>
      rw [hc, hp] at h1
      rw [hc] at h2
      rw [hp] at h16
      simp only [Bool.and_false] at h1
      clear hc hp
      obtain ⟨k, l, m, ts⟩ := t
      rw [tv_mk] at *
      refine call_pure (E := env 0) (fn := Try.f3) (c := bodyOf Try.f3) (env_ok 0) mixed (by kernel_rfl) (by kernel_rfl) (by kernel_rfl) (by kernel_rfl) (by kernel_rfl) (by kernel_rfl) rfl ?_
      conv => whnf
      try (refine draw_intro true (by kernel_rfl) ?_; conv => whnf)
      refine CallSt.use h1 [] trivial (by decide) rfl ?_
      rintro _ _ ⟨rfl, rfl⟩ _
      conv => whnf
      try (refine draw_intro true (by kernel_rfl) ?_; conv => whnf)
      refine CallSt.use h2 [] trivial (by decide) rfl ?_
      rintro _ _ ⟨rfl, rfl⟩ _
      conv => whnf
      repeat (first | (refine And.intro rfl ?_; conv => whnf) | (refine And.intro (by decide) ?_; conv => whnf) | (refine draw_intro true (by kernel_rfl) ?_; conv => whnf) | (refine And.intro ⟨by omega, by omega⟩ ?_; conv => whnf) | (refine And.intro (by omega) ?_; conv => whnf) | (refine And.intro (fun _ => ⟨by omega, by omega⟩) ?_; conv => whnf) | (refine And.intro (fun _ => ?_) (fun h => absurd h ?_); rotate_left; (focus (first | decide | (simp; done) | (simp [tcs]; done))); conv => whnf) | (refine And.intro (fun h => absurd h ?_) (fun _ => ?_); (focus (first | decide | (simp; done) | (simp [tcs]; done))); conv => whnf) | (intro _; conv => whnf))
      try (refine draw_intro true (by kernel_rfl) ?_; conv => whnf)
      refine CallSt.use h16 [] trivial (by decide) rfl ?_
      rintro _ _ ⟨rfl, rfl⟩ _
      conv => whnf
      repeat (first | (refine And.intro rfl ?_; conv => whnf) | (refine And.intro (by decide) ?_; conv => whnf) | (refine draw_intro true (by kernel_rfl) ?_; conv => whnf) | (refine And.intro ⟨by omega, by omega⟩ ?_; conv => whnf) | (refine And.intro (by omega) ?_; conv => whnf) | (refine And.intro (fun _ => ⟨by omega, by omega⟩) ?_; conv => whnf) | (refine And.intro (fun _ => ?_) (fun h => absurd h ?_); rotate_left; (focus (first | decide | (simp; done) | (simp [tcs]; done))); conv => whnf) | (refine And.intro (fun h => absurd h ?_) (fun _ => ?_); (focus (first | decide | (simp; done) | (simp [tcs]; done))); conv => whnf) | (intro _; conv => whnf))
      try (refine draw_intro true (by kernel_rfl) ?_; conv => whnf)
      refine CallSt.use haw [] trivial (by decide) rfl ?_
      rintro _ _ ⟨rfl, rfl⟩ _
      conv => whnf
      repeat (first | (refine And.intro rfl ?_; conv => whnf) | (refine And.intro (by decide) ?_; conv => whnf) | (refine draw_intro true (by kernel_rfl) ?_; conv => whnf) | (refine And.intro ⟨by omega, by omega⟩ ?_; conv => whnf) | (refine And.intro (by omega) ?_; conv => whnf) | (refine And.intro (fun _ => ⟨by omega, by omega⟩) ?_; conv => whnf) | (refine And.intro (fun _ => ?_) (fun h => absurd h ?_); rotate_left; (focus (first | decide | (simp; done) | (simp [tcs]; done))); conv => whnf) | (refine And.intro (fun h => absurd h ?_) (fun _ => ?_); (focus (first | decide | (simp; done) | (simp [tcs]; done))); conv => whnf) | (intro _; conv => whnf))
      all_goals (first | rfl | exact ⟨rfl, rfl⟩ | exact ⟨rfl, rfl, rfl⟩)
    | true =>
      have h3 := cRLevel sig hc t hp
      rw [hc, hp] at h1
      rw [hc] at h2
      rw [hp] at h16
      simp only [Bool.and_self] at h1
      clear hc hp
      generalize levelF sig t = F at *
      generalize levelE sig t = E at *
      obtain ⟨k, l, m, ts⟩ := t
      rw [tv_mk] at *
      refine call_pure (E := env 0) (fn := Try.f3) (c := bodyOf Try.f3) (env_ok 0) mixed (by kernel_rfl) (by kernel_rfl) (by kernel_rfl) (by kernel_rfl) (by kernel_rfl) (by kernel_rfl) rfl ?_
      conv => whnf
      try (refine draw_intro true (by kernel_rfl) ?_; conv => whnf)
      refine CallSt.use h1 [] trivial (by decide) rfl ?_
      rintro _ _ ⟨rfl, rfl⟩ _
      conv => whnf
      try (refine draw_intro true (by kernel_rfl) ?_; conv => whnf)
      refine CallSt.use h2 [] trivial (by decide) rfl ?_
      rintro _ _ ⟨rfl, rfl⟩ _
      conv => whnf
      repeat (first | (refine And.intro rfl ?_; conv => whnf) | (refine And.intro (by decide) ?_; conv => whnf) | (refine draw_intro true (by kernel_rfl) ?_; conv => whnf) | (refine And.intro ⟨by omega, by omega⟩ ?_; conv => whnf) | (refine And.intro (by omega) ?_; conv => whnf) | (refine And.intro (fun _ => ⟨by omega, by omega⟩) ?_; conv => whnf) | (refine And.intro (fun _ => ?_) (fun h => absurd h ?_); rotate_left; (focus (first | decide | (simp; done) | (simp [tcs]; done))); conv => whnf) | (refine And.intro (fun h => absurd h ?_) (fun _ => ?_); (focus (first | decide | (simp; done) | (simp [tcs]; done))); conv => whnf) | (intro _; conv => whnf))
      try (refine draw_intro true (by kernel_rfl) ?_; conv => whnf)
      refine CallSt.use h16 [] trivial (by decide) rfl ?_
      rintro _ _ ⟨rfl, rfl⟩ _
      conv => whnf
      repeat (first | (refine And.intro rfl ?_; conv => whnf) | (refine And.intro (by decide) ?_; conv => whnf) | (refine draw_intro true (by kernel_rfl) ?_; conv => whnf) | (refine And.intro ⟨by omega, by omega⟩ ?_; conv => whnf) | (refine And.intro (by omega) ?_; conv => whnf) | (refine And.intro (fun _ => ⟨by omega, by omega⟩) ?_; conv => whnf) | (refine And.intro (fun _ => ?_) (fun h => absurd h ?_); rotate_left; (focus (first | decide | (simp; done) | (simp [tcs]; done))); conv => whnf) | (refine And.intro (fun h => absurd h ?_) (fun _ => ?_); (focus (first | decide | (simp; done) | (simp [tcs]; done))); conv => whnf) | (intro _; conv => whnf))
      try (refine draw_intro true (by kernel_rfl) ?_; conv => whnf)
      refine CallSt.use h3 [] trivial (by decide) rfl ?_
      rintro _ _ ⟨rfl, rfl⟩ _
      conv => whnf
      (refine ⟨fun _ => ?_, fun h => absurd h (by simp)⟩; conv => whnf)
      try (refine draw_intro true (by kernel_rfl) ?_; conv => whnf)
      refine CallSt.use haw [] trivial (by decide) rfl ?_
      rintro _ _ ⟨rfl, rfl⟩ _
      conv => whnf
      repeat (first | (refine And.intro rfl ?_; conv => whnf) | (refine And.intro (by decide) ?_; conv => whnf) | (refine draw_intro true (by kernel_rfl) ?_; conv => whnf) | (refine And.intro ⟨by omega, by omega⟩ ?_; conv => whnf) | (refine And.intro (by omega) ?_; conv => whnf) | (refine And.intro (fun _ => ⟨by omega, by omega⟩) ?_; conv => whnf) | (refine And.intro (fun _ => ?_) (fun h => absurd h ?_); rotate_left; (focus (first | decide | (simp; done) | (simp [tcs]; done))); conv => whnf) | (refine And.intro (fun h => absurd h ?_) (fun _ => ?_); (focus (first | decide | (simp; done) | (simp [tcs]; done))); conv => whnf) | (intro _; conv => whnf))
      all_goals (first | rfl | exact ⟨rfl, rfl⟩ | exact ⟨rfl, rfl, rfl⟩ | exact ⟨congrArg (fun z => AV.c (.bool z)) (by simp), rfl⟩)
theorem cSignAdds (sig : List Dcl) (d : Dcl) : CallSt Try.prog 7 [.c (.sl 6 72 (dcs sig)), dv d] [] (fun r H' => r = .c (.bool true) ∧ H' = []) := by
  have h1 := cAdd sig d
  have h2 := cRFormed sig
  have haw := cAwakeL
  cases hc : checkB sig with
  | false =>
    have hg := cGivesN [] 0
    rw [show addL sig d = [] by simp [addL, addE, hc], show addE sig d = 2 by simp [addE, hc]] at h1
    rw [hc] at h2
    clear hc
    obtain ⟨s, ⟨k, l, n, ts⟩, i⟩ := d
    refine call_pure (E := env 0) (fn := Try.f7) (c := bodyOf Try.f7) (env_ok 0) mixed (by kernel_rfl) (by kernel_rfl) (by kernel_rfl) (by kernel_rfl) (by kernel_rfl) (by kernel_rfl) rfl ?_
    conv => whnf
    try (refine draw_intro true (by kernel_rfl) ?_; conv => whnf)
    refine CallSt.use h1 [] trivial (by decide) rfl ?_
    rintro _ _ ⟨rfl, rfl⟩ _
    conv => whnf
    try (refine draw_intro true (by kernel_rfl) ?_; conv => whnf)
    refine CallSt.use h2 [] trivial (by decide) rfl ?_
    rintro _ _ ⟨rfl, rfl⟩ _
    conv => whnf
    repeat (first | (refine And.intro rfl ?_; conv => whnf) | (refine And.intro (by decide) ?_; conv => whnf) | (refine draw_intro true (by kernel_rfl) ?_; conv => whnf) | (refine And.intro ⟨by omega, by omega⟩ ?_; conv => whnf) | (refine And.intro (by omega) ?_; conv => whnf) | (refine And.intro (fun _ => ⟨by omega, by omega⟩) ?_; conv => whnf) | (refine And.intro (fun _ => ?_) (fun h => absurd h ?_); rotate_left; (focus (first | decide | (simp; done) | (simp [tcs]; done))); conv => whnf) | (refine And.intro (fun h => absurd h ?_) (fun _ => ?_); (focus (first | decide | (simp; done) | (simp [tcs]; done))); conv => whnf) | (intro _; conv => whnf))
    try (refine draw_intro true (by kernel_rfl) ?_; conv => whnf)
    refine CallSt.use hg [] trivial (by decide) rfl ?_
    rintro _ _ ⟨rfl, rfl⟩ _
    conv => whnf
    repeat (first | (refine And.intro rfl ?_; conv => whnf) | (refine And.intro (by decide) ?_; conv => whnf) | (refine draw_intro true (by kernel_rfl) ?_; conv => whnf) | (refine And.intro ⟨by omega, by omega⟩ ?_; conv => whnf) | (refine And.intro (by omega) ?_; conv => whnf) | (refine And.intro (fun _ => ⟨by omega, by omega⟩) ?_; conv => whnf) | (refine And.intro (fun _ => ?_) (fun h => absurd h ?_); rotate_left; (focus (first | decide | (simp; done) | (simp [tcs]; done))); conv => whnf) | (refine And.intro (fun h => absurd h ?_) (fun _ => ?_); (focus (first | decide | (simp; done) | (simp [tcs]; done))); conv => whnf) | (intro _; conv => whnf))
    try (refine draw_intro true (by kernel_rfl) ?_; conv => whnf)
    refine CallSt.use haw [] trivial (by decide) rfl ?_
    rintro _ _ ⟨rfl, rfl⟩ _
    conv => whnf
    repeat (first | (refine And.intro rfl ?_; conv => whnf) | (refine And.intro (by decide) ?_; conv => whnf) | (refine draw_intro true (by kernel_rfl) ?_; conv => whnf) | (refine And.intro ⟨by omega, by omega⟩ ?_; conv => whnf) | (refine And.intro (by omega) ?_; conv => whnf) | (refine And.intro (fun _ => ⟨by omega, by omega⟩) ?_; conv => whnf) | (refine And.intro (fun _ => ?_) (fun h => absurd h ?_); rotate_left; (focus (first | decide | (simp; done) | (simp [tcs]; done))); conv => whnf) | (refine And.intro (fun h => absurd h ?_) (fun _ => ?_); (focus (first | decide | (simp; done) | (simp [tcs]; done))); conv => whnf) | (intro _; conv => whnf))
    all_goals (first | rfl | exact ⟨rfl, rfl⟩ | exact ⟨rfl, rfl, rfl⟩ | exact ⟨congrArg (fun z => AV.c (.bool z)) (by simp), rfl⟩)
  | true =>
    have h3 := cRAdd sig hc d
    have hg := cGivesL (addL sig d) (addE sig d)
    rw [hc] at h2
    clear hc
    generalize addL sig d = L at *
    generalize addE sig d = E at *
    obtain ⟨s, ⟨k, l, n, ts⟩, i⟩ := d
    refine call_pure (E := env 0) (fn := Try.f7) (c := bodyOf Try.f7) (env_ok 0) mixed (by kernel_rfl) (by kernel_rfl) (by kernel_rfl) (by kernel_rfl) (by kernel_rfl) (by kernel_rfl) rfl ?_
    conv => whnf
    try (refine draw_intro true (by kernel_rfl) ?_; conv => whnf)
    refine CallSt.use h1 [] trivial (by decide) rfl ?_
    rintro _ _ ⟨rfl, rfl⟩ _
    conv => whnf
    try (refine draw_intro true (by kernel_rfl) ?_; conv => whnf)
    refine CallSt.use h2 [] trivial (by decide) rfl ?_
    rintro _ _ ⟨rfl, rfl⟩ _
    conv => whnf
    repeat (first | (refine And.intro rfl ?_; conv => whnf) | (refine And.intro (by decide) ?_; conv => whnf) | (refine draw_intro true (by kernel_rfl) ?_; conv => whnf) | (refine And.intro ⟨by omega, by omega⟩ ?_; conv => whnf) | (refine And.intro (by omega) ?_; conv => whnf) | (refine And.intro (fun _ => ⟨by omega, by omega⟩) ?_; conv => whnf) | (refine And.intro (fun _ => ?_) (fun h => absurd h ?_); rotate_left; (focus (first | decide | (simp; done) | (simp [tcs]; done))); conv => whnf) | (refine And.intro (fun h => absurd h ?_) (fun _ => ?_); (focus (first | decide | (simp; done) | (simp [tcs]; done))); conv => whnf) | (intro _; conv => whnf))
    try (refine draw_intro true (by kernel_rfl) ?_; conv => whnf)
    refine CallSt.use h3 [] trivial (by decide) rfl ?_
    rintro _ _ ⟨rfl, rfl⟩ _
    conv => whnf
    try (refine draw_intro true (by kernel_rfl) ?_; conv => whnf)
    refine CallSt.use hg [] trivial (by decide) rfl ?_
    rintro _ _ ⟨rfl, rfl⟩ _
    conv => whnf
    repeat (first | (refine And.intro rfl ?_; conv => whnf) | (refine And.intro (by decide) ?_; conv => whnf) | (refine draw_intro true (by kernel_rfl) ?_; conv => whnf) | (refine And.intro ⟨by omega, by omega⟩ ?_; conv => whnf) | (refine And.intro (by omega) ?_; conv => whnf) | (refine And.intro (fun _ => ⟨by omega, by omega⟩) ?_; conv => whnf) | (refine And.intro (fun _ => ?_) (fun h => absurd h ?_); rotate_left; (focus (first | decide | (simp; done) | (simp [tcs]; done))); conv => whnf) | (refine And.intro (fun h => absurd h ?_) (fun _ => ?_); (focus (first | decide | (simp; done) | (simp [tcs]; done))); conv => whnf) | (intro _; conv => whnf))
    try (refine draw_intro true (by kernel_rfl) ?_; conv => whnf)
    refine CallSt.use haw [] trivial (by decide) rfl ?_
    rintro _ _ ⟨rfl, rfl⟩ _
    conv => whnf
    repeat (first | (refine And.intro rfl ?_; conv => whnf) | (refine And.intro (by decide) ?_; conv => whnf) | (refine draw_intro true (by kernel_rfl) ?_; conv => whnf) | (refine And.intro ⟨by omega, by omega⟩ ?_; conv => whnf) | (refine And.intro (by omega) ?_; conv => whnf) | (refine And.intro (fun _ => ⟨by omega, by omega⟩) ?_; conv => whnf) | (refine And.intro (fun _ => ?_) (fun h => absurd h ?_); rotate_left; (focus (first | decide | (simp; done) | (simp [tcs]; done))); conv => whnf) | (refine And.intro (fun h => absurd h ?_) (fun _ => ?_); (focus (first | decide | (simp; done) | (simp [tcs]; done))); conv => whnf) | (intro _; conv => whnf))
    all_goals (first | rfl | exact ⟨rfl, rfl⟩ | exact ⟨rfl, rfl, rfl⟩ | exact ⟨congrArg (fun z => AV.c (.bool z)) (by simp), rfl⟩)
theorem len_row_nil : (rowI []).length = 0 := rfl
set_option maxRecDepth 100000 in
theorem cSignLooks (sig : List Dcl) (s : ByteArray) (n : Int) : CallSt Try.prog 5 [.c (.sl 6 72 (dcs sig)), .c (.str s), .c (.int .i64 (n))] [] (fun r H' => r = .c (.bool true) ∧ H' = []) := by
  have h1 := cCheck sig
  have h2 := cFind sig s
  have h3 := cIsFamily sig n
  have h4 := cTargetS sig n
  have h5 := cOf sig n
  have h6 := cRFormed sig
  have haw := cAwakeL
  rcases hasE_cases sig n with ⟨he, hc⟩ | ⟨he, hc, hn⟩ | ⟨he, hc, hn⟩
  · rw [show ofF sig n = [] by simp [ofF, ofE, he], show ofE sig n = 2 by simp [ofE, he]] at h5
    rw [hc] at h1 h2 h6
    rw [he] at h3 h4
    simp only [Bool.false_and, show decide ((2 : Int) = 0) = false by decide, Bool.false_eq_true, if_false] at h1 h2 h3 h4
    clear he hc
    refine call_pure (E := env 0) (fn := Try.f5) (c := bodyOf Try.f5) (env_ok 0) mixed (by kernel_rfl) (by kernel_rfl) (by kernel_rfl) (by kernel_rfl) (by kernel_rfl) (by kernel_rfl) rfl ?_
    conv => whnf
    try (refine draw_intro true (by kernel_rfl) ?_; conv => whnf)
    refine CallSt.use h1 [] trivial (by decide) rfl ?_
    rintro _ _ ⟨rfl, rfl⟩ _
    conv => whnf
    try (refine draw_intro true (by kernel_rfl) ?_; conv => whnf)
    refine CallSt.use h2 [] trivial (by decide) rfl ?_
    rintro _ _ ⟨rfl, rfl⟩ _
    conv => whnf
    try (refine draw_intro true (by kernel_rfl) ?_; conv => whnf)
    refine CallSt.use h3 [] trivial (by decide) rfl ?_
    rintro _ _ ⟨rfl, rfl⟩ _
    conv => whnf
    try (refine draw_intro true (by kernel_rfl) ?_; conv => whnf)
    refine CallSt.use h4 [] trivial (by decide) rfl ?_
    rintro _ _ ⟨rfl, rfl⟩ _
    conv => whnf
    try (refine draw_intro true (by kernel_rfl) ?_; conv => whnf)
    refine CallSt.use h5 [] trivial (by decide) rfl ?_
    rintro _ _ ⟨rfl, rfl⟩ _
    conv => whnf
    try (refine draw_intro true (by kernel_rfl) ?_; conv => whnf)
    refine CallSt.use h6 [] trivial (by decide) rfl ?_
    rintro _ _ ⟨rfl, rfl⟩ _
    conv => whnf
    repeat (first | (refine And.intro rfl ?_; conv => whnf) | (refine And.intro (by decide) ?_; conv => whnf) | (refine draw_intro true (by kernel_rfl) ?_; conv => whnf) | (refine And.intro ⟨by omega, by omega⟩ ?_; conv => whnf) | (refine And.intro (by omega) ?_; conv => whnf) | (refine And.intro (fun _ => ⟨by omega, by omega⟩) ?_; conv => whnf) | (refine And.intro (fun _ => ?_) (fun h => absurd h ?_); rotate_left; (focus (first | decide | (simp; done) | (simp [tcs]; done))); conv => whnf) | (refine And.intro (fun h => absurd h ?_) (fun _ => ?_); (focus (first | decide | (simp; done) | (simp [tcs]; done))); conv => whnf) | (intro _; conv => whnf))
    try (refine draw_intro true (by kernel_rfl) ?_; conv => whnf)
    refine CallSt.use haw [] trivial (by decide) rfl ?_
    rintro _ _ ⟨rfl, rfl⟩ _
    conv => whnf
    repeat (first | (refine And.intro rfl ?_; conv => whnf) | (refine And.intro (by decide) ?_; conv => whnf) | (refine draw_intro true (by kernel_rfl) ?_; conv => whnf) | (refine And.intro ⟨by omega, by omega⟩ ?_; conv => whnf) | (refine And.intro (by omega) ?_; conv => whnf) | (refine And.intro (fun _ => ⟨by omega, by omega⟩) ?_; conv => whnf) | (refine And.intro (fun _ => ?_) (fun h => absurd h ?_); rotate_left; (focus (first | decide | (simp; done) | (simp [tcs]; done))); conv => whnf) | (refine And.intro (fun h => absurd h ?_) (fun _ => ?_); (focus (first | decide | (simp; done) | (simp [tcs]; done))); conv => whnf) | (intro _; conv => whnf))
    all_goals (first | rfl | exact ⟨rfl, rfl⟩ | exact ⟨rfl, rfl, rfl⟩ | exact ⟨congrArg (fun z => AV.c (.bool z)) (by simp), rfl⟩)
  · rw [show ofF sig n = [] by simp [ofF, ofE, he], show ofE sig n = 6 by simp [ofE, he]] at h5
    have h7 := cRFind sig (by have := check_len hc; omega) s
    have h8 := cRHas sig n
    rw [show (decide (0 ≤ n) && decide (n < (sig.length : Int))) = false by
      rw [Bool.and_eq_false_iff, decide_eq_false_iff_not, decide_eq_false_iff_not]; omega] at h8
    have hfi : 0 ≤ findI sig s := by unfold findI; omega
    rw [hc] at h1 h2 h6
    rw [he] at h3 h4
    simp only [Bool.true_and, show decide ((6 : Int) = 0) = false by decide, Bool.false_and, if_true] at h1 h2 h3 h4
    clear he hc hn
    generalize findI sig s = x at *
    cases hni : nameIn sig s with
    | true =>
      rw [hni] at h2 h7
      simp only at h2 h7
      refine call_pure (E := env 0) (fn := Try.f5) (c := bodyOf Try.f5) (env_ok 0) mixed (by kernel_rfl) (by kernel_rfl) (by kernel_rfl) (by kernel_rfl) (by kernel_rfl) (by kernel_rfl) rfl ?_
      conv => whnf
      try (refine draw_intro true (by kernel_rfl) ?_; conv => whnf)
      refine CallSt.use h1 [] trivial (by decide) rfl ?_
      rintro _ _ ⟨rfl, rfl⟩ _
      conv => whnf
      try (refine draw_intro true (by kernel_rfl) ?_; conv => whnf)
      refine CallSt.use h2 [] trivial (by decide) rfl ?_
      rintro _ _ ⟨rfl, rfl⟩ _
      conv => whnf
      try (refine draw_intro true (by kernel_rfl) ?_; conv => whnf)
      refine CallSt.use h3 [] trivial (by decide) rfl ?_
      rintro _ _ ⟨rfl, rfl⟩ _
      conv => whnf
      try (refine draw_intro true (by kernel_rfl) ?_; conv => whnf)
      refine CallSt.use h4 [] trivial (by decide) rfl ?_
      rintro _ _ ⟨rfl, rfl⟩ _
      conv => whnf
      try (refine draw_intro true (by kernel_rfl) ?_; conv => whnf)
      refine CallSt.use h5 [] trivial (by decide) rfl ?_
      rintro _ _ ⟨rfl, rfl⟩ _
      conv => whnf
      try (refine draw_intro true (by kernel_rfl) ?_; conv => whnf)
      refine CallSt.use h6 [] trivial (by decide) rfl ?_
      rintro _ _ ⟨rfl, rfl⟩ _
      conv => whnf
      repeat (first | (refine And.intro rfl ?_; conv => whnf) | (refine And.intro (by decide) ?_; conv => whnf) | (refine draw_intro true (by kernel_rfl) ?_; conv => whnf) | (refine And.intro ⟨by omega, by omega⟩ ?_; conv => whnf) | (refine And.intro (by omega) ?_; conv => whnf) | (refine And.intro (fun _ => ⟨by omega, by omega⟩) ?_; conv => whnf) | (refine And.intro (fun _ => ?_) (fun h => absurd h ?_); rotate_left; (focus (first | decide | (simp; done) | (simp [tcs]; done))); conv => whnf) | (refine And.intro (fun h => absurd h ?_) (fun _ => ?_); (focus (first | decide | (simp; done) | (simp [tcs]; done))); conv => whnf) | (intro _; conv => whnf))
      try (refine draw_intro true (by kernel_rfl) ?_; conv => whnf)
      refine CallSt.use h7 [] trivial (by decide) rfl ?_
      rintro _ _ ⟨rfl, rfl⟩ _
      conv => whnf
      repeat (first | (refine And.intro rfl ?_; conv => whnf) | (refine And.intro (by decide) ?_; conv => whnf) | (refine draw_intro true (by kernel_rfl) ?_; conv => whnf) | (refine And.intro ⟨by omega, by omega⟩ ?_; conv => whnf) | (refine And.intro (by omega) ?_; conv => whnf) | (refine And.intro (fun _ => ⟨by omega, by omega⟩) ?_; conv => whnf) | (refine And.intro (fun _ => ?_) (fun h => absurd h ?_); rotate_left; (focus (first | decide | (simp; done) | (simp [tcs]; done))); conv => whnf) | (refine And.intro (fun h => absurd h ?_) (fun _ => ?_); (focus (first | decide | (simp; done) | (simp [tcs]; done))); conv => whnf) | (intro _; conv => whnf))
      (refine ⟨fun h => absurd h (by rw [decide_eq_false (show ¬ x < 0 by omega)]; simp), fun _ => ?_⟩; conv => whnf)
      try (refine draw_intro true (by kernel_rfl) ?_; conv => whnf)
      refine CallSt.use h8 [] trivial (by decide) rfl ?_
      rintro _ _ ⟨rfl, rfl⟩ _
      conv => whnf
      repeat (first | (refine And.intro rfl ?_; conv => whnf) | (refine And.intro (by decide) ?_; conv => whnf) | (refine draw_intro true (by kernel_rfl) ?_; conv => whnf) | (refine And.intro ⟨by omega, by omega⟩ ?_; conv => whnf) | (refine And.intro (by omega) ?_; conv => whnf) | (refine And.intro (fun _ => ⟨by omega, by omega⟩) ?_; conv => whnf) | (refine And.intro (fun _ => ?_) (fun h => absurd h ?_); rotate_left; (focus (first | decide | (simp; done) | (simp [tcs]; done))); conv => whnf) | (refine And.intro (fun h => absurd h ?_) (fun _ => ?_); (focus (first | decide | (simp; done) | (simp [tcs]; done))); conv => whnf) | (intro _; conv => whnf))
      try (refine draw_intro true (by kernel_rfl) ?_; conv => whnf)
      refine CallSt.use haw [] trivial (by decide) rfl ?_
      rintro _ _ ⟨rfl, rfl⟩ _
      conv => whnf
      repeat (first | (refine And.intro rfl ?_; conv => whnf) | (refine And.intro (by decide) ?_; conv => whnf) | (refine draw_intro true (by kernel_rfl) ?_; conv => whnf) | (refine And.intro ⟨by omega, by omega⟩ ?_; conv => whnf) | (refine And.intro (by omega) ?_; conv => whnf) | (refine And.intro (fun _ => ⟨by omega, by omega⟩) ?_; conv => whnf) | (refine And.intro (fun _ => ?_) (fun h => absurd h ?_); rotate_left; (focus (first | decide | (simp; done) | (simp [tcs]; done))); conv => whnf) | (refine And.intro (fun h => absurd h ?_) (fun _ => ?_); (focus (first | decide | (simp; done) | (simp [tcs]; done))); conv => whnf) | (intro _; conv => whnf))
      all_goals (first | rfl | exact ⟨rfl, rfl⟩ | exact ⟨rfl, rfl, rfl⟩ | exact ⟨congrArg (fun z => AV.c (.bool z)) (by simp), rfl⟩)
    | false =>
      rw [hni] at h2 h7
      simp only at h2 h7
      refine call_pure (E := env 0) (fn := Try.f5) (c := bodyOf Try.f5) (env_ok 0) mixed (by kernel_rfl) (by kernel_rfl) (by kernel_rfl) (by kernel_rfl) (by kernel_rfl) (by kernel_rfl) rfl ?_
      conv => whnf
      try (refine draw_intro true (by kernel_rfl) ?_; conv => whnf)
      refine CallSt.use h1 [] trivial (by decide) rfl ?_
      rintro _ _ ⟨rfl, rfl⟩ _
      conv => whnf
      try (refine draw_intro true (by kernel_rfl) ?_; conv => whnf)
      refine CallSt.use h2 [] trivial (by decide) rfl ?_
      rintro _ _ ⟨rfl, rfl⟩ _
      conv => whnf
      try (refine draw_intro true (by kernel_rfl) ?_; conv => whnf)
      refine CallSt.use h3 [] trivial (by decide) rfl ?_
      rintro _ _ ⟨rfl, rfl⟩ _
      conv => whnf
      try (refine draw_intro true (by kernel_rfl) ?_; conv => whnf)
      refine CallSt.use h4 [] trivial (by decide) rfl ?_
      rintro _ _ ⟨rfl, rfl⟩ _
      conv => whnf
      try (refine draw_intro true (by kernel_rfl) ?_; conv => whnf)
      refine CallSt.use h5 [] trivial (by decide) rfl ?_
      rintro _ _ ⟨rfl, rfl⟩ _
      conv => whnf
      try (refine draw_intro true (by kernel_rfl) ?_; conv => whnf)
      refine CallSt.use h6 [] trivial (by decide) rfl ?_
      rintro _ _ ⟨rfl, rfl⟩ _
      conv => whnf
      repeat (first | (refine And.intro rfl ?_; conv => whnf) | (refine And.intro (by decide) ?_; conv => whnf) | (refine draw_intro true (by kernel_rfl) ?_; conv => whnf) | (refine And.intro ⟨by omega, by omega⟩ ?_; conv => whnf) | (refine And.intro (by omega) ?_; conv => whnf) | (refine And.intro (fun _ => ⟨by omega, by omega⟩) ?_; conv => whnf) | (refine And.intro (fun _ => ?_) (fun h => absurd h ?_); rotate_left; (focus (first | decide | (simp; done) | (simp [tcs]; done))); conv => whnf) | (refine And.intro (fun h => absurd h ?_) (fun _ => ?_); (focus (first | decide | (simp; done) | (simp [tcs]; done))); conv => whnf) | (intro _; conv => whnf))
      try (refine draw_intro true (by kernel_rfl) ?_; conv => whnf)
      refine CallSt.use h7 [] trivial (by decide) rfl ?_
      rintro _ _ ⟨rfl, rfl⟩ _
      conv => whnf
      repeat (first | (refine And.intro rfl ?_; conv => whnf) | (refine And.intro (by decide) ?_; conv => whnf) | (refine draw_intro true (by kernel_rfl) ?_; conv => whnf) | (refine And.intro ⟨by omega, by omega⟩ ?_; conv => whnf) | (refine And.intro (by omega) ?_; conv => whnf) | (refine And.intro (fun _ => ⟨by omega, by omega⟩) ?_; conv => whnf) | (refine And.intro (fun _ => ?_) (fun h => absurd h ?_); rotate_left; (focus (first | decide | (simp; done) | (simp [tcs]; done))); conv => whnf) | (refine And.intro (fun h => absurd h ?_) (fun _ => ?_); (focus (first | decide | (simp; done) | (simp [tcs]; done))); conv => whnf) | (intro _; conv => whnf))
      try (refine draw_intro true (by kernel_rfl) ?_; conv => whnf)
      refine CallSt.use h8 [] trivial (by decide) rfl ?_
      rintro _ _ ⟨rfl, rfl⟩ _
      conv => whnf
      repeat (first | (refine And.intro rfl ?_; conv => whnf) | (refine And.intro (by decide) ?_; conv => whnf) | (refine draw_intro true (by kernel_rfl) ?_; conv => whnf) | (refine And.intro ⟨by omega, by omega⟩ ?_; conv => whnf) | (refine And.intro (by omega) ?_; conv => whnf) | (refine And.intro (fun _ => ⟨by omega, by omega⟩) ?_; conv => whnf) | (refine And.intro (fun _ => ?_) (fun h => absurd h ?_); rotate_left; (focus (first | decide | (simp; done) | (simp [tcs]; done))); conv => whnf) | (refine And.intro (fun h => absurd h ?_) (fun _ => ?_); (focus (first | decide | (simp; done) | (simp [tcs]; done))); conv => whnf) | (intro _; conv => whnf))
      try (refine draw_intro true (by kernel_rfl) ?_; conv => whnf)
      refine CallSt.use haw [] trivial (by decide) rfl ?_
      rintro _ _ ⟨rfl, rfl⟩ _
      conv => whnf
      repeat (first | (refine And.intro rfl ?_; conv => whnf) | (refine And.intro (by decide) ?_; conv => whnf) | (refine draw_intro true (by kernel_rfl) ?_; conv => whnf) | (refine And.intro ⟨by omega, by omega⟩ ?_; conv => whnf) | (refine And.intro (by omega) ?_; conv => whnf) | (refine And.intro (fun _ => ⟨by omega, by omega⟩) ?_; conv => whnf) | (refine And.intro (fun _ => ?_) (fun h => absurd h ?_); rotate_left; (focus (first | decide | (simp; done) | (simp [tcs]; done))); conv => whnf) | (refine And.intro (fun h => absurd h ?_) (fun _ => ?_); (focus (first | decide | (simp; done) | (simp [tcs]; done))); conv => whnf) | (intro _; conv => whnf))
      all_goals (first | rfl | exact ⟨rfl, rfl⟩ | exact ⟨rfl, rfl, rfl⟩ | exact ⟨congrArg (fun z => AV.c (.bool z)) (by simp), rfl⟩)
  · obtain ⟨q, d, rfl, hq, hd⟩ := get_nat hn
    have hpd := check_prop hc d (List.mem_of_getElem? hd)
    have h7 := cRFind sig (by have := check_len hc; omega) s
    have h8 := cRHas sig q
    rw [show (decide (0 ≤ (q : Int)) && decide ((q : Int) < (sig.length : Int))) = true by
      rw [Bool.and_eq_true, decide_eq_true_eq, decide_eq_true_eq]; omega] at h8
    have h9 := cRIsFamily sig q (by omega) d (by simpa using hd) hpd
    have h10 := cRTarget sig q (by omega) d (by simpa using hd) hpd
    have h11 := cROf sig (check_prop hc) (check_len hc) q
    have hfi : 0 ≤ findI sig s := by unfold findI; omega
    have hof : kindAt sig q = true → ofE sig q = 0 ∧ ofF sig q = upTo (ofR sig q) sig.length := fun hk => by
      have h0 : ofE sig q = 0 := by unfold ofE; rw [he, hk]; rfl
      refine ⟨h0, ?_⟩
      unfold ofF
      rw [h0]
      exact upTo_congr (ofP_R hk)
    have hof2 : kindAt sig q = false → ofE sig q = 22 ∧ ofF sig q = [] := fun hk => by
      have h0 : ofE sig q = 22 := by unfold ofE; rw [he, hk]; rfl
      refine ⟨h0, ?_⟩
      unfold ofF
      rw [h0]
      rfl
    have hul := upTo_len (ofR sig q) sig.length
    have h12 := cNumsEq (upTo (ofR sig q) sig.length) (upTo (ofR sig q) sig.length) (by have := check_len hc; omega) (by have := check_len hc; omega)
    rw [decide_eq_true rfl] at h12
    rw [hc] at h1 h2 h6
    rw [he, kindAt_at hd] at h3
    rw [he, headAt_at hd] at h4
    rw [kindAt_at hd] at hof hof2
    simp only [Bool.true_and, show decide ((0 : Int) = 0) = true by decide, if_true] at h1 h2 h3 h4
    clear he hc hn hd hpd hul
    generalize findI sig s = x at *
    generalize headT d q = y at *
    generalize upTo (ofR sig q) sig.length = L at *
    generalize ofF sig q = L2 at *
    generalize ofE sig q = E at *
    generalize kindT d.c = b at *
    cases hni : nameIn sig s with
    | true =>
      rw [hni] at h2 h7
      simp only at h2 h7
      cases b with
      | true =>
        obtain ⟨rfl, rfl⟩ := hof rfl
        refine call_pure (E := env 0) (fn := Try.f5) (c := bodyOf Try.f5) (env_ok 0) mixed (by kernel_rfl) (by kernel_rfl) (by kernel_rfl) (by kernel_rfl) (by kernel_rfl) (by kernel_rfl) rfl ?_
        conv => whnf
        try (refine draw_intro true (by kernel_rfl) ?_; conv => whnf)
        refine CallSt.use h1 [] trivial (by decide) rfl ?_
        rintro _ _ ⟨rfl, rfl⟩ _
        conv => whnf
        try (refine draw_intro true (by kernel_rfl) ?_; conv => whnf)
        refine CallSt.use h2 [] trivial (by decide) rfl ?_
        rintro _ _ ⟨rfl, rfl⟩ _
        conv => whnf
        try (refine draw_intro true (by kernel_rfl) ?_; conv => whnf)
        refine CallSt.use h3 [] trivial (by decide) rfl ?_
        rintro _ _ ⟨rfl, rfl⟩ _
        conv => whnf
        try (refine draw_intro true (by kernel_rfl) ?_; conv => whnf)
        refine CallSt.use h4 [] trivial (by decide) rfl ?_
        rintro _ _ ⟨rfl, rfl⟩ _
        conv => whnf
        try (refine draw_intro true (by kernel_rfl) ?_; conv => whnf)
        refine CallSt.use h5 [] trivial (by decide) rfl ?_
        rintro _ _ ⟨rfl, rfl⟩ _
        conv => whnf
        try (refine draw_intro true (by kernel_rfl) ?_; conv => whnf)
        refine CallSt.use h6 [] trivial (by decide) rfl ?_
        rintro _ _ ⟨rfl, rfl⟩ _
        conv => whnf
        repeat (first | (refine And.intro rfl ?_; conv => whnf) | (refine And.intro (by decide) ?_; conv => whnf) | (refine draw_intro true (by kernel_rfl) ?_; conv => whnf) | (refine And.intro ⟨by omega, by omega⟩ ?_; conv => whnf) | (refine And.intro (by omega) ?_; conv => whnf) | (refine And.intro (fun _ => ⟨by omega, by omega⟩) ?_; conv => whnf) | (refine And.intro (fun _ => ?_) (fun h => absurd h ?_); rotate_left; (focus (first | decide | (simp; done) | (simp [tcs]; done))); conv => whnf) | (refine And.intro (fun h => absurd h ?_) (fun _ => ?_); (focus (first | decide | (simp; done) | (simp [tcs]; done))); conv => whnf) | (intro _; conv => whnf))
        try (refine draw_intro true (by kernel_rfl) ?_; conv => whnf)
        refine CallSt.use h7 [] trivial (by decide) rfl ?_
        rintro _ _ ⟨rfl, rfl⟩ _
        conv => whnf
        repeat (first | (refine And.intro rfl ?_; conv => whnf) | (refine And.intro (by decide) ?_; conv => whnf) | (refine draw_intro true (by kernel_rfl) ?_; conv => whnf) | (refine And.intro ⟨by omega, by omega⟩ ?_; conv => whnf) | (refine And.intro (by omega) ?_; conv => whnf) | (refine And.intro (fun _ => ⟨by omega, by omega⟩) ?_; conv => whnf) | (refine And.intro (fun _ => ?_) (fun h => absurd h ?_); rotate_left; (focus (first | decide | (simp; done) | (simp [tcs]; done))); conv => whnf) | (refine And.intro (fun h => absurd h ?_) (fun _ => ?_); (focus (first | decide | (simp; done) | (simp [tcs]; done))); conv => whnf) | (intro _; conv => whnf))
        (refine ⟨fun h => absurd h (by rw [decide_eq_false (show ¬ x < 0 by omega)]; simp), fun _ => ?_⟩; conv => whnf)
        try (refine draw_intro true (by kernel_rfl) ?_; conv => whnf)
        refine CallSt.use h8 [] trivial (by decide) rfl ?_
        rintro _ _ ⟨rfl, rfl⟩ _
        conv => whnf
        repeat (first | (refine And.intro rfl ?_; conv => whnf) | (refine And.intro (by decide) ?_; conv => whnf) | (refine draw_intro true (by kernel_rfl) ?_; conv => whnf) | (refine And.intro ⟨by omega, by omega⟩ ?_; conv => whnf) | (refine And.intro (by omega) ?_; conv => whnf) | (refine And.intro (fun _ => ⟨by omega, by omega⟩) ?_; conv => whnf) | (refine And.intro (fun _ => ?_) (fun h => absurd h ?_); rotate_left; (focus (first | decide | (simp; done) | (simp [tcs]; done))); conv => whnf) | (refine And.intro (fun h => absurd h ?_) (fun _ => ?_); (focus (first | decide | (simp; done) | (simp [tcs]; done))); conv => whnf) | (intro _; conv => whnf))
        try (refine draw_intro true (by kernel_rfl) ?_; conv => whnf)
        refine CallSt.use h9 [] trivial (by decide) rfl ?_
        rintro _ _ ⟨rfl, rfl⟩ _
        conv => whnf
        repeat (first | (refine And.intro rfl ?_; conv => whnf) | (refine And.intro (by decide) ?_; conv => whnf) | (refine draw_intro true (by kernel_rfl) ?_; conv => whnf) | (refine And.intro ⟨by omega, by omega⟩ ?_; conv => whnf) | (refine And.intro (by omega) ?_; conv => whnf) | (refine And.intro (fun _ => ⟨by omega, by omega⟩) ?_; conv => whnf) | (refine And.intro (fun _ => ?_) (fun h => absurd h ?_); rotate_left; (focus (first | decide | (simp; done) | (simp [tcs]; done))); conv => whnf) | (refine And.intro (fun h => absurd h ?_) (fun _ => ?_); (focus (first | decide | (simp; done) | (simp [tcs]; done))); conv => whnf) | (intro _; conv => whnf))
        try (refine draw_intro true (by kernel_rfl) ?_; conv => whnf)
        refine CallSt.use h10 [] trivial (by decide) rfl ?_
        rintro _ _ ⟨rfl, rfl⟩ _
        conv => whnf
        repeat (first | (refine And.intro rfl ?_; conv => whnf) | (refine And.intro (by decide) ?_; conv => whnf) | (refine draw_intro true (by kernel_rfl) ?_; conv => whnf) | (refine And.intro ⟨by omega, by omega⟩ ?_; conv => whnf) | (refine And.intro (by omega) ?_; conv => whnf) | (refine And.intro (fun _ => ⟨by omega, by omega⟩) ?_; conv => whnf) | (refine And.intro (fun _ => ?_) (fun h => absurd h ?_); rotate_left; (focus (first | decide | (simp; done) | (simp [tcs]; done))); conv => whnf) | (refine And.intro (fun h => absurd h ?_) (fun _ => ?_); (focus (first | decide | (simp; done) | (simp [tcs]; done))); conv => whnf) | (intro _; conv => whnf))
        try (refine draw_intro true (by kernel_rfl) ?_; conv => whnf)
        refine CallSt.use h11 [] trivial (by decide) rfl ?_
        rintro _ _ ⟨rfl, rfl⟩ _
        conv => whnf
        try (refine draw_intro true (by kernel_rfl) ?_; conv => whnf)
        refine CallSt.use h12 [] trivial (by decide) rfl ?_
        rintro _ _ ⟨rfl, rfl⟩ _
        conv => whnf
        repeat (first | (refine And.intro rfl ?_; conv => whnf) | (refine And.intro (by decide) ?_; conv => whnf) | (refine draw_intro true (by kernel_rfl) ?_; conv => whnf) | (refine And.intro ⟨by omega, by omega⟩ ?_; conv => whnf) | (refine And.intro (by omega) ?_; conv => whnf) | (refine And.intro (fun _ => ⟨by omega, by omega⟩) ?_; conv => whnf) | (refine And.intro (fun _ => ?_) (fun h => absurd h ?_); rotate_left; (focus (first | decide | (simp; done) | (simp [tcs]; done))); conv => whnf) | (refine And.intro (fun h => absurd h ?_) (fun _ => ?_); (focus (first | decide | (simp; done) | (simp [tcs]; done))); conv => whnf) | (intro _; conv => whnf))
        try (refine draw_intro true (by kernel_rfl) ?_; conv => whnf)
        refine CallSt.use haw [] trivial (by decide) rfl ?_
        rintro _ _ ⟨rfl, rfl⟩ _
        conv => whnf
        repeat (first | (refine And.intro rfl ?_; conv => whnf) | (refine And.intro (by decide) ?_; conv => whnf) | (refine draw_intro true (by kernel_rfl) ?_; conv => whnf) | (refine And.intro ⟨by omega, by omega⟩ ?_; conv => whnf) | (refine And.intro (by omega) ?_; conv => whnf) | (refine And.intro (fun _ => ⟨by omega, by omega⟩) ?_; conv => whnf) | (refine And.intro (fun _ => ?_) (fun h => absurd h ?_); rotate_left; (focus (first | decide | (simp; done) | (simp [tcs]; done))); conv => whnf) | (refine And.intro (fun h => absurd h ?_) (fun _ => ?_); (focus (first | decide | (simp; done) | (simp [tcs]; done))); conv => whnf) | (intro _; conv => whnf))
        all_goals (first | rfl | exact ⟨rfl, rfl⟩ | exact ⟨rfl, rfl, rfl⟩ | exact ⟨congrArg (fun z => AV.c (.bool z)) (by simp), rfl⟩)
      | false =>
        obtain ⟨rfl, rfl⟩ := hof2 rfl
        refine call_pure (E := env 0) (fn := Try.f5) (c := bodyOf Try.f5) (env_ok 0) mixed (by kernel_rfl) (by kernel_rfl) (by kernel_rfl) (by kernel_rfl) (by kernel_rfl) (by kernel_rfl) rfl ?_
        conv => whnf
        try (refine draw_intro true (by kernel_rfl) ?_; conv => whnf)
        refine CallSt.use h1 [] trivial (by decide) rfl ?_
        rintro _ _ ⟨rfl, rfl⟩ _
        conv => whnf
        try (refine draw_intro true (by kernel_rfl) ?_; conv => whnf)
        refine CallSt.use h2 [] trivial (by decide) rfl ?_
        rintro _ _ ⟨rfl, rfl⟩ _
        conv => whnf
        try (refine draw_intro true (by kernel_rfl) ?_; conv => whnf)
        refine CallSt.use h3 [] trivial (by decide) rfl ?_
        rintro _ _ ⟨rfl, rfl⟩ _
        conv => whnf
        try (refine draw_intro true (by kernel_rfl) ?_; conv => whnf)
        refine CallSt.use h4 [] trivial (by decide) rfl ?_
        rintro _ _ ⟨rfl, rfl⟩ _
        conv => whnf
        try (refine draw_intro true (by kernel_rfl) ?_; conv => whnf)
        refine CallSt.use h5 [] trivial (by decide) rfl ?_
        rintro _ _ ⟨rfl, rfl⟩ _
        conv => whnf
        try (refine draw_intro true (by kernel_rfl) ?_; conv => whnf)
        refine CallSt.use h6 [] trivial (by decide) rfl ?_
        rintro _ _ ⟨rfl, rfl⟩ _
        conv => whnf
        repeat (first | (refine And.intro rfl ?_; conv => whnf) | (refine And.intro (by decide) ?_; conv => whnf) | (refine draw_intro true (by kernel_rfl) ?_; conv => whnf) | (refine And.intro ⟨by omega, by omega⟩ ?_; conv => whnf) | (refine And.intro (by omega) ?_; conv => whnf) | (refine And.intro (fun _ => ⟨by omega, by omega⟩) ?_; conv => whnf) | (refine And.intro (fun _ => ?_) (fun h => absurd h ?_); rotate_left; (focus (first | decide | (simp; done) | (simp [tcs]; done))); conv => whnf) | (refine And.intro (fun h => absurd h ?_) (fun _ => ?_); (focus (first | decide | (simp; done) | (simp [tcs]; done))); conv => whnf) | (intro _; conv => whnf))
        try (refine draw_intro true (by kernel_rfl) ?_; conv => whnf)
        refine CallSt.use h7 [] trivial (by decide) rfl ?_
        rintro _ _ ⟨rfl, rfl⟩ _
        conv => whnf
        repeat (first | (refine And.intro rfl ?_; conv => whnf) | (refine And.intro (by decide) ?_; conv => whnf) | (refine draw_intro true (by kernel_rfl) ?_; conv => whnf) | (refine And.intro ⟨by omega, by omega⟩ ?_; conv => whnf) | (refine And.intro (by omega) ?_; conv => whnf) | (refine And.intro (fun _ => ⟨by omega, by omega⟩) ?_; conv => whnf) | (refine And.intro (fun _ => ?_) (fun h => absurd h ?_); rotate_left; (focus (first | decide | (simp; done) | (simp [tcs]; done))); conv => whnf) | (refine And.intro (fun h => absurd h ?_) (fun _ => ?_); (focus (first | decide | (simp; done) | (simp [tcs]; done))); conv => whnf) | (intro _; conv => whnf))
        (refine ⟨fun h => absurd h (by rw [decide_eq_false (show ¬ x < 0 by omega)]; simp), fun _ => ?_⟩; conv => whnf)
        try (refine draw_intro true (by kernel_rfl) ?_; conv => whnf)
        refine CallSt.use h8 [] trivial (by decide) rfl ?_
        rintro _ _ ⟨rfl, rfl⟩ _
        conv => whnf
        repeat (first | (refine And.intro rfl ?_; conv => whnf) | (refine And.intro (by decide) ?_; conv => whnf) | (refine draw_intro true (by kernel_rfl) ?_; conv => whnf) | (refine And.intro ⟨by omega, by omega⟩ ?_; conv => whnf) | (refine And.intro (by omega) ?_; conv => whnf) | (refine And.intro (fun _ => ⟨by omega, by omega⟩) ?_; conv => whnf) | (refine And.intro (fun _ => ?_) (fun h => absurd h ?_); rotate_left; (focus (first | decide | (simp; done) | (simp [tcs]; done))); conv => whnf) | (refine And.intro (fun h => absurd h ?_) (fun _ => ?_); (focus (first | decide | (simp; done) | (simp [tcs]; done))); conv => whnf) | (intro _; conv => whnf))
        try (refine draw_intro true (by kernel_rfl) ?_; conv => whnf)
        refine CallSt.use h9 [] trivial (by decide) rfl ?_
        rintro _ _ ⟨rfl, rfl⟩ _
        conv => whnf
        repeat (first | (refine And.intro rfl ?_; conv => whnf) | (refine And.intro (by decide) ?_; conv => whnf) | (refine draw_intro true (by kernel_rfl) ?_; conv => whnf) | (refine And.intro ⟨by omega, by omega⟩ ?_; conv => whnf) | (refine And.intro (by omega) ?_; conv => whnf) | (refine And.intro (fun _ => ⟨by omega, by omega⟩) ?_; conv => whnf) | (refine And.intro (fun _ => ?_) (fun h => absurd h ?_); rotate_left; (focus (first | decide | (simp; done) | (simp [tcs]; done))); conv => whnf) | (refine And.intro (fun h => absurd h ?_) (fun _ => ?_); (focus (first | decide | (simp; done) | (simp [tcs]; done))); conv => whnf) | (intro _; conv => whnf))
        try (refine draw_intro true (by kernel_rfl) ?_; conv => whnf)
        refine CallSt.use h10 [] trivial (by decide) rfl ?_
        rintro _ _ ⟨rfl, rfl⟩ _
        conv => whnf
        repeat (first | (refine And.intro rfl ?_; conv => whnf) | (refine And.intro (by decide) ?_; conv => whnf) | (refine draw_intro true (by kernel_rfl) ?_; conv => whnf) | (refine And.intro ⟨by omega, by omega⟩ ?_; conv => whnf) | (refine And.intro (by omega) ?_; conv => whnf) | (refine And.intro (fun _ => ⟨by omega, by omega⟩) ?_; conv => whnf) | (refine And.intro (fun _ => ?_) (fun h => absurd h ?_); rotate_left; (focus (first | decide | (simp; done) | (simp [tcs]; done))); conv => whnf) | (refine And.intro (fun h => absurd h ?_) (fun _ => ?_); (focus (first | decide | (simp; done) | (simp [tcs]; done))); conv => whnf) | (intro _; conv => whnf))
        try (refine draw_intro true (by kernel_rfl) ?_; conv => whnf)
        refine CallSt.use haw [] trivial (by decide) rfl ?_
        rintro _ _ ⟨rfl, rfl⟩ _
        conv => whnf
        repeat (first | (refine And.intro rfl ?_; conv => whnf) | (refine And.intro (by decide) ?_; conv => whnf) | (refine draw_intro true (by kernel_rfl) ?_; conv => whnf) | (refine And.intro ⟨by omega, by omega⟩ ?_; conv => whnf) | (refine And.intro (by omega) ?_; conv => whnf) | (refine And.intro (fun _ => ⟨by omega, by omega⟩) ?_; conv => whnf) | (refine And.intro (fun _ => ?_) (fun h => absurd h ?_); rotate_left; (focus (first | decide | (simp; done) | (simp [tcs]; done))); conv => whnf) | (refine And.intro (fun h => absurd h ?_) (fun _ => ?_); (focus (first | decide | (simp; done) | (simp [tcs]; done))); conv => whnf) | (intro _; conv => whnf))
        all_goals (first | rfl | exact ⟨rfl, rfl⟩ | exact ⟨rfl, rfl, rfl⟩ | exact ⟨congrArg (fun z => AV.c (.bool z)) (by simp), rfl⟩)
    | false =>
      rw [hni] at h2 h7
      simp only at h2 h7
      cases b with
      | true =>
        obtain ⟨rfl, rfl⟩ := hof rfl
        refine call_pure (E := env 0) (fn := Try.f5) (c := bodyOf Try.f5) (env_ok 0) mixed (by kernel_rfl) (by kernel_rfl) (by kernel_rfl) (by kernel_rfl) (by kernel_rfl) (by kernel_rfl) rfl ?_
        conv => whnf
        try (refine draw_intro true (by kernel_rfl) ?_; conv => whnf)
        refine CallSt.use h1 [] trivial (by decide) rfl ?_
        rintro _ _ ⟨rfl, rfl⟩ _
        conv => whnf
        try (refine draw_intro true (by kernel_rfl) ?_; conv => whnf)
        refine CallSt.use h2 [] trivial (by decide) rfl ?_
        rintro _ _ ⟨rfl, rfl⟩ _
        conv => whnf
        try (refine draw_intro true (by kernel_rfl) ?_; conv => whnf)
        refine CallSt.use h3 [] trivial (by decide) rfl ?_
        rintro _ _ ⟨rfl, rfl⟩ _
        conv => whnf
        try (refine draw_intro true (by kernel_rfl) ?_; conv => whnf)
        refine CallSt.use h4 [] trivial (by decide) rfl ?_
        rintro _ _ ⟨rfl, rfl⟩ _
        conv => whnf
        try (refine draw_intro true (by kernel_rfl) ?_; conv => whnf)
        refine CallSt.use h5 [] trivial (by decide) rfl ?_
        rintro _ _ ⟨rfl, rfl⟩ _
        conv => whnf
        try (refine draw_intro true (by kernel_rfl) ?_; conv => whnf)
        refine CallSt.use h6 [] trivial (by decide) rfl ?_
        rintro _ _ ⟨rfl, rfl⟩ _
        conv => whnf
        repeat (first | (refine And.intro rfl ?_; conv => whnf) | (refine And.intro (by decide) ?_; conv => whnf) | (refine draw_intro true (by kernel_rfl) ?_; conv => whnf) | (refine And.intro ⟨by omega, by omega⟩ ?_; conv => whnf) | (refine And.intro (by omega) ?_; conv => whnf) | (refine And.intro (fun _ => ⟨by omega, by omega⟩) ?_; conv => whnf) | (refine And.intro (fun _ => ?_) (fun h => absurd h ?_); rotate_left; (focus (first | decide | (simp; done) | (simp [tcs]; done))); conv => whnf) | (refine And.intro (fun h => absurd h ?_) (fun _ => ?_); (focus (first | decide | (simp; done) | (simp [tcs]; done))); conv => whnf) | (intro _; conv => whnf))
        try (refine draw_intro true (by kernel_rfl) ?_; conv => whnf)
        refine CallSt.use h7 [] trivial (by decide) rfl ?_
        rintro _ _ ⟨rfl, rfl⟩ _
        conv => whnf
        repeat (first | (refine And.intro rfl ?_; conv => whnf) | (refine And.intro (by decide) ?_; conv => whnf) | (refine draw_intro true (by kernel_rfl) ?_; conv => whnf) | (refine And.intro ⟨by omega, by omega⟩ ?_; conv => whnf) | (refine And.intro (by omega) ?_; conv => whnf) | (refine And.intro (fun _ => ⟨by omega, by omega⟩) ?_; conv => whnf) | (refine And.intro (fun _ => ?_) (fun h => absurd h ?_); rotate_left; (focus (first | decide | (simp; done) | (simp [tcs]; done))); conv => whnf) | (refine And.intro (fun h => absurd h ?_) (fun _ => ?_); (focus (first | decide | (simp; done) | (simp [tcs]; done))); conv => whnf) | (intro _; conv => whnf))
        try (refine draw_intro true (by kernel_rfl) ?_; conv => whnf)
        refine CallSt.use h8 [] trivial (by decide) rfl ?_
        rintro _ _ ⟨rfl, rfl⟩ _
        conv => whnf
        repeat (first | (refine And.intro rfl ?_; conv => whnf) | (refine And.intro (by decide) ?_; conv => whnf) | (refine draw_intro true (by kernel_rfl) ?_; conv => whnf) | (refine And.intro ⟨by omega, by omega⟩ ?_; conv => whnf) | (refine And.intro (by omega) ?_; conv => whnf) | (refine And.intro (fun _ => ⟨by omega, by omega⟩) ?_; conv => whnf) | (refine And.intro (fun _ => ?_) (fun h => absurd h ?_); rotate_left; (focus (first | decide | (simp; done) | (simp [tcs]; done))); conv => whnf) | (refine And.intro (fun h => absurd h ?_) (fun _ => ?_); (focus (first | decide | (simp; done) | (simp [tcs]; done))); conv => whnf) | (intro _; conv => whnf))
        try (refine draw_intro true (by kernel_rfl) ?_; conv => whnf)
        refine CallSt.use h9 [] trivial (by decide) rfl ?_
        rintro _ _ ⟨rfl, rfl⟩ _
        conv => whnf
        repeat (first | (refine And.intro rfl ?_; conv => whnf) | (refine And.intro (by decide) ?_; conv => whnf) | (refine draw_intro true (by kernel_rfl) ?_; conv => whnf) | (refine And.intro ⟨by omega, by omega⟩ ?_; conv => whnf) | (refine And.intro (by omega) ?_; conv => whnf) | (refine And.intro (fun _ => ⟨by omega, by omega⟩) ?_; conv => whnf) | (refine And.intro (fun _ => ?_) (fun h => absurd h ?_); rotate_left; (focus (first | decide | (simp; done) | (simp [tcs]; done))); conv => whnf) | (refine And.intro (fun h => absurd h ?_) (fun _ => ?_); (focus (first | decide | (simp; done) | (simp [tcs]; done))); conv => whnf) | (intro _; conv => whnf))
        try (refine draw_intro true (by kernel_rfl) ?_; conv => whnf)
        refine CallSt.use h10 [] trivial (by decide) rfl ?_
        rintro _ _ ⟨rfl, rfl⟩ _
        conv => whnf
        repeat (first | (refine And.intro rfl ?_; conv => whnf) | (refine And.intro (by decide) ?_; conv => whnf) | (refine draw_intro true (by kernel_rfl) ?_; conv => whnf) | (refine And.intro ⟨by omega, by omega⟩ ?_; conv => whnf) | (refine And.intro (by omega) ?_; conv => whnf) | (refine And.intro (fun _ => ⟨by omega, by omega⟩) ?_; conv => whnf) | (refine And.intro (fun _ => ?_) (fun h => absurd h ?_); rotate_left; (focus (first | decide | (simp; done) | (simp [tcs]; done))); conv => whnf) | (refine And.intro (fun h => absurd h ?_) (fun _ => ?_); (focus (first | decide | (simp; done) | (simp [tcs]; done))); conv => whnf) | (intro _; conv => whnf))
        try (refine draw_intro true (by kernel_rfl) ?_; conv => whnf)
        refine CallSt.use h11 [] trivial (by decide) rfl ?_
        rintro _ _ ⟨rfl, rfl⟩ _
        conv => whnf
        try (refine draw_intro true (by kernel_rfl) ?_; conv => whnf)
        refine CallSt.use h12 [] trivial (by decide) rfl ?_
        rintro _ _ ⟨rfl, rfl⟩ _
        conv => whnf
        repeat (first | (refine And.intro rfl ?_; conv => whnf) | (refine And.intro (by decide) ?_; conv => whnf) | (refine draw_intro true (by kernel_rfl) ?_; conv => whnf) | (refine And.intro ⟨by omega, by omega⟩ ?_; conv => whnf) | (refine And.intro (by omega) ?_; conv => whnf) | (refine And.intro (fun _ => ⟨by omega, by omega⟩) ?_; conv => whnf) | (refine And.intro (fun _ => ?_) (fun h => absurd h ?_); rotate_left; (focus (first | decide | (simp; done) | (simp [tcs]; done))); conv => whnf) | (refine And.intro (fun h => absurd h ?_) (fun _ => ?_); (focus (first | decide | (simp; done) | (simp [tcs]; done))); conv => whnf) | (intro _; conv => whnf))
        try (refine draw_intro true (by kernel_rfl) ?_; conv => whnf)
        refine CallSt.use haw [] trivial (by decide) rfl ?_
        rintro _ _ ⟨rfl, rfl⟩ _
        conv => whnf
        repeat (first | (refine And.intro rfl ?_; conv => whnf) | (refine And.intro (by decide) ?_; conv => whnf) | (refine draw_intro true (by kernel_rfl) ?_; conv => whnf) | (refine And.intro ⟨by omega, by omega⟩ ?_; conv => whnf) | (refine And.intro (by omega) ?_; conv => whnf) | (refine And.intro (fun _ => ⟨by omega, by omega⟩) ?_; conv => whnf) | (refine And.intro (fun _ => ?_) (fun h => absurd h ?_); rotate_left; (focus (first | decide | (simp; done) | (simp [tcs]; done))); conv => whnf) | (refine And.intro (fun h => absurd h ?_) (fun _ => ?_); (focus (first | decide | (simp; done) | (simp [tcs]; done))); conv => whnf) | (intro _; conv => whnf))
        all_goals (first | rfl | exact ⟨rfl, rfl⟩ | exact ⟨rfl, rfl, rfl⟩ | exact ⟨congrArg (fun z => AV.c (.bool z)) (by simp), rfl⟩)
      | false =>
        obtain ⟨rfl, rfl⟩ := hof2 rfl
        refine call_pure (E := env 0) (fn := Try.f5) (c := bodyOf Try.f5) (env_ok 0) mixed (by kernel_rfl) (by kernel_rfl) (by kernel_rfl) (by kernel_rfl) (by kernel_rfl) (by kernel_rfl) rfl ?_
        conv => whnf
        try (refine draw_intro true (by kernel_rfl) ?_; conv => whnf)
        refine CallSt.use h1 [] trivial (by decide) rfl ?_
        rintro _ _ ⟨rfl, rfl⟩ _
        conv => whnf
        try (refine draw_intro true (by kernel_rfl) ?_; conv => whnf)
        refine CallSt.use h2 [] trivial (by decide) rfl ?_
        rintro _ _ ⟨rfl, rfl⟩ _
        conv => whnf
        try (refine draw_intro true (by kernel_rfl) ?_; conv => whnf)
        refine CallSt.use h3 [] trivial (by decide) rfl ?_
        rintro _ _ ⟨rfl, rfl⟩ _
        conv => whnf
        try (refine draw_intro true (by kernel_rfl) ?_; conv => whnf)
        refine CallSt.use h4 [] trivial (by decide) rfl ?_
        rintro _ _ ⟨rfl, rfl⟩ _
        conv => whnf
        try (refine draw_intro true (by kernel_rfl) ?_; conv => whnf)
        refine CallSt.use h5 [] trivial (by decide) rfl ?_
        rintro _ _ ⟨rfl, rfl⟩ _
        conv => whnf
        try (refine draw_intro true (by kernel_rfl) ?_; conv => whnf)
        refine CallSt.use h6 [] trivial (by decide) rfl ?_
        rintro _ _ ⟨rfl, rfl⟩ _
        conv => whnf
        repeat (first | (refine And.intro rfl ?_; conv => whnf) | (refine And.intro (by decide) ?_; conv => whnf) | (refine draw_intro true (by kernel_rfl) ?_; conv => whnf) | (refine And.intro ⟨by omega, by omega⟩ ?_; conv => whnf) | (refine And.intro (by omega) ?_; conv => whnf) | (refine And.intro (fun _ => ⟨by omega, by omega⟩) ?_; conv => whnf) | (refine And.intro (fun _ => ?_) (fun h => absurd h ?_); rotate_left; (focus (first | decide | (simp; done) | (simp [tcs]; done))); conv => whnf) | (refine And.intro (fun h => absurd h ?_) (fun _ => ?_); (focus (first | decide | (simp; done) | (simp [tcs]; done))); conv => whnf) | (intro _; conv => whnf))
        try (refine draw_intro true (by kernel_rfl) ?_; conv => whnf)
        refine CallSt.use h7 [] trivial (by decide) rfl ?_
        rintro _ _ ⟨rfl, rfl⟩ _
        conv => whnf
        repeat (first | (refine And.intro rfl ?_; conv => whnf) | (refine And.intro (by decide) ?_; conv => whnf) | (refine draw_intro true (by kernel_rfl) ?_; conv => whnf) | (refine And.intro ⟨by omega, by omega⟩ ?_; conv => whnf) | (refine And.intro (by omega) ?_; conv => whnf) | (refine And.intro (fun _ => ⟨by omega, by omega⟩) ?_; conv => whnf) | (refine And.intro (fun _ => ?_) (fun h => absurd h ?_); rotate_left; (focus (first | decide | (simp; done) | (simp [tcs]; done))); conv => whnf) | (refine And.intro (fun h => absurd h ?_) (fun _ => ?_); (focus (first | decide | (simp; done) | (simp [tcs]; done))); conv => whnf) | (intro _; conv => whnf))
        try (refine draw_intro true (by kernel_rfl) ?_; conv => whnf)
        refine CallSt.use h8 [] trivial (by decide) rfl ?_
        rintro _ _ ⟨rfl, rfl⟩ _
        conv => whnf
        repeat (first | (refine And.intro rfl ?_; conv => whnf) | (refine And.intro (by decide) ?_; conv => whnf) | (refine draw_intro true (by kernel_rfl) ?_; conv => whnf) | (refine And.intro ⟨by omega, by omega⟩ ?_; conv => whnf) | (refine And.intro (by omega) ?_; conv => whnf) | (refine And.intro (fun _ => ⟨by omega, by omega⟩) ?_; conv => whnf) | (refine And.intro (fun _ => ?_) (fun h => absurd h ?_); rotate_left; (focus (first | decide | (simp; done) | (simp [tcs]; done))); conv => whnf) | (refine And.intro (fun h => absurd h ?_) (fun _ => ?_); (focus (first | decide | (simp; done) | (simp [tcs]; done))); conv => whnf) | (intro _; conv => whnf))
        try (refine draw_intro true (by kernel_rfl) ?_; conv => whnf)
        refine CallSt.use h9 [] trivial (by decide) rfl ?_
        rintro _ _ ⟨rfl, rfl⟩ _
        conv => whnf
        repeat (first | (refine And.intro rfl ?_; conv => whnf) | (refine And.intro (by decide) ?_; conv => whnf) | (refine draw_intro true (by kernel_rfl) ?_; conv => whnf) | (refine And.intro ⟨by omega, by omega⟩ ?_; conv => whnf) | (refine And.intro (by omega) ?_; conv => whnf) | (refine And.intro (fun _ => ⟨by omega, by omega⟩) ?_; conv => whnf) | (refine And.intro (fun _ => ?_) (fun h => absurd h ?_); rotate_left; (focus (first | decide | (simp; done) | (simp [tcs]; done))); conv => whnf) | (refine And.intro (fun h => absurd h ?_) (fun _ => ?_); (focus (first | decide | (simp; done) | (simp [tcs]; done))); conv => whnf) | (intro _; conv => whnf))
        try (refine draw_intro true (by kernel_rfl) ?_; conv => whnf)
        refine CallSt.use h10 [] trivial (by decide) rfl ?_
        rintro _ _ ⟨rfl, rfl⟩ _
        conv => whnf
        repeat (first | (refine And.intro rfl ?_; conv => whnf) | (refine And.intro (by decide) ?_; conv => whnf) | (refine draw_intro true (by kernel_rfl) ?_; conv => whnf) | (refine And.intro ⟨by omega, by omega⟩ ?_; conv => whnf) | (refine And.intro (by omega) ?_; conv => whnf) | (refine And.intro (fun _ => ⟨by omega, by omega⟩) ?_; conv => whnf) | (refine And.intro (fun _ => ?_) (fun h => absurd h ?_); rotate_left; (focus (first | decide | (simp; done) | (simp [tcs]; done))); conv => whnf) | (refine And.intro (fun h => absurd h ?_) (fun _ => ?_); (focus (first | decide | (simp; done) | (simp [tcs]; done))); conv => whnf) | (intro _; conv => whnf))
        try (refine draw_intro true (by kernel_rfl) ?_; conv => whnf)
        refine CallSt.use haw [] trivial (by decide) rfl ?_
        rintro _ _ ⟨rfl, rfl⟩ _
        conv => whnf
        repeat (first | (refine And.intro rfl ?_; conv => whnf) | (refine And.intro (by decide) ?_; conv => whnf) | (refine draw_intro true (by kernel_rfl) ?_; conv => whnf) | (refine And.intro ⟨by omega, by omega⟩ ?_; conv => whnf) | (refine And.intro (by omega) ?_; conv => whnf) | (refine And.intro (fun _ => ⟨by omega, by omega⟩) ?_; conv => whnf) | (refine And.intro (fun _ => ?_) (fun h => absurd h ?_); rotate_left; (focus (first | decide | (simp; done) | (simp [tcs]; done))); conv => whnf) | (refine And.intro (fun h => absurd h ?_) (fun _ => ?_); (focus (first | decide | (simp; done) | (simp [tcs]; done))); conv => whnf) | (intro _; conv => whnf))
        all_goals (first | rfl | exact ⟨rfl, rfl⟩ | exact ⟨rfl, rfl, rfl⟩ | exact ⟨congrArg (fun z => AV.c (.bool z)) (by simp), rfl⟩)
end Go.Tr
/- The law SignParted. -/
namespace Go.Tr
open Go.Proofs
theorem has_at {sig : List Dcl} (hc : checkB sig = true) {n : Nat} (h : n < sig.length) : hasE sig n = 0 := by
  unfold hasE
  rw [hc]
  simp only
  rw [decide_eq_false (by omega), decide_eq_false (by omega)]
  rfl
theorem find_self {sig : List Dcl} (hc : checkB sig = true) {n : Nat} {d : Dcl} (hd : sig[n]? = some d) : nameIn sig d.s = true ∧ findI sig d.s = n := by
  obtain ⟨_, c2, _⟩ := (check_iff sig).1 hc
  refine ⟨nameIn_yes hd rfl, ?_⟩
  unfold findI
  rw [find_at hd rfl fun q e hq he hs => c2 q n e d hq he hd hs]
theorem head_facts {sig : List Dcl} (hc : checkB sig = true) {n : Nat} {d : Dcl} (hd : sig[n]? = some d) :
    0 ≤ headT d n ∧ headT d n < sig.length ∧ kindT d.c = decide (headT d n = n) ∧ (kindT d.c = false → kindAt sig (headT d n) = true ∧ headT d n < n) := by
  obtain ⟨_, _, c3⟩ := (check_iff sig).1 hc
  obtain ⟨o1, _, _, _, o5, o6⟩ := c3 n d hd
  have hlt := (List.getElem?_eq_some_iff.1 hd).1
  unfold headT
  cases hk : kindT d.c with
  | true => exact ⟨by simp only; omega, by simp only; omega, (decide_eq_true rfl).symm, fun h => by cases h⟩
  | false =>
    rw [hk] at o6
    have o6 := o6.resolve_left (by simp)
    have h1 := targ_pos o1 o6.1
    have h2 := nodes_targ o5 o6.1
    exact ⟨h1, by simp only; omega, (decide_eq_false (by simp only; omega)).symm, fun _ => ⟨o6.2, h2⟩⟩
def inAt (sig : List Dcl) (j : Nat) (m : Nat) : Int := match !kindAt sig m && decide (headAt sig m < j) with | true => 1 | false => 0
theorem in_skip {sig : List Dcl} (hc : checkB sig = true) {n : Nat} (hk : kindAt sig n = false) {m : Nat} (hm : m < sig.length) : inAt sig (n + 1) m = inAt sig n m := by
  have hd : sig[m]? = some sig[m] := List.getElem?_eq_getElem hm
  obtain ⟨_, _, _, h4⟩ := head_facts hc hd
  unfold inAt
  rw [kindAt_at hd, headAt_at hd]
  cases hkm : kindT sig[m].c with
  | true => rfl
  | false =>
    have h5 := (h4 hkm).1
    have hne : headT sig[m] m ≠ n := fun e => by rw [e, hk] at h5; cases h5
    rw [show decide (headT sig[m] m < ((n + 1 : Nat) : Int)) = decide (headT sig[m] m < (n : Int)) from decide_eq_decide.2 (by omega)]
theorem in_fam {sig : List Dcl} {n : Nat} (hk : kindAt sig n = true) {m : Nat} (hm : m < sig.length) : inAt sig (n + 1) m = inAt sig n m + (if ofP sig n m then 1 else 0) := by
  rw [ofP_R hk m hm]
  unfold inAt ofR
  cases hkm : kindAt sig m with
  | true => simp
  | false =>
    simp only [Bool.not_false, Bool.true_and]
    by_cases h1 : headAt sig m = n
    · rw [h1, decide_eq_true (show (n : Int) < ((n + 1 : Nat) : Int) by omega), decide_eq_false (show ¬ (n : Int) < n by omega), decide_eq_true rfl]
      rfl
    · rw [show decide (headAt sig m < ((n + 1 : Nat) : Int)) = decide (headAt sig m < (n : Int)) from decide_eq_decide.2 (by omega), decide_eq_false h1]
      simp
theorem in_last {sig : List Dcl} (hc : checkB sig = true) {m : Nat} {d : Dcl} (hd : sig[m]? = some d) : inAt sig sig.length m = match kindT d.c with | true => 0 | false => 1 := by
  obtain ⟨_, h2, _, _⟩ := head_facts hc hd
  unfold inAt
  rw [kindAt_at hd, headAt_at hd, decide_eq_true h2, Bool.and_true]
  cases kindT d.c <;> rfl
theorem in_first (sig : List Dcl) (hc : checkB sig = true) {m : Nat} (hm : m < sig.length) : inAt sig 0 m = 0 := by
  obtain ⟨h1, _, _, _⟩ := head_facts hc (List.getElem?_eq_getElem hm)
  unfold inAt
  rw [headAt_at (List.getElem?_eq_getElem hm), decide_eq_false (by omega), Bool.and_false]
theorem upTo_sorted (p : Nat → Bool) : ∀ j, (upTo p j).Pairwise (· < ·)
  | 0 => by simp [upTo]
  | j + 1 => by
    cases h : p j with
    | true =>
      rw [upTo_yes h, List.pairwise_append]
      refine ⟨upTo_sorted p j, by simp, fun a ha b hb => ?_⟩
      obtain ⟨i, rfl, hi, _⟩ := upTo_mem.1 ha
      simp at hb
      omega
    | false => rw [upTo_no h]; exact upTo_sorted p j
/-- The counts while one family's list is gone through. -/
def inI (sig : List Dcl) (n : Nat) (L : List Int) (i : Nat) : List Int := (List.range sig.length).map fun m => inAt sig n m + (if (m : Int) ∈ L.take i then 1 else 0)
theorem inI_len (sig : List Dcl) (n : Nat) (L : List Int) (i : Nat) : (inI sig n L i).length = sig.length := by simp [inI]
theorem inI_at (sig : List Dcl) (n : Nat) (L : List Int) (i : Nat) {m : Nat} (hm : m < sig.length) : (inI sig n L i)[m]? = some (inAt sig n m + (if (m : Int) ∈ L.take i then 1 else 0)) := by simp [inI, hm]
theorem inI_step {sig : List Dcl} {n : Nat} {L : List Int} (hs : L.Pairwise (· < ·)) {i m : Nat} (hi : L[i]? = some (m : Int)) (hm : m < sig.length) :
    (inI sig n L i)[m]? = some (inAt sig n m) ∧ (inI sig n L i).set m (inAt sig n m + 1) = inI sig n L (i + 1) := by
  have hno : (m : Int) ∉ L.take i := fun h => by
    obtain ⟨k, hk⟩ := List.mem_iff_getElem?.1 h
    rw [List.getElem?_take] at hk
    split at hk
    · have h1 := List.pairwise_iff_getElem.1 hs k i (List.getElem?_eq_some_iff.1 hk).1 (List.getElem?_eq_some_iff.1 hi).1 (by assumption)
      rw [(List.getElem?_eq_some_iff.1 hk).2, (List.getElem?_eq_some_iff.1 hi).2] at h1
      omega
    · cases hk
  have h1 : (inI sig n L i)[m]? = some (inAt sig n m) := by rw [inI_at _ _ _ _ hm, if_neg hno, Int.add_zero]
  refine ⟨h1, List.ext_getElem? fun k => ?_⟩
  have htk : L.take (i + 1) = L.take i ++ [(m : Int)] := by rw [List.take_add_one, hi]; rfl
  by_cases hk : k < sig.length
  · rw [inI_at _ _ _ _ hk, htk]
    by_cases hkm : k = m
    · subst hkm
      rw [List.getElem?_set_self (by rw [inI_len]; exact hk), if_pos (by simp)]
    · rw [List.getElem?_set_ne (by omega), inI_at _ _ _ _ hk]
      congr 2
      by_cases h2 : (k : Int) ∈ L.take i
      · rw [if_pos h2, if_pos (List.mem_append.2 (.inl h2))]
      · rw [if_neg h2, if_neg (fun h => by
          rcases List.mem_append.1 h with h | h
          · exact h2 h
          · simp at h; omega)]
  · rw [List.getElem?_eq_none (by rw [List.length_set, inI_len]; omega), List.getElem?_eq_none (by rw [inI_len]; omega)]
theorem inI_end {sig : List Dcl} {n : Nat} (hk : kindAt sig n = true) : inI sig n (upTo (ofP sig n) sig.length) (upTo (ofP sig n) sig.length).length = inI sig (n + 1) [] 0 := by
  refine List.ext_getElem? fun k => ?_
  by_cases h : k < sig.length
  · rw [inI_at _ _ _ _ h, inI_at _ _ _ _ h, List.take_length, in_fam hk h]
    simp only [List.take_nil, List.not_mem_nil, if_false, Int.add_zero]
    congr 2
    by_cases hp : ofP sig n k = true
    · rw [if_pos hp, if_pos (upTo_mem.2 ⟨k, rfl, h, hp⟩)]
    · rw [if_neg hp, if_neg (fun hm => by
        obtain ⟨i, hi, _, h3⟩ := upTo_mem.1 hm
        have : i = k := by omega
        subst this
        exact hp h3)]
  · rw [List.getElem?_eq_none (by rw [inI_len]; omega), List.getElem?_eq_none (by rw [inI_len]; omega)]
theorem inI_start (sig : List Dcl) (n : Nat) (L : List Int) : inI sig n L 0 = inI sig n [] 0 := by simp [inI]
theorem inI_skip {sig : List Dcl} (hc : checkB sig = true) {n : Nat} (hk : kindAt sig n = false) : inI sig n [] 0 = inI sig (n + 1) [] 0 := by
  unfold inI
  refine List.map_congr_left fun m hm => ?_
  rw [in_skip hc hk (List.mem_range.1 hm)]
theorem inI_zero {sig : List Dcl} (hc : checkB sig = true) : inI sig 0 [] 0 = List.replicate sig.length 0 := by
  refine List.ext_getElem? fun k => ?_
  by_cases h : k < sig.length
  · rw [inI_at _ _ _ _ h, in_first sig hc h, List.getElem?_replicate, if_pos h]
    simp
  · rw [List.getElem?_eq_none (by rw [inI_len]; omega), List.getElem?_eq_none (by simp; omega)]
end Go.Tr
/- The law SignParted: the walk. -/
namespace Go.Tr
open Go.Proofs
set_option maxRecDepth 100000 in
theorem cSignParted (sig : List Dcl) : CallSt Try.prog 6 [.c (.sl 6 72 (dcs sig))] [] (fun r H' => r = .c (.bool true) ∧ H' = []) := by
  have hck := cCheck sig
  have haw := cAwakeL
  cases hc : checkB sig with
  | false =>
    rw [hc] at hck
    simp only [Bool.false_eq_true, if_false] at hck
    refine call_pure (E := env 0) (fn := Try.f6) (c := bodyOf Try.f6) (env_ok 0) mixed (by kernel_rfl) (by kernel_rfl) (by kernel_rfl) (by kernel_rfl) (by kernel_rfl) (by kernel_rfl) rfl ?_
    conv => whnf
    try (refine draw_intro true (by kernel_rfl) ?_; conv => whnf)
    refine CallSt.use hck [] trivial (by decide) rfl ?_
    rintro _ _ ⟨rfl, rfl⟩ _
    conv => whnf
    repeat (first | (refine And.intro rfl ?_; conv => whnf) | (refine And.intro (by decide) ?_; conv => whnf) | (refine draw_intro true (by kernel_rfl) ?_; conv => whnf) | (refine And.intro ⟨by omega, by omega⟩ ?_; conv => whnf) | (refine And.intro (by omega) ?_; conv => whnf) | (refine And.intro (fun _ => ⟨by omega, by omega⟩) ?_; conv => whnf) | (refine And.intro (fun _ => ?_) (fun h => absurd h ?_); rotate_left; (focus (first | decide | (simp; done) | (simp [tcs]; done))); conv => whnf) | (refine And.intro (fun h => absurd h ?_) (fun _ => ?_); (focus (first | decide | (simp; done) | (simp [tcs]; done))); conv => whnf) | (intro _; conv => whnf))
    try (refine draw_intro true (by kernel_rfl) ?_; conv => whnf)
    refine CallSt.use haw [] trivial (by decide) rfl ?_
    rintro _ _ ⟨rfl, rfl⟩ _
    conv => whnf
    repeat (first | (refine And.intro rfl ?_; conv => whnf) | (refine And.intro (by decide) ?_; conv => whnf) | (refine draw_intro true (by kernel_rfl) ?_; conv => whnf) | (refine And.intro ⟨by omega, by omega⟩ ?_; conv => whnf) | (refine And.intro (by omega) ?_; conv => whnf) | (refine And.intro (fun _ => ⟨by omega, by omega⟩) ?_; conv => whnf) | (refine And.intro (fun _ => ?_) (fun h => absurd h ?_); rotate_left; (focus (first | decide | (simp; done) | (simp [tcs]; done))); conv => whnf) | (refine And.intro (fun h => absurd h ?_) (fun _ => ?_); (focus (first | decide | (simp; done) | (simp [tcs]; done))); conv => whnf) | (intro _; conv => whnf))
    all_goals (first | rfl | exact ⟨rfl, rfl⟩ | exact ⟨rfl, rfl, rfl⟩ | exact ⟨congrArg (fun z => AV.c (.bool z)) (by simp), rfl⟩)
  | true =>
  rw [hc] at hck
  simp only [if_true] at hck
  have hsl := check_len hc
  have hbl := len_dcs sig
  refine call_pure (E := env 0) (fn := Try.f6) (c := bodyOf Try.f6) (env_ok 0) mixed (by kernel_rfl) (by kernel_rfl) (by kernel_rfl) (by kernel_rfl) (by kernel_rfl) (by kernel_rfl) rfl ?_
  conv => whnf
  try (refine draw_intro true (by kernel_rfl) ?_; conv => whnf)
  refine CallSt.use hck [] trivial (by decide) rfl ?_
  rintro _ _ ⟨rfl, rfl⟩ _
  conv => whnf
  repeat (first | (refine And.intro rfl ?_; conv => whnf) | (refine And.intro (by decide) ?_; conv => whnf) | (refine draw_intro true (by kernel_rfl) ?_; conv => whnf) | (refine And.intro ⟨by omega, by omega⟩ ?_; conv => whnf) | (refine And.intro (by omega) ?_; conv => whnf) | (refine And.intro (fun _ => ⟨by omega, by omega⟩) ?_; conv => whnf) | (refine And.intro (fun _ => ?_) (fun h => absurd h ?_); rotate_left; (focus (first | decide | (simp; done) | (simp [tcs]; done))); conv => whnf) | (refine And.intro (fun h => absurd h ?_) (fun _ => ?_); (focus (first | decide | (simp; done) | (simp [tcs]; done))); conv => whnf) | (intro _; conv => whnf))
  refine ⟨show (dcs sig).length * 1 ≤ 16777216 by omega, show (dcs sig).length * 8 ≤ 140737488355328 by omega, ?_⟩
  conv => whnf
  repeat (first | (refine And.intro rfl ?_; conv => whnf) | (refine And.intro (by decide) ?_; conv => whnf) | (refine draw_intro true (by kernel_rfl) ?_; conv => whnf) | (refine And.intro ⟨by omega, by omega⟩ ?_; conv => whnf) | (refine And.intro (by omega) ?_; conv => whnf) | (refine And.intro (fun _ => ⟨by omega, by omega⟩) ?_; conv => whnf) | (refine And.intro (fun _ => ?_) (fun h => absurd h ?_); rotate_left; (focus (first | decide | (simp; done) | (simp [tcs]; done))); conv => whnf) | (refine And.intro (fun h => absurd h ?_) (fun _ => ?_); (focus (first | decide | (simp; done) | (simp [tcs]; done))); conv => whnf) | (intro _; conv => whnf))
  refine loop_intro (fun m tm H => ∃ j : Nat, sig.length = m + j ∧
    tm = [(29, .c (.int .i64 (j))), (28, .c (.int .i64 ((dcs sig).length))), (0, .c (.sl 6 72 (dcs sig))), (3, .own 0)] ∧ H = [.row 3 1 8 (rowI (inI sig j [] 0))])
    sig.length _ _ ⟨0, by omega, rfl, rfl⟩ (Wk.sel [0] (by decide) (by decide) (by decide) ⟨?_, trivial⟩ ⟨rfl, rfl, rfl, rfl, trivial⟩ rfl) ?_
  · rw [inI_zero hc]
    refine congrArg (fun z => some (Ent.row 3 1 8 z)) ?_
    show List.replicate (dcs sig).length [CV.int .i64 0] = rowI (List.replicate sig.length 0)
    rw [hbl]
    simp [rowI]
  rintro m tm H ⟨j, hj, rfl, rfl⟩
  conv => whnf
  refine ⟨fun hlt => ?_, fun hlt => ?_⟩
  · replace hlt : (j : Int) < (dcs sig).length := of_decide_eq_true hlt
    obtain ⟨d, hd⟩ : ∃ d, sig[j]? = some d := ⟨sig[j]'(by omega), List.getElem?_eq_getElem (by omega)⟩
    have hdc := dcs_at hd
    have hha := has_at hc (show j < sig.length by omega)
    obtain ⟨f1, f2⟩ := find_self hc hd
    have h1 := cFind sig d.s
    rw [f1, f2, hc] at h1
    have h2 := cIsFamily sig j
    rw [hha, kindAt_at hd] at h2
    have h3 := cTargetS sig j
    rw [hha, headAt_at hd] at h3
    rw [decide_eq_true (show (0 : Int) = 0 from rfl)] at h2 h3
    simp only [Bool.and_self, Bool.true_and] at h1 h2 h3
    obtain ⟨g1, g2, g3, g4⟩ := head_facts hc hd
    have hkd := kindAt_at hd
    generalize headT d j = y at *
    have hof := cOf sig j
    have hskip : kindT d.c = false → inI sig j [] 0 = inI sig (j + 1) [] 0 := fun h => inI_skip hc (hkd.trans h)
    have hofE : kindT d.c = true → ofE sig j = 0 ∧ ofF sig j = upTo (ofP sig j) sig.length := fun h => by
      have h0 : ofE sig j = 0 := by unfold ofE; rw [hha, hkd, h]; rfl
      refine ⟨h0, ?_⟩
      unfold ofF
      rw [h0]
      rfl
    have hend : kindT d.c = true → inI sig j (upTo (ofP sig j) sig.length) (upTo (ofP sig j) sig.length).length = inI sig (j + 1) [] 0 := fun h => inI_end (hkd.trans h)
    have hst := inI_start sig j (upTo (ofP sig j) sig.length)
    generalize kindT d.c = b at *
    obtain ⟨s, ⟨k, l, x, ts⟩, i⟩ := d
    conv => whnf
    refine ⟨_, ⟨by omega, hdc⟩, ?_⟩
    conv => whnf
    refine ⟨show 1 ≤ 6 by decide, ?_⟩
    conv => whnf
    try (refine draw_intro true (by kernel_rfl) ?_; conv => whnf)
    refine CallSt.use h1 [] trivial (by decide) rfl ?_
    rintro _ _ ⟨rfl, rfl⟩ _
    conv => whnf
    try (refine draw_intro true (by kernel_rfl) ?_; conv => whnf)
    refine CallSt.use h2 [] trivial (by decide) rfl ?_
    rintro _ _ ⟨rfl, rfl⟩ _
    conv => whnf
    try (refine draw_intro true (by kernel_rfl) ?_; conv => whnf)
    refine CallSt.use h3 [] trivial (by decide) rfl ?_
    rintro _ _ ⟨rfl, rfl⟩ _
    conv => whnf
    repeat (first | (refine And.intro rfl ?_; conv => whnf) | (refine And.intro (by decide) ?_; conv => whnf) | (refine draw_intro true (by kernel_rfl) ?_; conv => whnf) | (refine And.intro ⟨by omega, by omega⟩ ?_; conv => whnf) | (refine And.intro (by omega) ?_; conv => whnf) | (refine And.intro (fun _ => ⟨by omega, by omega⟩) ?_; conv => whnf) | (refine And.intro (fun _ => ?_) (fun h => absurd h ?_); rotate_left; (focus (first | decide | (simp; done) | (simp [tcs]; done))); conv => whnf) | (refine And.intro (fun h => absurd h ?_) (fun _ => ?_); (focus (first | decide | (simp; done) | (simp [tcs]; done))); conv => whnf) | (intro _; conv => whnf))
    (refine ⟨fun h => absurd h (by rw [g3, decide_eq_false (show ¬ y < 0 by omega), decide_eq_false (show ¬ ((dcs sig).length : Int) ≤ y by omega)]; simp), fun _ => ?_⟩; conv => whnf)
    cases b with
    | false =>
      have hskip := hskip rfl
      repeat (first | (refine And.intro rfl ?_; conv => whnf) | (refine And.intro (by decide) ?_; conv => whnf) | (refine draw_intro true (by kernel_rfl) ?_; conv => whnf) | (refine And.intro ⟨by omega, by omega⟩ ?_; conv => whnf) | (refine And.intro (by omega) ?_; conv => whnf) | (refine And.intro (fun _ => ⟨by omega, by omega⟩) ?_; conv => whnf) | (refine And.intro (fun _ => ?_) (fun h => absurd h ?_); rotate_left; (focus (first | decide | (simp; done) | (simp [tcs]; done))); conv => whnf) | (refine And.intro (fun h => absurd h ?_) (fun _ => ?_); (focus (first | decide | (simp; done) | (simp [tcs]; done))); conv => whnf) | (intro _; conv => whnf))
      refine ⟨m - 1, _, _, by omega, ⟨j + 1, by omega, rfl, rfl⟩, Wk.sel [0] (by decide) (by decide) (by decide) ⟨?_, trivial⟩ ⟨rfl, rfl, rfl, rfl, trivial⟩ rfl⟩
      rw [← hskip]
      rfl
    | true =>
      obtain ⟨hE, hF⟩ := hofE rfl
      have hend := hend rfl
      rw [hE, hF] at hof
      repeat (first | (refine And.intro rfl ?_; conv => whnf) | (refine And.intro (by decide) ?_; conv => whnf) | (refine draw_intro true (by kernel_rfl) ?_; conv => whnf) | (refine And.intro ⟨by omega, by omega⟩ ?_; conv => whnf) | (refine And.intro (by omega) ?_; conv => whnf) | (refine And.intro (fun _ => ⟨by omega, by omega⟩) ?_; conv => whnf) | (refine And.intro (fun _ => ?_) (fun h => absurd h ?_); rotate_left; (focus (first | decide | (simp; done) | (simp [tcs]; done))); conv => whnf) | (refine And.intro (fun h => absurd h ?_) (fun _ => ?_); (focus (first | decide | (simp; done) | (simp [tcs]; done))); conv => whnf) | (intro _; conv => whnf))
      try (refine draw_intro true (by kernel_rfl) ?_; conv => whnf)
      refine CallSt.use hof [] trivial (by decide) rfl ?_
      rintro _ _ ⟨rfl, rfl⟩ _
      conv => whnf
      repeat (first | (refine And.intro rfl ?_; conv => whnf) | (refine And.intro (by decide) ?_; conv => whnf) | (refine draw_intro true (by kernel_rfl) ?_; conv => whnf) | (refine And.intro ⟨by omega, by omega⟩ ?_; conv => whnf) | (refine And.intro (by omega) ?_; conv => whnf) | (refine And.intro (fun _ => ⟨by omega, by omega⟩) ?_; conv => whnf) | (refine And.intro (fun _ => ?_) (fun h => absurd h ?_); rotate_left; (focus (first | decide | (simp; done) | (simp [tcs]; done))); conv => whnf) | (refine And.intro (fun h => absurd h ?_) (fun _ => ?_); (focus (first | decide | (simp; done) | (simp [tcs]; done))); conv => whnf) | (intro _; conv => whnf))
      have hso := upTo_sorted (ofP sig j) sig.length
      have hin : ∀ x ∈ upTo (ofP sig j) sig.length, ∃ e : Nat, x = e ∧ e < sig.length ∧ headAt sig e = j := fun x hx => by
        obtain ⟨e, rfl, h4, h5⟩ := upTo_mem.1 hx
        refine ⟨e, rfl, h4, ?_⟩
        unfold ofP at h5
        rw [Bool.and_eq_true] at h5
        exact of_decide_eq_true h5.2
      have hul := upTo_len (ofP sig j) sig.length
      generalize upTo (ofP sig j) sig.length = L at *
      have hrl := len_rowI L
      refine loop_intro (fun m tm H => ∃ i : Nat, L.length = m + i ∧
        tm = [(98, .c (.int .i64 (i))), (97, .c (.int .i64 ((rowI L).length))), (96, .c (.sl 1 8 (rowI L))), (11, .c (.sl 1 8 (rowI L))), (4, .c (.int .i64 (j))), (29, .c (.int .i64 (j))), (28, .c (.int .i64 ((dcs sig).length))), (0, .c (.sl 6 72 (dcs sig))), (3, .own 0)] ∧ H = [.row 3 1 8 (rowI (inI sig j L i))])
        L.length _ _ ⟨0, by omega, rfl, rfl⟩ (Wk.sel [0] (by decide) (by decide) (by decide) ⟨?_, trivial⟩ ⟨rfl, rfl, rfl, rfl, rfl, rfl, rfl, rfl, rfl, trivial⟩ rfl) ?_
      · rw [hst]
        rfl
      rintro m2 tm H ⟨i, hi, rfl, rfl⟩
      conv => whnf
      refine ⟨fun hl2 => ?_, fun hl2 => ?_⟩
      · replace hl2 : (i : Int) < (rowI L).length := of_decide_eq_true hl2
        obtain ⟨x, hx⟩ : ∃ x, L[i]? = some x := ⟨L[i]'(by omega), List.getElem?_eq_getElem (by omega)⟩
        have hxr := rowI_at hx
        obtain ⟨e, rfl, he, hhe⟩ := hin x (List.mem_of_getElem? hx)
        have h6 := cTargetS sig e
        rw [has_at hc he, hhe, decide_eq_true (show (0 : Int) = 0 from rfl)] at h6
        simp only at h6
        obtain ⟨s1, s2⟩ := inI_step (sig := sig) (n := j) hso hx he
        have s1r := rowI_at s1
        have s2r := rowI_set (inI sig j L i) e (inAt sig j e + 1)
        have hbd : 0 ≤ inAt sig j e ∧ inAt sig j e ≤ 1 := by unfold inAt; split <;> omega
        obtain ⟨p, hp, hpx⟩ : ∃ p : Int, (0 < i → (rowI L)[i - 1]? = some [.int .i64 p]) ∧ p < e := by
          by_cases h0 : 0 < i
          · have hp0 : L[i - 1]? = some (L[i - 1]'(by omega)) := List.getElem?_eq_getElem (by omega)
            refine ⟨_, fun _ => rowI_at hp0, ?_⟩
            have h7 := List.pairwise_iff_getElem.1 hso (i - 1) i (by omega) (by omega) (by omega)
            rw [(List.getElem?_eq_some_iff.1 hx).2] at h7
            exact h7
          · exact ⟨-1, fun h => absurd h h0, by omega⟩
        have hil := len_rowI (inI sig j L i)
        have hil2 := inI_len sig j L i
        conv => whnf
        refine ⟨_, ⟨by omega, by simpa using hxr⟩, ?_⟩
        conv => whnf
        refine ⟨Nat.le_refl 1, ?_⟩
        conv => whnf
        repeat (first | (refine And.intro rfl ?_; conv => whnf) | (refine And.intro (by decide) ?_; conv => whnf) | (refine draw_intro true (by kernel_rfl) ?_; conv => whnf) | (refine And.intro ⟨by omega, by omega⟩ ?_; conv => whnf) | (refine And.intro (by omega) ?_; conv => whnf) | (refine And.intro (fun _ => ⟨by omega, by omega⟩) ?_; conv => whnf) | (refine And.intro (fun _ => ?_) (fun h => absurd h ?_); rotate_left; (focus (first | decide | (simp; done) | (simp [tcs]; done))); conv => whnf) | (refine And.intro (fun h => absurd h ?_) (fun _ => ?_); (focus (first | decide | (simp; done) | (simp [tcs]; done))); conv => whnf) | (intro _; conv => whnf))
        refine ⟨[.int .i64 p], fun h => ?_, ?_⟩
        · have h0 : 0 < i := by simp at h; omega
          refine ⟨by omega, ?_⟩
          rw [show ((i : Int) - 1).toNat = i - 1 by omega]
          exact hp h0
        conv => whnf
        refine ⟨show 1 ≤ 1 by decide, ?_⟩
        conv => whnf
        (refine ⟨fun h => absurd h (by rw [decide_eq_false (show ¬ (e : Int) < 0 by omega), decide_eq_false (show ¬ ((dcs sig).length : Int) ≤ e by omega), decide_eq_false (show ¬ (e : Int) ≤ p by omega)]; simp), fun _ => ?_⟩; conv => whnf)
        try (refine draw_intro true (by kernel_rfl) ?_; conv => whnf)
        refine CallSt.use h6 [] trivial (by decide) rfl ?_
        rintro _ _ ⟨rfl, rfl⟩ _
        conv => whnf
        repeat (first | (refine And.intro rfl ?_; conv => whnf) | (refine And.intro (by decide) ?_; conv => whnf) | (refine draw_intro true (by kernel_rfl) ?_; conv => whnf) | (refine And.intro ⟨by omega, by omega⟩ ?_; conv => whnf) | (refine And.intro (by omega) ?_; conv => whnf) | (refine And.intro (fun _ => ⟨by omega, by omega⟩) ?_; conv => whnf) | (refine And.intro (fun _ => ?_) (fun h => absurd h ?_); rotate_left; (focus (first | decide | (simp; done) | (simp [tcs]; done))); conv => whnf) | (refine And.intro (fun h => absurd h ?_) (fun _ => ?_); (focus (first | decide | (simp; done) | (simp [tcs]; done))); conv => whnf) | (intro _; conv => whnf))
        refine ⟨[.int .i64 (inAt sig j e)], by simpa using s1r, show 0 + 1 ≤ 1 by decide, ?_⟩
        conv => whnf
        repeat (first | (refine And.intro rfl ?_; conv => whnf) | (refine And.intro (by decide) ?_; conv => whnf) | (refine draw_intro true (by kernel_rfl) ?_; conv => whnf) | (refine And.intro ⟨by omega, by omega⟩ ?_; conv => whnf) | (refine And.intro (by omega) ?_; conv => whnf) | (refine And.intro (fun _ => ⟨by omega, by omega⟩) ?_; conv => whnf) | (refine And.intro (fun _ => ?_) (fun h => absurd h ?_); rotate_left; (focus (first | decide | (simp; done) | (simp [tcs]; done))); conv => whnf) | (refine And.intro (fun h => absurd h ?_) (fun _ => ?_); (focus (first | decide | (simp; done) | (simp [tcs]; done))); conv => whnf) | (intro _; conv => whnf))
        refine ⟨[.int .i64 (inAt sig j e)], by simpa using s1r, show 0 + 1 ≤ 1 by decide, ?_⟩
        conv => whnf
        refine ⟨⟨by omega, by omega⟩, ?_⟩
        conv => whnf
        refine ⟨m2 - 1, _, _, by omega, ⟨i + 1, by omega, rfl, rfl⟩, Wk.sel [0] (by decide) (by decide) (by decide) ⟨?_, trivial⟩ ⟨rfl, rfl, rfl, rfl, rfl, rfl, rfl, rfl, rfl, trivial⟩ rfl⟩
        rw [← s2, ← s2r]
        rfl
      · replace hl2 : ¬ (i : Int) < (rowI L).length := of_decide_eq_false hl2
        obtain rfl : i = L.length := by omega
        conv => whnf
        repeat (first | (refine And.intro rfl ?_; conv => whnf) | (refine And.intro (by decide) ?_; conv => whnf) | (refine draw_intro true (by kernel_rfl) ?_; conv => whnf) | (refine And.intro ⟨by omega, by omega⟩ ?_; conv => whnf) | (refine And.intro (by omega) ?_; conv => whnf) | (refine And.intro (fun _ => ⟨by omega, by omega⟩) ?_; conv => whnf) | (refine And.intro (fun _ => ?_) (fun h => absurd h ?_); rotate_left; (focus (first | decide | (simp; done) | (simp [tcs]; done))); conv => whnf) | (refine And.intro (fun h => absurd h ?_) (fun _ => ?_); (focus (first | decide | (simp; done) | (simp [tcs]; done))); conv => whnf) | (intro _; conv => whnf))
        refine ⟨m - 1, _, _, by omega, ⟨j + 1, by omega, rfl, rfl⟩, Wk.sel [0] (by decide) (by decide) (by decide) ⟨?_, trivial⟩ ⟨rfl, rfl, rfl, rfl, trivial⟩ rfl⟩
        rw [← hend]
        rfl
  · replace hlt : ¬ (j : Int) < (dcs sig).length := of_decide_eq_false hlt
    obtain rfl : j = sig.length := by omega
    conv => whnf
    repeat (first | (refine And.intro rfl ?_; conv => whnf) | (refine And.intro (by decide) ?_; conv => whnf) | (refine draw_intro true (by kernel_rfl) ?_; conv => whnf) | (refine And.intro ⟨by omega, by omega⟩ ?_; conv => whnf) | (refine And.intro (by omega) ?_; conv => whnf) | (refine And.intro (fun _ => ⟨by omega, by omega⟩) ?_; conv => whnf) | (refine And.intro (fun _ => ?_) (fun h => absurd h ?_); rotate_left; (focus (first | decide | (simp; done) | (simp [tcs]; done))); conv => whnf) | (refine And.intro (fun h => absurd h ?_) (fun _ => ?_); (focus (first | decide | (simp; done) | (simp [tcs]; done))); conv => whnf) | (intro _; conv => whnf))
    refine loop_intro (fun m tm H => ∃ j : Nat, sig.length = m + j ∧
      tm = [(147, .c (.int .i64 (j))), (146, .c (.int .i64 ((dcs sig).length))), (0, .c (.sl 6 72 (dcs sig))), (3, .own 0)] ∧ H = [.row 3 1 8 (rowI (inI sig sig.length [] 0))])
      sig.length _ _ ⟨0, by omega, rfl, rfl⟩ (Wk.sel [0] (by decide) (by decide) (by decide) ⟨rfl, trivial⟩ ⟨rfl, rfl, rfl, rfl, trivial⟩ rfl) ?_
    rintro m2 tm H ⟨j, hj, rfl, rfl⟩
    conv => whnf
    refine ⟨fun hl2 => ?_, fun hl2 => ?_⟩
    · replace hl2 : (j : Int) < (dcs sig).length := of_decide_eq_true hl2
      obtain ⟨d, hd⟩ : ∃ d, sig[j]? = some d := ⟨sig[j]'(by omega), List.getElem?_eq_getElem (by omega)⟩
      have h2 := cIsFamily sig j
      rw [has_at hc (show j < sig.length by omega), kindAt_at hd, decide_eq_true (show (0 : Int) = 0 from rfl)] at h2
      simp only [Bool.true_and] at h2
      have h8 := in_last hc hd
      have h9 : (rowI (inI sig sig.length [] 0))[j]? = some [.int .i64 (inAt sig sig.length j)] := rowI_at (by rw [inI_at _ _ _ _ (show j < sig.length by omega)]; simp)
      have hil := len_rowI (inI sig sig.length [] 0)
      have hil2 := inI_len sig sig.length [] 0
      generalize inAt sig sig.length j = v at *
      generalize kindT d.c = b at *
      conv => whnf
      try (refine draw_intro true (by kernel_rfl) ?_; conv => whnf)
      refine CallSt.use h2 [] trivial (by decide) rfl ?_
      rintro _ _ ⟨rfl, rfl⟩ _
      conv => whnf
      cases b with
      | true =>
        obtain rfl : v = 0 := h8
        repeat (first | (refine And.intro rfl ?_; conv => whnf) | (refine And.intro (by decide) ?_; conv => whnf) | (refine draw_intro true (by kernel_rfl) ?_; conv => whnf) | (refine And.intro ⟨by omega, by omega⟩ ?_; conv => whnf) | (refine And.intro (by omega) ?_; conv => whnf) | (refine And.intro (fun _ => ⟨by omega, by omega⟩) ?_; conv => whnf) | (refine And.intro (fun _ => ?_) (fun h => absurd h ?_); rotate_left; (focus (first | decide | (simp; done) | (simp [tcs]; done))); conv => whnf) | (refine And.intro (fun h => absurd h ?_) (fun _ => ?_); (focus (first | decide | (simp; done) | (simp [tcs]; done))); conv => whnf) | (intro _; conv => whnf))
        refine ⟨[.int .i64 0], by simpa using h9, show 0 + 1 ≤ 1 by decide, ?_⟩
        conv => whnf
        repeat (first | (refine And.intro rfl ?_; conv => whnf) | (refine And.intro (by decide) ?_; conv => whnf) | (refine draw_intro true (by kernel_rfl) ?_; conv => whnf) | (refine And.intro ⟨by omega, by omega⟩ ?_; conv => whnf) | (refine And.intro (by omega) ?_; conv => whnf) | (refine And.intro (fun _ => ⟨by omega, by omega⟩) ?_; conv => whnf) | (refine And.intro (fun _ => ?_) (fun h => absurd h ?_); rotate_left; (focus (first | decide | (simp; done) | (simp [tcs]; done))); conv => whnf) | (refine And.intro (fun h => absurd h ?_) (fun _ => ?_); (focus (first | decide | (simp; done) | (simp [tcs]; done))); conv => whnf) | (intro _; conv => whnf))
        refine ⟨[.int .i64 0], by simpa using h9, show 0 + 1 ≤ 1 by decide, ?_⟩
        conv => whnf
        repeat (first | (refine And.intro rfl ?_; conv => whnf) | (refine And.intro (by decide) ?_; conv => whnf) | (refine draw_intro true (by kernel_rfl) ?_; conv => whnf) | (refine And.intro ⟨by omega, by omega⟩ ?_; conv => whnf) | (refine And.intro (by omega) ?_; conv => whnf) | (refine And.intro (fun _ => ⟨by omega, by omega⟩) ?_; conv => whnf) | (refine And.intro (fun _ => ?_) (fun h => absurd h ?_); rotate_left; (focus (first | decide | (simp; done) | (simp [tcs]; done))); conv => whnf) | (refine And.intro (fun h => absurd h ?_) (fun _ => ?_); (focus (first | decide | (simp; done) | (simp [tcs]; done))); conv => whnf) | (intro _; conv => whnf))
        exact ⟨m2 - 1, _, _, by omega, ⟨j + 1, by omega, rfl, rfl⟩, Wk.sel [0] (by decide) (by decide) (by decide) ⟨rfl, trivial⟩ ⟨rfl, rfl, rfl, rfl, trivial⟩ rfl⟩
      | false =>
        obtain rfl : v = 1 := h8
        repeat (first | (refine And.intro rfl ?_; conv => whnf) | (refine And.intro (by decide) ?_; conv => whnf) | (refine draw_intro true (by kernel_rfl) ?_; conv => whnf) | (refine And.intro ⟨by omega, by omega⟩ ?_; conv => whnf) | (refine And.intro (by omega) ?_; conv => whnf) | (refine And.intro (fun _ => ⟨by omega, by omega⟩) ?_; conv => whnf) | (refine And.intro (fun _ => ?_) (fun h => absurd h ?_); rotate_left; (focus (first | decide | (simp; done) | (simp [tcs]; done))); conv => whnf) | (refine And.intro (fun h => absurd h ?_) (fun _ => ?_); (focus (first | decide | (simp; done) | (simp [tcs]; done))); conv => whnf) | (intro _; conv => whnf))
        refine ⟨[.int .i64 1], by simpa using h9, show 0 + 1 ≤ 1 by decide, ?_⟩
        conv => whnf
        repeat (first | (refine And.intro rfl ?_; conv => whnf) | (refine And.intro (by decide) ?_; conv => whnf) | (refine draw_intro true (by kernel_rfl) ?_; conv => whnf) | (refine And.intro ⟨by omega, by omega⟩ ?_; conv => whnf) | (refine And.intro (by omega) ?_; conv => whnf) | (refine And.intro (fun _ => ⟨by omega, by omega⟩) ?_; conv => whnf) | (refine And.intro (fun _ => ?_) (fun h => absurd h ?_); rotate_left; (focus (first | decide | (simp; done) | (simp [tcs]; done))); conv => whnf) | (refine And.intro (fun h => absurd h ?_) (fun _ => ?_); (focus (first | decide | (simp; done) | (simp [tcs]; done))); conv => whnf) | (intro _; conv => whnf))
        refine ⟨[.int .i64 1], by simpa using h9, show 0 + 1 ≤ 1 by decide, ?_⟩
        conv => whnf
        repeat (first | (refine And.intro rfl ?_; conv => whnf) | (refine And.intro (by decide) ?_; conv => whnf) | (refine draw_intro true (by kernel_rfl) ?_; conv => whnf) | (refine And.intro ⟨by omega, by omega⟩ ?_; conv => whnf) | (refine And.intro (by omega) ?_; conv => whnf) | (refine And.intro (fun _ => ⟨by omega, by omega⟩) ?_; conv => whnf) | (refine And.intro (fun _ => ?_) (fun h => absurd h ?_); rotate_left; (focus (first | decide | (simp; done) | (simp [tcs]; done))); conv => whnf) | (refine And.intro (fun h => absurd h ?_) (fun _ => ?_); (focus (first | decide | (simp; done) | (simp [tcs]; done))); conv => whnf) | (intro _; conv => whnf))
        exact ⟨m2 - 1, _, _, by omega, ⟨j + 1, by omega, rfl, rfl⟩, Wk.sel [0] (by decide) (by decide) (by decide) ⟨rfl, trivial⟩ ⟨rfl, rfl, rfl, rfl, trivial⟩ rfl⟩
    · conv => whnf
      try (refine draw_intro true (by kernel_rfl) ?_; conv => whnf)
      refine CallSt.use haw [] trivial (by decide) rfl ?_
      rintro _ _ ⟨rfl, rfl⟩ _
      conv => whnf
      repeat (first | (refine And.intro rfl ?_; conv => whnf) | (refine And.intro (by decide) ?_; conv => whnf) | (refine draw_intro true (by kernel_rfl) ?_; conv => whnf) | (refine And.intro ⟨by omega, by omega⟩ ?_; conv => whnf) | (refine And.intro (by omega) ?_; conv => whnf) | (refine And.intro (fun _ => ⟨by omega, by omega⟩) ?_; conv => whnf) | (refine And.intro (fun _ => ?_) (fun h => absurd h ?_); rotate_left; (focus (first | decide | (simp; done) | (simp [tcs]; done))); conv => whnf) | (refine And.intro (fun h => absurd h ?_) (fun _ => ?_); (focus (first | decide | (simp; done) | (simp [tcs]; done))); conv => whnf) | (intro _; conv => whnf))
      all_goals (first | rfl | exact ⟨rfl, rfl⟩ | exact ⟨rfl, rfl, rfl⟩ | exact ⟨congrArg (fun z => AV.c (.bool z)) (by simp), rfl⟩)
end Go.Tr
