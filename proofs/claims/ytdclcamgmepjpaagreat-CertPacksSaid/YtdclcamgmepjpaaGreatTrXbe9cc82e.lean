/- What each function computes, and the plain laws of it. -/
import Derived.Test.YtdclcamgmepjpaaGreatTrXe7ef9975
set_option linter.unusedVariables false
set_option linter.unusedSimpArgs false
set_option linter.unnecessarySimpa false
set_option autoImplicit false
/- sign.Check. -/
namespace Go.Tr
open Go.Proofs
def namesOf (l : List Dcl) : KV → Option Bool := fun q => match q with | .s b => if l.any (fun e => decide (e.s = b)) then some true else none | _ => none
theorem namesOf_snoc {l : List Dcl} {d : Dcl} : mput (namesOf l) (.s d.s) true = namesOf (l ++ [d]) := by
  funext q
  cases q with
  | i n => simp [mput, namesOf]
  | s b =>
    unfold mput namesOf
    by_cases h : b = d.s
    · subst h; simp
    · rw [if_neg (by intro h2; injection h2 with h2; exact h h2)]
      have h3 : ¬ d.s = b := fun e => h e.symm
      simp [h3]
/-- The map before round n. -/
def namesAt (sig : List Dcl) : Nat → KV → Option Bool
  | 0 => fun _ => none
  | n + 1 => namesOf (sig.take (n + 1))
theorem namesAt_eq (sig : List Dcl) : ∀ n, namesAt sig n = namesOf (sig.take n)
  | 0 => by funext q; cases q <;> simp [namesAt, namesOf]
  | n + 1 => rfl
/-- Whether a declaration can stand at its place. -/
def goodD (sig : List Dcl) (n : Nat) : Bool := match sig[n]? with
  | some d => !((namesOf (sig.take n) (.s d.s)).getD false) && formedF (sig.take n) d
  | none => true
theorem good_prop {sig : List Dcl} {n : Nat} (h : ∀ i, i < n → goodD sig i = true) : ∀ e ∈ sig.take n, prop e.c = true := by
  intro e he
  obtain ⟨i, hi⟩ := List.mem_iff_getElem?.1 he
  rw [List.getElem?_take] at hi
  split at hi
  · rename_i hin
    have hg := h i hin
    unfold goodD at hg
    rw [hi] at hg
    simp only [Bool.and_eq_true] at hg
    have := hg.2
    unfold formedF at this
    simp only [Bool.and_eq_true] at this
    exact this.1.1.1.1
  · cases hi
def checkB (sig : List Dcl) : Bool := decide (sig.length ≤ 100) && (List.range sig.length).all (goodD sig)
theorem cCheck (sig : List Dcl) : CallSt Tryz.prog 29 [.c (.sl 6 72 (dcs sig))] [] (fun r H' => r = .c (.int .i64 ((if checkB sig then 0 else 2))) ∧ H' = []) := by
  have hbl := len_dcs sig
  by_cases hs : sig.length ≤ 100
  · have hIt := fun {ps} {asg} {body} => @cSEach1 ps asg body sig (by omega) (namesAt sig) (goodD sig) 0 2
    refine call_pure (E := env 0) (fn := Tryz.f29) (c := bodyOf Tryz.f29) (env_ok 0) mixed (by kernel_rfl) (by kernel_rfl) (by kernel_rfl) (by kernel_rfl) (by kernel_rfl) (by kernel_rfl) rfl ?_
    conv => whnf
    intro _
    conv => whnf
    (refine ⟨fun h => absurd (of_decide_eq_true h) (by omega), fun _ => ?_⟩; conv => whnf)
    try (refine draw_intro true (by kernel_rfl) ?_; conv => whnf)
    first | refine CallSt.use ((cSEach sig)) [] trivial (by decide) rfl ?_ | refine CallPt.useS ((cSEach sig)) [] trivial (by decide) rfl ?_
    rintro _ _ ⟨rfl, rfl⟩ _
    conv => whnf
    refine CallSt.wkl 4 [(3, .ptr 2 0), (2, .ptr 0 0)] rfl (subTM_lk ⟨rfl, rfl, trivial⟩) ?_
    refine CallSt.use (hIt ?_) [3, 0, 1, 2, 4] ⟨rfl, rfl, rfl, rfl, rfl, trivial⟩ (by decide) rfl ?_
    · intro n d hd hall
      have hfm := cFormed (sig.take n) (good_prop hall) (by simp; omega) d
      have hg : goodD sig n = (!((namesAt sig n (.s d.s)).getD false) && formedF (sig.take n) d) := by unfold goodD; rw [hd, namesAt_eq]
      have hnx : namesAt sig (n + 1) = mput (namesAt sig n) (.s d.s) true := by rw [namesAt_eq, namesAt_eq, namesOf_snoc, List.take_add_one, hd]; rfl
      rw [hg, hnx]
      clear hg hnx hIt
      generalize namesAt sig n = F at *
      generalize formedF (sig.take n) d = b at *
      obtain ⟨s', ⟨k', l', n', us⟩, i'⟩ := d
      dsimp only [Term.k, Term.l, Term.n, Term.ts]
      refine y_intro (E := envY 6) (envY_ok 6) mixed rfl rfl (i := 4) rfl rfl rfl ?_
      conv => whnf
      generalize (F (.s s')).getD false = c at *
      cases c with
      | true =>
        repeat (first | (refine And.intro rfl ?_; conv => whnf) | (refine And.intro (by decide) ?_; conv => whnf) | (refine draw_intro true (by kernel_rfl) ?_; conv => whnf) | (refine And.intro ⟨by omega, by omega⟩ ?_; conv => whnf) | (refine And.intro (by omega) ?_; conv => whnf) | (refine And.intro (fun _ => ⟨by omega, by omega⟩) ?_; conv => whnf) | (refine And.intro (of_decide_eq_true rfl) ?_; conv => whnf) | (refine And.intro (fun _ => ?_) (fun h => absurd h ?_); rotate_left; (focus (first | decide | (simp; done) | (simp [tcs]; done))); conv => whnf) | (refine And.intro (fun h => absurd h ?_) (fun _ => ?_); (focus (first | decide | (simp; done) | (simp [tcs]; done))); conv => whnf))
        first | exact ⟨rfl, .inr ⟨rfl, rfl, rfl⟩⟩ | exact .inr ⟨rfl, rfl, rfl⟩
      | false =>
        (refine ⟨fun _ => ?_, fun h => absurd h ?_⟩; rotate_left; (focus (first | decide | (simp; done) | (simp [tcs]; done))); conv => whnf)
        try (refine draw_intro true (by kernel_rfl) ?_; conv => whnf)
        first | refine CallSt.use hfm [] trivial (by decide) rfl ?_ | refine CallPt.useS hfm [] trivial (by decide) rfl ?_
        rintro _ _ ⟨rfl, rfl⟩ _
        conv => whnf
        cases b with
        | true =>
          repeat (first | (refine And.intro rfl ?_; conv => whnf) | (refine And.intro (by decide) ?_; conv => whnf) | (refine draw_intro true (by kernel_rfl) ?_; conv => whnf) | (refine And.intro ⟨by omega, by omega⟩ ?_; conv => whnf) | (refine And.intro (by omega) ?_; conv => whnf) | (refine And.intro (fun _ => ⟨by omega, by omega⟩) ?_; conv => whnf) | (refine And.intro (of_decide_eq_true rfl) ?_; conv => whnf) | (refine And.intro (fun _ => ?_) (fun h => absurd h ?_); rotate_left; (focus (first | decide | (simp; done) | (simp [tcs]; done))); conv => whnf) | (refine And.intro (fun h => absurd h ?_) (fun _ => ?_); (focus (first | decide | (simp; done) | (simp [tcs]; done))); conv => whnf))
          first | exact ⟨rfl, .inl ⟨rfl, rfl, rfl⟩⟩ | exact .inl ⟨rfl, rfl, rfl⟩
        | false =>
          repeat (first | (refine And.intro rfl ?_; conv => whnf) | (refine And.intro (by decide) ?_; conv => whnf) | (refine draw_intro true (by kernel_rfl) ?_; conv => whnf) | (refine And.intro ⟨by omega, by omega⟩ ?_; conv => whnf) | (refine And.intro (by omega) ?_; conv => whnf) | (refine And.intro (fun _ => ⟨by omega, by omega⟩) ?_; conv => whnf) | (refine And.intro (of_decide_eq_true rfl) ?_; conv => whnf) | (refine And.intro (fun _ => ?_) (fun h => absurd h ?_); rotate_left; (focus (first | decide | (simp; done) | (simp [tcs]; done))); conv => whnf) | (refine And.intro (fun h => absurd h ?_) (fun _ => ?_); (focus (first | decide | (simp; done) | (simp [tcs]; done))); conv => whnf))
          first | exact ⟨rfl, .inr ⟨rfl, rfl, rfl⟩⟩ | exact .inr ⟨rfl, rfl, rfl⟩
    rintro _ _ ⟨rfl, (⟨hall, rfl⟩ | ⟨⟨n, hn, hg⟩, n', rfl⟩)⟩ _
    · have hcb : checkB sig = true := by
        unfold checkB
        rw [decide_eq_true hs, Bool.true_and, List.all_eq_true]
        intro i hi
        exact hall i (by simpa using hi)
      rw [hcb]
      conv => whnf
      repeat (first | (refine And.intro rfl ?_; conv => whnf) | (refine And.intro (by decide) ?_; conv => whnf) | (refine draw_intro true (by kernel_rfl) ?_; conv => whnf) | (refine And.intro ⟨by omega, by omega⟩ ?_; conv => whnf) | (refine And.intro (by omega) ?_; conv => whnf) | (refine And.intro (fun _ => ⟨by omega, by omega⟩) ?_; conv => whnf) | (refine And.intro (of_decide_eq_true rfl) ?_; conv => whnf) | (refine And.intro (fun _ => ?_) (fun h => absurd h ?_); rotate_left; (focus (first | decide | (simp; done) | (simp [tcs]; done))); conv => whnf) | (refine And.intro (fun h => absurd h ?_) (fun _ => ?_); (focus (first | decide | (simp; done) | (simp [tcs]; done))); conv => whnf))
      all_goals (first | rfl | exact ⟨rfl, rfl⟩ | exact ⟨rfl, rfl, rfl⟩)
    · have hcb : checkB sig = false := by
        unfold checkB
        rw [decide_eq_true hs, Bool.true_and, List.all_eq_false]
        exact ⟨n, by simpa using hn, by rw [hg]; simp⟩
      rw [hcb]
      conv => whnf
      repeat (first | (refine And.intro rfl ?_; conv => whnf) | (refine And.intro (by decide) ?_; conv => whnf) | (refine draw_intro true (by kernel_rfl) ?_; conv => whnf) | (refine And.intro ⟨by omega, by omega⟩ ?_; conv => whnf) | (refine And.intro (by omega) ?_; conv => whnf) | (refine And.intro (fun _ => ⟨by omega, by omega⟩) ?_; conv => whnf) | (refine And.intro (of_decide_eq_true rfl) ?_; conv => whnf) | (refine And.intro (fun _ => ?_) (fun h => absurd h ?_); rotate_left; (focus (first | decide | (simp; done) | (simp [tcs]; done))); conv => whnf) | (refine And.intro (fun h => absurd h ?_) (fun _ => ?_); (focus (first | decide | (simp; done) | (simp [tcs]; done))); conv => whnf))
      all_goals (first | rfl | exact ⟨rfl, rfl⟩ | exact ⟨rfl, rfl, rfl⟩)
  · rw [show checkB sig = false by unfold checkB; rw [decide_eq_false hs]; rfl]
    refine call_pure (E := env 0) (fn := Tryz.f29) (c := bodyOf Tryz.f29) (env_ok 0) mixed (by kernel_rfl) (by kernel_rfl) (by kernel_rfl) (by kernel_rfl) (by kernel_rfl) (by kernel_rfl) rfl ?_
    conv => whnf
    intro _
    conv => whnf
    (refine ⟨fun _ => ?_, fun h => absurd (of_decide_eq_false h) (by omega)⟩; conv => whnf)
    repeat (first | (refine And.intro rfl ?_; conv => whnf) | (refine And.intro (by decide) ?_; conv => whnf) | (refine draw_intro true (by kernel_rfl) ?_; conv => whnf) | (refine And.intro ⟨by omega, by omega⟩ ?_; conv => whnf) | (refine And.intro (by omega) ?_; conv => whnf) | (refine And.intro (fun _ => ⟨by omega, by omega⟩) ?_; conv => whnf) | (refine And.intro (of_decide_eq_true rfl) ?_; conv => whnf) | (refine And.intro (fun _ => ?_) (fun h => absurd h ?_); rotate_left; (focus (first | decide | (simp; done) | (simp [tcs]; done))); conv => whnf) | (refine And.intro (fun h => absurd h ?_) (fun _ => ?_); (focus (first | decide | (simp; done) | (simp [tcs]; done))); conv => whnf))
    all_goals (first | rfl | exact ⟨rfl, rfl⟩ | exact ⟨rfl, rfl, rfl⟩)
end Go.Tr
/- Occurs of the reference. -/
namespace Go.Tr
open Go.Proofs
end Go.Tr
/- Free, Constants, Metas, Occurs of both sides; lists of numbers. -/
namespace Go.Tr
open Go.Proofs
theorem cMetasP (t : Term) : CallSt Tryz.prog 57 [tv t] [] (fun r H' => r = .tup [.c (.sl 1 8 (rowI (conF 3 t))), .c (.int .i64 ((if prop t then 0 else 2)))] ∧ H' = []) := by
  have hh := numbers_of 81 3 (fun t i _ => cMetas1 t i) t
  generalize conF 3 t = L at *
  generalize (if prop t then (0 : Int) else 2) = e at *
  obtain ⟨k, l, n, ts⟩ := t
  rw [tv_mk] at *
  refine call_pure (E := env 0) (fn := Tryz.f57) (c := bodyOf Tryz.f57) (env_ok 0) mixed (by kernel_rfl) (by kernel_rfl) (by kernel_rfl) (by kernel_rfl) (by kernel_rfl) (by kernel_rfl) rfl ?_
  conv => whnf
  try (refine draw_intro true (by kernel_rfl) ?_; conv => whnf)
  first | refine CallSt.use hh [] trivial (by decide) rfl ?_ | refine CallPt.useS hh [] trivial (by decide) rfl ?_
  rintro _ _ ⟨rfl, rfl⟩ _
  conv => whnf
  repeat (first | (refine And.intro rfl ?_; conv => whnf) | (refine And.intro (by decide) ?_; conv => whnf) | (refine draw_intro true (by kernel_rfl) ?_; conv => whnf) | (refine And.intro ⟨by omega, by omega⟩ ?_; conv => whnf) | (refine And.intro (by omega) ?_; conv => whnf) | (refine And.intro (fun _ => ⟨by omega, by omega⟩) ?_; conv => whnf) | (refine And.intro (of_decide_eq_true rfl) ?_; conv => whnf) | (refine And.intro (fun _ => ?_) (fun h => absurd h ?_); rotate_left; (focus (first | decide | (simp; done) | (simp [tcs]; done))); conv => whnf) | (refine And.intro (fun h => absurd h ?_) (fun _ => ?_); (focus (first | decide | (simp; done) | (simp [tcs]; done))); conv => whnf))
  all_goals (first | rfl | exact ⟨rfl, rfl⟩ | exact ⟨rfl, rfl, rfl⟩)
theorem heads_con (hd : Int) {t : Term} (h : prop t = true) : CallSt Tryz.prog 71 [tv t, .c (.int .i64 (hd)), .c (.int .i64 (0)), .c (.sl 1 8 (rowI []))] [] (fun r H' => r = .c (.sl 1 8 (rowI (conF hd t))) ∧ H' = []) := by
  have hz := prop_sz h
  have hh := cHeads hd t 0 [] (prop_ok h) (by simp; omega)
  have e : conF hd t = headsT hd t 0 [] := by unfold conF; rw [h]
  rw [e]
  exact hh
theorem cRFree {t : Term} (h : prop t = true) : CallSt Tryz.prog 90 [tv t] [] (fun r H' => r = .c (.sl 1 8 (rowI (conF 1 t))) ∧ H' = []) := by
  have hh := heads_con 1 h
  generalize conF 1 t = L at *
  clear h
  obtain ⟨k, l, n, ts⟩ := t
  rw [tv_mk] at *
  refine call_pure (E := env 0) (fn := Tryz.f90) (c := bodyOf Tryz.f90) (env_ok 0) mixed (by kernel_rfl) (by kernel_rfl) (by kernel_rfl) (by kernel_rfl) (by kernel_rfl) (by kernel_rfl) rfl ?_
  conv => whnf
  try (refine draw_intro true (by kernel_rfl) ?_; conv => whnf)
  first | refine CallSt.use hh [] trivial (by decide) rfl ?_ | refine CallPt.useS hh [] trivial (by decide) rfl ?_
  rintro _ _ ⟨rfl, rfl⟩ _
  conv => whnf
  repeat (first | (refine And.intro rfl ?_; conv => whnf) | (refine And.intro (by decide) ?_; conv => whnf) | (refine draw_intro true (by kernel_rfl) ?_; conv => whnf) | (refine And.intro ⟨by omega, by omega⟩ ?_; conv => whnf) | (refine And.intro (by omega) ?_; conv => whnf) | (refine And.intro (fun _ => ⟨by omega, by omega⟩) ?_; conv => whnf) | (refine And.intro (of_decide_eq_true rfl) ?_; conv => whnf) | (refine And.intro (fun _ => ?_) (fun h => absurd h ?_); rotate_left; (focus (first | decide | (simp; done) | (simp [tcs]; done))); conv => whnf) | (refine And.intro (fun h => absurd h ?_) (fun _ => ?_); (focus (first | decide | (simp; done) | (simp [tcs]; done))); conv => whnf))
  all_goals (first | rfl | exact ⟨rfl, rfl⟩ | exact ⟨rfl, rfl, rfl⟩)
theorem cRCons {t : Term} (h : prop t = true) : CallSt Tryz.prog 89 [tv t] [] (fun r H' => r = .c (.sl 1 8 (rowI (conF 2 t))) ∧ H' = []) := by
  have hh := heads_con 2 h
  generalize conF 2 t = L at *
  clear h
  obtain ⟨k, l, n, ts⟩ := t
  rw [tv_mk] at *
  refine call_pure (E := env 0) (fn := Tryz.f89) (c := bodyOf Tryz.f89) (env_ok 0) mixed (by kernel_rfl) (by kernel_rfl) (by kernel_rfl) (by kernel_rfl) (by kernel_rfl) (by kernel_rfl) rfl ?_
  conv => whnf
  try (refine draw_intro true (by kernel_rfl) ?_; conv => whnf)
  first | refine CallSt.use hh [] trivial (by decide) rfl ?_ | refine CallPt.useS hh [] trivial (by decide) rfl ?_
  rintro _ _ ⟨rfl, rfl⟩ _
  conv => whnf
  repeat (first | (refine And.intro rfl ?_; conv => whnf) | (refine And.intro (by decide) ?_; conv => whnf) | (refine draw_intro true (by kernel_rfl) ?_; conv => whnf) | (refine And.intro ⟨by omega, by omega⟩ ?_; conv => whnf) | (refine And.intro (by omega) ?_; conv => whnf) | (refine And.intro (fun _ => ⟨by omega, by omega⟩) ?_; conv => whnf) | (refine And.intro (of_decide_eq_true rfl) ?_; conv => whnf) | (refine And.intro (fun _ => ?_) (fun h => absurd h ?_); rotate_left; (focus (first | decide | (simp; done) | (simp [tcs]; done))); conv => whnf) | (refine And.intro (fun h => absurd h ?_) (fun _ => ?_); (focus (first | decide | (simp; done) | (simp [tcs]; done))); conv => whnf))
  all_goals (first | rfl | exact ⟨rfl, rfl⟩ | exact ⟨rfl, rfl, rfl⟩)
theorem cRMetas {t : Term} (h : prop t = true) : CallSt Tryz.prog 53 [tv t] [] (fun r H' => r = .c (.sl 1 8 (rowI (conF 3 t))) ∧ H' = []) := by
  have hh := heads_con 3 h
  generalize conF 3 t = L at *
  clear h
  obtain ⟨k, l, n, ts⟩ := t
  rw [tv_mk] at *
  refine call_pure (E := env 0) (fn := Tryz.f53) (c := bodyOf Tryz.f53) (env_ok 0) mixed (by kernel_rfl) (by kernel_rfl) (by kernel_rfl) (by kernel_rfl) (by kernel_rfl) (by kernel_rfl) rfl ?_
  conv => whnf
  try (refine draw_intro true (by kernel_rfl) ?_; conv => whnf)
  first | refine CallSt.use hh [] trivial (by decide) rfl ?_ | refine CallPt.useS hh [] trivial (by decide) rfl ?_
  rintro _ _ ⟨rfl, rfl⟩ _
  conv => whnf
  repeat (first | (refine And.intro rfl ?_; conv => whnf) | (refine And.intro (by decide) ?_; conv => whnf) | (refine draw_intro true (by kernel_rfl) ?_; conv => whnf) | (refine And.intro ⟨by omega, by omega⟩ ?_; conv => whnf) | (refine And.intro (by omega) ?_; conv => whnf) | (refine And.intro (fun _ => ⟨by omega, by omega⟩) ?_; conv => whnf) | (refine And.intro (of_decide_eq_true rfl) ?_; conv => whnf) | (refine And.intro (fun _ => ?_) (fun h => absurd h ?_); rotate_left; (focus (first | decide | (simp; done) | (simp [tcs]; done))); conv => whnf) | (refine And.intro (fun h => absurd h ?_) (fun _ => ?_); (focus (first | decide | (simp; done) | (simp [tcs]; done))); conv => whnf))
  all_goals (first | rfl | exact ⟨rfl, rfl⟩ | exact ⟨rfl, rfl, rfl⟩)
end Go.Tr
/- The reference's Split. -/
namespace Go.Tr
open Go.Proofs
theorem c33 (t : Term) (d : Int) (h : fmT t d = true) (hd : 0 ≤ d) : CallSt Tryz.prog 68 [tv t] [] (fun r H' => r = .tup [.c (.sl 4 48 (tcs (domT t).1)), tv (domT t).2] ∧ H' = []) := by
  have hlen := dom_len t d h
  have hz := SizeOf.sizeOf t
  generalize hT : t = T at *
  subst hT
  obtain ⟨k, l, n, ts⟩ := t
  rw [tv_mk]
  refine call_pure (E := env 0) (fn := Tryz.f68) (c := bodyOf Tryz.f68) (env_ok 0) mixed (by kernel_rfl) (by kernel_rfl) (by kernel_rfl) (by kernel_rfl) (by kernel_rfl) (by kernel_rfl) rfl ?_
  conv => whnf
  refine loop_intro (fun m tm H => ∃ (k' l' n' : Int) (ts' pre : List Term) (d' : Int), SizeOf.sizeOf (Term.mk k' l' n' ts') ≤ m ∧ fmT (.mk k' l' n' ts') d' = true ∧ pre ++ (domT (.mk k' l' n' ts')).1 = (domT (.mk k l n ts)).1 ∧ (domT (.mk k' l' n' ts')).2 = (domT (.mk k l n ts)).2 ∧
      tm = [(4, .own 2), (1, .ptr 0 0), (3, .ptr 1 0)] ∧ H = [.box [.c (.int .i64 (k')), .c (.int .i64 (l')), .c (.int .i64 (n')), .c (.sl 4 48 (tcs ts'))], .box [.c (.int .i64 (0)), .c (.int .i64 (0)), .c (.int .i64 (0)), .nil], .row 25 4 48 (tcs pre)])
      (SizeOf.sizeOf (Term.mk k l n ts)) _ _ ⟨k, l, n, ts, [], d, Nat.le_refl _, h, rfl, rfl, rfl, rfl⟩ ?_ ?_
  · refine Wk.trans (tm1 := [(1, .ptr 0 0), (3, .ptr 1 0), (4, .nil)]) (H1 := [.box [.c (.int .i64 (k)), .c (.int .i64 (l)), .c (.int .i64 (n)), .c (.sl 4 48 (tcs ts))], .box [.c (.int .i64 (0)), .c (.int .i64 (0)), .c (.int .i64 (0)), .nil]]) ?_ (Wk.trans (Wk.niltmp 4 25 4 48 rfl rfl) ?_)
    · exact Wk.sel [0, 1] (by decide) (by first | decide | (show (0 : Nat) ≤ _; decide) | (show ∀ i, i < 0 → _; decide) | (show (1 : Nat) ≤ _; decide) | (show ∀ i, i < 1 → _; decide) | (show (2 : Nat) ≤ _; decide) | (show ∀ i, i < 2 → _; decide) | (show (3 : Nat) ≤ _; decide) | (show ∀ i, i < 3 → _; decide) | (show (4 : Nat) ≤ _; decide) | (show ∀ i, i < 4 → _; decide) | (show (5 : Nat) ≤ _; decide) | (show ∀ i, i < 5 → _; decide) | (show (6 : Nat) ≤ _; decide) | (show ∀ i, i < 6 → _; decide) | (show (7 : Nat) ≤ _; decide) | (show ∀ i, i < 7 → _; decide)) (by first | decide | (show (0 : Nat) ≤ _; decide) | (show ∀ i, i < 0 → _; decide) | (show (1 : Nat) ≤ _; decide) | (show ∀ i, i < 1 → _; decide) | (show (2 : Nat) ≤ _; decide) | (show ∀ i, i < 2 → _; decide) | (show (3 : Nat) ≤ _; decide) | (show ∀ i, i < 3 → _; decide) | (show (4 : Nat) ≤ _; decide) | (show ∀ i, i < 4 → _; decide) | (show (5 : Nat) ≤ _; decide) | (show ∀ i, i < 5 → _; decide) | (show (6 : Nat) ≤ _; decide) | (show ∀ i, i < 6 → _; decide) | (show (7 : Nat) ≤ _; decide) | (show ∀ i, i < 7 → _; decide)) ⟨rfl, rfl, trivial⟩ ⟨rfl, rfl, rfl, trivial⟩ rfl
    · exact Wk.sel [0, 1, 2] (by decide) (by first | decide | (show (0 : Nat) ≤ _; decide) | (show ∀ i, i < 0 → _; decide) | (show (1 : Nat) ≤ _; decide) | (show ∀ i, i < 1 → _; decide) | (show (2 : Nat) ≤ _; decide) | (show ∀ i, i < 2 → _; decide) | (show (3 : Nat) ≤ _; decide) | (show ∀ i, i < 3 → _; decide) | (show (4 : Nat) ≤ _; decide) | (show ∀ i, i < 4 → _; decide) | (show (5 : Nat) ≤ _; decide) | (show ∀ i, i < 5 → _; decide) | (show (6 : Nat) ≤ _; decide) | (show ∀ i, i < 6 → _; decide) | (show (7 : Nat) ≤ _; decide) | (show ∀ i, i < 7 → _; decide)) (by first | decide | (show (0 : Nat) ≤ _; decide) | (show ∀ i, i < 0 → _; decide) | (show (1 : Nat) ≤ _; decide) | (show ∀ i, i < 1 → _; decide) | (show (2 : Nat) ≤ _; decide) | (show ∀ i, i < 2 → _; decide) | (show (3 : Nat) ≤ _; decide) | (show ∀ i, i < 3 → _; decide) | (show (4 : Nat) ≤ _; decide) | (show ∀ i, i < 4 → _; decide) | (show (5 : Nat) ≤ _; decide) | (show ∀ i, i < 5 → _; decide) | (show (6 : Nat) ≤ _; decide) | (show ∀ i, i < 6 → _; decide) | (show (7 : Nat) ≤ _; decide) | (show ∀ i, i < 7 → _; decide)) ⟨rfl, rfl, rfl, trivial⟩ ⟨rfl, rfl, rfl, trivial⟩ rfl
  rintro m tm H ⟨k', l', n', ts', pre, d', hm, hf, hpre, hrest, rfl, rfl⟩
  conv => whnf
  refine ⟨fun hc => ?_, fun hc => ?_⟩
  · replace hc : k' = 2 := of_decide_eq_true hc
    subst hc
    obtain ⟨rfl, rfl, a, b, rfl, ha, hb⟩ := fm_pi hf
    rw [domT_pi] at hpre hrest
    have hl1 : (tcs pre).length ≤ 41 := by
      rw [len_tcs]
      have := congrArg List.length hpre
      simp at this
      omega
    obtain ⟨a1, a2, a3, a4⟩ := a
    obtain ⟨b1, b2, b3, b4⟩ := b
    conv => whnf
    refine ⟨_, ⟨by decide, rfl⟩, ?_⟩
    conv => whnf
    refine ⟨Nat.le_refl 4, ?_⟩
    conv => whnf
    refine ⟨by decide, ?_⟩
    conv => whnf
    refine ⟨by decide, ?_⟩
    conv => whnf
    have hl2 : ((tcs pre).length + 1) * 48 ≤ 140737488355328 := by omega
    have hl3 : (tcs pre).length + 1 ≤ 9223372036854775807 := by omega
    refine ⟨hl2, hl3, ?_⟩
    conv => whnf
    refine ⟨_, ⟨by decide, rfl⟩, ?_⟩
    conv => whnf
    refine ⟨Nat.le_refl 4, ?_⟩
    conv => whnf
    refine ⟨SizeOf.sizeOf (Term.mk b1 b2 b3 b4), _, _, ?_, ⟨b1, b2, b3, b4, pre ++ [.mk a1 a2 a3 a4], d' + 1, Nat.le_refl _, hb, ?_, hrest, rfl, rfl⟩, Wk.sel [0, 1, 4] (by decide) (by decide) (by decide) ⟨rfl, rfl, ?_, trivial⟩ ⟨rfl, rfl, rfl, trivial⟩ rfl⟩
    · simp at hm ⊢; omega
    · rw [← hpre, List.append_assoc]; rfl
    · rw [← tcs_snoc]; rfl
  · replace hc : ¬ k' = 2 := of_decide_eq_false hc
    rw [domT_no (t := .mk k' l' n' ts') hc] at hpre hrest
    simp only [List.append_nil] at hpre
    rw [← hpre, ← hrest]
    conv => whnf
    repeat (first | (refine And.intro rfl ?_; conv => whnf) | (refine And.intro (by decide) ?_; conv => whnf) | (refine draw_intro true (by kernel_rfl) ?_; conv => whnf) | (refine And.intro ⟨by omega, by omega⟩ ?_; conv => whnf) | (refine And.intro (by omega) ?_; conv => whnf) | (refine And.intro (fun _ => ⟨by omega, by omega⟩) ?_; conv => whnf) | (refine And.intro (of_decide_eq_true rfl) ?_; conv => whnf) | (refine And.intro (fun _ => ?_) (fun h => absurd h ?_); rotate_left; (focus (first | decide | (simp; done) | (simp [tcs]; done))); conv => whnf) | (refine And.intro (fun h => absurd h ?_) (fun _ => ?_); (focus (first | decide | (simp; done) | (simp [tcs]; done))); conv => whnf))
    all_goals (first | rfl | exact ⟨rfl, rfl⟩ | exact ⟨rfl, rfl, rfl⟩)
end Go.Tr
/- The reference: closed. -/
namespace Go.Tr
open Go.Proofs
/-- The last of a list is below a number, or there is none. -/
def lastB (l : List Int) (n : Int) : Bool := match l.getLast? with | some x => decide (x < n) | none => true
def closedF (t : Term) (n : Int) : Bool := decide ((conF 1 t).length = 0) && decide ((conF 3 t).length = 0) && lastB (conF 2 t) n
theorem last_row (C : List Int) : (C = [] ∧ ∀ n, lastB C n = true) ∨ ∃ x, C ≠ [] ∧ (rowI C)[C.length - 1]? = some [.int .i64 x] ∧ ∀ n, lastB C n = decide (x < n) := by
  rcases List.eq_nil_or_concat C with rfl | ⟨D, x, rfl⟩
  · exact .inl ⟨rfl, fun n => rfl⟩
  · refine .inr ⟨x, by simp, ?_, fun n => by simp [lastB]⟩
    exact rowI_at (by simp)
theorem cRClosed (t : Term) (n : Int) (hp : prop t = true) : CallSt Tryz.prog 67 [tv t, .c (.int .i64 (n))] [] (fun r H' => r = .c (.bool (closedF t n)) ∧ H' = []) := by
  have h1 := cRFree hp
  have h2 := cRCons hp
  have h3 := cRMetas hp
  have l1 := len_rowI (conF 1 t)
  have l2 := len_rowI (conF 2 t)
  have l3 := len_rowI (conF 3 t)
  have hb := conF_len 2 t
  unfold closedF
  generalize conF 1 t = A at *
  generalize conF 2 t = C at *
  generalize conF 3 t = B at *
  clear hp
  obtain ⟨k, l, m, ts⟩ := t
  rw [tv_mk] at *
  have eA : decide (A.length = 0) = decide (((rowI A).length : Int) = 0) := by rw [l1]; exact decide_eq_decide.2 (by omega)
  have eB : decide (B.length = 0) = decide (((rowI B).length : Int) = 0) := by rw [l3]; exact decide_eq_decide.2 (by omega)
  rw [eA, eB]
  refine call_pure (E := env 0) (fn := Tryz.f67) (c := bodyOf Tryz.f67) (env_ok 0) mixed (by kernel_rfl) (by kernel_rfl) (by kernel_rfl) (by kernel_rfl) (by kernel_rfl) (by kernel_rfl) rfl ?_
  conv => whnf
  try (refine draw_intro true (by kernel_rfl) ?_; conv => whnf)
  first | refine CallSt.use h2 [] trivial (by decide) rfl ?_ | refine CallPt.useS h2 [] trivial (by decide) rfl ?_
  rintro _ _ ⟨rfl, rfl⟩ _
  conv => whnf
  try (refine draw_intro true (by kernel_rfl) ?_; conv => whnf)
  first | refine CallSt.use h1 [] trivial (by decide) rfl ?_ | refine CallPt.useS h1 [] trivial (by decide) rfl ?_
  rintro _ _ ⟨rfl, rfl⟩ _
  conv => whnf
  intro _
  conv => whnf
  generalize decide (((rowI A).length : Int) = 0) = a
  cases a with
  | true =>
    (refine ⟨fun _ => ?_, fun h => absurd h ?_⟩; rotate_left; (focus (first | decide | (simp; done) | (simp [tcs]; done))); conv => whnf)
    try (refine draw_intro true (by kernel_rfl) ?_; conv => whnf)
    first | refine CallSt.use h3 [] trivial (by decide) rfl ?_ | refine CallPt.useS h3 [] trivial (by decide) rfl ?_
    rintro _ _ ⟨rfl, rfl⟩ _
    conv => whnf
    intro _
    conv => whnf
    generalize decide (((rowI B).length : Int) = 0) = b
    intro _
    conv => whnf
    intro _
    conv => whnf
    refine ⟨fun _ => ⟨by omega, by omega⟩, ?_⟩
    conv => whnf
    rcases last_row C with ⟨rfl, hL⟩ | ⟨x, hC, hx, hL⟩
    · refine ⟨[.int .i64 0], fun h => absurd h (by rw [show (rowI []).length = 0 from rfl]; simp), ?_⟩
      conv => whnf
      refine ⟨show 1 ≤ 1 by decide, ?_⟩
      conv => whnf
      rw [hL]
      refine ⟨rfl, rfl, ?_, rfl⟩
      cases b <;> rfl
    · have hl : C.length ≠ 0 := fun h => hC (List.eq_nil_of_length_eq_zero h)
      refine ⟨[.int .i64 x], fun _ => ⟨by omega, ?_⟩, ?_⟩
      · rw [show ((((rowI C).length : Int) - 1)).toNat = C.length - 1 by omega]; exact hx
      · conv => whnf
        refine ⟨show 1 ≤ 1 by decide, ?_⟩
        conv => whnf
        rw [hL]
        refine ⟨rfl, rfl, ?_, rfl⟩
        rw [show decide (((rowI C).length : Int) = 0) = false from decide_eq_false (by omega)]
        cases b <;> rfl
  | false =>
    (refine ⟨fun h => absurd h ?_, fun _ => ?_⟩; (focus (first | decide | (simp; done) | (simp [tcs]; done))); conv => whnf)
    intro _
    conv => whnf
    intro _
    conv => whnf
    refine ⟨fun _ => ⟨by omega, by omega⟩, ?_⟩
    conv => whnf
    refine ⟨[.int .i64 0], fun h => absurd h (by simp), ?_⟩
    conv => whnf
    refine ⟨show 1 ≤ 1 by decide, ?_⟩
    conv => whnf
    repeat (first | (refine And.intro rfl ?_; conv => whnf) | (refine And.intro (by decide) ?_; conv => whnf) | (refine draw_intro true (by kernel_rfl) ?_; conv => whnf) | (refine And.intro ⟨by omega, by omega⟩ ?_; conv => whnf) | (refine And.intro (by omega) ?_; conv => whnf) | (refine And.intro (fun _ => ⟨by omega, by omega⟩) ?_; conv => whnf) | (refine And.intro (of_decide_eq_true rfl) ?_; conv => whnf) | (refine And.intro (fun _ => ?_) (fun h => absurd h ?_); rotate_left; (focus (first | decide | (simp; done) | (simp [tcs]; done))); conv => whnf) | (refine And.intro (fun h => absurd h ?_) (fun _ => ?_); (focus (first | decide | (simp; done) | (simp [tcs]; done))); conv => whnf))
    all_goals (first | rfl | exact ⟨rfl, rfl⟩ | exact ⟨rfl, rfl, rfl⟩)
/-- The constant's class is proper. -/
theorem cRFamily (l : List Dcl) (n : Int) (h0 : 0 ≤ n) (d : Dcl) (hd : l[n.toNat]? = some d) (hp : prop d.c = true) : CallSt Tryz.prog 69 [.c (.sl 6 72 (dcs l)), .c (.int .i64 (n))] [] (fun r H' => r = .c (.bool (kindT d.c)) ∧ H' = []) := by
  have hs := c33 d.c 1 (prop_fm1 hp) (by omega)
  have hc := dcs_at hd
  unfold kindT
  generalize domT d.c = p at *
  clear hp
  obtain ⟨L, ⟨k2, l2, n2, ts2⟩⟩ := p
  obtain ⟨s, ⟨k, m, x, ts⟩, i⟩ := d
  rw [tv_mk] at *
  dsimp only at *
  rw [tv_mk] at hs
  refine call_pure (E := env 0) (fn := Tryz.f69) (c := bodyOf Tryz.f69) (env_ok 0) mixed (by kernel_rfl) (by kernel_rfl) (by kernel_rfl) (by kernel_rfl) (by kernel_rfl) (by kernel_rfl) rfl ?_
  conv => whnf
  refine ⟨_, ⟨h0, hc⟩, ?_⟩
  conv => whnf
  refine ⟨show 4 ≤ 5 by decide, ?_⟩
  conv => whnf
  try (refine draw_intro true (by kernel_rfl) ?_; conv => whnf)
  first | refine CallSt.use hs [] trivial (by decide) rfl ?_ | refine CallPt.useS hs [] trivial (by decide) rfl ?_
  rintro _ _ ⟨rfl, rfl⟩ _
  conv => whnf
  repeat (first | (refine And.intro rfl ?_; conv => whnf) | (refine And.intro (by decide) ?_; conv => whnf) | (refine draw_intro true (by kernel_rfl) ?_; conv => whnf) | (refine And.intro ⟨by omega, by omega⟩ ?_; conv => whnf) | (refine And.intro (by omega) ?_; conv => whnf) | (refine And.intro (fun _ => ⟨by omega, by omega⟩) ?_; conv => whnf) | (refine And.intro (of_decide_eq_true rfl) ?_; conv => whnf) | (refine And.intro (fun _ => ?_) (fun h => absurd h ?_); rotate_left; (focus (first | decide | (simp; done) | (simp [tcs]; done))); conv => whnf) | (refine And.intro (fun h => absurd h ?_) (fun _ => ?_); (focus (first | decide | (simp; done) | (simp [tcs]; done))); conv => whnf))
  all_goals (first | rfl | exact ⟨rfl, rfl⟩ | exact ⟨rfl, rfl, rfl⟩)
end Go.Tr
/- closed is what the program asks of the nodes. -/
namespace Go.Tr
open Go.Proofs
mutual
/-- All nodes are so. -/
def allT (p : Term → Int → Bool) : Term → Int → Bool
  | .mk k l n ts, i => p (.mk k l n ts) i && allL p k i 0 ts
def allL (p : Term → Int → Bool) (k i : Int) : Int → List Term → Bool
  | _, [] => true
  | j, t :: r => allT p t (i + unT k j) && allL p k i (j + 1) r
end
mutual
theorem allT_each (p : Term → Int → Bool) : ∀ (t : Term) (i : Int) (b : Bool), eachT (fun b t i => b && p t i) t i b = (b && allT p t i)
  | .mk k l n ts, i, b => by rw [eachT, allT, allL_each p k i ts 0, ← Bool.and_assoc]
theorem allL_each (p : Term → Int → Bool) (k i : Int) : ∀ (ts : List Term) (j : Int) (b : Bool), eachL (fun b t i => b && p t i) k i j ts b = (b && allL p k i j ts)
  | [], j, b => by rw [eachL, allL, Bool.and_true]
  | t :: r, j, b => by rw [eachL, allL, allT_each p t, allL_each p k i r, Bool.and_assoc]
end
mutual
theorem allT_and (p q : Term → Int → Bool) : ∀ (t : Term) (i : Int), allT (fun t i => p t i && q t i) t i = (allT p t i && allT q t i)
  | .mk k l n ts, i => by
    rw [allT, allT, allT, allL_and p q k i ts 0]
    generalize p _ i = a
    generalize q _ i = b
    generalize allL p k i 0 ts = c
    generalize allL q k i 0 ts = d
    cases a <;> cases b <;> cases c <;> cases d <;> rfl
theorem allL_and (p q : Term → Int → Bool) (k i : Int) : ∀ (ts : List Term) (j : Int), allL (fun t i => p t i && q t i) k i j ts = (allL p k i j ts && allL q k i j ts)
  | [], j => by rw [allL, allL, allL, Bool.and_true]
  | t :: r, j => by
    rw [allL, allL, allL, allT_and p q t, allL_and p q k i r]
    generalize allT p t _ = a
    generalize allT q t _ = b
    generalize allL p k i (j + 1) r = c
    generalize allL q k i (j + 1) r = d
    cases a <;> cases b <;> cases c <;> cases d <;> rfl
end
mutual
theorem allT_congr {p q : Term → Int → Bool} (h : ∀ t i, p t i = q t i) : ∀ (t : Term) (i : Int), allT p t i = allT q t i
  | .mk k l n ts, i => by rw [allT, allT, h, allL_congr h k i ts 0]
theorem allL_congr {p q : Term → Int → Bool} (h : ∀ t i, p t i = q t i) (k i : Int) : ∀ (ts : List Term) (j : Int), allL p k i j ts = allL q k i j ts
  | [], j => by rw [allL, allL]
  | t :: r, j => by rw [allL, allL, allT_congr h t, allL_congr h k i r]
end
mutual
theorem nodesT_all (m : Int) : ∀ (t : Term) (i : Int), nodesT m t i = allT (fun t i => !decide (t.k = 4) || nodeOk m t i) t i
  | .mk k l n ts, i => by rw [nodesT, allT, nodesL_all m k i ts 0]; rfl
theorem nodesL_all (m k i : Int) : ∀ (ts : List Term) (j : Int), nodesL m k i j ts = allL (fun t i => !decide (t.k = 4) || nodeOk m t i) k i j ts
  | [], j => by rw [nodesL, allL]
  | t :: r, j => by rw [nodesL, allL, nodesT_all m t, nodesL_all m k i r]
end
/-- What a node's number must be, if it is of a kind of heads. -/
def hdOk (hd : Int) (P : Int → Bool) (t : Term) (i : Int) : Bool := match decide (t.k = 4) && decide (t.l = hd) with
  | true => (match !decide (hd = 1) with | true => P t.n | false => (match decide (i ≤ t.n) with | true => P (t.n - i) | false => true))
  | false => true
theorem heads_all (hd : Int) (P : Int → Bool) (t : Term) : (∀ x ∈ headsT hd t 0 [], P x = true) ↔ allT (hdOk hd P) t 0 = true := by
  have h := eachT_rel (fun (L : List Int) (b : Bool) => (∀ x ∈ L, P x = true) ↔ b = true) (hdStep hd) (fun b t i => b && hdOk hd P t i) (fun _ _ => True) (fun _ _ _ _ _ _ => trivial)
    (fun L b t i _ hr => by
      unfold hdStep hdOk
      have put : ∀ y, (∀ x ∈ putI L y, P x = true) ↔ (b && P y) = true := fun y => by
        rw [Bool.and_eq_true, ← hr]
        constructor
        · exact fun h => ⟨fun x hx => h x ((putI_mem L y x).2 (.inr hx)), h y ((putI_mem L y y).2 (.inl rfl))⟩
        · rintro ⟨h1, h2⟩ x hx
          rcases (putI_mem L y x).1 hx with rfl | hx
          · exact h2
          · exact h1 x hx
      have stay : (∀ x ∈ L, P x = true) ↔ (b && true) = true := by rw [Bool.and_true]; exact hr
      cases decide (t.k = 4) && decide (t.l = hd) with
      | false => exact stay
      | true =>
        cases !decide (hd = 1) with
        | true => exact put _
        | false =>
          cases decide (i ≤ t.n) with
          | true => exact put _
          | false => exact stay) t 0 [] true trivial (by simp)
  rw [headsT_each, h, allT_each, Bool.true_and]
theorem con_all (hd : Int) (P : Int → Bool) {t : Term} (hp : prop t = true) : (∀ x ∈ conF hd t, P x = true) ↔ allT (hdOk hd P) t 0 = true := by
  unfold conF
  rw [hp]
  exact heads_all hd P t
theorem con_sorted (hd : Int) {t : Term} (hp : prop t = true) : (conF hd t).Pairwise (· < ·) := by
  unfold conF
  rw [hp]
  exact (rel_all hd t (prop_ok hp)).1
theorem lastB_all : ∀ {l : List Int}, l.Pairwise (· < ·) → ∀ n, lastB l n = true ↔ ∀ x ∈ l, x < n := by
  intro l hl n
  rcases List.eq_nil_or_concat l with rfl | ⟨D, y, rfl⟩
  · simp [lastB]
  · have e : lastB (D.concat y) n = decide (y < n) := by simp [lastB]
    rw [e, decide_eq_true_eq]
    have hp := List.pairwise_append.1 (by simpa using hl)
    constructor
    · intro h x hx
      simp only [List.concat_eq_append, List.mem_append, List.mem_singleton] at hx
      rcases hx with hx | rfl
      · have := hp.2.2 x hx y (by simp)
        omega
      · exact h
    · exact fun h => h y (by simp)
theorem nil_all {l : List Int} : decide (l.length = 0) = true ↔ ∀ x ∈ l, (fun _ => false) x = true := by
  rw [decide_eq_true_eq, List.length_eq_zero_iff]
  constructor
  · rintro rfl x hx
    cases hx
  · intro h
    cases l with
    | nil => rfl
    | cons a r => exact absurd (h a (by simp)) (by simp)
/-- closed: no free variables, no metavariables, constants below the number. -/
theorem closed_law {t : Term} (hp : prop t = true) (n : Int) : closedF t n = nodesT n t 0 := by
  rw [Bool.eq_iff_iff]
  unfold closedF
  rw [Bool.and_eq_true, Bool.and_eq_true, nil_all, nil_all, con_all 1 _ hp, con_all 3 _ hp, lastB_all (con_sorted 2 hp),
    show (∀ x ∈ conF 2 t, x < n) ↔ (∀ x ∈ conF 2 t, (fun x => decide (x < n)) x = true) from by simp, con_all 2 _ hp,
    ← Bool.and_eq_true, ← Bool.and_eq_true, ← allT_and, ← allT_and, nodesT_all]
  rw [allT_congr (q := fun t i => !decide (t.k = 4) || nodeOk n t i)]
  intro t i
  unfold hdOk nodeOk
  by_cases h4 : t.k = 4
  · by_cases h1 : t.l = 1
    · simp [h4, h1]
      by_cases h : i ≤ t.n
      · simp [h]
      · simp [h]; omega
    · by_cases h3 : t.l = 3
      · simp [h4, h3]
      · by_cases h2 : t.l = 2
        · simp [h4, h2]
        · simp [h4, h1, h2, h3]
  · simp [h4]
end Go.Tr
/- The reference: formed, Formed. -/
namespace Go.Tr
open Go.Proofs
/-- A name stands among the constants. -/
def nameIn (l : List Dcl) (s : ByteArray) : Bool := l.any fun e => decide (e.s = s)
theorem nameIn_no {l : List Dcl} {s : ByteArray} (h : ∀ (i : Nat) e, l[i]? = some e → ¬ e.s = s) : nameIn l s = false := by
  unfold nameIn
  rw [List.any_eq_false]
  intro e he
  obtain ⟨i, hi⟩ := List.mem_iff_getElem?.1 he
  simpa using h i e hi
theorem nameIn_yes {l : List Dcl} {s : ByteArray} {i : Nat} {e : Dcl} (hi : l[i]? = some e) (h : e.s = s) : nameIn l s = true := by
  unfold nameIn
  rw [List.any_eq_true]
  exact ⟨e, List.mem_of_getElem? hi, by simpa using h⟩
theorem namesOf_in (l : List Dcl) (s : ByteArray) : (namesOf l (.s s)).getD false = nameIn l s := by
  unfold namesOf nameIn
  simp only
  split <;> simp_all
def formedR (B : List Dcl) (d : Dcl) : Bool := !nameIn B d.s && formedF B d
theorem cRFormed1 (B : List Dcl) (hB : ∀ e ∈ B, prop e.c = true) (hBl : B.length ≤ 1000) (d : Dcl) : CallSt Tryz.prog 51 [.c (.sl 6 72 (dcs B)), dv d] [] (fun r H' => r = .c (.bool (formedR B d)) ∧ H' = []) := by
  have h16 := c16 d.c
  rw [← prop_rprop] at h16
  have hnm : CallSt Tryz.prog 66 [.c (.str d.s)] [] (fun r H' => r = .c (.bool (nameF d.s)) ∧ H' = []) := cRIsNameS d.s
  have hbl := len_dcs B
  cases hn : nameF d.s with
  | false =>
    rw [show formedR B d = false by simp [formedR, formedF, hn]]
    rw [hn] at hnm
    obtain ⟨s, ⟨k, l, n, ts⟩, i⟩ := d
    refine call_pure (E := env 0) (fn := Tryz.f51) (c := bodyOf Tryz.f51) (env_ok 0) mixed (by kernel_rfl) (by kernel_rfl) (by kernel_rfl) (by kernel_rfl) (by kernel_rfl) (by kernel_rfl) rfl ?_
    conv => whnf
    try (refine draw_intro true (by kernel_rfl) ?_; conv => whnf)
    first | refine CallSt.use hnm [] trivial (by decide) rfl ?_ | refine CallPt.useS hnm [] trivial (by decide) rfl ?_
    rintro _ _ ⟨rfl, rfl⟩ _
    conv => whnf
    repeat (first | (refine And.intro rfl ?_; conv => whnf) | (refine And.intro (by decide) ?_; conv => whnf) | (refine draw_intro true (by kernel_rfl) ?_; conv => whnf) | (refine And.intro ⟨by omega, by omega⟩ ?_; conv => whnf) | (refine And.intro (by omega) ?_; conv => whnf) | (refine And.intro (fun _ => ⟨by omega, by omega⟩) ?_; conv => whnf) | (refine And.intro (of_decide_eq_true rfl) ?_; conv => whnf) | (refine And.intro (fun _ => ?_) (fun h => absurd h ?_); rotate_left; (focus (first | decide | (simp; done) | (simp [tcs]; done))); conv => whnf) | (refine And.intro (fun h => absurd h ?_) (fun _ => ?_); (focus (first | decide | (simp; done) | (simp [tcs]; done))); conv => whnf) | (intro _; conv => whnf))
    all_goals (first | rfl | exact ⟨rfl, rfl⟩ | exact ⟨rfl, rfl, rfl⟩)
  | true =>
  rw [hn] at hnm
  cases hp : prop d.c with
  | false =>
    rw [show formedR B d = false by simp [formedR, formedF, hp]]
    rw [hp] at h16
    clear hp
    obtain ⟨s, ⟨k, l, n, ts⟩, i⟩ := d
    rw [tv_mk] at h16
    refine call_pure (E := env 0) (fn := Tryz.f51) (c := bodyOf Tryz.f51) (env_ok 0) mixed (by kernel_rfl) (by kernel_rfl) (by kernel_rfl) (by kernel_rfl) (by kernel_rfl) (by kernel_rfl) rfl ?_
    conv => whnf
    try (refine draw_intro true (by kernel_rfl) ?_; conv => whnf)
    first | refine CallSt.use hnm [] trivial (by decide) rfl ?_ | refine CallPt.useS hnm [] trivial (by decide) rfl ?_
    rintro _ _ ⟨rfl, rfl⟩ _
    conv => whnf
    repeat (first | (refine And.intro rfl ?_; conv => whnf) | (refine And.intro (by decide) ?_; conv => whnf) | (refine draw_intro true (by kernel_rfl) ?_; conv => whnf) | (refine And.intro ⟨by omega, by omega⟩ ?_; conv => whnf) | (refine And.intro (by omega) ?_; conv => whnf) | (refine And.intro (fun _ => ⟨by omega, by omega⟩) ?_; conv => whnf) | (refine And.intro (of_decide_eq_true rfl) ?_; conv => whnf) | (refine And.intro (fun _ => ?_) (fun h => absurd h ?_); rotate_left; (focus (first | decide | (simp; done) | (simp [tcs]; done))); conv => whnf) | (refine And.intro (fun h => absurd h ?_) (fun _ => ?_); (focus (first | decide | (simp; done) | (simp [tcs]; done))); conv => whnf))
    try (refine draw_intro true (by kernel_rfl) ?_; conv => whnf)
    first | refine CallSt.use h16 [] trivial (by decide) rfl ?_ | refine CallPt.useS h16 [] trivial (by decide) rfl ?_
    rintro _ _ ⟨rfl, rfl⟩ _
    conv => whnf
    repeat (first | (refine And.intro rfl ?_; conv => whnf) | (refine And.intro (by decide) ?_; conv => whnf) | (refine draw_intro true (by kernel_rfl) ?_; conv => whnf) | (refine And.intro ⟨by omega, by omega⟩ ?_; conv => whnf) | (refine And.intro (by omega) ?_; conv => whnf) | (refine And.intro (fun _ => ⟨by omega, by omega⟩) ?_; conv => whnf) | (refine And.intro (of_decide_eq_true rfl) ?_; conv => whnf) | (refine And.intro (fun _ => ?_) (fun h => absurd h ?_); rotate_left; (focus (first | decide | (simp; done) | (simp [tcs]; done))); conv => whnf) | (refine And.intro (fun h => absurd h ?_) (fun _ => ?_); (focus (first | decide | (simp; done) | (simp [tcs]; done))); conv => whnf) | (intro _; conv => whnf))
    all_goals (first | rfl | exact ⟨rfl, rfl⟩ | exact ⟨rfl, rfl, rfl⟩)
  | true =>
  rw [hp] at h16
  have hcl := cRClosed d.c B.length hp
  rw [closed_law hp] at hcl
  cases hc : nodesT B.length d.c 0 with
  | false =>
    rw [show formedR B d = false by simp [formedR, formedF, hc]]
    rw [hc] at hcl
    clear hc hp
    obtain ⟨s, ⟨k, l, n, ts⟩, i⟩ := d
    rw [tv_mk] at h16 hcl
    rw [← hbl] at hcl
    refine call_pure (E := env 0) (fn := Tryz.f51) (c := bodyOf Tryz.f51) (env_ok 0) mixed (by kernel_rfl) (by kernel_rfl) (by kernel_rfl) (by kernel_rfl) (by kernel_rfl) (by kernel_rfl) rfl ?_
    conv => whnf
    try (refine draw_intro true (by kernel_rfl) ?_; conv => whnf)
    first | refine CallSt.use hnm [] trivial (by decide) rfl ?_ | refine CallPt.useS hnm [] trivial (by decide) rfl ?_
    rintro _ _ ⟨rfl, rfl⟩ _
    conv => whnf
    repeat (first | (refine And.intro rfl ?_; conv => whnf) | (refine And.intro (by decide) ?_; conv => whnf) | (refine draw_intro true (by kernel_rfl) ?_; conv => whnf) | (refine And.intro ⟨by omega, by omega⟩ ?_; conv => whnf) | (refine And.intro (by omega) ?_; conv => whnf) | (refine And.intro (fun _ => ⟨by omega, by omega⟩) ?_; conv => whnf) | (refine And.intro (of_decide_eq_true rfl) ?_; conv => whnf) | (refine And.intro (fun _ => ?_) (fun h => absurd h ?_); rotate_left; (focus (first | decide | (simp; done) | (simp [tcs]; done))); conv => whnf) | (refine And.intro (fun h => absurd h ?_) (fun _ => ?_); (focus (first | decide | (simp; done) | (simp [tcs]; done))); conv => whnf))
    try (refine draw_intro true (by kernel_rfl) ?_; conv => whnf)
    first | refine CallSt.use h16 [] trivial (by decide) rfl ?_ | refine CallPt.useS h16 [] trivial (by decide) rfl ?_
    rintro _ _ ⟨rfl, rfl⟩ _
    conv => whnf
    repeat (first | (refine And.intro rfl ?_; conv => whnf) | (refine And.intro (by decide) ?_; conv => whnf) | (refine draw_intro true (by kernel_rfl) ?_; conv => whnf) | (refine And.intro ⟨by omega, by omega⟩ ?_; conv => whnf) | (refine And.intro (by omega) ?_; conv => whnf) | (refine And.intro (fun _ => ⟨by omega, by omega⟩) ?_; conv => whnf) | (refine And.intro (of_decide_eq_true rfl) ?_; conv => whnf) | (refine And.intro (fun _ => ?_) (fun h => absurd h ?_); rotate_left; (focus (first | decide | (simp; done) | (simp [tcs]; done))); conv => whnf) | (refine And.intro (fun h => absurd h ?_) (fun _ => ?_); (focus (first | decide | (simp; done) | (simp [tcs]; done))); conv => whnf) | (intro _; conv => whnf))
    try (refine draw_intro true (by kernel_rfl) ?_; conv => whnf)
    first | refine CallSt.use hcl [] trivial (by decide) rfl ?_ | refine CallPt.useS hcl [] trivial (by decide) rfl ?_
    rintro _ _ ⟨rfl, rfl⟩ _
    conv => whnf
    repeat (first | (refine And.intro rfl ?_; conv => whnf) | (refine And.intro (by decide) ?_; conv => whnf) | (refine draw_intro true (by kernel_rfl) ?_; conv => whnf) | (refine And.intro ⟨by omega, by omega⟩ ?_; conv => whnf) | (refine And.intro (by omega) ?_; conv => whnf) | (refine And.intro (fun _ => ⟨by omega, by omega⟩) ?_; conv => whnf) | (refine And.intro (of_decide_eq_true rfl) ?_; conv => whnf) | (refine And.intro (fun _ => ?_) (fun h => absurd h ?_); rotate_left; (focus (first | decide | (simp; done) | (simp [tcs]; done))); conv => whnf) | (refine And.intro (fun h => absurd h ?_) (fun _ => ?_); (focus (first | decide | (simp; done) | (simp [tcs]; done))); conv => whnf) | (intro _; conv => whnf))
    all_goals (first | rfl | exact ⟨rfl, rfl⟩ | exact ⟨rfl, rfl, rfl⟩)
  | true =>
  rw [hc] at hcl
  have hs := c33 d.c 1 (prop_fm1 hp) (by omega)
  have hdl := dom_len d.c 1 (prop_fm1 hp)
  have hR : formedR B d = (!nameIn B d.s && (decide (0 ≤ d.i) && decide (d.i ≤ (domT d.c).1.length) && (kindT d.c || (targOk d.c && kindAt B (domT d.c).2.n)))) := by simp [formedR, formedF, hn, hp, hc]
  have hn0 := @targ_pos d.c hp
  have hn1 := @nodes_targ _ _ hc
  have hkat : ∀ e : Dcl, B[(domT d.c).2.n.toNat]? = some e → kindAt B (domT d.c).2.n = kindT e.c := fun e he => by unfold kindAt; rw [he]
  rw [hR]
  clear hR hc
  unfold kindT targOk at *
  generalize kindAt B (domT d.c).2.n = A at *
  generalize domT d.c = p at *
  clear hp hn
  obtain ⟨L, ⟨k2, l2, n2, ts2⟩⟩ := p
  obtain ⟨s, ⟨k, l, n, ts⟩, i⟩ := d
  dsimp only [Term.k, Term.l, Term.n, Term.ts] at *
  have hln := len_tcs L
  rw [tv_mk] at h16 hcl hs
  rw [tv_mk] at hs
  rw [← hbl] at hcl
  refine call_pure (E := env 0) (fn := Tryz.f51) (c := bodyOf Tryz.f51) (env_ok 0) mixed (by kernel_rfl) (by kernel_rfl) (by kernel_rfl) (by kernel_rfl) (by kernel_rfl) (by kernel_rfl) rfl ?_
  conv => whnf
  try (refine draw_intro true (by kernel_rfl) ?_; conv => whnf)
  first | refine CallSt.use hnm [] trivial (by decide) rfl ?_ | refine CallPt.useS hnm [] trivial (by decide) rfl ?_
  rintro _ _ ⟨rfl, rfl⟩ _
  conv => whnf
  repeat (first | (refine And.intro rfl ?_; conv => whnf) | (refine And.intro (by decide) ?_; conv => whnf) | (refine draw_intro true (by kernel_rfl) ?_; conv => whnf) | (refine And.intro ⟨by omega, by omega⟩ ?_; conv => whnf) | (refine And.intro (by omega) ?_; conv => whnf) | (refine And.intro (fun _ => ⟨by omega, by omega⟩) ?_; conv => whnf) | (refine And.intro (of_decide_eq_true rfl) ?_; conv => whnf) | (refine And.intro (fun _ => ?_) (fun h => absurd h ?_); rotate_left; (focus (first | decide | (simp; done) | (simp [tcs]; done))); conv => whnf) | (refine And.intro (fun h => absurd h ?_) (fun _ => ?_); (focus (first | decide | (simp; done) | (simp [tcs]; done))); conv => whnf))
  try (refine draw_intro true (by kernel_rfl) ?_; conv => whnf)
  first | refine CallSt.use h16 [] trivial (by decide) rfl ?_ | refine CallPt.useS h16 [] trivial (by decide) rfl ?_
  rintro _ _ ⟨rfl, rfl⟩ _
  conv => whnf
  repeat (first | (refine And.intro rfl ?_; conv => whnf) | (refine And.intro (by decide) ?_; conv => whnf) | (refine draw_intro true (by kernel_rfl) ?_; conv => whnf) | (refine And.intro ⟨by omega, by omega⟩ ?_; conv => whnf) | (refine And.intro (by omega) ?_; conv => whnf) | (refine And.intro (fun _ => ⟨by omega, by omega⟩) ?_; conv => whnf) | (refine And.intro (of_decide_eq_true rfl) ?_; conv => whnf) | (refine And.intro (fun _ => ?_) (fun h => absurd h ?_); rotate_left; (focus (first | decide | (simp; done) | (simp [tcs]; done))); conv => whnf) | (refine And.intro (fun h => absurd h ?_) (fun _ => ?_); (focus (first | decide | (simp; done) | (simp [tcs]; done))); conv => whnf) | (intro _; conv => whnf))
  try (refine draw_intro true (by kernel_rfl) ?_; conv => whnf)
  first | refine CallSt.use hcl [] trivial (by decide) rfl ?_ | refine CallPt.useS hcl [] trivial (by decide) rfl ?_
  rintro _ _ ⟨rfl, rfl⟩ _
  conv => whnf
  repeat (first | (refine And.intro rfl ?_; conv => whnf) | (refine And.intro (by decide) ?_; conv => whnf) | (refine draw_intro true (by kernel_rfl) ?_; conv => whnf) | (refine And.intro ⟨by omega, by omega⟩ ?_; conv => whnf) | (refine And.intro (by omega) ?_; conv => whnf) | (refine And.intro (fun _ => ⟨by omega, by omega⟩) ?_; conv => whnf) | (refine And.intro (of_decide_eq_true rfl) ?_; conv => whnf) | (refine And.intro (fun _ => ?_) (fun h => absurd h ?_); rotate_left; (focus (first | decide | (simp; done) | (simp [tcs]; done))); conv => whnf) | (refine And.intro (fun h => absurd h ?_) (fun _ => ?_); (focus (first | decide | (simp; done) | (simp [tcs]; done))); conv => whnf) | (intro _; conv => whnf))
  refine loop_intro (fun m tm H => ∃ j : Nat, B.length = m + j ∧ (∀ (q : Nat) e, q < j → B[q]? = some e → ¬ e.s = s) ∧
      tm = [(29, .c (.int .i64 (j))), (28, .c (.int .i64 ((dcs B).length))), (27, .c (.sl 6 72 (dcs B))), (0, .c (.sl 6 72 (dcs B))), (3, .ptr 0 0)] ∧ H = [.box [.c (.str s), .c (.int .i64 (k)), .c (.int .i64 (l)), .c (.int .i64 (n)), .c (.sl 4 48 (tcs ts)), .c (.int .i64 (i))]])
      B.length _ _ ⟨0, by omega, fun q e hq => absurd hq (by omega), rfl, rfl⟩ (Wk.sel [0] (by decide) (by first | decide | (show (0 : Nat) ≤ _; decide) | (show ∀ i, i < 0 → _; decide) | (show (1 : Nat) ≤ _; decide) | (show ∀ i, i < 1 → _; decide) | (show (2 : Nat) ≤ _; decide) | (show ∀ i, i < 2 → _; decide) | (show (3 : Nat) ≤ _; decide) | (show ∀ i, i < 3 → _; decide) | (show (4 : Nat) ≤ _; decide) | (show ∀ i, i < 4 → _; decide) | (show (5 : Nat) ≤ _; decide) | (show ∀ i, i < 5 → _; decide) | (show (6 : Nat) ≤ _; decide) | (show ∀ i, i < 6 → _; decide) | (show (7 : Nat) ≤ _; decide) | (show ∀ i, i < 7 → _; decide)) (by first | decide | (show (0 : Nat) ≤ _; decide) | (show ∀ i, i < 0 → _; decide) | (show (1 : Nat) ≤ _; decide) | (show ∀ i, i < 1 → _; decide) | (show (2 : Nat) ≤ _; decide) | (show ∀ i, i < 2 → _; decide) | (show (3 : Nat) ≤ _; decide) | (show ∀ i, i < 3 → _; decide) | (show (4 : Nat) ≤ _; decide) | (show ∀ i, i < 4 → _; decide) | (show (5 : Nat) ≤ _; decide) | (show ∀ i, i < 5 → _; decide) | (show (6 : Nat) ≤ _; decide) | (show ∀ i, i < 6 → _; decide) | (show (7 : Nat) ≤ _; decide) | (show ∀ i, i < 7 → _; decide)) ⟨rfl, trivial⟩ ⟨rfl, rfl, rfl, rfl, rfl, trivial⟩ rfl) ?_
  rintro m tm H ⟨j, hj, hall, rfl, rfl⟩
  conv => whnf
  refine ⟨fun hlt => ?_, fun hlt => ?_⟩
  · replace hlt : (j : Int) < (dcs B).length := of_decide_eq_true hlt
    obtain ⟨e, he⟩ : ∃ e, B[j]? = some e := ⟨B[j]'(by omega), List.getElem?_eq_getElem (by omega)⟩
    have hec := dcs_at he
    have hno : ∀ b, b = decide (e.s = s) → b = false → ∀ (q : Nat) x, q < j + 1 → B[q]? = some x → ¬ x.s = s := fun b hb hf q x hq hx => by
      by_cases hqj : q < j
      · exact hall q x hqj hx
      · obtain rfl : q = j := by omega
        rw [he] at hx
        injection hx with hx
        subst hx
        exact of_decide_eq_false (hb ▸ hf)
    have hyes : e.s = s → nameIn B s = true := fun h => nameIn_yes he h
    obtain ⟨s', ⟨k', l', n', us⟩, i'⟩ := e
    conv => whnf
    refine ⟨_, ⟨by omega, hec⟩, ?_⟩
    conv => whnf
    refine ⟨show 6 ≤ 6 by decide, ?_⟩
    conv => whnf
    refine ⟨fun hsq => ?_, fun hsq => ?_⟩
    · rw [hyes (of_decide_eq_true hsq)]
      repeat (first | (refine And.intro rfl ?_; conv => whnf) | (refine And.intro (by decide) ?_; conv => whnf) | (refine draw_intro true (by kernel_rfl) ?_; conv => whnf) | (refine And.intro ⟨by omega, by omega⟩ ?_; conv => whnf) | (refine And.intro (by omega) ?_; conv => whnf) | (refine And.intro (fun _ => ⟨by omega, by omega⟩) ?_; conv => whnf) | (refine And.intro (of_decide_eq_true rfl) ?_; conv => whnf) | (refine And.intro (fun _ => ?_) (fun h => absurd h ?_); rotate_left; (focus (first | decide | (simp; done) | (simp [tcs]; done))); conv => whnf) | (refine And.intro (fun h => absurd h ?_) (fun _ => ?_); (focus (first | decide | (simp; done) | (simp [tcs]; done))); conv => whnf) | (intro _; conv => whnf))
      all_goals (first | rfl | exact ⟨rfl, rfl⟩ | exact ⟨rfl, rfl, rfl⟩)
    · conv => whnf
      refine ⟨⟨by omega, by omega⟩, ?_⟩
      conv => whnf
      exact ⟨m - 1, _, _, by omega, ⟨j + 1, by omega, hno _ rfl hsq, rfl, rfl⟩, Wk.sel [0] (by decide) (by first | decide | (show (0 : Nat) ≤ _; decide) | (show ∀ i, i < 0 → _; decide) | (show (1 : Nat) ≤ _; decide) | (show ∀ i, i < 1 → _; decide) | (show (2 : Nat) ≤ _; decide) | (show ∀ i, i < 2 → _; decide) | (show (3 : Nat) ≤ _; decide) | (show ∀ i, i < 3 → _; decide) | (show (4 : Nat) ≤ _; decide) | (show ∀ i, i < 4 → _; decide) | (show (5 : Nat) ≤ _; decide) | (show ∀ i, i < 5 → _; decide) | (show (6 : Nat) ≤ _; decide) | (show ∀ i, i < 6 → _; decide) | (show (7 : Nat) ≤ _; decide) | (show ∀ i, i < 7 → _; decide)) (by first | decide | (show (0 : Nat) ≤ _; decide) | (show ∀ i, i < 0 → _; decide) | (show (1 : Nat) ≤ _; decide) | (show ∀ i, i < 1 → _; decide) | (show (2 : Nat) ≤ _; decide) | (show ∀ i, i < 2 → _; decide) | (show (3 : Nat) ≤ _; decide) | (show ∀ i, i < 3 → _; decide) | (show (4 : Nat) ≤ _; decide) | (show ∀ i, i < 4 → _; decide) | (show (5 : Nat) ≤ _; decide) | (show ∀ i, i < 5 → _; decide) | (show (6 : Nat) ≤ _; decide) | (show ∀ i, i < 6 → _; decide) | (show (7 : Nat) ≤ _; decide) | (show ∀ i, i < 7 → _; decide)) ⟨rfl, trivial⟩ ⟨rfl, rfl, rfl, rfl, rfl, trivial⟩ rfl⟩
  · replace hlt : ¬ (j : Int) < (dcs B).length := of_decide_eq_false hlt
    rw [nameIn_no (fun q e he => hall q e (by have := (List.getElem?_eq_some_iff.1 he).1; omega) he)]
    conv => whnf
    try (refine draw_intro true (by kernel_rfl) ?_; conv => whnf)
    first | refine CallSt.use hs [] trivial (by decide) rfl ?_ | refine CallPt.useS hs [] trivial (by decide) rfl ?_
    rintro _ _ ⟨rfl, rfl⟩ _
    conv => whnf
    refine ⟨fun hg => ?_, fun hg => ?_⟩
    · have hg' : (decide (k2 = 4) && decide (l2 = 2)) = true := by simpa using hg
      have g0 := hn0 hg'
      have g1 := hn1 hg'
      obtain ⟨e, he⟩ : ∃ e, B[n2.toNat]? = some e := ⟨B[n2.toNat]'(by omega), List.getElem?_eq_getElem (by omega)⟩
      have hf := cRFamily B n2 g0 e he (hB e (List.mem_of_getElem? he))
      have hA : A = kindT e.c := hkat e he
      rw [← hA] at hf
      have h4 : k2 = 4 := by simp at hg'; exact hg'.1
      have h2 : l2 = 2 := by simp at hg'; exact hg'.2
      subst h4 h2
      clear hkat hA hn0 hn1 hg hg' hB
      conv => whnf
      try (refine draw_intro true (by kernel_rfl) ?_; conv => whnf)
      first | refine CallSt.use hf [] trivial (by decide) rfl ?_ | refine CallPt.useS hf [] trivial (by decide) rfl ?_
      rintro _ _ ⟨rfl, rfl⟩ _
      conv => whnf
      cases A with
      | false =>
        repeat (first | (refine And.intro rfl ?_; conv => whnf) | (refine And.intro (by decide) ?_; conv => whnf) | (refine draw_intro true (by kernel_rfl) ?_; conv => whnf) | (refine And.intro ⟨by omega, by omega⟩ ?_; conv => whnf) | (refine And.intro (by omega) ?_; conv => whnf) | (refine And.intro (fun _ => ⟨by omega, by omega⟩) ?_; conv => whnf) | (refine And.intro (of_decide_eq_true rfl) ?_; conv => whnf) | (refine And.intro (fun _ => ?_) (fun h => absurd h ?_); rotate_left; (focus (first | decide | (simp; done) | (simp [tcs]; done))); conv => whnf) | (refine And.intro (fun h => absurd h ?_) (fun _ => ?_); (focus (first | decide | (simp; done) | (simp [tcs]; done))); conv => whnf) | (intro _; conv => whnf))
        refine ⟨congrArg (fun z => AV.c (.bool z)) ?_, rfl⟩
        simp
      | true =>
        repeat (first | (refine And.intro rfl ?_; conv => whnf) | (refine And.intro (by decide) ?_; conv => whnf) | (refine draw_intro true (by kernel_rfl) ?_; conv => whnf) | (refine And.intro ⟨by omega, by omega⟩ ?_; conv => whnf) | (refine And.intro (by omega) ?_; conv => whnf) | (refine And.intro (fun _ => ⟨by omega, by omega⟩) ?_; conv => whnf) | (refine And.intro (of_decide_eq_true rfl) ?_; conv => whnf) | (refine And.intro (fun _ => ?_) (fun h => absurd h ?_); rotate_left; (focus (first | decide | (simp; done) | (simp [tcs]; done))); conv => whnf) | (refine And.intro (fun h => absurd h ?_) (fun _ => ?_); (focus (first | decide | (simp; done) | (simp [tcs]; done))); conv => whnf) | (intro _; conv => whnf))
        refine ⟨congrArg (fun z => AV.c (.bool z)) ?_, rfl⟩
        rw [hln]
        simp
    · have hg' : (decide (k2 = 4) && decide (l2 = 2)) = false := by simpa using hg
      rw [Bool.and_eq_false_iff, decide_eq_false_iff_not, decide_eq_false_iff_not] at hg'
      conv => whnf
      refine ⟨fun hc => ?_, fun hc => ?_⟩
      · conv => whnf
        simp at hc
        have h2 : ¬ l2 = 2 := hg'.resolve_left (fun h => h hc)
        refine ⟨rfl, rfl, congrArg (fun z => AV.c (.bool z)) ?_, rfl⟩
        simp [hc, h2]
      · conv => whnf
        simp at hc
        repeat (first | (refine And.intro rfl ?_; conv => whnf) | (refine And.intro (by decide) ?_; conv => whnf) | (refine draw_intro true (by kernel_rfl) ?_; conv => whnf) | (refine And.intro ⟨by omega, by omega⟩ ?_; conv => whnf) | (refine And.intro (by omega) ?_; conv => whnf) | (refine And.intro (fun _ => ⟨by omega, by omega⟩) ?_; conv => whnf) | (refine And.intro (of_decide_eq_true rfl) ?_; conv => whnf) | (refine And.intro (fun _ => ?_) (fun h => absurd h ?_); rotate_left; (focus (first | decide | (simp; done) | (simp [tcs]; done))); conv => whnf) | (refine And.intro (fun h => absurd h ?_) (fun _ => ?_); (focus (first | decide | (simp; done) | (simp [tcs]; done))); conv => whnf) | (intro _; conv => whnf))
        refine ⟨congrArg (fun z => AV.c (.bool z)) ?_, rfl⟩
        rw [hln]
        by_cases h1 : k2 = 1
        · simp [h1]
        · simp [hc, h1]
/-- The reference's Formed is the program's Check. -/
theorem good_formed (sig : List Dcl) {n : Nat} {d : Dcl} (h : sig[n]? = some d) : goodD sig n = formedR (sig.take n) d := by
  unfold goodD formedR
  rw [h]
  simp only
  rw [namesOf_in]
theorem dcs_take' (sig : List Dcl) (n : Nat) : ((dcs sig).take ((n : Int).toNat)).drop (Int.toNat 0) = dcs (sig.take n) := by
  have h1 : (Int.toNat 0) = 0 := rfl
  rw [Int.toNat_natCast, h1, List.drop_zero]
  simp [dcs]
theorem cRFormed (sig : List Dcl) : CallSt Tryz.prog 27 [.c (.sl 6 72 (dcs sig))] [] (fun r H' => r = .c (.bool (checkB sig)) ∧ H' = []) := by
  have hbl := len_dcs sig
  by_cases hs : sig.length ≤ 100
  · have hcb : checkB sig = (List.range sig.length).all (goodD sig) := by unfold checkB; rw [decide_eq_true hs, Bool.true_and]
    rw [hcb]
    refine call_pure (E := env 0) (fn := Tryz.f27) (c := bodyOf Tryz.f27) (env_ok 0) mixed (by kernel_rfl) (by kernel_rfl) (by kernel_rfl) (by kernel_rfl) (by kernel_rfl) (by kernel_rfl) rfl ?_
    conv => whnf
    refine loop_intro (fun m tm H => ∃ n : Nat, sig.length = m + n ∧ (∀ i, i < n → goodD sig i = true) ∧ tm = [(3, .c (.int .i64 (n))), (0, .c (.sl 6 72 (dcs sig)))] ∧ H = [])
      sig.length _ _ ⟨0, by omega, fun i hi => absurd hi (by omega), rfl, rfl⟩ (Wk.sel [] (by decide) (by first | decide | (show (0 : Nat) ≤ _; decide) | (show ∀ i, i < 0 → _; decide) | (show (1 : Nat) ≤ _; decide) | (show ∀ i, i < 1 → _; decide) | (show (2 : Nat) ≤ _; decide) | (show ∀ i, i < 2 → _; decide) | (show (3 : Nat) ≤ _; decide) | (show ∀ i, i < 3 → _; decide) | (show (4 : Nat) ≤ _; decide) | (show ∀ i, i < 4 → _; decide) | (show (5 : Nat) ≤ _; decide) | (show ∀ i, i < 5 → _; decide) | (show (6 : Nat) ≤ _; decide) | (show ∀ i, i < 6 → _; decide) | (show (7 : Nat) ≤ _; decide) | (show ∀ i, i < 7 → _; decide)) (by first | decide | (show (0 : Nat) ≤ _; decide) | (show ∀ i, i < 0 → _; decide) | (show (1 : Nat) ≤ _; decide) | (show ∀ i, i < 1 → _; decide) | (show (2 : Nat) ≤ _; decide) | (show ∀ i, i < 2 → _; decide) | (show (3 : Nat) ≤ _; decide) | (show ∀ i, i < 3 → _; decide) | (show (4 : Nat) ≤ _; decide) | (show ∀ i, i < 4 → _; decide) | (show (5 : Nat) ≤ _; decide) | (show ∀ i, i < 5 → _; decide) | (show (6 : Nat) ≤ _; decide) | (show ∀ i, i < 6 → _; decide) | (show (7 : Nat) ≤ _; decide) | (show ∀ i, i < 7 → _; decide)) trivial ⟨rfl, rfl, trivial⟩ rfl) ?_
    rintro m tm H ⟨n, hm, hall, rfl, rfl⟩
    conv => whnf
    intro _
    conv => whnf
    intro _
    conv => whnf
    refine ⟨fun hlt => ?_, fun hlt => ?_⟩
    · have hlt' : (n : Int) < (dcs sig).length := by simp at hlt; omega
      obtain ⟨d, hd⟩ : ∃ d, sig[n]? = some d := ⟨sig[n]'(by omega), List.getElem?_eq_getElem (by omega)⟩
      have hdc := dcs_at hd
      have hf := cRFormed1 (sig.take n) (good_prop hall) (by simp; omega) d
      rw [← good_formed sig hd, ← dcs_take'] at hf
      have hno : goodD sig n = false → (List.range sig.length).all (goodD sig) = false := fun h => by
        rw [List.all_eq_false]
        exact ⟨n, by simp; omega, by rw [h]; simp⟩
      have hnx : goodD sig n = true → ∀ i, i < n + 1 → goodD sig i = true := fun h i hi => by
        by_cases hij : i < n
        · exact hall i hij
        · obtain rfl : i = n := by omega
          exact h
      obtain ⟨s, ⟨k, l, x, ts⟩, i⟩ := d
      dsimp only [dv, Term.k, Term.l, Term.n, Term.ts] at hf
      conv => whnf
      refine draw_intro true (by kernel_rfl) ?_
      conv => whnf
      refine ⟨⟨by omega, by omega, by omega⟩, ?_⟩
      conv => whnf
      refine ⟨_, ⟨by omega, hdc⟩, ?_⟩
      conv => whnf
      refine ⟨show 6 ≤ 6 by decide, ?_⟩
      conv => whnf
      try (refine draw_intro true (by kernel_rfl) ?_; conv => whnf)
      first | refine CallSt.use hf [] trivial (by decide) rfl ?_ | refine CallPt.useS hf [] trivial (by decide) rfl ?_
      rintro _ _ ⟨rfl, rfl⟩ _
      conv => whnf
      generalize goodD sig n = b at *
      cases b with
      | false =>
        rw [hno rfl]
        repeat (first | (refine And.intro rfl ?_; conv => whnf) | (refine And.intro (by decide) ?_; conv => whnf) | (refine draw_intro true (by kernel_rfl) ?_; conv => whnf) | (refine And.intro ⟨by omega, by omega⟩ ?_; conv => whnf) | (refine And.intro (by omega) ?_; conv => whnf) | (refine And.intro (fun _ => ⟨by omega, by omega⟩) ?_; conv => whnf) | (refine And.intro (of_decide_eq_true rfl) ?_; conv => whnf) | (refine And.intro (fun _ => ?_) (fun h => absurd h ?_); rotate_left; (focus (first | decide | (simp; done) | (simp [tcs]; done))); conv => whnf) | (refine And.intro (fun h => absurd h ?_) (fun _ => ?_); (focus (first | decide | (simp; done) | (simp [tcs]; done))); conv => whnf) | (intro _; conv => whnf))
        all_goals (first | rfl | exact ⟨rfl, rfl⟩ | exact ⟨rfl, rfl, rfl⟩)
      | true =>
        (refine ⟨fun h => absurd h ?_, fun _ => ?_⟩; (focus (first | decide | (simp; done) | (simp [tcs]; done))); conv => whnf)
        refine ⟨⟨by omega, by omega⟩, ?_⟩
        conv => whnf
        exact ⟨m - 1, _, _, by omega, ⟨n + 1, by omega, hnx rfl, rfl, rfl⟩, Wk.sel [] (by decide) (by first | decide | (show (0 : Nat) ≤ _; decide) | (show ∀ i, i < 0 → _; decide) | (show (1 : Nat) ≤ _; decide) | (show ∀ i, i < 1 → _; decide) | (show (2 : Nat) ≤ _; decide) | (show ∀ i, i < 2 → _; decide) | (show (3 : Nat) ≤ _; decide) | (show ∀ i, i < 3 → _; decide) | (show (4 : Nat) ≤ _; decide) | (show ∀ i, i < 4 → _; decide) | (show (5 : Nat) ≤ _; decide) | (show ∀ i, i < 5 → _; decide) | (show (6 : Nat) ≤ _; decide) | (show ∀ i, i < 6 → _; decide) | (show (7 : Nat) ≤ _; decide) | (show ∀ i, i < 7 → _; decide)) (by first | decide | (show (0 : Nat) ≤ _; decide) | (show ∀ i, i < 0 → _; decide) | (show (1 : Nat) ≤ _; decide) | (show ∀ i, i < 1 → _; decide) | (show (2 : Nat) ≤ _; decide) | (show ∀ i, i < 2 → _; decide) | (show (3 : Nat) ≤ _; decide) | (show ∀ i, i < 3 → _; decide) | (show (4 : Nat) ≤ _; decide) | (show ∀ i, i < 4 → _; decide) | (show (5 : Nat) ≤ _; decide) | (show ∀ i, i < 5 → _; decide) | (show (6 : Nat) ≤ _; decide) | (show ∀ i, i < 6 → _; decide) | (show (7 : Nat) ≤ _; decide) | (show ∀ i, i < 7 → _; decide)) trivial ⟨rfl, rfl, trivial⟩ rfl⟩
    · have hge : ¬ (n : Int) < (dcs sig).length := fun h => by
        rw [decide_eq_true h, decide_eq_true (show ((dcs sig).length : Int) ≤ 100 by omega)] at hlt
        cases hlt
      have hall' : (List.range sig.length).all (goodD sig) = decide (((dcs sig).length : Int) ≤ 100) := by
        rw [decide_eq_true (show ((dcs sig).length : Int) ≤ 100 by omega), List.all_eq_true]
        intro i hi
        exact hall i (by simp at hi; omega)
      rw [hall']
      conv => whnf
      repeat (first | (refine And.intro rfl ?_; conv => whnf) | (refine And.intro (by decide) ?_; conv => whnf) | (refine draw_intro true (by kernel_rfl) ?_; conv => whnf) | (refine And.intro ⟨by omega, by omega⟩ ?_; conv => whnf) | (refine And.intro (by omega) ?_; conv => whnf) | (refine And.intro (fun _ => ⟨by omega, by omega⟩) ?_; conv => whnf) | (refine And.intro (of_decide_eq_true rfl) ?_; conv => whnf) | (refine And.intro (fun _ => ?_) (fun h => absurd h ?_); rotate_left; (focus (first | decide | (simp; done) | (simp [tcs]; done))); conv => whnf) | (refine And.intro (fun h => absurd h ?_) (fun _ => ?_); (focus (first | decide | (simp; done) | (simp [tcs]; done))); conv => whnf) | (intro _; conv => whnf))
      all_goals (first | rfl | exact ⟨rfl, rfl⟩ | exact ⟨rfl, rfl, rfl⟩)
  · rw [show checkB sig = false by unfold checkB; rw [decide_eq_false hs]; rfl]
    refine call_pure (E := env 0) (fn := Tryz.f27) (c := bodyOf Tryz.f27) (env_ok 0) mixed (by kernel_rfl) (by kernel_rfl) (by kernel_rfl) (by kernel_rfl) (by kernel_rfl) (by kernel_rfl) rfl ?_
    conv => whnf
    refine loop_intro (fun m tm H => tm = [(3, .c (.int .i64 (0))), (0, .c (.sl 6 72 (dcs sig)))] ∧ H = []) 0 _ _ ⟨rfl, rfl⟩ (Wk.sel [] (by decide) (by first | decide | (show (0 : Nat) ≤ _; decide) | (show ∀ i, i < 0 → _; decide) | (show (1 : Nat) ≤ _; decide) | (show ∀ i, i < 1 → _; decide) | (show (2 : Nat) ≤ _; decide) | (show ∀ i, i < 2 → _; decide) | (show (3 : Nat) ≤ _; decide) | (show ∀ i, i < 3 → _; decide) | (show (4 : Nat) ≤ _; decide) | (show ∀ i, i < 4 → _; decide) | (show (5 : Nat) ≤ _; decide) | (show ∀ i, i < 5 → _; decide) | (show (6 : Nat) ≤ _; decide) | (show ∀ i, i < 6 → _; decide) | (show (7 : Nat) ≤ _; decide) | (show ∀ i, i < 7 → _; decide)) (by first | decide | (show (0 : Nat) ≤ _; decide) | (show ∀ i, i < 0 → _; decide) | (show (1 : Nat) ≤ _; decide) | (show ∀ i, i < 1 → _; decide) | (show (2 : Nat) ≤ _; decide) | (show ∀ i, i < 2 → _; decide) | (show (3 : Nat) ≤ _; decide) | (show ∀ i, i < 3 → _; decide) | (show (4 : Nat) ≤ _; decide) | (show ∀ i, i < 4 → _; decide) | (show (5 : Nat) ≤ _; decide) | (show ∀ i, i < 5 → _; decide) | (show (6 : Nat) ≤ _; decide) | (show ∀ i, i < 6 → _; decide) | (show (7 : Nat) ≤ _; decide) | (show ∀ i, i < 7 → _; decide)) trivial ⟨rfl, rfl, trivial⟩ rfl) ?_
    rintro m tm H ⟨rfl, rfl⟩
    conv => whnf
    intro _
    conv => whnf
    intro _
    conv => whnf
    refine ⟨fun hlt => ?_, fun hlt => ?_⟩
    · exfalso
      simp at hlt
      omega
    · conv => whnf
      intro _
      conv => whnf
      rw [show decide (((dcs sig).length : Int) ≤ 100) = false from decide_eq_false (by omega)]
      repeat (first | (refine And.intro rfl ?_; conv => whnf) | (refine And.intro (by decide) ?_; conv => whnf) | (refine draw_intro true (by kernel_rfl) ?_; conv => whnf) | (refine And.intro ⟨by omega, by omega⟩ ?_; conv => whnf) | (refine And.intro (by omega) ?_; conv => whnf) | (refine And.intro (fun _ => ⟨by omega, by omega⟩) ?_; conv => whnf) | (refine And.intro (of_decide_eq_true rfl) ?_; conv => whnf) | (refine And.intro (fun _ => ?_) (fun h => absurd h ?_); rotate_left; (focus (first | decide | (simp; done) | (simp [tcs]; done))); conv => whnf) | (refine And.intro (fun h => absurd h ?_) (fun _ => ?_); (focus (first | decide | (simp; done) | (simp [tcs]; done))); conv => whnf) | (intro _; conv => whnf))
      all_goals (first | rfl | exact ⟨rfl, rfl⟩ | exact ⟨rfl, rfl, rfl⟩)
end Go.Tr
/- cert: digits of a number. -/
namespace Go.Tr
open Go.Proofs
/-- An int's last byte. -/
def u8 (x : Int) : UInt8 := UInt8.ofNat (x % 256).toNat
theorem u8_wrap (x : Int) : IntKind.u8.wrap x = ((u8 x).toNat : Int) := by
  have h1 : IntKind.u8.wrap x = x % 256 := by
    unfold IntKind.wrap
    simp [IntKind.bits, IntKind.signed]
  have h2 : 0 ≤ x % 256 := Int.emod_nonneg _ (by decide)
  have h3 : x % 256 < 256 := Int.emod_lt_of_pos _ (by decide)
  rw [h1, u8]
  simp
  omega
theorem bR_app (l m : List UInt8) : bR (l ++ m) = bR l ++ bR m := by simp [bR]
theorem bR_snoc (l : List UInt8) (x : Int) : bR l ++ [[CV.int .u8 (IntKind.u8.wrap x)]] = bR (l ++ [u8 x]) := by
  rw [bR_app, u8_wrap]
  rfl
/-- The bytes of a number. -/
def digs (n : Nat) : List UInt8 := if 127 < n then u8 (128 + (n : Int) % 128) :: digs (n / 128) else [u8 n]
theorem digs_big {n : Nat} (h : 127 < n) : digs n = u8 (128 + (n : Int) % 128) :: digs (n / 128) := by rw [digs, if_pos h]
theorem digs_small {n : Nat} (h : ¬ 127 < n) : digs n = [u8 n] := by rw [digs, if_neg h]
theorem digs_pos (n : Nat) : 0 < (digs n).length := by
  rw [digs]
  split <;> simp
theorem digs_len : ∀ (k n : Nat), n < 128 ^ (k + 1) → (digs n).length ≤ k + 1
  | 0, n, h => by
    rw [digs_small (by simp at h; omega)]
    simp
  | k + 1, n, h => by
    by_cases hb : 127 < n
    · rw [digs_big hb, List.length_cons]
      have := digs_len k (n / 128) (by rw [Nat.pow_succ] at h; omega)
      omega
    · rw [digs_small hb]
      simp
theorem cNumber (l : List UInt8) (n : Nat) (hl : l.length + (digs n).length ≤ 1000000000) (hn : n ≤ 4611686018427387904) :
    CallSt Tryz.prog 46 [.own 0, .c (.int .i64 (n))] [.row 5 1 1 (bR l)] (fun r H' => r = .own 1 ∧ H' = [.dead, .row 5 1 1 (bR (l ++ digs n))]) := by
  refine call_wk (E := env 1) (fn := Tryz.f46) (c := bodyOf Tryz.f46) (env_ok 1) mixed (by kernel_rfl) (by kernel_rfl) (by kernel_rfl) (by kernel_rfl) (by kernel_rfl) (by kernel_rfl) rfl false ?_
  conv => whnf
  repeat (first | (refine And.intro rfl ?_; conv => whnf) | (refine And.intro (by decide) ?_; conv => whnf) | (refine draw_intro true (by kernel_rfl) ?_; conv => whnf) | (refine And.intro ⟨by omega, by omega⟩ ?_; conv => whnf) | (refine And.intro (by omega) ?_; conv => whnf) | (refine And.intro (fun _ => ⟨by omega, by omega⟩) ?_; conv => whnf) | (refine And.intro (of_decide_eq_true rfl) ?_; conv => whnf) | (refine And.intro (fun _ => ?_) (fun h => absurd h ?_); rotate_left; (focus (first | decide | (simp; done) | (simp [tcs]; done))); conv => whnf) | (refine And.intro (fun h => absurd h ?_) (fun _ => ?_); (focus (first | decide | (simp; done) | (simp [tcs]; done))); conv => whnf) | (intro _; conv => whnf))
  refine loop_intro (fun m tm H => ∃ (l' : List UInt8), m ≤ n ∧ l' ++ digs m = l ++ digs n ∧ tm = [(1, .c (.int .i64 (m))), (0, .own 1)] ∧ H = [.dead, .row 5 1 1 (bR l')])
    n _ _ ⟨l, by omega, rfl, rfl, rfl⟩ ?_ ?_
  · refine Wk.trans (Wk.mvtmp 0 0 5 1 1 (bR l) rfl rfl rfl) ?_
    exact Wk.sel [0, 1] (by decide) (by first | decide | (show (0 : Nat) ≤ _; decide) | (show ∀ i, i < 0 → _; decide) | (show (1 : Nat) ≤ _; decide) | (show ∀ i, i < 1 → _; decide) | (show (2 : Nat) ≤ _; decide) | (show ∀ i, i < 2 → _; decide) | (show (3 : Nat) ≤ _; decide) | (show ∀ i, i < 3 → _; decide) | (show (4 : Nat) ≤ _; decide) | (show ∀ i, i < 4 → _; decide) | (show (5 : Nat) ≤ _; decide) | (show ∀ i, i < 5 → _; decide) | (show (6 : Nat) ≤ _; decide) | (show ∀ i, i < 6 → _; decide) | (show (7 : Nat) ≤ _; decide) | (show ∀ i, i < 7 → _; decide)) (by first | decide | (show (0 : Nat) ≤ _; decide) | (show ∀ i, i < 0 → _; decide) | (show (1 : Nat) ≤ _; decide) | (show ∀ i, i < 1 → _; decide) | (show (2 : Nat) ≤ _; decide) | (show ∀ i, i < 2 → _; decide) | (show (3 : Nat) ≤ _; decide) | (show ∀ i, i < 3 → _; decide) | (show (4 : Nat) ≤ _; decide) | (show ∀ i, i < 4 → _; decide) | (show (5 : Nat) ≤ _; decide) | (show ∀ i, i < 5 → _; decide) | (show (6 : Nat) ≤ _; decide) | (show ∀ i, i < 6 → _; decide) | (show (7 : Nat) ≤ _; decide) | (show ∀ i, i < 7 → _; decide)) ⟨rfl, rfl, trivial⟩ ⟨rfl, rfl, trivial⟩ rfl
  rintro k tm H ⟨l', hk, hd, rfl, rfl⟩
  have hpk := digs_pos k
  have hll : l'.length + (digs k).length ≤ 1000000000 := by rw [← List.length_append, hd, List.length_append]; exact hl
  have hbl := bR_len l'
  have hb1 : ((bR l').length + 1) * 1 ≤ 140737488355328 := by omega
  have hb2 : (bR l').length + 1 ≤ 9223372036854775807 := by omega
  conv => whnf
  refine ⟨fun hc => ?_, fun hc => ?_⟩
  · replace hc : (127 : Int) < k := of_decide_eq_true hc
    have h1 : (k : Int).tmod 128 = (k : Int) % 128 := Int.tmod_eq_emod_of_nonneg (by omega)
    have h2 : (k : Int).tdiv 128 = ((k / 128 : Nat) : Int) := by rw [Int.tdiv_eq_ediv_of_nonneg (by omega)]; omega
    rw [digs_big (by omega)] at hd
    conv => whnf
    refine ⟨show (128 : Int) ≠ 0 by decide, ?_⟩
    conv => whnf
    rw [h1]
    refine ⟨⟨by omega, by omega⟩, ?_⟩
    conv => whnf
    repeat (first | (refine And.intro rfl ?_; conv => whnf) | (refine And.intro (by decide) ?_; conv => whnf) | (refine draw_intro true (by kernel_rfl) ?_; conv => whnf) | (refine And.intro ⟨by omega, by omega⟩ ?_; conv => whnf) | (refine And.intro (by omega) ?_; conv => whnf) | (refine And.intro (fun _ => ⟨by omega, by omega⟩) ?_; conv => whnf) | (refine And.intro (of_decide_eq_true rfl) ?_; conv => whnf) | (refine And.intro (fun _ => ?_) (fun h => absurd h ?_); rotate_left; (focus (first | decide | (simp; done) | (simp [tcs]; done))); conv => whnf) | (refine And.intro (fun h => absurd h ?_) (fun _ => ?_); (focus (first | decide | (simp; done) | (simp [tcs]; done))); conv => whnf) | (intro _; conv => whnf))
    rw [h2]
    refine ⟨⟨by decide, by omega, by omega⟩, ?_⟩
    conv => whnf
    refine ⟨k / 128, _, _, by omega, ⟨l' ++ [u8 (128 + (k : Int) % 128)], by omega, by rw [← hd]; simp, rfl, rfl⟩, Wk.sel [0, 3] (by decide) (by decide) (by decide) ⟨rfl, ?_, trivial⟩ ⟨rfl, rfl, trivial⟩ rfl⟩
    rw [← bR_snoc]
    rfl
  · replace hc : ¬ (127 : Int) < k := of_decide_eq_false hc
    rw [digs_small (by omega)] at hd
    conv => whnf
    repeat (first | (refine And.intro rfl ?_; conv => whnf) | (refine And.intro (by decide) ?_; conv => whnf) | (refine draw_intro true (by kernel_rfl) ?_; conv => whnf) | (refine And.intro ⟨by omega, by omega⟩ ?_; conv => whnf) | (refine And.intro (by omega) ?_; conv => whnf) | (refine And.intro (fun _ => ⟨by omega, by omega⟩) ?_; conv => whnf) | (refine And.intro (of_decide_eq_true rfl) ?_; conv => whnf) | (refine And.intro (fun _ => ?_) (fun h => absurd h ?_); rotate_left; (focus (first | decide | (simp; done) | (simp [tcs]; done))); conv => whnf) | (refine And.intro (fun h => absurd h ?_) (fun _ => ?_); (focus (first | decide | (simp; done) | (simp [tcs]; done))); conv => whnf) | (intro _; conv => whnf))
    refine ⟨[(4, .own 1)], [.dead, .row 5 1 1 (bR (l ++ digs n))], Wk.sel [0, 3] (by decide) (by decide) (by decide) ⟨rfl, ?_, trivial⟩ ⟨rfl, trivial⟩ rfl, ?_⟩
    · rw [← hd, ← bR_snoc]
      rfl
    conv => whnf
    exact ⟨rfl, rfl⟩
end Go.Tr
/- cert: a list of numbers, a node's key. -/
namespace Go.Tr
open Go.Proofs
/-- Numbers as cells. -/
def rowN (L : List Nat) : List (List CV) := L.map fun (n : Nat) => [CV.int .i64 (n : Int)]
theorem rowN_len (L : List Nat) : (rowN L).length = L.length := by simp [rowN]
theorem rowN_at {L : List Nat} {i n : Nat} (h : L[i]? = some n) : (rowN L)[i]? = some [.int .i64 (n : Int)] := by simp [rowN, h]
/-- A list's bytes, by the bytes of an element. -/
def lstB (g : Nat → List UInt8) (L : List Nat) : List UInt8 := digs L.length ++ L.flatMap g
theorem cList (f : FuncId) (g : Nat → List UInt8) (l : List UInt8) (L : List Nat) (hb : ∀ x ∈ L, (g x).length ≤ 9) (hl : l.length + 9 + 9 * L.length ≤ 900000000)
    (hf : ∀ (l' : List UInt8) (x : Nat), x ∈ L → l'.length ≤ 900000000 → CallSt Tryz.prog f [.own 0, .c (.int .i64 (x))] [.row 5 1 1 (bR l')] (fun r H' => r = .own 1 ∧ H' = [.dead, .row 5 1 1 (bR (l' ++ g x))])) :
    CallSt Tryz.prog 47 [.own 0, .c (.sl 1 8 (rowN L)), .fn f []] [.row 5 1 1 (bR l)] (fun r H' => r = .own 1 ∧ H' = [.dead, .row 5 1 1 (bR (l ++ lstB g L))]) := by
  have hrl := rowN_len L
  have hdl : (digs L.length).length ≤ 9 := digs_len 8 _ (by omega)
  have hn := cNumber l L.length (by omega) (by omega)
  rw [← hrl] at hn
  refine call_wk (E := envK 1) (fn := Tryz.f47) (c := bodyOf Tryz.f47) (envK_ok 1) mixed (by kernel_rfl) (by kernel_rfl) (by kernel_rfl) (by kernel_rfl) (by kernel_rfl) (by kernel_rfl) rfl false ?_
  conv => whnf
  repeat (first | (refine And.intro rfl ?_; conv => whnf) | (refine And.intro (by decide) ?_; conv => whnf) | (refine draw_intro true (by kernel_rfl) ?_; conv => whnf) | (refine And.intro ⟨by omega, by omega⟩ ?_; conv => whnf) | (refine And.intro (by omega) ?_; conv => whnf) | (refine And.intro (fun _ => ⟨by omega, by omega⟩) ?_; conv => whnf) | (refine And.intro (of_decide_eq_true rfl) ?_; conv => whnf) | (refine And.intro (fun _ => ?_) (fun h => absurd h ?_); rotate_left; (focus (first | decide | (simp; done) | (simp [tcs]; done))); conv => whnf) | (refine And.intro (fun h => absurd h ?_) (fun _ => ?_); (focus (first | decide | (simp; done) | (simp [tcs]; done))); conv => whnf) | (intro _; conv => whnf))
  try (refine draw_intro true (by kernel_rfl) ?_; conv => whnf)
  first | refine CallSt.use hn [0] ⟨rfl, trivial⟩ (by decide) rfl ?_ | refine CallPt.useS hn [0] ⟨rfl, trivial⟩ (by decide) rfl ?_
  rintro _ _ ⟨rfl, rfl⟩ _
  conv => whnf
  repeat (first | (refine And.intro rfl ?_; conv => whnf) | (refine And.intro (by decide) ?_; conv => whnf) | (refine draw_intro true (by kernel_rfl) ?_; conv => whnf) | (refine And.intro ⟨by omega, by omega⟩ ?_; conv => whnf) | (refine And.intro (by omega) ?_; conv => whnf) | (refine And.intro (fun _ => ⟨by omega, by omega⟩) ?_; conv => whnf) | (refine And.intro (of_decide_eq_true rfl) ?_; conv => whnf) | (refine And.intro (fun _ => ?_) (fun h => absurd h ?_); rotate_left; (focus (first | decide | (simp; done) | (simp [tcs]; done))); conv => whnf) | (refine And.intro (fun h => absurd h ?_) (fun _ => ?_); (focus (first | decide | (simp; done) | (simp [tcs]; done))); conv => whnf) | (intro _; conv => whnf))
  refine loop_intro (fun m tm H => ∃ (j : Nat), L.length = m + j ∧ tm = [(15, .c (.int .i64 (j))), (14, .c (.int .i64 ((rowN L).length))), (13, .c (.sl 1 8 (rowN L))), (0, .own 1), (2, .fn f [])] ∧ H = [.dead, .row 5 1 1 (bR (l ++ (digs (rowN L).length ++ (L.take j).flatMap g)))])
    L.length _ _ ⟨0, by omega, rfl, rfl⟩ ?_ ?_
  · refine Wk.sel [0, 1] (by decide) (by decide) (by decide) ⟨rfl, ?_, trivial⟩ ⟨rfl, rfl, rfl, rfl, rfl, trivial⟩ rfl
    exact congrArg (fun z => some (Ent.row 5 1 1 (bR z))) (by simp)
  rintro m tm H ⟨j, hj, rfl, rfl⟩
  conv => whnf
  refine ⟨fun hc => ?_, fun hc => ?_⟩
  · replace hc : (j : Int) < (rowN L).length := of_decide_eq_true hc
    obtain ⟨x, hx⟩ : ∃ x, L[j]? = some x := ⟨L[j]'(by omega), List.getElem?_eq_getElem (by omega)⟩
    have hxr := rowN_at hx
    have hfl : ((L.take j).flatMap g).length ≤ 9 * j := by
      have : ∀ (M : List Nat), (∀ x ∈ M, (g x).length ≤ 9) → (M.flatMap g).length ≤ 9 * M.length := fun M => by
        induction M with
        | nil => intro _; simp
        | cons a M ih =>
          intro h
          have := ih fun x hx => h x (by simp [hx])
          have := h a (by simp)
          simp only [List.flatMap_cons, List.length_append, List.length_cons]
          omega
      have h2 := this (L.take j) fun x hx => hb x (List.mem_of_mem_take hx)
      rw [List.length_take] at h2
      omega
    have hfx := hf (l ++ (digs (rowN L).length ++ (L.take j).flatMap g)) x (List.mem_of_getElem? hx) (by
      simp only [List.length_append]
      rw [hrl]
      omega)
    conv => whnf
    refine ⟨_, ⟨by omega, by simpa using hxr⟩, ?_⟩
    conv => whnf
    refine ⟨Nat.le_refl 1, ?_⟩
    conv => whnf
    try (refine draw_intro true (by kernel_rfl) ?_; conv => whnf)
    first | refine CallSt.use hfx [1] ⟨rfl, trivial⟩ (by decide) rfl ?_ | refine CallPt.useS hfx [1] ⟨rfl, trivial⟩ (by decide) rfl ?_
    rintro _ _ ⟨rfl, rfl⟩ _
    conv => whnf
    repeat (first | (refine And.intro rfl ?_; conv => whnf) | (refine And.intro (by decide) ?_; conv => whnf) | (refine draw_intro true (by kernel_rfl) ?_; conv => whnf) | (refine And.intro ⟨by omega, by omega⟩ ?_; conv => whnf) | (refine And.intro (by omega) ?_; conv => whnf) | (refine And.intro (fun _ => ⟨by omega, by omega⟩) ?_; conv => whnf) | (refine And.intro (of_decide_eq_true rfl) ?_; conv => whnf) | (refine And.intro (fun _ => ?_) (fun h => absurd h ?_); rotate_left; (focus (first | decide | (simp; done) | (simp [tcs]; done))); conv => whnf) | (refine And.intro (fun h => absurd h ?_) (fun _ => ?_); (focus (first | decide | (simp; done) | (simp [tcs]; done))); conv => whnf) | (intro _; conv => whnf))
    refine ⟨m - 1, _, _, by omega, ⟨j + 1, by omega, rfl, rfl⟩, Wk.sel [0, 2] (by decide) (by decide) (by decide) ⟨rfl, ?_, trivial⟩ ⟨rfl, rfl, rfl, rfl, rfl, trivial⟩ rfl⟩
    refine congrArg (fun z => some (Ent.row 5 1 1 (bR z))) ?_
    rw [List.take_add_one, hx]
    simp
  · replace hc : ¬ (j : Int) < (rowN L).length := of_decide_eq_false hc
    obtain rfl : j = L.length := by omega
    conv => whnf
    repeat (first | (refine And.intro rfl ?_; conv => whnf) | (refine And.intro (by decide) ?_; conv => whnf) | (refine draw_intro true (by kernel_rfl) ?_; conv => whnf) | (refine And.intro ⟨by omega, by omega⟩ ?_; conv => whnf) | (refine And.intro (by omega) ?_; conv => whnf) | (refine And.intro (fun _ => ⟨by omega, by omega⟩) ?_; conv => whnf) | (refine And.intro (of_decide_eq_true rfl) ?_; conv => whnf) | (refine And.intro (fun _ => ?_) (fun h => absurd h ?_); rotate_left; (focus (first | decide | (simp; done) | (simp [tcs]; done))); conv => whnf) | (refine And.intro (fun h => absurd h ?_) (fun _ => ?_); (focus (first | decide | (simp; done) | (simp [tcs]; done))); conv => whnf) | (intro _; conv => whnf))
    refine ⟨[(6, .own 1)], [.dead, .row 5 1 1 (bR (l ++ lstB g L))], Wk.sel [0, 1] (by decide) (by decide) (by decide) ⟨rfl, ?_, trivial⟩ ⟨rfl, trivial⟩ rfl, ?_⟩
    · refine congrArg (fun z => some (Ent.row 5 1 1 (bR z))) ?_
      rw [hrl, List.take_length]
      rfl
    conv => whnf
    exact ⟨rfl, rfl⟩
end Go.Tr
/- cert: a node's key. -/
namespace Go.Tr
open Go.Proofs
theorem digs9 {n : Nat} (h : n ≤ 4611686018427387904) : (digs n).length ≤ 9 := digs_len 8 n (by omega)
/-- A node's key. -/
def keyB (t : Term) (L : List Nat) : List UInt8 := [u8 (t.k + 8 * t.l)] ++ digs t.n.toNat ++ lstB digs L
theorem cListN (l : List UInt8) (L : List Nat) (hb : ∀ x ∈ L, x ≤ 4611686018427387904) (hl : l.length + 9 + 9 * L.length ≤ 900000000) :
    CallSt Tryz.prog 47 [.own 0, .c (.sl 1 8 (rowN L)), .fn 46 []] [.row 5 1 1 (bR l)] (fun r H' => r = .own 1 ∧ H' = [.dead, .row 5 1 1 (bR (l ++ lstB digs L))]) :=
  cList 46 digs l L (fun x hx => digs9 (hb x hx)) hl fun l' x hx hl' => cNumber l' x (by have := digs9 (hb x hx); omega) (hb x hx)
theorem cKey (t : Term) (L : List Nat) (hk : -1000 ≤ t.k ∧ t.k ≤ 1000) (hd : -1000 ≤ t.l ∧ t.l ≤ 1000) (hn : 0 ≤ t.n ∧ t.n ≤ 4611686018427387904) (hb : ∀ x ∈ L, x ≤ 4611686018427387904) (hl : L.length ≤ 10000000) :
    CallSt Tryz.prog 65 [.agg [.c (.int .i64 (t.k)), .c (.int .i64 (t.l)), .c (.int .i64 (t.n)), .c (.sl 4 48 (tcs t.ts)), .c (.sl 1 8 (rowN L))]] [] (fun r H' => r = .c (.str ⟨(keyB t L).toArray⟩) ∧ H' = []) := by
  obtain ⟨n, hnn⟩ : ∃ n : Nat, t.n = n := ⟨t.n.toNat, by omega⟩
  have e1 : bR [u8 (t.k + 8 * t.l)] = [[CV.int .u8 (IntKind.u8.wrap (t.k + 8 * t.l))]] := by rw [show [u8 (t.k + 8 * t.l)] = [] ++ [u8 (t.k + 8 * t.l)] from rfl, ← bR_snoc]; rfl
  have hd9 := digs9 (n := n) (by omega)
  have h1 := cNumber [u8 (t.k + 8 * t.l)] n (by simp; omega) (by omega)
  have h2 := cListN ([u8 (t.k + 8 * t.l)] ++ digs n) L hb (by simp; omega)
  rw [e1] at h1
  have e3 : keyB t L = [u8 (t.k + 8 * t.l)] ++ digs n ++ lstB digs L := by rw [keyB, hnn]; rfl
  rw [e3]
  obtain ⟨k, l, n', ts⟩ := t
  simp only [Term.k, Term.l, Term.n, Term.ts] at *
  subst hnn
  refine call_pure (E := envK 0) (fn := Tryz.f65) (c := bodyOf Tryz.f65) (envK_ok 0) mixed (by kernel_rfl) (by kernel_rfl) (by kernel_rfl) (by kernel_rfl) (by kernel_rfl) (by kernel_rfl) rfl ?_
  conv => whnf
  refine ⟨⟨by omega, by omega⟩, ?_⟩
  conv => whnf
  refine ⟨⟨by omega, by omega⟩, ?_⟩
  conv => whnf
  repeat (first | (refine And.intro rfl ?_; conv => whnf) | (refine And.intro (by decide) ?_; conv => whnf) | (refine draw_intro true (by kernel_rfl) ?_; conv => whnf) | (refine And.intro ⟨by omega, by omega⟩ ?_; conv => whnf) | (refine And.intro (by omega) ?_; conv => whnf) | (refine And.intro (fun _ => ⟨by omega, by omega⟩) ?_; conv => whnf) | (refine And.intro (of_decide_eq_true rfl) ?_; conv => whnf) | (refine And.intro (fun _ => ?_) (fun h => absurd h ?_); rotate_left; (focus (first | decide | (simp; done) | (simp [tcs]; done))); conv => whnf) | (refine And.intro (fun h => absurd h ?_) (fun _ => ?_); (focus (first | decide | (simp; done) | (simp [tcs]; done))); conv => whnf) | (intro _; conv => whnf))
  try (refine draw_intro true (by kernel_rfl) ?_; conv => whnf)
  first | refine CallSt.use h1 [1] ⟨rfl, trivial⟩ (by decide) rfl ?_ | refine CallPt.useS h1 [1] ⟨rfl, trivial⟩ (by decide) rfl ?_
  rintro _ _ ⟨rfl, rfl⟩ _
  conv => whnf
  repeat (first | (refine And.intro rfl ?_; conv => whnf) | (refine And.intro (by decide) ?_; conv => whnf) | (refine draw_intro true (by kernel_rfl) ?_; conv => whnf) | (refine And.intro ⟨by omega, by omega⟩ ?_; conv => whnf) | (refine And.intro (by omega) ?_; conv => whnf) | (refine And.intro (fun _ => ⟨by omega, by omega⟩) ?_; conv => whnf) | (refine And.intro (of_decide_eq_true rfl) ?_; conv => whnf) | (refine And.intro (fun _ => ?_) (fun h => absurd h ?_); rotate_left; (focus (first | decide | (simp; done) | (simp [tcs]; done))); conv => whnf) | (refine And.intro (fun h => absurd h ?_) (fun _ => ?_); (focus (first | decide | (simp; done) | (simp [tcs]; done))); conv => whnf) | (intro _; conv => whnf))
  try (refine draw_intro true (by kernel_rfl) ?_; conv => whnf)
  first | refine CallSt.use h2 [2] ⟨rfl, trivial⟩ (by decide) rfl ?_ | refine CallPt.useS h2 [2] ⟨rfl, trivial⟩ (by decide) rfl ?_
  rintro _ _ ⟨rfl, rfl⟩ _
  conv => whnf
  repeat (first | (refine And.intro rfl ?_; conv => whnf) | (refine And.intro (by decide) ?_; conv => whnf) | (refine draw_intro true (by kernel_rfl) ?_; conv => whnf) | (refine And.intro ⟨by omega, by omega⟩ ?_; conv => whnf) | (refine And.intro (by omega) ?_; conv => whnf) | (refine And.intro (fun _ => ⟨by omega, by omega⟩) ?_; conv => whnf) | (refine And.intro (of_decide_eq_true rfl) ?_; conv => whnf) | (refine And.intro (fun _ => ?_) (fun h => absurd h ?_); rotate_left; (focus (first | decide | (simp; done) | (simp [tcs]; done))); conv => whnf) | (refine And.intro (fun h => absurd h ?_) (fun _ => ?_); (focus (first | decide | (simp; done) | (simp [tcs]; done))); conv => whnf) | (intro _; conv => whnf))
  refine ⟨_, rfl, ?_⟩
  conv => whnf
  repeat (first | (refine And.intro rfl ?_; conv => whnf) | (refine And.intro (by decide) ?_; conv => whnf) | (refine draw_intro true (by kernel_rfl) ?_; conv => whnf) | (refine And.intro ⟨by omega, by omega⟩ ?_; conv => whnf) | (refine And.intro (by omega) ?_; conv => whnf) | (refine And.intro (fun _ => ⟨by omega, by omega⟩) ?_; conv => whnf) | (refine And.intro (of_decide_eq_true rfl) ?_; conv => whnf) | (refine And.intro (fun _ => ?_) (fun h => absurd h ?_); rotate_left; (focus (first | decide | (simp; done) | (simp [tcs]; done))); conv => whnf) | (refine And.intro (fun h => absurd h ?_) (fun _ => ?_); (focus (first | decide | (simp; done) | (simp [tcs]; done))); conv => whnf) | (intro _; conv => whnf))
  all_goals (first | rfl | exact ⟨rfl, rfl⟩ | exact ⟨rfl, rfl, rfl⟩)
end Go.Tr
/- cert: the list of nodes, plain. -/
namespace Go.Tr
open Go.Proofs
instance : DecidableEq Term := fun a b => decidable_of_iff (sameT a b = true) (sameT_iff a b)
theorem u8_toNat (x : Int) : ((u8 x).toNat : Int) = x % 256 := by
  rw [← u8_wrap]
  unfold IntKind.wrap
  simp [IntKind.bits, IntKind.signed]
/-- Digits can be told apart from what follows. -/
theorem digs_inj : ∀ (a b : Nat) (x y : List UInt8), digs a ++ x = digs b ++ y → a = b ∧ x = y := by
  intro a
  induction a using Nat.strongRecOn with
  | _ a ih =>
  intro b x y h
  by_cases ha : 127 < a
  · by_cases hb : 127 < b
    · rw [digs_big ha, digs_big hb, List.cons_append, List.cons_append, List.cons.injEq] at h
      obtain ⟨h1, h2⟩ := h
      obtain ⟨h3, h4⟩ := ih (a / 128) (by omega) (b / 128) x y h2
      have h5 := congrArg (fun z : UInt8 => (z.toNat : Int)) h1
      simp only [u8_toNat] at h5
      exact ⟨by omega, h4⟩
    · rw [digs_big ha, digs_small hb, List.cons_append, List.singleton_append, List.cons.injEq] at h
      have h5 := congrArg (fun z : UInt8 => (z.toNat : Int)) h.1
      simp only [u8_toNat] at h5
      omega
  · by_cases hb : 127 < b
    · rw [digs_small ha, digs_big hb, List.singleton_append, List.cons_append, List.cons.injEq] at h
      have h5 := congrArg (fun z : UInt8 => (z.toNat : Int)) h.1
      simp only [u8_toNat] at h5
      omega
    · rw [digs_small ha, digs_small hb, List.singleton_append, List.singleton_append, List.cons.injEq] at h
      have h5 := congrArg (fun z : UInt8 => (z.toNat : Int)) h.1
      simp only [u8_toNat] at h5
      exact ⟨by omega, h.2⟩
theorem flat_inj : ∀ (L M : List Nat), L.length = M.length → L.flatMap digs = M.flatMap digs → L = M
  | [], [], _, _ => rfl
  | [], _ :: _, h, _ => by simp at h
  | _ :: _, [], h, _ => by simp at h
  | a :: L, b :: M, h, he => by
    simp only [List.flatMap_cons] at he
    obtain ⟨h1, h2⟩ := digs_inj _ _ _ _ he
    rw [h1, flat_inj L M (by simpa using h) h2]
theorem lst_inj {L M : List Nat} (h : lstB digs L = lstB digs M) : L = M := by
  unfold lstB at h
  obtain ⟨h1, h2⟩ := digs_inj _ _ _ _ h
  exact flat_inj L M h1 h2
theorem key_inj {t u : Term} {L M : List Nat} (h1 : 0 ≤ t.k ∧ t.k < 8 ∧ 0 ≤ t.l ∧ t.l < 32 ∧ 0 ≤ t.n) (h2 : 0 ≤ u.k ∧ u.k < 8 ∧ 0 ≤ u.l ∧ u.l < 32 ∧ 0 ≤ u.n) (h : keyB t L = keyB u M) : t.k = u.k ∧ t.l = u.l ∧ t.n = u.n ∧ L = M := by
  unfold keyB at h
  rw [List.append_assoc, List.append_assoc, List.singleton_append, List.singleton_append, List.cons.injEq] at h
  obtain ⟨h3, h4⟩ := h
  obtain ⟨h5, h6⟩ := digs_inj _ _ _ _ h4
  have h7 := congrArg (fun z : UInt8 => (z.toNat : Int)) h3
  simp only [u8_toNat] at h7
  exact ⟨by omega, by omega, by omega, lst_inj h6⟩
/-- A term whose nodes are as those of a proper one. -/
def wf (t : Term) : Prop := ∃ d, fmT t d = true
theorem fmL_mem : ∀ (ts : List Term) (d : Int), fmL ts d = true → ∀ u ∈ ts, fmT u (d + 1) = true
  | [], _, _, u, hu => by cases hu
  | t :: r, d, h, u, hu => by
    simp only [fmL, Bool.and_eq_true] at h
    rcases List.mem_cons.1 hu with rfl | hu
    · exact h.1
    · exact fmL_mem r d h.2 u hu
theorem wf_kid {t u : Term} (h : wf t) (hu : u ∈ t.ts) : wf u := by
  obtain ⟨d, h⟩ := h
  obtain ⟨k, l, n, ts⟩ := t
  simp only [fmT, Bool.and_eq_true] at h
  exact ⟨d + 1, fmL_mem ts d h.2 u hu⟩
theorem wf_node {t : Term} (h : wf t) : 0 ≤ t.k ∧ t.k < 8 ∧ 0 ≤ t.l ∧ t.l < 32 ∧ 0 ≤ t.n ∧ t.n ≤ 9999 := by
  obtain ⟨d, h⟩ := h
  obtain ⟨k, l, n, ts⟩ := t
  simp only [fmT, Bool.and_eq_true] at h
  have h := h.1.2
  simp only [Term.k, Term.l, Term.n]
  unfold fmB at h
  split at h
  · simp at h; omega
  · split at h
    · simp at h; omega
    · split at h
      · simp at h; omega
      · split at h
        · simp at h; omega
        · cases h
theorem wf_prop {t : Term} (h : prop t = true) : wf t := ⟨1, prop_fm1 h⟩
/-- A term's place in a list of nodes. -/
def pl (B : List Term) (t : Term) : Nat := B.findIdx fun u => decide (u = t)
theorem pl_lt {B : List Term} {t : Term} (h : t ∈ B) : pl B t < B.length := by
  unfold pl
  exact List.findIdx_lt_length_of_exists ⟨t, h, by simp⟩
theorem pl_at {B : List Term} {t : Term} (h : t ∈ B) : B[pl B t]? = some t := by
  have hl := pl_lt h
  have h2 : decide (B[pl B t] = t) = true := List.findIdx_getElem (p := fun u => decide (u = t)) (w := hl)
  rw [List.getElem?_eq_getElem hl, of_decide_eq_true h2]
theorem pl_inj {B : List Term} {t u : Term} (ht : t ∈ B) (hu : u ∈ B) (h : pl B t = pl B u) : t = u := by
  have h1 := pl_at ht
  rw [h, pl_at hu] at h1
  injection h1 with h1
  exact h1.symm
theorem pl_app {B C : List Term} {t : Term} (h : t ∈ B) : pl (B ++ C) t = pl B t := by
  unfold pl
  rw [List.findIdx_append, if_pos]
  exact List.findIdx_lt_length_of_exists ⟨t, h, by simp⟩
theorem pl_of {B : List Term} (hn : B.Nodup) {i : Nat} {t : Term} (h : B[i]? = some t) : pl B t = i := by
  have hm := List.mem_of_getElem? h
  have h1 := pl_at hm
  have hi := (List.getElem?_eq_some_iff.1 h).1
  have h2 := pl_lt hm
  rw [List.getElem?_eq_getElem h2] at h1
  rw [List.getElem?_eq_getElem hi] at h
  injection h1 with h1
  injection h with h
  exact (List.getElem_inj hn).1 (h1.trans h.symm)
theorem pl_snoc {B : List Term} {t : Term} (h : t ∉ B) : pl (B ++ [t]) t = B.length := by
  unfold pl
  rw [List.findIdx_append, if_neg]
  · simp
  · intro hl
    have h2 := List.findIdx_getElem (p := fun u => decide (u = t)) (w := hl)
    exact h (by rw [← of_decide_eq_true h2]; exact List.getElem_mem _)
mutual
/-- The list of nodes, and a term more. -/
def adT : Term → List Term → List Term
  | .mk k l n ts, B => if .mk k l n ts ∈ adL ts B then adL ts B else adL ts B ++ [.mk k l n ts]
def adL : List Term → List Term → List Term
  | [], B => B
  | t :: r, B => adL r (adT t B)
end
structure Good (B : List Term) : Prop where
  nd : B.Nodup
  lo : ∀ (i : Nat) t, B[i]? = some t → ∀ u ∈ t.ts, ∃ j, j < i ∧ B[j]? = some u
  wf : ∀ t ∈ B, wf t
theorem Good.nil : Good [] := ⟨List.nodup_nil, fun i t h => by simp at h, fun t h => by cases h⟩
theorem Good.kid {B : List Term} (h : Good B) {t u : Term} (ht : t ∈ B) (hu : u ∈ t.ts) : u ∈ B := by
  obtain ⟨i, hi⟩ := List.mem_iff_getElem?.1 ht
  obtain ⟨j, _, hj⟩ := h.lo i t hi u hu
  exact List.mem_of_getElem? hj
theorem Good.snoc {B : List Term} (h : Good B) {t : Term} (ht : t ∉ B) (hk : ∀ u ∈ t.ts, u ∈ B) (hw : Go.Tr.wf t) : Good (B ++ [t]) := by
  refine ⟨?_, fun i u hi v hv => ?_, fun u hu => ?_⟩
  · rw [List.nodup_append]
    exact ⟨h.nd, by simp, fun a ha b hb => by simp at hb; subst hb; exact fun e => ht (e ▸ ha)⟩
  · rcases Nat.lt_or_ge i B.length with hl | hl
    · rw [List.getElem?_append_left hl] at hi
      obtain ⟨j, hj, h2⟩ := h.lo i u hi v hv
      exact ⟨j, hj, by rw [List.getElem?_append_left (by omega)]; exact h2⟩
    · rw [List.getElem?_append_right hl] at hi
      have h0 : i - B.length = 0 := by
        rcases Nat.eq_zero_or_pos (i - B.length) with h0 | h0
        · exact h0
        · rw [List.getElem?_eq_none (by simp; omega)] at hi
          cases hi
      rw [h0] at hi
      simp at hi
      subst hi
      have hm := hk v hv
      have hl2 := pl_lt hm
      exact ⟨pl B v, by omega, by rw [List.getElem?_append_left hl2]; exact pl_at hm⟩
  · rcases List.mem_append.1 hu with hu | hu
    · exact h.wf u hu
    · simp at hu
      subst hu
      exact hw
mutual
theorem adT_spec : ∀ (t : Term) (B : List Term), Good B → Go.Tr.wf t → Good (adT t B) ∧ B <+: adT t B ∧ t ∈ adT t B ∧ ((adT t B).length : Int) ≤ B.length + szT t
  | .mk k l n ts, B, hg, hw => by
    obtain ⟨h1, h2, h3, h4⟩ := adL_spec ts B hg fun u hu => wf_kid hw hu
    rw [adT, szT]
    split
    · rename_i hm
      exact ⟨h1, h2, hm, by omega⟩
    · rename_i hm
      refine ⟨h1.snoc hm h3 hw, h2.trans (List.prefix_append _ _), by simp, ?_⟩
      simp only [List.length_append, List.length_singleton]
      omega
theorem adL_spec : ∀ (ts : List Term) (B : List Term), Good B → (∀ t ∈ ts, Go.Tr.wf t) → Good (adL ts B) ∧ B <+: adL ts B ∧ (∀ t ∈ ts, t ∈ adL ts B) ∧ ((adL ts B).length : Int) ≤ B.length + szL ts
  | [], B, hg, _ => by
    rw [adL, szL]
    exact ⟨hg, List.prefix_refl _, fun t ht => (by cases ht), by omega⟩
  | t :: r, B, hg, hw => by
    obtain ⟨h1, h2, h3, h4⟩ := adT_spec t B hg (hw t (by simp))
    obtain ⟨g1, g2, g3, g4⟩ := adL_spec r (adT t B) h1 fun u hu => hw u (by simp [hu])
    rw [adL, szL]
    refine ⟨g1, h2.trans g2, fun u hu => ?_, by omega⟩
    rcases List.mem_cons.1 hu with rfl | hu
    · exact g2.subset h3
    · exact g3 u hu
end
end Go.Tr
/- cert: the nodes' cells, the map; add. -/
namespace Go.Tr
open Go.Proofs
/-- The places of a term's arguments. -/
def kd (B : List Term) (t : Term) : List Nat := t.ts.map (pl B)
def ndc (B : List Term) (t : Term) : List CV := [.int .i64 t.k, .int .i64 t.l, .int .i64 t.n, .sl 4 48 (tcs t.ts), .sl 1 8 (rowN (kd B t))]
def nds (B : List Term) : List (List CV) := B.map (ndc B)
theorem nds_len (B : List Term) : (nds B).length = B.length := by simp [nds]
theorem kd_app {B C : List Term} {t : Term} (h : ∀ u ∈ t.ts, u ∈ B) : kd (B ++ C) t = kd B t := by
  unfold kd
  exact List.map_congr_left fun u hu => pl_app (h u hu)
theorem nds_snoc {B : List Term} (hg : Good B) {t : Term} (hk : ∀ u ∈ t.ts, u ∈ B) : nds (B ++ [t]) = nds B ++ [ndc B t] := by
  unfold nds
  rw [List.map_append]
  congr 1
  · refine List.map_congr_left fun u hu => ?_
    unfold ndc
    rw [kd_app fun v hv => hg.kid hu hv]
  · simp only [List.map_cons, List.map_nil]
    unfold ndc
    rw [kd_app hk]
/-- A node's key, as a string. -/
def keyS (B : List Term) (t : Term) : ByteArray := ⟨(keyB t (kd B t)).toArray⟩
theorem keyS_inj {B : List Term} {t u : Term} (ht : wf t) (hu : wf u) (kt : ∀ v ∈ t.ts, v ∈ B) (ku : ∀ v ∈ u.ts, v ∈ B) (h : keyS B t = keyS B u) : t = u := by
  have h1 : keyB t (kd B t) = keyB u (kd B u) := by
    unfold keyS at h
    injection h with h
    simpa using h
  obtain ⟨a1, a2, a3, a4, a5, _⟩ := wf_node ht
  obtain ⟨b1, b2, b3, b4, b5, _⟩ := wf_node hu
  obtain ⟨e1, e2, e3, e4⟩ := key_inj ⟨a1, a2, a3, a4, a5⟩ ⟨b1, b2, b3, b4, b5⟩ h1
  have key : ∀ (ts us : List Term), (∀ v ∈ ts, v ∈ B) → (∀ v ∈ us, v ∈ B) → ts.map (pl B) = us.map (pl B) → ts = us := fun ts => by
    induction ts with
    | nil =>
      intro us _ _ h
      cases us with
      | nil => rfl
      | cons _ _ => simp at h
    | cons a r ih =>
      intro us h1 h2 h
      cases us with
      | nil => simp at h
      | cons b s =>
        simp only [List.map_cons, List.cons.injEq] at h
        rw [pl_inj (h1 a (by simp)) (h2 b (by simp)) h.1, ih s (fun v hv => h1 v (by simp [hv])) (fun v hv => h2 v (by simp [hv])) h.2]
  have e5 := key t.ts u.ts kt ku e4
  obtain ⟨k, l, n, ts⟩ := t
  obtain ⟨k', l', n', us⟩ := u
  simp only [Term.k, Term.l, Term.n, Term.ts] at e1 e2 e3 e5
  subst e1 e2 e3 e5
  rfl
/-- What the map says. -/
def atF (B : List Term) : KV → Option Int := fun q => match q with
  | .s b => (B.findIdx? fun t => decide (keyS B t = b)).map fun (n : Nat) => (n : Int)
  | .i _ => none
theorem atF_nil : atF [] = fun _ => none := by funext q; cases q <;> simp [atF]
theorem atF_in {B : List Term} (hg : Good B) {t : Term} (ht : t ∈ B) : atF B (.s (keyS B t)) = some (pl B t : Int) := by
  have hw := hg.wf t ht
  have : (B.findIdx? fun u => decide (keyS B u = keyS B t)) = some (pl B t) := by
    rw [List.findIdx?_eq_some_iff_getElem]
    refine ⟨pl_lt ht, ?_, fun j hj => ?_⟩
    · have := pl_at ht
      rw [List.getElem?_eq_getElem (pl_lt ht)] at this
      injection this with this
      rw [this]
      simp
    · have hjl : j < B.length := by have := pl_lt ht; omega
      simp only [decide_eq_true_eq]
      intro e
      have hm := List.getElem_mem hjl
      have h2 := keyS_inj (hg.wf _ hm) hw (fun v hv => hg.kid hm hv) (fun v hv => hg.kid ht hv) e
      have h3 := pl_of hg.nd (i := j) (t := t) (by rw [List.getElem?_eq_getElem hjl, h2])
      omega
  simp [atF, this]
theorem atF_out {B : List Term} (hg : Good B) {t : Term} (ht : t ∉ B) (hw : wf t) (hk : ∀ u ∈ t.ts, u ∈ B) : atF B (.s (keyS B t)) = none := by
  have : (B.findIdx? fun u => decide (keyS B u = keyS B t)) = none := by
    rw [List.findIdx?_eq_none_iff]
    intro u hu
    rw [decide_eq_false_iff_not]
    intro e
    exact ht (keyS_inj (hg.wf u hu) hw (fun v hv => hg.kid hu hv) hk e ▸ hu)
  simp [atF, this]
theorem keyS_app {B C : List Term} {t : Term} (h : ∀ u ∈ t.ts, u ∈ B) : keyS (B ++ C) t = keyS B t := by unfold keyS; rw [kd_app h]
theorem atF_snoc {B : List Term} (hg : Good B) {t : Term} (ht : t ∉ B) (hw : wf t) (hk : ∀ u ∈ t.ts, u ∈ B) : mput (atF B) (.s (keyS B t)) (B.length : Int) = atF (B ++ [t]) := by
  funext q
  cases q with
  | i n => simp [mput, atF]
  | s b =>
    have e1 : (B.findIdx? fun u => decide (keyS (B ++ [t]) u = b)) = B.findIdx? fun u => decide (keyS B u = b) := by
      have : ∀ (C : List Term), (∀ u ∈ C, u ∈ B) → (C.findIdx? fun u => decide (keyS (B ++ [t]) u = b)) = C.findIdx? fun u => decide (keyS B u = b) := fun C => by
        induction C with
        | nil => intro _; rfl
        | cons a C ih =>
          intro h
          rw [List.findIdx?_cons, List.findIdx?_cons, keyS_app fun v hv => hg.kid (h a (by simp)) hv, ih fun u hu => h u (by simp [hu])]
      exact this B fun u hu => hu
    unfold mput atF
    simp only [List.findIdx?_append, e1]
    by_cases hb : keyS B t = b
    · subst hb
      have h0 := atF_out hg ht hw hk
      simp only [atF, Option.map_eq_none_iff] at h0
      rw [h0, if_pos rfl]
      simp [keyS_app hk]
    · rw [if_neg (by intro h; injection h with h; exact hb h.symm)]
      simp [keyS_app hk, hb]
end Go.Tr
/- cert: add. -/
namespace Go.Tr
open Go.Proofs
theorem szL_take : ∀ (ts : List Term) (j : Nat) (u : Term), ts[j]? = some u → szL (ts.take (j + 1)) = szL (ts.take j) + szT u
  | [], _, _, h => by simp at h
  | t :: r, 0, u, h => by
    simp at h
    subst h
    simp [szL]
  | t :: r, j + 1, u, h => by
    have := szL_take r j u (by simpa using h)
    simp only [List.take_succ_cons, szL, this]
    omega
theorem adL_take : ∀ (ts : List Term) (j : Nat) (u : Term) (B : List Term), ts[j]? = some u → adL (ts.take (j + 1)) B = adT u (adL (ts.take j) B)
  | [], _, _, _, h => by simp at h
  | t :: r, 0, u, B, h => by
    simp at h
    subst h
    simp [adL]
  | t :: r, j + 1, u, B, h => by
    have := adL_take r j u (adT t B) (by simpa using h)
    simp only [List.take_succ_cons, adL, this]
theorem szL_le_take : ∀ (ts : List Term) (j : Nat), szL (ts.take j) ≤ szL ts
  | [], j => by simp
  | t :: r, 0 => by
    have := szT_pos t
    have := szL_pos r
    simp only [List.take_zero, szL]
    omega
  | t :: r, j + 1 => by
    have := szL_le_take r j
    simp only [List.take_succ_cons, szL]
    omega
theorem szL_len : ∀ ts : List Term, (ts.length : Int) ≤ szL ts
  | [] => by simp [szL]
  | t :: r => by
    have := szL_len r
    have := szT_pos t
    simp only [szL, List.length_cons]
    omega
theorem rowN_map_snoc {L : List Nat} {x : Nat} : rowN L ++ [[CV.int .i64 (x : Int)]] = rowN (L ++ [x]) := by simp [rowN]
theorem cAddN (t : Term) : ∀ (B : List Term) (a : Int), Good B → wf t → B.length + szT t ≤ 1000000 → 0 ≤ a ∧ a + szT t ≤ 1000000000 →
    CallSt Tryz.prog 50 [.ptr 0 0, tv t] [.box [.own 1, .mpv 2, .c (.int .i64 (a))], .row 62 5 72 (nds B), .mp true (.n (atF B))]
      (fun r H' => r = .c (.int .i64 ((pl (adT t B) t : Nat))) ∧ H' = [.box [.own 3, .mpv 2, .c (.int .i64 (a + szT t))], .dead, .mp true (.n (atF (adT t B))), .row 62 5 72 (nds (adT t B))]) := by
  induction t using Term.ind with
  | _ t ih =>
  intro B a hg hw hs ha
  obtain ⟨k, l, n, ts⟩ := t
  replace ih : ∀ u, u ∈ ts → _ := ih
  have hwn := wf_node hw
  simp only [Term.k, Term.l, Term.n] at hwn
  have hsz : szT (.mk k l n ts) = 1 + szL ts := by rw [szT]
  rw [hsz] at hs ha
  have hln := len_tcs ts
  have hsl := szL_len ts
  rw [tv_mk]
  refine call_wk (E := env 3) (fn := Tryz.f50) (c := bodyOf Tryz.f50) (env_ok 3) mixed (by kernel_rfl) (by kernel_rfl) (by kernel_rfl) (by kernel_rfl) (by kernel_rfl) (by kernel_rfl) rfl false ?_
  conv => whnf
  repeat (first | (refine And.intro rfl ?_; conv => whnf) | (refine And.intro (by decide) ?_; conv => whnf) | (refine draw_intro true (by kernel_rfl) ?_; conv => whnf) | (refine And.intro ⟨by omega, by omega⟩ ?_; conv => whnf) | (refine And.intro (by omega) ?_; conv => whnf) | (refine And.intro (fun _ => ⟨by omega, by omega⟩) ?_; conv => whnf) | (refine And.intro (of_decide_eq_true rfl) ?_; conv => whnf) | (refine And.intro (fun _ => ?_) (fun h => absurd h ?_); rotate_left; (focus (first | decide | (simp; done) | (simp [tcs]; done))); conv => whnf) | (refine And.intro (fun h => absurd h ?_) (fun _ => ?_); (focus (first | decide | (simp; done) | (simp [tcs]; done))); conv => whnf) | (intro _; conv => whnf))
  refine loop_intro (fun m tm H => ∃ (j : Nat) (B' : List Term) (a' : Int), ts.length = m + j ∧ B' = adL (ts.take j) B ∧ a' = a + szL (ts.take j) ∧
      tm = [(17, .c (.int .i64 (j))), (16, .c (.int .i64 ((tcs ts).length))), (15, .c (.sl 4 48 (tcs ts))), (0, .ptr 0 0), (3, .ptr 3 0), (5, .ptr 5 0)] ∧
      H = [.box [.own 4, .mpv 2, .c (.int .i64 (a'))], .dead, .mp true (.n (atF B')), .box [.c (.int .i64 (k)), .c (.int .i64 (l)), .c (.int .i64 (n)), .c (.sl 4 48 (tcs ts))], .row 62 5 72 (nds B'),
        .box [.c (.int .i64 (k)), .c (.int .i64 (l)), .c (.int .i64 (n)), .c (.sl 4 48 (tcs ts)), .own 6], .row 3 1 8 (rowN ((ts.take j).map (pl B')))])
    ts.length _ _ ⟨0, B, a, by omega, by simp [adL], by simp [szL], rfl, rfl⟩ ?_ ?_
  · refine Wk.trans (Wk.mvbox 0 0 1 62 5 72 (nds B) rfl rfl rfl rfl) ?_
    refine Wk.trans (Wk.nilrow (i := 4) (j := 4) 3 1 8 rfl rfl rfl) ?_
    exact Wk.sel [0, 1, 2, 3, 5, 4, 6] (by decide) (by first | decide | (show (0 : Nat) ≤ _; decide) | (show ∀ i, i < 0 → _; decide) | (show (1 : Nat) ≤ _; decide) | (show ∀ i, i < 1 → _; decide) | (show (2 : Nat) ≤ _; decide) | (show ∀ i, i < 2 → _; decide) | (show (3 : Nat) ≤ _; decide) | (show ∀ i, i < 3 → _; decide) | (show (4 : Nat) ≤ _; decide) | (show ∀ i, i < 4 → _; decide) | (show (5 : Nat) ≤ _; decide) | (show ∀ i, i < 5 → _; decide) | (show (6 : Nat) ≤ _; decide) | (show ∀ i, i < 6 → _; decide) | (show (7 : Nat) ≤ _; decide) | (show ∀ i, i < 7 → _; decide)) (by first | decide | (show (0 : Nat) ≤ _; decide) | (show ∀ i, i < 0 → _; decide) | (show (1 : Nat) ≤ _; decide) | (show ∀ i, i < 1 → _; decide) | (show (2 : Nat) ≤ _; decide) | (show ∀ i, i < 2 → _; decide) | (show (3 : Nat) ≤ _; decide) | (show ∀ i, i < 3 → _; decide) | (show (4 : Nat) ≤ _; decide) | (show ∀ i, i < 4 → _; decide) | (show (5 : Nat) ≤ _; decide) | (show ∀ i, i < 5 → _; decide) | (show (6 : Nat) ≤ _; decide) | (show ∀ i, i < 6 → _; decide) | (show (7 : Nat) ≤ _; decide) | (show ∀ i, i < 7 → _; decide)) ⟨rfl, rfl, rfl, rfl, rfl, rfl, rfl, trivial⟩ ⟨rfl, rfl, rfl, rfl, rfl, rfl, trivial⟩ rfl
  rintro m tm H ⟨j, B', a', hj, hB, ha', rfl, rfl⟩
  obtain ⟨g1, g2, g3, g4⟩ := adL_spec (ts.take j) B hg fun u hu => wf_kid hw (List.mem_of_mem_take hu)
  rw [← hB] at g1 g2 g3 g4
  have hle := szL_le_take ts j
  have hnn := szL_pos (ts.take j)
  conv => whnf
  refine ⟨fun hc => ?_, fun hc => ?_⟩
  · replace hc : (j : Int) < (tcs ts).length := of_decide_eq_true hc
    obtain ⟨u, hu⟩ : ∃ u, ts[j]? = some u := ⟨ts[j]'(by omega), List.getElem?_eq_getElem (by omega)⟩
    have hm := List.mem_of_getElem? hu
    have huc := tcs_at ts j u hu
    have hst := szL_take ts j u hu
    have hle2 := szL_le_take ts (j + 1)
    have hup := szT_pos u
    have hi := ih u hm B' a' g1 (wf_kid hw hm) (by omega) (by omega)
    obtain ⟨q1, q2, q3, q4⟩ := adT_spec u B' g1 (wf_kid hw hm)
    have hmp : (ts.take (j + 1)).map (pl (adT u B')) = (ts.take j).map (pl B') ++ [pl (adT u B') u] := by
      rw [List.take_add_one, hu, List.map_append]
      congr 1
      obtain ⟨C, hC⟩ := q2
      rw [← hC]
      exact List.map_congr_left fun v hv => pl_app (g3 v hv)
    have hBn : adT u B' = adL (ts.take (j + 1)) B := by rw [adL_take ts j u B hu, ← hB]
    have hul : (List.map (pl B') (ts.take j)).length ≤ 1000000 := by rw [List.length_map, List.length_take]; omega
    have hrl := rowN_len ((ts.take j).map (pl B'))
    have hb1 : ((rowN ((ts.take j).map (pl B'))).length + 1) * 8 ≤ 140737488355328 := by omega
    have hb2 : (rowN ((ts.take j).map (pl B'))).length + 1 ≤ 9223372036854775807 := by omega
    generalize adT u B' = B2 at *
    obtain ⟨k', l', n', us⟩ := u
    rw [tv_mk] at hi
    conv => whnf
    refine ⟨_, ⟨by omega, by simpa using huc⟩, ?_⟩
    conv => whnf
    refine ⟨Nat.le_refl 4, ?_⟩
    conv => whnf
    repeat (first | (refine And.intro rfl ?_; conv => whnf) | (refine And.intro (by decide) ?_; conv => whnf) | (refine draw_intro true (by kernel_rfl) ?_; conv => whnf) | (refine And.intro ⟨by omega, by omega⟩ ?_; conv => whnf) | (refine And.intro (by omega) ?_; conv => whnf) | (refine And.intro (fun _ => ⟨by omega, by omega⟩) ?_; conv => whnf) | (refine And.intro (of_decide_eq_true rfl) ?_; conv => whnf) | (refine And.intro (fun _ => ?_) (fun h => absurd h ?_); rotate_left; (focus (first | decide | (simp; done) | (simp [tcs]; done))); conv => whnf) | (refine And.intro (fun h => absurd h ?_) (fun _ => ?_); (focus (first | decide | (simp; done) | (simp [tcs]; done))); conv => whnf) | (intro _; conv => whnf))
    try (refine draw_intro true (by kernel_rfl) ?_; conv => whnf)
    first | refine CallSt.use hi [0, 4, 2] ⟨rfl, rfl, rfl, trivial⟩ (by decide) rfl ?_ | refine CallPt.useS hi [0, 4, 2] ⟨rfl, rfl, rfl, trivial⟩ (by decide) rfl ?_
    rintro _ _ ⟨rfl, rfl⟩ _
    conv => whnf
    repeat (first | (refine And.intro rfl ?_; conv => whnf) | (refine And.intro (by decide) ?_; conv => whnf) | (refine draw_intro true (by kernel_rfl) ?_; conv => whnf) | (refine And.intro ⟨by omega, by omega⟩ ?_; conv => whnf) | (refine And.intro (by omega) ?_; conv => whnf) | (refine And.intro (fun _ => ⟨by omega, by omega⟩) ?_; conv => whnf) | (refine And.intro (of_decide_eq_true rfl) ?_; conv => whnf) | (refine And.intro (fun _ => ?_) (fun h => absurd h ?_); rotate_left; (focus (first | decide | (simp; done) | (simp [tcs]; done))); conv => whnf) | (refine And.intro (fun h => absurd h ?_) (fun _ => ?_); (focus (first | decide | (simp; done) | (simp [tcs]; done))); conv => whnf) | (intro _; conv => whnf))
    refine ⟨m - 1, _, _, by omega, ⟨j + 1, B2, a' + szT (.mk k' l' n' us), by omega, hBn, by omega, rfl, rfl⟩, Wk.sel [0, 1, 2, 3, 8, 5, 10] (by decide) (by decide) (by decide) ⟨rfl, rfl, rfl, rfl, rfl, rfl, ?_, trivial⟩ ⟨rfl, rfl, rfl, rfl, rfl, rfl, trivial⟩ rfl⟩
    rw [hmp, ← rowN_map_snoc]
    rfl
  · replace hc : ¬ (j : Int) < (tcs ts).length := of_decide_eq_false hc
    obtain rfl : j = ts.length := by omega
    rw [List.take_length] at hB ha' g3 g4 hnn ⊢
    have hkids : ∀ u ∈ ts, u ∈ B' := g3
    have hkey := cKey (.mk k l n ts) (kd B' (.mk k l n ts)) (by simp only [Term.k]; omega) (by simp only [Term.l]; omega) (by simp only [Term.n]; omega) (fun x hx => by
      obtain ⟨u, hu, rfl⟩ := List.mem_map.1 hx
      have := pl_lt (hkids u hu)
      omega) (by simp only [kd, List.length_map, Term.ts]; omega)
    have hks : (⟨(keyB (.mk k l n ts) (kd B' (.mk k l n ts))).toArray⟩ : ByteArray) = keyS B' (.mk k l n ts) := rfl
    rw [hks] at hkey
    simp only [Term.k, Term.l, Term.n, Term.ts] at hkey
    have hkd : kd B' (.mk k l n ts) = ts.map (pl B') := rfl
    rw [hkd] at hkey
    have hnl := nds_len B'
    by_cases hT : Term.mk k l n ts ∈ B'
    · have hat := atF_in g1 hT
      have e1 : adT (.mk k l n ts) B = B' := by rw [adT, ← hB, if_pos hT]
      rw [e1, hsz]
      generalize keyS B' (.mk k l n ts) = q at *
      generalize pl B' (.mk k l n ts) = p at *
      generalize hF : atF B' = F at *
      conv => whnf
      refine ⟨⟨by omega, by omega⟩, ?_⟩
      conv => whnf
      repeat (first | (refine And.intro rfl ?_; conv => whnf) | (refine And.intro (by decide) ?_; conv => whnf) | (refine draw_intro true (by kernel_rfl) ?_; conv => whnf) | (refine And.intro ⟨by omega, by omega⟩ ?_; conv => whnf) | (refine And.intro (by omega) ?_; conv => whnf) | (refine And.intro (fun _ => ⟨by omega, by omega⟩) ?_; conv => whnf) | (refine And.intro (of_decide_eq_true rfl) ?_; conv => whnf) | (refine And.intro (fun _ => ?_) (fun h => absurd h ?_); rotate_left; (focus (first | decide | (simp; done) | (simp [tcs]; done))); conv => whnf) | (refine And.intro (fun h => absurd h ?_) (fun _ => ?_); (focus (first | decide | (simp; done) | (simp [tcs]; done))); conv => whnf) | (intro _; conv => whnf))
      try (refine draw_intro true (by kernel_rfl) ?_; conv => whnf)
      first | refine CallSt.use hkey [] trivial (by decide) rfl ?_ | refine CallPt.useS hkey [] trivial (by decide) rfl ?_
      rintro _ _ ⟨rfl, rfl⟩ _
      conv => whnf
      repeat (first | (refine And.intro rfl ?_; conv => whnf) | (refine And.intro (by decide) ?_; conv => whnf) | (refine draw_intro true (by kernel_rfl) ?_; conv => whnf) | (refine And.intro ⟨by omega, by omega⟩ ?_; conv => whnf) | (refine And.intro (by omega) ?_; conv => whnf) | (refine And.intro (fun _ => ⟨by omega, by omega⟩) ?_; conv => whnf) | (refine And.intro (of_decide_eq_true rfl) ?_; conv => whnf) | (refine And.intro (fun _ => ?_) (fun h => absurd h ?_); rotate_left; (focus (first | decide | (simp; done) | (simp [tcs]; done))); conv => whnf) | (refine And.intro (fun h => absurd h ?_) (fun _ => ?_); (focus (first | decide | (simp; done) | (simp [tcs]; done))); conv => whnf) | (intro _; conv => whnf))
      rw [hat]
      conv => whnf
      repeat (first | (refine And.intro rfl ?_; conv => whnf) | (refine And.intro (by decide) ?_; conv => whnf) | (refine draw_intro true (by kernel_rfl) ?_; conv => whnf) | (refine And.intro ⟨by omega, by omega⟩ ?_; conv => whnf) | (refine And.intro (by omega) ?_; conv => whnf) | (refine And.intro (fun _ => ⟨by omega, by omega⟩) ?_; conv => whnf) | (refine And.intro (of_decide_eq_true rfl) ?_; conv => whnf) | (refine And.intro (fun _ => ?_) (fun h => absurd h ?_); rotate_left; (focus (first | decide | (simp; done) | (simp [tcs]; done))); conv => whnf) | (refine And.intro (fun h => absurd h ?_) (fun _ => ?_); (focus (first | decide | (simp; done) | (simp [tcs]; done))); conv => whnf) | (intro _; conv => whnf))
      refine ⟨[(4, .c (.int .i64 ((p : Nat))))], [.box [.own 3, .mpv 2, .c (.int .i64 (a + (1 + szL ts)))], .dead, .mp true (.n F), .row 62 5 72 (nds B')], Wk.sel [0, 1, 2, 4] (by decide) (by decide) (by decide) ⟨?_, rfl, rfl, rfl, trivial⟩ ⟨rfl, trivial⟩ rfl, ?_⟩
      · exact congrArg (fun z => some (Ent.box [.own 4, .mpv 2, .c (.int .i64 z)])) (by omega)
      conv => whnf
      exact ⟨rfl, rfl⟩
    · have hat := atF_out g1 hT hw hkids
      have hsn := atF_snoc g1 hT hw hkids
      have hns := nds_snoc g1 (t := .mk k l n ts) hkids
      have e1 : adT (.mk k l n ts) B = B' ++ [.mk k l n ts] := by rw [adT, ← hB, if_neg hT]
      have e2 : pl (B' ++ [.mk k l n ts]) (.mk k l n ts) = B'.length := pl_snoc hT
      have hb1 : ((nds B').length + 1) * 72 ≤ 140737488355328 := by omega
      have hb2 : (nds B').length + 1 ≤ 9223372036854775807 := by omega
      have hrl2 := rowN_len (ts.map (pl B'))
      have hnd : ndc B' (.mk k l n ts) = [.int .i64 k, .int .i64 l, .int .i64 n, .sl 4 48 (tcs ts), .sl 1 8 (rowN (ts.map (pl B')))] := rfl
      rw [e1, e2, hsz]
      rw [hns, hnd, ← hsn, ← hnl]
      generalize keyS B' (.mk k l n ts) = q at *
      generalize hF : atF B' = F at *
      conv => whnf
      refine ⟨⟨by omega, by omega⟩, ?_⟩
      conv => whnf
      repeat (first | (refine And.intro rfl ?_; conv => whnf) | (refine And.intro (by decide) ?_; conv => whnf) | (refine draw_intro true (by kernel_rfl) ?_; conv => whnf) | (refine And.intro ⟨by omega, by omega⟩ ?_; conv => whnf) | (refine And.intro (by omega) ?_; conv => whnf) | (refine And.intro (fun _ => ⟨by omega, by omega⟩) ?_; conv => whnf) | (refine And.intro (of_decide_eq_true rfl) ?_; conv => whnf) | (refine And.intro (fun _ => ?_) (fun h => absurd h ?_); rotate_left; (focus (first | decide | (simp; done) | (simp [tcs]; done))); conv => whnf) | (refine And.intro (fun h => absurd h ?_) (fun _ => ?_); (focus (first | decide | (simp; done) | (simp [tcs]; done))); conv => whnf) | (intro _; conv => whnf))
      try (refine draw_intro true (by kernel_rfl) ?_; conv => whnf)
      first | refine CallSt.use hkey [] trivial (by decide) rfl ?_ | refine CallPt.useS hkey [] trivial (by decide) rfl ?_
      rintro _ _ ⟨rfl, rfl⟩ _
      conv => whnf
      repeat (first | (refine And.intro rfl ?_; conv => whnf) | (refine And.intro (by decide) ?_; conv => whnf) | (refine draw_intro true (by kernel_rfl) ?_; conv => whnf) | (refine And.intro ⟨by omega, by omega⟩ ?_; conv => whnf) | (refine And.intro (by omega) ?_; conv => whnf) | (refine And.intro (fun _ => ⟨by omega, by omega⟩) ?_; conv => whnf) | (refine And.intro (of_decide_eq_true rfl) ?_; conv => whnf) | (refine And.intro (fun _ => ?_) (fun h => absurd h ?_); rotate_left; (focus (first | decide | (simp; done) | (simp [tcs]; done))); conv => whnf) | (refine And.intro (fun h => absurd h ?_) (fun _ => ?_); (focus (first | decide | (simp; done) | (simp [tcs]; done))); conv => whnf) | (intro _; conv => whnf))
      rw [hat]
      conv => whnf
      repeat (first | (refine And.intro rfl ?_; conv => whnf) | (refine And.intro (by decide) ?_; conv => whnf) | (refine draw_intro true (by kernel_rfl) ?_; conv => whnf) | (refine And.intro ⟨by omega, by omega⟩ ?_; conv => whnf) | (refine And.intro (by omega) ?_; conv => whnf) | (refine And.intro (fun _ => ⟨by omega, by omega⟩) ?_; conv => whnf) | (refine And.intro (of_decide_eq_true rfl) ?_; conv => whnf) | (refine And.intro (fun _ => ?_) (fun h => absurd h ?_); rotate_left; (focus (first | decide | (simp; done) | (simp [tcs]; done))); conv => whnf) | (refine And.intro (fun h => absurd h ?_) (fun _ => ?_); (focus (first | decide | (simp; done) | (simp [tcs]; done))); conv => whnf) | (intro _; conv => whnf))
      refine ⟨[(4, .c (.int .i64 ((nds B').length)))], [.box [.own 3, .mpv 2, .c (.int .i64 (a + (1 + szL ts)))], .dead, .mp true (.n (mput F (.s q) ((nds B').length : Int))), .row 62 5 72 (nds B' ++ [[.int .i64 k, .int .i64 l, .int .i64 n, .sl 4 48 (tcs ts), .sl 1 8 (rowN (ts.map (pl B')))]])], Wk.sel [0, 1, 2, 8] (by decide) (by decide) (by decide) ⟨?_, rfl, rfl, rfl, trivial⟩ ⟨rfl, trivial⟩ rfl, ?_⟩
      · exact congrArg (fun z => some (Ent.box [.own 8, .mpv 2, .c (.int .i64 z)])) (by omega)
      conv => whnf
      exact ⟨rfl, rfl⟩
end Go.Tr
/- cert: the rounds over a certificate's terms (made by gen103.py). -/
namespace Go.Tr
open Go.Proofs
structure Crt where
  S : List Dcl
  X : List Term
  o : Term
  c : Term
/-- A certificate's value. -/
def crv (c : Crt) : AV := .agg [.c (.sl 6 72 (dcs c.S)), .c (.sl 4 48 (tcs c.X)), .c (.int .i64 (c.o.k)), .c (.int .i64 (c.o.l)), .c (.int .i64 (c.o.n)), .c (.sl 4 48 (tcs c.o.ts)), .c (.int .i64 (c.c.k)), .c (.int .i64 (c.c.l)), .c (.int .i64 (c.c.n)), .c (.sl 4 48 (tcs c.c.ts))]
/-- A certificate's terms. -/
def crl (c : Crt) : List Term := c.S.map (·.c) ++ (c.X ++ [c.o, c.c])
theorem crl_S {c : Crt} {n : Nat} {d : Dcl} (h : c.S[n]? = some d) : (crl c)[n]? = some d.c := by
  have hl := (List.getElem?_eq_some_iff.1 h).1
  rw [crl, List.getElem?_append_left (by simpa using hl), List.getElem?_map, h]
  rfl
theorem crl_X {c : Crt} {n : Nat} {t : Term} (h : c.X[n]? = some t) : (crl c)[c.S.length + n]? = some t := by
  have hl := (List.getElem?_eq_some_iff.1 h).1
  rw [crl, List.getElem?_append_right (by simp), List.length_map, Nat.add_sub_cancel_left, List.getElem?_append_left hl, h]
theorem crl_o (c : Crt) : (crl c)[c.S.length + c.X.length]? = some c.o := by
  rw [crl, List.getElem?_append_right (by simp), List.length_map, Nat.add_sub_cancel_left, List.getElem?_append_right (Nat.le_refl _), Nat.sub_self]
  rfl
theorem crl_c (c : Crt) : (crl c)[c.S.length + c.X.length + 1]? = some c.c := by
  rw [crl, Nat.add_assoc, List.getElem?_append_right (by simp), List.length_map, Nat.add_sub_cancel_left, List.getElem?_append_right (by omega), Nat.add_sub_cancel_left]
  rfl
theorem crl_len (c : Crt) : (crl c).length = c.S.length + c.X.length + 2 := by simp [crl]; omega
theorem cTermsI (c : Crt) : CallSt Tryz.prog 30 [crv c] [] (fun r H' => r = .fn 56 [.ptr 0 0] ∧ H' = [.box [.c (.sl 6 72 (dcs c.S)), .c (.sl 4 48 (tcs c.X)), .c (.int .i64 (c.o.k)), .c (.int .i64 (c.o.l)), .c (.int .i64 (c.o.n)), .c (.sl 4 48 (tcs c.o.ts)), .c (.int .i64 (c.c.k)), .c (.int .i64 (c.c.l)), .c (.int .i64 (c.c.n)), .c (.sl 4 48 (tcs c.c.ts))]]) := by
  obtain ⟨S, X, ⟨k, l, n, ts⟩, ⟨k2, l2, n2, us⟩⟩ := c
  unfold crv
  refine call_intro (E := env 0) (fn := Tryz.f30) (c := bodyOf Tryz.f30) (env_ok 0) mixed (by kernel_rfl) (by kernel_rfl) (by kernel_rfl) (by kernel_rfl) (by kernel_rfl) (by kernel_rfl) rfl ?_
  conv => whnf
  repeat (first | (refine And.intro rfl ?_; conv => whnf) | (refine And.intro (by decide) ?_; conv => whnf) | (refine draw_intro true (by kernel_rfl) ?_; conv => whnf) | (refine And.intro ⟨by omega, by omega⟩ ?_; conv => whnf) | (refine And.intro (by omega) ?_; conv => whnf) | (refine And.intro (fun _ => ⟨by omega, by omega⟩) ?_; conv => whnf) | (refine And.intro (of_decide_eq_true rfl) ?_; conv => whnf) | (refine And.intro (fun _ => ?_) (fun h => absurd h ?_); rotate_left; (focus (first | decide | (simp; done) | (simp [tcs]; done))); conv => whnf) | (refine And.intro (fun h => absurd h ?_) (fun _ => ?_); (focus (first | decide | (simp; done) | (simp [tcs]; done))); conv => whnf))
  all_goals (first | rfl | exact ⟨rfl, rfl⟩ | exact ⟨rfl, rfl, rfl⟩)
theorem cTermsN {ps : Array Nat} {asg body : Code} (c : Crt) (hS : c.S.length ≤ 100) (hX : c.X.length ≤ 100) (B : Nat → List Term) (a : Nat → Int) (R : Nat → List Nat)
    (hY : ∀ (n : Nat) (t : Term), (crl c)[n]? = some t → YSt Tryz.prog 5 [tv t] [.box [.own 1, .mpv 2, .c (.int .i64 (a n))], .row 62 5 72 (nds (B n)), .mp true (.n (atF (B n))), .box [.own 4], .row 3 1 8 (rowN (R n)), .lrec .ready [(4, .ptr 6 0), (5, .ptr 3 0)] ps asg body, .box [.ptr 0 0]] (fun r H' => r = .c (.bool true) ∧ H' = [.box [.own 7, .mpv 2, .c (.int .i64 (a (n + 1)))], .dead, .mp true (.n (atF (B (n + 1)))), .box [.own 8], .dead, .lrec .ready [(4, .ptr 6 0), (5, .ptr 3 0)] ps asg body, .box [.ptr 0 0], .row 62 5 72 (nds (B (n + 1))), .row 3 1 8 (rowN (R (n + 1)))])) :
    CallSt Tryz.prog 56 [.yv 6, .ptr 0 0] [.box [.c (.sl 6 72 (dcs c.S)), .c (.sl 4 48 (tcs c.X)), .c (.int .i64 (c.o.k)), .c (.int .i64 (c.o.l)), .c (.int .i64 (c.o.n)), .c (.sl 4 48 (tcs c.o.ts)), .c (.int .i64 (c.c.k)), .c (.int .i64 (c.c.l)), .c (.int .i64 (c.c.n)), .c (.sl 4 48 (tcs c.c.ts))], .box [.own 2, .mpv 3, .c (.int .i64 (a 0))], .row 62 5 72 (nds (B 0)), .mp true (.n (atF (B 0))), .box [.own 5], .row 3 1 8 (rowN (R 0)), .lrec .ready [(4, .ptr 7 0), (5, .ptr 4 0)] ps asg body, .box [.ptr 1 0]] (fun r H' => r = .tup [] ∧ H' = [.box [.c (.sl 6 72 (dcs c.S)), .c (.sl 4 48 (tcs c.X)), .c (.int .i64 (c.o.k)), .c (.int .i64 (c.o.l)), .c (.int .i64 (c.o.n)), .c (.sl 4 48 (tcs c.o.ts)), .c (.int .i64 (c.c.k)), .c (.int .i64 (c.c.l)), .c (.int .i64 (c.c.n)), .c (.sl 4 48 (tcs c.c.ts))], .box [.own 8, .mpv 3, .c (.int .i64 (a (crl c).length))], .dead, .mp true (.n (atF (B (crl c).length))), .box [.own 9], .dead, .lrec .ready [(4, .ptr 7 0), (5, .ptr 4 0)] ps asg body, .box [.ptr 1 0], .row 62 5 72 (nds (B (crl c).length)), .row 3 1 8 (rowN (R (crl c).length))]) := by
  have hds := len_dcs c.S
  have hxl := len_tcs c.X
  have hcl := crl_len c
  have hyS := fun n d (h : c.S[n]? = some d) => hY n d.c (crl_S h)
  have hyX := fun n t (h : c.X[n]? = some t) => hY _ t (crl_X h)
  have hyo := hY _ _ (crl_o c)
  have hyc := hY _ _ (crl_c c)
  clear hY
  rw [hcl]
  obtain ⟨S, X, ⟨k, l, n, ts⟩, ⟨k2, l2, n2, us⟩⟩ := c
  dsimp only [Term.k, Term.l, Term.n, Term.ts] at *
  rw [tv_mk] at hyo hyc
  refine call_wk (E := envK 8) (fn := Tryz.f56) (c := bodyOf Tryz.f56) (envK_ok 8) mixed (by kernel_rfl) (by kernel_rfl) (by kernel_rfl) (by kernel_rfl) (by kernel_rfl) (by kernel_rfl) rfl false ?_
  conv => whnf
  repeat (first | (refine And.intro rfl ?_; conv => whnf) | (refine And.intro (by decide) ?_; conv => whnf) | (refine draw_intro true (by kernel_rfl) ?_; conv => whnf) | (refine And.intro ⟨by omega, by omega⟩ ?_; conv => whnf) | (refine And.intro (by omega) ?_; conv => whnf) | (refine And.intro (fun _ => ⟨by omega, by omega⟩) ?_; conv => whnf) | (refine And.intro (of_decide_eq_true rfl) ?_; conv => whnf) | (refine And.intro (fun _ => ?_) (fun h => absurd h ?_); rotate_left; (focus (first | decide | (simp; done) | (simp [tcs]; done))); conv => whnf) | (refine And.intro (fun h => absurd h ?_) (fun _ => ?_); (focus (first | decide | (simp; done) | (simp [tcs]; done))); conv => whnf) | (intro _; conv => whnf))
  refine loop_intro (fun m tm H => ∃ (j : Nat), S.length = m + j ∧ tm = [(10, .c (.int .i64 (j))), (9, .c (.int .i64 ((dcs S).length))), (8, .c (.sl 6 72 (dcs S))), (0, .yv 6), (1, .ptr 0 0)] ∧ H = [.box [.c (.sl 6 72 (dcs S)), .c (.sl 4 48 (tcs X)), .c (.int .i64 (k)), .c (.int .i64 (l)), .c (.int .i64 (n)), .c (.sl 4 48 (tcs ts)), .c (.int .i64 (k2)), .c (.int .i64 (l2)), .c (.int .i64 (n2)), .c (.sl 4 48 (tcs us))], .box [.own 8, .mpv 3, .c (.int .i64 (a j))], .dead, .mp true (.n (atF (B j))), .box [.own 9], .dead, .lrec .ready [(4, .ptr 7 0), (5, .ptr 4 0)] ps asg body, .box [.ptr 1 0], .row 62 5 72 (nds (B j)), .row 3 1 8 (rowN (R j))])
    S.length _ _ ⟨0, by omega, rfl, rfl⟩ ?_ ?_
  · refine Wk.trans (Wk.mvbox 1 0 2 62 5 72 (nds (B 0)) rfl rfl rfl rfl) ?_
    refine Wk.trans (Wk.mvbox 4 0 5 3 1 8 (rowN (R 0)) rfl rfl rfl rfl) ?_
    exact Wk.sel [0, 1, 2, 3, 4, 5, 6, 7, 8, 9] (by decide) (by decide) (by decide) ⟨rfl, rfl, rfl, rfl, rfl, rfl, rfl, rfl, rfl, rfl, trivial⟩ ⟨rfl, rfl, rfl, rfl, rfl, trivial⟩ rfl
  rintro m tm H ⟨j, hj, rfl, rfl⟩
  conv => whnf
  refine ⟨fun hc => ?_, fun hc => ?_⟩
  · replace hc : (j : Int) < (dcs S).length := of_decide_eq_true hc
    obtain ⟨d, hd⟩ : ∃ d, S[j]? = some d := ⟨S[j]'(by omega), List.getElem?_eq_getElem (by omega)⟩
    have hdc := dcs_at hd
    have hy := hyS j d hd
    obtain ⟨s', ⟨k', l', n', us'⟩, i'⟩ := d
    dsimp only at hy
    rw [tv_mk] at hy
    conv => whnf
    refine ⟨_, ⟨by omega, hdc⟩, ?_⟩
    conv => whnf
    refine ⟨show 6 ≤ 6 by decide, ?_⟩
    conv => whnf
    repeat (first | (refine And.intro rfl ?_; conv => whnf) | (refine And.intro (by decide) ?_; conv => whnf) | (refine draw_intro true (by kernel_rfl) ?_; conv => whnf) | (refine And.intro ⟨by omega, by omega⟩ ?_; conv => whnf) | (refine And.intro (by omega) ?_; conv => whnf) | (refine And.intro (fun _ => ⟨by omega, by omega⟩) ?_; conv => whnf) | (refine And.intro (of_decide_eq_true rfl) ?_; conv => whnf) | (refine And.intro (fun _ => ?_) (fun h => absurd h ?_); rotate_left; (focus (first | decide | (simp; done) | (simp [tcs]; done))); conv => whnf) | (refine And.intro (fun h => absurd h ?_) (fun _ => ?_); (focus (first | decide | (simp; done) | (simp [tcs]; done))); conv => whnf) | (intro _; conv => whnf))
    try (refine draw_intro true (by kernel_rfl) ?_; conv => whnf)
    refine YSt.use hy [1, 8, 3, 4, 9, 6, 7] rfl ⟨rfl, rfl, rfl, rfl, rfl, rfl, rfl, trivial⟩ (by decide) rfl ?_
    rintro _ _ ⟨rfl, rfl⟩ _
    conv => whnf
    repeat (first | (refine And.intro rfl ?_; conv => whnf) | (refine And.intro (by decide) ?_; conv => whnf) | (refine draw_intro true (by kernel_rfl) ?_; conv => whnf) | (refine And.intro ⟨by omega, by omega⟩ ?_; conv => whnf) | (refine And.intro (by omega) ?_; conv => whnf) | (refine And.intro (fun _ => ⟨by omega, by omega⟩) ?_; conv => whnf) | (refine And.intro (of_decide_eq_true rfl) ?_; conv => whnf) | (refine And.intro (fun _ => ?_) (fun h => absurd h ?_); rotate_left; (focus (first | decide | (simp; done) | (simp [tcs]; done))); conv => whnf) | (refine And.intro (fun h => absurd h ?_) (fun _ => ?_); (focus (first | decide | (simp; done) | (simp [tcs]; done))); conv => whnf) | (intro _; conv => whnf))
    refine ⟨m - 1, _, _, by omega, ⟨j + 1, by omega, rfl, rfl⟩, Wk.sel [0, 1, 2, 3, 4, 5, 6, 7, 11, 12] (by decide) (by decide) (by decide) ⟨rfl, rfl, rfl, rfl, rfl, rfl, rfl, rfl, rfl, rfl, trivial⟩ ⟨rfl, rfl, rfl, rfl, rfl, trivial⟩ rfl⟩
  · replace hc : ¬ (j : Int) < (dcs S).length := of_decide_eq_false hc
    obtain rfl : j = S.length := by omega
    conv => whnf
    repeat (first | (refine And.intro rfl ?_; conv => whnf) | (refine And.intro (by decide) ?_; conv => whnf) | (refine draw_intro true (by kernel_rfl) ?_; conv => whnf) | (refine And.intro ⟨by omega, by omega⟩ ?_; conv => whnf) | (refine And.intro (by omega) ?_; conv => whnf) | (refine And.intro (fun _ => ⟨by omega, by omega⟩) ?_; conv => whnf) | (refine And.intro (of_decide_eq_true rfl) ?_; conv => whnf) | (refine And.intro (fun _ => ?_) (fun h => absurd h ?_); rotate_left; (focus (first | decide | (simp; done) | (simp [tcs]; done))); conv => whnf) | (refine And.intro (fun h => absurd h ?_) (fun _ => ?_); (focus (first | decide | (simp; done) | (simp [tcs]; done))); conv => whnf) | (intro _; conv => whnf))
    refine loop_intro (fun m tm H => ∃ (j q : Nat), X.length = m + j ∧ q = S.length + j ∧ tm = [(23, .c (.int .i64 (j))), (22, .c (.int .i64 ((tcs X).length))), (21, .c (.sl 4 48 (tcs X))), (0, .yv 6), (1, .ptr 0 0)] ∧ H = [.box [.c (.sl 6 72 (dcs S)), .c (.sl 4 48 (tcs X)), .c (.int .i64 (k)), .c (.int .i64 (l)), .c (.int .i64 (n)), .c (.sl 4 48 (tcs ts)), .c (.int .i64 (k2)), .c (.int .i64 (l2)), .c (.int .i64 (n2)), .c (.sl 4 48 (tcs us))], .box [.own 8, .mpv 3, .c (.int .i64 (a q))], .dead, .mp true (.n (atF (B q))), .box [.own 9], .dead, .lrec .ready [(4, .ptr 7 0), (5, .ptr 4 0)] ps asg body, .box [.ptr 1 0], .row 62 5 72 (nds (B q)), .row 3 1 8 (rowN (R q))])
      X.length _ _ ⟨0, S.length, by omega, rfl, rfl, rfl⟩ (Wk.sel [0, 1, 2, 3, 4, 5, 6, 7, 8, 9] (by decide) (by decide) (by decide) ⟨rfl, rfl, rfl, rfl, rfl, rfl, rfl, rfl, rfl, rfl, trivial⟩ ⟨rfl, rfl, rfl, rfl, rfl, trivial⟩ rfl) ?_
    rintro m tm H ⟨j, q, hj, hq, rfl, rfl⟩
    conv => whnf
    refine ⟨fun hc => ?_, fun hc => ?_⟩
    · replace hc : (j : Int) < (tcs X).length := of_decide_eq_true hc
      obtain ⟨u, hu⟩ : ∃ u, X[j]? = some u := ⟨X[j]'(by omega), List.getElem?_eq_getElem (by omega)⟩
      have huc := tcs_at X j u hu
      have hy := hyX j u hu
      rw [← hq] at hy
      obtain ⟨k', l', n', us'⟩ := u
      rw [tv_mk] at hy
      conv => whnf
      refine ⟨_, ⟨by omega, by simpa using huc⟩, ?_⟩
      conv => whnf
      refine ⟨Nat.le_refl 4, ?_⟩
      conv => whnf
      repeat (first | (refine And.intro rfl ?_; conv => whnf) | (refine And.intro (by decide) ?_; conv => whnf) | (refine draw_intro true (by kernel_rfl) ?_; conv => whnf) | (refine And.intro ⟨by omega, by omega⟩ ?_; conv => whnf) | (refine And.intro (by omega) ?_; conv => whnf) | (refine And.intro (fun _ => ⟨by omega, by omega⟩) ?_; conv => whnf) | (refine And.intro (of_decide_eq_true rfl) ?_; conv => whnf) | (refine And.intro (fun _ => ?_) (fun h => absurd h ?_); rotate_left; (focus (first | decide | (simp; done) | (simp [tcs]; done))); conv => whnf) | (refine And.intro (fun h => absurd h ?_) (fun _ => ?_); (focus (first | decide | (simp; done) | (simp [tcs]; done))); conv => whnf) | (intro _; conv => whnf))
      try (refine draw_intro true (by kernel_rfl) ?_; conv => whnf)
      refine YSt.use hy [1, 8, 3, 4, 9, 6, 7] rfl ⟨rfl, rfl, rfl, rfl, rfl, rfl, rfl, trivial⟩ (by decide) rfl ?_
      rintro _ _ ⟨rfl, rfl⟩ _
      conv => whnf
      repeat (first | (refine And.intro rfl ?_; conv => whnf) | (refine And.intro (by decide) ?_; conv => whnf) | (refine draw_intro true (by kernel_rfl) ?_; conv => whnf) | (refine And.intro ⟨by omega, by omega⟩ ?_; conv => whnf) | (refine And.intro (by omega) ?_; conv => whnf) | (refine And.intro (fun _ => ⟨by omega, by omega⟩) ?_; conv => whnf) | (refine And.intro (of_decide_eq_true rfl) ?_; conv => whnf) | (refine And.intro (fun _ => ?_) (fun h => absurd h ?_); rotate_left; (focus (first | decide | (simp; done) | (simp [tcs]; done))); conv => whnf) | (refine And.intro (fun h => absurd h ?_) (fun _ => ?_); (focus (first | decide | (simp; done) | (simp [tcs]; done))); conv => whnf) | (intro _; conv => whnf))
      refine ⟨m - 1, _, _, by omega, ⟨j + 1, q + 1, by omega, by omega, rfl, rfl⟩, Wk.sel [0, 1, 2, 3, 4, 5, 6, 7, 11, 12] (by decide) (by decide) (by decide) ⟨rfl, rfl, rfl, rfl, rfl, rfl, rfl, rfl, rfl, rfl, trivial⟩ ⟨rfl, rfl, rfl, rfl, rfl, trivial⟩ rfl⟩
    · replace hc : ¬ (j : Int) < (tcs X).length := of_decide_eq_false hc
      obtain rfl : j = X.length := by omega
      subst hq
      conv => whnf
      repeat (first | (refine And.intro rfl ?_; conv => whnf) | (refine And.intro (by decide) ?_; conv => whnf) | (refine draw_intro true (by kernel_rfl) ?_; conv => whnf) | (refine And.intro ⟨by omega, by omega⟩ ?_; conv => whnf) | (refine And.intro (by omega) ?_; conv => whnf) | (refine And.intro (fun _ => ⟨by omega, by omega⟩) ?_; conv => whnf) | (refine And.intro (of_decide_eq_true rfl) ?_; conv => whnf) | (refine And.intro (fun _ => ?_) (fun h => absurd h ?_); rotate_left; (focus (first | decide | (simp; done) | (simp [tcs]; done))); conv => whnf) | (refine And.intro (fun h => absurd h ?_) (fun _ => ?_); (focus (first | decide | (simp; done) | (simp [tcs]; done))); conv => whnf) | (intro _; conv => whnf))
      have hyo2 : YSt Tryz.prog 6 [.agg [.c (.int .i64 (k)), .c (.int .i64 (l)), .c (.int .i64 (n)), .c (.sl 4 48 (tcs ts))]] [.box [.c (.sl 6 72 (dcs S)), .c (.sl 4 48 (tcs X)), .c (.int .i64 (k)), .c (.int .i64 (l)), .c (.int .i64 (n)), .c (.sl 4 48 (tcs ts)), .c (.int .i64 (k2)), .c (.int .i64 (l2)), .c (.int .i64 (n2)), .c (.sl 4 48 (tcs us))], .box [.own 8, .mpv 3, .c (.int .i64 (a (S.length + X.length)))], .dead, .mp true (.n (atF (B (S.length + X.length)))), .box [.own 9], .dead, .lrec .ready [(4, .ptr 7 0), (5, .ptr 4 0)] ps asg body, .box [.ptr 1 0], .row 62 5 72 (nds (B (S.length + X.length))), .row 3 1 8 (rowN (R (S.length + X.length)))] (fun r H' => r = .c (.bool true) ∧ H' = [.box [.c (.sl 6 72 (dcs S)), .c (.sl 4 48 (tcs X)), .c (.int .i64 (k)), .c (.int .i64 (l)), .c (.int .i64 (n)), .c (.sl 4 48 (tcs ts)), .c (.int .i64 (k2)), .c (.int .i64 (l2)), .c (.int .i64 (n2)), .c (.sl 4 48 (tcs us))], .box [.own 10, .mpv 3, .c (.int .i64 (a (S.length + X.length + 1)))], .dead, .mp true (.n (atF (B (S.length + X.length + 1)))), .box [.own 11], .dead, .lrec .ready [(4, .ptr 7 0), (5, .ptr 4 0)] ps asg body, .box [.ptr 1 0], .dead, .dead, .row 62 5 72 (nds (B (S.length + X.length + 1))), .row 3 1 8 (rowN (R (S.length + X.length + 1)))]) := by
        refine YSt.use hyo [1, 8, 3, 4, 9, 6, 7] rfl ⟨rfl, rfl, rfl, rfl, rfl, rfl, rfl, trivial⟩ (by decide) rfl ?_
        rintro _ _ ⟨rfl, rfl⟩ _
        exact ⟨rfl, rfl⟩
      have hyc2 : YSt Tryz.prog 6 [.agg [.c (.int .i64 (k2)), .c (.int .i64 (l2)), .c (.int .i64 (n2)), .c (.sl 4 48 (tcs us))]] [.box [.c (.sl 6 72 (dcs S)), .c (.sl 4 48 (tcs X)), .c (.int .i64 (k)), .c (.int .i64 (l)), .c (.int .i64 (n)), .c (.sl 4 48 (tcs ts)), .c (.int .i64 (k2)), .c (.int .i64 (l2)), .c (.int .i64 (n2)), .c (.sl 4 48 (tcs us))], .box [.own 10, .mpv 3, .c (.int .i64 (a (S.length + X.length + 1)))], .dead, .mp true (.n (atF (B (S.length + X.length + 1)))), .box [.own 11], .dead, .lrec .ready [(4, .ptr 7 0), (5, .ptr 4 0)] ps asg body, .box [.ptr 1 0], .dead, .dead, .row 62 5 72 (nds (B (S.length + X.length + 1))), .row 3 1 8 (rowN (R (S.length + X.length + 1)))] (fun r H' => r = .c (.bool true) ∧ H' = [.box [.c (.sl 6 72 (dcs S)), .c (.sl 4 48 (tcs X)), .c (.int .i64 (k)), .c (.int .i64 (l)), .c (.int .i64 (n)), .c (.sl 4 48 (tcs ts)), .c (.int .i64 (k2)), .c (.int .i64 (l2)), .c (.int .i64 (n2)), .c (.sl 4 48 (tcs us))], .box [.own 12, .mpv 3, .c (.int .i64 (a (S.length + X.length + 2)))], .dead, .mp true (.n (atF (B (S.length + X.length + 2)))), .box [.own 13], .dead, .lrec .ready [(4, .ptr 7 0), (5, .ptr 4 0)] ps asg body, .box [.ptr 1 0], .dead, .dead, .dead, .dead, .row 62 5 72 (nds (B (S.length + X.length + 2))), .row 3 1 8 (rowN (R (S.length + X.length + 2)))]) := by
        refine YSt.use hyc [1, 10, 3, 4, 11, 6, 7] rfl ⟨rfl, rfl, rfl, rfl, rfl, rfl, rfl, trivial⟩ (by decide) rfl ?_
        rintro _ _ ⟨rfl, rfl⟩ _
        exact ⟨rfl, rfl⟩
      try (refine draw_intro true (by kernel_rfl) ?_; conv => whnf)
      refine YSt.mono hyo2 ?_
      rintro _ _ ⟨rfl, rfl⟩
      conv => whnf
      repeat (first | (refine And.intro rfl ?_; conv => whnf) | (refine And.intro (by decide) ?_; conv => whnf) | (refine draw_intro true (by kernel_rfl) ?_; conv => whnf) | (refine And.intro ⟨by omega, by omega⟩ ?_; conv => whnf) | (refine And.intro (by omega) ?_; conv => whnf) | (refine And.intro (fun _ => ⟨by omega, by omega⟩) ?_; conv => whnf) | (refine And.intro (of_decide_eq_true rfl) ?_; conv => whnf) | (refine And.intro (fun _ => ?_) (fun h => absurd h ?_); rotate_left; (focus (first | decide | (simp; done) | (simp [tcs]; done))); conv => whnf) | (refine And.intro (fun h => absurd h ?_) (fun _ => ?_); (focus (first | decide | (simp; done) | (simp [tcs]; done))); conv => whnf) | (intro _; conv => whnf))
      try (refine draw_intro true (by kernel_rfl) ?_; conv => whnf)
      refine YSt.mono hyc2 ?_
      rintro _ _ ⟨rfl, rfl⟩
      conv => whnf
      repeat (first | (refine And.intro rfl ?_; conv => whnf) | (refine And.intro (by decide) ?_; conv => whnf) | (refine draw_intro true (by kernel_rfl) ?_; conv => whnf) | (refine And.intro ⟨by omega, by omega⟩ ?_; conv => whnf) | (refine And.intro (by omega) ?_; conv => whnf) | (refine And.intro (fun _ => ⟨by omega, by omega⟩) ?_; conv => whnf) | (refine And.intro (of_decide_eq_true rfl) ?_; conv => whnf) | (refine And.intro (fun _ => ?_) (fun h => absurd h ?_); rotate_left; (focus (first | decide | (simp; done) | (simp [tcs]; done))); conv => whnf) | (refine And.intro (fun h => absurd h ?_) (fun _ => ?_); (focus (first | decide | (simp; done) | (simp [tcs]; done))); conv => whnf) | (intro _; conv => whnf))
      refine ⟨[], [.box [.c (.sl 6 72 (dcs S)), .c (.sl 4 48 (tcs X)), .c (.int .i64 (k)), .c (.int .i64 (l)), .c (.int .i64 (n)), .c (.sl 4 48 (tcs ts)), .c (.int .i64 (k2)), .c (.int .i64 (l2)), .c (.int .i64 (n2)), .c (.sl 4 48 (tcs us))], .box [.own 8, .mpv 3, .c (.int .i64 (a (S.length + X.length + 2)))], .dead, .mp true (.n (atF (B (S.length + X.length + 2)))), .box [.own 9], .dead, .lrec .ready [(4, .ptr 7 0), (5, .ptr 4 0)] ps asg body, .box [.ptr 1 0], .row 62 5 72 (nds (B (S.length + X.length + 2))), .row 3 1 8 (rowN (R (S.length + X.length + 2)))], Wk.sel [0, 1, 2, 3, 4, 5, 6, 7, 12, 13] (by decide) (by decide) (by decide) ⟨rfl, rfl, rfl, rfl, rfl, rfl, rfl, rfl, rfl, rfl, trivial⟩ trivial rfl, ?_⟩
      conv => whnf
      exact ⟨rfl, rfl⟩
end Go.Tr
/- What is handed in: certificates. -/
namespace Go.Tr
open Go.Proofs
/-- A certificate's cells. -/
def crc (c : Crt) : List CV := [.sl 6 72 (dcs c.S), .sl 4 48 (tcs c.X), .int .i64 c.o.k, .int .i64 c.o.l, .int .i64 c.o.n, .sl 4 48 (tcs c.o.ts), .int .i64 c.c.k, .int .i64 c.c.l, .int .i64 c.c.n, .sl 4 48 (tcs c.c.ts)]
theorem map_tc19 : ∀ l : List Term, l.map tc = tcs l
  | [] => rfl
  | a :: r => by
    rw [List.map_cons, map_tc19 r, tcs]
theorem sh_cert : ∀ (n : Nat) {xs : List CV}, Sh (lkT tab) n 27 xs → ∃ c, xs = crc c := by
  intro n xs h
  obtain ⟨m, rfl, a, b, rfl, h0, c, e, rfl, h1, f, g, rfl, h2, p, q, rfl, h3, rfl⟩ := sh_struct (fs := [(0, 22), (1, 23), (2, 25), (6, 25)]) rfl h
  obtain ⟨S, rfl, _⟩ := sh_sig h0
  obtain ⟨m2, es, rfl, rfl, _, h4⟩ := sh_slice (e := 25) rfl h1
  obtain ⟨X, rfl⟩ := map_choose (f := tc) es fun r hr => sh_term m2 (h4 r hr)
  obtain ⟨t, rfl⟩ := sh_term _ h2
  obtain ⟨u, rfl⟩ := sh_term _ h3
  have e : X.map tc = tcs X := map_tc19 X
  rw [e]
  obtain ⟨k, l, x, ts⟩ := t
  obtain ⟨k2, l2, x2, us⟩ := u
  exact ⟨⟨S, X, .mk k l x ts, .mk k2 l2 x2 us⟩, rfl⟩
theorem crv_av (k : List (Nat × TypeId)) (c : Crt) : avOf (.struct k) (crc c) = crv c := rfl
def argTypesE : List TypeId := [3, 9, 23, 25, 49, 22, 27]
theorem arg_okE : argTypesE.all (cl1 (lkT tab) argTypesE) = true := by decide
section
variable {H : Type} {enc : TypeId × Value → H} {W : World} {base : Nat} {v : Value} {d : DataW H} {ps : List MemPlace}
set_option maxRecDepth 100000 in
theorem arg_cert (hval : Value.okWide Tryz.prog W .any base 27 v) (h : DataW.Trod enc Tryz.prog W 0 (fun _ => true) true 27 v d ps)
    (hw : ∀ n ∈ d.weights Tryz.prog 27, n ≤ reachBytes) : ∃ c : Crt, AVR W.heap noS (fun _ => .none) (crv c) v := by
  obtain ⟨fuel, xs, hs, a⟩ := open_arg (env_ok 0) arg_okE (by decide) hval h hw
  obtain ⟨c, rfl⟩ := sh_cert fuel hs
  exact ⟨c, by rw [← crv_av [(0, 22), (1, 23), (2, 25), (6, 25)]]; exact a⟩
end
end Go.Tr
/- cert: newNodes. -/
namespace Go.Tr
open Go.Proofs
/-- What a certificate's terms must be like for its nodes. -/
structure Sane (c : Crt) : Prop where
  S : c.S.length ≤ 100
  X : c.X.length ≤ 100
  t : ∀ t ∈ crl c, wf t ∧ szT t ≤ 600
theorem szL_all : ∀ (ts : List Term), (∀ t ∈ ts, szT t ≤ 600) → szL ts ≤ 600 * ts.length
  | [], _ => by simp [szL]
  | t :: r, h => by
    have := szL_all r fun u hu => h u (by simp [hu])
    have := h t (by simp)
    simp only [szL, List.length_cons]
    omega
/-- The nodes before round n, and the places of the terms. -/
def bk (c : Crt) (n : Nat) : List Term := adL ((crl c).take n) []
def rt (c : Crt) (n : Nat) : List Nat := ((crl c).take n).map (pl (bk c n))
theorem bk_good {c : Crt} (h : Sane c) (n : Nat) : Good (bk c n) ∧ (∀ t ∈ (crl c).take n, t ∈ bk c n) ∧ ((bk c n).length : Int) ≤ szL ((crl c).take n) := by
  obtain ⟨h1, _, h3, h4⟩ := adL_spec ((crl c).take n) [] Good.nil fun t ht => (h.t t (List.mem_of_mem_take ht)).1
  exact ⟨h1, h3, by simpa [bk] using h4⟩
theorem bk_step {c : Crt} {n : Nat} {t : Term} (ht : (crl c)[n]? = some t) : bk c (n + 1) = adT t (bk c n) := adL_take _ _ _ _ ht
theorem rt_step {c : Crt} (h : Sane c) {n : Nat} {t : Term} (ht : (crl c)[n]? = some t) : rt c (n + 1) = rt c n ++ [pl (adT t (bk c n)) t] := by
  obtain ⟨h1, h2, _⟩ := bk_good h n
  obtain ⟨_, q2, _⟩ := adT_spec t (bk c n) h1 (h.t t (List.mem_of_getElem? ht)).1
  unfold rt
  rw [List.take_add_one, ht, List.map_append, bk_step ht]
  congr 1
  obtain ⟨C, hC⟩ := q2
  rw [← hC]
  exact List.map_congr_left fun v hv => pl_app (h2 v hv)
theorem bk0 (c : Crt) : bk c 0 = [] := by simp [bk, adL]
theorem rt0 (c : Crt) : rt c 0 = [] := by simp [rt]
theorem cNewNodes (c : Crt) (h : Sane c) : CallSt Tryz.prog 25 [crv c] [] (fun r H' => r = .tup [.ptr 0 0, .c (.sl 1 8 (rowN (rt c (crl c).length)))] ∧
    H' = [.box [.own 1, .mpv 2, .c (.int .i64 (szL (crl c)))], .row 62 5 72 (nds (bk c (crl c).length)), .mp true (.n (atF (bk c (crl c).length))), .frz (.sl 1 8 (rowN (rt c (crl c).length)))]) := by
  have hti := cTermsI c
  have hIt := fun {ps} {asg} {body} => @cTermsN ps asg body c h.S h.X (bk c) (fun n => szL ((crl c).take n)) (rt c)
  simp only [bk0, rt0, atF_nil, List.take_zero, List.take_length] at hIt
  have hstep := fun n t (ht : (crl c)[n]? = some t) => rt_step h ht
  have hbstep := fun n t (ht : (crl c)[n]? = some t) => bk_step ht
  have hsstep := fun n t (ht : (crl c)[n]? = some t) => szL_take _ n t ht
  have hgood := bk_good h
  have hRlen : ∀ q, (rt c q).length ≤ (crl c).length := fun q => by unfold rt; rw [List.length_map, List.length_take]; omega
  have htt := h.t
  have hcl := crl_len c
  have hS := h.S
  have hX := h.X
  clear h
  generalize crl c = l at *
  generalize bk c = B at *
  generalize rt c = R at *
  obtain ⟨S, X, ⟨k, h, n, ts⟩, ⟨k2, l2, n2, us⟩⟩ := c
  unfold crv at *
  dsimp only [Term.k, Term.l, Term.n, Term.ts] at *
  refine call_wk (E := env 0) (fn := Tryz.f25) (c := bodyOf Tryz.f25) (env_ok 0) mixed (by kernel_rfl) (by kernel_rfl) (by kernel_rfl) (by kernel_rfl) (by kernel_rfl) (by kernel_rfl) rfl true ?_
  conv => whnf
  repeat (first | (refine And.intro rfl ?_; conv => whnf) | (refine And.intro (by decide) ?_; conv => whnf) | (refine draw_intro true (by kernel_rfl) ?_; conv => whnf) | (refine And.intro ⟨by omega, by omega⟩ ?_; conv => whnf) | (refine And.intro (by omega) ?_; conv => whnf) | (refine And.intro (fun _ => ⟨by omega, by omega⟩) ?_; conv => whnf) | (refine And.intro (of_decide_eq_true rfl) ?_; conv => whnf) | (refine And.intro (fun _ => ?_) (fun h => absurd h ?_); rotate_left; (focus (first | decide | (simp; done) | (simp [tcs]; done))); conv => whnf) | (refine And.intro (fun h => absurd h ?_) (fun _ => ?_); (focus (first | decide | (simp; done) | (simp [tcs]; done))); conv => whnf) | (intro _; conv => whnf))
  try (refine draw_intro true (by kernel_rfl) ?_; conv => whnf)
  first | refine CallSt.use hti [] trivial (by decide) rfl ?_ | refine CallPt.useS hti [] trivial (by decide) rfl ?_
  rintro _ _ ⟨rfl, rfl⟩ _
  conv => whnf
  repeat (first | (refine And.intro rfl ?_; conv => whnf) | (refine And.intro (by decide) ?_; conv => whnf) | (refine draw_intro true (by kernel_rfl) ?_; conv => whnf) | (refine And.intro ⟨by omega, by omega⟩ ?_; conv => whnf) | (refine And.intro (by omega) ?_; conv => whnf) | (refine And.intro (fun _ => ⟨by omega, by omega⟩) ?_; conv => whnf) | (refine And.intro (of_decide_eq_true rfl) ?_; conv => whnf) | (refine And.intro (fun _ => ?_) (fun h => absurd h ?_); rotate_left; (focus (first | decide | (simp; done) | (simp [tcs]; done))); conv => whnf) | (refine And.intro (fun h => absurd h ?_) (fun _ => ?_); (focus (first | decide | (simp; done) | (simp [tcs]; done))); conv => whnf) | (intro _; conv => whnf))
  refine CallSt.wkl 6 [(4, .ptr 3 0), (5, .ptr 4 0)] rfl (subTM_lk ⟨rfl, rfl, trivial⟩) ?_
  refine CallSt.wk _ (Wk.trans (Wk.nilrow (i := 2) (j := 0) 62 5 72 rfl rfl rfl) (Wk.nilrow (i := 4) (j := 0) 3 1 8 rfl rfl rfl)) ?_
  refine CallSt.use (hIt ?_) [5, 2, 7, 1, 4, 8, 6, 3] ⟨rfl, rfl, rfl, rfl, rfl, rfl, rfl, rfl, trivial⟩ (by decide) rfl ?_
  · intro q t ht
    have hm := List.mem_of_getElem? ht
    have hql := (List.getElem?_eq_some_iff.1 ht).1
    obtain ⟨g1, g2, g3⟩ := hgood q
    have htm := htt t hm
    have htp := szT_pos t
    have hsn := szL_pos (l.take q)
    have hsa := szL_all (l.take q) fun u hu => (htt u (List.mem_of_mem_take hu)).2
    have hlt : (l.take q).length ≤ 202 := by rw [List.length_take]; omega
    have hadd := cAddN t (B q) (szL (l.take q)) g1 htm.1 (by omega) (by omega)
    rw [hbstep q t ht, hstep q t ht, hsstep q t ht, ← rowN_map_snoc]
    have hRl := hRlen q
    have hRn := rowN_len (R q)
    have hb1 : ((rowN (R q)).length + 1) * 8 ≤ 140737488355328 := by omega
    have hb2 : (rowN (R q)).length + 1 ≤ 9223372036854775807 := by omega
    generalize adT t (B q) = B2 at *
    generalize B q = B1 at *
    generalize pl B2 t = p at *
    obtain ⟨k', l', n', us'⟩ := t
    rw [tv_mk] at *
    refine y_wk (E := envY 7) (envY_ok 7) mixed rfl rfl (i := 5) rfl rfl rfl ?_
    conv => whnf
    repeat (first | (refine And.intro rfl ?_; conv => whnf) | (refine And.intro (by decide) ?_; conv => whnf) | (refine draw_intro true (by kernel_rfl) ?_; conv => whnf) | (refine And.intro ⟨by omega, by omega⟩ ?_; conv => whnf) | (refine And.intro (by omega) ?_; conv => whnf) | (refine And.intro (fun _ => ⟨by omega, by omega⟩) ?_; conv => whnf) | (refine And.intro (of_decide_eq_true rfl) ?_; conv => whnf) | (refine And.intro (fun _ => ?_) (fun h => absurd h ?_); rotate_left; (focus (first | decide | (simp; done) | (simp [tcs]; done))); conv => whnf) | (refine And.intro (fun h => absurd h ?_) (fun _ => ?_); (focus (first | decide | (simp; done) | (simp [tcs]; done))); conv => whnf) | (intro _; conv => whnf))
    try (refine draw_intro true (by kernel_rfl) ?_; conv => whnf)
    first | refine CallSt.use hadd [0, 1, 2] ⟨rfl, rfl, rfl, trivial⟩ (by decide) rfl ?_ | refine CallPt.useS hadd [0, 1, 2] ⟨rfl, rfl, rfl, trivial⟩ (by decide) rfl ?_
    rintro _ _ ⟨rfl, rfl⟩ _
    conv => whnf
    repeat (first | (refine And.intro rfl ?_; conv => whnf) | (refine And.intro (by decide) ?_; conv => whnf) | (refine draw_intro true (by kernel_rfl) ?_; conv => whnf) | (refine And.intro ⟨by omega, by omega⟩ ?_; conv => whnf) | (refine And.intro (by omega) ?_; conv => whnf) | (refine And.intro (fun _ => ⟨by omega, by omega⟩) ?_; conv => whnf) | (refine And.intro (of_decide_eq_true rfl) ?_; conv => whnf) | (refine And.intro (fun _ => ?_) (fun h => absurd h ?_); rotate_left; (focus (first | decide | (simp; done) | (simp [tcs]; done))); conv => whnf) | (refine And.intro (fun h => absurd h ?_) (fun _ => ?_); (focus (first | decide | (simp; done) | (simp [tcs]; done))); conv => whnf) | (intro _; conv => whnf))
    refine ⟨[], [.box [.own 7, .mpv 2, .c (.int .i64 (szL (l.take q) + szT (.mk k' l' n' us')))], .dead, .mp true (.n (atF B2)), .box [.own 8], .dead, .lrec .busy [(4, .ptr 6 0), (5, .ptr 3 0)] _ _ _, .box [.ptr 0 0], .row 62 5 72 (nds B2), .row 3 1 8 (rowN (R q) ++ [[.int .i64 (p : Int)]])],
      Wk.sel [0, 1, 2, 3, 4, 5, 6, 8, 10] (by decide) (by decide) (by decide) ⟨rfl, rfl, rfl, rfl, rfl, rfl, rfl, rfl, rfl, trivial⟩ trivial rfl, ?_⟩
    conv => whnf
    exact ⟨rfl, rfl⟩
  rintro _ _ ⟨rfl, rfl⟩ _
  conv => whnf
  repeat (first | (refine And.intro rfl ?_; conv => whnf) | (refine And.intro (by decide) ?_; conv => whnf) | (refine draw_intro true (by kernel_rfl) ?_; conv => whnf) | (refine And.intro ⟨by omega, by omega⟩ ?_; conv => whnf) | (refine And.intro (by omega) ?_; conv => whnf) | (refine And.intro (fun _ => ⟨by omega, by omega⟩) ?_; conv => whnf) | (refine And.intro (of_decide_eq_true rfl) ?_; conv => whnf) | (refine And.intro (fun _ => ?_) (fun h => absurd h ?_); rotate_left; (focus (first | decide | (simp; done) | (simp [tcs]; done))); conv => whnf) | (refine And.intro (fun h => absurd h ?_) (fun _ => ?_); (focus (first | decide | (simp; done) | (simp [tcs]; done))); conv => whnf) | (intro _; conv => whnf))
  refine ⟨[(2, .ptr 0 0), (3, .own 3)], [.box [.own 1, .mpv 2, .c (.int .i64 (szL l))], .row 62 5 72 (nds (B l.length)), .mp true (.n (atF (B l.length))), .row 3 1 8 (rowN (R l.length))], Wk.sel [2, 9, 1, 10] (by decide) (by decide) (by decide) ⟨rfl, rfl, rfl, rfl, trivial⟩ ⟨rfl, rfl, trivial⟩ rfl, ?_⟩
  conv => whnf
  exact ⟨rfl, rfl⟩
end Go.Tr
/- cert: Built. -/
namespace Go.Tr
open Go.Proofs
/-- A proper term without metavariables. -/
def closedT (t : Term) : Bool := prop t && decide ((conF 3 t).length = 0)
theorem cIsClosed (t : Term) : CallSt Tryz.prog 31 [tv t] [] (fun r H' => r = .c (.bool (closedT t)) ∧ H' = []) := by
  have h := cMetasP t
  have hl := len_rowI (conF 3 t)
  unfold closedT
  generalize conF 3 t = L at *
  cases hp : prop t with
  | false =>
    rw [hp] at h
    obtain ⟨k, l, n, ts⟩ := t
    rw [tv_mk] at *
    refine call_pure (E := env 0) (fn := Tryz.f31) (c := bodyOf Tryz.f31) (env_ok 0) mixed (by kernel_rfl) (by kernel_rfl) (by kernel_rfl) (by kernel_rfl) (by kernel_rfl) (by kernel_rfl) rfl ?_
    conv => whnf
    try (refine draw_intro true (by kernel_rfl) ?_; conv => whnf)
    first | refine CallSt.use h [] trivial (by decide) rfl ?_ | refine CallPt.useS h [] trivial (by decide) rfl ?_
    rintro _ _ ⟨rfl, rfl⟩ _
    conv => whnf
    repeat (first | (refine And.intro rfl ?_; conv => whnf) | (refine And.intro (by decide) ?_; conv => whnf) | (refine draw_intro true (by kernel_rfl) ?_; conv => whnf) | (refine And.intro ⟨by omega, by omega⟩ ?_; conv => whnf) | (refine And.intro (by omega) ?_; conv => whnf) | (refine And.intro (fun _ => ⟨by omega, by omega⟩) ?_; conv => whnf) | (refine And.intro (of_decide_eq_true rfl) ?_; conv => whnf) | (refine And.intro (fun _ => ?_) (fun h => absurd h ?_); rotate_left; (focus (first | decide | (simp; done) | (simp [tcs]; done))); conv => whnf) | (refine And.intro (fun h => absurd h ?_) (fun _ => ?_); (focus (first | decide | (simp; done) | (simp [tcs]; done))); conv => whnf) | (intro _; conv => whnf))
    all_goals (first | rfl | exact ⟨rfl, rfl⟩ | exact ⟨rfl, rfl, rfl⟩)
  | true =>
    rw [hp] at h
    obtain ⟨k, l, n, ts⟩ := t
    rw [tv_mk] at *
    refine call_pure (E := env 0) (fn := Tryz.f31) (c := bodyOf Tryz.f31) (env_ok 0) mixed (by kernel_rfl) (by kernel_rfl) (by kernel_rfl) (by kernel_rfl) (by kernel_rfl) (by kernel_rfl) rfl ?_
    conv => whnf
    try (refine draw_intro true (by kernel_rfl) ?_; conv => whnf)
    first | refine CallSt.use h [] trivial (by decide) rfl ?_ | refine CallPt.useS h [] trivial (by decide) rfl ?_
    rintro _ _ ⟨rfl, rfl⟩ _
    conv => whnf
    repeat (first | (refine And.intro rfl ?_; conv => whnf) | (refine And.intro (by decide) ?_; conv => whnf) | (refine draw_intro true (by kernel_rfl) ?_; conv => whnf) | (refine And.intro ⟨by omega, by omega⟩ ?_; conv => whnf) | (refine And.intro (by omega) ?_; conv => whnf) | (refine And.intro (fun _ => ⟨by omega, by omega⟩) ?_; conv => whnf) | (refine And.intro (of_decide_eq_true rfl) ?_; conv => whnf) | (refine And.intro (fun _ => ?_) (fun h => absurd h ?_); rotate_left; (focus (first | decide | (simp; done) | (simp [tcs]; done))); conv => whnf) | (refine And.intro (fun h => absurd h ?_) (fun _ => ?_); (focus (first | decide | (simp; done) | (simp [tcs]; done))); conv => whnf) | (intro _; conv => whnf))
    exact ⟨congrArg (fun z => AV.c (CV.bool z)) (by rw [hl]; simp), rfl⟩
theorem cTermsG {ps : Array Nat} {asg body : Code} (c : Crt) (hS : c.S.length ≤ 100) (hX : c.X.length ≤ 100) (good : Nat → Bool)
    (hY : ∀ (n : Nat) (t : Term), (crl c)[n]? = some t → (∀ i, i < n → good i = true) → YSt Tryz.prog 1 [tv t] [.box [.c (.bool false)], .lrec .ready [(2, .ptr 0 0)] ps asg body]
      (fun r H' => (good n = true ∧ r = .c (.bool true) ∧ H' = [.box [.c (.bool false)], .lrec .ready [(2, .ptr 0 0)] ps asg body]) ∨ (good n = false ∧ r = .c (.bool false) ∧ H' = [.box [.c (.bool false)], .lrec .ret [(2, .ptr 0 0)] ps asg body]))) :
    CallSt Tryz.prog 56 [.yv 2, .ptr 0 0] [.box [.c (.sl 6 72 (dcs c.S)), .c (.sl 4 48 (tcs c.X)), .c (.int .i64 (c.o.k)), .c (.int .i64 (c.o.l)), .c (.int .i64 (c.o.n)), .c (.sl 4 48 (tcs c.o.ts)), .c (.int .i64 (c.c.k)), .c (.int .i64 (c.c.l)), .c (.int .i64 (c.c.n)), .c (.sl 4 48 (tcs c.c.ts))], .box [.c (.bool false)], .lrec .ready [(2, .ptr 1 0)] ps asg body]
      (fun r H' => r = .tup [] ∧ (((∀ n, n < (crl c).length → good n = true) ∧ H' = [.box [.c (.sl 6 72 (dcs c.S)), .c (.sl 4 48 (tcs c.X)), .c (.int .i64 (c.o.k)), .c (.int .i64 (c.o.l)), .c (.int .i64 (c.o.n)), .c (.sl 4 48 (tcs c.o.ts)), .c (.int .i64 (c.c.k)), .c (.int .i64 (c.c.l)), .c (.int .i64 (c.c.n)), .c (.sl 4 48 (tcs c.c.ts))], .box [.c (.bool false)], .lrec .ready [(2, .ptr 1 0)] ps asg body]) ∨
        ((∃ n, n < (crl c).length ∧ good n = false) ∧ H' = [.box [.c (.sl 6 72 (dcs c.S)), .c (.sl 4 48 (tcs c.X)), .c (.int .i64 (c.o.k)), .c (.int .i64 (c.o.l)), .c (.int .i64 (c.o.n)), .c (.sl 4 48 (tcs c.o.ts)), .c (.int .i64 (c.c.k)), .c (.int .i64 (c.c.l)), .c (.int .i64 (c.c.n)), .c (.sl 4 48 (tcs c.c.ts))], .box [.c (.bool false)], .lrec .ret [(2, .ptr 1 0)] ps asg body]))) := by
  have hds := len_dcs c.S
  have hxl := len_tcs c.X
  have hcl := crl_len c
  have hyS := fun n d (h : c.S[n]? = some d) => hY n d.c (crl_S h)
  have hyX := fun n t (h : c.X[n]? = some t) => hY _ t (crl_X h)
  have hyo := hY _ _ (crl_o c)
  have hyc := hY _ _ (crl_c c)
  clear hY
  rw [hcl]
  obtain ⟨S, X, ⟨k, l, n, ts⟩, ⟨k2, l2, n2, us⟩⟩ := c
  dsimp only [Term.k, Term.l, Term.n, Term.ts] at *
  rw [tv_mk] at hyo hyc
  refine call_trim (E := envK 3) (fn := Tryz.f56) (c := bodyOf Tryz.f56) (envK_ok 3) mixed (by kernel_rfl) (by kernel_rfl) (by kernel_rfl) (by kernel_rfl) (by kernel_rfl) (by kernel_rfl) rfl ?_
  conv => whnf
  repeat (first | (refine And.intro rfl ?_; conv => whnf) | (refine And.intro (by decide) ?_; conv => whnf) | (refine draw_intro true (by kernel_rfl) ?_; conv => whnf) | (refine And.intro ⟨by omega, by omega⟩ ?_; conv => whnf) | (refine And.intro (by omega) ?_; conv => whnf) | (refine And.intro (fun _ => ⟨by omega, by omega⟩) ?_; conv => whnf) | (refine And.intro (of_decide_eq_true rfl) ?_; conv => whnf) | (refine And.intro (fun _ => ?_) (fun h => absurd h ?_); rotate_left; (focus (first | decide | (simp; done) | (simp [tcs]; done))); conv => whnf) | (refine And.intro (fun h => absurd h ?_) (fun _ => ?_); (focus (first | decide | (simp; done) | (simp [tcs]; done))); conv => whnf) | (intro _; conv => whnf))
  refine loop_intro (fun m tm H => ∃ (j : Nat), S.length = m + j ∧ (∀ i, i < j → good i = true) ∧ tm = [(10, .c (.int .i64 (j))), (9, .c (.int .i64 ((dcs S).length))), (8, .c (.sl 6 72 (dcs S))), (0, .yv 2), (1, .ptr 0 0)] ∧
      H = [.box [.c (.sl 6 72 (dcs S)), .c (.sl 4 48 (tcs X)), .c (.int .i64 (k)), .c (.int .i64 (l)), .c (.int .i64 (n)), .c (.sl 4 48 (tcs ts)), .c (.int .i64 (k2)), .c (.int .i64 (l2)), .c (.int .i64 (n2)), .c (.sl 4 48 (tcs us))], .box [.c (.bool false)], .lrec .ready [(2, .ptr 1 0)] ps asg body])
    S.length _ _ ⟨0, by omega, fun i hi => absurd hi (by omega), rfl, rfl⟩ (Wk.sel [0, 1, 2] (by decide) (by first | decide | (show (0 : Nat) ≤ _; decide) | (show ∀ i, i < 0 → _; decide) | (show (1 : Nat) ≤ _; decide) | (show ∀ i, i < 1 → _; decide) | (show (2 : Nat) ≤ _; decide) | (show ∀ i, i < 2 → _; decide) | (show (3 : Nat) ≤ _; decide) | (show ∀ i, i < 3 → _; decide) | (show (4 : Nat) ≤ _; decide) | (show ∀ i, i < 4 → _; decide) | (show (5 : Nat) ≤ _; decide) | (show ∀ i, i < 5 → _; decide) | (show (6 : Nat) ≤ _; decide) | (show ∀ i, i < 6 → _; decide) | (show (7 : Nat) ≤ _; decide) | (show ∀ i, i < 7 → _; decide)) (by first | decide | (show (0 : Nat) ≤ _; decide) | (show ∀ i, i < 0 → _; decide) | (show (1 : Nat) ≤ _; decide) | (show ∀ i, i < 1 → _; decide) | (show (2 : Nat) ≤ _; decide) | (show ∀ i, i < 2 → _; decide) | (show (3 : Nat) ≤ _; decide) | (show ∀ i, i < 3 → _; decide) | (show (4 : Nat) ≤ _; decide) | (show ∀ i, i < 4 → _; decide) | (show (5 : Nat) ≤ _; decide) | (show ∀ i, i < 5 → _; decide) | (show (6 : Nat) ≤ _; decide) | (show ∀ i, i < 6 → _; decide) | (show (7 : Nat) ≤ _; decide) | (show ∀ i, i < 7 → _; decide)) ⟨rfl, rfl, rfl, trivial⟩ ⟨rfl, rfl, rfl, rfl, rfl, trivial⟩ rfl) ?_
  rintro m tm H ⟨j, hj, hall, rfl, rfl⟩
  conv => whnf
  refine ⟨fun hc => ?_, fun hc => ?_⟩
  · replace hc : (j : Int) < (dcs S).length := of_decide_eq_true hc
    obtain ⟨d, hd⟩ : ∃ d, S[j]? = some d := ⟨S[j]'(by omega), List.getElem?_eq_getElem (by omega)⟩
    have hdc := dcs_at hd
    have hy := hyS j d hd hall
    obtain ⟨s', ⟨k', l', n', us'⟩, i'⟩ := d
    dsimp only at hy
    rw [tv_mk] at hy
    conv => whnf
    refine ⟨_, ⟨by omega, hdc⟩, ?_⟩
    conv => whnf
    refine ⟨show 6 ≤ 6 by decide, ?_⟩
    conv => whnf
    repeat (first | (refine And.intro rfl ?_; conv => whnf) | (refine And.intro (by decide) ?_; conv => whnf) | (refine draw_intro true (by kernel_rfl) ?_; conv => whnf) | (refine And.intro ⟨by omega, by omega⟩ ?_; conv => whnf) | (refine And.intro (by omega) ?_; conv => whnf) | (refine And.intro (fun _ => ⟨by omega, by omega⟩) ?_; conv => whnf) | (refine And.intro (of_decide_eq_true rfl) ?_; conv => whnf) | (refine And.intro (fun _ => ?_) (fun h => absurd h ?_); rotate_left; (focus (first | decide | (simp; done) | (simp [tcs]; done))); conv => whnf) | (refine And.intro (fun h => absurd h ?_) (fun _ => ?_); (focus (first | decide | (simp; done) | (simp [tcs]; done))); conv => whnf) | (intro _; conv => whnf))
    try (refine draw_intro true (by kernel_rfl) ?_; conv => whnf)
    refine YSt.use hy [1, 2] rfl ⟨rfl, rfl, trivial⟩ (by decide) rfl ?_
    rintro _ _ (⟨hg, rfl, rfl⟩ | ⟨hg, rfl, rfl⟩) _
    conv => whnf
    · repeat (first | (refine And.intro rfl ?_; conv => whnf) | (refine And.intro (by decide) ?_; conv => whnf) | (refine draw_intro true (by kernel_rfl) ?_; conv => whnf) | (refine And.intro ⟨by omega, by omega⟩ ?_; conv => whnf) | (refine And.intro (by omega) ?_; conv => whnf) | (refine And.intro (fun _ => ⟨by omega, by omega⟩) ?_; conv => whnf) | (refine And.intro (of_decide_eq_true rfl) ?_; conv => whnf) | (refine And.intro (fun _ => ?_) (fun h => absurd h ?_); rotate_left; (focus (first | decide | (simp; done) | (simp [tcs]; done))); conv => whnf) | (refine And.intro (fun h => absurd h ?_) (fun _ => ?_); (focus (first | decide | (simp; done) | (simp [tcs]; done))); conv => whnf) | (intro _; conv => whnf))
      refine ⟨m - 1, _, _, by omega, ⟨j + 1, by omega, fun i hi => ?_, rfl, rfl⟩, Wk.sel [0, 1, 2] (by decide) (by first | decide | (show (0 : Nat) ≤ _; decide) | (show ∀ i, i < 0 → _; decide) | (show (1 : Nat) ≤ _; decide) | (show ∀ i, i < 1 → _; decide) | (show (2 : Nat) ≤ _; decide) | (show ∀ i, i < 2 → _; decide) | (show (3 : Nat) ≤ _; decide) | (show ∀ i, i < 3 → _; decide) | (show (4 : Nat) ≤ _; decide) | (show ∀ i, i < 4 → _; decide) | (show (5 : Nat) ≤ _; decide) | (show ∀ i, i < 5 → _; decide) | (show (6 : Nat) ≤ _; decide) | (show ∀ i, i < 6 → _; decide) | (show (7 : Nat) ≤ _; decide) | (show ∀ i, i < 7 → _; decide)) (by first | decide | (show (0 : Nat) ≤ _; decide) | (show ∀ i, i < 0 → _; decide) | (show (1 : Nat) ≤ _; decide) | (show ∀ i, i < 1 → _; decide) | (show (2 : Nat) ≤ _; decide) | (show ∀ i, i < 2 → _; decide) | (show (3 : Nat) ≤ _; decide) | (show ∀ i, i < 3 → _; decide) | (show (4 : Nat) ≤ _; decide) | (show ∀ i, i < 4 → _; decide) | (show (5 : Nat) ≤ _; decide) | (show ∀ i, i < 5 → _; decide) | (show (6 : Nat) ≤ _; decide) | (show ∀ i, i < 6 → _; decide) | (show (7 : Nat) ≤ _; decide) | (show ∀ i, i < 7 → _; decide)) ⟨rfl, rfl, rfl, trivial⟩ ⟨rfl, rfl, rfl, rfl, rfl, trivial⟩ rfl⟩
      by_cases hij : i < j
      · exact hall i hij
      · obtain rfl : i = j := by omega
        exact hg
    · (refine ⟨fun _ => ?_, fun h => absurd h ?_⟩; rotate_left; (focus (first | decide | (simp; done) | (simp [tcs]; done))); conv => whnf)
      exact ⟨rfl, rfl, rfl, .inr ⟨⟨j, by omega, hg⟩, rfl⟩⟩
  · replace hc : ¬ (j : Int) < (dcs S).length := of_decide_eq_false hc
    obtain rfl : j = S.length := by omega
    conv => whnf
    repeat (first | (refine And.intro rfl ?_; conv => whnf) | (refine And.intro (by decide) ?_; conv => whnf) | (refine draw_intro true (by kernel_rfl) ?_; conv => whnf) | (refine And.intro ⟨by omega, by omega⟩ ?_; conv => whnf) | (refine And.intro (by omega) ?_; conv => whnf) | (refine And.intro (fun _ => ⟨by omega, by omega⟩) ?_; conv => whnf) | (refine And.intro (of_decide_eq_true rfl) ?_; conv => whnf) | (refine And.intro (fun _ => ?_) (fun h => absurd h ?_); rotate_left; (focus (first | decide | (simp; done) | (simp [tcs]; done))); conv => whnf) | (refine And.intro (fun h => absurd h ?_) (fun _ => ?_); (focus (first | decide | (simp; done) | (simp [tcs]; done))); conv => whnf) | (intro _; conv => whnf))
    refine loop_intro (fun m tm H => ∃ (j : Nat), X.length = m + j ∧ (∀ i, i < S.length + j → good i = true) ∧ tm = [(23, .c (.int .i64 (j))), (22, .c (.int .i64 ((tcs X).length))), (21, .c (.sl 4 48 (tcs X))), (0, .yv 2), (1, .ptr 0 0)] ∧
        H = [.box [.c (.sl 6 72 (dcs S)), .c (.sl 4 48 (tcs X)), .c (.int .i64 (k)), .c (.int .i64 (l)), .c (.int .i64 (n)), .c (.sl 4 48 (tcs ts)), .c (.int .i64 (k2)), .c (.int .i64 (l2)), .c (.int .i64 (n2)), .c (.sl 4 48 (tcs us))], .box [.c (.bool false)], .lrec .ready [(2, .ptr 1 0)] ps asg body])
      X.length _ _ ⟨0, by omega, hall, rfl, rfl⟩ (Wk.sel [0, 1, 2] (by decide) (by first | decide | (show (0 : Nat) ≤ _; decide) | (show ∀ i, i < 0 → _; decide) | (show (1 : Nat) ≤ _; decide) | (show ∀ i, i < 1 → _; decide) | (show (2 : Nat) ≤ _; decide) | (show ∀ i, i < 2 → _; decide) | (show (3 : Nat) ≤ _; decide) | (show ∀ i, i < 3 → _; decide) | (show (4 : Nat) ≤ _; decide) | (show ∀ i, i < 4 → _; decide) | (show (5 : Nat) ≤ _; decide) | (show ∀ i, i < 5 → _; decide) | (show (6 : Nat) ≤ _; decide) | (show ∀ i, i < 6 → _; decide) | (show (7 : Nat) ≤ _; decide) | (show ∀ i, i < 7 → _; decide)) (by first | decide | (show (0 : Nat) ≤ _; decide) | (show ∀ i, i < 0 → _; decide) | (show (1 : Nat) ≤ _; decide) | (show ∀ i, i < 1 → _; decide) | (show (2 : Nat) ≤ _; decide) | (show ∀ i, i < 2 → _; decide) | (show (3 : Nat) ≤ _; decide) | (show ∀ i, i < 3 → _; decide) | (show (4 : Nat) ≤ _; decide) | (show ∀ i, i < 4 → _; decide) | (show (5 : Nat) ≤ _; decide) | (show ∀ i, i < 5 → _; decide) | (show (6 : Nat) ≤ _; decide) | (show ∀ i, i < 6 → _; decide) | (show (7 : Nat) ≤ _; decide) | (show ∀ i, i < 7 → _; decide)) ⟨rfl, rfl, rfl, trivial⟩ ⟨rfl, rfl, rfl, rfl, rfl, trivial⟩ rfl) ?_
    rintro m tm H ⟨j, hj, hall, rfl, rfl⟩
    conv => whnf
    refine ⟨fun hc => ?_, fun hc => ?_⟩
    · replace hc : (j : Int) < (tcs X).length := of_decide_eq_true hc
      obtain ⟨u, hu⟩ : ∃ u, X[j]? = some u := ⟨X[j]'(by omega), List.getElem?_eq_getElem (by omega)⟩
      have huc := tcs_at X j u hu
      have hy := hyX j u hu hall
      obtain ⟨k', l', n', us'⟩ := u
      rw [tv_mk] at hy
      conv => whnf
      refine ⟨_, ⟨by omega, by simpa using huc⟩, ?_⟩
      conv => whnf
      refine ⟨Nat.le_refl 4, ?_⟩
      conv => whnf
      repeat (first | (refine And.intro rfl ?_; conv => whnf) | (refine And.intro (by decide) ?_; conv => whnf) | (refine draw_intro true (by kernel_rfl) ?_; conv => whnf) | (refine And.intro ⟨by omega, by omega⟩ ?_; conv => whnf) | (refine And.intro (by omega) ?_; conv => whnf) | (refine And.intro (fun _ => ⟨by omega, by omega⟩) ?_; conv => whnf) | (refine And.intro (of_decide_eq_true rfl) ?_; conv => whnf) | (refine And.intro (fun _ => ?_) (fun h => absurd h ?_); rotate_left; (focus (first | decide | (simp; done) | (simp [tcs]; done))); conv => whnf) | (refine And.intro (fun h => absurd h ?_) (fun _ => ?_); (focus (first | decide | (simp; done) | (simp [tcs]; done))); conv => whnf) | (intro _; conv => whnf))
      try (refine draw_intro true (by kernel_rfl) ?_; conv => whnf)
      refine YSt.use hy [1, 2] rfl ⟨rfl, rfl, trivial⟩ (by decide) rfl ?_
      rintro _ _ (⟨hg, rfl, rfl⟩ | ⟨hg, rfl, rfl⟩) _
      conv => whnf
      · repeat (first | (refine And.intro rfl ?_; conv => whnf) | (refine And.intro (by decide) ?_; conv => whnf) | (refine draw_intro true (by kernel_rfl) ?_; conv => whnf) | (refine And.intro ⟨by omega, by omega⟩ ?_; conv => whnf) | (refine And.intro (by omega) ?_; conv => whnf) | (refine And.intro (fun _ => ⟨by omega, by omega⟩) ?_; conv => whnf) | (refine And.intro (of_decide_eq_true rfl) ?_; conv => whnf) | (refine And.intro (fun _ => ?_) (fun h => absurd h ?_); rotate_left; (focus (first | decide | (simp; done) | (simp [tcs]; done))); conv => whnf) | (refine And.intro (fun h => absurd h ?_) (fun _ => ?_); (focus (first | decide | (simp; done) | (simp [tcs]; done))); conv => whnf) | (intro _; conv => whnf))
        refine ⟨m - 1, _, _, by omega, ⟨j + 1, by omega, fun i hi => ?_, rfl, rfl⟩, Wk.sel [0, 1, 2] (by decide) (by first | decide | (show (0 : Nat) ≤ _; decide) | (show ∀ i, i < 0 → _; decide) | (show (1 : Nat) ≤ _; decide) | (show ∀ i, i < 1 → _; decide) | (show (2 : Nat) ≤ _; decide) | (show ∀ i, i < 2 → _; decide) | (show (3 : Nat) ≤ _; decide) | (show ∀ i, i < 3 → _; decide) | (show (4 : Nat) ≤ _; decide) | (show ∀ i, i < 4 → _; decide) | (show (5 : Nat) ≤ _; decide) | (show ∀ i, i < 5 → _; decide) | (show (6 : Nat) ≤ _; decide) | (show ∀ i, i < 6 → _; decide) | (show (7 : Nat) ≤ _; decide) | (show ∀ i, i < 7 → _; decide)) (by first | decide | (show (0 : Nat) ≤ _; decide) | (show ∀ i, i < 0 → _; decide) | (show (1 : Nat) ≤ _; decide) | (show ∀ i, i < 1 → _; decide) | (show (2 : Nat) ≤ _; decide) | (show ∀ i, i < 2 → _; decide) | (show (3 : Nat) ≤ _; decide) | (show ∀ i, i < 3 → _; decide) | (show (4 : Nat) ≤ _; decide) | (show ∀ i, i < 4 → _; decide) | (show (5 : Nat) ≤ _; decide) | (show ∀ i, i < 5 → _; decide) | (show (6 : Nat) ≤ _; decide) | (show ∀ i, i < 6 → _; decide) | (show (7 : Nat) ≤ _; decide) | (show ∀ i, i < 7 → _; decide)) ⟨rfl, rfl, rfl, trivial⟩ ⟨rfl, rfl, rfl, rfl, rfl, trivial⟩ rfl⟩
        by_cases hij : i < S.length + j
        · exact hall i hij
        · obtain rfl : i = S.length + j := by omega
          exact hg
      · (refine ⟨fun _ => ?_, fun h => absurd h ?_⟩; rotate_left; (focus (first | decide | (simp; done) | (simp [tcs]; done))); conv => whnf)
        exact ⟨rfl, rfl, rfl, .inr ⟨⟨S.length + j, by omega, hg⟩, rfl⟩⟩
    · replace hc : ¬ (j : Int) < (tcs X).length := of_decide_eq_false hc
      obtain rfl : j = X.length := by omega
      have hyo := hyo hall
      conv => whnf
      try (refine draw_intro true (by kernel_rfl) ?_; conv => whnf)
      refine YSt.use hyo [1, 2] rfl ⟨rfl, rfl, trivial⟩ (by decide) rfl ?_
      rintro _ _ (⟨hg, rfl, rfl⟩ | ⟨hg, rfl, rfl⟩) _
      conv => whnf
      · (refine ⟨fun _ => ?_, fun h => absurd h ?_⟩; rotate_left; (focus (first | decide | (simp; done) | (simp [tcs]; done))); conv => whnf)
        have hyc := hyc (fun i hi => by
          by_cases hij : i < S.length + X.length
          · exact hall i hij
          · obtain rfl : i = S.length + X.length := by omega
            exact hg)
        try (refine draw_intro true (by kernel_rfl) ?_; conv => whnf)
        refine YSt.use hyc [1, 2] rfl ⟨rfl, rfl, trivial⟩ (by decide) rfl ?_
        rintro _ _ (⟨hg2, rfl, rfl⟩ | ⟨hg2, rfl, rfl⟩) _
        conv => whnf
        · refine ⟨rfl, rfl, rfl, .inl ⟨fun i hi => ?_, rfl⟩⟩
          by_cases hij : i < S.length + X.length
          · exact hall i hij
          · by_cases hij2 : i = S.length + X.length
            · rw [hij2]; exact hg
            · obtain rfl : i = S.length + X.length + 1 := by omega
              exact hg2
        · exact ⟨rfl, rfl, rfl, .inr ⟨⟨S.length + X.length + 1, by omega, hg2⟩, rfl⟩⟩
      · (refine ⟨fun h => absurd h ?_, fun _ => ?_⟩; (focus (first | decide | (simp; done) | (simp [tcs]; done))); conv => whnf)
        exact ⟨rfl, rfl, rfl, .inr ⟨⟨S.length + X.length, by omega, hg⟩, rfl⟩⟩
/-- A well built certificate. -/
def builtB (c : Crt) : Bool := decide (c.X.length ≤ 30) && checkB c.S && (crl c).all closedT
theorem cBuilt (c : Crt) : CallSt Tryz.prog 11 [crv c] [] (fun r H' => r = .c (.bool (builtB c)) ∧ H' = []) := by
  have hti := cTermsI c
  have hck := cCheck c.S
  have hxl := len_tcs c.X
  by_cases hX : c.X.length ≤ 30
  · cases hcb : checkB c.S with
    | false =>
      rw [show builtB c = false by simp [builtB, hcb]]
      rw [hcb] at hck
      obtain ⟨S, X, ⟨k, l, n, ts⟩, ⟨k2, l2, n2, us⟩⟩ := c
      unfold crv at *
      dsimp only [Term.k, Term.l, Term.n, Term.ts] at *
      have e : decide ((30 : Int) < (tcs X).length) = false := decide_eq_false (by omega)
      refine call_pure (E := env 0) (fn := Tryz.f11) (c := bodyOf Tryz.f11) (env_ok 0) mixed (by kernel_rfl) (by kernel_rfl) (by kernel_rfl) (by kernel_rfl) (by kernel_rfl) (by kernel_rfl) rfl ?_
      conv => whnf
      repeat (first | (refine And.intro rfl ?_; conv => whnf) | (refine And.intro (by decide) ?_; conv => whnf) | (refine draw_intro true (by kernel_rfl) ?_; conv => whnf) | (refine And.intro ⟨by omega, by omega⟩ ?_; conv => whnf) | (refine And.intro (by omega) ?_; conv => whnf) | (refine And.intro (fun _ => ⟨by omega, by omega⟩) ?_; conv => whnf) | (refine And.intro (of_decide_eq_true rfl) ?_; conv => whnf) | (refine And.intro (fun _ => ?_) (fun h => absurd h ?_); rotate_left; (focus (first | decide | (simp; done) | (simp [tcs]; done))); conv => whnf) | (refine And.intro (fun h => absurd h ?_) (fun _ => ?_); (focus (first | decide | (simp; done) | (simp [tcs]; done))); conv => whnf) | (intro _; conv => whnf))
      rw [e]
      (refine ⟨fun _ => ?_, fun h => absurd h ?_⟩; rotate_left; (focus (first | decide | (simp; done) | (simp [tcs]; done))); conv => whnf)
      try (refine draw_intro true (by kernel_rfl) ?_; conv => whnf)
      first | refine CallSt.use hck [] trivial (by decide) rfl ?_ | refine CallPt.useS hck [] trivial (by decide) rfl ?_
      rintro _ _ ⟨rfl, rfl⟩ _
      conv => whnf
      repeat (first | (refine And.intro rfl ?_; conv => whnf) | (refine And.intro (by decide) ?_; conv => whnf) | (refine draw_intro true (by kernel_rfl) ?_; conv => whnf) | (refine And.intro ⟨by omega, by omega⟩ ?_; conv => whnf) | (refine And.intro (by omega) ?_; conv => whnf) | (refine And.intro (fun _ => ⟨by omega, by omega⟩) ?_; conv => whnf) | (refine And.intro (of_decide_eq_true rfl) ?_; conv => whnf) | (refine And.intro (fun _ => ?_) (fun h => absurd h ?_); rotate_left; (focus (first | decide | (simp; done) | (simp [tcs]; done))); conv => whnf) | (refine And.intro (fun h => absurd h ?_) (fun _ => ?_); (focus (first | decide | (simp; done) | (simp [tcs]; done))); conv => whnf) | (intro _; conv => whnf))
      rfl
    | true =>
      have hS : c.S.length ≤ 100 := by unfold checkB at hcb; simp only [Bool.and_eq_true] at hcb; exact of_decide_eq_true hcb.1
      rw [hcb] at hck
      have hIt := fun {ps} {asg} {body} => @cTermsG ps asg body c (by omega) (by omega) (fun n => match (crl c)[n]? with | some t => closedT t | none => true)
      have hbl : builtB c = (crl c).all closedT := by simp [builtB, hcb, hX]
      rw [hbl]
      generalize crl c = q at *
      obtain ⟨S, X, ⟨k, l, n, ts⟩, ⟨k2, l2, n2, us⟩⟩ := c
      unfold crv at *
      dsimp only [Term.k, Term.l, Term.n, Term.ts] at *
      have e : decide ((30 : Int) < (tcs X).length) = false := decide_eq_false (by omega)
      refine call_pure (E := env 0) (fn := Tryz.f11) (c := bodyOf Tryz.f11) (env_ok 0) mixed (by kernel_rfl) (by kernel_rfl) (by kernel_rfl) (by kernel_rfl) (by kernel_rfl) (by kernel_rfl) rfl ?_
      conv => whnf
      repeat (first | (refine And.intro rfl ?_; conv => whnf) | (refine And.intro (by decide) ?_; conv => whnf) | (refine draw_intro true (by kernel_rfl) ?_; conv => whnf) | (refine And.intro ⟨by omega, by omega⟩ ?_; conv => whnf) | (refine And.intro (by omega) ?_; conv => whnf) | (refine And.intro (fun _ => ⟨by omega, by omega⟩) ?_; conv => whnf) | (refine And.intro (of_decide_eq_true rfl) ?_; conv => whnf) | (refine And.intro (fun _ => ?_) (fun h => absurd h ?_); rotate_left; (focus (first | decide | (simp; done) | (simp [tcs]; done))); conv => whnf) | (refine And.intro (fun h => absurd h ?_) (fun _ => ?_); (focus (first | decide | (simp; done) | (simp [tcs]; done))); conv => whnf) | (intro _; conv => whnf))
      rw [e]
      (refine ⟨fun _ => ?_, fun h => absurd h ?_⟩; rotate_left; (focus (first | decide | (simp; done) | (simp [tcs]; done))); conv => whnf)
      try (refine draw_intro true (by kernel_rfl) ?_; conv => whnf)
      first | refine CallSt.use hck [] trivial (by decide) rfl ?_ | refine CallPt.useS hck [] trivial (by decide) rfl ?_
      rintro _ _ ⟨rfl, rfl⟩ _
      conv => whnf
      repeat (first | (refine And.intro rfl ?_; conv => whnf) | (refine And.intro (by decide) ?_; conv => whnf) | (refine draw_intro true (by kernel_rfl) ?_; conv => whnf) | (refine And.intro ⟨by omega, by omega⟩ ?_; conv => whnf) | (refine And.intro (by omega) ?_; conv => whnf) | (refine And.intro (fun _ => ⟨by omega, by omega⟩) ?_; conv => whnf) | (refine And.intro (of_decide_eq_true rfl) ?_; conv => whnf) | (refine And.intro (fun _ => ?_) (fun h => absurd h ?_); rotate_left; (focus (first | decide | (simp; done) | (simp [tcs]; done))); conv => whnf) | (refine And.intro (fun h => absurd h ?_) (fun _ => ?_); (focus (first | decide | (simp; done) | (simp [tcs]; done))); conv => whnf) | (intro _; conv => whnf))
      try (refine draw_intro true (by kernel_rfl) ?_; conv => whnf)
      first | refine CallSt.use hti [] trivial (by decide) rfl ?_ | refine CallPt.useS hti [] trivial (by decide) rfl ?_
      rintro _ _ ⟨rfl, rfl⟩ _
      conv => whnf
      repeat (first | (refine And.intro rfl ?_; conv => whnf) | (refine And.intro (by decide) ?_; conv => whnf) | (refine draw_intro true (by kernel_rfl) ?_; conv => whnf) | (refine And.intro ⟨by omega, by omega⟩ ?_; conv => whnf) | (refine And.intro (by omega) ?_; conv => whnf) | (refine And.intro (fun _ => ⟨by omega, by omega⟩) ?_; conv => whnf) | (refine And.intro (of_decide_eq_true rfl) ?_; conv => whnf) | (refine And.intro (fun _ => ?_) (fun h => absurd h ?_); rotate_left; (focus (first | decide | (simp; done) | (simp [tcs]; done))); conv => whnf) | (refine And.intro (fun h => absurd h ?_) (fun _ => ?_); (focus (first | decide | (simp; done) | (simp [tcs]; done))); conv => whnf) | (intro _; conv => whnf))
      refine CallSt.wkl 3 [(2, .ptr 1 0)] rfl (subTM_lk ⟨rfl, trivial⟩) ?_
      refine CallSt.use (hIt ?_) [2, 1, 3] ⟨rfl, rfl, rfl, trivial⟩ (by decide) rfl ?_
      · intro n t ht _
        have hcl := cIsClosed t
        rw [ht]
        dsimp only
        generalize closedT t = b at *
        obtain ⟨k', l', n', us'⟩ := t
        rw [tv_mk] at *
        refine y_intro (E := envY 2) (envY_ok 2) mixed rfl rfl (i := 1) rfl rfl rfl ?_
        conv => whnf
        repeat (first | (refine And.intro rfl ?_; conv => whnf) | (refine And.intro (by decide) ?_; conv => whnf) | (refine draw_intro true (by kernel_rfl) ?_; conv => whnf) | (refine And.intro ⟨by omega, by omega⟩ ?_; conv => whnf) | (refine And.intro (by omega) ?_; conv => whnf) | (refine And.intro (fun _ => ⟨by omega, by omega⟩) ?_; conv => whnf) | (refine And.intro (of_decide_eq_true rfl) ?_; conv => whnf) | (refine And.intro (fun _ => ?_) (fun h => absurd h ?_); rotate_left; (focus (first | decide | (simp; done) | (simp [tcs]; done))); conv => whnf) | (refine And.intro (fun h => absurd h ?_) (fun _ => ?_); (focus (first | decide | (simp; done) | (simp [tcs]; done))); conv => whnf) | (intro _; conv => whnf))
        try (refine draw_intro true (by kernel_rfl) ?_; conv => whnf)
        first | refine CallSt.use hcl [] trivial (by decide) rfl ?_ | refine CallPt.useS hcl [] trivial (by decide) rfl ?_
        rintro _ _ ⟨rfl, rfl⟩ _
        conv => whnf
        repeat (first | (refine And.intro rfl ?_; conv => whnf) | (refine And.intro (by decide) ?_; conv => whnf) | (refine draw_intro true (by kernel_rfl) ?_; conv => whnf) | (refine And.intro ⟨by omega, by omega⟩ ?_; conv => whnf) | (refine And.intro (by omega) ?_; conv => whnf) | (refine And.intro (fun _ => ⟨by omega, by omega⟩) ?_; conv => whnf) | (refine And.intro (of_decide_eq_true rfl) ?_; conv => whnf) | (refine And.intro (fun _ => ?_) (fun h => absurd h ?_); rotate_left; (focus (first | decide | (simp; done) | (simp [tcs]; done))); conv => whnf) | (refine And.intro (fun h => absurd h ?_) (fun _ => ?_); (focus (first | decide | (simp; done) | (simp [tcs]; done))); conv => whnf) | (intro _; conv => whnf))
        cases b with
        | true =>
          (refine ⟨fun h => absurd h ?_, fun _ => ?_⟩; (focus (first | decide | (simp; done) | (simp [tcs]; done))); conv => whnf)
          repeat (first | (refine And.intro rfl ?_; conv => whnf) | (refine And.intro (by decide) ?_; conv => whnf) | (refine draw_intro true (by kernel_rfl) ?_; conv => whnf) | (refine And.intro ⟨by omega, by omega⟩ ?_; conv => whnf) | (refine And.intro (by omega) ?_; conv => whnf) | (refine And.intro (fun _ => ⟨by omega, by omega⟩) ?_; conv => whnf) | (refine And.intro (of_decide_eq_true rfl) ?_; conv => whnf) | (refine And.intro (fun _ => ?_) (fun h => absurd h ?_); rotate_left; (focus (first | decide | (simp; done) | (simp [tcs]; done))); conv => whnf) | (refine And.intro (fun h => absurd h ?_) (fun _ => ?_); (focus (first | decide | (simp; done) | (simp [tcs]; done))); conv => whnf) | (intro _; conv => whnf))
          exact .inl ⟨rfl, rfl, rfl⟩
        | false =>
          (refine ⟨fun _ => ?_, fun h => absurd h ?_⟩; rotate_left; (focus (first | decide | (simp; done) | (simp [tcs]; done))); conv => whnf)
          repeat (first | (refine And.intro rfl ?_; conv => whnf) | (refine And.intro (by decide) ?_; conv => whnf) | (refine draw_intro true (by kernel_rfl) ?_; conv => whnf) | (refine And.intro ⟨by omega, by omega⟩ ?_; conv => whnf) | (refine And.intro (by omega) ?_; conv => whnf) | (refine And.intro (fun _ => ⟨by omega, by omega⟩) ?_; conv => whnf) | (refine And.intro (of_decide_eq_true rfl) ?_; conv => whnf) | (refine And.intro (fun _ => ?_) (fun h => absurd h ?_); rotate_left; (focus (first | decide | (simp; done) | (simp [tcs]; done))); conv => whnf) | (refine And.intro (fun h => absurd h ?_) (fun _ => ?_); (focus (first | decide | (simp; done) | (simp [tcs]; done))); conv => whnf) | (intro _; conv => whnf))
          exact .inr ⟨rfl, rfl, rfl⟩
      rintro _ _ ⟨rfl, (⟨hall, rfl⟩ | ⟨⟨n, hn, hg⟩, rfl⟩)⟩ _
      · have hq : q.all closedT = true := by
          rw [List.all_eq_true]
          intro t ht
          obtain ⟨i, hi⟩ := List.mem_iff_getElem?.1 ht
          have := hall i (List.getElem?_eq_some_iff.1 hi).1
          rw [hi] at this
          exact this
        rw [hq]
        conv => whnf
        repeat (first | (refine And.intro rfl ?_; conv => whnf) | (refine And.intro (by decide) ?_; conv => whnf) | (refine draw_intro true (by kernel_rfl) ?_; conv => whnf) | (refine And.intro ⟨by omega, by omega⟩ ?_; conv => whnf) | (refine And.intro (by omega) ?_; conv => whnf) | (refine And.intro (fun _ => ⟨by omega, by omega⟩) ?_; conv => whnf) | (refine And.intro (of_decide_eq_true rfl) ?_; conv => whnf) | (refine And.intro (fun _ => ?_) (fun h => absurd h ?_); rotate_left; (focus (first | decide | (simp; done) | (simp [tcs]; done))); conv => whnf) | (refine And.intro (fun h => absurd h ?_) (fun _ => ?_); (focus (first | decide | (simp; done) | (simp [tcs]; done))); conv => whnf) | (intro _; conv => whnf))
        all_goals (first | rfl | exact ⟨rfl, rfl⟩ | exact ⟨rfl, rfl, rfl⟩)
      · have hq : q.all closedT = false := by
          rw [List.all_eq_false]
          rw [List.getElem?_eq_getElem hn] at hg
          have hg2 : closedT q[n] = false := hg
          exact ⟨q[n], List.getElem_mem hn, by rw [hg2]; simp⟩
        rw [hq]
        conv => whnf
        repeat (first | (refine And.intro rfl ?_; conv => whnf) | (refine And.intro (by decide) ?_; conv => whnf) | (refine draw_intro true (by kernel_rfl) ?_; conv => whnf) | (refine And.intro ⟨by omega, by omega⟩ ?_; conv => whnf) | (refine And.intro (by omega) ?_; conv => whnf) | (refine And.intro (fun _ => ⟨by omega, by omega⟩) ?_; conv => whnf) | (refine And.intro (of_decide_eq_true rfl) ?_; conv => whnf) | (refine And.intro (fun _ => ?_) (fun h => absurd h ?_); rotate_left; (focus (first | decide | (simp; done) | (simp [tcs]; done))); conv => whnf) | (refine And.intro (fun h => absurd h ?_) (fun _ => ?_); (focus (first | decide | (simp; done) | (simp [tcs]; done))); conv => whnf) | (intro _; conv => whnf))
        all_goals (first | rfl | exact ⟨rfl, rfl⟩ | exact ⟨rfl, rfl, rfl⟩)
  · rw [show builtB c = false by simp [builtB, hX]]
    obtain ⟨S, X, ⟨k, l, n, ts⟩, ⟨k2, l2, n2, us⟩⟩ := c
    unfold crv at *
    dsimp only [Term.k, Term.l, Term.n, Term.ts] at *
    have e : decide ((30 : Int) < (tcs X).length) = true := decide_eq_true (by omega)
    refine call_pure (E := env 0) (fn := Tryz.f11) (c := bodyOf Tryz.f11) (env_ok 0) mixed (by kernel_rfl) (by kernel_rfl) (by kernel_rfl) (by kernel_rfl) (by kernel_rfl) (by kernel_rfl) rfl ?_
    conv => whnf
    repeat (first | (refine And.intro rfl ?_; conv => whnf) | (refine And.intro (by decide) ?_; conv => whnf) | (refine draw_intro true (by kernel_rfl) ?_; conv => whnf) | (refine And.intro ⟨by omega, by omega⟩ ?_; conv => whnf) | (refine And.intro (by omega) ?_; conv => whnf) | (refine And.intro (fun _ => ⟨by omega, by omega⟩) ?_; conv => whnf) | (refine And.intro (of_decide_eq_true rfl) ?_; conv => whnf) | (refine And.intro (fun _ => ?_) (fun h => absurd h ?_); rotate_left; (focus (first | decide | (simp; done) | (simp [tcs]; done))); conv => whnf) | (refine And.intro (fun h => absurd h ?_) (fun _ => ?_); (focus (first | decide | (simp; done) | (simp [tcs]; done))); conv => whnf) | (intro _; conv => whnf))
    rw [e]
    (refine ⟨fun h => absurd h ?_, fun _ => ?_⟩; (focus (first | decide | (simp; done) | (simp [tcs]; done))); conv => whnf)
    repeat (first | (refine And.intro rfl ?_; conv => whnf) | (refine And.intro (by decide) ?_; conv => whnf) | (refine draw_intro true (by kernel_rfl) ?_; conv => whnf) | (refine And.intro ⟨by omega, by omega⟩ ?_; conv => whnf) | (refine And.intro (by omega) ?_; conv => whnf) | (refine And.intro (fun _ => ⟨by omega, by omega⟩) ?_; conv => whnf) | (refine And.intro (of_decide_eq_true rfl) ?_; conv => whnf) | (refine And.intro (fun _ => ?_) (fun h => absurd h ?_); rotate_left; (focus (first | decide | (simp; done) | (simp [tcs]; done))); conv => whnf) | (refine And.intro (fun h => absurd h ?_) (fun _ => ?_); (focus (first | decide | (simp; done) | (simp [tcs]; done))); conv => whnf) | (intro _; conv => whnf))
    rfl
end Go.Tr
/- cert: Sum of both sides, sealed, Seal. -/
namespace Go.Tr
open Go.Proofs
def sumF : List UInt8 → Int × Int → Int × Int
  | [], p => p
  | x :: r, p => sumF r ((p.1 + (x.toNat : Int)) % 65521, (p.2 + (p.1 + (x.toNat : Int)) % 65521) % 65521)
theorem sumF_bd : ∀ (l : List UInt8) (p : Int × Int), (0 ≤ p.1 ∧ p.1 < 65521) ∧ (0 ≤ p.2 ∧ p.2 < 65521) → (0 ≤ (sumF l p).1 ∧ (sumF l p).1 < 65521) ∧ (0 ≤ (sumF l p).2 ∧ (sumF l p).2 < 65521)
  | [], p, h => h
  | x :: r, p, h => by
    rw [sumF]
    exact sumF_bd r _ ⟨⟨Int.emod_nonneg _ (by decide), Int.emod_lt_of_pos _ (by decide)⟩, Int.emod_nonneg _ (by decide), Int.emod_lt_of_pos _ (by decide)⟩
/-- The sum of bytes. -/
def sumI (l : List UInt8) : Int := (sumF l (1, 0)).2 * 65536 + (sumF l (1, 0)).1
theorem sumI_bd (l : List UInt8) : 0 ≤ sumI l ∧ sumI l < 4294967296 := by
  have := sumF_bd l (1, 0) (by decide)
  unfold sumI
  omega
theorem i64_wrap {x : Int} (h : -9223372036854775808 ≤ x ∧ x ≤ 9223372036854775807) : IntKind.i64.wrap x = x := wrap_in h
theorem shl16 {b : Int} (h : 0 ≤ b ∧ b < 65521) : IntKind.i64.wrap (b * 2 ^ (min (16 : Int).toNat 64)) = b * 65536 := by
  rw [show (2 : Int) ^ (min (16 : Int).toNat 64) = 65536 by decide]
  exact i64_wrap (by omega)
theorem cSum (s : ByteArray) (hss : s.size ≤ 1000000000) : CallSt Tryz.prog 23 [.c (.str s)] [] (fun r H' => r = .c (.int .i64 (sumI s.data.toList)) ∧ H' = []) := by
  have hsz : s.data.toList.length = s.size := by rw [Array.length_toList]; rfl
  have hbd := sumF_bd s.data.toList (1, 0) (by decide)
  unfold sumI
  refine call_pure (E := env 0) (fn := Tryz.f23) (c := bodyOf Tryz.f23) (env_ok 0) mixed (by kernel_rfl) (by kernel_rfl) (by kernel_rfl) (by kernel_rfl) (by kernel_rfl) (by kernel_rfl) rfl ?_
  conv => whnf
  repeat (first | (refine And.intro rfl ?_; conv => whnf) | (refine And.intro (by decide) ?_; conv => whnf) | (refine draw_intro true (by kernel_rfl) ?_; conv => whnf) | (refine And.intro ⟨by omega, by omega⟩ ?_; conv => whnf) | (refine And.intro (by omega) ?_; conv => whnf) | (refine And.intro (fun _ => ⟨by omega, by omega⟩) ?_; conv => whnf) | (refine And.intro (of_decide_eq_true rfl) ?_; conv => whnf) | (refine And.intro (fun _ => ?_) (fun h => absurd h ?_); rotate_left; (focus (first | decide | (simp; done) | (simp [tcs]; done))); conv => whnf) | (refine And.intro (fun h => absurd h ?_) (fun _ => ?_); (focus (first | decide | (simp; done) | (simp [tcs]; done))); conv => whnf) | (intro _; conv => whnf))
  refine loop_intro (fun m tm H => ∃ (j : Nat) (a b : Int), s.size = m + j ∧ sumF (s.data.toList.drop j) (a, b) = sumF s.data.toList (1, 0) ∧ ((0 ≤ a ∧ a < 65521) ∧ (0 ≤ b ∧ b < 65521)) ∧
      tm = [(8, .c (.int .i64 (j))), (7, .c (.int .i64 (s.size))), (0, .c (.str s)), (3, .c (.int .i64 (a))), (4, .c (.int .i64 (b)))] ∧ H = [])
    s.size _ _ ⟨0, 1, 0, by omega, rfl, by decide, rfl, rfl⟩ (Wk.sel [] (by decide) (by first | decide | (show (0 : Nat) ≤ _; decide) | (show ∀ i, i < 0 → _; decide) | (show (1 : Nat) ≤ _; decide) | (show ∀ i, i < 1 → _; decide) | (show (2 : Nat) ≤ _; decide) | (show ∀ i, i < 2 → _; decide) | (show (3 : Nat) ≤ _; decide) | (show ∀ i, i < 3 → _; decide) | (show (4 : Nat) ≤ _; decide) | (show ∀ i, i < 4 → _; decide) | (show (5 : Nat) ≤ _; decide) | (show ∀ i, i < 5 → _; decide) | (show (6 : Nat) ≤ _; decide) | (show ∀ i, i < 6 → _; decide) | (show (7 : Nat) ≤ _; decide) | (show ∀ i, i < 7 → _; decide)) (by first | decide | (show (0 : Nat) ≤ _; decide) | (show ∀ i, i < 0 → _; decide) | (show (1 : Nat) ≤ _; decide) | (show ∀ i, i < 1 → _; decide) | (show (2 : Nat) ≤ _; decide) | (show ∀ i, i < 2 → _; decide) | (show (3 : Nat) ≤ _; decide) | (show ∀ i, i < 3 → _; decide) | (show (4 : Nat) ≤ _; decide) | (show ∀ i, i < 4 → _; decide) | (show (5 : Nat) ≤ _; decide) | (show ∀ i, i < 5 → _; decide) | (show (6 : Nat) ≤ _; decide) | (show ∀ i, i < 6 → _; decide) | (show (7 : Nat) ≤ _; decide) | (show ∀ i, i < 7 → _; decide)) trivial ⟨rfl, rfl, rfl, rfl, rfl, trivial⟩ rfl) ?_
  rintro m tm H ⟨j, a, b, hj, hs, hab, rfl, rfl⟩
  conv => whnf
  refine ⟨fun hc => ?_, fun hc => ?_⟩
  · replace hc : (j : Int) < s.size := of_decide_eq_true hc
    have hlt : j < s.data.toList.length := by omega
    obtain ⟨x, hx⟩ : ∃ x, s.data.toList[j]? = some x := ⟨_, List.getElem?_eq_getElem hlt⟩
    have hxb : 0 ≤ (x.toNat : Int) ∧ (x.toNat : Int) < 256 := ⟨by omega, by have := x.toNat_lt; omega⟩
    rw [drop_at hx, sumF] at hs
    have hgd : s.data.toList.getD (Int.toNat j) 0 = x := by rw [Int.toNat_natCast, List.getD_eq_getElem?_getD, hx]; rfl
    have e1 : (a + (x.toNat : Int)).tmod 65521 = (a + (x.toNat : Int)) % 65521 := Int.tmod_eq_emod_of_nonneg (by omega)
    have hm1 := Int.emod_nonneg (a + (x.toNat : Int)) (show (65521 : Int) ≠ 0 by decide)
    have hm2 := Int.emod_lt_of_pos (a + (x.toNat : Int)) (show (0 : Int) < 65521 by decide)
    have e2 : (b + (a + (x.toNat : Int)) % 65521).tmod 65521 = (b + (a + (x.toNat : Int)) % 65521) % 65521 := Int.tmod_eq_emod_of_nonneg (by omega)
    have e3 : IntKind.i64.wrap (x.toNat : Int) = x.toNat := i64_wrap (by omega)
    dsimp only at hs
    conv => whnf
    repeat (first | (refine And.intro rfl ?_; conv => whnf) | (refine And.intro (by decide) ?_; conv => whnf) | (refine draw_intro true (by kernel_rfl) ?_; conv => whnf) | (refine And.intro ⟨by omega, by omega⟩ ?_; conv => whnf) | (refine And.intro (by omega) ?_; conv => whnf) | (refine And.intro (fun _ => ⟨by omega, by omega⟩) ?_; conv => whnf) | (refine And.intro (of_decide_eq_true rfl) ?_; conv => whnf) | (refine And.intro (fun _ => ?_) (fun h => absurd h ?_); rotate_left; (focus (first | decide | (simp; done) | (simp [tcs]; done))); conv => whnf) | (refine And.intro (fun h => absurd h ?_) (fun _ => ?_); (focus (first | decide | (simp; done) | (simp [tcs]; done))); conv => whnf) | (intro _; conv => whnf))
    rw [hgd, e3]
    refine ⟨⟨by omega, by omega⟩, ?_⟩
    conv => whnf
    refine ⟨show (65521 : Int) ≠ 0 by decide, ?_⟩
    conv => whnf
    rw [e1]
    conv => whnf
    refine ⟨⟨by omega, by omega⟩, ?_⟩
    conv => whnf
    refine ⟨show (65521 : Int) ≠ 0 by decide, ?_⟩
    conv => whnf
    rw [e2]
    conv => whnf
    repeat (first | (refine And.intro rfl ?_; conv => whnf) | (refine And.intro (by decide) ?_; conv => whnf) | (refine draw_intro true (by kernel_rfl) ?_; conv => whnf) | (refine And.intro ⟨by omega, by omega⟩ ?_; conv => whnf) | (refine And.intro (by omega) ?_; conv => whnf) | (refine And.intro (fun _ => ⟨by omega, by omega⟩) ?_; conv => whnf) | (refine And.intro (of_decide_eq_true rfl) ?_; conv => whnf) | (refine And.intro (fun _ => ?_) (fun h => absurd h ?_); rotate_left; (focus (first | decide | (simp; done) | (simp [tcs]; done))); conv => whnf) | (refine And.intro (fun h => absurd h ?_) (fun _ => ?_); (focus (first | decide | (simp; done) | (simp [tcs]; done))); conv => whnf) | (intro _; conv => whnf))
    refine ⟨m - 1, _, _, by omega, ⟨j + 1, _, _, by omega, hs, ⟨⟨hm1, hm2⟩, Int.emod_nonneg _ (by decide), Int.emod_lt_of_pos _ (by decide)⟩, rfl, rfl⟩, Wk.sel [] (by decide) (by first | decide | (show (0 : Nat) ≤ _; decide) | (show ∀ i, i < 0 → _; decide) | (show (1 : Nat) ≤ _; decide) | (show ∀ i, i < 1 → _; decide) | (show (2 : Nat) ≤ _; decide) | (show ∀ i, i < 2 → _; decide) | (show (3 : Nat) ≤ _; decide) | (show ∀ i, i < 3 → _; decide) | (show (4 : Nat) ≤ _; decide) | (show ∀ i, i < 4 → _; decide) | (show (5 : Nat) ≤ _; decide) | (show ∀ i, i < 5 → _; decide) | (show (6 : Nat) ≤ _; decide) | (show ∀ i, i < 6 → _; decide) | (show (7 : Nat) ≤ _; decide) | (show ∀ i, i < 7 → _; decide)) (by first | decide | (show (0 : Nat) ≤ _; decide) | (show ∀ i, i < 0 → _; decide) | (show (1 : Nat) ≤ _; decide) | (show ∀ i, i < 1 → _; decide) | (show (2 : Nat) ≤ _; decide) | (show ∀ i, i < 2 → _; decide) | (show (3 : Nat) ≤ _; decide) | (show ∀ i, i < 3 → _; decide) | (show (4 : Nat) ≤ _; decide) | (show ∀ i, i < 4 → _; decide) | (show (5 : Nat) ≤ _; decide) | (show ∀ i, i < 5 → _; decide) | (show (6 : Nat) ≤ _; decide) | (show ∀ i, i < 6 → _; decide) | (show (7 : Nat) ≤ _; decide) | (show ∀ i, i < 7 → _; decide)) trivial ⟨rfl, rfl, rfl, rfl, rfl, trivial⟩ rfl⟩
  · replace hc : ¬ (j : Int) < s.size := of_decide_eq_false hc
    obtain rfl : j = s.size := by omega
    rw [List.drop_eq_nil_of_le (by omega), sumF] at hs
    rw [← hs]
    conv => whnf
    refine ⟨show (0 : Int) ≤ 16 by decide, ?_⟩
    conv => whnf
    rw [shl16 hab.2]
    conv => whnf
    refine ⟨⟨by omega, by omega⟩, ?_⟩
    conv => whnf
    repeat (first | (refine And.intro rfl ?_; conv => whnf) | (refine And.intro (by decide) ?_; conv => whnf) | (refine draw_intro true (by kernel_rfl) ?_; conv => whnf) | (refine And.intro ⟨by omega, by omega⟩ ?_; conv => whnf) | (refine And.intro (by omega) ?_; conv => whnf) | (refine And.intro (fun _ => ⟨by omega, by omega⟩) ?_; conv => whnf) | (refine And.intro (of_decide_eq_true rfl) ?_; conv => whnf) | (refine And.intro (fun _ => ?_) (fun h => absurd h ?_); rotate_left; (focus (first | decide | (simp; done) | (simp [tcs]; done))); conv => whnf) | (refine And.intro (fun h => absurd h ?_) (fun _ => ?_); (focus (first | decide | (simp; done) | (simp [tcs]; done))); conv => whnf) | (intro _; conv => whnf))
    all_goals (first | rfl | exact ⟨rfl, rfl⟩ | exact ⟨rfl, rfl, rfl⟩)
theorem cRSum (s : ByteArray) (hss : s.size ≤ 1000000000) : CallSt Tryz.prog 45 [.c (.str s)] [] (fun r H' => r = .c (.int .i64 (sumI s.data.toList)) ∧ H' = []) := by
  have hsz : s.data.toList.length = s.size := by rw [Array.length_toList]; rfl
  have hbd := sumF_bd s.data.toList (1, 0) (by decide)
  unfold sumI
  refine call_pure (E := env 0) (fn := Tryz.f45) (c := bodyOf Tryz.f45) (env_ok 0) mixed (by kernel_rfl) (by kernel_rfl) (by kernel_rfl) (by kernel_rfl) (by kernel_rfl) (by kernel_rfl) rfl ?_
  conv => whnf
  repeat (first | (refine And.intro rfl ?_; conv => whnf) | (refine And.intro (by decide) ?_; conv => whnf) | (refine draw_intro true (by kernel_rfl) ?_; conv => whnf) | (refine And.intro ⟨by omega, by omega⟩ ?_; conv => whnf) | (refine And.intro (by omega) ?_; conv => whnf) | (refine And.intro (fun _ => ⟨by omega, by omega⟩) ?_; conv => whnf) | (refine And.intro (of_decide_eq_true rfl) ?_; conv => whnf) | (refine And.intro (fun _ => ?_) (fun h => absurd h ?_); rotate_left; (focus (first | decide | (simp; done) | (simp [tcs]; done))); conv => whnf) | (refine And.intro (fun h => absurd h ?_) (fun _ => ?_); (focus (first | decide | (simp; done) | (simp [tcs]; done))); conv => whnf) | (intro _; conv => whnf))
  refine loop_intro (fun m tm H => ∃ (j : Nat) (a b : Int), s.size = m + j ∧ sumF (s.data.toList.drop j) (a, b) = sumF s.data.toList (1, 0) ∧ ((0 ≤ a ∧ a < 65521) ∧ (0 ≤ b ∧ b < 65521)) ∧
      tm = [(5, .c (.int .i64 (j))), (0, .c (.str s)), (3, .c (.int .i64 (a))), (4, .c (.int .i64 (b)))] ∧ H = [])
    s.size _ _ ⟨0, 1, 0, by omega, rfl, by decide, rfl, rfl⟩ (Wk.sel [] (by decide) (by first | decide | (show (0 : Nat) ≤ _; decide) | (show ∀ i, i < 0 → _; decide) | (show (1 : Nat) ≤ _; decide) | (show ∀ i, i < 1 → _; decide) | (show (2 : Nat) ≤ _; decide) | (show ∀ i, i < 2 → _; decide) | (show (3 : Nat) ≤ _; decide) | (show ∀ i, i < 3 → _; decide) | (show (4 : Nat) ≤ _; decide) | (show ∀ i, i < 4 → _; decide) | (show (5 : Nat) ≤ _; decide) | (show ∀ i, i < 5 → _; decide) | (show (6 : Nat) ≤ _; decide) | (show ∀ i, i < 6 → _; decide) | (show (7 : Nat) ≤ _; decide) | (show ∀ i, i < 7 → _; decide)) (by first | decide | (show (0 : Nat) ≤ _; decide) | (show ∀ i, i < 0 → _; decide) | (show (1 : Nat) ≤ _; decide) | (show ∀ i, i < 1 → _; decide) | (show (2 : Nat) ≤ _; decide) | (show ∀ i, i < 2 → _; decide) | (show (3 : Nat) ≤ _; decide) | (show ∀ i, i < 3 → _; decide) | (show (4 : Nat) ≤ _; decide) | (show ∀ i, i < 4 → _; decide) | (show (5 : Nat) ≤ _; decide) | (show ∀ i, i < 5 → _; decide) | (show (6 : Nat) ≤ _; decide) | (show ∀ i, i < 6 → _; decide) | (show (7 : Nat) ≤ _; decide) | (show ∀ i, i < 7 → _; decide)) trivial ⟨rfl, rfl, rfl, rfl, trivial⟩ rfl) ?_
  rintro m tm H ⟨j, a, b, hj, hs, hab, rfl, rfl⟩
  conv => whnf
  refine ⟨fun hc => ?_, fun hc => ?_⟩
  · replace hc : (j : Int) < s.size := of_decide_eq_true hc
    have hlt : j < s.data.toList.length := by omega
    obtain ⟨x, hx⟩ : ∃ x, s.data.toList[j]? = some x := ⟨_, List.getElem?_eq_getElem hlt⟩
    have hxb : 0 ≤ (x.toNat : Int) ∧ (x.toNat : Int) < 256 := ⟨by omega, by have := x.toNat_lt; omega⟩
    rw [drop_at hx, sumF] at hs
    have hgd : s.data.toList.getD (Int.toNat j) 0 = x := by rw [Int.toNat_natCast, List.getD_eq_getElem?_getD, hx]; rfl
    have e1 : (a + (x.toNat : Int)).tmod 65521 = (a + (x.toNat : Int)) % 65521 := Int.tmod_eq_emod_of_nonneg (by omega)
    have hm1 := Int.emod_nonneg (a + (x.toNat : Int)) (show (65521 : Int) ≠ 0 by decide)
    have hm2 := Int.emod_lt_of_pos (a + (x.toNat : Int)) (show (0 : Int) < 65521 by decide)
    have e2 : (b + (a + (x.toNat : Int)) % 65521).tmod 65521 = (b + (a + (x.toNat : Int)) % 65521) % 65521 := Int.tmod_eq_emod_of_nonneg (by omega)
    have e3 : IntKind.i64.wrap (x.toNat : Int) = x.toNat := i64_wrap (by omega)
    dsimp only at hs
    conv => whnf
    repeat (first | (refine And.intro rfl ?_; conv => whnf) | (refine And.intro (by decide) ?_; conv => whnf) | (refine draw_intro true (by kernel_rfl) ?_; conv => whnf) | (refine And.intro ⟨by omega, by omega⟩ ?_; conv => whnf) | (refine And.intro (by omega) ?_; conv => whnf) | (refine And.intro (fun _ => ⟨by omega, by omega⟩) ?_; conv => whnf) | (refine And.intro (of_decide_eq_true rfl) ?_; conv => whnf) | (refine And.intro (fun _ => ?_) (fun h => absurd h ?_); rotate_left; (focus (first | decide | (simp; done) | (simp [tcs]; done))); conv => whnf) | (refine And.intro (fun h => absurd h ?_) (fun _ => ?_); (focus (first | decide | (simp; done) | (simp [tcs]; done))); conv => whnf) | (intro _; conv => whnf))
    rw [hgd, e3]
    refine ⟨⟨by omega, by omega⟩, ?_⟩
    conv => whnf
    refine ⟨show (65521 : Int) ≠ 0 by decide, ?_⟩
    conv => whnf
    rw [e1]
    conv => whnf
    refine ⟨⟨by omega, by omega⟩, ?_⟩
    conv => whnf
    refine ⟨show (65521 : Int) ≠ 0 by decide, ?_⟩
    conv => whnf
    rw [e2]
    conv => whnf
    repeat (first | (refine And.intro rfl ?_; conv => whnf) | (refine And.intro (by decide) ?_; conv => whnf) | (refine draw_intro true (by kernel_rfl) ?_; conv => whnf) | (refine And.intro ⟨by omega, by omega⟩ ?_; conv => whnf) | (refine And.intro (by omega) ?_; conv => whnf) | (refine And.intro (fun _ => ⟨by omega, by omega⟩) ?_; conv => whnf) | (refine And.intro (of_decide_eq_true rfl) ?_; conv => whnf) | (refine And.intro (fun _ => ?_) (fun h => absurd h ?_); rotate_left; (focus (first | decide | (simp; done) | (simp [tcs]; done))); conv => whnf) | (refine And.intro (fun h => absurd h ?_) (fun _ => ?_); (focus (first | decide | (simp; done) | (simp [tcs]; done))); conv => whnf) | (intro _; conv => whnf))
    refine ⟨m - 1, _, _, by omega, ⟨j + 1, _, _, by omega, hs, ⟨⟨hm1, hm2⟩, Int.emod_nonneg _ (by decide), Int.emod_lt_of_pos _ (by decide)⟩, rfl, rfl⟩, Wk.sel [] (by decide) (by first | decide | (show (0 : Nat) ≤ _; decide) | (show ∀ i, i < 0 → _; decide) | (show (1 : Nat) ≤ _; decide) | (show ∀ i, i < 1 → _; decide) | (show (2 : Nat) ≤ _; decide) | (show ∀ i, i < 2 → _; decide) | (show (3 : Nat) ≤ _; decide) | (show ∀ i, i < 3 → _; decide) | (show (4 : Nat) ≤ _; decide) | (show ∀ i, i < 4 → _; decide) | (show (5 : Nat) ≤ _; decide) | (show ∀ i, i < 5 → _; decide) | (show (6 : Nat) ≤ _; decide) | (show ∀ i, i < 6 → _; decide) | (show (7 : Nat) ≤ _; decide) | (show ∀ i, i < 7 → _; decide)) (by first | decide | (show (0 : Nat) ≤ _; decide) | (show ∀ i, i < 0 → _; decide) | (show (1 : Nat) ≤ _; decide) | (show ∀ i, i < 1 → _; decide) | (show (2 : Nat) ≤ _; decide) | (show ∀ i, i < 2 → _; decide) | (show (3 : Nat) ≤ _; decide) | (show ∀ i, i < 3 → _; decide) | (show (4 : Nat) ≤ _; decide) | (show ∀ i, i < 4 → _; decide) | (show (5 : Nat) ≤ _; decide) | (show ∀ i, i < 5 → _; decide) | (show (6 : Nat) ≤ _; decide) | (show ∀ i, i < 6 → _; decide) | (show (7 : Nat) ≤ _; decide) | (show ∀ i, i < 7 → _; decide)) trivial ⟨rfl, rfl, rfl, rfl, trivial⟩ rfl⟩
  · replace hc : ¬ (j : Int) < s.size := of_decide_eq_false hc
    obtain rfl : j = s.size := by omega
    rw [List.drop_eq_nil_of_le (by omega), sumF] at hs
    rw [← hs]
    conv => whnf
    refine ⟨⟨by omega, by omega⟩, ?_⟩
    conv => whnf
    refine ⟨⟨by omega, by omega⟩, ?_⟩
    conv => whnf
    repeat (first | (refine And.intro rfl ?_; conv => whnf) | (refine And.intro (by decide) ?_; conv => whnf) | (refine draw_intro true (by kernel_rfl) ?_; conv => whnf) | (refine And.intro ⟨by omega, by omega⟩ ?_; conv => whnf) | (refine And.intro (by omega) ?_; conv => whnf) | (refine And.intro (fun _ => ⟨by omega, by omega⟩) ?_; conv => whnf) | (refine And.intro (of_decide_eq_true rfl) ?_; conv => whnf) | (refine And.intro (fun _ => ?_) (fun h => absurd h ?_); rotate_left; (focus (first | decide | (simp; done) | (simp [tcs]; done))); conv => whnf) | (refine And.intro (fun h => absurd h ?_) (fun _ => ?_); (focus (first | decide | (simp; done) | (simp [tcs]; done))); conv => whnf) | (intro _; conv => whnf))
    all_goals (first | rfl | exact ⟨rfl, rfl⟩ | exact ⟨rfl, rfl, rfl⟩)
/-- The last byte of a number that is shifted. -/
def sb (n : Int) (j : Nat) : UInt8 := u8 (n.fdiv (2 ^ (min (8 * (3 - (j : Int))).toNat 64)))
/-- Bytes, and their sum behind them. -/
def sealB (l : List UInt8) : List UInt8 := l ++ [sb (sumI l) 0, sb (sumI l) 1, sb (sumI l) 2, sb (sumI l) 3]
theorem cSealed (l : List UInt8) (hl : l.length ≤ 900000000) : CallSt Tryz.prog 49 [.own 0] [.row 5 1 1 (bR l)] (fun r H' => r = .c (.str ⟨(sealB l).toArray⟩) ∧ H' = [.dead]) := by
  have hs := cSum ⟨l.toArray⟩ (by simpa [ByteArray.size] using (by omega : l.length ≤ 1000000000))
  dsimp only at hs
  have hbd := sumI_bd l
  have hsb : ∀ j : Nat, j < 4 → sealB l = l ++ ([sb (sumI l) 0, sb (sumI l) 1, sb (sumI l) 2, sb (sumI l) 3] : List UInt8) := fun _ _ => rfl
  refine call_wk (E := envK 1) (fn := Tryz.f49) (c := bodyOf Tryz.f49) (envK_ok 1) mixed (by kernel_rfl) (by kernel_rfl) (by kernel_rfl) (by kernel_rfl) (by kernel_rfl) (by kernel_rfl) rfl false ?_
  conv => whnf
  repeat (first | (refine And.intro rfl ?_; conv => whnf) | (refine And.intro (by decide) ?_; conv => whnf) | (refine draw_intro true (by kernel_rfl) ?_; conv => whnf) | (refine And.intro ⟨by omega, by omega⟩ ?_; conv => whnf) | (refine And.intro (by omega) ?_; conv => whnf) | (refine And.intro (fun _ => ⟨by omega, by omega⟩) ?_; conv => whnf) | (refine And.intro (of_decide_eq_true rfl) ?_; conv => whnf) | (refine And.intro (fun _ => ?_) (fun h => absurd h ?_); rotate_left; (focus (first | decide | (simp; done) | (simp [tcs]; done))); conv => whnf) | (refine And.intro (fun h => absurd h ?_) (fun _ => ?_); (focus (first | decide | (simp; done) | (simp [tcs]; done))); conv => whnf) | (intro _; conv => whnf))
  refine ⟨l, rfl, ?_⟩
  conv => whnf
  repeat (first | (refine And.intro rfl ?_; conv => whnf) | (refine And.intro (by decide) ?_; conv => whnf) | (refine draw_intro true (by kernel_rfl) ?_; conv => whnf) | (refine And.intro ⟨by omega, by omega⟩ ?_; conv => whnf) | (refine And.intro (by omega) ?_; conv => whnf) | (refine And.intro (fun _ => ⟨by omega, by omega⟩) ?_; conv => whnf) | (refine And.intro (of_decide_eq_true rfl) ?_; conv => whnf) | (refine And.intro (fun _ => ?_) (fun h => absurd h ?_); rotate_left; (focus (first | decide | (simp; done) | (simp [tcs]; done))); conv => whnf) | (refine And.intro (fun h => absurd h ?_) (fun _ => ?_); (focus (first | decide | (simp; done) | (simp [tcs]; done))); conv => whnf) | (intro _; conv => whnf))
  try (refine draw_intro true (by kernel_rfl) ?_; conv => whnf)
  first | refine CallSt.use hs [] trivial (by decide) rfl ?_ | refine CallPt.useS hs [] trivial (by decide) rfl ?_
  rintro _ _ ⟨rfl, rfl⟩ _
  conv => whnf
  repeat (first | (refine And.intro rfl ?_; conv => whnf) | (refine And.intro (by decide) ?_; conv => whnf) | (refine draw_intro true (by kernel_rfl) ?_; conv => whnf) | (refine And.intro ⟨by omega, by omega⟩ ?_; conv => whnf) | (refine And.intro (by omega) ?_; conv => whnf) | (refine And.intro (fun _ => ⟨by omega, by omega⟩) ?_; conv => whnf) | (refine And.intro (of_decide_eq_true rfl) ?_; conv => whnf) | (refine And.intro (fun _ => ?_) (fun h => absurd h ?_); rotate_left; (focus (first | decide | (simp; done) | (simp [tcs]; done))); conv => whnf) | (refine And.intro (fun h => absurd h ?_) (fun _ => ?_); (focus (first | decide | (simp; done) | (simp [tcs]; done))); conv => whnf) | (intro _; conv => whnf))
  refine loop_intro (fun m tm H => ∃ (j : Nat), 4 = m + j ∧ tm = [(8, .c (.int .i64 (j))), (3, .c (.int .i64 (sumI l))), (0, .own 1)] ∧ H = [.dead, .row 5 1 1 (bR (l ++ ([sb (sumI l) 0, sb (sumI l) 1, sb (sumI l) 2, sb (sumI l) 3] : List UInt8).take j))])
    4 _ _ ⟨0, by omega, rfl, rfl⟩ ?_ ?_
  · refine Wk.trans (Wk.mvtmp 0 0 5 1 1 (bR l) rfl rfl rfl) ?_
    refine Wk.sel [0, 1] (by decide) (by decide) (by decide) ⟨rfl, ?_, trivial⟩ ⟨rfl, rfl, rfl, trivial⟩ rfl
    exact congrArg (fun z => some (Ent.row 5 1 1 (bR z))) (by simp)
  rintro m tm H ⟨j, hj, rfl, rfl⟩
  conv => whnf
  refine ⟨fun hc => ?_, fun hc => ?_⟩
  · replace hc : (j : Int) < 4 := of_decide_eq_true hc
    have hgj : ([sb (sumI l) 0, sb (sumI l) 1, sb (sumI l) 2, sb (sumI l) 3] : List UInt8)[j]? = some (sb (sumI l) j) := by
      rcases (by omega : j = 0 ∨ j = 1 ∨ j = 2 ∨ j = 3) with rfl | rfl | rfl | rfl <;> rfl
    have htk : ([sb (sumI l) 0, sb (sumI l) 1, sb (sumI l) 2, sb (sumI l) 3] : List UInt8).take (j + 1) = ([sb (sumI l) 0, sb (sumI l) 1, sb (sumI l) 2, sb (sumI l) 3] : List UInt8).take j ++ [sb (sumI l) j] := by
      rw [List.take_add_one, hgj]
      rfl
    generalize hL : ([sb (sumI l) 0, sb (sumI l) 1, sb (sumI l) 2, sb (sumI l) 3] : List UInt8) = L4 at *
    have hll : (bR (l ++ L4.take j)).length ≤ 900000004 := by
      rw [bR_len, List.length_append, List.length_take]
      omega
    have hb1 : ((bR (l ++ L4.take j)).length + 1) * 1 ≤ 140737488355328 := by omega
    have hb2 : (bR (l ++ L4.take j)).length + 1 ≤ 9223372036854775807 := by omega
    have hsbj : sb (sumI l) j = u8 ((sumI l).fdiv (2 ^ (min (8 * (3 - (j : Int))).toNat 64))) := rfl
    have hsn := bR_snoc (l ++ L4.take j) ((sumI l).fdiv (2 ^ (min (8 * (3 - (j : Int))).toNat 64)))
    rw [← hsbj] at hsn
    conv => whnf
    repeat (first | (refine And.intro rfl ?_; conv => whnf) | (refine And.intro (by decide) ?_; conv => whnf) | (refine draw_intro true (by kernel_rfl) ?_; conv => whnf) | (refine And.intro ⟨by omega, by omega⟩ ?_; conv => whnf) | (refine And.intro (by omega) ?_; conv => whnf) | (refine And.intro (fun _ => ⟨by omega, by omega⟩) ?_; conv => whnf) | (refine And.intro (of_decide_eq_true rfl) ?_; conv => whnf) | (refine And.intro (fun _ => ?_) (fun h => absurd h ?_); rotate_left; (focus (first | decide | (simp; done) | (simp [tcs]; done))); conv => whnf) | (refine And.intro (fun h => absurd h ?_) (fun _ => ?_); (focus (first | decide | (simp; done) | (simp [tcs]; done))); conv => whnf) | (intro _; conv => whnf))
    refine ⟨show 0 ≤ 8 * (3 - (j : Int)) by omega, ?_⟩
    conv => whnf
    repeat (first | (refine And.intro rfl ?_; conv => whnf) | (refine And.intro (by decide) ?_; conv => whnf) | (refine draw_intro true (by kernel_rfl) ?_; conv => whnf) | (refine And.intro ⟨by omega, by omega⟩ ?_; conv => whnf) | (refine And.intro (by omega) ?_; conv => whnf) | (refine And.intro (fun _ => ⟨by omega, by omega⟩) ?_; conv => whnf) | (refine And.intro (of_decide_eq_true rfl) ?_; conv => whnf) | (refine And.intro (fun _ => ?_) (fun h => absurd h ?_); rotate_left; (focus (first | decide | (simp; done) | (simp [tcs]; done))); conv => whnf) | (refine And.intro (fun h => absurd h ?_) (fun _ => ?_); (focus (first | decide | (simp; done) | (simp [tcs]; done))); conv => whnf) | (intro _; conv => whnf))
    refine ⟨m - 1, _, _, by omega, ⟨j + 1, by omega, rfl, rfl⟩, Wk.sel [0, 3] (by decide) (by decide) (by decide) ⟨rfl, ?_, trivial⟩ ⟨rfl, rfl, rfl, trivial⟩ rfl⟩
    rw [htk, ← List.append_assoc, ← hsn]
    rfl
  · replace hc : ¬ (j : Int) < 4 := of_decide_eq_false hc
    obtain rfl : j = 4 := by omega
    conv => whnf
    repeat (first | (refine And.intro rfl ?_; conv => whnf) | (refine And.intro (by decide) ?_; conv => whnf) | (refine draw_intro true (by kernel_rfl) ?_; conv => whnf) | (refine And.intro ⟨by omega, by omega⟩ ?_; conv => whnf) | (refine And.intro (by omega) ?_; conv => whnf) | (refine And.intro (fun _ => ⟨by omega, by omega⟩) ?_; conv => whnf) | (refine And.intro (of_decide_eq_true rfl) ?_; conv => whnf) | (refine And.intro (fun _ => ?_) (fun h => absurd h ?_); rotate_left; (focus (first | decide | (simp; done) | (simp [tcs]; done))); conv => whnf) | (refine And.intro (fun h => absurd h ?_) (fun _ => ?_); (focus (first | decide | (simp; done) | (simp [tcs]; done))); conv => whnf) | (intro _; conv => whnf))
    refine ⟨sealB l, rfl, ?_⟩
    conv => whnf
    repeat (first | (refine And.intro rfl ?_; conv => whnf) | (refine And.intro (by decide) ?_; conv => whnf) | (refine draw_intro true (by kernel_rfl) ?_; conv => whnf) | (refine And.intro ⟨by omega, by omega⟩ ?_; conv => whnf) | (refine And.intro (by omega) ?_; conv => whnf) | (refine And.intro (fun _ => ⟨by omega, by omega⟩) ?_; conv => whnf) | (refine And.intro (of_decide_eq_true rfl) ?_; conv => whnf) | (refine And.intro (fun _ => ?_) (fun h => absurd h ?_); rotate_left; (focus (first | decide | (simp; done) | (simp [tcs]; done))); conv => whnf) | (refine And.intro (fun h => absurd h ?_) (fun _ => ?_); (focus (first | decide | (simp; done) | (simp [tcs]; done))); conv => whnf) | (intro _; conv => whnf))
    refine ⟨[(2, .c (.str ⟨(sealB l).toArray⟩))], [.dead], Wk.sel [0] (by decide) (by first | decide | (show (0 : Nat) ≤ _; decide) | (show ∀ i, i < 0 → _; decide) | (show (1 : Nat) ≤ _; decide) | (show ∀ i, i < 1 → _; decide) | (show (2 : Nat) ≤ _; decide) | (show ∀ i, i < 2 → _; decide) | (show (3 : Nat) ≤ _; decide) | (show ∀ i, i < 3 → _; decide) | (show (4 : Nat) ≤ _; decide) | (show ∀ i, i < 4 → _; decide) | (show (5 : Nat) ≤ _; decide) | (show ∀ i, i < 5 → _; decide) | (show (6 : Nat) ≤ _; decide) | (show ∀ i, i < 6 → _; decide) | (show (7 : Nat) ≤ _; decide) | (show ∀ i, i < 7 → _; decide)) (by first | decide | (show (0 : Nat) ≤ _; decide) | (show ∀ i, i < 0 → _; decide) | (show (1 : Nat) ≤ _; decide) | (show ∀ i, i < 1 → _; decide) | (show (2 : Nat) ≤ _; decide) | (show ∀ i, i < 2 → _; decide) | (show (3 : Nat) ≤ _; decide) | (show ∀ i, i < 3 → _; decide) | (show (4 : Nat) ≤ _; decide) | (show ∀ i, i < 4 → _; decide) | (show (5 : Nat) ≤ _; decide) | (show ∀ i, i < 5 → _; decide) | (show (6 : Nat) ≤ _; decide) | (show ∀ i, i < 6 → _; decide) | (show (7 : Nat) ≤ _; decide) | (show ∀ i, i < 7 → _; decide)) ⟨rfl, trivial⟩ ⟨rfl, trivial⟩ rfl, ?_⟩
    conv => whnf
    exact ⟨rfl, rfl⟩
theorem cRSeal (s : ByteArray) (hs : s.size ≤ 900000000) : CallSt Tryz.prog 22 [.c (.str s)] [] (fun r H' => r = .c (.str ⟨(sealB s.data.toList).toArray⟩) ∧ H' = []) := by
  have hc := cRSum s (by omega)
  have hbd := sumI_bd s.data.toList
  have e : (⟨(sealB s.data.toList).toArray⟩ : ByteArray) = s ++ ⟨([sb (sumI s.data.toList) 0, sb (sumI s.data.toList) 1, sb (sumI s.data.toList) 2, sb (sumI s.data.toList) 3] : List UInt8).toArray⟩ := by
    apply ByteArray.ext
    simp [sealB, ByteArray.data_append]
  rw [e]
  have e2 : bR [sb (sumI s.data.toList) 0, sb (sumI s.data.toList) 1, sb (sumI s.data.toList) 2, sb (sumI s.data.toList) 3] = [[.int .u8 (IntKind.u8.wrap ((sumI s.data.toList).fdiv (2 ^ (min (24 : Int).toNat 64))))], [.int .u8 (IntKind.u8.wrap ((sumI s.data.toList).fdiv (2 ^ (min (16 : Int).toNat 64))))], [.int .u8 (IntKind.u8.wrap ((sumI s.data.toList).fdiv (2 ^ (min (8 : Int).toNat 64))))], [.int .u8 (IntKind.u8.wrap (sumI s.data.toList))]] := by
    have h3 : sb (sumI s.data.toList) 3 = u8 (sumI s.data.toList) := by
      unfold sb
      rw [show (2 : Int) ^ (min (8 * (3 - ((3 : Nat) : Int))).toNat 64) = 1 by decide]
      rw [Int.fdiv_one]
    rw [h3]
    simp only [u8_wrap]
    rfl
  generalize sumI s.data.toList = q at *
  refine call_pure (E := env 0) (fn := Tryz.f22) (c := bodyOf Tryz.f22) (env_ok 0) mixed (by kernel_rfl) (by kernel_rfl) (by kernel_rfl) (by kernel_rfl) (by kernel_rfl) (by kernel_rfl) rfl ?_
  conv => whnf
  try (refine draw_intro true (by kernel_rfl) ?_; conv => whnf)
  first | refine CallSt.use hc [] trivial (by decide) rfl ?_ | refine CallPt.useS hc [] trivial (by decide) rfl ?_
  rintro _ _ ⟨rfl, rfl⟩ _
  conv => whnf
  repeat (first | (refine And.intro rfl ?_; conv => whnf) | (refine And.intro (by decide) ?_; conv => whnf) | (refine draw_intro true (by kernel_rfl) ?_; conv => whnf) | (refine And.intro ⟨by omega, by omega⟩ ?_; conv => whnf) | (refine And.intro (by omega) ?_; conv => whnf) | (refine And.intro (fun _ => ⟨by omega, by omega⟩) ?_; conv => whnf) | (refine And.intro (of_decide_eq_true rfl) ?_; conv => whnf) | (refine And.intro (fun _ => ?_) (fun h => absurd h ?_); rotate_left; (focus (first | decide | (simp; done) | (simp [tcs]; done))); conv => whnf) | (refine And.intro (fun h => absurd h ?_) (fun _ => ?_); (focus (first | decide | (simp; done) | (simp [tcs]; done))); conv => whnf) | (intro _; conv => whnf))
  refine ⟨show (0 : Int) ≤ 24 by decide, ?_⟩
  conv => whnf
  refine ⟨show (0 : Int) ≤ 16 by decide, ?_⟩
  conv => whnf
  refine ⟨show (0 : Int) ≤ 8 by decide, ?_⟩
  conv => whnf
  repeat (first | (refine And.intro rfl ?_; conv => whnf) | (refine And.intro (by decide) ?_; conv => whnf) | (refine draw_intro true (by kernel_rfl) ?_; conv => whnf) | (refine And.intro ⟨by omega, by omega⟩ ?_; conv => whnf) | (refine And.intro (by omega) ?_; conv => whnf) | (refine And.intro (fun _ => ⟨by omega, by omega⟩) ?_; conv => whnf) | (refine And.intro (of_decide_eq_true rfl) ?_; conv => whnf) | (refine And.intro (fun _ => ?_) (fun h => absurd h ?_); rotate_left; (focus (first | decide | (simp; done) | (simp [tcs]; done))); conv => whnf) | (refine And.intro (fun h => absurd h ?_) (fun _ => ?_); (focus (first | decide | (simp; done) | (simp [tcs]; done))); conv => whnf) | (intro _; conv => whnf))
  refine ⟨[sb q 0, sb q 1, sb q 2, sb q 3], e2.symm, ?_⟩
  conv => whnf
  refine ⟨?_, ?_⟩
  · show s.size + 4 ≤ 9223372036854775807
    omega
  conv => whnf
  repeat (first | (refine And.intro rfl ?_; conv => whnf) | (refine And.intro (by decide) ?_; conv => whnf) | (refine draw_intro true (by kernel_rfl) ?_; conv => whnf) | (refine And.intro ⟨by omega, by omega⟩ ?_; conv => whnf) | (refine And.intro (by omega) ?_; conv => whnf) | (refine And.intro (fun _ => ⟨by omega, by omega⟩) ?_; conv => whnf) | (refine And.intro (of_decide_eq_true rfl) ?_; conv => whnf) | (refine And.intro (fun _ => ?_) (fun h => absurd h ?_); rotate_left; (focus (first | decide | (simp; done) | (simp [tcs]; done))); conv => whnf) | (refine And.intro (fun h => absurd h ?_) (fun _ => ?_); (focus (first | decide | (simp; done) | (simp [tcs]; done))); conv => whnf) | (intro _; conv => whnf))
  all_goals (first | rfl | exact ⟨rfl, rfl⟩ | exact ⟨rfl, rfl, rfl⟩)
end Go.Tr
/- cert: a list of numbers by a closure; packed. -/
namespace Go.Tr
open Go.Proofs
theorem cListC (f : FuncId) (q : Int) (g : Nat → List UInt8) (l : List UInt8) (L : List Nat) (hb : ∀ x ∈ L, (g x).length ≤ 9) (hl : l.length + 9 + 9 * L.length ≤ 900000000)
    (hf : ∀ (l' : List UInt8) (x : Nat), x ∈ L → l'.length ≤ 900000000 → CallSt Tryz.prog f [.own 0, .c (.int .i64 (x)), .ptr 1 0] [.row 5 1 1 (bR l'), .box [.c (.int .i64 (q))]] (fun r H' => r = .own 2 ∧ H' = [.dead, .box [.c (.int .i64 (q))], .row 5 1 1 (bR (l' ++ g x))])) :
    CallSt Tryz.prog 47 [.own 0, .c (.sl 1 8 (rowN L)), .fn f [.ptr 1 0]] [.row 5 1 1 (bR l), .box [.c (.int .i64 (q))]] (fun r H' => r = .own 2 ∧ H' = [.dead, .box [.c (.int .i64 (q))], .row 5 1 1 (bR (l ++ lstB g L))]) := by
  have hrl := rowN_len L
  have hdl : (digs L.length).length ≤ 9 := digs_len 8 _ (by omega)
  have hn := cNumber l L.length (by omega) (by omega)
  rw [← hrl] at hn
  refine call_wk (E := envK 2) (fn := Tryz.f47) (c := bodyOf Tryz.f47) (envK_ok 2) mixed (by kernel_rfl) (by kernel_rfl) (by kernel_rfl) (by kernel_rfl) (by kernel_rfl) (by kernel_rfl) rfl false ?_
  conv => whnf
  repeat (first | (refine And.intro rfl ?_; conv => whnf) | (refine And.intro (by decide) ?_; conv => whnf) | (refine draw_intro true (by kernel_rfl) ?_; conv => whnf) | (refine And.intro ⟨by omega, by omega⟩ ?_; conv => whnf) | (refine And.intro (by omega) ?_; conv => whnf) | (refine And.intro (fun _ => ⟨by omega, by omega⟩) ?_; conv => whnf) | (refine And.intro (of_decide_eq_true rfl) ?_; conv => whnf) | (refine And.intro (fun _ => ?_) (fun h => absurd h ?_); rotate_left; (focus (first | decide | (simp; done) | (simp [tcs]; done))); conv => whnf) | (refine And.intro (fun h => absurd h ?_) (fun _ => ?_); (focus (first | decide | (simp; done) | (simp [tcs]; done))); conv => whnf) | (intro _; conv => whnf))
  try (refine draw_intro true (by kernel_rfl) ?_; conv => whnf)
  first | refine CallSt.use hn [0] ⟨rfl, trivial⟩ (by decide) rfl ?_ | refine CallPt.useS hn [0] ⟨rfl, trivial⟩ (by decide) rfl ?_
  rintro _ _ ⟨rfl, rfl⟩ _
  conv => whnf
  repeat (first | (refine And.intro rfl ?_; conv => whnf) | (refine And.intro (by decide) ?_; conv => whnf) | (refine draw_intro true (by kernel_rfl) ?_; conv => whnf) | (refine And.intro ⟨by omega, by omega⟩ ?_; conv => whnf) | (refine And.intro (by omega) ?_; conv => whnf) | (refine And.intro (fun _ => ⟨by omega, by omega⟩) ?_; conv => whnf) | (refine And.intro (of_decide_eq_true rfl) ?_; conv => whnf) | (refine And.intro (fun _ => ?_) (fun h => absurd h ?_); rotate_left; (focus (first | decide | (simp; done) | (simp [tcs]; done))); conv => whnf) | (refine And.intro (fun h => absurd h ?_) (fun _ => ?_); (focus (first | decide | (simp; done) | (simp [tcs]; done))); conv => whnf) | (intro _; conv => whnf))
  refine loop_intro (fun m tm H => ∃ (j : Nat), L.length = m + j ∧ tm = [(15, .c (.int .i64 (j))), (14, .c (.int .i64 ((rowN L).length))), (13, .c (.sl 1 8 (rowN L))), (0, .own 2), (2, .fn f [.ptr 1 0])] ∧ H = [.dead, .box [.c (.int .i64 (q))], .row 5 1 1 (bR (l ++ (digs (rowN L).length ++ (L.take j).flatMap g)))])
    L.length _ _ ⟨0, by omega, rfl, rfl⟩ ?_ ?_
  · refine Wk.sel [0, 1, 2] (by decide) (by decide) (by decide) ⟨rfl, rfl, ?_, trivial⟩ ⟨rfl, rfl, rfl, rfl, rfl, trivial⟩ rfl
    exact congrArg (fun z => some (Ent.row 5 1 1 (bR z))) (by simp)
  rintro m tm H ⟨j, hj, rfl, rfl⟩
  conv => whnf
  refine ⟨fun hc => ?_, fun hc => ?_⟩
  · replace hc : (j : Int) < (rowN L).length := of_decide_eq_true hc
    obtain ⟨x, hx⟩ : ∃ x, L[j]? = some x := ⟨L[j]'(by omega), List.getElem?_eq_getElem (by omega)⟩
    have hxr := rowN_at hx
    have hfl : ((L.take j).flatMap g).length ≤ 9 * j := by
      have : ∀ (M : List Nat), (∀ x ∈ M, (g x).length ≤ 9) → (M.flatMap g).length ≤ 9 * M.length := fun M => by
        induction M with
        | nil => intro _; simp
        | cons a M ih =>
          intro h
          have := ih fun x hx => h x (by simp [hx])
          have := h a (by simp)
          simp only [List.flatMap_cons, List.length_append, List.length_cons]
          omega
      have h2 := this (L.take j) fun x hx => hb x (List.mem_of_mem_take hx)
      rw [List.length_take] at h2
      omega
    have hfx := hf (l ++ (digs (rowN L).length ++ (L.take j).flatMap g)) x (List.mem_of_getElem? hx) (by
      simp only [List.length_append]
      rw [hrl]
      omega)
    conv => whnf
    refine ⟨_, ⟨by omega, by simpa using hxr⟩, ?_⟩
    conv => whnf
    refine ⟨Nat.le_refl 1, ?_⟩
    conv => whnf
    try (refine draw_intro true (by kernel_rfl) ?_; conv => whnf)
    first | refine CallSt.use hfx [2, 1] ⟨rfl, rfl, trivial⟩ (by decide) rfl ?_ | refine CallPt.useS hfx [2, 1] ⟨rfl, rfl, trivial⟩ (by decide) rfl ?_
    rintro _ _ ⟨rfl, rfl⟩ _
    conv => whnf
    repeat (first | (refine And.intro rfl ?_; conv => whnf) | (refine And.intro (by decide) ?_; conv => whnf) | (refine draw_intro true (by kernel_rfl) ?_; conv => whnf) | (refine And.intro ⟨by omega, by omega⟩ ?_; conv => whnf) | (refine And.intro (by omega) ?_; conv => whnf) | (refine And.intro (fun _ => ⟨by omega, by omega⟩) ?_; conv => whnf) | (refine And.intro (of_decide_eq_true rfl) ?_; conv => whnf) | (refine And.intro (fun _ => ?_) (fun h => absurd h ?_); rotate_left; (focus (first | decide | (simp; done) | (simp [tcs]; done))); conv => whnf) | (refine And.intro (fun h => absurd h ?_) (fun _ => ?_); (focus (first | decide | (simp; done) | (simp [tcs]; done))); conv => whnf) | (intro _; conv => whnf))
    refine ⟨m - 1, _, _, by omega, ⟨j + 1, by omega, rfl, rfl⟩, Wk.sel [0, 1, 3] (by decide) (by decide) (by decide) ⟨rfl, rfl, ?_, trivial⟩ ⟨rfl, rfl, rfl, rfl, rfl, trivial⟩ rfl⟩
    refine congrArg (fun z => some (Ent.row 5 1 1 (bR z))) ?_
    rw [List.take_add_one, hx]
    simp
  · replace hc : ¬ (j : Int) < (rowN L).length := of_decide_eq_false hc
    obtain rfl : j = L.length := by omega
    conv => whnf
    repeat (first | (refine And.intro rfl ?_; conv => whnf) | (refine And.intro (by decide) ?_; conv => whnf) | (refine draw_intro true (by kernel_rfl) ?_; conv => whnf) | (refine And.intro ⟨by omega, by omega⟩ ?_; conv => whnf) | (refine And.intro (by omega) ?_; conv => whnf) | (refine And.intro (fun _ => ⟨by omega, by omega⟩) ?_; conv => whnf) | (refine And.intro (of_decide_eq_true rfl) ?_; conv => whnf) | (refine And.intro (fun _ => ?_) (fun h => absurd h ?_); rotate_left; (focus (first | decide | (simp; done) | (simp [tcs]; done))); conv => whnf) | (refine And.intro (fun h => absurd h ?_) (fun _ => ?_); (focus (first | decide | (simp; done) | (simp [tcs]; done))); conv => whnf) | (intro _; conv => whnf))
    refine ⟨[(6, .own 2)], [.dead, .box [.c (.int .i64 (q))], .row 5 1 1 (bR (l ++ lstB g L))], Wk.sel [0, 1, 2] (by decide) (by decide) (by decide) ⟨rfl, rfl, ?_, trivial⟩ ⟨rfl, trivial⟩ rfl, ?_⟩
    · refine congrArg (fun z => some (Ent.row 5 1 1 (bR z))) ?_
      rw [hrl, List.take_length]
      rfl
    conv => whnf
    exact ⟨rfl, rfl⟩
theorem cPackedF (l : List UInt8) (i x : Nat) (hx : x < i) (hi : i ≤ 1000000) (hl : l.length ≤ 900000000) : CallSt Tryz.prog 48 [.own 0, .c (.int .i64 (x)), .ptr 1 0] [.row 5 1 1 (bR l), .box [.c (.int .i64 (i))]] (fun r H' => r = .own 2 ∧ H' = [.dead, .box [.c (.int .i64 (i))], .row 5 1 1 (bR (l ++ digs (i - x - 1)))]) := by
  have hd := digs9 (n := i - x - 1) (by omega)
  have hn := cNumber l (i - x - 1) (by omega) (by omega)
  have e : ((i - x - 1 : Nat) : Int) = (i : Int) - x - 1 := by omega
  rw [e] at hn
  refine call_wk (E := envK 2) (fn := Tryz.f48) (c := bodyOf Tryz.f48) (envK_ok 2) mixed (by kernel_rfl) (by kernel_rfl) (by kernel_rfl) (by kernel_rfl) (by kernel_rfl) (by kernel_rfl) rfl false ?_
  conv => whnf
  repeat (first | (refine And.intro rfl ?_; conv => whnf) | (refine And.intro (by decide) ?_; conv => whnf) | (refine draw_intro true (by kernel_rfl) ?_; conv => whnf) | (refine And.intro ⟨by omega, by omega⟩ ?_; conv => whnf) | (refine And.intro (by omega) ?_; conv => whnf) | (refine And.intro (fun _ => ⟨by omega, by omega⟩) ?_; conv => whnf) | (refine And.intro (of_decide_eq_true rfl) ?_; conv => whnf) | (refine And.intro (fun _ => ?_) (fun h => absurd h ?_); rotate_left; (focus (first | decide | (simp; done) | (simp [tcs]; done))); conv => whnf) | (refine And.intro (fun h => absurd h ?_) (fun _ => ?_); (focus (first | decide | (simp; done) | (simp [tcs]; done))); conv => whnf) | (intro _; conv => whnf))
  try (refine draw_intro true (by kernel_rfl) ?_; conv => whnf)
  first | refine CallSt.use hn [0] ⟨rfl, trivial⟩ (by decide) rfl ?_ | refine CallPt.useS hn [0] ⟨rfl, trivial⟩ (by decide) rfl ?_
  rintro _ _ ⟨rfl, rfl⟩ _
  conv => whnf
  repeat (first | (refine And.intro rfl ?_; conv => whnf) | (refine And.intro (by decide) ?_; conv => whnf) | (refine draw_intro true (by kernel_rfl) ?_; conv => whnf) | (refine And.intro ⟨by omega, by omega⟩ ?_; conv => whnf) | (refine And.intro (by omega) ?_; conv => whnf) | (refine And.intro (fun _ => ⟨by omega, by omega⟩) ?_; conv => whnf) | (refine And.intro (of_decide_eq_true rfl) ?_; conv => whnf) | (refine And.intro (fun _ => ?_) (fun h => absurd h ?_); rotate_left; (focus (first | decide | (simp; done) | (simp [tcs]; done))); conv => whnf) | (refine And.intro (fun h => absurd h ?_) (fun _ => ?_); (focus (first | decide | (simp; done) | (simp [tcs]; done))); conv => whnf) | (intro _; conv => whnf))
  refine ⟨[(5, .own 2)], [.dead, .box [.c (.int .i64 (i))], .row 5 1 1 (bR (l ++ digs (i - x - 1)))], Wk.sel [0, 1, 2] (by decide) (by first | decide | (show (0 : Nat) ≤ _; decide) | (show ∀ i, i < 0 → _; decide) | (show (1 : Nat) ≤ _; decide) | (show ∀ i, i < 1 → _; decide) | (show (2 : Nat) ≤ _; decide) | (show ∀ i, i < 2 → _; decide) | (show (3 : Nat) ≤ _; decide) | (show ∀ i, i < 3 → _; decide) | (show (4 : Nat) ≤ _; decide) | (show ∀ i, i < 4 → _; decide) | (show (5 : Nat) ≤ _; decide) | (show ∀ i, i < 5 → _; decide) | (show (6 : Nat) ≤ _; decide) | (show ∀ i, i < 6 → _; decide) | (show (7 : Nat) ≤ _; decide) | (show ∀ i, i < 7 → _; decide)) (by first | decide | (show (0 : Nat) ≤ _; decide) | (show ∀ i, i < 0 → _; decide) | (show (1 : Nat) ≤ _; decide) | (show ∀ i, i < 1 → _; decide) | (show (2 : Nat) ≤ _; decide) | (show ∀ i, i < 2 → _; decide) | (show (3 : Nat) ≤ _; decide) | (show ∀ i, i < 3 → _; decide) | (show (4 : Nat) ≤ _; decide) | (show ∀ i, i < 4 → _; decide) | (show (5 : Nat) ≤ _; decide) | (show ∀ i, i < 5 → _; decide) | (show (6 : Nat) ≤ _; decide) | (show ∀ i, i < 6 → _; decide) | (show (7 : Nat) ≤ _; decide) | (show ∀ i, i < 7 → _; decide)) ⟨rfl, rfl, rfl, trivial⟩ ⟨rfl, trivial⟩ rfl, ?_⟩
  conv => whnf
  exact ⟨rfl, rfl⟩
/-- A node's bytes. -/
def nodeB (B : List Term) (i : Nat) (t : Term) : List UInt8 := [u8 (t.k + 8 * t.l)] ++ ((match decide (t.k = 4) with | true => digs t.n.toNat | false => []) ++ lstB (fun k => digs (i - k - 1)) (kd B t))
def nodesB (B : List Term) : Nat → List UInt8
  | 0 => []
  | n + 1 => nodesB B n ++ (match B[n]? with | some t => nodeB B n t | none => [])
def declB (d : Dcl) (r : Nat) : List UInt8 := digs d.s.size ++ d.s.data.toList ++ digs r ++ digs d.i.toNat
def declsB (S : List Dcl) (R : List Nat) : Nat → List UInt8
  | 0 => []
  | n + 1 => declsB S R n ++ (match S[n]?, R[n]? with | some d, some r => declB d r | _, _ => [])
/-- The bytes ahead of the sum. -/
def packL (S : List Dcl) (X : List Term) (B : List Term) (R : List Nat) : List UInt8 :=
  [116, 114, 49] ++ digs B.length ++ nodesB B B.length ++ digs S.length ++ declsB S R S.length ++ lstB digs ((R.drop S.length).take X.length) ++ ((R.drop S.length).drop X.length).flatMap digs
/-- What a well built certificate is like. -/
structure OkC (c : Crt) : Prop where
  sane : Sane c
  X : c.X.length ≤ 30
  names : ∀ d ∈ c.S, d.s.size ≤ 16 ∧ 0 ≤ d.i ∧ d.i ≤ 600
theorem built_ok {c : Crt} (h : builtB c = true) : OkC c := by
  unfold builtB at h
  simp only [Bool.and_eq_true, List.all_eq_true] at h
  obtain ⟨⟨hX, hS⟩, ht⟩ := h
  have hX := of_decide_eq_true hX
  have hSl : c.S.length ≤ 100 := by unfold checkB at hS; simp only [Bool.and_eq_true] at hS; exact of_decide_eq_true hS.1
  have htp : ∀ t ∈ crl c, prop t = true := fun t hm => by
    have := ht t hm
    unfold closedT at this
    simp only [Bool.and_eq_true] at this
    exact this.1
  refine ⟨⟨hSl, by omega, fun t hm => ⟨wf_prop (htp t hm), prop_sz (htp t hm)⟩⟩, hX, fun d hd => ?_⟩
  obtain ⟨i, hi⟩ := List.mem_iff_getElem?.1 hd
  have hil := (List.getElem?_eq_some_iff.1 hi).1
  unfold checkB at hS
  simp only [Bool.and_eq_true, List.all_eq_true] at hS
  have hg := hS.2 i (by simpa using hil)
  unfold goodD at hg
  rw [hi] at hg
  simp only [Bool.and_eq_true] at hg
  have hf := hg.2
  unfold formedF nameF isSmallF at hf
  simp only [Bool.and_eq_true, decide_eq_true_eq] at hf
  have hp := prop_sz hf.1.1.1.1
  have hdl := dom_len d.c 1 (prop_fm1 hf.1.1.1.1)
  exact ⟨hf.1.1.1.2.1.1.1.2, hf.1.1.2, by have := hf.1.2.1; omega⟩
theorem flat9 (g : Nat → List UInt8) : ∀ (M : List Nat), (∀ x ∈ M, (g x).length ≤ 9) → (M.flatMap g).length ≤ 9 * M.length
  | [], _ => by simp
  | a :: M, h => by
    have := flat9 g M fun x hx => h x (by simp [hx])
    have := h a (by simp)
    simp only [List.flatMap_cons, List.length_append, List.length_cons]
    omega
theorem lstB_len (g : Nat → List UInt8) (M : List Nat) (h : ∀ x ∈ M, (g x).length ≤ 9) (hl : M.length ≤ 4611686018427387904) : (lstB g M).length ≤ 9 + 9 * M.length := by
  have := flat9 g M h
  have := digs9 hl
  unfold lstB
  rw [List.length_append]
  omega
theorem nodeB_len {B : List Term} {i : Nat} {t : Term} (hw : wf t) (hs : szT t ≤ 600) (hi : i ≤ 1000000) : (nodeB B i t).length ≤ 5419 := by
  have hn := wf_node hw
  have hsl := szL_len t.ts
  have hsz : szT t = 1 + szL t.ts := by cases t; rw [szT]; rfl
  have h1 := lstB_len (fun k => digs (i - k - 1)) (kd B t) (fun x _ => digs9 (by omega)) (by unfold kd; rw [List.length_map]; omega)
  have h2 : (digs t.n.toNat).length ≤ 9 := digs9 (by omega)
  have h3 : (kd B t).length = t.ts.length := by simp [kd]
  unfold nodeB
  simp only [List.length_append, List.length_singleton]
  cases decide (t.k = 4) <;> simp only [List.length_nil] <;> omega
theorem nodesB_len {B : List Term} (h : ∀ t ∈ B, wf t ∧ szT t ≤ 600) (hB : B.length ≤ 1000000) : ∀ n : Nat, n ≤ B.length → (nodesB B n).length ≤ 5419 * n
  | 0, _ => by simp [nodesB]
  | n + 1, hn => by
    have := nodesB_len h hB n (by omega)
    have hg : B[n]? = some B[n] := List.getElem?_eq_getElem (by omega)
    have h2 := h B[n] (List.getElem_mem _)
    have := nodeB_len (B := B) (i := n) h2.1 h2.2 (by omega)
    rw [nodesB, hg, List.length_append]
    simp only
    omega
end Go.Tr
