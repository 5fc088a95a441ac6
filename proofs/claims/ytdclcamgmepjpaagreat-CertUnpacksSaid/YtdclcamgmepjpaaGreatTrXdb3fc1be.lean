/- What each function computes, and the plain laws of it. -/
import Derived.Shelf.Pu.Clone
import Derived.Test.YtdclcamgmepjpaaGreatTrXcaf4cd23
set_option linter.unusedVariables false
set_option linter.unusedSimpArgs false
set_option linter.unnecessarySimpa false
set_option autoImplicit false
/- The reference of trusslaw19: closed, Built, Nodes, Count. -/
namespace Go.Tr
open Go.Proofs
theorem cRClosed19 (t : Term) : CallSt Tryz.prog 28 [tv t] [] (fun r H' => r = .c (.bool (closedT t)) ∧ H' = []) := by
  have h16 := c16 t
  rw [← prop_rprop] at h16
  have hl := len_rowI (conF 3 t)
  unfold closedT
  cases hp : prop t with
  | false =>
    rw [hp] at h16
    generalize conF 3 t = L at *
    obtain ⟨k, l, n, ts⟩ := t
    rw [tv_mk] at *
    refine call_pure (E := env 0) (fn := Tryz.f28) (c := bodyOf Tryz.f28) (env_ok 0) mixed (by kernel_rfl) (by kernel_rfl) (by kernel_rfl) (by kernel_rfl) (by kernel_rfl) (by kernel_rfl) rfl ?_
    conv => whnf
    try (refine dI (by kernel_rfl) ?_; conv => whnf)
    first | refine CallSt.use h16 [] trivial (by decide) rfl ?_ | refine CallPt.useS h16 [] trivial (by decide) rfl ?_
    rintro _ _ ⟨rfl, rfl⟩ _
    conv => whnf
    repeat ((first | refine aI rfl ?_ | refine aI (by decide) ?_ | refine dI (by kernel_rfl) ?_ | refine aI ⟨by omega, by omega⟩ ?_ | refine aI (by omega) ?_ | refine aI (fun _ => ⟨by omega, by omega⟩) ?_ | refine aI (of_decide_eq_true rfl) ?_ | (refine yI ?_ ?_; focus (first | decide | (simp; done) | (simp [tcs]; done))) | (refine nI ?_ ?_; focus (first | decide | (simp; done) | (simp [tcs]; done))) | intro _); conv => whnf)
    all_goals (first | rfl | exact ⟨rfl, rfl⟩ | exact ⟨rfl, rfl, rfl⟩)
  | true =>
    have h3 := cRMetas hp
    rw [hp] at h16
    generalize conF 3 t = L at *
    obtain ⟨k, l, n, ts⟩ := t
    rw [tv_mk] at *
    refine call_pure (E := env 0) (fn := Tryz.f28) (c := bodyOf Tryz.f28) (env_ok 0) mixed (by kernel_rfl) (by kernel_rfl) (by kernel_rfl) (by kernel_rfl) (by kernel_rfl) (by kernel_rfl) rfl ?_
    conv => whnf
    try (refine dI (by kernel_rfl) ?_; conv => whnf)
    first | refine CallSt.use h16 [] trivial (by decide) rfl ?_ | refine CallPt.useS h16 [] trivial (by decide) rfl ?_
    rintro _ _ ⟨rfl, rfl⟩ _
    conv => whnf
    repeat ((first | refine aI rfl ?_ | refine aI (by decide) ?_ | refine dI (by kernel_rfl) ?_ | refine aI ⟨by omega, by omega⟩ ?_ | refine aI (by omega) ?_ | refine aI (fun _ => ⟨by omega, by omega⟩) ?_ | refine aI (of_decide_eq_true rfl) ?_ | (refine yI ?_ ?_; focus (first | decide | (simp; done) | (simp [tcs]; done))) | (refine nI ?_ ?_; focus (first | decide | (simp; done) | (simp [tcs]; done))) | intro _); conv => whnf)
    try (refine dI (by kernel_rfl) ?_; conv => whnf)
    first | refine CallSt.use h3 [] trivial (by decide) rfl ?_ | refine CallPt.useS h3 [] trivial (by decide) rfl ?_
    rintro _ _ ⟨rfl, rfl⟩ _
    conv => whnf
    repeat ((first | refine aI rfl ?_ | refine aI (by decide) ?_ | refine dI (by kernel_rfl) ?_ | refine aI ⟨by omega, by omega⟩ ?_ | refine aI (by omega) ?_ | refine aI (fun _ => ⟨by omega, by omega⟩) ?_ | refine aI (of_decide_eq_true rfl) ?_ | (refine yI ?_ ?_; focus (first | decide | (simp; done) | (simp [tcs]; done))) | (refine nI ?_ ?_; focus (first | decide | (simp; done) | (simp [tcs]; done))) | intro _); conv => whnf)
    exact ⟨congrArg (fun z => AV.c (CV.bool z)) (by rw [hl]; simp), rfl⟩
theorem check_closed {sig : List Dcl} (h : checkB sig = true) : ∀ d ∈ sig, closedT d.c = true := fun d hd => by
  obtain ⟨i, hi⟩ := List.mem_iff_getElem?.1 hd
  have hil := (List.getElem?_eq_some_iff.1 hi).1
  unfold checkB at h
  simp only [Bool.and_eq_true, List.all_eq_true] at h
  have hg := h.2 i (by simpa using hil)
  unfold goodD at hg
  rw [hi] at hg
  simp only [Bool.and_eq_true] at hg
  have hf := hg.2
  unfold formedF at hf
  simp only [Bool.and_eq_true] at hf
  have hp := hf.1.1.1.1
  have hn := hf.1.2.2
  rw [← closed_law hp] at hn
  unfold closedF at hn
  simp only [Bool.and_eq_true] at hn
  unfold closedT
  rw [hp, hn.1.2]
  rfl
theorem builtB_ref (c : Crt) : builtB c = (checkB c.S && !decide ((30 : Int) < (tcs c.X).length) && closedT c.o && closedT c.c && c.X.all closedT) := by
  have hxl := len_tcs c.X
  have e2 : decide (c.X.length ≤ 30) = !decide ((30 : Int) < (tcs c.X).length) := by
    by_cases h : c.X.length ≤ 30
    · rw [decide_eq_true h, decide_eq_false (by omega)]; rfl
    · rw [decide_eq_false h, decide_eq_true (by omega)]; rfl
  unfold builtB crl
  rw [e2]
  cases hcb : checkB c.S with
  | false => simp
  | true =>
    have e1 : (c.S.map (·.c)).all closedT = true := by
      rw [List.all_eq_true]
      intro t ht
      obtain ⟨d, hd, rfl⟩ := List.mem_map.1 ht
      exact check_closed hcb d hd
    rw [List.all_append, e1, List.all_append]
    simp only [List.all_cons, List.all_nil, Bool.and_true, Bool.true_and]
    cases decide ((30 : Int) < (tcs c.X).length) <;> cases closedT c.o <;> cases closedT c.c <;> simp
theorem cRBuilt (c : Crt) : CallSt Tryz.prog 10 [crv c] [] (fun r H' => r = .c (.bool (builtB c)) ∧ H' = []) := by
  have hf := cRFormed c.S
  have hxl := len_tcs c.X
  have ho := cRClosed19 c.o
  have hc := cRClosed19 c.c
  rw [builtB_ref]
  have hX := fun t => cRClosed19 t
  generalize checkB c.S = b1 at *
  generalize closedT c.o = b3 at *
  generalize closedT c.c = b4 at *
  obtain ⟨S, X, ⟨k, l, n, ts⟩, ⟨k2, l2, n2, us⟩⟩ := c
  unfold crv
  rw [tv_mk] at ho hc
  dsimp only [Term.k, Term.l, Term.n, Term.ts] at *
  cases b1 with
  | false =>
    refine call_pure (E := env 0) (fn := Tryz.f10) (c := bodyOf Tryz.f10) (env_ok 0) mixed (by kernel_rfl) (by kernel_rfl) (by kernel_rfl) (by kernel_rfl) (by kernel_rfl) (by kernel_rfl) rfl ?_
    conv => whnf
    repeat ((first | refine aI rfl ?_ | refine aI (by decide) ?_ | refine dI (by kernel_rfl) ?_ | refine aI ⟨by omega, by omega⟩ ?_ | refine aI (by omega) ?_ | refine aI (fun _ => ⟨by omega, by omega⟩) ?_ | refine aI (of_decide_eq_true rfl) ?_ | (refine yI ?_ ?_; focus (first | decide | (simp; done) | (simp [tcs]; done))) | (refine nI ?_ ?_; focus (first | decide | (simp; done) | (simp [tcs]; done))) | intro _); conv => whnf)
    try (refine dI (by kernel_rfl) ?_; conv => whnf)
    first | refine CallSt.use hf [] trivial (by decide) rfl ?_ | refine CallPt.useS hf [] trivial (by decide) rfl ?_
    rintro _ _ ⟨rfl, rfl⟩ _
    conv => whnf
    repeat ((first | refine aI rfl ?_ | refine aI (by decide) ?_ | refine dI (by kernel_rfl) ?_ | refine aI ⟨by omega, by omega⟩ ?_ | refine aI (by omega) ?_ | refine aI (fun _ => ⟨by omega, by omega⟩) ?_ | refine aI (of_decide_eq_true rfl) ?_ | (refine yI ?_ ?_; focus (first | decide | (simp; done) | (simp [tcs]; done))) | (refine nI ?_ ?_; focus (first | decide | (simp; done) | (simp [tcs]; done))) | intro _); conv => whnf)
    all_goals (first | rfl | exact ⟨rfl, rfl⟩ | exact ⟨rfl, rfl, rfl⟩)
  | true =>
  cases hb2 : decide ((30 : Int) < (tcs X).length) with
  | true =>
    refine call_pure (E := env 0) (fn := Tryz.f10) (c := bodyOf Tryz.f10) (env_ok 0) mixed (by kernel_rfl) (by kernel_rfl) (by kernel_rfl) (by kernel_rfl) (by kernel_rfl) (by kernel_rfl) rfl ?_
    conv => whnf
    repeat ((first | refine aI rfl ?_ | refine aI (by decide) ?_ | refine dI (by kernel_rfl) ?_ | refine aI ⟨by omega, by omega⟩ ?_ | refine aI (by omega) ?_ | refine aI (fun _ => ⟨by omega, by omega⟩) ?_ | refine aI (of_decide_eq_true rfl) ?_ | (refine yI ?_ ?_; focus (first | decide | (simp; done) | (simp [tcs]; done))) | (refine nI ?_ ?_; focus (first | decide | (simp; done) | (simp [tcs]; done))) | intro _); conv => whnf)
    try (refine dI (by kernel_rfl) ?_; conv => whnf)
    first | refine CallSt.use hf [] trivial (by decide) rfl ?_ | refine CallPt.useS hf [] trivial (by decide) rfl ?_
    rintro _ _ ⟨rfl, rfl⟩ _
    conv => whnf
    repeat ((first | refine aI rfl ?_ | refine aI (by decide) ?_ | refine dI (by kernel_rfl) ?_ | refine aI ⟨by omega, by omega⟩ ?_ | refine aI (by omega) ?_ | refine aI (fun _ => ⟨by omega, by omega⟩) ?_ | refine aI (of_decide_eq_true rfl) ?_ | (refine yI ?_ ?_; focus (first | decide | (simp; done) | (simp [tcs]; done))) | (refine nI ?_ ?_; focus (first | decide | (simp; done) | (simp [tcs]; done))) | intro _); conv => whnf)
    rw [hb2]
    repeat ((first | refine aI rfl ?_ | refine aI (by decide) ?_ | refine dI (by kernel_rfl) ?_ | refine aI ⟨by omega, by omega⟩ ?_ | refine aI (by omega) ?_ | refine aI (fun _ => ⟨by omega, by omega⟩) ?_ | refine aI (of_decide_eq_true rfl) ?_ | (refine yI ?_ ?_; focus (first | decide | (simp; done) | (simp [tcs]; done))) | (refine nI ?_ ?_; focus (first | decide | (simp; done) | (simp [tcs]; done))) | intro _); conv => whnf)
    all_goals (first | rfl | exact ⟨rfl, rfl⟩ | exact ⟨rfl, rfl, rfl⟩)
  | false =>
  cases b3 with
  | false =>
    refine call_pure (E := env 0) (fn := Tryz.f10) (c := bodyOf Tryz.f10) (env_ok 0) mixed (by kernel_rfl) (by kernel_rfl) (by kernel_rfl) (by kernel_rfl) (by kernel_rfl) (by kernel_rfl) rfl ?_
    conv => whnf
    repeat ((first | refine aI rfl ?_ | refine aI (by decide) ?_ | refine dI (by kernel_rfl) ?_ | refine aI ⟨by omega, by omega⟩ ?_ | refine aI (by omega) ?_ | refine aI (fun _ => ⟨by omega, by omega⟩) ?_ | refine aI (of_decide_eq_true rfl) ?_ | (refine yI ?_ ?_; focus (first | decide | (simp; done) | (simp [tcs]; done))) | (refine nI ?_ ?_; focus (first | decide | (simp; done) | (simp [tcs]; done))) | intro _); conv => whnf)
    try (refine dI (by kernel_rfl) ?_; conv => whnf)
    first | refine CallSt.use hf [] trivial (by decide) rfl ?_ | refine CallPt.useS hf [] trivial (by decide) rfl ?_
    rintro _ _ ⟨rfl, rfl⟩ _
    conv => whnf
    repeat ((first | refine aI rfl ?_ | refine aI (by decide) ?_ | refine dI (by kernel_rfl) ?_ | refine aI ⟨by omega, by omega⟩ ?_ | refine aI (by omega) ?_ | refine aI (fun _ => ⟨by omega, by omega⟩) ?_ | refine aI (of_decide_eq_true rfl) ?_ | (refine yI ?_ ?_; focus (first | decide | (simp; done) | (simp [tcs]; done))) | (refine nI ?_ ?_; focus (first | decide | (simp; done) | (simp [tcs]; done))) | intro _); conv => whnf)
    rw [hb2]
    repeat ((first | refine aI rfl ?_ | refine aI (by decide) ?_ | refine dI (by kernel_rfl) ?_ | refine aI ⟨by omega, by omega⟩ ?_ | refine aI (by omega) ?_ | refine aI (fun _ => ⟨by omega, by omega⟩) ?_ | refine aI (of_decide_eq_true rfl) ?_ | (refine yI ?_ ?_; focus (first | decide | (simp; done) | (simp [tcs]; done))) | (refine nI ?_ ?_; focus (first | decide | (simp; done) | (simp [tcs]; done))) | intro _); conv => whnf)
    try (refine dI (by kernel_rfl) ?_; conv => whnf)
    first | refine CallSt.use ho [] trivial (by decide) rfl ?_ | refine CallPt.useS ho [] trivial (by decide) rfl ?_
    rintro _ _ ⟨rfl, rfl⟩ _
    conv => whnf
    repeat ((first | refine aI rfl ?_ | refine aI (by decide) ?_ | refine dI (by kernel_rfl) ?_ | refine aI ⟨by omega, by omega⟩ ?_ | refine aI (by omega) ?_ | refine aI (fun _ => ⟨by omega, by omega⟩) ?_ | refine aI (of_decide_eq_true rfl) ?_ | (refine yI ?_ ?_; focus (first | decide | (simp; done) | (simp [tcs]; done))) | (refine nI ?_ ?_; focus (first | decide | (simp; done) | (simp [tcs]; done))) | intro _); conv => whnf)
    all_goals (first | rfl | exact ⟨rfl, rfl⟩ | exact ⟨rfl, rfl, rfl⟩)
  | true =>
  cases b4 with
  | false =>
    refine call_pure (E := env 0) (fn := Tryz.f10) (c := bodyOf Tryz.f10) (env_ok 0) mixed (by kernel_rfl) (by kernel_rfl) (by kernel_rfl) (by kernel_rfl) (by kernel_rfl) (by kernel_rfl) rfl ?_
    conv => whnf
    repeat ((first | refine aI rfl ?_ | refine aI (by decide) ?_ | refine dI (by kernel_rfl) ?_ | refine aI ⟨by omega, by omega⟩ ?_ | refine aI (by omega) ?_ | refine aI (fun _ => ⟨by omega, by omega⟩) ?_ | refine aI (of_decide_eq_true rfl) ?_ | (refine yI ?_ ?_; focus (first | decide | (simp; done) | (simp [tcs]; done))) | (refine nI ?_ ?_; focus (first | decide | (simp; done) | (simp [tcs]; done))) | intro _); conv => whnf)
    try (refine dI (by kernel_rfl) ?_; conv => whnf)
    first | refine CallSt.use hf [] trivial (by decide) rfl ?_ | refine CallPt.useS hf [] trivial (by decide) rfl ?_
    rintro _ _ ⟨rfl, rfl⟩ _
    conv => whnf
    repeat ((first | refine aI rfl ?_ | refine aI (by decide) ?_ | refine dI (by kernel_rfl) ?_ | refine aI ⟨by omega, by omega⟩ ?_ | refine aI (by omega) ?_ | refine aI (fun _ => ⟨by omega, by omega⟩) ?_ | refine aI (of_decide_eq_true rfl) ?_ | (refine yI ?_ ?_; focus (first | decide | (simp; done) | (simp [tcs]; done))) | (refine nI ?_ ?_; focus (first | decide | (simp; done) | (simp [tcs]; done))) | intro _); conv => whnf)
    rw [hb2]
    repeat ((first | refine aI rfl ?_ | refine aI (by decide) ?_ | refine dI (by kernel_rfl) ?_ | refine aI ⟨by omega, by omega⟩ ?_ | refine aI (by omega) ?_ | refine aI (fun _ => ⟨by omega, by omega⟩) ?_ | refine aI (of_decide_eq_true rfl) ?_ | (refine yI ?_ ?_; focus (first | decide | (simp; done) | (simp [tcs]; done))) | (refine nI ?_ ?_; focus (first | decide | (simp; done) | (simp [tcs]; done))) | intro _); conv => whnf)
    try (refine dI (by kernel_rfl) ?_; conv => whnf)
    first | refine CallSt.use ho [] trivial (by decide) rfl ?_ | refine CallPt.useS ho [] trivial (by decide) rfl ?_
    rintro _ _ ⟨rfl, rfl⟩ _
    conv => whnf
    repeat ((first | refine aI rfl ?_ | refine aI (by decide) ?_ | refine dI (by kernel_rfl) ?_ | refine aI ⟨by omega, by omega⟩ ?_ | refine aI (by omega) ?_ | refine aI (fun _ => ⟨by omega, by omega⟩) ?_ | refine aI (of_decide_eq_true rfl) ?_ | (refine yI ?_ ?_; focus (first | decide | (simp; done) | (simp [tcs]; done))) | (refine nI ?_ ?_; focus (first | decide | (simp; done) | (simp [tcs]; done))) | intro _); conv => whnf)
    try (refine dI (by kernel_rfl) ?_; conv => whnf)
    first | refine CallSt.use hc [] trivial (by decide) rfl ?_ | refine CallPt.useS hc [] trivial (by decide) rfl ?_
    rintro _ _ ⟨rfl, rfl⟩ _
    conv => whnf
    repeat ((first | refine aI rfl ?_ | refine aI (by decide) ?_ | refine dI (by kernel_rfl) ?_ | refine aI ⟨by omega, by omega⟩ ?_ | refine aI (by omega) ?_ | refine aI (fun _ => ⟨by omega, by omega⟩) ?_ | refine aI (of_decide_eq_true rfl) ?_ | (refine yI ?_ ?_; focus (first | decide | (simp; done) | (simp [tcs]; done))) | (refine nI ?_ ?_; focus (first | decide | (simp; done) | (simp [tcs]; done))) | intro _); conv => whnf)
    all_goals (first | rfl | exact ⟨rfl, rfl⟩ | exact ⟨rfl, rfl, rfl⟩)
  | true =>
  refine call_pure (E := env 0) (fn := Tryz.f10) (c := bodyOf Tryz.f10) (env_ok 0) mixed (by kernel_rfl) (by kernel_rfl) (by kernel_rfl) (by kernel_rfl) (by kernel_rfl) (by kernel_rfl) rfl ?_
  conv => whnf
  repeat ((first | refine aI rfl ?_ | refine aI (by decide) ?_ | refine dI (by kernel_rfl) ?_ | refine aI ⟨by omega, by omega⟩ ?_ | refine aI (by omega) ?_ | refine aI (fun _ => ⟨by omega, by omega⟩) ?_ | refine aI (of_decide_eq_true rfl) ?_ | (refine yI ?_ ?_; focus (first | decide | (simp; done) | (simp [tcs]; done))) | (refine nI ?_ ?_; focus (first | decide | (simp; done) | (simp [tcs]; done))) | intro _); conv => whnf)
  try (refine dI (by kernel_rfl) ?_; conv => whnf)
  first | refine CallSt.use hf [] trivial (by decide) rfl ?_ | refine CallPt.useS hf [] trivial (by decide) rfl ?_
  rintro _ _ ⟨rfl, rfl⟩ _
  conv => whnf
  repeat ((first | refine aI rfl ?_ | refine aI (by decide) ?_ | refine dI (by kernel_rfl) ?_ | refine aI ⟨by omega, by omega⟩ ?_ | refine aI (by omega) ?_ | refine aI (fun _ => ⟨by omega, by omega⟩) ?_ | refine aI (of_decide_eq_true rfl) ?_ | (refine yI ?_ ?_; focus (first | decide | (simp; done) | (simp [tcs]; done))) | (refine nI ?_ ?_; focus (first | decide | (simp; done) | (simp [tcs]; done))) | intro _); conv => whnf)
  rw [hb2]
  repeat ((first | refine aI rfl ?_ | refine aI (by decide) ?_ | refine dI (by kernel_rfl) ?_ | refine aI ⟨by omega, by omega⟩ ?_ | refine aI (by omega) ?_ | refine aI (fun _ => ⟨by omega, by omega⟩) ?_ | refine aI (of_decide_eq_true rfl) ?_ | (refine yI ?_ ?_; focus (first | decide | (simp; done) | (simp [tcs]; done))) | (refine nI ?_ ?_; focus (first | decide | (simp; done) | (simp [tcs]; done))) | intro _); conv => whnf)
  try (refine dI (by kernel_rfl) ?_; conv => whnf)
  first | refine CallSt.use ho [] trivial (by decide) rfl ?_ | refine CallPt.useS ho [] trivial (by decide) rfl ?_
  rintro _ _ ⟨rfl, rfl⟩ _
  conv => whnf
  repeat ((first | refine aI rfl ?_ | refine aI (by decide) ?_ | refine dI (by kernel_rfl) ?_ | refine aI ⟨by omega, by omega⟩ ?_ | refine aI (by omega) ?_ | refine aI (fun _ => ⟨by omega, by omega⟩) ?_ | refine aI (of_decide_eq_true rfl) ?_ | (refine yI ?_ ?_; focus (first | decide | (simp; done) | (simp [tcs]; done))) | (refine nI ?_ ?_; focus (first | decide | (simp; done) | (simp [tcs]; done))) | intro _); conv => whnf)
  try (refine dI (by kernel_rfl) ?_; conv => whnf)
  first | refine CallSt.use hc [] trivial (by decide) rfl ?_ | refine CallPt.useS hc [] trivial (by decide) rfl ?_
  rintro _ _ ⟨rfl, rfl⟩ _
  conv => whnf
  repeat ((first | refine aI rfl ?_ | refine aI (by decide) ?_ | refine dI (by kernel_rfl) ?_ | refine aI ⟨by omega, by omega⟩ ?_ | refine aI (by omega) ?_ | refine aI (fun _ => ⟨by omega, by omega⟩) ?_ | refine aI (of_decide_eq_true rfl) ?_ | (refine yI ?_ ?_; focus (first | decide | (simp; done) | (simp [tcs]; done))) | (refine nI ?_ ?_; focus (first | decide | (simp; done) | (simp [tcs]; done))) | intro _); conv => whnf)
  refine loop_intro (fun m tm H => ∃ j : Nat, X.length = m + j ∧ (∀ (q : Nat) t, q < j → X[q]? = some t → closedT t = true) ∧ tm = [(3, .c (.int .i64 (j))), (1, .ptr 0 0), (2, .c (.bool false))] ∧ H = [.box [.c (.sl 6 72 (dcs S)), .c (.sl 4 48 (tcs X)), .c (.int .i64 (k)), .c (.int .i64 (l)), .c (.int .i64 (n)), .c (.sl 4 48 (tcs ts)), .c (.int .i64 (k2)), .c (.int .i64 (l2)), .c (.int .i64 (n2)), .c (.sl 4 48 (tcs us))]])
    X.length _ _ ⟨0, by omega, fun q t hq => absurd hq (by omega), rfl, rfl⟩ (Wk.sl [0] rfl ⟨rfl, trivial⟩ ⟨rfl, rfl, rfl, trivial⟩ rfl) ?_
  rintro m tm H ⟨j, hj, hall, rfl, rfl⟩
  conv => whnf
  repeat ((first | refine aI rfl ?_ | refine aI (by decide) ?_ | refine aI ⟨by omega, by omega⟩ ?_ | refine aI (by omega) ?_ | refine aI (fun _ => ⟨by omega, by omega⟩) ?_ | refine aI (of_decide_eq_true rfl) ?_ | (refine yI ?_ ?_; focus (first | decide | (simp; done) | (simp [tcs]; done))) | (refine nI ?_ ?_; focus (first | decide | (simp; done) | (simp [tcs]; done)))); conv => whnf)
  intro hgl
  conv => whnf
  repeat ((first | refine aI rfl ?_ | refine aI (by decide) ?_ | refine aI ⟨by omega, by omega⟩ ?_ | refine aI (by omega) ?_ | refine aI (fun _ => ⟨by omega, by omega⟩) ?_ | refine aI (of_decide_eq_true rfl) ?_ | (refine yI ?_ ?_; focus (first | decide | (simp; done) | (simp [tcs]; done))) | (refine nI ?_ ?_; focus (first | decide | (simp; done) | (simp [tcs]; done)))); conv => whnf)
  refine ⟨fun hlt => ?_, fun hlt => ?_⟩
  · replace hlt : (j : Int) < (tcs X).length := of_decide_eq_true hlt
    obtain ⟨u, hu⟩ : ∃ u, X[j]? = some u := ⟨X[j]'(by omega), List.getElem?_eq_getElem (by omega)⟩
    have huc := tcs_at X j u hu
    have hcu := hX u
    have hl : j < 1000 := by
      have := of_decide_eq_false hb2
      omega
    cases hcb : closedT u with
    | false =>
      have e : X.all closedT = false := by
        rw [List.all_eq_false]
        exact ⟨u, List.mem_of_getElem? hu, by rw [hcb]; simp⟩
      rw [e]
      rw [hcb] at hcu
      obtain ⟨k', l', n', us'⟩ := u
      rw [tv_mk] at hcu
      conv => whnf
      repeat ((first | refine aI rfl ?_ | refine aI (by decide) ?_ | refine aI ⟨by omega, by omega⟩ ?_ | refine aI (by omega) ?_ | refine aI (fun _ => ⟨by omega, by omega⟩) ?_ | refine aI (of_decide_eq_true rfl) ?_ | (refine yI ?_ ?_; focus (first | decide | (simp; done) | (simp [tcs]; done))) | (refine nI ?_ ?_; focus (first | decide | (simp; done) | (simp [tcs]; done)))); conv => whnf)
      refine ⟨_, ⟨by omega, by simpa using huc⟩, ?_⟩
      conv => whnf
      refine ⟨Nat.le_refl 4, ?_⟩
      conv => whnf
      repeat ((first | refine aI rfl ?_ | refine aI (by decide) ?_ | refine aI ⟨by omega, by omega⟩ ?_ | refine aI (by omega) ?_ | refine aI (fun _ => ⟨by omega, by omega⟩) ?_ | refine aI (of_decide_eq_true rfl) ?_ | (refine yI ?_ ?_; focus (first | decide | (simp; done) | (simp [tcs]; done))) | (refine nI ?_ ?_; focus (first | decide | (simp; done) | (simp [tcs]; done)))); conv => whnf)
      try (refine dI (by kernel_rfl) ?_; conv => whnf)
      first | refine CallSt.use hcu [] trivial (by decide) rfl ?_ | refine CallPt.useS hcu [] trivial (by decide) rfl ?_
      rintro _ _ ⟨rfl, rfl⟩ _
      conv => whnf
      repeat ((first | refine aI rfl ?_ | refine aI (by decide) ?_ | refine dI (by kernel_rfl) ?_ | refine aI ⟨by omega, by omega⟩ ?_ | refine aI (by omega) ?_ | refine aI (fun _ => ⟨by omega, by omega⟩) ?_ | refine aI (of_decide_eq_true rfl) ?_ | (refine yI ?_ ?_; focus (first | decide | (simp; done) | (simp [tcs]; done))) | (refine nI ?_ ?_; focus (first | decide | (simp; done) | (simp [tcs]; done))) | intro _); conv => whnf)
      all_goals (first | rfl | exact ⟨rfl, rfl⟩ | exact ⟨rfl, rfl, rfl⟩)
    | true =>
      rw [hcb] at hcu
      have hnx : ∀ (q : Nat) t, q < j + 1 → X[q]? = some t → closedT t = true := fun q t hq ht => by
        by_cases hqj : q < j
        · exact hall q t hqj ht
        · obtain rfl : q = j := by omega
          rw [hu] at ht
          injection ht with ht
          exact ht ▸ hcb
      clear hcb
      obtain ⟨k', l', n', us'⟩ := u
      rw [tv_mk] at hcu
      conv => whnf
      repeat ((first | refine aI rfl ?_ | refine aI (by decide) ?_ | refine aI ⟨by omega, by omega⟩ ?_ | refine aI (by omega) ?_ | refine aI (fun _ => ⟨by omega, by omega⟩) ?_ | refine aI (of_decide_eq_true rfl) ?_ | (refine yI ?_ ?_; focus (first | decide | (simp; done) | (simp [tcs]; done))) | (refine nI ?_ ?_; focus (first | decide | (simp; done) | (simp [tcs]; done)))); conv => whnf)
      refine ⟨_, ⟨by omega, by simpa using huc⟩, ?_⟩
      conv => whnf
      refine ⟨Nat.le_refl 4, ?_⟩
      conv => whnf
      repeat ((first | refine aI rfl ?_ | refine aI (by decide) ?_ | refine aI ⟨by omega, by omega⟩ ?_ | refine aI (by omega) ?_ | refine aI (fun _ => ⟨by omega, by omega⟩) ?_ | refine aI (of_decide_eq_true rfl) ?_ | (refine yI ?_ ?_; focus (first | decide | (simp; done) | (simp [tcs]; done))) | (refine nI ?_ ?_; focus (first | decide | (simp; done) | (simp [tcs]; done)))); conv => whnf)
      try (refine dI (by kernel_rfl) ?_; conv => whnf)
      first | refine CallSt.use hcu [] trivial (by decide) rfl ?_ | refine CallPt.useS hcu [] trivial (by decide) rfl ?_
      rintro _ _ ⟨rfl, rfl⟩ _
      conv => whnf
      repeat ((first | refine aI rfl ?_ | refine aI (by decide) ?_ | refine dI (by kernel_rfl) ?_ | refine aI ⟨by omega, by omega⟩ ?_ | refine aI (by omega) ?_ | refine aI (fun _ => ⟨by omega, by omega⟩) ?_ | refine aI (of_decide_eq_true rfl) ?_ | (refine yI ?_ ?_; focus (first | decide | (simp; done) | (simp [tcs]; done))) | (refine nI ?_ ?_; focus (first | decide | (simp; done) | (simp [tcs]; done))) | intro _); conv => whnf)
      refine ⟨m - 1, _, _, by omega, ⟨j + 1, by omega, hnx, rfl, rfl⟩, Wk.sl [0] rfl ⟨rfl, trivial⟩ ⟨rfl, rfl, rfl, trivial⟩ rfl⟩
  · replace hlt : ¬ (j : Int) < (tcs X).length := of_decide_eq_false hlt
    obtain rfl : j = X.length := by omega
    have e : X.all closedT = true := by
      rw [List.all_eq_true]
      intro t ht
      obtain ⟨i, hi⟩ := List.mem_iff_getElem?.1 ht
      exact hall i t (List.getElem?_eq_some_iff.1 hi).1 hi
    rw [e]
    conv => whnf
    repeat ((first | refine aI rfl ?_ | refine aI (by decide) ?_ | refine dI (by kernel_rfl) ?_ | refine aI ⟨by omega, by omega⟩ ?_ | refine aI (by omega) ?_ | refine aI (fun _ => ⟨by omega, by omega⟩) ?_ | refine aI (of_decide_eq_true rfl) ?_ | (refine yI ?_ ?_; focus (first | decide | (simp; done) | (simp [tcs]; done))) | (refine nI ?_ ?_; focus (first | decide | (simp; done) | (simp [tcs]; done))) | intro _); conv => whnf)
    all_goals (first | rfl | exact ⟨rfl, rfl⟩ | exact ⟨rfl, rfl, rfl⟩)
end Go.Tr
/- The reference of trusslaw19: Count. -/
namespace Go.Tr
open Go.Proofs
end Go.Tr
/- strings.Clone at the seat. -/
namespace Go.Proofs
open Go.RowKit Go.Shelf
def Tryz.cloneA_ren : Ren where
  f := fun x => match x with
    | 25 => 111
    | n => n
  t := fun x => match x with
    | 0 => 0
    | 3 => 3
    | 4 => 4
    | 5 => 5
    | 9 => 9
    | 37 => 79
    | 47 => 142
    | n => n
  g := fun n => n
theorem Tryz.cloneA : LaysPu.n25 Tryz.prog Tryz.cloneA_ren where
  mixed := rfl
  f25 := Tryz.func111.trans (by kernel_rfl)
  t0 := Tryz.underlying0
  a0 := Tryz.isAgg0
  z0 := Tryz.sizeOf0
  v0 := Tryz.zeroValue0
  i0 := by kernel_rfl
  t3 := Tryz.underlying3
  a3 := Tryz.isAgg3
  z3 := Tryz.sizeOf3
  v3 := Tryz.zeroValue3
  i3 := by kernel_rfl
  t4 := Tryz.underlying4
  a4 := Tryz.isAgg4
  z4 := Tryz.sizeOf4
  v4 := Tryz.zeroValue4
  i4 := by kernel_rfl
  t5 := Tryz.underlying5
  a5 := Tryz.isAgg5
  z5 := Tryz.sizeOf5
  v5 := Tryz.zeroValue5
  i5 := by kernel_rfl
  t9 := Tryz.underlying9
  a9 := Tryz.isAgg9
  z9 := Tryz.sizeOf9
  v9 := Tryz.zeroValue9
  i9 := by kernel_rfl
  t37 := Tryz.underlying79
  a37 := Tryz.isAgg79
  z37 := Tryz.sizeOf79
  v37 := Tryz.zeroValue79
  i37 := by kernel_rfl
  t47 := Tryz.underlying142
  a47 := Tryz.isAgg142
  z47 := Tryz.sizeOf142
  v47 := Tryz.zeroValue142
  i47 := by kernel_rfl
end Go.Proofs
/- cert: the reader's bytes and numbers. -/
namespace Go.Tr
open Go.Proofs
def trb : CV := .ifc 104 []
theorem cDemand (b : Bool) : CallPt Tryz.prog 62 [.c (.bool b)] [] (fun r H' => b = true ∧ r = .tup [] ∧ H' = []) (fun x H' => (x = trb ∧ b = false) ∧ H' = []) := by
  refine call_pan (E := env 0) (fn := Tryz.f62) (c := bodyOf Tryz.f62) (env_ok 0) mixed (by kernel_rfl) (by kernel_rfl) (by kernel_rfl) (by kernel_rfl) (by kernel_rfl) (by kernel_rfl) rfl .q ?_
  conv => whnf
  repeat ((first | refine aI rfl ?_ | refine aI (by decide) ?_ | refine dI (by kernel_rfl) ?_ | refine aI ⟨by omega, by omega⟩ ?_ | refine aI (by omega) ?_ | refine aI (fun _ => ⟨by omega, by omega⟩) ?_ | refine aI (of_decide_eq_true rfl) ?_ | (refine yI ?_ ?_; focus (first | decide | (simp; done) | (simp [tcs]; done))) | (refine nI ?_ ?_; focus (first | decide | (simp; done) | (simp [tcs]; done))) | intro _); conv => whnf)
  cases b with
  | true =>
    (refine ⟨fun h => absurd h ?_, fun _ => ?_⟩; (focus (first | decide | (simp; done) | (simp [tcs]; done))); conv => whnf)
    repeat ((first | refine aI rfl ?_ | refine aI (by decide) ?_ | refine dI (by kernel_rfl) ?_ | refine aI ⟨by omega, by omega⟩ ?_ | refine aI (by omega) ?_ | refine aI (fun _ => ⟨by omega, by omega⟩) ?_ | refine aI (of_decide_eq_true rfl) ?_ | (refine yI ?_ ?_; focus (first | decide | (simp; done) | (simp [tcs]; done))) | (refine nI ?_ ?_; focus (first | decide | (simp; done) | (simp [tcs]; done))) | intro _); conv => whnf)
    all_goals (first | rfl | exact ⟨rfl, rfl⟩ | exact ⟨rfl, rfl, rfl⟩)
  | false =>
    (refine ⟨fun _ => ?_, fun h => absurd h ?_⟩; rotate_left; (focus (first | decide | (simp; done) | (simp [tcs]; done))); conv => whnf)
    exact ⟨rfl, rfl⟩
def sB (l : List UInt8) : ByteArray := ⟨l.toArray⟩
theorem sB_size (l : List UInt8) : (sB l).size = l.length := by simp [sB, ByteArray.size]
theorem sB_list (l : List UInt8) : (sB l).data.toList = l := by simp [sB]
theorem sB_inj {l m : List UInt8} (h : sB l = sB m) : l = m := by rw [← sB_list l, h, sB_list]
theorem sB_of (s : ByteArray) : s = sB s.data.toList := by simp [sB]
theorem sB_extract (l : List UInt8) (a b : Nat) : (sB l).extract a b = sB ((l.take b).drop a) := by
  have h : ((sB l).extract a b).data.toList = (sB ((l.take b).drop a)).data.toList := by
    rw [sB_list, ByteArray.data_extract, Array.toList_extract, sB_list, List.extract_eq_take_drop]
    rw [List.drop_take]
  have h2 := congrArg sB h
  rw [← sB_of, ← sB_of] at h2
  exact h2
theorem sB_nil (l : List UInt8) : decide (sB l = sB []) = decide (l = []) := by
  by_cases h : l = []
  · simp [h]
  · rw [decide_eq_false h, decide_eq_false fun e => h (sB_inj e)]
abbrev rdH (l : List UInt8) (N : List Term) (Z : List Nat) : HP := [.box [.c (.str (sB l)), .own 1, .own 2], .row 25 4 48 (tcs N), .row 3 1 8 (rowN Z)]
abbrev dead3 : HP := [.dead, .dead, .dead]
theorem cNext (l : List UInt8) (N : List Term) (Z : List Nat) (hl : l.length ≤ 1000000) : CallPt Tryz.prog 100 [.ptr 0 0] (rdH l N Z)
    (fun r H' => ∃ b m, l = b :: m ∧ r = .c (.int .i64 ((b.toNat : Int))) ∧ H' = rdH m N Z) (fun x H' => (x = trb ∧ l = []) ∧ H' = dead3) := by
  cases l with
  | nil =>
    have e : (!decide (sB [] = ⟨#[]⟩)) = false := rfl
    have hd := cDemand false
    refine call_pan (E := envK 3) (fn := Tryz.f100) (c := bodyOf Tryz.f100) (envK_ok 3) mixed (by kernel_rfl) (by kernel_rfl) (by kernel_rfl) (by kernel_rfl) (by kernel_rfl) (by kernel_rfl) rfl .t ?_
    refine aw_cut _ _ rfl fun C hC => ?_
    conv => whnf
    subst hC
    refine aw_cut _ _ rfl fun C hC => ?_
    conv => whnf
    rw [e]
    try (refine dI (by kernel_rfl) ?_; conv => whnf)
    refine CallPt.use hd [] trivial (by decide) rfl ?_ ?_
    (focus (rintro x _ hx _; (conv => whnf); exact ⟨hx.1.1, rfl⟩))
    rintro _ _ ⟨h, _⟩ _
    conv => whnf
    cases h
  | cons b m =>
    have e : (!decide (sB (b :: m) = ⟨#[]⟩)) = true := by rw [decide_eq_false (fun h => by have := sB_inj (l := b :: m) (m := []) h; cases this)]; rfl
    have hd := cDemand true
    have hsz : ((sB (b :: m)).size : Int) = m.length + 1 := by rw [sB_size]; simp
    have hg : (sB (b :: m)).data.toList.getD (Int.toNat 0) 0 = b := by rw [sB_list]; rfl
    have hx : (sB (b :: m)).extract (Int.toNat 1) ((sB (b :: m)).size : Int).toNat = sB m := by
      rw [sB_extract, Int.toNat_natCast, sB_size, List.take_length]
      rfl
    have hw : IntKind.i64.wrap (b.toNat : Int) = b.toNat := i64_wrap (by have := b.toNat_lt; omega)
    simp only [List.length_cons] at hl
    refine call_pan (E := envK 3) (fn := Tryz.f100) (c := bodyOf Tryz.f100) (envK_ok 3) mixed (by kernel_rfl) (by kernel_rfl) (by kernel_rfl) (by kernel_rfl) (by kernel_rfl) (by kernel_rfl) rfl .t ?_
    refine aw_cut _ _ rfl fun C hC => ?_
    conv => whnf
    subst hC
    refine aw_cut _ _ rfl fun C hC => ?_
    conv => whnf
    rw [e]
    try (refine dI (by kernel_rfl) ?_; conv => whnf)
    refine CallPt.use hd [] trivial (by decide) rfl ?_ ?_
    (focus (rintro x _ hx _; (conv => whnf); exact absurd hx.1.2 (by simp)))
    rintro _ _ ⟨_, rfl, rfl⟩ _
    conv => whnf
    subst hC
    refine aw_cut _ _ rfl fun C hC => ?_
    conv => whnf
    repeat ((first | refine aI rfl ?_ | refine aI (by decide) ?_ | refine dI (by kernel_rfl) ?_ | refine aI ⟨by omega, by omega⟩ ?_ | refine aI (by omega) ?_ | refine aI (fun _ => ⟨by omega, by omega⟩) ?_ | refine aI (of_decide_eq_true rfl) ?_ | (refine yI ?_ ?_; focus (first | decide | (simp; done) | (simp [tcs]; done))) | (refine nI ?_ ?_; focus (first | decide | (simp; done) | (simp [tcs]; done))) | intro _); conv => whnf)
    subst hC
    refine aw_cut _ _ rfl fun C hC => ?_
    conv => whnf
    repeat ((first | refine aI rfl ?_ | refine aI (by decide) ?_ | refine dI (by kernel_rfl) ?_ | refine aI ⟨by omega, by omega⟩ ?_ | refine aI (by omega) ?_ | refine aI (fun _ => ⟨by omega, by omega⟩) ?_ | refine aI (of_decide_eq_true rfl) ?_ | (refine yI ?_ ?_; focus (first | decide | (simp; done) | (simp [tcs]; done))) | (refine nI ?_ ?_; focus (first | decide | (simp; done) | (simp [tcs]; done))) | intro _); conv => whnf)
    rw [hx]
    subst hC
    conv => whnf
    repeat ((first | refine aI rfl ?_ | refine aI (by decide) ?_ | refine dI (by kernel_rfl) ?_ | refine aI ⟨by omega, by omega⟩ ?_ | refine aI (by omega) ?_ | refine aI (fun _ => ⟨by omega, by omega⟩) ?_ | refine aI (of_decide_eq_true rfl) ?_ | (refine yI ?_ ?_; focus (first | decide | (simp; done) | (simp [tcs]; done))) | (refine nI ?_ ?_; focus (first | decide | (simp; done) | (simp [tcs]; done))) | intro _); conv => whnf)
    refine ⟨b, m, rfl, by rw [hg, hw], ?_⟩
    rfl
end Go.Tr
/- cert: the reader's numbers. -/
namespace Go.Tr
open Go.Proofs
def rdNum : List UInt8 → Nat → Nat → Option (Nat × List UInt8)
  | [], _, _ => none
  | b :: r, p, o => if p < 1099511627776 then (if b.toNat < 128 then some (o + b.toNat % 128 * p, r) else rdNum r (p * 128) (o + b.toNat % 128 * p)) else none
theorem rdNum_len : ∀ (l : List UInt8) (p o n : Nat) (m : List UInt8), rdNum l p o = some (n, m) → m.length < l.length
  | [], _, _, _, _, h => by simp [rdNum] at h
  | b :: r, p, o, n, m, h => by
    rw [rdNum] at h
    split at h
    · split at h
      · injection h with h
        injection h with _ h
        rw [← h]
        simp
      · have := rdNum_len r _ _ n m h
        simp only [List.length_cons]
        omega
    · cases h
theorem rdNum_le : ∀ (l : List UInt8) (p o n : Nat) (m : List UInt8), o < p → rdNum l p o = some (n, m) → n < 140737488355328
  | [], _, _, _, _, _, h => by simp [rdNum] at h
  | b :: r, p, o, n, m, ho, h => by
    rw [rdNum] at h
    have hb : b.toNat % 128 ≤ 127 := by omega
    have hm : b.toNat % 128 * p ≤ 127 * p := Nat.mul_le_mul_right _ hb
    split at h
    · split at h
      · injection h with h
        injection h with h _
        omega
      · exact rdNum_le r _ _ n m (by omega) h
    · cases h
theorem cRdNumber (l : List UInt8) (N : List Term) (Z : List Nat) (hl : l.length ≤ 1000000) : CallPt Tryz.prog 101 [.ptr 0 0] (rdH l N Z)
    (fun r H' => ∃ n m, rdNum l 1 0 = some (n, m) ∧ r = .c (.int .i64 ((n : Nat))) ∧ H' = rdH m N Z) (fun x H' => (x = trb ∧ rdNum l 1 0 = none) ∧ H' = dead3) := by
  refine call_pan (E := envK 3) (fn := Tryz.f101) (c := bodyOf Tryz.f101) (envK_ok 3) mixed (by kernel_rfl) (by kernel_rfl) (by kernel_rfl) (by kernel_rfl) (by kernel_rfl) (by kernel_rfl) rfl .t ?_
  refine aw_cut _ _ rfl fun C hC => ?_
  conv => whnf
  subst hC
  refine aw_cut _ _ rfl fun C hC => ?_
  conv => whnf
  subst hC
  refine aw_cut _ _ rfl fun C hC => ?_
  conv => whnf
  subst hC
  conv => whnf
  repeat ((first | refine aI rfl ?_ | refine aI (by decide) ?_ | refine dI (by kernel_rfl) ?_ | refine aI ⟨by omega, by omega⟩ ?_ | refine aI (by omega) ?_ | refine aI (fun _ => ⟨by omega, by omega⟩) ?_ | refine aI (of_decide_eq_true rfl) ?_ | (refine yI ?_ ?_; focus (first | decide | (simp; done) | (simp [tcs]; done))) | (refine nI ?_ ?_; focus (first | decide | (simp; done) | (simp [tcs]; done))) | intro _); conv => whnf)
  refine loop_intro (fun m tm H => ∃ (l' : List UInt8) (p o : Nat), m = l'.length ∧ l'.length ≤ 1000000 ∧ o < p ∧ p ≤ 140737488355328 ∧ rdNum l' p o = rdNum l 1 0 ∧ tm = [(4, .c (.int .i64 (p))), (3, .c (.int .i64 (o))), (0, .ptr 0 0)] ∧ H = rdH l' N Z)
    l.length _ _ ⟨l, 1, 0, rfl, hl, by omega, by omega, rfl, rfl, rfl⟩ (Wk.sl [0, 1, 2] rfl ⟨rfl, rfl, rfl, trivial⟩ ⟨rfl, rfl, rfl, trivial⟩ rfl) ?_
  rintro m tm H ⟨l', p, o, rfl, hl', hop, hpp, hR, rfl, rfl⟩
  have hnx := cNext l' N Z hl'
  refine aw_cut _ _ rfl fun C hC => ?_
  conv => whnf
  try (refine dI (by kernel_rfl) ?_; conv => whnf)
  refine CallPt.use hnx [0, 1, 2] ⟨rfl, rfl, rfl, trivial⟩ (by decide) rfl ?_ ?_
  (focus (rintro x _ hx _; (conv => whnf); exact ⟨hx.1.1, by rw [← hR, hx.1.2]; rfl⟩))
  rintro _ _ ⟨b, l2, rfl, rfl, rfl⟩ _
  conv => whnf
  rw [rdNum] at hR
  have hbl := b.toNat_lt
  have hm1 : b.toNat % 128 * p ≤ 127 * p := Nat.mul_le_mul_right _ (by omega)
  have e1 : ((b.toNat : Int)).tmod 128 = ((b.toNat % 128 : Nat) : Int) := by rw [Int.tmod_eq_emod_of_nonneg (by omega)]; omega
  have e2 : ((b.toNat % 128 : Nat) : Int) * (p : Int) = ((b.toNat % 128 * p : Nat) : Int) := by rw [Int.natCast_mul]
  have e3 : (o : Int) + ((b.toNat % 128 * p : Nat) : Int) = ((o + b.toNat % 128 * p : Nat) : Int) := by omega
  have e4 : decide ((b.toNat : Int) < 128) = decide (b.toNat < 128) := by
    by_cases h : b.toNat < 128
    · rw [decide_eq_true h, decide_eq_true (by omega)]
    · rw [decide_eq_false h, decide_eq_false (by omega)]
  have hd := cDemand (decide ((p : Int) < 1099511627776))
  simp only [List.length_cons] at hl'
  generalize hq : b.toNat % 128 * p = q at *
  by_cases hp : p < 1099511627776
  · rw [if_pos hp] at hR
    rw [decide_eq_true (show (p : Int) < 1099511627776 by omega)] at hd ⊢
    try (refine dI (by kernel_rfl) ?_; conv => whnf)
    refine CallPt.use hd [] trivial (by decide) rfl ?_ ?_
    (focus (rintro x _ hx _; (conv => whnf); exact absurd hx.1.2 (by simp)))
    rintro _ _ ⟨_, rfl, rfl⟩ _
    conv => whnf
    refine ⟨show (128 : Int) ≠ 0 by decide, ?_⟩
    conv => whnf
    rw [e1]
    refine ⟨by rw [e2]; exact ⟨by omega, by omega⟩, ?_⟩
    conv => whnf
    rw [e2]
    refine ⟨⟨by omega, by omega⟩, ?_⟩
    conv => whnf
    rw [e4]
    rw [e3]
    by_cases hb : b.toNat < 128
    · rw [if_pos hb] at hR
      rw [decide_eq_true hb]
      repeat ((first | refine aI rfl ?_ | refine aI (by decide) ?_ | refine dI (by kernel_rfl) ?_ | refine aI ⟨by omega, by omega⟩ ?_ | refine aI (by omega) ?_ | refine aI (fun _ => ⟨by omega, by omega⟩) ?_ | refine aI (of_decide_eq_true rfl) ?_ | (refine yI ?_ ?_; focus (first | decide | (simp; done) | (simp [tcs]; done))) | (refine nI ?_ ?_; focus (first | decide | (simp; done) | (simp [tcs]; done))) | intro _); conv => whnf)
      exact ⟨o + q, l2, hR.symm, rfl, rfl⟩
    · rw [if_neg hb] at hR
      rw [decide_eq_false hb]
      repeat ((first | refine aI rfl ?_ | refine aI (by decide) ?_ | refine dI (by kernel_rfl) ?_ | refine aI ⟨by omega, by omega⟩ ?_ | refine aI (by omega) ?_ | refine aI (fun _ => ⟨by omega, by omega⟩) ?_ | refine aI (of_decide_eq_true rfl) ?_ | (refine yI ?_ ?_; focus (first | decide | (simp; done) | (simp [tcs]; done))) | (refine nI ?_ ?_; focus (first | decide | (simp; done) | (simp [tcs]; done))) | intro _); conv => whnf)
      subst hC
      conv => whnf
      repeat ((first | refine aI rfl ?_ | refine aI (by decide) ?_ | refine dI (by kernel_rfl) ?_ | refine aI ⟨by omega, by omega⟩ ?_ | refine aI (by omega) ?_ | refine aI (fun _ => ⟨by omega, by omega⟩) ?_ | refine aI (of_decide_eq_true rfl) ?_ | (refine yI ?_ ?_; focus (first | decide | (simp; done) | (simp [tcs]; done))) | (refine nI ?_ ?_; focus (first | decide | (simp; done) | (simp [tcs]; done))) | intro _); conv => whnf)
      refine ⟨l2.length, _, _, by simp, ⟨l2, p * 128, o + q, rfl, by omega, by omega, by omega, hR, rfl, rfl⟩, Wk.sl [0, 1, 2] rfl ⟨rfl, rfl, rfl, trivial⟩ ⟨rfl, rfl, rfl, trivial⟩ rfl⟩
  · rw [if_neg hp] at hR
    rw [decide_eq_false (show ¬ (p : Int) < 1099511627776 by omega)] at hd ⊢
    try (refine dI (by kernel_rfl) ?_; conv => whnf)
    refine CallPt.use hd [] trivial (by decide) rfl ?_ ?_
    (focus (rintro x _ hx _; (conv => whnf); exact ⟨hx.1.1, hR.symm⟩))
    rintro _ _ ⟨h, _⟩ _
    conv => whnf
    cases h
end Go.Tr
/- cert: the reader's lengths, terms, names. -/
namespace Go.Tr
open Go.Proofs
def rdCount (l : List UInt8) : Option (Nat × List UInt8) := match rdNum l 1 0 with
  | some (n, m) => if n ≤ m.length then some (n, m) else none
  | none => none
theorem cRdCount (l : List UInt8) (N : List Term) (Z : List Nat) (hl : l.length ≤ 1000000) : CallPt Tryz.prog 99 [.ptr 0 0] (rdH l N Z)
    (fun r H' => ∃ n m, rdCount l = some (n, m) ∧ r = .c (.int .i64 ((n : Nat))) ∧ H' = rdH m N Z) (fun x H' => (x = trb ∧ rdCount l = none) ∧ H' = dead3) := by
  have hn := cRdNumber l N Z hl
  refine call_pan (E := envK 3) (fn := Tryz.f99) (c := bodyOf Tryz.f99) (envK_ok 3) mixed (by kernel_rfl) (by kernel_rfl) (by kernel_rfl) (by kernel_rfl) (by kernel_rfl) (by kernel_rfl) rfl .t ?_
  refine aw_cut _ _ rfl fun C hC => ?_
  conv => whnf
  subst hC
  refine aw_cut _ _ rfl fun C hC => ?_
  conv => whnf
  try (refine dI (by kernel_rfl) ?_; conv => whnf)
  refine CallPt.use hn [0, 1, 2] ⟨rfl, rfl, rfl, trivial⟩ (by decide) rfl ?_ ?_
  (focus (rintro x _ hx _; (conv => whnf); exact ⟨hx.1.1, by unfold rdCount; rw [hx.1.2]⟩))
  rintro _ _ ⟨n, m, hR, rfl, rfl⟩ _
  conv => whnf
  have hsz := sB_size m
  have hd := cDemand (decide ((n : Int) ≤ ((sB m).size : Int)))
  subst hC
  refine aw_cut _ _ rfl fun C hC => ?_
  conv => whnf
  by_cases hb : n ≤ m.length
  · rw [decide_eq_true (show (n : Int) ≤ ((sB m).size : Int) by omega)] at hd ⊢
    try (refine dI (by kernel_rfl) ?_; conv => whnf)
    refine CallPt.use hd [] trivial (by decide) rfl ?_ ?_
    (focus (rintro x _ hx _; (conv => whnf); exact absurd hx.1.2 (by simp)))
    rintro _ _ ⟨_, rfl, rfl⟩ _
    conv => whnf
    subst hC
    conv => whnf
    repeat ((first | refine aI rfl ?_ | refine aI (by decide) ?_ | refine dI (by kernel_rfl) ?_ | refine aI ⟨by omega, by omega⟩ ?_ | refine aI (by omega) ?_ | refine aI (fun _ => ⟨by omega, by omega⟩) ?_ | refine aI (of_decide_eq_true rfl) ?_ | (refine yI ?_ ?_; focus (first | decide | (simp; done) | (simp [tcs]; done))) | (refine nI ?_ ?_; focus (first | decide | (simp; done) | (simp [tcs]; done))) | intro _); conv => whnf)
    exact ⟨n, m, by unfold rdCount; rw [hR]; simp only; rw [if_pos hb], rfl, rfl⟩
  · rw [decide_eq_false (show ¬ (n : Int) ≤ ((sB m).size : Int) by omega)] at hd ⊢
    try (refine dI (by kernel_rfl) ?_; conv => whnf)
    refine CallPt.use hd [] trivial (by decide) rfl ?_ ?_
    (focus (rintro x _ hx _; (conv => whnf); exact ⟨hx.1.1, by unfold rdCount; rw [hR]; simp only; rw [if_neg hb]⟩))
    rintro _ _ ⟨h, _⟩ _
    conv => whnf
    cases h
def rdTerm (l : List UInt8) (N : List Term) : Option (Term × List UInt8) := match rdNum l 1 0 with
  | some (n, m) => (match N[n]? with
    | some t => some (t, m)
    | none => none)
  | none => none
theorem cRdTerm (l : List UInt8) (N : List Term) (Z : List Nat) (hl : l.length ≤ 1000000) (hN : ∀ t ∈ N, szT t ≤ 600) (hNl : N.length ≤ 1000000) : CallPt Tryz.prog 87 [.ptr 0 0] (rdH l N Z)
    (fun r H' => ∃ t m, rdTerm l N = some (t, m) ∧ r = tv t ∧ H' = rdH m N Z) (fun x H' => (x = trb ∧ rdTerm l N = none) ∧ H' = dead3) := by
  have hn := cRdNumber l N Z hl
  have hlt := len_tcs N
  refine call_pan (E := env 3) (fn := Tryz.f87) (c := bodyOf Tryz.f87) (env_ok 3) mixed (by kernel_rfl) (by kernel_rfl) (by kernel_rfl) (by kernel_rfl) (by kernel_rfl) (by kernel_rfl) rfl .p ?_
  refine aw_cut _ _ rfl fun C hC => ?_
  conv => whnf
  subst hC
  refine aw_cut _ _ rfl fun C hC => ?_
  conv => whnf
  try (refine dI (by kernel_rfl) ?_; conv => whnf)
  refine CallPt.use hn [0, 1, 2] ⟨rfl, rfl, rfl, trivial⟩ (by decide) rfl ?_ ?_
  (focus (rintro x _ hx _; (conv => whnf); exact ⟨hx.1.1, by unfold rdTerm; rw [hx.1.2]⟩))
  rintro _ _ ⟨n, m, hR, rfl, rfl⟩ _
  conv => whnf
  subst hC
  refine aw_cut _ _ rfl fun C hC => ?_
  conv => whnf
  intro hlen
  conv => whnf
  have hd := cDemand (decide ((n : Int) < ((tcs N).length : Int)))
  cases hu : N[n]? with
  | some u =>
    have hul := (List.getElem?_eq_some_iff.1 hu).1
    have huc := tcs_at N n u hu
    have hcp := cCopied u (by have := hN u (List.mem_of_getElem? hu); omega)
    have hT : rdTerm l N = some (u, m) := by unfold rdTerm; rw [hR]; simp only; rw [hu]
    rw [decide_eq_true (show (n : Int) < ((tcs N).length : Int) by omega)] at hd ⊢
    try (refine dI (by kernel_rfl) ?_; conv => whnf)
    refine CallPt.use hd [] trivial (by decide) rfl ?_ ?_
    (focus (rintro x _ hx _; (conv => whnf); exact absurd hx.1.2 (by simp)))
    rintro _ _ ⟨_, rfl, rfl⟩ _
    conv => whnf
    obtain ⟨k', l', n', us⟩ := u
    rw [tv_mk] at hcp
    replace huc : (tcs N)[n]? = some [.int .i64 k', .int .i64 l', .int .i64 n', .sl 4 48 (tcs us)] := huc
    subst hC
    conv => whnf
    refine ⟨⟨by omega, by omega⟩, ?_⟩
    conv => whnf
    refine ⟨[.int .i64 k', .int .i64 l', .int .i64 n', .sl 4 48 (tcs us)], by rw [Int.toNat_natCast]; exact huc, show 0 + 4 ≤ 4 by decide, ?_⟩
    conv => whnf
    repeat ((first | refine aI rfl ?_ | refine aI (by decide) ?_ | refine dI (by kernel_rfl) ?_ | refine aI ⟨by omega, by omega⟩ ?_ | refine aI (by omega) ?_ | refine aI (fun _ => ⟨by omega, by omega⟩) ?_ | refine aI (of_decide_eq_true rfl) ?_ | (refine yI ?_ ?_; focus (first | decide | (simp; done) | (simp [tcs]; done))) | (refine nI ?_ ?_; focus (first | decide | (simp; done) | (simp [tcs]; done))) | intro _); conv => whnf)
    try (refine dI (by kernel_rfl) ?_; conv => whnf)
    first | refine CallSt.use hcp [] trivial (by decide) rfl ?_ | refine CallPt.useS hcp [] trivial (by decide) rfl ?_
    rintro _ _ ⟨rfl, rfl⟩ _
    conv => whnf
    repeat ((first | refine aI rfl ?_ | refine aI (by decide) ?_ | refine dI (by kernel_rfl) ?_ | refine aI ⟨by omega, by omega⟩ ?_ | refine aI (by omega) ?_ | refine aI (fun _ => ⟨by omega, by omega⟩) ?_ | refine aI (of_decide_eq_true rfl) ?_ | (refine yI ?_ ?_; focus (first | decide | (simp; done) | (simp [tcs]; done))) | (refine nI ?_ ?_; focus (first | decide | (simp; done) | (simp [tcs]; done))) | intro _); conv => whnf)
    exact ⟨_, m, hT, rfl, rfl⟩
  | none =>
    have hul := List.getElem?_eq_none_iff.1 hu
    rw [decide_eq_false (show ¬ (n : Int) < ((tcs N).length : Int) by omega)] at hd ⊢
    try (refine dI (by kernel_rfl) ?_; conv => whnf)
    refine CallPt.use hd [] trivial (by decide) rfl ?_ ?_
    (focus (rintro x _ hx _; (conv => whnf); exact ⟨hx.1.1, by unfold rdTerm; rw [hR]; simp only; rw [hu]⟩))
    rintro _ _ ⟨h, _⟩ _
    conv => whnf
    cases h
end Go.Tr
/- strings.Clone; the reader's names and declarations. -/
namespace Go.Tr
open Go.Proofs
theorem cCloneLite (s : ByteArray) (hs : s.size ≤ 281474976710656) : CallSt Tryz.prog 111 [.c (.str s)] [] (fun r H' => r = .c (.str s) ∧ H' = []) := by
  unfold CallSt
  refine ⟨by kernel_rfl, fun w S κ vs hh hvs => ?_⟩
  simp only [AVRs, AVR, CVR] at hvs
  obtain ⟨v, r, rfl, rfl, rfl⟩ := hvs
  have h := AnyPu.stringslite_Clone Tryz.cloneA s w hs
  refine h.mono ?_
  rintro e w' ⟨rfl, hb⟩
  have hmono : ∀ B off u, ¬ S B → cellAt w.heap B off = some u → ¬ S B ∧ cellAt w'.heap B off = some u := fun B off u h1 h2 => ⟨h1, by
    rw [cellAt_same (hb.block B (cellAt_lt h2))]
    exact h2⟩
  refine ⟨.string s, .c (.str s), [], κ, S, rfl, ⟨rfl, rfl⟩, ⟨⟨fun i e h => by simp at h, hh.out, fun i B h => hh.own i B h, hh.excl, fun B hB => Nat.lt_of_lt_of_le (hh.sz B hB) hb.size⟩,
    ⟨hb.os, hb.tape, hb.output, hb.size, fun B hB _ => hb.block B hB, fun _ _ h => h, fun _ _ h _ => h⟩, fun _ _ => rfl, Nat.le_refl _, fun i B h _ => ⟨i, h⟩⟩, by simp only [AVR, CVR]⟩
theorem cClone (s : ByteArray) (hs : s.size ≤ 281474976710656) : CallSt Tryz.prog 102 [.c (.str s)] [] (fun r H' => r = .c (.str s) ∧ H' = []) := by
  have h := cCloneLite s hs
  refine call_pure (E := env 0) (fn := Tryz.f102) (c := bodyOf Tryz.f102) (env_ok 0) mixed (by kernel_rfl) (by kernel_rfl) (by kernel_rfl) (by kernel_rfl) (by kernel_rfl) (by kernel_rfl) rfl ?_
  conv => whnf
  try (refine dI (by kernel_rfl) ?_; conv => whnf)
  first | refine CallSt.use h [] trivial (by decide) rfl ?_ | refine CallPt.useS h [] trivial (by decide) rfl ?_
  rintro _ _ ⟨rfl, rfl⟩ _
  conv => whnf
  repeat ((first | refine aI rfl ?_ | refine aI (by decide) ?_ | refine dI (by kernel_rfl) ?_ | refine aI ⟨by omega, by omega⟩ ?_ | refine aI (by omega) ?_ | refine aI (fun _ => ⟨by omega, by omega⟩) ?_ | refine aI (of_decide_eq_true rfl) ?_ | (refine yI ?_ ?_; focus (first | decide | (simp; done) | (simp [tcs]; done))) | (refine nI ?_ ?_; focus (first | decide | (simp; done) | (simp [tcs]; done))) | intro _); conv => whnf)
  all_goals (first | rfl | exact ⟨rfl, rfl⟩ | exact ⟨rfl, rfl, rfl⟩)
def rdName (l : List UInt8) : Option (List UInt8 × List UInt8) := match rdCount l with
  | some (n, m) => some (m.take n, m.drop n)
  | none => none
theorem rdCount_le {l m : List UInt8} {n : Nat} (h : rdCount l = some (n, m)) : n ≤ m.length ∧ m.length < l.length := by
  unfold rdCount at h
  split at h
  · rename_i n' m' hR
    have := rdNum_len _ _ _ _ _ hR
    split at h
    · injection h with h
      injection h with h1 h2
      subst h1 h2
      exact ⟨by assumption, this⟩
    · cases h
  · cases h
theorem cRdName (l : List UInt8) (N : List Term) (Z : List Nat) (hl : l.length ≤ 1000000) : CallPt Tryz.prog 103 [.ptr 0 0] (rdH l N Z)
    (fun r H' => ∃ s m, rdName l = some (s, m) ∧ r = .c (.str (sB s)) ∧ H' = rdH m N Z) (fun x H' => (x = trb ∧ rdName l = none) ∧ H' = dead3) := by
  have hn := cRdCount l N Z hl
  refine call_pan (E := envK 3) (fn := Tryz.f103) (c := bodyOf Tryz.f103) (envK_ok 3) mixed (by kernel_rfl) (by kernel_rfl) (by kernel_rfl) (by kernel_rfl) (by kernel_rfl) (by kernel_rfl) rfl .t ?_
  refine aw_cut _ _ rfl fun C hC => ?_
  conv => whnf
  subst hC
  refine aw_cut _ _ rfl fun C hC => ?_
  conv => whnf
  try (refine dI (by kernel_rfl) ?_; conv => whnf)
  refine CallPt.use hn [0, 1, 2] ⟨rfl, rfl, rfl, trivial⟩ (by decide) rfl ?_ ?_
  (focus (rintro x _ hx _; (conv => whnf); exact ⟨hx.1.1, by unfold rdName; rw [hx.1.2]⟩))
  rintro _ _ ⟨n, m, hR, rfl, rfl⟩ _
  conv => whnf
  obtain ⟨hnm, hml⟩ := rdCount_le hR
  have hsz := sB_size m
  have e1 : (sB m).extract (Int.toNat 0) ((n : Int)).toNat = sB (m.take n) := by rw [sB_extract, Int.toNat_natCast]; rfl
  have e2 : (sB m).extract ((n : Int)).toNat (((sB m).size : Int)).toNat = sB (m.drop n) := by rw [sB_extract, Int.toNat_natCast, Int.toNat_natCast, hsz, List.take_length]
  subst hC
  refine aw_cut _ _ rfl fun C hC => ?_
  conv => whnf
  refine ⟨⟨by omega, by omega, by omega⟩, ?_⟩
  conv => whnf
  rw [e1]
  subst hC
  refine aw_cut _ _ rfl fun C hC => ?_
  conv => whnf
  refine ⟨⟨by omega, by omega, by omega⟩, ?_⟩
  conv => whnf
  rw [e2]
  subst hC
  conv => whnf
  repeat ((first | refine aI rfl ?_ | refine aI (by decide) ?_ | refine dI (by kernel_rfl) ?_ | refine aI ⟨by omega, by omega⟩ ?_ | refine aI (by omega) ?_ | refine aI (fun _ => ⟨by omega, by omega⟩) ?_ | refine aI (of_decide_eq_true rfl) ?_ | (refine yI ?_ ?_; focus (first | decide | (simp; done) | (simp [tcs]; done))) | (refine nI ?_ ?_; focus (first | decide | (simp; done) | (simp [tcs]; done))) | intro _); conv => whnf)
  exact ⟨m.take n, m.drop n, by unfold rdName; rw [hR], rfl, rfl⟩
end Go.Tr
/- cert: the reader's declarations; lists of terms and of declarations. -/
namespace Go.Tr
open Go.Proofs
theorem rdTerm_len {l m : List UInt8} {N : List Term} {t : Term} (h : rdTerm l N = some (t, m)) : m.length < l.length ∧ t ∈ N := by
  unfold rdTerm at h
  split at h
  · rename_i n m' hR
    have := rdNum_len _ _ _ _ _ hR
    split at h
    · rename_i t' ht
      injection h with h
      injection h with h1 h2
      subst h1 h2
      exact ⟨this, List.mem_of_getElem? ht⟩
    · cases h
  · cases h
theorem rdName_len {l m s : List UInt8} (h : rdName l = some (s, m)) : m.length < l.length ∧ s.length < l.length := by
  unfold rdName at h
  split at h
  · rename_i n m' hR
    have := rdCount_le hR
    injection h with h
    injection h with h1 h2
    subst h1 h2
    simp only [List.length_drop, List.length_take]
    omega
  · cases h
def rdDecl (l : List UInt8) (N : List Term) : Option (Dcl × List UInt8) := match rdName l with
  | some (s, m) => (match rdTerm m N with
    | some (t, m2) => (match rdNum m2 1 0 with
      | some (n, m3) => some (⟨sB s, t, n⟩, m3)
      | none => none)
    | none => none)
  | none => none
theorem cRdDecl (l : List UInt8) (N : List Term) (Z : List Nat) (hl : l.length ≤ 1000000) (hN : ∀ t ∈ N, szT t ≤ 600) (hNl : N.length ≤ 1000000) : CallPt Tryz.prog 86 [.ptr 0 0] (rdH l N Z)
    (fun r H' => ∃ d m, rdDecl l N = some (d, m) ∧ r = dv d ∧ H' = rdH m N Z) (fun x H' => (x = trb ∧ rdDecl l N = none) ∧ H' = dead3) := by
  have hn := cRdName l N Z hl
  refine call_pan (E := env 3) (fn := Tryz.f86) (c := bodyOf Tryz.f86) (env_ok 3) mixed (by kernel_rfl) (by kernel_rfl) (by kernel_rfl) (by kernel_rfl) (by kernel_rfl) (by kernel_rfl) rfl .p ?_
  refine aw_cut _ _ rfl fun C hC => ?_
  conv => whnf
  subst hC
  refine aw_cut _ _ rfl fun C hC => ?_
  conv => whnf
  try (refine dI (by kernel_rfl) ?_; conv => whnf)
  refine CallPt.use hn [0, 1, 2] ⟨rfl, rfl, rfl, trivial⟩ (by decide) rfl ?_ ?_
  (focus (rintro x _ hx _; (conv => whnf); exact ⟨hx.1.1, by unfold rdDecl; rw [hx.1.2]⟩))
  rintro _ _ ⟨s, m, hR, rfl, rfl⟩ _
  conv => whnf
  have hlen := rdName_len hR
  have hcl := cClone (sB s) (by rw [sB_size]; omega)
  have ht := cRdTerm m N Z (by omega) hN hNl
  try (refine dI (by kernel_rfl) ?_; conv => whnf)
  first | refine CallSt.use hcl [] trivial (by decide) rfl ?_ | refine CallPt.useS hcl [] trivial (by decide) rfl ?_
  rintro _ _ ⟨rfl, rfl⟩ _
  conv => whnf
  repeat ((first | refine aI rfl ?_ | refine aI (by decide) ?_ | refine dI (by kernel_rfl) ?_ | refine aI ⟨by omega, by omega⟩ ?_ | refine aI (by omega) ?_ | refine aI (fun _ => ⟨by omega, by omega⟩) ?_ | refine aI (of_decide_eq_true rfl) ?_ | (refine yI ?_ ?_; focus (first | decide | (simp; done) | (simp [tcs]; done))) | (refine nI ?_ ?_; focus (first | decide | (simp; done) | (simp [tcs]; done))) | intro _); conv => whnf)
  subst hC
  refine aw_cut _ _ rfl fun C hC => ?_
  conv => whnf
  try (refine dI (by kernel_rfl) ?_; conv => whnf)
  refine CallPt.use ht [0, 1, 2] ⟨rfl, rfl, rfl, trivial⟩ (by decide) rfl ?_ ?_
  (focus (rintro x _ hx _; (conv => whnf); exact ⟨hx.1.1, by unfold rdDecl; rw [hR]; simp only; rw [hx.1.2]⟩))
  rintro _ _ ⟨t, m2, hR2, rfl, rfl⟩ _
  conv => whnf
  have hlen2 := rdTerm_len hR2
  have hnm := cRdNumber m2 N Z (by omega)
  have e : rdDecl l N = match rdNum m2 1 0 with | some (n, m3) => some (⟨sB s, t, n⟩, m3) | none => none := by unfold rdDecl; rw [hR]; simp only; rw [hR2]
  rw [e]
  clear e
  obtain ⟨k', l', n', us⟩ := t
  rw [tv_mk]
  repeat ((first | refine aI rfl ?_ | refine aI (by decide) ?_ | refine dI (by kernel_rfl) ?_ | refine aI ⟨by omega, by omega⟩ ?_ | refine aI (by omega) ?_ | refine aI (fun _ => ⟨by omega, by omega⟩) ?_ | refine aI (of_decide_eq_true rfl) ?_ | (refine yI ?_ ?_; focus (first | decide | (simp; done) | (simp [tcs]; done))) | (refine nI ?_ ?_; focus (first | decide | (simp; done) | (simp [tcs]; done))) | intro _); conv => whnf)
  subst hC
  refine aw_cut _ _ rfl fun C hC => ?_
  conv => whnf
  try (refine dI (by kernel_rfl) ?_; conv => whnf)
  refine CallPt.use hnm [0, 1, 2] ⟨rfl, rfl, rfl, trivial⟩ (by decide) rfl ?_ ?_
  (focus (rintro x _ hx _; (conv => whnf); exact ⟨hx.1.1, by rw [hx.1.2]⟩))
  rintro _ _ ⟨n, m3, hR3, rfl, rfl⟩ _
  conv => whnf
  rw [hR3]
  repeat ((first | refine aI rfl ?_ | refine aI (by decide) ?_ | refine dI (by kernel_rfl) ?_ | refine aI ⟨by omega, by omega⟩ ?_ | refine aI (by omega) ?_ | refine aI (fun _ => ⟨by omega, by omega⟩) ?_ | refine aI (of_decide_eq_true rfl) ?_ | (refine yI ?_ ?_; focus (first | decide | (simp; done) | (simp [tcs]; done))) | (refine nI ?_ ?_; focus (first | decide | (simp; done) | (simp [tcs]; done))) | intro _); conv => whnf)
  subst hC
  conv => whnf
  repeat ((first | refine aI rfl ?_ | refine aI (by decide) ?_ | refine dI (by kernel_rfl) ?_ | refine aI ⟨by omega, by omega⟩ ?_ | refine aI (by omega) ?_ | refine aI (fun _ => ⟨by omega, by omega⟩) ?_ | refine aI (of_decide_eq_true rfl) ?_ | (refine yI ?_ ?_; focus (first | decide | (simp; done) | (simp [tcs]; done))) | (refine nI ?_ ?_; focus (first | decide | (simp; done) | (simp [tcs]; done))) | intro _); conv => whnf)
  exact ⟨_, m3, rfl, rfl, rfl⟩
end Go.Tr
/- cert: lists that are read. -/
namespace Go.Tr
open Go.Proofs
def rdMany {α : Type} (one : List UInt8 → Option (α × List UInt8)) : Nat → List UInt8 → List α → Option (List α × List UInt8)
  | 0, l, acc => some (acc, l)
  | n + 1, l, acc => match one l with
    | some (x, m) => rdMany one n m (acc ++ [x])
    | none => none
def rdList {α : Type} (one : List UInt8 → Option (α × List UInt8)) (l : List UInt8) : Option (List α × List UInt8) := match rdCount l with
  | some (n, m) => rdMany one n m []
  | none => none
theorem cReadTerms (l : List UInt8) (N : List Term) (Z : List Nat) (hl : l.length ≤ 1000000) (hN : ∀ t ∈ N, szT t ≤ 600) (hNl : N.length ≤ 1000000) :
    CallPt Tryz.prog 83 [.ptr 0 0, .bd 87 [.ptr 0 0]] (rdH l N Z)
    (fun r H' => ∃ ts m, rdList (fun l => rdTerm l N) l = some (ts, m) ∧ r = .c (.sl 4 48 (tcs ts)) ∧ H' = rdH m N Z) (fun x H' => (x = trb ∧ rdList (fun l => rdTerm l N) l = none) ∧ H' = dead3) := by
  have hn := cRdCount l N Z hl
  refine call_pan (E := envK 3) (fn := Tryz.f83) (c := bodyOf Tryz.f83) (envK_ok 3) mixed (by kernel_rfl) (by kernel_rfl) (by kernel_rfl) (by kernel_rfl) (by kernel_rfl) (by kernel_rfl) rfl .p ?_
  refine aw_cut _ _ rfl fun C hC => ?_
  conv => whnf
  subst hC
  refine aw_cut _ _ rfl fun C hC => ?_
  conv => whnf
  subst hC
  refine aw_cut _ _ rfl fun C hC => ?_
  conv => whnf
  try (refine dI (by kernel_rfl) ?_; conv => whnf)
  refine CallPt.use hn [0, 1, 2] ⟨rfl, rfl, rfl, trivial⟩ (by decide) rfl ?_ ?_
  (focus (rintro x _ hx _; (conv => whnf); exact ⟨hx.1.1, by unfold rdList; rw [hx.1.2]⟩))
  rintro _ _ ⟨n, m, hR, rfl, rfl⟩ _
  conv => whnf
  obtain ⟨hnm, hml⟩ := rdCount_le hR
  have e : rdList (fun l => rdTerm l N) l = rdMany (fun l => rdTerm l N) n m [] := by unfold rdList; rw [hR]
  rw [e]
  clear e hR hn
  generalize hRR : rdMany (fun l => rdTerm l N) n m [] = R at *
  repeat ((first | refine aI rfl ?_ | refine aI (by decide) ?_ | refine dI (by kernel_rfl) ?_ | refine aI ⟨by omega, by omega⟩ ?_ | refine aI (by omega) ?_ | refine aI (fun _ => ⟨by omega, by omega⟩) ?_ | refine aI (of_decide_eq_true rfl) ?_ | (refine yI ?_ ?_; focus (first | decide | (simp; done) | (simp [tcs]; done))) | (refine nI ?_ ?_; focus (first | decide | (simp; done) | (simp [tcs]; done))) | intro _); conv => whnf)
  refine loop_intro (fun q tm H => ∃ (j : Nat) (l' : List UInt8) (acc : List Term), n = q + j ∧ acc.length = j ∧ l'.length ≤ 1000000 ∧ rdMany (fun l => rdTerm l N) q l' acc = R ∧
      tm = [(9, .c (.int .i64 (j))), (8, .c (.int .i64 (n))), (5, .own 3), (1, .bd 87 [.ptr 0 0]), (0, .ptr 0 0)] ∧ H = [.box [.c (.str (sB l')), .own 1, .own 2], .row 25 4 48 (tcs N), .row 3 1 8 (rowN Z), .row 25 4 48 (tcs acc)])
    n _ _ ⟨0, m, [], by omega, rfl, by omega, hRR, rfl, rfl⟩ ?_ ?_
  · refine Wk.trans (Wk.niltmp 5 25 4 48 rfl rfl) ?_
    exact Wk.sl [0, 1, 2, 3] rfl ⟨rfl, rfl, rfl, rfl, trivial⟩ ⟨rfl, rfl, rfl, rfl, rfl, trivial⟩ rfl
  rintro q tm H ⟨j, l', acc, hj, hacc, hl', hRm, rfl, rfl⟩
  have hla := len_tcs acc
  have hb1 : ((tcs acc).length + 1) * 48 ≤ 140737488355328 := by omega
  have hb2 : (tcs acc).length + 1 ≤ 9223372036854775807 := by omega
  conv => whnf
  refine ⟨fun hc => ?_, fun hc => ?_⟩
  · replace hc : (j : Int) < n := of_decide_eq_true hc
    obtain ⟨q2, rfl⟩ : ∃ q2, q = q2 + 1 := ⟨q - 1, by omega⟩
    rw [rdMany] at hRm
    have ht := cRdTerm l' N Z hl' hN hNl
    conv => whnf
    try (refine dI (by kernel_rfl) ?_; conv => whnf)
    refine CallPt.use ht [0, 1, 2] ⟨rfl, rfl, rfl, trivial⟩ (by decide) rfl ?_ ?_
    (focus (rintro x _ hx _; (conv => whnf); exact ⟨hx.1.1, by rw [hx.1.2] at hRm; exact hRm.symm⟩))
    rintro _ _ ⟨t, m2, hR2, rfl, rfl⟩ _
    conv => whnf
    rw [hR2] at hRm
    have hlen2 := rdTerm_len hR2
    have hst : tcs (acc ++ [t]) = tcs acc ++ [tc t] := tcs_snoc19 acc t
    obtain ⟨k', l2, n', us⟩ := t
    rw [tv_mk]
    repeat ((first | refine aI rfl ?_ | refine aI (by decide) ?_ | refine dI (by kernel_rfl) ?_ | refine aI ⟨by omega, by omega⟩ ?_ | refine aI (by omega) ?_ | refine aI (fun _ => ⟨by omega, by omega⟩) ?_ | refine aI (of_decide_eq_true rfl) ?_ | (refine yI ?_ ?_; focus (first | decide | (simp; done) | (simp [tcs]; done))) | (refine nI ?_ ?_; focus (first | decide | (simp; done) | (simp [tcs]; done))) | intro _); conv => whnf)
    refine ⟨q2, _, _, by omega, ⟨j + 1, m2, acc ++ [.mk k' l2 n' us], by omega, by simp [hacc], by omega, hRm, rfl, rfl⟩, Wk.sl [0, 1, 2, 6] rfl ⟨rfl, rfl, rfl, ?_, trivial⟩ ⟨rfl, rfl, rfl, rfl, rfl, trivial⟩ rfl⟩
    rw [hst]
    rfl
  · replace hc : ¬ (j : Int) < n := of_decide_eq_false hc
    obtain rfl : q = 0 := by omega
    rw [rdMany] at hRm
    subst hC
    conv => whnf
    repeat ((first | refine aI rfl ?_ | refine aI (by decide) ?_ | refine dI (by kernel_rfl) ?_ | refine aI ⟨by omega, by omega⟩ ?_ | refine aI (by omega) ?_ | refine aI (fun _ => ⟨by omega, by omega⟩) ?_ | refine aI (of_decide_eq_true rfl) ?_ | (refine yI ?_ ?_; focus (first | decide | (simp; done) | (simp [tcs]; done))) | (refine nI ?_ ?_; focus (first | decide | (simp; done) | (simp [tcs]; done))) | intro _); conv => whnf)
    exact ⟨acc, l', hRm.symm, rfl, rfl⟩
theorem rdDecl_len {l m : List UInt8} {N : List Term} {d : Dcl} (h : rdDecl l N = some (d, m)) : m.length < l.length := by
  unfold rdDecl at h
  split at h
  · rename_i s m1 h1
    have g1 := rdName_len h1
    split at h
    · rename_i t m2 h2
      have g2 := rdTerm_len h2
      split at h
      · rename_i n m3 h3
        have g3 := rdNum_len _ _ _ _ _ h3
        injection h with h
        injection h with _ h
        subst h
        omega
      · cases h
    · cases h
  · cases h
theorem cReadDecls (l : List UInt8) (N : List Term) (Z : List Nat) (hl : l.length ≤ 1000000) (hN : ∀ t ∈ N, szT t ≤ 600) (hNl : N.length ≤ 1000000) :
    CallPt Tryz.prog 85 [.ptr 0 0, .bd 86 [.ptr 0 0]] (rdH l N Z)
    (fun r H' => ∃ ts m, rdList (fun l => rdDecl l N) l = some (ts, m) ∧ r = .c (.sl 6 72 (dcs ts)) ∧ H' = rdH m N Z) (fun x H' => (x = trb ∧ rdList (fun l => rdDecl l N) l = none) ∧ H' = dead3) := by
  have hn := cRdCount l N Z hl
  refine call_pan (E := envK 3) (fn := Tryz.f85) (c := bodyOf Tryz.f85) (envK_ok 3) mixed (by kernel_rfl) (by kernel_rfl) (by kernel_rfl) (by kernel_rfl) (by kernel_rfl) (by kernel_rfl) rfl .p ?_
  refine aw_cut _ _ rfl fun C hC => ?_
  conv => whnf
  subst hC
  refine aw_cut _ _ rfl fun C hC => ?_
  conv => whnf
  subst hC
  refine aw_cut _ _ rfl fun C hC => ?_
  conv => whnf
  try (refine dI (by kernel_rfl) ?_; conv => whnf)
  refine CallPt.use hn [0, 1, 2] ⟨rfl, rfl, rfl, trivial⟩ (by decide) rfl ?_ ?_
  (focus (rintro x _ hx _; (conv => whnf); exact ⟨hx.1.1, by unfold rdList; rw [hx.1.2]⟩))
  rintro _ _ ⟨n, m, hR, rfl, rfl⟩ _
  conv => whnf
  obtain ⟨hnm, hml⟩ := rdCount_le hR
  have e : rdList (fun l => rdDecl l N) l = rdMany (fun l => rdDecl l N) n m [] := by unfold rdList; rw [hR]
  rw [e]
  clear e hR hn
  generalize hRR : rdMany (fun l => rdDecl l N) n m [] = R at *
  repeat ((first | refine aI rfl ?_ | refine aI (by decide) ?_ | refine dI (by kernel_rfl) ?_ | refine aI ⟨by omega, by omega⟩ ?_ | refine aI (by omega) ?_ | refine aI (fun _ => ⟨by omega, by omega⟩) ?_ | refine aI (of_decide_eq_true rfl) ?_ | (refine yI ?_ ?_; focus (first | decide | (simp; done) | (simp [tcs]; done))) | (refine nI ?_ ?_; focus (first | decide | (simp; done) | (simp [tcs]; done))) | intro _); conv => whnf)
  refine loop_intro (fun q tm H => ∃ (j : Nat) (l' : List UInt8) (acc : List Dcl), n = q + j ∧ acc.length = j ∧ l'.length ≤ 1000000 ∧ rdMany (fun l => rdDecl l N) q l' acc = R ∧
      tm = [(9, .c (.int .i64 (j))), (8, .c (.int .i64 (n))), (5, .own 3), (1, .bd 86 [.ptr 0 0]), (0, .ptr 0 0)] ∧ H = [.box [.c (.str (sB l')), .own 1, .own 2], .row 25 4 48 (tcs N), .row 3 1 8 (rowN Z), .row 49 6 72 (dcs acc)])
    n _ _ ⟨0, m, [], by omega, rfl, by omega, hRR, rfl, rfl⟩ ?_ ?_
  · refine Wk.trans (Wk.niltmp 5 49 6 72 rfl rfl) ?_
    exact Wk.sl [0, 1, 2, 3] rfl ⟨rfl, rfl, rfl, rfl, trivial⟩ ⟨rfl, rfl, rfl, rfl, rfl, trivial⟩ rfl
  rintro q tm H ⟨j, l', acc, hj, hacc, hl', hRm, rfl, rfl⟩
  have hla := len_dcs acc
  have hb1 : ((dcs acc).length + 1) * 72 ≤ 140737488355328 := by omega
  have hb2 : (dcs acc).length + 1 ≤ 9223372036854775807 := by omega
  conv => whnf
  refine ⟨fun hc => ?_, fun hc => ?_⟩
  · replace hc : (j : Int) < n := of_decide_eq_true hc
    obtain ⟨q2, rfl⟩ : ∃ q2, q = q2 + 1 := ⟨q - 1, by omega⟩
    rw [rdMany] at hRm
    have ht := cRdDecl l' N Z hl' hN hNl
    conv => whnf
    try (refine dI (by kernel_rfl) ?_; conv => whnf)
    refine CallPt.use ht [0, 1, 2] ⟨rfl, rfl, rfl, trivial⟩ (by decide) rfl ?_ ?_
    (focus (rintro x _ hx _; (conv => whnf); exact ⟨hx.1.1, by rw [hx.1.2] at hRm; exact hRm.symm⟩))
    rintro _ _ ⟨t, m2, hR2, rfl, rfl⟩ _
    conv => whnf
    rw [hR2] at hRm
    have hlen2 := rdDecl_len hR2
    have hst : dcs (acc ++ [t]) = dcs acc ++ [dc t] := by simp [dcs]
    obtain ⟨s', ⟨k', l2, n', us⟩, i'⟩ := t
    repeat ((first | refine aI rfl ?_ | refine aI (by decide) ?_ | refine dI (by kernel_rfl) ?_ | refine aI ⟨by omega, by omega⟩ ?_ | refine aI (by omega) ?_ | refine aI (fun _ => ⟨by omega, by omega⟩) ?_ | refine aI (of_decide_eq_true rfl) ?_ | (refine yI ?_ ?_; focus (first | decide | (simp; done) | (simp [tcs]; done))) | (refine nI ?_ ?_; focus (first | decide | (simp; done) | (simp [tcs]; done))) | intro _); conv => whnf)
    refine ⟨q2, _, _, by omega, ⟨j + 1, m2, acc ++ [⟨s', .mk k' l2 n' us, i'⟩], by omega, by simp [hacc], by omega, hRm, rfl, rfl⟩, Wk.sl [0, 1, 2, 6] rfl ⟨rfl, rfl, rfl, ?_, trivial⟩ ⟨rfl, rfl, rfl, rfl, rfl, trivial⟩ rfl⟩
    rw [hst]
    rfl
  · replace hc : ¬ (j : Int) < n := of_decide_eq_false hc
    obtain rfl : q = 0 := by omega
    rw [rdMany] at hRm
    subst hC
    conv => whnf
    repeat ((first | refine aI rfl ?_ | refine aI (by decide) ?_ | refine dI (by kernel_rfl) ?_ | refine aI ⟨by omega, by omega⟩ ?_ | refine aI (by omega) ?_ | refine aI (fun _ => ⟨by omega, by omega⟩) ?_ | refine aI (of_decide_eq_true rfl) ?_ | (refine yI ?_ ?_; focus (first | decide | (simp; done) | (simp [tcs]; done))) | (refine nI ?_ ?_; focus (first | decide | (simp; done) | (simp [tcs]; done))) | intro _); conv => whnf)
    exact ⟨acc, l', hRm.symm, rfl, rfl⟩
end Go.Tr
/- cert: a node that is read. -/
namespace Go.Tr
open Go.Proofs
theorem eRow {T a b : Nat} {x y : List (List CV)} (h : x = y) : some (Ent.row T a b x) = some (Ent.row T a b y) := by rw [h]
def szN (t : Term) : Nat := (szT t).toNat
def rdArgs (N : List Term) : Nat → List UInt8 → List Term → Option (List Term × List UInt8)
  | 0, l, acc => some (acc, l)
  | c + 1, l, acc => match rdNum l 1 0 with
    | some (q, m) => (match (if q < N.length then N[N.length - 1 - q]? else none) with
      | some u => if 1 + szL (acc ++ [u]) ≤ 600 then rdArgs N c m (acc ++ [u]) else none
      | none => none)
    | none => none
def rdRest (k h n : Nat) (l : List UInt8) (N : List Term) : Option (Term × List UInt8) := match rdCount l with
  | some (c, m) => (match rdArgs N c m [] with
    | some (us, m2) => some (.mk k h n us, m2)
    | none => none)
  | none => none
def rdNode (l : List UInt8) (N : List Term) : Option (Term × List UInt8) := match l with
  | [] => none
  | b :: l1 => if b.toNat % 8 = 4 then (match rdNum l1 1 0 with
      | some (n, l2) => rdRest (b.toNat % 8) (b.toNat / 8) n l2 N
      | none => none)
    else rdRest (b.toNat % 8) (b.toNat / 8) 0 l1 N
theorem rowN_snoc (L : List Nat) (x : Nat) : rowN (L ++ [x]) = rowN L ++ [[CV.int .i64 (x : Int)]] := by simp [rowN]
set_option maxHeartbeats 4000000 in
theorem cRdNode (l : List UInt8) (N : List Term) (hl : l.length ≤ 1000000) (hN : ∀ t ∈ N, szT t ≤ 600) (hNl : N.length ≤ 900000) : CallPt Tryz.prog 84 [.ptr 0 0] (rdH l N (N.map szN))
    (fun r H' => ∃ t m, rdNode l N = some (t, m) ∧ r = tv t ∧ H' = [.box [.c (.str (sB m)), .own 3, .own 4], .dead, .dead, .row 25 4 48 (tcs (N ++ [t])), .row 3 1 8 (rowN ((N ++ [t]).map szN)), .box [.c (.int .i64 (t.k)), .c (.int .i64 (t.l)), .c (.int .i64 (t.n)), .own 6], .frz (.sl 4 48 (tcs t.ts))])
    (fun x H' => (x = trb ∧ rdNode l N = none) ∧ H' = dead3) := by
  have hn0 := cNext l N (N.map szN) hl
  have hlt := len_tcs N
  refine call_pan (E := env 3) (fn := Tryz.f84) (c := bodyOf Tryz.f84) (env_ok 3) mixed (by kernel_rfl) (by kernel_rfl) (by kernel_rfl) (by kernel_rfl) (by kernel_rfl) (by kernel_rfl) rfl .v ?_
  refine aw_cut _ _ rfl fun C hC => ?_
  conv => whnf
  subst hC
  refine aw_cut _ _ rfl fun C hC => ?_
  conv => whnf
  try (refine dI (by kernel_rfl) ?_; conv => whnf)
  refine CallPt.use hn0 [0, 1, 2] ⟨rfl, rfl, rfl, trivial⟩ (by decide) rfl ?_ ?_
  (focus (rintro x _ hx _; (conv => whnf); exact ⟨hx.1.1, by rw [hx.1.2]; rfl⟩))
  rintro _ _ ⟨b, l1, rfl, rfl, rfl⟩ _
  conv => whnf
  have hbl := b.toNat_lt
  simp only [List.length_cons] at hl
  have e1 : ((b.toNat : Int)).tmod 8 = ((b.toNat % 8 : Nat) : Int) := by rw [Int.tmod_eq_emod_of_nonneg (by omega)]; omega
  have e2 : ((b.toNat : Int)).tdiv 8 = ((b.toNat / 8 : Nat) : Int) := by rw [Int.tdiv_eq_ediv_of_nonneg (by omega)]; omega
  subst hC
  refine aw_cut _ _ rfl fun C hC => ?_
  conv => whnf
  refine ⟨show (8 : Int) ≠ 0 by decide, ?_⟩
  conv => whnf
  rw [e1]
  refine ⟨by rw [e2]; exact ⟨by omega, by omega, by omega⟩, ?_⟩
  conv => whnf
  rw [e2]
  repeat ((first | refine aI rfl ?_ | refine aI (by decide) ?_ | refine dI (by kernel_rfl) ?_ | refine aI ⟨by omega, by omega⟩ ?_ | refine aI (by omega) ?_ | refine aI (fun _ => ⟨by omega, by omega⟩) ?_ | refine aI (of_decide_eq_true rfl) ?_ | (refine yI ?_ ?_; focus (first | decide | (simp; done) | (simp [tcs]; done))) | (refine nI ?_ ?_; focus (first | decide | (simp; done) | (simp [tcs]; done))) | intro _); conv => whnf)
  subst hC
  refine aw_cut _ _ rfl fun C hC => ?_
  conv => whnf
  have hC1 := hC
  generalize hk0 : b.toNat % 8 = kk at *
  generalize hh0 : b.toNat / 8 = hh at *
  have eR : rdNode (b :: l1) N = if kk = 4 then (match rdNum l1 1 0 with | some (n, l2) => rdRest kk hh n l2 N | none => none) else rdRest kk hh 0 l1 N := by rw [← hk0, ← hh0]; rfl
  have hnm := cRdNumber l1 N (N.map szN) (by omega)
  refine ⟨fun hk4 => ?_, fun hk4 => ?_⟩
  · replace hk4 : kk = 4 := by have := of_decide_eq_true hk4; omega
    rw [if_pos hk4] at eR
    conv => whnf
    try (refine dI (by kernel_rfl) ?_; conv => whnf)
    refine CallPt.use hnm [0, 1, 2] ⟨rfl, rfl, rfl, trivial⟩ (by decide) rfl ?_ ?_
    (focus (rintro x _ hx _; (conv => whnf); exact ⟨hx.1.1, by rw [eR, hx.1.2]⟩))
    rintro _ _ ⟨n, l2, hR1, rfl, rfl⟩ _
    conv => whnf
    have hln := rdNum_len _ _ _ _ _ hR1
    rw [hR1] at eR
    simp only at eR
    repeat ((first | refine aI rfl ?_ | refine aI (by decide) ?_ | refine dI (by kernel_rfl) ?_ | refine aI ⟨by omega, by omega⟩ ?_ | refine aI (by omega) ?_ | refine aI (fun _ => ⟨by omega, by omega⟩) ?_ | refine aI (of_decide_eq_true rfl) ?_ | (refine yI ?_ ?_; focus (first | decide | (simp; done) | (simp [tcs]; done))) | (refine nI ?_ ?_; focus (first | decide | (simp; done) | (simp [tcs]; done))) | intro _); conv => whnf)
    subst hC
    refine aw_cut _ _ rfl fun C hC => ?_
    conv => whnf
    have hcn := cRdCount l2 N (N.map szN) (by omega)
    subst hC
    refine aw_cut _ _ rfl fun C hC => ?_
    conv => whnf
    try (refine dI (by kernel_rfl) ?_; conv => whnf)
    refine CallPt.use hcn [0, 1, 2] ⟨rfl, rfl, rfl, trivial⟩ (by decide) rfl ?_ ?_
    (focus (rintro x _ hx _; (conv => whnf); exact ⟨hx.1.1, by rw [eR]; unfold rdRest; rw [hx.1.2]⟩))
    rintro _ _ ⟨c, l3, hR2, rfl, rfl⟩ _
    conv => whnf
    obtain ⟨hc1, hc2⟩ := rdCount_le hR2
    have eR2 : rdNode (b :: l1) N = match rdArgs N c l3 [] with | some (us, m2) => some (.mk kk hh n us, m2) | none => none := by rw [eR]; unfold rdRest; rw [hR2]
    rw [eR2]
    clear eR eR2 hcn
    generalize hRR : rdArgs N c l3 [] = R at *
    repeat ((first | refine aI rfl ?_ | refine aI (by decide) ?_ | refine dI (by kernel_rfl) ?_ | refine aI ⟨by omega, by omega⟩ ?_ | refine aI (by omega) ?_ | refine aI (fun _ => ⟨by omega, by omega⟩) ?_ | refine aI (of_decide_eq_true rfl) ?_ | (refine yI ?_ ?_; focus (first | decide | (simp; done) | (simp [tcs]; done))) | (refine nI ?_ ?_; focus (first | decide | (simp; done) | (simp [tcs]; done))) | intro _); conv => whnf)
    refine loop_intro (fun q tm H => ∃ (j : Nat) (l' : List UInt8) (acc : List Term), c = q + j ∧ acc.length = j ∧ l'.length ≤ 1000000 ∧ 1 + szL acc ≤ 600 ∧ rdArgs N q l' acc = R ∧
        tm = [(22, .c (.int .i64 (j))), (21, .c (.int .i64 (c))), (5, .c (.int .i64 (1 + szL acc))), (4, .ptr 4 0), (2, .ptr 3 0), (0, .ptr 0 0)] ∧
        H = [.box [.c (.str (sB l')), .own 5, .own 6], .dead, .dead, .box [.c (.int .i64 (0)), .c (.int .i64 (0)), .c (.int .i64 (0)), .nil], .box [.c (.int .i64 (kk)), .c (.int .i64 (hh)), .c (.int .i64 (n)), .own 7], .row 25 4 48 (tcs N), .row 3 1 8 (rowN (N.map szN)), .row 25 4 48 (tcs acc)])
      c _ _ ⟨0, l3, [], by omega, rfl, by omega, by simp [szL], hRR, rfl, rfl⟩ ?_ ?_
    · refine Wk.trans (Wk.mvbox 0 1 1 25 4 48 (tcs N) rfl rfl rfl rfl) ?_
      refine Wk.trans (Wk.mvbox 0 2 2 3 1 8 (rowN (N.map szN)) rfl rfl rfl rfl) ?_
      refine Wk.trans (Wk.nilrow (i := 4) (j := 3) 25 4 48 rfl rfl rfl) ?_
      exact Wk.sl [0, 1, 2, 3, 4, 5, 6, 7] rfl ⟨rfl, rfl, rfl, rfl, rfl, rfl, rfl, rfl, trivial⟩ ⟨rfl, rfl, rfl, rfl, rfl, rfl, trivial⟩ rfl
    rintro q tm H ⟨j, l', acc, hj, hacc, hl', hsa, hRm, rfl, rfl⟩
    have hla := len_tcs acc
    have hsn := szL_pos acc
    have hb1 : ((tcs acc).length + 1) * 48 ≤ 140737488355328 := by have := szL_len acc; omega
    have hb2 : (tcs acc).length + 1 ≤ 9223372036854775807 := by have := szL_len acc; omega
    have hnm2 := cRdNumber l' N (N.map szN) hl'
    conv => whnf
    refine ⟨fun hc => ?_, fun hc => ?_⟩
    · replace hc : (j : Int) < c := of_decide_eq_true hc
      obtain ⟨q2, rfl⟩ : ∃ q2, q = q2 + 1 := ⟨q - 1, by omega⟩
      rw [rdArgs] at hRm
      cases hR1 : rdNum l' 1 0 with
      | none =>
        rw [hR1] at hRm hnm2
        conv => whnf
        refine draw_intro false (by kernel_rfl) ?_
        conv => whnf
        (refine And.intro ?_ ?_ <;> conv => whnf)
        · repeat ((first | refine aI rfl ?_ | refine aI (by decide) ?_ | refine dI (by kernel_rfl) ?_ | refine aI ⟨by omega, by omega⟩ ?_ | refine aI (by omega) ?_ | refine aI (fun _ => ⟨by omega, by omega⟩) ?_ | refine aI (of_decide_eq_true rfl) ?_ | (refine yI ?_ ?_; focus (first | decide | (simp; done) | (simp [tcs]; done))) | (refine nI ?_ ?_; focus (first | decide | (simp; done) | (simp [tcs]; done))) | intro _); conv => whnf)
          try (refine dI (by kernel_rfl) ?_; conv => whnf)
          refine CallPt.use hnm2 [0, 5, 6] ⟨rfl, rfl, rfl, trivial⟩ (by decide) rfl ?_ ?_
          (focus (rintro x _ hx _; (conv => whnf); exact ⟨hx.1.1, by rw [← hRm]⟩))
          rintro _ _ ⟨_, _, h, _⟩ _
          conv => whnf
          cases h
        · try (refine draw_intro true (by kernel_rfl) ?_; conv => whnf)
          refine CallPt.use hnm2 [0, 5, 6] ⟨rfl, rfl, rfl, trivial⟩ (by decide) rfl ?_ ?_
          (focus (rintro x _ hx _; (conv => whnf); exact ⟨hx.1.1, by rw [← hRm]⟩))
          rintro _ _ ⟨_, _, h, _⟩ _
          conv => whnf
          cases h
      | some p =>
        obtain ⟨qv, m⟩ := p
        have hql := rdNum_len _ _ _ _ _ hR1
        have hqb := rdNum_le _ _ _ _ _ (by omega) hR1
        rw [hR1] at hRm hnm2
        simp only at hRm
        have hnm3 : CallPt Tryz.prog 101 [.ptr 0 0] (rdH l' N (N.map szN)) (fun r H' => r = .c (.int .i64 ((qv : Nat))) ∧ H' = rdH m N (N.map szN)) (fun x H' => (x = trb ∧ some (qv, m) = none) ∧ H' = dead3) := by
          refine CallPt.mono hnm2 ?_ (fun _ _ h => h)
          rintro r H' ⟨n', m', h, rfl, rfl⟩
          injection h with h
          injection h with h1 h2
          subst h1 h2
          exact ⟨rfl, rfl⟩
        clear hnm2
        conv => whnf
        refine draw_wk [(6, .c (.int .i64 (((tcs N).length : Int) - 1 - (qv : Int)))), (22, .c (.int .i64 (j))), (21, .c (.int .i64 (c))), (5, .c (.int .i64 (1 + szL acc))), (4, .ptr 4 0), (2, .ptr 3 0), (0, .ptr 0 0)]
          [.box [.c (.str (sB m)), .own 5, .own 6], .dead, .dead, .box [.c (.int .i64 (0)), .c (.int .i64 (0)), .c (.int .i64 (0)), .nil], .box [.c (.int .i64 (kk)), .c (.int .i64 (hh)), .c (.int .i64 (n)), .own 7], .row 25 4 48 (tcs N), .row 3 1 8 (rowN (N.map szN)), .row 25 4 48 (tcs acc)] ?_ ?_
        · refine draw_intro false (by kernel_rfl) ?_
          conv => whnf
          (refine And.intro ?_ ?_ <;> conv => whnf)
          · repeat ((first | refine aI rfl ?_ | refine aI (by decide) ?_ | refine dI (by kernel_rfl) ?_ | refine aI ⟨by omega, by omega⟩ ?_ | refine aI (by omega) ?_ | refine aI (fun _ => ⟨by omega, by omega⟩) ?_ | refine aI (of_decide_eq_true rfl) ?_ | (refine yI ?_ ?_; focus (first | decide | (simp; done) | (simp [tcs]; done))) | (refine nI ?_ ?_; focus (first | decide | (simp; done) | (simp [tcs]; done))) | intro _); conv => whnf)
            try (refine dI (by kernel_rfl) ?_; conv => whnf)
            refine CallPt.use hnm3 [0, 5, 6] ⟨rfl, rfl, rfl, trivial⟩ (by decide) rfl ?_ ?_
            (focus (rintro x _ hx _; (conv => whnf); exact absurd hx.1.2 (by simp)))
            rintro _ _ ⟨rfl, rfl⟩ _
            conv => whnf
            repeat ((first | refine aI rfl ?_ | refine aI (by decide) ?_ | refine dI (by kernel_rfl) ?_ | refine aI ⟨by omega, by omega⟩ ?_ | refine aI (by omega) ?_ | refine aI (fun _ => ⟨by omega, by omega⟩) ?_ | refine aI (of_decide_eq_true rfl) ?_ | (refine yI ?_ ?_; focus (first | decide | (simp; done) | (simp [tcs]; done))) | (refine nI ?_ ?_; focus (first | decide | (simp; done) | (simp [tcs]; done))) | intro _); conv => whnf)
            exact Wk.sl [0, 1, 2, 3, 4, 5, 6, 7] rfl ⟨rfl, rfl, rfl, rfl, rfl, rfl, rfl, rfl, trivial⟩ ⟨rfl, rfl, rfl, rfl, rfl, rfl, rfl, trivial⟩ rfl
          · try (refine draw_intro true (by kernel_rfl) ?_; conv => whnf)
            refine CallPt.use hnm3 [0, 5, 6] ⟨rfl, rfl, rfl, trivial⟩ (by decide) rfl ?_ ?_
            (focus (rintro x _ hx _; (conv => whnf); exact absurd hx.1.2 (by simp)))
            rintro _ _ ⟨rfl, rfl⟩ _
            conv => whnf
            repeat ((first | refine aI rfl ?_ | refine aI (by decide) ?_ | refine dI (by kernel_rfl) ?_ | refine aI ⟨by omega, by omega⟩ ?_ | refine aI (by omega) ?_ | refine aI (fun _ => ⟨by omega, by omega⟩) ?_ | refine aI (of_decide_eq_true rfl) ?_ | (refine yI ?_ ?_; focus (first | decide | (simp; done) | (simp [tcs]; done))) | (refine nI ?_ ?_; focus (first | decide | (simp; done) | (simp [tcs]; done))) | intro _); conv => whnf)
            exact Wk.sl [0, 1, 2, 3, 4, 5, 6, 7] rfl ⟨rfl, rfl, rfl, rfl, rfl, rfl, rfl, rfl, trivial⟩ ⟨rfl, rfl, rfl, rfl, rfl, rfl, rfl, trivial⟩ rfl
        · have hd := cDemand (decide (0 ≤ ((tcs N).length : Int) - 1 - (qv : Int)))
          conv => whnf
          by_cases hqn : qv < N.length
          · obtain ⟨u, hu⟩ : ∃ u, N[N.length - 1 - qv]? = some u := ⟨N[N.length - 1 - qv]'(by omega), List.getElem?_eq_getElem (by omega)⟩
            have hum := List.mem_of_getElem? hu
            have hus := hN u hum
            have hup := szT_pos u
            have hzn : ((szN u : Nat) : Int) = szT u := by unfold szN; omega
            have hkt : (((tcs N).length : Int) - 1 - (qv : Int)).toNat = N.length - 1 - qv := by omega
            have hkz : (rowN (N.map szN))[(((tcs N).length : Int) - 1 - (qv : Int)).toNat]? = some [.int .i64 ((szN u : Nat) : Int)] := by rw [hkt]; simp [rowN, hu]
            have hkc : (tcs N)[(((tcs N).length : Int) - 1 - (qv : Int)).toNat]? = some (tc u) := by rw [hkt]; exact tcs_at N _ u hu
            have hzl : (rowN (N.map szN)).length = N.length := by simp [rowN]
            have hsl : szL (acc ++ [u]) = szL acc + szT u := by rw [szL_append]; simp [szL]
            rw [if_pos hqn, hu] at hRm
            simp only at hRm
            rw [decide_eq_true (show 0 ≤ ((tcs N).length : Int) - 1 - (qv : Int) by omega)] at hd ⊢
            try (refine dI (by kernel_rfl) ?_; conv => whnf)
            refine CallPt.use hd [] trivial (by decide) rfl ?_ ?_
            (focus (rintro x _ hx _; (conv => whnf); exact absurd hx.1.2 (by simp)))
            rintro _ _ ⟨_, rfl, rfl⟩ _
            conv => whnf
            refine ⟨⟨by omega, by omega⟩, ?_⟩
            conv => whnf
            refine ⟨[.int .i64 ((szN u : Nat) : Int)], hkz, show 0 + 1 ≤ 1 by decide, ?_⟩
            conv => whnf
            refine ⟨⟨by omega, by omega⟩, ?_⟩
            conv => whnf
            have hd2 := cDemand (decide ((1 + szL acc + ((szN u : Nat) : Int)) ≤ 600))
            by_cases hs6 : 1 + szL (acc ++ [u]) ≤ 600
            · rw [if_pos hs6] at hRm
              rw [decide_eq_true (show (1 + szL acc + ((szN u : Nat) : Int)) ≤ 600 by omega)] at hd2 ⊢
              try (refine dI (by kernel_rfl) ?_; conv => whnf)
              refine CallPt.use hd2 [] trivial (by decide) rfl ?_ ?_
              (focus (rintro x _ hx _; (conv => whnf); exact absurd hx.1.2 (by simp)))
              rintro _ _ ⟨_, rfl, rfl⟩ _
              conv => whnf
              have es : 1 + szL acc + ((szN u : Nat) : Int) = 1 + szL (acc ++ [u]) := by omega
              rw [es]
              have hst : tcs (acc ++ [u]) = tcs acc ++ [tc u] := tcs_snoc19 acc u
              obtain ⟨k', l2', n', us⟩ := u
              replace hkc : (tcs N)[(((tcs N).length : Int) - 1 - (qv : Int)).toNat]? = some [.int .i64 k', .int .i64 l2', .int .i64 n', .sl 4 48 (tcs us)] := hkc
              refine draw_intro true (by kernel_rfl) ?_
              conv => whnf
              refine ⟨⟨by omega, by omega⟩, ?_⟩
              conv => whnf
              refine ⟨[.int .i64 k', .int .i64 l2', .int .i64 n', .sl 4 48 (tcs us)], hkc, show 0 + 4 ≤ 4 by decide, ?_⟩
              conv => whnf
              repeat ((first | refine aI rfl ?_ | refine aI (by decide) ?_ | refine dI (by kernel_rfl) ?_ | refine aI ⟨by omega, by omega⟩ ?_ | refine aI (by omega) ?_ | refine aI (fun _ => ⟨by omega, by omega⟩) ?_ | refine aI (of_decide_eq_true rfl) ?_ | (refine yI ?_ ?_; focus (first | decide | (simp; done) | (simp [tcs]; done))) | (refine nI ?_ ?_; focus (first | decide | (simp; done) | (simp [tcs]; done))) | intro _); conv => whnf)
              refine ⟨q2, _, _, by omega, ⟨j + 1, m, acc ++ [.mk k' l2' n' us], by omega, by simp [hacc], by omega, hs6, hRm, rfl, rfl⟩, Wk.sl [0, 1, 2, 3, 4, 5, 6, 9] rfl ⟨rfl, rfl, rfl, rfl, rfl, rfl, rfl, ?_, trivial⟩ ⟨rfl, rfl, rfl, rfl, rfl, rfl, trivial⟩ rfl⟩
              rw [hst]
              rfl
            · rw [if_neg hs6] at hRm
              rw [decide_eq_false (show ¬ (1 + szL acc + ((szN u : Nat) : Int)) ≤ 600 by omega)] at hd2 ⊢
              try (refine dI (by kernel_rfl) ?_; conv => whnf)
              refine CallPt.use hd2 [] trivial (by decide) rfl ?_ ?_
              (focus (rintro x _ hx _; (conv => whnf); exact ⟨hx.1.1, by rw [← hRm]⟩))
              rintro _ _ ⟨h, _⟩ _
              conv => whnf
              cases h
          · rw [if_neg hqn] at hRm
            rw [decide_eq_false (show ¬ 0 ≤ ((tcs N).length : Int) - 1 - (qv : Int) by omega)] at hd ⊢
            try (refine dI (by kernel_rfl) ?_; conv => whnf)
            refine CallPt.use hd [] trivial (by decide) rfl ?_ ?_
            (focus (rintro x _ hx _; (conv => whnf); exact ⟨hx.1.1, by rw [← hRm]⟩))
            rintro _ _ ⟨h, _⟩ _
            conv => whnf
            cases h
    · replace hc : ¬ (j : Int) < c := of_decide_eq_false hc
      obtain rfl : q = 0 := by omega
      rw [rdArgs] at hRm
      subst hRm
      conv => whnf
      subst hC
      conv => whnf
      refine draw_wk [(5, .c (.int .i64 (1 + szL acc))), (4, .ptr 4 0), (2, .ptr 3 0), (0, .ptr 0 0)]
        [.box [.c (.str (sB l')), .own 7, .own 5], .dead, .dead, .box [.c (.int .i64 (0)), .c (.int .i64 (0)), .c (.int .i64 (0)), .nil], .box [.c (.int .i64 (kk)), .c (.int .i64 (hh)), .c (.int .i64 (n)), .own 6], .row 3 1 8 (rowN (N.map szN)), .frz (.sl 4 48 (tcs acc)), .row 25 4 48 (tcs N ++ [[.int .i64 kk, .int .i64 hh, .int .i64 n, .sl 4 48 (tcs acc)]])] ?_ ?_
      · refine draw_intro true (by kernel_rfl) ?_
        conv => whnf
        repeat ((first | refine aI rfl ?_ | refine aI (by decide) ?_ | refine aI ⟨by omega, by omega⟩ ?_ | refine aI (by omega) ?_ | refine aI (fun _ => ⟨by omega, by omega⟩) ?_ | refine aI (of_decide_eq_true rfl) ?_ | (refine yI ?_ ?_; focus (first | decide | (simp; done) | (simp [tcs]; done))) | (refine nI ?_ ?_; focus (first | decide | (simp; done) | (simp [tcs]; done)))); conv => whnf)
        intro hlenN
        conv => whnf
        repeat ((first | refine aI rfl ?_ | refine aI (by decide) ?_ | refine aI ⟨by omega, by omega⟩ ?_ | refine aI (by omega) ?_ | refine aI (fun _ => ⟨by omega, by omega⟩) ?_ | refine aI (of_decide_eq_true rfl) ?_ | (refine yI ?_ ?_; focus (first | decide | (simp; done) | (simp [tcs]; done))) | (refine nI ?_ ?_; focus (first | decide | (simp; done) | (simp [tcs]; done)))); conv => whnf)
        refine ⟨show ((tcs N).length + 1) * 48 ≤ 140737488355328 by omega, show (tcs N).length + 1 ≤ 9223372036854775807 by omega, ?_⟩
        conv => whnf
        repeat ((first | refine aI rfl ?_ | refine aI (by decide) ?_ | refine aI ⟨by omega, by omega⟩ ?_ | refine aI (by omega) ?_ | refine aI (fun _ => ⟨by omega, by omega⟩) ?_ | refine aI (of_decide_eq_true rfl) ?_ | (refine yI ?_ ?_; focus (first | decide | (simp; done) | (simp [tcs]; done))) | (refine nI ?_ ?_; focus (first | decide | (simp; done) | (simp [tcs]; done)))); conv => whnf)
        have hix : ((tcs N).length : Int).toNat = (tcs N).length := by omega
        have hapl : ∀ z : List CV, (tcs N).length < (tcs N ++ [z]).length := fun z => by simp
        refine ⟨⟨by omega, by rw [hix]; exact hapl _⟩, ?_⟩
        conv => whnf
        repeat ((first | refine aI rfl ?_ | refine aI (by decide) ?_ | refine aI ⟨by omega, by omega⟩ ?_ | refine aI (by omega) ?_ | refine aI (fun _ => ⟨by omega, by omega⟩) ?_ | refine aI (of_decide_eq_true rfl) ?_ | (refine yI ?_ ?_; focus (first | decide | (simp; done) | (simp [tcs]; done))) | (refine nI ?_ ?_; focus (first | decide | (simp; done) | (simp [tcs]; done)))); conv => whnf)
        have hget : ∀ z : List CV, (tcs N ++ [z])[((tcs N).length : Int).toNat]? = some z := fun z => by rw [hix]; simp
        have hset : ∀ z x : List CV, (tcs N ++ [z]).set ((tcs N).length : Int).toNat x = tcs N ++ [x] := fun z x => by rw [hix]; simp
        refine ⟨?_, ?_⟩
        · conv => whnf
          repeat ((first | refine aI rfl ?_ | refine aI (by decide) ?_ | refine aI ⟨by omega, by omega⟩ ?_ | refine aI (by omega) ?_ | refine aI (fun _ => ⟨by omega, by omega⟩) ?_ | refine aI (of_decide_eq_true rfl) ?_ | (refine yI ?_ ?_; focus (first | decide | (simp; done) | (simp [tcs]; done))) | (refine nI ?_ ?_; focus (first | decide | (simp; done) | (simp [tcs]; done)))); conv => whnf)
          refine ⟨_, hget _, show 0 + 4 ≤ 4 by decide, ?_⟩
          conv => whnf
          repeat ((first | refine aI rfl ?_ | refine aI (by decide) ?_ | refine aI ⟨by omega, by omega⟩ ?_ | refine aI (by omega) ?_ | refine aI (fun _ => ⟨by omega, by omega⟩) ?_ | refine aI (of_decide_eq_true rfl) ?_ | (refine yI ?_ ?_; focus (first | decide | (simp; done) | (simp [tcs]; done))) | (refine nI ?_ ?_; focus (first | decide | (simp; done) | (simp [tcs]; done)))); conv => whnf)
          exact Wk.sl [0, 1, 2, 3, 4, 6, 7, 9] rfl ⟨rfl, rfl, rfl, rfl, rfl, rfl, rfl, eRow (hset _ _), trivial⟩ ⟨rfl, rfl, rfl, rfl, trivial⟩ rfl
        · conv => whnf
          repeat ((first | refine aI rfl ?_ | refine aI (by decide) ?_ | refine aI ⟨by omega, by omega⟩ ?_ | refine aI (by omega) ?_ | refine aI (fun _ => ⟨by omega, by omega⟩) ?_ | refine aI (of_decide_eq_true rfl) ?_ | (refine yI ?_ ?_; focus (first | decide | (simp; done) | (simp [tcs]; done))) | (refine nI ?_ ?_; focus (first | decide | (simp; done) | (simp [tcs]; done)))); conv => whnf)
          refine ⟨_, hget _, show 0 + 4 ≤ 4 by decide, ?_⟩
          conv => whnf
          repeat ((first | refine aI rfl ?_ | refine aI (by decide) ?_ | refine aI ⟨by omega, by omega⟩ ?_ | refine aI (by omega) ?_ | refine aI (fun _ => ⟨by omega, by omega⟩) ?_ | refine aI (of_decide_eq_true rfl) ?_ | (refine yI ?_ ?_; focus (first | decide | (simp; done) | (simp [tcs]; done))) | (refine nI ?_ ?_; focus (first | decide | (simp; done) | (simp [tcs]; done)))); conv => whnf)
          exact Wk.sl [0, 1, 2, 3, 4, 6, 7, 9] rfl ⟨rfl, rfl, rfl, rfl, rfl, rfl, rfl, eRow (hset _ _), trivial⟩ ⟨rfl, rfl, rfl, rfl, trivial⟩ rfl
      · have hzl : (rowN (N.map szN)).length = N.length := by simp [rowN]
        conv => whnf
        repeat ((first | refine aI rfl ?_ | refine aI (by decide) ?_ | refine dI (by kernel_rfl) ?_ | refine aI ⟨by omega, by omega⟩ ?_ | refine aI (by omega) ?_ | refine aI (fun _ => ⟨by omega, by omega⟩) ?_ | refine aI (of_decide_eq_true rfl) ?_ | (refine yI ?_ ?_; focus (first | decide | (simp; done) | (simp [tcs]; done))) | (refine nI ?_ ?_; focus (first | decide | (simp; done) | (simp [tcs]; done))) | intro _); conv => whnf)
        refine ⟨show ((rowN (N.map szN)).length + 1) * 8 ≤ 140737488355328 by omega, show (rowN (N.map szN)).length + 1 ≤ 9223372036854775807 by omega, ?_⟩
        conv => whnf
        repeat ((first | refine aI rfl ?_ | refine aI (by decide) ?_ | refine dI (by kernel_rfl) ?_ | refine aI ⟨by omega, by omega⟩ ?_ | refine aI (by omega) ?_ | refine aI (fun _ => ⟨by omega, by omega⟩) ?_ | refine aI (of_decide_eq_true rfl) ?_ | (refine yI ?_ ?_; focus (first | decide | (simp; done) | (simp [tcs]; done))) | (refine nI ?_ ?_; focus (first | decide | (simp; done) | (simp [tcs]; done))) | intro _); conv => whnf)
        have ezN : ((szN (Term.mk kk hh n acc) : Nat) : Int) = 1 + szL acc := by have := szL_pos acc; unfold szN; rw [szT]; omega
        have eZ : rowN (N.map szN) ++ [[CV.int .i64 (1 + szL acc)]] = rowN ((N ++ [Term.mk kk hh n acc]).map szN) := by rw [← ezN]; simp [rowN]
        refine ⟨[(2, .ptr 5 0)], [.box [.c (.str (sB l')), .own 3, .own 4], .dead, .dead, .row 25 4 48 (tcs (N ++ [Term.mk kk hh n acc])), .row 3 1 8 (rowN ((N ++ [Term.mk kk hh n acc]).map szN)), .box [.c (.int .i64 (kk)), .c (.int .i64 (hh)), .c (.int .i64 (n)), .own 6], .frz (.sl 4 48 (tcs acc))],
          Wk.sl [0, 1, 2, 7, 9, 3, 6] rfl ⟨rfl, rfl, rfl, eRow (tcs_snoc19 N (Term.mk kk hh n acc)).symm, eRow eZ, rfl, rfl, trivial⟩ ⟨rfl, trivial⟩ rfl, ?_⟩
        conv => whnf
        repeat ((first | refine aI rfl ?_ | refine aI (by decide) ?_ | refine dI (by kernel_rfl) ?_ | refine aI ⟨by omega, by omega⟩ ?_ | refine aI (by omega) ?_ | refine aI (fun _ => ⟨by omega, by omega⟩) ?_ | refine aI (of_decide_eq_true rfl) ?_ | (refine yI ?_ ?_; focus (first | decide | (simp; done) | (simp [tcs]; done))) | (refine nI ?_ ?_; focus (first | decide | (simp; done) | (simp [tcs]; done))) | intro _); conv => whnf)
        exact ⟨_, _, rfl, rfl, rfl⟩
  · replace hk4 : kk ≠ 4 := by have := of_decide_eq_false hk4; omega
    rw [if_neg hk4] at eR
    conv => whnf
    subst hC
    refine aw_cut _ _ rfl fun C hC => ?_
    conv => whnf
    have hcn := cRdCount l1 N (N.map szN) (by omega)
    subst hC
    refine aw_cut _ _ rfl fun C hC => ?_
    conv => whnf
    try (refine dI (by kernel_rfl) ?_; conv => whnf)
    refine CallPt.use hcn [0, 1, 2] ⟨rfl, rfl, rfl, trivial⟩ (by decide) rfl ?_ ?_
    (focus (rintro x _ hx _; (conv => whnf); exact ⟨hx.1.1, by rw [eR]; unfold rdRest; rw [hx.1.2]⟩))
    rintro _ _ ⟨c, l3, hR2, rfl, rfl⟩ _
    conv => whnf
    obtain ⟨hc1, hc2⟩ := rdCount_le hR2
    have eR2 : rdNode (b :: l1) N = match rdArgs N c l3 [] with | some (us, m2) => some (.mk kk hh ((0 : Nat) : Int) us, m2) | none => none := by rw [eR]; unfold rdRest; rw [hR2]
    rw [eR2]
    clear eR eR2 hcn
    generalize hRR : rdArgs N c l3 [] = R at *
    repeat ((first | refine aI rfl ?_ | refine aI (by decide) ?_ | refine dI (by kernel_rfl) ?_ | refine aI ⟨by omega, by omega⟩ ?_ | refine aI (by omega) ?_ | refine aI (fun _ => ⟨by omega, by omega⟩) ?_ | refine aI (of_decide_eq_true rfl) ?_ | (refine yI ?_ ?_; focus (first | decide | (simp; done) | (simp [tcs]; done))) | (refine nI ?_ ?_; focus (first | decide | (simp; done) | (simp [tcs]; done))) | intro _); conv => whnf)
    refine loop_intro (fun q tm H => ∃ (j : Nat) (l' : List UInt8) (acc : List Term), c = q + j ∧ acc.length = j ∧ l'.length ≤ 1000000 ∧ 1 + szL acc ≤ 600 ∧ rdArgs N q l' acc = R ∧
        tm = [(22, .c (.int .i64 (j))), (21, .c (.int .i64 (c))), (5, .c (.int .i64 (1 + szL acc))), (4, .ptr 4 0), (2, .ptr 3 0), (0, .ptr 0 0)] ∧
        H = [.box [.c (.str (sB l')), .own 5, .own 6], .dead, .dead, .box [.c (.int .i64 (0)), .c (.int .i64 (0)), .c (.int .i64 (0)), .nil], .box [.c (.int .i64 (kk)), .c (.int .i64 (hh)), .c (.int .i64 (((0 : Nat) : Int))), .own 7], .row 25 4 48 (tcs N), .row 3 1 8 (rowN (N.map szN)), .row 25 4 48 (tcs acc)])
      c _ _ ⟨0, l3, [], by omega, rfl, by omega, by simp [szL], hRR, rfl, rfl⟩ ?_ ?_
    · refine Wk.trans (Wk.mvbox 0 1 1 25 4 48 (tcs N) rfl rfl rfl rfl) ?_
      refine Wk.trans (Wk.mvbox 0 2 2 3 1 8 (rowN (N.map szN)) rfl rfl rfl rfl) ?_
      refine Wk.trans (Wk.nilrow (i := 4) (j := 3) 25 4 48 rfl rfl rfl) ?_
      exact Wk.sl [0, 1, 2, 3, 4, 5, 6, 7] rfl ⟨rfl, rfl, rfl, rfl, rfl, rfl, rfl, rfl, trivial⟩ ⟨rfl, rfl, rfl, rfl, rfl, rfl, trivial⟩ rfl
    rintro q tm H ⟨j, l', acc, hj, hacc, hl', hsa, hRm, rfl, rfl⟩
    have hla := len_tcs acc
    have hsn := szL_pos acc
    have hb1 : ((tcs acc).length + 1) * 48 ≤ 140737488355328 := by have := szL_len acc; omega
    have hb2 : (tcs acc).length + 1 ≤ 9223372036854775807 := by have := szL_len acc; omega
    have hnm2 := cRdNumber l' N (N.map szN) hl'
    conv => whnf
    refine ⟨fun hc => ?_, fun hc => ?_⟩
    · replace hc : (j : Int) < c := of_decide_eq_true hc
      obtain ⟨q2, rfl⟩ : ∃ q2, q = q2 + 1 := ⟨q - 1, by omega⟩
      rw [rdArgs] at hRm
      cases hR1 : rdNum l' 1 0 with
      | none =>
        rw [hR1] at hRm hnm2
        conv => whnf
        refine draw_intro false (by kernel_rfl) ?_
        conv => whnf
        (refine And.intro ?_ ?_ <;> conv => whnf)
        · repeat ((first | refine aI rfl ?_ | refine aI (by decide) ?_ | refine dI (by kernel_rfl) ?_ | refine aI ⟨by omega, by omega⟩ ?_ | refine aI (by omega) ?_ | refine aI (fun _ => ⟨by omega, by omega⟩) ?_ | refine aI (of_decide_eq_true rfl) ?_ | (refine yI ?_ ?_; focus (first | decide | (simp; done) | (simp [tcs]; done))) | (refine nI ?_ ?_; focus (first | decide | (simp; done) | (simp [tcs]; done))) | intro _); conv => whnf)
          try (refine dI (by kernel_rfl) ?_; conv => whnf)
          refine CallPt.use hnm2 [0, 5, 6] ⟨rfl, rfl, rfl, trivial⟩ (by decide) rfl ?_ ?_
          (focus (rintro x _ hx _; (conv => whnf); exact ⟨hx.1.1, by rw [← hRm]⟩))
          rintro _ _ ⟨_, _, h, _⟩ _
          conv => whnf
          cases h
        · try (refine draw_intro true (by kernel_rfl) ?_; conv => whnf)
          refine CallPt.use hnm2 [0, 5, 6] ⟨rfl, rfl, rfl, trivial⟩ (by decide) rfl ?_ ?_
          (focus (rintro x _ hx _; (conv => whnf); exact ⟨hx.1.1, by rw [← hRm]⟩))
          rintro _ _ ⟨_, _, h, _⟩ _
          conv => whnf
          cases h
      | some p =>
        obtain ⟨qv, m⟩ := p
        have hql := rdNum_len _ _ _ _ _ hR1
        have hqb := rdNum_le _ _ _ _ _ (by omega) hR1
        rw [hR1] at hRm hnm2
        simp only at hRm
        have hnm3 : CallPt Tryz.prog 101 [.ptr 0 0] (rdH l' N (N.map szN)) (fun r H' => r = .c (.int .i64 ((qv : Nat))) ∧ H' = rdH m N (N.map szN)) (fun x H' => (x = trb ∧ some (qv, m) = none) ∧ H' = dead3) := by
          refine CallPt.mono hnm2 ?_ (fun _ _ h => h)
          rintro r H' ⟨n', m', h, rfl, rfl⟩
          injection h with h
          injection h with h1 h2
          subst h1 h2
          exact ⟨rfl, rfl⟩
        clear hnm2
        conv => whnf
        refine draw_wk [(6, .c (.int .i64 (((tcs N).length : Int) - 1 - (qv : Int)))), (22, .c (.int .i64 (j))), (21, .c (.int .i64 (c))), (5, .c (.int .i64 (1 + szL acc))), (4, .ptr 4 0), (2, .ptr 3 0), (0, .ptr 0 0)]
          [.box [.c (.str (sB m)), .own 5, .own 6], .dead, .dead, .box [.c (.int .i64 (0)), .c (.int .i64 (0)), .c (.int .i64 (0)), .nil], .box [.c (.int .i64 (kk)), .c (.int .i64 (hh)), .c (.int .i64 (((0 : Nat) : Int))), .own 7], .row 25 4 48 (tcs N), .row 3 1 8 (rowN (N.map szN)), .row 25 4 48 (tcs acc)] ?_ ?_
        · refine draw_intro false (by kernel_rfl) ?_
          conv => whnf
          (refine And.intro ?_ ?_ <;> conv => whnf)
          · repeat ((first | refine aI rfl ?_ | refine aI (by decide) ?_ | refine dI (by kernel_rfl) ?_ | refine aI ⟨by omega, by omega⟩ ?_ | refine aI (by omega) ?_ | refine aI (fun _ => ⟨by omega, by omega⟩) ?_ | refine aI (of_decide_eq_true rfl) ?_ | (refine yI ?_ ?_; focus (first | decide | (simp; done) | (simp [tcs]; done))) | (refine nI ?_ ?_; focus (first | decide | (simp; done) | (simp [tcs]; done))) | intro _); conv => whnf)
            try (refine dI (by kernel_rfl) ?_; conv => whnf)
            refine CallPt.use hnm3 [0, 5, 6] ⟨rfl, rfl, rfl, trivial⟩ (by decide) rfl ?_ ?_
            (focus (rintro x _ hx _; (conv => whnf); exact absurd hx.1.2 (by simp)))
            rintro _ _ ⟨rfl, rfl⟩ _
            conv => whnf
            repeat ((first | refine aI rfl ?_ | refine aI (by decide) ?_ | refine dI (by kernel_rfl) ?_ | refine aI ⟨by omega, by omega⟩ ?_ | refine aI (by omega) ?_ | refine aI (fun _ => ⟨by omega, by omega⟩) ?_ | refine aI (of_decide_eq_true rfl) ?_ | (refine yI ?_ ?_; focus (first | decide | (simp; done) | (simp [tcs]; done))) | (refine nI ?_ ?_; focus (first | decide | (simp; done) | (simp [tcs]; done))) | intro _); conv => whnf)
            exact Wk.sl [0, 1, 2, 3, 4, 5, 6, 7] rfl ⟨rfl, rfl, rfl, rfl, rfl, rfl, rfl, rfl, trivial⟩ ⟨rfl, rfl, rfl, rfl, rfl, rfl, rfl, trivial⟩ rfl
          · try (refine draw_intro true (by kernel_rfl) ?_; conv => whnf)
            refine CallPt.use hnm3 [0, 5, 6] ⟨rfl, rfl, rfl, trivial⟩ (by decide) rfl ?_ ?_
            (focus (rintro x _ hx _; (conv => whnf); exact absurd hx.1.2 (by simp)))
            rintro _ _ ⟨rfl, rfl⟩ _
            conv => whnf
            repeat ((first | refine aI rfl ?_ | refine aI (by decide) ?_ | refine dI (by kernel_rfl) ?_ | refine aI ⟨by omega, by omega⟩ ?_ | refine aI (by omega) ?_ | refine aI (fun _ => ⟨by omega, by omega⟩) ?_ | refine aI (of_decide_eq_true rfl) ?_ | (refine yI ?_ ?_; focus (first | decide | (simp; done) | (simp [tcs]; done))) | (refine nI ?_ ?_; focus (first | decide | (simp; done) | (simp [tcs]; done))) | intro _); conv => whnf)
            exact Wk.sl [0, 1, 2, 3, 4, 5, 6, 7] rfl ⟨rfl, rfl, rfl, rfl, rfl, rfl, rfl, rfl, trivial⟩ ⟨rfl, rfl, rfl, rfl, rfl, rfl, rfl, trivial⟩ rfl
        · have hd := cDemand (decide (0 ≤ ((tcs N).length : Int) - 1 - (qv : Int)))
          conv => whnf
          by_cases hqn : qv < N.length
          · obtain ⟨u, hu⟩ : ∃ u, N[N.length - 1 - qv]? = some u := ⟨N[N.length - 1 - qv]'(by omega), List.getElem?_eq_getElem (by omega)⟩
            have hum := List.mem_of_getElem? hu
            have hus := hN u hum
            have hup := szT_pos u
            have hzn : ((szN u : Nat) : Int) = szT u := by unfold szN; omega
            have hkt : (((tcs N).length : Int) - 1 - (qv : Int)).toNat = N.length - 1 - qv := by omega
            have hkz : (rowN (N.map szN))[(((tcs N).length : Int) - 1 - (qv : Int)).toNat]? = some [.int .i64 ((szN u : Nat) : Int)] := by rw [hkt]; simp [rowN, hu]
            have hkc : (tcs N)[(((tcs N).length : Int) - 1 - (qv : Int)).toNat]? = some (tc u) := by rw [hkt]; exact tcs_at N _ u hu
            have hzl : (rowN (N.map szN)).length = N.length := by simp [rowN]
            have hsl : szL (acc ++ [u]) = szL acc + szT u := by rw [szL_append]; simp [szL]
            rw [if_pos hqn, hu] at hRm
            simp only at hRm
            rw [decide_eq_true (show 0 ≤ ((tcs N).length : Int) - 1 - (qv : Int) by omega)] at hd ⊢
            try (refine dI (by kernel_rfl) ?_; conv => whnf)
            refine CallPt.use hd [] trivial (by decide) rfl ?_ ?_
            (focus (rintro x _ hx _; (conv => whnf); exact absurd hx.1.2 (by simp)))
            rintro _ _ ⟨_, rfl, rfl⟩ _
            conv => whnf
            refine ⟨⟨by omega, by omega⟩, ?_⟩
            conv => whnf
            refine ⟨[.int .i64 ((szN u : Nat) : Int)], hkz, show 0 + 1 ≤ 1 by decide, ?_⟩
            conv => whnf
            refine ⟨⟨by omega, by omega⟩, ?_⟩
            conv => whnf
            have hd2 := cDemand (decide ((1 + szL acc + ((szN u : Nat) : Int)) ≤ 600))
            by_cases hs6 : 1 + szL (acc ++ [u]) ≤ 600
            · rw [if_pos hs6] at hRm
              rw [decide_eq_true (show (1 + szL acc + ((szN u : Nat) : Int)) ≤ 600 by omega)] at hd2 ⊢
              try (refine dI (by kernel_rfl) ?_; conv => whnf)
              refine CallPt.use hd2 [] trivial (by decide) rfl ?_ ?_
              (focus (rintro x _ hx _; (conv => whnf); exact absurd hx.1.2 (by simp)))
              rintro _ _ ⟨_, rfl, rfl⟩ _
              conv => whnf
              have es : 1 + szL acc + ((szN u : Nat) : Int) = 1 + szL (acc ++ [u]) := by omega
              rw [es]
              have hst : tcs (acc ++ [u]) = tcs acc ++ [tc u] := tcs_snoc19 acc u
              obtain ⟨k', l2', n', us⟩ := u
              replace hkc : (tcs N)[(((tcs N).length : Int) - 1 - (qv : Int)).toNat]? = some [.int .i64 k', .int .i64 l2', .int .i64 n', .sl 4 48 (tcs us)] := hkc
              refine draw_intro true (by kernel_rfl) ?_
              conv => whnf
              refine ⟨⟨by omega, by omega⟩, ?_⟩
              conv => whnf
              refine ⟨[.int .i64 k', .int .i64 l2', .int .i64 n', .sl 4 48 (tcs us)], hkc, show 0 + 4 ≤ 4 by decide, ?_⟩
              conv => whnf
              repeat ((first | refine aI rfl ?_ | refine aI (by decide) ?_ | refine dI (by kernel_rfl) ?_ | refine aI ⟨by omega, by omega⟩ ?_ | refine aI (by omega) ?_ | refine aI (fun _ => ⟨by omega, by omega⟩) ?_ | refine aI (of_decide_eq_true rfl) ?_ | (refine yI ?_ ?_; focus (first | decide | (simp; done) | (simp [tcs]; done))) | (refine nI ?_ ?_; focus (first | decide | (simp; done) | (simp [tcs]; done))) | intro _); conv => whnf)
              refine ⟨q2, _, _, by omega, ⟨j + 1, m, acc ++ [.mk k' l2' n' us], by omega, by simp [hacc], by omega, hs6, hRm, rfl, rfl⟩, Wk.sl [0, 1, 2, 3, 4, 5, 6, 9] rfl ⟨rfl, rfl, rfl, rfl, rfl, rfl, rfl, ?_, trivial⟩ ⟨rfl, rfl, rfl, rfl, rfl, rfl, trivial⟩ rfl⟩
              rw [hst]
              rfl
            · rw [if_neg hs6] at hRm
              rw [decide_eq_false (show ¬ (1 + szL acc + ((szN u : Nat) : Int)) ≤ 600 by omega)] at hd2 ⊢
              try (refine dI (by kernel_rfl) ?_; conv => whnf)
              refine CallPt.use hd2 [] trivial (by decide) rfl ?_ ?_
              (focus (rintro x _ hx _; (conv => whnf); exact ⟨hx.1.1, by rw [← hRm]⟩))
              rintro _ _ ⟨h, _⟩ _
              conv => whnf
              cases h
          · rw [if_neg hqn] at hRm
            rw [decide_eq_false (show ¬ 0 ≤ ((tcs N).length : Int) - 1 - (qv : Int) by omega)] at hd ⊢
            try (refine dI (by kernel_rfl) ?_; conv => whnf)
            refine CallPt.use hd [] trivial (by decide) rfl ?_ ?_
            (focus (rintro x _ hx _; (conv => whnf); exact ⟨hx.1.1, by rw [← hRm]⟩))
            rintro _ _ ⟨h, _⟩ _
            conv => whnf
            cases h
    · replace hc : ¬ (j : Int) < c := of_decide_eq_false hc
      obtain rfl : q = 0 := by omega
      rw [rdArgs] at hRm
      subst hRm
      conv => whnf
      subst hC
      conv => whnf
      refine draw_wk [(5, .c (.int .i64 (1 + szL acc))), (4, .ptr 4 0), (2, .ptr 3 0), (0, .ptr 0 0)]
        [.box [.c (.str (sB l')), .own 7, .own 5], .dead, .dead, .box [.c (.int .i64 (0)), .c (.int .i64 (0)), .c (.int .i64 (0)), .nil], .box [.c (.int .i64 (kk)), .c (.int .i64 (hh)), .c (.int .i64 (((0 : Nat) : Int))), .own 6], .row 3 1 8 (rowN (N.map szN)), .frz (.sl 4 48 (tcs acc)), .row 25 4 48 (tcs N ++ [[.int .i64 kk, .int .i64 hh, .int .i64 ((0 : Nat) : Int), .sl 4 48 (tcs acc)]])] ?_ ?_
      · refine draw_intro true (by kernel_rfl) ?_
        conv => whnf
        repeat ((first | refine aI rfl ?_ | refine aI (by decide) ?_ | refine aI ⟨by omega, by omega⟩ ?_ | refine aI (by omega) ?_ | refine aI (fun _ => ⟨by omega, by omega⟩) ?_ | refine aI (of_decide_eq_true rfl) ?_ | (refine yI ?_ ?_; focus (first | decide | (simp; done) | (simp [tcs]; done))) | (refine nI ?_ ?_; focus (first | decide | (simp; done) | (simp [tcs]; done)))); conv => whnf)
        intro hlenN
        conv => whnf
        repeat ((first | refine aI rfl ?_ | refine aI (by decide) ?_ | refine aI ⟨by omega, by omega⟩ ?_ | refine aI (by omega) ?_ | refine aI (fun _ => ⟨by omega, by omega⟩) ?_ | refine aI (of_decide_eq_true rfl) ?_ | (refine yI ?_ ?_; focus (first | decide | (simp; done) | (simp [tcs]; done))) | (refine nI ?_ ?_; focus (first | decide | (simp; done) | (simp [tcs]; done)))); conv => whnf)
        refine ⟨show ((tcs N).length + 1) * 48 ≤ 140737488355328 by omega, show (tcs N).length + 1 ≤ 9223372036854775807 by omega, ?_⟩
        conv => whnf
        repeat ((first | refine aI rfl ?_ | refine aI (by decide) ?_ | refine aI ⟨by omega, by omega⟩ ?_ | refine aI (by omega) ?_ | refine aI (fun _ => ⟨by omega, by omega⟩) ?_ | refine aI (of_decide_eq_true rfl) ?_ | (refine yI ?_ ?_; focus (first | decide | (simp; done) | (simp [tcs]; done))) | (refine nI ?_ ?_; focus (first | decide | (simp; done) | (simp [tcs]; done)))); conv => whnf)
        have hix : ((tcs N).length : Int).toNat = (tcs N).length := by omega
        have hapl : ∀ z : List CV, (tcs N).length < (tcs N ++ [z]).length := fun z => by simp
        refine ⟨⟨by omega, by rw [hix]; exact hapl _⟩, ?_⟩
        conv => whnf
        repeat ((first | refine aI rfl ?_ | refine aI (by decide) ?_ | refine aI ⟨by omega, by omega⟩ ?_ | refine aI (by omega) ?_ | refine aI (fun _ => ⟨by omega, by omega⟩) ?_ | refine aI (of_decide_eq_true rfl) ?_ | (refine yI ?_ ?_; focus (first | decide | (simp; done) | (simp [tcs]; done))) | (refine nI ?_ ?_; focus (first | decide | (simp; done) | (simp [tcs]; done)))); conv => whnf)
        have hget : ∀ z : List CV, (tcs N ++ [z])[((tcs N).length : Int).toNat]? = some z := fun z => by rw [hix]; simp
        have hset : ∀ z x : List CV, (tcs N ++ [z]).set ((tcs N).length : Int).toNat x = tcs N ++ [x] := fun z x => by rw [hix]; simp
        refine ⟨?_, ?_⟩
        · conv => whnf
          repeat ((first | refine aI rfl ?_ | refine aI (by decide) ?_ | refine aI ⟨by omega, by omega⟩ ?_ | refine aI (by omega) ?_ | refine aI (fun _ => ⟨by omega, by omega⟩) ?_ | refine aI (of_decide_eq_true rfl) ?_ | (refine yI ?_ ?_; focus (first | decide | (simp; done) | (simp [tcs]; done))) | (refine nI ?_ ?_; focus (first | decide | (simp; done) | (simp [tcs]; done)))); conv => whnf)
          refine ⟨_, hget _, show 0 + 4 ≤ 4 by decide, ?_⟩
          conv => whnf
          repeat ((first | refine aI rfl ?_ | refine aI (by decide) ?_ | refine aI ⟨by omega, by omega⟩ ?_ | refine aI (by omega) ?_ | refine aI (fun _ => ⟨by omega, by omega⟩) ?_ | refine aI (of_decide_eq_true rfl) ?_ | (refine yI ?_ ?_; focus (first | decide | (simp; done) | (simp [tcs]; done))) | (refine nI ?_ ?_; focus (first | decide | (simp; done) | (simp [tcs]; done)))); conv => whnf)
          exact Wk.sl [0, 1, 2, 3, 4, 6, 7, 9] rfl ⟨rfl, rfl, rfl, rfl, rfl, rfl, rfl, eRow (hset _ _), trivial⟩ ⟨rfl, rfl, rfl, rfl, trivial⟩ rfl
        · conv => whnf
          repeat ((first | refine aI rfl ?_ | refine aI (by decide) ?_ | refine aI ⟨by omega, by omega⟩ ?_ | refine aI (by omega) ?_ | refine aI (fun _ => ⟨by omega, by omega⟩) ?_ | refine aI (of_decide_eq_true rfl) ?_ | (refine yI ?_ ?_; focus (first | decide | (simp; done) | (simp [tcs]; done))) | (refine nI ?_ ?_; focus (first | decide | (simp; done) | (simp [tcs]; done)))); conv => whnf)
          refine ⟨_, hget _, show 0 + 4 ≤ 4 by decide, ?_⟩
          conv => whnf
          repeat ((first | refine aI rfl ?_ | refine aI (by decide) ?_ | refine aI ⟨by omega, by omega⟩ ?_ | refine aI (by omega) ?_ | refine aI (fun _ => ⟨by omega, by omega⟩) ?_ | refine aI (of_decide_eq_true rfl) ?_ | (refine yI ?_ ?_; focus (first | decide | (simp; done) | (simp [tcs]; done))) | (refine nI ?_ ?_; focus (first | decide | (simp; done) | (simp [tcs]; done)))); conv => whnf)
          exact Wk.sl [0, 1, 2, 3, 4, 6, 7, 9] rfl ⟨rfl, rfl, rfl, rfl, rfl, rfl, rfl, eRow (hset _ _), trivial⟩ ⟨rfl, rfl, rfl, rfl, trivial⟩ rfl
      · have hzl : (rowN (N.map szN)).length = N.length := by simp [rowN]
        conv => whnf
        repeat ((first | refine aI rfl ?_ | refine aI (by decide) ?_ | refine dI (by kernel_rfl) ?_ | refine aI ⟨by omega, by omega⟩ ?_ | refine aI (by omega) ?_ | refine aI (fun _ => ⟨by omega, by omega⟩) ?_ | refine aI (of_decide_eq_true rfl) ?_ | (refine yI ?_ ?_; focus (first | decide | (simp; done) | (simp [tcs]; done))) | (refine nI ?_ ?_; focus (first | decide | (simp; done) | (simp [tcs]; done))) | intro _); conv => whnf)
        refine ⟨show ((rowN (N.map szN)).length + 1) * 8 ≤ 140737488355328 by omega, show (rowN (N.map szN)).length + 1 ≤ 9223372036854775807 by omega, ?_⟩
        conv => whnf
        repeat ((first | refine aI rfl ?_ | refine aI (by decide) ?_ | refine dI (by kernel_rfl) ?_ | refine aI ⟨by omega, by omega⟩ ?_ | refine aI (by omega) ?_ | refine aI (fun _ => ⟨by omega, by omega⟩) ?_ | refine aI (of_decide_eq_true rfl) ?_ | (refine yI ?_ ?_; focus (first | decide | (simp; done) | (simp [tcs]; done))) | (refine nI ?_ ?_; focus (first | decide | (simp; done) | (simp [tcs]; done))) | intro _); conv => whnf)
        have ezN : ((szN (Term.mk kk hh ((0 : Nat) : Int) acc) : Nat) : Int) = 1 + szL acc := by have := szL_pos acc; unfold szN; rw [szT]; omega
        have eZ : rowN (N.map szN) ++ [[CV.int .i64 (1 + szL acc)]] = rowN ((N ++ [Term.mk kk hh ((0 : Nat) : Int) acc]).map szN) := by rw [← ezN]; simp [rowN]
        refine ⟨[(2, .ptr 5 0)], [.box [.c (.str (sB l')), .own 3, .own 4], .dead, .dead, .row 25 4 48 (tcs (N ++ [Term.mk kk hh ((0 : Nat) : Int) acc])), .row 3 1 8 (rowN ((N ++ [Term.mk kk hh ((0 : Nat) : Int) acc]).map szN)), .box [.c (.int .i64 (kk)), .c (.int .i64 (hh)), .c (.int .i64 (((0 : Nat) : Int))), .own 6], .frz (.sl 4 48 (tcs acc))],
          Wk.sl [0, 1, 2, 7, 9, 3, 6] rfl ⟨rfl, rfl, rfl, eRow (tcs_snoc19 N (Term.mk kk hh ((0 : Nat) : Int) acc)).symm, eRow eZ, rfl, rfl, trivial⟩ ⟨rfl, trivial⟩ rfl, ?_⟩
        conv => whnf
        repeat ((first | refine aI rfl ?_ | refine aI (by decide) ?_ | refine dI (by kernel_rfl) ?_ | refine aI ⟨by omega, by omega⟩ ?_ | refine aI (by omega) ?_ | refine aI (fun _ => ⟨by omega, by omega⟩) ?_ | refine aI (of_decide_eq_true rfl) ?_ | (refine yI ?_ ?_; focus (first | decide | (simp; done) | (simp [tcs]; done))) | (refine nI ?_ ?_; focus (first | decide | (simp; done) | (simp [tcs]; done))) | intro _); conv => whnf)
        exact ⟨_, _, rfl, rfl, rfl⟩
end Go.Tr
/- cert: the nodes that are read. -/
namespace Go.Tr
open Go.Proofs
def rdNs : Nat → List UInt8 → List Term → Option (List Term × List UInt8)
  | 0, l, N => some (N, l)
  | n + 1, l, N => match rdNode l N with
    | some (t, m) => rdNs n m (N ++ [t])
    | none => none
def rdNodes (l : List UInt8) (N : List Term) : Option (List Term × List UInt8) := match rdCount l with
  | some (n, m) => rdNs n m N
  | none => none
theorem rdArgs_le {N : List Term} : ∀ (c : Nat) (l : List UInt8) (acc us : List Term) (m : List UInt8), rdArgs N c l acc = some (us, m) → 1 + szL acc ≤ 600 → m.length ≤ l.length ∧ 1 + szL us ≤ 600
  | 0, l, acc, us, m, h, hs => by
    rw [rdArgs] at h
    injection h with h
    injection h with h1 h2
    subst h1 h2
    exact ⟨Nat.le_refl _, hs⟩
  | c + 1, l, acc, us, m, h, hs => by
    rw [rdArgs] at h
    split at h
    · rename_i q m1 h1
      have g1 := rdNum_len _ _ _ _ _ h1
      split at h
      · split at h
        · rename_i hs2
          have := rdArgs_le c _ _ _ _ h hs2
          exact ⟨by omega, this.2⟩
        · cases h
      · cases h
    · cases h
theorem rdRest_le {k h n : Nat} {l m : List UInt8} {N : List Term} {t : Term} (e : rdRest k h n l N = some (t, m)) : m.length ≤ l.length ∧ szT t ≤ 600 := by
  unfold rdRest at e
  split at e
  · rename_i c m1 h1
    have g1 := rdCount_le h1
    split at e
    · rename_i us m2 h2
      have g2 := rdArgs_le _ _ _ _ _ h2 (by simp [szL])
      injection e with e
      injection e with e1 e2
      subst e1 e2
      rw [szT]
      exact ⟨by omega, g2.2⟩
    · cases e
  · cases e
theorem rdNode_le {l m : List UInt8} {N : List Term} {t : Term} (e : rdNode l N = some (t, m)) : m.length < l.length ∧ szT t ≤ 600 := by
  unfold rdNode at e
  split at e
  · cases e
  · rename_i b l1
    rw [List.length_cons]
    split at e
    · split at e
      · rename_i n l2 h1
        have g1 := rdNum_len _ _ _ _ _ h1
        have g2 := rdRest_le e
        exact ⟨by omega, g2.2⟩
      · cases e
    · have g2 := rdRest_le e
      exact ⟨by omega, g2.2⟩
theorem cReadNodes (l : List UInt8) (N0 : List Term) (hl : l.length ≤ 400000) (hN0 : ∀ t ∈ N0, szT t ≤ 600) (hNl : N0.length ≤ 400000) :
    CallPt Tryz.prog 83 [.ptr 0 0, .bd 84 [.ptr 0 0]] (rdH l N0 (N0.map szN))
    (fun r H' => ∃ N m ts, rdNodes l N0 = some (N, m) ∧ r = .own 5 ∧ H' = [.box [.c (.str (sB m)), .own 3, .own 4], .dead, .dead, .row 25 4 48 (tcs N), .row 3 1 8 (rowN (N.map szN)), .row 25 4 48 (tcs ts)])
    (fun x H' => (x = trb ∧ rdNodes l N0 = none) ∧ H' = dead3) := by
  have hn := cRdCount l N0 (N0.map szN) (by omega)
  refine call_pan (E := envK 3) (fn := Tryz.f83) (c := bodyOf Tryz.f83) (envK_ok 3) mixed (by kernel_rfl) (by kernel_rfl) (by kernel_rfl) (by kernel_rfl) (by kernel_rfl) (by kernel_rfl) rfl .w ?_
  refine aw_cut _ _ rfl fun C hC => ?_
  conv => whnf
  subst hC
  refine aw_cut _ _ rfl fun C hC => ?_
  conv => whnf
  subst hC
  refine aw_cut _ _ rfl fun C hC => ?_
  conv => whnf
  try (refine dI (by kernel_rfl) ?_; conv => whnf)
  refine CallPt.use hn [0, 1, 2] ⟨rfl, rfl, rfl, trivial⟩ (by decide) rfl ?_ ?_
  (focus (rintro x _ hx _; (conv => whnf); exact ⟨hx.1.1, by unfold rdNodes; rw [hx.1.2]⟩))
  rintro _ _ ⟨n, m, hR, rfl, rfl⟩ _
  conv => whnf
  obtain ⟨hnm, hml⟩ := rdCount_le hR
  have e : rdNodes l N0 = rdNs n m N0 := by unfold rdNodes; rw [hR]
  rw [e]
  clear e hR hn
  generalize hRR : rdNs n m N0 = R at *
  repeat ((first | refine aI rfl ?_ | refine aI (by decide) ?_ | refine dI (by kernel_rfl) ?_ | refine aI ⟨by omega, by omega⟩ ?_ | refine aI (by omega) ?_ | refine aI (fun _ => ⟨by omega, by omega⟩) ?_ | refine aI (of_decide_eq_true rfl) ?_ | (refine yI ?_ ?_; focus (first | decide | (simp; done) | (simp [tcs]; done))) | (refine nI ?_ ?_; focus (first | decide | (simp; done) | (simp [tcs]; done))) | intro _); conv => whnf)
  refine loop_intro (fun q tm H => ∃ (j : Nat) (l' : List UInt8) (N acc : List Term), n = q + j ∧ acc.length = j ∧ l'.length + N.length ≤ 800000 ∧ (∀ t ∈ N, szT t ≤ 600) ∧ rdNs q l' N = R ∧
      tm = [(9, .c (.int .i64 (j))), (8, .c (.int .i64 (n))), (5, .own 5), (1, .bd 84 [.ptr 0 0]), (0, .ptr 0 0)] ∧ H = [.box [.c (.str (sB l')), .own 3, .own 4], .dead, .dead, .row 25 4 48 (tcs N), .row 3 1 8 (rowN (N.map szN)), .row 25 4 48 (tcs acc)])
    n _ _ ⟨0, m, N0, [], by omega, rfl, by omega, hN0, hRR, rfl, rfl⟩ ?_ ?_
  · refine Wk.trans (Wk.mvbox 0 1 1 25 4 48 (tcs N0) rfl rfl rfl rfl) ?_
    refine Wk.trans (Wk.mvbox 0 2 2 3 1 8 (rowN (N0.map szN)) rfl rfl rfl rfl) ?_
    refine Wk.trans (Wk.niltmp 5 25 4 48 rfl rfl) ?_
    exact Wk.sl [0, 1, 2, 3, 4, 5] rfl ⟨rfl, rfl, rfl, rfl, rfl, rfl, trivial⟩ ⟨rfl, rfl, rfl, rfl, rfl, trivial⟩ rfl
  rintro q tm H ⟨j, l', N, acc, hj, hacc, hl', hN, hRm, rfl, rfl⟩
  have hla := len_tcs acc
  have hb1 : ((tcs acc).length + 1) * 48 ≤ 140737488355328 := by omega
  have hb2 : (tcs acc).length + 1 ≤ 9223372036854775807 := by omega
  conv => whnf
  refine ⟨fun hc => ?_, fun hc => ?_⟩
  · replace hc : (j : Int) < n := of_decide_eq_true hc
    obtain ⟨q2, rfl⟩ : ∃ q2, q = q2 + 1 := ⟨q - 1, by omega⟩
    rw [rdNs] at hRm
    have ht := cRdNode l' N (by omega) hN (by omega)
    conv => whnf
    try (refine dI (by kernel_rfl) ?_; conv => whnf)
    refine CallPt.use ht [0, 3, 4] ⟨rfl, rfl, rfl, trivial⟩ (by decide) rfl ?_ ?_
    (focus (rintro x _ hx _; (conv => whnf); exact ⟨hx.1.1, by rw [hx.1.2] at hRm; exact hRm.symm⟩))
    rintro _ _ ⟨t, m2, hR2, rfl, rfl⟩ _
    conv => whnf
    rw [hR2] at hRm
    have hlen2 := rdNode_le hR2
    have hst : tcs (acc ++ [t]) = tcs acc ++ [tc t] := tcs_snoc19 acc t
    have hN2 : ∀ u ∈ N ++ [t], szT u ≤ 600 := fun u hu => by
      rcases List.mem_append.1 hu with h | h
      · exact hN u h
      · rw [List.mem_singleton.1 h]; exact hlen2.2
    have hNn : (N ++ [t]).length = N.length + 1 := by simp
    replace hRm : rdNs q2 m2 (N ++ [t]) = R := hRm
    generalize N ++ [t] = N2 at *
    obtain ⟨k', l2, n', us⟩ := t
    rw [tv_mk]
    repeat ((first | refine aI rfl ?_ | refine aI (by decide) ?_ | refine dI (by kernel_rfl) ?_ | refine aI ⟨by omega, by omega⟩ ?_ | refine aI (by omega) ?_ | refine aI (fun _ => ⟨by omega, by omega⟩) ?_ | refine aI (of_decide_eq_true rfl) ?_ | (refine yI ?_ ?_; focus (first | decide | (simp; done) | (simp [tcs]; done))) | (refine nI ?_ ?_; focus (first | decide | (simp; done) | (simp [tcs]; done))) | intro _); conv => whnf)
    refine ⟨q2, _, _, by omega, ⟨j + 1, m2, N2, acc ++ [.mk k' l2 n' us], by omega, by simp [hacc], by omega, hN2, hRm, rfl, rfl⟩, Wk.sl [0, 1, 2, 6, 7, 12] rfl ⟨rfl, rfl, rfl, rfl, rfl, ?_, trivial⟩ ⟨rfl, rfl, rfl, rfl, rfl, trivial⟩ rfl⟩
    rw [hst]
    rfl
  · replace hc : ¬ (j : Int) < n := of_decide_eq_false hc
    obtain rfl : q = 0 := by omega
    rw [rdNs] at hRm
    subst hC
    conv => whnf
    repeat ((first | refine aI rfl ?_ | refine aI (by decide) ?_ | refine dI (by kernel_rfl) ?_ | refine aI ⟨by omega, by omega⟩ ?_ | refine aI (by omega) ?_ | refine aI (fun _ => ⟨by omega, by omega⟩) ?_ | refine aI (of_decide_eq_true rfl) ?_ | (refine yI ?_ ?_; focus (first | decide | (simp; done) | (simp [tcs]; done))) | (refine nI ?_ ?_; focus (first | decide | (simp; done) | (simp [tcs]; done))) | intro _); conv => whnf)
    refine ⟨[(4, .own 5)], [.box [.c (.str (sB l')), .own 3, .own 4], .dead, .dead, .row 25 4 48 (tcs N), .row 3 1 8 (rowN (N.map szN)), .row 25 4 48 (tcs acc)], Wk.sl [0, 1, 2, 3, 4, 5] rfl ⟨rfl, rfl, rfl, rfl, rfl, rfl, trivial⟩ ⟨rfl, trivial⟩ rfl, ?_⟩
    conv => whnf
    repeat ((first | refine aI rfl ?_ | refine aI (by decide) ?_ | refine dI (by kernel_rfl) ?_ | refine aI ⟨by omega, by omega⟩ ?_ | refine aI (by omega) ?_ | refine aI (fun _ => ⟨by omega, by omega⟩) ?_ | refine aI (of_decide_eq_true rfl) ?_ | (refine yI ?_ ?_; focus (first | decide | (simp; done) | (simp [tcs]; done))) | (refine nI ?_ ?_; focus (first | decide | (simp; done) | (simp [tcs]; done))) | intro _); conv => whnf)
    exact ⟨N, l', acc, hRm.symm, rfl, rfl⟩
end Go.Tr
/- cert: a certificate that is read. -/
namespace Go.Tr
open Go.Proofs
theorem rdNs_le : ∀ (n : Nat) (l : List UInt8) (N N' : List Term) (m : List UInt8), rdNs n l N = some (N', m) → (∀ t ∈ N, szT t ≤ 600) → m.length + N'.length ≤ l.length + N.length ∧ ∀ t ∈ N', szT t ≤ 600
  | 0, l, N, N', m, h, hs => by
    rw [rdNs] at h
    injection h with h
    injection h with h1 h2
    subst h1 h2
    exact ⟨Nat.le_refl _, hs⟩
  | n + 1, l, N, N', m, h, hs => by
    rw [rdNs] at h
    split at h
    · rename_i t m1 h1
      have g1 := rdNode_le h1
      have g2 := rdNs_le n m1 (N ++ [t]) N' m h (fun u hu => by
        rcases List.mem_append.1 hu with h | h
        · exact hs u h
        · rw [List.mem_singleton.1 h]; exact g1.2)
      have e : (N ++ [t]).length = N.length + 1 := by simp
      exact ⟨by omega, g2.2⟩
    · cases h
theorem rdNodes_le {l m : List UInt8} {N N' : List Term} (h : rdNodes l N = some (N', m)) (hs : ∀ t ∈ N, szT t ≤ 600) : m.length + N'.length ≤ l.length + N.length ∧ ∀ t ∈ N', szT t ≤ 600 := by
  unfold rdNodes at h
  split at h
  · rename_i c m1 h1
    have g1 := rdCount_le h1
    have g2 := rdNs_le _ _ _ _ _ h hs
    exact ⟨by omega, g2.2⟩
  · cases h
theorem rdMany_le {α : Type} {one : List UInt8 → Option (α × List UInt8)} (ho : ∀ l x m, one l = some (x, m) → m.length < l.length) : ∀ (n : Nat) (l : List UInt8) (acc ts : List α) (m : List UInt8), rdMany one n l acc = some (ts, m) → m.length ≤ l.length
  | 0, l, acc, ts, m, h => by
    rw [rdMany] at h
    injection h with h
    injection h with h1 h2
    subst h2
    exact Nat.le_refl _
  | n + 1, l, acc, ts, m, h => by
    rw [rdMany] at h
    split at h
    · rename_i x m1 h1
      have g1 := ho _ _ _ h1
      have g2 := rdMany_le ho n m1 _ _ _ h
      omega
    · cases h
theorem rdList_le {α : Type} {one : List UInt8 → Option (α × List UInt8)} (ho : ∀ l x m, one l = some (x, m) → m.length < l.length) {l m : List UInt8} {ts : List α} (h : rdList one l = some (ts, m)) : m.length ≤ l.length := by
  unfold rdList at h
  split at h
  · rename_i c m1 h1
    have g1 := rdCount_le h1
    have g2 := rdMany_le ho _ _ _ _ _ h
    omega
  · cases h
def rdEnd (ds : List Dcl) (ts : List Term) (m : List UInt8) (N : List Term) : Option Crt := match rdTerm m N with
  | some (a, m1) => (match rdTerm m1 N with
    | some (b, m2) => if m2 = [] then some ⟨ds, ts, a, b⟩ else none
    | none => none)
  | none => none
def rdCert (l : List UInt8) : Option Crt := match rdNodes l [] with
  | some (N, m) => (match rdList (fun l => rdDecl l N) m with
    | some (ds, m1) => if ds.length ≤ 100 then (match rdList (fun l => rdTerm l N) m1 with
      | some (ts, m2) => if ts.length ≤ 30 then rdEnd ds ts m2 N else none
      | none => none) else none
    | none => none)
  | none => none
def crtV (c : Crt) : List AV := [.c (.sl 6 72 (dcs c.S)), .c (.sl 4 48 (tcs c.X)), .c (.int .i64 (c.o.k)), .c (.int .i64 (c.o.l)), .c (.int .i64 (c.o.n)), .c (.sl 4 48 (tcs c.o.ts)), .c (.int .i64 (c.c.k)), .c (.int .i64 (c.c.l)), .c (.int .i64 (c.c.n)), .c (.sl 4 48 (tcs c.c.ts))]
set_option maxHeartbeats 4000000 in
theorem cRdCert (l : List UInt8) (hl : l.length ≤ 400000) :
    CallPt Tryz.prog 63 [.ptr 0 0] [.box [.c (.str (sB l)), .nil, .nil]]
    (fun r H' => ∃ c N, rdCert l = some c ∧ r = crv c ∧ H' = [.box [.c (.str (sB [])), .own 1, .own 2], .row 25 4 48 (tcs N), .row 3 1 8 (rowN (N.map szN)), .box (crtV c)])
    (fun x H' => (x = trb ∧ rdCert l = none) ∧ H' = [.dead]) := by
  have hrn : CallPt Tryz.prog 83 [.ptr 0 0, .bd 84 [.ptr 0 0]] [.box [.c (.str (sB l)), .nil, .nil]]
    (fun r H' => ∃ N m ts, rdNodes l [] = some (N, m) ∧ r = .own 5 ∧ H' = [.box [.c (.str (sB m)), .own 3, .own 4], .dead, .dead, .row 25 4 48 (tcs N), .row 3 1 8 (rowN (N.map szN)), .row 25 4 48 (tcs ts)])
    (fun x H' => (x = trb ∧ rdNodes l [] = none) ∧ H' = dead3) := by
    refine CallPt.wk _ ?_ (cReadNodes l [] hl (fun t h => absurd h (by simp)) (by simp))
    refine Wk.trans (Wk.nilrow (i := 0) (j := 1) 25 4 48 rfl rfl rfl) ?_
    refine Wk.trans (Wk.nilrow (i := 0) (j := 2) 3 1 8 rfl rfl rfl) ?_
    exact Wk.sl [0, 1, 2] rfl ⟨rfl, rfl, rfl, trivial⟩ trivial rfl
  refine call_pan (E := env 1) (fn := Tryz.f63) (c := bodyOf Tryz.f63) (env_ok 1) mixed (by kernel_rfl) (by kernel_rfl) (by kernel_rfl) (by kernel_rfl) (by kernel_rfl) (by kernel_rfl) rfl .v ?_
  refine aw_cut _ _ rfl fun C hC => ?_
  conv => whnf
  subst hC
  refine aw_cut _ _ rfl fun C hC => ?_
  conv => whnf
  try (refine dI (by kernel_rfl) ?_; conv => whnf)
  refine CallPt.use hrn [0] ⟨rfl, trivial⟩ (by decide) rfl ?_ ?_
  (focus (rintro x _ hx _; (conv => whnf); exact ⟨hx.1.1, by unfold rdCert; rw [hx.1.2]⟩))
  rintro _ _ ⟨N, m, ts0, hR, rfl, rfl⟩ _
  conv => whnf
  obtain ⟨hm, hN⟩ := rdNodes_le hR (fun t h => absurd h (by simp))
  rw [List.length_nil] at hm
  have eR : rdCert l = match rdList (fun l => rdDecl l N) m with
    | some (ds, m1) => if ds.length ≤ 100 then (match rdList (fun l => rdTerm l N) m1 with
      | some (ts, m2) => if ts.length ≤ 30 then rdEnd ds ts m2 N else none
      | none => none) else none
    | none => none := by unfold rdCert; rw [hR]
  rw [eR]
  clear eR hR
  have hrd := cReadDecls m N (N.map szN) (by omega) hN (by omega)
  subst hC
  refine aw_cut _ _ rfl fun C hC => ?_
  conv => whnf
  subst hC
  refine aw_cut _ _ rfl fun C hC => ?_
  conv => whnf
  try (refine dI (by kernel_rfl) ?_; conv => whnf)
  refine CallPt.use hrd [0, 4, 5] ⟨rfl, rfl, rfl, trivial⟩ (by decide) rfl ?_ ?_
  (focus (rintro x _ hx _; (conv => whnf); exact ⟨hx.1.1, by rw [hx.1.2]⟩))
  rintro _ _ ⟨ds, m1, hR, rfl, rfl⟩ _
  conv => whnf
  have hm1 := rdList_le (fun _ _ _ h => rdDecl_len h) hR
  have hlt := len_dcs ds
  rw [hR]
  simp only
  clear hR hrd
  subst hC
  refine aw_cut _ _ rfl fun C hC => ?_
  conv => whnf
  intro hlen1
  clear hlen1
  conv => whnf
  have hd := cDemand (decide (((dcs ds).length : Int) ≤ 100))
  by_cases hds : ds.length ≤ 100
  rotate_left
  · rw [if_neg hds]
    rw [decide_eq_false (show ¬ ((dcs ds).length : Int) ≤ 100 by omega)] at hd ⊢
    try (refine dI (by kernel_rfl) ?_; conv => whnf)
    refine CallPt.use hd [] trivial (by decide) rfl ?_ ?_
    (focus (rintro x _ hx _; (conv => whnf); exact ⟨hx.1.1, rfl⟩))
    rintro _ _ ⟨h, _⟩ _
    conv => whnf
    cases h
  rw [if_pos hds]
  rw [decide_eq_true (show ((dcs ds).length : Int) ≤ 100 by omega)] at hd ⊢
  try (refine dI (by kernel_rfl) ?_; conv => whnf)
  refine CallPt.use hd [] trivial (by decide) rfl ?_ ?_
  (focus (rintro x _ hx _; (conv => whnf); exact absurd hx.1.2 (by simp)))
  rintro _ _ ⟨_, rfl, rfl⟩ _
  conv => whnf
  clear hd
  have hrt := cReadTerms m1 N (N.map szN) (by omega) hN (by omega)
  subst hC
  refine aw_cut _ _ rfl fun C hC => ?_
  conv => whnf
  try (refine dI (by kernel_rfl) ?_; conv => whnf)
  refine CallPt.use hrt [0, 4, 5] ⟨rfl, rfl, rfl, trivial⟩ (by decide) rfl ?_ ?_
  (focus (rintro x _ hx _; (conv => whnf); exact ⟨hx.1.1, by rw [hx.1.2]⟩))
  rintro _ _ ⟨ts, m2, hR, rfl, rfl⟩ _
  conv => whnf
  have hm2 := rdList_le (fun _ _ _ h => (rdTerm_len h).1) hR
  have hlx := len_tcs ts
  rw [hR]
  simp only
  clear hR hrt
  subst hC
  refine aw_cut _ _ rfl fun C hC => ?_
  conv => whnf
  intro hlen1
  clear hlen1
  conv => whnf
  have hd := cDemand (decide (((tcs ts).length : Int) ≤ 30))
  by_cases hts : ts.length ≤ 30
  rotate_left
  · rw [if_neg hts]
    rw [decide_eq_false (show ¬ ((tcs ts).length : Int) ≤ 30 by omega)] at hd ⊢
    try (refine dI (by kernel_rfl) ?_; conv => whnf)
    refine CallPt.use hd [] trivial (by decide) rfl ?_ ?_
    (focus (rintro x _ hx _; (conv => whnf); exact ⟨hx.1.1, rfl⟩))
    rintro _ _ ⟨h, _⟩ _
    conv => whnf
    cases h
  rw [if_pos hts]
  rw [decide_eq_true (show ((tcs ts).length : Int) ≤ 30 by omega)] at hd ⊢
  try (refine dI (by kernel_rfl) ?_; conv => whnf)
  refine CallPt.use hd [] trivial (by decide) rfl ?_ ?_
  (focus (rintro x _ hx _; (conv => whnf); exact absurd hx.1.2 (by simp)))
  rintro _ _ ⟨_, rfl, rfl⟩ _
  conv => whnf
  clear hd
  have ht1 := cRdTerm m2 N (N.map szN) (by omega) hN (by omega)
  subst hC
  refine aw_cut _ _ rfl fun C hC => ?_
  conv => whnf
  try (refine dI (by kernel_rfl) ?_; conv => whnf)
  refine CallPt.use ht1 [0, 4, 5] ⟨rfl, rfl, rfl, trivial⟩ (by decide) rfl ?_ ?_
  (focus (rintro x _ hx _; (conv => whnf); exact ⟨hx.1.1, by unfold rdEnd; rw [hx.1.2]⟩))
  rintro _ _ ⟨a, m3, hR, rfl, rfl⟩ _
  conv => whnf
  have hm3 := (rdTerm_len hR).1
  have eE : rdEnd ds ts m2 N = match rdTerm m3 N with
    | some (b, m4) => if m4 = [] then some ⟨ds, ts, a, b⟩ else none
    | none => none := by unfold rdEnd; rw [hR]
  rw [eE]
  clear eE hR ht1
  have ht2 := cRdTerm m3 N (N.map szN) (by omega) hN (by omega)
  subst hC
  refine aw_cut _ _ rfl fun C hC => ?_
  conv => whnf
  try (refine dI (by kernel_rfl) ?_; conv => whnf)
  refine CallPt.use ht2 [0, 4, 5] ⟨rfl, rfl, rfl, trivial⟩ (by decide) rfl ?_ ?_
  (focus (rintro x _ hx _; (conv => whnf); exact ⟨hx.1.1, by rw [hx.1.2]⟩))
  rintro _ _ ⟨b, m4, hR, rfl, rfl⟩ _
  conv => whnf
  rw [hR]
  simp only
  clear hR ht2
  subst hC
  refine aw_cut _ _ rfl fun C hC => ?_
  conv => whnf
  have hd := cDemand (decide (m4 = []))
  rw [show (decide (sB m4 = (⟨#[]⟩ : ByteArray))) = decide (m4 = []) from sB_nil m4]
  by_cases h4 : m4 = []
  rotate_left
  · rw [if_neg h4]
    rw [decide_eq_false h4] at hd ⊢
    try (refine dI (by kernel_rfl) ?_; conv => whnf)
    refine CallPt.use hd [] trivial (by decide) rfl ?_ ?_
    (focus (rintro x _ hx _; (conv => whnf); exact ⟨hx.1.1, rfl⟩))
    rintro _ _ ⟨h, _⟩ _
    conv => whnf
    cases h
  rw [if_pos h4]
  rw [decide_eq_true h4] at hd ⊢
  try (refine dI (by kernel_rfl) ?_; conv => whnf)
  refine CallPt.use hd [] trivial (by decide) rfl ?_ ?_
  (focus (rintro x _ hx _; (conv => whnf); exact absurd hx.1.2 (by simp)))
  rintro _ _ ⟨_, rfl, rfl⟩ _
  conv => whnf
  clear hd
  subst h4
  subst hC
  conv => whnf
  repeat ((first | refine aI rfl ?_ | refine aI (by decide) ?_ | refine dI (by kernel_rfl) ?_ | refine aI ⟨by omega, by omega⟩ ?_ | refine aI (by omega) ?_ | refine aI (fun _ => ⟨by omega, by omega⟩) ?_ | refine aI (of_decide_eq_true rfl) ?_ | (refine yI ?_ ?_; focus (first | decide | (simp; done) | (simp [tcs]; done))) | (refine nI ?_ ?_; focus (first | decide | (simp; done) | (simp [tcs]; done))) | intro _); conv => whnf)
  refine ⟨[(2, .ptr 3 0)], [.box [.c (.str (sB [])), .own 1, .own 2], .row 25 4 48 (tcs N), .row 3 1 8 (rowN (N.map szN)), .box [.c (.sl 6 72 (dcs ds)), .c (.sl 4 48 (tcs ts)), .c (.int .i64 (a.k)), .c (.int .i64 (a.l)), .c (.int .i64 (a.n)), .c (.sl 4 48 (tcs a.ts)), .c (.int .i64 (b.k)), .c (.int .i64 (b.l)), .c (.int .i64 (b.n)), .c (.sl 4 48 (tcs b.ts))]],
    Wk.sl [0, 4, 5, 1] rfl ⟨rfl, rfl, rfl, rfl, trivial⟩ ⟨rfl, trivial⟩ rfl, ?_⟩
  conv => whnf
  repeat ((first | refine aI rfl ?_ | refine aI (by decide) ?_ | refine dI (by kernel_rfl) ?_ | refine aI ⟨by omega, by omega⟩ ?_ | refine aI (by omega) ?_ | refine aI (fun _ => ⟨by omega, by omega⟩) ?_ | refine aI (of_decide_eq_true rfl) ?_ | (refine yI ?_ ?_; focus (first | decide | (simp; done) | (simp [tcs]; done))) | (refine nI ?_ ?_; focus (first | decide | (simp; done) | (simp [tcs]; done))) | intro _); conv => whnf)
  exact ⟨⟨ds, ts, a, b⟩, N, rfl, rfl, rfl⟩
end Go.Tr
/- cert: a deferred function that recovers. -/
namespace Go.Tr
open Go.Proofs
def crt0 : List AV := [.nil, .nil, .c (.int .i64 (0)), .c (.int .i64 (0)), .c (.int .i64 (0)), .nil, .c (.int .i64 (0)), .c (.int .i64 (0)), .c (.int .i64 (0)), .nil]
def envD (n : Nat) : Env := ⟨lkT tab, fun _ => true, n, true, false, none, fun _ _ => none⟩
theorem envD_ok (n : Nat) : EnvOk Tryz.prog (envD n) := EnvOk.of (l := tab) rfl (by kernel_rfl)
theorem cDefer : DefSt Tryz.prog 61 [.ptr 0 0, .ptr 1 0] [.box crt0, .box [.c (.int .i64 (0))]] (some trb) (fun H' => H' = [.box crt0, .box [.c (.int .i64 (30))]]) := by
  refine def_intro (E := envY 2) (fn := Tryz.f61) (c := bodyOf Tryz.f61) (envY_ok 2) mixed rfl (by kernel_rfl) (by kernel_rfl) rfl (by kernel_rfl) (by kernel_rfl) (by kernel_rfl) (by kernel_rfl) rfl ?_
  conv => whnf
  repeat ((first | refine aI rfl ?_ | refine aI (by decide) ?_ | refine dI (by kernel_rfl) ?_ | refine aI ⟨by omega, by omega⟩ ?_ | refine aI (by omega) ?_ | refine aI (fun _ => ⟨by omega, by omega⟩) ?_ | refine aI (of_decide_eq_true rfl) ?_ | (refine yI ?_ ?_; focus (first | decide | (simp; done) | (simp [tcs]; done))) | (refine nI ?_ ?_; focus (first | decide | (simp; done) | (simp [tcs]; done))) | intro _); conv => whnf)
  rfl
theorem cDefer1 : DefSt Tryz.prog 61 [.ptr 0 0, .ptr 1 0] [.box crt0, .box [.c (.int .i64 (0))], .dead] (some trb) (fun H' => H' = [.box crt0, .box [.c (.int .i64 (30))], .dead]) := by
  refine def_intro (E := envY 3) (fn := Tryz.f61) (c := bodyOf Tryz.f61) (envY_ok 3) mixed rfl (by kernel_rfl) (by kernel_rfl) rfl (by kernel_rfl) (by kernel_rfl) (by kernel_rfl) (by kernel_rfl) rfl ?_
  conv => whnf
  repeat ((first | refine aI rfl ?_ | refine aI (by decide) ?_ | refine dI (by kernel_rfl) ?_ | refine aI ⟨by omega, by omega⟩ ?_ | refine aI (by omega) ?_ | refine aI (fun _ => ⟨by omega, by omega⟩) ?_ | refine aI (of_decide_eq_true rfl) ?_ | (refine yI ?_ ?_; focus (first | decide | (simp; done) | (simp [tcs]; done))) | (refine nI ?_ ?_; focus (first | decide | (simp; done) | (simp [tcs]; done))) | intro _); conv => whnf)
  rfl
theorem cDefer2 : DefSt Tryz.prog 61 [.ptr 0 0, .ptr 1 0] [.box crt0, .box [.c (.int .i64 (0))], .dead, .dead] (some trb) (fun H' => H' = [.box crt0, .box [.c (.int .i64 (30))], .dead, .dead]) := by
  refine def_intro (E := envY 4) (fn := Tryz.f61) (c := bodyOf Tryz.f61) (envY_ok 4) mixed rfl (by kernel_rfl) (by kernel_rfl) rfl (by kernel_rfl) (by kernel_rfl) (by kernel_rfl) (by kernel_rfl) rfl ?_
  conv => whnf
  repeat ((first | refine aI rfl ?_ | refine aI (by decide) ?_ | refine dI (by kernel_rfl) ?_ | refine aI ⟨by omega, by omega⟩ ?_ | refine aI (by omega) ?_ | refine aI (fun _ => ⟨by omega, by omega⟩) ?_ | refine aI (of_decide_eq_true rfl) ?_ | (refine yI ?_ ?_; focus (first | decide | (simp; done) | (simp [tcs]; done))) | (refine nI ?_ ?_; focus (first | decide | (simp; done) | (simp [tcs]; done))) | intro _); conv => whnf)
  rfl
abbrev opT (c : Crt) (N : List Term) : HP := [.dead, .box [.c (.str (sB [])), .own 4, .own 5], .row 25 4 48 (tcs N), .row 3 1 8 (rowN (N.map szN)), .box (crtV c), .box (crtV c)]
theorem cDefer3 (c : Crt) (N : List Term) : DefSt Tryz.prog 61 [.ptr 0 0, .ptr 1 0] ([.box crt0, .box [.c (.int .i64 (0))]] ++ opT c N) (some trb) (fun H' => H' = [.box crt0, .box [.c (.int .i64 (30))]] ++ opT c N) := by
  refine def_intro (E := envY 8) (fn := Tryz.f61) (c := bodyOf Tryz.f61) (envY_ok 8) mixed rfl (by kernel_rfl) (by kernel_rfl) rfl (by kernel_rfl) (by kernel_rfl) (by kernel_rfl) (by kernel_rfl) rfl ?_
  conv => whnf
  repeat ((first | refine aI rfl ?_ | refine aI (by decide) ?_ | refine dI (by kernel_rfl) ?_ | refine aI ⟨by omega, by omega⟩ ?_ | refine aI (by omega) ?_ | refine aI (fun _ => ⟨by omega, by omega⟩) ?_ | refine aI (of_decide_eq_true rfl) ?_ | (refine yI ?_ ?_; focus (first | decide | (simp; done) | (simp [tcs]; done))) | (refine nI ?_ ?_; focus (first | decide | (simp; done) | (simp [tcs]; done))) | intro _); conv => whnf)
  rfl
theorem cDefer4 (c : Crt) (N : List Term) : DefSt Tryz.prog 61 [.ptr 0 0, .ptr 1 0] ([.box (crtV c), .box [.c (.int .i64 (0))]] ++ opT c N) none (fun H' => H' = [.box (crtV c), .box [.c (.int .i64 (0))]] ++ opT c N) := by
  refine def_intro (E := envY 8) (fn := Tryz.f61) (c := bodyOf Tryz.f61) (envY_ok 8) mixed rfl (by kernel_rfl) (by kernel_rfl) rfl (by kernel_rfl) (by kernel_rfl) (by kernel_rfl) (by kernel_rfl) rfl ?_
  conv => whnf
  repeat ((first | refine aI rfl ?_ | refine aI (by decide) ?_ | refine dI (by kernel_rfl) ?_ | refine aI ⟨by omega, by omega⟩ ?_ | refine aI (by omega) ?_ | refine aI (fun _ => ⟨by omega, by omega⟩) ?_ | refine aI (of_decide_eq_true rfl) ?_ | (refine yI ?_ ?_; focus (first | decide | (simp; done) | (simp [tcs]; done))) | (refine nI ?_ ?_; focus (first | decide | (simp; done) | (simp [tcs]; done))) | intro _); conv => whnf)
  rfl
def crtZ : Crt := ⟨[], [], .mk 0 0 0 [], .mk 0 0 0 []⟩
theorem DefSt.mono {P : Program} {f : FuncId} {args : List AV} {H : HP} {rec : Option CV} {K K' : HP → Prop} (h : DefSt P f args H rec K) (hk : ∀ H', K H' → K' H') : DefSt P f args H rec K' := by
  unfold DefSt at *
  refine ⟨h.1, fun w S κ vs u hh hvs hu => (h.2 w S κ vs u hh hvs hu).mono ?_⟩
  rintro e u' w' ⟨v, H', κ', S', h1, h2, h3, h4⟩
  exact ⟨v, H', κ', S', h1, h2, hk _ h3, h4⟩
def sealedB (l : List UInt8) : Bool := decide (l.length ≤ 60000) && decide (7 ≤ l.length) && decide (l.take 3 = [116, 114, 49]) && decide (sealB (l.take (l.length - 4)) = l)
def packS (c : Crt) : ByteArray := ⟨(sealB (packL c.S c.X (bk c (crl c).length) (rt c (crl c).length))).toArray⟩
def openC (l : List UInt8) : Option Crt := match sealedB l with
  | true => (match rdCert ((l.take (l.length - 4)).drop 3) with
    | some c => if builtB c = true ∧ packS c = sB l then some c else none
    | none => none)
  | false => none
def openV (l : List UInt8) : AV := match openC l with
  | some c => .tup [crv c, .c (.int .i64 (0))]
  | none => .tup [crv crtZ, .c (.int .i64 (30))]
theorem opPan {l : List UInt8} {T : HP} (hop : openV l = .tup [crv crtZ, .c (.int .i64 (30))]) : finF Fin5.p (envD 0) Tryz.f36 (fun r H' => r = openV l ∧ H' = []) AEx.ret [(2, .ptr 0 0), (3, .ptr 1 0)] ([.box crt0, .box [.c (.int .i64 (30))]] ++ T) := by
  rw [hop]
  conv => whnf
  repeat ((first | refine aI rfl ?_ | refine aI (by decide) ?_ | refine dI (by kernel_rfl) ?_ | refine aI ⟨by omega, by omega⟩ ?_ | refine aI (by omega) ?_ | refine aI (fun _ => ⟨by omega, by omega⟩) ?_ | refine aI (of_decide_eq_true rfl) ?_ | (refine yI ?_ ?_; focus (first | decide | (simp; done) | (simp [tcs]; done))) | (refine nI ?_ ?_; focus (first | decide | (simp; done) | (simp [tcs]; done))) | intro _); conv => whnf)
  all_goals rfl
set_option maxHeartbeats 4000000 in
theorem cOpened (l : List UInt8) (hl : l.length ≤ 400000) : CallSt Tryz.prog 36 [.c (.str (sB l))] [] (fun r H' => r = openV l ∧ H' = []) := by
  refine call_dfr (E := envD 0) (fn := Tryz.f36) (c := bodyOf Tryz.f36) (envD_ok 0) mixed (by kernel_rfl) (by kernel_rfl) (by kernel_rfl) (by kernel_rfl) (by kernel_rfl) (by kernel_rfl) rfl rfl .p [2,3] ?_
  conv => whnf
  have hsz := sB_size l
  refine ⟨by kernel_rfl, ?_⟩
  refine aw_cut _ _ rfl fun C hC => ?_
  conv => whnf
  subst hC
  refine aw_cut _ _ rfl fun C hC => ?_
  conv => whnf
  refine ⟨fun h => ?_, ?_⟩
  · rw [Bool.and_eq_true] at h
    have h7 : (7 : Int) ≤ ((sB l).size : Int) := of_decide_eq_true h.2
    exact ⟨by omega, by omega, by omega⟩
  conv => whnf
  have e3 : (decide (((sB l).size : Int) ≤ 60000) && decide (7 ≤ ((sB l).size : Int)) && decide ((sB l).extract (Int.toNat 0) (Int.toNat 3) = (⟨#[116, 114, 49]⟩ : ByteArray))) = (decide (l.length ≤ 60000) && decide (7 ≤ l.length) && decide (l.take 3 = [116, 114, 49])) := by
    rw [hsz, sB_extract]
    have h1 : decide ((l.length : Int) ≤ 60000) = decide (l.length ≤ 60000) := by by_cases h : l.length ≤ 60000 <;> simp [h] <;> omega
    have h2 : decide (7 ≤ (l.length : Int)) = decide (7 ≤ l.length) := by by_cases h : 7 ≤ l.length <;> simp [h] <;> omega
    have h3 : decide (sB ((l.take (Int.toNat 3)).drop (Int.toNat 0)) = (⟨#[116, 114, 49]⟩ : ByteArray)) = decide (l.take 3 = [116, 114, 49]) := by
      have e : ∀ m : List UInt8, decide (sB m = sB [116, 114, 49]) = decide (m = [116, 114, 49]) := fun m => by
        by_cases h : m = [116, 114, 49]
        · simp [h]
        · rw [decide_eq_false h, decide_eq_false fun e => h (sB_inj e)]
      exact e _
    rw [h1, h2, h3]
  rw [e3]
  generalize hb3 : (decide (l.length ≤ 60000) && decide (7 ≤ l.length) && decide (l.take 3 = [116, 114, 49])) = b3
  have hd := cDemand b3
  cases b3 with
  | false =>
    have hop : openV l = .tup [crv crtZ, .c (.int .i64 (30))] := by unfold openV openC sealedB; rw [hb3]; rfl
    try (refine dI (by kernel_rfl) ?_; conv => whnf)
    refine CallPt.use hd [] trivial (by decide) rfl ?_ ?_
    (focus (rintro x _ hx _; (conv => whnf); (obtain ⟨⟨rfl, _⟩, rfl⟩ := hx; exact DefSt.mono cDefer (fun H' h => by cases h; exact opPan (T := []) hop))))
    rintro _ _ ⟨h, _⟩ _
    conv => whnf
    cases h
  | true =>
    try (refine dI (by kernel_rfl) ?_; conv => whnf)
    refine CallPt.use hd [] trivial (by decide) rfl ?_ ?_
    (focus (rintro x _ hx _; (conv => whnf); exact absurd hx.1.2 (by simp)))
    rintro _ _ ⟨_, rfl, rfl⟩ _
    conv => whnf
    clear hd
    have hlb : l.length ≤ 60000 ∧ 7 ≤ l.length := by
      rw [Bool.and_eq_true, Bool.and_eq_true] at hb3
      exact ⟨of_decide_eq_true hb3.1.1, of_decide_eq_true hb3.1.2⟩
    subst hC
    refine aw_cut _ _ rfl fun C hC => ?_
    conv => whnf
    refine ⟨show inR _ by unfold inR; omega, ?_⟩
    conv => whnf
    refine ⟨⟨by omega, by omega, by omega⟩, ?_⟩
    conv => whnf
    have e4 : (sB l).extract (Int.toNat 0) (((sB l).size : Int) - 4).toNat = sB (l.take (l.length - 4)) := by
      have hx4 : (((sB l).size : Int) - 4).toNat = l.length - 4 := by rw [hsz]; omega
      rw [sB_extract, hx4]
      rfl
    rw [e4]
    generalize hl4 : l.take (l.length - 4) = l4
    have h4l : l4.length ≤ 60000 := by rw [← hl4, List.length_take]; omega
    have hs4 := sB_size l4
    refine ⟨by omega, ?_⟩
    conv => whnf
    rw [sB_list]
    have hse := cSealed l4 (by omega)
    try (refine dI (by kernel_rfl) ?_; conv => whnf)
    first | refine CallSt.use hse [2] ⟨rfl, trivial⟩ (by decide) rfl ?_ | refine CallPt.useS hse [2] ⟨rfl, trivial⟩ (by decide) rfl ?_
    rintro _ _ ⟨rfl, rfl⟩ _
    conv => whnf
    have e5 : decide ((⟨(sealB l4).toArray⟩ : ByteArray) = sB l) = decide (sealB l4 = l) := by
      by_cases h : sealB l4 = l
      · rw [decide_eq_true h, decide_eq_true (show (⟨(sealB l4).toArray⟩ : ByteArray) = sB l by rw [h]; rfl)]
      · rw [decide_eq_false h, decide_eq_false (show ¬ (⟨(sealB l4).toArray⟩ : ByteArray) = sB l from fun e => h (sB_inj (l := sealB l4) e))]
    rw [e5]
    have hd := cDemand (decide (sealB l4 = l))
    by_cases hsl : sealB l4 = l
    rotate_left
    · have hop : openV l = .tup [crv crtZ, .c (.int .i64 (30))] := by unfold openV openC sealedB; rw [hb3, hl4, decide_eq_false hsl]; rfl
      rw [decide_eq_false hsl] at hd ⊢
      try (refine dI (by kernel_rfl) ?_; conv => whnf)
      refine CallPt.use hd [] trivial (by decide) rfl ?_ ?_
      (focus (rintro x _ hx _; (conv => whnf); (obtain ⟨⟨rfl, _⟩, rfl⟩ := hx; exact DefSt.mono cDefer1 (fun H' h => by cases h; exact opPan (T := [.dead]) hop))))
      rintro _ _ ⟨h, _⟩ _
      conv => whnf
      cases h
    rw [decide_eq_true hsl] at hd ⊢
    try (refine dI (by kernel_rfl) ?_; conv => whnf)
    refine CallPt.use hd [] trivial (by decide) rfl ?_ ?_
    (focus (rintro x _ hx _; (conv => whnf); exact absurd hx.1.2 (by simp)))
    rintro _ _ ⟨_, rfl, rfl⟩ _
    conv => whnf
    clear hd
    subst hC
    refine aw_cut _ _ rfl fun C hC => ?_
    conv => whnf
    refine ⟨show inR _ by unfold inR; omega, ?_⟩
    conv => whnf
    refine ⟨⟨by omega, by omega, by omega⟩, ?_⟩
    conv => whnf
    have e6 : (sB l).extract (Int.toNat 3) (((sB l).size : Int) - 4).toNat = sB (l4.drop 3) := by
      have hx4 : (((sB l).size : Int) - 4).toNat = l.length - 4 := by rw [hsz]; omega
      rw [sB_extract, hx4, hl4]
      rfl
    rw [e6]
    generalize hl5 : l4.drop 3 = l5
    have h5l : l5.length ≤ 60000 := by rw [← hl5, List.length_drop]; omega
    have hrc := cRdCert l5 (by omega)
    repeat ((first | refine aI rfl ?_ | refine aI (by decide) ?_ | refine dI (by kernel_rfl) ?_ | refine aI ⟨by omega, by omega⟩ ?_ | refine aI (by omega) ?_ | refine aI (fun _ => ⟨by omega, by omega⟩) ?_ | refine aI (of_decide_eq_true rfl) ?_ | (refine yI ?_ ?_; focus (first | decide | (simp; done) | (simp [tcs]; done))) | (refine nI ?_ ?_; focus (first | decide | (simp; done) | (simp [tcs]; done))) | intro _); conv => whnf)
    subst hC
    refine aw_cut _ _ rfl fun C hC => ?_
    conv => whnf
    have hopn : rdCert l5 = none → openV l = .tup [crv crtZ, .c (.int .i64 (30))] := fun h => by
      unfold openV openC sealedB
      rw [hb3, hl4, decide_eq_true hsl, hl5, h]
      rfl
    try (refine dI (by kernel_rfl) ?_; conv => whnf)
    refine CallPt.use hrc [3] ⟨rfl, trivial⟩ (by decide) rfl ?_ ?_
    (focus (rintro x _ hx _; (conv => whnf); (obtain ⟨⟨rfl, hno⟩, rfl⟩ := hx; exact DefSt.mono cDefer2 (fun H' h => by cases h; exact opPan (T := [.dead, .dead]) (hopn hno)))))
    rintro _ _ ⟨c, N, hR, rfl, rfl⟩ _
    conv => whnf
    clear hopn hrc
    have hops : openV l = match (if builtB c = true ∧ packS c = sB l then some c else none) with
      | some c => .tup [crv c, .c (.int .i64 (0))]
      | none => .tup [crv crtZ, .c (.int .i64 (30))] := by
      unfold openV openC sealedB
      rw [hb3, hl4, decide_eq_true hsl, hl5, hR]
      rfl
    have hbu := cBuilt c
    repeat ((first | refine aI rfl ?_ | refine aI (by decide) ?_ | refine dI (by kernel_rfl) ?_ | refine aI ⟨by omega, by omega⟩ ?_ | refine aI (by omega) ?_ | refine aI (fun _ => ⟨by omega, by omega⟩) ?_ | refine aI (of_decide_eq_true rfl) ?_ | (refine yI ?_ ?_; focus (first | decide | (simp; done) | (simp [tcs]; done))) | (refine nI ?_ ?_; focus (first | decide | (simp; done) | (simp [tcs]; done))) | intro _); conv => whnf)
    subst hC
    refine aw_cut _ _ rfl fun C hC => ?_
    conv => whnf
    try (refine dI (by kernel_rfl) ?_; conv => whnf)
    first | refine CallSt.use hbu [] trivial (by decide) rfl ?_ | refine CallPt.useS hbu [] trivial (by decide) rfl ?_
    rintro _ _ ⟨rfl, rfl⟩ _
    conv => whnf
    cases hbb : builtB c with
    | false =>
      have hop2 : openV l = .tup [crv crtZ, .c (.int .i64 (30))] := by rw [hops, hbb]; rfl
      have hd := cDemand false
      conv => whnf
      repeat ((first | refine aI rfl ?_ | refine aI (by decide) ?_ | refine aI ⟨by omega, by omega⟩ ?_ | refine aI (by omega) ?_ | refine aI (fun _ => ⟨by omega, by omega⟩) ?_ | refine aI (of_decide_eq_true rfl) ?_ | (refine yI ?_ ?_; focus (first | decide | (simp; done) | (simp [tcs]; done))) | (refine nI ?_ ?_; focus (first | decide | (simp; done) | (simp [tcs]; done)))); conv => whnf)
      try (refine dI (by kernel_rfl) ?_; conv => whnf)
      refine CallPt.use hd [] trivial (by decide) rfl ?_ ?_
      (focus (rintro x _ hx _; (conv => whnf); (obtain ⟨⟨rfl, _⟩, rfl⟩ := hx; exact DefSt.mono (cDefer3 c N) (fun H' h => by cases h; exact opPan (T := opT c N) hop2))))
      rintro _ _ ⟨h, _⟩ _
      conv => whnf
      cases h
    | true =>
      have hpk := cPacked c (built_ok hbb)
      conv => whnf
      repeat ((first | refine aI rfl ?_ | refine aI (by decide) ?_ | refine aI ⟨by omega, by omega⟩ ?_ | refine aI (by omega) ?_ | refine aI (fun _ => ⟨by omega, by omega⟩) ?_ | refine aI (of_decide_eq_true rfl) ?_ | (refine yI ?_ ?_; focus (first | decide | (simp; done) | (simp [tcs]; done))) | (refine nI ?_ ?_; focus (first | decide | (simp; done) | (simp [tcs]; done)))); conv => whnf)
      try (refine dI (by kernel_rfl) ?_; conv => whnf)
      first | refine CallSt.use hpk [] trivial (by decide) rfl ?_ | refine CallPt.useS hpk [] trivial (by decide) rfl ?_
      rintro _ _ ⟨rfl, rfl⟩ _
      conv => whnf
      generalize hpp : decide ((⟨(sealB (packL c.S c.X (bk c (crl c).length) (rt c (crl c).length))).toArray⟩ : ByteArray) = sB l) = pp
      have hd := cDemand pp
      cases pp with
      | false =>
        have hop2 : openV l = .tup [crv crtZ, .c (.int .i64 (30))] := by rw [hops, if_neg (fun h => of_decide_eq_false hpp h.2)]
        try (refine dI (by kernel_rfl) ?_; conv => whnf)
        refine CallPt.use hd [] trivial (by decide) rfl ?_ ?_
        (focus (rintro x _ hx _; (conv => whnf); (obtain ⟨⟨rfl, _⟩, rfl⟩ := hx; exact DefSt.mono (cDefer3 c N) (fun H' h => by cases h; exact opPan (T := opT c N) hop2))))
        rintro _ _ ⟨h, _⟩ _
        conv => whnf
        cases h
      | true =>
        have hop3 : openV l = .tup [crv c, .c (.int .i64 (0))] := by rw [hops, if_pos ⟨hbb, of_decide_eq_true hpp⟩]
        try (refine dI (by kernel_rfl) ?_; conv => whnf)
        refine CallPt.use hd [] trivial (by decide) rfl ?_ ?_
        (focus (rintro x _ hx _; (conv => whnf); exact absurd hx.1.2 (by simp)))
        rintro _ _ ⟨_, rfl, rfl⟩ _
        conv => whnf
        rw [hop3]
        subst hC
        conv => whnf
        repeat ((first | refine aI rfl ?_ | refine aI (by decide) ?_ | refine dI (by kernel_rfl) ?_ | refine aI ⟨by omega, by omega⟩ ?_ | refine aI (by omega) ?_ | refine aI (fun _ => ⟨by omega, by omega⟩) ?_ | refine aI (of_decide_eq_true rfl) ?_ | (refine yI ?_ ?_; focus (first | decide | (simp; done) | (simp [tcs]; done))) | (refine nI ?_ ?_; focus (first | decide | (simp; done) | (simp [tcs]; done))) | intro _); conv => whnf)
        refine DefSt.mono (cDefer4 c N) (fun H' h => ?_)
        cases h
        conv => whnf
        repeat ((first | refine aI rfl ?_ | refine aI (by decide) ?_ | refine dI (by kernel_rfl) ?_ | refine aI ⟨by omega, by omega⟩ ?_ | refine aI (by omega) ?_ | refine aI (fun _ => ⟨by omega, by omega⟩) ?_ | refine aI (of_decide_eq_true rfl) ?_ | (refine yI ?_ ?_; focus (first | decide | (simp; done) | (simp [tcs]; done))) | (refine nI ?_ ?_; focus (first | decide | (simp; done) | (simp [tcs]; done))) | intro _); conv => whnf)
        all_goals rfl
end Go.Tr
/- cert: Unpack. -/
namespace Go.Tr
open Go.Proofs
theorem cUnpack (l : List UInt8) (hl : l.length ≤ 400000) : CallSt Tryz.prog 16 [.c (.str (sB l))] [] (fun r H' => r = openV l ∧ H' = []) := by
  have ho := cOpened l hl
  cases h : openC l with
  | none =>
    have e : openV l = .tup [crv crtZ, .c (.int .i64 (30))] := by unfold openV; rw [h]
    rw [e] at ho ⊢
    refine call_pure (E := env 0) (fn := Tryz.f16) (c := bodyOf Tryz.f16) (env_ok 0) mixed (by kernel_rfl) (by kernel_rfl) (by kernel_rfl) (by kernel_rfl) (by kernel_rfl) (by kernel_rfl) rfl ?_
    conv => whnf
    repeat ((first | refine aI rfl ?_ | refine aI (by decide) ?_ | refine dI (by kernel_rfl) ?_ | refine aI ⟨by omega, by omega⟩ ?_ | refine aI (by omega) ?_ | refine aI (fun _ => ⟨by omega, by omega⟩) ?_ | refine aI (of_decide_eq_true rfl) ?_ | (refine yI ?_ ?_; focus (first | decide | (simp; done) | (simp [tcs]; done))) | (refine nI ?_ ?_; focus (first | decide | (simp; done) | (simp [tcs]; done))) | intro _); conv => whnf)
    try (refine dI (by kernel_rfl) ?_; conv => whnf)
    first | refine CallSt.use ho [] trivial (by decide) rfl ?_ | refine CallPt.useS ho [] trivial (by decide) rfl ?_
    rintro _ _ ⟨rfl, rfl⟩ _
    conv => whnf
    repeat ((first | refine aI rfl ?_ | refine aI (by decide) ?_ | refine dI (by kernel_rfl) ?_ | refine aI ⟨by omega, by omega⟩ ?_ | refine aI (by omega) ?_ | refine aI (fun _ => ⟨by omega, by omega⟩) ?_ | refine aI (of_decide_eq_true rfl) ?_ | (refine yI ?_ ?_; focus (first | decide | (simp; done) | (simp [tcs]; done))) | (refine nI ?_ ?_; focus (first | decide | (simp; done) | (simp [tcs]; done))) | intro _); conv => whnf)
    all_goals rfl
  | some c =>
    have e : openV l = .tup [crv c, .c (.int .i64 (0))] := by unfold openV; rw [h]
    rw [e] at ho ⊢
    refine call_pure (E := env 0) (fn := Tryz.f16) (c := bodyOf Tryz.f16) (env_ok 0) mixed (by kernel_rfl) (by kernel_rfl) (by kernel_rfl) (by kernel_rfl) (by kernel_rfl) (by kernel_rfl) rfl ?_
    conv => whnf
    repeat ((first | refine aI rfl ?_ | refine aI (by decide) ?_ | refine dI (by kernel_rfl) ?_ | refine aI ⟨by omega, by omega⟩ ?_ | refine aI (by omega) ?_ | refine aI (fun _ => ⟨by omega, by omega⟩) ?_ | refine aI (of_decide_eq_true rfl) ?_ | (refine yI ?_ ?_; focus (first | decide | (simp; done) | (simp [tcs]; done))) | (refine nI ?_ ?_; focus (first | decide | (simp; done) | (simp [tcs]; done))) | intro _); conv => whnf)
    try (refine dI (by kernel_rfl) ?_; conv => whnf)
    first | refine CallSt.use ho [] trivial (by decide) rfl ?_ | refine CallPt.useS ho [] trivial (by decide) rfl ?_
    rintro _ _ ⟨rfl, rfl⟩ _
    conv => whnf
    repeat ((first | refine aI rfl ?_ | refine aI (by decide) ?_ | refine dI (by kernel_rfl) ?_ | refine aI ⟨by omega, by omega⟩ ?_ | refine aI (by omega) ?_ | refine aI (fun _ => ⟨by omega, by omega⟩) ?_ | refine aI (of_decide_eq_true rfl) ?_ | (refine yI ?_ ?_; focus (first | decide | (simp; done) | (simp [tcs]; done))) | (refine nI ?_ ?_; focus (first | decide | (simp; done) | (simp [tcs]; done))) | intro _); conv => whnf)
    all_goals rfl
end Go.Tr
/- The law CertSealed. -/
namespace Go.Tr
open Go.Proofs
theorem openC_ok {l : List UInt8} {c : Crt} (h : openC l = some c) : builtB c = true ∧ packS c = sB l := by
  unfold openC at h
  split at h
  · split at h
    · split at h
      · rename_i hb
        injection h with h
        subst h
        exact hb
      · cases h
    · cases h
  · cases h
end Go.Tr
/- cert: the round trip, plain. -/
namespace Go.Tr
open Go.Proofs
theorem u8_nat (k : Nat) (h : k < 256) : (u8 (k : Int)).toNat = k := by
  unfold u8
  simp
  omega
theorem rdNum_digs : ∀ (m n p o : Nat) (r : List UInt8), n ≤ m → 0 < p → p < 1099511627776 → n * p < 1099511627776 → rdNum (digs n ++ r) p o = some (o + n * p, r) := by
  intro m
  induction m with
  | zero =>
    intro n p o r h h0 hp hn
    obtain rfl : n = 0 := by omega
    rw [digs_small (by omega), List.singleton_append, rdNum, if_pos hp, u8_nat 0 (by omega), if_pos (by omega)]
  | succ m ih =>
    intro n p o r h h0 hp hn
    by_cases hb : 127 < n
    · have e : (128 + (n : Int) % 128) = ((128 + n % 128 : Nat) : Int) := by omega
      have h1 : 1 ≤ n / 128 := by omega
      have h2 : (n / 128) * (p * 128) ≤ n * p := by
        have : (n / 128) * 128 ≤ n := Nat.div_mul_le_self n 128
        calc (n / 128) * (p * 128) = ((n / 128) * 128) * p := by rw [Nat.mul_comm p 128, Nat.mul_assoc]
          _ ≤ n * p := Nat.mul_le_mul_right p this
      have h3 : p * 128 ≤ (n / 128) * (p * 128) := Nat.le_mul_of_pos_left _ (by omega)
      rw [digs_big hb, List.cons_append, rdNum, if_pos hp, e, u8_nat _ (by omega), if_neg (by omega), ih (n / 128) (p * 128) _ r (by omega) (by omega) (by omega) (by omega)]
      have e2 : (128 + n % 128) % 128 = n % 128 := by omega
      have e3 : n % 128 * p + n / 128 * (p * 128) = n * p := by
        have : n = n % 128 + n / 128 * 128 := by omega
        calc n % 128 * p + n / 128 * (p * 128) = (n % 128 + n / 128 * 128) * p := by rw [Nat.add_mul, Nat.mul_comm p 128, Nat.mul_assoc]
          _ = n * p := by rw [← this]
      rw [e2, Nat.add_assoc, e3]
    · rw [digs_small hb, List.singleton_append, rdNum, if_pos hp, u8_nat n (by omega), if_pos (by omega), Nat.mod_eq_of_lt (by omega)]
end Go.Tr
/- cert: the round trip, plain: the reader reads what is packed. -/
namespace Go.Tr
open Go.Proofs
theorem rd1 {n : Nat} (r : List UInt8) (h : n < 1099511627776) : rdNum (digs n ++ r) 1 0 = some (n, r) := by
  rw [rdNum_digs n n 1 0 r (Nat.le_refl n) (by omega) (by omega) (by omega)]
  simp
theorem rdC1 {n : Nat} (r : List UInt8) (h : n < 1099511627776) (hr : n ≤ r.length) : rdCount (digs n ++ r) = some (n, r) := by
  unfold rdCount
  rw [rd1 r h]
  simp only
  rw [if_pos hr]
theorem flat_ge {α : Type} (g : α → List UInt8) (M : List α) (h : ∀ x ∈ M, 0 < (g x).length) : M.length ≤ (M.flatMap g).length := by
  induction M with
  | nil => simp
  | cons a M ih =>
    have h1 := h a (by simp)
    have h2 := ih fun x hx => h x (by simp [hx])
    simp only [List.flatMap_cons, List.length_append, List.length_cons]
    omega
theorem wf_n0 {t : Term} (h : wf t) (hk : t.k ≠ 4) : t.n = 0 := by
  obtain ⟨d, h⟩ := h
  obtain ⟨k, l, n, ts⟩ := t
  simp only [fmT, Bool.and_eq_true] at h
  have h := h.1.2
  simp only [Term.k, Term.n] at *
  unfold fmB at h
  split at h
  · simp at h; omega
  · split at h
    · simp at h; omega
    · split at h
      · simp at h; omega
      · cases h
theorem szL_app (A B : List Term) : szL (A ++ B) = szL A + szL B := by
  induction A with
  | nil => simp [szL]
  | cons a A ih => simp only [List.cons_append, szL, ih]; omega
theorem rdArgs_ok {N : List Term} (f : Term → Nat) (hN : N.length < 1000000) : ∀ (us acc : List Term) (r : List UInt8), (∀ u ∈ us, f u < N.length ∧ N[f u]? = some u) → 1 + szL (acc ++ us) ≤ 600 →
    rdArgs N us.length ((us.map f).flatMap (fun k => digs (N.length - k - 1)) ++ r) acc = some (acc ++ us, r)
  | [], acc, r, _, _ => by simp [rdArgs]
  | u :: us, acc, r, h, hs => by
    obtain ⟨h1, h2⟩ := h u (by simp)
    have ih := rdArgs_ok f hN us (acc ++ [u]) r (fun v hv => h v (by simp [hv])) (by rw [List.append_assoc]; exact hs)
    have hs2 : 1 + szL (acc ++ [u]) ≤ 600 := by
      have e : acc ++ u :: us = (acc ++ [u]) ++ us := by simp
      rw [e, szL_app] at hs
      have := szL_pos us
      omega
    rw [List.length_cons, List.map_cons, List.flatMap_cons, List.append_assoc, rdArgs, rd1 _ (by omega)]
    simp only
    have e2 : N.length - 1 - (N.length - f u - 1) = f u := by omega
    rw [if_pos (by omega), e2, h2]
    simp only
    rw [if_pos hs2, ih, List.append_assoc]
    rfl
theorem u8_node {k l : Int} (h : 0 ≤ k ∧ k < 8 ∧ 0 ≤ l ∧ l < 32) : ((u8 (k + 8 * l)).toNat % 8 = k.toNat) ∧ ((u8 (k + 8 * l)).toNat / 8 = l.toNat) := by
  have h1 := u8_toNat (k + 8 * l)
  omega
theorem nodeB_4 {B : List Term} {i : Nat} {t : Term} (h : t.k = 4) : nodeB B i t = u8 (t.k + 8 * t.l) :: (digs t.n.toNat ++ lstB (fun k => digs (i - k - 1)) (kd B t)) := by
  unfold nodeB
  rw [decide_eq_true h]
  rfl
theorem nodeB_no {B : List Term} {i : Nat} {t : Term} (h : t.k ≠ 4) : nodeB B i t = u8 (t.k + 8 * t.l) :: lstB (fun k => digs (i - k - 1)) (kd B t) := by
  unfold nodeB
  rw [decide_eq_false h]
  rfl
theorem rdNode_ok {B : List Term} (hg : Good B) (hsz : ∀ t ∈ B, szT t ≤ 600) (hB : B.length < 1000000) {i : Nat} {t : Term} (ht : B[i]? = some t) (r : List UInt8) :
    rdNode (nodeB B i t ++ r) (B.take i) = some (t, r) := by
  have hil := (List.getElem?_eq_some_iff.1 ht).1
  have hm := List.mem_of_getElem? ht
  have hw := hg.wf t hm
  have hn := wf_node hw
  have hs := hsz t hm
  have hn0 := wf_n0 hw
  have hlo : ∀ u ∈ t.ts, pl B u < (B.take i).length ∧ (B.take i)[pl B u]? = some u := fun u hu => by
    obtain ⟨j, hj, hbj⟩ := hg.lo i t ht u hu
    rw [pl_of hg.nd hbj, List.length_take, List.getElem?_take, if_pos hj]
    exact ⟨by omega, hbj⟩
  have hti : (B.take i).length = i := by rw [List.length_take]; omega
  obtain ⟨k, l, n, ts⟩ := t
  simp only [Term.k, Term.l, Term.n, Term.ts] at *
  rw [szT] at hs
  have ha := rdArgs_ok (N := B.take i) (pl B) (by omega) ts [] r hlo (by simpa using hs)
  rw [hti] at ha
  obtain ⟨e1, e2⟩ := u8_node (k := k) (l := l) ⟨by omega, by omega, by omega, by omega⟩
  have hsl := szL_len ts
  have hfl := flat_ge (fun k => digs (i - k - 1)) (ts.map (pl B)) fun x _ => digs_pos _
  rw [List.length_map] at hfl
  have hrest : ∀ n' : Nat, rdRest k.toNat l.toNat n' (lstB (fun k => digs (i - k - 1)) (ts.map (pl B)) ++ r) (B.take i) = some (.mk k l n' ts, r) := fun n' => by
    unfold rdRest lstB
    rw [List.append_assoc, List.length_map, rdC1 _ (by omega) (by rw [List.length_append]; omega)]
    simp only
    rw [ha]
    simp only [List.nil_append]
    rw [show ((k.toNat : Nat) : Int) = k by omega, show ((l.toNat : Nat) : Int) = l by omega]
  by_cases hk : k = 4
  · rw [nodeB_4 (show (Term.mk k l n ts).k = 4 from hk), List.cons_append, rdNode]
    simp only [Term.k, Term.l, Term.n, Term.ts, kd]
    simp only [e1, e2]
    rw [if_pos (by omega), List.append_assoc, rd1 _ (by omega)]
    simp only
    rw [hrest, show ((n.toNat : Nat) : Int) = n by omega]
  · rw [nodeB_no (show (Term.mk k l n ts).k ≠ 4 from hk), List.cons_append, rdNode]
    simp only [Term.k, Term.l, Term.n, Term.ts, kd]
    simp only [e1, e2]
    rw [if_neg (by omega), hrest 0, hn0 hk]
    rfl
theorem rdNs_ok {B : List Term} (hg : Good B) (hsz : ∀ t ∈ B, szT t ≤ 600) (hB : B.length < 1000000) : ∀ (k i : Nat), i + k = B.length →
    ∃ s, nodesB B (i + k) = nodesB B i ++ s ∧ k ≤ s.length ∧ ∀ r, rdNs k (s ++ r) (B.take i) = some (B, r)
  | 0, i, h => ⟨[], by simp, by simp, fun r => by rw [rdNs, List.take_of_length_le (by omega)]; rfl⟩
  | k + 1, i, h => by
    obtain ⟨s, h1, h2, h3⟩ := rdNs_ok hg hsz hB k (i + 1) (by omega)
    have ht : B[i]? = some B[i] := List.getElem?_eq_getElem (by omega)
    refine ⟨nodeB B i B[i] ++ s, ?_, ?_, fun r => ?_⟩
    · rw [show i + (k + 1) = i + 1 + k by omega, h1, nodesB, ht, List.append_assoc]
    · unfold nodeB
      simp only [List.length_append, List.length_singleton]
      omega
    · rw [List.append_assoc, rdNs, rdNode_ok hg hsz hB ht]
      simp only
      rw [← h3 r]
      congr 1
      rw [List.take_add_one, ht]
      rfl
theorem rdNodes_ok {B : List Term} (hg : Good B) (hsz : ∀ t ∈ B, szT t ≤ 600) (hB : B.length < 1000000) (r : List UInt8) : rdNodes (digs B.length ++ (nodesB B B.length ++ r)) [] = some (B, r) := by
  obtain ⟨s, h1, h2, h3⟩ := rdNs_ok hg hsz hB B.length 0 (by omega)
  rw [Nat.zero_add, nodesB, List.nil_append] at h1
  unfold rdNodes
  rw [h1, rdC1 _ (by omega) (by rw [List.length_append]; omega)]
  simp only
  exact h3 r
theorem rdMany_ok {α : Type} {one : List UInt8 → Option (α × List UInt8)} (f : α → List UInt8) : ∀ (xs acc : List α) (r : List UInt8), (∀ x ∈ xs, ∀ r, one (f x ++ r) = some (x, r)) →
    rdMany one xs.length (xs.flatMap f ++ r) acc = some (acc ++ xs, r)
  | [], acc, r, _ => by simp [rdMany]
  | x :: xs, acc, r, h => by
    rw [List.length_cons, List.flatMap_cons, List.append_assoc, rdMany, h x (by simp)]
    simp only
    rw [rdMany_ok f xs (acc ++ [x]) r fun y hy => h y (by simp [hy]), List.append_assoc]
    rfl
theorem rdList_ok {α : Type} {one : List UInt8 → Option (α × List UInt8)} (f : α → List UInt8) (xs : List α) (r : List UInt8) (hx : xs.length < 1000000) (hf : ∀ x ∈ xs, 0 < (f x).length) (h : ∀ x ∈ xs, ∀ r, one (f x ++ r) = some (x, r)) :
    rdList one (digs xs.length ++ (xs.flatMap f ++ r)) = some (xs, r) := by
  have := flat_ge f xs hf
  unfold rdList
  rw [rdC1 _ (by omega) (by rw [List.length_append]; omega)]
  simp only
  exact rdMany_ok f xs [] r h
theorem rdTerm_ok {N : List Term} {t : Term} (h : t ∈ N) (hN : N.length < 1000000) (r : List UInt8) : rdTerm (digs (pl N t) ++ r) N = some (t, r) := by
  have := pl_lt h
  unfold rdTerm
  rw [rd1 _ (by omega)]
  simp only
  rw [pl_at h]
theorem rdDecl_ok {N : List Term} {d : Dcl} (h : d.c ∈ N) (hN : N.length < 1000000) (hd : d.s.size ≤ 16 ∧ 0 ≤ d.i ∧ d.i ≤ 600) (r : List UInt8) : rdDecl (declB d (pl N d.c) ++ r) N = some (d, r) := by
  have hs : d.s.data.toList.length = d.s.size := by rw [Array.length_toList]; rfl
  unfold rdDecl declB rdName
  rw [List.append_assoc, List.append_assoc, List.append_assoc, rdC1 _ (by omega) (by rw [List.length_append]; omega)]
  simp only
  rw [List.take_append_of_le_length (by omega), List.take_of_length_le (by omega), List.drop_append_of_le_length (by omega), List.drop_of_length_le (by omega), List.nil_append, rdTerm_ok h hN]
  simp only
  rw [rd1 _ (by omega)]
  simp only
  obtain ⟨s, c, i⟩ := d
  simp only at hd
  rw [← sB_of, show ((i.toNat : Nat) : Int) = i by omega]
theorem declsB_flat (S : List Dcl) (R : List Nat) (f : Dcl → Nat) (h : ∀ (i : Nat) (d : Dcl), S[i]? = some d → R[i]? = some (f d)) : ∀ n : Nat, n ≤ S.length → declsB S R n = (S.take n).flatMap fun d => declB d (f d)
  | 0, _ => by simp [declsB]
  | n + 1, hn => by
    have hs : S[n]? = some S[n] := List.getElem?_eq_getElem (by omega)
    rw [declsB, declsB_flat S R f h n (by omega), hs, h n _ hs, List.take_add_one, hs, List.flatMap_append]
    simp only [Option.toList_some, List.flatMap_cons, List.flatMap_nil, List.append_nil]
theorem packL_eq {c : Crt} (B : List Term) (R : List Nat) (hR : R = (crl c).map (pl B)) : packL c.S c.X B R =
    [116, 114, 49] ++ (digs B.length ++ (nodesB B B.length ++ (digs c.S.length ++ ((c.S.flatMap fun d => declB d (pl B d.c)) ++ (digs c.X.length ++ ((c.X.flatMap fun t => digs (pl B t)) ++ (digs (pl B c.o) ++ digs (pl B c.c)))))))) := by
  have h1 : R.drop c.S.length = (c.X ++ [c.o, c.c]).map (pl B) := by
    rw [hR, crl, List.map_append, List.drop_append_of_le_length (by simp), List.drop_of_length_le (by simp), List.nil_append]
  have h2 : declsB c.S R c.S.length = c.S.flatMap fun d => declB d (pl B d.c) := by
    rw [declsB_flat c.S R (fun d => pl B d.c) (fun i d h => ?_) _ (Nat.le_refl _), List.take_length]
    rw [hR, List.getElem?_map, crl_S h]
    rfl
  have h3 : ((c.X ++ [c.o, c.c]).map (pl B)).take c.X.length = c.X.map (pl B) := by
    rw [List.map_append, List.take_append_of_le_length (by simp), List.take_of_length_le (by simp)]
  have h4 : ((c.X ++ [c.o, c.c]).map (pl B)).drop c.X.length = [pl B c.o, pl B c.c] := by
    rw [List.map_append, List.drop_append_of_le_length (by simp), List.drop_of_length_le (by simp)]
    rfl
  unfold packL
  rw [h1, h2, h3, h4]
  simp [lstB, List.flatMap_map]
theorem rdCert_ok {c : Crt} (h : builtB c = true) (r : List UInt8) : rdCert ((packL c.S c.X (bk c (crl c).length) (rt c (crl c).length)).drop 3 ++ r) = if r = [] then some c else none := by
  have hok := built_ok h
  obtain ⟨hg, hm, hl⟩ := bk_good hok.sane (crl c).length
  have hsz := bk_sz hok.sane (crl c).length
  have hsa := szL_all (crl c) fun u hu => (hok.sane.t u hu).2
  have hcl := crl_len c
  have hS := hok.sane.S
  have hX := hok.X
  have hnm := hok.names
  rw [List.take_length] at hm hl
  have hR : rt c (crl c).length = (crl c).map (pl (bk c (crl c).length)) := by unfold rt; rw [List.take_length]
  have hBl : (bk c (crl c).length).length < 1000000 := by omega
  have hmS : ∀ d ∈ c.S, d.c ∈ bk c (crl c).length := fun d hd => hm _ (by unfold crl; simp only [List.mem_append, List.mem_map]; exact .inl ⟨d, hd, rfl⟩)
  have hmX : ∀ t ∈ c.X, t ∈ bk c (crl c).length := fun t ht => hm _ (by unfold crl; simp [ht])
  have hmo : c.o ∈ bk c (crl c).length := hm _ (by unfold crl; simp)
  have hmc : c.c ∈ bk c (crl c).length := hm _ (by unfold crl; simp)
  rw [packL_eq _ _ hR]
  generalize bk c (crl c).length = B at *
  rw [show ([116, 114, 49] : List UInt8) = 116 :: 114 :: 49 :: [] from rfl]
  simp only [List.cons_append, List.nil_append, List.drop_succ_cons, List.drop_zero, List.append_assoc]
  unfold rdCert
  rw [rdNodes_ok hg hsz hBl]
  simp only
  rw [rdList_ok (one := fun l => rdDecl l B) (fun d => declB d (pl B d.c)) c.S _ (by omega) (fun d _ => by unfold declB; have := digs_pos d.s.size; simp only [List.length_append]; omega) (fun d hd r => rdDecl_ok (hmS d hd) hBl (hnm d hd) r)]
  simp only
  rw [if_pos hS, rdList_ok (one := fun l => rdTerm l B) (fun t => digs (pl B t)) c.X _ (by omega) (fun t _ => digs_pos _) (fun t ht r => rdTerm_ok (hmX t ht) hBl r)]
  simp only
  rw [if_pos hX]
  unfold rdEnd
  rw [rdTerm_ok hmo hBl]
  simp only
  rw [rdTerm_ok hmc hBl]
theorem packL_take {c : Crt} : (packL c.S c.X (bk c (crl c).length) (rt c (crl c).length)).take 3 = [116, 114, 49] ∧ 3 ≤ (packL c.S c.X (bk c (crl c).length) (rt c (crl c).length)).length := by
  unfold packL
  simp only [List.append_assoc, List.length_append, List.length_cons, List.length_nil]
  exact ⟨rfl, by omega⟩
theorem sealB_len (l : List UInt8) : (sealB l).length = l.length + 4 := by simp [sealB]
theorem sealB_take (l : List UInt8) : (sealB l).take ((sealB l).length - 4) = l := by
  rw [sealB_len, Nat.add_sub_cancel]
  simp [sealB]
theorem sealed_pack {c : Crt} (h : (packB c).length ≤ 60000) : sealedB (packB c) = true := by
  obtain ⟨h1, h2⟩ := packL_take (c := c)
  unfold sealedB packB at *
  rw [sealB_take, sealB_len] at *
  simp only [Bool.and_eq_true, decide_eq_true_eq]
  refine ⟨⟨⟨h, by omega⟩, ?_⟩, trivial⟩
  unfold sealB
  rw [List.take_append_of_le_length h2, h1]
theorem openC_pack {c : Crt} (h : builtB c = true) (hl : (packB c).length ≤ 60000) : openC (packB c) = some c := by
  have h1 := sealed_pack hl
  have h2 := rdCert_ok h []
  rw [List.append_nil, if_pos rfl] at h2
  have h3 : (packB c).take ((packB c).length - 4) = packL c.S c.X (bk c (crl c).length) (rt c (crl c).length) := sealB_take _
  unfold openC
  rw [h1, h3, h2]
  simp only
  rw [if_pos ⟨h, rfl⟩]
end Go.Tr
/- The reference of trusslaw19: Pack. -/
namespace Go.Tr
open Go.Proofs
set_option maxHeartbeats 4000000 in
theorem cRPack (c : Crt) (h : OkC c) : CallSt Tryz.prog 15 [crv c] [] (fun r H' => r = .c (.str ⟨(packB c).toArray⟩) ∧ H' = []) := by
  have ha := cRAll c h.sane
  have hcl := crl_len c
  have hS := h.sane.S
  have hX := h.X
  obtain ⟨g1, g2, g3⟩ := bk_good h.sane (crl c).length
  rw [List.take_length] at g2 g3
  have hsa := szL_all (crl c) fun u hu => (h.sane.t u hu).2
  have hBs : ∀ t ∈ bk c (crl c).length, wf t ∧ szT t ≤ 600 := fun t ht => ⟨g1.wf t ht, bk_sz h.sane _ t ht⟩
  have hnm := h.names
  have hRl := rt_len c (crl c).length (Nat.le_refl _)
  have hRb : ∀ x ∈ rt c (crl c).length, x < (bk c (crl c).length).length := fun x hx => by
    unfold rt at hx
    rw [List.take_length] at hx
    obtain ⟨u, hu, rfl⟩ := List.mem_map.1 hx
    exact pl_lt (g2 u hu)
  have e1 : rt c c.S.length = (rt c (crl c).length).take c.S.length := by
    have := rt_take h.sane c.S.length (c.X.length + 2) (by omega)
    rw [show c.S.length + (c.X.length + 2) = (crl c).length by omega] at this
    exact this.symm
  have e2 : (rt c (c.S.length + c.X.length)).drop c.S.length = ((rt c (crl c).length).drop c.S.length).take c.X.length := by
    have := rt_take h.sane (c.S.length + c.X.length) 2 (by omega)
    rw [show c.S.length + c.X.length + 2 = (crl c).length by omega] at this
    rw [← this, List.drop_take]
    congr 1
    omega
  have e3 : ((rt c (crl c).length).drop c.S.length).drop c.X.length = [pl (bk c (c.S.length + c.X.length + 1)) c.o, pl (bk c (c.S.length + c.X.length + 2)) c.c] := by
    have s1 := rt_step h.sane (crl_o c)
    have s2 := rt_step h.sane (crl_c c)
    rw [← bk_step (crl_o c)] at s1
    rw [← bk_step (crl_c c)] at s2
    have l0 := rt_len c (c.S.length + c.X.length) (by omega)
    rw [hcl, s2, s1, List.drop_drop, List.append_assoc, List.drop_append_of_le_length (by omega), List.drop_of_length_le (by omega)]
    rfl
  have eP : (⟨(packB c).toArray⟩ : ByteArray) = ⟨(sealB (packL c.S c.X (bk c (crl c).length) (rt c (crl c).length))).toArray⟩ := rfl
  rw [eP]
  clear eP
  unfold allV at ha
  rw [e1, e2] at ha
  unfold nodesOf at ha
  clear e1 e2
  clear h
  generalize crl c = qq at *
  generalize (pl _ c.o) = o at *
  generalize (pl _ c.c) = cc at *
  obtain ⟨S, X, ⟨k, l, n, ts⟩, ⟨k2, l2, n2, us⟩⟩ := c
  generalize bk _ _ = B at *
  generalize rt _ _ = R at *
  unfold crv at *
  dsimp only [Term.k, Term.l, Term.n, Term.ts] at *
  have hob : o < B.length := hRb o (by have : o ∈ (R.drop S.length).drop X.length := by rw [e3]; simp
                                       exact List.mem_of_mem_drop (List.mem_of_mem_drop this))
  have hcb : cc < B.length := hRb cc (by have : cc ∈ (R.drop S.length).drop X.length := by rw [e3]; simp
                                         exact List.mem_of_mem_drop (List.mem_of_mem_drop this))
  unfold packL
  rw [e3]
  have hR1b : ∀ x ∈ R.take S.length, x < B.length := fun x hx => hRb x (List.mem_of_mem_take hx)
  have hR2b : ∀ x ∈ (R.drop S.length).take X.length, x < B.length := fun x hx => hRb x (List.mem_of_mem_drop (List.mem_of_mem_take hx))
  have hR1l : (R.take S.length).length = S.length := by rw [List.length_take]; omega
  have hR2l : ((R.drop S.length).take X.length).length = X.length := by rw [List.length_take, List.length_drop]; omega
  have hDB : declsB S R S.length = declsB S (R.take S.length) S.length := by
    have : ∀ n, n ≤ S.length → declsB S R n = declsB S (R.take S.length) n := fun n => by
      induction n with
      | zero => intro _; rfl
      | succ n ih =>
        intro hn
        rw [declsB, declsB, ih (by omega), List.getElem?_take, if_pos (by omega)]
    exact this _ (Nat.le_refl _)
  rw [hDB]
  clear e3 hDB
  generalize (R.drop S.length).take X.length = R2 at *
  generalize R.take S.length = R1 at *
  clear hRb hRl
  have hnl := nds2_len B
  have hBl : B.length ≤ 121200 := by omega
  have hnb := nodesB_len hBs (by omega)
  have hn0 := cRNum [116, 114, 49] B.length (by have := digs9 (n := B.length) (by omega); simp; omega) (by omega)
  have hd0 := digs9 (n := B.length) (by omega)
  rw [bR_tr1, ← hnl] at hn0
  refine call_pure (E := envK 0) (fn := Tryz.f15) (c := bodyOf Tryz.f15) (envK_ok 0) mixed (by kernel_rfl) (by kernel_rfl) (by kernel_rfl) (by kernel_rfl) (by kernel_rfl) (by kernel_rfl) rfl ?_
  conv => whnf
  repeat ((first | refine aI rfl ?_ | refine aI (by decide) ?_ | refine dI (by kernel_rfl) ?_ | refine aI ⟨by omega, by omega⟩ ?_ | refine aI (by omega) ?_ | refine aI (fun _ => ⟨by omega, by omega⟩) ?_ | refine aI (of_decide_eq_true rfl) ?_ | (refine yI ?_ ?_; focus (first | decide | (simp; done) | (simp [tcs]; done))) | (refine nI ?_ ?_; focus (first | decide | (simp; done) | (simp [tcs]; done))) | intro _); conv => whnf)
  refine CallSt.wk _ (Wk.trans (Wk.nilrow (i := 1) (j := 0) 82 4 48 rfl rfl rfl) (Wk.nilrow (i := 1) (j := 1) 25 4 48 rfl rfl rfl)) ?_
  try (refine dI (by kernel_rfl) ?_; conv => whnf)
  first | refine CallSt.use ha [1, 2, 3] ⟨rfl, rfl, rfl, trivial⟩ (by decide) rfl ?_ | refine CallPt.useS ha [1, 2, 3] ⟨rfl, rfl, rfl, trivial⟩ (by decide) rfl ?_
  rintro _ _ ⟨rfl, rfl⟩ _
  conv => whnf
  repeat ((first | refine aI rfl ?_ | refine aI (by decide) ?_ | refine aI ⟨by omega, by omega⟩ ?_ | refine aI (by omega) ?_ | refine aI (fun _ => ⟨by omega, by omega⟩) ?_ | refine aI (of_decide_eq_true rfl) ?_ | (refine yI ?_ ?_; focus (first | decide | (simp; done) | (simp [tcs]; done))) | (refine nI ?_ ?_; focus (first | decide | (simp; done) | (simp [tcs]; done)))); conv => whnf)
  intro hgl
  conv => whnf
  repeat ((first | refine aI rfl ?_ | refine aI (by decide) ?_ | refine aI ⟨by omega, by omega⟩ ?_ | refine aI (by omega) ?_ | refine aI (fun _ => ⟨by omega, by omega⟩) ?_ | refine aI (of_decide_eq_true rfl) ?_ | (refine yI ?_ ?_; focus (first | decide | (simp; done) | (simp [tcs]; done))) | (refine nI ?_ ?_; focus (first | decide | (simp; done) | (simp [tcs]; done)))); conv => whnf)
  try (refine dI (by kernel_rfl) ?_; conv => whnf)
  first | refine CallSt.use hn0 [8] ⟨rfl, trivial⟩ (by decide) rfl ?_ | refine CallPt.useS hn0 [8] ⟨rfl, trivial⟩ (by decide) rfl ?_
  rintro _ _ ⟨rfl, rfl⟩ _
  conv => whnf
  repeat ((first | refine aI rfl ?_ | refine aI (by decide) ?_ | refine dI (by kernel_rfl) ?_ | refine aI ⟨by omega, by omega⟩ ?_ | refine aI (by omega) ?_ | refine aI (fun _ => ⟨by omega, by omega⟩) ?_ | refine aI (of_decide_eq_true rfl) ?_ | (refine yI ?_ ?_; focus (first | decide | (simp; done) | (simp [tcs]; done))) | (refine nI ?_ ?_; focus (first | decide | (simp; done) | (simp [tcs]; done))) | intro _); conv => whnf)
  refine loop_intro (fun m tm H => ∃ (j : Nat), B.length = m + j ∧ tm = [(9, .c (.int .i64 (j))), (8, .own 4), (3, .ptr 1 0), (1, .ptr 0 0), (4, .c (.sl 1 8 (rowN R1))), (5, .c (.sl 1 8 (rowN R2))), (6, .c (.int .i64 (o))), (7, .c (.int .i64 (cc)))] ∧
      H = [.box [.c (.sl 6 72 (dcs S)), .c (.sl 4 48 (tcs X)), .c (.int .i64 (k)), .c (.int .i64 (l)), .c (.int .i64 (n)), .c (.sl 4 48 (tcs ts)), .c (.int .i64 (k2)), .c (.int .i64 (l2)), .c (.int .i64 (n2)), .c (.sl 4 48 (tcs us))], .box [.own 2, .own 3], .row 82 4 48 (nds2 B), .row 25 4 48 (tcs B), .row 5 1 1 (bR ([116, 114, 49] ++ digs B.length ++ nodesB B j))])
    B.length _ _ ⟨0, by omega, rfl, rfl⟩ ?_ ?_
  · refine Wk.sl [0, 1, 4, 5, 9] rfl ⟨rfl, rfl, rfl, rfl, ?_, trivial⟩ ⟨rfl, rfl, rfl, rfl, rfl, rfl, rfl, rfl, trivial⟩ rfl
    rw [nodesB, List.append_nil, ← hnl]
    rfl
  rintro m tm H ⟨j, hj, rfl, rfl⟩
  conv => whnf
  repeat ((first | refine aI rfl ?_ | refine aI (by decide) ?_ | refine aI ⟨by omega, by omega⟩ ?_ | refine aI (by omega) ?_ | refine aI (fun _ => ⟨by omega, by omega⟩) ?_ | refine aI (of_decide_eq_true rfl) ?_ | (refine yI ?_ ?_; focus (first | decide | (simp; done) | (simp [tcs]; done))) | (refine nI ?_ ?_; focus (first | decide | (simp; done) | (simp [tcs]; done)))); conv => whnf)
  intro hgl2
  conv => whnf
  repeat ((first | refine aI rfl ?_ | refine aI (by decide) ?_ | refine aI ⟨by omega, by omega⟩ ?_ | refine aI (by omega) ?_ | refine aI (fun _ => ⟨by omega, by omega⟩) ?_ | refine aI (of_decide_eq_true rfl) ?_ | (refine yI ?_ ?_; focus (first | decide | (simp; done) | (simp [tcs]; done))) | (refine nI ?_ ?_; focus (first | decide | (simp; done) | (simp [tcs]; done)))); conv => whnf)
  refine ⟨fun hc => ?_, fun hc => ?_⟩
  · replace hc : (j : Int) < (nds2 B).length := of_decide_eq_true hc
    obtain ⟨u, hu⟩ : ∃ u, B[j]? = some u := ⟨B[j]'(by omega), List.getElem?_eq_getElem (by omega)⟩
    have hum := List.mem_of_getElem? hu
    have hnu := nds2_at hu
    obtain ⟨hwu, hsu⟩ := hBs u hum
    have hwn := wf_node hwu
    have hnbj := hnb j (by omega)
    have hlen : ([116, 114, 49] ++ digs B.length ++ nodesB B j : List UInt8).length ≤ 657000000 := by simp only [List.length_append, List.length_cons, List.length_nil]; omega
    have hstep : [116, 114, 49] ++ digs B.length ++ nodesB B (j + 1) = [116, 114, 49] ++ digs B.length ++ nodesB B j ++ nodeB B j u := by rw [nodesB, hu, ← List.append_assoc]
    have hKb : ∀ x ∈ kd B u, x < j := fun x hx => by
      obtain ⟨v, hv, rfl⟩ := List.mem_map.1 hx
      obtain ⟨i, hi, hbi⟩ := g1.lo j u hu v hv
      rw [pl_of g1.nd hbi]
      exact hi
    have hkl : (kd B u).length ≤ 600 := by
      have := szL_len u.ts
      have e : szT u = 1 + szL u.ts := by cases u; rw [szT]; rfl
      unfold kd
      rw [List.length_map]
      omega
    unfold nd2 at hnu
    unfold nodeB at hstep
    obtain ⟨N, hN⟩ : ∃ N : Nat, u.n = N := ⟨u.n.toNat, by omega⟩
    rw [hN, Int.toNat_natCast] at hstep
    rw [hN] at hnu hwn
    have hdN := digs9 (n := N) (by omega)
    generalize kd B u = K at *
    generalize u.k = tk at *
    generalize u.l = tl at *
    generalize hPj : ([116, 114, 49] ++ digs B.length ++ nodesB B j : List UInt8) = P at *
    have hbl := bR_len P
    conv => whnf
    repeat ((first | refine aI rfl ?_ | refine aI (by decide) ?_ | refine aI ⟨by omega, by omega⟩ ?_ | refine aI (by omega) ?_ | refine aI (fun _ => ⟨by omega, by omega⟩) ?_ | refine aI (of_decide_eq_true rfl) ?_ | (refine yI ?_ ?_; focus (first | decide | (simp; done) | (simp [tcs]; done))) | (refine nI ?_ ?_; focus (first | decide | (simp; done) | (simp [tcs]; done)))); conv => whnf)
    refine ⟨[.int .i64 tk, .int .i64 tl, .int .i64 (N : Int), .sl 1 8 (rowN K)], by rw [Int.toNat_natCast]; exact hnu, show 0 + 4 ≤ 4 by decide, ?_⟩
    conv => whnf
    repeat ((first | refine aI rfl ?_ | refine aI (by decide) ?_ | refine dI (by kernel_rfl) ?_ | refine aI ⟨by omega, by omega⟩ ?_ | refine aI (by omega) ?_ | refine aI (fun _ => ⟨by omega, by omega⟩) ?_ | refine aI (of_decide_eq_true rfl) ?_ | (refine yI ?_ ?_; focus (first | decide | (simp; done) | (simp [tcs]; done))) | (refine nI ?_ ?_; focus (first | decide | (simp; done) | (simp [tcs]; done))) | intro _); conv => whnf)
    have e1 : bR (P ++ [u8 (tk + 8 * tl)]) = bR P ++ [[CV.int .u8 (IntKind.u8.wrap (tk + 8 * tl))]] := (bR_snoc _ _).symm
    refine ⟨show ((bR P).length + 1) * 1 ≤ 140737488355328 by omega, show (bR P).length + 1 ≤ 9223372036854775807 by omega, ?_⟩
    conv => whnf
    repeat ((first | refine aI rfl ?_ | refine aI (by decide) ?_ | refine dI (by kernel_rfl) ?_ | refine aI ⟨by omega, by omega⟩ ?_ | refine aI (by omega) ?_ | refine aI (fun _ => ⟨by omega, by omega⟩) ?_ | refine aI (of_decide_eq_true rfl) ?_ | (refine yI ?_ ?_; focus (first | decide | (simp; done) | (simp [tcs]; done))) | (refine nI ?_ ?_; focus (first | decide | (simp; done) | (simp [tcs]; done))) | intro _); conv => whnf)
    refine ⟨fun hk4 => ?_, fun hk4 => ?_⟩
    · rw [show decide (tk = 4) = true from hk4] at hstep
      have hnum := cRNum (P ++ [u8 (tk + 8 * tl)]) N (by rw [List.length_append]; simp only [List.length_cons, List.length_nil]; omega) (by omega)
      rw [e1] at hnum
      conv => whnf
      repeat ((first | refine aI rfl ?_ | refine aI (by decide) ?_ | refine dI (by kernel_rfl) ?_ | refine aI ⟨by omega, by omega⟩ ?_ | refine aI (by omega) ?_ | refine aI (fun _ => ⟨by omega, by omega⟩) ?_ | refine aI (of_decide_eq_true rfl) ?_ | (refine yI ?_ ?_; focus (first | decide | (simp; done) | (simp [tcs]; done))) | (refine nI ?_ ?_; focus (first | decide | (simp; done) | (simp [tcs]; done))) | intro _); conv => whnf)
      try (refine dI (by kernel_rfl) ?_; conv => whnf)
      first | refine CallSt.use hnum [7] ⟨rfl, trivial⟩ (by decide) rfl ?_ | refine CallPt.useS hnum [7] ⟨rfl, trivial⟩ (by decide) rfl ?_
      rintro _ _ ⟨rfl, rfl⟩ _
      conv => whnf
      repeat ((first | refine aI rfl ?_ | refine aI (by decide) ?_ | refine dI (by kernel_rfl) ?_ | refine aI ⟨by omega, by omega⟩ ?_ | refine aI (by omega) ?_ | refine aI (fun _ => ⟨by omega, by omega⟩) ?_ | refine aI (of_decide_eq_true rfl) ?_ | (refine yI ?_ ?_; focus (first | decide | (simp; done) | (simp [tcs]; done))) | (refine nI ?_ ?_; focus (first | decide | (simp; done) | (simp [tcs]; done))) | intro _); conv => whnf)
      have hkn := rowN_len K
      have hlo : (P ++ [u8 (tk + 8 * tl)] ++ digs N).length ≤ 657900000 := by simp only [List.length_append, List.length_cons, List.length_nil]; omega
      have hnk := cRNum (P ++ [u8 (tk + 8 * tl)] ++ digs N) K.length (by have := digs9 (n := K.length) (by omega); omega) (by omega)
      rw [← hkn] at hnk
      try (refine dI (by kernel_rfl) ?_; conv => whnf)
      first | refine CallSt.use hnk [8] ⟨rfl, trivial⟩ (by decide) rfl ?_ | refine CallPt.useS hnk [8] ⟨rfl, trivial⟩ (by decide) rfl ?_
      rintro _ _ ⟨rfl, rfl⟩ _
      conv => whnf
      repeat ((first | refine aI rfl ?_ | refine aI (by decide) ?_ | refine dI (by kernel_rfl) ?_ | refine aI ⟨by omega, by omega⟩ ?_ | refine aI (by omega) ?_ | refine aI (fun _ => ⟨by omega, by omega⟩) ?_ | refine aI (of_decide_eq_true rfl) ?_ | (refine yI ?_ ?_; focus (first | decide | (simp; done) | (simp [tcs]; done))) | (refine nI ?_ ?_; focus (first | decide | (simp; done) | (simp [tcs]; done))) | intro _); conv => whnf)
      have hlo2 : (P ++ [u8 (tk + 8 * tl)] ++ digs N ++ digs K.length).length ≤ 657900010 := by have := digs9 (n := K.length) (by omega); rw [List.length_append]; omega
      rw [hkn]
      generalize hG : P ++ [u8 (tk + 8 * tl)] ++ digs N ++ digs K.length = G at *
      refine loop_intro (fun m tm H => ∃ (q : Nat), K.length = m + q ∧ tm = [(11, .c (.int .i64 (q))), (10, .ptr 5 0), (9, .c (.int .i64 (j))), (8, .own 4), (3, .ptr 1 0), (1, .ptr 0 0), (4, .c (.sl 1 8 (rowN R1))), (5, .c (.sl 1 8 (rowN R2))), (6, .c (.int .i64 (o))), (7, .c (.int .i64 (cc)))] ∧
          H = [.box [.c (.sl 6 72 (dcs S)), .c (.sl 4 48 (tcs X)), .c (.int .i64 (k)), .c (.int .i64 (l)), .c (.int .i64 (n)), .c (.sl 4 48 (tcs ts)), .c (.int .i64 (k2)), .c (.int .i64 (l2)), .c (.int .i64 (n2)), .c (.sl 4 48 (tcs us))], .box [.own 2, .own 3], .row 82 4 48 (nds2 B), .row 25 4 48 (tcs B), .row 5 1 1 (bR (G ++ (K.take q).flatMap fun x => digs (j - x - 1))), .box [.c (.int .i64 (tk)), .c (.int .i64 (tl)), .c (.int .i64 ((N : Int))), .c (.sl 1 8 (rowN K))]])
        K.length _ _ ⟨0, by omega, rfl, rfl⟩ ?_ ?_
      · refine Wk.sl [0, 1, 2, 3, 9, 5] rfl ⟨rfl, rfl, rfl, rfl, ?_, rfl, trivial⟩ ⟨rfl, rfl, rfl, rfl, rfl, rfl, rfl, rfl, rfl, rfl, trivial⟩ rfl
        rw [List.take_zero, List.flatMap_nil, List.append_nil]
        rfl
      rintro mm tm H ⟨q, hq, rfl, rfl⟩
      conv => whnf
      repeat ((first | refine aI rfl ?_ | refine aI (by decide) ?_ | refine aI ⟨by omega, by omega⟩ ?_ | refine aI (by omega) ?_ | refine aI (fun _ => ⟨by omega, by omega⟩) ?_ | refine aI (of_decide_eq_true rfl) ?_ | (refine yI ?_ ?_; focus (first | decide | (simp; done) | (simp [tcs]; done))) | (refine nI ?_ ?_; focus (first | decide | (simp; done) | (simp [tcs]; done)))); conv => whnf)
      intro hgl
      conv => whnf
      repeat ((first | refine aI rfl ?_ | refine aI (by decide) ?_ | refine aI ⟨by omega, by omega⟩ ?_ | refine aI (by omega) ?_ | refine aI (fun _ => ⟨by omega, by omega⟩) ?_ | refine aI (of_decide_eq_true rfl) ?_ | (refine yI ?_ ?_; focus (first | decide | (simp; done) | (simp [tcs]; done))) | (refine nI ?_ ?_; focus (first | decide | (simp; done) | (simp [tcs]; done)))); conv => whnf)
      refine ⟨fun hcq => ?_, fun hcq => ?_⟩
      · replace hcq : (q : Int) < (rowN K).length := of_decide_eq_true hcq
        obtain ⟨x, hx⟩ : ∃ x, K[q]? = some x := ⟨K[q]'(by omega), List.getElem?_eq_getElem (by omega)⟩
        have hxr := rowN_at hx
        have hxj := hKb x (List.mem_of_getElem? hx)
        have hfl := flat9 (fun x => digs (j - x - 1)) (K.take q) fun y hy => digs9 (by omega)
        have htl : (K.take q).length ≤ q := by rw [List.length_take]; omega
        have hd9 := digs9 (n := j - x - 1) (by omega)
        have hnx := cRNum (G ++ (K.take q).flatMap fun x => digs (j - x - 1)) (j - x - 1) (by rw [List.length_append]; omega) (by omega)
        have ex : ((j - x - 1 : Nat) : Int) = (j : Int) - x - 1 := by omega
        rw [ex] at hnx
        have hst : G ++ (K.take (q + 1)).flatMap (fun x => digs (j - x - 1)) = (G ++ (K.take q).flatMap fun x => digs (j - x - 1)) ++ digs (j - x - 1) := by
          rw [List.take_add_one, hx]
          simp
        conv => whnf
        repeat ((first | refine aI rfl ?_ | refine aI (by decide) ?_ | refine aI ⟨by omega, by omega⟩ ?_ | refine aI (by omega) ?_ | refine aI (fun _ => ⟨by omega, by omega⟩) ?_ | refine aI (of_decide_eq_true rfl) ?_ | (refine yI ?_ ?_; focus (first | decide | (simp; done) | (simp [tcs]; done))) | (refine nI ?_ ?_; focus (first | decide | (simp; done) | (simp [tcs]; done)))); conv => whnf)
        refine ⟨_, ⟨by omega, by simpa using hxr⟩, ?_⟩
        conv => whnf
        refine ⟨Nat.le_refl 1, ?_⟩
        conv => whnf
        repeat ((first | refine aI rfl ?_ | refine aI (by decide) ?_ | refine aI ⟨by omega, by omega⟩ ?_ | refine aI (by omega) ?_ | refine aI (fun _ => ⟨by omega, by omega⟩) ?_ | refine aI (of_decide_eq_true rfl) ?_ | (refine yI ?_ ?_; focus (first | decide | (simp; done) | (simp [tcs]; done))) | (refine nI ?_ ?_; focus (first | decide | (simp; done) | (simp [tcs]; done)))); conv => whnf)
        try (refine dI (by kernel_rfl) ?_; conv => whnf)
        first | refine CallSt.use hnx [4] ⟨rfl, trivial⟩ (by decide) rfl ?_ | refine CallPt.useS hnx [4] ⟨rfl, trivial⟩ (by decide) rfl ?_
        rintro _ _ ⟨rfl, rfl⟩ _
        conv => whnf
        repeat ((first | refine aI rfl ?_ | refine aI (by decide) ?_ | refine dI (by kernel_rfl) ?_ | refine aI ⟨by omega, by omega⟩ ?_ | refine aI (by omega) ?_ | refine aI (fun _ => ⟨by omega, by omega⟩) ?_ | refine aI (of_decide_eq_true rfl) ?_ | (refine yI ?_ ?_; focus (first | decide | (simp; done) | (simp [tcs]; done))) | (refine nI ?_ ?_; focus (first | decide | (simp; done) | (simp [tcs]; done))) | intro _); conv => whnf)
        refine ⟨mm - 1, _, _, by omega, ⟨q + 1, by omega, rfl, rfl⟩, Wk.sl [0, 1, 2, 3, 6, 5] rfl ⟨rfl, rfl, rfl, rfl, ?_, rfl, trivial⟩ ⟨rfl, rfl, rfl, rfl, rfl, rfl, rfl, rfl, rfl, rfl, trivial⟩ rfl⟩
        rw [hst]
        rfl
      replace hcq : ¬ (q : Int) < (rowN K).length := of_decide_eq_false hcq
      obtain rfl : q = K.length := by omega
      rw [List.take_length]
      conv => whnf
      repeat ((first | refine aI rfl ?_ | refine aI (by decide) ?_ | refine dI (by kernel_rfl) ?_ | refine aI ⟨by omega, by omega⟩ ?_ | refine aI (by omega) ?_ | refine aI (fun _ => ⟨by omega, by omega⟩) ?_ | refine aI (of_decide_eq_true rfl) ?_ | (refine yI ?_ ?_; focus (first | decide | (simp; done) | (simp [tcs]; done))) | (refine nI ?_ ?_; focus (first | decide | (simp; done) | (simp [tcs]; done))) | intro _); conv => whnf)
      refine ⟨m - 1, _, _, by omega, ⟨j + 1, by omega, rfl, rfl⟩, Wk.sl [0, 1, 2, 3, 4] rfl ⟨rfl, rfl, rfl, rfl, ?_, trivial⟩ ⟨rfl, rfl, rfl, rfl, rfl, rfl, rfl, rfl, trivial⟩ rfl⟩
      refine congrArg (fun z => some (Ent.row 5 1 1 (bR z))) ?_
      rw [hstep, ← hG]
      unfold lstB
      simp only [List.append_assoc, List.nil_append]
    · rw [show decide (tk = 4) = false from hk4] at hstep
      conv => whnf
      repeat ((first | refine aI rfl ?_ | refine aI (by decide) ?_ | refine dI (by kernel_rfl) ?_ | refine aI ⟨by omega, by omega⟩ ?_ | refine aI (by omega) ?_ | refine aI (fun _ => ⟨by omega, by omega⟩) ?_ | refine aI (of_decide_eq_true rfl) ?_ | (refine yI ?_ ?_; focus (first | decide | (simp; done) | (simp [tcs]; done))) | (refine nI ?_ ?_; focus (first | decide | (simp; done) | (simp [tcs]; done))) | intro _); conv => whnf)
      have hkn := rowN_len K
      have hlo : (P ++ [u8 (tk + 8 * tl)]).length ≤ 657900000 := by simp only [List.length_append, List.length_cons, List.length_nil]; omega
      have hnk := cRNum (P ++ [u8 (tk + 8 * tl)]) K.length (by have := digs9 (n := K.length) (by omega); omega) (by omega)
      rw [e1, ← hkn] at hnk
      try (refine dI (by kernel_rfl) ?_; conv => whnf)
      first | refine CallSt.use hnk [7] ⟨rfl, trivial⟩ (by decide) rfl ?_ | refine CallPt.useS hnk [7] ⟨rfl, trivial⟩ (by decide) rfl ?_
      rintro _ _ ⟨rfl, rfl⟩ _
      conv => whnf
      repeat ((first | refine aI rfl ?_ | refine aI (by decide) ?_ | refine dI (by kernel_rfl) ?_ | refine aI ⟨by omega, by omega⟩ ?_ | refine aI (by omega) ?_ | refine aI (fun _ => ⟨by omega, by omega⟩) ?_ | refine aI (of_decide_eq_true rfl) ?_ | (refine yI ?_ ?_; focus (first | decide | (simp; done) | (simp [tcs]; done))) | (refine nI ?_ ?_; focus (first | decide | (simp; done) | (simp [tcs]; done))) | intro _); conv => whnf)
      have hlo2 : (P ++ [u8 (tk + 8 * tl)] ++ digs K.length).length ≤ 657900010 := by have := digs9 (n := K.length) (by omega); rw [List.length_append]; omega
      rw [hkn]
      generalize hG : P ++ [u8 (tk + 8 * tl)] ++ digs K.length = G at *
      refine loop_intro (fun m tm H => ∃ (q : Nat), K.length = m + q ∧ tm = [(11, .c (.int .i64 (q))), (10, .ptr 5 0), (9, .c (.int .i64 (j))), (8, .own 4), (3, .ptr 1 0), (1, .ptr 0 0), (4, .c (.sl 1 8 (rowN R1))), (5, .c (.sl 1 8 (rowN R2))), (6, .c (.int .i64 (o))), (7, .c (.int .i64 (cc)))] ∧
          H = [.box [.c (.sl 6 72 (dcs S)), .c (.sl 4 48 (tcs X)), .c (.int .i64 (k)), .c (.int .i64 (l)), .c (.int .i64 (n)), .c (.sl 4 48 (tcs ts)), .c (.int .i64 (k2)), .c (.int .i64 (l2)), .c (.int .i64 (n2)), .c (.sl 4 48 (tcs us))], .box [.own 2, .own 3], .row 82 4 48 (nds2 B), .row 25 4 48 (tcs B), .row 5 1 1 (bR (G ++ (K.take q).flatMap fun x => digs (j - x - 1))), .box [.c (.int .i64 (tk)), .c (.int .i64 (tl)), .c (.int .i64 ((N : Int))), .c (.sl 1 8 (rowN K))]])
        K.length _ _ ⟨0, by omega, rfl, rfl⟩ ?_ ?_
      · refine Wk.sl [0, 1, 2, 3, 8, 5] rfl ⟨rfl, rfl, rfl, rfl, ?_, rfl, trivial⟩ ⟨rfl, rfl, rfl, rfl, rfl, rfl, rfl, rfl, rfl, rfl, trivial⟩ rfl
        rw [List.take_zero, List.flatMap_nil, List.append_nil]
        rfl
      rintro mm tm H ⟨q, hq, rfl, rfl⟩
      conv => whnf
      repeat ((first | refine aI rfl ?_ | refine aI (by decide) ?_ | refine aI ⟨by omega, by omega⟩ ?_ | refine aI (by omega) ?_ | refine aI (fun _ => ⟨by omega, by omega⟩) ?_ | refine aI (of_decide_eq_true rfl) ?_ | (refine yI ?_ ?_; focus (first | decide | (simp; done) | (simp [tcs]; done))) | (refine nI ?_ ?_; focus (first | decide | (simp; done) | (simp [tcs]; done)))); conv => whnf)
      intro hgl
      conv => whnf
      repeat ((first | refine aI rfl ?_ | refine aI (by decide) ?_ | refine aI ⟨by omega, by omega⟩ ?_ | refine aI (by omega) ?_ | refine aI (fun _ => ⟨by omega, by omega⟩) ?_ | refine aI (of_decide_eq_true rfl) ?_ | (refine yI ?_ ?_; focus (first | decide | (simp; done) | (simp [tcs]; done))) | (refine nI ?_ ?_; focus (first | decide | (simp; done) | (simp [tcs]; done)))); conv => whnf)
      refine ⟨fun hcq => ?_, fun hcq => ?_⟩
      · replace hcq : (q : Int) < (rowN K).length := of_decide_eq_true hcq
        obtain ⟨x, hx⟩ : ∃ x, K[q]? = some x := ⟨K[q]'(by omega), List.getElem?_eq_getElem (by omega)⟩
        have hxr := rowN_at hx
        have hxj := hKb x (List.mem_of_getElem? hx)
        have hfl := flat9 (fun x => digs (j - x - 1)) (K.take q) fun y hy => digs9 (by omega)
        have htl : (K.take q).length ≤ q := by rw [List.length_take]; omega
        have hd9 := digs9 (n := j - x - 1) (by omega)
        have hnx := cRNum (G ++ (K.take q).flatMap fun x => digs (j - x - 1)) (j - x - 1) (by rw [List.length_append]; omega) (by omega)
        have ex : ((j - x - 1 : Nat) : Int) = (j : Int) - x - 1 := by omega
        rw [ex] at hnx
        have hst : G ++ (K.take (q + 1)).flatMap (fun x => digs (j - x - 1)) = (G ++ (K.take q).flatMap fun x => digs (j - x - 1)) ++ digs (j - x - 1) := by
          rw [List.take_add_one, hx]
          simp
        conv => whnf
        repeat ((first | refine aI rfl ?_ | refine aI (by decide) ?_ | refine aI ⟨by omega, by omega⟩ ?_ | refine aI (by omega) ?_ | refine aI (fun _ => ⟨by omega, by omega⟩) ?_ | refine aI (of_decide_eq_true rfl) ?_ | (refine yI ?_ ?_; focus (first | decide | (simp; done) | (simp [tcs]; done))) | (refine nI ?_ ?_; focus (first | decide | (simp; done) | (simp [tcs]; done)))); conv => whnf)
        refine ⟨_, ⟨by omega, by simpa using hxr⟩, ?_⟩
        conv => whnf
        refine ⟨Nat.le_refl 1, ?_⟩
        conv => whnf
        repeat ((first | refine aI rfl ?_ | refine aI (by decide) ?_ | refine aI ⟨by omega, by omega⟩ ?_ | refine aI (by omega) ?_ | refine aI (fun _ => ⟨by omega, by omega⟩) ?_ | refine aI (of_decide_eq_true rfl) ?_ | (refine yI ?_ ?_; focus (first | decide | (simp; done) | (simp [tcs]; done))) | (refine nI ?_ ?_; focus (first | decide | (simp; done) | (simp [tcs]; done)))); conv => whnf)
        try (refine dI (by kernel_rfl) ?_; conv => whnf)
        first | refine CallSt.use hnx [4] ⟨rfl, trivial⟩ (by decide) rfl ?_ | refine CallPt.useS hnx [4] ⟨rfl, trivial⟩ (by decide) rfl ?_
        rintro _ _ ⟨rfl, rfl⟩ _
        conv => whnf
        repeat ((first | refine aI rfl ?_ | refine aI (by decide) ?_ | refine dI (by kernel_rfl) ?_ | refine aI ⟨by omega, by omega⟩ ?_ | refine aI (by omega) ?_ | refine aI (fun _ => ⟨by omega, by omega⟩) ?_ | refine aI (of_decide_eq_true rfl) ?_ | (refine yI ?_ ?_; focus (first | decide | (simp; done) | (simp [tcs]; done))) | (refine nI ?_ ?_; focus (first | decide | (simp; done) | (simp [tcs]; done))) | intro _); conv => whnf)
        refine ⟨mm - 1, _, _, by omega, ⟨q + 1, by omega, rfl, rfl⟩, Wk.sl [0, 1, 2, 3, 6, 5] rfl ⟨rfl, rfl, rfl, rfl, ?_, rfl, trivial⟩ ⟨rfl, rfl, rfl, rfl, rfl, rfl, rfl, rfl, rfl, rfl, trivial⟩ rfl⟩
        rw [hst]
        rfl
      replace hcq : ¬ (q : Int) < (rowN K).length := of_decide_eq_false hcq
      obtain rfl : q = K.length := by omega
      rw [List.take_length]
      conv => whnf
      repeat ((first | refine aI rfl ?_ | refine aI (by decide) ?_ | refine dI (by kernel_rfl) ?_ | refine aI ⟨by omega, by omega⟩ ?_ | refine aI (by omega) ?_ | refine aI (fun _ => ⟨by omega, by omega⟩) ?_ | refine aI (of_decide_eq_true rfl) ?_ | (refine yI ?_ ?_; focus (first | decide | (simp; done) | (simp [tcs]; done))) | (refine nI ?_ ?_; focus (first | decide | (simp; done) | (simp [tcs]; done))) | intro _); conv => whnf)
      refine ⟨m - 1, _, _, by omega, ⟨j + 1, by omega, rfl, rfl⟩, Wk.sl [0, 1, 2, 3, 4] rfl ⟨rfl, rfl, rfl, rfl, ?_, trivial⟩ ⟨rfl, rfl, rfl, rfl, rfl, rfl, rfl, rfl, trivial⟩ rfl⟩
      refine congrArg (fun z => some (Ent.row 5 1 1 (bR z))) ?_
      rw [hstep, ← hG]
      unfold lstB
      simp only [List.append_assoc, List.nil_append]
  replace hc : ¬ (j : Int) < (nds2 B).length := of_decide_eq_false hc
  obtain rfl : j = B.length := by omega
  have hnbb := hnb B.length (by omega)
  have hSl := len_dcs S
  have hlen : ([116, 114, 49] ++ digs B.length ++ nodesB B B.length : List UInt8).length ≤ 657000000 := by simp only [List.length_append, List.length_cons, List.length_nil]; omega
  have hdS := digs9 (n := S.length) (by omega)
  have hnS := cRNum ([116, 114, 49] ++ digs B.length ++ nodesB B B.length) S.length (by omega) (by omega)
  rw [← hSl] at hnS
  generalize hP : ([116, 114, 49] ++ digs B.length ++ nodesB B B.length : List UInt8) = P at *
  have hdb : ∀ j : Nat, j ≤ S.length → (declsB S R1 j).length ≤ 43 * j := decls_len (fun d hd => hnm d hd) (fun x hx => by have := hR1b x hx; omega)
  conv => whnf
  repeat ((first | refine aI rfl ?_ | refine aI (by decide) ?_ | refine dI (by kernel_rfl) ?_ | refine aI ⟨by omega, by omega⟩ ?_ | refine aI (by omega) ?_ | refine aI (fun _ => ⟨by omega, by omega⟩) ?_ | refine aI (of_decide_eq_true rfl) ?_ | (refine yI ?_ ?_; focus (first | decide | (simp; done) | (simp [tcs]; done))) | (refine nI ?_ ?_; focus (first | decide | (simp; done) | (simp [tcs]; done))) | intro _); conv => whnf)
  try (refine dI (by kernel_rfl) ?_; conv => whnf)
  first | refine CallSt.use hnS [4] ⟨rfl, trivial⟩ (by decide) rfl ?_ | refine CallPt.useS hnS [4] ⟨rfl, trivial⟩ (by decide) rfl ?_
  rintro _ _ ⟨rfl, rfl⟩ _
  conv => whnf
  repeat ((first | refine aI rfl ?_ | refine aI (by decide) ?_ | refine dI (by kernel_rfl) ?_ | refine aI ⟨by omega, by omega⟩ ?_ | refine aI (by omega) ?_ | refine aI (fun _ => ⟨by omega, by omega⟩) ?_ | refine aI (of_decide_eq_true rfl) ?_ | (refine yI ?_ ?_; focus (first | decide | (simp; done) | (simp [tcs]; done))) | (refine nI ?_ ?_; focus (first | decide | (simp; done) | (simp [tcs]; done))) | intro _); conv => whnf)
  refine loop_intro (fun m tm H => ∃ (j : Nat), S.length = m + j ∧ tm = [(12, .c (.int .i64 (j))), (8, .own 1), (1, .ptr 0 0), (4, .c (.sl 1 8 (rowN R1))), (5, .c (.sl 1 8 (rowN R2))), (6, .c (.int .i64 (o))), (7, .c (.int .i64 (cc)))] ∧
      H = [.box [.c (.sl 6 72 (dcs S)), .c (.sl 4 48 (tcs X)), .c (.int .i64 (k)), .c (.int .i64 (l)), .c (.int .i64 (n)), .c (.sl 4 48 (tcs ts)), .c (.int .i64 (k2)), .c (.int .i64 (l2)), .c (.int .i64 (n2)), .c (.sl 4 48 (tcs us))], .row 5 1 1 (bR (P ++ digs S.length ++ declsB S R1 j))])
    S.length _ _ ⟨0, by omega, rfl, rfl⟩ ?_ ?_
  · refine Wk.sl [0, 5] rfl ⟨rfl, ?_, trivial⟩ ⟨rfl, rfl, rfl, rfl, rfl, rfl, rfl, trivial⟩ rfl
    rw [declsB, List.append_nil, ← hSl]
    rfl
  rintro m tm H ⟨j, hj, rfl, rfl⟩
  conv => whnf
  repeat ((first | refine aI rfl ?_ | refine aI (by decide) ?_ | refine aI ⟨by omega, by omega⟩ ?_ | refine aI (by omega) ?_ | refine aI (fun _ => ⟨by omega, by omega⟩) ?_ | refine aI (of_decide_eq_true rfl) ?_ | (refine yI ?_ ?_; focus (first | decide | (simp; done) | (simp [tcs]; done))) | (refine nI ?_ ?_; focus (first | decide | (simp; done) | (simp [tcs]; done)))); conv => whnf)
  intro hgl3
  conv => whnf
  repeat ((first | refine aI rfl ?_ | refine aI (by decide) ?_ | refine aI ⟨by omega, by omega⟩ ?_ | refine aI (by omega) ?_ | refine aI (fun _ => ⟨by omega, by omega⟩) ?_ | refine aI (of_decide_eq_true rfl) ?_ | (refine yI ?_ ?_; focus (first | decide | (simp; done) | (simp [tcs]; done))) | (refine nI ?_ ?_; focus (first | decide | (simp; done) | (simp [tcs]; done)))); conv => whnf)
  refine ⟨fun hc => ?_, fun hc => ?_⟩
  · replace hc : (j : Int) < (dcs S).length := of_decide_eq_true hc
    obtain ⟨d, hd⟩ : ∃ d, S[j]? = some d := ⟨S[j]'(by omega), List.getElem?_eq_getElem (by omega)⟩
    obtain ⟨r, hr⟩ : ∃ r, R1[j]? = some r := ⟨R1[j]'(by omega), List.getElem?_eq_getElem (by omega)⟩
    have hdc := dcs_at hd
    have hrr := rowN_at hr
    have hdm := hnm d (List.mem_of_getElem? hd)
    have hrm := hR1b r (List.mem_of_getElem? hr)
    have hjb := hdb j (by omega)
    have hstep : declsB S R1 (j + 1) = declsB S R1 j ++ declB d r := by rw [declsB, hd, hr]
    have hQ : (P ++ digs S.length ++ declsB S R1 j).length ≤ 657005000 := by simp only [List.length_append]; omega
    generalize hQe : P ++ digs S.length ++ declsB S R1 j = Q at *
    obtain ⟨i, hi⟩ : ∃ i : Nat, d.i = i := ⟨d.i.toNat, by omega⟩
    unfold declB at hstep
    rw [hi, Int.toNat_natCast] at hstep
    obtain ⟨s', ⟨k', l', n', us'⟩, i'⟩ := d
    simp only at hdm hi hstep
    subst hi
    have d1 := digs9 (n := s'.size) (by omega)
    have d2 := digs9 (n := r) (by omega)
    have d3 := digs9 (n := i) (by omega)
    have d4 : s'.data.toList.length = s'.size := by rw [Array.length_toList]; rfl
    have hn1 := cRNum Q s'.size (by omega) (by omega)
    have hn2 := cRNum (Q ++ digs s'.size ++ s'.data.toList) r (by simp only [List.length_append]; omega) (by omega)
    have hn3 := cRNum (Q ++ digs s'.size ++ s'.data.toList ++ digs r) i (by simp only [List.length_append]; omega) (by omega)
    rw [bR_app _ s'.data.toList] at hn2
    have hbl := bR_len (Q ++ digs s'.size)
    have hp := digs_pos s'.size
    rw [List.length_append] at hbl
    conv => whnf
    refine ⟨_, ⟨by omega, hdc⟩, ?_⟩
    conv => whnf
    refine ⟨show 1 ≤ 6 by decide, ?_⟩
    conv => whnf
    repeat ((first | refine aI rfl ?_ | refine aI (by decide) ?_ | refine dI (by kernel_rfl) ?_ | refine aI ⟨by omega, by omega⟩ ?_ | refine aI (by omega) ?_ | refine aI (fun _ => ⟨by omega, by omega⟩) ?_ | refine aI (of_decide_eq_true rfl) ?_ | (refine yI ?_ ?_; focus (first | decide | (simp; done) | (simp [tcs]; done))) | (refine nI ?_ ?_; focus (first | decide | (simp; done) | (simp [tcs]; done))) | intro _); conv => whnf)
    try (refine dI (by kernel_rfl) ?_; conv => whnf)
    first | refine CallSt.use hn1 [1] ⟨rfl, trivial⟩ (by decide) rfl ?_ | refine CallPt.useS hn1 [1] ⟨rfl, trivial⟩ (by decide) rfl ?_
    rintro _ _ ⟨rfl, rfl⟩ _
    conv => whnf
    repeat ((first | refine aI rfl ?_ | refine aI (by decide) ?_ | refine dI (by kernel_rfl) ?_ | refine aI ⟨by omega, by omega⟩ ?_ | refine aI (by omega) ?_ | refine aI (fun _ => ⟨by omega, by omega⟩) ?_ | refine aI (of_decide_eq_true rfl) ?_ | (refine yI ?_ ?_; focus (first | decide | (simp; done) | (simp [tcs]; done))) | (refine nI ?_ ?_; focus (first | decide | (simp; done) | (simp [tcs]; done))) | intro _); conv => whnf)
    refine ⟨_, ⟨by omega, hdc⟩, ?_⟩
    conv => whnf
    refine ⟨show 1 ≤ 6 by decide, ?_⟩
    conv => whnf
    repeat ((first | refine aI rfl ?_ | refine aI (by decide) ?_ | refine dI (by kernel_rfl) ?_ | refine aI ⟨by omega, by omega⟩ ?_ | refine aI (by omega) ?_ | refine aI (fun _ => ⟨by omega, by omega⟩) ?_ | refine aI (of_decide_eq_true rfl) ?_ | (refine yI ?_ ?_; focus (first | decide | (simp; done) | (simp [tcs]; done))) | (refine nI ?_ ?_; focus (first | decide | (simp; done) | (simp [tcs]; done))) | intro _); conv => whnf)
    refine ⟨show (bR (Q ++ digs s'.size)).length + s'.size ≤ 140737488355328 by omega, ?_⟩
    conv => whnf
    repeat ((first | refine aI rfl ?_ | refine aI (by decide) ?_ | refine dI (by kernel_rfl) ?_ | refine aI ⟨by omega, by omega⟩ ?_ | refine aI (by omega) ?_ | refine aI (fun _ => ⟨by omega, by omega⟩) ?_ | refine aI (of_decide_eq_true rfl) ?_ | (refine yI ?_ ?_; focus (first | decide | (simp; done) | (simp [tcs]; done))) | (refine nI ?_ ?_; focus (first | decide | (simp; done) | (simp [tcs]; done))) | intro _); conv => whnf)
    refine ⟨_, ⟨by omega, by simpa using hrr⟩, ?_⟩
    conv => whnf
    refine ⟨Nat.le_refl 1, ?_⟩
    conv => whnf
    repeat ((first | refine aI rfl ?_ | refine aI (by decide) ?_ | refine dI (by kernel_rfl) ?_ | refine aI ⟨by omega, by omega⟩ ?_ | refine aI (by omega) ?_ | refine aI (fun _ => ⟨by omega, by omega⟩) ?_ | refine aI (of_decide_eq_true rfl) ?_ | (refine yI ?_ ?_; focus (first | decide | (simp; done) | (simp [tcs]; done))) | (refine nI ?_ ?_; focus (first | decide | (simp; done) | (simp [tcs]; done))) | intro _); conv => whnf)
    refine ⟨_, ⟨by omega, hdc⟩, ?_⟩
    conv => whnf
    refine ⟨show 1 ≤ 1 by decide, ?_⟩
    conv => whnf
    repeat ((first | refine aI rfl ?_ | refine aI (by decide) ?_ | refine dI (by kernel_rfl) ?_ | refine aI ⟨by omega, by omega⟩ ?_ | refine aI (by omega) ?_ | refine aI (fun _ => ⟨by omega, by omega⟩) ?_ | refine aI (of_decide_eq_true rfl) ?_ | (refine yI ?_ ?_; focus (first | decide | (simp; done) | (simp [tcs]; done))) | (refine nI ?_ ?_; focus (first | decide | (simp; done) | (simp [tcs]; done))) | intro _); conv => whnf)
    try (refine dI (by kernel_rfl) ?_; conv => whnf)
    first | refine CallSt.use hn2 [3] ⟨rfl, trivial⟩ (by decide) rfl ?_ | refine CallPt.useS hn2 [3] ⟨rfl, trivial⟩ (by decide) rfl ?_
    rintro _ _ ⟨rfl, rfl⟩ _
    conv => whnf
    repeat ((first | refine aI rfl ?_ | refine aI (by decide) ?_ | refine dI (by kernel_rfl) ?_ | refine aI ⟨by omega, by omega⟩ ?_ | refine aI (by omega) ?_ | refine aI (fun _ => ⟨by omega, by omega⟩) ?_ | refine aI (of_decide_eq_true rfl) ?_ | (refine yI ?_ ?_; focus (first | decide | (simp; done) | (simp [tcs]; done))) | (refine nI ?_ ?_; focus (first | decide | (simp; done) | (simp [tcs]; done))) | intro _); conv => whnf)
    try (refine dI (by kernel_rfl) ?_; conv => whnf)
    first | refine CallSt.use hn3 [4] ⟨rfl, trivial⟩ (by decide) rfl ?_ | refine CallPt.useS hn3 [4] ⟨rfl, trivial⟩ (by decide) rfl ?_
    rintro _ _ ⟨rfl, rfl⟩ _
    conv => whnf
    repeat ((first | refine aI rfl ?_ | refine aI (by decide) ?_ | refine dI (by kernel_rfl) ?_ | refine aI ⟨by omega, by omega⟩ ?_ | refine aI (by omega) ?_ | refine aI (fun _ => ⟨by omega, by omega⟩) ?_ | refine aI (of_decide_eq_true rfl) ?_ | (refine yI ?_ ?_; focus (first | decide | (simp; done) | (simp [tcs]; done))) | (refine nI ?_ ?_; focus (first | decide | (simp; done) | (simp [tcs]; done))) | intro _); conv => whnf)
    refine ⟨m - 1, _, _, by omega, ⟨j + 1, by omega, rfl, rfl⟩, Wk.sl [0, 5] rfl ⟨rfl, ?_, trivial⟩ ⟨rfl, rfl, rfl, rfl, rfl, rfl, rfl, trivial⟩ rfl⟩
    refine congrArg (fun z => some (Ent.row 5 1 1 (bR z))) ?_
    rw [hstep, ← List.append_assoc, hQe]
    simp only [List.append_assoc]
  replace hc : ¬ (j : Int) < (dcs S).length := of_decide_eq_false hc
  obtain rfl : j = S.length := by omega
  have hdS2 := hdb S.length (by omega)
  have hQ : (P ++ digs S.length ++ declsB S R1 S.length).length ≤ 657005000 := by simp only [List.length_append]; omega
  have hPK : P ++ digs S.length ++ declsB S R1 S.length ++ lstB digs R2 ++ [o, cc].flatMap digs = (P ++ digs S.length ++ declsB S R1 S.length ++ digs R2.length ++ R2.flatMap digs) ++ digs o ++ digs cc := by
    simp only [lstB, List.flatMap_cons, List.flatMap_nil, List.append_nil, List.append_assoc]
  rw [hPK]
  clear hPK
  generalize hQe : P ++ digs S.length ++ declsB S R1 S.length = Q at *
  have hR2n := rowN_len R2
  have d1 := digs9 (n := R2.length) (by omega)
  have hn1 := cRNum Q R2.length (by omega) (by omega)
  rw [← hR2n] at hn1
  have hQ2 : (Q ++ digs R2.length).length ≤ 657005009 := by rw [List.length_append]; omega
  conv => whnf
  repeat ((first | refine aI rfl ?_ | refine aI (by decide) ?_ | refine dI (by kernel_rfl) ?_ | refine aI ⟨by omega, by omega⟩ ?_ | refine aI (by omega) ?_ | refine aI (fun _ => ⟨by omega, by omega⟩) ?_ | refine aI (of_decide_eq_true rfl) ?_ | (refine yI ?_ ?_; focus (first | decide | (simp; done) | (simp [tcs]; done))) | (refine nI ?_ ?_; focus (first | decide | (simp; done) | (simp [tcs]; done))) | intro _); conv => whnf)
  try (refine dI (by kernel_rfl) ?_; conv => whnf)
  first | refine CallSt.use hn1 [1] ⟨rfl, trivial⟩ (by decide) rfl ?_ | refine CallPt.useS hn1 [1] ⟨rfl, trivial⟩ (by decide) rfl ?_
  rintro _ _ ⟨rfl, rfl⟩ _
  conv => whnf
  repeat ((first | refine aI rfl ?_ | refine aI (by decide) ?_ | refine dI (by kernel_rfl) ?_ | refine aI ⟨by omega, by omega⟩ ?_ | refine aI (by omega) ?_ | refine aI (fun _ => ⟨by omega, by omega⟩) ?_ | refine aI (of_decide_eq_true rfl) ?_ | (refine yI ?_ ?_; focus (first | decide | (simp; done) | (simp [tcs]; done))) | (refine nI ?_ ?_; focus (first | decide | (simp; done) | (simp [tcs]; done))) | intro _); conv => whnf)
  rw [hR2n]
  generalize hQf : Q ++ digs R2.length = Q2 at *
  refine loop_intro (fun m tm H => ∃ (j : Nat), R2.length = m + j ∧ tm = [(13, .c (.int .i64 (j))), (8, .own 0), (5, .c (.sl 1 8 (rowN R2))), (6, .c (.int .i64 (o))), (7, .c (.int .i64 (cc)))] ∧
      H = [.row 5 1 1 (bR (Q2 ++ (R2.take j).flatMap digs))])
    R2.length _ _ ⟨0, by omega, rfl, rfl⟩ ?_ ?_
  · refine Wk.sl [2] rfl ⟨?_, trivial⟩ ⟨rfl, rfl, rfl, rfl, rfl, trivial⟩ rfl
    rw [List.take_zero, List.flatMap_nil, List.append_nil]
    rfl
  rintro m tm H ⟨j, hj, rfl, rfl⟩
  have hfl := flat9 digs (R2.take j) fun y hy => digs9 (by have := hR2b y (List.mem_of_mem_take hy); omega)
  have htl : (R2.take j).length ≤ j := by rw [List.length_take]; omega
  conv => whnf
  repeat ((first | refine aI rfl ?_ | refine aI (by decide) ?_ | refine aI ⟨by omega, by omega⟩ ?_ | refine aI (by omega) ?_ | refine aI (fun _ => ⟨by omega, by omega⟩) ?_ | refine aI (of_decide_eq_true rfl) ?_ | (refine yI ?_ ?_; focus (first | decide | (simp; done) | (simp [tcs]; done))) | (refine nI ?_ ?_; focus (first | decide | (simp; done) | (simp [tcs]; done)))); conv => whnf)
  intro hgl4
  conv => whnf
  repeat ((first | refine aI rfl ?_ | refine aI (by decide) ?_ | refine aI ⟨by omega, by omega⟩ ?_ | refine aI (by omega) ?_ | refine aI (fun _ => ⟨by omega, by omega⟩) ?_ | refine aI (of_decide_eq_true rfl) ?_ | (refine yI ?_ ?_; focus (first | decide | (simp; done) | (simp [tcs]; done))) | (refine nI ?_ ?_; focus (first | decide | (simp; done) | (simp [tcs]; done)))); conv => whnf)
  refine ⟨fun hc => ?_, fun hc => ?_⟩
  · replace hc : (j : Int) < (rowN R2).length := of_decide_eq_true hc
    obtain ⟨x, hx⟩ : ∃ x, R2[j]? = some x := ⟨R2[j]'(by omega), List.getElem?_eq_getElem (by omega)⟩
    have hxr := rowN_at hx
    have hxb := hR2b x (List.mem_of_getElem? hx)
    have hd9 := digs9 (n := x) (by omega)
    have hnx := cRNum (Q2 ++ (R2.take j).flatMap digs) x (by rw [List.length_append]; omega) (by omega)
    have hst : Q2 ++ (R2.take (j + 1)).flatMap digs = (Q2 ++ (R2.take j).flatMap digs) ++ digs x := by
      rw [List.take_add_one, hx]
      simp
    conv => whnf
    repeat ((first | refine aI rfl ?_ | refine aI (by decide) ?_ | refine aI ⟨by omega, by omega⟩ ?_ | refine aI (by omega) ?_ | refine aI (fun _ => ⟨by omega, by omega⟩) ?_ | refine aI (of_decide_eq_true rfl) ?_ | (refine yI ?_ ?_; focus (first | decide | (simp; done) | (simp [tcs]; done))) | (refine nI ?_ ?_; focus (first | decide | (simp; done) | (simp [tcs]; done)))); conv => whnf)
    refine ⟨_, ⟨by omega, by simpa using hxr⟩, ?_⟩
    conv => whnf
    refine ⟨Nat.le_refl 1, ?_⟩
    conv => whnf
    repeat ((first | refine aI rfl ?_ | refine aI (by decide) ?_ | refine aI ⟨by omega, by omega⟩ ?_ | refine aI (by omega) ?_ | refine aI (fun _ => ⟨by omega, by omega⟩) ?_ | refine aI (of_decide_eq_true rfl) ?_ | (refine yI ?_ ?_; focus (first | decide | (simp; done) | (simp [tcs]; done))) | (refine nI ?_ ?_; focus (first | decide | (simp; done) | (simp [tcs]; done)))); conv => whnf)
    try (refine dI (by kernel_rfl) ?_; conv => whnf)
    first | refine CallSt.use hnx [0] ⟨rfl, trivial⟩ (by decide) rfl ?_ | refine CallPt.useS hnx [0] ⟨rfl, trivial⟩ (by decide) rfl ?_
    rintro _ _ ⟨rfl, rfl⟩ _
    conv => whnf
    repeat ((first | refine aI rfl ?_ | refine aI (by decide) ?_ | refine dI (by kernel_rfl) ?_ | refine aI ⟨by omega, by omega⟩ ?_ | refine aI (by omega) ?_ | refine aI (fun _ => ⟨by omega, by omega⟩) ?_ | refine aI (of_decide_eq_true rfl) ?_ | (refine yI ?_ ?_; focus (first | decide | (simp; done) | (simp [tcs]; done))) | (refine nI ?_ ?_; focus (first | decide | (simp; done) | (simp [tcs]; done))) | intro _); conv => whnf)
    refine ⟨m - 1, _, _, by omega, ⟨j + 1, by omega, rfl, rfl⟩, Wk.sl [1] rfl ⟨?_, trivial⟩ ⟨rfl, rfl, rfl, rfl, rfl, trivial⟩ rfl⟩
    rw [hst]
    rfl
  replace hc : ¬ (j : Int) < (rowN R2).length := of_decide_eq_false hc
  obtain rfl : j = R2.length := by omega
  rw [List.take_length] at hfl ⊢
  have hZ : (Q2 ++ R2.flatMap digs).length ≤ 657100000 := by rw [List.length_append]; omega
  rw [← hQf] at hZ ⊢
  generalize Q ++ digs R2.length ++ R2.flatMap digs = Z at *
  have do9 := digs9 (n := o) (by omega)
  have dc9 := digs9 (n := cc) (by omega)
  have hno := cRNum Z o (by omega) (by omega)
  have hnc := cRNum (Z ++ digs o) cc (by rw [List.length_append]; omega) (by omega)
  have hse := cRSeal ⟨(Z ++ digs o ++ digs cc).toArray⟩ (by
    have : (⟨(Z ++ digs o ++ digs cc).toArray⟩ : ByteArray).size = (Z ++ digs o ++ digs cc).length := by simp [ByteArray.size]
    rw [this]
    simp only [List.length_append]
    omega)
  have hdt : (⟨(Z ++ digs o ++ digs cc).toArray⟩ : ByteArray).data.toList = Z ++ digs o ++ digs cc := by simp
  rw [hdt] at hse
  conv => whnf
  repeat ((first | refine aI rfl ?_ | refine aI (by decide) ?_ | refine dI (by kernel_rfl) ?_ | refine aI ⟨by omega, by omega⟩ ?_ | refine aI (by omega) ?_ | refine aI (fun _ => ⟨by omega, by omega⟩) ?_ | refine aI (of_decide_eq_true rfl) ?_ | (refine yI ?_ ?_; focus (first | decide | (simp; done) | (simp [tcs]; done))) | (refine nI ?_ ?_; focus (first | decide | (simp; done) | (simp [tcs]; done))) | intro _); conv => whnf)
  try (refine dI (by kernel_rfl) ?_; conv => whnf)
  first | refine CallSt.use hno [0] ⟨rfl, trivial⟩ (by decide) rfl ?_ | refine CallPt.useS hno [0] ⟨rfl, trivial⟩ (by decide) rfl ?_
  rintro _ _ ⟨rfl, rfl⟩ _
  conv => whnf
  repeat ((first | refine aI rfl ?_ | refine aI (by decide) ?_ | refine dI (by kernel_rfl) ?_ | refine aI ⟨by omega, by omega⟩ ?_ | refine aI (by omega) ?_ | refine aI (fun _ => ⟨by omega, by omega⟩) ?_ | refine aI (of_decide_eq_true rfl) ?_ | (refine yI ?_ ?_; focus (first | decide | (simp; done) | (simp [tcs]; done))) | (refine nI ?_ ?_; focus (first | decide | (simp; done) | (simp [tcs]; done))) | intro _); conv => whnf)
  try (refine dI (by kernel_rfl) ?_; conv => whnf)
  first | refine CallSt.use hnc [1] ⟨rfl, trivial⟩ (by decide) rfl ?_ | refine CallPt.useS hnc [1] ⟨rfl, trivial⟩ (by decide) rfl ?_
  rintro _ _ ⟨rfl, rfl⟩ _
  conv => whnf
  repeat ((first | refine aI rfl ?_ | refine aI (by decide) ?_ | refine dI (by kernel_rfl) ?_ | refine aI ⟨by omega, by omega⟩ ?_ | refine aI (by omega) ?_ | refine aI (fun _ => ⟨by omega, by omega⟩) ?_ | refine aI (of_decide_eq_true rfl) ?_ | (refine yI ?_ ?_; focus (first | decide | (simp; done) | (simp [tcs]; done))) | (refine nI ?_ ?_; focus (first | decide | (simp; done) | (simp [tcs]; done))) | intro _); conv => whnf)
  refine ⟨_, rfl, ?_⟩
  conv => whnf
  try (refine dI (by kernel_rfl) ?_; conv => whnf)
  first | refine CallSt.use hse [] trivial (by decide) rfl ?_ | refine CallPt.useS hse [] trivial (by decide) rfl ?_
  rintro _ _ ⟨rfl, rfl⟩ _
  conv => whnf
  repeat ((first | refine aI rfl ?_ | refine aI (by decide) ?_ | refine dI (by kernel_rfl) ?_ | refine aI ⟨by omega, by omega⟩ ?_ | refine aI (by omega) ?_ | refine aI (fun _ => ⟨by omega, by omega⟩) ?_ | refine aI (of_decide_eq_true rfl) ?_ | (refine yI ?_ ?_; focus (first | decide | (simp; done) | (simp [tcs]; done))) | (refine nI ?_ ?_; focus (first | decide | (simp; done) | (simp [tcs]; done))) | intro _); conv => whnf)
  rfl
end Go.Tr
/- cert.Same: the declarations. -/
namespace Go.Tr
open Go.Proofs
def sameD (d e : Dcl) : Bool := decide (d.s = e.s) && decide (d.i = e.i) && sameT d.c e.c
theorem cSameD (d e : Dcl) : CallSt Tryz.prog 42 [dv d, dv e] [] (fun r H' => r = .c (.bool (sameD d e)) ∧ H' = []) := by
  have h := c22 d.c e.c
  have hs : sameD d e = (decide (d.s = e.s) && decide (d.i = e.i) && sameT d.c e.c) := rfl
  rw [hs]
  clear hs
  generalize sameT d.c e.c = b at *
  obtain ⟨s, ⟨k, l, n, ts⟩, i⟩ := d
  obtain ⟨s2, ⟨k2, l2, n2, us⟩, i2⟩ := e
  rw [tv_mk, tv_mk] at h
  dsimp only
  generalize hq : (decide (s = s2) && decide (i = i2)) = q
  refine call_pure (E := env 0) (fn := Tryz.f42) (c := bodyOf Tryz.f42) (env_ok 0) mixed (by kernel_rfl) (by kernel_rfl) (by kernel_rfl) (by kernel_rfl) (by kernel_rfl) (by kernel_rfl) rfl ?_
  conv => whnf
  repeat ((first | refine aI rfl ?_ | refine aI (by decide) ?_ | refine dI (by kernel_rfl) ?_ | refine aI ⟨by omega, by omega⟩ ?_ | refine aI (by omega) ?_ | refine aI (fun _ => ⟨by omega, by omega⟩) ?_ | refine aI (of_decide_eq_true rfl) ?_ | (refine yI ?_ ?_; focus (first | decide | (simp; done) | (simp [tcs]; done))) | (refine nI ?_ ?_; focus (first | decide | (simp; done) | (simp [tcs]; done))) | intro _); conv => whnf)
  rw [hq]
  cases q with
  | true =>
    (refine ⟨fun _ => ?_, fun h => absurd h ?_⟩; rotate_left; (focus (first | decide | (simp; done) | (simp [tcs]; done))); conv => whnf)
    try (refine dI (by kernel_rfl) ?_; conv => whnf)
    first | refine CallSt.use h [] trivial (by decide) rfl ?_ | refine CallPt.useS h [] trivial (by decide) rfl ?_
    rintro _ _ ⟨rfl, rfl⟩ _
    conv => whnf
    repeat ((first | refine aI rfl ?_ | refine aI (by decide) ?_ | refine dI (by kernel_rfl) ?_ | refine aI ⟨by omega, by omega⟩ ?_ | refine aI (by omega) ?_ | refine aI (fun _ => ⟨by omega, by omega⟩) ?_ | refine aI (of_decide_eq_true rfl) ?_ | (refine yI ?_ ?_; focus (first | decide | (simp; done) | (simp [tcs]; done))) | (refine nI ?_ ?_; focus (first | decide | (simp; done) | (simp [tcs]; done))) | intro _); conv => whnf)
    all_goals (first | rfl | exact ⟨rfl, rfl⟩ | exact ⟨rfl, rfl, rfl⟩)
  | false =>
    (refine ⟨fun h => absurd h ?_, fun _ => ?_⟩; (focus (first | decide | (simp; done) | (simp [tcs]; done))); conv => whnf)
    repeat ((first | refine aI rfl ?_ | refine aI (by decide) ?_ | refine dI (by kernel_rfl) ?_ | refine aI ⟨by omega, by omega⟩ ?_ | refine aI (by omega) ?_ | refine aI (fun _ => ⟨by omega, by omega⟩) ?_ | refine aI (of_decide_eq_true rfl) ?_ | (refine yI ?_ ?_; focus (first | decide | (simp; done) | (simp [tcs]; done))) | (refine nI ?_ ?_; focus (first | decide | (simp; done) | (simp [tcs]; done))) | intro _); conv => whnf)
    all_goals (first | rfl | exact ⟨rfl, rfl⟩ | exact ⟨rfl, rfl, rfl⟩)
end Go.Tr
/- cert.Same: the declarations. -/
namespace Go.Tr
open Go.Proofs
def allEq {α : Type} (f : α → α → Bool) : List α → List α → Bool
  | [], [] => true
  | a :: l, b :: m => f a b && allEq f l m
  | _, _ => false
theorem allEq_len {α : Type} (f : α → α → Bool) : ∀ (l m : List α), l.length ≠ m.length → allEq f l m = false
  | [], [], h => absurd rfl h
  | [], _ :: _, _ => rfl
  | _ :: _, [], _ => rfl
  | a :: l, b :: m, h => by
    rw [allEq, allEq_len f l m (by simpa using h), Bool.and_false]
theorem allEq_drop {α : Type} (f : α → α → Bool) {l m : List α} {j : Nat} {a b : α} (ha : l[j]? = some a) (hb : m[j]? = some b) : allEq f (l.drop j) (m.drop j) = (f a b && allEq f (l.drop (j + 1)) (m.drop (j + 1))) := by
  rw [drop_at ha, drop_at hb, allEq]
theorem cEqT (l m : List Term) : CallSt Tryz.prog 44 [.c (.sl 4 48 (tcs l)), .c (.sl 4 48 (tcs m)), .fn 43 []] [] (fun r H' => r = .c (.bool (allEq sameT l m)) ∧ H' = []) := by
  have hl := len_tcs l
  have hm := len_tcs m
  by_cases hn : l.length = m.length
  · have e : (!decide (((tcs l).length : Int) = (tcs m).length)) = false := by rw [decide_eq_true (by omega)]; rfl
    refine call_pure (E := env 0) (fn := Tryz.f44) (c := bodyOf Tryz.f44) (env_ok 0) mixed (by kernel_rfl) (by kernel_rfl) (by kernel_rfl) (by kernel_rfl) (by kernel_rfl) (by kernel_rfl) rfl ?_
    conv => whnf
    intro hlen
    replace hlen : (tcs l).length * 48 ≤ 140737488355328 := hlen
    conv => whnf
    repeat ((first | refine aI rfl ?_ | refine aI (by decide) ?_ | refine dI (by kernel_rfl) ?_ | refine aI ⟨by omega, by omega⟩ ?_ | refine aI (by omega) ?_ | refine aI (fun _ => ⟨by omega, by omega⟩) ?_ | refine aI (of_decide_eq_true rfl) ?_ | (refine yI ?_ ?_; focus (first | decide | (simp; done) | (simp [tcs]; done))) | (refine nI ?_ ?_; focus (first | decide | (simp; done) | (simp [tcs]; done))) | intro _); conv => whnf)
    rw [e]
    (refine ⟨fun h => absurd h ?_, fun _ => ?_⟩; (focus (first | decide | (simp; done) | (simp [tcs]; done))); conv => whnf)
    repeat ((first | refine aI rfl ?_ | refine aI (by decide) ?_ | refine dI (by kernel_rfl) ?_ | refine aI ⟨by omega, by omega⟩ ?_ | refine aI (by omega) ?_ | refine aI (fun _ => ⟨by omega, by omega⟩) ?_ | refine aI (of_decide_eq_true rfl) ?_ | (refine yI ?_ ?_; focus (first | decide | (simp; done) | (simp [tcs]; done))) | (refine nI ?_ ?_; focus (first | decide | (simp; done) | (simp [tcs]; done))) | intro _); conv => whnf)
    refine loop_intro (fun k tm H => ∃ j : Nat, l.length = k + j ∧ allEq sameT (l.drop j) (m.drop j) = allEq sameT l m ∧ tm = [(17, .c (.int .i64 (j))), (16, .c (.int .i64 ((tcs l).length))), (15, .c (.sl 4 48 (tcs l))), (1, .c (.sl 4 48 (tcs m))), (2, .fn 43 [])] ∧ H = [])
      l.length _ _ ⟨0, by omega, rfl, rfl, rfl⟩ (Wk.sl [] rfl trivial ⟨rfl, rfl, rfl, rfl, rfl, trivial⟩ rfl) ?_
    rintro k tm H ⟨j, hj, hR, rfl, rfl⟩
    conv => whnf
    refine ⟨fun hc => ?_, fun hc => ?_⟩
    · replace hc : (j : Int) < (tcs l).length := of_decide_eq_true hc
      obtain ⟨a, ha⟩ : ∃ a, l[j]? = some a := ⟨l[j]'(by omega), List.getElem?_eq_getElem (by omega)⟩
      obtain ⟨b, hb⟩ : ∃ b, m[j]? = some b := ⟨m[j]'(by omega), List.getElem?_eq_getElem (by omega)⟩
      have hac := tcs_at l j a ha
      have hbc := tcs_at m j b hb
      have hs := c22 a b
      rw [allEq_drop sameT ha hb] at hR
      generalize sameT a b = q at *
      obtain ⟨k1, l1, n1, us⟩ := a
      obtain ⟨k2, l2, n2, vs⟩ := b
      rw [tv_mk, tv_mk] at hs
      conv => whnf
      refine ⟨_, ⟨by omega, by simpa using hac⟩, ?_⟩
      conv => whnf
      refine ⟨Nat.le_refl 4, ?_⟩
      conv => whnf
      repeat ((first | refine aI rfl ?_ | refine aI (by decide) ?_ | refine dI (by kernel_rfl) ?_ | refine aI ⟨by omega, by omega⟩ ?_ | refine aI (by omega) ?_ | refine aI (fun _ => ⟨by omega, by omega⟩) ?_ | refine aI (of_decide_eq_true rfl) ?_ | (refine yI ?_ ?_; focus (first | decide | (simp; done) | (simp [tcs]; done))) | (refine nI ?_ ?_; focus (first | decide | (simp; done) | (simp [tcs]; done))) | intro _); conv => whnf)
      refine ⟨_, ⟨by omega, by simpa using hbc⟩, ?_⟩
      conv => whnf
      refine ⟨Nat.le_refl 4, ?_⟩
      conv => whnf
      repeat ((first | refine aI rfl ?_ | refine aI (by decide) ?_ | refine dI (by kernel_rfl) ?_ | refine aI ⟨by omega, by omega⟩ ?_ | refine aI (by omega) ?_ | refine aI (fun _ => ⟨by omega, by omega⟩) ?_ | refine aI (of_decide_eq_true rfl) ?_ | (refine yI ?_ ?_; focus (first | decide | (simp; done) | (simp [tcs]; done))) | (refine nI ?_ ?_; focus (first | decide | (simp; done) | (simp [tcs]; done))) | intro _); conv => whnf)
      try (refine dI (by kernel_rfl) ?_; conv => whnf)
      first | refine CallSt.use hs [] trivial (by decide) rfl ?_ | refine CallPt.useS hs [] trivial (by decide) rfl ?_
      rintro _ _ ⟨rfl, rfl⟩ _
      conv => whnf
      cases q with
      | false =>
        (refine ⟨fun _ => ?_, fun h => absurd h ?_⟩; rotate_left; (focus (first | decide | (simp; done) | (simp [tcs]; done))); conv => whnf)
        rw [← hR]
        repeat ((first | refine aI rfl ?_ | refine aI (by decide) ?_ | refine dI (by kernel_rfl) ?_ | refine aI ⟨by omega, by omega⟩ ?_ | refine aI (by omega) ?_ | refine aI (fun _ => ⟨by omega, by omega⟩) ?_ | refine aI (of_decide_eq_true rfl) ?_ | (refine yI ?_ ?_; focus (first | decide | (simp; done) | (simp [tcs]; done))) | (refine nI ?_ ?_; focus (first | decide | (simp; done) | (simp [tcs]; done))) | intro _); conv => whnf)
        all_goals (first | rfl | exact ⟨rfl, rfl⟩ | exact ⟨rfl, rfl, rfl⟩)
      | true =>
        (refine ⟨fun h => absurd h ?_, fun _ => ?_⟩; (focus (first | decide | (simp; done) | (simp [tcs]; done))); conv => whnf)
        repeat ((first | refine aI rfl ?_ | refine aI (by decide) ?_ | refine dI (by kernel_rfl) ?_ | refine aI ⟨by omega, by omega⟩ ?_ | refine aI (by omega) ?_ | refine aI (fun _ => ⟨by omega, by omega⟩) ?_ | refine aI (of_decide_eq_true rfl) ?_ | (refine yI ?_ ?_; focus (first | decide | (simp; done) | (simp [tcs]; done))) | (refine nI ?_ ?_; focus (first | decide | (simp; done) | (simp [tcs]; done))) | intro _); conv => whnf)
        refine ⟨k - 1, _, _, by omega, ⟨j + 1, by omega, by simpa using hR, rfl, rfl⟩, Wk.sl [] rfl trivial ⟨rfl, rfl, rfl, rfl, rfl, trivial⟩ rfl⟩
    · replace hc : ¬ (j : Int) < (tcs l).length := of_decide_eq_false hc
      rw [List.drop_eq_nil_of_le (by omega), List.drop_eq_nil_of_le (by omega), allEq] at hR
      rw [← hR]
      conv => whnf
      repeat ((first | refine aI rfl ?_ | refine aI (by decide) ?_ | refine dI (by kernel_rfl) ?_ | refine aI ⟨by omega, by omega⟩ ?_ | refine aI (by omega) ?_ | refine aI (fun _ => ⟨by omega, by omega⟩) ?_ | refine aI (of_decide_eq_true rfl) ?_ | (refine yI ?_ ?_; focus (first | decide | (simp; done) | (simp [tcs]; done))) | (refine nI ?_ ?_; focus (first | decide | (simp; done) | (simp [tcs]; done))) | intro _); conv => whnf)
      all_goals (first | rfl | exact ⟨rfl, rfl⟩ | exact ⟨rfl, rfl, rfl⟩)
  · have e : (!decide (((tcs l).length : Int) = (tcs m).length)) = true := by rw [decide_eq_false (by omega)]; rfl
    rw [allEq_len sameT l m hn]
    refine call_pure (E := env 0) (fn := Tryz.f44) (c := bodyOf Tryz.f44) (env_ok 0) mixed (by kernel_rfl) (by kernel_rfl) (by kernel_rfl) (by kernel_rfl) (by kernel_rfl) (by kernel_rfl) rfl ?_
    conv => whnf
    repeat ((first | refine aI rfl ?_ | refine aI (by decide) ?_ | refine dI (by kernel_rfl) ?_ | refine aI ⟨by omega, by omega⟩ ?_ | refine aI (by omega) ?_ | refine aI (fun _ => ⟨by omega, by omega⟩) ?_ | refine aI (of_decide_eq_true rfl) ?_ | (refine yI ?_ ?_; focus (first | decide | (simp; done) | (simp [tcs]; done))) | (refine nI ?_ ?_; focus (first | decide | (simp; done) | (simp [tcs]; done))) | intro _); conv => whnf)
    rw [e]
    (refine ⟨fun _ => ?_, fun h => absurd h ?_⟩; rotate_left; (focus (first | decide | (simp; done) | (simp [tcs]; done))); conv => whnf)
    repeat ((first | refine aI rfl ?_ | refine aI (by decide) ?_ | refine dI (by kernel_rfl) ?_ | refine aI ⟨by omega, by omega⟩ ?_ | refine aI (by omega) ?_ | refine aI (fun _ => ⟨by omega, by omega⟩) ?_ | refine aI (of_decide_eq_true rfl) ?_ | (refine yI ?_ ?_; focus (first | decide | (simp; done) | (simp [tcs]; done))) | (refine nI ?_ ?_; focus (first | decide | (simp; done) | (simp [tcs]; done))) | intro _); conv => whnf)
    all_goals (first | rfl | exact ⟨rfl, rfl⟩ | exact ⟨rfl, rfl, rfl⟩)
end Go.Tr
/- cert.Same: the lists of declarations. -/
namespace Go.Tr
open Go.Proofs
theorem cEqD (l m : List Dcl) : CallSt Tryz.prog 41 [.c (.sl 6 72 (dcs l)), .c (.sl 6 72 (dcs m)), .fn 42 []] [] (fun r H' => r = .c (.bool (allEq sameD l m)) ∧ H' = []) := by
  have hl := len_dcs l
  have hm := len_dcs m
  by_cases hn : l.length = m.length
  · have e : (!decide (((dcs l).length : Int) = (dcs m).length)) = false := by rw [decide_eq_true (by omega)]; rfl
    refine call_pure (E := env 0) (fn := Tryz.f41) (c := bodyOf Tryz.f41) (env_ok 0) mixed (by kernel_rfl) (by kernel_rfl) (by kernel_rfl) (by kernel_rfl) (by kernel_rfl) (by kernel_rfl) rfl ?_
    conv => whnf
    intro hlen
    replace hlen : (dcs l).length * 72 ≤ 140737488355328 := hlen
    conv => whnf
    repeat ((first | refine aI rfl ?_ | refine aI (by decide) ?_ | refine dI (by kernel_rfl) ?_ | refine aI ⟨by omega, by omega⟩ ?_ | refine aI (by omega) ?_ | refine aI (fun _ => ⟨by omega, by omega⟩) ?_ | refine aI (of_decide_eq_true rfl) ?_ | (refine yI ?_ ?_; focus (first | decide | (simp; done) | (simp [tcs]; done))) | (refine nI ?_ ?_; focus (first | decide | (simp; done) | (simp [tcs]; done))) | intro _); conv => whnf)
    rw [e]
    (refine ⟨fun h => absurd h ?_, fun _ => ?_⟩; (focus (first | decide | (simp; done) | (simp [tcs]; done))); conv => whnf)
    repeat ((first | refine aI rfl ?_ | refine aI (by decide) ?_ | refine dI (by kernel_rfl) ?_ | refine aI ⟨by omega, by omega⟩ ?_ | refine aI (by omega) ?_ | refine aI (fun _ => ⟨by omega, by omega⟩) ?_ | refine aI (of_decide_eq_true rfl) ?_ | (refine yI ?_ ?_; focus (first | decide | (simp; done) | (simp [tcs]; done))) | (refine nI ?_ ?_; focus (first | decide | (simp; done) | (simp [tcs]; done))) | intro _); conv => whnf)
    refine loop_intro (fun k tm H => ∃ j : Nat, l.length = k + j ∧ allEq sameD (l.drop j) (m.drop j) = allEq sameD l m ∧ tm = [(17, .c (.int .i64 (j))), (16, .c (.int .i64 ((dcs l).length))), (15, .c (.sl 6 72 (dcs l))), (1, .c (.sl 6 72 (dcs m))), (2, .fn 42 [])] ∧ H = [])
      l.length _ _ ⟨0, by omega, rfl, rfl, rfl⟩ (Wk.sl [] rfl trivial ⟨rfl, rfl, rfl, rfl, rfl, trivial⟩ rfl) ?_
    rintro k tm H ⟨j, hj, hR, rfl, rfl⟩
    conv => whnf
    refine ⟨fun hc => ?_, fun hc => ?_⟩
    · replace hc : (j : Int) < (dcs l).length := of_decide_eq_true hc
      obtain ⟨a, ha⟩ : ∃ a, l[j]? = some a := ⟨l[j]'(by omega), List.getElem?_eq_getElem (by omega)⟩
      obtain ⟨b, hb⟩ : ∃ b, m[j]? = some b := ⟨m[j]'(by omega), List.getElem?_eq_getElem (by omega)⟩
      have hac := dcs_at ha
      have hbc := dcs_at hb
      have hs := cSameD a b
      rw [allEq_drop sameD ha hb] at hR
      generalize sameD a b = q at *
      obtain ⟨s1, ⟨k1, l1, n1, us⟩, i1⟩ := a
      obtain ⟨s2, ⟨k2, l2, n2, vs⟩, i2⟩ := b
      conv => whnf
      refine ⟨_, ⟨by omega, by simpa using hac⟩, ?_⟩
      conv => whnf
      refine ⟨Nat.le_refl 6, ?_⟩
      conv => whnf
      repeat ((first | refine aI rfl ?_ | refine aI (by decide) ?_ | refine dI (by kernel_rfl) ?_ | refine aI ⟨by omega, by omega⟩ ?_ | refine aI (by omega) ?_ | refine aI (fun _ => ⟨by omega, by omega⟩) ?_ | refine aI (of_decide_eq_true rfl) ?_ | (refine yI ?_ ?_; focus (first | decide | (simp; done) | (simp [tcs]; done))) | (refine nI ?_ ?_; focus (first | decide | (simp; done) | (simp [tcs]; done))) | intro _); conv => whnf)
      refine ⟨_, ⟨by omega, by simpa using hbc⟩, ?_⟩
      conv => whnf
      refine ⟨Nat.le_refl 6, ?_⟩
      conv => whnf
      repeat ((first | refine aI rfl ?_ | refine aI (by decide) ?_ | refine dI (by kernel_rfl) ?_ | refine aI ⟨by omega, by omega⟩ ?_ | refine aI (by omega) ?_ | refine aI (fun _ => ⟨by omega, by omega⟩) ?_ | refine aI (of_decide_eq_true rfl) ?_ | (refine yI ?_ ?_; focus (first | decide | (simp; done) | (simp [tcs]; done))) | (refine nI ?_ ?_; focus (first | decide | (simp; done) | (simp [tcs]; done))) | intro _); conv => whnf)
      try (refine dI (by kernel_rfl) ?_; conv => whnf)
      first | refine CallSt.use hs [] trivial (by decide) rfl ?_ | refine CallPt.useS hs [] trivial (by decide) rfl ?_
      rintro _ _ ⟨rfl, rfl⟩ _
      conv => whnf
      cases q with
      | false =>
        (refine ⟨fun _ => ?_, fun h => absurd h ?_⟩; rotate_left; (focus (first | decide | (simp; done) | (simp [tcs]; done))); conv => whnf)
        rw [← hR]
        repeat ((first | refine aI rfl ?_ | refine aI (by decide) ?_ | refine dI (by kernel_rfl) ?_ | refine aI ⟨by omega, by omega⟩ ?_ | refine aI (by omega) ?_ | refine aI (fun _ => ⟨by omega, by omega⟩) ?_ | refine aI (of_decide_eq_true rfl) ?_ | (refine yI ?_ ?_; focus (first | decide | (simp; done) | (simp [tcs]; done))) | (refine nI ?_ ?_; focus (first | decide | (simp; done) | (simp [tcs]; done))) | intro _); conv => whnf)
        all_goals (first | rfl | exact ⟨rfl, rfl⟩ | exact ⟨rfl, rfl, rfl⟩)
      | true =>
        (refine ⟨fun h => absurd h ?_, fun _ => ?_⟩; (focus (first | decide | (simp; done) | (simp [tcs]; done))); conv => whnf)
        repeat ((first | refine aI rfl ?_ | refine aI (by decide) ?_ | refine dI (by kernel_rfl) ?_ | refine aI ⟨by omega, by omega⟩ ?_ | refine aI (by omega) ?_ | refine aI (fun _ => ⟨by omega, by omega⟩) ?_ | refine aI (of_decide_eq_true rfl) ?_ | (refine yI ?_ ?_; focus (first | decide | (simp; done) | (simp [tcs]; done))) | (refine nI ?_ ?_; focus (first | decide | (simp; done) | (simp [tcs]; done))) | intro _); conv => whnf)
        refine ⟨k - 1, _, _, by omega, ⟨j + 1, by omega, by simpa using hR, rfl, rfl⟩, Wk.sl [] rfl trivial ⟨rfl, rfl, rfl, rfl, rfl, trivial⟩ rfl⟩
    · replace hc : ¬ (j : Int) < (dcs l).length := of_decide_eq_false hc
      rw [List.drop_eq_nil_of_le (by omega), List.drop_eq_nil_of_le (by omega), allEq] at hR
      rw [← hR]
      conv => whnf
      repeat ((first | refine aI rfl ?_ | refine aI (by decide) ?_ | refine dI (by kernel_rfl) ?_ | refine aI ⟨by omega, by omega⟩ ?_ | refine aI (by omega) ?_ | refine aI (fun _ => ⟨by omega, by omega⟩) ?_ | refine aI (of_decide_eq_true rfl) ?_ | (refine yI ?_ ?_; focus (first | decide | (simp; done) | (simp [tcs]; done))) | (refine nI ?_ ?_; focus (first | decide | (simp; done) | (simp [tcs]; done))) | intro _); conv => whnf)
      all_goals (first | rfl | exact ⟨rfl, rfl⟩ | exact ⟨rfl, rfl, rfl⟩)
  · have e : (!decide (((dcs l).length : Int) = (dcs m).length)) = true := by rw [decide_eq_false (by omega)]; rfl
    rw [allEq_len sameD l m hn]
    refine call_pure (E := env 0) (fn := Tryz.f41) (c := bodyOf Tryz.f41) (env_ok 0) mixed (by kernel_rfl) (by kernel_rfl) (by kernel_rfl) (by kernel_rfl) (by kernel_rfl) (by kernel_rfl) rfl ?_
    conv => whnf
    repeat ((first | refine aI rfl ?_ | refine aI (by decide) ?_ | refine dI (by kernel_rfl) ?_ | refine aI ⟨by omega, by omega⟩ ?_ | refine aI (by omega) ?_ | refine aI (fun _ => ⟨by omega, by omega⟩) ?_ | refine aI (of_decide_eq_true rfl) ?_ | (refine yI ?_ ?_; focus (first | decide | (simp; done) | (simp [tcs]; done))) | (refine nI ?_ ?_; focus (first | decide | (simp; done) | (simp [tcs]; done))) | intro _); conv => whnf)
    rw [e]
    (refine ⟨fun _ => ?_, fun h => absurd h ?_⟩; rotate_left; (focus (first | decide | (simp; done) | (simp [tcs]; done))); conv => whnf)
    repeat ((first | refine aI rfl ?_ | refine aI (by decide) ?_ | refine dI (by kernel_rfl) ?_ | refine aI ⟨by omega, by omega⟩ ?_ | refine aI (by omega) ?_ | refine aI (fun _ => ⟨by omega, by omega⟩) ?_ | refine aI (of_decide_eq_true rfl) ?_ | (refine yI ?_ ?_; focus (first | decide | (simp; done) | (simp [tcs]; done))) | (refine nI ?_ ?_; focus (first | decide | (simp; done) | (simp [tcs]; done))) | intro _); conv => whnf)
    all_goals (first | rfl | exact ⟨rfl, rfl⟩ | exact ⟨rfl, rfl, rfl⟩)
end Go.Tr
/- cert.Same. -/
namespace Go.Tr
open Go.Proofs
def sameC (c d : Crt) : Bool := allEq sameD c.S d.S && allEq sameT c.X d.X && sameT c.o d.o && sameT c.c d.c
theorem cSameC (c d : Crt) : CallSt Tryz.prog 18 [crv c, crv d] [] (fun r H' => r = .c (.bool (sameC c d)) ∧ H' = []) := by
  have h1 := cEqD c.S d.S
  have h2 := cEqT c.X d.X
  have h3 := c22 c.o d.o
  have h4 := c22 c.c d.c
  have e : sameC c d = (allEq sameD c.S d.S && allEq sameT c.X d.X && sameT c.o d.o && sameT c.c d.c) := rfl
  rw [e]
  clear e
  generalize allEq sameD c.S d.S = b1 at *
  generalize allEq sameT c.X d.X = b2 at *
  generalize sameT c.o d.o = b3 at *
  generalize sameT c.c d.c = b4 at *
  obtain ⟨S, X, ⟨k, l, n, ts⟩, ⟨k2, l2, n2, us⟩⟩ := c
  obtain ⟨S', X', ⟨k', l', n', ts'⟩, ⟨k2', l2', n2', us'⟩⟩ := d
  unfold crv at *
  dsimp only [Term.k, Term.l, Term.n, Term.ts] at *
  rw [tv_mk, tv_mk] at h3 h4
  refine call_pure (E := env 0) (fn := Tryz.f18) (c := bodyOf Tryz.f18) (env_ok 0) mixed (by kernel_rfl) (by kernel_rfl) (by kernel_rfl) (by kernel_rfl) (by kernel_rfl) (by kernel_rfl) rfl ?_
  conv => whnf
  try (refine dI (by kernel_rfl) ?_; conv => whnf)
  first | refine CallSt.use h1 [] trivial (by decide) rfl ?_ | refine CallPt.useS h1 [] trivial (by decide) rfl ?_
  rintro _ _ ⟨rfl, rfl⟩ _
  conv => whnf
  repeat ((first | refine aI rfl ?_ | refine aI (by decide) ?_ | refine dI (by kernel_rfl) ?_ | refine aI ⟨by omega, by omega⟩ ?_ | refine aI (by omega) ?_ | refine aI (fun _ => ⟨by omega, by omega⟩) ?_ | refine aI (of_decide_eq_true rfl) ?_ | (refine yI ?_ ?_; focus (first | decide | (simp; done) | (simp [tcs]; done))) | (refine nI ?_ ?_; focus (first | decide | (simp; done) | (simp [tcs]; done))) | intro _); conv => whnf)
  cases b1 with
  | false =>
    repeat ((first | refine aI rfl ?_ | refine aI (by decide) ?_ | refine dI (by kernel_rfl) ?_ | refine aI ⟨by omega, by omega⟩ ?_ | refine aI (by omega) ?_ | refine aI (fun _ => ⟨by omega, by omega⟩) ?_ | refine aI (of_decide_eq_true rfl) ?_ | (refine yI ?_ ?_; focus (first | decide | (simp; done) | (simp [tcs]; done))) | (refine nI ?_ ?_; focus (first | decide | (simp; done) | (simp [tcs]; done))) | intro _); conv => whnf)
    all_goals (first | rfl | exact ⟨rfl, rfl⟩ | exact ⟨rfl, rfl, rfl⟩)
  | true =>
    repeat ((first | refine aI rfl ?_ | refine aI (by decide) ?_ | refine dI (by kernel_rfl) ?_ | refine aI ⟨by omega, by omega⟩ ?_ | refine aI (by omega) ?_ | refine aI (fun _ => ⟨by omega, by omega⟩) ?_ | refine aI (of_decide_eq_true rfl) ?_ | (refine yI ?_ ?_; focus (first | decide | (simp; done) | (simp [tcs]; done))) | (refine nI ?_ ?_; focus (first | decide | (simp; done) | (simp [tcs]; done))) | intro _); conv => whnf)
    try (refine dI (by kernel_rfl) ?_; conv => whnf)
    first | refine CallSt.use h2 [] trivial (by decide) rfl ?_ | refine CallPt.useS h2 [] trivial (by decide) rfl ?_
    rintro _ _ ⟨rfl, rfl⟩ _
    conv => whnf
    repeat ((first | refine aI rfl ?_ | refine aI (by decide) ?_ | refine dI (by kernel_rfl) ?_ | refine aI ⟨by omega, by omega⟩ ?_ | refine aI (by omega) ?_ | refine aI (fun _ => ⟨by omega, by omega⟩) ?_ | refine aI (of_decide_eq_true rfl) ?_ | (refine yI ?_ ?_; focus (first | decide | (simp; done) | (simp [tcs]; done))) | (refine nI ?_ ?_; focus (first | decide | (simp; done) | (simp [tcs]; done))) | intro _); conv => whnf)
    cases b2 with
    | false =>
      repeat ((first | refine aI rfl ?_ | refine aI (by decide) ?_ | refine dI (by kernel_rfl) ?_ | refine aI ⟨by omega, by omega⟩ ?_ | refine aI (by omega) ?_ | refine aI (fun _ => ⟨by omega, by omega⟩) ?_ | refine aI (of_decide_eq_true rfl) ?_ | (refine yI ?_ ?_; focus (first | decide | (simp; done) | (simp [tcs]; done))) | (refine nI ?_ ?_; focus (first | decide | (simp; done) | (simp [tcs]; done))) | intro _); conv => whnf)
      all_goals (first | rfl | exact ⟨rfl, rfl⟩ | exact ⟨rfl, rfl, rfl⟩)
    | true =>
      repeat ((first | refine aI rfl ?_ | refine aI (by decide) ?_ | refine dI (by kernel_rfl) ?_ | refine aI ⟨by omega, by omega⟩ ?_ | refine aI (by omega) ?_ | refine aI (fun _ => ⟨by omega, by omega⟩) ?_ | refine aI (of_decide_eq_true rfl) ?_ | (refine yI ?_ ?_; focus (first | decide | (simp; done) | (simp [tcs]; done))) | (refine nI ?_ ?_; focus (first | decide | (simp; done) | (simp [tcs]; done))) | intro _); conv => whnf)
      try (refine dI (by kernel_rfl) ?_; conv => whnf)
      first | refine CallSt.use h3 [] trivial (by decide) rfl ?_ | refine CallPt.useS h3 [] trivial (by decide) rfl ?_
      rintro _ _ ⟨rfl, rfl⟩ _
      conv => whnf
      repeat ((first | refine aI rfl ?_ | refine aI (by decide) ?_ | refine dI (by kernel_rfl) ?_ | refine aI ⟨by omega, by omega⟩ ?_ | refine aI (by omega) ?_ | refine aI (fun _ => ⟨by omega, by omega⟩) ?_ | refine aI (of_decide_eq_true rfl) ?_ | (refine yI ?_ ?_; focus (first | decide | (simp; done) | (simp [tcs]; done))) | (refine nI ?_ ?_; focus (first | decide | (simp; done) | (simp [tcs]; done))) | intro _); conv => whnf)
      cases b3 with
      | false =>
        repeat ((first | refine aI rfl ?_ | refine aI (by decide) ?_ | refine dI (by kernel_rfl) ?_ | refine aI ⟨by omega, by omega⟩ ?_ | refine aI (by omega) ?_ | refine aI (fun _ => ⟨by omega, by omega⟩) ?_ | refine aI (of_decide_eq_true rfl) ?_ | (refine yI ?_ ?_; focus (first | decide | (simp; done) | (simp [tcs]; done))) | (refine nI ?_ ?_; focus (first | decide | (simp; done) | (simp [tcs]; done))) | intro _); conv => whnf)
        all_goals (first | rfl | exact ⟨rfl, rfl⟩ | exact ⟨rfl, rfl, rfl⟩)
      | true =>
        repeat ((first | refine aI rfl ?_ | refine aI (by decide) ?_ | refine dI (by kernel_rfl) ?_ | refine aI ⟨by omega, by omega⟩ ?_ | refine aI (by omega) ?_ | refine aI (fun _ => ⟨by omega, by omega⟩) ?_ | refine aI (of_decide_eq_true rfl) ?_ | (refine yI ?_ ?_; focus (first | decide | (simp; done) | (simp [tcs]; done))) | (refine nI ?_ ?_; focus (first | decide | (simp; done) | (simp [tcs]; done))) | intro _); conv => whnf)
        try (refine dI (by kernel_rfl) ?_; conv => whnf)
        first | refine CallSt.use h4 [] trivial (by decide) rfl ?_ | refine CallPt.useS h4 [] trivial (by decide) rfl ?_
        rintro _ _ ⟨rfl, rfl⟩ _
        conv => whnf
        cases b4 with
        | false =>
          repeat ((first | refine aI rfl ?_ | refine aI (by decide) ?_ | refine dI (by kernel_rfl) ?_ | refine aI ⟨by omega, by omega⟩ ?_ | refine aI (by omega) ?_ | refine aI (fun _ => ⟨by omega, by omega⟩) ?_ | refine aI (of_decide_eq_true rfl) ?_ | (refine yI ?_ ?_; focus (first | decide | (simp; done) | (simp [tcs]; done))) | (refine nI ?_ ?_; focus (first | decide | (simp; done) | (simp [tcs]; done))) | intro _); conv => whnf)
          all_goals (first | rfl | exact ⟨rfl, rfl⟩ | exact ⟨rfl, rfl, rfl⟩)
        | true =>
          repeat ((first | refine aI rfl ?_ | refine aI (by decide) ?_ | refine dI (by kernel_rfl) ?_ | refine aI ⟨by omega, by omega⟩ ?_ | refine aI (by omega) ?_ | refine aI (fun _ => ⟨by omega, by omega⟩) ?_ | refine aI (of_decide_eq_true rfl) ?_ | (refine yI ?_ ?_; focus (first | decide | (simp; done) | (simp [tcs]; done))) | (refine nI ?_ ?_; focus (first | decide | (simp; done) | (simp [tcs]; done))) | intro _); conv => whnf)
          all_goals (first | rfl | exact ⟨rfl, rfl⟩ | exact ⟨rfl, rfl, rfl⟩)
end Go.Tr
/- Clone, Backward; Pi, kept; Arrow. -/
namespace Go.Tr
open Go.Proofs
end Go.Tr
/- TermBack: the plain law. -/
namespace Go.Tr
open Go.Proofs
end Go.Tr
/- Arrow, Join: both sides. -/
namespace Go.Tr
open Go.Proofs
end Go.Tr
/- Join: both sides. -/
namespace Go.Tr
open Go.Proofs
end Go.Tr
/- Join of the program. -/
namespace Go.Tr
open Go.Proofs
end Go.Tr
/- Split: both sides; SameAll. -/
namespace Go.Tr
open Go.Proofs
theorem c34 (ts us : List Term) : CallSt Tryz.prog 13 [.c (.sl 4 48 (tcs ts)), .c (.sl 4 48 (tcs us))] [] (fun r H' => r = .c (.bool (decide (ts.length = us.length) && sameL ts us)) ∧ H' = []) := by
  have e1 := len_tcs ts
  have e2 := len_tcs us
  refine call_pure (E := env 0) (fn := Tryz.f13) (c := bodyOf Tryz.f13) (env_ok 0) mixed (by kernel_rfl) (by kernel_rfl) (by kernel_rfl) (by kernel_rfl) (by kernel_rfl) (by kernel_rfl) rfl ?_
  conv => whnf
  intro hl1
  conv => whnf
  intro hl2
  clear hl1 hl2
  conv => whnf
  have key : (!decide (((tcs ts).length : Int) = (tcs us).length)) = !decide (ts.length = us.length) := by
    rw [len_tcs, len_tcs]; simp only [Int.natCast_inj]
  refine ⟨fun h => ?_, fun h => ?_⟩
  · replace h := key.symm.trans h
    rw [Bool.not_eq_true'] at h
    rw [h]
    conv => whnf
    repeat ((first | refine aI rfl ?_ | refine aI (by decide) ?_ | refine dI (by kernel_rfl) ?_ | refine aI ⟨by omega, by omega⟩ ?_ | refine aI (by omega) ?_ | refine aI (fun _ => ⟨by omega, by omega⟩) ?_ | refine aI (of_decide_eq_true rfl) ?_ | (refine yI ?_ ?_; focus (first | decide | (simp; done) | (simp [tcs]; done))) | (refine nI ?_ ?_; focus (first | decide | (simp; done) | (simp [tcs]; done)))); conv => whnf)
    all_goals (first | rfl | exact ⟨rfl, rfl⟩ | exact ⟨rfl, rfl, rfl⟩)
  replace h := key.symm.trans h
  rw [Bool.not_eq_false'] at h
  have hle : ts.length = us.length := of_decide_eq_true h
  rw [h, Bool.true_and]
  conv => whnf
  refine loop_intro (fun m tm H => ∃ (i : Nat), ts.length = m + i ∧ sameL (ts.drop i) (us.drop i) = sameL ts us ∧
      tm = [(5, .c (.int .i64 (i))), (0, .c (.sl 4 48 (tcs ts))), (1, .c (.sl 4 48 (tcs us))), (4, .c (.bool false))] ∧ H = [])
      ts.length _ _ ⟨0, by omega, rfl, rfl, rfl⟩ (Wk.sl [] rfl trivial ⟨rfl, rfl, rfl, rfl, trivial⟩ rfl) ?_
  rintro m tm H ⟨i, hi, hR, rfl, rfl⟩
  conv => whnf
  intro hl
  replace hl : (tcs ts).length * 48 ≤ 140737488355328 := hl
  conv => whnf
  refine ⟨fun hc => ?_, fun hc => ?_⟩
  · replace hc : (i : Int) < (tcs ts).length := of_decide_eq_true hc
    have hlt : i < ts.length := by omega
    obtain ⟨u, hu⟩ : ∃ u, ts[i]? = some u := ⟨ts[i], List.getElem?_eq_getElem hlt⟩
    obtain ⟨v, hv⟩ : ∃ v, us[i]? = some v := ⟨us[i], List.getElem?_eq_getElem (by omega)⟩
    have huc := tcs_at ts i u hu
    have hvc := tcs_at us i v hv
    rw [drop_at hu, drop_at hv, sameL] at hR
    have hcc := c23 u v
    generalize sameT u v = b at *
    obtain ⟨k', l', n', us'⟩ := u
    obtain ⟨k3, l3, n3, us3⟩ := v
    conv => whnf
    refine draw_intro true (by kernel_rfl) ?_
    conv => whnf
    refine ⟨_, ⟨by omega, by simpa using huc⟩, ?_⟩
    conv => whnf
    refine ⟨Nat.le_refl 4, ?_⟩
    conv => whnf
    refine ⟨_, ⟨by omega, by simpa using hvc⟩, ?_⟩
    conv => whnf
    refine ⟨Nat.le_refl 4, ?_⟩
    conv => whnf
    cases b with
    | false =>
      rw [Bool.false_and] at hR
      rw [← hR]
      try (refine dI (by kernel_rfl) ?_; conv => whnf)
      first | refine CallSt.use hcc [] trivial (by decide) rfl ?_ | refine CallPt.useS hcc [] trivial (by decide) rfl ?_
      rintro _ _ ⟨rfl, rfl⟩ _
      conv => whnf
      repeat ((first | refine aI rfl ?_ | refine aI (by decide) ?_ | refine dI (by kernel_rfl) ?_ | refine aI ⟨by omega, by omega⟩ ?_ | refine aI (by omega) ?_ | refine aI (fun _ => ⟨by omega, by omega⟩) ?_ | refine aI (of_decide_eq_true rfl) ?_ | (refine yI ?_ ?_; focus (first | decide | (simp; done) | (simp [tcs]; done))) | (refine nI ?_ ?_; focus (first | decide | (simp; done) | (simp [tcs]; done)))); conv => whnf)
      all_goals (first | rfl | exact ⟨rfl, rfl⟩ | exact ⟨rfl, rfl, rfl⟩)
    | true =>
      rw [Bool.true_and] at hR
      try (refine dI (by kernel_rfl) ?_; conv => whnf)
      first | refine CallSt.use hcc [] trivial (by decide) rfl ?_ | refine CallPt.useS hcc [] trivial (by decide) rfl ?_
      rintro _ _ ⟨rfl, rfl⟩ _
      conv => whnf
      first | (refine ⟨fun _ => ?_, fun h => absurd h ?_⟩; rotate_left; (focus (first | decide | (simp; done) | (simp [tcs]; done))); conv => whnf) | (refine ⟨fun h => absurd h ?_, fun _ => ?_⟩; (focus (first | decide | (simp; done) | (simp [tcs]; done))); conv => whnf)
      refine ⟨⟨by omega, by omega⟩, ?_⟩
      conv => whnf
      exact ⟨m - 1, _, _, by omega, ⟨i + 1, by omega, hR, rfl, rfl⟩, Wk.sl [] rfl trivial ⟨rfl, rfl, rfl, rfl, trivial⟩ rfl⟩
  · replace hc : ¬ (i : Int) < (tcs ts).length := of_decide_eq_false hc
    rw [List.drop_eq_nil_of_le (by omega), sameL] at hR
    · rw [← hR]
      conv => whnf
      repeat ((first | refine aI rfl ?_ | refine aI (by decide) ?_ | refine dI (by kernel_rfl) ?_ | refine aI ⟨by omega, by omega⟩ ?_ | refine aI (by omega) ?_ | refine aI (fun _ => ⟨by omega, by omega⟩) ?_ | refine aI (of_decide_eq_true rfl) ?_ | (refine yI ?_ ?_; focus (first | decide | (simp; done) | (simp [tcs]; done))) | (refine nI ?_ ?_; focus (first | decide | (simp; done) | (simp [tcs]; done)))); conv => whnf)
      all_goals (first | rfl | exact ⟨rfl, rfl⟩ | exact ⟨rfl, rfl, rfl⟩)
    · simp
end Go.Tr
/- R19.Same: the plain fact. -/
namespace Go.Tr
open Go.Proofs
theorem sameL_all : ∀ (l m : List Term), (decide (l.length = m.length) && sameL l m) = allEq sameT l m
  | [], [] => by simp [sameL, allEq]
  | [], _ :: _ => by simp [allEq]
  | _ :: _, [] => by simp [allEq]
  | a :: l, b :: m => by
    have := sameL_all l m
    rw [sameL, allEq, ← this]
    simp only [List.length_cons, Nat.add_right_cancel_iff]
    cases sameT a b <;> cases decide (l.length = m.length) <;> simp
end Go.Tr
