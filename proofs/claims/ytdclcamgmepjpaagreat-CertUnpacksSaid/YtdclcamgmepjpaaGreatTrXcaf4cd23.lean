/- What each function computes, and the plain laws of it. -/
import Derived.Test.YtdclcamgmepjpaaGreatTrX7e8fad8f
set_option linter.unusedVariables false
set_option linter.unusedSimpArgs false
set_option linter.unnecessarySimpa false
set_option autoImplicit false
/- The reference: formed, Formed. -/
namespace Go.Tr
open Go.Proofs
def nameIn (l : List Dcl) (s : ByteArray) : Bool := l.any fun e => decide (e.s = s)
theorem nameIn_no {l : List Dcl} {s : ByteArray} (h : ∀ (i : Nat) e, l[i]? = some e → ¬ e.s = s) : nameIn l s = false := by
  unfold nameIn
  rw [List.any_eq_false]
  intro e he
  obtain ⟨i, hi⟩ := List.mem_iff_getElem?.1 he
  simpa using h i e hi
theorem nameIn_yes {l : List Dcl} {s : ByteArray} {i : Nat} {e : Dcl} (hi : l[i]? = some e) (h : e.s = s) : nameIn l s = true := by
  unfold nameIn
  rw [List.any_eq_true]
  exact ⟨e, List.mem_of_getElem? hi, by simpa using h⟩
theorem namesOf_in (l : List Dcl) (s : ByteArray) : (namesOf l (.s s)).getD false = nameIn l s := by
  unfold namesOf nameIn
  simp only
  split <;> simp_all
def formedR (B : List Dcl) (d : Dcl) : Bool := !nameIn B d.s && formedF B d
theorem cRFormed1 (B : List Dcl) (hB : ∀ e ∈ B, prop e.c = true) (hBl : B.length ≤ 1000) (d : Dcl) : CallSt Tryz.prog 51 [.c (.sl 6 72 (dcs B)), dv d] [] (fun r H' => r = .c (.bool (formedR B d)) ∧ H' = []) := by
  have h16 := c16 d.c
  rw [← prop_rprop] at h16
  have hnm : CallSt Tryz.prog 66 [.c (.str d.s)] [] (fun r H' => r = .c (.bool (nameF d.s)) ∧ H' = []) := cRIsNameS d.s
  have hbl := len_dcs B
  cases hn : nameF d.s with
  | false =>
    rw [show formedR B d = false by simp [formedR, formedF, hn]]
    rw [hn] at hnm
    obtain ⟨s, ⟨k, l, n, ts⟩, i⟩ := d
    refine call_pure (E := env 0) (fn := Tryz.f51) (c := bodyOf Tryz.f51) (env_ok 0) mixed (by kernel_rfl) (by kernel_rfl) (by kernel_rfl) (by kernel_rfl) (by kernel_rfl) (by kernel_rfl) rfl ?_
    conv => whnf
    try (refine dI (by kernel_rfl) ?_; conv => whnf)
    first | refine CallSt.use hnm [] trivial (by decide) rfl ?_ | refine CallPt.useS hnm [] trivial (by decide) rfl ?_
    rintro _ _ ⟨rfl, rfl⟩ _
    conv => whnf
    repeat ((first | refine aI rfl ?_ | refine aI (by decide) ?_ | refine dI (by kernel_rfl) ?_ | refine aI ⟨by omega, by omega⟩ ?_ | refine aI (by omega) ?_ | refine aI (fun _ => ⟨by omega, by omega⟩) ?_ | refine aI (of_decide_eq_true rfl) ?_ | (refine yI ?_ ?_; focus (first | decide | (simp; done) | (simp [tcs]; done))) | (refine nI ?_ ?_; focus (first | decide | (simp; done) | (simp [tcs]; done))) | intro _); conv => whnf)
    all_goals (first | rfl | exact ⟨rfl, rfl⟩ | exact ⟨rfl, rfl, rfl⟩)
  | true =>
  rw [hn] at hnm
  cases hp : prop d.c with
  | false =>
    rw [show formedR B d = false by simp [formedR, formedF, hp]]
    rw [hp] at h16
    clear hp
    obtain ⟨s, ⟨k, l, n, ts⟩, i⟩ := d
    rw [tv_mk] at h16
    refine call_pure (E := env 0) (fn := Tryz.f51) (c := bodyOf Tryz.f51) (env_ok 0) mixed (by kernel_rfl) (by kernel_rfl) (by kernel_rfl) (by kernel_rfl) (by kernel_rfl) (by kernel_rfl) rfl ?_
    conv => whnf
    try (refine dI (by kernel_rfl) ?_; conv => whnf)
    first | refine CallSt.use hnm [] trivial (by decide) rfl ?_ | refine CallPt.useS hnm [] trivial (by decide) rfl ?_
    rintro _ _ ⟨rfl, rfl⟩ _
    conv => whnf
    repeat ((first | refine aI rfl ?_ | refine aI (by decide) ?_ | refine dI (by kernel_rfl) ?_ | refine aI ⟨by omega, by omega⟩ ?_ | refine aI (by omega) ?_ | refine aI (fun _ => ⟨by omega, by omega⟩) ?_ | refine aI (of_decide_eq_true rfl) ?_ | (refine yI ?_ ?_; focus (first | decide | (simp; done) | (simp [tcs]; done))) | (refine nI ?_ ?_; focus (first | decide | (simp; done) | (simp [tcs]; done)))); conv => whnf)
    try (refine dI (by kernel_rfl) ?_; conv => whnf)
    first | refine CallSt.use h16 [] trivial (by decide) rfl ?_ | refine CallPt.useS h16 [] trivial (by decide) rfl ?_
    rintro _ _ ⟨rfl, rfl⟩ _
    conv => whnf
    repeat ((first | refine aI rfl ?_ | refine aI (by decide) ?_ | refine dI (by kernel_rfl) ?_ | refine aI ⟨by omega, by omega⟩ ?_ | refine aI (by omega) ?_ | refine aI (fun _ => ⟨by omega, by omega⟩) ?_ | refine aI (of_decide_eq_true rfl) ?_ | (refine yI ?_ ?_; focus (first | decide | (simp; done) | (simp [tcs]; done))) | (refine nI ?_ ?_; focus (first | decide | (simp; done) | (simp [tcs]; done))) | intro _); conv => whnf)
    all_goals (first | rfl | exact ⟨rfl, rfl⟩ | exact ⟨rfl, rfl, rfl⟩)
  | true =>
  rw [hp] at h16
  have hcl := cRClosed d.c B.length hp
  rw [closed_law hp] at hcl
  cases hc : nodesT B.length d.c 0 with
  | false =>
    rw [show formedR B d = false by simp [formedR, formedF, hc]]
    rw [hc] at hcl
    clear hc hp
    obtain ⟨s, ⟨k, l, n, ts⟩, i⟩ := d
    rw [tv_mk] at h16 hcl
    rw [← hbl] at hcl
    refine call_pure (E := env 0) (fn := Tryz.f51) (c := bodyOf Tryz.f51) (env_ok 0) mixed (by kernel_rfl) (by kernel_rfl) (by kernel_rfl) (by kernel_rfl) (by kernel_rfl) (by kernel_rfl) rfl ?_
    conv => whnf
    try (refine dI (by kernel_rfl) ?_; conv => whnf)
    first | refine CallSt.use hnm [] trivial (by decide) rfl ?_ | refine CallPt.useS hnm [] trivial (by decide) rfl ?_
    rintro _ _ ⟨rfl, rfl⟩ _
    conv => whnf
    repeat ((first | refine aI rfl ?_ | refine aI (by decide) ?_ | refine dI (by kernel_rfl) ?_ | refine aI ⟨by omega, by omega⟩ ?_ | refine aI (by omega) ?_ | refine aI (fun _ => ⟨by omega, by omega⟩) ?_ | refine aI (of_decide_eq_true rfl) ?_ | (refine yI ?_ ?_; focus (first | decide | (simp; done) | (simp [tcs]; done))) | (refine nI ?_ ?_; focus (first | decide | (simp; done) | (simp [tcs]; done)))); conv => whnf)
    try (refine dI (by kernel_rfl) ?_; conv => whnf)
    first | refine CallSt.use h16 [] trivial (by decide) rfl ?_ | refine CallPt.useS h16 [] trivial (by decide) rfl ?_
    rintro _ _ ⟨rfl, rfl⟩ _
    conv => whnf
    repeat ((first | refine aI rfl ?_ | refine aI (by decide) ?_ | refine dI (by kernel_rfl) ?_ | refine aI ⟨by omega, by omega⟩ ?_ | refine aI (by omega) ?_ | refine aI (fun _ => ⟨by omega, by omega⟩) ?_ | refine aI (of_decide_eq_true rfl) ?_ | (refine yI ?_ ?_; focus (first | decide | (simp; done) | (simp [tcs]; done))) | (refine nI ?_ ?_; focus (first | decide | (simp; done) | (simp [tcs]; done))) | intro _); conv => whnf)
    try (refine dI (by kernel_rfl) ?_; conv => whnf)
    first | refine CallSt.use hcl [] trivial (by decide) rfl ?_ | refine CallPt.useS hcl [] trivial (by decide) rfl ?_
    rintro _ _ ⟨rfl, rfl⟩ _
    conv => whnf
    repeat ((first | refine aI rfl ?_ | refine aI (by decide) ?_ | refine dI (by kernel_rfl) ?_ | refine aI ⟨by omega, by omega⟩ ?_ | refine aI (by omega) ?_ | refine aI (fun _ => ⟨by omega, by omega⟩) ?_ | refine aI (of_decide_eq_true rfl) ?_ | (refine yI ?_ ?_; focus (first | decide | (simp; done) | (simp [tcs]; done))) | (refine nI ?_ ?_; focus (first | decide | (simp; done) | (simp [tcs]; done))) | intro _); conv => whnf)
    all_goals (first | rfl | exact ⟨rfl, rfl⟩ | exact ⟨rfl, rfl, rfl⟩)
  | true =>
  rw [hc] at hcl
  have hs := c33 d.c 1 (prop_fm1 hp) (by omega)
  have hdl := dom_len d.c 1 (prop_fm1 hp)
  have hR : formedR B d = (!nameIn B d.s && (decide (0 ≤ d.i) && decide (d.i ≤ (domT d.c).1.length) && (kindT d.c || (targOk d.c && kindAt B (domT d.c).2.n)))) := by simp [formedR, formedF, hn, hp, hc]
  have hn0 := @targ_pos d.c hp
  have hn1 := @nodes_targ _ _ hc
  have hkat : ∀ e : Dcl, B[(domT d.c).2.n.toNat]? = some e → kindAt B (domT d.c).2.n = kindT e.c := fun e he => by unfold kindAt; rw [he]
  rw [hR]
  clear hR hc
  unfold kindT targOk at *
  generalize kindAt B (domT d.c).2.n = A at *
  generalize domT d.c = p at *
  clear hp hn
  obtain ⟨L, ⟨k2, l2, n2, ts2⟩⟩ := p
  obtain ⟨s, ⟨k, l, n, ts⟩, i⟩ := d
  dsimp only [Term.k, Term.l, Term.n, Term.ts] at *
  have hln := len_tcs L
  rw [tv_mk] at h16 hcl hs
  rw [tv_mk] at hs
  rw [← hbl] at hcl
  refine call_pure (E := env 0) (fn := Tryz.f51) (c := bodyOf Tryz.f51) (env_ok 0) mixed (by kernel_rfl) (by kernel_rfl) (by kernel_rfl) (by kernel_rfl) (by kernel_rfl) (by kernel_rfl) rfl ?_
  conv => whnf
  try (refine dI (by kernel_rfl) ?_; conv => whnf)
  first | refine CallSt.use hnm [] trivial (by decide) rfl ?_ | refine CallPt.useS hnm [] trivial (by decide) rfl ?_
  rintro _ _ ⟨rfl, rfl⟩ _
  conv => whnf
  repeat ((first | refine aI rfl ?_ | refine aI (by decide) ?_ | refine dI (by kernel_rfl) ?_ | refine aI ⟨by omega, by omega⟩ ?_ | refine aI (by omega) ?_ | refine aI (fun _ => ⟨by omega, by omega⟩) ?_ | refine aI (of_decide_eq_true rfl) ?_ | (refine yI ?_ ?_; focus (first | decide | (simp; done) | (simp [tcs]; done))) | (refine nI ?_ ?_; focus (first | decide | (simp; done) | (simp [tcs]; done)))); conv => whnf)
  try (refine dI (by kernel_rfl) ?_; conv => whnf)
  first | refine CallSt.use h16 [] trivial (by decide) rfl ?_ | refine CallPt.useS h16 [] trivial (by decide) rfl ?_
  rintro _ _ ⟨rfl, rfl⟩ _
  conv => whnf
  repeat ((first | refine aI rfl ?_ | refine aI (by decide) ?_ | refine dI (by kernel_rfl) ?_ | refine aI ⟨by omega, by omega⟩ ?_ | refine aI (by omega) ?_ | refine aI (fun _ => ⟨by omega, by omega⟩) ?_ | refine aI (of_decide_eq_true rfl) ?_ | (refine yI ?_ ?_; focus (first | decide | (simp; done) | (simp [tcs]; done))) | (refine nI ?_ ?_; focus (first | decide | (simp; done) | (simp [tcs]; done))) | intro _); conv => whnf)
  try (refine dI (by kernel_rfl) ?_; conv => whnf)
  first | refine CallSt.use hcl [] trivial (by decide) rfl ?_ | refine CallPt.useS hcl [] trivial (by decide) rfl ?_
  rintro _ _ ⟨rfl, rfl⟩ _
  conv => whnf
  repeat ((first | refine aI rfl ?_ | refine aI (by decide) ?_ | refine dI (by kernel_rfl) ?_ | refine aI ⟨by omega, by omega⟩ ?_ | refine aI (by omega) ?_ | refine aI (fun _ => ⟨by omega, by omega⟩) ?_ | refine aI (of_decide_eq_true rfl) ?_ | (refine yI ?_ ?_; focus (first | decide | (simp; done) | (simp [tcs]; done))) | (refine nI ?_ ?_; focus (first | decide | (simp; done) | (simp [tcs]; done))) | intro _); conv => whnf)
  refine loop_intro (fun m tm H => ∃ j : Nat, B.length = m + j ∧ (∀ (q : Nat) e, q < j → B[q]? = some e → ¬ e.s = s) ∧
      tm = [(29, .c (.int .i64 (j))), (28, .c (.int .i64 ((dcs B).length))), (27, .c (.sl 6 72 (dcs B))), (0, .c (.sl 6 72 (dcs B))), (3, .ptr 0 0)] ∧ H = [.box [.c (.str s), .c (.int .i64 (k)), .c (.int .i64 (l)), .c (.int .i64 (n)), .c (.sl 4 48 (tcs ts)), .c (.int .i64 (i))]])
      B.length _ _ ⟨0, by omega, fun q e hq => absurd hq (by omega), rfl, rfl⟩ (Wk.sl [0] rfl ⟨rfl, trivial⟩ ⟨rfl, rfl, rfl, rfl, rfl, trivial⟩ rfl) ?_
  rintro m tm H ⟨j, hj, hall, rfl, rfl⟩
  conv => whnf
  refine ⟨fun hlt => ?_, fun hlt => ?_⟩
  · replace hlt : (j : Int) < (dcs B).length := of_decide_eq_true hlt
    obtain ⟨e, he⟩ : ∃ e, B[j]? = some e := ⟨B[j]'(by omega), List.getElem?_eq_getElem (by omega)⟩
    have hec := dcs_at he
    have hno : ∀ b, b = decide (e.s = s) → b = false → ∀ (q : Nat) x, q < j + 1 → B[q]? = some x → ¬ x.s = s := fun b hb hf q x hq hx => by
      by_cases hqj : q < j
      · exact hall q x hqj hx
      · obtain rfl : q = j := by omega
        rw [he] at hx
        injection hx with hx
        subst hx
        exact of_decide_eq_false (hb ▸ hf)
    have hyes : e.s = s → nameIn B s = true := fun h => nameIn_yes he h
    obtain ⟨s', ⟨k', l', n', us⟩, i'⟩ := e
    conv => whnf
    refine ⟨_, ⟨by omega, hec⟩, ?_⟩
    conv => whnf
    refine ⟨show 6 ≤ 6 by decide, ?_⟩
    conv => whnf
    refine ⟨fun hsq => ?_, fun hsq => ?_⟩
    · rw [hyes (of_decide_eq_true hsq)]
      repeat ((first | refine aI rfl ?_ | refine aI (by decide) ?_ | refine dI (by kernel_rfl) ?_ | refine aI ⟨by omega, by omega⟩ ?_ | refine aI (by omega) ?_ | refine aI (fun _ => ⟨by omega, by omega⟩) ?_ | refine aI (of_decide_eq_true rfl) ?_ | (refine yI ?_ ?_; focus (first | decide | (simp; done) | (simp [tcs]; done))) | (refine nI ?_ ?_; focus (first | decide | (simp; done) | (simp [tcs]; done))) | intro _); conv => whnf)
      all_goals (first | rfl | exact ⟨rfl, rfl⟩ | exact ⟨rfl, rfl, rfl⟩)
    · conv => whnf
      refine ⟨⟨by omega, by omega⟩, ?_⟩
      conv => whnf
      exact ⟨m - 1, _, _, by omega, ⟨j + 1, by omega, hno _ rfl hsq, rfl, rfl⟩, Wk.sl [0] rfl ⟨rfl, trivial⟩ ⟨rfl, rfl, rfl, rfl, rfl, trivial⟩ rfl⟩
  · replace hlt : ¬ (j : Int) < (dcs B).length := of_decide_eq_false hlt
    rw [nameIn_no (fun q e he => hall q e (by have := (List.getElem?_eq_some_iff.1 he).1; omega) he)]
    conv => whnf
    try (refine dI (by kernel_rfl) ?_; conv => whnf)
    first | refine CallSt.use hs [] trivial (by decide) rfl ?_ | refine CallPt.useS hs [] trivial (by decide) rfl ?_
    rintro _ _ ⟨rfl, rfl⟩ _
    conv => whnf
    refine ⟨fun hg => ?_, fun hg => ?_⟩
    · have hg' : (decide (k2 = 4) && decide (l2 = 2)) = true := by simpa using hg
      have g0 := hn0 hg'
      have g1 := hn1 hg'
      obtain ⟨e, he⟩ : ∃ e, B[n2.toNat]? = some e := ⟨B[n2.toNat]'(by omega), List.getElem?_eq_getElem (by omega)⟩
      have hf := cRFamily B n2 g0 e he (hB e (List.mem_of_getElem? he))
      have hA : A = kindT e.c := hkat e he
      rw [← hA] at hf
      have h4 : k2 = 4 := by simp at hg'; exact hg'.1
      have h2 : l2 = 2 := by simp at hg'; exact hg'.2
      subst h4 h2
      clear hkat hA hn0 hn1 hg hg' hB
      conv => whnf
      try (refine dI (by kernel_rfl) ?_; conv => whnf)
      first | refine CallSt.use hf [] trivial (by decide) rfl ?_ | refine CallPt.useS hf [] trivial (by decide) rfl ?_
      rintro _ _ ⟨rfl, rfl⟩ _
      conv => whnf
      cases A with
      | false =>
        repeat ((first | refine aI rfl ?_ | refine aI (by decide) ?_ | refine dI (by kernel_rfl) ?_ | refine aI ⟨by omega, by omega⟩ ?_ | refine aI (by omega) ?_ | refine aI (fun _ => ⟨by omega, by omega⟩) ?_ | refine aI (of_decide_eq_true rfl) ?_ | (refine yI ?_ ?_; focus (first | decide | (simp; done) | (simp [tcs]; done))) | (refine nI ?_ ?_; focus (first | decide | (simp; done) | (simp [tcs]; done))) | intro _); conv => whnf)
        refine ⟨congrArg (fun z => AV.c (.bool z)) ?_, rfl⟩
        simp
      | true =>
        repeat ((first | refine aI rfl ?_ | refine aI (by decide) ?_ | refine dI (by kernel_rfl) ?_ | refine aI ⟨by omega, by omega⟩ ?_ | refine aI (by omega) ?_ | refine aI (fun _ => ⟨by omega, by omega⟩) ?_ | refine aI (of_decide_eq_true rfl) ?_ | (refine yI ?_ ?_; focus (first | decide | (simp; done) | (simp [tcs]; done))) | (refine nI ?_ ?_; focus (first | decide | (simp; done) | (simp [tcs]; done))) | intro _); conv => whnf)
        refine ⟨congrArg (fun z => AV.c (.bool z)) ?_, rfl⟩
        rw [hln]
        simp
    · have hg' : (decide (k2 = 4) && decide (l2 = 2)) = false := by simpa using hg
      rw [Bool.and_eq_false_iff, decide_eq_false_iff_not, decide_eq_false_iff_not] at hg'
      conv => whnf
      refine ⟨fun hc => ?_, fun hc => ?_⟩
      · conv => whnf
        simp at hc
        have h2 : ¬ l2 = 2 := hg'.resolve_left (fun h => h hc)
        refine ⟨rfl, rfl, congrArg (fun z => AV.c (.bool z)) ?_, rfl⟩
        simp [hc, h2]
      · conv => whnf
        simp at hc
        repeat ((first | refine aI rfl ?_ | refine aI (by decide) ?_ | refine dI (by kernel_rfl) ?_ | refine aI ⟨by omega, by omega⟩ ?_ | refine aI (by omega) ?_ | refine aI (fun _ => ⟨by omega, by omega⟩) ?_ | refine aI (of_decide_eq_true rfl) ?_ | (refine yI ?_ ?_; focus (first | decide | (simp; done) | (simp [tcs]; done))) | (refine nI ?_ ?_; focus (first | decide | (simp; done) | (simp [tcs]; done))) | intro _); conv => whnf)
        refine ⟨congrArg (fun z => AV.c (.bool z)) ?_, rfl⟩
        rw [hln]
        by_cases h1 : k2 = 1
        · simp [h1]
        · simp [hc, h1]
theorem good_formed (sig : List Dcl) {n : Nat} {d : Dcl} (h : sig[n]? = some d) : goodD sig n = formedR (sig.take n) d := by
  unfold goodD formedR
  rw [h]
  simp only
  rw [namesOf_in]
theorem dcs_take' (sig : List Dcl) (n : Nat) : ((dcs sig).take ((n : Int).toNat)).drop (Int.toNat 0) = dcs (sig.take n) := by
  have h1 : (Int.toNat 0) = 0 := rfl
  rw [Int.toNat_natCast, h1, List.drop_zero]
  simp [dcs]
theorem cRFormed (sig : List Dcl) : CallSt Tryz.prog 27 [.c (.sl 6 72 (dcs sig))] [] (fun r H' => r = .c (.bool (checkB sig)) ∧ H' = []) := by
  have hbl := len_dcs sig
  by_cases hs : sig.length ≤ 100
  · have hcb : checkB sig = (List.range sig.length).all (goodD sig) := by unfold checkB; rw [decide_eq_true hs, Bool.true_and]
    rw [hcb]
    refine call_pure (E := env 0) (fn := Tryz.f27) (c := bodyOf Tryz.f27) (env_ok 0) mixed (by kernel_rfl) (by kernel_rfl) (by kernel_rfl) (by kernel_rfl) (by kernel_rfl) (by kernel_rfl) rfl ?_
    conv => whnf
    refine loop_intro (fun m tm H => ∃ n : Nat, sig.length = m + n ∧ (∀ i, i < n → goodD sig i = true) ∧ tm = [(3, .c (.int .i64 (n))), (0, .c (.sl 6 72 (dcs sig)))] ∧ H = [])
      sig.length _ _ ⟨0, by omega, fun i hi => absurd hi (by omega), rfl, rfl⟩ (Wk.sl [] rfl trivial ⟨rfl, rfl, trivial⟩ rfl) ?_
    rintro m tm H ⟨n, hm, hall, rfl, rfl⟩
    conv => whnf
    intro _
    conv => whnf
    intro _
    conv => whnf
    refine ⟨fun hlt => ?_, fun hlt => ?_⟩
    · have hlt' : (n : Int) < (dcs sig).length := by simp at hlt; omega
      obtain ⟨d, hd⟩ : ∃ d, sig[n]? = some d := ⟨sig[n]'(by omega), List.getElem?_eq_getElem (by omega)⟩
      have hdc := dcs_at hd
      have hf := cRFormed1 (sig.take n) (good_prop hall) (by simp; omega) d
      rw [← good_formed sig hd, ← dcs_take'] at hf
      have hno : goodD sig n = false → (List.range sig.length).all (goodD sig) = false := fun h => by
        rw [List.all_eq_false]
        exact ⟨n, by simp; omega, by rw [h]; simp⟩
      have hnx : goodD sig n = true → ∀ i, i < n + 1 → goodD sig i = true := fun h i hi => by
        by_cases hij : i < n
        · exact hall i hij
        · obtain rfl : i = n := by omega
          exact h
      obtain ⟨s, ⟨k, l, x, ts⟩, i⟩ := d
      dsimp only [dv, Term.k, Term.l, Term.n, Term.ts] at hf
      conv => whnf
      refine draw_intro true (by kernel_rfl) ?_
      conv => whnf
      refine ⟨⟨by omega, by omega, by omega⟩, ?_⟩
      conv => whnf
      refine ⟨_, ⟨by omega, hdc⟩, ?_⟩
      conv => whnf
      refine ⟨show 6 ≤ 6 by decide, ?_⟩
      conv => whnf
      try (refine dI (by kernel_rfl) ?_; conv => whnf)
      first | refine CallSt.use hf [] trivial (by decide) rfl ?_ | refine CallPt.useS hf [] trivial (by decide) rfl ?_
      rintro _ _ ⟨rfl, rfl⟩ _
      conv => whnf
      generalize goodD sig n = b at *
      cases b with
      | false =>
        rw [hno rfl]
        repeat ((first | refine aI rfl ?_ | refine aI (by decide) ?_ | refine dI (by kernel_rfl) ?_ | refine aI ⟨by omega, by omega⟩ ?_ | refine aI (by omega) ?_ | refine aI (fun _ => ⟨by omega, by omega⟩) ?_ | refine aI (of_decide_eq_true rfl) ?_ | (refine yI ?_ ?_; focus (first | decide | (simp; done) | (simp [tcs]; done))) | (refine nI ?_ ?_; focus (first | decide | (simp; done) | (simp [tcs]; done))) | intro _); conv => whnf)
        all_goals (first | rfl | exact ⟨rfl, rfl⟩ | exact ⟨rfl, rfl, rfl⟩)
      | true =>
        (refine ⟨fun h => absurd h ?_, fun _ => ?_⟩; (focus (first | decide | (simp; done) | (simp [tcs]; done))); conv => whnf)
        refine ⟨⟨by omega, by omega⟩, ?_⟩
        conv => whnf
        exact ⟨m - 1, _, _, by omega, ⟨n + 1, by omega, hnx rfl, rfl, rfl⟩, Wk.sl [] rfl trivial ⟨rfl, rfl, trivial⟩ rfl⟩
    · have hge : ¬ (n : Int) < (dcs sig).length := fun h => by
        rw [decide_eq_true h, decide_eq_true (show ((dcs sig).length : Int) ≤ 100 by omega)] at hlt
        cases hlt
      have hall' : (List.range sig.length).all (goodD sig) = decide (((dcs sig).length : Int) ≤ 100) := by
        rw [decide_eq_true (show ((dcs sig).length : Int) ≤ 100 by omega), List.all_eq_true]
        intro i hi
        exact hall i (by simp at hi; omega)
      rw [hall']
      conv => whnf
      repeat ((first | refine aI rfl ?_ | refine aI (by decide) ?_ | refine dI (by kernel_rfl) ?_ | refine aI ⟨by omega, by omega⟩ ?_ | refine aI (by omega) ?_ | refine aI (fun _ => ⟨by omega, by omega⟩) ?_ | refine aI (of_decide_eq_true rfl) ?_ | (refine yI ?_ ?_; focus (first | decide | (simp; done) | (simp [tcs]; done))) | (refine nI ?_ ?_; focus (first | decide | (simp; done) | (simp [tcs]; done))) | intro _); conv => whnf)
      all_goals (first | rfl | exact ⟨rfl, rfl⟩ | exact ⟨rfl, rfl, rfl⟩)
  · rw [show checkB sig = false by unfold checkB; rw [decide_eq_false hs]; rfl]
    refine call_pure (E := env 0) (fn := Tryz.f27) (c := bodyOf Tryz.f27) (env_ok 0) mixed (by kernel_rfl) (by kernel_rfl) (by kernel_rfl) (by kernel_rfl) (by kernel_rfl) (by kernel_rfl) rfl ?_
    conv => whnf
    refine loop_intro (fun m tm H => tm = [(3, .c (.int .i64 (0))), (0, .c (.sl 6 72 (dcs sig)))] ∧ H = []) 0 _ _ ⟨rfl, rfl⟩ (Wk.sl [] rfl trivial ⟨rfl, rfl, trivial⟩ rfl) ?_
    rintro m tm H ⟨rfl, rfl⟩
    conv => whnf
    intro _
    conv => whnf
    intro _
    conv => whnf
    refine ⟨fun hlt => ?_, fun hlt => ?_⟩
    · exfalso
      simp at hlt
      omega
    · conv => whnf
      intro _
      conv => whnf
      rw [show decide (((dcs sig).length : Int) ≤ 100) = false from decide_eq_false (by omega)]
      repeat ((first | refine aI rfl ?_ | refine aI (by decide) ?_ | refine dI (by kernel_rfl) ?_ | refine aI ⟨by omega, by omega⟩ ?_ | refine aI (by omega) ?_ | refine aI (fun _ => ⟨by omega, by omega⟩) ?_ | refine aI (of_decide_eq_true rfl) ?_ | (refine yI ?_ ?_; focus (first | decide | (simp; done) | (simp [tcs]; done))) | (refine nI ?_ ?_; focus (first | decide | (simp; done) | (simp [tcs]; done))) | intro _); conv => whnf)
      all_goals (first | rfl | exact ⟨rfl, rfl⟩ | exact ⟨rfl, rfl, rfl⟩)
end Go.Tr
/- cert: digits of a number. -/
namespace Go.Tr
open Go.Proofs
def u8 (x : Int) : UInt8 := UInt8.ofNat (x % 256).toNat
theorem u8_wrap (x : Int) : IntKind.u8.wrap x = ((u8 x).toNat : Int) := by
  have h1 : IntKind.u8.wrap x = x % 256 := by
    unfold IntKind.wrap
    simp [IntKind.bits, IntKind.signed]
  have h2 : 0 ≤ x % 256 := Int.emod_nonneg _ (by decide)
  have h3 : x % 256 < 256 := Int.emod_lt_of_pos _ (by decide)
  rw [h1, u8]
  simp
  omega
theorem bR_app (l m : List UInt8) : bR (l ++ m) = bR l ++ bR m := by simp [bR]
theorem bR_snoc (l : List UInt8) (x : Int) : bR l ++ [[CV.int .u8 (IntKind.u8.wrap x)]] = bR (l ++ [u8 x]) := by
  rw [bR_app, u8_wrap]
  rfl
def digs (n : Nat) : List UInt8 := if 127 < n then u8 (128 + (n : Int) % 128) :: digs (n / 128) else [u8 n]
theorem digs_big {n : Nat} (h : 127 < n) : digs n = u8 (128 + (n : Int) % 128) :: digs (n / 128) := by rw [digs, if_pos h]
theorem digs_small {n : Nat} (h : ¬ 127 < n) : digs n = [u8 n] := by rw [digs, if_neg h]
theorem digs_pos (n : Nat) : 0 < (digs n).length := by
  rw [digs]
  split <;> simp
theorem digs_len : ∀ (k n : Nat), n < 128 ^ (k + 1) → (digs n).length ≤ k + 1
  | 0, n, h => by
    rw [digs_small (by simp at h; omega)]
    simp
  | k + 1, n, h => by
    by_cases hb : 127 < n
    · rw [digs_big hb, List.length_cons]
      have := digs_len k (n / 128) (by rw [Nat.pow_succ] at h; omega)
      omega
    · rw [digs_small hb]
      simp
theorem cNumber (l : List UInt8) (n : Nat) (hl : l.length + (digs n).length ≤ 1000000000) (hn : n ≤ 4611686018427387904) :
    CallSt Tryz.prog 46 [.own 0, .c (.int .i64 (n))] [.row 5 1 1 (bR l)] (fun r H' => r = .own 1 ∧ H' = [.dead, .row 5 1 1 (bR (l ++ digs n))]) := by
  refine call_wk (E := env 1) (fn := Tryz.f46) (c := bodyOf Tryz.f46) (env_ok 1) mixed (by kernel_rfl) (by kernel_rfl) (by kernel_rfl) (by kernel_rfl) (by kernel_rfl) (by kernel_rfl) rfl false ?_
  conv => whnf
  repeat ((first | refine aI rfl ?_ | refine aI (by decide) ?_ | refine dI (by kernel_rfl) ?_ | refine aI ⟨by omega, by omega⟩ ?_ | refine aI (by omega) ?_ | refine aI (fun _ => ⟨by omega, by omega⟩) ?_ | refine aI (of_decide_eq_true rfl) ?_ | (refine yI ?_ ?_; focus (first | decide | (simp; done) | (simp [tcs]; done))) | (refine nI ?_ ?_; focus (first | decide | (simp; done) | (simp [tcs]; done))) | intro _); conv => whnf)
  refine loop_intro (fun m tm H => ∃ (l' : List UInt8), m ≤ n ∧ l' ++ digs m = l ++ digs n ∧ tm = [(1, .c (.int .i64 (m))), (0, .own 1)] ∧ H = [.dead, .row 5 1 1 (bR l')])
    n _ _ ⟨l, by omega, rfl, rfl, rfl⟩ ?_ ?_
  · refine Wk.trans (Wk.mvtmp 0 0 5 1 1 (bR l) rfl rfl rfl) ?_
    exact Wk.sl [0, 1] rfl ⟨rfl, rfl, trivial⟩ ⟨rfl, rfl, trivial⟩ rfl
  rintro k tm H ⟨l', hk, hd, rfl, rfl⟩
  have hpk := digs_pos k
  have hll : l'.length + (digs k).length ≤ 1000000000 := by rw [← List.length_append, hd, List.length_append]; exact hl
  have hbl := bR_len l'
  have hb1 : ((bR l').length + 1) * 1 ≤ 140737488355328 := by omega
  have hb2 : (bR l').length + 1 ≤ 9223372036854775807 := by omega
  conv => whnf
  refine ⟨fun hc => ?_, fun hc => ?_⟩
  · replace hc : (127 : Int) < k := of_decide_eq_true hc
    have h1 : (k : Int).tmod 128 = (k : Int) % 128 := Int.tmod_eq_emod_of_nonneg (by omega)
    have h2 : (k : Int).tdiv 128 = ((k / 128 : Nat) : Int) := by rw [Int.tdiv_eq_ediv_of_nonneg (by omega)]; omega
    rw [digs_big (by omega)] at hd
    conv => whnf
    refine ⟨show (128 : Int) ≠ 0 by decide, ?_⟩
    conv => whnf
    rw [h1]
    refine ⟨⟨by omega, by omega⟩, ?_⟩
    conv => whnf
    repeat ((first | refine aI rfl ?_ | refine aI (by decide) ?_ | refine dI (by kernel_rfl) ?_ | refine aI ⟨by omega, by omega⟩ ?_ | refine aI (by omega) ?_ | refine aI (fun _ => ⟨by omega, by omega⟩) ?_ | refine aI (of_decide_eq_true rfl) ?_ | (refine yI ?_ ?_; focus (first | decide | (simp; done) | (simp [tcs]; done))) | (refine nI ?_ ?_; focus (first | decide | (simp; done) | (simp [tcs]; done))) | intro _); conv => whnf)
    rw [h2]
    refine ⟨⟨by decide, by omega, by omega⟩, ?_⟩
    conv => whnf
    refine ⟨k / 128, _, _, by omega, ⟨l' ++ [u8 (128 + (k : Int) % 128)], by omega, by rw [← hd]; simp, rfl, rfl⟩, Wk.sl [0, 3] rfl ⟨rfl, ?_, trivial⟩ ⟨rfl, rfl, trivial⟩ rfl⟩
    rw [← bR_snoc]
    rfl
  · replace hc : ¬ (127 : Int) < k := of_decide_eq_false hc
    rw [digs_small (by omega)] at hd
    conv => whnf
    repeat ((first | refine aI rfl ?_ | refine aI (by decide) ?_ | refine dI (by kernel_rfl) ?_ | refine aI ⟨by omega, by omega⟩ ?_ | refine aI (by omega) ?_ | refine aI (fun _ => ⟨by omega, by omega⟩) ?_ | refine aI (of_decide_eq_true rfl) ?_ | (refine yI ?_ ?_; focus (first | decide | (simp; done) | (simp [tcs]; done))) | (refine nI ?_ ?_; focus (first | decide | (simp; done) | (simp [tcs]; done))) | intro _); conv => whnf)
    refine ⟨[(4, .own 1)], [.dead, .row 5 1 1 (bR (l ++ digs n))], Wk.sl [0, 3] rfl ⟨rfl, ?_, trivial⟩ ⟨rfl, trivial⟩ rfl, ?_⟩
    · rw [← hd, ← bR_snoc]
      rfl
    conv => whnf
    exact ⟨rfl, rfl⟩
end Go.Tr
/- cert: a list of numbers, a node's key. -/
namespace Go.Tr
open Go.Proofs
def rowN (L : List Nat) : List (List CV) := L.map fun (n : Nat) => [CV.int .i64 (n : Int)]
theorem rowN_len (L : List Nat) : (rowN L).length = L.length := by simp [rowN]
theorem rowN_at {L : List Nat} {i n : Nat} (h : L[i]? = some n) : (rowN L)[i]? = some [.int .i64 (n : Int)] := by simp [rowN, h]
def lstB (g : Nat → List UInt8) (L : List Nat) : List UInt8 := digs L.length ++ L.flatMap g
theorem cList (f : FuncId) (g : Nat → List UInt8) (l : List UInt8) (L : List Nat) (hb : ∀ x ∈ L, (g x).length ≤ 9) (hl : l.length + 9 + 9 * L.length ≤ 900000000)
    (hf : ∀ (l' : List UInt8) (x : Nat), x ∈ L → l'.length ≤ 900000000 → CallSt Tryz.prog f [.own 0, .c (.int .i64 (x))] [.row 5 1 1 (bR l')] (fun r H' => r = .own 1 ∧ H' = [.dead, .row 5 1 1 (bR (l' ++ g x))])) :
    CallSt Tryz.prog 47 [.own 0, .c (.sl 1 8 (rowN L)), .fn f []] [.row 5 1 1 (bR l)] (fun r H' => r = .own 1 ∧ H' = [.dead, .row 5 1 1 (bR (l ++ lstB g L))]) := by
  have hrl := rowN_len L
  have hdl : (digs L.length).length ≤ 9 := digs_len 8 _ (by omega)
  have hn := cNumber l L.length (by omega) (by omega)
  rw [← hrl] at hn
  refine call_wk (E := envK 1) (fn := Tryz.f47) (c := bodyOf Tryz.f47) (envK_ok 1) mixed (by kernel_rfl) (by kernel_rfl) (by kernel_rfl) (by kernel_rfl) (by kernel_rfl) (by kernel_rfl) rfl false ?_
  conv => whnf
  repeat ((first | refine aI rfl ?_ | refine aI (by decide) ?_ | refine dI (by kernel_rfl) ?_ | refine aI ⟨by omega, by omega⟩ ?_ | refine aI (by omega) ?_ | refine aI (fun _ => ⟨by omega, by omega⟩) ?_ | refine aI (of_decide_eq_true rfl) ?_ | (refine yI ?_ ?_; focus (first | decide | (simp; done) | (simp [tcs]; done))) | (refine nI ?_ ?_; focus (first | decide | (simp; done) | (simp [tcs]; done))) | intro _); conv => whnf)
  try (refine dI (by kernel_rfl) ?_; conv => whnf)
  first | refine CallSt.use hn [0] ⟨rfl, trivial⟩ (by decide) rfl ?_ | refine CallPt.useS hn [0] ⟨rfl, trivial⟩ (by decide) rfl ?_
  rintro _ _ ⟨rfl, rfl⟩ _
  conv => whnf
  repeat ((first | refine aI rfl ?_ | refine aI (by decide) ?_ | refine dI (by kernel_rfl) ?_ | refine aI ⟨by omega, by omega⟩ ?_ | refine aI (by omega) ?_ | refine aI (fun _ => ⟨by omega, by omega⟩) ?_ | refine aI (of_decide_eq_true rfl) ?_ | (refine yI ?_ ?_; focus (first | decide | (simp; done) | (simp [tcs]; done))) | (refine nI ?_ ?_; focus (first | decide | (simp; done) | (simp [tcs]; done))) | intro _); conv => whnf)
  refine loop_intro (fun m tm H => ∃ (j : Nat), L.length = m + j ∧ tm = [(15, .c (.int .i64 (j))), (14, .c (.int .i64 ((rowN L).length))), (13, .c (.sl 1 8 (rowN L))), (0, .own 1), (2, .fn f [])] ∧ H = [.dead, .row 5 1 1 (bR (l ++ (digs (rowN L).length ++ (L.take j).flatMap g)))])
    L.length _ _ ⟨0, by omega, rfl, rfl⟩ ?_ ?_
  · refine Wk.sl [0, 1] rfl ⟨rfl, ?_, trivial⟩ ⟨rfl, rfl, rfl, rfl, rfl, trivial⟩ rfl
    exact congrArg (fun z => some (Ent.row 5 1 1 (bR z))) (by simp)
  rintro m tm H ⟨j, hj, rfl, rfl⟩
  conv => whnf
  refine ⟨fun hc => ?_, fun hc => ?_⟩
  · replace hc : (j : Int) < (rowN L).length := of_decide_eq_true hc
    obtain ⟨x, hx⟩ : ∃ x, L[j]? = some x := ⟨L[j]'(by omega), List.getElem?_eq_getElem (by omega)⟩
    have hxr := rowN_at hx
    have hfl : ((L.take j).flatMap g).length ≤ 9 * j := by
      have : ∀ (M : List Nat), (∀ x ∈ M, (g x).length ≤ 9) → (M.flatMap g).length ≤ 9 * M.length := fun M => by
        induction M with
        | nil => intro _; simp
        | cons a M ih =>
          intro h
          have := ih fun x hx => h x (by simp [hx])
          have := h a (by simp)
          simp only [List.flatMap_cons, List.length_append, List.length_cons]
          omega
      have h2 := this (L.take j) fun x hx => hb x (List.mem_of_mem_take hx)
      rw [List.length_take] at h2
      omega
    have hfx := hf (l ++ (digs (rowN L).length ++ (L.take j).flatMap g)) x (List.mem_of_getElem? hx) (by
      simp only [List.length_append]
      rw [hrl]
      omega)
    conv => whnf
    refine ⟨_, ⟨by omega, by simpa using hxr⟩, ?_⟩
    conv => whnf
    refine ⟨Nat.le_refl 1, ?_⟩
    conv => whnf
    try (refine dI (by kernel_rfl) ?_; conv => whnf)
    first | refine CallSt.use hfx [1] ⟨rfl, trivial⟩ (by decide) rfl ?_ | refine CallPt.useS hfx [1] ⟨rfl, trivial⟩ (by decide) rfl ?_
    rintro _ _ ⟨rfl, rfl⟩ _
    conv => whnf
    repeat ((first | refine aI rfl ?_ | refine aI (by decide) ?_ | refine dI (by kernel_rfl) ?_ | refine aI ⟨by omega, by omega⟩ ?_ | refine aI (by omega) ?_ | refine aI (fun _ => ⟨by omega, by omega⟩) ?_ | refine aI (of_decide_eq_true rfl) ?_ | (refine yI ?_ ?_; focus (first | decide | (simp; done) | (simp [tcs]; done))) | (refine nI ?_ ?_; focus (first | decide | (simp; done) | (simp [tcs]; done))) | intro _); conv => whnf)
    refine ⟨m - 1, _, _, by omega, ⟨j + 1, by omega, rfl, rfl⟩, Wk.sl [0, 2] rfl ⟨rfl, ?_, trivial⟩ ⟨rfl, rfl, rfl, rfl, rfl, trivial⟩ rfl⟩
    refine congrArg (fun z => some (Ent.row 5 1 1 (bR z))) ?_
    rw [List.take_add_one, hx]
    simp
  · replace hc : ¬ (j : Int) < (rowN L).length := of_decide_eq_false hc
    obtain rfl : j = L.length := by omega
    conv => whnf
    repeat ((first | refine aI rfl ?_ | refine aI (by decide) ?_ | refine dI (by kernel_rfl) ?_ | refine aI ⟨by omega, by omega⟩ ?_ | refine aI (by omega) ?_ | refine aI (fun _ => ⟨by omega, by omega⟩) ?_ | refine aI (of_decide_eq_true rfl) ?_ | (refine yI ?_ ?_; focus (first | decide | (simp; done) | (simp [tcs]; done))) | (refine nI ?_ ?_; focus (first | decide | (simp; done) | (simp [tcs]; done))) | intro _); conv => whnf)
    refine ⟨[(6, .own 1)], [.dead, .row 5 1 1 (bR (l ++ lstB g L))], Wk.sl [0, 1] rfl ⟨rfl, ?_, trivial⟩ ⟨rfl, trivial⟩ rfl, ?_⟩
    · refine congrArg (fun z => some (Ent.row 5 1 1 (bR z))) ?_
      rw [hrl, List.take_length]
      rfl
    conv => whnf
    exact ⟨rfl, rfl⟩
end Go.Tr
/- cert: a node's key. -/
namespace Go.Tr
open Go.Proofs
theorem digs9 {n : Nat} (h : n ≤ 4611686018427387904) : (digs n).length ≤ 9 := digs_len 8 n (by omega)
def keyB (t : Term) (L : List Nat) : List UInt8 := [u8 (t.k + 8 * t.l)] ++ digs t.n.toNat ++ lstB digs L
theorem cListN (l : List UInt8) (L : List Nat) (hb : ∀ x ∈ L, x ≤ 4611686018427387904) (hl : l.length + 9 + 9 * L.length ≤ 900000000) :
    CallSt Tryz.prog 47 [.own 0, .c (.sl 1 8 (rowN L)), .fn 46 []] [.row 5 1 1 (bR l)] (fun r H' => r = .own 1 ∧ H' = [.dead, .row 5 1 1 (bR (l ++ lstB digs L))]) :=
  cList 46 digs l L (fun x hx => digs9 (hb x hx)) hl fun l' x hx hl' => cNumber l' x (by have := digs9 (hb x hx); omega) (hb x hx)
theorem cKey (t : Term) (L : List Nat) (hk : -1000 ≤ t.k ∧ t.k ≤ 1000) (hd : -1000 ≤ t.l ∧ t.l ≤ 1000) (hn : 0 ≤ t.n ∧ t.n ≤ 4611686018427387904) (hb : ∀ x ∈ L, x ≤ 4611686018427387904) (hl : L.length ≤ 10000000) :
    CallSt Tryz.prog 65 [.agg [.c (.int .i64 (t.k)), .c (.int .i64 (t.l)), .c (.int .i64 (t.n)), .c (.sl 4 48 (tcs t.ts)), .c (.sl 1 8 (rowN L))]] [] (fun r H' => r = .c (.str ⟨(keyB t L).toArray⟩) ∧ H' = []) := by
  obtain ⟨n, hnn⟩ : ∃ n : Nat, t.n = n := ⟨t.n.toNat, by omega⟩
  have e1 : bR [u8 (t.k + 8 * t.l)] = [[CV.int .u8 (IntKind.u8.wrap (t.k + 8 * t.l))]] := by rw [show [u8 (t.k + 8 * t.l)] = [] ++ [u8 (t.k + 8 * t.l)] from rfl, ← bR_snoc]; rfl
  have hd9 := digs9 (n := n) (by omega)
  have h1 := cNumber [u8 (t.k + 8 * t.l)] n (by simp; omega) (by omega)
  have h2 := cListN ([u8 (t.k + 8 * t.l)] ++ digs n) L hb (by simp; omega)
  rw [e1] at h1
  have e3 : keyB t L = [u8 (t.k + 8 * t.l)] ++ digs n ++ lstB digs L := by rw [keyB, hnn]; rfl
  rw [e3]
  obtain ⟨k, l, n', ts⟩ := t
  simp only [Term.k, Term.l, Term.n, Term.ts] at *
  subst hnn
  refine call_pure (E := envK 0) (fn := Tryz.f65) (c := bodyOf Tryz.f65) (envK_ok 0) mixed (by kernel_rfl) (by kernel_rfl) (by kernel_rfl) (by kernel_rfl) (by kernel_rfl) (by kernel_rfl) rfl ?_
  conv => whnf
  refine ⟨⟨by omega, by omega⟩, ?_⟩
  conv => whnf
  refine ⟨⟨by omega, by omega⟩, ?_⟩
  conv => whnf
  repeat ((first | refine aI rfl ?_ | refine aI (by decide) ?_ | refine dI (by kernel_rfl) ?_ | refine aI ⟨by omega, by omega⟩ ?_ | refine aI (by omega) ?_ | refine aI (fun _ => ⟨by omega, by omega⟩) ?_ | refine aI (of_decide_eq_true rfl) ?_ | (refine yI ?_ ?_; focus (first | decide | (simp; done) | (simp [tcs]; done))) | (refine nI ?_ ?_; focus (first | decide | (simp; done) | (simp [tcs]; done))) | intro _); conv => whnf)
  try (refine dI (by kernel_rfl) ?_; conv => whnf)
  first | refine CallSt.use h1 [1] ⟨rfl, trivial⟩ (by decide) rfl ?_ | refine CallPt.useS h1 [1] ⟨rfl, trivial⟩ (by decide) rfl ?_
  rintro _ _ ⟨rfl, rfl⟩ _
  conv => whnf
  repeat ((first | refine aI rfl ?_ | refine aI (by decide) ?_ | refine dI (by kernel_rfl) ?_ | refine aI ⟨by omega, by omega⟩ ?_ | refine aI (by omega) ?_ | refine aI (fun _ => ⟨by omega, by omega⟩) ?_ | refine aI (of_decide_eq_true rfl) ?_ | (refine yI ?_ ?_; focus (first | decide | (simp; done) | (simp [tcs]; done))) | (refine nI ?_ ?_; focus (first | decide | (simp; done) | (simp [tcs]; done))) | intro _); conv => whnf)
  try (refine dI (by kernel_rfl) ?_; conv => whnf)
  first | refine CallSt.use h2 [2] ⟨rfl, trivial⟩ (by decide) rfl ?_ | refine CallPt.useS h2 [2] ⟨rfl, trivial⟩ (by decide) rfl ?_
  rintro _ _ ⟨rfl, rfl⟩ _
  conv => whnf
  repeat ((first | refine aI rfl ?_ | refine aI (by decide) ?_ | refine dI (by kernel_rfl) ?_ | refine aI ⟨by omega, by omega⟩ ?_ | refine aI (by omega) ?_ | refine aI (fun _ => ⟨by omega, by omega⟩) ?_ | refine aI (of_decide_eq_true rfl) ?_ | (refine yI ?_ ?_; focus (first | decide | (simp; done) | (simp [tcs]; done))) | (refine nI ?_ ?_; focus (first | decide | (simp; done) | (simp [tcs]; done))) | intro _); conv => whnf)
  refine ⟨_, rfl, ?_⟩
  conv => whnf
  repeat ((first | refine aI rfl ?_ | refine aI (by decide) ?_ | refine dI (by kernel_rfl) ?_ | refine aI ⟨by omega, by omega⟩ ?_ | refine aI (by omega) ?_ | refine aI (fun _ => ⟨by omega, by omega⟩) ?_ | refine aI (of_decide_eq_true rfl) ?_ | (refine yI ?_ ?_; focus (first | decide | (simp; done) | (simp [tcs]; done))) | (refine nI ?_ ?_; focus (first | decide | (simp; done) | (simp [tcs]; done))) | intro _); conv => whnf)
  all_goals (first | rfl | exact ⟨rfl, rfl⟩ | exact ⟨rfl, rfl, rfl⟩)
end Go.Tr
/- cert: the list of nodes, plain. -/
namespace Go.Tr
open Go.Proofs
instance : DecidableEq Term := fun a b => decidable_of_iff (sameT a b = true) (sameT_iff a b)
theorem u8_toNat (x : Int) : ((u8 x).toNat : Int) = x % 256 := by
  rw [← u8_wrap]
  unfold IntKind.wrap
  simp [IntKind.bits, IntKind.signed]
theorem digs_inj : ∀ (a b : Nat) (x y : List UInt8), digs a ++ x = digs b ++ y → a = b ∧ x = y := by
  intro a
  induction a using Nat.strongRecOn with
  | _ a ih =>
  intro b x y h
  by_cases ha : 127 < a
  · by_cases hb : 127 < b
    · rw [digs_big ha, digs_big hb, List.cons_append, List.cons_append, List.cons.injEq] at h
      obtain ⟨h1, h2⟩ := h
      obtain ⟨h3, h4⟩ := ih (a / 128) (by omega) (b / 128) x y h2
      have h5 := congrArg (fun z : UInt8 => (z.toNat : Int)) h1
      simp only [u8_toNat] at h5
      exact ⟨by omega, h4⟩
    · rw [digs_big ha, digs_small hb, List.cons_append, List.singleton_append, List.cons.injEq] at h
      have h5 := congrArg (fun z : UInt8 => (z.toNat : Int)) h.1
      simp only [u8_toNat] at h5
      omega
  · by_cases hb : 127 < b
    · rw [digs_small ha, digs_big hb, List.singleton_append, List.cons_append, List.cons.injEq] at h
      have h5 := congrArg (fun z : UInt8 => (z.toNat : Int)) h.1
      simp only [u8_toNat] at h5
      omega
    · rw [digs_small ha, digs_small hb, List.singleton_append, List.singleton_append, List.cons.injEq] at h
      have h5 := congrArg (fun z : UInt8 => (z.toNat : Int)) h.1
      simp only [u8_toNat] at h5
      exact ⟨by omega, h.2⟩
theorem flat_inj : ∀ (L M : List Nat), L.length = M.length → L.flatMap digs = M.flatMap digs → L = M
  | [], [], _, _ => rfl
  | [], _ :: _, h, _ => by simp at h
  | _ :: _, [], h, _ => by simp at h
  | a :: L, b :: M, h, he => by
    simp only [List.flatMap_cons] at he
    obtain ⟨h1, h2⟩ := digs_inj _ _ _ _ he
    rw [h1, flat_inj L M (by simpa using h) h2]
theorem lst_inj {L M : List Nat} (h : lstB digs L = lstB digs M) : L = M := by
  unfold lstB at h
  obtain ⟨h1, h2⟩ := digs_inj _ _ _ _ h
  exact flat_inj L M h1 h2
theorem key_inj {t u : Term} {L M : List Nat} (h1 : 0 ≤ t.k ∧ t.k < 8 ∧ 0 ≤ t.l ∧ t.l < 32 ∧ 0 ≤ t.n) (h2 : 0 ≤ u.k ∧ u.k < 8 ∧ 0 ≤ u.l ∧ u.l < 32 ∧ 0 ≤ u.n) (h : keyB t L = keyB u M) : t.k = u.k ∧ t.l = u.l ∧ t.n = u.n ∧ L = M := by
  unfold keyB at h
  rw [List.append_assoc, List.append_assoc, List.singleton_append, List.singleton_append, List.cons.injEq] at h
  obtain ⟨h3, h4⟩ := h
  obtain ⟨h5, h6⟩ := digs_inj _ _ _ _ h4
  have h7 := congrArg (fun z : UInt8 => (z.toNat : Int)) h3
  simp only [u8_toNat] at h7
  exact ⟨by omega, by omega, by omega, lst_inj h6⟩
def wf (t : Term) : Prop := ∃ d, fmT t d = true
theorem fmL_mem : ∀ (ts : List Term) (d : Int), fmL ts d = true → ∀ u ∈ ts, fmT u (d + 1) = true
  | [], _, _, u, hu => by cases hu
  | t :: r, d, h, u, hu => by
    simp only [fmL, Bool.and_eq_true] at h
    rcases List.mem_cons.1 hu with rfl | hu
    · exact h.1
    · exact fmL_mem r d h.2 u hu
theorem wf_kid {t u : Term} (h : wf t) (hu : u ∈ t.ts) : wf u := by
  obtain ⟨d, h⟩ := h
  obtain ⟨k, l, n, ts⟩ := t
  simp only [fmT, Bool.and_eq_true] at h
  exact ⟨d + 1, fmL_mem ts d h.2 u hu⟩
theorem wf_node {t : Term} (h : wf t) : 0 ≤ t.k ∧ t.k < 8 ∧ 0 ≤ t.l ∧ t.l < 32 ∧ 0 ≤ t.n ∧ t.n ≤ 9999 := by
  obtain ⟨d, h⟩ := h
  obtain ⟨k, l, n, ts⟩ := t
  simp only [fmT, Bool.and_eq_true] at h
  have h := h.1.2
  simp only [Term.k, Term.l, Term.n]
  unfold fmB at h
  split at h
  · simp at h; omega
  · split at h
    · simp at h; omega
    · split at h
      · simp at h; omega
      · split at h
        · simp at h; omega
        · cases h
theorem wf_prop {t : Term} (h : prop t = true) : wf t := ⟨1, prop_fm1 h⟩
def pl (B : List Term) (t : Term) : Nat := B.findIdx fun u => decide (u = t)
theorem pl_lt {B : List Term} {t : Term} (h : t ∈ B) : pl B t < B.length := by
  unfold pl
  exact List.findIdx_lt_length_of_exists ⟨t, h, by simp⟩
theorem pl_at {B : List Term} {t : Term} (h : t ∈ B) : B[pl B t]? = some t := by
  have hl := pl_lt h
  have h2 : decide (B[pl B t] = t) = true := List.findIdx_getElem (p := fun u => decide (u = t)) (w := hl)
  rw [List.getElem?_eq_getElem hl, of_decide_eq_true h2]
theorem pl_inj {B : List Term} {t u : Term} (ht : t ∈ B) (hu : u ∈ B) (h : pl B t = pl B u) : t = u := by
  have h1 := pl_at ht
  rw [h, pl_at hu] at h1
  injection h1 with h1
  exact h1.symm
theorem pl_app {B C : List Term} {t : Term} (h : t ∈ B) : pl (B ++ C) t = pl B t := by
  unfold pl
  rw [List.findIdx_append, if_pos]
  exact List.findIdx_lt_length_of_exists ⟨t, h, by simp⟩
theorem pl_of {B : List Term} (hn : B.Nodup) {i : Nat} {t : Term} (h : B[i]? = some t) : pl B t = i := by
  have hm := List.mem_of_getElem? h
  have h1 := pl_at hm
  have hi := (List.getElem?_eq_some_iff.1 h).1
  have h2 := pl_lt hm
  rw [List.getElem?_eq_getElem h2] at h1
  rw [List.getElem?_eq_getElem hi] at h
  injection h1 with h1
  injection h with h
  exact (List.getElem_inj hn).1 (h1.trans h.symm)
theorem pl_snoc {B : List Term} {t : Term} (h : t ∉ B) : pl (B ++ [t]) t = B.length := by
  unfold pl
  rw [List.findIdx_append, if_neg]
  · simp
  · intro hl
    have h2 := List.findIdx_getElem (p := fun u => decide (u = t)) (w := hl)
    exact h (by rw [← of_decide_eq_true h2]; exact List.getElem_mem _)
mutual
def adT : Term → List Term → List Term
  | .mk k l n ts, B => if .mk k l n ts ∈ adL ts B then adL ts B else adL ts B ++ [.mk k l n ts]
def adL : List Term → List Term → List Term
  | [], B => B
  | t :: r, B => adL r (adT t B)
end
structure Good (B : List Term) : Prop where
  nd : B.Nodup
  lo : ∀ (i : Nat) t, B[i]? = some t → ∀ u ∈ t.ts, ∃ j, j < i ∧ B[j]? = some u
  wf : ∀ t ∈ B, wf t
theorem Good.nil : Good [] := ⟨List.nodup_nil, fun i t h => by simp at h, fun t h => by cases h⟩
theorem Good.kid {B : List Term} (h : Good B) {t u : Term} (ht : t ∈ B) (hu : u ∈ t.ts) : u ∈ B := by
  obtain ⟨i, hi⟩ := List.mem_iff_getElem?.1 ht
  obtain ⟨j, _, hj⟩ := h.lo i t hi u hu
  exact List.mem_of_getElem? hj
theorem Good.snoc {B : List Term} (h : Good B) {t : Term} (ht : t ∉ B) (hk : ∀ u ∈ t.ts, u ∈ B) (hw : Go.Tr.wf t) : Good (B ++ [t]) := by
  refine ⟨?_, fun i u hi v hv => ?_, fun u hu => ?_⟩
  · rw [List.nodup_append]
    exact ⟨h.nd, by simp, fun a ha b hb => by simp at hb; subst hb; exact fun e => ht (e ▸ ha)⟩
  · rcases Nat.lt_or_ge i B.length with hl | hl
    · rw [List.getElem?_append_left hl] at hi
      obtain ⟨j, hj, h2⟩ := h.lo i u hi v hv
      exact ⟨j, hj, by rw [List.getElem?_append_left (by omega)]; exact h2⟩
    · rw [List.getElem?_append_right hl] at hi
      have h0 : i - B.length = 0 := by
        rcases Nat.eq_zero_or_pos (i - B.length) with h0 | h0
        · exact h0
        · rw [List.getElem?_eq_none (by simp; omega)] at hi
          cases hi
      rw [h0] at hi
      simp at hi
      subst hi
      have hm := hk v hv
      have hl2 := pl_lt hm
      exact ⟨pl B v, by omega, by rw [List.getElem?_append_left hl2]; exact pl_at hm⟩
  · rcases List.mem_append.1 hu with hu | hu
    · exact h.wf u hu
    · simp at hu
      subst hu
      exact hw
mutual
theorem adT_spec : ∀ (t : Term) (B : List Term), Good B → Go.Tr.wf t → Good (adT t B) ∧ B <+: adT t B ∧ t ∈ adT t B ∧ ((adT t B).length : Int) ≤ B.length + szT t
  | .mk k l n ts, B, hg, hw => by
    obtain ⟨h1, h2, h3, h4⟩ := adL_spec ts B hg fun u hu => wf_kid hw hu
    rw [adT, szT]
    split
    · rename_i hm
      exact ⟨h1, h2, hm, by omega⟩
    · rename_i hm
      refine ⟨h1.snoc hm h3 hw, h2.trans (List.prefix_append _ _), by simp, ?_⟩
      simp only [List.length_append, List.length_singleton]
      omega
theorem adL_spec : ∀ (ts : List Term) (B : List Term), Good B → (∀ t ∈ ts, Go.Tr.wf t) → Good (adL ts B) ∧ B <+: adL ts B ∧ (∀ t ∈ ts, t ∈ adL ts B) ∧ ((adL ts B).length : Int) ≤ B.length + szL ts
  | [], B, hg, _ => by
    rw [adL, szL]
    exact ⟨hg, List.prefix_refl _, fun t ht => (by cases ht), by omega⟩
  | t :: r, B, hg, hw => by
    obtain ⟨h1, h2, h3, h4⟩ := adT_spec t B hg (hw t (by simp))
    obtain ⟨g1, g2, g3, g4⟩ := adL_spec r (adT t B) h1 fun u hu => hw u (by simp [hu])
    rw [adL, szL]
    refine ⟨g1, h2.trans g2, fun u hu => ?_, by omega⟩
    rcases List.mem_cons.1 hu with rfl | hu
    · exact g2.subset h3
    · exact g3 u hu
end
end Go.Tr
/- cert: the nodes' cells, the map; add. -/
namespace Go.Tr
open Go.Proofs
def kd (B : List Term) (t : Term) : List Nat := t.ts.map (pl B)
def ndc (B : List Term) (t : Term) : List CV := [.int .i64 t.k, .int .i64 t.l, .int .i64 t.n, .sl 4 48 (tcs t.ts), .sl 1 8 (rowN (kd B t))]
def nds (B : List Term) : List (List CV) := B.map (ndc B)
theorem nds_len (B : List Term) : (nds B).length = B.length := by simp [nds]
theorem kd_app {B C : List Term} {t : Term} (h : ∀ u ∈ t.ts, u ∈ B) : kd (B ++ C) t = kd B t := by
  unfold kd
  exact List.map_congr_left fun u hu => pl_app (h u hu)
theorem nds_snoc {B : List Term} (hg : Good B) {t : Term} (hk : ∀ u ∈ t.ts, u ∈ B) : nds (B ++ [t]) = nds B ++ [ndc B t] := by
  unfold nds
  rw [List.map_append]
  congr 1
  · refine List.map_congr_left fun u hu => ?_
    unfold ndc
    rw [kd_app fun v hv => hg.kid hu hv]
  · simp only [List.map_cons, List.map_nil]
    unfold ndc
    rw [kd_app hk]
def keyS (B : List Term) (t : Term) : ByteArray := ⟨(keyB t (kd B t)).toArray⟩
theorem keyS_inj {B : List Term} {t u : Term} (ht : wf t) (hu : wf u) (kt : ∀ v ∈ t.ts, v ∈ B) (ku : ∀ v ∈ u.ts, v ∈ B) (h : keyS B t = keyS B u) : t = u := by
  have h1 : keyB t (kd B t) = keyB u (kd B u) := by
    unfold keyS at h
    injection h with h
    simpa using h
  obtain ⟨a1, a2, a3, a4, a5, _⟩ := wf_node ht
  obtain ⟨b1, b2, b3, b4, b5, _⟩ := wf_node hu
  obtain ⟨e1, e2, e3, e4⟩ := key_inj ⟨a1, a2, a3, a4, a5⟩ ⟨b1, b2, b3, b4, b5⟩ h1
  have key : ∀ (ts us : List Term), (∀ v ∈ ts, v ∈ B) → (∀ v ∈ us, v ∈ B) → ts.map (pl B) = us.map (pl B) → ts = us := fun ts => by
    induction ts with
    | nil =>
      intro us _ _ h
      cases us with
      | nil => rfl
      | cons _ _ => simp at h
    | cons a r ih =>
      intro us h1 h2 h
      cases us with
      | nil => simp at h
      | cons b s =>
        simp only [List.map_cons, List.cons.injEq] at h
        rw [pl_inj (h1 a (by simp)) (h2 b (by simp)) h.1, ih s (fun v hv => h1 v (by simp [hv])) (fun v hv => h2 v (by simp [hv])) h.2]
  have e5 := key t.ts u.ts kt ku e4
  obtain ⟨k, l, n, ts⟩ := t
  obtain ⟨k', l', n', us⟩ := u
  simp only [Term.k, Term.l, Term.n, Term.ts] at e1 e2 e3 e5
  subst e1 e2 e3 e5
  rfl
def atF (B : List Term) : KV → Option Int := fun q => match q with
  | .s b => (B.findIdx? fun t => decide (keyS B t = b)).map fun (n : Nat) => (n : Int)
  | .i _ => none
theorem atF_nil : atF [] = fun _ => none := by funext q; cases q <;> simp [atF]
theorem atF_in {B : List Term} (hg : Good B) {t : Term} (ht : t ∈ B) : atF B (.s (keyS B t)) = some (pl B t : Int) := by
  have hw := hg.wf t ht
  have : (B.findIdx? fun u => decide (keyS B u = keyS B t)) = some (pl B t) := by
    rw [List.findIdx?_eq_some_iff_getElem]
    refine ⟨pl_lt ht, ?_, fun j hj => ?_⟩
    · have := pl_at ht
      rw [List.getElem?_eq_getElem (pl_lt ht)] at this
      injection this with this
      rw [this]
      simp
    · have hjl : j < B.length := by have := pl_lt ht; omega
      simp only [decide_eq_true_eq]
      intro e
      have hm := List.getElem_mem hjl
      have h2 := keyS_inj (hg.wf _ hm) hw (fun v hv => hg.kid hm hv) (fun v hv => hg.kid ht hv) e
      have h3 := pl_of hg.nd (i := j) (t := t) (by rw [List.getElem?_eq_getElem hjl, h2])
      omega
  simp [atF, this]
theorem atF_out {B : List Term} (hg : Good B) {t : Term} (ht : t ∉ B) (hw : wf t) (hk : ∀ u ∈ t.ts, u ∈ B) : atF B (.s (keyS B t)) = none := by
  have : (B.findIdx? fun u => decide (keyS B u = keyS B t)) = none := by
    rw [List.findIdx?_eq_none_iff]
    intro u hu
    rw [decide_eq_false_iff_not]
    intro e
    exact ht (keyS_inj (hg.wf u hu) hw (fun v hv => hg.kid hu hv) hk e ▸ hu)
  simp [atF, this]
theorem keyS_app {B C : List Term} {t : Term} (h : ∀ u ∈ t.ts, u ∈ B) : keyS (B ++ C) t = keyS B t := by unfold keyS; rw [kd_app h]
theorem atF_snoc {B : List Term} (hg : Good B) {t : Term} (ht : t ∉ B) (hw : wf t) (hk : ∀ u ∈ t.ts, u ∈ B) : mput (atF B) (.s (keyS B t)) (B.length : Int) = atF (B ++ [t]) := by
  funext q
  cases q with
  | i n => simp [mput, atF]
  | s b =>
    have e1 : (B.findIdx? fun u => decide (keyS (B ++ [t]) u = b)) = B.findIdx? fun u => decide (keyS B u = b) := by
      have : ∀ (C : List Term), (∀ u ∈ C, u ∈ B) → (C.findIdx? fun u => decide (keyS (B ++ [t]) u = b)) = C.findIdx? fun u => decide (keyS B u = b) := fun C => by
        induction C with
        | nil => intro _; rfl
        | cons a C ih =>
          intro h
          rw [List.findIdx?_cons, List.findIdx?_cons, keyS_app fun v hv => hg.kid (h a (by simp)) hv, ih fun u hu => h u (by simp [hu])]
      exact this B fun u hu => hu
    unfold mput atF
    simp only [List.findIdx?_append, e1]
    by_cases hb : keyS B t = b
    · subst hb
      have h0 := atF_out hg ht hw hk
      simp only [atF, Option.map_eq_none_iff] at h0
      rw [h0, if_pos rfl]
      simp [keyS_app hk]
    · rw [if_neg (by intro h; injection h with h; exact hb h.symm)]
      simp [keyS_app hk, hb]
end Go.Tr
/- cert: add. -/
namespace Go.Tr
open Go.Proofs
theorem szL_take : ∀ (ts : List Term) (j : Nat) (u : Term), ts[j]? = some u → szL (ts.take (j + 1)) = szL (ts.take j) + szT u
  | [], _, _, h => by simp at h
  | t :: r, 0, u, h => by
    simp at h
    subst h
    simp [szL]
  | t :: r, j + 1, u, h => by
    have := szL_take r j u (by simpa using h)
    simp only [List.take_succ_cons, szL, this]
    omega
theorem adL_take : ∀ (ts : List Term) (j : Nat) (u : Term) (B : List Term), ts[j]? = some u → adL (ts.take (j + 1)) B = adT u (adL (ts.take j) B)
  | [], _, _, _, h => by simp at h
  | t :: r, 0, u, B, h => by
    simp at h
    subst h
    simp [adL]
  | t :: r, j + 1, u, B, h => by
    have := adL_take r j u (adT t B) (by simpa using h)
    simp only [List.take_succ_cons, adL, this]
theorem szL_le_take : ∀ (ts : List Term) (j : Nat), szL (ts.take j) ≤ szL ts
  | [], j => by simp
  | t :: r, 0 => by
    have := szT_pos t
    have := szL_pos r
    simp only [List.take_zero, szL]
    omega
  | t :: r, j + 1 => by
    have := szL_le_take r j
    simp only [List.take_succ_cons, szL]
    omega
theorem szL_len : ∀ ts : List Term, (ts.length : Int) ≤ szL ts
  | [] => by simp [szL]
  | t :: r => by
    have := szL_len r
    have := szT_pos t
    simp only [szL, List.length_cons]
    omega
theorem rowN_map_snoc {L : List Nat} {x : Nat} : rowN L ++ [[CV.int .i64 (x : Int)]] = rowN (L ++ [x]) := by simp [rowN]
theorem cAddN (t : Term) : ∀ (B : List Term) (a : Int), Good B → wf t → B.length + szT t ≤ 1000000 → 0 ≤ a ∧ a + szT t ≤ 1000000000 →
    CallSt Tryz.prog 50 [.ptr 0 0, tv t] [.box [.own 1, .mpv 2, .c (.int .i64 (a))], .row 62 5 72 (nds B), .mp true (.n (atF B))]
      (fun r H' => r = .c (.int .i64 ((pl (adT t B) t : Nat))) ∧ H' = [.box [.own 3, .mpv 2, .c (.int .i64 (a + szT t))], .dead, .mp true (.n (atF (adT t B))), .row 62 5 72 (nds (adT t B))]) := by
  induction t using Term.ind with
  | _ t ih =>
  intro B a hg hw hs ha
  obtain ⟨k, l, n, ts⟩ := t
  replace ih : ∀ u, u ∈ ts → _ := ih
  have hwn := wf_node hw
  simp only [Term.k, Term.l, Term.n] at hwn
  have hsz : szT (.mk k l n ts) = 1 + szL ts := by rw [szT]
  rw [hsz] at hs ha
  have hln := len_tcs ts
  have hsl := szL_len ts
  rw [tv_mk]
  refine call_wk (E := env 3) (fn := Tryz.f50) (c := bodyOf Tryz.f50) (env_ok 3) mixed (by kernel_rfl) (by kernel_rfl) (by kernel_rfl) (by kernel_rfl) (by kernel_rfl) (by kernel_rfl) rfl false ?_
  conv => whnf
  repeat ((first | refine aI rfl ?_ | refine aI (by decide) ?_ | refine dI (by kernel_rfl) ?_ | refine aI ⟨by omega, by omega⟩ ?_ | refine aI (by omega) ?_ | refine aI (fun _ => ⟨by omega, by omega⟩) ?_ | refine aI (of_decide_eq_true rfl) ?_ | (refine yI ?_ ?_; focus (first | decide | (simp; done) | (simp [tcs]; done))) | (refine nI ?_ ?_; focus (first | decide | (simp; done) | (simp [tcs]; done))) | intro _); conv => whnf)
  refine loop_intro (fun m tm H => ∃ (j : Nat) (B' : List Term) (a' : Int), ts.length = m + j ∧ B' = adL (ts.take j) B ∧ a' = a + szL (ts.take j) ∧
      tm = [(17, .c (.int .i64 (j))), (16, .c (.int .i64 ((tcs ts).length))), (15, .c (.sl 4 48 (tcs ts))), (0, .ptr 0 0), (3, .ptr 3 0), (5, .ptr 5 0)] ∧
      H = [.box [.own 4, .mpv 2, .c (.int .i64 (a'))], .dead, .mp true (.n (atF B')), .box [.c (.int .i64 (k)), .c (.int .i64 (l)), .c (.int .i64 (n)), .c (.sl 4 48 (tcs ts))], .row 62 5 72 (nds B'),
        .box [.c (.int .i64 (k)), .c (.int .i64 (l)), .c (.int .i64 (n)), .c (.sl 4 48 (tcs ts)), .own 6], .row 3 1 8 (rowN ((ts.take j).map (pl B')))])
    ts.length _ _ ⟨0, B, a, by omega, by simp [adL], by simp [szL], rfl, rfl⟩ ?_ ?_
  · refine Wk.trans (Wk.mvbox 0 0 1 62 5 72 (nds B) rfl rfl rfl rfl) ?_
    refine Wk.trans (Wk.nilrow (i := 4) (j := 4) 3 1 8 rfl rfl rfl) ?_
    exact Wk.sl [0, 1, 2, 3, 5, 4, 6] rfl ⟨rfl, rfl, rfl, rfl, rfl, rfl, rfl, trivial⟩ ⟨rfl, rfl, rfl, rfl, rfl, rfl, trivial⟩ rfl
  rintro m tm H ⟨j, B', a', hj, hB, ha', rfl, rfl⟩
  obtain ⟨g1, g2, g3, g4⟩ := adL_spec (ts.take j) B hg fun u hu => wf_kid hw (List.mem_of_mem_take hu)
  rw [← hB] at g1 g2 g3 g4
  have hle := szL_le_take ts j
  have hnn := szL_pos (ts.take j)
  conv => whnf
  refine ⟨fun hc => ?_, fun hc => ?_⟩
  · replace hc : (j : Int) < (tcs ts).length := of_decide_eq_true hc
    obtain ⟨u, hu⟩ : ∃ u, ts[j]? = some u := ⟨ts[j]'(by omega), List.getElem?_eq_getElem (by omega)⟩
    have hm := List.mem_of_getElem? hu
    have huc := tcs_at ts j u hu
    have hst := szL_take ts j u hu
    have hle2 := szL_le_take ts (j + 1)
    have hup := szT_pos u
    have hi := ih u hm B' a' g1 (wf_kid hw hm) (by omega) (by omega)
    obtain ⟨q1, q2, q3, q4⟩ := adT_spec u B' g1 (wf_kid hw hm)
    have hmp : (ts.take (j + 1)).map (pl (adT u B')) = (ts.take j).map (pl B') ++ [pl (adT u B') u] := by
      rw [List.take_add_one, hu, List.map_append]
      congr 1
      obtain ⟨C, hC⟩ := q2
      rw [← hC]
      exact List.map_congr_left fun v hv => pl_app (g3 v hv)
    have hBn : adT u B' = adL (ts.take (j + 1)) B := by rw [adL_take ts j u B hu, ← hB]
    have hul : (List.map (pl B') (ts.take j)).length ≤ 1000000 := by rw [List.length_map, List.length_take]; omega
    have hrl := rowN_len ((ts.take j).map (pl B'))
    have hb1 : ((rowN ((ts.take j).map (pl B'))).length + 1) * 8 ≤ 140737488355328 := by omega
    have hb2 : (rowN ((ts.take j).map (pl B'))).length + 1 ≤ 9223372036854775807 := by omega
    generalize adT u B' = B2 at *
    obtain ⟨k', l', n', us⟩ := u
    rw [tv_mk] at hi
    conv => whnf
    refine ⟨_, ⟨by omega, by simpa using huc⟩, ?_⟩
    conv => whnf
    refine ⟨Nat.le_refl 4, ?_⟩
    conv => whnf
    repeat ((first | refine aI rfl ?_ | refine aI (by decide) ?_ | refine dI (by kernel_rfl) ?_ | refine aI ⟨by omega, by omega⟩ ?_ | refine aI (by omega) ?_ | refine aI (fun _ => ⟨by omega, by omega⟩) ?_ | refine aI (of_decide_eq_true rfl) ?_ | (refine yI ?_ ?_; focus (first | decide | (simp; done) | (simp [tcs]; done))) | (refine nI ?_ ?_; focus (first | decide | (simp; done) | (simp [tcs]; done))) | intro _); conv => whnf)
    try (refine dI (by kernel_rfl) ?_; conv => whnf)
    first | refine CallSt.use hi [0, 4, 2] ⟨rfl, rfl, rfl, trivial⟩ (by decide) rfl ?_ | refine CallPt.useS hi [0, 4, 2] ⟨rfl, rfl, rfl, trivial⟩ (by decide) rfl ?_
    rintro _ _ ⟨rfl, rfl⟩ _
    conv => whnf
    repeat ((first | refine aI rfl ?_ | refine aI (by decide) ?_ | refine dI (by kernel_rfl) ?_ | refine aI ⟨by omega, by omega⟩ ?_ | refine aI (by omega) ?_ | refine aI (fun _ => ⟨by omega, by omega⟩) ?_ | refine aI (of_decide_eq_true rfl) ?_ | (refine yI ?_ ?_; focus (first | decide | (simp; done) | (simp [tcs]; done))) | (refine nI ?_ ?_; focus (first | decide | (simp; done) | (simp [tcs]; done))) | intro _); conv => whnf)
    refine ⟨m - 1, _, _, by omega, ⟨j + 1, B2, a' + szT (.mk k' l' n' us), by omega, hBn, by omega, rfl, rfl⟩, Wk.sl [0, 1, 2, 3, 8, 5, 10] rfl ⟨rfl, rfl, rfl, rfl, rfl, rfl, ?_, trivial⟩ ⟨rfl, rfl, rfl, rfl, rfl, rfl, trivial⟩ rfl⟩
    rw [hmp, ← rowN_map_snoc]
    rfl
  · replace hc : ¬ (j : Int) < (tcs ts).length := of_decide_eq_false hc
    obtain rfl : j = ts.length := by omega
    rw [List.take_length] at hB ha' g3 g4 hnn ⊢
    have hkids : ∀ u ∈ ts, u ∈ B' := g3
    have hkey := cKey (.mk k l n ts) (kd B' (.mk k l n ts)) (by simp only [Term.k]; omega) (by simp only [Term.l]; omega) (by simp only [Term.n]; omega) (fun x hx => by
      obtain ⟨u, hu, rfl⟩ := List.mem_map.1 hx
      have := pl_lt (hkids u hu)
      omega) (by simp only [kd, List.length_map, Term.ts]; omega)
    have hks : (⟨(keyB (.mk k l n ts) (kd B' (.mk k l n ts))).toArray⟩ : ByteArray) = keyS B' (.mk k l n ts) := rfl
    rw [hks] at hkey
    simp only [Term.k, Term.l, Term.n, Term.ts] at hkey
    have hkd : kd B' (.mk k l n ts) = ts.map (pl B') := rfl
    rw [hkd] at hkey
    have hnl := nds_len B'
    by_cases hT : Term.mk k l n ts ∈ B'
    · have hat := atF_in g1 hT
      have e1 : adT (.mk k l n ts) B = B' := by rw [adT, ← hB, if_pos hT]
      rw [e1, hsz]
      generalize keyS B' (.mk k l n ts) = q at *
      generalize pl B' (.mk k l n ts) = p at *
      generalize hF : atF B' = F at *
      conv => whnf
      refine ⟨⟨by omega, by omega⟩, ?_⟩
      conv => whnf
      repeat ((first | refine aI rfl ?_ | refine aI (by decide) ?_ | refine dI (by kernel_rfl) ?_ | refine aI ⟨by omega, by omega⟩ ?_ | refine aI (by omega) ?_ | refine aI (fun _ => ⟨by omega, by omega⟩) ?_ | refine aI (of_decide_eq_true rfl) ?_ | (refine yI ?_ ?_; focus (first | decide | (simp; done) | (simp [tcs]; done))) | (refine nI ?_ ?_; focus (first | decide | (simp; done) | (simp [tcs]; done))) | intro _); conv => whnf)
      try (refine dI (by kernel_rfl) ?_; conv => whnf)
      first | refine CallSt.use hkey [] trivial (by decide) rfl ?_ | refine CallPt.useS hkey [] trivial (by decide) rfl ?_
      rintro _ _ ⟨rfl, rfl⟩ _
      conv => whnf
      repeat ((first | refine aI rfl ?_ | refine aI (by decide) ?_ | refine dI (by kernel_rfl) ?_ | refine aI ⟨by omega, by omega⟩ ?_ | refine aI (by omega) ?_ | refine aI (fun _ => ⟨by omega, by omega⟩) ?_ | refine aI (of_decide_eq_true rfl) ?_ | (refine yI ?_ ?_; focus (first | decide | (simp; done) | (simp [tcs]; done))) | (refine nI ?_ ?_; focus (first | decide | (simp; done) | (simp [tcs]; done))) | intro _); conv => whnf)
      rw [hat]
      conv => whnf
      repeat ((first | refine aI rfl ?_ | refine aI (by decide) ?_ | refine dI (by kernel_rfl) ?_ | refine aI ⟨by omega, by omega⟩ ?_ | refine aI (by omega) ?_ | refine aI (fun _ => ⟨by omega, by omega⟩) ?_ | refine aI (of_decide_eq_true rfl) ?_ | (refine yI ?_ ?_; focus (first | decide | (simp; done) | (simp [tcs]; done))) | (refine nI ?_ ?_; focus (first | decide | (simp; done) | (simp [tcs]; done))) | intro _); conv => whnf)
      refine ⟨[(4, .c (.int .i64 ((p : Nat))))], [.box [.own 3, .mpv 2, .c (.int .i64 (a + (1 + szL ts)))], .dead, .mp true (.n F), .row 62 5 72 (nds B')], Wk.sl [0, 1, 2, 4] rfl ⟨?_, rfl, rfl, rfl, trivial⟩ ⟨rfl, trivial⟩ rfl, ?_⟩
      · exact congrArg (fun z => some (Ent.box [.own 4, .mpv 2, .c (.int .i64 z)])) (by omega)
      conv => whnf
      exact ⟨rfl, rfl⟩
    · have hat := atF_out g1 hT hw hkids
      have hsn := atF_snoc g1 hT hw hkids
      have hns := nds_snoc g1 (t := .mk k l n ts) hkids
      have e1 : adT (.mk k l n ts) B = B' ++ [.mk k l n ts] := by rw [adT, ← hB, if_neg hT]
      have e2 : pl (B' ++ [.mk k l n ts]) (.mk k l n ts) = B'.length := pl_snoc hT
      have hb1 : ((nds B').length + 1) * 72 ≤ 140737488355328 := by omega
      have hb2 : (nds B').length + 1 ≤ 9223372036854775807 := by omega
      have hrl2 := rowN_len (ts.map (pl B'))
      have hnd : ndc B' (.mk k l n ts) = [.int .i64 k, .int .i64 l, .int .i64 n, .sl 4 48 (tcs ts), .sl 1 8 (rowN (ts.map (pl B')))] := rfl
      rw [e1, e2, hsz]
      rw [hns, hnd, ← hsn, ← hnl]
      generalize keyS B' (.mk k l n ts) = q at *
      generalize hF : atF B' = F at *
      conv => whnf
      refine ⟨⟨by omega, by omega⟩, ?_⟩
      conv => whnf
      repeat ((first | refine aI rfl ?_ | refine aI (by decide) ?_ | refine dI (by kernel_rfl) ?_ | refine aI ⟨by omega, by omega⟩ ?_ | refine aI (by omega) ?_ | refine aI (fun _ => ⟨by omega, by omega⟩) ?_ | refine aI (of_decide_eq_true rfl) ?_ | (refine yI ?_ ?_; focus (first | decide | (simp; done) | (simp [tcs]; done))) | (refine nI ?_ ?_; focus (first | decide | (simp; done) | (simp [tcs]; done))) | intro _); conv => whnf)
      try (refine dI (by kernel_rfl) ?_; conv => whnf)
      first | refine CallSt.use hkey [] trivial (by decide) rfl ?_ | refine CallPt.useS hkey [] trivial (by decide) rfl ?_
      rintro _ _ ⟨rfl, rfl⟩ _
      conv => whnf
      repeat ((first | refine aI rfl ?_ | refine aI (by decide) ?_ | refine dI (by kernel_rfl) ?_ | refine aI ⟨by omega, by omega⟩ ?_ | refine aI (by omega) ?_ | refine aI (fun _ => ⟨by omega, by omega⟩) ?_ | refine aI (of_decide_eq_true rfl) ?_ | (refine yI ?_ ?_; focus (first | decide | (simp; done) | (simp [tcs]; done))) | (refine nI ?_ ?_; focus (first | decide | (simp; done) | (simp [tcs]; done))) | intro _); conv => whnf)
      rw [hat]
      conv => whnf
      repeat ((first | refine aI rfl ?_ | refine aI (by decide) ?_ | refine dI (by kernel_rfl) ?_ | refine aI ⟨by omega, by omega⟩ ?_ | refine aI (by omega) ?_ | refine aI (fun _ => ⟨by omega, by omega⟩) ?_ | refine aI (of_decide_eq_true rfl) ?_ | (refine yI ?_ ?_; focus (first | decide | (simp; done) | (simp [tcs]; done))) | (refine nI ?_ ?_; focus (first | decide | (simp; done) | (simp [tcs]; done))) | intro _); conv => whnf)
      refine ⟨[(4, .c (.int .i64 ((nds B').length)))], [.box [.own 3, .mpv 2, .c (.int .i64 (a + (1 + szL ts)))], .dead, .mp true (.n (mput F (.s q) ((nds B').length : Int))), .row 62 5 72 (nds B' ++ [[.int .i64 k, .int .i64 l, .int .i64 n, .sl 4 48 (tcs ts), .sl 1 8 (rowN (ts.map (pl B')))]])], Wk.sl [0, 1, 2, 8] rfl ⟨?_, rfl, rfl, rfl, trivial⟩ ⟨rfl, trivial⟩ rfl, ?_⟩
      · exact congrArg (fun z => some (Ent.box [.own 8, .mpv 2, .c (.int .i64 z)])) (by omega)
      conv => whnf
      exact ⟨rfl, rfl⟩
end Go.Tr
/- cert: the rounds over a certificate's terms (made by gen103.py). -/
namespace Go.Tr
open Go.Proofs
structure Crt where
  S : List Dcl
  X : List Term
  o : Term
  c : Term
def crv (c : Crt) : AV := .agg [.c (.sl 6 72 (dcs c.S)), .c (.sl 4 48 (tcs c.X)), .c (.int .i64 (c.o.k)), .c (.int .i64 (c.o.l)), .c (.int .i64 (c.o.n)), .c (.sl 4 48 (tcs c.o.ts)), .c (.int .i64 (c.c.k)), .c (.int .i64 (c.c.l)), .c (.int .i64 (c.c.n)), .c (.sl 4 48 (tcs c.c.ts))]
def crl (c : Crt) : List Term := c.S.map (·.c) ++ (c.X ++ [c.o, c.c])
theorem crl_S {c : Crt} {n : Nat} {d : Dcl} (h : c.S[n]? = some d) : (crl c)[n]? = some d.c := by
  have hl := (List.getElem?_eq_some_iff.1 h).1
  rw [crl, List.getElem?_append_left (by simpa using hl), List.getElem?_map, h]
  rfl
theorem crl_X {c : Crt} {n : Nat} {t : Term} (h : c.X[n]? = some t) : (crl c)[c.S.length + n]? = some t := by
  have hl := (List.getElem?_eq_some_iff.1 h).1
  rw [crl, List.getElem?_append_right (by simp), List.length_map, Nat.add_sub_cancel_left, List.getElem?_append_left hl, h]
theorem crl_o (c : Crt) : (crl c)[c.S.length + c.X.length]? = some c.o := by
  rw [crl, List.getElem?_append_right (by simp), List.length_map, Nat.add_sub_cancel_left, List.getElem?_append_right (Nat.le_refl _), Nat.sub_self]
  rfl
theorem crl_c (c : Crt) : (crl c)[c.S.length + c.X.length + 1]? = some c.c := by
  rw [crl, Nat.add_assoc, List.getElem?_append_right (by simp), List.length_map, Nat.add_sub_cancel_left, List.getElem?_append_right (by omega), Nat.add_sub_cancel_left]
  rfl
theorem crl_len (c : Crt) : (crl c).length = c.S.length + c.X.length + 2 := by simp [crl]; omega
theorem cTermsI (c : Crt) : CallSt Tryz.prog 30 [crv c] [] (fun r H' => r = .fn 56 [.ptr 0 0] ∧ H' = [.box [.c (.sl 6 72 (dcs c.S)), .c (.sl 4 48 (tcs c.X)), .c (.int .i64 (c.o.k)), .c (.int .i64 (c.o.l)), .c (.int .i64 (c.o.n)), .c (.sl 4 48 (tcs c.o.ts)), .c (.int .i64 (c.c.k)), .c (.int .i64 (c.c.l)), .c (.int .i64 (c.c.n)), .c (.sl 4 48 (tcs c.c.ts))]]) := by
  obtain ⟨S, X, ⟨k, l, n, ts⟩, ⟨k2, l2, n2, us⟩⟩ := c
  unfold crv
  refine call_intro (E := env 0) (fn := Tryz.f30) (c := bodyOf Tryz.f30) (env_ok 0) mixed (by kernel_rfl) (by kernel_rfl) (by kernel_rfl) (by kernel_rfl) (by kernel_rfl) (by kernel_rfl) rfl ?_
  conv => whnf
  repeat ((first | refine aI rfl ?_ | refine aI (by decide) ?_ | refine dI (by kernel_rfl) ?_ | refine aI ⟨by omega, by omega⟩ ?_ | refine aI (by omega) ?_ | refine aI (fun _ => ⟨by omega, by omega⟩) ?_ | refine aI (of_decide_eq_true rfl) ?_ | (refine yI ?_ ?_; focus (first | decide | (simp; done) | (simp [tcs]; done))) | (refine nI ?_ ?_; focus (first | decide | (simp; done) | (simp [tcs]; done)))); conv => whnf)
  all_goals (first | rfl | exact ⟨rfl, rfl⟩ | exact ⟨rfl, rfl, rfl⟩)
theorem cTermsN {ps : Array Nat} {asg body : Code} (c : Crt) (hS : c.S.length ≤ 100) (hX : c.X.length ≤ 100) (B : Nat → List Term) (a : Nat → Int) (R : Nat → List Nat)
    (hY : ∀ (n : Nat) (t : Term), (crl c)[n]? = some t → YSt Tryz.prog 5 [tv t] [.box [.own 1, .mpv 2, .c (.int .i64 (a n))], .row 62 5 72 (nds (B n)), .mp true (.n (atF (B n))), .box [.own 4], .row 3 1 8 (rowN (R n)), .lrec .ready [(4, .ptr 6 0), (5, .ptr 3 0)] ps asg body, .box [.ptr 0 0]] (fun r H' => r = .c (.bool true) ∧ H' = [.box [.own 7, .mpv 2, .c (.int .i64 (a (n + 1)))], .dead, .mp true (.n (atF (B (n + 1)))), .box [.own 8], .dead, .lrec .ready [(4, .ptr 6 0), (5, .ptr 3 0)] ps asg body, .box [.ptr 0 0], .row 62 5 72 (nds (B (n + 1))), .row 3 1 8 (rowN (R (n + 1)))])) :
    CallSt Tryz.prog 56 [.yv 6, .ptr 0 0] [.box [.c (.sl 6 72 (dcs c.S)), .c (.sl 4 48 (tcs c.X)), .c (.int .i64 (c.o.k)), .c (.int .i64 (c.o.l)), .c (.int .i64 (c.o.n)), .c (.sl 4 48 (tcs c.o.ts)), .c (.int .i64 (c.c.k)), .c (.int .i64 (c.c.l)), .c (.int .i64 (c.c.n)), .c (.sl 4 48 (tcs c.c.ts))], .box [.own 2, .mpv 3, .c (.int .i64 (a 0))], .row 62 5 72 (nds (B 0)), .mp true (.n (atF (B 0))), .box [.own 5], .row 3 1 8 (rowN (R 0)), .lrec .ready [(4, .ptr 7 0), (5, .ptr 4 0)] ps asg body, .box [.ptr 1 0]] (fun r H' => r = .tup [] ∧ H' = [.box [.c (.sl 6 72 (dcs c.S)), .c (.sl 4 48 (tcs c.X)), .c (.int .i64 (c.o.k)), .c (.int .i64 (c.o.l)), .c (.int .i64 (c.o.n)), .c (.sl 4 48 (tcs c.o.ts)), .c (.int .i64 (c.c.k)), .c (.int .i64 (c.c.l)), .c (.int .i64 (c.c.n)), .c (.sl 4 48 (tcs c.c.ts))], .box [.own 8, .mpv 3, .c (.int .i64 (a (crl c).length))], .dead, .mp true (.n (atF (B (crl c).length))), .box [.own 9], .dead, .lrec .ready [(4, .ptr 7 0), (5, .ptr 4 0)] ps asg body, .box [.ptr 1 0], .row 62 5 72 (nds (B (crl c).length)), .row 3 1 8 (rowN (R (crl c).length))]) := by
  have hds := len_dcs c.S
  have hxl := len_tcs c.X
  have hcl := crl_len c
  have hyS := fun n d (h : c.S[n]? = some d) => hY n d.c (crl_S h)
  have hyX := fun n t (h : c.X[n]? = some t) => hY _ t (crl_X h)
  have hyo := hY _ _ (crl_o c)
  have hyc := hY _ _ (crl_c c)
  clear hY
  rw [hcl]
  obtain ⟨S, X, ⟨k, l, n, ts⟩, ⟨k2, l2, n2, us⟩⟩ := c
  dsimp only [Term.k, Term.l, Term.n, Term.ts] at *
  rw [tv_mk] at hyo hyc
  refine call_wk (E := envK 8) (fn := Tryz.f56) (c := bodyOf Tryz.f56) (envK_ok 8) mixed (by kernel_rfl) (by kernel_rfl) (by kernel_rfl) (by kernel_rfl) (by kernel_rfl) (by kernel_rfl) rfl false ?_
  conv => whnf
  repeat ((first | refine aI rfl ?_ | refine aI (by decide) ?_ | refine dI (by kernel_rfl) ?_ | refine aI ⟨by omega, by omega⟩ ?_ | refine aI (by omega) ?_ | refine aI (fun _ => ⟨by omega, by omega⟩) ?_ | refine aI (of_decide_eq_true rfl) ?_ | (refine yI ?_ ?_; focus (first | decide | (simp; done) | (simp [tcs]; done))) | (refine nI ?_ ?_; focus (first | decide | (simp; done) | (simp [tcs]; done))) | intro _); conv => whnf)
  refine loop_intro (fun m tm H => ∃ (j : Nat), S.length = m + j ∧ tm = [(10, .c (.int .i64 (j))), (9, .c (.int .i64 ((dcs S).length))), (8, .c (.sl 6 72 (dcs S))), (0, .yv 6), (1, .ptr 0 0)] ∧ H = [.box [.c (.sl 6 72 (dcs S)), .c (.sl 4 48 (tcs X)), .c (.int .i64 (k)), .c (.int .i64 (l)), .c (.int .i64 (n)), .c (.sl 4 48 (tcs ts)), .c (.int .i64 (k2)), .c (.int .i64 (l2)), .c (.int .i64 (n2)), .c (.sl 4 48 (tcs us))], .box [.own 8, .mpv 3, .c (.int .i64 (a j))], .dead, .mp true (.n (atF (B j))), .box [.own 9], .dead, .lrec .ready [(4, .ptr 7 0), (5, .ptr 4 0)] ps asg body, .box [.ptr 1 0], .row 62 5 72 (nds (B j)), .row 3 1 8 (rowN (R j))])
    S.length _ _ ⟨0, by omega, rfl, rfl⟩ ?_ ?_
  · refine Wk.trans (Wk.mvbox 1 0 2 62 5 72 (nds (B 0)) rfl rfl rfl rfl) ?_
    refine Wk.trans (Wk.mvbox 4 0 5 3 1 8 (rowN (R 0)) rfl rfl rfl rfl) ?_
    exact Wk.sl [0, 1, 2, 3, 4, 5, 6, 7, 8, 9] rfl ⟨rfl, rfl, rfl, rfl, rfl, rfl, rfl, rfl, rfl, rfl, trivial⟩ ⟨rfl, rfl, rfl, rfl, rfl, trivial⟩ rfl
  rintro m tm H ⟨j, hj, rfl, rfl⟩
  conv => whnf
  refine ⟨fun hc => ?_, fun hc => ?_⟩
  · replace hc : (j : Int) < (dcs S).length := of_decide_eq_true hc
    obtain ⟨d, hd⟩ : ∃ d, S[j]? = some d := ⟨S[j]'(by omega), List.getElem?_eq_getElem (by omega)⟩
    have hdc := dcs_at hd
    have hy := hyS j d hd
    obtain ⟨s', ⟨k', l', n', us'⟩, i'⟩ := d
    dsimp only at hy
    rw [tv_mk] at hy
    conv => whnf
    refine ⟨_, ⟨by omega, hdc⟩, ?_⟩
    conv => whnf
    refine ⟨show 6 ≤ 6 by decide, ?_⟩
    conv => whnf
    repeat ((first | refine aI rfl ?_ | refine aI (by decide) ?_ | refine dI (by kernel_rfl) ?_ | refine aI ⟨by omega, by omega⟩ ?_ | refine aI (by omega) ?_ | refine aI (fun _ => ⟨by omega, by omega⟩) ?_ | refine aI (of_decide_eq_true rfl) ?_ | (refine yI ?_ ?_; focus (first | decide | (simp; done) | (simp [tcs]; done))) | (refine nI ?_ ?_; focus (first | decide | (simp; done) | (simp [tcs]; done))) | intro _); conv => whnf)
    try (refine dI (by kernel_rfl) ?_; conv => whnf)
    refine YSt.use hy [1, 8, 3, 4, 9, 6, 7] rfl ⟨rfl, rfl, rfl, rfl, rfl, rfl, rfl, trivial⟩ (by decide) rfl ?_
    rintro _ _ ⟨rfl, rfl⟩ _
    conv => whnf
    repeat ((first | refine aI rfl ?_ | refine aI (by decide) ?_ | refine dI (by kernel_rfl) ?_ | refine aI ⟨by omega, by omega⟩ ?_ | refine aI (by omega) ?_ | refine aI (fun _ => ⟨by omega, by omega⟩) ?_ | refine aI (of_decide_eq_true rfl) ?_ | (refine yI ?_ ?_; focus (first | decide | (simp; done) | (simp [tcs]; done))) | (refine nI ?_ ?_; focus (first | decide | (simp; done) | (simp [tcs]; done))) | intro _); conv => whnf)
    refine ⟨m - 1, _, _, by omega, ⟨j + 1, by omega, rfl, rfl⟩, Wk.sl [0, 1, 2, 3, 4, 5, 6, 7, 11, 12] rfl ⟨rfl, rfl, rfl, rfl, rfl, rfl, rfl, rfl, rfl, rfl, trivial⟩ ⟨rfl, rfl, rfl, rfl, rfl, trivial⟩ rfl⟩
  · replace hc : ¬ (j : Int) < (dcs S).length := of_decide_eq_false hc
    obtain rfl : j = S.length := by omega
    conv => whnf
    repeat ((first | refine aI rfl ?_ | refine aI (by decide) ?_ | refine dI (by kernel_rfl) ?_ | refine aI ⟨by omega, by omega⟩ ?_ | refine aI (by omega) ?_ | refine aI (fun _ => ⟨by omega, by omega⟩) ?_ | refine aI (of_decide_eq_true rfl) ?_ | (refine yI ?_ ?_; focus (first | decide | (simp; done) | (simp [tcs]; done))) | (refine nI ?_ ?_; focus (first | decide | (simp; done) | (simp [tcs]; done))) | intro _); conv => whnf)
    refine loop_intro (fun m tm H => ∃ (j q : Nat), X.length = m + j ∧ q = S.length + j ∧ tm = [(23, .c (.int .i64 (j))), (22, .c (.int .i64 ((tcs X).length))), (21, .c (.sl 4 48 (tcs X))), (0, .yv 6), (1, .ptr 0 0)] ∧ H = [.box [.c (.sl 6 72 (dcs S)), .c (.sl 4 48 (tcs X)), .c (.int .i64 (k)), .c (.int .i64 (l)), .c (.int .i64 (n)), .c (.sl 4 48 (tcs ts)), .c (.int .i64 (k2)), .c (.int .i64 (l2)), .c (.int .i64 (n2)), .c (.sl 4 48 (tcs us))], .box [.own 8, .mpv 3, .c (.int .i64 (a q))], .dead, .mp true (.n (atF (B q))), .box [.own 9], .dead, .lrec .ready [(4, .ptr 7 0), (5, .ptr 4 0)] ps asg body, .box [.ptr 1 0], .row 62 5 72 (nds (B q)), .row 3 1 8 (rowN (R q))])
      X.length _ _ ⟨0, S.length, by omega, rfl, rfl, rfl⟩ (Wk.sl [0, 1, 2, 3, 4, 5, 6, 7, 8, 9] rfl ⟨rfl, rfl, rfl, rfl, rfl, rfl, rfl, rfl, rfl, rfl, trivial⟩ ⟨rfl, rfl, rfl, rfl, rfl, trivial⟩ rfl) ?_
    rintro m tm H ⟨j, q, hj, hq, rfl, rfl⟩
    conv => whnf
    refine ⟨fun hc => ?_, fun hc => ?_⟩
    · replace hc : (j : Int) < (tcs X).length := of_decide_eq_true hc
      obtain ⟨u, hu⟩ : ∃ u, X[j]? = some u := ⟨X[j]'(by omega), List.getElem?_eq_getElem (by omega)⟩
      have huc := tcs_at X j u hu
      have hy := hyX j u hu
      rw [← hq] at hy
      obtain ⟨k', l', n', us'⟩ := u
      rw [tv_mk] at hy
      conv => whnf
      refine ⟨_, ⟨by omega, by simpa using huc⟩, ?_⟩
      conv => whnf
      refine ⟨Nat.le_refl 4, ?_⟩
      conv => whnf
      repeat ((first | refine aI rfl ?_ | refine aI (by decide) ?_ | refine dI (by kernel_rfl) ?_ | refine aI ⟨by omega, by omega⟩ ?_ | refine aI (by omega) ?_ | refine aI (fun _ => ⟨by omega, by omega⟩) ?_ | refine aI (of_decide_eq_true rfl) ?_ | (refine yI ?_ ?_; focus (first | decide | (simp; done) | (simp [tcs]; done))) | (refine nI ?_ ?_; focus (first | decide | (simp; done) | (simp [tcs]; done))) | intro _); conv => whnf)
      try (refine dI (by kernel_rfl) ?_; conv => whnf)
      refine YSt.use hy [1, 8, 3, 4, 9, 6, 7] rfl ⟨rfl, rfl, rfl, rfl, rfl, rfl, rfl, trivial⟩ (by decide) rfl ?_
      rintro _ _ ⟨rfl, rfl⟩ _
      conv => whnf
      repeat ((first | refine aI rfl ?_ | refine aI (by decide) ?_ | refine dI (by kernel_rfl) ?_ | refine aI ⟨by omega, by omega⟩ ?_ | refine aI (by omega) ?_ | refine aI (fun _ => ⟨by omega, by omega⟩) ?_ | refine aI (of_decide_eq_true rfl) ?_ | (refine yI ?_ ?_; focus (first | decide | (simp; done) | (simp [tcs]; done))) | (refine nI ?_ ?_; focus (first | decide | (simp; done) | (simp [tcs]; done))) | intro _); conv => whnf)
      refine ⟨m - 1, _, _, by omega, ⟨j + 1, q + 1, by omega, by omega, rfl, rfl⟩, Wk.sl [0, 1, 2, 3, 4, 5, 6, 7, 11, 12] rfl ⟨rfl, rfl, rfl, rfl, rfl, rfl, rfl, rfl, rfl, rfl, trivial⟩ ⟨rfl, rfl, rfl, rfl, rfl, trivial⟩ rfl⟩
    · replace hc : ¬ (j : Int) < (tcs X).length := of_decide_eq_false hc
      obtain rfl : j = X.length := by omega
      subst hq
      conv => whnf
      repeat ((first | refine aI rfl ?_ | refine aI (by decide) ?_ | refine dI (by kernel_rfl) ?_ | refine aI ⟨by omega, by omega⟩ ?_ | refine aI (by omega) ?_ | refine aI (fun _ => ⟨by omega, by omega⟩) ?_ | refine aI (of_decide_eq_true rfl) ?_ | (refine yI ?_ ?_; focus (first | decide | (simp; done) | (simp [tcs]; done))) | (refine nI ?_ ?_; focus (first | decide | (simp; done) | (simp [tcs]; done))) | intro _); conv => whnf)
      have hyo2 : YSt Tryz.prog 6 [.agg [.c (.int .i64 (k)), .c (.int .i64 (l)), .c (.int .i64 (n)), .c (.sl 4 48 (tcs ts))]] [.box [.c (.sl 6 72 (dcs S)), .c (.sl 4 48 (tcs X)), .c (.int .i64 (k)), .c (.int .i64 (l)), .c (.int .i64 (n)), .c (.sl 4 48 (tcs ts)), .c (.int .i64 (k2)), .c (.int .i64 (l2)), .c (.int .i64 (n2)), .c (.sl 4 48 (tcs us))], .box [.own 8, .mpv 3, .c (.int .i64 (a (S.length + X.length)))], .dead, .mp true (.n (atF (B (S.length + X.length)))), .box [.own 9], .dead, .lrec .ready [(4, .ptr 7 0), (5, .ptr 4 0)] ps asg body, .box [.ptr 1 0], .row 62 5 72 (nds (B (S.length + X.length))), .row 3 1 8 (rowN (R (S.length + X.length)))] (fun r H' => r = .c (.bool true) ∧ H' = [.box [.c (.sl 6 72 (dcs S)), .c (.sl 4 48 (tcs X)), .c (.int .i64 (k)), .c (.int .i64 (l)), .c (.int .i64 (n)), .c (.sl 4 48 (tcs ts)), .c (.int .i64 (k2)), .c (.int .i64 (l2)), .c (.int .i64 (n2)), .c (.sl 4 48 (tcs us))], .box [.own 10, .mpv 3, .c (.int .i64 (a (S.length + X.length + 1)))], .dead, .mp true (.n (atF (B (S.length + X.length + 1)))), .box [.own 11], .dead, .lrec .ready [(4, .ptr 7 0), (5, .ptr 4 0)] ps asg body, .box [.ptr 1 0], .dead, .dead, .row 62 5 72 (nds (B (S.length + X.length + 1))), .row 3 1 8 (rowN (R (S.length + X.length + 1)))]) := by
        refine YSt.use hyo [1, 8, 3, 4, 9, 6, 7] rfl ⟨rfl, rfl, rfl, rfl, rfl, rfl, rfl, trivial⟩ (by decide) rfl ?_
        rintro _ _ ⟨rfl, rfl⟩ _
        exact ⟨rfl, rfl⟩
      have hyc2 : YSt Tryz.prog 6 [.agg [.c (.int .i64 (k2)), .c (.int .i64 (l2)), .c (.int .i64 (n2)), .c (.sl 4 48 (tcs us))]] [.box [.c (.sl 6 72 (dcs S)), .c (.sl 4 48 (tcs X)), .c (.int .i64 (k)), .c (.int .i64 (l)), .c (.int .i64 (n)), .c (.sl 4 48 (tcs ts)), .c (.int .i64 (k2)), .c (.int .i64 (l2)), .c (.int .i64 (n2)), .c (.sl 4 48 (tcs us))], .box [.own 10, .mpv 3, .c (.int .i64 (a (S.length + X.length + 1)))], .dead, .mp true (.n (atF (B (S.length + X.length + 1)))), .box [.own 11], .dead, .lrec .ready [(4, .ptr 7 0), (5, .ptr 4 0)] ps asg body, .box [.ptr 1 0], .dead, .dead, .row 62 5 72 (nds (B (S.length + X.length + 1))), .row 3 1 8 (rowN (R (S.length + X.length + 1)))] (fun r H' => r = .c (.bool true) ∧ H' = [.box [.c (.sl 6 72 (dcs S)), .c (.sl 4 48 (tcs X)), .c (.int .i64 (k)), .c (.int .i64 (l)), .c (.int .i64 (n)), .c (.sl 4 48 (tcs ts)), .c (.int .i64 (k2)), .c (.int .i64 (l2)), .c (.int .i64 (n2)), .c (.sl 4 48 (tcs us))], .box [.own 12, .mpv 3, .c (.int .i64 (a (S.length + X.length + 2)))], .dead, .mp true (.n (atF (B (S.length + X.length + 2)))), .box [.own 13], .dead, .lrec .ready [(4, .ptr 7 0), (5, .ptr 4 0)] ps asg body, .box [.ptr 1 0], .dead, .dead, .dead, .dead, .row 62 5 72 (nds (B (S.length + X.length + 2))), .row 3 1 8 (rowN (R (S.length + X.length + 2)))]) := by
        refine YSt.use hyc [1, 10, 3, 4, 11, 6, 7] rfl ⟨rfl, rfl, rfl, rfl, rfl, rfl, rfl, trivial⟩ (by decide) rfl ?_
        rintro _ _ ⟨rfl, rfl⟩ _
        exact ⟨rfl, rfl⟩
      try (refine dI (by kernel_rfl) ?_; conv => whnf)
      refine YSt.mono hyo2 ?_
      rintro _ _ ⟨rfl, rfl⟩
      conv => whnf
      repeat ((first | refine aI rfl ?_ | refine aI (by decide) ?_ | refine dI (by kernel_rfl) ?_ | refine aI ⟨by omega, by omega⟩ ?_ | refine aI (by omega) ?_ | refine aI (fun _ => ⟨by omega, by omega⟩) ?_ | refine aI (of_decide_eq_true rfl) ?_ | (refine yI ?_ ?_; focus (first | decide | (simp; done) | (simp [tcs]; done))) | (refine nI ?_ ?_; focus (first | decide | (simp; done) | (simp [tcs]; done))) | intro _); conv => whnf)
      try (refine dI (by kernel_rfl) ?_; conv => whnf)
      refine YSt.mono hyc2 ?_
      rintro _ _ ⟨rfl, rfl⟩
      conv => whnf
      repeat ((first | refine aI rfl ?_ | refine aI (by decide) ?_ | refine dI (by kernel_rfl) ?_ | refine aI ⟨by omega, by omega⟩ ?_ | refine aI (by omega) ?_ | refine aI (fun _ => ⟨by omega, by omega⟩) ?_ | refine aI (of_decide_eq_true rfl) ?_ | (refine yI ?_ ?_; focus (first | decide | (simp; done) | (simp [tcs]; done))) | (refine nI ?_ ?_; focus (first | decide | (simp; done) | (simp [tcs]; done))) | intro _); conv => whnf)
      refine ⟨[], [.box [.c (.sl 6 72 (dcs S)), .c (.sl 4 48 (tcs X)), .c (.int .i64 (k)), .c (.int .i64 (l)), .c (.int .i64 (n)), .c (.sl 4 48 (tcs ts)), .c (.int .i64 (k2)), .c (.int .i64 (l2)), .c (.int .i64 (n2)), .c (.sl 4 48 (tcs us))], .box [.own 8, .mpv 3, .c (.int .i64 (a (S.length + X.length + 2)))], .dead, .mp true (.n (atF (B (S.length + X.length + 2)))), .box [.own 9], .dead, .lrec .ready [(4, .ptr 7 0), (5, .ptr 4 0)] ps asg body, .box [.ptr 1 0], .row 62 5 72 (nds (B (S.length + X.length + 2))), .row 3 1 8 (rowN (R (S.length + X.length + 2)))], Wk.sl [0, 1, 2, 3, 4, 5, 6, 7, 12, 13] rfl ⟨rfl, rfl, rfl, rfl, rfl, rfl, rfl, rfl, rfl, rfl, trivial⟩ trivial rfl, ?_⟩
      conv => whnf
      exact ⟨rfl, rfl⟩
end Go.Tr
/- What is handed in: certificates. -/
namespace Go.Tr
open Go.Proofs
section
variable {H : Type} {enc : TypeId × Value → H} {W : World} {base : Nat} {v : Value} {d : DataW H} {ps : List MemPlace}
end
end Go.Tr
/- cert: newNodes. -/
namespace Go.Tr
open Go.Proofs
structure Sane (c : Crt) : Prop where
  S : c.S.length ≤ 100
  X : c.X.length ≤ 100
  t : ∀ t ∈ crl c, wf t ∧ szT t ≤ 600
theorem szL_all : ∀ (ts : List Term), (∀ t ∈ ts, szT t ≤ 600) → szL ts ≤ 600 * ts.length
  | [], _ => by simp [szL]
  | t :: r, h => by
    have := szL_all r fun u hu => h u (by simp [hu])
    have := h t (by simp)
    simp only [szL, List.length_cons]
    omega
def bk (c : Crt) (n : Nat) : List Term := adL ((crl c).take n) []
def rt (c : Crt) (n : Nat) : List Nat := ((crl c).take n).map (pl (bk c n))
theorem bk_good {c : Crt} (h : Sane c) (n : Nat) : Good (bk c n) ∧ (∀ t ∈ (crl c).take n, t ∈ bk c n) ∧ ((bk c n).length : Int) ≤ szL ((crl c).take n) := by
  obtain ⟨h1, _, h3, h4⟩ := adL_spec ((crl c).take n) [] Good.nil fun t ht => (h.t t (List.mem_of_mem_take ht)).1
  exact ⟨h1, h3, by simpa [bk] using h4⟩
theorem bk_step {c : Crt} {n : Nat} {t : Term} (ht : (crl c)[n]? = some t) : bk c (n + 1) = adT t (bk c n) := adL_take _ _ _ _ ht
theorem rt_step {c : Crt} (h : Sane c) {n : Nat} {t : Term} (ht : (crl c)[n]? = some t) : rt c (n + 1) = rt c n ++ [pl (adT t (bk c n)) t] := by
  obtain ⟨h1, h2, _⟩ := bk_good h n
  obtain ⟨_, q2, _⟩ := adT_spec t (bk c n) h1 (h.t t (List.mem_of_getElem? ht)).1
  unfold rt
  rw [List.take_add_one, ht, List.map_append, bk_step ht]
  congr 1
  obtain ⟨C, hC⟩ := q2
  rw [← hC]
  exact List.map_congr_left fun v hv => pl_app (h2 v hv)
theorem bk0 (c : Crt) : bk c 0 = [] := by simp [bk, adL]
theorem rt0 (c : Crt) : rt c 0 = [] := by simp [rt]
theorem cNewNodes (c : Crt) (h : Sane c) : CallSt Tryz.prog 25 [crv c] [] (fun r H' => r = .tup [.ptr 0 0, .c (.sl 1 8 (rowN (rt c (crl c).length)))] ∧
    H' = [.box [.own 1, .mpv 2, .c (.int .i64 (szL (crl c)))], .row 62 5 72 (nds (bk c (crl c).length)), .mp true (.n (atF (bk c (crl c).length))), .frz (.sl 1 8 (rowN (rt c (crl c).length)))]) := by
  have hti := cTermsI c
  have hIt := fun {ps} {asg} {body} => @cTermsN ps asg body c h.S h.X (bk c) (fun n => szL ((crl c).take n)) (rt c)
  simp only [bk0, rt0, atF_nil, List.take_zero, List.take_length] at hIt
  have hstep := fun n t (ht : (crl c)[n]? = some t) => rt_step h ht
  have hbstep := fun n t (ht : (crl c)[n]? = some t) => bk_step ht
  have hsstep := fun n t (ht : (crl c)[n]? = some t) => szL_take _ n t ht
  have hgood := bk_good h
  have hRlen : ∀ q, (rt c q).length ≤ (crl c).length := fun q => by unfold rt; rw [List.length_map, List.length_take]; omega
  have htt := h.t
  have hcl := crl_len c
  have hS := h.S
  have hX := h.X
  clear h
  generalize crl c = l at *
  generalize bk c = B at *
  generalize rt c = R at *
  obtain ⟨S, X, ⟨k, h, n, ts⟩, ⟨k2, l2, n2, us⟩⟩ := c
  unfold crv at *
  dsimp only [Term.k, Term.l, Term.n, Term.ts] at *
  refine call_wk (E := env 0) (fn := Tryz.f25) (c := bodyOf Tryz.f25) (env_ok 0) mixed (by kernel_rfl) (by kernel_rfl) (by kernel_rfl) (by kernel_rfl) (by kernel_rfl) (by kernel_rfl) rfl true ?_
  conv => whnf
  repeat ((first | refine aI rfl ?_ | refine aI (by decide) ?_ | refine dI (by kernel_rfl) ?_ | refine aI ⟨by omega, by omega⟩ ?_ | refine aI (by omega) ?_ | refine aI (fun _ => ⟨by omega, by omega⟩) ?_ | refine aI (of_decide_eq_true rfl) ?_ | (refine yI ?_ ?_; focus (first | decide | (simp; done) | (simp [tcs]; done))) | (refine nI ?_ ?_; focus (first | decide | (simp; done) | (simp [tcs]; done))) | intro _); conv => whnf)
  try (refine dI (by kernel_rfl) ?_; conv => whnf)
  first | refine CallSt.use hti [] trivial (by decide) rfl ?_ | refine CallPt.useS hti [] trivial (by decide) rfl ?_
  rintro _ _ ⟨rfl, rfl⟩ _
  conv => whnf
  repeat ((first | refine aI rfl ?_ | refine aI (by decide) ?_ | refine dI (by kernel_rfl) ?_ | refine aI ⟨by omega, by omega⟩ ?_ | refine aI (by omega) ?_ | refine aI (fun _ => ⟨by omega, by omega⟩) ?_ | refine aI (of_decide_eq_true rfl) ?_ | (refine yI ?_ ?_; focus (first | decide | (simp; done) | (simp [tcs]; done))) | (refine nI ?_ ?_; focus (first | decide | (simp; done) | (simp [tcs]; done))) | intro _); conv => whnf)
  refine CallSt.wkl 6 [(4, .ptr 3 0), (5, .ptr 4 0)] rfl (subTM_lk ⟨rfl, rfl, trivial⟩) ?_
  refine CallSt.wk _ (Wk.trans (Wk.nilrow (i := 2) (j := 0) 62 5 72 rfl rfl rfl) (Wk.nilrow (i := 4) (j := 0) 3 1 8 rfl rfl rfl)) ?_
  refine CallSt.use (hIt ?_) [5, 2, 7, 1, 4, 8, 6, 3] ⟨rfl, rfl, rfl, rfl, rfl, rfl, rfl, rfl, trivial⟩ (by decide) rfl ?_
  · intro q t ht
    have hm := List.mem_of_getElem? ht
    have hql := (List.getElem?_eq_some_iff.1 ht).1
    obtain ⟨g1, g2, g3⟩ := hgood q
    have htm := htt t hm
    have htp := szT_pos t
    have hsn := szL_pos (l.take q)
    have hsa := szL_all (l.take q) fun u hu => (htt u (List.mem_of_mem_take hu)).2
    have hlt : (l.take q).length ≤ 202 := by rw [List.length_take]; omega
    have hadd := cAddN t (B q) (szL (l.take q)) g1 htm.1 (by omega) (by omega)
    rw [hbstep q t ht, hstep q t ht, hsstep q t ht, ← rowN_map_snoc]
    have hRl := hRlen q
    have hRn := rowN_len (R q)
    have hb1 : ((rowN (R q)).length + 1) * 8 ≤ 140737488355328 := by omega
    have hb2 : (rowN (R q)).length + 1 ≤ 9223372036854775807 := by omega
    generalize adT t (B q) = B2 at *
    generalize B q = B1 at *
    generalize pl B2 t = p at *
    obtain ⟨k', l', n', us'⟩ := t
    rw [tv_mk] at *
    refine y_wk (E := envY 7) (envY_ok 7) mixed rfl rfl (i := 5) rfl rfl rfl ?_
    conv => whnf
    repeat ((first | refine aI rfl ?_ | refine aI (by decide) ?_ | refine dI (by kernel_rfl) ?_ | refine aI ⟨by omega, by omega⟩ ?_ | refine aI (by omega) ?_ | refine aI (fun _ => ⟨by omega, by omega⟩) ?_ | refine aI (of_decide_eq_true rfl) ?_ | (refine yI ?_ ?_; focus (first | decide | (simp; done) | (simp [tcs]; done))) | (refine nI ?_ ?_; focus (first | decide | (simp; done) | (simp [tcs]; done))) | intro _); conv => whnf)
    try (refine dI (by kernel_rfl) ?_; conv => whnf)
    first | refine CallSt.use hadd [0, 1, 2] ⟨rfl, rfl, rfl, trivial⟩ (by decide) rfl ?_ | refine CallPt.useS hadd [0, 1, 2] ⟨rfl, rfl, rfl, trivial⟩ (by decide) rfl ?_
    rintro _ _ ⟨rfl, rfl⟩ _
    conv => whnf
    repeat ((first | refine aI rfl ?_ | refine aI (by decide) ?_ | refine dI (by kernel_rfl) ?_ | refine aI ⟨by omega, by omega⟩ ?_ | refine aI (by omega) ?_ | refine aI (fun _ => ⟨by omega, by omega⟩) ?_ | refine aI (of_decide_eq_true rfl) ?_ | (refine yI ?_ ?_; focus (first | decide | (simp; done) | (simp [tcs]; done))) | (refine nI ?_ ?_; focus (first | decide | (simp; done) | (simp [tcs]; done))) | intro _); conv => whnf)
    refine ⟨[], [.box [.own 7, .mpv 2, .c (.int .i64 (szL (l.take q) + szT (.mk k' l' n' us')))], .dead, .mp true (.n (atF B2)), .box [.own 8], .dead, .lrec .busy [(4, .ptr 6 0), (5, .ptr 3 0)] _ _ _, .box [.ptr 0 0], .row 62 5 72 (nds B2), .row 3 1 8 (rowN (R q) ++ [[.int .i64 (p : Int)]])],
      Wk.sl [0, 1, 2, 3, 4, 5, 6, 8, 10] rfl ⟨rfl, rfl, rfl, rfl, rfl, rfl, rfl, rfl, rfl, trivial⟩ trivial rfl, ?_⟩
    conv => whnf
    exact ⟨rfl, rfl⟩
  rintro _ _ ⟨rfl, rfl⟩ _
  conv => whnf
  repeat ((first | refine aI rfl ?_ | refine aI (by decide) ?_ | refine dI (by kernel_rfl) ?_ | refine aI ⟨by omega, by omega⟩ ?_ | refine aI (by omega) ?_ | refine aI (fun _ => ⟨by omega, by omega⟩) ?_ | refine aI (of_decide_eq_true rfl) ?_ | (refine yI ?_ ?_; focus (first | decide | (simp; done) | (simp [tcs]; done))) | (refine nI ?_ ?_; focus (first | decide | (simp; done) | (simp [tcs]; done))) | intro _); conv => whnf)
  refine ⟨[(2, .ptr 0 0), (3, .own 3)], [.box [.own 1, .mpv 2, .c (.int .i64 (szL l))], .row 62 5 72 (nds (B l.length)), .mp true (.n (atF (B l.length))), .row 3 1 8 (rowN (R l.length))], Wk.sl [2, 9, 1, 10] rfl ⟨rfl, rfl, rfl, rfl, trivial⟩ ⟨rfl, rfl, trivial⟩ rfl, ?_⟩
  conv => whnf
  exact ⟨rfl, rfl⟩
end Go.Tr
/- cert: Built. -/
namespace Go.Tr
open Go.Proofs
def closedT (t : Term) : Bool := prop t && decide ((conF 3 t).length = 0)
theorem cIsClosed (t : Term) : CallSt Tryz.prog 31 [tv t] [] (fun r H' => r = .c (.bool (closedT t)) ∧ H' = []) := by
  have h := cMetasP t
  have hl := len_rowI (conF 3 t)
  unfold closedT
  generalize conF 3 t = L at *
  cases hp : prop t with
  | false =>
    rw [hp] at h
    obtain ⟨k, l, n, ts⟩ := t
    rw [tv_mk] at *
    refine call_pure (E := env 0) (fn := Tryz.f31) (c := bodyOf Tryz.f31) (env_ok 0) mixed (by kernel_rfl) (by kernel_rfl) (by kernel_rfl) (by kernel_rfl) (by kernel_rfl) (by kernel_rfl) rfl ?_
    conv => whnf
    try (refine dI (by kernel_rfl) ?_; conv => whnf)
    first | refine CallSt.use h [] trivial (by decide) rfl ?_ | refine CallPt.useS h [] trivial (by decide) rfl ?_
    rintro _ _ ⟨rfl, rfl⟩ _
    conv => whnf
    repeat ((first | refine aI rfl ?_ | refine aI (by decide) ?_ | refine dI (by kernel_rfl) ?_ | refine aI ⟨by omega, by omega⟩ ?_ | refine aI (by omega) ?_ | refine aI (fun _ => ⟨by omega, by omega⟩) ?_ | refine aI (of_decide_eq_true rfl) ?_ | (refine yI ?_ ?_; focus (first | decide | (simp; done) | (simp [tcs]; done))) | (refine nI ?_ ?_; focus (first | decide | (simp; done) | (simp [tcs]; done))) | intro _); conv => whnf)
    all_goals (first | rfl | exact ⟨rfl, rfl⟩ | exact ⟨rfl, rfl, rfl⟩)
  | true =>
    rw [hp] at h
    obtain ⟨k, l, n, ts⟩ := t
    rw [tv_mk] at *
    refine call_pure (E := env 0) (fn := Tryz.f31) (c := bodyOf Tryz.f31) (env_ok 0) mixed (by kernel_rfl) (by kernel_rfl) (by kernel_rfl) (by kernel_rfl) (by kernel_rfl) (by kernel_rfl) rfl ?_
    conv => whnf
    try (refine dI (by kernel_rfl) ?_; conv => whnf)
    first | refine CallSt.use h [] trivial (by decide) rfl ?_ | refine CallPt.useS h [] trivial (by decide) rfl ?_
    rintro _ _ ⟨rfl, rfl⟩ _
    conv => whnf
    repeat ((first | refine aI rfl ?_ | refine aI (by decide) ?_ | refine dI (by kernel_rfl) ?_ | refine aI ⟨by omega, by omega⟩ ?_ | refine aI (by omega) ?_ | refine aI (fun _ => ⟨by omega, by omega⟩) ?_ | refine aI (of_decide_eq_true rfl) ?_ | (refine yI ?_ ?_; focus (first | decide | (simp; done) | (simp [tcs]; done))) | (refine nI ?_ ?_; focus (first | decide | (simp; done) | (simp [tcs]; done))) | intro _); conv => whnf)
    exact ⟨congrArg (fun z => AV.c (CV.bool z)) (by rw [hl]; simp), rfl⟩
theorem cTermsG {ps : Array Nat} {asg body : Code} (c : Crt) (hS : c.S.length ≤ 100) (hX : c.X.length ≤ 100) (good : Nat → Bool)
    (hY : ∀ (n : Nat) (t : Term), (crl c)[n]? = some t → (∀ i, i < n → good i = true) → YSt Tryz.prog 1 [tv t] [.box [.c (.bool false)], .lrec .ready [(2, .ptr 0 0)] ps asg body]
      (fun r H' => (good n = true ∧ r = .c (.bool true) ∧ H' = [.box [.c (.bool false)], .lrec .ready [(2, .ptr 0 0)] ps asg body]) ∨ (good n = false ∧ r = .c (.bool false) ∧ H' = [.box [.c (.bool false)], .lrec .ret [(2, .ptr 0 0)] ps asg body]))) :
    CallSt Tryz.prog 56 [.yv 2, .ptr 0 0] [.box [.c (.sl 6 72 (dcs c.S)), .c (.sl 4 48 (tcs c.X)), .c (.int .i64 (c.o.k)), .c (.int .i64 (c.o.l)), .c (.int .i64 (c.o.n)), .c (.sl 4 48 (tcs c.o.ts)), .c (.int .i64 (c.c.k)), .c (.int .i64 (c.c.l)), .c (.int .i64 (c.c.n)), .c (.sl 4 48 (tcs c.c.ts))], .box [.c (.bool false)], .lrec .ready [(2, .ptr 1 0)] ps asg body]
      (fun r H' => r = .tup [] ∧ (((∀ n, n < (crl c).length → good n = true) ∧ H' = [.box [.c (.sl 6 72 (dcs c.S)), .c (.sl 4 48 (tcs c.X)), .c (.int .i64 (c.o.k)), .c (.int .i64 (c.o.l)), .c (.int .i64 (c.o.n)), .c (.sl 4 48 (tcs c.o.ts)), .c (.int .i64 (c.c.k)), .c (.int .i64 (c.c.l)), .c (.int .i64 (c.c.n)), .c (.sl 4 48 (tcs c.c.ts))], .box [.c (.bool false)], .lrec .ready [(2, .ptr 1 0)] ps asg body]) ∨
        ((∃ n, n < (crl c).length ∧ good n = false) ∧ H' = [.box [.c (.sl 6 72 (dcs c.S)), .c (.sl 4 48 (tcs c.X)), .c (.int .i64 (c.o.k)), .c (.int .i64 (c.o.l)), .c (.int .i64 (c.o.n)), .c (.sl 4 48 (tcs c.o.ts)), .c (.int .i64 (c.c.k)), .c (.int .i64 (c.c.l)), .c (.int .i64 (c.c.n)), .c (.sl 4 48 (tcs c.c.ts))], .box [.c (.bool false)], .lrec .ret [(2, .ptr 1 0)] ps asg body]))) := by
  have hds := len_dcs c.S
  have hxl := len_tcs c.X
  have hcl := crl_len c
  have hyS := fun n d (h : c.S[n]? = some d) => hY n d.c (crl_S h)
  have hyX := fun n t (h : c.X[n]? = some t) => hY _ t (crl_X h)
  have hyo := hY _ _ (crl_o c)
  have hyc := hY _ _ (crl_c c)
  clear hY
  rw [hcl]
  obtain ⟨S, X, ⟨k, l, n, ts⟩, ⟨k2, l2, n2, us⟩⟩ := c
  dsimp only [Term.k, Term.l, Term.n, Term.ts] at *
  rw [tv_mk] at hyo hyc
  refine call_trim (E := envK 3) (fn := Tryz.f56) (c := bodyOf Tryz.f56) (envK_ok 3) mixed (by kernel_rfl) (by kernel_rfl) (by kernel_rfl) (by kernel_rfl) (by kernel_rfl) (by kernel_rfl) rfl ?_
  conv => whnf
  repeat ((first | refine aI rfl ?_ | refine aI (by decide) ?_ | refine dI (by kernel_rfl) ?_ | refine aI ⟨by omega, by omega⟩ ?_ | refine aI (by omega) ?_ | refine aI (fun _ => ⟨by omega, by omega⟩) ?_ | refine aI (of_decide_eq_true rfl) ?_ | (refine yI ?_ ?_; focus (first | decide | (simp; done) | (simp [tcs]; done))) | (refine nI ?_ ?_; focus (first | decide | (simp; done) | (simp [tcs]; done))) | intro _); conv => whnf)
  refine loop_intro (fun m tm H => ∃ (j : Nat), S.length = m + j ∧ (∀ i, i < j → good i = true) ∧ tm = [(10, .c (.int .i64 (j))), (9, .c (.int .i64 ((dcs S).length))), (8, .c (.sl 6 72 (dcs S))), (0, .yv 2), (1, .ptr 0 0)] ∧
      H = [.box [.c (.sl 6 72 (dcs S)), .c (.sl 4 48 (tcs X)), .c (.int .i64 (k)), .c (.int .i64 (l)), .c (.int .i64 (n)), .c (.sl 4 48 (tcs ts)), .c (.int .i64 (k2)), .c (.int .i64 (l2)), .c (.int .i64 (n2)), .c (.sl 4 48 (tcs us))], .box [.c (.bool false)], .lrec .ready [(2, .ptr 1 0)] ps asg body])
    S.length _ _ ⟨0, by omega, fun i hi => absurd hi (by omega), rfl, rfl⟩ (Wk.sl [0, 1, 2] rfl ⟨rfl, rfl, rfl, trivial⟩ ⟨rfl, rfl, rfl, rfl, rfl, trivial⟩ rfl) ?_
  rintro m tm H ⟨j, hj, hall, rfl, rfl⟩
  conv => whnf
  refine ⟨fun hc => ?_, fun hc => ?_⟩
  · replace hc : (j : Int) < (dcs S).length := of_decide_eq_true hc
    obtain ⟨d, hd⟩ : ∃ d, S[j]? = some d := ⟨S[j]'(by omega), List.getElem?_eq_getElem (by omega)⟩
    have hdc := dcs_at hd
    have hy := hyS j d hd hall
    obtain ⟨s', ⟨k', l', n', us'⟩, i'⟩ := d
    dsimp only at hy
    rw [tv_mk] at hy
    conv => whnf
    refine ⟨_, ⟨by omega, hdc⟩, ?_⟩
    conv => whnf
    refine ⟨show 6 ≤ 6 by decide, ?_⟩
    conv => whnf
    repeat ((first | refine aI rfl ?_ | refine aI (by decide) ?_ | refine dI (by kernel_rfl) ?_ | refine aI ⟨by omega, by omega⟩ ?_ | refine aI (by omega) ?_ | refine aI (fun _ => ⟨by omega, by omega⟩) ?_ | refine aI (of_decide_eq_true rfl) ?_ | (refine yI ?_ ?_; focus (first | decide | (simp; done) | (simp [tcs]; done))) | (refine nI ?_ ?_; focus (first | decide | (simp; done) | (simp [tcs]; done))) | intro _); conv => whnf)
    try (refine dI (by kernel_rfl) ?_; conv => whnf)
    refine YSt.use hy [1, 2] rfl ⟨rfl, rfl, trivial⟩ (by decide) rfl ?_
    rintro _ _ (⟨hg, rfl, rfl⟩ | ⟨hg, rfl, rfl⟩) _
    conv => whnf
    · repeat ((first | refine aI rfl ?_ | refine aI (by decide) ?_ | refine dI (by kernel_rfl) ?_ | refine aI ⟨by omega, by omega⟩ ?_ | refine aI (by omega) ?_ | refine aI (fun _ => ⟨by omega, by omega⟩) ?_ | refine aI (of_decide_eq_true rfl) ?_ | (refine yI ?_ ?_; focus (first | decide | (simp; done) | (simp [tcs]; done))) | (refine nI ?_ ?_; focus (first | decide | (simp; done) | (simp [tcs]; done))) | intro _); conv => whnf)
      refine ⟨m - 1, _, _, by omega, ⟨j + 1, by omega, fun i hi => ?_, rfl, rfl⟩, Wk.sl [0, 1, 2] rfl ⟨rfl, rfl, rfl, trivial⟩ ⟨rfl, rfl, rfl, rfl, rfl, trivial⟩ rfl⟩
      by_cases hij : i < j
      · exact hall i hij
      · obtain rfl : i = j := by omega
        exact hg
    · (refine ⟨fun _ => ?_, fun h => absurd h ?_⟩; rotate_left; (focus (first | decide | (simp; done) | (simp [tcs]; done))); conv => whnf)
      exact ⟨rfl, rfl, rfl, .inr ⟨⟨j, by omega, hg⟩, rfl⟩⟩
  · replace hc : ¬ (j : Int) < (dcs S).length := of_decide_eq_false hc
    obtain rfl : j = S.length := by omega
    conv => whnf
    repeat ((first | refine aI rfl ?_ | refine aI (by decide) ?_ | refine dI (by kernel_rfl) ?_ | refine aI ⟨by omega, by omega⟩ ?_ | refine aI (by omega) ?_ | refine aI (fun _ => ⟨by omega, by omega⟩) ?_ | refine aI (of_decide_eq_true rfl) ?_ | (refine yI ?_ ?_; focus (first | decide | (simp; done) | (simp [tcs]; done))) | (refine nI ?_ ?_; focus (first | decide | (simp; done) | (simp [tcs]; done))) | intro _); conv => whnf)
    refine loop_intro (fun m tm H => ∃ (j : Nat), X.length = m + j ∧ (∀ i, i < S.length + j → good i = true) ∧ tm = [(23, .c (.int .i64 (j))), (22, .c (.int .i64 ((tcs X).length))), (21, .c (.sl 4 48 (tcs X))), (0, .yv 2), (1, .ptr 0 0)] ∧
        H = [.box [.c (.sl 6 72 (dcs S)), .c (.sl 4 48 (tcs X)), .c (.int .i64 (k)), .c (.int .i64 (l)), .c (.int .i64 (n)), .c (.sl 4 48 (tcs ts)), .c (.int .i64 (k2)), .c (.int .i64 (l2)), .c (.int .i64 (n2)), .c (.sl 4 48 (tcs us))], .box [.c (.bool false)], .lrec .ready [(2, .ptr 1 0)] ps asg body])
      X.length _ _ ⟨0, by omega, hall, rfl, rfl⟩ (Wk.sl [0, 1, 2] rfl ⟨rfl, rfl, rfl, trivial⟩ ⟨rfl, rfl, rfl, rfl, rfl, trivial⟩ rfl) ?_
    rintro m tm H ⟨j, hj, hall, rfl, rfl⟩
    conv => whnf
    refine ⟨fun hc => ?_, fun hc => ?_⟩
    · replace hc : (j : Int) < (tcs X).length := of_decide_eq_true hc
      obtain ⟨u, hu⟩ : ∃ u, X[j]? = some u := ⟨X[j]'(by omega), List.getElem?_eq_getElem (by omega)⟩
      have huc := tcs_at X j u hu
      have hy := hyX j u hu hall
      obtain ⟨k', l', n', us'⟩ := u
      rw [tv_mk] at hy
      conv => whnf
      refine ⟨_, ⟨by omega, by simpa using huc⟩, ?_⟩
      conv => whnf
      refine ⟨Nat.le_refl 4, ?_⟩
      conv => whnf
      repeat ((first | refine aI rfl ?_ | refine aI (by decide) ?_ | refine dI (by kernel_rfl) ?_ | refine aI ⟨by omega, by omega⟩ ?_ | refine aI (by omega) ?_ | refine aI (fun _ => ⟨by omega, by omega⟩) ?_ | refine aI (of_decide_eq_true rfl) ?_ | (refine yI ?_ ?_; focus (first | decide | (simp; done) | (simp [tcs]; done))) | (refine nI ?_ ?_; focus (first | decide | (simp; done) | (simp [tcs]; done))) | intro _); conv => whnf)
      try (refine dI (by kernel_rfl) ?_; conv => whnf)
      refine YSt.use hy [1, 2] rfl ⟨rfl, rfl, trivial⟩ (by decide) rfl ?_
      rintro _ _ (⟨hg, rfl, rfl⟩ | ⟨hg, rfl, rfl⟩) _
      conv => whnf
      · repeat ((first | refine aI rfl ?_ | refine aI (by decide) ?_ | refine dI (by kernel_rfl) ?_ | refine aI ⟨by omega, by omega⟩ ?_ | refine aI (by omega) ?_ | refine aI (fun _ => ⟨by omega, by omega⟩) ?_ | refine aI (of_decide_eq_true rfl) ?_ | (refine yI ?_ ?_; focus (first | decide | (simp; done) | (simp [tcs]; done))) | (refine nI ?_ ?_; focus (first | decide | (simp; done) | (simp [tcs]; done))) | intro _); conv => whnf)
        refine ⟨m - 1, _, _, by omega, ⟨j + 1, by omega, fun i hi => ?_, rfl, rfl⟩, Wk.sl [0, 1, 2] rfl ⟨rfl, rfl, rfl, trivial⟩ ⟨rfl, rfl, rfl, rfl, rfl, trivial⟩ rfl⟩
        by_cases hij : i < S.length + j
        · exact hall i hij
        · obtain rfl : i = S.length + j := by omega
          exact hg
      · (refine ⟨fun _ => ?_, fun h => absurd h ?_⟩; rotate_left; (focus (first | decide | (simp; done) | (simp [tcs]; done))); conv => whnf)
        exact ⟨rfl, rfl, rfl, .inr ⟨⟨S.length + j, by omega, hg⟩, rfl⟩⟩
    · replace hc : ¬ (j : Int) < (tcs X).length := of_decide_eq_false hc
      obtain rfl : j = X.length := by omega
      have hyo := hyo hall
      conv => whnf
      try (refine dI (by kernel_rfl) ?_; conv => whnf)
      refine YSt.use hyo [1, 2] rfl ⟨rfl, rfl, trivial⟩ (by decide) rfl ?_
      rintro _ _ (⟨hg, rfl, rfl⟩ | ⟨hg, rfl, rfl⟩) _
      conv => whnf
      · (refine ⟨fun _ => ?_, fun h => absurd h ?_⟩; rotate_left; (focus (first | decide | (simp; done) | (simp [tcs]; done))); conv => whnf)
        have hyc := hyc (fun i hi => by
          by_cases hij : i < S.length + X.length
          · exact hall i hij
          · obtain rfl : i = S.length + X.length := by omega
            exact hg)
        try (refine dI (by kernel_rfl) ?_; conv => whnf)
        refine YSt.use hyc [1, 2] rfl ⟨rfl, rfl, trivial⟩ (by decide) rfl ?_
        rintro _ _ (⟨hg2, rfl, rfl⟩ | ⟨hg2, rfl, rfl⟩) _
        conv => whnf
        · refine ⟨rfl, rfl, rfl, .inl ⟨fun i hi => ?_, rfl⟩⟩
          by_cases hij : i < S.length + X.length
          · exact hall i hij
          · by_cases hij2 : i = S.length + X.length
            · rw [hij2]; exact hg
            · obtain rfl : i = S.length + X.length + 1 := by omega
              exact hg2
        · exact ⟨rfl, rfl, rfl, .inr ⟨⟨S.length + X.length + 1, by omega, hg2⟩, rfl⟩⟩
      · (refine ⟨fun h => absurd h ?_, fun _ => ?_⟩; (focus (first | decide | (simp; done) | (simp [tcs]; done))); conv => whnf)
        exact ⟨rfl, rfl, rfl, .inr ⟨⟨S.length + X.length, by omega, hg⟩, rfl⟩⟩
def builtB (c : Crt) : Bool := decide (c.X.length ≤ 30) && checkB c.S && (crl c).all closedT
theorem cBuilt (c : Crt) : CallSt Tryz.prog 11 [crv c] [] (fun r H' => r = .c (.bool (builtB c)) ∧ H' = []) := by
  have hti := cTermsI c
  have hck := cCheck c.S
  have hxl := len_tcs c.X
  by_cases hX : c.X.length ≤ 30
  · cases hcb : checkB c.S with
    | false =>
      rw [show builtB c = false by simp [builtB, hcb]]
      rw [hcb] at hck
      obtain ⟨S, X, ⟨k, l, n, ts⟩, ⟨k2, l2, n2, us⟩⟩ := c
      unfold crv at *
      dsimp only [Term.k, Term.l, Term.n, Term.ts] at *
      have e : decide ((30 : Int) < (tcs X).length) = false := decide_eq_false (by omega)
      refine call_pure (E := env 0) (fn := Tryz.f11) (c := bodyOf Tryz.f11) (env_ok 0) mixed (by kernel_rfl) (by kernel_rfl) (by kernel_rfl) (by kernel_rfl) (by kernel_rfl) (by kernel_rfl) rfl ?_
      conv => whnf
      repeat ((first | refine aI rfl ?_ | refine aI (by decide) ?_ | refine dI (by kernel_rfl) ?_ | refine aI ⟨by omega, by omega⟩ ?_ | refine aI (by omega) ?_ | refine aI (fun _ => ⟨by omega, by omega⟩) ?_ | refine aI (of_decide_eq_true rfl) ?_ | (refine yI ?_ ?_; focus (first | decide | (simp; done) | (simp [tcs]; done))) | (refine nI ?_ ?_; focus (first | decide | (simp; done) | (simp [tcs]; done))) | intro _); conv => whnf)
      rw [e]
      (refine ⟨fun _ => ?_, fun h => absurd h ?_⟩; rotate_left; (focus (first | decide | (simp; done) | (simp [tcs]; done))); conv => whnf)
      try (refine dI (by kernel_rfl) ?_; conv => whnf)
      first | refine CallSt.use hck [] trivial (by decide) rfl ?_ | refine CallPt.useS hck [] trivial (by decide) rfl ?_
      rintro _ _ ⟨rfl, rfl⟩ _
      conv => whnf
      repeat ((first | refine aI rfl ?_ | refine aI (by decide) ?_ | refine dI (by kernel_rfl) ?_ | refine aI ⟨by omega, by omega⟩ ?_ | refine aI (by omega) ?_ | refine aI (fun _ => ⟨by omega, by omega⟩) ?_ | refine aI (of_decide_eq_true rfl) ?_ | (refine yI ?_ ?_; focus (first | decide | (simp; done) | (simp [tcs]; done))) | (refine nI ?_ ?_; focus (first | decide | (simp; done) | (simp [tcs]; done))) | intro _); conv => whnf)
      rfl
    | true =>
      have hS : c.S.length ≤ 100 := by unfold checkB at hcb; simp only [Bool.and_eq_true] at hcb; exact of_decide_eq_true hcb.1
      rw [hcb] at hck
      have hIt := fun {ps} {asg} {body} => @cTermsG ps asg body c (by omega) (by omega) (fun n => match (crl c)[n]? with | some t => closedT t | none => true)
      have hbl : builtB c = (crl c).all closedT := by simp [builtB, hcb, hX]
      rw [hbl]
      generalize crl c = q at *
      obtain ⟨S, X, ⟨k, l, n, ts⟩, ⟨k2, l2, n2, us⟩⟩ := c
      unfold crv at *
      dsimp only [Term.k, Term.l, Term.n, Term.ts] at *
      have e : decide ((30 : Int) < (tcs X).length) = false := decide_eq_false (by omega)
      refine call_pure (E := env 0) (fn := Tryz.f11) (c := bodyOf Tryz.f11) (env_ok 0) mixed (by kernel_rfl) (by kernel_rfl) (by kernel_rfl) (by kernel_rfl) (by kernel_rfl) (by kernel_rfl) rfl ?_
      conv => whnf
      repeat ((first | refine aI rfl ?_ | refine aI (by decide) ?_ | refine dI (by kernel_rfl) ?_ | refine aI ⟨by omega, by omega⟩ ?_ | refine aI (by omega) ?_ | refine aI (fun _ => ⟨by omega, by omega⟩) ?_ | refine aI (of_decide_eq_true rfl) ?_ | (refine yI ?_ ?_; focus (first | decide | (simp; done) | (simp [tcs]; done))) | (refine nI ?_ ?_; focus (first | decide | (simp; done) | (simp [tcs]; done))) | intro _); conv => whnf)
      rw [e]
      (refine ⟨fun _ => ?_, fun h => absurd h ?_⟩; rotate_left; (focus (first | decide | (simp; done) | (simp [tcs]; done))); conv => whnf)
      try (refine dI (by kernel_rfl) ?_; conv => whnf)
      first | refine CallSt.use hck [] trivial (by decide) rfl ?_ | refine CallPt.useS hck [] trivial (by decide) rfl ?_
      rintro _ _ ⟨rfl, rfl⟩ _
      conv => whnf
      repeat ((first | refine aI rfl ?_ | refine aI (by decide) ?_ | refine dI (by kernel_rfl) ?_ | refine aI ⟨by omega, by omega⟩ ?_ | refine aI (by omega) ?_ | refine aI (fun _ => ⟨by omega, by omega⟩) ?_ | refine aI (of_decide_eq_true rfl) ?_ | (refine yI ?_ ?_; focus (first | decide | (simp; done) | (simp [tcs]; done))) | (refine nI ?_ ?_; focus (first | decide | (simp; done) | (simp [tcs]; done))) | intro _); conv => whnf)
      try (refine dI (by kernel_rfl) ?_; conv => whnf)
      first | refine CallSt.use hti [] trivial (by decide) rfl ?_ | refine CallPt.useS hti [] trivial (by decide) rfl ?_
      rintro _ _ ⟨rfl, rfl⟩ _
      conv => whnf
      repeat ((first | refine aI rfl ?_ | refine aI (by decide) ?_ | refine dI (by kernel_rfl) ?_ | refine aI ⟨by omega, by omega⟩ ?_ | refine aI (by omega) ?_ | refine aI (fun _ => ⟨by omega, by omega⟩) ?_ | refine aI (of_decide_eq_true rfl) ?_ | (refine yI ?_ ?_; focus (first | decide | (simp; done) | (simp [tcs]; done))) | (refine nI ?_ ?_; focus (first | decide | (simp; done) | (simp [tcs]; done))) | intro _); conv => whnf)
      refine CallSt.wkl 3 [(2, .ptr 1 0)] rfl (subTM_lk ⟨rfl, trivial⟩) ?_
      refine CallSt.use (hIt ?_) [2, 1, 3] ⟨rfl, rfl, rfl, trivial⟩ (by decide) rfl ?_
      · intro n t ht _
        have hcl := cIsClosed t
        rw [ht]
        dsimp only
        generalize closedT t = b at *
        obtain ⟨k', l', n', us'⟩ := t
        rw [tv_mk] at *
        refine y_intro (E := envY 2) (envY_ok 2) mixed rfl rfl (i := 1) rfl rfl rfl ?_
        conv => whnf
        repeat ((first | refine aI rfl ?_ | refine aI (by decide) ?_ | refine dI (by kernel_rfl) ?_ | refine aI ⟨by omega, by omega⟩ ?_ | refine aI (by omega) ?_ | refine aI (fun _ => ⟨by omega, by omega⟩) ?_ | refine aI (of_decide_eq_true rfl) ?_ | (refine yI ?_ ?_; focus (first | decide | (simp; done) | (simp [tcs]; done))) | (refine nI ?_ ?_; focus (first | decide | (simp; done) | (simp [tcs]; done))) | intro _); conv => whnf)
        try (refine dI (by kernel_rfl) ?_; conv => whnf)
        first | refine CallSt.use hcl [] trivial (by decide) rfl ?_ | refine CallPt.useS hcl [] trivial (by decide) rfl ?_
        rintro _ _ ⟨rfl, rfl⟩ _
        conv => whnf
        repeat ((first | refine aI rfl ?_ | refine aI (by decide) ?_ | refine dI (by kernel_rfl) ?_ | refine aI ⟨by omega, by omega⟩ ?_ | refine aI (by omega) ?_ | refine aI (fun _ => ⟨by omega, by omega⟩) ?_ | refine aI (of_decide_eq_true rfl) ?_ | (refine yI ?_ ?_; focus (first | decide | (simp; done) | (simp [tcs]; done))) | (refine nI ?_ ?_; focus (first | decide | (simp; done) | (simp [tcs]; done))) | intro _); conv => whnf)
        cases b with
        | true =>
          (refine ⟨fun h => absurd h ?_, fun _ => ?_⟩; (focus (first | decide | (simp; done) | (simp [tcs]; done))); conv => whnf)
          repeat ((first | refine aI rfl ?_ | refine aI (by decide) ?_ | refine dI (by kernel_rfl) ?_ | refine aI ⟨by omega, by omega⟩ ?_ | refine aI (by omega) ?_ | refine aI (fun _ => ⟨by omega, by omega⟩) ?_ | refine aI (of_decide_eq_true rfl) ?_ | (refine yI ?_ ?_; focus (first | decide | (simp; done) | (simp [tcs]; done))) | (refine nI ?_ ?_; focus (first | decide | (simp; done) | (simp [tcs]; done))) | intro _); conv => whnf)
          exact .inl ⟨rfl, rfl, rfl⟩
        | false =>
          (refine ⟨fun _ => ?_, fun h => absurd h ?_⟩; rotate_left; (focus (first | decide | (simp; done) | (simp [tcs]; done))); conv => whnf)
          repeat ((first | refine aI rfl ?_ | refine aI (by decide) ?_ | refine dI (by kernel_rfl) ?_ | refine aI ⟨by omega, by omega⟩ ?_ | refine aI (by omega) ?_ | refine aI (fun _ => ⟨by omega, by omega⟩) ?_ | refine aI (of_decide_eq_true rfl) ?_ | (refine yI ?_ ?_; focus (first | decide | (simp; done) | (simp [tcs]; done))) | (refine nI ?_ ?_; focus (first | decide | (simp; done) | (simp [tcs]; done))) | intro _); conv => whnf)
          exact .inr ⟨rfl, rfl, rfl⟩
      rintro _ _ ⟨rfl, (⟨hall, rfl⟩ | ⟨⟨n, hn, hg⟩, rfl⟩)⟩ _
      · have hq : q.all closedT = true := by
          rw [List.all_eq_true]
          intro t ht
          obtain ⟨i, hi⟩ := List.mem_iff_getElem?.1 ht
          have := hall i (List.getElem?_eq_some_iff.1 hi).1
          rw [hi] at this
          exact this
        rw [hq]
        conv => whnf
        repeat ((first | refine aI rfl ?_ | refine aI (by decide) ?_ | refine dI (by kernel_rfl) ?_ | refine aI ⟨by omega, by omega⟩ ?_ | refine aI (by omega) ?_ | refine aI (fun _ => ⟨by omega, by omega⟩) ?_ | refine aI (of_decide_eq_true rfl) ?_ | (refine yI ?_ ?_; focus (first | decide | (simp; done) | (simp [tcs]; done))) | (refine nI ?_ ?_; focus (first | decide | (simp; done) | (simp [tcs]; done))) | intro _); conv => whnf)
        all_goals (first | rfl | exact ⟨rfl, rfl⟩ | exact ⟨rfl, rfl, rfl⟩)
      · have hq : q.all closedT = false := by
          rw [List.all_eq_false]
          rw [List.getElem?_eq_getElem hn] at hg
          have hg2 : closedT q[n] = false := hg
          exact ⟨q[n], List.getElem_mem hn, by rw [hg2]; simp⟩
        rw [hq]
        conv => whnf
        repeat ((first | refine aI rfl ?_ | refine aI (by decide) ?_ | refine dI (by kernel_rfl) ?_ | refine aI ⟨by omega, by omega⟩ ?_ | refine aI (by omega) ?_ | refine aI (fun _ => ⟨by omega, by omega⟩) ?_ | refine aI (of_decide_eq_true rfl) ?_ | (refine yI ?_ ?_; focus (first | decide | (simp; done) | (simp [tcs]; done))) | (refine nI ?_ ?_; focus (first | decide | (simp; done) | (simp [tcs]; done))) | intro _); conv => whnf)
        all_goals (first | rfl | exact ⟨rfl, rfl⟩ | exact ⟨rfl, rfl, rfl⟩)
  · rw [show builtB c = false by simp [builtB, hX]]
    obtain ⟨S, X, ⟨k, l, n, ts⟩, ⟨k2, l2, n2, us⟩⟩ := c
    unfold crv at *
    dsimp only [Term.k, Term.l, Term.n, Term.ts] at *
    have e : decide ((30 : Int) < (tcs X).length) = true := decide_eq_true (by omega)
    refine call_pure (E := env 0) (fn := Tryz.f11) (c := bodyOf Tryz.f11) (env_ok 0) mixed (by kernel_rfl) (by kernel_rfl) (by kernel_rfl) (by kernel_rfl) (by kernel_rfl) (by kernel_rfl) rfl ?_
    conv => whnf
    repeat ((first | refine aI rfl ?_ | refine aI (by decide) ?_ | refine dI (by kernel_rfl) ?_ | refine aI ⟨by omega, by omega⟩ ?_ | refine aI (by omega) ?_ | refine aI (fun _ => ⟨by omega, by omega⟩) ?_ | refine aI (of_decide_eq_true rfl) ?_ | (refine yI ?_ ?_; focus (first | decide | (simp; done) | (simp [tcs]; done))) | (refine nI ?_ ?_; focus (first | decide | (simp; done) | (simp [tcs]; done))) | intro _); conv => whnf)
    rw [e]
    (refine ⟨fun h => absurd h ?_, fun _ => ?_⟩; (focus (first | decide | (simp; done) | (simp [tcs]; done))); conv => whnf)
    repeat ((first | refine aI rfl ?_ | refine aI (by decide) ?_ | refine dI (by kernel_rfl) ?_ | refine aI ⟨by omega, by omega⟩ ?_ | refine aI (by omega) ?_ | refine aI (fun _ => ⟨by omega, by omega⟩) ?_ | refine aI (of_decide_eq_true rfl) ?_ | (refine yI ?_ ?_; focus (first | decide | (simp; done) | (simp [tcs]; done))) | (refine nI ?_ ?_; focus (first | decide | (simp; done) | (simp [tcs]; done))) | intro _); conv => whnf)
    rfl
end Go.Tr
/- cert: Sum of both sides, sealed, Seal. -/
namespace Go.Tr
open Go.Proofs
def sumF : List UInt8 → Int × Int → Int × Int
  | [], p => p
  | x :: r, p => sumF r ((p.1 + (x.toNat : Int)) % 65521, (p.2 + (p.1 + (x.toNat : Int)) % 65521) % 65521)
theorem sumF_bd : ∀ (l : List UInt8) (p : Int × Int), (0 ≤ p.1 ∧ p.1 < 65521) ∧ (0 ≤ p.2 ∧ p.2 < 65521) → (0 ≤ (sumF l p).1 ∧ (sumF l p).1 < 65521) ∧ (0 ≤ (sumF l p).2 ∧ (sumF l p).2 < 65521)
  | [], p, h => h
  | x :: r, p, h => by
    rw [sumF]
    exact sumF_bd r _ ⟨⟨Int.emod_nonneg _ (by decide), Int.emod_lt_of_pos _ (by decide)⟩, Int.emod_nonneg _ (by decide), Int.emod_lt_of_pos _ (by decide)⟩
def sumI (l : List UInt8) : Int := (sumF l (1, 0)).2 * 65536 + (sumF l (1, 0)).1
theorem sumI_bd (l : List UInt8) : 0 ≤ sumI l ∧ sumI l < 4294967296 := by
  have := sumF_bd l (1, 0) (by decide)
  unfold sumI
  omega
theorem i64_wrap {x : Int} (h : -9223372036854775808 ≤ x ∧ x ≤ 9223372036854775807) : IntKind.i64.wrap x = x := wrap_in h
theorem shl16 {b : Int} (h : 0 ≤ b ∧ b < 65521) : IntKind.i64.wrap (b * 2 ^ (min (16 : Int).toNat 64)) = b * 65536 := by
  rw [show (2 : Int) ^ (min (16 : Int).toNat 64) = 65536 by decide]
  exact i64_wrap (by omega)
theorem cSum (s : ByteArray) (hss : s.size ≤ 1000000000) : CallSt Tryz.prog 23 [.c (.str s)] [] (fun r H' => r = .c (.int .i64 (sumI s.data.toList)) ∧ H' = []) := by
  have hsz : s.data.toList.length = s.size := by rw [Array.length_toList]; rfl
  have hbd := sumF_bd s.data.toList (1, 0) (by decide)
  unfold sumI
  refine call_pure (E := env 0) (fn := Tryz.f23) (c := bodyOf Tryz.f23) (env_ok 0) mixed (by kernel_rfl) (by kernel_rfl) (by kernel_rfl) (by kernel_rfl) (by kernel_rfl) (by kernel_rfl) rfl ?_
  conv => whnf
  repeat ((first | refine aI rfl ?_ | refine aI (by decide) ?_ | refine dI (by kernel_rfl) ?_ | refine aI ⟨by omega, by omega⟩ ?_ | refine aI (by omega) ?_ | refine aI (fun _ => ⟨by omega, by omega⟩) ?_ | refine aI (of_decide_eq_true rfl) ?_ | (refine yI ?_ ?_; focus (first | decide | (simp; done) | (simp [tcs]; done))) | (refine nI ?_ ?_; focus (first | decide | (simp; done) | (simp [tcs]; done))) | intro _); conv => whnf)
  refine loop_intro (fun m tm H => ∃ (j : Nat) (a b : Int), s.size = m + j ∧ sumF (s.data.toList.drop j) (a, b) = sumF s.data.toList (1, 0) ∧ ((0 ≤ a ∧ a < 65521) ∧ (0 ≤ b ∧ b < 65521)) ∧
      tm = [(8, .c (.int .i64 (j))), (7, .c (.int .i64 (s.size))), (0, .c (.str s)), (3, .c (.int .i64 (a))), (4, .c (.int .i64 (b)))] ∧ H = [])
    s.size _ _ ⟨0, 1, 0, by omega, rfl, by decide, rfl, rfl⟩ (Wk.sl [] rfl trivial ⟨rfl, rfl, rfl, rfl, rfl, trivial⟩ rfl) ?_
  rintro m tm H ⟨j, a, b, hj, hs, hab, rfl, rfl⟩
  conv => whnf
  refine ⟨fun hc => ?_, fun hc => ?_⟩
  · replace hc : (j : Int) < s.size := of_decide_eq_true hc
    have hlt : j < s.data.toList.length := by omega
    obtain ⟨x, hx⟩ : ∃ x, s.data.toList[j]? = some x := ⟨_, List.getElem?_eq_getElem hlt⟩
    have hxb : 0 ≤ (x.toNat : Int) ∧ (x.toNat : Int) < 256 := ⟨by omega, by have := x.toNat_lt; omega⟩
    rw [drop_at hx, sumF] at hs
    have hgd : s.data.toList.getD (Int.toNat j) 0 = x := by rw [Int.toNat_natCast, List.getD_eq_getElem?_getD, hx]; rfl
    have e1 : (a + (x.toNat : Int)).tmod 65521 = (a + (x.toNat : Int)) % 65521 := Int.tmod_eq_emod_of_nonneg (by omega)
    have hm1 := Int.emod_nonneg (a + (x.toNat : Int)) (show (65521 : Int) ≠ 0 by decide)
    have hm2 := Int.emod_lt_of_pos (a + (x.toNat : Int)) (show (0 : Int) < 65521 by decide)
    have e2 : (b + (a + (x.toNat : Int)) % 65521).tmod 65521 = (b + (a + (x.toNat : Int)) % 65521) % 65521 := Int.tmod_eq_emod_of_nonneg (by omega)
    have e3 : IntKind.i64.wrap (x.toNat : Int) = x.toNat := i64_wrap (by omega)
    dsimp only at hs
    conv => whnf
    repeat ((first | refine aI rfl ?_ | refine aI (by decide) ?_ | refine dI (by kernel_rfl) ?_ | refine aI ⟨by omega, by omega⟩ ?_ | refine aI (by omega) ?_ | refine aI (fun _ => ⟨by omega, by omega⟩) ?_ | refine aI (of_decide_eq_true rfl) ?_ | (refine yI ?_ ?_; focus (first | decide | (simp; done) | (simp [tcs]; done))) | (refine nI ?_ ?_; focus (first | decide | (simp; done) | (simp [tcs]; done))) | intro _); conv => whnf)
    rw [hgd, e3]
    refine ⟨⟨by omega, by omega⟩, ?_⟩
    conv => whnf
    refine ⟨show (65521 : Int) ≠ 0 by decide, ?_⟩
    conv => whnf
    rw [e1]
    conv => whnf
    refine ⟨⟨by omega, by omega⟩, ?_⟩
    conv => whnf
    refine ⟨show (65521 : Int) ≠ 0 by decide, ?_⟩
    conv => whnf
    rw [e2]
    conv => whnf
    repeat ((first | refine aI rfl ?_ | refine aI (by decide) ?_ | refine dI (by kernel_rfl) ?_ | refine aI ⟨by omega, by omega⟩ ?_ | refine aI (by omega) ?_ | refine aI (fun _ => ⟨by omega, by omega⟩) ?_ | refine aI (of_decide_eq_true rfl) ?_ | (refine yI ?_ ?_; focus (first | decide | (simp; done) | (simp [tcs]; done))) | (refine nI ?_ ?_; focus (first | decide | (simp; done) | (simp [tcs]; done))) | intro _); conv => whnf)
    refine ⟨m - 1, _, _, by omega, ⟨j + 1, _, _, by omega, hs, ⟨⟨hm1, hm2⟩, Int.emod_nonneg _ (by decide), Int.emod_lt_of_pos _ (by decide)⟩, rfl, rfl⟩, Wk.sl [] rfl trivial ⟨rfl, rfl, rfl, rfl, rfl, trivial⟩ rfl⟩
  · replace hc : ¬ (j : Int) < s.size := of_decide_eq_false hc
    obtain rfl : j = s.size := by omega
    rw [List.drop_eq_nil_of_le (by omega), sumF] at hs
    rw [← hs]
    conv => whnf
    refine ⟨show (0 : Int) ≤ 16 by decide, ?_⟩
    conv => whnf
    rw [shl16 hab.2]
    conv => whnf
    refine ⟨⟨by omega, by omega⟩, ?_⟩
    conv => whnf
    repeat ((first | refine aI rfl ?_ | refine aI (by decide) ?_ | refine dI (by kernel_rfl) ?_ | refine aI ⟨by omega, by omega⟩ ?_ | refine aI (by omega) ?_ | refine aI (fun _ => ⟨by omega, by omega⟩) ?_ | refine aI (of_decide_eq_true rfl) ?_ | (refine yI ?_ ?_; focus (first | decide | (simp; done) | (simp [tcs]; done))) | (refine nI ?_ ?_; focus (first | decide | (simp; done) | (simp [tcs]; done))) | intro _); conv => whnf)
    all_goals (first | rfl | exact ⟨rfl, rfl⟩ | exact ⟨rfl, rfl, rfl⟩)
theorem cRSum (s : ByteArray) (hss : s.size ≤ 1000000000) : CallSt Tryz.prog 45 [.c (.str s)] [] (fun r H' => r = .c (.int .i64 (sumI s.data.toList)) ∧ H' = []) := by
  have hsz : s.data.toList.length = s.size := by rw [Array.length_toList]; rfl
  have hbd := sumF_bd s.data.toList (1, 0) (by decide)
  unfold sumI
  refine call_pure (E := env 0) (fn := Tryz.f45) (c := bodyOf Tryz.f45) (env_ok 0) mixed (by kernel_rfl) (by kernel_rfl) (by kernel_rfl) (by kernel_rfl) (by kernel_rfl) (by kernel_rfl) rfl ?_
  conv => whnf
  repeat ((first | refine aI rfl ?_ | refine aI (by decide) ?_ | refine dI (by kernel_rfl) ?_ | refine aI ⟨by omega, by omega⟩ ?_ | refine aI (by omega) ?_ | refine aI (fun _ => ⟨by omega, by omega⟩) ?_ | refine aI (of_decide_eq_true rfl) ?_ | (refine yI ?_ ?_; focus (first | decide | (simp; done) | (simp [tcs]; done))) | (refine nI ?_ ?_; focus (first | decide | (simp; done) | (simp [tcs]; done))) | intro _); conv => whnf)
  refine loop_intro (fun m tm H => ∃ (j : Nat) (a b : Int), s.size = m + j ∧ sumF (s.data.toList.drop j) (a, b) = sumF s.data.toList (1, 0) ∧ ((0 ≤ a ∧ a < 65521) ∧ (0 ≤ b ∧ b < 65521)) ∧
      tm = [(5, .c (.int .i64 (j))), (0, .c (.str s)), (3, .c (.int .i64 (a))), (4, .c (.int .i64 (b)))] ∧ H = [])
    s.size _ _ ⟨0, 1, 0, by omega, rfl, by decide, rfl, rfl⟩ (Wk.sl [] rfl trivial ⟨rfl, rfl, rfl, rfl, trivial⟩ rfl) ?_
  rintro m tm H ⟨j, a, b, hj, hs, hab, rfl, rfl⟩
  conv => whnf
  refine ⟨fun hc => ?_, fun hc => ?_⟩
  · replace hc : (j : Int) < s.size := of_decide_eq_true hc
    have hlt : j < s.data.toList.length := by omega
    obtain ⟨x, hx⟩ : ∃ x, s.data.toList[j]? = some x := ⟨_, List.getElem?_eq_getElem hlt⟩
    have hxb : 0 ≤ (x.toNat : Int) ∧ (x.toNat : Int) < 256 := ⟨by omega, by have := x.toNat_lt; omega⟩
    rw [drop_at hx, sumF] at hs
    have hgd : s.data.toList.getD (Int.toNat j) 0 = x := by rw [Int.toNat_natCast, List.getD_eq_getElem?_getD, hx]; rfl
    have e1 : (a + (x.toNat : Int)).tmod 65521 = (a + (x.toNat : Int)) % 65521 := Int.tmod_eq_emod_of_nonneg (by omega)
    have hm1 := Int.emod_nonneg (a + (x.toNat : Int)) (show (65521 : Int) ≠ 0 by decide)
    have hm2 := Int.emod_lt_of_pos (a + (x.toNat : Int)) (show (0 : Int) < 65521 by decide)
    have e2 : (b + (a + (x.toNat : Int)) % 65521).tmod 65521 = (b + (a + (x.toNat : Int)) % 65521) % 65521 := Int.tmod_eq_emod_of_nonneg (by omega)
    have e3 : IntKind.i64.wrap (x.toNat : Int) = x.toNat := i64_wrap (by omega)
    dsimp only at hs
    conv => whnf
    repeat ((first | refine aI rfl ?_ | refine aI (by decide) ?_ | refine dI (by kernel_rfl) ?_ | refine aI ⟨by omega, by omega⟩ ?_ | refine aI (by omega) ?_ | refine aI (fun _ => ⟨by omega, by omega⟩) ?_ | refine aI (of_decide_eq_true rfl) ?_ | (refine yI ?_ ?_; focus (first | decide | (simp; done) | (simp [tcs]; done))) | (refine nI ?_ ?_; focus (first | decide | (simp; done) | (simp [tcs]; done))) | intro _); conv => whnf)
    rw [hgd, e3]
    refine ⟨⟨by omega, by omega⟩, ?_⟩
    conv => whnf
    refine ⟨show (65521 : Int) ≠ 0 by decide, ?_⟩
    conv => whnf
    rw [e1]
    conv => whnf
    refine ⟨⟨by omega, by omega⟩, ?_⟩
    conv => whnf
    refine ⟨show (65521 : Int) ≠ 0 by decide, ?_⟩
    conv => whnf
    rw [e2]
    conv => whnf
    repeat ((first | refine aI rfl ?_ | refine aI (by decide) ?_ | refine dI (by kernel_rfl) ?_ | refine aI ⟨by omega, by omega⟩ ?_ | refine aI (by omega) ?_ | refine aI (fun _ => ⟨by omega, by omega⟩) ?_ | refine aI (of_decide_eq_true rfl) ?_ | (refine yI ?_ ?_; focus (first | decide | (simp; done) | (simp [tcs]; done))) | (refine nI ?_ ?_; focus (first | decide | (simp; done) | (simp [tcs]; done))) | intro _); conv => whnf)
    refine ⟨m - 1, _, _, by omega, ⟨j + 1, _, _, by omega, hs, ⟨⟨hm1, hm2⟩, Int.emod_nonneg _ (by decide), Int.emod_lt_of_pos _ (by decide)⟩, rfl, rfl⟩, Wk.sl [] rfl trivial ⟨rfl, rfl, rfl, rfl, trivial⟩ rfl⟩
  · replace hc : ¬ (j : Int) < s.size := of_decide_eq_false hc
    obtain rfl : j = s.size := by omega
    rw [List.drop_eq_nil_of_le (by omega), sumF] at hs
    rw [← hs]
    conv => whnf
    refine ⟨⟨by omega, by omega⟩, ?_⟩
    conv => whnf
    refine ⟨⟨by omega, by omega⟩, ?_⟩
    conv => whnf
    repeat ((first | refine aI rfl ?_ | refine aI (by decide) ?_ | refine dI (by kernel_rfl) ?_ | refine aI ⟨by omega, by omega⟩ ?_ | refine aI (by omega) ?_ | refine aI (fun _ => ⟨by omega, by omega⟩) ?_ | refine aI (of_decide_eq_true rfl) ?_ | (refine yI ?_ ?_; focus (first | decide | (simp; done) | (simp [tcs]; done))) | (refine nI ?_ ?_; focus (first | decide | (simp; done) | (simp [tcs]; done))) | intro _); conv => whnf)
    all_goals (first | rfl | exact ⟨rfl, rfl⟩ | exact ⟨rfl, rfl, rfl⟩)
def sb (n : Int) (j : Nat) : UInt8 := u8 (n.fdiv (2 ^ (min (8 * (3 - (j : Int))).toNat 64)))
def sealB (l : List UInt8) : List UInt8 := l ++ [sb (sumI l) 0, sb (sumI l) 1, sb (sumI l) 2, sb (sumI l) 3]
theorem cSealed (l : List UInt8) (hl : l.length ≤ 900000000) : CallSt Tryz.prog 49 [.own 0] [.row 5 1 1 (bR l)] (fun r H' => r = .c (.str ⟨(sealB l).toArray⟩) ∧ H' = [.dead]) := by
  have hs := cSum ⟨l.toArray⟩ (by simpa [ByteArray.size] using (by omega : l.length ≤ 1000000000))
  dsimp only at hs
  have hbd := sumI_bd l
  have hsb : ∀ j : Nat, j < 4 → sealB l = l ++ ([sb (sumI l) 0, sb (sumI l) 1, sb (sumI l) 2, sb (sumI l) 3] : List UInt8) := fun _ _ => rfl
  refine call_wk (E := envK 1) (fn := Tryz.f49) (c := bodyOf Tryz.f49) (envK_ok 1) mixed (by kernel_rfl) (by kernel_rfl) (by kernel_rfl) (by kernel_rfl) (by kernel_rfl) (by kernel_rfl) rfl false ?_
  conv => whnf
  repeat ((first | refine aI rfl ?_ | refine aI (by decide) ?_ | refine dI (by kernel_rfl) ?_ | refine aI ⟨by omega, by omega⟩ ?_ | refine aI (by omega) ?_ | refine aI (fun _ => ⟨by omega, by omega⟩) ?_ | refine aI (of_decide_eq_true rfl) ?_ | (refine yI ?_ ?_; focus (first | decide | (simp; done) | (simp [tcs]; done))) | (refine nI ?_ ?_; focus (first | decide | (simp; done) | (simp [tcs]; done))) | intro _); conv => whnf)
  refine ⟨l, rfl, ?_⟩
  conv => whnf
  repeat ((first | refine aI rfl ?_ | refine aI (by decide) ?_ | refine dI (by kernel_rfl) ?_ | refine aI ⟨by omega, by omega⟩ ?_ | refine aI (by omega) ?_ | refine aI (fun _ => ⟨by omega, by omega⟩) ?_ | refine aI (of_decide_eq_true rfl) ?_ | (refine yI ?_ ?_; focus (first | decide | (simp; done) | (simp [tcs]; done))) | (refine nI ?_ ?_; focus (first | decide | (simp; done) | (simp [tcs]; done))) | intro _); conv => whnf)
  try (refine dI (by kernel_rfl) ?_; conv => whnf)
  first | refine CallSt.use hs [] trivial (by decide) rfl ?_ | refine CallPt.useS hs [] trivial (by decide) rfl ?_
  rintro _ _ ⟨rfl, rfl⟩ _
  conv => whnf
  repeat ((first | refine aI rfl ?_ | refine aI (by decide) ?_ | refine dI (by kernel_rfl) ?_ | refine aI ⟨by omega, by omega⟩ ?_ | refine aI (by omega) ?_ | refine aI (fun _ => ⟨by omega, by omega⟩) ?_ | refine aI (of_decide_eq_true rfl) ?_ | (refine yI ?_ ?_; focus (first | decide | (simp; done) | (simp [tcs]; done))) | (refine nI ?_ ?_; focus (first | decide | (simp; done) | (simp [tcs]; done))) | intro _); conv => whnf)
  refine loop_intro (fun m tm H => ∃ (j : Nat), 4 = m + j ∧ tm = [(8, .c (.int .i64 (j))), (3, .c (.int .i64 (sumI l))), (0, .own 1)] ∧ H = [.dead, .row 5 1 1 (bR (l ++ ([sb (sumI l) 0, sb (sumI l) 1, sb (sumI l) 2, sb (sumI l) 3] : List UInt8).take j))])
    4 _ _ ⟨0, by omega, rfl, rfl⟩ ?_ ?_
  · refine Wk.trans (Wk.mvtmp 0 0 5 1 1 (bR l) rfl rfl rfl) ?_
    refine Wk.sl [0, 1] rfl ⟨rfl, ?_, trivial⟩ ⟨rfl, rfl, rfl, trivial⟩ rfl
    exact congrArg (fun z => some (Ent.row 5 1 1 (bR z))) (by simp)
  rintro m tm H ⟨j, hj, rfl, rfl⟩
  conv => whnf
  refine ⟨fun hc => ?_, fun hc => ?_⟩
  · replace hc : (j : Int) < 4 := of_decide_eq_true hc
    have hgj : ([sb (sumI l) 0, sb (sumI l) 1, sb (sumI l) 2, sb (sumI l) 3] : List UInt8)[j]? = some (sb (sumI l) j) := by
      rcases (by omega : j = 0 ∨ j = 1 ∨ j = 2 ∨ j = 3) with rfl | rfl | rfl | rfl <;> rfl
    have htk : ([sb (sumI l) 0, sb (sumI l) 1, sb (sumI l) 2, sb (sumI l) 3] : List UInt8).take (j + 1) = ([sb (sumI l) 0, sb (sumI l) 1, sb (sumI l) 2, sb (sumI l) 3] : List UInt8).take j ++ [sb (sumI l) j] := by
      rw [List.take_add_one, hgj]
      rfl
    generalize hL : ([sb (sumI l) 0, sb (sumI l) 1, sb (sumI l) 2, sb (sumI l) 3] : List UInt8) = L4 at *
    have hll : (bR (l ++ L4.take j)).length ≤ 900000004 := by
      rw [bR_len, List.length_append, List.length_take]
      omega
    have hb1 : ((bR (l ++ L4.take j)).length + 1) * 1 ≤ 140737488355328 := by omega
    have hb2 : (bR (l ++ L4.take j)).length + 1 ≤ 9223372036854775807 := by omega
    have hsbj : sb (sumI l) j = u8 ((sumI l).fdiv (2 ^ (min (8 * (3 - (j : Int))).toNat 64))) := rfl
    have hsn := bR_snoc (l ++ L4.take j) ((sumI l).fdiv (2 ^ (min (8 * (3 - (j : Int))).toNat 64)))
    rw [← hsbj] at hsn
    conv => whnf
    repeat ((first | refine aI rfl ?_ | refine aI (by decide) ?_ | refine dI (by kernel_rfl) ?_ | refine aI ⟨by omega, by omega⟩ ?_ | refine aI (by omega) ?_ | refine aI (fun _ => ⟨by omega, by omega⟩) ?_ | refine aI (of_decide_eq_true rfl) ?_ | (refine yI ?_ ?_; focus (first | decide | (simp; done) | (simp [tcs]; done))) | (refine nI ?_ ?_; focus (first | decide | (simp; done) | (simp [tcs]; done))) | intro _); conv => whnf)
    refine ⟨show 0 ≤ 8 * (3 - (j : Int)) by omega, ?_⟩
    conv => whnf
    repeat ((first | refine aI rfl ?_ | refine aI (by decide) ?_ | refine dI (by kernel_rfl) ?_ | refine aI ⟨by omega, by omega⟩ ?_ | refine aI (by omega) ?_ | refine aI (fun _ => ⟨by omega, by omega⟩) ?_ | refine aI (of_decide_eq_true rfl) ?_ | (refine yI ?_ ?_; focus (first | decide | (simp; done) | (simp [tcs]; done))) | (refine nI ?_ ?_; focus (first | decide | (simp; done) | (simp [tcs]; done))) | intro _); conv => whnf)
    refine ⟨m - 1, _, _, by omega, ⟨j + 1, by omega, rfl, rfl⟩, Wk.sl [0, 3] rfl ⟨rfl, ?_, trivial⟩ ⟨rfl, rfl, rfl, trivial⟩ rfl⟩
    rw [htk, ← List.append_assoc, ← hsn]
    rfl
  · replace hc : ¬ (j : Int) < 4 := of_decide_eq_false hc
    obtain rfl : j = 4 := by omega
    conv => whnf
    repeat ((first | refine aI rfl ?_ | refine aI (by decide) ?_ | refine dI (by kernel_rfl) ?_ | refine aI ⟨by omega, by omega⟩ ?_ | refine aI (by omega) ?_ | refine aI (fun _ => ⟨by omega, by omega⟩) ?_ | refine aI (of_decide_eq_true rfl) ?_ | (refine yI ?_ ?_; focus (first | decide | (simp; done) | (simp [tcs]; done))) | (refine nI ?_ ?_; focus (first | decide | (simp; done) | (simp [tcs]; done))) | intro _); conv => whnf)
    refine ⟨sealB l, rfl, ?_⟩
    conv => whnf
    repeat ((first | refine aI rfl ?_ | refine aI (by decide) ?_ | refine dI (by kernel_rfl) ?_ | refine aI ⟨by omega, by omega⟩ ?_ | refine aI (by omega) ?_ | refine aI (fun _ => ⟨by omega, by omega⟩) ?_ | refine aI (of_decide_eq_true rfl) ?_ | (refine yI ?_ ?_; focus (first | decide | (simp; done) | (simp [tcs]; done))) | (refine nI ?_ ?_; focus (first | decide | (simp; done) | (simp [tcs]; done))) | intro _); conv => whnf)
    refine ⟨[(2, .c (.str ⟨(sealB l).toArray⟩))], [.dead], Wk.sl [0] rfl ⟨rfl, trivial⟩ ⟨rfl, trivial⟩ rfl, ?_⟩
    conv => whnf
    exact ⟨rfl, rfl⟩
theorem cRSeal (s : ByteArray) (hs : s.size ≤ 900000000) : CallSt Tryz.prog 22 [.c (.str s)] [] (fun r H' => r = .c (.str ⟨(sealB s.data.toList).toArray⟩) ∧ H' = []) := by
  have hc := cRSum s (by omega)
  have hbd := sumI_bd s.data.toList
  have e : (⟨(sealB s.data.toList).toArray⟩ : ByteArray) = s ++ ⟨([sb (sumI s.data.toList) 0, sb (sumI s.data.toList) 1, sb (sumI s.data.toList) 2, sb (sumI s.data.toList) 3] : List UInt8).toArray⟩ := by
    apply ByteArray.ext
    simp [sealB, ByteArray.data_append]
  rw [e]
  have e2 : bR [sb (sumI s.data.toList) 0, sb (sumI s.data.toList) 1, sb (sumI s.data.toList) 2, sb (sumI s.data.toList) 3] = [[.int .u8 (IntKind.u8.wrap ((sumI s.data.toList).fdiv (2 ^ (min (24 : Int).toNat 64))))], [.int .u8 (IntKind.u8.wrap ((sumI s.data.toList).fdiv (2 ^ (min (16 : Int).toNat 64))))], [.int .u8 (IntKind.u8.wrap ((sumI s.data.toList).fdiv (2 ^ (min (8 : Int).toNat 64))))], [.int .u8 (IntKind.u8.wrap (sumI s.data.toList))]] := by
    have h3 : sb (sumI s.data.toList) 3 = u8 (sumI s.data.toList) := by
      unfold sb
      rw [show (2 : Int) ^ (min (8 * (3 - ((3 : Nat) : Int))).toNat 64) = 1 by decide]
      rw [Int.fdiv_one]
    rw [h3]
    simp only [u8_wrap]
    rfl
  generalize sumI s.data.toList = q at *
  refine call_pure (E := env 0) (fn := Tryz.f22) (c := bodyOf Tryz.f22) (env_ok 0) mixed (by kernel_rfl) (by kernel_rfl) (by kernel_rfl) (by kernel_rfl) (by kernel_rfl) (by kernel_rfl) rfl ?_
  conv => whnf
  try (refine dI (by kernel_rfl) ?_; conv => whnf)
  first | refine CallSt.use hc [] trivial (by decide) rfl ?_ | refine CallPt.useS hc [] trivial (by decide) rfl ?_
  rintro _ _ ⟨rfl, rfl⟩ _
  conv => whnf
  repeat ((first | refine aI rfl ?_ | refine aI (by decide) ?_ | refine dI (by kernel_rfl) ?_ | refine aI ⟨by omega, by omega⟩ ?_ | refine aI (by omega) ?_ | refine aI (fun _ => ⟨by omega, by omega⟩) ?_ | refine aI (of_decide_eq_true rfl) ?_ | (refine yI ?_ ?_; focus (first | decide | (simp; done) | (simp [tcs]; done))) | (refine nI ?_ ?_; focus (first | decide | (simp; done) | (simp [tcs]; done))) | intro _); conv => whnf)
  refine ⟨show (0 : Int) ≤ 24 by decide, ?_⟩
  conv => whnf
  refine ⟨show (0 : Int) ≤ 16 by decide, ?_⟩
  conv => whnf
  refine ⟨show (0 : Int) ≤ 8 by decide, ?_⟩
  conv => whnf
  repeat ((first | refine aI rfl ?_ | refine aI (by decide) ?_ | refine dI (by kernel_rfl) ?_ | refine aI ⟨by omega, by omega⟩ ?_ | refine aI (by omega) ?_ | refine aI (fun _ => ⟨by omega, by omega⟩) ?_ | refine aI (of_decide_eq_true rfl) ?_ | (refine yI ?_ ?_; focus (first | decide | (simp; done) | (simp [tcs]; done))) | (refine nI ?_ ?_; focus (first | decide | (simp; done) | (simp [tcs]; done))) | intro _); conv => whnf)
  refine ⟨[sb q 0, sb q 1, sb q 2, sb q 3], e2.symm, ?_⟩
  conv => whnf
  refine ⟨?_, ?_⟩
  · show s.size + 4 ≤ 9223372036854775807
    omega
  conv => whnf
  repeat ((first | refine aI rfl ?_ | refine aI (by decide) ?_ | refine dI (by kernel_rfl) ?_ | refine aI ⟨by omega, by omega⟩ ?_ | refine aI (by omega) ?_ | refine aI (fun _ => ⟨by omega, by omega⟩) ?_ | refine aI (of_decide_eq_true rfl) ?_ | (refine yI ?_ ?_; focus (first | decide | (simp; done) | (simp [tcs]; done))) | (refine nI ?_ ?_; focus (first | decide | (simp; done) | (simp [tcs]; done))) | intro _); conv => whnf)
  all_goals (first | rfl | exact ⟨rfl, rfl⟩ | exact ⟨rfl, rfl, rfl⟩)
end Go.Tr
/- cert: a list of numbers by a closure; packed. -/
namespace Go.Tr
open Go.Proofs
theorem cListC (f : FuncId) (q : Int) (g : Nat → List UInt8) (l : List UInt8) (L : List Nat) (hb : ∀ x ∈ L, (g x).length ≤ 9) (hl : l.length + 9 + 9 * L.length ≤ 900000000)
    (hf : ∀ (l' : List UInt8) (x : Nat), x ∈ L → l'.length ≤ 900000000 → CallSt Tryz.prog f [.own 0, .c (.int .i64 (x)), .ptr 1 0] [.row 5 1 1 (bR l'), .box [.c (.int .i64 (q))]] (fun r H' => r = .own 2 ∧ H' = [.dead, .box [.c (.int .i64 (q))], .row 5 1 1 (bR (l' ++ g x))])) :
    CallSt Tryz.prog 47 [.own 0, .c (.sl 1 8 (rowN L)), .fn f [.ptr 1 0]] [.row 5 1 1 (bR l), .box [.c (.int .i64 (q))]] (fun r H' => r = .own 2 ∧ H' = [.dead, .box [.c (.int .i64 (q))], .row 5 1 1 (bR (l ++ lstB g L))]) := by
  have hrl := rowN_len L
  have hdl : (digs L.length).length ≤ 9 := digs_len 8 _ (by omega)
  have hn := cNumber l L.length (by omega) (by omega)
  rw [← hrl] at hn
  refine call_wk (E := envK 2) (fn := Tryz.f47) (c := bodyOf Tryz.f47) (envK_ok 2) mixed (by kernel_rfl) (by kernel_rfl) (by kernel_rfl) (by kernel_rfl) (by kernel_rfl) (by kernel_rfl) rfl false ?_
  conv => whnf
  repeat ((first | refine aI rfl ?_ | refine aI (by decide) ?_ | refine dI (by kernel_rfl) ?_ | refine aI ⟨by omega, by omega⟩ ?_ | refine aI (by omega) ?_ | refine aI (fun _ => ⟨by omega, by omega⟩) ?_ | refine aI (of_decide_eq_true rfl) ?_ | (refine yI ?_ ?_; focus (first | decide | (simp; done) | (simp [tcs]; done))) | (refine nI ?_ ?_; focus (first | decide | (simp; done) | (simp [tcs]; done))) | intro _); conv => whnf)
  try (refine dI (by kernel_rfl) ?_; conv => whnf)
  first | refine CallSt.use hn [0] ⟨rfl, trivial⟩ (by decide) rfl ?_ | refine CallPt.useS hn [0] ⟨rfl, trivial⟩ (by decide) rfl ?_
  rintro _ _ ⟨rfl, rfl⟩ _
  conv => whnf
  repeat ((first | refine aI rfl ?_ | refine aI (by decide) ?_ | refine dI (by kernel_rfl) ?_ | refine aI ⟨by omega, by omega⟩ ?_ | refine aI (by omega) ?_ | refine aI (fun _ => ⟨by omega, by omega⟩) ?_ | refine aI (of_decide_eq_true rfl) ?_ | (refine yI ?_ ?_; focus (first | decide | (simp; done) | (simp [tcs]; done))) | (refine nI ?_ ?_; focus (first | decide | (simp; done) | (simp [tcs]; done))) | intro _); conv => whnf)
  refine loop_intro (fun m tm H => ∃ (j : Nat), L.length = m + j ∧ tm = [(15, .c (.int .i64 (j))), (14, .c (.int .i64 ((rowN L).length))), (13, .c (.sl 1 8 (rowN L))), (0, .own 2), (2, .fn f [.ptr 1 0])] ∧ H = [.dead, .box [.c (.int .i64 (q))], .row 5 1 1 (bR (l ++ (digs (rowN L).length ++ (L.take j).flatMap g)))])
    L.length _ _ ⟨0, by omega, rfl, rfl⟩ ?_ ?_
  · refine Wk.sl [0, 1, 2] rfl ⟨rfl, rfl, ?_, trivial⟩ ⟨rfl, rfl, rfl, rfl, rfl, trivial⟩ rfl
    exact congrArg (fun z => some (Ent.row 5 1 1 (bR z))) (by simp)
  rintro m tm H ⟨j, hj, rfl, rfl⟩
  conv => whnf
  refine ⟨fun hc => ?_, fun hc => ?_⟩
  · replace hc : (j : Int) < (rowN L).length := of_decide_eq_true hc
    obtain ⟨x, hx⟩ : ∃ x, L[j]? = some x := ⟨L[j]'(by omega), List.getElem?_eq_getElem (by omega)⟩
    have hxr := rowN_at hx
    have hfl : ((L.take j).flatMap g).length ≤ 9 * j := by
      have : ∀ (M : List Nat), (∀ x ∈ M, (g x).length ≤ 9) → (M.flatMap g).length ≤ 9 * M.length := fun M => by
        induction M with
        | nil => intro _; simp
        | cons a M ih =>
          intro h
          have := ih fun x hx => h x (by simp [hx])
          have := h a (by simp)
          simp only [List.flatMap_cons, List.length_append, List.length_cons]
          omega
      have h2 := this (L.take j) fun x hx => hb x (List.mem_of_mem_take hx)
      rw [List.length_take] at h2
      omega
    have hfx := hf (l ++ (digs (rowN L).length ++ (L.take j).flatMap g)) x (List.mem_of_getElem? hx) (by
      simp only [List.length_append]
      rw [hrl]
      omega)
    conv => whnf
    refine ⟨_, ⟨by omega, by simpa using hxr⟩, ?_⟩
    conv => whnf
    refine ⟨Nat.le_refl 1, ?_⟩
    conv => whnf
    try (refine dI (by kernel_rfl) ?_; conv => whnf)
    first | refine CallSt.use hfx [2, 1] ⟨rfl, rfl, trivial⟩ (by decide) rfl ?_ | refine CallPt.useS hfx [2, 1] ⟨rfl, rfl, trivial⟩ (by decide) rfl ?_
    rintro _ _ ⟨rfl, rfl⟩ _
    conv => whnf
    repeat ((first | refine aI rfl ?_ | refine aI (by decide) ?_ | refine dI (by kernel_rfl) ?_ | refine aI ⟨by omega, by omega⟩ ?_ | refine aI (by omega) ?_ | refine aI (fun _ => ⟨by omega, by omega⟩) ?_ | refine aI (of_decide_eq_true rfl) ?_ | (refine yI ?_ ?_; focus (first | decide | (simp; done) | (simp [tcs]; done))) | (refine nI ?_ ?_; focus (first | decide | (simp; done) | (simp [tcs]; done))) | intro _); conv => whnf)
    refine ⟨m - 1, _, _, by omega, ⟨j + 1, by omega, rfl, rfl⟩, Wk.sl [0, 1, 3] rfl ⟨rfl, rfl, ?_, trivial⟩ ⟨rfl, rfl, rfl, rfl, rfl, trivial⟩ rfl⟩
    refine congrArg (fun z => some (Ent.row 5 1 1 (bR z))) ?_
    rw [List.take_add_one, hx]
    simp
  · replace hc : ¬ (j : Int) < (rowN L).length := of_decide_eq_false hc
    obtain rfl : j = L.length := by omega
    conv => whnf
    repeat ((first | refine aI rfl ?_ | refine aI (by decide) ?_ | refine dI (by kernel_rfl) ?_ | refine aI ⟨by omega, by omega⟩ ?_ | refine aI (by omega) ?_ | refine aI (fun _ => ⟨by omega, by omega⟩) ?_ | refine aI (of_decide_eq_true rfl) ?_ | (refine yI ?_ ?_; focus (first | decide | (simp; done) | (simp [tcs]; done))) | (refine nI ?_ ?_; focus (first | decide | (simp; done) | (simp [tcs]; done))) | intro _); conv => whnf)
    refine ⟨[(6, .own 2)], [.dead, .box [.c (.int .i64 (q))], .row 5 1 1 (bR (l ++ lstB g L))], Wk.sl [0, 1, 2] rfl ⟨rfl, rfl, ?_, trivial⟩ ⟨rfl, trivial⟩ rfl, ?_⟩
    · refine congrArg (fun z => some (Ent.row 5 1 1 (bR z))) ?_
      rw [hrl, List.take_length]
      rfl
    conv => whnf
    exact ⟨rfl, rfl⟩
theorem cPackedF (l : List UInt8) (i x : Nat) (hx : x < i) (hi : i ≤ 1000000) (hl : l.length ≤ 900000000) : CallSt Tryz.prog 48 [.own 0, .c (.int .i64 (x)), .ptr 1 0] [.row 5 1 1 (bR l), .box [.c (.int .i64 (i))]] (fun r H' => r = .own 2 ∧ H' = [.dead, .box [.c (.int .i64 (i))], .row 5 1 1 (bR (l ++ digs (i - x - 1)))]) := by
  have hd := digs9 (n := i - x - 1) (by omega)
  have hn := cNumber l (i - x - 1) (by omega) (by omega)
  have e : ((i - x - 1 : Nat) : Int) = (i : Int) - x - 1 := by omega
  rw [e] at hn
  refine call_wk (E := envK 2) (fn := Tryz.f48) (c := bodyOf Tryz.f48) (envK_ok 2) mixed (by kernel_rfl) (by kernel_rfl) (by kernel_rfl) (by kernel_rfl) (by kernel_rfl) (by kernel_rfl) rfl false ?_
  conv => whnf
  repeat ((first | refine aI rfl ?_ | refine aI (by decide) ?_ | refine dI (by kernel_rfl) ?_ | refine aI ⟨by omega, by omega⟩ ?_ | refine aI (by omega) ?_ | refine aI (fun _ => ⟨by omega, by omega⟩) ?_ | refine aI (of_decide_eq_true rfl) ?_ | (refine yI ?_ ?_; focus (first | decide | (simp; done) | (simp [tcs]; done))) | (refine nI ?_ ?_; focus (first | decide | (simp; done) | (simp [tcs]; done))) | intro _); conv => whnf)
  try (refine dI (by kernel_rfl) ?_; conv => whnf)
  first | refine CallSt.use hn [0] ⟨rfl, trivial⟩ (by decide) rfl ?_ | refine CallPt.useS hn [0] ⟨rfl, trivial⟩ (by decide) rfl ?_
  rintro _ _ ⟨rfl, rfl⟩ _
  conv => whnf
  repeat ((first | refine aI rfl ?_ | refine aI (by decide) ?_ | refine dI (by kernel_rfl) ?_ | refine aI ⟨by omega, by omega⟩ ?_ | refine aI (by omega) ?_ | refine aI (fun _ => ⟨by omega, by omega⟩) ?_ | refine aI (of_decide_eq_true rfl) ?_ | (refine yI ?_ ?_; focus (first | decide | (simp; done) | (simp [tcs]; done))) | (refine nI ?_ ?_; focus (first | decide | (simp; done) | (simp [tcs]; done))) | intro _); conv => whnf)
  refine ⟨[(5, .own 2)], [.dead, .box [.c (.int .i64 (i))], .row 5 1 1 (bR (l ++ digs (i - x - 1)))], Wk.sl [0, 1, 2] rfl ⟨rfl, rfl, rfl, trivial⟩ ⟨rfl, trivial⟩ rfl, ?_⟩
  conv => whnf
  exact ⟨rfl, rfl⟩
def nodeB (B : List Term) (i : Nat) (t : Term) : List UInt8 := [u8 (t.k + 8 * t.l)] ++ ((match decide (t.k = 4) with | true => digs t.n.toNat | false => []) ++ lstB (fun k => digs (i - k - 1)) (kd B t))
def nodesB (B : List Term) : Nat → List UInt8
  | 0 => []
  | n + 1 => nodesB B n ++ (match B[n]? with | some t => nodeB B n t | none => [])
def declB (d : Dcl) (r : Nat) : List UInt8 := digs d.s.size ++ d.s.data.toList ++ digs r ++ digs d.i.toNat
def declsB (S : List Dcl) (R : List Nat) : Nat → List UInt8
  | 0 => []
  | n + 1 => declsB S R n ++ (match S[n]?, R[n]? with | some d, some r => declB d r | _, _ => [])
def packL (S : List Dcl) (X : List Term) (B : List Term) (R : List Nat) : List UInt8 :=
  [116, 114, 49] ++ digs B.length ++ nodesB B B.length ++ digs S.length ++ declsB S R S.length ++ lstB digs ((R.drop S.length).take X.length) ++ ((R.drop S.length).drop X.length).flatMap digs
structure OkC (c : Crt) : Prop where
  sane : Sane c
  X : c.X.length ≤ 30
  names : ∀ d ∈ c.S, d.s.size ≤ 16 ∧ 0 ≤ d.i ∧ d.i ≤ 600
theorem built_ok {c : Crt} (h : builtB c = true) : OkC c := by
  unfold builtB at h
  simp only [Bool.and_eq_true, List.all_eq_true] at h
  obtain ⟨⟨hX, hS⟩, ht⟩ := h
  have hX := of_decide_eq_true hX
  have hSl : c.S.length ≤ 100 := by unfold checkB at hS; simp only [Bool.and_eq_true] at hS; exact of_decide_eq_true hS.1
  have htp : ∀ t ∈ crl c, prop t = true := fun t hm => by
    have := ht t hm
    unfold closedT at this
    simp only [Bool.and_eq_true] at this
    exact this.1
  refine ⟨⟨hSl, by omega, fun t hm => ⟨wf_prop (htp t hm), prop_sz (htp t hm)⟩⟩, hX, fun d hd => ?_⟩
  obtain ⟨i, hi⟩ := List.mem_iff_getElem?.1 hd
  have hil := (List.getElem?_eq_some_iff.1 hi).1
  unfold checkB at hS
  simp only [Bool.and_eq_true, List.all_eq_true] at hS
  have hg := hS.2 i (by simpa using hil)
  unfold goodD at hg
  rw [hi] at hg
  simp only [Bool.and_eq_true] at hg
  have hf := hg.2
  unfold formedF nameF isSmallF at hf
  simp only [Bool.and_eq_true, decide_eq_true_eq] at hf
  have hp := prop_sz hf.1.1.1.1
  have hdl := dom_len d.c 1 (prop_fm1 hf.1.1.1.1)
  exact ⟨hf.1.1.1.2.1.1.1.2, hf.1.1.2, by have := hf.1.2.1; omega⟩
theorem flat9 (g : Nat → List UInt8) : ∀ (M : List Nat), (∀ x ∈ M, (g x).length ≤ 9) → (M.flatMap g).length ≤ 9 * M.length
  | [], _ => by simp
  | a :: M, h => by
    have := flat9 g M fun x hx => h x (by simp [hx])
    have := h a (by simp)
    simp only [List.flatMap_cons, List.length_append, List.length_cons]
    omega
theorem lstB_len (g : Nat → List UInt8) (M : List Nat) (h : ∀ x ∈ M, (g x).length ≤ 9) (hl : M.length ≤ 4611686018427387904) : (lstB g M).length ≤ 9 + 9 * M.length := by
  have := flat9 g M h
  have := digs9 hl
  unfold lstB
  rw [List.length_append]
  omega
theorem nodeB_len {B : List Term} {i : Nat} {t : Term} (hw : wf t) (hs : szT t ≤ 600) (hi : i ≤ 1000000) : (nodeB B i t).length ≤ 5419 := by
  have hn := wf_node hw
  have hsl := szL_len t.ts
  have hsz : szT t = 1 + szL t.ts := by cases t; rw [szT]; rfl
  have h1 := lstB_len (fun k => digs (i - k - 1)) (kd B t) (fun x _ => digs9 (by omega)) (by unfold kd; rw [List.length_map]; omega)
  have h2 : (digs t.n.toNat).length ≤ 9 := digs9 (by omega)
  have h3 : (kd B t).length = t.ts.length := by simp [kd]
  unfold nodeB
  simp only [List.length_append, List.length_singleton]
  cases decide (t.k = 4) <;> simp only [List.length_nil] <;> omega
theorem nodesB_len {B : List Term} (h : ∀ t ∈ B, wf t ∧ szT t ≤ 600) (hB : B.length ≤ 1000000) : ∀ n : Nat, n ≤ B.length → (nodesB B n).length ≤ 5419 * n
  | 0, _ => by simp [nodesB]
  | n + 1, hn => by
    have := nodesB_len h hB n (by omega)
    have hg : B[n]? = some B[n] := List.getElem?_eq_getElem (by omega)
    have h2 := h B[n] (List.getElem_mem _)
    have := nodeB_len (B := B) (i := n) h2.1 h2.2 (by omega)
    rw [nodesB, hg, List.length_append]
    simp only
    omega
end Go.Tr
/- cert: packed. -/
namespace Go.Tr
open Go.Proofs
theorem bR_tr1 : bR [116, 114, 49] = [[.int .u8 116], [.int .u8 114], [.int .u8 49]] := rfl
theorem szL_mem' : ∀ (ts : List Term) (u : Term), u ∈ ts → szT u ≤ szL ts
  | [], u, h => by cases h
  | t :: r, u, h => by
    have := szT_pos t
    have := szL_pos r
    rw [szL]
    rcases List.mem_cons.1 h with rfl | h
    · omega
    · have := szL_mem' r u h
      omega
mutual
theorem adT_sub : ∀ (u : Term) (B : List Term), ∀ t ∈ adT u B, t ∈ B ∨ szT t ≤ szT u
  | .mk k l n ts, B, t, ht => by
    have ih := adL_sub ts B
    have hs : t ∈ adL ts B → t ∈ B ∨ szT t ≤ szT (.mk k l n ts) := fun h => by
      rcases ih t h with h | ⟨u, hu, hl⟩
      · exact .inl h
      · have := szL_mem' ts u hu
        exact .inr (by rw [szT]; omega)
    rw [adT] at ht
    split at ht
    · exact hs ht
    · rcases List.mem_append.1 ht with h | h
      · exact hs h
      · simp at h
        subst h
        exact .inr (Int.le_refl _)
theorem adL_sub : ∀ (ts : List Term) (B : List Term), ∀ t ∈ adL ts B, t ∈ B ∨ ∃ u ∈ ts, szT t ≤ szT u
  | [], B, t, ht => by
    rw [adL] at ht
    exact .inl ht
  | a :: r, B, t, ht => by
    rw [adL] at ht
    rcases adL_sub r (adT a B) t ht with h | ⟨u, hu, hl⟩
    · rcases adT_sub a B t h with h | h
      · exact .inl h
      · exact .inr ⟨a, by simp, h⟩
    · exact .inr ⟨u, by simp [hu], hl⟩
end
theorem bk_sz {c : Crt} (h : Sane c) (n : Nat) : ∀ t ∈ bk c n, szT t ≤ 600 := fun t ht => by
  rcases adL_sub _ _ t ht with h2 | ⟨u, hu, hl⟩
  · cases h2
  · have := (h.t u (List.mem_of_mem_take hu)).2
    omega
theorem decls_len {S : List Dcl} {R : List Nat} (hS : ∀ d ∈ S, d.s.size ≤ 16 ∧ 0 ≤ d.i ∧ d.i ≤ 600) (hR : ∀ x ∈ R, x ≤ 1000000) : ∀ n : Nat, n ≤ S.length → (declsB S R n).length ≤ 43 * n
  | 0, _ => by simp [declsB]
  | n + 1, hn => by
    have ih := decls_len hS hR n (by omega)
    rw [declsB, List.length_append]
    have hs : S[n]? = some S[n] := List.getElem?_eq_getElem (by omega)
    rw [hs]
    cases hr : R[n]? with
    | none =>
      simp only [List.length_nil]
      omega
    | some r =>
      simp only
      have h1 := hS S[n] (List.getElem_mem _)
      have h2 := hR r (List.mem_of_getElem? hr)
      have d1 := digs9 (n := S[n].s.size) (by omega)
      have d2 := digs9 (n := r) (by omega)
      have d3 := digs9 (n := S[n].i.toNat) (by omega)
      have d4 : S[n].s.data.toList.length = S[n].s.size := by rw [Array.length_toList]; rfl
      unfold declB
      simp only [List.length_append]
      omega
theorem cPacked (c : Crt) (h : OkC c) : CallSt Tryz.prog 24 [crv c] [] (fun r H' => r = .c (.str ⟨(sealB (packL c.S c.X (bk c (crl c).length) (rt c (crl c).length))).toArray⟩) ∧ H' = []) := by
  have hnw := cNewNodes c h.sane
  have hcl := crl_len c
  have hS := h.sane.S
  have hX := h.sane.X
  obtain ⟨g1, g2, g3⟩ := bk_good h.sane (crl c).length
  rw [List.take_length] at g2 g3
  have hsa := szL_all (crl c) fun u hu => (h.sane.t u hu).2
  have hBs : ∀ t ∈ bk c (crl c).length, wf t ∧ szT t ≤ 600 := fun t ht => ⟨g1.wf t ht, bk_sz h.sane _ t ht⟩
  have hRl : (rt c (crl c).length).length = (crl c).length := by unfold rt; rw [List.length_map, List.take_length]
  have hRb : ∀ x ∈ rt c (crl c).length, x < (bk c (crl c).length).length := fun x hx => by
    unfold rt at hx
    rw [List.take_length] at hx
    obtain ⟨u, hu, rfl⟩ := List.mem_map.1 hx
    exact pl_lt (g2 u hu)
  have hnm := h.names
  clear h g2
  generalize crl c = q at *
  obtain ⟨S, X, ⟨k, l, n, ts⟩, ⟨k2, l2, n2, us⟩⟩ := c
  generalize bk _ _ = B at *
  generalize rt _ _ = R at *
  unfold crv at *
  dsimp only [Term.k, Term.l, Term.n, Term.ts] at *
  have hnl := nds_len B
  have hBl : B.length ≤ 121200 := by omega
  have hnb := nodesB_len hBs (by omega)
  have hn0 := cNumber [116, 114, 49] B.length (by have := digs9 (n := B.length) (by omega); simp; omega) (by omega)
  rw [← hnl] at hn0
  have hd0 := digs9 (n := B.length) (by omega)
  refine call_pure (E := envK 0) (fn := Tryz.f24) (c := bodyOf Tryz.f24) (envK_ok 0) mixed (by kernel_rfl) (by kernel_rfl) (by kernel_rfl) (by kernel_rfl) (by kernel_rfl) (by kernel_rfl) rfl ?_
  conv => whnf
  repeat ((first | refine aI rfl ?_ | refine aI (by decide) ?_ | refine dI (by kernel_rfl) ?_ | refine aI ⟨by omega, by omega⟩ ?_ | refine aI (by omega) ?_ | refine aI (fun _ => ⟨by omega, by omega⟩) ?_ | refine aI (of_decide_eq_true rfl) ?_ | (refine yI ?_ ?_; focus (first | decide | (simp; done) | (simp [tcs]; done))) | (refine nI ?_ ?_; focus (first | decide | (simp; done) | (simp [tcs]; done))) | intro _); conv => whnf)
  try (refine dI (by kernel_rfl) ?_; conv => whnf)
  first | refine CallSt.use hnw [] trivial (by decide) rfl ?_ | refine CallPt.useS hnw [] trivial (by decide) rfl ?_
  rintro _ _ ⟨rfl, rfl⟩ _
  conv => whnf
  repeat ((first | refine aI rfl ?_ | refine aI (by decide) ?_ | refine dI (by kernel_rfl) ?_ | refine aI ⟨by omega, by omega⟩ ?_ | refine aI (by omega) ?_ | refine aI (fun _ => ⟨by omega, by omega⟩) ?_ | refine aI (of_decide_eq_true rfl) ?_ | (refine yI ?_ ?_; focus (first | decide | (simp; done) | (simp [tcs]; done))) | (refine nI ?_ ?_; focus (first | decide | (simp; done) | (simp [tcs]; done))) | intro _); conv => whnf)
  try (refine dI (by kernel_rfl) ?_; conv => whnf)
  first | refine CallSt.use hn0 [5] ⟨rfl, trivial⟩ (by decide) rfl ?_ | refine CallPt.useS hn0 [5] ⟨rfl, trivial⟩ (by decide) rfl ?_
  rintro _ _ ⟨rfl, rfl⟩ _
  conv => whnf
  repeat ((first | refine aI rfl ?_ | refine aI (by decide) ?_ | refine dI (by kernel_rfl) ?_ | refine aI ⟨by omega, by omega⟩ ?_ | refine aI (by omega) ?_ | refine aI (fun _ => ⟨by omega, by omega⟩) ?_ | refine aI (of_decide_eq_true rfl) ?_ | (refine yI ?_ ?_; focus (first | decide | (simp; done) | (simp [tcs]; done))) | (refine nI ?_ ?_; focus (first | decide | (simp; done) | (simp [tcs]; done))) | intro _); conv => whnf)
  refine loop_intro (fun m tm H => ∃ (j : Nat), B.length = m + j ∧ tm = [(31, .c (.int .i64 (j))), (30, .c (.int .i64 ((nds B).length))), (29, .own 1), (4, .c (.sl 1 8 (rowN R))), (5, .own 2), (1, .ptr 0 0)] ∧
      H = [.box [.c (.sl 6 72 (dcs S)), .c (.sl 4 48 (tcs X)), .c (.int .i64 (k)), .c (.int .i64 (l)), .c (.int .i64 (n)), .c (.sl 4 48 (tcs ts)), .c (.int .i64 (k2)), .c (.int .i64 (l2)), .c (.int .i64 (n2)), .c (.sl 4 48 (tcs us))], .row 62 5 72 (nds B), .row 5 1 1 (bR ([116, 114, 49] ++ digs B.length ++ nodesB B j))])
    B.length _ _ ⟨0, by omega, rfl, rfl⟩ ?_ ?_
  · refine Wk.sl [0, 2, 6] rfl ⟨rfl, rfl, ?_, trivial⟩ ⟨rfl, rfl, rfl, rfl, rfl, rfl, trivial⟩ rfl
    rw [nodesB, List.append_nil, ← hnl]
    rfl
  rintro m tm H ⟨j, hj, rfl, rfl⟩
  conv => whnf
  refine ⟨fun hc => ?_, fun hc => ?_⟩
  · replace hc : (j : Int) < (nds B).length := of_decide_eq_true hc
    obtain ⟨t, ht⟩ : ∃ t, B[j]? = some t := ⟨B[j]'(by omega), List.getElem?_eq_getElem (by omega)⟩
    have htm := List.mem_of_getElem? ht
    have htw := hBs t htm
    have hwn := wf_node htw.1
    have hnc : (nds B)[j]? = some [.int .i64 t.k, .int .i64 t.l, .int .i64 t.n, .sl 4 48 (tcs t.ts), .sl 1 8 (rowN (kd B t))] := by simp [nds, ht, ndc]
    have hjb := hnb j (by omega)
    have hlen : ([116, 114, 49] ++ digs B.length ++ nodesB B j : List UInt8).length ≤ 657000000 := by simp only [List.length_append, List.length_cons, List.length_nil]; omega
    have hkl : (kd B t).length ≤ 600 := by
      have := szL_len t.ts
      have hsz : szT t = 1 + szL t.ts := by cases t; rw [szT]; rfl
      unfold kd
      rw [List.length_map]
      omega
    have hkx : ∀ x ∈ kd B t, x < j := fun x hx => by
      obtain ⟨u, hu, rfl⟩ := List.mem_map.1 hx
      obtain ⟨p, hp, hpu⟩ := g1.lo j t ht u hu
      rw [pl_of g1.nd hpu]
      exact hp
    have hstep : nodesB B (j + 1) = nodesB B j ++ nodeB B j t := by rw [nodesB, ht]
    have e1 : bR (([116, 114, 49] ++ digs B.length ++ nodesB B j) ++ [u8 (t.k + 8 * t.l)]) = bR ([116, 114, 49] ++ digs B.length ++ nodesB B j) ++ [[CV.int .u8 (IntKind.u8.wrap (t.k + 8 * t.l))]] := (bR_snoc _ _).symm
    have hbl := bR_len ([116, 114, 49] ++ digs B.length ++ nodesB B j)
    have hb1 : ((bR ([116, 114, 49] ++ digs B.length ++ nodesB B j)).length + 1) * 1 ≤ 140737488355328 := by omega
    have hb2 : (bR ([116, 114, 49] ++ digs B.length ++ nodesB B j)).length + 1 ≤ 9223372036854775807 := by omega
    obtain ⟨N, hN⟩ : ∃ N : Nat, t.n = N := ⟨t.n.toNat, by omega⟩
    have hdN := digs9 (n := N) (by omega)
    have hnum := cNumber (([116, 114, 49] ++ digs B.length ++ nodesB B j) ++ [u8 (t.k + 8 * t.l)]) N (by simp only [List.length_append, List.length_singleton] at hlen ⊢; omega) (by omega)
    have hls1 := cListC 48 j (fun k => digs (j - k - 1)) ((([116, 114, 49] ++ digs B.length ++ nodesB B j) ++ [u8 (t.k + 8 * t.l)]) ++ digs N) (kd B t) (fun x _ => digs9 (by omega)) (by simp only [List.length_append, List.length_singleton] at hlen ⊢; omega) (fun l' x hx hl' => cPackedF l' j x (hkx x hx) (by omega) hl')
    have hls2 := cListC 48 j (fun k => digs (j - k - 1)) (([116, 114, 49] ++ digs B.length ++ nodesB B j) ++ [u8 (t.k + 8 * t.l)]) (kd B t) (fun x _ => digs9 (by omega)) (by simp only [List.length_append, List.length_singleton] at hlen ⊢; omega) (fun l' x hx hl' => cPackedF l' j x (hkx x hx) (by omega) hl')
    rw [nodeB, hN, Int.toNat_natCast] at hstep
    rw [hN] at hnc
    rw [e1] at hnum hls2
    generalize kd B t = K at *
    generalize t.k = tk at *
    generalize t.l = tl at *
    generalize t.ts = tts at *
    conv => whnf
    repeat ((first | refine aI rfl ?_ | refine aI (by decide) ?_ | refine dI (by kernel_rfl) ?_ | refine aI ⟨by omega, by omega⟩ ?_ | refine aI (by omega) ?_ | refine aI (fun _ => ⟨by omega, by omega⟩) ?_ | refine aI (of_decide_eq_true rfl) ?_ | (refine yI ?_ ?_; focus (first | decide | (simp; done) | (simp [tcs]; done))) | (refine nI ?_ ?_; focus (first | decide | (simp; done) | (simp [tcs]; done))) | intro _); conv => whnf)
    refine ⟨[.int .i64 tk, .int .i64 tl, .int .i64 (N : Int), .sl 4 48 (tcs tts), .sl 1 8 (rowN K)], by rw [Int.toNat_natCast]; exact hnc, show 0 + 5 ≤ 5 by decide, ?_⟩
    conv => whnf
    repeat ((first | refine aI rfl ?_ | refine aI (by decide) ?_ | refine dI (by kernel_rfl) ?_ | refine aI ⟨by omega, by omega⟩ ?_ | refine aI (by omega) ?_ | refine aI (fun _ => ⟨by omega, by omega⟩) ?_ | refine aI (of_decide_eq_true rfl) ?_ | (refine yI ?_ ?_; focus (first | decide | (simp; done) | (simp [tcs]; done))) | (refine nI ?_ ?_; focus (first | decide | (simp; done) | (simp [tcs]; done))) | intro _); conv => whnf)
    refine ⟨fun hk4 => ?_, fun hk4 => ?_⟩
    · rw [show decide (tk = 4) = true from hk4] at hstep
      conv => whnf
      repeat ((first | refine aI rfl ?_ | refine aI (by decide) ?_ | refine dI (by kernel_rfl) ?_ | refine aI ⟨by omega, by omega⟩ ?_ | refine aI (by omega) ?_ | refine aI (fun _ => ⟨by omega, by omega⟩) ?_ | refine aI (of_decide_eq_true rfl) ?_ | (refine yI ?_ ?_; focus (first | decide | (simp; done) | (simp [tcs]; done))) | (refine nI ?_ ?_; focus (first | decide | (simp; done) | (simp [tcs]; done))) | intro _); conv => whnf)
      try (refine dI (by kernel_rfl) ?_; conv => whnf)
      first | refine CallSt.use hnum [6] ⟨rfl, trivial⟩ (by decide) rfl ?_ | refine CallPt.useS hnum [6] ⟨rfl, trivial⟩ (by decide) rfl ?_
      rintro _ _ ⟨rfl, rfl⟩ _
      conv => whnf
      repeat ((first | refine aI rfl ?_ | refine aI (by decide) ?_ | refine dI (by kernel_rfl) ?_ | refine aI ⟨by omega, by omega⟩ ?_ | refine aI (by omega) ?_ | refine aI (fun _ => ⟨by omega, by omega⟩) ?_ | refine aI (of_decide_eq_true rfl) ?_ | (refine yI ?_ ?_; focus (first | decide | (simp; done) | (simp [tcs]; done))) | (refine nI ?_ ?_; focus (first | decide | (simp; done) | (simp [tcs]; done))) | intro _); conv => whnf)
      try (refine dI (by kernel_rfl) ?_; conv => whnf)
      first | refine CallSt.use hls1 [7, 3] ⟨rfl, rfl, trivial⟩ (by decide) rfl ?_ | refine CallPt.useS hls1 [7, 3] ⟨rfl, rfl, trivial⟩ (by decide) rfl ?_
      rintro _ _ ⟨rfl, rfl⟩ _
      conv => whnf
      repeat ((first | refine aI rfl ?_ | refine aI (by decide) ?_ | refine dI (by kernel_rfl) ?_ | refine aI ⟨by omega, by omega⟩ ?_ | refine aI (by omega) ?_ | refine aI (fun _ => ⟨by omega, by omega⟩) ?_ | refine aI (of_decide_eq_true rfl) ?_ | (refine yI ?_ ?_; focus (first | decide | (simp; done) | (simp [tcs]; done))) | (refine nI ?_ ?_; focus (first | decide | (simp; done) | (simp [tcs]; done))) | intro _); conv => whnf)
      refine ⟨m - 1, _, _, by omega, ⟨j + 1, by omega, rfl, rfl⟩, Wk.sl [0, 1, 8] rfl ⟨rfl, rfl, ?_, trivial⟩ ⟨rfl, rfl, rfl, rfl, rfl, rfl, trivial⟩ rfl⟩
      refine congrArg (fun z => some (Ent.row 5 1 1 (bR z))) ?_
      rw [hstep]
      simp only [List.append_assoc]
    · rw [show decide (tk = 4) = false from hk4] at hstep
      conv => whnf
      repeat ((first | refine aI rfl ?_ | refine aI (by decide) ?_ | refine dI (by kernel_rfl) ?_ | refine aI ⟨by omega, by omega⟩ ?_ | refine aI (by omega) ?_ | refine aI (fun _ => ⟨by omega, by omega⟩) ?_ | refine aI (of_decide_eq_true rfl) ?_ | (refine yI ?_ ?_; focus (first | decide | (simp; done) | (simp [tcs]; done))) | (refine nI ?_ ?_; focus (first | decide | (simp; done) | (simp [tcs]; done))) | intro _); conv => whnf)
      try (refine dI (by kernel_rfl) ?_; conv => whnf)
      first | refine CallSt.use hls2 [6, 3] ⟨rfl, rfl, trivial⟩ (by decide) rfl ?_ | refine CallPt.useS hls2 [6, 3] ⟨rfl, rfl, trivial⟩ (by decide) rfl ?_
      rintro _ _ ⟨rfl, rfl⟩ _
      conv => whnf
      repeat ((first | refine aI rfl ?_ | refine aI (by decide) ?_ | refine dI (by kernel_rfl) ?_ | refine aI ⟨by omega, by omega⟩ ?_ | refine aI (by omega) ?_ | refine aI (fun _ => ⟨by omega, by omega⟩) ?_ | refine aI (of_decide_eq_true rfl) ?_ | (refine yI ?_ ?_; focus (first | decide | (simp; done) | (simp [tcs]; done))) | (refine nI ?_ ?_; focus (first | decide | (simp; done) | (simp [tcs]; done))) | intro _); conv => whnf)
      refine ⟨m - 1, _, _, by omega, ⟨j + 1, by omega, rfl, rfl⟩, Wk.sl [0, 1, 7] rfl ⟨rfl, rfl, ?_, trivial⟩ ⟨rfl, rfl, rfl, rfl, rfl, rfl, trivial⟩ rfl⟩
      refine congrArg (fun z => some (Ent.row 5 1 1 (bR z))) ?_
      rw [hstep]
      simp only [List.append_assoc, List.nil_append]
  · replace hc : ¬ (j : Int) < (nds B).length := of_decide_eq_false hc
    obtain rfl : j = B.length := by omega
    have hnbb := hnb B.length (by omega)
    have hSl := len_dcs S
    have hXl := len_tcs X
    have hlen : ([116, 114, 49] ++ digs B.length ++ nodesB B B.length : List UInt8).length ≤ 657000000 := by simp only [List.length_append, List.length_cons, List.length_nil]; omega
    have hdS := digs9 (n := S.length) (by omega)
    have hnS := cNumber ([116, 114, 49] ++ digs B.length ++ nodesB B B.length) S.length (by omega) (by omega)
    rw [← hSl] at hnS
    generalize hP : ([116, 114, 49] ++ digs B.length ++ nodesB B B.length : List UInt8) = P at *
    have hdb : ∀ j : Nat, j ≤ S.length → (declsB S R j).length ≤ 43 * j := decls_len (fun d hd => hnm d hd) (fun x hx => by have := hRb x hx; omega)
    conv => whnf
    repeat ((first | refine aI rfl ?_ | refine aI (by decide) ?_ | refine dI (by kernel_rfl) ?_ | refine aI ⟨by omega, by omega⟩ ?_ | refine aI (by omega) ?_ | refine aI (fun _ => ⟨by omega, by omega⟩) ?_ | refine aI (of_decide_eq_true rfl) ?_ | (refine yI ?_ ?_; focus (first | decide | (simp; done) | (simp [tcs]; done))) | (refine nI ?_ ?_; focus (first | decide | (simp; done) | (simp [tcs]; done))) | intro _); conv => whnf)
    try (refine dI (by kernel_rfl) ?_; conv => whnf)
    first | refine CallSt.use hnS [2] ⟨rfl, trivial⟩ (by decide) rfl ?_ | refine CallPt.useS hnS [2] ⟨rfl, trivial⟩ (by decide) rfl ?_
    rintro _ _ ⟨rfl, rfl⟩ _
    conv => whnf
    repeat ((first | refine aI rfl ?_ | refine aI (by decide) ?_ | refine dI (by kernel_rfl) ?_ | refine aI ⟨by omega, by omega⟩ ?_ | refine aI (by omega) ?_ | refine aI (fun _ => ⟨by omega, by omega⟩) ?_ | refine aI (of_decide_eq_true rfl) ?_ | (refine yI ?_ ?_; focus (first | decide | (simp; done) | (simp [tcs]; done))) | (refine nI ?_ ?_; focus (first | decide | (simp; done) | (simp [tcs]; done))) | intro _); conv => whnf)
    refine loop_intro (fun m tm H => ∃ (j : Nat), S.length = m + j ∧ tm = [(71, .c (.int .i64 (j))), (70, .c (.int .i64 ((dcs S).length))), (69, .c (.sl 6 72 (dcs S))), (4, .c (.sl 1 8 (rowN R))), (5, .own 1), (1, .ptr 0 0)] ∧
        H = [.box [.c (.sl 6 72 (dcs S)), .c (.sl 4 48 (tcs X)), .c (.int .i64 (k)), .c (.int .i64 (l)), .c (.int .i64 (n)), .c (.sl 4 48 (tcs ts)), .c (.int .i64 (k2)), .c (.int .i64 (l2)), .c (.int .i64 (n2)), .c (.sl 4 48 (tcs us))], .row 5 1 1 (bR (P ++ digs S.length ++ declsB S R j))])
      S.length _ _ ⟨0, by omega, rfl, rfl⟩ ?_ ?_
    · refine Wk.sl [0, 3] rfl ⟨rfl, ?_, trivial⟩ ⟨rfl, rfl, rfl, rfl, rfl, rfl, trivial⟩ rfl
      rw [declsB, List.append_nil, ← hSl]
      rfl
    rintro m tm H ⟨j, hj, rfl, rfl⟩
    conv => whnf
    refine ⟨fun hc => ?_, fun hc => ?_⟩
    · replace hc : (j : Int) < (dcs S).length := of_decide_eq_true hc
      obtain ⟨d, hd⟩ : ∃ d, S[j]? = some d := ⟨S[j]'(by omega), List.getElem?_eq_getElem (by omega)⟩
      obtain ⟨r, hr⟩ : ∃ r, R[j]? = some r := ⟨R[j]'(by omega), List.getElem?_eq_getElem (by omega)⟩
      have hdc := dcs_at hd
      have hrr := rowN_at hr
      have hdm := hnm d (List.mem_of_getElem? hd)
      have hrm := hRb r (List.mem_of_getElem? hr)
      have hjb := hdb j (by omega)
      have hstep : declsB S R (j + 1) = declsB S R j ++ declB d r := by rw [declsB, hd, hr]
      have hQ : (P ++ digs S.length ++ declsB S R j).length ≤ 657005000 := by simp only [List.length_append]; omega
      generalize hQe : P ++ digs S.length ++ declsB S R j = Q at *
      obtain ⟨i, hi⟩ : ∃ i : Nat, d.i = i := ⟨d.i.toNat, by omega⟩
      unfold declB at hstep
      rw [hi, Int.toNat_natCast] at hstep
      obtain ⟨s', ⟨k', l', n', us'⟩, i'⟩ := d
      simp only at hdm hi hstep
      subst hi
      have d1 := digs9 (n := s'.size) (by omega)
      have d2 := digs9 (n := r) (by omega)
      have d3 := digs9 (n := i) (by omega)
      have d4 : s'.data.toList.length = s'.size := by rw [Array.length_toList]; rfl
      have hn1 := cNumber Q s'.size (by omega) (by omega)
      have hn2 := cNumber (Q ++ digs s'.size ++ s'.data.toList) r (by simp only [List.length_append]; omega) (by omega)
      have hn3 := cNumber (Q ++ digs s'.size ++ s'.data.toList ++ digs r) i (by simp only [List.length_append]; omega) (by omega)
      rw [bR_app _ s'.data.toList] at hn2
      have hbl := bR_len (Q ++ digs s'.size)
      have hp := digs_pos s'.size
      rw [List.length_append] at hbl
      conv => whnf
      refine ⟨_, ⟨by omega, hdc⟩, ?_⟩
      conv => whnf
      refine ⟨show 6 ≤ 6 by decide, ?_⟩
      conv => whnf
      repeat ((first | refine aI rfl ?_ | refine aI (by decide) ?_ | refine dI (by kernel_rfl) ?_ | refine aI ⟨by omega, by omega⟩ ?_ | refine aI (by omega) ?_ | refine aI (fun _ => ⟨by omega, by omega⟩) ?_ | refine aI (of_decide_eq_true rfl) ?_ | (refine yI ?_ ?_; focus (first | decide | (simp; done) | (simp [tcs]; done))) | (refine nI ?_ ?_; focus (first | decide | (simp; done) | (simp [tcs]; done))) | intro _); conv => whnf)
      try (refine dI (by kernel_rfl) ?_; conv => whnf)
      first | refine CallSt.use hn1 [1] ⟨rfl, trivial⟩ (by decide) rfl ?_ | refine CallPt.useS hn1 [1] ⟨rfl, trivial⟩ (by decide) rfl ?_
      rintro _ _ ⟨rfl, rfl⟩ _
      conv => whnf
      refine ⟨show 0 < (bR (Q ++ digs s'.size)).length by omega, show (bR (Q ++ digs s'.size)).length + s'.size ≤ 140737488355328 by omega, ?_⟩
      conv => whnf
      repeat ((first | refine aI rfl ?_ | refine aI (by decide) ?_ | refine dI (by kernel_rfl) ?_ | refine aI ⟨by omega, by omega⟩ ?_ | refine aI (by omega) ?_ | refine aI (fun _ => ⟨by omega, by omega⟩) ?_ | refine aI (of_decide_eq_true rfl) ?_ | (refine yI ?_ ?_; focus (first | decide | (simp; done) | (simp [tcs]; done))) | (refine nI ?_ ?_; focus (first | decide | (simp; done) | (simp [tcs]; done))) | intro _); conv => whnf)
      refine ⟨_, ⟨by omega, hrr⟩, ?_⟩
      conv => whnf
      refine ⟨show 1 ≤ 1 by decide, ?_⟩
      conv => whnf
      repeat ((first | refine aI rfl ?_ | refine aI (by decide) ?_ | refine dI (by kernel_rfl) ?_ | refine aI ⟨by omega, by omega⟩ ?_ | refine aI (by omega) ?_ | refine aI (fun _ => ⟨by omega, by omega⟩) ?_ | refine aI (of_decide_eq_true rfl) ?_ | (refine yI ?_ ?_; focus (first | decide | (simp; done) | (simp [tcs]; done))) | (refine nI ?_ ?_; focus (first | decide | (simp; done) | (simp [tcs]; done))) | intro _); conv => whnf)
      try (refine dI (by kernel_rfl) ?_; conv => whnf)
      first | refine CallSt.use hn2 [4] ⟨rfl, trivial⟩ (by decide) rfl ?_ | refine CallPt.useS hn2 [4] ⟨rfl, trivial⟩ (by decide) rfl ?_
      rintro _ _ ⟨rfl, rfl⟩ _
      conv => whnf
      repeat ((first | refine aI rfl ?_ | refine aI (by decide) ?_ | refine dI (by kernel_rfl) ?_ | refine aI ⟨by omega, by omega⟩ ?_ | refine aI (by omega) ?_ | refine aI (fun _ => ⟨by omega, by omega⟩) ?_ | refine aI (of_decide_eq_true rfl) ?_ | (refine yI ?_ ?_; focus (first | decide | (simp; done) | (simp [tcs]; done))) | (refine nI ?_ ?_; focus (first | decide | (simp; done) | (simp [tcs]; done))) | intro _); conv => whnf)
      try (refine dI (by kernel_rfl) ?_; conv => whnf)
      first | refine CallSt.use hn3 [5] ⟨rfl, trivial⟩ (by decide) rfl ?_ | refine CallPt.useS hn3 [5] ⟨rfl, trivial⟩ (by decide) rfl ?_
      rintro _ _ ⟨rfl, rfl⟩ _
      conv => whnf
      repeat ((first | refine aI rfl ?_ | refine aI (by decide) ?_ | refine dI (by kernel_rfl) ?_ | refine aI ⟨by omega, by omega⟩ ?_ | refine aI (by omega) ?_ | refine aI (fun _ => ⟨by omega, by omega⟩) ?_ | refine aI (of_decide_eq_true rfl) ?_ | (refine yI ?_ ?_; focus (first | decide | (simp; done) | (simp [tcs]; done))) | (refine nI ?_ ?_; focus (first | decide | (simp; done) | (simp [tcs]; done))) | intro _); conv => whnf)
      refine ⟨m - 1, _, _, by omega, ⟨j + 1, by omega, rfl, rfl⟩, Wk.sl [0, 6] rfl ⟨rfl, ?_, trivial⟩ ⟨rfl, rfl, rfl, rfl, rfl, rfl, trivial⟩ rfl⟩
      refine congrArg (fun z => some (Ent.row 5 1 1 (bR z))) ?_
      rw [hstep, ← List.append_assoc, hQe]
      simp only [List.append_assoc]
    · replace hc : ¬ (j : Int) < (dcs S).length := of_decide_eq_false hc
      obtain rfl : j = S.length := by omega
      have hdS2 := hdb S.length (by omega)
      have hQ : (P ++ digs S.length ++ declsB S R S.length).length ≤ 657005000 := by simp only [List.length_append]; omega
      have hpk : packL S X B R = P ++ digs S.length ++ declsB S R S.length ++ lstB digs ((R.drop S.length).take X.length) ++ ((R.drop S.length).drop X.length).flatMap digs := by
        rw [← hP]
        simp only [packL, List.append_assoc]
      rw [hpk]
      clear hpk
      generalize hQe : P ++ digs S.length ++ declsB S R S.length = Q at *
      have hRn := rowN_len R
      have hr1 : ((rowN R).take (((rowN R).length : Int).toNat)).drop (((dcs S).length : Int).toNat) = rowN (R.drop S.length) := by rw [Int.toNat_natCast, Int.toNat_natCast, List.take_length, hSl]; simp [rowN]
      have hRd := rowN_len (R.drop S.length)
      rw [List.length_drop] at hRd
      have hr2 : ((rowN (R.drop S.length)).take (((tcs X).length : Int).toNat)).drop (Int.toNat 0) = rowN ((R.drop S.length).take X.length) := by
        rw [Int.toNat_natCast, hXl]
        simp [rowN]
      have hr3 : ((rowN (R.drop S.length)).take (((rowN (R.drop S.length)).length : Int).toNat)).drop (((tcs X).length : Int).toNat) = rowN ((R.drop S.length).drop X.length) := by rw [Int.toNat_natCast, Int.toNat_natCast, List.take_length, hXl]; simp [rowN]
      have hls := cListN Q ((R.drop S.length).take X.length) (fun x hx => by have := hRb x (List.mem_of_mem_drop (List.mem_of_mem_take hx)); omega) (by rw [List.length_take]; omega)
      conv => whnf
      repeat ((first | refine aI rfl ?_ | refine aI (by decide) ?_ | refine dI (by kernel_rfl) ?_ | refine aI ⟨by omega, by omega⟩ ?_ | refine aI (by omega) ?_ | refine aI (fun _ => ⟨by omega, by omega⟩) ?_ | refine aI (of_decide_eq_true rfl) ?_ | (refine yI ?_ ?_; focus (first | decide | (simp; done) | (simp [tcs]; done))) | (refine nI ?_ ?_; focus (first | decide | (simp; done) | (simp [tcs]; done))) | intro _); conv => whnf)
      rw [hr1]
      refine ⟨⟨by omega, by omega, by omega⟩, ?_⟩
      conv => whnf
      rw [hr2]
      try (refine dI (by kernel_rfl) ?_; conv => whnf)
      first | refine CallSt.use hls [1] ⟨rfl, trivial⟩ (by decide) rfl ?_ | refine CallPt.useS hls [1] ⟨rfl, trivial⟩ (by decide) rfl ?_
      rintro _ _ ⟨rfl, rfl⟩ _
      conv => whnf
      repeat ((first | refine aI rfl ?_ | refine aI (by decide) ?_ | refine dI (by kernel_rfl) ?_ | refine aI ⟨by omega, by omega⟩ ?_ | refine aI (by omega) ?_ | refine aI (fun _ => ⟨by omega, by omega⟩) ?_ | refine aI (of_decide_eq_true rfl) ?_ | (refine yI ?_ ?_; focus (first | decide | (simp; done) | (simp [tcs]; done))) | (refine nI ?_ ?_; focus (first | decide | (simp; done) | (simp [tcs]; done))) | intro _); conv => whnf)
      rw [hr3]
      conv => whnf
      repeat ((first | refine aI rfl ?_ | refine aI (by decide) ?_ | refine dI (by kernel_rfl) ?_ | refine aI ⟨by omega, by omega⟩ ?_ | refine aI (by omega) ?_ | refine aI (fun _ => ⟨by omega, by omega⟩) ?_ | refine aI (of_decide_eq_true rfl) ?_ | (refine yI ?_ ?_; focus (first | decide | (simp; done) | (simp [tcs]; done))) | (refine nI ?_ ?_; focus (first | decide | (simp; done) | (simp [tcs]; done))) | intro _); conv => whnf)
      have hTl : ((R.drop S.length).drop X.length).length = 2 := by rw [List.length_drop, List.length_drop]; omega
      have hTb : ∀ x ∈ (R.drop S.length).drop X.length, x ≤ 1000000 := fun x hx => by have := hRb x (List.mem_of_mem_drop (List.mem_of_mem_drop hx)); omega
      have hlb := lstB_len digs ((R.drop S.length).take X.length) (fun x hx => by
        have := hRb x (List.mem_of_mem_drop (List.mem_of_mem_take hx))
        exact digs9 (by omega)) (by rw [List.length_take]; omega)
      have hlt : ((R.drop S.length).take X.length).length ≤ 100 := by rw [List.length_take]; omega
      have hGl : (Q ++ lstB digs ((R.drop S.length).take X.length)).length ≤ 658000000 := by rw [List.length_append]; omega
      generalize hG : Q ++ lstB digs ((R.drop S.length).take X.length) = G at *
      generalize (R.drop S.length).drop X.length = T at *
      have hTr := rowN_len T
      refine loop_intro (fun m tm H => ∃ (j : Nat), T.length = m + j ∧ tm = [(112, .c (.int .i64 (j))), (111, .c (.int .i64 ((rowN T).length))), (110, .c (.sl 1 8 (rowN T))), (5, .own 0)] ∧
          H = [.row 5 1 1 (bR (G ++ (T.take j).flatMap digs))])
        T.length _ _ ⟨0, by omega, rfl, rfl⟩ ?_ ?_
      · refine Wk.sl [2] rfl ⟨?_, trivial⟩ ⟨rfl, rfl, rfl, rfl, trivial⟩ rfl
        refine congrArg (fun z => some (Ent.row 5 1 1 (bR z))) ?_
        simp
      rintro m tm H ⟨j, hj, rfl, rfl⟩
      conv => whnf
      refine ⟨fun hc => ?_, fun hc => ?_⟩
      · replace hc : (j : Int) < (rowN T).length := of_decide_eq_true hc
        obtain ⟨x, hx⟩ : ∃ x, T[j]? = some x := ⟨T[j]'(by omega), List.getElem?_eq_getElem (by omega)⟩
        have hxr := rowN_at hx
        have hxb := hTb x (List.mem_of_getElem? hx)
        have hd := digs9 (n := x) (by omega)
        have hfl := flat9 digs (T.take j) fun y hy => digs9 (by have := hTb y (List.mem_of_mem_take hy); omega)
        have hjl : (T.take j).length ≤ 2 := by rw [List.length_take]; omega
        have hnx := cNumber (G ++ (T.take j).flatMap digs) x (by rw [List.length_append]; omega) (by omega)
        conv => whnf
        refine ⟨_, ⟨by omega, by simpa using hxr⟩, ?_⟩
        conv => whnf
        refine ⟨Nat.le_refl 1, ?_⟩
        conv => whnf
        repeat ((first | refine aI rfl ?_ | refine aI (by decide) ?_ | refine dI (by kernel_rfl) ?_ | refine aI ⟨by omega, by omega⟩ ?_ | refine aI (by omega) ?_ | refine aI (fun _ => ⟨by omega, by omega⟩) ?_ | refine aI (of_decide_eq_true rfl) ?_ | (refine yI ?_ ?_; focus (first | decide | (simp; done) | (simp [tcs]; done))) | (refine nI ?_ ?_; focus (first | decide | (simp; done) | (simp [tcs]; done))) | intro _); conv => whnf)
        try (refine dI (by kernel_rfl) ?_; conv => whnf)
        first | refine CallSt.use hnx [0] ⟨rfl, trivial⟩ (by decide) rfl ?_ | refine CallPt.useS hnx [0] ⟨rfl, trivial⟩ (by decide) rfl ?_
        rintro _ _ ⟨rfl, rfl⟩ _
        conv => whnf
        repeat ((first | refine aI rfl ?_ | refine aI (by decide) ?_ | refine dI (by kernel_rfl) ?_ | refine aI ⟨by omega, by omega⟩ ?_ | refine aI (by omega) ?_ | refine aI (fun _ => ⟨by omega, by omega⟩) ?_ | refine aI (of_decide_eq_true rfl) ?_ | (refine yI ?_ ?_; focus (first | decide | (simp; done) | (simp [tcs]; done))) | (refine nI ?_ ?_; focus (first | decide | (simp; done) | (simp [tcs]; done))) | intro _); conv => whnf)
        refine ⟨m - 1, _, _, by omega, ⟨j + 1, by omega, rfl, rfl⟩, Wk.sl [1] rfl ⟨?_, trivial⟩ ⟨rfl, rfl, rfl, rfl, trivial⟩ rfl⟩
        refine congrArg (fun z => some (Ent.row 5 1 1 (bR z))) ?_
        rw [List.take_add_one, hx]
        simp
      · replace hc : ¬ (j : Int) < (rowN T).length := of_decide_eq_false hc
        obtain rfl : j = T.length := by omega
        rw [List.take_length]
        have hfl := flat9 digs T fun y hy => digs9 (by have := hTb y hy; omega)
        have hse := cSealed (G ++ T.flatMap digs) (by rw [List.length_append]; omega)
        generalize G ++ T.flatMap digs = Z at *
        conv => whnf
        repeat ((first | refine aI rfl ?_ | refine aI (by decide) ?_ | refine dI (by kernel_rfl) ?_ | refine aI ⟨by omega, by omega⟩ ?_ | refine aI (by omega) ?_ | refine aI (fun _ => ⟨by omega, by omega⟩) ?_ | refine aI (of_decide_eq_true rfl) ?_ | (refine yI ?_ ?_; focus (first | decide | (simp; done) | (simp [tcs]; done))) | (refine nI ?_ ?_; focus (first | decide | (simp; done) | (simp [tcs]; done))) | intro _); conv => whnf)
        try (refine dI (by kernel_rfl) ?_; conv => whnf)
        first | refine CallSt.use hse [0] ⟨rfl, trivial⟩ (by decide) rfl ?_ | refine CallPt.useS hse [0] ⟨rfl, trivial⟩ (by decide) rfl ?_
        rintro _ _ ⟨rfl, rfl⟩ _
        conv => whnf
        repeat ((first | refine aI rfl ?_ | refine aI (by decide) ?_ | refine dI (by kernel_rfl) ?_ | refine aI ⟨by omega, by omega⟩ ?_ | refine aI (by omega) ?_ | refine aI (fun _ => ⟨by omega, by omega⟩) ?_ | refine aI (of_decide_eq_true rfl) ?_ | (refine yI ?_ ?_; focus (first | decide | (simp; done) | (simp [tcs]; done))) | (refine nI ?_ ?_; focus (first | decide | (simp; done) | (simp [tcs]; done))) | intro _); conv => whnf)
        all_goals (first | rfl | exact ⟨rfl, rfl⟩ | exact ⟨rfl, rfl, rfl⟩)
end Go.Tr
/- cert: Saved, Pack; awake of trusslaw19. -/
namespace Go.Tr
open Go.Proofs
def kindC : Crt := ⟨[], [], .mk 1 0 0 [], .mk 1 0 0 []⟩
theorem cKindC : CallSt Tryz.prog 21 [] [] (fun r H' => r = crv kindC ∧ H' = []) := by
  unfold crv kindC
  refine call_pure (E := env 0) (fn := Tryz.f21) (c := bodyOf Tryz.f21) (env_ok 0) mixed (by kernel_rfl) (by kernel_rfl) (by kernel_rfl) (by kernel_rfl) (by kernel_rfl) (by kernel_rfl) rfl ?_
  conv => whnf
  repeat ((first | refine aI rfl ?_ | refine aI (by decide) ?_ | refine dI (by kernel_rfl) ?_ | refine aI ⟨by omega, by omega⟩ ?_ | refine aI (by omega) ?_ | refine aI (fun _ => ⟨by omega, by omega⟩) ?_ | refine aI (of_decide_eq_true rfl) ?_ | (refine yI ?_ ?_; focus (first | decide | (simp; done) | (simp [tcs]; done))) | (refine nI ?_ ?_; focus (first | decide | (simp; done) | (simp [tcs]; done))) | intro _); conv => whnf)
  all_goals (first | rfl | exact ⟨rfl, rfl⟩ | exact ⟨rfl, rfl, rfl⟩)
def nodesOf (c : Crt) : List Term := bk c (crl c).length
def savedV (c : Crt) : AV := match builtB c with
  | true => .tup [.c (.int .i64 (szL (crl c))), .c (.int .i64 ((nodesOf c).length)), .c (.int .i64 (0))]
  | false => .tup [.c (.int .i64 (0)), .c (.int .i64 (0)), .c (.int .i64 (2))]
theorem cSaved (c : Crt) : CallSt Tryz.prog 9 [crv c] [] (fun r H' => r = savedV c ∧ H' = []) := by
  have hb := cBuilt c
  unfold savedV nodesOf
  cases hbc : builtB c with
  | false =>
    rw [hbc] at hb
    obtain ⟨S, X, ⟨k, l, n, ts⟩, ⟨k2, l2, n2, us⟩⟩ := c
    unfold crv at *
    dsimp only [Term.k, Term.l, Term.n, Term.ts] at *
    refine call_pure (E := env 0) (fn := Tryz.f9) (c := bodyOf Tryz.f9) (env_ok 0) mixed (by kernel_rfl) (by kernel_rfl) (by kernel_rfl) (by kernel_rfl) (by kernel_rfl) (by kernel_rfl) rfl ?_
    conv => whnf
    try (refine dI (by kernel_rfl) ?_; conv => whnf)
    first | refine CallSt.use hb [] trivial (by decide) rfl ?_ | refine CallPt.useS hb [] trivial (by decide) rfl ?_
    rintro _ _ ⟨rfl, rfl⟩ _
    conv => whnf
    repeat ((first | refine aI rfl ?_ | refine aI (by decide) ?_ | refine dI (by kernel_rfl) ?_ | refine aI ⟨by omega, by omega⟩ ?_ | refine aI (by omega) ?_ | refine aI (fun _ => ⟨by omega, by omega⟩) ?_ | refine aI (of_decide_eq_true rfl) ?_ | (refine yI ?_ ?_; focus (first | decide | (simp; done) | (simp [tcs]; done))) | (refine nI ?_ ?_; focus (first | decide | (simp; done) | (simp [tcs]; done))) | intro _); conv => whnf)
    all_goals (first | rfl | exact ⟨rfl, rfl⟩ | exact ⟨rfl, rfl, rfl⟩)
  | true =>
    rw [hbc] at hb
    have hn := cNewNodes c (built_ok hbc).sane
    have hl := nds_len (bk c (crl c).length)
    have hB : (bk c (crl c).length).length ≤ 1000000 := by
      have hs := (built_ok hbc).sane
      obtain ⟨_, _, g3⟩ := bk_good hs (crl c).length
      rw [List.take_length] at g3
      have hsa := szL_all (crl c) fun u hu => (hs.t u hu).2
      have := crl_len c
      have := hs.S
      have := hs.X
      omega
    have hb1 : (nds (bk c (crl c).length)).length * 72 ≤ 140737488355328 := by omega
    rw [← hl]
    clear hbc
    generalize nds (bk _ _) = N at *
    generalize bk _ _ = B at *
    generalize rt _ _ = R at *
    generalize crl c = q at *
    obtain ⟨S, X, ⟨k, l, n, ts⟩, ⟨k2, l2, n2, us⟩⟩ := c
    unfold crv at *
    dsimp only [Term.k, Term.l, Term.n, Term.ts] at *
    refine call_pure (E := env 0) (fn := Tryz.f9) (c := bodyOf Tryz.f9) (env_ok 0) mixed (by kernel_rfl) (by kernel_rfl) (by kernel_rfl) (by kernel_rfl) (by kernel_rfl) (by kernel_rfl) rfl ?_
    conv => whnf
    try (refine dI (by kernel_rfl) ?_; conv => whnf)
    first | refine CallSt.use hb [] trivial (by decide) rfl ?_ | refine CallPt.useS hb [] trivial (by decide) rfl ?_
    rintro _ _ ⟨rfl, rfl⟩ _
    conv => whnf
    repeat ((first | refine aI rfl ?_ | refine aI (by decide) ?_ | refine dI (by kernel_rfl) ?_ | refine aI ⟨by omega, by omega⟩ ?_ | refine aI (by omega) ?_ | refine aI (fun _ => ⟨by omega, by omega⟩) ?_ | refine aI (of_decide_eq_true rfl) ?_ | (refine yI ?_ ?_; focus (first | decide | (simp; done) | (simp [tcs]; done))) | (refine nI ?_ ?_; focus (first | decide | (simp; done) | (simp [tcs]; done))) | intro _); conv => whnf)
    try (refine dI (by kernel_rfl) ?_; conv => whnf)
    first | refine CallSt.use hn [] trivial (by decide) rfl ?_ | refine CallPt.useS hn [] trivial (by decide) rfl ?_
    rintro _ _ ⟨rfl, rfl⟩ _
    conv => whnf
    repeat ((first | refine aI rfl ?_ | refine aI (by decide) ?_ | refine dI (by kernel_rfl) ?_ | refine aI ⟨by omega, by omega⟩ ?_ | refine aI (by omega) ?_ | refine aI (fun _ => ⟨by omega, by omega⟩) ?_ | refine aI (of_decide_eq_true rfl) ?_ | (refine yI ?_ ?_; focus (first | decide | (simp; done) | (simp [tcs]; done))) | (refine nI ?_ ?_; focus (first | decide | (simp; done) | (simp [tcs]; done))) | intro _); conv => whnf)
    all_goals (first | rfl | exact ⟨rfl, rfl⟩ | exact ⟨rfl, rfl, rfl⟩)
def packB (c : Crt) : List UInt8 := sealB (packL c.S c.X (bk c (crl c).length) (rt c (crl c).length))
def packV (c : Crt) : AV := match builtB c with
  | true => (match decide (60000 < ((⟨(packB c).toArray⟩ : ByteArray).size : Int)) with
    | true => .tup [.c (.str ⟨#[]⟩), .c (.int .i64 (5))]
    | false => .tup [.c (.str ⟨(packB c).toArray⟩), .c (.int .i64 (0))])
  | false => .tup [.c (.str ⟨#[]⟩), .c (.int .i64 (2))]
theorem cPack (c : Crt) : CallSt Tryz.prog 7 [crv c] [] (fun r H' => r = packV c ∧ H' = []) := by
  have hb := cBuilt c
  unfold packV
  cases hbc : builtB c with
  | false =>
    rw [hbc] at hb
    obtain ⟨S, X, ⟨k, l, n, ts⟩, ⟨k2, l2, n2, us⟩⟩ := c
    unfold crv at *
    dsimp only [Term.k, Term.l, Term.n, Term.ts] at *
    refine call_pure (E := env 0) (fn := Tryz.f7) (c := bodyOf Tryz.f7) (env_ok 0) mixed (by kernel_rfl) (by kernel_rfl) (by kernel_rfl) (by kernel_rfl) (by kernel_rfl) (by kernel_rfl) rfl ?_
    conv => whnf
    try (refine dI (by kernel_rfl) ?_; conv => whnf)
    first | refine CallSt.use hb [] trivial (by decide) rfl ?_ | refine CallPt.useS hb [] trivial (by decide) rfl ?_
    rintro _ _ ⟨rfl, rfl⟩ _
    conv => whnf
    repeat ((first | refine aI rfl ?_ | refine aI (by decide) ?_ | refine dI (by kernel_rfl) ?_ | refine aI ⟨by omega, by omega⟩ ?_ | refine aI (by omega) ?_ | refine aI (fun _ => ⟨by omega, by omega⟩) ?_ | refine aI (of_decide_eq_true rfl) ?_ | (refine yI ?_ ?_; focus (first | decide | (simp; done) | (simp [tcs]; done))) | (refine nI ?_ ?_; focus (first | decide | (simp; done) | (simp [tcs]; done))) | intro _); conv => whnf)
    all_goals (first | rfl | exact ⟨rfl, rfl⟩ | exact ⟨rfl, rfl, rfl⟩)
  | true =>
    rw [hbc] at hb
    have hp := cPacked c (built_ok hbc)
    have e : (⟨(sealB (packL c.S c.X (bk c (crl c).length) (rt c (crl c).length))).toArray⟩ : ByteArray) = ⟨(packB c).toArray⟩ := rfl
    rw [e] at hp
    clear hbc e
    generalize (⟨(packB c).toArray⟩ : ByteArray) = s at *
    obtain ⟨S, X, ⟨k, l, n, ts⟩, ⟨k2, l2, n2, us⟩⟩ := c
    unfold crv at *
    dsimp only [Term.k, Term.l, Term.n, Term.ts] at *
    refine call_pure (E := env 0) (fn := Tryz.f7) (c := bodyOf Tryz.f7) (env_ok 0) mixed (by kernel_rfl) (by kernel_rfl) (by kernel_rfl) (by kernel_rfl) (by kernel_rfl) (by kernel_rfl) rfl ?_
    conv => whnf
    try (refine dI (by kernel_rfl) ?_; conv => whnf)
    first | refine CallSt.use hb [] trivial (by decide) rfl ?_ | refine CallPt.useS hb [] trivial (by decide) rfl ?_
    rintro _ _ ⟨rfl, rfl⟩ _
    conv => whnf
    repeat ((first | refine aI rfl ?_ | refine aI (by decide) ?_ | refine dI (by kernel_rfl) ?_ | refine aI ⟨by omega, by omega⟩ ?_ | refine aI (by omega) ?_ | refine aI (fun _ => ⟨by omega, by omega⟩) ?_ | refine aI (of_decide_eq_true rfl) ?_ | (refine yI ?_ ?_; focus (first | decide | (simp; done) | (simp [tcs]; done))) | (refine nI ?_ ?_; focus (first | decide | (simp; done) | (simp [tcs]; done))) | intro _); conv => whnf)
    try (refine dI (by kernel_rfl) ?_; conv => whnf)
    first | refine CallSt.use hp [] trivial (by decide) rfl ?_ | refine CallPt.useS hp [] trivial (by decide) rfl ?_
    rintro _ _ ⟨rfl, rfl⟩ _
    conv => whnf
    refine ⟨fun hlt => ?_, fun hlt => ?_⟩
    · rw [show decide ((60000 : Int) < (s.size : Int)) = true from hlt]
      conv => whnf
      repeat ((first | refine aI rfl ?_ | refine aI (by decide) ?_ | refine dI (by kernel_rfl) ?_ | refine aI ⟨by omega, by omega⟩ ?_ | refine aI (by omega) ?_ | refine aI (fun _ => ⟨by omega, by omega⟩) ?_ | refine aI (of_decide_eq_true rfl) ?_ | (refine yI ?_ ?_; focus (first | decide | (simp; done) | (simp [tcs]; done))) | (refine nI ?_ ?_; focus (first | decide | (simp; done) | (simp [tcs]; done))) | intro _); conv => whnf)
      all_goals (first | rfl | exact ⟨rfl, rfl⟩ | exact ⟨rfl, rfl, rfl⟩)
    · rw [show decide ((60000 : Int) < (s.size : Int)) = false from hlt]
      conv => whnf
      repeat ((first | refine aI rfl ?_ | refine aI (by decide) ?_ | refine dI (by kernel_rfl) ?_ | refine aI ⟨by omega, by omega⟩ ?_ | refine aI (by omega) ?_ | refine aI (fun _ => ⟨by omega, by omega⟩) ?_ | refine aI (of_decide_eq_true rfl) ?_ | (refine yI ?_ ?_; focus (first | decide | (simp; done) | (simp [tcs]; done))) | (refine nI ?_ ?_; focus (first | decide | (simp; done) | (simp [tcs]; done))) | intro _); conv => whnf)
      all_goals (first | rfl | exact ⟨rfl, rfl⟩ | exact ⟨rfl, rfl, rfl⟩)
theorem kind_crl : crl kindC = [.mk 1 0 0 [], .mk 1 0 0 []] := rfl
theorem kind_prop : prop (.mk 1 0 0 []) = true := by decide
theorem kind_built : builtB kindC = true := by
  have h1 : closedT (.mk 1 0 0 []) = true := by
    simp [closedT, kind_prop, conF, headsT, headsL]
  simp only [builtB, kind_crl, List.all_cons, List.all_nil, h1]
  rfl
theorem kind_bk : bk kindC 2 = [.mk 1 0 0 []] := by
  simp [bk, kind_crl, adL, adT]
theorem kind_rt : rt kindC 2 = [0, 0] := by
  unfold rt
  rw [kind_bk, kind_crl]
  rfl
theorem kind_pack : packB kindC = sealB [116, 114, 49, 1, 1, 0, 0, 0, 0, 0] := by
  unfold packB
  rw [show (crl kindC).length = 2 from rfl, kind_bk, kind_rt]
  congr 1
  simp [packL, kindC, nodesB, nodeB, declsB, lstB, kd, Term.k, Term.l, Term.n, Term.ts, digs_small]
  decide
end Go.Tr
/- awake, small of trusslaw19. -/
namespace Go.Tr
open Go.Proofs
theorem kind_saved : savedV kindC = .tup [.c (.int .i64 (2)), .c (.int .i64 (1)), .c (.int .i64 (0))] := by
  unfold savedV nodesOf
  rw [kind_built, show (crl kindC).length = 2 from rfl, kind_bk]
  simp [kind_crl, szL, szT]
theorem kind_packV : packV kindC = .tup [.c (.str ⟨(sealB [116, 114, 49, 1, 1, 0, 0, 0, 0, 0]).toArray⟩), .c (.int .i64 (0))] := by
  unfold packV
  rw [kind_built, kind_pack]
  have : decide ((60000 : Int) < ((⟨(sealB [116, 114, 49, 1, 1, 0, 0, 0, 0, 0]).toArray⟩ : ByteArray).size : Int)) = false := by
    have : (⟨(sealB [116, 114, 49, 1, 1, 0, 0, 0, 0, 0]).toArray⟩ : ByteArray).size = 14 := rfl
    rw [this]
    decide
  rw [this]
theorem cAwake19 : CallSt Tryz.prog 6 [] [] (fun r H' => r = .c (.bool true) ∧ H' = []) := by
  have hk := cKindC
  have hp := cPack kindC
  have hs := cSaved kindC
  have hb := cBuilt kindC
  have hr := cRSeal ⟨#[116, 114, 49, 1, 1, 0, 0, 0, 0, 0]⟩ (by decide)
  have hm := cSum ⟨#[]⟩ (by decide)
  rw [kind_saved] at hs
  rw [kind_packV] at hp
  rw [kind_built] at hb
  have e : sealB (⟨#[116, 114, 49, 1, 1, 0, 0, 0, 0, 0]⟩ : ByteArray).data.toList = sealB [116, 114, 49, 1, 1, 0, 0, 0, 0, 0] := rfl
  rw [e] at hr
  have e2 : sumI (⟨#[]⟩ : ByteArray).data.toList = 1 := rfl
  rw [e2] at hm
  clear e e2
  unfold crv at *
  generalize (⟨(sealB [116, 114, 49, 1, 1, 0, 0, 0, 0, 0]).toArray⟩ : ByteArray) = z at *
  refine call_pure (E := env 0) (fn := Tryz.f6) (c := bodyOf Tryz.f6) (env_ok 0) mixed (by kernel_rfl) (by kernel_rfl) (by kernel_rfl) (by kernel_rfl) (by kernel_rfl) (by kernel_rfl) rfl ?_
  conv => whnf
  try (refine dI (by kernel_rfl) ?_; conv => whnf)
  first | refine CallSt.use hk [] trivial (by decide) rfl ?_ | refine CallPt.useS hk [] trivial (by decide) rfl ?_
  rintro _ _ ⟨rfl, rfl⟩ _
  conv => whnf
  try (refine dI (by kernel_rfl) ?_; conv => whnf)
  first | refine CallSt.use hp [] trivial (by decide) rfl ?_ | refine CallPt.useS hp [] trivial (by decide) rfl ?_
  rintro _ _ ⟨rfl, rfl⟩ _
  conv => whnf
  repeat ((first | refine aI rfl ?_ | refine aI (by decide) ?_ | refine dI (by kernel_rfl) ?_ | refine aI ⟨by omega, by omega⟩ ?_ | refine aI (by omega) ?_ | refine aI (fun _ => ⟨by omega, by omega⟩) ?_ | refine aI (of_decide_eq_true rfl) ?_ | (refine yI ?_ ?_; focus (first | decide | (simp; done) | (simp [tcs]; done))) | (refine nI ?_ ?_; focus (first | decide | (simp; done) | (simp [tcs]; done))) | intro _); conv => whnf)
  try (refine dI (by kernel_rfl) ?_; conv => whnf)
  first | refine CallSt.use hk [] trivial (by decide) rfl ?_ | refine CallPt.useS hk [] trivial (by decide) rfl ?_
  rintro _ _ ⟨rfl, rfl⟩ _
  conv => whnf
  try (refine dI (by kernel_rfl) ?_; conv => whnf)
  first | refine CallSt.use hs [] trivial (by decide) rfl ?_ | refine CallPt.useS hs [] trivial (by decide) rfl ?_
  rintro _ _ ⟨rfl, rfl⟩ _
  conv => whnf
  repeat ((first | refine aI rfl ?_ | refine aI (by decide) ?_ | refine dI (by kernel_rfl) ?_ | refine aI ⟨by omega, by omega⟩ ?_ | refine aI (by omega) ?_ | refine aI (fun _ => ⟨by omega, by omega⟩) ?_ | refine aI (of_decide_eq_true rfl) ?_ | (refine yI ?_ ?_; focus (first | decide | (simp; done) | (simp [tcs]; done))) | (refine nI ?_ ?_; focus (first | decide | (simp; done) | (simp [tcs]; done))) | intro _); conv => whnf)
  try (refine dI (by kernel_rfl) ?_; conv => whnf)
  first | refine CallSt.use hr [] trivial (by decide) rfl ?_ | refine CallPt.useS hr [] trivial (by decide) rfl ?_
  rintro _ _ ⟨rfl, rfl⟩ _
  conv => whnf
  repeat ((first | refine aI rfl ?_ | refine aI (by decide) ?_ | refine dI (by kernel_rfl) ?_ | refine aI ⟨by omega, by omega⟩ ?_ | refine aI (by omega) ?_ | refine aI (fun _ => ⟨by omega, by omega⟩) ?_ | refine aI (of_decide_eq_true rfl) ?_ | (refine yI ?_ ?_; focus (first | decide | (simp; done) | (simp [tcs]; done))) | (refine nI ?_ ?_; focus (first | decide | (simp; done) | (simp [tcs]; done))) | intro _); conv => whnf)
  rw [decide_eq_true (show z = z from rfl)]
  repeat ((first | refine aI rfl ?_ | refine aI (by decide) ?_ | refine dI (by kernel_rfl) ?_ | refine aI ⟨by omega, by omega⟩ ?_ | refine aI (by omega) ?_ | refine aI (fun _ => ⟨by omega, by omega⟩) ?_ | refine aI (of_decide_eq_true rfl) ?_ | (refine yI ?_ ?_; focus (first | decide | (simp; done) | (simp [tcs]; done))) | (refine nI ?_ ?_; focus (first | decide | (simp; done) | (simp [tcs]; done))) | intro _); conv => whnf)
  try (refine dI (by kernel_rfl) ?_; conv => whnf)
  first | refine CallSt.use hk [] trivial (by decide) rfl ?_ | refine CallPt.useS hk [] trivial (by decide) rfl ?_
  rintro _ _ ⟨rfl, rfl⟩ _
  conv => whnf
  repeat ((first | refine aI rfl ?_ | refine aI (by decide) ?_ | refine dI (by kernel_rfl) ?_ | refine aI ⟨by omega, by omega⟩ ?_ | refine aI (by omega) ?_ | refine aI (fun _ => ⟨by omega, by omega⟩) ?_ | refine aI (of_decide_eq_true rfl) ?_ | (refine yI ?_ ?_; focus (first | decide | (simp; done) | (simp [tcs]; done))) | (refine nI ?_ ?_; focus (first | decide | (simp; done) | (simp [tcs]; done))) | intro _); conv => whnf)
  try (refine dI (by kernel_rfl) ?_; conv => whnf)
  first | refine CallSt.use hb [] trivial (by decide) rfl ?_ | refine CallPt.useS hb [] trivial (by decide) rfl ?_
  rintro _ _ ⟨rfl, rfl⟩ _
  conv => whnf
  repeat ((first | refine aI rfl ?_ | refine aI (by decide) ?_ | refine dI (by kernel_rfl) ?_ | refine aI ⟨by omega, by omega⟩ ?_ | refine aI (by omega) ?_ | refine aI (fun _ => ⟨by omega, by omega⟩) ?_ | refine aI (of_decide_eq_true rfl) ?_ | (refine yI ?_ ?_; focus (first | decide | (simp; done) | (simp [tcs]; done))) | (refine nI ?_ ?_; focus (first | decide | (simp; done) | (simp [tcs]; done))) | intro _); conv => whnf)
  try (refine dI (by kernel_rfl) ?_; conv => whnf)
  first | refine CallSt.use hm [] trivial (by decide) rfl ?_ | refine CallPt.useS hm [] trivial (by decide) rfl ?_
  rintro _ _ ⟨rfl, rfl⟩ _
  conv => whnf
  repeat ((first | refine aI rfl ?_ | refine aI (by decide) ?_ | refine dI (by kernel_rfl) ?_ | refine aI ⟨by omega, by omega⟩ ?_ | refine aI (by omega) ?_ | refine aI (fun _ => ⟨by omega, by omega⟩) ?_ | refine aI (of_decide_eq_true rfl) ?_ | (refine yI ?_ ?_; focus (first | decide | (simp; done) | (simp [tcs]; done))) | (refine nI ?_ ?_; focus (first | decide | (simp; done) | (simp [tcs]; done))) | intro _); conv => whnf)
  all_goals (first | rfl | exact ⟨rfl, rfl⟩ | exact ⟨rfl, rfl, rfl⟩)
end Go.Tr
/- small of trusslaw19. -/
namespace Go.Tr
open Go.Proofs
end Go.Tr
/- cert: which terms are among the nodes. -/
namespace Go.Tr
open Go.Proofs
mutual
def subT : Term → List Term
  | .mk k l n ts => .mk k l n ts :: subL ts
def subL : List Term → List Term
  | [] => []
  | t :: r => subT t ++ subL r
end
mutual
theorem sub_closed {B : List Term} (hg : Good B) : ∀ (t : Term), t ∈ B → ∀ x ∈ subT t, x ∈ B
  | .mk k l n ts, ht, x, hx => by
    rw [subT] at hx
    rcases List.mem_cons.1 hx with rfl | hx
    · exact ht
    · exact subL_closed hg ts (fun u hu => hg.kid ht hu) x hx
theorem subL_closed {B : List Term} (hg : Good B) : ∀ (ts : List Term), (∀ t ∈ ts, t ∈ B) → ∀ x ∈ subL ts, x ∈ B
  | [], _, x, hx => by rw [subL] at hx; cases hx
  | t :: r, h, x, hx => by
    rw [subL] at hx
    rcases List.mem_append.1 hx with hx | hx
    · exact sub_closed hg t (h t (by simp)) x hx
    · exact subL_closed hg r (fun u hu => h u (by simp [hu])) x hx
end
theorem subT_self (t : Term) : t ∈ subT t := by cases t; rw [subT]; simp
mutual
theorem adT_mem : ∀ (u : Term) (B : List Term), ∀ t ∈ adT u B, t ∈ B ∨ t ∈ subT u
  | .mk k l n ts, B, t, ht => by
    have hs : t ∈ adL ts B → t ∈ B ∨ t ∈ subT (.mk k l n ts) := fun h => by
      rcases adL_mem ts B t h with h | h
      · exact .inl h
      · exact .inr (by rw [subT]; simp [h])
    rw [adT] at ht
    split at ht
    · exact hs ht
    · rcases List.mem_append.1 ht with h | h
      · exact hs h
      · simp at h
        subst h
        exact .inr (subT_self _)
theorem adL_mem : ∀ (ts : List Term) (B : List Term), ∀ t ∈ adL ts B, t ∈ B ∨ t ∈ subL ts
  | [], B, t, ht => by
    rw [adL] at ht
    exact .inl ht
  | a :: r, B, t, ht => by
    rw [adL] at ht
    rcases adL_mem r (adT a B) t ht with h | h
    · rcases adT_mem a B t h with h | h
      · exact .inl h
      · exact .inr (by rw [subL]; simp [h])
    · exact .inr (by rw [subL]; simp [h])
end
theorem adL_iff {ts : List Term} (hw : ∀ t ∈ ts, wf t) (x : Term) : x ∈ adL ts [] ↔ x ∈ subL ts := by
  obtain ⟨h1, _, h3, _⟩ := adL_spec ts [] Good.nil hw
  constructor
  · intro h
    rcases adL_mem ts [] x h with h | h
    · cases h
    · exact h
  · exact subL_closed h1 ts h3 x
theorem subL_iff : ∀ (ts : List Term) (x : Term), x ∈ subL ts ↔ ∃ t ∈ ts, x ∈ subT t
  | [], x => by simp [subL]
  | t :: r, x => by simp [subL, subL_iff r x]
end Go.Tr
/- The law CertTwice. -/
namespace Go.Tr
open Go.Proofs
theorem tcs_snoc19 : ∀ (l : List Term) (t : Term), tcs (l ++ [t]) = tcs l ++ [tc t]
  | [], t => rfl
  | a :: l, t => by
    rw [List.cons_append, tcs, tcs, tcs_snoc19 l t]
    rfl
theorem szL_append : ∀ (a b : List Term), szL (a ++ b) = szL a + szL b
  | [], b => by simp [szL]
  | t :: a, b => by
    rw [List.cons_append, szL, szL, szL_append a b]
    omega
end Go.Tr
/- cert.copied. -/
namespace Go.Tr
open Go.Proofs
theorem tcs_take_snoc {ts : List Term} {j : Nat} {u : Term} (h : ts[j]? = some u) : tcs (ts.take (j + 1)) = tcs (ts.take j) ++ [tc u] := by
  rw [List.take_add_one, h]
  exact tcs_snoc19 _ _
theorem cCopied (t : Term) : szT t ≤ 1000000 → CallSt Tryz.prog 26 [tv t] [] (fun r H' => r = tv t ∧ H' = []) := by
  induction t using Term.ind with
  | _ t ih =>
  intro hsz
  obtain ⟨k, l, n, ts⟩ := t
  replace ih : ∀ u, u ∈ ts → _ := ih
  have hln := len_tcs ts
  rw [szT] at hsz
  have hsl := szL_len ts
  rw [tv_mk]
  refine call_pure (E := env 0) (fn := Tryz.f26) (c := bodyOf Tryz.f26) (env_ok 0) mixed (by kernel_rfl) (by kernel_rfl) (by kernel_rfl) (by kernel_rfl) (by kernel_rfl) (by kernel_rfl) rfl ?_
  conv => whnf
  repeat ((first | refine aI rfl ?_ | refine aI (by decide) ?_ | refine dI (by kernel_rfl) ?_ | refine aI ⟨by omega, by omega⟩ ?_ | refine aI (by omega) ?_ | refine aI (fun _ => ⟨by omega, by omega⟩) ?_ | refine aI (of_decide_eq_true rfl) ?_ | (refine yI ?_ ?_; focus (first | decide | (simp; done) | (simp [tcs]; done))) | (refine nI ?_ ?_; focus (first | decide | (simp; done) | (simp [tcs]; done))) | intro _); conv => whnf)
  refine loop_intro (fun m tm H => ∃ (j : Nat), ts.length = m + j ∧ tm = [(9, .c (.int .i64 (j))), (8, .c (.int .i64 ((tcs ts).length))), (7, .c (.sl 4 48 (tcs ts))), (3, .own 2), (1, .ptr 0 0), (2, .ptr 1 0)] ∧
      H = [.box [.c (.int .i64 (k)), .c (.int .i64 (l)), .c (.int .i64 (n)), .c (.sl 4 48 (tcs ts))], .box [.c (.int .i64 (0)), .c (.int .i64 (0)), .c (.int .i64 (0)), .nil], .row 25 4 48 (tcs (ts.take j))])
    ts.length _ _ ⟨0, by omega, rfl, rfl⟩ ?_ ?_
  · refine Wk.trans (Wk.niltmp 3 25 4 48 rfl rfl) ?_
    exact Wk.sl [0, 1, 2] rfl ⟨rfl, rfl, rfl, trivial⟩ ⟨rfl, rfl, rfl, rfl, rfl, rfl, trivial⟩ rfl
  rintro m tm H ⟨j, hj, rfl, rfl⟩
  have hlt : (tcs (ts.take j)).length = j := by rw [len_tcs, List.length_take]; omega
  have hb1 : ((tcs (ts.take j)).length + 1) * 48 ≤ 140737488355328 := by omega
  have hb2 : (tcs (ts.take j)).length + 1 ≤ 9223372036854775807 := by omega
  conv => whnf
  refine ⟨fun hc => ?_, fun hc => ?_⟩
  · replace hc : (j : Int) < (tcs ts).length := of_decide_eq_true hc
    obtain ⟨u, hu⟩ : ∃ u, ts[j]? = some u := ⟨ts[j]'(by omega), List.getElem?_eq_getElem (by omega)⟩
    have huc := tcs_at ts j u hu
    have hi := ih u (List.mem_of_getElem? hu) (by have := szL_mem' ts u (List.mem_of_getElem? hu); omega)
    have hst := tcs_take_snoc hu
    obtain ⟨k', l', n', us⟩ := u
    rw [tv_mk] at hi
    conv => whnf
    refine ⟨_, ⟨by omega, by simpa using huc⟩, ?_⟩
    conv => whnf
    refine ⟨Nat.le_refl 4, ?_⟩
    conv => whnf
    repeat ((first | refine aI rfl ?_ | refine aI (by decide) ?_ | refine dI (by kernel_rfl) ?_ | refine aI ⟨by omega, by omega⟩ ?_ | refine aI (by omega) ?_ | refine aI (fun _ => ⟨by omega, by omega⟩) ?_ | refine aI (of_decide_eq_true rfl) ?_ | (refine yI ?_ ?_; focus (first | decide | (simp; done) | (simp [tcs]; done))) | (refine nI ?_ ?_; focus (first | decide | (simp; done) | (simp [tcs]; done))) | intro _); conv => whnf)
    try (refine dI (by kernel_rfl) ?_; conv => whnf)
    first | refine CallSt.use hi [] trivial (by decide) rfl ?_ | refine CallPt.useS hi [] trivial (by decide) rfl ?_
    rintro _ _ ⟨rfl, rfl⟩ _
    conv => whnf
    repeat ((first | refine aI rfl ?_ | refine aI (by decide) ?_ | refine dI (by kernel_rfl) ?_ | refine aI ⟨by omega, by omega⟩ ?_ | refine aI (by omega) ?_ | refine aI (fun _ => ⟨by omega, by omega⟩) ?_ | refine aI (of_decide_eq_true rfl) ?_ | (refine yI ?_ ?_; focus (first | decide | (simp; done) | (simp [tcs]; done))) | (refine nI ?_ ?_; focus (first | decide | (simp; done) | (simp [tcs]; done))) | intro _); conv => whnf)
    refine ⟨m - 1, _, _, by omega, ⟨j + 1, by omega, rfl, rfl⟩, Wk.sl [0, 1, 5] rfl ⟨rfl, rfl, ?_, trivial⟩ ⟨rfl, rfl, rfl, rfl, rfl, rfl, trivial⟩ rfl⟩
    rw [hst]
    rfl
  · replace hc : ¬ (j : Int) < (tcs ts).length := of_decide_eq_false hc
    obtain rfl : j = ts.length := by omega
    rw [List.take_length]
    conv => whnf
    repeat ((first | refine aI rfl ?_ | refine aI (by decide) ?_ | refine dI (by kernel_rfl) ?_ | refine aI ⟨by omega, by omega⟩ ?_ | refine aI (by omega) ?_ | refine aI (fun _ => ⟨by omega, by omega⟩) ?_ | refine aI (of_decide_eq_true rfl) ?_ | (refine yI ?_ ?_; focus (first | decide | (simp; done) | (simp [tcs]; done))) | (refine nI ?_ ?_; focus (first | decide | (simp; done) | (simp [tcs]; done))) | intro _); conv => whnf)
    all_goals (first | rfl | exact ⟨rfl, rfl⟩ | exact ⟨rfl, rfl, rfl⟩)
end Go.Tr
/- cert.Nodes. -/
namespace Go.Tr
open Go.Proofs
end Go.Tr
/- The law CertNodes. -/
namespace Go.Tr
open Go.Proofs
end Go.Tr
/- The law CertNodes. -/
namespace Go.Tr
open Go.Proofs
end Go.Tr
/- The reference of trusslaw19: number, nodes that are the same. -/
namespace Go.Tr
open Go.Proofs
theorem cRNum (l : List UInt8) (n : Nat) (hl : l.length + (digs n).length ≤ 1000000000) (hn : n ≤ 4611686018427387904) :
    CallSt Tryz.prog 35 [.own 0, .c (.int .i64 (n))] [.row 5 1 1 (bR l)] (fun r H' => r = .own 1 ∧ H' = [.dead, .row 5 1 1 (bR (l ++ digs n))]) := by
  refine call_wk (E := env 1) (fn := Tryz.f35) (c := bodyOf Tryz.f35) (env_ok 1) mixed (by kernel_rfl) (by kernel_rfl) (by kernel_rfl) (by kernel_rfl) (by kernel_rfl) (by kernel_rfl) rfl false ?_
  conv => whnf
  repeat ((first | refine aI rfl ?_ | refine aI (by decide) ?_ | refine dI (by kernel_rfl) ?_ | refine aI ⟨by omega, by omega⟩ ?_ | refine aI (by omega) ?_ | refine aI (fun _ => ⟨by omega, by omega⟩) ?_ | refine aI (of_decide_eq_true rfl) ?_ | (refine yI ?_ ?_; focus (first | decide | (simp; done) | (simp [tcs]; done))) | (refine nI ?_ ?_; focus (first | decide | (simp; done) | (simp [tcs]; done))) | intro _); conv => whnf)
  refine loop_intro (fun m tm H => ∃ (l' : List UInt8), m ≤ n ∧ l' ++ digs m = l ++ digs n ∧ tm = [(4, .nil), (1, .c (.int .i64 (m))), (0, .own 1)] ∧ H = [.dead, .row 5 1 1 (bR l')])
    n _ _ ⟨l, by omega, rfl, rfl, rfl⟩ ?_ ?_
  · refine Wk.trans (Wk.mvtmp 0 0 5 1 1 (bR l) rfl rfl rfl) ?_
    exact Wk.sl [0, 1] rfl ⟨rfl, rfl, trivial⟩ ⟨rfl, rfl, rfl, trivial⟩ rfl
  rintro k tm H ⟨l', hk, hd, rfl, rfl⟩
  have hpk := digs_pos k
  have hll : l'.length + (digs k).length ≤ 1000000000 := by rw [← List.length_append, hd, List.length_append]; exact hl
  have hbl := bR_len l'
  have hb1 : ((bR l').length + 1) * 1 ≤ 140737488355328 := by omega
  have hb2 : (bR l').length + 1 ≤ 9223372036854775807 := by omega
  conv => whnf
  refine ⟨fun hc => ?_, fun hc => ?_⟩
  · replace hc : (127 : Int) < k := of_decide_eq_true hc
    have h1 : (k : Int).tmod 128 = (k : Int) % 128 := Int.tmod_eq_emod_of_nonneg (by omega)
    have h2 : (k : Int).tdiv 128 = ((k / 128 : Nat) : Int) := by rw [Int.tdiv_eq_ediv_of_nonneg (by omega)]; omega
    rw [digs_big (by omega)] at hd
    conv => whnf
    refine ⟨show (128 : Int) ≠ 0 by decide, ?_⟩
    conv => whnf
    rw [h1]
    refine ⟨⟨by omega, by omega⟩, ?_⟩
    conv => whnf
    repeat ((first | refine aI rfl ?_ | refine aI (by decide) ?_ | refine dI (by kernel_rfl) ?_ | refine aI ⟨by omega, by omega⟩ ?_ | refine aI (by omega) ?_ | refine aI (fun _ => ⟨by omega, by omega⟩) ?_ | refine aI (of_decide_eq_true rfl) ?_ | (refine yI ?_ ?_; focus (first | decide | (simp; done) | (simp [tcs]; done))) | (refine nI ?_ ?_; focus (first | decide | (simp; done) | (simp [tcs]; done))) | intro _); conv => whnf)
    rw [h2]
    refine ⟨⟨by decide, by omega, by omega⟩, ?_⟩
    conv => whnf
    refine ⟨k / 128, _, _, by omega, ⟨l' ++ [u8 (128 + (k : Int) % 128)], by omega, by rw [← hd]; simp, rfl, rfl⟩, Wk.sl [0, 3] rfl ⟨rfl, ?_, trivial⟩ ⟨rfl, rfl, rfl, trivial⟩ rfl⟩
    rw [← bR_snoc]
    rfl
  · replace hc : ¬ (127 : Int) < k := of_decide_eq_false hc
    rw [digs_small (by omega)] at hd
    conv => whnf
    repeat ((first | refine aI rfl ?_ | refine aI (by decide) ?_ | refine dI (by kernel_rfl) ?_ | refine aI ⟨by omega, by omega⟩ ?_ | refine aI (by omega) ?_ | refine aI (fun _ => ⟨by omega, by omega⟩) ?_ | refine aI (of_decide_eq_true rfl) ?_ | (refine yI ?_ ?_; focus (first | decide | (simp; done) | (simp [tcs]; done))) | (refine nI ?_ ?_; focus (first | decide | (simp; done) | (simp [tcs]; done))) | intro _); conv => whnf)
    refine ⟨[(4, .own 1)], [.dead, .row 5 1 1 (bR (l ++ digs n))], Wk.sl [0, 3] rfl ⟨rfl, ?_, trivial⟩ ⟨rfl, trivial⟩ rfl, ?_⟩
    · rw [← hd, ← bR_snoc]
      rfl
    conv => whnf
    exact ⟨rfl, rfl⟩
theorem cRSameN (k l n k2 l2 n2 : Int) (L M : List Nat) : CallSt Tryz.prog 82 [.agg [.c (.int .i64 (k)), .c (.int .i64 (l)), .c (.int .i64 (n)), .c (.sl 1 8 (rowN L))], .agg [.c (.int .i64 (k2)), .c (.int .i64 (l2)), .c (.int .i64 (n2)), .c (.sl 1 8 (rowN M))]] []
    (fun r H' => r = .c (.bool (decide (k = k2 ∧ l = l2 ∧ n = n2 ∧ L = M))) ∧ H' = []) := by
  have hl1 := rowN_len L
  have hl2 := rowN_len M
  by_cases hh : k = k2 ∧ l = l2 ∧ n = n2 ∧ L.length = M.length
  · have e : (!decide (k = k2) || !decide (l = l2) || !decide (n = n2) || !decide (((rowN L).length : Int) = ((rowN M).length : Int))) = false := by
      rw [hl1, hl2, decide_eq_true hh.1, decide_eq_true hh.2.1, decide_eq_true hh.2.2.1, decide_eq_true (show (L.length : Int) = M.length by omega)]
      rfl
    have hlm := hh.2.2.2
    have eR : decide (k = k2 ∧ l = l2 ∧ n = n2 ∧ L = M) = decide (L = M) := by
      rw [decide_eq_decide]
      exact ⟨fun h => h.2.2.2, fun h => ⟨hh.1, hh.2.1, hh.2.2.1, h⟩⟩
    rw [eR]
    clear hh eR
    refine call_pure (E := env 0) (fn := Tryz.f82) (c := bodyOf Tryz.f82) (env_ok 0) mixed (by kernel_rfl) (by kernel_rfl) (by kernel_rfl) (by kernel_rfl) (by kernel_rfl) (by kernel_rfl) rfl ?_
    conv => whnf
    repeat ((first | refine aI rfl ?_ | refine aI (by decide) ?_ | refine dI (by kernel_rfl) ?_ | refine aI ⟨by omega, by omega⟩ ?_ | refine aI (by omega) ?_ | refine aI (fun _ => ⟨by omega, by omega⟩) ?_ | refine aI (of_decide_eq_true rfl) ?_ | (refine yI ?_ ?_; focus (first | decide | (simp; done) | (simp [tcs]; done))) | (refine nI ?_ ?_; focus (first | decide | (simp; done) | (simp [tcs]; done))) | intro _); conv => whnf)
    rw [e]
    (refine ⟨fun h => absurd h ?_, fun _ => ?_⟩; (focus (first | decide | (simp; done) | (simp [tcs]; done))); conv => whnf)
    repeat ((first | refine aI rfl ?_ | refine aI (by decide) ?_ | refine dI (by kernel_rfl) ?_ | refine aI ⟨by omega, by omega⟩ ?_ | refine aI (by omega) ?_ | refine aI (fun _ => ⟨by omega, by omega⟩) ?_ | refine aI (of_decide_eq_true rfl) ?_ | (refine yI ?_ ?_; focus (first | decide | (simp; done) | (simp [tcs]; done))) | (refine nI ?_ ?_; focus (first | decide | (simp; done) | (simp [tcs]; done))) | intro _); conv => whnf)
    refine loop_intro (fun m tm H => ∃ j : Nat, L.length = m + j ∧ (∀ q, q < j → L[q]? = M[q]?) ∧ tm = [(5, .c (.int .i64 (j))), (2, .ptr 0 0), (3, .ptr 1 0), (4, .c (.bool false))] ∧ H = [.box [.c (.int .i64 (k)), .c (.int .i64 (l)), .c (.int .i64 (n)), .c (.sl 1 8 (rowN L))], .box [.c (.int .i64 (k2)), .c (.int .i64 (l2)), .c (.int .i64 (n2)), .c (.sl 1 8 (rowN M))]])
      L.length _ _ ⟨0, by omega, fun q hq => absurd hq (by omega), rfl, rfl⟩ (Wk.sl [0, 1] rfl ⟨rfl, rfl, trivial⟩ ⟨rfl, rfl, rfl, rfl, trivial⟩ rfl) ?_
    rintro m tm H ⟨j, hj, hall, rfl, rfl⟩
    conv => whnf
    repeat ((first | refine aI rfl ?_ | refine aI (by decide) ?_ | refine aI ⟨by omega, by omega⟩ ?_ | refine aI (by omega) ?_ | refine aI (fun _ => ⟨by omega, by omega⟩) ?_ | refine aI (of_decide_eq_true rfl) ?_ | (refine yI ?_ ?_; focus (first | decide | (simp; done) | (simp [tcs]; done))) | (refine nI ?_ ?_; focus (first | decide | (simp; done) | (simp [tcs]; done)))); conv => whnf)
    intro hgl
    replace hgl : (rowN L).length * 8 ≤ 140737488355328 := hgl
    conv => whnf
    repeat ((first | refine aI rfl ?_ | refine aI (by decide) ?_ | refine aI ⟨by omega, by omega⟩ ?_ | refine aI (by omega) ?_ | refine aI (fun _ => ⟨by omega, by omega⟩) ?_ | refine aI (of_decide_eq_true rfl) ?_ | (refine yI ?_ ?_; focus (first | decide | (simp; done) | (simp [tcs]; done))) | (refine nI ?_ ?_; focus (first | decide | (simp; done) | (simp [tcs]; done)))); conv => whnf)
    refine ⟨fun hc => ?_, fun hc => ?_⟩
    · replace hc : (j : Int) < (rowN L).length := of_decide_eq_true hc
      obtain ⟨x, hx⟩ : ∃ x, L[j]? = some x := ⟨L[j]'(by omega), List.getElem?_eq_getElem (by omega)⟩
      obtain ⟨y, hy⟩ : ∃ y, M[j]? = some y := ⟨M[j]'(by omega), List.getElem?_eq_getElem (by omega)⟩
      have hxr := rowN_at hx
      have hyr := rowN_at hy
      conv => whnf
      repeat ((first | refine aI rfl ?_ | refine aI (by decide) ?_ | refine dI (by kernel_rfl) ?_ | refine aI ⟨by omega, by omega⟩ ?_ | refine aI (by omega) ?_ | refine aI (fun _ => ⟨by omega, by omega⟩) ?_ | refine aI (of_decide_eq_true rfl) ?_ | (refine yI ?_ ?_; focus (first | decide | (simp; done) | (simp [tcs]; done))) | (refine nI ?_ ?_; focus (first | decide | (simp; done) | (simp [tcs]; done))) | intro _); conv => whnf)
      refine ⟨_, ⟨by omega, by simpa using hxr⟩, ?_⟩
      conv => whnf
      refine ⟨Nat.le_refl 1, ?_⟩
      conv => whnf
      repeat ((first | refine aI rfl ?_ | refine aI (by decide) ?_ | refine dI (by kernel_rfl) ?_ | refine aI ⟨by omega, by omega⟩ ?_ | refine aI (by omega) ?_ | refine aI (fun _ => ⟨by omega, by omega⟩) ?_ | refine aI (of_decide_eq_true rfl) ?_ | (refine yI ?_ ?_; focus (first | decide | (simp; done) | (simp [tcs]; done))) | (refine nI ?_ ?_; focus (first | decide | (simp; done) | (simp [tcs]; done))) | intro _); conv => whnf)
      refine ⟨_, ⟨by omega, by simpa using hyr⟩, ?_⟩
      conv => whnf
      refine ⟨Nat.le_refl 1, ?_⟩
      conv => whnf
      repeat ((first | refine aI rfl ?_ | refine aI (by decide) ?_ | refine dI (by kernel_rfl) ?_ | refine aI ⟨by omega, by omega⟩ ?_ | refine aI (by omega) ?_ | refine aI (fun _ => ⟨by omega, by omega⟩) ?_ | refine aI (of_decide_eq_true rfl) ?_ | (refine yI ?_ ?_; focus (first | decide | (simp; done) | (simp [tcs]; done))) | (refine nI ?_ ?_; focus (first | decide | (simp; done) | (simp [tcs]; done))) | intro _); conv => whnf)
      by_cases hxy : (x : Int) = y
      · rw [decide_eq_true hxy]
        (refine ⟨fun h => absurd h ?_, fun _ => ?_⟩; (focus (first | decide | (simp; done) | (simp [tcs]; done))); conv => whnf)
        repeat ((first | refine aI rfl ?_ | refine aI (by decide) ?_ | refine dI (by kernel_rfl) ?_ | refine aI ⟨by omega, by omega⟩ ?_ | refine aI (by omega) ?_ | refine aI (fun _ => ⟨by omega, by omega⟩) ?_ | refine aI (of_decide_eq_true rfl) ?_ | (refine yI ?_ ?_; focus (first | decide | (simp; done) | (simp [tcs]; done))) | (refine nI ?_ ?_; focus (first | decide | (simp; done) | (simp [tcs]; done))) | intro _); conv => whnf)
        refine ⟨m - 1, _, _, by omega, ⟨j + 1, by omega, fun q hq => ?_, rfl, rfl⟩, Wk.sl [0, 1] rfl ⟨rfl, rfl, trivial⟩ ⟨rfl, rfl, rfl, rfl, trivial⟩ rfl⟩
        by_cases hqj : q < j
        · exact hall q hqj
        · obtain rfl : q = j := by omega
          rw [hx, hy, show x = y by omega]
      · have hLM : ¬ L = M := fun h => by
          rw [h, hy] at hx
          injection hx with hx
          omega
        rw [decide_eq_false hxy, decide_eq_false hLM]
        (refine ⟨fun _ => ?_, fun h => absurd h ?_⟩; rotate_left; (focus (first | decide | (simp; done) | (simp [tcs]; done))); conv => whnf)
        repeat ((first | refine aI rfl ?_ | refine aI (by decide) ?_ | refine dI (by kernel_rfl) ?_ | refine aI ⟨by omega, by omega⟩ ?_ | refine aI (by omega) ?_ | refine aI (fun _ => ⟨by omega, by omega⟩) ?_ | refine aI (of_decide_eq_true rfl) ?_ | (refine yI ?_ ?_; focus (first | decide | (simp; done) | (simp [tcs]; done))) | (refine nI ?_ ?_; focus (first | decide | (simp; done) | (simp [tcs]; done))) | intro _); conv => whnf)
        all_goals (first | rfl | exact ⟨rfl, rfl⟩ | exact ⟨rfl, rfl, rfl⟩)
    · replace hc : ¬ (j : Int) < (rowN L).length := of_decide_eq_false hc
      obtain rfl : j = L.length := by omega
      have hLM : L = M := List.ext_getElem? fun q => by
        by_cases hq : q < L.length
        · exact hall q hq
        · rw [List.getElem?_eq_none (by omega), List.getElem?_eq_none (by omega)]
      rw [decide_eq_true hLM]
      conv => whnf
      repeat ((first | refine aI rfl ?_ | refine aI (by decide) ?_ | refine dI (by kernel_rfl) ?_ | refine aI ⟨by omega, by omega⟩ ?_ | refine aI (by omega) ?_ | refine aI (fun _ => ⟨by omega, by omega⟩) ?_ | refine aI (of_decide_eq_true rfl) ?_ | (refine yI ?_ ?_; focus (first | decide | (simp; done) | (simp [tcs]; done))) | (refine nI ?_ ?_; focus (first | decide | (simp; done) | (simp [tcs]; done))) | intro _); conv => whnf)
      all_goals (first | rfl | exact ⟨rfl, rfl⟩ | exact ⟨rfl, rfl, rfl⟩)
  · have e : (!decide (k = k2) || !decide (l = l2) || !decide (n = n2) || !decide (((rowN L).length : Int) = ((rowN M).length : Int))) = true := by
      rw [hl1, hl2]
      by_cases h1 : k = k2
      · by_cases h2 : l = l2
        · by_cases h3 : n = n2
          · have h4 : ¬ (L.length : Int) = M.length := fun h => hh ⟨h1, h2, h3, by omega⟩
            simp [h4]
          · simp [h3]
        · simp [h2]
      · simp [h1]
    have eR : decide (k = k2 ∧ l = l2 ∧ n = n2 ∧ L = M) = false := decide_eq_false fun h => hh ⟨h.1, h.2.1, h.2.2.1, by rw [h.2.2.2]⟩
    rw [eR]
    clear hh eR
    refine call_pure (E := env 0) (fn := Tryz.f82) (c := bodyOf Tryz.f82) (env_ok 0) mixed (by kernel_rfl) (by kernel_rfl) (by kernel_rfl) (by kernel_rfl) (by kernel_rfl) (by kernel_rfl) rfl ?_
    conv => whnf
    repeat ((first | refine aI rfl ?_ | refine aI (by decide) ?_ | refine dI (by kernel_rfl) ?_ | refine aI ⟨by omega, by omega⟩ ?_ | refine aI (by omega) ?_ | refine aI (fun _ => ⟨by omega, by omega⟩) ?_ | refine aI (of_decide_eq_true rfl) ?_ | (refine yI ?_ ?_; focus (first | decide | (simp; done) | (simp [tcs]; done))) | (refine nI ?_ ?_; focus (first | decide | (simp; done) | (simp [tcs]; done))) | intro _); conv => whnf)
    rw [e]
    (refine ⟨fun _ => ?_, fun h => absurd h ?_⟩; rotate_left; (focus (first | decide | (simp; done) | (simp [tcs]; done))); conv => whnf)
    repeat ((first | refine aI rfl ?_ | refine aI (by decide) ?_ | refine dI (by kernel_rfl) ?_ | refine aI ⟨by omega, by omega⟩ ?_ | refine aI (by omega) ?_ | refine aI (fun _ => ⟨by omega, by omega⟩) ?_ | refine aI (of_decide_eq_true rfl) ?_ | (refine yI ?_ ?_; focus (first | decide | (simp; done) | (simp [tcs]; done))) | (refine nI ?_ ?_; focus (first | decide | (simp; done) | (simp [tcs]; done))) | intro _); conv => whnf)
    all_goals (first | rfl | exact ⟨rfl, rfl⟩ | exact ⟨rfl, rfl, rfl⟩)
end Go.Tr
/- The reference's book of nodes: add. -/
namespace Go.Tr
open Go.Proofs
def nd2 (B : List Term) (t : Term) : List CV := [.int .i64 t.k, .int .i64 t.l, .int .i64 t.n, .sl 1 8 (rowN (kd B t))]
def nds2 (B : List Term) : List (List CV) := B.map (nd2 B)
theorem nds2_len (B : List Term) : (nds2 B).length = B.length := by simp [nds2]
theorem nds2_at {B : List Term} {i : Nat} {t : Term} (h : B[i]? = some t) : (nds2 B)[i]? = some (nd2 B t) := by simp [nds2, h]
theorem nds2_snoc {B : List Term} (hg : Good B) {t : Term} (hk : ∀ u ∈ t.ts, u ∈ B) : nds2 (B ++ [t]) = nds2 B ++ [nd2 B t] := by
  unfold nds2
  rw [List.map_append]
  congr 1
  · refine List.map_congr_left fun u hu => ?_
    unfold nd2
    rw [kd_app fun v hv => hg.kid hu hv]
  · simp only [List.map_cons, List.map_nil]
    unfold nd2
    rw [kd_app hk]
theorem eRowB {T a b : Nat} {x y : List (List CV)} (h : x = y) : some (Ent.row T a b x) = some (Ent.row T a b y) := by rw [h]
theorem kd_inj {B : List Term} : ∀ (ts us : List Term), (∀ v ∈ ts, v ∈ B) → (∀ v ∈ us, v ∈ B) → ts.map (pl B) = us.map (pl B) → ts = us
  | [], us, _, _, h => by
    cases us with
    | nil => rfl
    | cons _ _ => simp at h
  | a :: r, us, h1, h2, h => by
    cases us with
    | nil => simp at h
    | cons b s =>
      simp only [List.map_cons, List.cons.injEq] at h
      rw [pl_inj (h1 a (by simp)) (h2 b (by simp)) h.1, kd_inj r s (fun v hv => h1 v (by simp [hv])) (fun v hv => h2 v (by simp [hv])) h.2]
theorem node_same {B : List Term} {t u : Term} (ht : ∀ v ∈ t.ts, v ∈ B) (hu : ∀ v ∈ u.ts, v ∈ B) : (u.k = t.k ∧ u.l = t.l ∧ u.n = t.n ∧ kd B u = kd B t) ↔ u = t := by
  constructor
  · rintro ⟨h1, h2, h3, h4⟩
    have := kd_inj _ _ hu ht h4
    obtain ⟨k, l, n, ts⟩ := t
    obtain ⟨k', l', n', us⟩ := u
    simp only [Term.k, Term.l, Term.n, Term.ts] at h1 h2 h3 this
    subst h1 h2 h3 this
    rfl
  · rintro rfl
    exact ⟨rfl, rfl, rfl, rfl⟩
set_option maxHeartbeats 4000000 in
theorem cRAddN (t : Term) : ∀ (B : List Term), Good B → wf t → B.length + szT t ≤ 1000000 →
    CallSt Tryz.prog 58 [.ptr 0 0, tv t] [.box [.own 1, .own 2], .row 82 4 48 (nds2 B), .row 25 4 48 (tcs B)]
      (fun r H' => r = .c (.int .i64 ((pl (adT t B) t : Nat))) ∧ H' = [.box [.own 3, .own 4], .dead, .dead, .row 82 4 48 (nds2 (adT t B)), .row 25 4 48 (tcs (adT t B))]) := by
  induction t using Term.ind with
  | _ t ih =>
  intro B hg hw hs
  obtain ⟨k, l, n, ts⟩ := t
  replace ih : ∀ u, u ∈ ts → _ := ih
  have hwn := wf_node hw
  simp only [Term.k, Term.l, Term.n] at hwn
  have hsz : szT (.mk k l n ts) = 1 + szL ts := by rw [szT]
  rw [hsz] at hs
  have hln := len_tcs ts
  have hsl := szL_len ts
  rw [tv_mk]
  refine call_wk (E := env 3) (fn := Tryz.f58) (c := bodyOf Tryz.f58) (env_ok 3) mixed (by kernel_rfl) (by kernel_rfl) (by kernel_rfl) (by kernel_rfl) (by kernel_rfl) (by kernel_rfl) rfl false ?_
  conv => whnf
  repeat ((first | refine aI rfl ?_ | refine aI (by decide) ?_ | refine dI (by kernel_rfl) ?_ | refine aI ⟨by omega, by omega⟩ ?_ | refine aI (by omega) ?_ | refine aI (fun _ => ⟨by omega, by omega⟩) ?_ | refine aI (of_decide_eq_true rfl) ?_ | (refine yI ?_ ?_; focus (first | decide | (simp; done) | (simp [tcs]; done))) | (refine nI ?_ ?_; focus (first | decide | (simp; done) | (simp [tcs]; done))) | intro _); conv => whnf)
  refine loop_intro (fun m tm H => ∃ (j : Nat) (B' : List Term), ts.length = m + j ∧ B' = adL (ts.take j) B ∧
      tm = [(6, .c (.int .i64 (j))), (0, .ptr 0 0), (3, .ptr 3 0), (5, .ptr 4 0), (4, .c (.int .i64 (0)))] ∧
      H = [.box [.own 5, .own 6], .dead, .dead, .box [.c (.int .i64 (k)), .c (.int .i64 (l)), .c (.int .i64 (n)), .c (.sl 4 48 (tcs ts))], .box [.c (.int .i64 (k)), .c (.int .i64 (l)), .c (.int .i64 (n)), .own 7], .row 82 4 48 (nds2 B'), .row 25 4 48 (tcs B'),
        .row 3 1 8 (rowN ((ts.take j).map (pl B')))])
    ts.length _ _ ⟨0, B, by omega, by simp [adL], rfl, rfl⟩ ?_ ?_
  · refine Wk.trans (Wk.mvbox 0 0 1 82 4 48 (nds2 B) rfl rfl rfl rfl) ?_
    refine Wk.trans (Wk.mvbox 0 1 2 25 4 48 (tcs B) rfl rfl rfl rfl) ?_
    refine Wk.trans (Wk.nilrow (i := 4) (j := 3) 3 1 8 rfl rfl rfl) ?_
    exact Wk.sl [0, 1, 2, 3, 4, 5, 6, 7] rfl ⟨rfl, rfl, rfl, rfl, rfl, rfl, rfl, rfl, trivial⟩ ⟨rfl, rfl, rfl, rfl, rfl, trivial⟩ rfl
  rintro m tm H ⟨j, B', hj, hB, rfl, rfl⟩
  obtain ⟨g1, g2, g3, g4⟩ := adL_spec (ts.take j) B hg fun u hu => wf_kid hw (List.mem_of_mem_take hu)
  rw [← hB] at g1 g2 g3 g4
  have hle := szL_le_take ts j
  have hnn := szL_pos (ts.take j)
  conv => whnf
  repeat ((first | refine aI rfl ?_ | refine aI (by decide) ?_ | refine dI (by kernel_rfl) ?_ | refine aI ⟨by omega, by omega⟩ ?_ | refine aI (by omega) ?_ | refine aI (fun _ => ⟨by omega, by omega⟩) ?_ | refine aI (of_decide_eq_true rfl) ?_ | (refine yI ?_ ?_; focus (first | decide | (simp; done) | (simp [tcs]; done))) | (refine nI ?_ ?_; focus (first | decide | (simp; done) | (simp [tcs]; done))) | intro _); conv => whnf)
  refine ⟨fun hc => ?_, fun hc => ?_⟩
  · replace hc : (j : Int) < (tcs ts).length := of_decide_eq_true hc
    obtain ⟨u, hu⟩ : ∃ u, ts[j]? = some u := ⟨ts[j]'(by omega), List.getElem?_eq_getElem (by omega)⟩
    have hm := List.mem_of_getElem? hu
    have huc := tcs_at ts j u hu
    have hst := szL_take ts j u hu
    have hle2 := szL_le_take ts (j + 1)
    have hup := szT_pos u
    have hi := ih u hm B' g1 (wf_kid hw hm) (by omega)
    obtain ⟨q1, q2, q3, q4⟩ := adT_spec u B' g1 (wf_kid hw hm)
    have hmp : (ts.take (j + 1)).map (pl (adT u B')) = (ts.take j).map (pl B') ++ [pl (adT u B') u] := by
      rw [List.take_add_one, hu, List.map_append]
      congr 1
      obtain ⟨C, hC⟩ := q2
      rw [← hC]
      exact List.map_congr_left fun v hv => pl_app (g3 v hv)
    have hBn : adT u B' = adL (ts.take (j + 1)) B := by rw [adL_take ts j u B hu, ← hB]
    have hul : (List.map (pl B') (ts.take j)).length ≤ 1000000 := by rw [List.length_map, List.length_take]; omega
    have hrl := rowN_len ((ts.take j).map (pl B'))
    have hb1 : ((rowN ((ts.take j).map (pl B'))).length + 1) * 8 ≤ 140737488355328 := by omega
    have hb2 : (rowN ((ts.take j).map (pl B'))).length + 1 ≤ 9223372036854775807 := by omega
    generalize adT u B' = B2 at *
    obtain ⟨k', l', n', us⟩ := u
    rw [tv_mk] at hi
    conv => whnf
    repeat ((first | refine aI rfl ?_ | refine aI (by decide) ?_ | refine dI (by kernel_rfl) ?_ | refine aI ⟨by omega, by omega⟩ ?_ | refine aI (by omega) ?_ | refine aI (fun _ => ⟨by omega, by omega⟩) ?_ | refine aI (of_decide_eq_true rfl) ?_ | (refine yI ?_ ?_; focus (first | decide | (simp; done) | (simp [tcs]; done))) | (refine nI ?_ ?_; focus (first | decide | (simp; done) | (simp [tcs]; done))) | intro _); conv => whnf)
    refine ⟨_, ⟨by omega, by simpa using huc⟩, ?_⟩
    conv => whnf
    refine ⟨Nat.le_refl 4, ?_⟩
    conv => whnf
    repeat ((first | refine aI rfl ?_ | refine aI (by decide) ?_ | refine dI (by kernel_rfl) ?_ | refine aI ⟨by omega, by omega⟩ ?_ | refine aI (by omega) ?_ | refine aI (fun _ => ⟨by omega, by omega⟩) ?_ | refine aI (of_decide_eq_true rfl) ?_ | (refine yI ?_ ?_; focus (first | decide | (simp; done) | (simp [tcs]; done))) | (refine nI ?_ ?_; focus (first | decide | (simp; done) | (simp [tcs]; done))) | intro _); conv => whnf)
    try (refine dI (by kernel_rfl) ?_; conv => whnf)
    first | refine CallSt.use hi [0, 5, 6] ⟨rfl, rfl, rfl, trivial⟩ (by decide) rfl ?_ | refine CallPt.useS hi [0, 5, 6] ⟨rfl, rfl, rfl, trivial⟩ (by decide) rfl ?_
    rintro _ _ ⟨rfl, rfl⟩ _
    conv => whnf
    repeat ((first | refine aI rfl ?_ | refine aI (by decide) ?_ | refine dI (by kernel_rfl) ?_ | refine aI ⟨by omega, by omega⟩ ?_ | refine aI (by omega) ?_ | refine aI (fun _ => ⟨by omega, by omega⟩) ?_ | refine aI (of_decide_eq_true rfl) ?_ | (refine yI ?_ ?_; focus (first | decide | (simp; done) | (simp [tcs]; done))) | (refine nI ?_ ?_; focus (first | decide | (simp; done) | (simp [tcs]; done))) | intro _); conv => whnf)
    refine ⟨m - 1, _, _, by omega, ⟨j + 1, B2, by omega, hBn, rfl, rfl⟩, Wk.sl [0, 1, 2, 3, 4, 8, 9, 11] rfl ⟨rfl, rfl, rfl, rfl, rfl, rfl, rfl, ?_, trivial⟩ ⟨rfl, rfl, rfl, rfl, rfl, trivial⟩ rfl⟩
    rw [hmp, ← rowN_map_snoc]
    rfl
  · replace hc : ¬ (j : Int) < (tcs ts).length := of_decide_eq_false hc
    obtain rfl : j = ts.length := by omega
    rw [List.take_length] at hB g3 g4 hnn ⊢
    have hkids : ∀ u ∈ ts, u ∈ B' := g3
    have hnl := nds2_len B'
    have hBl : B'.length ≤ 1000000 := by omega
    have hkl : (ts.map (pl B')).length ≤ 1000000 := by rw [List.length_map]; omega
    have htl := len_tcs B'
    conv => whnf
    refine loop_intro (fun m tm H => ∃ j : Nat, B'.length = m + j ∧ (∀ (q : Nat) u, q < j → B'[q]? = some u → ¬ u = .mk k l n ts) ∧
        tm = [(8, .c (.int .i64 (j))), (0, .ptr 0 0), (3, .ptr 3 0), (5, .ptr 4 0), (4, .c (.int .i64 (0)))] ∧
        H = [.box [.own 5, .own 6], .dead, .dead, .box [.c (.int .i64 (k)), .c (.int .i64 (l)), .c (.int .i64 (n)), .c (.sl 4 48 (tcs ts))], .box [.c (.int .i64 (k)), .c (.int .i64 (l)), .c (.int .i64 (n)), .own 7], .row 82 4 48 (nds2 B'), .row 25 4 48 (tcs B'),
          .frz (.sl 1 8 (rowN (ts.map (pl B'))))])
      B'.length _ _ ⟨0, by omega, fun q u hq => absurd hq (by omega), rfl, rfl⟩ ?_ ?_
    · refine Wk.trans (Wk.frz 7 3 1 8 (rowN (ts.map (pl B'))) rfl rfl) ?_
      exact Wk.sl [0, 1, 2, 3, 4, 5, 6, 7] rfl ⟨rfl, rfl, rfl, rfl, rfl, rfl, rfl, rfl, trivial⟩ ⟨rfl, rfl, rfl, rfl, rfl, trivial⟩ rfl
    rintro m tm H ⟨j, hj2, hall, rfl, rfl⟩
    conv => whnf
    repeat ((first | refine aI rfl ?_ | refine aI (by decide) ?_ | refine dI (by kernel_rfl) ?_ | refine aI ⟨by omega, by omega⟩ ?_ | refine aI (by omega) ?_ | refine aI (fun _ => ⟨by omega, by omega⟩) ?_ | refine aI (of_decide_eq_true rfl) ?_ | (refine yI ?_ ?_; focus (first | decide | (simp; done) | (simp [tcs]; done))) | (refine nI ?_ ?_; focus (first | decide | (simp; done) | (simp [tcs]; done))) | intro _); conv => whnf)
    refine ⟨fun hc2 => ?_, fun hc2 => ?_⟩
    · replace hc2 : (j : Int) < (nds2 B').length := of_decide_eq_true hc2
      obtain ⟨u, hu⟩ : ∃ u, B'[j]? = some u := ⟨B'[j]'(by omega), List.getElem?_eq_getElem (by omega)⟩
      have hum := List.mem_of_getElem? hu
      have hnu := nds2_at hu
      have hsame := cRSameN u.k u.l u.n k l n (kd B' u) (ts.map (pl B'))
      have hns := node_same (B := B') (t := .mk k l n ts) (u := u) hkids (fun v hv => g1.kid hum hv)
      have hdec : decide (u.k = k ∧ u.l = l ∧ u.n = n ∧ kd B' u = ts.map (pl B')) = decide (u = .mk k l n ts) := decide_eq_decide.2 hns
      rw [hdec] at hsame
      unfold nd2 at hnu
      conv => whnf
      repeat ((first | refine aI rfl ?_ | refine aI (by decide) ?_ | refine dI (by kernel_rfl) ?_ | refine aI ⟨by omega, by omega⟩ ?_ | refine aI (by omega) ?_ | refine aI (fun _ => ⟨by omega, by omega⟩) ?_ | refine aI (of_decide_eq_true rfl) ?_ | (refine yI ?_ ?_; focus (first | decide | (simp; done) | (simp [tcs]; done))) | (refine nI ?_ ?_; focus (first | decide | (simp; done) | (simp [tcs]; done))) | intro _); conv => whnf)
      refine ⟨[.int .i64 u.k, .int .i64 u.l, .int .i64 u.n, .sl 1 8 (rowN (kd B' u))], by rw [Int.toNat_natCast]; exact hnu, show 0 + 4 ≤ 4 by decide, ?_⟩
      conv => whnf
      repeat ((first | refine aI rfl ?_ | refine aI (by decide) ?_ | refine dI (by kernel_rfl) ?_ | refine aI ⟨by omega, by omega⟩ ?_ | refine aI (by omega) ?_ | refine aI (fun _ => ⟨by omega, by omega⟩) ?_ | refine aI (of_decide_eq_true rfl) ?_ | (refine yI ?_ ?_; focus (first | decide | (simp; done) | (simp [tcs]; done))) | (refine nI ?_ ?_; focus (first | decide | (simp; done) | (simp [tcs]; done))) | intro _); conv => whnf)
      try (refine dI (by kernel_rfl) ?_; conv => whnf)
      first | refine CallSt.use hsame [] trivial (by decide) rfl ?_ | refine CallPt.useS hsame [] trivial (by decide) rfl ?_
      rintro _ _ ⟨rfl, rfl⟩ _
      conv => whnf
      repeat ((first | refine aI rfl ?_ | refine aI (by decide) ?_ | refine dI (by kernel_rfl) ?_ | refine aI ⟨by omega, by omega⟩ ?_ | refine aI (by omega) ?_ | refine aI (fun _ => ⟨by omega, by omega⟩) ?_ | refine aI (of_decide_eq_true rfl) ?_ | (refine yI ?_ ?_; focus (first | decide | (simp; done) | (simp [tcs]; done))) | (refine nI ?_ ?_; focus (first | decide | (simp; done) | (simp [tcs]; done))) | intro _); conv => whnf)
      by_cases hut : u = .mk k l n ts
      · have hT : Term.mk k l n ts ∈ B' := hut ▸ hum
        have e1 : adT (.mk k l n ts) B = B' := by rw [adT, ← hB, if_pos hT]
        have e2 : pl B' (.mk k l n ts) = j := pl_of g1.nd (hut ▸ hu)
        rw [decide_eq_true hut, e1, e2]
        (refine ⟨fun _ => ?_, fun h => absurd h ?_⟩; rotate_left; (focus (first | decide | (simp; done) | (simp [tcs]; done))); conv => whnf)
        repeat ((first | refine aI rfl ?_ | refine aI (by decide) ?_ | refine dI (by kernel_rfl) ?_ | refine aI ⟨by omega, by omega⟩ ?_ | refine aI (by omega) ?_ | refine aI (fun _ => ⟨by omega, by omega⟩) ?_ | refine aI (of_decide_eq_true rfl) ?_ | (refine yI ?_ ?_; focus (first | decide | (simp; done) | (simp [tcs]; done))) | (refine nI ?_ ?_; focus (first | decide | (simp; done) | (simp [tcs]; done))) | intro _); conv => whnf)
        refine ⟨[(4, .c (.int .i64 (j)))], [.box [.own 3, .own 4], .dead, .dead, .row 82 4 48 (nds2 B'), .row 25 4 48 (tcs B')], Wk.sl [0, 1, 2, 5, 6] rfl ⟨rfl, rfl, rfl, rfl, rfl, trivial⟩ ⟨rfl, trivial⟩ rfl, ?_⟩
        conv => whnf
        exact ⟨rfl, rfl⟩
      · rw [decide_eq_false hut]
        (refine ⟨fun h => absurd h ?_, fun _ => ?_⟩; (focus (first | decide | (simp; done) | (simp [tcs]; done))); conv => whnf)
        repeat ((first | refine aI rfl ?_ | refine aI (by decide) ?_ | refine dI (by kernel_rfl) ?_ | refine aI ⟨by omega, by omega⟩ ?_ | refine aI (by omega) ?_ | refine aI (fun _ => ⟨by omega, by omega⟩) ?_ | refine aI (of_decide_eq_true rfl) ?_ | (refine yI ?_ ?_; focus (first | decide | (simp; done) | (simp [tcs]; done))) | (refine nI ?_ ?_; focus (first | decide | (simp; done) | (simp [tcs]; done))) | intro _); conv => whnf)
        refine ⟨m - 1, _, _, by omega, ⟨j + 1, by omega, fun q v hq hv => ?_, rfl, rfl⟩, Wk.sl [0, 1, 2, 3, 4, 5, 6, 7] rfl ⟨rfl, rfl, rfl, rfl, rfl, rfl, rfl, rfl, trivial⟩ ⟨rfl, rfl, rfl, rfl, rfl, trivial⟩ rfl⟩
        by_cases hqj : q < j
        · exact hall q v hqj hv
        · obtain rfl : q = j := by omega
          rw [hu] at hv
          injection hv with hv
          exact hv ▸ hut
    · replace hc2 : ¬ (j : Int) < (nds2 B').length := of_decide_eq_false hc2
      obtain rfl : j = B'.length := by omega
      have hT : Term.mk k l n ts ∉ B' := fun h => by
        obtain ⟨i, hi⟩ := List.mem_iff_getElem?.1 h
        exact hall i _ (List.getElem?_eq_some_iff.1 hi).1 hi rfl
      have hns := nds2_snoc g1 (t := .mk k l n ts) hkids
      have e1 : adT (.mk k l n ts) B = B' ++ [.mk k l n ts] := by rw [adT, ← hB, if_neg hT]
      have e2 : pl (B' ++ [.mk k l n ts]) (.mk k l n ts) = B'.length := pl_snoc hT
      have hb1 : ((nds2 B').length + 1) * 48 ≤ 140737488355328 := by omega
      have hb2 : (nds2 B').length + 1 ≤ 9223372036854775807 := by omega
      have hb3 : ((tcs B').length + 1) * 48 ≤ 140737488355328 := by omega
      have hb4 : (tcs B').length + 1 ≤ 9223372036854775807 := by omega
      rw [e1, e2, hns]
      conv => whnf
      repeat ((first | refine aI rfl ?_ | refine aI (by decide) ?_ | refine dI (by kernel_rfl) ?_ | refine aI ⟨by omega, by omega⟩ ?_ | refine aI (by omega) ?_ | refine aI (fun _ => ⟨by omega, by omega⟩) ?_ | refine aI (of_decide_eq_true rfl) ?_ | (refine yI ?_ ?_; focus (first | decide | (simp; done) | (simp [tcs]; done))) | (refine nI ?_ ?_; focus (first | decide | (simp; done) | (simp [tcs]; done))) | intro _); conv => whnf)
      have hix : ((tcs B').length : Int).toNat = (tcs B').length := by omega
      have hapl : ∀ z : List CV, (tcs B').length < (tcs B' ++ [z]).length := fun z => by simp
      have hget : ∀ z : List CV, (tcs B' ++ [z])[((tcs B').length : Int).toNat]? = some z := fun z => by rw [hix]; simp
      have hset : ∀ z x : List CV, (tcs B' ++ [z]).set ((tcs B').length : Int).toNat x = tcs B' ++ [x] := fun z x => by rw [hix]; simp
      have hend : tcs B' ++ [[.int .i64 k, .int .i64 l, .int .i64 n, .sl 4 48 (tcs ts)]] = tcs (B' ++ [.mk k l n ts]) := (tcs_snoc19 B' (Term.mk k l n ts)).symm
      refine ⟨⟨by omega, by rw [hix]; exact hapl _⟩, ?_⟩
      conv => whnf
      repeat ((first | refine aI rfl ?_ | refine aI (by decide) ?_ | refine aI ⟨by omega, by omega⟩ ?_ | refine aI (by omega) ?_ | refine aI (fun _ => ⟨by omega, by omega⟩) ?_ | refine aI (of_decide_eq_true rfl) ?_ | (refine yI ?_ ?_; focus (first | decide | (simp; done) | (simp [tcs]; done))) | (refine nI ?_ ?_; focus (first | decide | (simp; done) | (simp [tcs]; done)))); conv => whnf)
      have hln2 : ∀ z : List CV, ((nds2 B' ++ [z]).length : Int) = B'.length + 1 := fun z => by simp [nds2]
      refine ⟨?_, ?_⟩
      · conv => whnf
        repeat ((first | refine aI rfl ?_ | refine aI (by decide) ?_ | refine aI ⟨by omega, by omega⟩ ?_ | refine aI (by omega) ?_ | refine aI (fun _ => ⟨by omega, by omega⟩) ?_ | refine aI (of_decide_eq_true rfl) ?_ | (refine yI ?_ ?_; focus (first | decide | (simp; done) | (simp [tcs]; done))) | (refine nI ?_ ?_; focus (first | decide | (simp; done) | (simp [tcs]; done)))); conv => whnf)
        refine ⟨_, hget _, show 0 + 4 ≤ 4 by decide, ?_⟩
        conv => whnf
        repeat ((first | refine aI rfl ?_ | refine aI (by decide) ?_ | refine dI (by kernel_rfl) ?_ | refine aI ⟨by omega, by omega⟩ ?_ | refine aI (by omega) ?_ | refine aI (fun _ => ⟨by omega, by omega⟩) ?_ | refine aI (of_decide_eq_true rfl) ?_ | (refine yI ?_ ?_; focus (first | decide | (simp; done) | (simp [tcs]; done))) | (refine nI ?_ ?_; focus (first | decide | (simp; done) | (simp [tcs]; done))) | intro _); conv => whnf)
        rw [hln2]
        refine ⟨show inR _ by unfold inR; omega, ?_⟩
        conv => whnf
        refine ⟨[(4, .c (.int .i64 ((B'.length : Int) + 1 - 1)))], [.box [.own 3, .own 4], .dead, .dead, .row 82 4 48 (nds2 B' ++ [nd2 B' (.mk k l n ts)]), .row 25 4 48 (tcs (B' ++ [.mk k l n ts]))], Wk.sl [0, 1, 2, 9, 11] rfl ⟨rfl, rfl, rfl, rfl, eRowB ((hset _ [.int .i64 k, .int .i64 l, .int .i64 n, .sl 4 48 (tcs ts)]).trans hend), trivial⟩ ⟨rfl, trivial⟩ rfl, ?_⟩
        conv => whnf
        exact ⟨congrArg (fun z => AV.c (CV.int .i64 z)) (by omega), rfl⟩
      · conv => whnf
        repeat ((first | refine aI rfl ?_ | refine aI (by decide) ?_ | refine aI ⟨by omega, by omega⟩ ?_ | refine aI (by omega) ?_ | refine aI (fun _ => ⟨by omega, by omega⟩) ?_ | refine aI (of_decide_eq_true rfl) ?_ | (refine yI ?_ ?_; focus (first | decide | (simp; done) | (simp [tcs]; done))) | (refine nI ?_ ?_; focus (first | decide | (simp; done) | (simp [tcs]; done)))); conv => whnf)
        refine ⟨_, hget _, show 0 + 4 ≤ 4 by decide, ?_⟩
        conv => whnf
        repeat ((first | refine aI rfl ?_ | refine aI (by decide) ?_ | refine dI (by kernel_rfl) ?_ | refine aI ⟨by omega, by omega⟩ ?_ | refine aI (by omega) ?_ | refine aI (fun _ => ⟨by omega, by omega⟩) ?_ | refine aI (of_decide_eq_true rfl) ?_ | (refine yI ?_ ?_; focus (first | decide | (simp; done) | (simp [tcs]; done))) | (refine nI ?_ ?_; focus (first | decide | (simp; done) | (simp [tcs]; done))) | intro _); conv => whnf)
        rw [hln2]
        refine ⟨show inR _ by unfold inR; omega, ?_⟩
        conv => whnf
        refine ⟨[(4, .c (.int .i64 ((B'.length : Int) + 1 - 1)))], [.box [.own 3, .own 4], .dead, .dead, .row 82 4 48 (nds2 B' ++ [nd2 B' (.mk k l n ts)]), .row 25 4 48 (tcs (B' ++ [.mk k l n ts]))], Wk.sl [0, 1, 2, 9, 11] rfl ⟨rfl, rfl, rfl, rfl, eRowB ((hset _ [.int .i64 k, .int .i64 l, .int .i64 n, .sl 4 48 (tcs ts)]).trans hend), trivial⟩ ⟨rfl, trivial⟩ rfl, ?_⟩
        conv => whnf
        exact ⟨congrArg (fun z => AV.c (CV.int .i64 z)) (by omega), rfl⟩
end Go.Tr
/- The reference's book of nodes: all terms of a certificate. -/
namespace Go.Tr
open Go.Proofs
theorem rt_len (c : Crt) (n : Nat) (h : n ≤ (crl c).length) : (rt c n).length = n := by unfold rt; rw [List.length_map, List.length_take]; omega
theorem rt_take {c : Crt} (h : Sane c) (n : Nat) : ∀ m, n + m ≤ (crl c).length → (rt c (n + m)).take n = rt c n
  | 0, hm => by rw [List.take_of_length_le]; rfl; rw [rt_len c _ hm]; omega
  | m + 1, hm => by
    have ih := rt_take h n m (by omega)
    have ht : (crl c)[n + m]? = some (crl c)[n + m] := List.getElem?_eq_getElem (by omega)
    have hl := rt_len c (n + m) (by omega)
    rw [show n + (m + 1) = n + m + 1 by omega, rt_step h ht, List.take_append_of_le_length (by omega), ih]
def allV (c : Crt) : AV := .tup [.c (.sl 1 8 (rowN (rt c c.S.length))), .c (.sl 1 8 (rowN ((rt c (c.S.length + c.X.length)).drop c.S.length))), .c (.int .i64 ((pl (bk c (c.S.length + c.X.length + 1)) c.o : Nat))), .c (.int .i64 ((pl (bk c (c.S.length + c.X.length + 2)) c.c : Nat)))]
set_option maxHeartbeats 4000000 in
theorem cRAll (c : Crt) (h : Sane c) : CallSt Tryz.prog 32 [.ptr 0 0, crv c] [.box [.own 1, .own 2], .row 82 4 48 [], .row 25 4 48 []]
    (fun r H' => r = allV c ∧ H' = [.box [.own 3, .own 4], .dead, .dead, .row 82 4 48 (nds2 (nodesOf c)), .row 25 4 48 (tcs (nodesOf c)), .frz (.sl 1 8 (rowN (rt c c.S.length))), .frz (.sl 1 8 (rowN ((rt c (c.S.length + c.X.length)).drop c.S.length)))]) := by
  have hadd := fun n t (ht : (crl c)[n]? = some t) => cRAddN t (bk c n) (bk_good h n).1 (h.t t (List.mem_of_getElem? ht)).1 (by
    have g3 := (bk_good h n).2.2
    have hsz := (h.t t (List.mem_of_getElem? ht)).2
    have hsa := szL_all ((crl c).take n) fun u hu => (h.t u (List.mem_of_mem_take hu)).2
    have hlt : ((crl c).take n).length ≤ 202 := by rw [List.length_take]; have := crl_len c; have := h.S; have := h.X; omega
    omega)
  have hstep := fun n t (ht : (crl c)[n]? = some t) => rt_step h ht
  have hbstep := fun n t (ht : (crl c)[n]? = some t) => bk_step ht
  have hS := fun i d (hd : c.S[i]? = some d) => crl_S hd
  have hX := fun i t (ht : c.X[i]? = some t) => crl_X ht
  have ho := crl_o c
  have hcls := crl_c c
  have hcl := crl_len c
  have hSl := h.S
  have hXl := h.X
  have hrl := rt_len c
  have e0 : bk c 0 = [] := bk0 c
  have r0 : rt c 0 = [] := rt0 c
  unfold allV nodesOf
  rw [hcl]
  have hds := len_dcs c.S
  have hxl := len_tcs c.X
  clear h
  generalize crl c = q at *
  generalize bk c = B at *
  generalize rt c = R at *
  obtain ⟨S, X, ⟨k, l, n, ts⟩, ⟨k2, l2, n2, us⟩⟩ := c
  unfold crv
  dsimp only [Term.k, Term.l, Term.n, Term.ts] at *
  refine call_wk (E := env 3) (fn := Tryz.f32) (c := bodyOf Tryz.f32) (env_ok 3) mixed (by kernel_rfl) (by kernel_rfl) (by kernel_rfl) (by kernel_rfl) (by kernel_rfl) (by kernel_rfl) rfl true ?_
  conv => whnf
  repeat ((first | refine aI rfl ?_ | refine aI (by decide) ?_ | refine dI (by kernel_rfl) ?_ | refine aI ⟨by omega, by omega⟩ ?_ | refine aI (by omega) ?_ | refine aI (fun _ => ⟨by omega, by omega⟩) ?_ | refine aI (of_decide_eq_true rfl) ?_ | (refine yI ?_ ?_; focus (first | decide | (simp; done) | (simp [tcs]; done))) | (refine nI ?_ ?_; focus (first | decide | (simp; done) | (simp [tcs]; done))) | intro _); conv => whnf)
  refine loop_intro (fun m tm H => ∃ (j : Nat), S.length = m + j ∧
      tm = [(10, .c (.int .i64 (j))), (0, .ptr 0 0), (3, .ptr 3 0), (8, .own 6), (9, .nil), (4, .nil), (5, .nil), (6, .c (.int .i64 (0))), (7, .c (.int .i64 (0)))] ∧
      H = [.box [.own 4, .own 5], .dead, .dead, .box [.c (.sl 6 72 (dcs S)), .c (.sl 4 48 (tcs X)), .c (.int .i64 (k)), .c (.int .i64 (l)), .c (.int .i64 (n)), .c (.sl 4 48 (tcs ts)), .c (.int .i64 (k2)), .c (.int .i64 (l2)), .c (.int .i64 (n2)), .c (.sl 4 48 (tcs us))],
        .row 82 4 48 (nds2 (B j)), .row 25 4 48 (tcs (B j)), .row 3 1 8 (rowN (R j))])
    S.length _ _ ⟨0, by omega, rfl, rfl⟩ ?_ ?_
  · rw [e0, r0]
    refine Wk.trans (Wk.mvbox 0 0 1 82 4 48 [] rfl rfl rfl rfl) ?_
    refine Wk.trans (Wk.mvbox 0 1 2 25 4 48 [] rfl rfl rfl rfl) ?_
    refine Wk.trans (Wk.niltmp 8 3 1 8 rfl rfl) ?_
    exact Wk.sl [0, 1, 2, 3, 4, 5, 6] rfl ⟨rfl, rfl, rfl, rfl, rfl, rfl, rfl, trivial⟩ ⟨rfl, rfl, rfl, rfl, rfl, rfl, rfl, rfl, rfl, trivial⟩ rfl
  rintro m tm H ⟨j, hj, rfl, rfl⟩
  conv => whnf
  repeat ((first | refine aI rfl ?_ | refine aI (by decide) ?_ | refine dI (by kernel_rfl) ?_ | refine aI ⟨by omega, by omega⟩ ?_ | refine aI (by omega) ?_ | refine aI (fun _ => ⟨by omega, by omega⟩) ?_ | refine aI (of_decide_eq_true rfl) ?_ | (refine yI ?_ ?_; focus (first | decide | (simp; done) | (simp [tcs]; done))) | (refine nI ?_ ?_; focus (first | decide | (simp; done) | (simp [tcs]; done))) | intro _); conv => whnf)
  refine ⟨fun hc => ?_, fun hc => ?_⟩
  · replace hc : (j : Int) < (dcs S).length := of_decide_eq_true hc
    obtain ⟨d, hd⟩ : ∃ d, S[j]? = some d := ⟨S[j]'(by omega), List.getElem?_eq_getElem (by omega)⟩
    have hdc := dcs_at hd
    have hqd := hS j d hd
    have hi := hadd j d.c hqd
    have hRj := hrl j (by omega)
    have hrr := rowN_len (R j)
    have hb1 : ((rowN (R j)).length + 1) * 8 ≤ 140737488355328 := by omega
    have hb2 : (rowN (R j)).length + 1 ≤ 9223372036854775807 := by omega
    rw [← hbstep j d.c hqd] at hi
    have hRs := hstep j d.c hqd
    rw [← hbstep j d.c hqd] at hRs
    obtain ⟨s', ⟨k', l', n', us'⟩, i'⟩ := d
    dsimp only at hi hRs
    rw [tv_mk] at hi
    conv => whnf
    repeat ((first | refine aI rfl ?_ | refine aI (by decide) ?_ | refine dI (by kernel_rfl) ?_ | refine aI ⟨by omega, by omega⟩ ?_ | refine aI (by omega) ?_ | refine aI (fun _ => ⟨by omega, by omega⟩) ?_ | refine aI (of_decide_eq_true rfl) ?_ | (refine yI ?_ ?_; focus (first | decide | (simp; done) | (simp [tcs]; done))) | (refine nI ?_ ?_; focus (first | decide | (simp; done) | (simp [tcs]; done))) | intro _); conv => whnf)
    refine ⟨_, ⟨by omega, hdc⟩, ?_⟩
    conv => whnf
    refine ⟨show 4 ≤ 5 by decide, ?_⟩
    conv => whnf
    repeat ((first | refine aI rfl ?_ | refine aI (by decide) ?_ | refine dI (by kernel_rfl) ?_ | refine aI ⟨by omega, by omega⟩ ?_ | refine aI (by omega) ?_ | refine aI (fun _ => ⟨by omega, by omega⟩) ?_ | refine aI (of_decide_eq_true rfl) ?_ | (refine yI ?_ ?_; focus (first | decide | (simp; done) | (simp [tcs]; done))) | (refine nI ?_ ?_; focus (first | decide | (simp; done) | (simp [tcs]; done))) | intro _); conv => whnf)
    try (refine dI (by kernel_rfl) ?_; conv => whnf)
    first | refine CallSt.use hi [0, 4, 5] ⟨rfl, rfl, rfl, trivial⟩ (by decide) rfl ?_ | refine CallPt.useS hi [0, 4, 5] ⟨rfl, rfl, rfl, trivial⟩ (by decide) rfl ?_
    rintro _ _ ⟨rfl, rfl⟩ _
    conv => whnf
    repeat ((first | refine aI rfl ?_ | refine aI (by decide) ?_ | refine dI (by kernel_rfl) ?_ | refine aI ⟨by omega, by omega⟩ ?_ | refine aI (by omega) ?_ | refine aI (fun _ => ⟨by omega, by omega⟩) ?_ | refine aI (of_decide_eq_true rfl) ?_ | (refine yI ?_ ?_; focus (first | decide | (simp; done) | (simp [tcs]; done))) | (refine nI ?_ ?_; focus (first | decide | (simp; done) | (simp [tcs]; done))) | intro _); conv => whnf)
    refine ⟨m - 1, _, _, by omega, ⟨j + 1, by omega, rfl, rfl⟩, Wk.sl [0, 1, 2, 3, 7, 8, 10] rfl ⟨rfl, rfl, rfl, rfl, rfl, rfl, ?_, trivial⟩ ⟨rfl, rfl, rfl, rfl, rfl, rfl, rfl, rfl, rfl, trivial⟩ rfl⟩
    rw [hRs, ← rowN_map_snoc]
    rfl
  replace hc : ¬ (j : Int) < (dcs S).length := of_decide_eq_false hc
  obtain rfl : j = S.length := by omega
  conv => whnf
  refine loop_intro (fun m tm H => ∃ (j : Nat), X.length = m + j ∧
      tm = [(11, .c (.int .i64 (j))), (0, .ptr 0 0), (3, .ptr 3 0), (8, .own 6), (9, .own 7), (4, .nil), (5, .nil), (6, .c (.int .i64 (0))), (7, .c (.int .i64 (0)))] ∧
      H = [.box [.own 4, .own 5], .dead, .dead, .box [.c (.sl 6 72 (dcs S)), .c (.sl 4 48 (tcs X)), .c (.int .i64 (k)), .c (.int .i64 (l)), .c (.int .i64 (n)), .c (.sl 4 48 (tcs ts)), .c (.int .i64 (k2)), .c (.int .i64 (l2)), .c (.int .i64 (n2)), .c (.sl 4 48 (tcs us))],
        .row 82 4 48 (nds2 (B (S.length + j))), .row 25 4 48 (tcs (B (S.length + j))), .row 3 1 8 (rowN (R S.length)), .row 3 1 8 (rowN ((R (S.length + j)).drop S.length))])
    X.length _ _ ⟨0, by omega, rfl, rfl⟩ ?_ ?_
  · rw [show S.length + 0 = S.length from rfl, List.drop_of_length_le (show (R S.length).length ≤ S.length by rw [hrl _ (by omega)]; omega)]
    refine Wk.trans (Wk.niltmp 9 3 1 8 rfl rfl) ?_
    exact Wk.sl [0, 1, 2, 3, 4, 5, 6, 7] rfl ⟨rfl, rfl, rfl, rfl, rfl, rfl, rfl, rfl, trivial⟩ ⟨rfl, rfl, rfl, rfl, rfl, rfl, rfl, rfl, rfl, trivial⟩ rfl
  rintro m tm H ⟨j, hj, rfl, rfl⟩
  conv => whnf
  repeat ((first | refine aI rfl ?_ | refine aI (by decide) ?_ | refine dI (by kernel_rfl) ?_ | refine aI ⟨by omega, by omega⟩ ?_ | refine aI (by omega) ?_ | refine aI (fun _ => ⟨by omega, by omega⟩) ?_ | refine aI (of_decide_eq_true rfl) ?_ | (refine yI ?_ ?_; focus (first | decide | (simp; done) | (simp [tcs]; done))) | (refine nI ?_ ?_; focus (first | decide | (simp; done) | (simp [tcs]; done))) | intro _); conv => whnf)
  refine ⟨fun hc => ?_, fun hc => ?_⟩
  · replace hc : (j : Int) < (tcs X).length := of_decide_eq_true hc
    obtain ⟨u, hu⟩ : ∃ u, X[j]? = some u := ⟨X[j]'(by omega), List.getElem?_eq_getElem (by omega)⟩
    have huc := tcs_at X j u hu
    have hqd := hX j u hu
    have hi := hadd _ u hqd
    have hRj := hrl (S.length + j) (by omega)
    have hrr := rowN_len ((R (S.length + j)).drop S.length)
    rw [List.length_drop, hRj] at hrr
    have hb1 : ((rowN ((R (S.length + j)).drop S.length)).length + 1) * 8 ≤ 140737488355328 := by omega
    have hb2 : (rowN ((R (S.length + j)).drop S.length)).length + 1 ≤ 9223372036854775807 := by omega
    rw [← hbstep _ u hqd] at hi
    have hRs : (R (S.length + (j + 1))).drop S.length = (R (S.length + j)).drop S.length ++ [pl (B (S.length + j + 1)) u] := by
      rw [show S.length + (j + 1) = S.length + j + 1 by omega, hstep _ u hqd, hbstep _ u hqd, List.drop_append_of_le_length (by omega)]
    obtain ⟨k', l', n', us'⟩ := u
    rw [tv_mk] at hi
    conv => whnf
    repeat ((first | refine aI rfl ?_ | refine aI (by decide) ?_ | refine dI (by kernel_rfl) ?_ | refine aI ⟨by omega, by omega⟩ ?_ | refine aI (by omega) ?_ | refine aI (fun _ => ⟨by omega, by omega⟩) ?_ | refine aI (of_decide_eq_true rfl) ?_ | (refine yI ?_ ?_; focus (first | decide | (simp; done) | (simp [tcs]; done))) | (refine nI ?_ ?_; focus (first | decide | (simp; done) | (simp [tcs]; done))) | intro _); conv => whnf)
    refine ⟨_, ⟨by omega, by simpa using huc⟩, ?_⟩
    conv => whnf
    refine ⟨Nat.le_refl 4, ?_⟩
    conv => whnf
    repeat ((first | refine aI rfl ?_ | refine aI (by decide) ?_ | refine dI (by kernel_rfl) ?_ | refine aI ⟨by omega, by omega⟩ ?_ | refine aI (by omega) ?_ | refine aI (fun _ => ⟨by omega, by omega⟩) ?_ | refine aI (of_decide_eq_true rfl) ?_ | (refine yI ?_ ?_; focus (first | decide | (simp; done) | (simp [tcs]; done))) | (refine nI ?_ ?_; focus (first | decide | (simp; done) | (simp [tcs]; done))) | intro _); conv => whnf)
    try (refine dI (by kernel_rfl) ?_; conv => whnf)
    first | refine CallSt.use hi [0, 4, 5] ⟨rfl, rfl, rfl, trivial⟩ (by decide) rfl ?_ | refine CallPt.useS hi [0, 4, 5] ⟨rfl, rfl, rfl, trivial⟩ (by decide) rfl ?_
    rintro _ _ ⟨rfl, rfl⟩ _
    conv => whnf
    repeat ((first | refine aI rfl ?_ | refine aI (by decide) ?_ | refine dI (by kernel_rfl) ?_ | refine aI ⟨by omega, by omega⟩ ?_ | refine aI (by omega) ?_ | refine aI (fun _ => ⟨by omega, by omega⟩) ?_ | refine aI (of_decide_eq_true rfl) ?_ | (refine yI ?_ ?_; focus (first | decide | (simp; done) | (simp [tcs]; done))) | (refine nI ?_ ?_; focus (first | decide | (simp; done) | (simp [tcs]; done))) | intro _); conv => whnf)
    refine ⟨m - 1, _, _, by omega, ⟨j + 1, by omega, rfl, rfl⟩, Wk.sl [0, 1, 2, 3, 8, 9, 6, 11] rfl ⟨rfl, rfl, rfl, rfl, rfl, rfl, rfl, ?_, trivial⟩ ⟨rfl, rfl, rfl, rfl, rfl, rfl, rfl, rfl, rfl, trivial⟩ rfl⟩
    rw [hRs, ← rowN_map_snoc]
    rfl
  replace hc : ¬ (j : Int) < (tcs X).length := of_decide_eq_false hc
  obtain rfl : j = X.length := by omega
  have h1 := hadd _ _ ho
  rw [← hbstep _ _ ho] at h1
  have h2 := hadd _ _ hcls
  rw [← hbstep _ _ hcls] at h2
  rw [tv_mk] at h1 h2
  conv => whnf
  repeat ((first | refine aI rfl ?_ | refine aI (by decide) ?_ | refine dI (by kernel_rfl) ?_ | refine aI ⟨by omega, by omega⟩ ?_ | refine aI (by omega) ?_ | refine aI (fun _ => ⟨by omega, by omega⟩) ?_ | refine aI (of_decide_eq_true rfl) ?_ | (refine yI ?_ ?_; focus (first | decide | (simp; done) | (simp [tcs]; done))) | (refine nI ?_ ?_; focus (first | decide | (simp; done) | (simp [tcs]; done))) | intro _); conv => whnf)
  try (refine dI (by kernel_rfl) ?_; conv => whnf)
  first | refine CallSt.use h1 [0, 4, 5] ⟨rfl, rfl, rfl, trivial⟩ (by decide) rfl ?_ | refine CallPt.useS h1 [0, 4, 5] ⟨rfl, rfl, rfl, trivial⟩ (by decide) rfl ?_
  rintro _ _ ⟨rfl, rfl⟩ _
  conv => whnf
  repeat ((first | refine aI rfl ?_ | refine aI (by decide) ?_ | refine dI (by kernel_rfl) ?_ | refine aI ⟨by omega, by omega⟩ ?_ | refine aI (by omega) ?_ | refine aI (fun _ => ⟨by omega, by omega⟩) ?_ | refine aI (of_decide_eq_true rfl) ?_ | (refine yI ?_ ?_; focus (first | decide | (simp; done) | (simp [tcs]; done))) | (refine nI ?_ ?_; focus (first | decide | (simp; done) | (simp [tcs]; done))) | intro _); conv => whnf)
  try (refine dI (by kernel_rfl) ?_; conv => whnf)
  first | refine CallSt.use h2 [0, 8, 9] ⟨rfl, rfl, rfl, trivial⟩ (by decide) rfl ?_ | refine CallPt.useS h2 [0, 8, 9] ⟨rfl, rfl, rfl, trivial⟩ (by decide) rfl ?_
  rintro _ _ ⟨rfl, rfl⟩ _
  conv => whnf
  repeat ((first | refine aI rfl ?_ | refine aI (by decide) ?_ | refine dI (by kernel_rfl) ?_ | refine aI ⟨by omega, by omega⟩ ?_ | refine aI (by omega) ?_ | refine aI (fun _ => ⟨by omega, by omega⟩) ?_ | refine aI (of_decide_eq_true rfl) ?_ | (refine yI ?_ ?_; focus (first | decide | (simp; done) | (simp [tcs]; done))) | (refine nI ?_ ?_; focus (first | decide | (simp; done) | (simp [tcs]; done))) | intro _); conv => whnf)
  refine ⟨[(4, .own 5), (5, .own 6), (6, .c (.int .i64 ((pl (B (S.length + X.length + 1)) (.mk k l n ts) : Nat)))), (7, .c (.int .i64 ((pl (B (S.length + X.length + 1 + 1)) (.mk k2 l2 n2 us) : Nat))))],
    [.box [.own 3, .own 4], .dead, .dead, .row 82 4 48 (nds2 (B (S.length + X.length + 1 + 1))), .row 25 4 48 (tcs (B (S.length + X.length + 1 + 1))), .row 3 1 8 (rowN (R S.length)), .row 3 1 8 (rowN ((R (S.length + X.length)).drop S.length))],
    Wk.sl [0, 1, 2, 10, 11, 6, 7] rfl ⟨rfl, rfl, rfl, rfl, rfl, rfl, rfl, trivial⟩ ⟨rfl, rfl, rfl, rfl, trivial⟩ rfl, ?_⟩
  conv => whnf
  exact ⟨rfl, rfl⟩
end Go.Tr
