/- What each function computes, and the plain laws of it. -/
import Derived.Test.YtmockcponpmefaaGreatTrX44a3427a
set_option linter.unusedVariables false
set_option linter.unusedSimpArgs false
set_option linter.unnecessarySimpa false
set_option linter.constructorNameAsVariable false
set_option autoImplicit false
/- closed is what the program asks of the nodes. -/
namespace Go.Tr
open Go.Proofs
mutual
def allT (p : Term → Int → Bool) : Term → Int → Bool
  | .mk k l n ts, i => p (.mk k l n ts) i && allL p k i 0 ts
def allL (p : Term → Int → Bool) (k i : Int) : Int → List Term → Bool
  | _, [] => true
  | j, t :: r => allT p t (i + unT k j) && allL p k i (j + 1) r
end
mutual
theorem allT_each (p : Term → Int → Bool) : ∀ (t : Term) (i : Int) (b : Bool), eachT (fun b t i => b && p t i) t i b = (b && allT p t i)
  | .mk k l n ts, i, b => by rw [eachT, allT, allL_each p k i ts 0, ← Bool.and_assoc]
theorem allL_each (p : Term → Int → Bool) (k i : Int) : ∀ (ts : List Term) (j : Int) (b : Bool), eachL (fun b t i => b && p t i) k i j ts b = (b && allL p k i j ts)
  | [], j, b => by rw [eachL, allL, Bool.and_true]
  | t :: r, j, b => by rw [eachL, allL, allT_each p t, allL_each p k i r, Bool.and_assoc]
end
mutual
theorem allT_and (p q : Term → Int → Bool) : ∀ (t : Term) (i : Int), allT (fun t i => p t i && q t i) t i = (allT p t i && allT q t i)
  | .mk k l n ts, i => by
    rw [allT, allT, allT, allL_and p q k i ts 0]
    generalize p _ i = a
    generalize q _ i = b
    generalize allL p k i 0 ts = c
    generalize allL q k i 0 ts = d
    cases a <;> cases b <;> cases c <;> cases d <;> rfl
theorem allL_and (p q : Term → Int → Bool) (k i : Int) : ∀ (ts : List Term) (j : Int), allL (fun t i => p t i && q t i) k i j ts = (allL p k i j ts && allL q k i j ts)
  | [], j => by rw [allL, allL, allL, Bool.and_true]
  | t :: r, j => by
    rw [allL, allL, allL, allT_and p q t, allL_and p q k i r]
    generalize allT p t _ = a
    generalize allT q t _ = b
    generalize allL p k i (j + 1) r = c
    generalize allL q k i (j + 1) r = d
    cases a <;> cases b <;> cases c <;> cases d <;> rfl
end
mutual
theorem allT_congr {p q : Term → Int → Bool} (h : ∀ t i, p t i = q t i) : ∀ (t : Term) (i : Int), allT p t i = allT q t i
  | .mk k l n ts, i => by rw [allT, allT, h, allL_congr h k i ts 0]
theorem allL_congr {p q : Term → Int → Bool} (h : ∀ t i, p t i = q t i) (k i : Int) : ∀ (ts : List Term) (j : Int), allL p k i j ts = allL q k i j ts
  | [], j => by rw [allL, allL]
  | t :: r, j => by rw [allL, allL, allT_congr h t, allL_congr h k i r]
end
mutual
theorem allT_imp {p q : Term → Int → Bool} (h : ∀ t i, p t i = true → q t i = true) : ∀ (t : Term) (i : Int), allT p t i = true → allT q t i = true
  | .mk k l n ts, i, ha => by
    rw [allT, Bool.and_eq_true] at ha ⊢
    exact ⟨h _ _ ha.1, allL_imp h k i ts 0 ha.2⟩
theorem allL_imp {p q : Term → Int → Bool} (h : ∀ t i, p t i = true → q t i = true) (k i : Int) : ∀ (ts : List Term) (j : Int), allL p k i j ts = true → allL q k i j ts = true
  | [], j, _ => by rw [allL]
  | t :: r, j, ha => by
    rw [allL, Bool.and_eq_true] at ha ⊢
    exact ⟨allT_imp h t _ ha.1, allL_imp h k i r (j + 1) ha.2⟩
end
mutual
theorem nodesT_all (m : Int) : ∀ (t : Term) (i : Int), nodesT m t i = allT (fun t i => !decide (t.k = 4) || nodeOk m t i) t i
  | .mk k l n ts, i => by rw [nodesT, allT, nodesL_all m k i ts 0]; rfl
theorem nodesL_all (m k i : Int) : ∀ (ts : List Term) (j : Int), nodesL m k i j ts = allL (fun t i => !decide (t.k = 4) || nodeOk m t i) k i j ts
  | [], j => by rw [nodesL, allL]
  | t :: r, j => by rw [nodesL, allL, nodesT_all m t, nodesL_all m k i r]
end
def hdOk (hd : Int) (P : Int → Bool) (t : Term) (i : Int) : Bool := match decide (t.k = 4) && decide (t.l = hd) with
  | true => (match !decide (hd = 1) with | true => P t.n | false => (match decide (i ≤ t.n) with | true => P (t.n - i) | false => true))
  | false => true
theorem heads_all (hd : Int) (P : Int → Bool) (t : Term) : (∀ x ∈ headsT hd t 0 [], P x = true) ↔ allT (hdOk hd P) t 0 = true := by
  have h := eachT_rel (fun (L : List Int) (b : Bool) => (∀ x ∈ L, P x = true) ↔ b = true) (hdStep hd) (fun b t i => b && hdOk hd P t i) (fun _ _ => True) (fun _ _ _ _ _ _ => trivial)
    (fun L b t i _ hr => by
      unfold hdStep hdOk
      have put : ∀ y, (∀ x ∈ putI L y, P x = true) ↔ (b && P y) = true := fun y => by
        rw [Bool.and_eq_true, ← hr]
        constructor
        · exact fun h => ⟨fun x hx => h x ((putI_mem L y x).2 (.inr hx)), h y ((putI_mem L y y).2 (.inl rfl))⟩
        · rintro ⟨h1, h2⟩ x hx
          rcases (putI_mem L y x).1 hx with rfl | hx
          · exact h2
          · exact h1 x hx
      have stay : (∀ x ∈ L, P x = true) ↔ (b && true) = true := by rw [Bool.and_true]; exact hr
      cases decide (t.k = 4) && decide (t.l = hd) with
      | false => exact stay
      | true =>
        cases !decide (hd = 1) with
        | true => exact put _
        | false =>
          cases decide (i ≤ t.n) with
          | true => exact put _
          | false => exact stay) t 0 [] true trivial (by simp)
  rw [headsT_each, h, allT_each, Bool.true_and]
theorem con_all (hd : Int) (P : Int → Bool) {t : Term} (hp : prop t = true) : (∀ x ∈ conF hd t, P x = true) ↔ allT (hdOk hd P) t 0 = true := by
  unfold conF
  rw [hp]
  exact heads_all hd P t
theorem con_sorted (hd : Int) {t : Term} (hp : prop t = true) : (conF hd t).Pairwise (· < ·) := by
  unfold conF
  rw [hp]
  exact (rel_all hd t (prop_ok hp)).1
theorem lastB_all : ∀ {l : List Int}, l.Pairwise (· < ·) → ∀ n, lastB l n = true ↔ ∀ x ∈ l, x < n := by
  intro l hl n
  rcases List.eq_nil_or_concat l with rfl | ⟨D, y, rfl⟩
  · simp [lastB]
  · have e : lastB (D.concat y) n = decide (y < n) := by simp [lastB]
    rw [e, decide_eq_true_eq]
    have hp := List.pairwise_append.1 (by simpa using hl)
    constructor
    · intro h x hx
      simp only [List.concat_eq_append, List.mem_append, List.mem_singleton] at hx
      rcases hx with hx | rfl
      · have := hp.2.2 x hx y (by simp)
        omega
      · exact h
    · exact fun h => h y (by simp)
theorem nil_all {l : List Int} : decide (l.length = 0) = true ↔ ∀ x ∈ l, (fun _ => false) x = true := by
  rw [decide_eq_true_eq, List.length_eq_zero_iff]
  constructor
  · rintro rfl x hx
    cases hx
  · intro h
    cases l with
    | nil => rfl
    | cons a r => exact absurd (h a (by simp)) (by simp)
theorem closed_law {t : Term} (hp : prop t = true) (n : Int) : closedF t n = nodesT n t 0 := by
  rw [Bool.eq_iff_iff]
  unfold closedF
  rw [Bool.and_eq_true, Bool.and_eq_true, nil_all, nil_all, con_all 1 _ hp, con_all 3 _ hp, lastB_all (con_sorted 2 hp),
    show (∀ x ∈ conF 2 t, x < n) ↔ (∀ x ∈ conF 2 t, (fun x => decide (x < n)) x = true) from by simp, con_all 2 _ hp,
    ← Bool.and_eq_true, ← Bool.and_eq_true, ← allT_and, ← allT_and, nodesT_all]
  rw [allT_congr (q := fun t i => !decide (t.k = 4) || nodeOk n t i)]
  intro t i
  unfold hdOk nodeOk
  by_cases h4 : t.k = 4
  · by_cases h1 : t.l = 1
    · simp [h4, h1]
      by_cases h : i ≤ t.n
      · simp [h]
      · simp [h]; omega
    · by_cases h3 : t.l = 3
      · simp [h4, h3]
      · by_cases h2 : t.l = 2
        · simp [h4, h2]
        · simp [h4, h1, h2, h3]
  · simp [h4]
end Go.Tr
/- The reference: formed, Formed. -/
namespace Go.Tr
open Go.Proofs
def nameIn (l : List Dcl) (s : ByteArray) : Bool := l.any fun e => decide (e.s = s)
theorem nameIn_no {l : List Dcl} {s : ByteArray} (h : ∀ (i : Nat) e, l[i]? = some e → ¬ e.s = s) : nameIn l s = false := by
  unfold nameIn
  rw [List.any_eq_false]
  intro e he
  obtain ⟨i, hi⟩ := List.mem_iff_getElem?.1 he
  simpa using h i e hi
theorem nameIn_yes {l : List Dcl} {s : ByteArray} {i : Nat} {e : Dcl} (hi : l[i]? = some e) (h : e.s = s) : nameIn l s = true := by
  unfold nameIn
  rw [List.any_eq_true]
  exact ⟨e, List.mem_of_getElem? hi, by simpa using h⟩
theorem namesOf_in (l : List Dcl) (s : ByteArray) : (namesOf l (.s s)).getD false = nameIn l s := by
  unfold namesOf nameIn
  simp only
  split <;> simp_all
def formedR (B : List Dcl) (d : Dcl) : Bool := !nameIn B d.s && formedF B d
theorem cRFormed1 (B : List Dcl) (hB : ∀ e ∈ B, prop e.c = true) (hBl : B.length ≤ 1000) (d : Dcl) : CallSt Tryz.prog 45 [.c (.sl 6 72 (dcs B)), dv d] [] (fun r H' => r = .c (.bool (formedR B d)) ∧ H' = []) := by
  have h16 := c16 d.c
  rw [← prop_rprop] at h16
  have hnm : CallSt Tryz.prog 77 [.c (.str d.s)] [] (fun r H' => r = .c (.bool (nameF d.s)) ∧ H' = []) := cRIsNameS d.s
  have hbl := len_dcs B
  cases hn : nameF d.s with
  | false =>
    rw [show formedR B d = false by simp [formedR, formedF, hn]]
    rw [hn] at hnm
    obtain ⟨s, ⟨k, l, n, ts⟩, i⟩ := d
    refine call_pure (E := env 0) (fn := Tryz.f45) (c := bodyOf Tryz.f45) (env_ok 0) mixed (by kernel_rfl) (by kernel_rfl) (by kernel_rfl) (by kernel_rfl) (by kernel_rfl) (by kernel_rfl) rfl ?_
    conv => whnf
    try (refine dI (by kernel_rfl) ?_; conv => whnf)
    first | refine CallSt.use hnm [] trivial (by decide) rfl ?_ | refine CallPt.useS hnm [] trivial (by decide) rfl ?_
    rintro _ _ ⟨rfl, rfl⟩ _
    conv => whnf
    repeat ((first | refine aI rfl ?_ | refine aI (by decide) ?_ | refine dI (by kernel_rfl) ?_ | refine aI ⟨by omega, by omega⟩ ?_ | refine aI (by omega) ?_ | refine aI (fun _ => ⟨by omega, by omega⟩) ?_ | refine aI (of_decide_eq_true rfl) ?_ | (refine yI ?_ ?_; focus (first | decide | (simp; done) | (simp [tcs]; done))) | (refine nI ?_ ?_; focus (first | decide | (simp; done) | (simp [tcs]; done))) | intro _); conv => whnf)
    all_goals (first | rfl | exact ⟨rfl, rfl⟩ | exact ⟨rfl, rfl, rfl⟩)
  | true =>
  rw [hn] at hnm
  cases hp : prop d.c with
  | false =>
    rw [show formedR B d = false by simp [formedR, formedF, hp]]
    rw [hp] at h16
    clear hp
    obtain ⟨s, ⟨k, l, n, ts⟩, i⟩ := d
    rw [tv_mk] at h16
    refine call_pure (E := env 0) (fn := Tryz.f45) (c := bodyOf Tryz.f45) (env_ok 0) mixed (by kernel_rfl) (by kernel_rfl) (by kernel_rfl) (by kernel_rfl) (by kernel_rfl) (by kernel_rfl) rfl ?_
    conv => whnf
    try (refine dI (by kernel_rfl) ?_; conv => whnf)
    first | refine CallSt.use hnm [] trivial (by decide) rfl ?_ | refine CallPt.useS hnm [] trivial (by decide) rfl ?_
    rintro _ _ ⟨rfl, rfl⟩ _
    conv => whnf
    repeat ((first | refine aI rfl ?_ | refine aI (by decide) ?_ | refine dI (by kernel_rfl) ?_ | refine aI ⟨by omega, by omega⟩ ?_ | refine aI (by omega) ?_ | refine aI (fun _ => ⟨by omega, by omega⟩) ?_ | refine aI (of_decide_eq_true rfl) ?_ | (refine yI ?_ ?_; focus (first | decide | (simp; done) | (simp [tcs]; done))) | (refine nI ?_ ?_; focus (first | decide | (simp; done) | (simp [tcs]; done)))); conv => whnf)
    try (refine dI (by kernel_rfl) ?_; conv => whnf)
    first | refine CallSt.use h16 [] trivial (by decide) rfl ?_ | refine CallPt.useS h16 [] trivial (by decide) rfl ?_
    rintro _ _ ⟨rfl, rfl⟩ _
    conv => whnf
    repeat ((first | refine aI rfl ?_ | refine aI (by decide) ?_ | refine dI (by kernel_rfl) ?_ | refine aI ⟨by omega, by omega⟩ ?_ | refine aI (by omega) ?_ | refine aI (fun _ => ⟨by omega, by omega⟩) ?_ | refine aI (of_decide_eq_true rfl) ?_ | (refine yI ?_ ?_; focus (first | decide | (simp; done) | (simp [tcs]; done))) | (refine nI ?_ ?_; focus (first | decide | (simp; done) | (simp [tcs]; done))) | intro _); conv => whnf)
    all_goals (first | rfl | exact ⟨rfl, rfl⟩ | exact ⟨rfl, rfl, rfl⟩)
  | true =>
  rw [hp] at h16
  have hcl := cRClosed d.c B.length hp
  rw [closed_law hp] at hcl
  cases hc : nodesT B.length d.c 0 with
  | false =>
    rw [show formedR B d = false by simp [formedR, formedF, hc]]
    rw [hc] at hcl
    clear hc hp
    obtain ⟨s, ⟨k, l, n, ts⟩, i⟩ := d
    rw [tv_mk] at h16 hcl
    rw [← hbl] at hcl
    refine call_pure (E := env 0) (fn := Tryz.f45) (c := bodyOf Tryz.f45) (env_ok 0) mixed (by kernel_rfl) (by kernel_rfl) (by kernel_rfl) (by kernel_rfl) (by kernel_rfl) (by kernel_rfl) rfl ?_
    conv => whnf
    try (refine dI (by kernel_rfl) ?_; conv => whnf)
    first | refine CallSt.use hnm [] trivial (by decide) rfl ?_ | refine CallPt.useS hnm [] trivial (by decide) rfl ?_
    rintro _ _ ⟨rfl, rfl⟩ _
    conv => whnf
    repeat ((first | refine aI rfl ?_ | refine aI (by decide) ?_ | refine dI (by kernel_rfl) ?_ | refine aI ⟨by omega, by omega⟩ ?_ | refine aI (by omega) ?_ | refine aI (fun _ => ⟨by omega, by omega⟩) ?_ | refine aI (of_decide_eq_true rfl) ?_ | (refine yI ?_ ?_; focus (first | decide | (simp; done) | (simp [tcs]; done))) | (refine nI ?_ ?_; focus (first | decide | (simp; done) | (simp [tcs]; done)))); conv => whnf)
    try (refine dI (by kernel_rfl) ?_; conv => whnf)
    first | refine CallSt.use h16 [] trivial (by decide) rfl ?_ | refine CallPt.useS h16 [] trivial (by decide) rfl ?_
    rintro _ _ ⟨rfl, rfl⟩ _
    conv => whnf
    repeat ((first | refine aI rfl ?_ | refine aI (by decide) ?_ | refine dI (by kernel_rfl) ?_ | refine aI ⟨by omega, by omega⟩ ?_ | refine aI (by omega) ?_ | refine aI (fun _ => ⟨by omega, by omega⟩) ?_ | refine aI (of_decide_eq_true rfl) ?_ | (refine yI ?_ ?_; focus (first | decide | (simp; done) | (simp [tcs]; done))) | (refine nI ?_ ?_; focus (first | decide | (simp; done) | (simp [tcs]; done))) | intro _); conv => whnf)
    try (refine dI (by kernel_rfl) ?_; conv => whnf)
    first | refine CallSt.use hcl [] trivial (by decide) rfl ?_ | refine CallPt.useS hcl [] trivial (by decide) rfl ?_
    rintro _ _ ⟨rfl, rfl⟩ _
    conv => whnf
    repeat ((first | refine aI rfl ?_ | refine aI (by decide) ?_ | refine dI (by kernel_rfl) ?_ | refine aI ⟨by omega, by omega⟩ ?_ | refine aI (by omega) ?_ | refine aI (fun _ => ⟨by omega, by omega⟩) ?_ | refine aI (of_decide_eq_true rfl) ?_ | (refine yI ?_ ?_; focus (first | decide | (simp; done) | (simp [tcs]; done))) | (refine nI ?_ ?_; focus (first | decide | (simp; done) | (simp [tcs]; done))) | intro _); conv => whnf)
    all_goals (first | rfl | exact ⟨rfl, rfl⟩ | exact ⟨rfl, rfl, rfl⟩)
  | true =>
  rw [hc] at hcl
  have hs := c33 d.c 1 (prop_fm1 hp) (by omega)
  have hdl := dom_len d.c 1 (prop_fm1 hp)
  have hR : formedR B d = (!nameIn B d.s && (decide (0 ≤ d.i) && decide (d.i ≤ (domT d.c).1.length) && (kindT d.c || (targOk d.c && kindAt B (domT d.c).2.n)))) := by simp [formedR, formedF, hn, hp, hc]
  have hn0 := @targ_pos d.c hp
  have hn1 := @nodes_targ _ _ hc
  have hkat : ∀ e : Dcl, B[(domT d.c).2.n.toNat]? = some e → kindAt B (domT d.c).2.n = kindT e.c := fun e he => by unfold kindAt; rw [he]
  rw [hR]
  clear hR hc
  unfold kindT targOk at *
  generalize kindAt B (domT d.c).2.n = A at *
  generalize domT d.c = p at *
  clear hp hn
  obtain ⟨L, ⟨k2, l2, n2, ts2⟩⟩ := p
  obtain ⟨s, ⟨k, l, n, ts⟩, i⟩ := d
  dsimp only [Term.k, Term.l, Term.n, Term.ts] at *
  have hln := len_tcs L
  rw [tv_mk] at h16 hcl hs
  rw [tv_mk] at hs
  rw [← hbl] at hcl
  refine call_pure (E := env 0) (fn := Tryz.f45) (c := bodyOf Tryz.f45) (env_ok 0) mixed (by kernel_rfl) (by kernel_rfl) (by kernel_rfl) (by kernel_rfl) (by kernel_rfl) (by kernel_rfl) rfl ?_
  conv => whnf
  try (refine dI (by kernel_rfl) ?_; conv => whnf)
  first | refine CallSt.use hnm [] trivial (by decide) rfl ?_ | refine CallPt.useS hnm [] trivial (by decide) rfl ?_
  rintro _ _ ⟨rfl, rfl⟩ _
  conv => whnf
  repeat ((first | refine aI rfl ?_ | refine aI (by decide) ?_ | refine dI (by kernel_rfl) ?_ | refine aI ⟨by omega, by omega⟩ ?_ | refine aI (by omega) ?_ | refine aI (fun _ => ⟨by omega, by omega⟩) ?_ | refine aI (of_decide_eq_true rfl) ?_ | (refine yI ?_ ?_; focus (first | decide | (simp; done) | (simp [tcs]; done))) | (refine nI ?_ ?_; focus (first | decide | (simp; done) | (simp [tcs]; done)))); conv => whnf)
  try (refine dI (by kernel_rfl) ?_; conv => whnf)
  first | refine CallSt.use h16 [] trivial (by decide) rfl ?_ | refine CallPt.useS h16 [] trivial (by decide) rfl ?_
  rintro _ _ ⟨rfl, rfl⟩ _
  conv => whnf
  repeat ((first | refine aI rfl ?_ | refine aI (by decide) ?_ | refine dI (by kernel_rfl) ?_ | refine aI ⟨by omega, by omega⟩ ?_ | refine aI (by omega) ?_ | refine aI (fun _ => ⟨by omega, by omega⟩) ?_ | refine aI (of_decide_eq_true rfl) ?_ | (refine yI ?_ ?_; focus (first | decide | (simp; done) | (simp [tcs]; done))) | (refine nI ?_ ?_; focus (first | decide | (simp; done) | (simp [tcs]; done))) | intro _); conv => whnf)
  try (refine dI (by kernel_rfl) ?_; conv => whnf)
  first | refine CallSt.use hcl [] trivial (by decide) rfl ?_ | refine CallPt.useS hcl [] trivial (by decide) rfl ?_
  rintro _ _ ⟨rfl, rfl⟩ _
  conv => whnf
  repeat ((first | refine aI rfl ?_ | refine aI (by decide) ?_ | refine dI (by kernel_rfl) ?_ | refine aI ⟨by omega, by omega⟩ ?_ | refine aI (by omega) ?_ | refine aI (fun _ => ⟨by omega, by omega⟩) ?_ | refine aI (of_decide_eq_true rfl) ?_ | (refine yI ?_ ?_; focus (first | decide | (simp; done) | (simp [tcs]; done))) | (refine nI ?_ ?_; focus (first | decide | (simp; done) | (simp [tcs]; done))) | intro _); conv => whnf)
  refine loop_intro (fun m tm H => ∃ j : Nat, B.length = m + j ∧ (∀ (q : Nat) e, q < j → B[q]? = some e → ¬ e.s = s) ∧
      tm = [(29, .c (.int .i64 (j))), (28, .c (.int .i64 ((dcs B).length))), (27, .c (.sl 6 72 (dcs B))), (0, .c (.sl 6 72 (dcs B))), (3, .ptr 0 0)] ∧ H = [.box [.c (.str s), .c (.int .i64 (k)), .c (.int .i64 (l)), .c (.int .i64 (n)), .c (.sl 4 48 (tcs ts)), .c (.int .i64 (i))]])
      B.length _ _ ⟨0, by omega, fun q e hq => absurd hq (by omega), rfl, rfl⟩ (Wk.sl [0] rfl ⟨rfl, trivial⟩ ⟨rfl, rfl, rfl, rfl, rfl, trivial⟩ rfl) ?_
  rintro m tm H ⟨j, hj, hall, rfl, rfl⟩
  conv => whnf
  refine ⟨fun hlt => ?_, fun hlt => ?_⟩
  · replace hlt : (j : Int) < (dcs B).length := of_decide_eq_true hlt
    obtain ⟨e, he⟩ : ∃ e, B[j]? = some e := ⟨B[j]'(by omega), List.getElem?_eq_getElem (by omega)⟩
    have hec := dcs_at he
    have hno : ∀ b, b = decide (e.s = s) → b = false → ∀ (q : Nat) x, q < j + 1 → B[q]? = some x → ¬ x.s = s := fun b hb hf q x hq hx => by
      by_cases hqj : q < j
      · exact hall q x hqj hx
      · obtain rfl : q = j := by omega
        rw [he] at hx
        injection hx with hx
        subst hx
        exact of_decide_eq_false (hb ▸ hf)
    have hyes : e.s = s → nameIn B s = true := fun h => nameIn_yes he h
    obtain ⟨s', ⟨k', l', n', us⟩, i'⟩ := e
    conv => whnf
    refine ⟨_, ⟨by omega, hec⟩, ?_⟩
    conv => whnf
    refine ⟨show 6 ≤ 6 by decide, ?_⟩
    conv => whnf
    refine ⟨fun hsq => ?_, fun hsq => ?_⟩
    · rw [hyes (of_decide_eq_true hsq)]
      repeat ((first | refine aI rfl ?_ | refine aI (by decide) ?_ | refine dI (by kernel_rfl) ?_ | refine aI ⟨by omega, by omega⟩ ?_ | refine aI (by omega) ?_ | refine aI (fun _ => ⟨by omega, by omega⟩) ?_ | refine aI (of_decide_eq_true rfl) ?_ | (refine yI ?_ ?_; focus (first | decide | (simp; done) | (simp [tcs]; done))) | (refine nI ?_ ?_; focus (first | decide | (simp; done) | (simp [tcs]; done))) | intro _); conv => whnf)
      all_goals (first | rfl | exact ⟨rfl, rfl⟩ | exact ⟨rfl, rfl, rfl⟩)
    · conv => whnf
      refine ⟨⟨by omega, by omega⟩, ?_⟩
      conv => whnf
      exact ⟨m - 1, _, _, by omega, ⟨j + 1, by omega, hno _ rfl hsq, rfl, rfl⟩, Wk.sl [0] rfl ⟨rfl, trivial⟩ ⟨rfl, rfl, rfl, rfl, rfl, trivial⟩ rfl⟩
  · replace hlt : ¬ (j : Int) < (dcs B).length := of_decide_eq_false hlt
    rw [nameIn_no (fun q e he => hall q e (by have := (List.getElem?_eq_some_iff.1 he).1; omega) he)]
    conv => whnf
    try (refine dI (by kernel_rfl) ?_; conv => whnf)
    first | refine CallSt.use hs [] trivial (by decide) rfl ?_ | refine CallPt.useS hs [] trivial (by decide) rfl ?_
    rintro _ _ ⟨rfl, rfl⟩ _
    conv => whnf
    refine ⟨fun hg => ?_, fun hg => ?_⟩
    · have hg' : (decide (k2 = 4) && decide (l2 = 2)) = true := by simpa using hg
      have g0 := hn0 hg'
      have g1 := hn1 hg'
      obtain ⟨e, he⟩ : ∃ e, B[n2.toNat]? = some e := ⟨B[n2.toNat]'(by omega), List.getElem?_eq_getElem (by omega)⟩
      have hf := cRFamily B n2 g0 e he (hB e (List.mem_of_getElem? he))
      have hA : A = kindT e.c := hkat e he
      rw [← hA] at hf
      have h4 : k2 = 4 := by simp at hg'; exact hg'.1
      have h2 : l2 = 2 := by simp at hg'; exact hg'.2
      subst h4 h2
      clear hkat hA hn0 hn1 hg hg' hB
      conv => whnf
      try (refine dI (by kernel_rfl) ?_; conv => whnf)
      first | refine CallSt.use hf [] trivial (by decide) rfl ?_ | refine CallPt.useS hf [] trivial (by decide) rfl ?_
      rintro _ _ ⟨rfl, rfl⟩ _
      conv => whnf
      cases A with
      | false =>
        repeat ((first | refine aI rfl ?_ | refine aI (by decide) ?_ | refine dI (by kernel_rfl) ?_ | refine aI ⟨by omega, by omega⟩ ?_ | refine aI (by omega) ?_ | refine aI (fun _ => ⟨by omega, by omega⟩) ?_ | refine aI (of_decide_eq_true rfl) ?_ | (refine yI ?_ ?_; focus (first | decide | (simp; done) | (simp [tcs]; done))) | (refine nI ?_ ?_; focus (first | decide | (simp; done) | (simp [tcs]; done))) | intro _); conv => whnf)
        refine ⟨congrArg (fun z => AV.c (.bool z)) ?_, rfl⟩
        simp
      | true =>
        repeat ((first | refine aI rfl ?_ | refine aI (by decide) ?_ | refine dI (by kernel_rfl) ?_ | refine aI ⟨by omega, by omega⟩ ?_ | refine aI (by omega) ?_ | refine aI (fun _ => ⟨by omega, by omega⟩) ?_ | refine aI (of_decide_eq_true rfl) ?_ | (refine yI ?_ ?_; focus (first | decide | (simp; done) | (simp [tcs]; done))) | (refine nI ?_ ?_; focus (first | decide | (simp; done) | (simp [tcs]; done))) | intro _); conv => whnf)
        refine ⟨congrArg (fun z => AV.c (.bool z)) ?_, rfl⟩
        rw [hln]
        simp
    · have hg' : (decide (k2 = 4) && decide (l2 = 2)) = false := by simpa using hg
      rw [Bool.and_eq_false_iff, decide_eq_false_iff_not, decide_eq_false_iff_not] at hg'
      conv => whnf
      refine ⟨fun hc => ?_, fun hc => ?_⟩
      · conv => whnf
        simp at hc
        have h2 : ¬ l2 = 2 := hg'.resolve_left (fun h => h hc)
        refine ⟨rfl, rfl, congrArg (fun z => AV.c (.bool z)) ?_, rfl⟩
        simp [hc, h2]
      · conv => whnf
        simp at hc
        repeat ((first | refine aI rfl ?_ | refine aI (by decide) ?_ | refine dI (by kernel_rfl) ?_ | refine aI ⟨by omega, by omega⟩ ?_ | refine aI (by omega) ?_ | refine aI (fun _ => ⟨by omega, by omega⟩) ?_ | refine aI (of_decide_eq_true rfl) ?_ | (refine yI ?_ ?_; focus (first | decide | (simp; done) | (simp [tcs]; done))) | (refine nI ?_ ?_; focus (first | decide | (simp; done) | (simp [tcs]; done))) | intro _); conv => whnf)
        refine ⟨congrArg (fun z => AV.c (.bool z)) ?_, rfl⟩
        rw [hln]
        by_cases h1 : k2 = 1
        · simp [h1]
        · simp [hc, h1]
theorem good_formed (sig : List Dcl) {n : Nat} {d : Dcl} (h : sig[n]? = some d) : goodD sig n = formedR (sig.take n) d := by
  unfold goodD formedR
  rw [h]
  simp only
  rw [namesOf_in]
theorem dcs_take' (sig : List Dcl) (n : Nat) : ((dcs sig).take ((n : Int).toNat)).drop (Int.toNat 0) = dcs (sig.take n) := by
  have h1 : (Int.toNat 0) = 0 := rfl
  rw [Int.toNat_natCast, h1, List.drop_zero]
  simp [dcs]
theorem cRFormed (sig : List Dcl) : CallSt Tryz.prog 17 [.c (.sl 6 72 (dcs sig))] [] (fun r H' => r = .c (.bool (checkB sig)) ∧ H' = []) := by
  have hbl := len_dcs sig
  by_cases hs : sig.length ≤ 100
  · have hcb : checkB sig = (List.range sig.length).all (goodD sig) := by unfold checkB; rw [decide_eq_true hs, Bool.true_and]
    rw [hcb]
    refine call_pure (E := env 0) (fn := Tryz.f17) (c := bodyOf Tryz.f17) (env_ok 0) mixed (by kernel_rfl) (by kernel_rfl) (by kernel_rfl) (by kernel_rfl) (by kernel_rfl) (by kernel_rfl) rfl ?_
    conv => whnf
    refine loop_intro (fun m tm H => ∃ n : Nat, sig.length = m + n ∧ (∀ i, i < n → goodD sig i = true) ∧ tm = [(3, .c (.int .i64 (n))), (0, .c (.sl 6 72 (dcs sig)))] ∧ H = [])
      sig.length _ _ ⟨0, by omega, fun i hi => absurd hi (by omega), rfl, rfl⟩ (Wk.sl [] rfl trivial ⟨rfl, rfl, trivial⟩ rfl) ?_
    rintro m tm H ⟨n, hm, hall, rfl, rfl⟩
    conv => whnf
    intro _
    conv => whnf
    intro _
    conv => whnf
    refine ⟨fun hlt => ?_, fun hlt => ?_⟩
    · have hlt' : (n : Int) < (dcs sig).length := by simp at hlt; omega
      obtain ⟨d, hd⟩ : ∃ d, sig[n]? = some d := ⟨sig[n]'(by omega), List.getElem?_eq_getElem (by omega)⟩
      have hdc := dcs_at hd
      have hf := cRFormed1 (sig.take n) (good_prop hall) (by simp; omega) d
      rw [← good_formed sig hd, ← dcs_take'] at hf
      have hno : goodD sig n = false → (List.range sig.length).all (goodD sig) = false := fun h => by
        rw [List.all_eq_false]
        exact ⟨n, by simp; omega, by rw [h]; simp⟩
      have hnx : goodD sig n = true → ∀ i, i < n + 1 → goodD sig i = true := fun h i hi => by
        by_cases hij : i < n
        · exact hall i hij
        · obtain rfl : i = n := by omega
          exact h
      obtain ⟨s, ⟨k, l, x, ts⟩, i⟩ := d
      dsimp only [dv, Term.k, Term.l, Term.n, Term.ts] at hf
      conv => whnf
      refine draw_intro true (by kernel_rfl) ?_
      conv => whnf
      refine ⟨⟨by omega, by omega, by omega⟩, ?_⟩
      conv => whnf
      refine ⟨_, ⟨by omega, hdc⟩, ?_⟩
      conv => whnf
      refine ⟨show 6 ≤ 6 by decide, ?_⟩
      conv => whnf
      try (refine dI (by kernel_rfl) ?_; conv => whnf)
      first | refine CallSt.use hf [] trivial (by decide) rfl ?_ | refine CallPt.useS hf [] trivial (by decide) rfl ?_
      rintro _ _ ⟨rfl, rfl⟩ _
      conv => whnf
      generalize goodD sig n = b at *
      cases b with
      | false =>
        rw [hno rfl]
        repeat ((first | refine aI rfl ?_ | refine aI (by decide) ?_ | refine dI (by kernel_rfl) ?_ | refine aI ⟨by omega, by omega⟩ ?_ | refine aI (by omega) ?_ | refine aI (fun _ => ⟨by omega, by omega⟩) ?_ | refine aI (of_decide_eq_true rfl) ?_ | (refine yI ?_ ?_; focus (first | decide | (simp; done) | (simp [tcs]; done))) | (refine nI ?_ ?_; focus (first | decide | (simp; done) | (simp [tcs]; done))) | intro _); conv => whnf)
        all_goals (first | rfl | exact ⟨rfl, rfl⟩ | exact ⟨rfl, rfl, rfl⟩)
      | true =>
        (refine ⟨fun h => absurd h ?_, fun _ => ?_⟩; (focus (first | decide | (simp; done) | (simp [tcs]; done))); conv => whnf)
        refine ⟨⟨by omega, by omega⟩, ?_⟩
        conv => whnf
        exact ⟨m - 1, _, _, by omega, ⟨n + 1, by omega, hnx rfl, rfl, rfl⟩, Wk.sl [] rfl trivial ⟨rfl, rfl, trivial⟩ rfl⟩
    · have hge : ¬ (n : Int) < (dcs sig).length := fun h => by
        rw [decide_eq_true h, decide_eq_true (show ((dcs sig).length : Int) ≤ 100 by omega)] at hlt
        cases hlt
      have hall' : (List.range sig.length).all (goodD sig) = decide (((dcs sig).length : Int) ≤ 100) := by
        rw [decide_eq_true (show ((dcs sig).length : Int) ≤ 100 by omega), List.all_eq_true]
        intro i hi
        exact hall i (by simp at hi; omega)
      rw [hall']
      conv => whnf
      repeat ((first | refine aI rfl ?_ | refine aI (by decide) ?_ | refine dI (by kernel_rfl) ?_ | refine aI ⟨by omega, by omega⟩ ?_ | refine aI (by omega) ?_ | refine aI (fun _ => ⟨by omega, by omega⟩) ?_ | refine aI (of_decide_eq_true rfl) ?_ | (refine yI ?_ ?_; focus (first | decide | (simp; done) | (simp [tcs]; done))) | (refine nI ?_ ?_; focus (first | decide | (simp; done) | (simp [tcs]; done))) | intro _); conv => whnf)
      all_goals (first | rfl | exact ⟨rfl, rfl⟩ | exact ⟨rfl, rfl, rfl⟩)
  · rw [show checkB sig = false by unfold checkB; rw [decide_eq_false hs]; rfl]
    refine call_pure (E := env 0) (fn := Tryz.f17) (c := bodyOf Tryz.f17) (env_ok 0) mixed (by kernel_rfl) (by kernel_rfl) (by kernel_rfl) (by kernel_rfl) (by kernel_rfl) (by kernel_rfl) rfl ?_
    conv => whnf
    refine loop_intro (fun m tm H => tm = [(3, .c (.int .i64 (0))), (0, .c (.sl 6 72 (dcs sig)))] ∧ H = []) 0 _ _ ⟨rfl, rfl⟩ (Wk.sl [] rfl trivial ⟨rfl, rfl, trivial⟩ rfl) ?_
    rintro m tm H ⟨rfl, rfl⟩
    conv => whnf
    intro _
    conv => whnf
    intro _
    conv => whnf
    refine ⟨fun hlt => ?_, fun hlt => ?_⟩
    · exfalso
      simp at hlt
      omega
    · conv => whnf
      intro _
      conv => whnf
      rw [show decide (((dcs sig).length : Int) ≤ 100) = false from decide_eq_false (by omega)]
      repeat ((first | refine aI rfl ?_ | refine aI (by decide) ?_ | refine dI (by kernel_rfl) ?_ | refine aI ⟨by omega, by omega⟩ ?_ | refine aI (by omega) ?_ | refine aI (fun _ => ⟨by omega, by omega⟩) ?_ | refine aI (of_decide_eq_true rfl) ?_ | (refine yI ?_ ?_; focus (first | decide | (simp; done) | (simp [tcs]; done))) | (refine nI ?_ ?_; focus (first | decide | (simp; done) | (simp [tcs]; done))) | intro _); conv => whnf)
      all_goals (first | rfl | exact ⟨rfl, rfl⟩ | exact ⟨rfl, rfl, rfl⟩)
end Go.Tr
/- has, Find, IsFamily, Head, Target of both sides. -/
namespace Go.Tr
open Go.Proofs
theorem check_len {sig : List Dcl} (h : checkB sig = true) : sig.length ≤ 100 := by
  unfold checkB at h
  rw [Bool.and_eq_true] at h
  exact of_decide_eq_true h.1
theorem check_good {sig : List Dcl} (h : checkB sig = true) : ∀ i, i < sig.length → goodD sig i = true := by
  unfold checkB at h
  rw [Bool.and_eq_true, List.all_eq_true] at h
  intro i hi
  exact h.2 i (by simpa using hi)
theorem check_prop {sig : List Dcl} (h : checkB sig = true) : ∀ e ∈ sig, prop e.c = true := by
  have := good_prop (n := sig.length) (check_good h)
  rwa [List.take_length] at this
def hasE (sig : List Dcl) (n : Int) : Int := match checkB sig with
  | false => 2
  | true => (match decide (n < 0) || decide ((sig.length : Int) ≤ n) with | true => 6 | false => 0)
theorem hasE_ok {sig : List Dcl} {n : Int} (h : hasE sig n = 0) : checkB sig = true ∧ 0 ≤ n ∧ n < sig.length := by
  unfold hasE at h
  cases hc : checkB sig with
  | false => rw [hc] at h; cases h
  | true =>
    rw [hc] at h
    simp only at h
    split at h
    · cases h
    · rename_i h2
      simp at h2
      exact ⟨rfl, by omega, by omega⟩
theorem hasE_cases (sig : List Dcl) (n : Int) : (hasE sig n = 2 ∧ checkB sig = false) ∨ (hasE sig n = 6 ∧ checkB sig = true ∧ ¬ (0 ≤ n ∧ n < sig.length)) ∨ (hasE sig n = 0 ∧ checkB sig = true ∧ 0 ≤ n ∧ n < sig.length) := by
  unfold hasE
  cases hc : checkB sig with
  | false => exact .inl ⟨rfl, rfl⟩
  | true =>
    simp only
    split
    · rename_i h2
      simp at h2
      exact .inr (.inl ⟨rfl, trivial, by omega⟩)
    · rename_i h2
      simp at h2
      exact .inr (.inr ⟨rfl, trivial, by omega⟩)
def headT (d : Dcl) (n : Int) : Int := match kindT d.c with | true => n | false => (domT d.c).2.n
theorem cHead (sig : List Dcl) (hp : ∀ e ∈ sig, prop e.c = true) (n : Nat) (d : Dcl) (hd : sig[n]? = some d) : CallSt Tryz.prog 70 [.c (.sl 6 72 (dcs sig)), .c (.int .i64 (n))] [] (fun r H' => r = .c (.int .i64 (headT d n)) ∧ H' = []) := by
  have hpd := hp d (List.mem_of_getElem? hd)
  have hf := cFamily sig n d hd hpd
  have ht := cTarget d.c hpd
  have hdc := dcs_at hd
  unfold headT
  generalize kindT d.c = b at *
  generalize (domT d.c).2.n = x at *
  generalize targOk d.c = y at *
  clear hpd
  cases b with
  | true =>
    refine call_pure (E := env 0) (fn := Tryz.f70) (c := bodyOf Tryz.f70) (env_ok 0) mixed (by kernel_rfl) (by kernel_rfl) (by kernel_rfl) (by kernel_rfl) (by kernel_rfl) (by kernel_rfl) rfl ?_
    conv => whnf
    try (refine dI (by kernel_rfl) ?_; conv => whnf)
    first | refine CallSt.use hf [] trivial (by decide) rfl ?_ | refine CallPt.useS hf [] trivial (by decide) rfl ?_
    rintro _ _ ⟨rfl, rfl⟩ _
    conv => whnf
    repeat ((first | refine aI rfl ?_ | refine aI (by decide) ?_ | refine dI (by kernel_rfl) ?_ | refine aI ⟨by omega, by omega⟩ ?_ | refine aI (by omega) ?_ | refine aI (fun _ => ⟨by omega, by omega⟩) ?_ | refine aI (of_decide_eq_true rfl) ?_ | (refine yI ?_ ?_; focus (first | decide | (simp; done) | (simp [tcs]; done))) | (refine nI ?_ ?_; focus (first | decide | (simp; done) | (simp [tcs]; done))) | intro _); conv => whnf)
    all_goals (first | rfl | exact ⟨rfl, rfl⟩ | exact ⟨rfl, rfl, rfl⟩)
  | false =>
    obtain ⟨s, ⟨k, l, m, ts⟩, i⟩ := d
    rw [tv_mk] at *
    refine call_pure (E := env 0) (fn := Tryz.f70) (c := bodyOf Tryz.f70) (env_ok 0) mixed (by kernel_rfl) (by kernel_rfl) (by kernel_rfl) (by kernel_rfl) (by kernel_rfl) (by kernel_rfl) rfl ?_
    conv => whnf
    try (refine dI (by kernel_rfl) ?_; conv => whnf)
    first | refine CallSt.use hf [] trivial (by decide) rfl ?_ | refine CallPt.useS hf [] trivial (by decide) rfl ?_
    rintro _ _ ⟨rfl, rfl⟩ _
    conv => whnf
    (refine ⟨fun h => absurd h ?_, fun _ => ?_⟩; (focus (first | decide | (simp; done) | (simp [tcs]; done))); conv => whnf)
    refine ⟨_, ⟨by omega, hdc⟩, ?_⟩
    conv => whnf
    refine ⟨show 4 ≤ 5 by decide, ?_⟩
    conv => whnf
    try (refine dI (by kernel_rfl) ?_; conv => whnf)
    first | refine CallSt.use ht [] trivial (by decide) rfl ?_ | refine CallPt.useS ht [] trivial (by decide) rfl ?_
    rintro _ _ ⟨rfl, rfl⟩ _
    conv => whnf
    repeat ((first | refine aI rfl ?_ | refine aI (by decide) ?_ | refine dI (by kernel_rfl) ?_ | refine aI ⟨by omega, by omega⟩ ?_ | refine aI (by omega) ?_ | refine aI (fun _ => ⟨by omega, by omega⟩) ?_ | refine aI (of_decide_eq_true rfl) ?_ | (refine yI ?_ ?_; focus (first | decide | (simp; done) | (simp [tcs]; done))) | (refine nI ?_ ?_; focus (first | decide | (simp; done) | (simp [tcs]; done))) | intro _); conv => whnf)
    all_goals (first | rfl | exact ⟨rfl, rfl⟩ | exact ⟨rfl, rfl, rfl⟩)
end Go.Tr
/- IsFamily, Target, Of; the reference's Find, Has, IsFamily, Target, Of. -/
namespace Go.Tr
open Go.Proofs
theorem get_nat {sig : List Dcl} {n : Int} (h : 0 ≤ n ∧ n < sig.length) : ∃ (q : Nat) (d : Dcl), n = q ∧ q < sig.length ∧ sig[q]? = some d := by
  obtain ⟨q, rfl⟩ := Int.eq_ofNat_of_zero_le h.1
  have hq : q < sig.length := by omega
  exact ⟨q, sig[q], rfl, hq, List.getElem?_eq_getElem hq⟩
theorem kindAt_at {sig : List Dcl} {q : Nat} {d : Dcl} (h : sig[q]? = some d) : kindAt sig q = kindT d.c := by
  unfold kindAt
  rw [Int.toNat_natCast, h]
def upTo (p : Nat → Bool) (j : Nat) : List Int := ((List.range j).filter p).map (fun n : Nat => (n : Int))
theorem upTo_yes {p : Nat → Bool} {j : Nat} (h : p j = true) : upTo p (j + 1) = upTo p j ++ [(j : Int)] := by
  unfold upTo
  rw [List.range_succ, List.filter_append, List.map_append]
  simp [h]
theorem upTo_no {p : Nat → Bool} {j : Nat} (h : p j = false) : upTo p (j + 1) = upTo p j := by
  unfold upTo
  rw [List.range_succ, List.filter_append, List.map_append]
  simp [h]
theorem upTo_len (p : Nat → Bool) (j : Nat) : (upTo p j).length ≤ j := by
  unfold upTo
  rw [List.length_map]
  have := List.length_filter_le p (List.range j)
  simpa using this
theorem upTo_congr {p q : Nat → Bool} {j : Nat} (h : ∀ i, i < j → p i = q i) : upTo p j = upTo q j := by
  unfold upTo
  rw [List.filter_congr (fun x hx => h x (by simpa using hx))]
theorem rowI_snoc (l : List Int) (x : Int) : rowI l ++ [[.int .i64 x]] = rowI (l ++ [x]) := by simp [rowI]
end Go.Tr
/- The reference's Find, Has, IsFamily, Target, Of. -/
namespace Go.Tr
open Go.Proofs
theorem cRHas (sig : List Dcl) (n : Int) : CallSt Tryz.prog 18 [.c (.sl 6 72 (dcs sig)), .c (.int .i64 (n))] [] (fun r H' => r = .c (.bool (decide (0 ≤ n) && decide (n < sig.length))) ∧ H' = []) := by
  rw [← len_dcs sig]
  refine call_pure (E := env 0) (fn := Tryz.f18) (c := bodyOf Tryz.f18) (env_ok 0) mixed (by kernel_rfl) (by kernel_rfl) (by kernel_rfl) (by kernel_rfl) (by kernel_rfl) (by kernel_rfl) rfl ?_
  conv => whnf
  repeat ((first | refine aI rfl ?_ | refine aI (by decide) ?_ | refine dI (by kernel_rfl) ?_ | refine aI ⟨by omega, by omega⟩ ?_ | refine aI (by omega) ?_ | refine aI (fun _ => ⟨by omega, by omega⟩) ?_ | refine aI (of_decide_eq_true rfl) ?_ | (refine yI ?_ ?_; focus (first | decide | (simp; done) | (simp [tcs]; done))) | (refine nI ?_ ?_; focus (first | decide | (simp; done) | (simp [tcs]; done))) | intro _); conv => whnf)
  all_goals (first | rfl | exact ⟨rfl, rfl⟩ | exact ⟨rfl, rfl, rfl⟩)
end Go.Tr
/- depend.needs. -/
namespace Go.Tr
open Go.Proofs
mutual
theorem fm_allT : ∀ (t : Term) (d i : Int), fmT t d = true → allT (fun t _ => decide (0 ≤ t.n)) t i = true
  | .mk k l n ts, d, i, h => by
    simp only [fmT, Bool.and_eq_true] at h
    rw [allT, Bool.and_eq_true]
    refine ⟨?_, fm_allL ts d k i 0 h.2⟩
    have h := h.1.2
    rw [decide_eq_true_eq]
    show 0 ≤ n
    unfold fmB at h
    split at h
    · simp at h; omega
    · split at h
      · simp at h; omega
      · split at h
        · simp at h; omega
        · split at h
          · simp at h; omega
          · cases h
theorem fm_allL : ∀ (ts : List Term) (d k i j : Int), fmL ts d = true → allL (fun t _ => decide (0 ≤ t.n)) k i j ts = true
  | [], _, _, _, _, _ => by rw [allL]
  | t :: r, d, k, i, j, h => by
    simp only [fmL, Bool.and_eq_true] at h
    rw [allL, Bool.and_eq_true]
    exact ⟨fm_allT t (d + 1) _ h.1, fm_allL r d k i (j + 1) h.2⟩
end
theorem con2_bd {t : Term} {n : Int} (hp : prop t = true) (hn : nodesT n t 0 = true) : ∀ x ∈ conF 2 t, 0 ≤ x ∧ x < n := by
  have h1 : ∀ x ∈ conF 2 t, x < n := by
    rw [← closed_law hp] at hn
    unfold closedF at hn
    simp only [Bool.and_eq_true] at hn
    exact (lastB_all (con_sorted 2 hp) n).1 hn.2
  have h2 : ∀ x ∈ conF 2 t, decide (0 ≤ x) = true := by
    rw [con_all 2 _ hp]
    have h3 := fm_allT t 1 0 (prop_fm1 hp)
    refine allT_imp (fun t i h => ?_) t 0 h3
    unfold hdOk
    cases decide (t.k = 4) && decide (t.l = 2) with
    | false => rfl
    | true => exact h
  exact fun x hx => ⟨of_decide_eq_true (h2 x hx), h1 x hx⟩
theorem check_con {sig : List Dcl} (h : checkB sig = true) {i : Nat} {d : Dcl} (hd : sig[i]? = some d) : ∀ x ∈ conF 2 d.c, 0 ≤ x ∧ x < i := by
  have hil := (List.getElem?_eq_some_iff.1 hd).1
  unfold checkB at h
  simp only [Bool.and_eq_true, List.all_eq_true] at h
  have hg := h.2 i (by simpa using hil)
  unfold goodD at hg
  rw [hd] at hg
  simp only [Bool.and_eq_true] at hg
  have hf := hg.2
  unfold formedF at hf
  simp only [Bool.and_eq_true] at hf
  have hp := hf.1.1.1.1
  have hn := hf.1.2.2
  have hl : ((sig.take i).length : Int) = i := by rw [List.length_take]; omega
  rw [hl] at hn
  exact con2_bd hp hn
def needF (sig : List Dcl) : Nat → Nat → Bool := fun a b => match sig[a]? with | some d => decide ((b : Int) ∈ conF 2 d.c) | none => false
def needP (sig : List Dcl) (j : Nat) : Nat → Nat → Bool := fun a b => decide (a < j) && needF sig a b
def needQ (sig : List Dcl) (j : Nat) (L : List Int) : Nat → Nat → Bool := fun a b => needP sig j a b || (decide (a = j) && decide ((b : Int) ∈ L))
theorem needQ_nil (sig : List Dcl) (j : Nat) : needQ sig j [] = needP sig j := by funext a b; simp [needQ]
theorem needQ_all {sig : List Dcl} {j : Nat} {d : Dcl} (h : sig[j]? = some d) : needQ sig j (conF 2 d.c) = needP sig (j + 1) := by
  funext a b
  unfold needQ needP
  by_cases ha : a = j
  · subst ha
    have e : needF sig a b = decide ((b : Int) ∈ conF 2 d.c) := by unfold needF; rw [h]
    rw [e, decide_eq_false (show ¬ a < a by omega), decide_eq_true rfl, decide_eq_true (show a < a + 1 by omega)]
    simp
  · rw [decide_eq_false ha]
    have : decide (a < j) = decide (a < j + 1) := decide_eq_decide.2 (by omega)
    rw [this]
    simp
theorem needQ_snoc (sig : List Dcl) (j : Nat) (L : List Int) (k : Nat) : needQ sig j (L ++ [(k : Int)]) = updM (needQ sig j L) j k true := by
  funext a b
  unfold updM needQ
  by_cases h : a = j ∧ b = k
  · rw [if_pos h, h.1, h.2]
    simp
  · rw [if_neg h]
    by_cases ha : a = j
    · subst ha
      have hb : ¬ b = k := fun e => h ⟨rfl, e⟩
      have : decide ((b : Int) ∈ L ++ [(k : Int)]) = decide ((b : Int) ∈ L) := decide_eq_decide.2 (by
        rw [List.mem_append, List.mem_singleton]
        constructor
        · rintro (h | h)
          · exact h
          · omega
        · exact .inl)
      rw [this]
    · rw [decide_eq_false ha]
      simp
theorem needP_all (sig : List Dcl) : needP sig sig.length = needF sig := by
  funext a b
  unfold needP needF
  by_cases h : a < sig.length
  · simp [h]
  · rw [List.getElem?_eq_none (by omega)]
    simp
def needM (sig : List Dcl) : Nat → Nat → Bool := closeF sig.length (needF sig)
theorem big0 : List.map ofConst (List.replicate 10000 (.bool false)) = (mrow (fun _ _ => false)).map AV.c := by
  rw [← mrow_zero, List.map_replicate, List.map_replicate]
  rfl
theorem cNeeds (sig : List Dcl) (h : checkB sig = true) : CallSt Tryz.prog 43 [.c (.sl 6 72 (dcs sig))] [] (fun r H' => r = .elt 0 10000 0 0 ∧ H' = [.row 106 10000 1 [mrow (needM sig)]]) := by
  have hsl := check_len h
  have hpr := check_prop h
  have hcon := fun i d (hd : sig[i]? = some d) => check_con h hd
  have hbl := len_dcs sig
  have hcl := cClose sig.length (needF sig) hsl
  rw [← needP_all] at hcl
  clear h
  refine call_wk (E := envM 0) (fn := Tryz.f43) (c := bodyOf Tryz.f43) (envM_ok 0) mixed (by kernel_rfl) (by kernel_rfl) (by kernel_rfl) (by kernel_rfl) (by kernel_rfl) (by kernel_rfl) rfl false ?_
  conv => whnf
  repeat ((first | refine aI rfl ?_ | refine aI (by decide) ?_ | refine dI (by kernel_rfl) ?_ | refine aI ⟨by omega, by omega⟩ ?_ | refine aI (by omega) ?_ | refine aI (fun _ => ⟨by omega, by omega⟩) ?_ | refine aI (of_decide_eq_true rfl) ?_ | (refine yI ?_ ?_; focus (first | decide | (simp; done) | (simp [tcs]; done))) | (refine nI ?_ ?_; focus (first | decide | (simp; done) | (simp [tcs]; done))) | intro _); conv => whnf)
  refine ⟨mrow (fun _ _ => false), big0, mrow_len _, ?_⟩
  conv => whnf
  repeat ((first | refine aI rfl ?_ | refine aI (by decide) ?_ | refine dI (by kernel_rfl) ?_ | refine aI ⟨by omega, by omega⟩ ?_ | refine aI (by omega) ?_ | refine aI (fun _ => ⟨by omega, by omega⟩) ?_ | refine aI (of_decide_eq_true rfl) ?_ | (refine yI ?_ ?_; focus (first | decide | (simp; done) | (simp [tcs]; done))) | (refine nI ?_ ?_; focus (first | decide | (simp; done) | (simp [tcs]; done))) | intro _); conv => whnf)
  refine loop_intro (fun m tm H => ∃ j : Nat, sig.length = m + j ∧ tm = [(14, .c (.int .i64 (j))), (13, .c (.int .i64 ((dcs sig).length))), (12, .c (.sl 6 72 (dcs sig))), (3, .elt 0 10000 0 0), (0, .c (.sl 6 72 (dcs sig)))] ∧ H = [.row 106 10000 1 [mrow (needP sig j)]])
    sig.length _ _ ⟨0, by omega, rfl, rfl⟩ ?_ ?_
  · refine Wk.sl [0] rfl ⟨eRowM ?_, trivial⟩ ⟨rfl, rfl, rfl, rfl, rfl, trivial⟩ rfl
    funext a b
    simp [needP]
  rintro m tm H ⟨j, hj, rfl, rfl⟩
  conv => whnf
  refine ⟨fun hc => ?_, fun hc => ?_⟩
  · replace hc : (j : Int) < (dcs sig).length := of_decide_eq_true hc
    obtain ⟨d, hd⟩ : ∃ d, sig[j]? = some d := ⟨sig[j]'(by omega), List.getElem?_eq_getElem (by omega)⟩
    have hdc := dcs_at hd
    have hcd := cConsP d.c
    rw [hpr d (List.mem_of_getElem? hd)] at hcd
    have hcb := hcon j d hd
    have hqa := needQ_all hd
    have hql := conF_len 2 d.c
    have hrl := len_rowI (conF 2 d.c)
    generalize conF 2 d.c = L at *
    obtain ⟨s', ⟨k', l', n', us'⟩, i'⟩ := d
    dsimp only at hcd
    rw [tv_mk] at hcd
    conv => whnf
    repeat ((first | refine aI rfl ?_ | refine aI (by decide) ?_ | refine dI (by kernel_rfl) ?_ | refine aI ⟨by omega, by omega⟩ ?_ | refine aI (by omega) ?_ | refine aI (fun _ => ⟨by omega, by omega⟩) ?_ | refine aI (of_decide_eq_true rfl) ?_ | (refine yI ?_ ?_; focus (first | decide | (simp; done) | (simp [tcs]; done))) | (refine nI ?_ ?_; focus (first | decide | (simp; done) | (simp [tcs]; done))) | intro _); conv => whnf)
    refine ⟨_, ⟨by omega, hdc⟩, ?_⟩
    conv => whnf
    refine ⟨show 6 ≤ 6 by decide, ?_⟩
    conv => whnf
    repeat ((first | refine aI rfl ?_ | refine aI (by decide) ?_ | refine dI (by kernel_rfl) ?_ | refine aI ⟨by omega, by omega⟩ ?_ | refine aI (by omega) ?_ | refine aI (fun _ => ⟨by omega, by omega⟩) ?_ | refine aI (of_decide_eq_true rfl) ?_ | (refine yI ?_ ?_; focus (first | decide | (simp; done) | (simp [tcs]; done))) | (refine nI ?_ ?_; focus (first | decide | (simp; done) | (simp [tcs]; done))) | intro _); conv => whnf)
    try (refine dI (by kernel_rfl) ?_; conv => whnf)
    first | refine CallSt.use hcd [] trivial (by decide) rfl ?_ | refine CallPt.useS hcd [] trivial (by decide) rfl ?_
    rintro _ _ ⟨rfl, rfl⟩ _
    conv => whnf
    repeat ((first | refine aI rfl ?_ | refine aI (by decide) ?_ | refine dI (by kernel_rfl) ?_ | refine aI ⟨by omega, by omega⟩ ?_ | refine aI (by omega) ?_ | refine aI (fun _ => ⟨by omega, by omega⟩) ?_ | refine aI (of_decide_eq_true rfl) ?_ | (refine yI ?_ ?_; focus (first | decide | (simp; done) | (simp [tcs]; done))) | (refine nI ?_ ?_; focus (first | decide | (simp; done) | (simp [tcs]; done))) | intro _); conv => whnf)
    refine loop_intro (fun m tm H => ∃ i : Nat, L.length = m + i ∧ tm = [(27, .c (.int .i64 (i))), (26, .c (.int .i64 ((rowI L).length))), (25, .c (.sl 1 8 (rowI L))), (4, .c (.int .i64 (j))), (14, .c (.int .i64 (j))), (13, .c (.int .i64 ((dcs sig).length))), (12, .c (.sl 6 72 (dcs sig))), (3, .elt 0 10000 0 0), (0, .c (.sl 6 72 (dcs sig)))] ∧
        H = [.row 106 10000 1 [mrow (needQ sig j (L.take i))]])
      L.length _ _ ⟨0, by omega, rfl, rfl⟩ ?_ ?_
    · refine Wk.sl [0] rfl ⟨eRowM ?_, trivial⟩ ⟨rfl, rfl, rfl, rfl, rfl, rfl, rfl, rfl, rfl, trivial⟩ rfl
      rw [List.take_zero, needQ_nil]
    rintro m2 tm H ⟨i, hi, rfl, rfl⟩
    conv => whnf
    refine ⟨fun hc2 => ?_, fun hc2 => ?_⟩
    · replace hc2 : (i : Int) < (rowI L).length := of_decide_eq_true hc2
      obtain ⟨x, hx⟩ : ∃ x, L[i]? = some x := ⟨L[i]'(by omega), List.getElem?_eq_getElem (by omega)⟩
      have hxb := hcb x (List.mem_of_getElem? hx)
      obtain ⟨k, rfl⟩ : ∃ k : Nat, x = k := ⟨x.toNat, by omega⟩
      have hxr := rowI_at hx
      have hst : needQ sig j (L.take (i + 1)) = updM (needQ sig j (L.take i)) j k true := by
        rw [← needQ_snoc, List.take_add_one, hx]
        rfl
      generalize hfq : needQ sig j (L.take i) = fq at *
      conv => whnf
      repeat ((first | refine aI rfl ?_ | refine aI (by decide) ?_ | refine dI (by kernel_rfl) ?_ | refine aI ⟨by omega, by omega⟩ ?_ | refine aI (by omega) ?_ | refine aI (fun _ => ⟨by omega, by omega⟩) ?_ | refine aI (of_decide_eq_true rfl) ?_ | (refine yI ?_ ?_; focus (first | decide | (simp; done) | (simp [tcs]; done))) | (refine nI ?_ ?_; focus (first | decide | (simp; done) | (simp [tcs]; done))) | intro _); conv => whnf)
      refine ⟨_, ⟨by omega, by simpa using hxr⟩, ?_⟩
      conv => whnf
      refine ⟨Nat.le_refl 1, ?_⟩
      conv => whnf
      repeat ((first | refine aI rfl ?_ | refine aI (by decide) ?_ | refine dI (by kernel_rfl) ?_ | refine aI ⟨by omega, by omega⟩ ?_ | refine aI (by omega) ?_ | refine aI (fun _ => ⟨by omega, by omega⟩) ?_ | refine aI (of_decide_eq_true rfl) ?_ | (refine yI ?_ ?_; focus (first | decide | (simp; done) | (simp [tcs]; done))) | (refine nI ?_ ?_; focus (first | decide | (simp; done) | (simp [tcs]; done))) | intro _); conv => whnf)
      refine ⟨_, _, rfl, mrow_set2 fq true (by omega) (by omega), ?_⟩
      conv => whnf
      repeat ((first | refine aI rfl ?_ | refine aI (by decide) ?_ | refine dI (by kernel_rfl) ?_ | refine aI ⟨by omega, by omega⟩ ?_ | refine aI (by omega) ?_ | refine aI (fun _ => ⟨by omega, by omega⟩) ?_ | refine aI (of_decide_eq_true rfl) ?_ | (refine yI ?_ ?_; focus (first | decide | (simp; done) | (simp [tcs]; done))) | (refine nI ?_ ?_; focus (first | decide | (simp; done) | (simp [tcs]; done))) | intro _); conv => whnf)
      exact ⟨m2 - 1, _, _, by omega, ⟨i + 1, by omega, rfl, rfl⟩, Wk.sl [0] rfl ⟨eRowM hst, trivial⟩ ⟨rfl, rfl, rfl, rfl, rfl, rfl, rfl, rfl, rfl, trivial⟩ rfl⟩
    · replace hc2 : ¬ (i : Int) < (rowI L).length := of_decide_eq_false hc2
      obtain rfl : i = L.length := by omega
      conv => whnf
      repeat ((first | refine aI rfl ?_ | refine aI (by decide) ?_ | refine dI (by kernel_rfl) ?_ | refine aI ⟨by omega, by omega⟩ ?_ | refine aI (by omega) ?_ | refine aI (fun _ => ⟨by omega, by omega⟩) ?_ | refine aI (of_decide_eq_true rfl) ?_ | (refine yI ?_ ?_; focus (first | decide | (simp; done) | (simp [tcs]; done))) | (refine nI ?_ ?_; focus (first | decide | (simp; done) | (simp [tcs]; done))) | intro _); conv => whnf)
      refine ⟨m - 1, _, _, by omega, ⟨j + 1, by omega, rfl, rfl⟩, Wk.sl [0] rfl ⟨eRowM ?_, trivial⟩ ⟨rfl, rfl, rfl, rfl, rfl, trivial⟩ rfl⟩
      rw [List.take_length, hqa]
  · replace hc : ¬ (j : Int) < (dcs sig).length := of_decide_eq_false hc
    obtain rfl : j = sig.length := by omega
    have e : closeF sig.length (needP sig sig.length) = needM sig := by rw [needP_all]; rfl
    rw [e] at hcl
    have hcl2 : CallSt Tryz.prog 71 [.elt 0 10000 0 0, .c (.int .i64 ((dcs sig).length))] [.row 106 10000 1 [mrow (needP sig sig.length)]] (fun r H' => r = .tup [] ∧ H' = [.row 106 10000 1 [mrow (needM sig)]]) := by rw [hbl]; exact hcl
    generalize needP sig sig.length = fp at *
    generalize needM sig = fm at *
    conv => whnf
    repeat ((first | refine aI rfl ?_ | refine aI (by decide) ?_ | refine dI (by kernel_rfl) ?_ | refine aI ⟨by omega, by omega⟩ ?_ | refine aI (by omega) ?_ | refine aI (fun _ => ⟨by omega, by omega⟩) ?_ | refine aI (of_decide_eq_true rfl) ?_ | (refine yI ?_ ?_; focus (first | decide | (simp; done) | (simp [tcs]; done))) | (refine nI ?_ ?_; focus (first | decide | (simp; done) | (simp [tcs]; done))) | intro _); conv => whnf)
    try (refine dI (by kernel_rfl) ?_; conv => whnf)
    first | refine CallSt.use hcl2 [0] ⟨rfl, trivial⟩ (by decide) rfl ?_ | refine CallPt.useS hcl2 [0] ⟨rfl, trivial⟩ (by decide) rfl ?_
    rintro _ _ ⟨rfl, rfl⟩ _
    conv => whnf
    repeat ((first | refine aI rfl ?_ | refine aI (by decide) ?_ | refine dI (by kernel_rfl) ?_ | refine aI ⟨by omega, by omega⟩ ?_ | refine aI (by omega) ?_ | refine aI (fun _ => ⟨by omega, by omega⟩) ?_ | refine aI (of_decide_eq_true rfl) ?_ | (refine yI ?_ ?_; focus (first | decide | (simp; done) | (simp [tcs]; done))) | (refine nI ?_ ?_; focus (first | decide | (simp; done) | (simp [tcs]; done))) | intro _); conv => whnf)
    refine ⟨[(2, .elt 0 10000 0 0)], [.row 106 10000 1 [mrow fm]], Wk.sl [0] rfl ⟨rfl, trivial⟩ ⟨rfl, trivial⟩ rfl, ?_⟩
    conv => whnf
    exact ⟨rfl, rfl⟩
end Go.Tr
/- depend: has, family, target. -/
namespace Go.Tr
open Go.Proofs
theorem cDHas (sig : List Dcl) (n : Int) : CallSt Tryz.prog 55 [.c (.sl 6 72 (dcs sig)), .c (.int .i64 (n))] [] (fun r H' => r = .c (.int .i64 (hasE sig n)) ∧ H' = []) := by
  have hck := cCheck sig
  have hbl := len_dcs sig
  rcases hasE_cases sig n with ⟨e, hc⟩ | ⟨e, hc, hn⟩ | ⟨e, hc, hn⟩
  · rw [e]
    rw [hc] at hck
    refine call_pure (E := env 0) (fn := Tryz.f55) (c := bodyOf Tryz.f55) (env_ok 0) mixed (by kernel_rfl) (by kernel_rfl) (by kernel_rfl) (by kernel_rfl) (by kernel_rfl) (by kernel_rfl) rfl ?_
    conv => whnf
    try (refine dI (by kernel_rfl) ?_; conv => whnf)
    first | refine CallSt.use hck [] trivial (by decide) rfl ?_ | refine CallPt.useS hck [] trivial (by decide) rfl ?_
    rintro _ _ ⟨rfl, rfl⟩ _
    conv => whnf
    repeat ((first | refine aI rfl ?_ | refine aI (by decide) ?_ | refine dI (by kernel_rfl) ?_ | refine aI ⟨by omega, by omega⟩ ?_ | refine aI (by omega) ?_ | refine aI (fun _ => ⟨by omega, by omega⟩) ?_ | refine aI (of_decide_eq_true rfl) ?_ | (refine yI ?_ ?_; focus (first | decide | (simp; done) | (simp [tcs]; done))) | (refine nI ?_ ?_; focus (first | decide | (simp; done) | (simp [tcs]; done))) | intro _); conv => whnf)
    all_goals (first | rfl | exact ⟨rfl, rfl⟩ | exact ⟨rfl, rfl, rfl⟩)
  · rw [e]
    rw [hc] at hck
    have eC : (decide (n < 0) || decide (((dcs sig).length : Int) ≤ n)) = true := by
      rw [Bool.or_eq_true, decide_eq_true_eq, decide_eq_true_eq]
      omega
    refine call_pure (E := env 0) (fn := Tryz.f55) (c := bodyOf Tryz.f55) (env_ok 0) mixed (by kernel_rfl) (by kernel_rfl) (by kernel_rfl) (by kernel_rfl) (by kernel_rfl) (by kernel_rfl) rfl ?_
    conv => whnf
    try (refine dI (by kernel_rfl) ?_; conv => whnf)
    first | refine CallSt.use hck [] trivial (by decide) rfl ?_ | refine CallPt.useS hck [] trivial (by decide) rfl ?_
    rintro _ _ ⟨rfl, rfl⟩ _
    conv => whnf
    repeat ((first | refine aI rfl ?_ | refine aI (by decide) ?_ | refine dI (by kernel_rfl) ?_ | refine aI ⟨by omega, by omega⟩ ?_ | refine aI (by omega) ?_ | refine aI (fun _ => ⟨by omega, by omega⟩) ?_ | refine aI (of_decide_eq_true rfl) ?_ | (refine yI ?_ ?_; focus (first | decide | (simp; done) | (simp [tcs]; done))) | (refine nI ?_ ?_; focus (first | decide | (simp; done) | (simp [tcs]; done))) | intro _); conv => whnf)
    rw [eC]
    (refine ⟨fun _ => ?_, fun h => absurd h ?_⟩; rotate_left; (focus (first | decide | (simp; done) | (simp [tcs]; done))); conv => whnf)
    repeat ((first | refine aI rfl ?_ | refine aI (by decide) ?_ | refine dI (by kernel_rfl) ?_ | refine aI ⟨by omega, by omega⟩ ?_ | refine aI (by omega) ?_ | refine aI (fun _ => ⟨by omega, by omega⟩) ?_ | refine aI (of_decide_eq_true rfl) ?_ | (refine yI ?_ ?_; focus (first | decide | (simp; done) | (simp [tcs]; done))) | (refine nI ?_ ?_; focus (first | decide | (simp; done) | (simp [tcs]; done))) | intro _); conv => whnf)
    all_goals (first | rfl | exact ⟨rfl, rfl⟩ | exact ⟨rfl, rfl, rfl⟩)
  · rw [e]
    rw [hc] at hck
    have eC : (decide (n < 0) || decide (((dcs sig).length : Int) ≤ n)) = false := by
      rw [decide_eq_false (by omega), decide_eq_false (by omega)]
      rfl
    refine call_pure (E := env 0) (fn := Tryz.f55) (c := bodyOf Tryz.f55) (env_ok 0) mixed (by kernel_rfl) (by kernel_rfl) (by kernel_rfl) (by kernel_rfl) (by kernel_rfl) (by kernel_rfl) rfl ?_
    conv => whnf
    try (refine dI (by kernel_rfl) ?_; conv => whnf)
    first | refine CallSt.use hck [] trivial (by decide) rfl ?_ | refine CallPt.useS hck [] trivial (by decide) rfl ?_
    rintro _ _ ⟨rfl, rfl⟩ _
    conv => whnf
    repeat ((first | refine aI rfl ?_ | refine aI (by decide) ?_ | refine dI (by kernel_rfl) ?_ | refine aI ⟨by omega, by omega⟩ ?_ | refine aI (by omega) ?_ | refine aI (fun _ => ⟨by omega, by omega⟩) ?_ | refine aI (of_decide_eq_true rfl) ?_ | (refine yI ?_ ?_; focus (first | decide | (simp; done) | (simp [tcs]; done))) | (refine nI ?_ ?_; focus (first | decide | (simp; done) | (simp [tcs]; done))) | intro _); conv => whnf)
    rw [eC]
    (refine ⟨fun h => absurd h ?_, fun _ => ?_⟩; (focus (first | decide | (simp; done) | (simp [tcs]; done))); conv => whnf)
    repeat ((first | refine aI rfl ?_ | refine aI (by decide) ?_ | refine dI (by kernel_rfl) ?_ | refine aI ⟨by omega, by omega⟩ ?_ | refine aI (by omega) ?_ | refine aI (fun _ => ⟨by omega, by omega⟩) ?_ | refine aI (of_decide_eq_true rfl) ?_ | (refine yI ?_ ?_; focus (first | decide | (simp; done) | (simp [tcs]; done))) | (refine nI ?_ ?_; focus (first | decide | (simp; done) | (simp [tcs]; done))) | intro _); conv => whnf)
    all_goals (first | rfl | exact ⟨rfl, rfl⟩ | exact ⟨rfl, rfl, rfl⟩)
def famE (sig : List Dcl) (n : Int) : Int := match decide (hasE sig n = 0) with | true => (match kindAt sig n with | true => 0 | false => 22) | false => hasE sig n
theorem famE_no {sig : List Dcl} {n : Int} (h : hasE sig n ≠ 0) : famE sig n = hasE sig n := by unfold famE; rw [decide_eq_false h]
theorem famE_yes {sig : List Dcl} {n : Int} (h : hasE sig n = 0) (hk : kindAt sig n = true) : famE sig n = 0 := by unfold famE; rw [decide_eq_true h, hk]
theorem famE_lev {sig : List Dcl} {n : Int} (h : hasE sig n = 0) (hk : kindAt sig n = false) : famE sig n = 22 := by unfold famE; rw [decide_eq_true h, hk]
theorem kindAt_of {sig : List Dcl} {n : Nat} {d : Dcl} (h : sig[n]? = some d) : kindAt sig (n : Int) = kindT d.c := by unfold kindAt; rw [Int.toNat_natCast, h]
theorem cFam2 {sig : List Dcl} (hp : ∀ e ∈ sig, prop e.c = true) {n : Int} (h0 : 0 ≤ n) (h1 : n < sig.length) : CallSt Tryz.prog 57 [.c (.sl 6 72 (dcs sig)), .c (.int .i64 (n))] [] (fun r H' => r = .c (.bool (kindAt sig n)) ∧ H' = []) := by
  obtain ⟨k, rfl⟩ : ∃ k : Nat, n = k := ⟨n.toNat, by omega⟩
  have hd : sig[k]? = some sig[k] := List.getElem?_eq_getElem (by omega)
  rw [kindAt_of hd]
  exact cFamily sig k _ hd (hp _ (List.mem_of_getElem? hd))
theorem cDFam (sig : List Dcl) (n : Int) : CallSt Tryz.prog 40 [.c (.sl 6 72 (dcs sig)), .c (.int .i64 (n))] [] (fun r H' => r = .c (.int .i64 (famE sig n)) ∧ H' = []) := by
  have hh := cDHas sig n
  by_cases h : hasE sig n = 0
  · obtain ⟨hc, h0, h1⟩ := hasE_ok h
    have hf := cFam2 (check_prop hc) h0 h1
    rw [h] at hh
    cases hk : kindAt sig n with
    | true =>
      rw [famE_yes h hk]
      rw [hk] at hf
      refine call_pure (E := env 0) (fn := Tryz.f40) (c := bodyOf Tryz.f40) (env_ok 0) mixed (by kernel_rfl) (by kernel_rfl) (by kernel_rfl) (by kernel_rfl) (by kernel_rfl) (by kernel_rfl) rfl ?_
      conv => whnf
      try (refine dI (by kernel_rfl) ?_; conv => whnf)
      first | refine CallSt.use hh [] trivial (by decide) rfl ?_ | refine CallPt.useS hh [] trivial (by decide) rfl ?_
      rintro _ _ ⟨rfl, rfl⟩ _
      conv => whnf
      repeat ((first | refine aI rfl ?_ | refine aI (by decide) ?_ | refine dI (by kernel_rfl) ?_ | refine aI ⟨by omega, by omega⟩ ?_ | refine aI (by omega) ?_ | refine aI (fun _ => ⟨by omega, by omega⟩) ?_ | refine aI (of_decide_eq_true rfl) ?_ | (refine yI ?_ ?_; focus (first | decide | (simp; done) | (simp [tcs]; done))) | (refine nI ?_ ?_; focus (first | decide | (simp; done) | (simp [tcs]; done))) | intro _); conv => whnf)
      try (refine dI (by kernel_rfl) ?_; conv => whnf)
      first | refine CallSt.use hf [] trivial (by decide) rfl ?_ | refine CallPt.useS hf [] trivial (by decide) rfl ?_
      rintro _ _ ⟨rfl, rfl⟩ _
      conv => whnf
      repeat ((first | refine aI rfl ?_ | refine aI (by decide) ?_ | refine dI (by kernel_rfl) ?_ | refine aI ⟨by omega, by omega⟩ ?_ | refine aI (by omega) ?_ | refine aI (fun _ => ⟨by omega, by omega⟩) ?_ | refine aI (of_decide_eq_true rfl) ?_ | (refine yI ?_ ?_; focus (first | decide | (simp; done) | (simp [tcs]; done))) | (refine nI ?_ ?_; focus (first | decide | (simp; done) | (simp [tcs]; done))) | intro _); conv => whnf)
      all_goals (first | rfl | exact ⟨rfl, rfl⟩ | exact ⟨rfl, rfl, rfl⟩)
    | false =>
      rw [famE_lev h hk]
      rw [hk] at hf
      refine call_pure (E := env 0) (fn := Tryz.f40) (c := bodyOf Tryz.f40) (env_ok 0) mixed (by kernel_rfl) (by kernel_rfl) (by kernel_rfl) (by kernel_rfl) (by kernel_rfl) (by kernel_rfl) rfl ?_
      conv => whnf
      try (refine dI (by kernel_rfl) ?_; conv => whnf)
      first | refine CallSt.use hh [] trivial (by decide) rfl ?_ | refine CallPt.useS hh [] trivial (by decide) rfl ?_
      rintro _ _ ⟨rfl, rfl⟩ _
      conv => whnf
      repeat ((first | refine aI rfl ?_ | refine aI (by decide) ?_ | refine dI (by kernel_rfl) ?_ | refine aI ⟨by omega, by omega⟩ ?_ | refine aI (by omega) ?_ | refine aI (fun _ => ⟨by omega, by omega⟩) ?_ | refine aI (of_decide_eq_true rfl) ?_ | (refine yI ?_ ?_; focus (first | decide | (simp; done) | (simp [tcs]; done))) | (refine nI ?_ ?_; focus (first | decide | (simp; done) | (simp [tcs]; done))) | intro _); conv => whnf)
      try (refine dI (by kernel_rfl) ?_; conv => whnf)
      first | refine CallSt.use hf [] trivial (by decide) rfl ?_ | refine CallPt.useS hf [] trivial (by decide) rfl ?_
      rintro _ _ ⟨rfl, rfl⟩ _
      conv => whnf
      repeat ((first | refine aI rfl ?_ | refine aI (by decide) ?_ | refine dI (by kernel_rfl) ?_ | refine aI ⟨by omega, by omega⟩ ?_ | refine aI (by omega) ?_ | refine aI (fun _ => ⟨by omega, by omega⟩) ?_ | refine aI (of_decide_eq_true rfl) ?_ | (refine yI ?_ ?_; focus (first | decide | (simp; done) | (simp [tcs]; done))) | (refine nI ?_ ?_; focus (first | decide | (simp; done) | (simp [tcs]; done))) | intro _); conv => whnf)
      all_goals (first | rfl | exact ⟨rfl, rfl⟩ | exact ⟨rfl, rfl, rfl⟩)
  · rw [famE_no h]
    have e : decide (hasE sig n = 0) = false := decide_eq_false h
    generalize hasE sig n = z at *
    refine call_pure (E := env 0) (fn := Tryz.f40) (c := bodyOf Tryz.f40) (env_ok 0) mixed (by kernel_rfl) (by kernel_rfl) (by kernel_rfl) (by kernel_rfl) (by kernel_rfl) (by kernel_rfl) rfl ?_
    conv => whnf
    try (refine dI (by kernel_rfl) ?_; conv => whnf)
    first | refine CallSt.use hh [] trivial (by decide) rfl ?_ | refine CallPt.useS hh [] trivial (by decide) rfl ?_
    rintro _ _ ⟨rfl, rfl⟩ _
    conv => whnf
    repeat ((first | refine aI rfl ?_ | refine aI (by decide) ?_ | refine dI (by kernel_rfl) ?_ | refine aI ⟨by omega, by omega⟩ ?_ | refine aI (by omega) ?_ | refine aI (fun _ => ⟨by omega, by omega⟩) ?_ | refine aI (of_decide_eq_true rfl) ?_ | (refine yI ?_ ?_; focus (first | decide | (simp; done) | (simp [tcs]; done))) | (refine nI ?_ ?_; focus (first | decide | (simp; done) | (simp [tcs]; done))) | intro _); conv => whnf)
    rw [e]
    repeat ((first | refine aI rfl ?_ | refine aI (by decide) ?_ | refine dI (by kernel_rfl) ?_ | refine aI ⟨by omega, by omega⟩ ?_ | refine aI (by omega) ?_ | refine aI (fun _ => ⟨by omega, by omega⟩) ?_ | refine aI (of_decide_eq_true rfl) ?_ | (refine yI ?_ ?_; focus (first | decide | (simp; done) | (simp [tcs]; done))) | (refine nI ?_ ?_; focus (first | decide | (simp; done) | (simp [tcs]; done))) | intro _); conv => whnf)
    all_goals (first | rfl | exact ⟨rfl, rfl⟩ | exact ⟨rfl, rfl, rfl⟩)
def tgB (sig : List Dcl) (a : Term) : Bool := targOk a && decide ((domT a).2.n < sig.length) && kindAt sig (domT a).2.n
theorem fm_n {t : Term} {d : Int} (h : fmT t d = true) : 0 ≤ t.n := by
  have := fm_allT t d 0 h
  obtain ⟨k, l, n, ts⟩ := t
  rw [allT, Bool.and_eq_true] at this
  exact of_decide_eq_true this.1
theorem cDTarget (sig : List Dcl) (hp : ∀ e ∈ sig, prop e.c = true) (a : Term) (d : Int) (h : fmT a d = true) (hd : 0 ≤ d) : CallSt Tryz.prog 39 [.c (.sl 6 72 (dcs sig)), tv a] [] (fun r H' => r = .tup [.c (.int .i64 ((domT a).2.n)), .c (.bool (tgB sig a))] ∧ H' = []) := by
  have hdm := c68 a d h hd
  obtain ⟨_, _, d', hd', _⟩ := dom_rest a d h
  have hn := fm_n hd'
  have hbl := len_dcs sig
  unfold tgB targOk
  have hfm : (domT a).2.n < sig.length → CallSt Tryz.prog 57 [.c (.sl 6 72 (dcs sig)), .c (.int .i64 ((domT a).2.n))] [] (fun r H' => r = .c (.bool (kindAt sig (domT a).2.n)) ∧ H' = []) := fun h1 => cFam2 hp hn h1
  rw [show (sig.length : Int) = ((dcs sig).length : Int) by rw [hbl]]
  generalize (domT a).1 = D at *
  generalize (domT a).2 = u at *
  rw [show tv u = .agg [.c (.int .i64 (u.k)), .c (.int .i64 (u.l)), .c (.int .i64 (u.n)), .c (.sl 4 48 (tcs u.ts))] from rfl] at hdm
  generalize kindAt sig u.n = kb at *
  generalize u.k = uk at *
  generalize u.l = ul at *
  generalize u.n = un at *
  generalize u.ts = uts at *
  obtain ⟨k, l, n, ts⟩ := a
  rw [tv_mk] at *
  cases hb3 : (decide (uk = 4) && decide (ul = 2) && decide (un < ((dcs sig).length : Int))) with
  | true =>
    have hlt : un < sig.length := by
      rw [Bool.and_eq_true] at hb3
      have := of_decide_eq_true hb3.2
      omega
    have hf := hfm hlt
    refine call_pure (E := env 0) (fn := Tryz.f39) (c := bodyOf Tryz.f39) (env_ok 0) mixed (by kernel_rfl) (by kernel_rfl) (by kernel_rfl) (by kernel_rfl) (by kernel_rfl) (by kernel_rfl) rfl ?_
    conv => whnf
    try (refine dI (by kernel_rfl) ?_; conv => whnf)
    first | refine CallSt.use hdm [] trivial (by decide) rfl ?_ | refine CallPt.useS hdm [] trivial (by decide) rfl ?_
    rintro _ _ ⟨rfl, rfl⟩ _
    conv => whnf
    repeat ((first | refine aI rfl ?_ | refine aI (by decide) ?_ | refine dI (by kernel_rfl) ?_ | refine aI ⟨by omega, by omega⟩ ?_ | refine aI (by omega) ?_ | refine aI (fun _ => ⟨by omega, by omega⟩) ?_ | refine aI (of_decide_eq_true rfl) ?_ | (refine yI ?_ ?_; focus (first | decide | (simp; done) | (simp [tcs]; done))) | (refine nI ?_ ?_; focus (first | decide | (simp; done) | (simp [tcs]; done))) | intro _); conv => whnf)
    rw [hb3]
    (refine ⟨fun _ => ?_, fun h => absurd h (by simp)⟩; conv => whnf)
    try (refine dI (by kernel_rfl) ?_; conv => whnf)
    first | refine CallSt.use hf [] trivial (by decide) rfl ?_ | refine CallPt.useS hf [] trivial (by decide) rfl ?_
    rintro _ _ ⟨rfl, rfl⟩ _
    conv => whnf
    repeat ((first | refine aI rfl ?_ | refine aI (by decide) ?_ | refine dI (by kernel_rfl) ?_ | refine aI ⟨by omega, by omega⟩ ?_ | refine aI (by omega) ?_ | refine aI (fun _ => ⟨by omega, by omega⟩) ?_ | refine aI (of_decide_eq_true rfl) ?_ | (refine yI ?_ ?_; focus (first | decide | (simp; done) | (simp [tcs]; done))) | (refine nI ?_ ?_; focus (first | decide | (simp; done) | (simp [tcs]; done))) | intro _); conv => whnf)
    rfl
  | false =>
    refine call_pure (E := env 0) (fn := Tryz.f39) (c := bodyOf Tryz.f39) (env_ok 0) mixed (by kernel_rfl) (by kernel_rfl) (by kernel_rfl) (by kernel_rfl) (by kernel_rfl) (by kernel_rfl) rfl ?_
    conv => whnf
    try (refine dI (by kernel_rfl) ?_; conv => whnf)
    first | refine CallSt.use hdm [] trivial (by decide) rfl ?_ | refine CallPt.useS hdm [] trivial (by decide) rfl ?_
    rintro _ _ ⟨rfl, rfl⟩ _
    conv => whnf
    repeat ((first | refine aI rfl ?_ | refine aI (by decide) ?_ | refine dI (by kernel_rfl) ?_ | refine aI ⟨by omega, by omega⟩ ?_ | refine aI (by omega) ?_ | refine aI (fun _ => ⟨by omega, by omega⟩) ?_ | refine aI (of_decide_eq_true rfl) ?_ | (refine yI ?_ ?_; focus (first | decide | (simp; done) | (simp [tcs]; done))) | (refine nI ?_ ?_; focus (first | decide | (simp; done) | (simp [tcs]; done))) | intro _); conv => whnf)
    rw [hb3]
    (refine ⟨fun h => absurd h (by simp), fun _ => ?_⟩; conv => whnf)
    repeat ((first | refine aI rfl ?_ | refine aI (by decide) ?_ | refine dI (by kernel_rfl) ?_ | refine aI ⟨by omega, by omega⟩ ?_ | refine aI (by omega) ?_ | refine aI (fun _ => ⟨by omega, by omega⟩) ?_ | refine aI (of_decide_eq_true rfl) ?_ | (refine yI ?_ ?_; focus (first | decide | (simp; done) | (simp [tcs]; done))) | (refine nI ?_ ?_; focus (first | decide | (simp; done) | (simp [tcs]; done))) | intro _); conv => whnf)
    rfl
end Go.Tr
/- depend.Higher. -/
namespace Go.Tr
open Go.Proofs
theorem cIdxT (f : FuncId) (g : Term → Bool) (l : List Term) (hl : l.length ≤ 100000) (hf : ∀ t ∈ l, CallSt Tryz.prog f [tv t] [] (fun r H' => r = .c (.bool (g t)) ∧ H' = [])) :
    CallSt Tryz.prog 84 [.c (.sl 4 48 (tcs l)), .fn f []] [] (fun r H' => ∃ v : Int, r = .c (.int .i64 (v)) ∧ H' = [] ∧ (l.any g = true → 0 ≤ v) ∧ (l.any g = false → v = -1)) := by
  have hll := len_tcs l
  refine call_pure (E := envK 0) (fn := Tryz.f84) (c := bodyOf Tryz.f84) (envK_ok 0) mixed (by kernel_rfl) (by kernel_rfl) (by kernel_rfl) (by kernel_rfl) (by kernel_rfl) (by kernel_rfl) rfl ?_
  conv => whnf
  repeat ((first | refine aI rfl ?_ | refine aI (by decide) ?_ | refine dI (by kernel_rfl) ?_ | refine aI ⟨by omega, by omega⟩ ?_ | refine aI (by omega) ?_ | refine aI (fun _ => ⟨by omega, by omega⟩) ?_ | refine aI (of_decide_eq_true rfl) ?_ | (refine yI ?_ ?_; focus (first | decide | (simp; done) | (simp [tcs]; done))) | (refine nI ?_ ?_; focus (first | decide | (simp; done) | (simp [tcs]; done))) | intro _); conv => whnf)
  refine loop_intro (fun m tm H => ∃ j : Nat, l.length = m + j ∧ (∀ (q : Nat) t, q < j → l[q]? = some t → g t = false) ∧ tm = [(8, .c (.int .i64 (j))), (7, .c (.int .i64 ((tcs l).length))), (0, .c (.sl 4 48 (tcs l))), (1, .fn f [])] ∧ H = [])
    l.length _ _ ⟨0, by omega, fun q t hq => absurd hq (by omega), rfl, rfl⟩ (Wk.sl [] rfl trivial ⟨rfl, rfl, rfl, rfl, trivial⟩ rfl) ?_
  rintro m tm H ⟨j, hj, hall, rfl, rfl⟩
  conv => whnf
  refine ⟨fun hc => ?_, fun hc => ?_⟩
  · replace hc : (j : Int) < (tcs l).length := of_decide_eq_true hc
    obtain ⟨u, hu⟩ : ∃ u, l[j]? = some u := ⟨l[j]'(by omega), List.getElem?_eq_getElem (by omega)⟩
    have huc := tcs_at l j u hu
    have hfu := hf u (List.mem_of_getElem? hu)
    cases hg : g u with
    | true =>
      have e : l.any g = true := List.any_eq_true.2 ⟨u, List.mem_of_getElem? hu, hg⟩
      rw [e]
      rw [hg] at hfu
      clear hg
      obtain ⟨k', l', n', us⟩ := u
      rw [tv_mk] at hfu
      conv => whnf
      repeat ((first | refine aI rfl ?_ | refine aI (by decide) ?_ | refine dI (by kernel_rfl) ?_ | refine aI ⟨by omega, by omega⟩ ?_ | refine aI (by omega) ?_ | refine aI (fun _ => ⟨by omega, by omega⟩) ?_ | refine aI (of_decide_eq_true rfl) ?_ | (refine yI ?_ ?_; focus (first | decide | (simp; done) | (simp [tcs]; done))) | (refine nI ?_ ?_; focus (first | decide | (simp; done) | (simp [tcs]; done))) | intro _); conv => whnf)
      refine ⟨_, ⟨by omega, by simpa using huc⟩, ?_⟩
      conv => whnf
      refine ⟨Nat.le_refl 4, ?_⟩
      conv => whnf
      repeat ((first | refine aI rfl ?_ | refine aI (by decide) ?_ | refine dI (by kernel_rfl) ?_ | refine aI ⟨by omega, by omega⟩ ?_ | refine aI (by omega) ?_ | refine aI (fun _ => ⟨by omega, by omega⟩) ?_ | refine aI (of_decide_eq_true rfl) ?_ | (refine yI ?_ ?_; focus (first | decide | (simp; done) | (simp [tcs]; done))) | (refine nI ?_ ?_; focus (first | decide | (simp; done) | (simp [tcs]; done))) | intro _); conv => whnf)
      try (refine dI (by kernel_rfl) ?_; conv => whnf)
      first | refine CallSt.use hfu [] trivial (by decide) rfl ?_ | refine CallPt.useS hfu [] trivial (by decide) rfl ?_
      rintro _ _ ⟨rfl, rfl⟩ _
      conv => whnf
      repeat ((first | refine aI rfl ?_ | refine aI (by decide) ?_ | refine dI (by kernel_rfl) ?_ | refine aI ⟨by omega, by omega⟩ ?_ | refine aI (by omega) ?_ | refine aI (fun _ => ⟨by omega, by omega⟩) ?_ | refine aI (of_decide_eq_true rfl) ?_ | (refine yI ?_ ?_; focus (first | decide | (simp; done) | (simp [tcs]; done))) | (refine nI ?_ ?_; focus (first | decide | (simp; done) | (simp [tcs]; done))) | intro _); conv => whnf)
      exact ⟨j, rfl, rfl, fun _ => by omega, fun h => by cases h⟩
    | false =>
      rw [hg] at hfu
      have hnx : ∀ (q : Nat) t, q < j + 1 → l[q]? = some t → g t = false := fun q t hq ht => by
        by_cases hqj : q < j
        · exact hall q t hqj ht
        · obtain rfl : q = j := by omega
          rw [hu] at ht
          injection ht with ht
          exact ht ▸ hg
      clear hg
      obtain ⟨k', l', n', us⟩ := u
      rw [tv_mk] at hfu
      conv => whnf
      repeat ((first | refine aI rfl ?_ | refine aI (by decide) ?_ | refine dI (by kernel_rfl) ?_ | refine aI ⟨by omega, by omega⟩ ?_ | refine aI (by omega) ?_ | refine aI (fun _ => ⟨by omega, by omega⟩) ?_ | refine aI (of_decide_eq_true rfl) ?_ | (refine yI ?_ ?_; focus (first | decide | (simp; done) | (simp [tcs]; done))) | (refine nI ?_ ?_; focus (first | decide | (simp; done) | (simp [tcs]; done))) | intro _); conv => whnf)
      refine ⟨_, ⟨by omega, by simpa using huc⟩, ?_⟩
      conv => whnf
      refine ⟨Nat.le_refl 4, ?_⟩
      conv => whnf
      repeat ((first | refine aI rfl ?_ | refine aI (by decide) ?_ | refine dI (by kernel_rfl) ?_ | refine aI ⟨by omega, by omega⟩ ?_ | refine aI (by omega) ?_ | refine aI (fun _ => ⟨by omega, by omega⟩) ?_ | refine aI (of_decide_eq_true rfl) ?_ | (refine yI ?_ ?_; focus (first | decide | (simp; done) | (simp [tcs]; done))) | (refine nI ?_ ?_; focus (first | decide | (simp; done) | (simp [tcs]; done))) | intro _); conv => whnf)
      try (refine dI (by kernel_rfl) ?_; conv => whnf)
      first | refine CallSt.use hfu [] trivial (by decide) rfl ?_ | refine CallPt.useS hfu [] trivial (by decide) rfl ?_
      rintro _ _ ⟨rfl, rfl⟩ _
      conv => whnf
      repeat ((first | refine aI rfl ?_ | refine aI (by decide) ?_ | refine dI (by kernel_rfl) ?_ | refine aI ⟨by omega, by omega⟩ ?_ | refine aI (by omega) ?_ | refine aI (fun _ => ⟨by omega, by omega⟩) ?_ | refine aI (of_decide_eq_true rfl) ?_ | (refine yI ?_ ?_; focus (first | decide | (simp; done) | (simp [tcs]; done))) | (refine nI ?_ ?_; focus (first | decide | (simp; done) | (simp [tcs]; done))) | intro _); conv => whnf)
      exact ⟨m - 1, _, _, by omega, ⟨j + 1, by omega, hnx, rfl, rfl⟩, Wk.sl [] rfl trivial ⟨rfl, rfl, rfl, rfl, trivial⟩ rfl⟩
  · replace hc : ¬ (j : Int) < (tcs l).length := of_decide_eq_false hc
    obtain rfl : j = l.length := by omega
    have e : l.any g = false := by
      rw [List.any_eq_false]
      intro t ht
      obtain ⟨i, hi⟩ := List.mem_iff_getElem?.1 ht
      rw [hall i t (List.getElem?_eq_some_iff.1 hi).1 hi]
      simp
    rw [e]
    conv => whnf
    repeat ((first | refine aI rfl ?_ | refine aI (by decide) ?_ | refine dI (by kernel_rfl) ?_ | refine aI ⟨by omega, by omega⟩ ?_ | refine aI (by omega) ?_ | refine aI (fun _ => ⟨by omega, by omega⟩) ?_ | refine aI (of_decide_eq_true rfl) ?_ | (refine yI ?_ ?_; focus (first | decide | (simp; done) | (simp [tcs]; done))) | (refine nI ?_ ?_; focus (first | decide | (simp; done) | (simp [tcs]; done))) | intro _); conv => whnf)
    exact ⟨-1, rfl, rfl, (by intro h; cases h), fun _ => rfl⟩
theorem cAnyT (f : FuncId) (g : Term → Bool) (l : List Term) (hl : l.length ≤ 100000) (hf : ∀ t ∈ l, CallSt Tryz.prog f [tv t] [] (fun r H' => r = .c (.bool (g t)) ∧ H' = [])) :
    CallSt Tryz.prog 53 [.c (.sl 4 48 (tcs l)), .fn f []] [] (fun r H' => r = .c (.bool (l.any g)) ∧ H' = []) := by
  have hi := cIdxT f g l hl hf
  cases h : l.any g with
  | true =>
    rw [h] at hi
    refine call_pure (E := envK 0) (fn := Tryz.f53) (c := bodyOf Tryz.f53) (envK_ok 0) mixed (by kernel_rfl) (by kernel_rfl) (by kernel_rfl) (by kernel_rfl) (by kernel_rfl) (by kernel_rfl) rfl ?_
    conv => whnf
    repeat ((first | refine aI rfl ?_ | refine aI (by decide) ?_ | refine dI (by kernel_rfl) ?_ | refine aI ⟨by omega, by omega⟩ ?_ | refine aI (by omega) ?_ | refine aI (fun _ => ⟨by omega, by omega⟩) ?_ | refine aI (of_decide_eq_true rfl) ?_ | (refine yI ?_ ?_; focus (first | decide | (simp; done) | (simp [tcs]; done))) | (refine nI ?_ ?_; focus (first | decide | (simp; done) | (simp [tcs]; done))) | intro _); conv => whnf)
    try (refine dI (by kernel_rfl) ?_; conv => whnf)
    first | refine CallSt.use hi [] trivial (by decide) rfl ?_ | refine CallPt.useS hi [] trivial (by decide) rfl ?_
    rintro _ _ ⟨v, rfl, rfl, h1, _⟩ _
    conv => whnf
    repeat ((first | refine aI rfl ?_ | refine aI (by decide) ?_ | refine dI (by kernel_rfl) ?_ | refine aI ⟨by omega, by omega⟩ ?_ | refine aI (by omega) ?_ | refine aI (fun _ => ⟨by omega, by omega⟩) ?_ | refine aI (of_decide_eq_true rfl) ?_ | (refine yI ?_ ?_; focus (first | decide | (simp; done) | (simp [tcs]; done))) | (refine nI ?_ ?_; focus (first | decide | (simp; done) | (simp [tcs]; done))) | intro _); conv => whnf)
    exact ⟨by rw [decide_eq_true (h1 rfl)], rfl⟩
  | false =>
    rw [h] at hi
    refine call_pure (E := envK 0) (fn := Tryz.f53) (c := bodyOf Tryz.f53) (envK_ok 0) mixed (by kernel_rfl) (by kernel_rfl) (by kernel_rfl) (by kernel_rfl) (by kernel_rfl) (by kernel_rfl) rfl ?_
    conv => whnf
    repeat ((first | refine aI rfl ?_ | refine aI (by decide) ?_ | refine dI (by kernel_rfl) ?_ | refine aI ⟨by omega, by omega⟩ ?_ | refine aI (by omega) ?_ | refine aI (fun _ => ⟨by omega, by omega⟩) ?_ | refine aI (of_decide_eq_true rfl) ?_ | (refine yI ?_ ?_; focus (first | decide | (simp; done) | (simp [tcs]; done))) | (refine nI ?_ ?_; focus (first | decide | (simp; done) | (simp [tcs]; done))) | intro _); conv => whnf)
    try (refine dI (by kernel_rfl) ?_; conv => whnf)
    first | refine CallSt.use hi [] trivial (by decide) rfl ?_ | refine CallPt.useS hi [] trivial (by decide) rfl ?_
    rintro _ _ ⟨v, rfl, rfl, _, h2⟩ _
    conv => whnf
    repeat ((first | refine aI rfl ?_ | refine aI (by decide) ?_ | refine dI (by kernel_rfl) ?_ | refine aI ⟨by omega, by omega⟩ ?_ | refine aI (by omega) ?_ | refine aI (fun _ => ⟨by omega, by omega⟩) ?_ | refine aI (of_decide_eq_true rfl) ?_ | (refine yI ?_ ?_; focus (first | decide | (simp; done) | (simp [tcs]; done))) | (refine nI ?_ ?_; focus (first | decide | (simp; done) | (simp [tcs]; done))) | intro _); conv => whnf)
    exact ⟨by rw [h2 rfl]; rfl, rfl⟩
abbrev hgH (sig : List Dcl) (n : Int) : HP := [.box [.c (.sl 6 72 (dcs sig))], .box [.c (.int .i64 (n))]]
theorem cIdxD (f : FuncId) (g : Dcl → Bool) (sig l : List Dcl) (n : Int) (hl : l.length ≤ 100000) (hf : ∀ d ∈ l, CallSt Tryz.prog f [dv d, .ptr 0 0, .ptr 1 0] (hgH sig n) (fun r H' => r = .c (.bool (g d)) ∧ H' = hgH sig n)) :
    CallSt Tryz.prog 83 [.c (.sl 6 72 (dcs l)), .fn f [.ptr 0 0, .ptr 1 0]] (hgH sig n) (fun r H' => ∃ v : Int, r = .c (.int .i64 (v)) ∧ H' = hgH sig n ∧ (l.any g = true → 0 ≤ v) ∧ (l.any g = false → v = -1)) := by
  have hll := len_dcs l
  refine call_trim (E := envK 2) (fn := Tryz.f83) (c := bodyOf Tryz.f83) (envK_ok 2) mixed (by kernel_rfl) (by kernel_rfl) (by kernel_rfl) (by kernel_rfl) (by kernel_rfl) (by kernel_rfl) rfl ?_
  conv => whnf
  repeat ((first | refine aI rfl ?_ | refine aI (by decide) ?_ | refine dI (by kernel_rfl) ?_ | refine aI ⟨by omega, by omega⟩ ?_ | refine aI (by omega) ?_ | refine aI (fun _ => ⟨by omega, by omega⟩) ?_ | refine aI (of_decide_eq_true rfl) ?_ | (refine yI ?_ ?_; focus (first | decide | (simp; done) | (simp [tcs]; done))) | (refine nI ?_ ?_; focus (first | decide | (simp; done) | (simp [tcs]; done))) | intro _); conv => whnf)
  refine loop_intro (fun m tm H => ∃ j : Nat, l.length = m + j ∧ (∀ (q : Nat) t, q < j → l[q]? = some t → g t = false) ∧ tm = [(8, .c (.int .i64 (j))), (7, .c (.int .i64 ((dcs l).length))), (0, .c (.sl 6 72 (dcs l))), (1, .fn f [.ptr 0 0, .ptr 1 0])] ∧ H = hgH sig n)
    l.length _ _ ⟨0, by omega, fun q t hq => absurd hq (by omega), rfl, rfl⟩ (Wk.sl [0, 1] rfl ⟨rfl, rfl, trivial⟩ ⟨rfl, rfl, rfl, rfl, trivial⟩ rfl) ?_
  rintro m tm H ⟨j, hj, hall, rfl, rfl⟩
  conv => whnf
  refine ⟨fun hc => ?_, fun hc => ?_⟩
  · replace hc : (j : Int) < (dcs l).length := of_decide_eq_true hc
    obtain ⟨u, hu⟩ : ∃ u, l[j]? = some u := ⟨l[j]'(by omega), List.getElem?_eq_getElem (by omega)⟩
    have huc := dcs_at hu
    have hfu := hf u (List.mem_of_getElem? hu)
    cases hg : g u with
    | true =>
      have e : l.any g = true := List.any_eq_true.2 ⟨u, List.mem_of_getElem? hu, hg⟩
      rw [e]
      rw [hg] at hfu
      clear hg
      obtain ⟨s', ⟨k', l', n', us⟩, i'⟩ := u
      conv => whnf
      repeat ((first | refine aI rfl ?_ | refine aI (by decide) ?_ | refine dI (by kernel_rfl) ?_ | refine aI ⟨by omega, by omega⟩ ?_ | refine aI (by omega) ?_ | refine aI (fun _ => ⟨by omega, by omega⟩) ?_ | refine aI (of_decide_eq_true rfl) ?_ | (refine yI ?_ ?_; focus (first | decide | (simp; done) | (simp [tcs]; done))) | (refine nI ?_ ?_; focus (first | decide | (simp; done) | (simp [tcs]; done))) | intro _); conv => whnf)
      refine ⟨_, ⟨by omega, huc⟩, ?_⟩
      conv => whnf
      refine ⟨show 6 ≤ 6 by decide, ?_⟩
      conv => whnf
      repeat ((first | refine aI rfl ?_ | refine aI (by decide) ?_ | refine dI (by kernel_rfl) ?_ | refine aI ⟨by omega, by omega⟩ ?_ | refine aI (by omega) ?_ | refine aI (fun _ => ⟨by omega, by omega⟩) ?_ | refine aI (of_decide_eq_true rfl) ?_ | (refine yI ?_ ?_; focus (first | decide | (simp; done) | (simp [tcs]; done))) | (refine nI ?_ ?_; focus (first | decide | (simp; done) | (simp [tcs]; done))) | intro _); conv => whnf)
      try (refine dI (by kernel_rfl) ?_; conv => whnf)
      first | refine CallSt.use hfu [0, 1] ⟨rfl, rfl, trivial⟩ (by decide) rfl ?_ | refine CallPt.useS hfu [0, 1] ⟨rfl, rfl, trivial⟩ (by decide) rfl ?_
      rintro _ _ ⟨rfl, rfl⟩ _
      conv => whnf
      repeat ((first | refine aI rfl ?_ | refine aI (by decide) ?_ | refine dI (by kernel_rfl) ?_ | refine aI ⟨by omega, by omega⟩ ?_ | refine aI (by omega) ?_ | refine aI (fun _ => ⟨by omega, by omega⟩) ?_ | refine aI (of_decide_eq_true rfl) ?_ | (refine yI ?_ ?_; focus (first | decide | (simp; done) | (simp [tcs]; done))) | (refine nI ?_ ?_; focus (first | decide | (simp; done) | (simp [tcs]; done))) | intro _); conv => whnf)
      exact ⟨j, rfl, rfl, fun _ => by omega, fun h => by cases h⟩
    | false =>
      rw [hg] at hfu
      have hnx : ∀ (q : Nat) t, q < j + 1 → l[q]? = some t → g t = false := fun q t hq ht => by
        by_cases hqj : q < j
        · exact hall q t hqj ht
        · obtain rfl : q = j := by omega
          rw [hu] at ht
          injection ht with ht
          exact ht ▸ hg
      clear hg
      obtain ⟨s', ⟨k', l', n', us⟩, i'⟩ := u
      conv => whnf
      repeat ((first | refine aI rfl ?_ | refine aI (by decide) ?_ | refine dI (by kernel_rfl) ?_ | refine aI ⟨by omega, by omega⟩ ?_ | refine aI (by omega) ?_ | refine aI (fun _ => ⟨by omega, by omega⟩) ?_ | refine aI (of_decide_eq_true rfl) ?_ | (refine yI ?_ ?_; focus (first | decide | (simp; done) | (simp [tcs]; done))) | (refine nI ?_ ?_; focus (first | decide | (simp; done) | (simp [tcs]; done))) | intro _); conv => whnf)
      refine ⟨_, ⟨by omega, huc⟩, ?_⟩
      conv => whnf
      refine ⟨show 6 ≤ 6 by decide, ?_⟩
      conv => whnf
      repeat ((first | refine aI rfl ?_ | refine aI (by decide) ?_ | refine dI (by kernel_rfl) ?_ | refine aI ⟨by omega, by omega⟩ ?_ | refine aI (by omega) ?_ | refine aI (fun _ => ⟨by omega, by omega⟩) ?_ | refine aI (of_decide_eq_true rfl) ?_ | (refine yI ?_ ?_; focus (first | decide | (simp; done) | (simp [tcs]; done))) | (refine nI ?_ ?_; focus (first | decide | (simp; done) | (simp [tcs]; done))) | intro _); conv => whnf)
      try (refine dI (by kernel_rfl) ?_; conv => whnf)
      first | refine CallSt.use hfu [0, 1] ⟨rfl, rfl, trivial⟩ (by decide) rfl ?_ | refine CallPt.useS hfu [0, 1] ⟨rfl, rfl, trivial⟩ (by decide) rfl ?_
      rintro _ _ ⟨rfl, rfl⟩ _
      conv => whnf
      repeat ((first | refine aI rfl ?_ | refine aI (by decide) ?_ | refine dI (by kernel_rfl) ?_ | refine aI ⟨by omega, by omega⟩ ?_ | refine aI (by omega) ?_ | refine aI (fun _ => ⟨by omega, by omega⟩) ?_ | refine aI (of_decide_eq_true rfl) ?_ | (refine yI ?_ ?_; focus (first | decide | (simp; done) | (simp [tcs]; done))) | (refine nI ?_ ?_; focus (first | decide | (simp; done) | (simp [tcs]; done))) | intro _); conv => whnf)
      exact ⟨m - 1, _, _, by omega, ⟨j + 1, by omega, hnx, rfl, rfl⟩, Wk.sl [0, 1] rfl ⟨rfl, rfl, trivial⟩ ⟨rfl, rfl, rfl, rfl, trivial⟩ rfl⟩
  · replace hc : ¬ (j : Int) < (dcs l).length := of_decide_eq_false hc
    obtain rfl : j = l.length := by omega
    have e : l.any g = false := by
      rw [List.any_eq_false]
      intro t ht
      obtain ⟨i, hi⟩ := List.mem_iff_getElem?.1 ht
      rw [hall i t (List.getElem?_eq_some_iff.1 hi).1 hi]
      simp
    rw [e]
    conv => whnf
    repeat ((first | refine aI rfl ?_ | refine aI (by decide) ?_ | refine dI (by kernel_rfl) ?_ | refine aI ⟨by omega, by omega⟩ ?_ | refine aI (by omega) ?_ | refine aI (fun _ => ⟨by omega, by omega⟩) ?_ | refine aI (of_decide_eq_true rfl) ?_ | (refine yI ?_ ?_; focus (first | decide | (simp; done) | (simp [tcs]; done))) | (refine nI ?_ ?_; focus (first | decide | (simp; done) | (simp [tcs]; done))) | intro _); conv => whnf)
    exact ⟨-1, rfl, rfl, (by intro h; cases h), fun _ => rfl⟩
theorem cAnyD (f : FuncId) (g : Dcl → Bool) (sig l : List Dcl) (n : Int) (hl : l.length ≤ 100000) (hf : ∀ d ∈ l, CallSt Tryz.prog f [dv d, .ptr 0 0, .ptr 1 0] (hgH sig n) (fun r H' => r = .c (.bool (g d)) ∧ H' = hgH sig n)) :
    CallSt Tryz.prog 50 [.c (.sl 6 72 (dcs l)), .fn f [.ptr 0 0, .ptr 1 0]] (hgH sig n) (fun r H' => r = .c (.bool (l.any g)) ∧ H' = hgH sig n) := by
  have hi := cIdxD f g sig l n hl hf
  cases h : l.any g with
  | true =>
    rw [h] at hi
    refine call_trim (E := envK 2) (fn := Tryz.f50) (c := bodyOf Tryz.f50) (envK_ok 2) mixed (by kernel_rfl) (by kernel_rfl) (by kernel_rfl) (by kernel_rfl) (by kernel_rfl) (by kernel_rfl) rfl ?_
    conv => whnf
    repeat ((first | refine aI rfl ?_ | refine aI (by decide) ?_ | refine dI (by kernel_rfl) ?_ | refine aI ⟨by omega, by omega⟩ ?_ | refine aI (by omega) ?_ | refine aI (fun _ => ⟨by omega, by omega⟩) ?_ | refine aI (of_decide_eq_true rfl) ?_ | (refine yI ?_ ?_; focus (first | decide | (simp; done) | (simp [tcs]; done))) | (refine nI ?_ ?_; focus (first | decide | (simp; done) | (simp [tcs]; done))) | intro _); conv => whnf)
    try (refine dI (by kernel_rfl) ?_; conv => whnf)
    first | refine CallSt.use hi [0, 1] ⟨rfl, rfl, trivial⟩ (by decide) rfl ?_ | refine CallPt.useS hi [0, 1] ⟨rfl, rfl, trivial⟩ (by decide) rfl ?_
    rintro _ _ ⟨v, rfl, rfl, h1, _⟩ _
    conv => whnf
    repeat ((first | refine aI rfl ?_ | refine aI (by decide) ?_ | refine dI (by kernel_rfl) ?_ | refine aI ⟨by omega, by omega⟩ ?_ | refine aI (by omega) ?_ | refine aI (fun _ => ⟨by omega, by omega⟩) ?_ | refine aI (of_decide_eq_true rfl) ?_ | (refine yI ?_ ?_; focus (first | decide | (simp; done) | (simp [tcs]; done))) | (refine nI ?_ ?_; focus (first | decide | (simp; done) | (simp [tcs]; done))) | intro _); conv => whnf)
    exact ⟨by rw [decide_eq_true (h1 rfl)], rfl⟩
  | false =>
    rw [h] at hi
    refine call_trim (E := envK 2) (fn := Tryz.f50) (c := bodyOf Tryz.f50) (envK_ok 2) mixed (by kernel_rfl) (by kernel_rfl) (by kernel_rfl) (by kernel_rfl) (by kernel_rfl) (by kernel_rfl) rfl ?_
    conv => whnf
    repeat ((first | refine aI rfl ?_ | refine aI (by decide) ?_ | refine dI (by kernel_rfl) ?_ | refine aI ⟨by omega, by omega⟩ ?_ | refine aI (by omega) ?_ | refine aI (fun _ => ⟨by omega, by omega⟩) ?_ | refine aI (of_decide_eq_true rfl) ?_ | (refine yI ?_ ?_; focus (first | decide | (simp; done) | (simp [tcs]; done))) | (refine nI ?_ ?_; focus (first | decide | (simp; done) | (simp [tcs]; done))) | intro _); conv => whnf)
    try (refine dI (by kernel_rfl) ?_; conv => whnf)
    first | refine CallSt.use hi [0, 1] ⟨rfl, rfl, trivial⟩ (by decide) rfl ?_ | refine CallPt.useS hi [0, 1] ⟨rfl, rfl, trivial⟩ (by decide) rfl ?_
    rintro _ _ ⟨v, rfl, rfl, _, h2⟩ _
    conv => whnf
    repeat ((first | refine aI rfl ?_ | refine aI (by decide) ?_ | refine dI (by kernel_rfl) ?_ | refine aI ⟨by omega, by omega⟩ ?_ | refine aI (by omega) ?_ | refine aI (fun _ => ⟨by omega, by omega⟩) ?_ | refine aI (of_decide_eq_true rfl) ?_ | (refine yI ?_ ?_; focus (first | decide | (simp; done) | (simp [tcs]; done))) | (refine nI ?_ ?_; focus (first | decide | (simp; done) | (simp [tcs]; done))) | intro _); conv => whnf)
    exact ⟨by rw [h2 rfl]; rfl, rfl⟩
theorem cHig2 (t : Term) : CallSt Tryz.prog 54 [tv t] [] (fun r H' => r = .c (.bool (decide (t.k = 2))) ∧ H' = []) := by
  obtain ⟨k, l, n, ts⟩ := t
  rw [tv_mk]
  refine call_pure (E := env 0) (fn := Tryz.f54) (c := bodyOf Tryz.f54) (env_ok 0) mixed (by kernel_rfl) (by kernel_rfl) (by kernel_rfl) (by kernel_rfl) (by kernel_rfl) (by kernel_rfl) rfl ?_
  conv => whnf
  repeat ((first | refine aI rfl ?_ | refine aI (by decide) ?_ | refine dI (by kernel_rfl) ?_ | refine aI ⟨by omega, by omega⟩ ?_ | refine aI (by omega) ?_ | refine aI (fun _ => ⟨by omega, by omega⟩) ?_ | refine aI (of_decide_eq_true rfl) ?_ | (refine yI ?_ ?_; focus (first | decide | (simp; done) | (simp [tcs]; done))) | (refine nI ?_ ?_; focus (first | decide | (simp; done) | (simp [tcs]; done))) | intro _); conv => whnf)
  all_goals (first | rfl | exact ⟨rfl, rfl⟩ | exact ⟨rfl, rfl, rfl⟩)
def higD (sig : List Dcl) (n : Int) (d : Dcl) : Bool := (tgB sig d.c && decide ((domT d.c).2.n = n)) && (domT d.c).1.any fun a => decide (a.k = 2)
theorem cHig1 (sig : List Dcl) (hp : ∀ e ∈ sig, prop e.c = true) (n : Int) (d : Dcl) (hd : prop d.c = true) : CallSt Tryz.prog 51 [dv d, .ptr 0 0, .ptr 1 0] (hgH sig n) (fun r H' => r = .c (.bool (higD sig n d)) ∧ H' = hgH sig n) := by
  have htg := cDTarget sig hp d.c 1 (prop_fm1 hd) (by omega)
  have hdm := c68 d.c 1 (prop_fm1 hd) (by omega)
  have hdl := dom_len d.c 1 (prop_fm1 hd)
  have han := cAnyT 54 (fun a => decide (a.k = 2)) (domT d.c).1 (by omega) fun t _ => cHig2 t
  unfold higD
  generalize tgB sig d.c = b1 at *
  generalize ((domT d.c).1.any fun a => decide (a.k = 2)) = b3 at *
  generalize (domT d.c).1 = D at *
  generalize (domT d.c).2 = u at *
  rw [show tv u = .agg [.c (.int .i64 (u.k)), .c (.int .i64 (u.l)), .c (.int .i64 (u.n)), .c (.sl 4 48 (tcs u.ts))] from rfl] at hdm
  generalize u.k = uk at *
  generalize u.l = ul at *
  generalize u.n = un at *
  generalize u.ts = uts at *
  obtain ⟨s, ⟨k, l, m, ts⟩, i⟩ := d
  dsimp only at htg hdm
  rw [tv_mk] at htg hdm
  cases b1 with
  | false =>
    refine call_trim (E := envK 2) (fn := Tryz.f51) (c := bodyOf Tryz.f51) (envK_ok 2) mixed (by kernel_rfl) (by kernel_rfl) (by kernel_rfl) (by kernel_rfl) (by kernel_rfl) (by kernel_rfl) rfl ?_
    conv => whnf
    repeat ((first | refine aI rfl ?_ | refine aI (by decide) ?_ | refine dI (by kernel_rfl) ?_ | refine aI ⟨by omega, by omega⟩ ?_ | refine aI (by omega) ?_ | refine aI (fun _ => ⟨by omega, by omega⟩) ?_ | refine aI (of_decide_eq_true rfl) ?_ | (refine yI ?_ ?_; focus (first | decide | (simp; done) | (simp [tcs]; done))) | (refine nI ?_ ?_; focus (first | decide | (simp; done) | (simp [tcs]; done))) | intro _); conv => whnf)
    try (refine dI (by kernel_rfl) ?_; conv => whnf)
    first | refine CallSt.use htg [] trivial (by decide) rfl ?_ | refine CallPt.useS htg [] trivial (by decide) rfl ?_
    rintro _ _ ⟨rfl, rfl⟩ _
    conv => whnf
    repeat ((first | refine aI rfl ?_ | refine aI (by decide) ?_ | refine dI (by kernel_rfl) ?_ | refine aI ⟨by omega, by omega⟩ ?_ | refine aI (by omega) ?_ | refine aI (fun _ => ⟨by omega, by omega⟩) ?_ | refine aI (of_decide_eq_true rfl) ?_ | (refine yI ?_ ?_; focus (first | decide | (simp; done) | (simp [tcs]; done))) | (refine nI ?_ ?_; focus (first | decide | (simp; done) | (simp [tcs]; done))) | intro _); conv => whnf)
    all_goals (first | rfl | exact ⟨rfl, rfl⟩ | exact ⟨rfl, rfl, rfl⟩)
  | true =>
    cases hun : decide (un = n) with
    | false =>
      refine call_trim (E := envK 2) (fn := Tryz.f51) (c := bodyOf Tryz.f51) (envK_ok 2) mixed (by kernel_rfl) (by kernel_rfl) (by kernel_rfl) (by kernel_rfl) (by kernel_rfl) (by kernel_rfl) rfl ?_
      conv => whnf
      repeat ((first | refine aI rfl ?_ | refine aI (by decide) ?_ | refine dI (by kernel_rfl) ?_ | refine aI ⟨by omega, by omega⟩ ?_ | refine aI (by omega) ?_ | refine aI (fun _ => ⟨by omega, by omega⟩) ?_ | refine aI (of_decide_eq_true rfl) ?_ | (refine yI ?_ ?_; focus (first | decide | (simp; done) | (simp [tcs]; done))) | (refine nI ?_ ?_; focus (first | decide | (simp; done) | (simp [tcs]; done))) | intro _); conv => whnf)
      try (refine dI (by kernel_rfl) ?_; conv => whnf)
      first | refine CallSt.use htg [] trivial (by decide) rfl ?_ | refine CallPt.useS htg [] trivial (by decide) rfl ?_
      rintro _ _ ⟨rfl, rfl⟩ _
      conv => whnf
      repeat ((first | refine aI rfl ?_ | refine aI (by decide) ?_ | refine dI (by kernel_rfl) ?_ | refine aI ⟨by omega, by omega⟩ ?_ | refine aI (by omega) ?_ | refine aI (fun _ => ⟨by omega, by omega⟩) ?_ | refine aI (of_decide_eq_true rfl) ?_ | (refine yI ?_ ?_; focus (first | decide | (simp; done) | (simp [tcs]; done))) | (refine nI ?_ ?_; focus (first | decide | (simp; done) | (simp [tcs]; done))) | intro _); conv => whnf)
      rw [hun]
      repeat ((first | refine aI rfl ?_ | refine aI (by decide) ?_ | refine dI (by kernel_rfl) ?_ | refine aI ⟨by omega, by omega⟩ ?_ | refine aI (by omega) ?_ | refine aI (fun _ => ⟨by omega, by omega⟩) ?_ | refine aI (of_decide_eq_true rfl) ?_ | (refine yI ?_ ?_; focus (first | decide | (simp; done) | (simp [tcs]; done))) | (refine nI ?_ ?_; focus (first | decide | (simp; done) | (simp [tcs]; done))) | intro _); conv => whnf)
      all_goals (first | rfl | exact ⟨rfl, rfl⟩ | exact ⟨rfl, rfl, rfl⟩)
    | true =>
      refine call_trim (E := envK 2) (fn := Tryz.f51) (c := bodyOf Tryz.f51) (envK_ok 2) mixed (by kernel_rfl) (by kernel_rfl) (by kernel_rfl) (by kernel_rfl) (by kernel_rfl) (by kernel_rfl) rfl ?_
      conv => whnf
      repeat ((first | refine aI rfl ?_ | refine aI (by decide) ?_ | refine dI (by kernel_rfl) ?_ | refine aI ⟨by omega, by omega⟩ ?_ | refine aI (by omega) ?_ | refine aI (fun _ => ⟨by omega, by omega⟩) ?_ | refine aI (of_decide_eq_true rfl) ?_ | (refine yI ?_ ?_; focus (first | decide | (simp; done) | (simp [tcs]; done))) | (refine nI ?_ ?_; focus (first | decide | (simp; done) | (simp [tcs]; done))) | intro _); conv => whnf)
      try (refine dI (by kernel_rfl) ?_; conv => whnf)
      first | refine CallSt.use htg [] trivial (by decide) rfl ?_ | refine CallPt.useS htg [] trivial (by decide) rfl ?_
      rintro _ _ ⟨rfl, rfl⟩ _
      conv => whnf
      repeat ((first | refine aI rfl ?_ | refine aI (by decide) ?_ | refine dI (by kernel_rfl) ?_ | refine aI ⟨by omega, by omega⟩ ?_ | refine aI (by omega) ?_ | refine aI (fun _ => ⟨by omega, by omega⟩) ?_ | refine aI (of_decide_eq_true rfl) ?_ | (refine yI ?_ ?_; focus (first | decide | (simp; done) | (simp [tcs]; done))) | (refine nI ?_ ?_; focus (first | decide | (simp; done) | (simp [tcs]; done))) | intro _); conv => whnf)
      rw [hun]
      repeat ((first | refine aI rfl ?_ | refine aI (by decide) ?_ | refine dI (by kernel_rfl) ?_ | refine aI ⟨by omega, by omega⟩ ?_ | refine aI (by omega) ?_ | refine aI (fun _ => ⟨by omega, by omega⟩) ?_ | refine aI (of_decide_eq_true rfl) ?_ | (refine yI ?_ ?_; focus (first | decide | (simp; done) | (simp [tcs]; done))) | (refine nI ?_ ?_; focus (first | decide | (simp; done) | (simp [tcs]; done))) | intro _); conv => whnf)
      try (refine dI (by kernel_rfl) ?_; conv => whnf)
      first | refine CallSt.use hdm [] trivial (by decide) rfl ?_ | refine CallPt.useS hdm [] trivial (by decide) rfl ?_
      rintro _ _ ⟨rfl, rfl⟩ _
      conv => whnf
      repeat ((first | refine aI rfl ?_ | refine aI (by decide) ?_ | refine dI (by kernel_rfl) ?_ | refine aI ⟨by omega, by omega⟩ ?_ | refine aI (by omega) ?_ | refine aI (fun _ => ⟨by omega, by omega⟩) ?_ | refine aI (of_decide_eq_true rfl) ?_ | (refine yI ?_ ?_; focus (first | decide | (simp; done) | (simp [tcs]; done))) | (refine nI ?_ ?_; focus (first | decide | (simp; done) | (simp [tcs]; done))) | intro _); conv => whnf)
      try (refine dI (by kernel_rfl) ?_; conv => whnf)
      first | refine CallSt.use han [] trivial (by decide) rfl ?_ | refine CallPt.useS han [] trivial (by decide) rfl ?_
      rintro _ _ ⟨rfl, rfl⟩ _
      conv => whnf
      repeat ((first | refine aI rfl ?_ | refine aI (by decide) ?_ | refine dI (by kernel_rfl) ?_ | refine aI ⟨by omega, by omega⟩ ?_ | refine aI (by omega) ?_ | refine aI (fun _ => ⟨by omega, by omega⟩) ?_ | refine aI (of_decide_eq_true rfl) ?_ | (refine yI ?_ ?_; focus (first | decide | (simp; done) | (simp [tcs]; done))) | (refine nI ?_ ?_; focus (first | decide | (simp; done) | (simp [tcs]; done))) | intro _); conv => whnf)
      all_goals (first | rfl | exact ⟨rfl, rfl⟩ | exact ⟨rfl, rfl, rfl⟩)
def higB (sig : List Dcl) (n : Int) : Bool := sig.any (higD sig n)
theorem cHigher (sig : List Dcl) (n : Int) : CallSt Tryz.prog 26 [.c (.sl 6 72 (dcs sig)), .c (.int .i64 (n))] [] (fun r H' => r = .tup [.c (.bool (decide (famE sig n = 0) && higB sig n)), .c (.int .i64 (famE sig n))] ∧ H' = []) := by
  have hfm := cDFam sig n
  cases hz : decide (famE sig n = 0) with
  | false =>
    generalize famE sig n = z at *
    refine call_pure (E := env 0) (fn := Tryz.f26) (c := bodyOf Tryz.f26) (env_ok 0) mixed (by kernel_rfl) (by kernel_rfl) (by kernel_rfl) (by kernel_rfl) (by kernel_rfl) (by kernel_rfl) rfl ?_
    conv => whnf
    repeat ((first | refine aI rfl ?_ | refine aI (by decide) ?_ | refine dI (by kernel_rfl) ?_ | refine aI ⟨by omega, by omega⟩ ?_ | refine aI (by omega) ?_ | refine aI (fun _ => ⟨by omega, by omega⟩) ?_ | refine aI (of_decide_eq_true rfl) ?_ | (refine yI ?_ ?_; focus (first | decide | (simp; done) | (simp [tcs]; done))) | (refine nI ?_ ?_; focus (first | decide | (simp; done) | (simp [tcs]; done))) | intro _); conv => whnf)
    try (refine dI (by kernel_rfl) ?_; conv => whnf)
    first | refine CallSt.use hfm [] trivial (by decide) rfl ?_ | refine CallPt.useS hfm [] trivial (by decide) rfl ?_
    rintro _ _ ⟨rfl, rfl⟩ _
    conv => whnf
    repeat ((first | refine aI rfl ?_ | refine aI (by decide) ?_ | refine dI (by kernel_rfl) ?_ | refine aI ⟨by omega, by omega⟩ ?_ | refine aI (by omega) ?_ | refine aI (fun _ => ⟨by omega, by omega⟩) ?_ | refine aI (of_decide_eq_true rfl) ?_ | (refine yI ?_ ?_; focus (first | decide | (simp; done) | (simp [tcs]; done))) | (refine nI ?_ ?_; focus (first | decide | (simp; done) | (simp [tcs]; done))) | intro _); conv => whnf)
    rw [hz]
    repeat ((first | refine aI rfl ?_ | refine aI (by decide) ?_ | refine dI (by kernel_rfl) ?_ | refine aI ⟨by omega, by omega⟩ ?_ | refine aI (by omega) ?_ | refine aI (fun _ => ⟨by omega, by omega⟩) ?_ | refine aI (of_decide_eq_true rfl) ?_ | (refine yI ?_ ?_; focus (first | decide | (simp; done) | (simp [tcs]; done))) | (refine nI ?_ ?_; focus (first | decide | (simp; done) | (simp [tcs]; done))) | intro _); conv => whnf)
    all_goals (first | rfl | exact ⟨rfl, rfl⟩ | exact ⟨rfl, rfl, rfl⟩)
  | true =>
    have h0 : famE sig n = 0 := of_decide_eq_true hz
    have hck : checkB sig = true := by
      rcases hasE_cases sig n with ⟨e, hc⟩ | ⟨e, hc, hn⟩ | ⟨e, hc, hn⟩
      · rw [famE_no (by rw [e]; decide), e] at h0; cases h0
      · exact hc
      · exact hc
    have hp := check_prop hck
    have hl := check_len hck
    have han := cAnyD 51 (higD sig n) sig sig n (by omega) fun d hd => cHig1 sig hp n d (hp d hd)
    rw [h0] at hfm ⊢
    unfold higB
    generalize sig.any (higD sig n) = b at *
    refine call_pure (E := envK 0) (fn := Tryz.f26) (c := bodyOf Tryz.f26) (envK_ok 0) mixed (by kernel_rfl) (by kernel_rfl) (by kernel_rfl) (by kernel_rfl) (by kernel_rfl) (by kernel_rfl) rfl ?_
    conv => whnf
    repeat ((first | refine aI rfl ?_ | refine aI (by decide) ?_ | refine dI (by kernel_rfl) ?_ | refine aI ⟨by omega, by omega⟩ ?_ | refine aI (by omega) ?_ | refine aI (fun _ => ⟨by omega, by omega⟩) ?_ | refine aI (of_decide_eq_true rfl) ?_ | (refine yI ?_ ?_; focus (first | decide | (simp; done) | (simp [tcs]; done))) | (refine nI ?_ ?_; focus (first | decide | (simp; done) | (simp [tcs]; done))) | intro _); conv => whnf)
    try (refine dI (by kernel_rfl) ?_; conv => whnf)
    first | refine CallSt.use hfm [] trivial (by decide) rfl ?_ | refine CallPt.useS hfm [] trivial (by decide) rfl ?_
    rintro _ _ ⟨rfl, rfl⟩ _
    conv => whnf
    repeat ((first | refine aI rfl ?_ | refine aI (by decide) ?_ | refine dI (by kernel_rfl) ?_ | refine aI ⟨by omega, by omega⟩ ?_ | refine aI (by omega) ?_ | refine aI (fun _ => ⟨by omega, by omega⟩) ?_ | refine aI (of_decide_eq_true rfl) ?_ | (refine yI ?_ ?_; focus (first | decide | (simp; done) | (simp [tcs]; done))) | (refine nI ?_ ?_; focus (first | decide | (simp; done) | (simp [tcs]; done))) | intro _); conv => whnf)
    try (refine dI (by kernel_rfl) ?_; conv => whnf)
    first | refine CallSt.use han [0, 1] ⟨rfl, rfl, trivial⟩ (by decide) rfl ?_ | refine CallPt.useS han [0, 1] ⟨rfl, rfl, trivial⟩ (by decide) rfl ?_
    rintro _ _ ⟨rfl, rfl⟩ _
    conv => whnf
    repeat ((first | refine aI rfl ?_ | refine aI (by decide) ?_ | refine dI (by kernel_rfl) ?_ | refine aI ⟨by omega, by omega⟩ ?_ | refine aI (by omega) ?_ | refine aI (fun _ => ⟨by omega, by omega⟩) ?_ | refine aI (of_decide_eq_true rfl) ?_ | (refine yI ?_ ?_; focus (first | decide | (simp; done) | (simp [tcs]; done))) | (refine nI ?_ ?_; focus (first | decide | (simp; done) | (simp [tcs]; done))) | intro _); conv => whnf)
    all_goals (first | rfl | exact ⟨rfl, rfl⟩ | exact ⟨rfl, rfl, rfl⟩)
end Go.Tr
/- depend.below: put, stands. -/
namespace Go.Tr
open Go.Proofs
def tabB2 : List (Nat × TyD) := (80, ⟨1, 8, .other, [.pointer none], [80]⟩) :: tabM
def envB (n : Nat) : Env := ⟨lkT tabB2, keep, n, false, false, none, fun _ _ => none⟩
theorem envB_ok (n : Nat) : EnvOk Tryz.prog (envB n) := EnvOk.of (l := tabB2) rfl (by kernel_rfl)
def tg (a : Term) : Nat := (domT a).2.n.toNat
def orE (f : Nat → Nat → Bool) (L : List (Nat × Nat)) : Nat → Nat → Bool := fun x y => f x y || decide ((x, y) ∈ L)
theorem orE_nil (f : Nat → Nat → Bool) : orE f [] = f := by funext x y; simp [orE]
theorem orE_app (f : Nat → Nat → Bool) (L M : List (Nat × Nat)) : orE (orE f L) M = orE f (L ++ M) := by
  funext x y
  unfold orE
  by_cases h1 : (x, y) ∈ L <;> by_cases h2 : (x, y) ∈ M <;> simp [h1, h2]
theorem orE_one (f : Nat → Nat → Bool) (a b : Nat) : updM f a b true = orE f [(a, b)] := by
  funext x y
  unfold updM orE
  by_cases h : x = a ∧ y = b
  · rw [if_pos h, h.1, h.2]
    simp
  · rw [if_neg h]
    have : ¬ (x, y) ∈ [(a, b)] := fun hm => by
      rw [List.mem_singleton, Prod.mk.injEq] at hm
      exact h hm
    simp [this]
def edF (sig : List Dcl) : Nat → Term → Nat → Bool → List (Nat × Nat)
  | 0, _, _, _ => []
  | n + 1, a, fam, ok => (domT a).1.flatMap fun d => (if ok && tgB sig d then [(tg d, fam)] else []) ++ edF sig n d (tg d) (tgB sig d)
abbrev bwH (sig : List Dcl) (f : Nat → Nat → Bool) : HP := [.box [.c (.sl 6 72 (dcs sig))], .row 106 10000 1 [mrow f], .box [.elt 1 10000 0 0]]
theorem tg_lt {sig : List Dcl} {a : Term} {d : Int} (h : fmT a d = true) (ht : tgB sig a = true) (hl : sig.length ≤ 100) : tg a < 100 ∧ ((tg a : Nat) : Int) = (domT a).2.n := by
  obtain ⟨_, _, d', hd', _⟩ := dom_rest a d h
  have hn := fm_n hd'
  unfold tgB at ht
  rw [Bool.and_eq_true, Bool.and_eq_true] at ht
  have := of_decide_eq_true ht.1.2
  unfold tg
  omega
theorem cPutM (sig : List Dcl) (hp : ∀ e ∈ sig, prop e.c = true) (hl : sig.length ≤ 100) (f : Nat → Nat → Bool) (a : Term) (d : Int) (h : fmT a d = true) (hd : 0 ≤ d) (b : Nat) (hb : b < 100) :
    CallSt Tryz.prog 68 [tv a, .c (.int .i64 (b)), .ptr 0 0, .ptr 2 0] (bwH sig f) (fun r H' => r = .tup [] ∧ H' = bwH sig (orE f (if tgB sig a then [(tg a, b)] else []))) := by
  have htg := cDTarget sig hp a d h hd
  cases ht : tgB sig a with
  | false =>
    rw [ht] at htg
    rw [if_neg (by simp), orE_nil]
    generalize (domT a).2.n = un at *
    obtain ⟨k, l, n, ts⟩ := a
    rw [tv_mk] at *
    refine call_trim (E := envB 3) (fn := Tryz.f68) (c := bodyOf Tryz.f68) (envB_ok 3) mixed (by kernel_rfl) (by kernel_rfl) (by kernel_rfl) (by kernel_rfl) (by kernel_rfl) (by kernel_rfl) rfl ?_
    conv => whnf
    repeat ((first | refine aI rfl ?_ | refine aI (by decide) ?_ | refine dI (by kernel_rfl) ?_ | refine aI ⟨by omega, by omega⟩ ?_ | refine aI (by omega) ?_ | refine aI (fun _ => ⟨by omega, by omega⟩) ?_ | refine aI (of_decide_eq_true rfl) ?_ | (refine yI ?_ ?_; focus (first | decide | (simp; done) | (simp [tcs]; done))) | (refine nI ?_ ?_; focus (first | decide | (simp; done) | (simp [tcs]; done))) | intro _); conv => whnf)
    try (refine dI (by kernel_rfl) ?_; conv => whnf)
    first | refine CallSt.use htg [] trivial (by decide) rfl ?_ | refine CallPt.useS htg [] trivial (by decide) rfl ?_
    rintro _ _ ⟨rfl, rfl⟩ _
    conv => whnf
    repeat ((first | refine aI rfl ?_ | refine aI (by decide) ?_ | refine dI (by kernel_rfl) ?_ | refine aI ⟨by omega, by omega⟩ ?_ | refine aI (by omega) ?_ | refine aI (fun _ => ⟨by omega, by omega⟩) ?_ | refine aI (of_decide_eq_true rfl) ?_ | (refine yI ?_ ?_; focus (first | decide | (simp; done) | (simp [tcs]; done))) | (refine nI ?_ ?_; focus (first | decide | (simp; done) | (simp [tcs]; done))) | intro _); conv => whnf)
    all_goals (first | rfl | exact ⟨rfl, rfl⟩ | exact ⟨rfl, rfl, rfl⟩)
  | true =>
    obtain ⟨h1, h2⟩ := tg_lt h ht hl
    rw [ht] at htg
    rw [if_pos rfl, ← orE_one]
    rw [← h2] at htg
    generalize tg a = un at *
    obtain ⟨k, l, n, ts⟩ := a
    rw [tv_mk] at *
    refine call_trim (E := envB 3) (fn := Tryz.f68) (c := bodyOf Tryz.f68) (envB_ok 3) mixed (by kernel_rfl) (by kernel_rfl) (by kernel_rfl) (by kernel_rfl) (by kernel_rfl) (by kernel_rfl) rfl ?_
    conv => whnf
    repeat ((first | refine aI rfl ?_ | refine aI (by decide) ?_ | refine dI (by kernel_rfl) ?_ | refine aI ⟨by omega, by omega⟩ ?_ | refine aI (by omega) ?_ | refine aI (fun _ => ⟨by omega, by omega⟩) ?_ | refine aI (of_decide_eq_true rfl) ?_ | (refine yI ?_ ?_; focus (first | decide | (simp; done) | (simp [tcs]; done))) | (refine nI ?_ ?_; focus (first | decide | (simp; done) | (simp [tcs]; done))) | intro _); conv => whnf)
    try (refine dI (by kernel_rfl) ?_; conv => whnf)
    first | refine CallSt.use htg [] trivial (by decide) rfl ?_ | refine CallPt.useS htg [] trivial (by decide) rfl ?_
    rintro _ _ ⟨rfl, rfl⟩ _
    conv => whnf
    repeat ((first | refine aI rfl ?_ | refine aI (by decide) ?_ | refine dI (by kernel_rfl) ?_ | refine aI ⟨by omega, by omega⟩ ?_ | refine aI (by omega) ?_ | refine aI (fun _ => ⟨by omega, by omega⟩) ?_ | refine aI (of_decide_eq_true rfl) ?_ | (refine yI ?_ ?_; focus (first | decide | (simp; done) | (simp [tcs]; done))) | (refine nI ?_ ?_; focus (first | decide | (simp; done) | (simp [tcs]; done))) | intro _); conv => whnf)
    refine ⟨_, _, rfl, mrow_set2 f true (by omega) (by omega), ?_⟩
    conv => whnf
    repeat ((first | refine aI rfl ?_ | refine aI (by decide) ?_ | refine dI (by kernel_rfl) ?_ | refine aI ⟨by omega, by omega⟩ ?_ | refine aI (by omega) ?_ | refine aI (fun _ => ⟨by omega, by omega⟩) ?_ | refine aI (of_decide_eq_true rfl) ?_ | (refine yI ?_ ?_; focus (first | decide | (simp; done) | (simp [tcs]; done))) | (refine nI ?_ ?_; focus (first | decide | (simp; done) | (simp [tcs]; done))) | intro _); conv => whnf)
    all_goals (first | rfl | exact ⟨rfl, rfl⟩)
end Go.Tr
/- depend.below: stands. -/
namespace Go.Tr
open Go.Proofs
abbrev bwH5 (sig : List Dcl) (f : Nat → Nat → Bool) : HP := [.box [.c (.sl 6 72 (dcs sig))], .row 106 10000 1 [mrow f], .box [.elt 1 10000 0 0], .box [.fn 68 [.ptr 0 0, .ptr 2 0]], .box [.fn 69 [.ptr 0 0, .ptr 3 0, .ptr 4 0]]]
def stepE (sig : List Dcl) (n : Nat) (fam : Nat) (ok : Bool) (d : Term) : List (Nat × Nat) := (if ok && tgB sig d then [(tg d, fam)] else []) ++ edF sig n d (tg d) (tgB sig d)
theorem edF_succ (sig : List Dcl) (n : Nat) (a : Term) (fam : Nat) (ok : Bool) : edF sig (n + 1) a fam ok = (domT a).1.flatMap (stepE sig n fam ok) := by rw [edF]; rfl
theorem cStands (sig : List Dcl) (hp : ∀ e ∈ sig, prop e.c = true) (hl : sig.length ≤ 100) : ∀ (n : Nat) (a : Term) (d : Int), fmT a d = true → 0 ≤ d → SizeOf.sizeOf a ≤ n → ∀ f : Nat → Nat → Bool,
    CallSt Tryz.prog 69 [tv a, .ptr 0 0, .ptr 3 0, .ptr 4 0] (bwH5 sig f) (fun r H' => r = .tup [] ∧ H' = bwH5 sig (orE f (edF sig n a (tg a) (tgB sig a)))) := by
  intro n
  induction n with
  | zero =>
    intro a d h hd hs f
    obtain ⟨k, l, m, ts⟩ := a
    simp at hs
  | succ n ih =>
    intro a d h hd hs f
    have hdm := c68 a d h hd
    have hmem := dom_mem a d h
    have hdl := dom_len a d h
    have htg := cDTarget sig hp a d h hd
    have htl : tgB sig a = true → tg a < 100 ∧ ((tg a : Nat) : Int) = (domT a).2.n := fun ht => tg_lt h ht hl
    rw [edF_succ]
    generalize tgB sig a = ok at *
    generalize tg a = ta at *
    have hD : ∀ u ∈ (domT a).1, ∃ d', fmT u d' = true ∧ 0 ≤ d' ∧ SizeOf.sizeOf u ≤ n := fun u hu => by
      obtain ⟨h1, d', h2, h3⟩ := hmem u hu
      exact ⟨d', h2, by omega, by omega⟩
    clear hmem hs h
    generalize (domT a).1 = D at *
    generalize (domT a).2 = u at *
    rw [show tv u = .agg [.c (.int .i64 (u.k)), .c (.int .i64 (u.l)), .c (.int .i64 (u.n)), .c (.sl 4 48 (tcs u.ts))] from rfl] at hdm
    generalize u.k = uk at *
    generalize u.l = ul at *
    generalize u.n = un at *
    generalize u.ts = uts at *
    have hDl := len_tcs D
    obtain ⟨k, l, m, ts⟩ := a
    rw [tv_mk] at *
    refine call_trim (E := envB 5) (fn := Tryz.f69) (c := bodyOf Tryz.f69) (envB_ok 5) mixed (by kernel_rfl) (by kernel_rfl) (by kernel_rfl) (by kernel_rfl) (by kernel_rfl) (by kernel_rfl) rfl ?_
    conv => whnf
    repeat ((first | refine aI rfl ?_ | refine aI (by decide) ?_ | refine dI (by kernel_rfl) ?_ | refine aI ⟨by omega, by omega⟩ ?_ | refine aI (by omega) ?_ | refine aI (fun _ => ⟨by omega, by omega⟩) ?_ | refine aI (of_decide_eq_true rfl) ?_ | (refine yI ?_ ?_; focus (first | decide | (simp; done) | (simp [tcs]; done))) | (refine nI ?_ ?_; focus (first | decide | (simp; done) | (simp [tcs]; done))) | intro _); conv => whnf)
    try (refine dI (by kernel_rfl) ?_; conv => whnf)
    first | refine CallSt.use hdm [] trivial (by decide) rfl ?_ | refine CallPt.useS hdm [] trivial (by decide) rfl ?_
    rintro _ _ ⟨rfl, rfl⟩ _
    conv => whnf
    repeat ((first | refine aI rfl ?_ | refine aI (by decide) ?_ | refine dI (by kernel_rfl) ?_ | refine aI ⟨by omega, by omega⟩ ?_ | refine aI (by omega) ?_ | refine aI (fun _ => ⟨by omega, by omega⟩) ?_ | refine aI (of_decide_eq_true rfl) ?_ | (refine yI ?_ ?_; focus (first | decide | (simp; done) | (simp [tcs]; done))) | (refine nI ?_ ?_; focus (first | decide | (simp; done) | (simp [tcs]; done))) | intro _); conv => whnf)
    refine loop_intro (fun mm tm H => ∃ j : Nat, D.length = mm + j ∧ tm = [(18, .c (.int .i64 (j))), (17, .c (.int .i64 ((tcs D).length))), (16, .c (.sl 4 48 (tcs D))), (1, .ptr 0 0), (2, .ptr 3 0), (3, .ptr 4 0), (4, .ptr 5 0)] ∧
        H = bwH5 sig (orE f ((D.take j).flatMap (stepE sig n ta ok))) ++ [.box [.c (.int .i64 (k)), .c (.int .i64 (l)), .c (.int .i64 (m)), .c (.sl 4 48 (tcs ts))]])
      D.length _ _ ⟨0, by omega, rfl, rfl⟩ ?_ ?_
    · have e0 : orE f ((D.take 0).flatMap (stepE sig n ta ok)) = f := by rw [List.take_zero, List.flatMap_nil, orE_nil]
      rw [e0]
      exact Wk.sl [0, 1, 2, 3, 4, 5] rfl ⟨rfl, rfl, rfl, rfl, rfl, rfl, trivial⟩ ⟨rfl, rfl, rfl, rfl, rfl, rfl, rfl, trivial⟩ rfl
    rintro mm tm H ⟨j, hj, rfl, rfl⟩
    conv => whnf
    refine ⟨fun hc => ?_, fun hc => ?_⟩
    · replace hc : (j : Int) < (tcs D).length := of_decide_eq_true hc
      obtain ⟨v, hv⟩ : ∃ v, D[j]? = some v := ⟨D[j]'(by omega), List.getElem?_eq_getElem (by omega)⟩
      have hvc := tcs_at D j v hv
      obtain ⟨d', hv1, hv2, hv3⟩ := hD v (List.mem_of_getElem? hv)
      have hst : orE f ((D.take (j + 1)).flatMap (stepE sig n ta ok)) = orE (orE f ((D.take j).flatMap (stepE sig n ta ok))) (stepE sig n ta ok v) := by
        rw [orE_app, List.take_add_one, hv, List.flatMap_append]
        simp
      generalize orE f ((D.take j).flatMap (stepE sig n ta ok)) = fj at *
      unfold stepE at hst
      rw [← orE_app] at hst
      cases ok with
      | false =>
        have hi := ih v d' hv1 hv2 hv3 fj
        rw [Bool.false_and, if_neg (by simp), orE_nil] at hst
        rw [← hst] at hi
        obtain ⟨k', l', n', us⟩ := v
        rw [tv_mk] at *
        conv => whnf
        repeat ((first | refine aI rfl ?_ | refine aI (by decide) ?_ | refine dI (by kernel_rfl) ?_ | refine aI ⟨by omega, by omega⟩ ?_ | refine aI (by omega) ?_ | refine aI (fun _ => ⟨by omega, by omega⟩) ?_ | refine aI (of_decide_eq_true rfl) ?_ | (refine yI ?_ ?_; focus (first | decide | (simp; done) | (simp [tcs]; done))) | (refine nI ?_ ?_; focus (first | decide | (simp; done) | (simp [tcs]; done))) | intro _); conv => whnf)
        refine ⟨_, ⟨by omega, by simpa using hvc⟩, ?_⟩
        conv => whnf
        refine ⟨Nat.le_refl 4, ?_⟩
        conv => whnf
        repeat ((first | refine aI rfl ?_ | refine aI (by decide) ?_ | refine dI (by kernel_rfl) ?_ | refine aI ⟨by omega, by omega⟩ ?_ | refine aI (by omega) ?_ | refine aI (fun _ => ⟨by omega, by omega⟩) ?_ | refine aI (of_decide_eq_true rfl) ?_ | (refine yI ?_ ?_; focus (first | decide | (simp; done) | (simp [tcs]; done))) | (refine nI ?_ ?_; focus (first | decide | (simp; done) | (simp [tcs]; done))) | intro _); conv => whnf)
        try (refine dI (by kernel_rfl) ?_; conv => whnf)
        first | refine CallSt.use htg [] trivial (by decide) rfl ?_ | refine CallPt.useS htg [] trivial (by decide) rfl ?_
        rintro _ _ ⟨rfl, rfl⟩ _
        conv => whnf
        repeat ((first | refine aI rfl ?_ | refine aI (by decide) ?_ | refine dI (by kernel_rfl) ?_ | refine aI ⟨by omega, by omega⟩ ?_ | refine aI (by omega) ?_ | refine aI (fun _ => ⟨by omega, by omega⟩) ?_ | refine aI (of_decide_eq_true rfl) ?_ | (refine yI ?_ ?_; focus (first | decide | (simp; done) | (simp [tcs]; done))) | (refine nI ?_ ?_; focus (first | decide | (simp; done) | (simp [tcs]; done))) | intro _); conv => whnf)
        try (refine dI (by kernel_rfl) ?_; conv => whnf)
        first | refine CallSt.use hi [0, 1, 2, 3, 4] ⟨rfl, rfl, rfl, rfl, rfl, trivial⟩ (by decide) rfl ?_ | refine CallPt.useS hi [0, 1, 2, 3, 4] ⟨rfl, rfl, rfl, rfl, rfl, trivial⟩ (by decide) rfl ?_
        rintro _ _ ⟨rfl, rfl⟩ _
        conv => whnf
        repeat ((first | refine aI rfl ?_ | refine aI (by decide) ?_ | refine dI (by kernel_rfl) ?_ | refine aI ⟨by omega, by omega⟩ ?_ | refine aI (by omega) ?_ | refine aI (fun _ => ⟨by omega, by omega⟩) ?_ | refine aI (of_decide_eq_true rfl) ?_ | (refine yI ?_ ?_; focus (first | decide | (simp; done) | (simp [tcs]; done))) | (refine nI ?_ ?_; focus (first | decide | (simp; done) | (simp [tcs]; done))) | intro _); conv => whnf)
        exact ⟨mm - 1, _, _, by omega, ⟨j + 1, by omega, rfl, rfl⟩, Wk.sl [0, 1, 2, 3, 4, 5] rfl ⟨rfl, rfl, rfl, rfl, rfl, rfl, trivial⟩ ⟨rfl, rfl, rfl, rfl, rfl, rfl, rfl, trivial⟩ rfl⟩
      | true =>
        obtain ⟨ht1, ht2⟩ := htl rfl
        rw [← ht2] at htg
        have hpt := cPutM sig hp hl fj v d' hv1 hv2 ta ht1
        rw [Bool.true_and] at hst
        generalize orE fj (if tgB sig v then [(tg v, ta)] else []) = fp at *
        have hi := ih v d' hv1 hv2 hv3 fp
        rw [← hst] at hi
        obtain ⟨k', l', n', us⟩ := v
        rw [tv_mk] at *
        conv => whnf
        repeat ((first | refine aI rfl ?_ | refine aI (by decide) ?_ | refine dI (by kernel_rfl) ?_ | refine aI ⟨by omega, by omega⟩ ?_ | refine aI (by omega) ?_ | refine aI (fun _ => ⟨by omega, by omega⟩) ?_ | refine aI (of_decide_eq_true rfl) ?_ | (refine yI ?_ ?_; focus (first | decide | (simp; done) | (simp [tcs]; done))) | (refine nI ?_ ?_; focus (first | decide | (simp; done) | (simp [tcs]; done))) | intro _); conv => whnf)
        refine ⟨_, ⟨by omega, by simpa using hvc⟩, ?_⟩
        conv => whnf
        refine ⟨Nat.le_refl 4, ?_⟩
        conv => whnf
        repeat ((first | refine aI rfl ?_ | refine aI (by decide) ?_ | refine dI (by kernel_rfl) ?_ | refine aI ⟨by omega, by omega⟩ ?_ | refine aI (by omega) ?_ | refine aI (fun _ => ⟨by omega, by omega⟩) ?_ | refine aI (of_decide_eq_true rfl) ?_ | (refine yI ?_ ?_; focus (first | decide | (simp; done) | (simp [tcs]; done))) | (refine nI ?_ ?_; focus (first | decide | (simp; done) | (simp [tcs]; done))) | intro _); conv => whnf)
        try (refine dI (by kernel_rfl) ?_; conv => whnf)
        first | refine CallSt.use htg [] trivial (by decide) rfl ?_ | refine CallPt.useS htg [] trivial (by decide) rfl ?_
        rintro _ _ ⟨rfl, rfl⟩ _
        conv => whnf
        repeat ((first | refine aI rfl ?_ | refine aI (by decide) ?_ | refine dI (by kernel_rfl) ?_ | refine aI ⟨by omega, by omega⟩ ?_ | refine aI (by omega) ?_ | refine aI (fun _ => ⟨by omega, by omega⟩) ?_ | refine aI (of_decide_eq_true rfl) ?_ | (refine yI ?_ ?_; focus (first | decide | (simp; done) | (simp [tcs]; done))) | (refine nI ?_ ?_; focus (first | decide | (simp; done) | (simp [tcs]; done))) | intro _); conv => whnf)
        try (refine dI (by kernel_rfl) ?_; conv => whnf)
        first | refine CallSt.use hpt [0, 1, 2] ⟨rfl, rfl, rfl, trivial⟩ (by decide) rfl ?_ | refine CallPt.useS hpt [0, 1, 2] ⟨rfl, rfl, rfl, trivial⟩ (by decide) rfl ?_
        rintro _ _ ⟨rfl, rfl⟩ _
        conv => whnf
        repeat ((first | refine aI rfl ?_ | refine aI (by decide) ?_ | refine dI (by kernel_rfl) ?_ | refine aI ⟨by omega, by omega⟩ ?_ | refine aI (by omega) ?_ | refine aI (fun _ => ⟨by omega, by omega⟩) ?_ | refine aI (of_decide_eq_true rfl) ?_ | (refine yI ?_ ?_; focus (first | decide | (simp; done) | (simp [tcs]; done))) | (refine nI ?_ ?_; focus (first | decide | (simp; done) | (simp [tcs]; done))) | intro _); conv => whnf)
        try (refine dI (by kernel_rfl) ?_; conv => whnf)
        first | refine CallSt.use hi [0, 1, 2, 3, 4] ⟨rfl, rfl, rfl, rfl, rfl, trivial⟩ (by decide) rfl ?_ | refine CallPt.useS hi [0, 1, 2, 3, 4] ⟨rfl, rfl, rfl, rfl, rfl, trivial⟩ (by decide) rfl ?_
        rintro _ _ ⟨rfl, rfl⟩ _
        conv => whnf
        repeat ((first | refine aI rfl ?_ | refine aI (by decide) ?_ | refine dI (by kernel_rfl) ?_ | refine aI ⟨by omega, by omega⟩ ?_ | refine aI (by omega) ?_ | refine aI (fun _ => ⟨by omega, by omega⟩) ?_ | refine aI (of_decide_eq_true rfl) ?_ | (refine yI ?_ ?_; focus (first | decide | (simp; done) | (simp [tcs]; done))) | (refine nI ?_ ?_; focus (first | decide | (simp; done) | (simp [tcs]; done))) | intro _); conv => whnf)
        exact ⟨mm - 1, _, _, by omega, ⟨j + 1, by omega, rfl, rfl⟩, Wk.sl [0, 1, 2, 3, 4, 5] rfl ⟨rfl, rfl, rfl, rfl, rfl, rfl, trivial⟩ ⟨rfl, rfl, rfl, rfl, rfl, rfl, rfl, trivial⟩ rfl⟩
    · replace hc : ¬ (j : Int) < (tcs D).length := of_decide_eq_false hc
      obtain rfl : j = D.length := by omega
      rw [List.take_length]
      conv => whnf
      repeat ((first | refine aI rfl ?_ | refine aI (by decide) ?_ | refine dI (by kernel_rfl) ?_ | refine aI ⟨by omega, by omega⟩ ?_ | refine aI (by omega) ?_ | refine aI (fun _ => ⟨by omega, by omega⟩) ?_ | refine aI (of_decide_eq_true rfl) ?_ | (refine yI ?_ ?_; focus (first | decide | (simp; done) | (simp [tcs]; done))) | (refine nI ?_ ?_; focus (first | decide | (simp; done) | (simp [tcs]; done))) | intro _); conv => whnf)
      all_goals (first | rfl | exact ⟨rfl, rfl⟩ | exact ⟨rfl, rfl, rfl⟩)
end Go.Tr
/- depend.below. -/
namespace Go.Tr
open Go.Proofs
theorem head_lt {sig : List Dcl} (h : checkB sig = true) {i : Nat} {d : Dcl} (hd : sig[i]? = some d) : 0 ≤ headT d i ∧ headT d i ≤ i := by
  have hil := (List.getElem?_eq_some_iff.1 hd).1
  unfold checkB at h
  simp only [Bool.and_eq_true, List.all_eq_true] at h
  have hg := h.2 i (by simpa using hil)
  unfold goodD at hg
  rw [hd] at hg
  simp only [Bool.and_eq_true] at hg
  have hf := hg.2
  unfold formedF at hf
  simp only [Bool.and_eq_true, Bool.or_eq_true] at hf
  have hp := hf.1.1.1.1
  unfold headT
  cases hk : kindT d.c with
  | true => simp only; omega
  | false =>
    simp only
    rcases hf.2 with h2 | ⟨h2, h3⟩
    · rw [hk] at h2; cases h2
    · have h0 := targ_pos hp h2
      unfold kindAt at h3
      split at h3
      · rename_i e he
        have := (List.getElem?_eq_some_iff.1 he).1
        rw [List.length_take] at this
        omega
      · cases h3
noncomputable def edC (sig : List Dcl) (d : Dcl) (i : Nat) : List (Nat × Nat) := edF sig (SizeOf.sizeOf d.c + 1) d.c (headT d i).toNat true
noncomputable def bwP (sig : List Dcl) : Nat → Nat → Nat → Bool
  | 0 => fun _ _ => false
  | j + 1 => match sig[j]? with | some d => orE (updM (bwP sig j) j j (kindT d.c)) (edC sig d j) | none => bwP sig j
noncomputable def belM (sig : List Dcl) : Nat → Nat → Bool := closeF sig.length (bwP sig sig.length)
theorem cBelowM (sig : List Dcl) (h : checkB sig = true) : CallSt Tryz.prog 41 [.c (.sl 6 72 (dcs sig))] [] (fun r H' => r = .elt 0 10000 0 0 ∧ H' = [.row 106 10000 1 [mrow (belM sig)]]) := by
  have hsl := check_len h
  have hpr := check_prop h
  have hhd := fun i d (hd : sig[i]? = some d) => head_lt h hd
  have hbl := len_dcs sig
  have hcl : CallSt Tryz.prog 71 [.elt 0 10000 0 0, .c (.int .i64 ((dcs sig).length))] [.row 106 10000 1 [mrow (bwP sig sig.length)]] (fun r H' => r = .tup [] ∧ H' = [.row 106 10000 1 [mrow (belM sig)]]) := by
    rw [hbl]
    exact cClose sig.length (bwP sig sig.length) hsl
  clear h
  refine call_wk (E := envB 0) (fn := Tryz.f41) (c := bodyOf Tryz.f41) (envB_ok 0) mixed (by kernel_rfl) (by kernel_rfl) (by kernel_rfl) (by kernel_rfl) (by kernel_rfl) (by kernel_rfl) rfl false ?_
  conv => whnf
  repeat ((first | refine aI rfl ?_ | refine aI (by decide) ?_ | refine dI (by kernel_rfl) ?_ | refine aI ⟨by omega, by omega⟩ ?_ | refine aI (by omega) ?_ | refine aI (fun _ => ⟨by omega, by omega⟩) ?_ | refine aI (of_decide_eq_true rfl) ?_ | (refine yI ?_ ?_; focus (first | decide | (simp; done) | (simp [tcs]; done))) | (refine nI ?_ ?_; focus (first | decide | (simp; done) | (simp [tcs]; done))) | intro _); conv => whnf)
  refine ⟨mrow (fun _ _ => false), big0, mrow_len _, ?_⟩
  conv => whnf
  repeat ((first | refine aI rfl ?_ | refine aI (by decide) ?_ | refine dI (by kernel_rfl) ?_ | refine aI ⟨by omega, by omega⟩ ?_ | refine aI (by omega) ?_ | refine aI (fun _ => ⟨by omega, by omega⟩) ?_ | refine aI (of_decide_eq_true rfl) ?_ | (refine yI ?_ ?_; focus (first | decide | (simp; done) | (simp [tcs]; done))) | (refine nI ?_ ?_; focus (first | decide | (simp; done) | (simp [tcs]; done))) | intro _); conv => whnf)
  refine loop_intro (fun m tm H => ∃ j : Nat, sig.length = m + j ∧ tm = [(18, .c (.int .i64 (j))), (17, .c (.int .i64 ((dcs sig).length))), (16, .c (.sl 6 72 (dcs sig))), (1, .ptr 0 0), (3, .ptr 2 0), (4, .ptr 3 0), (5, .ptr 4 0)] ∧ H = bwH5 sig (bwP sig j))
    sig.length _ _ ⟨0, by omega, rfl, rfl⟩ (Wk.sl [0, 1, 2, 3, 4] rfl ⟨rfl, rfl, rfl, rfl, rfl, trivial⟩ ⟨rfl, rfl, rfl, rfl, rfl, rfl, rfl, trivial⟩ rfl) ?_
  rintro m tm H ⟨j, hj, rfl, rfl⟩
  conv => whnf
  refine ⟨fun hc => ?_, fun hc => ?_⟩
  · replace hc : (j : Int) < (dcs sig).length := of_decide_eq_true hc
    obtain ⟨d, hd⟩ : ∃ d, sig[j]? = some d := ⟨sig[j]'(by omega), List.getElem?_eq_getElem (by omega)⟩
    have hdc := dcs_at hd
    have hpd := hpr d (List.mem_of_getElem? hd)
    have hfa := cFamily sig j d hd hpd
    have hha := cHead sig hpr j d hd
    have hdm := c68 d.c 1 (prop_fm1 hpd) (by omega)
    have hmem := dom_mem d.c 1 (prop_fm1 hpd)
    have hdl := dom_len d.c 1 (prop_fm1 hpd)
    obtain ⟨hh0, hh1⟩ := hhd j d hd
    have hnx : bwP sig (j + 1) = orE (updM (bwP sig j) j j (kindT d.c)) ((domT d.c).1.flatMap (stepE sig (SizeOf.sizeOf d.c) (headT d j).toNat true)) := by
      rw [bwP, hd]
      simp only
      rw [edC, edF_succ]
    obtain ⟨hn, hhe⟩ : ∃ hn : Nat, headT d j = hn := ⟨(headT d j).toNat, by omega⟩
    rw [hhe] at hha
    rw [hhe, Int.toNat_natCast] at hnx
    rw [hhe] at hh1
    generalize hbj : bwP sig j = bj at *
    generalize kindT d.c = kd at *
    have hD : ∀ u ∈ (domT d.c).1, ∃ d', fmT u d' = true ∧ 0 ≤ d' ∧ SizeOf.sizeOf u ≤ SizeOf.sizeOf d.c := fun u hu => by
      obtain ⟨h1, d', h2, h3⟩ := hmem u hu
      exact ⟨d', h2, by omega, by omega⟩
    clear hmem
    generalize SizeOf.sizeOf d.c = sz at *
    generalize (domT d.c).1 = D at *
    generalize (domT d.c).2 = u at *
    rw [show tv u = .agg [.c (.int .i64 (u.k)), .c (.int .i64 (u.l)), .c (.int .i64 (u.n)), .c (.sl 4 48 (tcs u.ts))] from rfl] at hdm
    generalize u.k = uk at *
    generalize u.l = ul at *
    generalize u.n = un at *
    generalize u.ts = uts at *
    have hDl := len_tcs D
    obtain ⟨s', ⟨k', l', n', us'⟩, i'⟩ := d
    dsimp only at hdm
    rw [tv_mk] at hdm
    conv => whnf
    repeat ((first | refine aI rfl ?_ | refine aI (by decide) ?_ | refine dI (by kernel_rfl) ?_ | refine aI ⟨by omega, by omega⟩ ?_ | refine aI (by omega) ?_ | refine aI (fun _ => ⟨by omega, by omega⟩) ?_ | refine aI (of_decide_eq_true rfl) ?_ | (refine yI ?_ ?_; focus (first | decide | (simp; done) | (simp [tcs]; done))) | (refine nI ?_ ?_; focus (first | decide | (simp; done) | (simp [tcs]; done))) | intro _); conv => whnf)
    refine ⟨_, ⟨by omega, hdc⟩, ?_⟩
    conv => whnf
    refine ⟨show 6 ≤ 6 by decide, ?_⟩
    conv => whnf
    repeat ((first | refine aI rfl ?_ | refine aI (by decide) ?_ | refine dI (by kernel_rfl) ?_ | refine aI ⟨by omega, by omega⟩ ?_ | refine aI (by omega) ?_ | refine aI (fun _ => ⟨by omega, by omega⟩) ?_ | refine aI (of_decide_eq_true rfl) ?_ | (refine yI ?_ ?_; focus (first | decide | (simp; done) | (simp [tcs]; done))) | (refine nI ?_ ?_; focus (first | decide | (simp; done) | (simp [tcs]; done))) | intro _); conv => whnf)
    try (refine dI (by kernel_rfl) ?_; conv => whnf)
    first | refine CallSt.use hfa [] trivial (by decide) rfl ?_ | refine CallPt.useS hfa [] trivial (by decide) rfl ?_
    rintro _ _ ⟨rfl, rfl⟩ _
    conv => whnf
    repeat ((first | refine aI rfl ?_ | refine aI (by decide) ?_ | refine dI (by kernel_rfl) ?_ | refine aI ⟨by omega, by omega⟩ ?_ | refine aI (by omega) ?_ | refine aI (fun _ => ⟨by omega, by omega⟩) ?_ | refine aI (of_decide_eq_true rfl) ?_ | (refine yI ?_ ?_; focus (first | decide | (simp; done) | (simp [tcs]; done))) | (refine nI ?_ ?_; focus (first | decide | (simp; done) | (simp [tcs]; done))) | intro _); conv => whnf)
    refine ⟨_, _, rfl, mrow_set2 bj kd (by omega) (by omega), ?_⟩
    conv => whnf
    repeat ((first | refine aI rfl ?_ | refine aI (by decide) ?_ | refine dI (by kernel_rfl) ?_ | refine aI ⟨by omega, by omega⟩ ?_ | refine aI (by omega) ?_ | refine aI (fun _ => ⟨by omega, by omega⟩) ?_ | refine aI (of_decide_eq_true rfl) ?_ | (refine yI ?_ ?_; focus (first | decide | (simp; done) | (simp [tcs]; done))) | (refine nI ?_ ?_; focus (first | decide | (simp; done) | (simp [tcs]; done))) | intro _); conv => whnf)
    try (refine dI (by kernel_rfl) ?_; conv => whnf)
    first | refine CallSt.use hdm [] trivial (by decide) rfl ?_ | refine CallPt.useS hdm [] trivial (by decide) rfl ?_
    rintro _ _ ⟨rfl, rfl⟩ _
    conv => whnf
    repeat ((first | refine aI rfl ?_ | refine aI (by decide) ?_ | refine dI (by kernel_rfl) ?_ | refine aI ⟨by omega, by omega⟩ ?_ | refine aI (by omega) ?_ | refine aI (fun _ => ⟨by omega, by omega⟩) ?_ | refine aI (of_decide_eq_true rfl) ?_ | (refine yI ?_ ?_; focus (first | decide | (simp; done) | (simp [tcs]; done))) | (refine nI ?_ ?_; focus (first | decide | (simp; done) | (simp [tcs]; done))) | intro _); conv => whnf)
    generalize hb0 : updM bj j j kd = b0 at *
    refine loop_intro (fun mm tm H => ∃ i : Nat, D.length = mm + i ∧ tm = [(40, .c (.int .i64 (i))), (39, .c (.int .i64 ((tcs D).length))), (38, .c (.sl 4 48 (tcs D))), (6, .c (.int .i64 (j))), (18, .c (.int .i64 (j))), (17, .c (.int .i64 ((dcs sig).length))), (16, .c (.sl 6 72 (dcs sig))), (1, .ptr 0 0), (3, .ptr 2 0), (4, .ptr 3 0), (5, .ptr 4 0)] ∧
        H = bwH5 sig (orE b0 ((D.take i).flatMap (stepE sig sz hn true))))
      D.length _ _ ⟨0, by omega, rfl, rfl⟩ ?_ ?_
    · have e0 : orE b0 ((D.take 0).flatMap (stepE sig sz hn true)) = b0 := by rw [List.take_zero, List.flatMap_nil, orE_nil]
      rw [e0]
      exact Wk.sl [0, 1, 2, 3, 4] rfl ⟨rfl, rfl, rfl, rfl, rfl, trivial⟩ ⟨rfl, rfl, rfl, rfl, rfl, rfl, rfl, rfl, rfl, rfl, rfl, trivial⟩ rfl
    rintro mm tm H ⟨i, hi, rfl, rfl⟩
    conv => whnf
    refine ⟨fun hc2 => ?_, fun hc2 => ?_⟩
    · replace hc2 : (i : Int) < (tcs D).length := of_decide_eq_true hc2
      obtain ⟨v, hv⟩ : ∃ v, D[i]? = some v := ⟨D[i]'(by omega), List.getElem?_eq_getElem (by omega)⟩
      have hvc := tcs_at D i v hv
      obtain ⟨d', hv1, hv2, hv3⟩ := hD v (List.mem_of_getElem? hv)
      have hst : orE b0 ((D.take (i + 1)).flatMap (stepE sig sz hn true)) = orE (orE b0 ((D.take i).flatMap (stepE sig sz hn true))) (stepE sig sz hn true v) := by
        rw [orE_app, List.take_add_one, hv, List.flatMap_append]
        simp
      generalize orE b0 ((D.take i).flatMap (stepE sig sz hn true)) = fj at *
      unfold stepE at hst
      rw [← orE_app, Bool.true_and] at hst
      have hpt := cPutM sig hpr hsl fj v d' hv1 hv2 hn (by omega)
      generalize orE fj (if tgB sig v then [(tg v, hn)] else []) = fp at *
      have hst2 := cStands sig hpr hsl sz v d' hv1 hv2 hv3 fp
      rw [← hst] at hst2
      obtain ⟨k', l', n', us⟩ := v
      rw [tv_mk] at *
      conv => whnf
      repeat ((first | refine aI rfl ?_ | refine aI (by decide) ?_ | refine dI (by kernel_rfl) ?_ | refine aI ⟨by omega, by omega⟩ ?_ | refine aI (by omega) ?_ | refine aI (fun _ => ⟨by omega, by omega⟩) ?_ | refine aI (of_decide_eq_true rfl) ?_ | (refine yI ?_ ?_; focus (first | decide | (simp; done) | (simp [tcs]; done))) | (refine nI ?_ ?_; focus (first | decide | (simp; done) | (simp [tcs]; done))) | intro _); conv => whnf)
      refine ⟨_, ⟨by omega, by simpa using hvc⟩, ?_⟩
      conv => whnf
      refine ⟨Nat.le_refl 4, ?_⟩
      conv => whnf
      repeat ((first | refine aI rfl ?_ | refine aI (by decide) ?_ | refine dI (by kernel_rfl) ?_ | refine aI ⟨by omega, by omega⟩ ?_ | refine aI (by omega) ?_ | refine aI (fun _ => ⟨by omega, by omega⟩) ?_ | refine aI (of_decide_eq_true rfl) ?_ | (refine yI ?_ ?_; focus (first | decide | (simp; done) | (simp [tcs]; done))) | (refine nI ?_ ?_; focus (first | decide | (simp; done) | (simp [tcs]; done))) | intro _); conv => whnf)
      try (refine dI (by kernel_rfl) ?_; conv => whnf)
      first | refine CallSt.use hha [] trivial (by decide) rfl ?_ | refine CallPt.useS hha [] trivial (by decide) rfl ?_
      rintro _ _ ⟨rfl, rfl⟩ _
      conv => whnf
      repeat ((first | refine aI rfl ?_ | refine aI (by decide) ?_ | refine dI (by kernel_rfl) ?_ | refine aI ⟨by omega, by omega⟩ ?_ | refine aI (by omega) ?_ | refine aI (fun _ => ⟨by omega, by omega⟩) ?_ | refine aI (of_decide_eq_true rfl) ?_ | (refine yI ?_ ?_; focus (first | decide | (simp; done) | (simp [tcs]; done))) | (refine nI ?_ ?_; focus (first | decide | (simp; done) | (simp [tcs]; done))) | intro _); conv => whnf)
      try (refine dI (by kernel_rfl) ?_; conv => whnf)
      first | refine CallSt.use hpt [0, 1, 2] ⟨rfl, rfl, rfl, trivial⟩ (by decide) rfl ?_ | refine CallPt.useS hpt [0, 1, 2] ⟨rfl, rfl, rfl, trivial⟩ (by decide) rfl ?_
      rintro _ _ ⟨rfl, rfl⟩ _
      conv => whnf
      repeat ((first | refine aI rfl ?_ | refine aI (by decide) ?_ | refine dI (by kernel_rfl) ?_ | refine aI ⟨by omega, by omega⟩ ?_ | refine aI (by omega) ?_ | refine aI (fun _ => ⟨by omega, by omega⟩) ?_ | refine aI (of_decide_eq_true rfl) ?_ | (refine yI ?_ ?_; focus (first | decide | (simp; done) | (simp [tcs]; done))) | (refine nI ?_ ?_; focus (first | decide | (simp; done) | (simp [tcs]; done))) | intro _); conv => whnf)
      try (refine dI (by kernel_rfl) ?_; conv => whnf)
      first | refine CallSt.use hst2 [0, 1, 2, 3, 4] ⟨rfl, rfl, rfl, rfl, rfl, trivial⟩ (by decide) rfl ?_ | refine CallPt.useS hst2 [0, 1, 2, 3, 4] ⟨rfl, rfl, rfl, rfl, rfl, trivial⟩ (by decide) rfl ?_
      rintro _ _ ⟨rfl, rfl⟩ _
      conv => whnf
      repeat ((first | refine aI rfl ?_ | refine aI (by decide) ?_ | refine dI (by kernel_rfl) ?_ | refine aI ⟨by omega, by omega⟩ ?_ | refine aI (by omega) ?_ | refine aI (fun _ => ⟨by omega, by omega⟩) ?_ | refine aI (of_decide_eq_true rfl) ?_ | (refine yI ?_ ?_; focus (first | decide | (simp; done) | (simp [tcs]; done))) | (refine nI ?_ ?_; focus (first | decide | (simp; done) | (simp [tcs]; done))) | intro _); conv => whnf)
      exact ⟨mm - 1, _, _, by omega, ⟨i + 1, by omega, rfl, rfl⟩, Wk.sl [0, 1, 2, 3, 4] rfl ⟨rfl, rfl, rfl, rfl, rfl, trivial⟩ ⟨rfl, rfl, rfl, rfl, rfl, rfl, rfl, rfl, rfl, rfl, rfl, trivial⟩ rfl⟩
    · replace hc2 : ¬ (i : Int) < (tcs D).length := of_decide_eq_false hc2
      obtain rfl : i = D.length := by omega
      rw [List.take_length, ← hnx]
      conv => whnf
      repeat ((first | refine aI rfl ?_ | refine aI (by decide) ?_ | refine dI (by kernel_rfl) ?_ | refine aI ⟨by omega, by omega⟩ ?_ | refine aI (by omega) ?_ | refine aI (fun _ => ⟨by omega, by omega⟩) ?_ | refine aI (of_decide_eq_true rfl) ?_ | (refine yI ?_ ?_; focus (first | decide | (simp; done) | (simp [tcs]; done))) | (refine nI ?_ ?_; focus (first | decide | (simp; done) | (simp [tcs]; done))) | intro _); conv => whnf)
      exact ⟨m - 1, _, _, by omega, ⟨j + 1, by omega, rfl, rfl⟩, Wk.sl [0, 1, 2, 3, 4] rfl ⟨rfl, rfl, rfl, rfl, rfl, trivial⟩ ⟨rfl, rfl, rfl, rfl, rfl, rfl, rfl, trivial⟩ rfl⟩
  · replace hc : ¬ (j : Int) < (dcs sig).length := of_decide_eq_false hc
    obtain rfl : j = sig.length := by omega
    generalize bwP sig sig.length = fp at *
    generalize belM sig = fm at *
    conv => whnf
    repeat ((first | refine aI rfl ?_ | refine aI (by decide) ?_ | refine dI (by kernel_rfl) ?_ | refine aI ⟨by omega, by omega⟩ ?_ | refine aI (by omega) ?_ | refine aI (fun _ => ⟨by omega, by omega⟩) ?_ | refine aI (of_decide_eq_true rfl) ?_ | (refine yI ?_ ?_; focus (first | decide | (simp; done) | (simp [tcs]; done))) | (refine nI ?_ ?_; focus (first | decide | (simp; done) | (simp [tcs]; done))) | intro _); conv => whnf)
    try (refine dI (by kernel_rfl) ?_; conv => whnf)
    first | refine CallSt.use hcl [1] ⟨rfl, trivial⟩ (by decide) rfl ?_ | refine CallPt.useS hcl [1] ⟨rfl, trivial⟩ (by decide) rfl ?_
    rintro _ _ ⟨rfl, rfl⟩ _
    conv => whnf
    repeat ((first | refine aI rfl ?_ | refine aI (by decide) ?_ | refine dI (by kernel_rfl) ?_ | refine aI ⟨by omega, by omega⟩ ?_ | refine aI (by omega) ?_ | refine aI (fun _ => ⟨by omega, by omega⟩) ?_ | refine aI (of_decide_eq_true rfl) ?_ | (refine yI ?_ ?_; focus (first | decide | (simp; done) | (simp [tcs]; done))) | (refine nI ?_ ?_; focus (first | decide | (simp; done) | (simp [tcs]; done))) | intro _); conv => whnf)
    refine ⟨[(2, .elt 0 10000 0 0)], [.row 106 10000 1 [mrow fm]], Wk.sl [1] rfl ⟨rfl, trivial⟩ ⟨rfl, trivial⟩ rfl, ?_⟩
    conv => whnf
    exact ⟨rfl, rfl⟩
end Go.Tr
/- depend.Users, depend.Needs. -/
namespace Go.Tr
open Go.Proofs
end Go.Tr
/- depend.Needs. -/
namespace Go.Tr
open Go.Proofs
theorem etaR_len (l : List CV) : ∀ n d, (etaR l d n).length = n
  | 0, _ => rfl
  | n + 1, d => by rw [etaR, List.length_cons, etaR_len l n]
theorem etaR_at (l : List CV) : ∀ n d j, j < n → (etaR l d n)[j]? = some (.c (l.getD (d + j) (.bool false)))
  | 0, _, j, h => absurd h (Nat.not_lt_zero j)
  | n + 1, d, 0, _ => by rw [etaR]; rfl
  | n + 1, d, j + 1, h => by
    rw [etaR, List.getElem?_cons_succ, etaR_at l n (d + 1) j (by omega), show d + 1 + j = d + (j + 1) by omega]
def lrow (f : Nat → Nat → Bool) (q : Nat) : List AV := (List.range 100).map fun j => .c (.bool (f q j))
theorem lrow_at (f : Nat → Nat → Bool) (q : Nat) {j : Nat} (h : j < 100) : (lrow f q)[(j : Int).toNat]? = some (.c (.bool (f q j))) := by
  unfold lrow
  rw [Int.toNat_natCast, List.getElem?_map, List.getElem?_range h]
  rfl
theorem rens_pure (φ : Nat → Nat) : ∀ l : List CV, AV.rens φ (l.map .c) = l.map .c
  | [] => rfl
  | x :: r => by rw [List.map_cons, AV.rens, AV.ren, rens_pure φ r]
theorem ren_lrow (φ : Nat → Nat) (f : Nat → Nat → Bool) (q : Nat) : AV.agg (lrow f q) = AV.ren φ (.agg (lrow f q)) := by
  rw [AV.ren]
  unfold lrow
  have := rens_pure φ ((List.range 100).map fun j => .bool (f q j))
  rw [List.map_map] at this
  exact congrArg _ this.symm
theorem etaR_mrow (f : Nat → Nat → Bool) {q : Nat} (hq : q < 100) : etaR (mrow f) (q * 100) 100 = lrow f q := by
  refine List.ext_getElem? fun j => ?_
  by_cases hj : j < 100
  · rw [etaR_at _ _ _ _ hj]
    have := lrow_at f q hj
    rw [Int.toNat_natCast] at this
    rw [this, List.getD_eq_getElem?_getD, mrow_at f hq hj]
    rfl
  · rw [List.getElem?_eq_none (by rw [etaR_len]; omega), List.getElem?_eq_none (by unfold lrow; rw [List.length_map, List.length_range]; omega)]
attribute [irreducible] lrow
theorem load_row {k : TK} {s : Nat} (hs : s = 100) {f : Nat → Nat → Bool} {q : Nat} (hq : q < 100) {K : AV → Prop} (h : wrapAgg k (lrow f q) K) : 0 + (q : Int).toNat * s + s ≤ (mrow f).length ∧ wrapAgg k (etaR (mrow f) (0 + (q : Int).toNat * s) s) K := by
  subst hs
  rw [Int.toNat_natCast, Nat.zero_add, etaR_mrow f hq, mrow_len]
  exact ⟨by omega, h⟩
end Go.Tr
/- depend.Below. -/
namespace Go.Tr
open Go.Proofs
def fstE : List Int → Int
  | [] => 0
  | e :: r => match decide (e = 0) with | true => fstE r | false => e
theorem fst_no : ∀ (L : List Int) (j : Nat) (e : Int), L[j]? = some e → e ≠ 0 → fstE (L.drop j) = e
  | [], _, _, h, _ => nomatch h
  | x :: r, 0, e, h, he => by
    cases h
    rw [List.drop_zero, fstE, decide_eq_false he]
  | x :: r, j + 1, e, h, he => by
    rw [List.drop_succ_cons]
    exact fst_no r j e (by simpa using h) he
theorem fst_yes : ∀ (L : List Int) (j : Nat), L[j]? = some 0 → fstE (L.drop j) = fstE (L.drop (j + 1))
  | [], _, h => nomatch h
  | x :: r, 0, h => by
    cases h
    rw [List.drop_zero, fstE, decide_eq_true rfl]
    rfl
  | x :: r, j + 1, h => by
    rw [List.drop_succ_cons, List.drop_succ_cons]
    exact fst_yes r j (by simpa using h)
def belL (sig : List Dcl) (a b : Int) : List Int := [hasE sig a, hasE sig b, famE sig a, famE sig b]
def belE (sig : List Dcl) (a b : Int) : Int := fstE (belL sig a b)
theorem belE_ok {sig : List Dcl} {a b : Int} (h : belE sig a b = 0) : hasE sig a = 0 ∧ hasE sig b = 0 ∧ famE sig a = 0 ∧ famE sig b = 0 := by
  unfold belE belL at h
  have : ∀ (e : Int) (r : List Int), fstE (e :: r) = 0 → e = 0 ∧ fstE r = 0 := fun e r h => by
    rw [fstE] at h
    by_cases he : e = 0
    · rw [decide_eq_true he] at h
      exact ⟨he, h⟩
    · rw [decide_eq_false he] at h
      exact absurd h he
  obtain ⟨h1, h⟩ := this _ _ h
  obtain ⟨h2, h⟩ := this _ _ h
  obtain ⟨h3, h⟩ := this _ _ h
  obtain ⟨h4, h⟩ := this _ _ h
  exact ⟨h1, h2, h3, h4⟩
theorem bel1 (sig : List Dcl) (a b : Int) {j : Nat} {x : Int} (h : [a, b][j]? = some x) : (belL sig a b)[j]? = some (hasE sig x) := by
  match j, h with
  | 0, h => cases h; rfl
  | 1, h => cases h; rfl
theorem bel2 (sig : List Dcl) (a b : Int) {j : Nat} {x : Int} (h : [a, b][j]? = some x) : (belL sig a b)[2 + j]? = some (famE sig x) := by
  match j, h with
  | 0, h => cases h; rfl
  | 1, h => cases h; rfl
theorem cBelowD (sig : List Dcl) (a b : Int) : CallSt Tryz.prog 27 [.c (.sl 6 72 (dcs sig)), .c (.int .i64 (a)), .c (.int .i64 (b))] [] (fun r H' => r = .tup [.c (.bool (decide (belE sig a b = 0) && belM sig a.toNat b.toNat)), .c (.int .i64 (belE sig a b))] ∧ H' = []) := by
  have hh := cDHas sig
  have hf := cDFam sig
  have hb1 := fun j x h => @bel1 sig a b j x h
  have hb2 := fun j x h => @bel2 sig a b j x h
  have hok := @belE_ok sig a b
  have hB : belE sig a b = fstE ((belL sig a b).drop 0) := rfl
  have hbl : (belL sig a b).length = 4 := rfl
  have hM := cBelowM sig
  have hhc := hasE_cases sig
  generalize belE sig a b = BE at *
  generalize belL sig a b = L at *
  generalize belM sig = fm at *
  refine call_pure (E := envB 0) (fn := Tryz.f27) (c := bodyOf Tryz.f27) (envB_ok 0) mixed (by kernel_rfl) (by kernel_rfl) (by kernel_rfl) (by kernel_rfl) (by kernel_rfl) (by kernel_rfl) rfl ?_
  conv => whnf
  repeat ((first | refine aI rfl ?_ | refine aI (by decide) ?_ | refine dI (by kernel_rfl) ?_ | refine aI ⟨by omega, by omega⟩ ?_ | refine aI (by omega) ?_ | refine aI (fun _ => ⟨by omega, by omega⟩) ?_ | refine aI (of_decide_eq_true rfl) ?_ | (refine yI ?_ ?_; focus (first | decide | (simp; done) | (simp [tcs]; done))) | (refine nI ?_ ?_; focus (first | decide | (simp; done) | (simp [tcs]; done))) | intro _); conv => whnf)
  refine loop_intro (fun m tm H => ∃ j : Nat, 2 = m + j ∧ BE = fstE (L.drop j) ∧
    tm = [(18, .c (.int .i64 (j))), (17, .c (.int .i64 (2))), (16, .own 0), (0, .c (.sl 6 72 (dcs sig))), (1, .c (.int .i64 (a))), (2, .c (.int .i64 (b)))] ∧ H = [.row 3 1 8 (rowI [a, b])])
    2 _ _ ⟨0, by omega, hB, rfl, rfl⟩ (Wk.sl [0] rfl ⟨rfl, trivial⟩ ⟨rfl, rfl, rfl, rfl, rfl, rfl, trivial⟩ rfl) ?_
  rintro m tm H ⟨j, hj, hBj, rfl, rfl⟩
  conv => whnf
  refine ⟨fun hlt => ?_, fun hlt => ?_⟩
  · replace hlt : (j : Int) < 2 := of_decide_eq_true hlt
    obtain ⟨x, hx⟩ : ∃ x, [a, b][j]? = some x := ⟨[a, b][j]'(show j < 2 by omega), List.getElem?_eq_getElem (show j < 2 by omega)⟩
    have hxr := rowI_at hx
    have hhx := hh x
    have hbx := hb1 j x hx
    generalize hasE sig x = e at *
    have hrl : (rowI [a, b]).length = 2 := rfl
    have hxq : (rowI [a, b])[(j : Int).toNat]? = some [.int .i64 x] := rowI_at hx
    conv => whnf
    repeat ((first | refine aI rfl ?_ | refine aI (by decide) ?_ | refine dI (by kernel_rfl) ?_ | refine aI ⟨by omega, by omega⟩ ?_ | refine aI (by omega) ?_ | refine aI (fun _ => ⟨by omega, by omega⟩) ?_ | refine aI (of_decide_eq_true rfl) ?_ | (refine yI ?_ ?_; focus (first | decide | (simp; done) | (simp [tcs]; done))) | (refine nI ?_ ?_; focus (first | decide | (simp; done) | (simp [tcs]; done))) | intro _); conv => whnf)
    refine ⟨_, hxq, Nat.le_refl 1, ?_⟩
    conv => whnf
    repeat ((first | refine aI rfl ?_ | refine aI (by decide) ?_ | refine dI (by kernel_rfl) ?_ | refine aI ⟨by omega, by omega⟩ ?_ | refine aI (by omega) ?_ | refine aI (fun _ => ⟨by omega, by omega⟩) ?_ | refine aI (of_decide_eq_true rfl) ?_ | (refine yI ?_ ?_; focus (first | decide | (simp; done) | (simp [tcs]; done))) | (refine nI ?_ ?_; focus (first | decide | (simp; done) | (simp [tcs]; done))) | intro _); conv => whnf)
    try (refine dI (by kernel_rfl) ?_; conv => whnf)
    first | refine CallSt.use hhx [] trivial (by decide) rfl ?_ | refine CallPt.useS hhx [] trivial (by decide) rfl ?_
    rintro _ _ ⟨rfl, rfl⟩ _
    conv => whnf
    repeat ((first | refine aI rfl ?_ | refine aI (by decide) ?_ | refine dI (by kernel_rfl) ?_ | refine aI ⟨by omega, by omega⟩ ?_ | refine aI (by omega) ?_ | refine aI (fun _ => ⟨by omega, by omega⟩) ?_ | refine aI (of_decide_eq_true rfl) ?_ | (refine yI ?_ ?_; focus (first | decide | (simp; done) | (simp [tcs]; done))) | (refine nI ?_ ?_; focus (first | decide | (simp; done) | (simp [tcs]; done))) | intro _); conv => whnf)
    refine ⟨fun he => ?_, fun he => ?_⟩
    · replace he : ¬ e = 0 := by simpa using he
      rw [fst_no L j e hbx he] at hBj
      subst hBj
      rw [decide_eq_false he]
      conv => whnf
      repeat ((first | refine aI rfl ?_ | refine aI (by decide) ?_ | refine dI (by kernel_rfl) ?_ | refine aI ⟨by omega, by omega⟩ ?_ | refine aI (by omega) ?_ | refine aI (fun _ => ⟨by omega, by omega⟩) ?_ | refine aI (of_decide_eq_true rfl) ?_ | (refine yI ?_ ?_; focus (first | decide | (simp; done) | (simp [tcs]; done))) | (refine nI ?_ ?_; focus (first | decide | (simp; done) | (simp [tcs]; done))) | intro _); conv => whnf)
      all_goals (first | rfl | exact ⟨rfl, rfl⟩ | exact ⟨rfl, rfl, rfl⟩)
    · replace he : e = 0 := by simpa using he
      subst he
      rw [fst_yes L j hbx] at hBj
      conv => whnf
      repeat ((first | refine aI rfl ?_ | refine aI (by decide) ?_ | refine dI (by kernel_rfl) ?_ | refine aI ⟨by omega, by omega⟩ ?_ | refine aI (by omega) ?_ | refine aI (fun _ => ⟨by omega, by omega⟩) ?_ | refine aI (of_decide_eq_true rfl) ?_ | (refine yI ?_ ?_; focus (first | decide | (simp; done) | (simp [tcs]; done))) | (refine nI ?_ ?_; focus (first | decide | (simp; done) | (simp [tcs]; done))) | intro _); conv => whnf)
      exact ⟨m - 1, _, _, by omega, ⟨j + 1, by omega, hBj, rfl, rfl⟩, Wk.sl [0] rfl ⟨rfl, trivial⟩ ⟨rfl, rfl, rfl, rfl, rfl, rfl, trivial⟩ rfl⟩
  · replace hlt : ¬ (j : Int) < 2 := of_decide_eq_false hlt
    obtain rfl : j = 2 := by omega
    conv => whnf
    repeat ((first | refine aI rfl ?_ | refine aI (by decide) ?_ | refine dI (by kernel_rfl) ?_ | refine aI ⟨by omega, by omega⟩ ?_ | refine aI (by omega) ?_ | refine aI (fun _ => ⟨by omega, by omega⟩) ?_ | refine aI (of_decide_eq_true rfl) ?_ | (refine yI ?_ ?_; focus (first | decide | (simp; done) | (simp [tcs]; done))) | (refine nI ?_ ?_; focus (first | decide | (simp; done) | (simp [tcs]; done))) | intro _); conv => whnf)
    refine loop_intro (fun m tm H => ∃ j : Nat, 2 = m + j ∧ BE = fstE (L.drop (2 + j)) ∧
      tm = [(33, .c (.int .i64 (j))), (32, .c (.int .i64 (2))), (31, .own 0), (0, .c (.sl 6 72 (dcs sig))), (1, .c (.int .i64 (a))), (2, .c (.int .i64 (b)))] ∧ H = [.row 3 1 8 (rowI [a, b])])
      2 _ _ ⟨0, by omega, hBj, rfl, rfl⟩ (Wk.sl [1] rfl ⟨rfl, trivial⟩ ⟨rfl, rfl, rfl, rfl, rfl, rfl, trivial⟩ rfl) ?_
    clear hBj hj
    rintro m tm H ⟨j, hj, hBj, rfl, rfl⟩
    conv => whnf
    refine ⟨fun hlt => ?_, fun hlt => ?_⟩
    · replace hlt : (j : Int) < 2 := of_decide_eq_true hlt
      obtain ⟨x, hx⟩ : ∃ x, [a, b][j]? = some x := ⟨[a, b][j]'(show j < 2 by omega), List.getElem?_eq_getElem (show j < 2 by omega)⟩
      have hfx := hf x
      have hbx := hb2 j x hx
      generalize famE sig x = e at *
      have hrl : (rowI [a, b]).length = 2 := rfl
      have hxq : (rowI [a, b])[(j : Int).toNat]? = some [.int .i64 x] := rowI_at hx
      conv => whnf
      repeat ((first | refine aI rfl ?_ | refine aI (by decide) ?_ | refine dI (by kernel_rfl) ?_ | refine aI ⟨by omega, by omega⟩ ?_ | refine aI (by omega) ?_ | refine aI (fun _ => ⟨by omega, by omega⟩) ?_ | refine aI (of_decide_eq_true rfl) ?_ | (refine yI ?_ ?_; focus (first | decide | (simp; done) | (simp [tcs]; done))) | (refine nI ?_ ?_; focus (first | decide | (simp; done) | (simp [tcs]; done))) | intro _); conv => whnf)
      refine ⟨_, hxq, Nat.le_refl 1, ?_⟩
      conv => whnf
      repeat ((first | refine aI rfl ?_ | refine aI (by decide) ?_ | refine dI (by kernel_rfl) ?_ | refine aI ⟨by omega, by omega⟩ ?_ | refine aI (by omega) ?_ | refine aI (fun _ => ⟨by omega, by omega⟩) ?_ | refine aI (of_decide_eq_true rfl) ?_ | (refine yI ?_ ?_; focus (first | decide | (simp; done) | (simp [tcs]; done))) | (refine nI ?_ ?_; focus (first | decide | (simp; done) | (simp [tcs]; done))) | intro _); conv => whnf)
      try (refine dI (by kernel_rfl) ?_; conv => whnf)
      first | refine CallSt.use hfx [] trivial (by decide) rfl ?_ | refine CallPt.useS hfx [] trivial (by decide) rfl ?_
      rintro _ _ ⟨rfl, rfl⟩ _
      conv => whnf
      repeat ((first | refine aI rfl ?_ | refine aI (by decide) ?_ | refine dI (by kernel_rfl) ?_ | refine aI ⟨by omega, by omega⟩ ?_ | refine aI (by omega) ?_ | refine aI (fun _ => ⟨by omega, by omega⟩) ?_ | refine aI (of_decide_eq_true rfl) ?_ | (refine yI ?_ ?_; focus (first | decide | (simp; done) | (simp [tcs]; done))) | (refine nI ?_ ?_; focus (first | decide | (simp; done) | (simp [tcs]; done))) | intro _); conv => whnf)
      refine ⟨fun he => ?_, fun he => ?_⟩
      · replace he : ¬ e = 0 := by simpa using he
        rw [fst_no L (2 + j) e hbx he] at hBj
        subst hBj
        rw [decide_eq_false he]
        conv => whnf
        repeat ((first | refine aI rfl ?_ | refine aI (by decide) ?_ | refine dI (by kernel_rfl) ?_ | refine aI ⟨by omega, by omega⟩ ?_ | refine aI (by omega) ?_ | refine aI (fun _ => ⟨by omega, by omega⟩) ?_ | refine aI (of_decide_eq_true rfl) ?_ | (refine yI ?_ ?_; focus (first | decide | (simp; done) | (simp [tcs]; done))) | (refine nI ?_ ?_; focus (first | decide | (simp; done) | (simp [tcs]; done))) | intro _); conv => whnf)
        all_goals (first | rfl | exact ⟨rfl, rfl⟩ | exact ⟨rfl, rfl, rfl⟩)
      · replace he : e = 0 := by simpa using he
        subst he
        rw [fst_yes L (2 + j) hbx] at hBj
        conv => whnf
        repeat ((first | refine aI rfl ?_ | refine aI (by decide) ?_ | refine dI (by kernel_rfl) ?_ | refine aI ⟨by omega, by omega⟩ ?_ | refine aI (by omega) ?_ | refine aI (fun _ => ⟨by omega, by omega⟩) ?_ | refine aI (of_decide_eq_true rfl) ?_ | (refine yI ?_ ?_; focus (first | decide | (simp; done) | (simp [tcs]; done))) | (refine nI ?_ ?_; focus (first | decide | (simp; done) | (simp [tcs]; done))) | intro _); conv => whnf)
        exact ⟨m - 1, _, _, by omega, ⟨j + 1, by omega, hBj, rfl, rfl⟩, Wk.sl [0] rfl ⟨rfl, trivial⟩ ⟨rfl, rfl, rfl, rfl, rfl, rfl, trivial⟩ rfl⟩
    · replace hlt : ¬ (j : Int) < 2 := of_decide_eq_false hlt
      obtain rfl : j = 2 := by omega
      rw [List.drop_of_length_le (by omega)] at hBj
      obtain rfl : BE = 0 := hBj
      obtain ⟨h1, h2, _⟩ := hok rfl
      obtain ⟨hc, ha0, ha1⟩ := hasE_ok h1
      obtain ⟨_, hb0, hb1⟩ := hasE_ok h2
      have hm := hM hc
      have hl := check_len hc
      obtain ⟨p, rfl⟩ : ∃ p : Nat, a = p := ⟨a.toNat, by omega⟩
      obtain ⟨q, rfl⟩ : ∃ q : Nat, b = q := ⟨b.toNat, by omega⟩
      rw [decide_eq_true (show (0 : Int) = 0 from rfl), Bool.true_and, Int.toNat_natCast, Int.toNat_natCast]
      conv => whnf
      repeat ((first | refine aI rfl ?_ | refine aI (by decide) ?_ | refine dI (by kernel_rfl) ?_ | refine aI ⟨by omega, by omega⟩ ?_ | refine aI (by omega) ?_ | refine aI (fun _ => ⟨by omega, by omega⟩) ?_ | refine aI (of_decide_eq_true rfl) ?_ | (refine yI ?_ ?_; focus (first | decide | (simp; done) | (simp [tcs]; done))) | (refine nI ?_ ?_; focus (first | decide | (simp; done) | (simp [tcs]; done))) | intro _); conv => whnf)
      try (refine dI (by kernel_rfl) ?_; conv => whnf)
      first | refine CallSt.use hm [] trivial (by decide) rfl ?_ | refine CallPt.useS hm [] trivial (by decide) rfl ?_
      rintro _ _ ⟨rfl, rfl⟩ _
      conv => whnf
      repeat ((first | refine aI rfl ?_ | refine aI (by decide) ?_ | refine dI (by kernel_rfl) ?_ | refine aI ⟨by omega, by omega⟩ ?_ | refine aI (by omega) ?_ | refine aI (fun _ => ⟨by omega, by omega⟩) ?_ | refine aI (of_decide_eq_true rfl) ?_ | (refine yI ?_ ?_; focus (first | decide | (simp; done) | (simp [tcs]; done))) | (refine nI ?_ ?_; focus (first | decide | (simp; done) | (simp [tcs]; done))) | intro _); conv => whnf)
      refine ⟨fm p q, ⟨_, rfl, mrow_at2 fm (by omega) (by omega)⟩, ?_⟩
      conv => whnf
      repeat ((first | refine aI rfl ?_ | refine aI (by decide) ?_ | refine dI (by kernel_rfl) ?_ | refine aI ⟨by omega, by omega⟩ ?_ | refine aI (by omega) ?_ | refine aI (fun _ => ⟨by omega, by omega⟩) ?_ | refine aI (of_decide_eq_true rfl) ?_ | (refine yI ?_ ?_; focus (first | decide | (simp; done) | (simp [tcs]; done))) | (refine nI ?_ ?_; focus (first | decide | (simp; done) | (simp [tcs]; done))) | intro _); conv => whnf)
      all_goals (first | rfl | exact ⟨rfl, rfl⟩ | exact ⟨rfl, rfl, rfl⟩)
end Go.Tr
/- depend.Table. -/
namespace Go.Tr
open Go.Proofs
def rowL (L : List (List Int)) : List (List CV) := L.map fun l => [.sl 1 8 (rowI l)]
theorem len_rowL (L : List (List Int)) : (rowL L).length = L.length := by simp [rowL]
theorem rowL_snoc (L : List (List Int)) (l : List Int) : rowL L ++ [[.sl 1 8 (rowI l)]] = rowL (L ++ [l]) := by simp [rowL]
end Go.Tr
/- depend.Groups: the next group. -/
namespace Go.Tr
open Go.Proofs
def drow (d : Nat → Bool) : List CV := (List.range 100).map fun k => .bool (d k)
theorem drow_len (d : Nat → Bool) : (drow d).length = 100 := by simp [drow]
theorem drow_at (d : Nat → Bool) {a : Nat} (ha : a < 100) : (drow d)[0 + (a : Int).toNat * 1]? = some (.bool (d a)) := by
  rw [Int.toNat_natCast, Nat.zero_add, Nat.mul_one]
  unfold drow
  rw [List.getElem?_map, List.getElem?_range ha]
  rfl
def updD (d : Nat → Bool) (a : Nat) : Nat → Bool := fun x => d x || decide (x = a)
theorem drow_set (d : Nat → Bool) {a : Nat} (ha : a < 100) : 0 + (a : Int).toNat * 1 + 1 ≤ (drow d).length ∧ (drow d).set (0 + (a : Int).toNat * 1) (.bool true) = drow (updD d a) := by
  rw [Int.toNat_natCast, Nat.zero_add, Nat.mul_one, drow_len]
  refine ⟨by omega, List.ext_getElem? fun k => ?_⟩
  rw [List.getElem?_set]
  unfold drow
  by_cases hk : a = k
  · subst hk
    rw [if_pos rfl, if_pos (by simp; omega), List.getElem?_map, List.getElem?_range (by omega)]
    simp [updD]
  · rw [if_neg hk, List.getElem?_map, List.getElem?_map]
    by_cases hl : k < 100
    · rw [List.getElem?_range hl]
      have : ¬ k = a := fun e => hk e.symm
      simp [updD, this]
    · rw [List.getElem?_eq_none (by simp; omega)]
      rfl
theorem drow_zero : (List.replicate 100 (CV.bool false)) = drow (fun _ => false) := by
  unfold drow
  rw [List.map_const', List.length_range]
attribute [irreducible] drow
def okB (f : Nat → Nat → Bool) (d : Nat → Bool) (a b : Nat) : Bool := (f b a && f a b) || !(f b a && !d b)
def okG (f : Nat → Nat → Bool) (kd d : Nat → Bool) (n a : Nat) : Bool := !d a && kd a && (List.range n).all fun b => okB f d a b
def grp (f : Nat → Nat → Bool) (n a : Nat) : List Int := upTo (fun b => f b a && f a b) n
def nxG (ok : Nat → Bool) (n : Nat) : Option Nat := (List.range n).find? ok
theorem nxG_some {ok : Nat → Bool} {n a : Nat} (ha : a < n) (h : ok a = true) (hn : ∀ i, i < a → ok i = false) : nxG ok n = some a := by
  unfold nxG
  rw [List.find?_range_eq_some]
  exact ⟨h, by simpa using ha, fun j hj => by simp [hn j hj]⟩
theorem nxG_none {ok : Nat → Bool} {n : Nat} (hn : ∀ i, i < n → ok i = false) : nxG ok n = none := by
  unfold nxG
  rw [List.find?_eq_none]
  intro x hx
  rw [hn x (by simpa using hx)]
  simp
theorem nxG_of {ok : Nat → Bool} {n a : Nat} (h : nxG ok n = some a) : a < n ∧ ok a = true := by
  unfold nxG at h
  rw [List.find?_range_eq_some] at h
  exact ⟨by simpa using h.2.1, h.1⟩
def nxW (f : Nat → Nat → Bool) (n : Nat) : Option Nat → AV
  | some a => .c (.sl 1 8 (rowI (grp f n a)))
  | none => .nil
abbrev gpH (sig : List Dcl) (d : Nat → Bool) (f : Nat → Nat → Bool) : HP := [.box [.c (.sl 6 72 (dcs sig))], .row 82 100 1 [drow d], .box [.elt 3 10000 0 0], .row 106 10000 1 [mrow f]]
theorem cGrpS (sig : List Dcl) (hp : ∀ e ∈ sig, prop e.c = true) (hl : sig.length ≤ 100) (d : Nat → Bool) (f : Nat → Nat → Bool) {g : Nat} (ho : nxG (okG f (fun n => kindAt sig n) d sig.length) sig.length = some g) :
    CallSt Tryz.prog 56 [.ptr 0 0, .elt 1 100 0 0, .ptr 2 0] (gpH sig d f) (fun r H' => r = .c (.sl 1 8 (rowI (grp f sig.length g))) ∧ H' = gpH sig d f) := by
  have hbl := len_dcs sig
  have hfm := fun (n : Int) h0 h1 => cFam2 hp (n := n) h0 h1
  have hnone := fun h => @nxG_none (okG f (fun n => kindAt sig n) d sig.length) sig.length h
  have hsome := fun a h1 h2 h3 => @nxG_some (okG f (fun n => kindAt sig n) d sig.length) sig.length a h1 h2 h3
  have hok : ∀ a, okG f (fun n => kindAt sig n) d sig.length a = (!d a && kindAt sig a && (List.range sig.length).all fun b => okB f d a b) := fun a => rfl
  generalize okG f (fun n => kindAt sig n) d sig.length = ok at *
  refine call_pure (E := envB 4) (fn := Tryz.f56) (c := bodyOf Tryz.f56) (envB_ok 4) mixed (by kernel_rfl) (by kernel_rfl) (by kernel_rfl) (by kernel_rfl) (by kernel_rfl) (by kernel_rfl) rfl ?_
  conv => whnf
  repeat ((first | refine aI rfl ?_ | refine aI (by decide) ?_ | refine dI (by kernel_rfl) ?_ | refine aI ⟨by omega, by omega⟩ ?_ | refine aI (by omega) ?_ | refine aI (fun _ => ⟨by omega, by omega⟩) ?_ | refine aI (of_decide_eq_true rfl) ?_ | (refine yI ?_ ?_; focus (first | decide | (simp; done) | (simp [tcs]; done))) | (refine nI ?_ ?_; focus (first | decide | (simp; done) | (simp [tcs]; done))) | intro _); conv => whnf)
  refine loop_intro (fun m tm H => ∃ j : Nat, sig.length = m + j ∧ (∀ i, i < j → ok i = false) ∧
    tm = [(9, .c (.int .i64 (j))), (8, .c (.int .i64 ((dcs sig).length))), (0, .ptr 0 0), (1, .elt 1 100 0 0), (2, .ptr 2 0)] ∧ H = gpH sig d f)
    sig.length _ _ ⟨0, by omega, fun i hi => absurd hi (by omega), rfl, rfl⟩ ?_ ?_
  · exact Wk.sl [0, 1, 2, 3] rfl ⟨rfl, rfl, rfl, rfl, trivial⟩ ⟨rfl, rfl, rfl, rfl, rfl, trivial⟩ rfl
  rintro m tm H ⟨j, hj, hlow, rfl, rfl⟩
  conv => whnf
  refine ⟨fun hlt => ?_, fun hlt => ?_⟩
  · replace hlt : (j : Int) < (dcs sig).length := of_decide_eq_true hlt
    have hfj := hfm j (by omega) (by omega)
    have hoj := hok j
    generalize kindAt sig j = kj at *
    have hda : (drow d)[0 + (j : Int).toNat * 1]? = some (.bool (d j)) := drow_at d (by omega)
    have hskip : ok j = false → ∀ i, i < j + 1 → ok i = false := fun h i hi => (by
      by_cases e : i = j
      · rw [e]; exact h
      · exact hlow i (by omega))
    cases hdj : d j with
    | true =>
      rw [hdj] at hda hoj
      have hoF := hskip hoj
      conv => whnf
      repeat ((first | refine aI rfl ?_ | refine aI (by decide) ?_ | refine dI (by kernel_rfl) ?_ | refine aI ⟨by omega, by omega⟩ ?_ | refine aI (by omega) ?_ | refine aI (fun _ => ⟨by omega, by omega⟩) ?_ | refine aI (of_decide_eq_true rfl) ?_ | (refine yI ?_ ?_; focus (first | decide | (simp; done) | (simp [tcs]; done))) | (refine nI ?_ ?_; focus (first | decide | (simp; done) | (simp [tcs]; done))) | intro _); conv => whnf)
      refine ⟨true, ⟨_, rfl, hda⟩, ?_⟩
      conv => whnf
      repeat ((first | refine aI rfl ?_ | refine aI (by decide) ?_ | refine dI (by kernel_rfl) ?_ | refine aI ⟨by omega, by omega⟩ ?_ | refine aI (by omega) ?_ | refine aI (fun _ => ⟨by omega, by omega⟩) ?_ | refine aI (of_decide_eq_true rfl) ?_ | (refine yI ?_ ?_; focus (first | decide | (simp; done) | (simp [tcs]; done))) | (refine nI ?_ ?_; focus (first | decide | (simp; done) | (simp [tcs]; done))) | intro _); conv => whnf)
      exact ⟨m - 1, _, _, by omega, ⟨j + 1, by omega, hoF, rfl, rfl⟩, Wk.sl [0, 1, 2, 3] rfl ⟨rfl, rfl, rfl, rfl, trivial⟩ ⟨rfl, rfl, rfl, rfl, rfl, trivial⟩ rfl⟩
    | false =>
      rw [hdj] at hda hoj
      cases kj with
      | false =>
        have hoF := hskip hoj
        conv => whnf
        repeat ((first | refine aI rfl ?_ | refine aI (by decide) ?_ | refine dI (by kernel_rfl) ?_ | refine aI ⟨by omega, by omega⟩ ?_ | refine aI (by omega) ?_ | refine aI (fun _ => ⟨by omega, by omega⟩) ?_ | refine aI (of_decide_eq_true rfl) ?_ | (refine yI ?_ ?_; focus (first | decide | (simp; done) | (simp [tcs]; done))) | (refine nI ?_ ?_; focus (first | decide | (simp; done) | (simp [tcs]; done))) | intro _); conv => whnf)
        refine ⟨false, ⟨_, rfl, hda⟩, ?_⟩
        conv => whnf
        repeat ((first | refine aI rfl ?_ | refine aI (by decide) ?_ | refine dI (by kernel_rfl) ?_ | refine aI ⟨by omega, by omega⟩ ?_ | refine aI (by omega) ?_ | refine aI (fun _ => ⟨by omega, by omega⟩) ?_ | refine aI (of_decide_eq_true rfl) ?_ | (refine yI ?_ ?_; focus (first | decide | (simp; done) | (simp [tcs]; done))) | (refine nI ?_ ?_; focus (first | decide | (simp; done) | (simp [tcs]; done))) | intro _); conv => whnf)
        try (refine dI (by kernel_rfl) ?_; conv => whnf)
        first | refine CallSt.use hfj [] trivial (by decide) rfl ?_ | refine CallPt.useS hfj [] trivial (by decide) rfl ?_
        rintro _ _ ⟨rfl, rfl⟩ _
        conv => whnf
        repeat ((first | refine aI rfl ?_ | refine aI (by decide) ?_ | refine dI (by kernel_rfl) ?_ | refine aI ⟨by omega, by omega⟩ ?_ | refine aI (by omega) ?_ | refine aI (fun _ => ⟨by omega, by omega⟩) ?_ | refine aI (of_decide_eq_true rfl) ?_ | (refine yI ?_ ?_; focus (first | decide | (simp; done) | (simp [tcs]; done))) | (refine nI ?_ ?_; focus (first | decide | (simp; done) | (simp [tcs]; done))) | intro _); conv => whnf)
        exact ⟨m - 1, _, _, by omega, ⟨j + 1, by omega, hoF, rfl, rfl⟩, Wk.sl [0, 1, 2, 3] rfl ⟨rfl, rfl, rfl, rfl, trivial⟩ ⟨rfl, rfl, rfl, rfl, rfl, trivial⟩ rfl⟩
      | true =>
        rw [Bool.not_false, Bool.true_and, Bool.true_and] at hoj
        conv => whnf
        repeat ((first | refine aI rfl ?_ | refine aI (by decide) ?_ | refine dI (by kernel_rfl) ?_ | refine aI ⟨by omega, by omega⟩ ?_ | refine aI (by omega) ?_ | refine aI (fun _ => ⟨by omega, by omega⟩) ?_ | refine aI (of_decide_eq_true rfl) ?_ | (refine yI ?_ ?_; focus (first | decide | (simp; done) | (simp [tcs]; done))) | (refine nI ?_ ?_; focus (first | decide | (simp; done) | (simp [tcs]; done))) | intro _); conv => whnf)
        refine ⟨false, ⟨_, rfl, hda⟩, ?_⟩
        conv => whnf
        repeat ((first | refine aI rfl ?_ | refine aI (by decide) ?_ | refine dI (by kernel_rfl) ?_ | refine aI ⟨by omega, by omega⟩ ?_ | refine aI (by omega) ?_ | refine aI (fun _ => ⟨by omega, by omega⟩) ?_ | refine aI (of_decide_eq_true rfl) ?_ | (refine yI ?_ ?_; focus (first | decide | (simp; done) | (simp [tcs]; done))) | (refine nI ?_ ?_; focus (first | decide | (simp; done) | (simp [tcs]; done))) | intro _); conv => whnf)
        try (refine dI (by kernel_rfl) ?_; conv => whnf)
        first | refine CallSt.use hfj [] trivial (by decide) rfl ?_ | refine CallPt.useS hfj [] trivial (by decide) rfl ?_
        rintro _ _ ⟨rfl, rfl⟩ _
        conv => whnf
        repeat ((first | refine aI rfl ?_ | refine aI (by decide) ?_ | refine dI (by kernel_rfl) ?_ | refine aI ⟨by omega, by omega⟩ ?_ | refine aI (by omega) ?_ | refine aI (fun _ => ⟨by omega, by omega⟩) ?_ | refine aI (of_decide_eq_true rfl) ?_ | (refine yI ?_ ?_; focus (first | decide | (simp; done) | (simp [tcs]; done))) | (refine nI ?_ ?_; focus (first | decide | (simp; done) | (simp [tcs]; done))) | intro _); conv => whnf)
        refine loop_intro (fun m tm H => ∃ i : Nat, sig.length = m + i ∧ (∀ b, b < i → okB f d j b = true) ∧
          tm = [(23, .c (.int .i64 (i))), (22, .c (.int .i64 ((dcs sig).length))), (5, .own 4), (4, .c (.int .i64 (j))), (9, .c (.int .i64 (j))), (8, .c (.int .i64 ((dcs sig).length))), (0, .ptr 0 0), (1, .elt 1 100 0 0), (2, .ptr 2 0)] ∧ H = gpH sig d f ++ [.row 3 1 8 (rowI (upTo (fun b => f b j && f j b) i))])
          sig.length _ _ ⟨0, by omega, fun i hi => absurd hi (by omega), rfl, rfl⟩ ?_ ?_
        · refine Wk.trans (tm1 := [(23, .c (.int .i64 (0))), (22, .c (.int .i64 ((dcs sig).length))), (5, .nil), (4, .c (.int .i64 (j))), (9, .c (.int .i64 (j))), (8, .c (.int .i64 ((dcs sig).length))), (0, .ptr 0 0), (1, .elt 1 100 0 0), (2, .ptr 2 0)]) (H1 := gpH sig d f) ?_ (Wk.trans (Wk.niltmp 5 3 1 8 rfl rfl) ?_)
          · exact Wk.sl [0, 1, 2, 3] rfl ⟨rfl, rfl, rfl, rfl, trivial⟩ ⟨rfl, rfl, rfl, rfl, rfl, rfl, rfl, rfl, rfl, trivial⟩ rfl
          · exact Wk.sl [0, 1, 2, 3, 4] rfl ⟨rfl, rfl, rfl, rfl, rfl, trivial⟩ ⟨rfl, rfl, rfl, rfl, rfl, rfl, rfl, rfl, rfl, trivial⟩ rfl
        rintro m2 tm H ⟨i, hi, hall, rfl, rfl⟩
        conv => whnf
        refine ⟨fun hlt2 => ?_, fun hlt2 => ?_⟩
        · replace hlt2 : (i : Int) < (dcs sig).length := of_decide_eq_true hlt2
          have hrl := len_rowI (upTo (fun b => f b j && f j b) i)
          have hul := upTo_len (fun b => f b j && f j b) i
          have hl2 : ((rowI (upTo (fun b => f b j && f j b) i)).length + 1) * 8 ≤ 140737488355328 := by omega
          have hl3 : (rowI (upTo (fun b => f b j && f j b) i)).length + 1 ≤ 9223372036854775807 := by omega
          have hm1 : (mrow f)[0 + (i : Int).toNat * 100 + (j : Int).toNat * 1]? = some (.bool (f i j)) := mrow_at2 f (by omega) (by omega)
          have hm2 : (mrow f)[0 + (j : Int).toNat * 100 + (i : Int).toNat * 1]? = some (.bool (f j i)) := mrow_at2 f (by omega) (by omega)
          have hd2 : (drow d)[0 + (i : Int).toNat * 1]? = some (.bool (d i)) := drow_at d (by omega)
          have hob : okB f d j i = ((f i j && f j i) || !(f i j && !d i)) := rfl
          have hpp : ∀ x : Bool, x = (f i j && f j i) → (fun b => f b j && f j b) i = x := fun x h => h.symm
          have hnext : okB f d j i = true → ∀ b, b < i + 1 → okB f d j b = true := fun h b hb => (by
            by_cases e : b = i
            · rw [e]; exact h
            · exact hall b (by omega))
          have hstop : okB f d j i = false → ok j = false := fun h => (by
            rw [hoj, List.all_eq_false]
            exact ⟨i, by simp; omega, by rw [h]; simp⟩)
          cases h1 : f i j with
          | false =>
            rw [h1] at hm1 hob hpp
            have hnx := hnext hob
            conv => whnf
            repeat ((first | refine aI rfl ?_ | refine aI (by decide) ?_ | refine dI (by kernel_rfl) ?_ | refine aI ⟨by omega, by omega⟩ ?_ | refine aI (by omega) ?_ | refine aI (fun _ => ⟨by omega, by omega⟩) ?_ | refine aI (of_decide_eq_true rfl) ?_ | (refine yI ?_ ?_; focus (first | decide | (simp; done) | (simp [tcs]; done))) | (refine nI ?_ ?_; focus (first | decide | (simp; done) | (simp [tcs]; done))) | intro _); conv => whnf)
            refine ⟨false, ⟨_, rfl, hm1⟩, ?_⟩
            conv => whnf
            repeat ((first | refine aI rfl ?_ | refine aI (by decide) ?_ | refine dI (by kernel_rfl) ?_ | refine aI ⟨by omega, by omega⟩ ?_ | refine aI (by omega) ?_ | refine aI (fun _ => ⟨by omega, by omega⟩) ?_ | refine aI (of_decide_eq_true rfl) ?_ | (refine yI ?_ ?_; focus (first | decide | (simp; done) | (simp [tcs]; done))) | (refine nI ?_ ?_; focus (first | decide | (simp; done) | (simp [tcs]; done))) | intro _); conv => whnf)
            refine ⟨f j i, ⟨_, rfl, hm2⟩, ?_⟩
            conv => whnf
            repeat ((first | refine aI rfl ?_ | refine aI (by decide) ?_ | refine dI (by kernel_rfl) ?_ | refine aI ⟨by omega, by omega⟩ ?_ | refine aI (by omega) ?_ | refine aI (fun _ => ⟨by omega, by omega⟩) ?_ | refine aI (of_decide_eq_true rfl) ?_ | (refine yI ?_ ?_; focus (first | decide | (simp; done) | (simp [tcs]; done))) | (refine nI ?_ ?_; focus (first | decide | (simp; done) | (simp [tcs]; done))) | intro _); conv => whnf)
            refine ⟨false, ⟨_, rfl, hm1⟩, ?_⟩
            conv => whnf
            repeat ((first | refine aI rfl ?_ | refine aI (by decide) ?_ | refine dI (by kernel_rfl) ?_ | refine aI ⟨by omega, by omega⟩ ?_ | refine aI (by omega) ?_ | refine aI (fun _ => ⟨by omega, by omega⟩) ?_ | refine aI (of_decide_eq_true rfl) ?_ | (refine yI ?_ ?_; focus (first | decide | (simp; done) | (simp [tcs]; done))) | (refine nI ?_ ?_; focus (first | decide | (simp; done) | (simp [tcs]; done))) | intro _); conv => whnf)
            refine ⟨d i, ⟨_, rfl, hd2⟩, ?_⟩
            conv => whnf
            repeat ((first | refine aI rfl ?_ | refine aI (by decide) ?_ | refine dI (by kernel_rfl) ?_ | refine aI ⟨by omega, by omega⟩ ?_ | refine aI (by omega) ?_ | refine aI (fun _ => ⟨by omega, by omega⟩) ?_ | refine aI (of_decide_eq_true rfl) ?_ | (refine yI ?_ ?_; focus (first | decide | (simp; done) | (simp [tcs]; done))) | (refine nI ?_ ?_; focus (first | decide | (simp; done) | (simp [tcs]; done))) | intro _); conv => whnf)
            refine ⟨m2 - 1, _, _, by omega, ⟨i + 1, by omega, hnx, rfl, rfl⟩, Wk.sl [0, 1, 2, 3, 4] rfl ⟨rfl, rfl, rfl, rfl, ?_, trivial⟩ ⟨rfl, rfl, rfl, rfl, rfl, rfl, rfl, rfl, rfl, trivial⟩ rfl⟩
            rw [upTo_no (hpp false rfl)]
            rfl
          | true =>
            rw [h1] at hm1 hob hpp
            cases h2 : f j i with
            | true =>
              rw [h2] at hm2 hob hpp
              have hnx := hnext hob
              conv => whnf
              repeat ((first | refine aI rfl ?_ | refine aI (by decide) ?_ | refine dI (by kernel_rfl) ?_ | refine aI ⟨by omega, by omega⟩ ?_ | refine aI (by omega) ?_ | refine aI (fun _ => ⟨by omega, by omega⟩) ?_ | refine aI (of_decide_eq_true rfl) ?_ | (refine yI ?_ ?_; focus (first | decide | (simp; done) | (simp [tcs]; done))) | (refine nI ?_ ?_; focus (first | decide | (simp; done) | (simp [tcs]; done))) | intro _); conv => whnf)
              refine ⟨true, ⟨_, rfl, hm1⟩, ?_⟩
              conv => whnf
              repeat ((first | refine aI rfl ?_ | refine aI (by decide) ?_ | refine dI (by kernel_rfl) ?_ | refine aI ⟨by omega, by omega⟩ ?_ | refine aI (by omega) ?_ | refine aI (fun _ => ⟨by omega, by omega⟩) ?_ | refine aI (of_decide_eq_true rfl) ?_ | (refine yI ?_ ?_; focus (first | decide | (simp; done) | (simp [tcs]; done))) | (refine nI ?_ ?_; focus (first | decide | (simp; done) | (simp [tcs]; done))) | intro _); conv => whnf)
              refine ⟨true, ⟨_, rfl, hm2⟩, ?_⟩
              conv => whnf
              repeat ((first | refine aI rfl ?_ | refine aI (by decide) ?_ | refine dI (by kernel_rfl) ?_ | refine aI ⟨by omega, by omega⟩ ?_ | refine aI (by omega) ?_ | refine aI (fun _ => ⟨by omega, by omega⟩) ?_ | refine aI (of_decide_eq_true rfl) ?_ | (refine yI ?_ ?_; focus (first | decide | (simp; done) | (simp [tcs]; done))) | (refine nI ?_ ?_; focus (first | decide | (simp; done) | (simp [tcs]; done))) | intro _); conv => whnf)
              refine ⟨m2 - 1, _, _, by omega, ⟨i + 1, by omega, hnx, rfl, rfl⟩, Wk.sl [0, 1, 2, 3, 6] rfl ⟨rfl, rfl, rfl, rfl, ?_, trivial⟩ ⟨rfl, rfl, rfl, rfl, rfl, rfl, rfl, rfl, rfl, trivial⟩ rfl⟩
              rw [upTo_yes (hpp true rfl), ← rowI_snoc]
              rfl
            | false =>
              rw [h2] at hm2 hob hpp
              cases h3 : d i with
              | true =>
                rw [h3] at hd2 hob
                have hnx := hnext hob
                conv => whnf
                repeat ((first | refine aI rfl ?_ | refine aI (by decide) ?_ | refine dI (by kernel_rfl) ?_ | refine aI ⟨by omega, by omega⟩ ?_ | refine aI (by omega) ?_ | refine aI (fun _ => ⟨by omega, by omega⟩) ?_ | refine aI (of_decide_eq_true rfl) ?_ | (refine yI ?_ ?_; focus (first | decide | (simp; done) | (simp [tcs]; done))) | (refine nI ?_ ?_; focus (first | decide | (simp; done) | (simp [tcs]; done))) | intro _); conv => whnf)
                refine ⟨true, ⟨_, rfl, hm1⟩, ?_⟩
                conv => whnf
                repeat ((first | refine aI rfl ?_ | refine aI (by decide) ?_ | refine dI (by kernel_rfl) ?_ | refine aI ⟨by omega, by omega⟩ ?_ | refine aI (by omega) ?_ | refine aI (fun _ => ⟨by omega, by omega⟩) ?_ | refine aI (of_decide_eq_true rfl) ?_ | (refine yI ?_ ?_; focus (first | decide | (simp; done) | (simp [tcs]; done))) | (refine nI ?_ ?_; focus (first | decide | (simp; done) | (simp [tcs]; done))) | intro _); conv => whnf)
                refine ⟨false, ⟨_, rfl, hm2⟩, ?_⟩
                conv => whnf
                repeat ((first | refine aI rfl ?_ | refine aI (by decide) ?_ | refine dI (by kernel_rfl) ?_ | refine aI ⟨by omega, by omega⟩ ?_ | refine aI (by omega) ?_ | refine aI (fun _ => ⟨by omega, by omega⟩) ?_ | refine aI (of_decide_eq_true rfl) ?_ | (refine yI ?_ ?_; focus (first | decide | (simp; done) | (simp [tcs]; done))) | (refine nI ?_ ?_; focus (first | decide | (simp; done) | (simp [tcs]; done))) | intro _); conv => whnf)
                refine ⟨true, ⟨_, rfl, hm1⟩, ?_⟩
                conv => whnf
                repeat ((first | refine aI rfl ?_ | refine aI (by decide) ?_ | refine dI (by kernel_rfl) ?_ | refine aI ⟨by omega, by omega⟩ ?_ | refine aI (by omega) ?_ | refine aI (fun _ => ⟨by omega, by omega⟩) ?_ | refine aI (of_decide_eq_true rfl) ?_ | (refine yI ?_ ?_; focus (first | decide | (simp; done) | (simp [tcs]; done))) | (refine nI ?_ ?_; focus (first | decide | (simp; done) | (simp [tcs]; done))) | intro _); conv => whnf)
                refine ⟨true, ⟨_, rfl, hd2⟩, ?_⟩
                conv => whnf
                repeat ((first | refine aI rfl ?_ | refine aI (by decide) ?_ | refine dI (by kernel_rfl) ?_ | refine aI ⟨by omega, by omega⟩ ?_ | refine aI (by omega) ?_ | refine aI (fun _ => ⟨by omega, by omega⟩) ?_ | refine aI (of_decide_eq_true rfl) ?_ | (refine yI ?_ ?_; focus (first | decide | (simp; done) | (simp [tcs]; done))) | (refine nI ?_ ?_; focus (first | decide | (simp; done) | (simp [tcs]; done))) | intro _); conv => whnf)
                refine ⟨m2 - 1, _, _, by omega, ⟨i + 1, by omega, hnx, rfl, rfl⟩, Wk.sl [0, 1, 2, 3, 4] rfl ⟨rfl, rfl, rfl, rfl, ?_, trivial⟩ ⟨rfl, rfl, rfl, rfl, rfl, rfl, rfl, rfl, rfl, trivial⟩ rfl⟩
                rw [upTo_no (hpp false rfl)]
                rfl
              | false =>
                rw [h3] at hd2 hob
                have hoF := hskip (hstop hob)
                conv => whnf
                repeat ((first | refine aI rfl ?_ | refine aI (by decide) ?_ | refine dI (by kernel_rfl) ?_ | refine aI ⟨by omega, by omega⟩ ?_ | refine aI (by omega) ?_ | refine aI (fun _ => ⟨by omega, by omega⟩) ?_ | refine aI (of_decide_eq_true rfl) ?_ | (refine yI ?_ ?_; focus (first | decide | (simp; done) | (simp [tcs]; done))) | (refine nI ?_ ?_; focus (first | decide | (simp; done) | (simp [tcs]; done))) | intro _); conv => whnf)
                refine ⟨true, ⟨_, rfl, hm1⟩, ?_⟩
                conv => whnf
                repeat ((first | refine aI rfl ?_ | refine aI (by decide) ?_ | refine dI (by kernel_rfl) ?_ | refine aI ⟨by omega, by omega⟩ ?_ | refine aI (by omega) ?_ | refine aI (fun _ => ⟨by omega, by omega⟩) ?_ | refine aI (of_decide_eq_true rfl) ?_ | (refine yI ?_ ?_; focus (first | decide | (simp; done) | (simp [tcs]; done))) | (refine nI ?_ ?_; focus (first | decide | (simp; done) | (simp [tcs]; done))) | intro _); conv => whnf)
                refine ⟨false, ⟨_, rfl, hm2⟩, ?_⟩
                conv => whnf
                repeat ((first | refine aI rfl ?_ | refine aI (by decide) ?_ | refine dI (by kernel_rfl) ?_ | refine aI ⟨by omega, by omega⟩ ?_ | refine aI (by omega) ?_ | refine aI (fun _ => ⟨by omega, by omega⟩) ?_ | refine aI (of_decide_eq_true rfl) ?_ | (refine yI ?_ ?_; focus (first | decide | (simp; done) | (simp [tcs]; done))) | (refine nI ?_ ?_; focus (first | decide | (simp; done) | (simp [tcs]; done))) | intro _); conv => whnf)
                refine ⟨true, ⟨_, rfl, hm1⟩, ?_⟩
                conv => whnf
                repeat ((first | refine aI rfl ?_ | refine aI (by decide) ?_ | refine dI (by kernel_rfl) ?_ | refine aI ⟨by omega, by omega⟩ ?_ | refine aI (by omega) ?_ | refine aI (fun _ => ⟨by omega, by omega⟩) ?_ | refine aI (of_decide_eq_true rfl) ?_ | (refine yI ?_ ?_; focus (first | decide | (simp; done) | (simp [tcs]; done))) | (refine nI ?_ ?_; focus (first | decide | (simp; done) | (simp [tcs]; done))) | intro _); conv => whnf)
                refine ⟨false, ⟨_, rfl, hd2⟩, ?_⟩
                conv => whnf
                repeat ((first | refine aI rfl ?_ | refine aI (by decide) ?_ | refine dI (by kernel_rfl) ?_ | refine aI ⟨by omega, by omega⟩ ?_ | refine aI (by omega) ?_ | refine aI (fun _ => ⟨by omega, by omega⟩) ?_ | refine aI (of_decide_eq_true rfl) ?_ | (refine yI ?_ ?_; focus (first | decide | (simp; done) | (simp [tcs]; done))) | (refine nI ?_ ?_; focus (first | decide | (simp; done) | (simp [tcs]; done))) | intro _); conv => whnf)
                exact ⟨m - 1, _, _, by omega, ⟨j + 1, by omega, hoF, rfl, rfl⟩, Wk.sl [0, 1, 2, 3] rfl ⟨rfl, rfl, rfl, rfl, trivial⟩ ⟨rfl, rfl, rfl, rfl, rfl, trivial⟩ rfl⟩
        · replace hlt2 : ¬ (i : Int) < (dcs sig).length := of_decide_eq_false hlt2
          obtain rfl : i = sig.length := by omega
          have hoT : ok j = true := by
            rw [hoj, List.all_eq_true]
            intro x hx
            exact hall x (by simpa using hx)
          rw [hsome j (by omega) hoT hlow] at ho
          cases ho
          conv => whnf
          repeat ((first | refine aI rfl ?_ | refine aI (by decide) ?_ | refine dI (by kernel_rfl) ?_ | refine aI ⟨by omega, by omega⟩ ?_ | refine aI (by omega) ?_ | refine aI (fun _ => ⟨by omega, by omega⟩) ?_ | refine aI (of_decide_eq_true rfl) ?_ | (refine yI ?_ ?_; focus (first | decide | (simp; done) | (simp [tcs]; done))) | (refine nI ?_ ?_; focus (first | decide | (simp; done) | (simp [tcs]; done))) | intro _); conv => whnf)
          all_goals (first | rfl | exact ⟨rfl, rfl⟩ | exact ⟨rfl, rfl, rfl⟩)
  · replace hlt : ¬ (j : Int) < (dcs sig).length := of_decide_eq_false hlt
    obtain rfl : j = sig.length := by omega
    rw [hnone hlow] at ho
    cases ho
theorem cGrpN (sig : List Dcl) (hp : ∀ e ∈ sig, prop e.c = true) (hl : sig.length ≤ 100) (d : Nat → Bool) (f : Nat → Nat → Bool) (ho : nxG (okG f (fun n => kindAt sig n) d sig.length) sig.length = none) :
    CallSt Tryz.prog 56 [.ptr 0 0, .elt 1 100 0 0, .ptr 2 0] (gpH sig d f) (fun r H' => r = .nil ∧ H' = gpH sig d f) := by
  have hbl := len_dcs sig
  have hfm := fun (n : Int) h0 h1 => cFam2 hp (n := n) h0 h1
  have hnone := fun h => @nxG_none (okG f (fun n => kindAt sig n) d sig.length) sig.length h
  have hsome := fun a h1 h2 h3 => @nxG_some (okG f (fun n => kindAt sig n) d sig.length) sig.length a h1 h2 h3
  have hok : ∀ a, okG f (fun n => kindAt sig n) d sig.length a = (!d a && kindAt sig a && (List.range sig.length).all fun b => okB f d a b) := fun a => rfl
  generalize okG f (fun n => kindAt sig n) d sig.length = ok at *
  refine call_intro (E := envB 4) (fn := Tryz.f56) (c := bodyOf Tryz.f56) (envB_ok 4) mixed (by kernel_rfl) (by kernel_rfl) (by kernel_rfl) (by kernel_rfl) (by kernel_rfl) (by kernel_rfl) rfl ?_
  conv => whnf
  repeat ((first | refine aI rfl ?_ | refine aI (by decide) ?_ | refine dI (by kernel_rfl) ?_ | refine aI ⟨by omega, by omega⟩ ?_ | refine aI (by omega) ?_ | refine aI (fun _ => ⟨by omega, by omega⟩) ?_ | refine aI (of_decide_eq_true rfl) ?_ | (refine yI ?_ ?_; focus (first | decide | (simp; done) | (simp [tcs]; done))) | (refine nI ?_ ?_; focus (first | decide | (simp; done) | (simp [tcs]; done))) | intro _); conv => whnf)
  refine loop_intro (fun m tm H => ∃ j : Nat, sig.length = m + j ∧ (∀ i, i < j → ok i = false) ∧
    tm = [(9, .c (.int .i64 (j))), (8, .c (.int .i64 ((dcs sig).length))), (0, .ptr 0 0), (1, .elt 1 100 0 0), (2, .ptr 2 0)] ∧ H = gpH sig d f)
    sig.length _ _ ⟨0, by omega, fun i hi => absurd hi (by omega), rfl, rfl⟩ ?_ ?_
  · exact Wk.sl [0, 1, 2, 3] rfl ⟨rfl, rfl, rfl, rfl, trivial⟩ ⟨rfl, rfl, rfl, rfl, rfl, trivial⟩ rfl
  rintro m tm H ⟨j, hj, hlow, rfl, rfl⟩
  conv => whnf
  refine ⟨fun hlt => ?_, fun hlt => ?_⟩
  · replace hlt : (j : Int) < (dcs sig).length := of_decide_eq_true hlt
    have hfj := hfm j (by omega) (by omega)
    have hoj := hok j
    generalize kindAt sig j = kj at *
    have hda : (drow d)[0 + (j : Int).toNat * 1]? = some (.bool (d j)) := drow_at d (by omega)
    have hskip : ok j = false → ∀ i, i < j + 1 → ok i = false := fun h i hi => (by
      by_cases e : i = j
      · rw [e]; exact h
      · exact hlow i (by omega))
    cases hdj : d j with
    | true =>
      rw [hdj] at hda hoj
      have hoF := hskip hoj
      conv => whnf
      repeat ((first | refine aI rfl ?_ | refine aI (by decide) ?_ | refine dI (by kernel_rfl) ?_ | refine aI ⟨by omega, by omega⟩ ?_ | refine aI (by omega) ?_ | refine aI (fun _ => ⟨by omega, by omega⟩) ?_ | refine aI (of_decide_eq_true rfl) ?_ | (refine yI ?_ ?_; focus (first | decide | (simp; done) | (simp [tcs]; done))) | (refine nI ?_ ?_; focus (first | decide | (simp; done) | (simp [tcs]; done))) | intro _); conv => whnf)
      refine ⟨true, ⟨_, rfl, hda⟩, ?_⟩
      conv => whnf
      repeat ((first | refine aI rfl ?_ | refine aI (by decide) ?_ | refine dI (by kernel_rfl) ?_ | refine aI ⟨by omega, by omega⟩ ?_ | refine aI (by omega) ?_ | refine aI (fun _ => ⟨by omega, by omega⟩) ?_ | refine aI (of_decide_eq_true rfl) ?_ | (refine yI ?_ ?_; focus (first | decide | (simp; done) | (simp [tcs]; done))) | (refine nI ?_ ?_; focus (first | decide | (simp; done) | (simp [tcs]; done))) | intro _); conv => whnf)
      exact ⟨m - 1, _, _, by omega, ⟨j + 1, by omega, hoF, rfl, rfl⟩, Wk.sl [0, 1, 2, 3] rfl ⟨rfl, rfl, rfl, rfl, trivial⟩ ⟨rfl, rfl, rfl, rfl, rfl, trivial⟩ rfl⟩
    | false =>
      rw [hdj] at hda hoj
      cases kj with
      | false =>
        have hoF := hskip hoj
        conv => whnf
        repeat ((first | refine aI rfl ?_ | refine aI (by decide) ?_ | refine dI (by kernel_rfl) ?_ | refine aI ⟨by omega, by omega⟩ ?_ | refine aI (by omega) ?_ | refine aI (fun _ => ⟨by omega, by omega⟩) ?_ | refine aI (of_decide_eq_true rfl) ?_ | (refine yI ?_ ?_; focus (first | decide | (simp; done) | (simp [tcs]; done))) | (refine nI ?_ ?_; focus (first | decide | (simp; done) | (simp [tcs]; done))) | intro _); conv => whnf)
        refine ⟨false, ⟨_, rfl, hda⟩, ?_⟩
        conv => whnf
        repeat ((first | refine aI rfl ?_ | refine aI (by decide) ?_ | refine dI (by kernel_rfl) ?_ | refine aI ⟨by omega, by omega⟩ ?_ | refine aI (by omega) ?_ | refine aI (fun _ => ⟨by omega, by omega⟩) ?_ | refine aI (of_decide_eq_true rfl) ?_ | (refine yI ?_ ?_; focus (first | decide | (simp; done) | (simp [tcs]; done))) | (refine nI ?_ ?_; focus (first | decide | (simp; done) | (simp [tcs]; done))) | intro _); conv => whnf)
        try (refine dI (by kernel_rfl) ?_; conv => whnf)
        first | refine CallSt.use hfj [] trivial (by decide) rfl ?_ | refine CallPt.useS hfj [] trivial (by decide) rfl ?_
        rintro _ _ ⟨rfl, rfl⟩ _
        conv => whnf
        repeat ((first | refine aI rfl ?_ | refine aI (by decide) ?_ | refine dI (by kernel_rfl) ?_ | refine aI ⟨by omega, by omega⟩ ?_ | refine aI (by omega) ?_ | refine aI (fun _ => ⟨by omega, by omega⟩) ?_ | refine aI (of_decide_eq_true rfl) ?_ | (refine yI ?_ ?_; focus (first | decide | (simp; done) | (simp [tcs]; done))) | (refine nI ?_ ?_; focus (first | decide | (simp; done) | (simp [tcs]; done))) | intro _); conv => whnf)
        exact ⟨m - 1, _, _, by omega, ⟨j + 1, by omega, hoF, rfl, rfl⟩, Wk.sl [0, 1, 2, 3] rfl ⟨rfl, rfl, rfl, rfl, trivial⟩ ⟨rfl, rfl, rfl, rfl, rfl, trivial⟩ rfl⟩
      | true =>
        rw [Bool.not_false, Bool.true_and, Bool.true_and] at hoj
        conv => whnf
        repeat ((first | refine aI rfl ?_ | refine aI (by decide) ?_ | refine dI (by kernel_rfl) ?_ | refine aI ⟨by omega, by omega⟩ ?_ | refine aI (by omega) ?_ | refine aI (fun _ => ⟨by omega, by omega⟩) ?_ | refine aI (of_decide_eq_true rfl) ?_ | (refine yI ?_ ?_; focus (first | decide | (simp; done) | (simp [tcs]; done))) | (refine nI ?_ ?_; focus (first | decide | (simp; done) | (simp [tcs]; done))) | intro _); conv => whnf)
        refine ⟨false, ⟨_, rfl, hda⟩, ?_⟩
        conv => whnf
        repeat ((first | refine aI rfl ?_ | refine aI (by decide) ?_ | refine dI (by kernel_rfl) ?_ | refine aI ⟨by omega, by omega⟩ ?_ | refine aI (by omega) ?_ | refine aI (fun _ => ⟨by omega, by omega⟩) ?_ | refine aI (of_decide_eq_true rfl) ?_ | (refine yI ?_ ?_; focus (first | decide | (simp; done) | (simp [tcs]; done))) | (refine nI ?_ ?_; focus (first | decide | (simp; done) | (simp [tcs]; done))) | intro _); conv => whnf)
        try (refine dI (by kernel_rfl) ?_; conv => whnf)
        first | refine CallSt.use hfj [] trivial (by decide) rfl ?_ | refine CallPt.useS hfj [] trivial (by decide) rfl ?_
        rintro _ _ ⟨rfl, rfl⟩ _
        conv => whnf
        repeat ((first | refine aI rfl ?_ | refine aI (by decide) ?_ | refine dI (by kernel_rfl) ?_ | refine aI ⟨by omega, by omega⟩ ?_ | refine aI (by omega) ?_ | refine aI (fun _ => ⟨by omega, by omega⟩) ?_ | refine aI (of_decide_eq_true rfl) ?_ | (refine yI ?_ ?_; focus (first | decide | (simp; done) | (simp [tcs]; done))) | (refine nI ?_ ?_; focus (first | decide | (simp; done) | (simp [tcs]; done))) | intro _); conv => whnf)
        refine loop_intro (fun m tm H => ∃ i : Nat, sig.length = m + i ∧ (∀ b, b < i → okB f d j b = true) ∧
          tm = [(23, .c (.int .i64 (i))), (22, .c (.int .i64 ((dcs sig).length))), (5, .own 4), (4, .c (.int .i64 (j))), (9, .c (.int .i64 (j))), (8, .c (.int .i64 ((dcs sig).length))), (0, .ptr 0 0), (1, .elt 1 100 0 0), (2, .ptr 2 0)] ∧ H = gpH sig d f ++ [.row 3 1 8 (rowI (upTo (fun b => f b j && f j b) i))])
          sig.length _ _ ⟨0, by omega, fun i hi => absurd hi (by omega), rfl, rfl⟩ ?_ ?_
        · refine Wk.trans (tm1 := [(23, .c (.int .i64 (0))), (22, .c (.int .i64 ((dcs sig).length))), (5, .nil), (4, .c (.int .i64 (j))), (9, .c (.int .i64 (j))), (8, .c (.int .i64 ((dcs sig).length))), (0, .ptr 0 0), (1, .elt 1 100 0 0), (2, .ptr 2 0)]) (H1 := gpH sig d f) ?_ (Wk.trans (Wk.niltmp 5 3 1 8 rfl rfl) ?_)
          · exact Wk.sl [0, 1, 2, 3] rfl ⟨rfl, rfl, rfl, rfl, trivial⟩ ⟨rfl, rfl, rfl, rfl, rfl, rfl, rfl, rfl, rfl, trivial⟩ rfl
          · exact Wk.sl [0, 1, 2, 3, 4] rfl ⟨rfl, rfl, rfl, rfl, rfl, trivial⟩ ⟨rfl, rfl, rfl, rfl, rfl, rfl, rfl, rfl, rfl, trivial⟩ rfl
        rintro m2 tm H ⟨i, hi, hall, rfl, rfl⟩
        conv => whnf
        refine ⟨fun hlt2 => ?_, fun hlt2 => ?_⟩
        · replace hlt2 : (i : Int) < (dcs sig).length := of_decide_eq_true hlt2
          have hrl := len_rowI (upTo (fun b => f b j && f j b) i)
          have hul := upTo_len (fun b => f b j && f j b) i
          have hl2 : ((rowI (upTo (fun b => f b j && f j b) i)).length + 1) * 8 ≤ 140737488355328 := by omega
          have hl3 : (rowI (upTo (fun b => f b j && f j b) i)).length + 1 ≤ 9223372036854775807 := by omega
          have hm1 : (mrow f)[0 + (i : Int).toNat * 100 + (j : Int).toNat * 1]? = some (.bool (f i j)) := mrow_at2 f (by omega) (by omega)
          have hm2 : (mrow f)[0 + (j : Int).toNat * 100 + (i : Int).toNat * 1]? = some (.bool (f j i)) := mrow_at2 f (by omega) (by omega)
          have hd2 : (drow d)[0 + (i : Int).toNat * 1]? = some (.bool (d i)) := drow_at d (by omega)
          have hob : okB f d j i = ((f i j && f j i) || !(f i j && !d i)) := rfl
          have hpp : ∀ x : Bool, x = (f i j && f j i) → (fun b => f b j && f j b) i = x := fun x h => h.symm
          have hnext : okB f d j i = true → ∀ b, b < i + 1 → okB f d j b = true := fun h b hb => (by
            by_cases e : b = i
            · rw [e]; exact h
            · exact hall b (by omega))
          have hstop : okB f d j i = false → ok j = false := fun h => (by
            rw [hoj, List.all_eq_false]
            exact ⟨i, by simp; omega, by rw [h]; simp⟩)
          cases h1 : f i j with
          | false =>
            rw [h1] at hm1 hob hpp
            have hnx := hnext hob
            conv => whnf
            repeat ((first | refine aI rfl ?_ | refine aI (by decide) ?_ | refine dI (by kernel_rfl) ?_ | refine aI ⟨by omega, by omega⟩ ?_ | refine aI (by omega) ?_ | refine aI (fun _ => ⟨by omega, by omega⟩) ?_ | refine aI (of_decide_eq_true rfl) ?_ | (refine yI ?_ ?_; focus (first | decide | (simp; done) | (simp [tcs]; done))) | (refine nI ?_ ?_; focus (first | decide | (simp; done) | (simp [tcs]; done))) | intro _); conv => whnf)
            refine ⟨false, ⟨_, rfl, hm1⟩, ?_⟩
            conv => whnf
            repeat ((first | refine aI rfl ?_ | refine aI (by decide) ?_ | refine dI (by kernel_rfl) ?_ | refine aI ⟨by omega, by omega⟩ ?_ | refine aI (by omega) ?_ | refine aI (fun _ => ⟨by omega, by omega⟩) ?_ | refine aI (of_decide_eq_true rfl) ?_ | (refine yI ?_ ?_; focus (first | decide | (simp; done) | (simp [tcs]; done))) | (refine nI ?_ ?_; focus (first | decide | (simp; done) | (simp [tcs]; done))) | intro _); conv => whnf)
            refine ⟨f j i, ⟨_, rfl, hm2⟩, ?_⟩
            conv => whnf
            repeat ((first | refine aI rfl ?_ | refine aI (by decide) ?_ | refine dI (by kernel_rfl) ?_ | refine aI ⟨by omega, by omega⟩ ?_ | refine aI (by omega) ?_ | refine aI (fun _ => ⟨by omega, by omega⟩) ?_ | refine aI (of_decide_eq_true rfl) ?_ | (refine yI ?_ ?_; focus (first | decide | (simp; done) | (simp [tcs]; done))) | (refine nI ?_ ?_; focus (first | decide | (simp; done) | (simp [tcs]; done))) | intro _); conv => whnf)
            refine ⟨false, ⟨_, rfl, hm1⟩, ?_⟩
            conv => whnf
            repeat ((first | refine aI rfl ?_ | refine aI (by decide) ?_ | refine dI (by kernel_rfl) ?_ | refine aI ⟨by omega, by omega⟩ ?_ | refine aI (by omega) ?_ | refine aI (fun _ => ⟨by omega, by omega⟩) ?_ | refine aI (of_decide_eq_true rfl) ?_ | (refine yI ?_ ?_; focus (first | decide | (simp; done) | (simp [tcs]; done))) | (refine nI ?_ ?_; focus (first | decide | (simp; done) | (simp [tcs]; done))) | intro _); conv => whnf)
            refine ⟨d i, ⟨_, rfl, hd2⟩, ?_⟩
            conv => whnf
            repeat ((first | refine aI rfl ?_ | refine aI (by decide) ?_ | refine dI (by kernel_rfl) ?_ | refine aI ⟨by omega, by omega⟩ ?_ | refine aI (by omega) ?_ | refine aI (fun _ => ⟨by omega, by omega⟩) ?_ | refine aI (of_decide_eq_true rfl) ?_ | (refine yI ?_ ?_; focus (first | decide | (simp; done) | (simp [tcs]; done))) | (refine nI ?_ ?_; focus (first | decide | (simp; done) | (simp [tcs]; done))) | intro _); conv => whnf)
            refine ⟨m2 - 1, _, _, by omega, ⟨i + 1, by omega, hnx, rfl, rfl⟩, Wk.sl [0, 1, 2, 3, 4] rfl ⟨rfl, rfl, rfl, rfl, ?_, trivial⟩ ⟨rfl, rfl, rfl, rfl, rfl, rfl, rfl, rfl, rfl, trivial⟩ rfl⟩
            rw [upTo_no (hpp false rfl)]
            rfl
          | true =>
            rw [h1] at hm1 hob hpp
            cases h2 : f j i with
            | true =>
              rw [h2] at hm2 hob hpp
              have hnx := hnext hob
              conv => whnf
              repeat ((first | refine aI rfl ?_ | refine aI (by decide) ?_ | refine dI (by kernel_rfl) ?_ | refine aI ⟨by omega, by omega⟩ ?_ | refine aI (by omega) ?_ | refine aI (fun _ => ⟨by omega, by omega⟩) ?_ | refine aI (of_decide_eq_true rfl) ?_ | (refine yI ?_ ?_; focus (first | decide | (simp; done) | (simp [tcs]; done))) | (refine nI ?_ ?_; focus (first | decide | (simp; done) | (simp [tcs]; done))) | intro _); conv => whnf)
              refine ⟨true, ⟨_, rfl, hm1⟩, ?_⟩
              conv => whnf
              repeat ((first | refine aI rfl ?_ | refine aI (by decide) ?_ | refine dI (by kernel_rfl) ?_ | refine aI ⟨by omega, by omega⟩ ?_ | refine aI (by omega) ?_ | refine aI (fun _ => ⟨by omega, by omega⟩) ?_ | refine aI (of_decide_eq_true rfl) ?_ | (refine yI ?_ ?_; focus (first | decide | (simp; done) | (simp [tcs]; done))) | (refine nI ?_ ?_; focus (first | decide | (simp; done) | (simp [tcs]; done))) | intro _); conv => whnf)
              refine ⟨true, ⟨_, rfl, hm2⟩, ?_⟩
              conv => whnf
              repeat ((first | refine aI rfl ?_ | refine aI (by decide) ?_ | refine dI (by kernel_rfl) ?_ | refine aI ⟨by omega, by omega⟩ ?_ | refine aI (by omega) ?_ | refine aI (fun _ => ⟨by omega, by omega⟩) ?_ | refine aI (of_decide_eq_true rfl) ?_ | (refine yI ?_ ?_; focus (first | decide | (simp; done) | (simp [tcs]; done))) | (refine nI ?_ ?_; focus (first | decide | (simp; done) | (simp [tcs]; done))) | intro _); conv => whnf)
              refine ⟨m2 - 1, _, _, by omega, ⟨i + 1, by omega, hnx, rfl, rfl⟩, Wk.sl [0, 1, 2, 3, 6] rfl ⟨rfl, rfl, rfl, rfl, ?_, trivial⟩ ⟨rfl, rfl, rfl, rfl, rfl, rfl, rfl, rfl, rfl, trivial⟩ rfl⟩
              rw [upTo_yes (hpp true rfl), ← rowI_snoc]
              rfl
            | false =>
              rw [h2] at hm2 hob hpp
              cases h3 : d i with
              | true =>
                rw [h3] at hd2 hob
                have hnx := hnext hob
                conv => whnf
                repeat ((first | refine aI rfl ?_ | refine aI (by decide) ?_ | refine dI (by kernel_rfl) ?_ | refine aI ⟨by omega, by omega⟩ ?_ | refine aI (by omega) ?_ | refine aI (fun _ => ⟨by omega, by omega⟩) ?_ | refine aI (of_decide_eq_true rfl) ?_ | (refine yI ?_ ?_; focus (first | decide | (simp; done) | (simp [tcs]; done))) | (refine nI ?_ ?_; focus (first | decide | (simp; done) | (simp [tcs]; done))) | intro _); conv => whnf)
                refine ⟨true, ⟨_, rfl, hm1⟩, ?_⟩
                conv => whnf
                repeat ((first | refine aI rfl ?_ | refine aI (by decide) ?_ | refine dI (by kernel_rfl) ?_ | refine aI ⟨by omega, by omega⟩ ?_ | refine aI (by omega) ?_ | refine aI (fun _ => ⟨by omega, by omega⟩) ?_ | refine aI (of_decide_eq_true rfl) ?_ | (refine yI ?_ ?_; focus (first | decide | (simp; done) | (simp [tcs]; done))) | (refine nI ?_ ?_; focus (first | decide | (simp; done) | (simp [tcs]; done))) | intro _); conv => whnf)
                refine ⟨false, ⟨_, rfl, hm2⟩, ?_⟩
                conv => whnf
                repeat ((first | refine aI rfl ?_ | refine aI (by decide) ?_ | refine dI (by kernel_rfl) ?_ | refine aI ⟨by omega, by omega⟩ ?_ | refine aI (by omega) ?_ | refine aI (fun _ => ⟨by omega, by omega⟩) ?_ | refine aI (of_decide_eq_true rfl) ?_ | (refine yI ?_ ?_; focus (first | decide | (simp; done) | (simp [tcs]; done))) | (refine nI ?_ ?_; focus (first | decide | (simp; done) | (simp [tcs]; done))) | intro _); conv => whnf)
                refine ⟨true, ⟨_, rfl, hm1⟩, ?_⟩
                conv => whnf
                repeat ((first | refine aI rfl ?_ | refine aI (by decide) ?_ | refine dI (by kernel_rfl) ?_ | refine aI ⟨by omega, by omega⟩ ?_ | refine aI (by omega) ?_ | refine aI (fun _ => ⟨by omega, by omega⟩) ?_ | refine aI (of_decide_eq_true rfl) ?_ | (refine yI ?_ ?_; focus (first | decide | (simp; done) | (simp [tcs]; done))) | (refine nI ?_ ?_; focus (first | decide | (simp; done) | (simp [tcs]; done))) | intro _); conv => whnf)
                refine ⟨true, ⟨_, rfl, hd2⟩, ?_⟩
                conv => whnf
                repeat ((first | refine aI rfl ?_ | refine aI (by decide) ?_ | refine dI (by kernel_rfl) ?_ | refine aI ⟨by omega, by omega⟩ ?_ | refine aI (by omega) ?_ | refine aI (fun _ => ⟨by omega, by omega⟩) ?_ | refine aI (of_decide_eq_true rfl) ?_ | (refine yI ?_ ?_; focus (first | decide | (simp; done) | (simp [tcs]; done))) | (refine nI ?_ ?_; focus (first | decide | (simp; done) | (simp [tcs]; done))) | intro _); conv => whnf)
                refine ⟨m2 - 1, _, _, by omega, ⟨i + 1, by omega, hnx, rfl, rfl⟩, Wk.sl [0, 1, 2, 3, 4] rfl ⟨rfl, rfl, rfl, rfl, ?_, trivial⟩ ⟨rfl, rfl, rfl, rfl, rfl, rfl, rfl, rfl, rfl, trivial⟩ rfl⟩
                rw [upTo_no (hpp false rfl)]
                rfl
              | false =>
                rw [h3] at hd2 hob
                have hoF := hskip (hstop hob)
                conv => whnf
                repeat ((first | refine aI rfl ?_ | refine aI (by decide) ?_ | refine dI (by kernel_rfl) ?_ | refine aI ⟨by omega, by omega⟩ ?_ | refine aI (by omega) ?_ | refine aI (fun _ => ⟨by omega, by omega⟩) ?_ | refine aI (of_decide_eq_true rfl) ?_ | (refine yI ?_ ?_; focus (first | decide | (simp; done) | (simp [tcs]; done))) | (refine nI ?_ ?_; focus (first | decide | (simp; done) | (simp [tcs]; done))) | intro _); conv => whnf)
                refine ⟨true, ⟨_, rfl, hm1⟩, ?_⟩
                conv => whnf
                repeat ((first | refine aI rfl ?_ | refine aI (by decide) ?_ | refine dI (by kernel_rfl) ?_ | refine aI ⟨by omega, by omega⟩ ?_ | refine aI (by omega) ?_ | refine aI (fun _ => ⟨by omega, by omega⟩) ?_ | refine aI (of_decide_eq_true rfl) ?_ | (refine yI ?_ ?_; focus (first | decide | (simp; done) | (simp [tcs]; done))) | (refine nI ?_ ?_; focus (first | decide | (simp; done) | (simp [tcs]; done))) | intro _); conv => whnf)
                refine ⟨false, ⟨_, rfl, hm2⟩, ?_⟩
                conv => whnf
                repeat ((first | refine aI rfl ?_ | refine aI (by decide) ?_ | refine dI (by kernel_rfl) ?_ | refine aI ⟨by omega, by omega⟩ ?_ | refine aI (by omega) ?_ | refine aI (fun _ => ⟨by omega, by omega⟩) ?_ | refine aI (of_decide_eq_true rfl) ?_ | (refine yI ?_ ?_; focus (first | decide | (simp; done) | (simp [tcs]; done))) | (refine nI ?_ ?_; focus (first | decide | (simp; done) | (simp [tcs]; done))) | intro _); conv => whnf)
                refine ⟨true, ⟨_, rfl, hm1⟩, ?_⟩
                conv => whnf
                repeat ((first | refine aI rfl ?_ | refine aI (by decide) ?_ | refine dI (by kernel_rfl) ?_ | refine aI ⟨by omega, by omega⟩ ?_ | refine aI (by omega) ?_ | refine aI (fun _ => ⟨by omega, by omega⟩) ?_ | refine aI (of_decide_eq_true rfl) ?_ | (refine yI ?_ ?_; focus (first | decide | (simp; done) | (simp [tcs]; done))) | (refine nI ?_ ?_; focus (first | decide | (simp; done) | (simp [tcs]; done))) | intro _); conv => whnf)
                refine ⟨false, ⟨_, rfl, hd2⟩, ?_⟩
                conv => whnf
                repeat ((first | refine aI rfl ?_ | refine aI (by decide) ?_ | refine dI (by kernel_rfl) ?_ | refine aI ⟨by omega, by omega⟩ ?_ | refine aI (by omega) ?_ | refine aI (fun _ => ⟨by omega, by omega⟩) ?_ | refine aI (of_decide_eq_true rfl) ?_ | (refine yI ?_ ?_; focus (first | decide | (simp; done) | (simp [tcs]; done))) | (refine nI ?_ ?_; focus (first | decide | (simp; done) | (simp [tcs]; done))) | intro _); conv => whnf)
                exact ⟨m - 1, _, _, by omega, ⟨j + 1, by omega, hoF, rfl, rfl⟩, Wk.sl [0, 1, 2, 3] rfl ⟨rfl, rfl, rfl, rfl, trivial⟩ ⟨rfl, rfl, rfl, rfl, rfl, trivial⟩ rfl⟩
        · replace hlt2 : ¬ (i : Int) < (dcs sig).length := of_decide_eq_false hlt2
          obtain rfl : i = sig.length := by omega
          have hoT : ok j = true := by
            rw [hoj, List.all_eq_true]
            intro x hx
            exact hall x (by simpa using hx)
          rw [hsome j (by omega) hoT hlow] at ho
          cases ho
  · replace hlt : ¬ (j : Int) < (dcs sig).length := of_decide_eq_false hlt
    obtain rfl : j = sig.length := by omega
    conv => whnf
    repeat ((first | refine aI rfl ?_ | refine aI (by decide) ?_ | refine dI (by kernel_rfl) ?_ | refine aI ⟨by omega, by omega⟩ ?_ | refine aI (by omega) ?_ | refine aI (fun _ => ⟨by omega, by omega⟩) ?_ | refine aI (of_decide_eq_true rfl) ?_ | (refine yI ?_ ?_; focus (first | decide | (simp; done) | (simp [tcs]; done))) | (refine nI ?_ ?_; focus (first | decide | (simp; done) | (simp [tcs]; done))) | intro _); conv => whnf)
    all_goals (first | rfl | exact ⟨rfl, rfl⟩ | exact ⟨rfl, rfl, rfl⟩)
theorem cGrpW (sig : List Dcl) (hp : ∀ e ∈ sig, prop e.c = true) (hl : sig.length ≤ 100) (d : Nat → Bool) (f : Nat → Nat → Bool) :
    CallSt Tryz.prog 56 [.ptr 0 0, .elt 1 100 0 0, .ptr 2 0] (gpH sig d f) (fun r H' => r = nxW f sig.length (nxG (okG f (fun n => kindAt sig n) d sig.length) sig.length) ∧ H' = gpH sig d f) := by
  cases ho : nxG (okG f (fun n => kindAt sig n) d sig.length) sig.length with
  | none => exact cGrpN sig hp hl d f ho
  | some g => exact cGrpS sig hp hl d f ho
end Go.Tr
/- depend.Groups. -/
namespace Go.Tr
open Go.Proofs
theorem bwP_diag (sig : List Dcl) {a : Nat} {d : Dcl} (hd : sig[a]? = some d) (hk : kindT d.c = true) : ∀ j, a < j → bwP sig j a a = true
  | 0, h => absurd h (Nat.not_lt_zero a)
  | j + 1, h => by
    have hor : ∀ (f : Nat → Nat → Bool) (L : List (Nat × Nat)), f a a = true → orE f L a a = true := fun f L h => by unfold orE; rw [h]; rfl
    rw [bwP]
    by_cases e : a = j
    · subst e
      rw [hd]
      simp only
      exact hor _ _ (by unfold updM; rw [if_pos ⟨rfl, rfl⟩]; exact hk)
    · have ih := bwP_diag sig hd hk j (by omega)
      cases hj : sig[j]? with
      | none => exact ih
      | some d2 =>
        simp only
        exact hor _ _ (by unfold updM; rw [if_neg (fun h => e h.1)]; exact ih)
theorem belM_diag (sig : List Dcl) {a : Nat} (ha : a < sig.length) (hk : kindAt sig a = true) : belM sig a a = true := by
  have hd : sig[a]? = some sig[a] := List.getElem?_eq_getElem ha
  rw [kindAt_at hd] at hk
  exact close_mono ha ha (bwP_diag sig hd hk _ ha)
def markD (d : Nat → Bool) (L : List Int) : Nat → Bool := fun x => d x || decide ((x : Int) ∈ L)
theorem markD_nil (d : Nat → Bool) : markD d [] = d := by funext x; simp [markD]
theorem markD_snoc (d : Nat → Bool) (L : List Int) (x : Nat) : markD d (L ++ [(x : Int)]) = updD (markD d L) x := by
  funext y
  unfold markD updD
  by_cases h : y = x
  · subst h; simp
  · have : ¬ (y : Int) = x := by omega
    simp [h, this]
def cntD (d : Nat → Bool) (n : Nat) : Nat := ((List.range n).filter fun x => !d x).length
theorem cnt_lt {d : Nat → Bool} {L : List Int} {n a : Nat} (ha : a < n) (hd : d a = false) (hL : (a : Int) ∈ L) : cntD (markD d L) n < cntD d n := by
  unfold cntD
  have e : (List.range n).filter (fun x => !markD d L x) = ((List.range n).filter fun x => !d x).filter fun x : Nat => !decide ((x : Int) ∈ L) := by
    rw [List.filter_filter]
    refine List.filter_congr fun x _ => ?_
    unfold markD
    cases d x <;> simp
  rw [e, List.length_filter_lt_length_iff_exists]
  exact ⟨a, List.mem_filter.2 ⟨by simpa using ha, by rw [hd]; rfl⟩, by simp [hL]⟩
def grpsP (f : Nat → Nat → Bool) (kd : Nat → Bool) (n : Nat) : Nat → (Nat → Bool) → List (List Int)
  | 0, _ => []
  | k + 1, d => match nxG (okG f kd d n) n with | none => [] | some a => grp f n a :: grpsP f kd n k (markD d (grp f n a))
theorem grpsP_none {f : Nat → Nat → Bool} {kd : Nat → Bool} {n : Nat} {d : Nat → Bool} (h : nxG (okG f kd d n) n = none) : ∀ k, grpsP f kd n k d = []
  | 0 => rfl
  | k + 1 => by rw [grpsP, h]
theorem grpsP_some {f : Nat → Nat → Bool} {kd : Nat → Bool} {n a : Nat} {d : Nat → Bool} (h : nxG (okG f kd d n) n = some a) (k : Nat) : grpsP f kd n (k + 1) d = grp f n a :: grpsP f kd n k (markD d (grp f n a)) := by rw [grpsP, h]
theorem grp_mem {f : Nat → Nat → Bool} {kd d : Nat → Bool} {n a : Nat} (hf : ∀ a, a < n → kd a = true → f a a = true) (h : nxG (okG f kd d n) n = some a) : a < n ∧ d a = false ∧ (a : Int) ∈ grp f n a := by
  obtain ⟨h1, h2⟩ := nxG_of h
  unfold okG at h2
  rw [Bool.and_eq_true, Bool.and_eq_true] at h2
  have hfa := hf a h1 h2.1.2
  refine ⟨h1, by simpa using h2.1.1, ?_⟩
  unfold grp upTo
  rw [List.mem_map]
  exact ⟨a, List.mem_filter.2 ⟨by simpa using h1, by simp [hfa]⟩, rfl⟩
theorem grp_bd {f : Nat → Nat → Bool} {n a : Nat} : ∀ x ∈ grp f n a, 0 ≤ x ∧ x < n := by
  intro x hx
  unfold grp upTo at hx
  rw [List.mem_map] at hx
  obtain ⟨y, hy, rfl⟩ := hx
  have := (List.mem_filter.1 hy).1
  rw [List.mem_range] at this
  omega
noncomputable def groupsF (sig : List Dcl) : List (List Int) := match checkB sig with | true => grpsP (belM sig) (fun n => kindAt sig n) sig.length sig.length (fun _ => false) | false => []
end Go.Tr
/- depend.Groups: the walk. -/
namespace Go.Tr
open Go.Proofs
theorem big100 : List.map ofConst (List.replicate 100 (.bool false)) = (drow (fun _ => false)).map AV.c := by
  rw [← drow_zero, List.map_replicate, List.map_replicate]
  rfl
theorem cGroupsD (sig : List Dcl) : CallSt Tryz.prog 28 [.c (.sl 6 72 (dcs sig))] [] (fun r H' => r = .tup [.c (.sl 1 24 (rowL (groupsF sig))), .c (.int .i64 ((if checkB sig then 0 else 2)))] ∧ H' = []) := by
  have hck := cCheck sig
  have hM := cBelowM sig
  have hbl := len_dcs sig
  unfold groupsF
  cases hc : checkB sig with
  | false =>
    rw [hc] at hck
    refine call_pure (E := envB 0) (fn := Tryz.f28) (c := bodyOf Tryz.f28) (envB_ok 0) mixed (by kernel_rfl) (by kernel_rfl) (by kernel_rfl) (by kernel_rfl) (by kernel_rfl) (by kernel_rfl) rfl ?_
    conv => whnf
    try (refine dI (by kernel_rfl) ?_; conv => whnf)
    first | refine CallSt.use hck [] trivial (by decide) rfl ?_ | refine CallPt.useS hck [] trivial (by decide) rfl ?_
    rintro _ _ ⟨rfl, rfl⟩ _
    conv => whnf
    repeat ((first | refine aI rfl ?_ | refine aI (by decide) ?_ | refine dI (by kernel_rfl) ?_ | refine aI ⟨by omega, by omega⟩ ?_ | refine aI (by omega) ?_ | refine aI (fun _ => ⟨by omega, by omega⟩) ?_ | refine aI (of_decide_eq_true rfl) ?_ | (refine yI ?_ ?_; focus (first | decide | (simp; done) | (simp [tcs]; done))) | (refine nI ?_ ?_; focus (first | decide | (simp; done) | (simp [tcs]; done))) | intro _); conv => whnf)
    all_goals (first | rfl | exact ⟨rfl, rfl⟩ | exact ⟨rfl, rfl, rfl⟩)
  | true =>
    rw [hc] at hck
    replace hM := hM hc
    have hl := check_len hc
    have hp := check_prop hc
    have hdg := fun a ha => @belM_diag sig a ha
    show CallSt _ _ _ _ fun r H' => r = .tup [.c (.sl 1 24 (rowL (grpsP (belM sig) (fun n => kindAt sig n) sig.length sig.length (fun _ => false)))), .c (.int .i64 (0))] ∧ H' = []
    generalize belM sig = fm at *
    have hg := fun d => cGrpW sig hp hl d fm
    have hdiag : ∀ a, a < sig.length → kindAt sig a = true → fm a a = true := fun a ha hk => hdg a ha hk
    generalize hn : sig.length = n at *
    have hgm := fun (d : Nat → Bool) a h => @grp_mem fm (fun n => kindAt sig n) d n a hdiag h
    have hnone := fun d h => @grpsP_none fm (fun n => kindAt sig n) n d h
    have hsome := fun d a h k => @grpsP_some fm (fun n => kindAt sig n) n a d h k
    have hcnt0 : cntD (fun _ => false) n ≤ n := by
      unfold cntD
      exact Nat.le_trans (List.length_filter_le _ _) (by simp)
    generalize (fun n : Nat => kindAt sig n) = kd at *
    have hgl : ∀ a, (grp fm n a).length ≤ n := fun a => upTo_len _ n
    generalize hG : grpsP fm kd n n (fun _ => false) = G at *
    refine call_pure (E := envB 0) (fn := Tryz.f28) (c := bodyOf Tryz.f28) (envB_ok 0) mixed (by kernel_rfl) (by kernel_rfl) (by kernel_rfl) (by kernel_rfl) (by kernel_rfl) (by kernel_rfl) rfl ?_
    refine aw_cut _ _ rfl fun C hC => ?_
    conv => whnf
    subst hC
    refine aw_cut _ _ rfl fun C hC => ?_
    conv => whnf
    try (refine dI (by kernel_rfl) ?_; conv => whnf)
    first | refine CallSt.use hck [] trivial (by decide) rfl ?_ | refine CallPt.useS hck [] trivial (by decide) rfl ?_
    rintro _ _ ⟨rfl, rfl⟩ _
    conv => whnf
    repeat ((first | refine aI rfl ?_ | refine aI (by decide) ?_ | refine dI (by kernel_rfl) ?_ | refine aI ⟨by omega, by omega⟩ ?_ | refine aI (by omega) ?_ | refine aI (fun _ => ⟨by omega, by omega⟩) ?_ | refine aI (of_decide_eq_true rfl) ?_ | (refine yI ?_ ?_; focus (first | decide | (simp; done) | (simp [tcs]; done))) | (refine nI ?_ ?_; focus (first | decide | (simp; done) | (simp [tcs]; done))) | intro _); conv => whnf)
    subst hC
    refine aw_cut _ _ rfl fun C hC => ?_
    conv => whnf
    repeat ((first | refine aI rfl ?_ | refine aI (by decide) ?_ | refine dI (by kernel_rfl) ?_ | refine aI ⟨by omega, by omega⟩ ?_ | refine aI (by omega) ?_ | refine aI (fun _ => ⟨by omega, by omega⟩) ?_ | refine aI (of_decide_eq_true rfl) ?_ | (refine yI ?_ ?_; focus (first | decide | (simp; done) | (simp [tcs]; done))) | (refine nI ?_ ?_; focus (first | decide | (simp; done) | (simp [tcs]; done))) | intro _); conv => whnf)
    try (refine dI (by kernel_rfl) ?_; conv => whnf)
    first | refine CallSt.use hM [] trivial (by decide) rfl ?_ | refine CallPt.useS hM [] trivial (by decide) rfl ?_
    rintro _ _ ⟨rfl, rfl⟩ _
    conv => whnf
    show aw Tryz.prog (envB 0) C [(5, .ptr 2 0), (18, .elt 1 10000 0 0), (17, .c (.sl 6 72 (dcs sig))), (15, .c (.bool false)), (14, .c (.int .i64 (0))), (4, .c (.int .i64 (0))), (13, .c (.int .i64 (0))), (12, .c (.sl 6 72 (dcs sig))), (3, .c (.int .i64 (0))), (2, .nil), (1, .ptr 0 0), (0, .c (.sl 6 72 (dcs sig)))]
      [.box [.c (.sl 6 72 (dcs sig))], matE fm, .box [.elt 1 10000 0 0]] _
    subst hC
    refine aw_cut _ _ rfl fun C hC => ?_
    conv => whnf
    refine ⟨drow (fun _ => false), big100, drow_len _, ?_⟩
    conv => whnf
    subst hC
    refine aw_cut _ _ rfl fun C hC => ?_
    conv => whnf
    subst hC
    refine aw_cut _ _ rfl fun C hC => ?_
    conv => whnf
    show aw Tryz.prog (envB 0) C [(8, .fn 56 [.ptr 0 0, .elt 3 100 0 0, .ptr 2 0]), (19, .fn 56 [.ptr 0 0, .elt 3 100 0 0, .ptr 2 0]), (7, .nil), (6, .elt 3 100 0 0), (5, .ptr 2 0), (18, .elt 1 10000 0 0), (17, .c (.sl 6 72 (dcs sig))), (15, .c (.bool false)), (14, .c (.int .i64 (0))), (4, .c (.int .i64 (0))), (13, .c (.int .i64 (0))), (12, .c (.sl 6 72 (dcs sig))), (3, .c (.int .i64 (0))), (2, .nil), (1, .ptr 0 0), (0, .c (.sl 6 72 (dcs sig)))]
      [.box [.c (.sl 6 72 (dcs sig))], matE fm, .box [.elt 1 10000 0 0], .row 82 100 1 [drow fun _ => false]] _
    subst hC
    refine aw_cut2 _ _ _ rfl fun C D hC hD => ?_
    conv => whnf
    suffices key : ∀ o, nxG (okG fm kd (fun _ => false) n) n = o → aw Tryz.prog (envB 0) C [(9, nxW fm n o), (21, nxW fm n o), (20, .fn 56 [.ptr 0 0, .elt 3 100 0 0, .ptr 2 0]), (8, .fn 56 [.ptr 0 0, .elt 3 100 0 0, .ptr 2 0]), (19, .fn 56 [.ptr 0 0, .elt 3 100 0 0, .ptr 2 0]), (7, .nil), (6, .elt 3 100 0 0), (5, .ptr 2 0), (18, .elt 1 10000 0 0), (17, .c (.sl 6 72 (dcs sig))), (15, .c (.bool false)), (14, .c (.int .i64 (0))), (4, .c (.int .i64 (0))), (13, .c (.int .i64 (0))), (12, .c (.sl 6 72 (dcs sig))), (3, .c (.int .i64 (0))), (2, .nil), (1, .ptr 0 0), (0, .c (.sl 6 72 (dcs sig)))]
        [.box [.c (.sl 6 72 (dcs sig))], matE fm, .box [.elt 1 10000 0 0], .row 82 100 1 [drow fun _ => false]] (thenQ Tryz.prog (envB 0) D (finP (envB 0) Tryz.f28 (fun r H' => r = .tup [.c (.sl 1 24 (rowL G)), .c (.int .i64 (0))] ∧ H' = []))) by
      have h0 := hg fun _ => false
      rcases ho : nxG (okG fm kd (fun _ => false) n) n with _ | a
      · rw [ho] at h0
        try (refine dI (by kernel_rfl) ?_; conv => whnf)
        first | refine CallSt.use h0 [0, 3, 2, 1] ⟨rfl, rfl, rfl, rfl, trivial⟩ (by decide) rfl ?_ | refine CallPt.useS h0 [0, 3, 2, 1] ⟨rfl, rfl, rfl, rfl, trivial⟩ (by decide) rfl ?_
        rintro _ _ ⟨rfl, rfl⟩ _
        conv => whnf
        exact key none ho
      · rw [ho] at h0
        try (refine dI (by kernel_rfl) ?_; conv => whnf)
        first | refine CallSt.use h0 [0, 3, 2, 1] ⟨rfl, rfl, rfl, rfl, trivial⟩ (by decide) rfl ?_ | refine CallPt.useS h0 [0, 3, 2, 1] ⟨rfl, rfl, rfl, rfl, trivial⟩ (by decide) rfl ?_
        rintro _ _ ⟨rfl, rfl⟩ _
        conv => whnf
        exact key (some a) ho
    intro o0 ho0
    subst hC
    conv => whnf
    refine loop_intro (fun m tm H => ∃ d T o, cntD d n ≤ m ∧ G = T ++ grpsP fm kd n m d ∧ nxG (okG fm kd d n) n = o ∧ T.length + m ≤ 200 ∧ tm = [(9, nxW fm n o), (8, .fn 56 [.ptr 0 0, .elt 3 100 0 0, .ptr 2 0]), (7, .own 4), (6, .elt 3 100 0 0), (3, .c (.int .i64 (0))), (2, .nil)] ∧
        H = [.box [.c (.sl 6 72 (dcs sig))], matE fm, .box [.elt 1 10000 0 0], .row 82 100 1 [drow d], .row 39 1 24 (rowL T)]) n _ _ ⟨fun _ => false, [], o0, hcnt0, hG.symm, ho0, by simp; omega, rfl, rfl⟩ ?_ ?_
    · refine Wk.trans (tm1 := [(9, nxW fm n o0), (8, .fn 56 [.ptr 0 0, .elt 3 100 0 0, .ptr 2 0]), (7, .nil), (6, .elt 3 100 0 0), (3, .c (.int .i64 (0))), (2, .nil)]) (H1 := [.box [.c (.sl 6 72 (dcs sig))], matE fm, .box [.elt 1 10000 0 0], .row 82 100 1 [drow fun _ => false]]) ?_ (Wk.trans (Wk.niltmp 7 39 1 24 (by cases o0 <;> rfl) (by cases o0 <;> rfl)) ?_)
      · exact Wk.sl [0, 1, 2, 3] rfl ⟨rfl, rfl, rfl, rfl, trivial⟩ ⟨by cases o0 <;> rfl, rfl, rfl, rfl, rfl, rfl, trivial⟩ (by cases o0 <;> rfl)
      · exact Wk.sl [0, 1, 2, 3, 4] rfl ⟨rfl, rfl, rfl, rfl, rfl, trivial⟩ ⟨by cases o0 <;> rfl, rfl, rfl, rfl, rfl, rfl, trivial⟩ (by cases o0 <;> rfl)
    rintro m tm H ⟨d, T, o, hcn, hGe, hoe, hTl, rfl, rfl⟩
    rcases o with _ | a
    · rw [hnone d hoe m, List.append_nil] at hGe
      subst hGe
      conv => whnf
      repeat ((first | refine aI rfl ?_ | refine aI (by decide) ?_ | refine dI (by kernel_rfl) ?_ | refine aI ⟨by omega, by omega⟩ ?_ | refine aI (by omega) ?_ | refine aI (fun _ => ⟨by omega, by omega⟩) ?_ | refine aI (of_decide_eq_true rfl) ?_ | (refine yI ?_ ?_; focus (first | decide | (simp; done) | (simp [tcs]; done))) | (refine nI ?_ ?_; focus (first | decide | (simp; done) | (simp [tcs]; done))) | intro _); conv => whnf)
      subst hD
      conv => whnf
      repeat ((first | refine aI rfl ?_ | refine aI (by decide) ?_ | refine dI (by kernel_rfl) ?_ | refine aI ⟨by omega, by omega⟩ ?_ | refine aI (by omega) ?_ | refine aI (fun _ => ⟨by omega, by omega⟩) ?_ | refine aI (of_decide_eq_true rfl) ?_ | (refine yI ?_ ?_; focus (first | decide | (simp; done) | (simp [tcs]; done))) | (refine nI ?_ ?_; focus (first | decide | (simp; done) | (simp [tcs]; done))) | intro _); conv => whnf)
      all_goals (first | rfl | exact ⟨rfl, rfl⟩ | exact ⟨rfl, rfl, rfl⟩)
    · obtain ⟨hga, hgd, hgi⟩ := hgm d a hoe
      have hcl := @cnt_lt d _ n a hga hgd hgi
      obtain ⟨m, rfl⟩ : ∃ q, m = q + 1 := ⟨m - 1, by omega⟩
      rw [hsome d a hoe m] at hGe
      have hgb : ∀ x ∈ grp fm n a, 0 ≤ x ∧ x < n := grp_bd
      have hgL := hgl a
      have hgne : rowI (grp fm n a) ≠ [] := fun h => by
        have := congrArg List.length h
        rw [len_rowI] at this
        have h2 := List.length_pos_of_mem hgi
        simp at this
        rw [this] at h2
        exact absurd h2 (by simp)
      rw [show nxW fm n (some a) = .c (.sl 1 8 (rowI (grp fm n a))) from rfl]
      generalize grp fm n a = L at *
      have hrl := len_rowI L
      conv => whnf
      intro e he
      obtain rfl : e = true := by cases e with | true => rfl | false => exact absurd (he rfl) hgne
      conv => whnf
      repeat ((first | refine aI rfl ?_ | refine aI (by decide) ?_ | refine dI (by kernel_rfl) ?_ | refine aI ⟨by omega, by omega⟩ ?_ | refine aI (by omega) ?_ | refine aI (fun _ => ⟨by omega, by omega⟩) ?_ | refine aI (of_decide_eq_true rfl) ?_ | (refine yI ?_ ?_; focus (first | decide | (simp; done) | (simp [tcs]; done))) | (refine nI ?_ ?_; focus (first | decide | (simp; done) | (simp [tcs]; done))) | intro _); conv => whnf)
      refine loop_intro (fun mm tm H => ∃ i : Nat, L.length = mm + i ∧ tm = [(28, .c (.int .i64 (i))), (27, .c (.int .i64 ((rowI L).length))), (26, .c (.sl 1 8 (rowI L))), (9, .c (.sl 1 8 (rowI L))), (8, .fn 56 [.ptr 0 0, .elt 3 100 0 0, .ptr 2 0]), (7, .own 4), (6, .elt 3 100 0 0), (3, .c (.int .i64 (0))), (2, .nil)] ∧
        H = [.box [.c (.sl 6 72 (dcs sig))], matE fm, .box [.elt 1 10000 0 0], .row 82 100 1 [drow (markD d (L.take i))], .row 39 1 24 (rowL T)])
        L.length _ _ ⟨0, by omega, rfl, rfl⟩ ?_ ?_
      · refine Wk.sl [0, 1, 2, 3, 4] rfl ⟨rfl, rfl, rfl, ?_, rfl, trivial⟩ ⟨rfl, rfl, rfl, rfl, rfl, rfl, rfl, rfl, rfl, trivial⟩ rfl
        rw [show L.take 0 = [] from rfl, markD_nil]
        rfl
      rintro mm tm H ⟨i, hi, rfl, rfl⟩
      conv => whnf
      refine ⟨fun hc2 => ?_, fun hc2 => ?_⟩
      · replace hc2 : (i : Int) < (rowI L).length := of_decide_eq_true hc2
        obtain ⟨x, hx⟩ : ∃ x, L[i]? = some x := ⟨L[i]'(by omega), List.getElem?_eq_getElem (by omega)⟩
        have hxb := hgb x (List.mem_of_getElem? hx)
        obtain ⟨k, rfl⟩ : ∃ k : Nat, x = k := ⟨x.toNat, by omega⟩
        have hxr := rowI_at hx
        have hst : markD d (L.take (i + 1)) = updD (markD d (L.take i)) k := by
          rw [← markD_snoc, List.take_add_one, hx]
          rfl
        generalize hfq : markD d (L.take i) = fq at *
        conv => whnf
        repeat ((first | refine aI rfl ?_ | refine aI (by decide) ?_ | refine dI (by kernel_rfl) ?_ | refine aI ⟨by omega, by omega⟩ ?_ | refine aI (by omega) ?_ | refine aI (fun _ => ⟨by omega, by omega⟩) ?_ | refine aI (of_decide_eq_true rfl) ?_ | (refine yI ?_ ?_; focus (first | decide | (simp; done) | (simp [tcs]; done))) | (refine nI ?_ ?_; focus (first | decide | (simp; done) | (simp [tcs]; done))) | intro _); conv => whnf)
        refine ⟨_, ⟨by omega, by simpa using hxr⟩, ?_⟩
        conv => whnf
        refine ⟨Nat.le_refl 1, ?_⟩
        conv => whnf
        repeat ((first | refine aI rfl ?_ | refine aI (by decide) ?_ | refine dI (by kernel_rfl) ?_ | refine aI ⟨by omega, by omega⟩ ?_ | refine aI (by omega) ?_ | refine aI (fun _ => ⟨by omega, by omega⟩) ?_ | refine aI (of_decide_eq_true rfl) ?_ | (refine yI ?_ ?_; focus (first | decide | (simp; done) | (simp [tcs]; done))) | (refine nI ?_ ?_; focus (first | decide | (simp; done) | (simp [tcs]; done))) | intro _); conv => whnf)
        refine ⟨_, _, rfl, drow_set fq (by omega), ?_⟩
        conv => whnf
        repeat ((first | refine aI rfl ?_ | refine aI (by decide) ?_ | refine dI (by kernel_rfl) ?_ | refine aI ⟨by omega, by omega⟩ ?_ | refine aI (by omega) ?_ | refine aI (fun _ => ⟨by omega, by omega⟩) ?_ | refine aI (of_decide_eq_true rfl) ?_ | (refine yI ?_ ?_; focus (first | decide | (simp; done) | (simp [tcs]; done))) | (refine nI ?_ ?_; focus (first | decide | (simp; done) | (simp [tcs]; done))) | intro _); conv => whnf)
        refine ⟨mm - 1, _, _, by omega, ⟨i + 1, by omega, rfl, rfl⟩, Wk.sl [0, 1, 2, 3, 4] rfl ⟨rfl, rfl, rfl, ?_, rfl, trivial⟩ ⟨rfl, rfl, rfl, rfl, rfl, rfl, rfl, rfl, rfl, trivial⟩ rfl⟩
        rw [hst]
        rfl
      · replace hc2 : ¬ (i : Int) < (rowI L).length := of_decide_eq_false hc2
        obtain rfl : i = L.length := by omega
        rw [List.take_length]
        have hrT := len_rowL T
        have hl2 : ((rowL T).length + 1) * 24 ≤ 140737488355328 := by omega
        have hl3 : (rowL T).length + 1 ≤ 9223372036854775807 := by omega
        have h0 := hg (markD d L)
        have hGe' : G = (T ++ [L]) ++ grpsP fm kd n m (markD d L) := by rw [hGe, List.append_assoc]; rfl
        rcases ho : nxG (okG fm kd (markD d L) n) n with _ | b
        · rw [ho] at h0
          conv => whnf
          repeat ((first | refine aI rfl ?_ | refine aI (by decide) ?_ | refine dI (by kernel_rfl) ?_ | refine aI ⟨by omega, by omega⟩ ?_ | refine aI (by omega) ?_ | refine aI (fun _ => ⟨by omega, by omega⟩) ?_ | refine aI (of_decide_eq_true rfl) ?_ | (refine yI ?_ ?_; focus (first | decide | (simp; done) | (simp [tcs]; done))) | (refine nI ?_ ?_; focus (first | decide | (simp; done) | (simp [tcs]; done))) | intro _); conv => whnf)
          try (refine dI (by kernel_rfl) ?_; conv => whnf)
          first | refine CallSt.use h0 [0, 3, 2, 1] ⟨rfl, rfl, rfl, rfl, trivial⟩ (by decide) rfl ?_ | refine CallPt.useS h0 [0, 3, 2, 1] ⟨rfl, rfl, rfl, rfl, trivial⟩ (by decide) rfl ?_
          rintro _ _ ⟨rfl, rfl⟩ _
          conv => whnf
          refine ⟨m, _, _, by omega, ⟨markD d L, T ++ [L], none, by omega, hGe', ho, by rw [List.length_append, List.length_singleton]; omega, rfl, rfl⟩, Wk.sl [0, 1, 2, 3, 6] rfl ⟨rfl, rfl, rfl, rfl, ?_, trivial⟩ ⟨rfl, rfl, rfl, rfl, rfl, rfl, trivial⟩ rfl⟩
          rw [← rowL_snoc]
          rfl
        · rw [ho] at h0
          conv => whnf
          repeat ((first | refine aI rfl ?_ | refine aI (by decide) ?_ | refine dI (by kernel_rfl) ?_ | refine aI ⟨by omega, by omega⟩ ?_ | refine aI (by omega) ?_ | refine aI (fun _ => ⟨by omega, by omega⟩) ?_ | refine aI (of_decide_eq_true rfl) ?_ | (refine yI ?_ ?_; focus (first | decide | (simp; done) | (simp [tcs]; done))) | (refine nI ?_ ?_; focus (first | decide | (simp; done) | (simp [tcs]; done))) | intro _); conv => whnf)
          try (refine dI (by kernel_rfl) ?_; conv => whnf)
          first | refine CallSt.use h0 [0, 3, 2, 1] ⟨rfl, rfl, rfl, rfl, trivial⟩ (by decide) rfl ?_ | refine CallPt.useS h0 [0, 3, 2, 1] ⟨rfl, rfl, rfl, rfl, trivial⟩ (by decide) rfl ?_
          rintro _ _ ⟨rfl, rfl⟩ _
          conv => whnf
          refine ⟨m, _, _, by omega, ⟨markD d L, T ++ [L], some b, by omega, hGe', ho, by rw [List.length_append, List.length_singleton]; omega, rfl, rfl⟩, Wk.sl [0, 1, 2, 3, 6] rfl ⟨rfl, rfl, rfl, rfl, ?_, trivial⟩ ⟨rfl, rfl, rfl, rfl, rfl, rfl, trivial⟩ rfl⟩
          rw [← rowL_snoc]
          rfl
end Go.Tr
/- depend.Strengthen. -/
namespace Go.Tr
open Go.Proofs
end Go.Tr
/- The reference's matrix. -/
namespace Go.Tr
open Go.Proofs
def rowB (n : Nat) (f : Nat → Bool) : List (List CV) := (List.range n).map fun j => [.bool (f j)]
theorem rowB_len (n : Nat) (f : Nat → Bool) : (rowB n f).length = n := by simp [rowB]
theorem rowB_congr {n : Nat} {f g : Nat → Bool} (h : ∀ b, b < n → f b = g b) : rowB n f = rowB n g := by
  unfold rowB
  refine List.map_congr_left fun j hj => ?_
  rw [h j (by simpa using hj)]
theorem rowB_at (n : Nat) (f : Nat → Bool) {a : Nat} (ha : a < n) : (rowB n f)[a]? = some [.bool (f a)] := by
  unfold rowB
  rw [List.getElem?_map, List.getElem?_range ha]
  rfl
theorem rowB_set (n : Nat) (f : Nat → Bool) (v : Bool) {a : Nat} (ha : a < n) : (rowB n f).set a [.bool v] = rowB n fun x => if x = a then v else f x := by
  refine List.ext_getElem? fun k => ?_
  rw [List.getElem?_set]
  unfold rowB
  by_cases hk : a = k
  · subst hk
    rw [if_pos rfl, if_pos (by simpa using ha), List.getElem?_map, List.getElem?_range ha]
    simp
  · rw [if_neg hk, List.getElem?_map, List.getElem?_map]
    by_cases hl : k < n
    · rw [List.getElem?_range hl]
      have : ¬ k = a := fun e => hk e.symm
      simp [this]
    · rw [List.getElem?_eq_none (by simp; omega)]
      rfl
theorem rowB_zero (n : Nat) : List.replicate n [CV.bool false] = rowB n fun _ => false := by
  unfold rowB
  rw [List.map_const', List.length_range]
def rowM (n : Nat) (M : Nat → Nat → Bool) (i : Nat) : List (List CV) := (List.range i).map fun a => [.sl 1 1 (rowB n (M a))]
theorem rowM_len (n : Nat) (M : Nat → Nat → Bool) (i : Nat) : (rowM n M i).length = i := by simp [rowM]
theorem rowM_at (n : Nat) (M : Nat → Nat → Bool) {i a : Nat} (ha : a < i) : (rowM n M i)[a]? = some [.sl 1 1 (rowB n (M a))] := by
  unfold rowM
  rw [List.getElem?_map, List.getElem?_range ha]
  rfl
theorem rowM_snoc (n : Nat) (M : Nat → Nat → Bool) (i : Nat) : rowM n M i ++ [[.sl 1 1 (rowB n (M i))]] = rowM n M (i + 1) := by
  unfold rowM
  rw [List.range_succ, List.map_append]
  rfl
theorem rowM_congr {n : Nat} {M N : Nat → Nat → Bool} {i : Nat} (h : ∀ a b, a < i → b < n → M a b = N a b) : rowM n M i = rowM n N i := by
  unfold rowM
  refine List.map_congr_left fun j hj => ?_
  rw [rowB_congr fun b hb => h j b (by simpa using hj) hb]
attribute [irreducible] rowB rowM
def rowF (M : Nat → Nat → Bool) (L : List Int) : Nat → Bool := fun b => L.any fun k => decide ((b : Int) = k) || M k.toNat b
def mxP (sig : List Dcl) : Nat → Nat → Nat → Bool
  | 0 => fun _ _ => false
  | j + 1 => fun a b => match decide (a = j) with | true => (match sig[j]? with | some d => rowF (mxP sig j) (conF 2 d.c) b | none => false) | false => mxP sig j a b
def mxF (sig : List Dcl) : Nat → Nat → Bool := mxP sig sig.length
theorem mxP_last {sig : List Dcl} {j : Nat} {d : Dcl} (h : sig[j]? = some d) : mxP sig (j + 1) j = rowF (mxP sig j) (conF 2 d.c) := by
  funext b
  rw [mxP]
  dsimp only
  rw [decide_eq_true rfl, h]
theorem mxP_old {sig : List Dcl} {j a : Nat} (h : a ≠ j) : mxP sig (j + 1) a = mxP sig j a := by
  funext b
  rw [mxP]
  dsimp only
  rw [decide_eq_false h]
set_option maxHeartbeats 1000000 in
theorem cRMatrix (sig : List Dcl) (h : checkB sig = true) : CallSt Tryz.prog 46 [.c (.sl 6 72 (dcs sig))] [] (fun r H' => r = .c (.sl 1 24 (rowM sig.length (mxF sig) sig.length)) ∧ H' = []) := by
  have hsl := check_len h
  have hpr := check_prop h
  have hcon := fun i d (hd : sig[i]? = some d) => check_con h hd
  have hbl := len_dcs sig
  clear h
  refine call_pure (E := env 0) (fn := Tryz.f46) (c := bodyOf Tryz.f46) (env_ok 0) mixed (by kernel_rfl) (by kernel_rfl) (by kernel_rfl) (by kernel_rfl) (by kernel_rfl) (by kernel_rfl) rfl ?_
  conv => whnf
  repeat ((first | refine aI rfl ?_ | refine aI (by decide) ?_ | refine dI (by kernel_rfl) ?_ | refine aI ⟨by omega, by omega⟩ ?_ | refine aI (by omega) ?_ | refine aI (fun _ => ⟨by omega, by omega⟩) ?_ | refine aI (of_decide_eq_true rfl) ?_ | (refine yI ?_ ?_; focus (first | decide | (simp; done) | (simp [tcs]; done))) | (refine nI ?_ ?_; focus (first | decide | (simp; done) | (simp [tcs]; done))) | intro _); conv => whnf)
  refine loop_intro (fun m tm H => ∃ j : Nat, sig.length = m + j ∧
    tm = [(12, .c (.int .i64 (j))), (11, .c (.int .i64 ((dcs sig).length))), (0, .c (.sl 6 72 (dcs sig))), (3, .own 0)] ∧ H = [.row 69 1 24 (rowM sig.length (mxP sig j) j)])
    sig.length _ _ ⟨0, by omega, rfl, rfl⟩ ?_ ?_
  · refine Wk.trans (tm1 := [(12, .c (.int .i64 (0))), (11, .c (.int .i64 ((dcs sig).length))), (0, .c (.sl 6 72 (dcs sig))), (3, .nil)]) (H1 := []) ?_ (Wk.trans (Wk.niltmp 3 69 1 24 rfl rfl) ?_)
    · exact Wk.sl [] rfl trivial ⟨rfl, rfl, rfl, rfl, trivial⟩ rfl
    · have e : rowM sig.length (mxP sig 0) 0 = [] := List.length_eq_zero_iff.1 (rowM_len _ _ _)
      rw [e]
      exact Wk.sl [0] rfl ⟨rfl, trivial⟩ ⟨rfl, rfl, rfl, rfl, trivial⟩ rfl
  rintro m tm H ⟨j, hj, rfl, rfl⟩
  conv => whnf
  refine ⟨fun hc => ?_, fun hc => ?_⟩
  · replace hc : (j : Int) < (dcs sig).length := of_decide_eq_true hc
    obtain ⟨d, hd⟩ : ∃ d, sig[j]? = some d := ⟨sig[j]'(by omega), List.getElem?_eq_getElem (by omega)⟩
    have hdc := dcs_at hd
    have hcd := cRCons (hpr d (List.mem_of_getElem? hd))
    have hcb := hcon j d hd
    have hql := conF_len 2 d.c
    have hrl := len_rowI (conF 2 d.c)
    have hlast := mxP_last hd
    have hnext : rowM sig.length (mxP sig j) j ++ [[.sl 1 1 (rowB sig.length (rowF (mxP sig j) (conF 2 d.c)))]] = rowM sig.length (mxP sig (j + 1)) (j + 1) := by
      rw [← rowM_snoc, hlast, rowM_congr (M := mxP sig (j + 1)) (N := mxP sig j) fun a b ha hb => by rw [mxP_old (by omega)]]
    generalize conF 2 d.c = L at *
    have hml := rowM_len sig.length (mxP sig j) j
    have hmat := fun a (ha : a < j) => rowM_at sig.length (mxP sig j) ha
    have hz := rowB_zero sig.length
    generalize mxP sig j = M at *
    generalize sig.length = n at *
    obtain ⟨s', ⟨k', l', n', us'⟩, i'⟩ := d
    dsimp only at hcd
    rw [tv_mk] at hcd
    conv => whnf
    repeat ((first | refine aI rfl ?_ | refine aI (by decide) ?_ | refine dI (by kernel_rfl) ?_ | refine aI ⟨by omega, by omega⟩ ?_ | refine aI (by omega) ?_ | refine aI (fun _ => ⟨by omega, by omega⟩) ?_ | refine aI (of_decide_eq_true rfl) ?_ | (refine yI ?_ ?_; focus (first | decide | (simp; done) | (simp [tcs]; done))) | (refine nI ?_ ?_; focus (first | decide | (simp; done) | (simp [tcs]; done))) | intro _); conv => whnf)
    refine ⟨show (dcs sig).length * 1 ≤ 16777216 by omega, show (dcs sig).length * 1 ≤ 140737488355328 by omega, ?_⟩
    conv => whnf
    repeat ((first | refine aI rfl ?_ | refine aI (by decide) ?_ | refine dI (by kernel_rfl) ?_ | refine aI ⟨by omega, by omega⟩ ?_ | refine aI (by omega) ?_ | refine aI (fun _ => ⟨by omega, by omega⟩) ?_ | refine aI (of_decide_eq_true rfl) ?_ | (refine yI ?_ ?_; focus (first | decide | (simp; done) | (simp [tcs]; done))) | (refine nI ?_ ?_; focus (first | decide | (simp; done) | (simp [tcs]; done))) | intro _); conv => whnf)
    refine ⟨_, ⟨by omega, hdc⟩, ?_⟩
    conv => whnf
    refine ⟨show 4 ≤ 5 by decide, ?_⟩
    conv => whnf
    repeat ((first | refine aI rfl ?_ | refine aI (by decide) ?_ | refine dI (by kernel_rfl) ?_ | refine aI ⟨by omega, by omega⟩ ?_ | refine aI (by omega) ?_ | refine aI (fun _ => ⟨by omega, by omega⟩) ?_ | refine aI (of_decide_eq_true rfl) ?_ | (refine yI ?_ ?_; focus (first | decide | (simp; done) | (simp [tcs]; done))) | (refine nI ?_ ?_; focus (first | decide | (simp; done) | (simp [tcs]; done))) | intro _); conv => whnf)
    try (refine dI (by kernel_rfl) ?_; conv => whnf)
    first | refine CallSt.use hcd [] trivial (by decide) rfl ?_ | refine CallPt.useS hcd [] trivial (by decide) rfl ?_
    rintro _ _ ⟨rfl, rfl⟩ _
    conv => whnf
    repeat ((first | refine aI rfl ?_ | refine aI (by decide) ?_ | refine dI (by kernel_rfl) ?_ | refine aI ⟨by omega, by omega⟩ ?_ | refine aI (by omega) ?_ | refine aI (fun _ => ⟨by omega, by omega⟩) ?_ | refine aI (of_decide_eq_true rfl) ?_ | (refine yI ?_ ?_; focus (first | decide | (simp; done) | (simp [tcs]; done))) | (refine nI ?_ ?_; focus (first | decide | (simp; done) | (simp [tcs]; done))) | intro _); conv => whnf)
    refine loop_intro (fun m tm H => ∃ i : Nat, L.length = m + i ∧ tm = [(25, .c (.int .i64 (i))), (24, .c (.int .i64 ((rowI L).length))), (23, .c (.sl 1 8 (rowI L))), (5, .own 1), (4, .c (.int .i64 (j))), (12, .c (.int .i64 (j))), (11, .c (.int .i64 ((dcs sig).length))), (0, .c (.sl 6 72 (dcs sig))), (3, .own 0)] ∧
        H = [.row 69 1 24 (rowM n M j), .row 4 1 1 (rowB n (rowF M (L.take i)))])
      L.length _ _ ⟨0, by omega, rfl, rfl⟩ ?_ ?_
    · refine Wk.sl [0, 1] rfl ⟨rfl, ?_, trivial⟩ ⟨rfl, rfl, rfl, rfl, rfl, rfl, rfl, rfl, rfl, trivial⟩ rfl
      rw [show rowF M (L.take 0) = fun _ => false from rfl, ← hz, ← hbl]
      rfl
    rintro m2 tm H ⟨i, hi, rfl, rfl⟩
    conv => whnf
    refine ⟨fun hc2 => ?_, fun hc2 => ?_⟩
    · replace hc2 : (i : Int) < (rowI L).length := of_decide_eq_true hc2
      obtain ⟨x, hx⟩ : ∃ x, L[i]? = some x := ⟨L[i]'(by omega), List.getElem?_eq_getElem (by omega)⟩
      have hxb := hcb x (List.mem_of_getElem? hx)
      obtain ⟨k, rfl⟩ : ∃ k : Nat, x = k := ⟨x.toNat, by omega⟩
      have hxr := rowI_at hx
      have hst : ∀ b, rowF M (L.take (i + 1)) b = (rowF M (L.take i) b || (decide (b = k) || M k b)) := fun b => by
        unfold rowF
        rw [List.take_add_one, hx, List.any_append]
        have : decide ((b : Int) = (k : Int)) = decide (b = k) := decide_eq_decide.2 (by omega)
        simp [this]
      generalize rowF M (L.take i) = fq at *
      have hmk := hmat k (by omega)
      have hbl1 := rowB_len n fq
      obtain ⟨f1, hf1⟩ : ∃ f1 : Nat → Bool, ∀ b, f1 b = (fq b || decide (b = k)) := ⟨_, fun _ => rfl⟩
      have hbs : (rowB n fq).set (k : Int).toNat (List.take 0 [CV.bool (fq k)] ++ [CV.bool true] ++ List.drop (0 + [CV.bool true].length) [CV.bool (fq k)]) = rowB n f1 := by
        rw [Int.toNat_natCast]
        refine (rowB_set n fq true (show k < n by omega)).trans (rowB_congr fun b hb => ?_)
        rw [hf1]
        by_cases e : b = k
        · rw [if_pos e, decide_eq_true e, Bool.or_true]
        · rw [if_neg e, decide_eq_false e, Bool.or_false]
      have hba : (rowB n fq)[(k : Int).toNat]? = some [.bool (fq k)] := rowB_at n fq (by omega)
      have hbl2 := rowB_len n (M k)
      conv => whnf
      repeat ((first | refine aI rfl ?_ | refine aI (by decide) ?_ | refine dI (by kernel_rfl) ?_ | refine aI ⟨by omega, by omega⟩ ?_ | refine aI (by omega) ?_ | refine aI (fun _ => ⟨by omega, by omega⟩) ?_ | refine aI (of_decide_eq_true rfl) ?_ | (refine yI ?_ ?_; focus (first | decide | (simp; done) | (simp [tcs]; done))) | (refine nI ?_ ?_; focus (first | decide | (simp; done) | (simp [tcs]; done))) | intro _); conv => whnf)
      refine ⟨_, ⟨by omega, by simpa using hxr⟩, ?_⟩
      conv => whnf
      refine ⟨Nat.le_refl 1, ?_⟩
      conv => whnf
      repeat ((first | refine aI rfl ?_ | refine aI (by decide) ?_ | refine dI (by kernel_rfl) ?_ | refine aI ⟨by omega, by omega⟩ ?_ | refine aI (by omega) ?_ | refine aI (fun _ => ⟨by omega, by omega⟩) ?_ | refine aI (of_decide_eq_true rfl) ?_ | (refine yI ?_ ?_; focus (first | decide | (simp; done) | (simp [tcs]; done))) | (refine nI ?_ ?_; focus (first | decide | (simp; done) | (simp [tcs]; done))) | intro _); conv => whnf)
      refine ⟨_, hba, Nat.le_refl 1, ?_⟩
      rw [hbs]
      conv => whnf
      repeat ((first | refine aI rfl ?_ | refine aI (by decide) ?_ | refine dI (by kernel_rfl) ?_ | refine aI ⟨by omega, by omega⟩ ?_ | refine aI (by omega) ?_ | refine aI (fun _ => ⟨by omega, by omega⟩) ?_ | refine aI (of_decide_eq_true rfl) ?_ | (refine yI ?_ ?_; focus (first | decide | (simp; done) | (simp [tcs]; done))) | (refine nI ?_ ?_; focus (first | decide | (simp; done) | (simp [tcs]; done))) | intro _); conv => whnf)
      refine ⟨_, hmk, Nat.le_refl 1, ?_⟩
      conv => whnf
      repeat ((first | refine aI rfl ?_ | refine aI (by decide) ?_ | refine dI (by kernel_rfl) ?_ | refine aI ⟨by omega, by omega⟩ ?_ | refine aI (by omega) ?_ | refine aI (fun _ => ⟨by omega, by omega⟩) ?_ | refine aI (of_decide_eq_true rfl) ?_ | (refine yI ?_ ?_; focus (first | decide | (simp; done) | (simp [tcs]; done))) | (refine nI ?_ ?_; focus (first | decide | (simp; done) | (simp [tcs]; done))) | intro _); conv => whnf)
      refine loop_intro (fun m tm H => ∃ (s : Nat) (fs : Nat → Bool), n = m + s ∧ (∀ b, fs b = (f1 b || (decide (b < s) && M k b))) ∧ tm = [(37, .c (.int .i64 (s))), (36, .c (.int .i64 ((rowB n (M k)).length))), (35, .c (.sl 1 1 (rowB n (M k)))), (25, .c (.int .i64 (i))), (24, .c (.int .i64 ((rowI L).length))), (23, .c (.sl 1 8 (rowI L))), (5, .own 1), (4, .c (.int .i64 (j))), (12, .c (.int .i64 (j))), (11, .c (.int .i64 ((dcs sig).length))), (0, .c (.sl 6 72 (dcs sig))), (3, .own 0)] ∧
          H = [.row 69 1 24 (rowM n M j), .row 4 1 1 (rowB n fs)])
        n _ _ ⟨0, f1, by omega, fun b => by simp, rfl, rfl⟩ (Wk.sl [0, 1] rfl ⟨rfl, rfl, trivial⟩ ⟨rfl, rfl, rfl, rfl, rfl, rfl, rfl, rfl, rfl, rfl, rfl, rfl, trivial⟩ rfl) ?_
      rintro m3 tm H ⟨s, fs, hs, hfs, rfl, rfl⟩
      conv => whnf
      refine ⟨fun hc3 => ?_, fun hc3 => ?_⟩
      · replace hc3 : (s : Int) < (rowB n (M k)).length := of_decide_eq_true hc3
        obtain ⟨f2, hf2⟩ : ∃ f2 : Nat → Bool, ∀ b, f2 b = (f1 b || (decide (b < s + 1) && M k b)) := ⟨_, fun _ => rfl⟩
        have hbs3 : (rowB n fs).set (s : Int).toNat (List.take 0 [CV.bool (fs s)] ++ [CV.bool (fs s || M k s)] ++ List.drop (0 + [CV.bool (fs s || M k s)].length) [CV.bool (fs s)]) = rowB n f2 := by
          rw [Int.toNat_natCast]
          refine (rowB_set n fs (fs s || M k s) (show s < n by omega)).trans (rowB_congr fun b hb => ?_)
          rw [hfs, hf2]
          by_cases e : b = s
          · rw [if_pos e, e, decide_eq_false (show ¬ s < s by omega), decide_eq_true (show s < s + 1 by omega)]
            simp
          · rw [if_neg e, hfs]
            have : decide (b < s + 1) = decide (b < s) := decide_eq_decide.2 (by omega)
            rw [this]
        have hba3 : (rowB n fs)[(s : Int).toNat]? = some [.bool (fs s)] := rowB_at n fs (by omega)
        have hbk : (rowB n (M k))[(s : Int).toNat]? = some [.bool (M k s)] := rowB_at n (M k) (by omega)
        have hbl3 := rowB_len n fs
        conv => whnf
        repeat ((first | refine aI rfl ?_ | refine aI (by decide) ?_ | refine dI (by kernel_rfl) ?_ | refine aI ⟨by omega, by omega⟩ ?_ | refine aI (by omega) ?_ | refine aI (fun _ => ⟨by omega, by omega⟩) ?_ | refine aI (of_decide_eq_true rfl) ?_ | (refine yI ?_ ?_; focus (first | decide | (simp; done) | (simp [tcs]; done))) | (refine nI ?_ ?_; focus (first | decide | (simp; done) | (simp [tcs]; done))) | intro _); conv => whnf)
        refine ⟨_, ⟨by omega, hbk⟩, ?_⟩
        conv => whnf
        refine ⟨Nat.le_refl 1, ?_⟩
        conv => whnf
        repeat ((first | refine aI rfl ?_ | refine aI (by decide) ?_ | refine dI (by kernel_rfl) ?_ | refine aI ⟨by omega, by omega⟩ ?_ | refine aI (by omega) ?_ | refine aI (fun _ => ⟨by omega, by omega⟩) ?_ | refine aI (of_decide_eq_true rfl) ?_ | (refine yI ?_ ?_; focus (first | decide | (simp; done) | (simp [tcs]; done))) | (refine nI ?_ ?_; focus (first | decide | (simp; done) | (simp [tcs]; done))) | intro _); conv => whnf)
        refine ⟨_, hba3, Nat.le_refl 1, ?_⟩
        conv => whnf
        repeat ((first | refine aI rfl ?_ | refine aI (by decide) ?_ | refine dI (by kernel_rfl) ?_ | refine aI ⟨by omega, by omega⟩ ?_ | refine aI (by omega) ?_ | refine aI (fun _ => ⟨by omega, by omega⟩) ?_ | refine aI (of_decide_eq_true rfl) ?_ | (refine yI ?_ ?_; focus (first | decide | (simp; done) | (simp [tcs]; done))) | (refine nI ?_ ?_; focus (first | decide | (simp; done) | (simp [tcs]; done))) | intro _); conv => whnf)
        refine ⟨_, hba3, Nat.le_refl 1, ?_⟩
        rw [hbs3]
        conv => whnf
        repeat ((first | refine aI rfl ?_ | refine aI (by decide) ?_ | refine dI (by kernel_rfl) ?_ | refine aI ⟨by omega, by omega⟩ ?_ | refine aI (by omega) ?_ | refine aI (fun _ => ⟨by omega, by omega⟩) ?_ | refine aI (of_decide_eq_true rfl) ?_ | (refine yI ?_ ?_; focus (first | decide | (simp; done) | (simp [tcs]; done))) | (refine nI ?_ ?_; focus (first | decide | (simp; done) | (simp [tcs]; done))) | intro _); conv => whnf)
        refine ⟨m3 - 1, _, _, by omega, ⟨s + 1, f2, by omega, hf2, rfl, rfl⟩, Wk.sl [0, 1] rfl ⟨rfl, rfl, trivial⟩ ⟨rfl, rfl, rfl, rfl, rfl, rfl, rfl, rfl, rfl, rfl, rfl, rfl, trivial⟩ rfl⟩
      · replace hc3 : ¬ (s : Int) < (rowB n (M k)).length := of_decide_eq_false hc3
        obtain rfl : s = n := by omega
        have hend : rowB s fs = rowB s (rowF M (L.take (i + 1))) := rowB_congr fun b hb => by
          rw [hst, hfs, hf1, decide_eq_true hb, Bool.true_and, Bool.or_assoc]
        rw [hend]
        conv => whnf
        repeat ((first | refine aI rfl ?_ | refine aI (by decide) ?_ | refine dI (by kernel_rfl) ?_ | refine aI ⟨by omega, by omega⟩ ?_ | refine aI (by omega) ?_ | refine aI (fun _ => ⟨by omega, by omega⟩) ?_ | refine aI (of_decide_eq_true rfl) ?_ | (refine yI ?_ ?_; focus (first | decide | (simp; done) | (simp [tcs]; done))) | (refine nI ?_ ?_; focus (first | decide | (simp; done) | (simp [tcs]; done))) | intro _); conv => whnf)
        refine ⟨m2 - 1, _, _, by omega, ⟨i + 1, by omega, rfl, rfl⟩, Wk.sl [0, 1] rfl ⟨rfl, rfl, trivial⟩ ⟨rfl, rfl, rfl, rfl, rfl, rfl, rfl, rfl, rfl, trivial⟩ rfl⟩
    · replace hc2 : ¬ (i : Int) < (rowI L).length := of_decide_eq_false hc2
      obtain rfl : i = L.length := by omega
      rw [List.take_length]
      have hl2 : ((rowM n M j).length + 1) * 24 ≤ 140737488355328 := by omega
      have hl3 : (rowM n M j).length + 1 ≤ 9223372036854775807 := by omega
      conv => whnf
      repeat ((first | refine aI rfl ?_ | refine aI (by decide) ?_ | refine dI (by kernel_rfl) ?_ | refine aI ⟨by omega, by omega⟩ ?_ | refine aI (by omega) ?_ | refine aI (fun _ => ⟨by omega, by omega⟩) ?_ | refine aI (of_decide_eq_true rfl) ?_ | (refine yI ?_ ?_; focus (first | decide | (simp; done) | (simp [tcs]; done))) | (refine nI ?_ ?_; focus (first | decide | (simp; done) | (simp [tcs]; done))) | intro _); conv => whnf)
      refine ⟨m - 1, _, _, by omega, ⟨j + 1, by omega, rfl, rfl⟩, Wk.sl [3] rfl ⟨?_, trivial⟩ ⟨rfl, rfl, rfl, rfl, trivial⟩ rfl⟩
      rw [← hnext]
      rfl
  · replace hc : ¬ (j : Int) < (dcs sig).length := of_decide_eq_false hc
    obtain rfl : j = sig.length := by omega
    have e : rowM sig.length (mxP sig sig.length) sig.length = rowM sig.length (mxF sig) sig.length := rfl
    rw [e]
    generalize rowM sig.length (mxF sig) sig.length = R at *
    conv => whnf
    repeat ((first | refine aI rfl ?_ | refine aI (by decide) ?_ | refine dI (by kernel_rfl) ?_ | refine aI ⟨by omega, by omega⟩ ?_ | refine aI (by omega) ?_ | refine aI (fun _ => ⟨by omega, by omega⟩) ?_ | refine aI (of_decide_eq_true rfl) ?_ | (refine yI ?_ ?_; focus (first | decide | (simp; done) | (simp [tcs]; done))) | (refine nI ?_ ?_; focus (first | decide | (simp; done) | (simp [tcs]; done))) | intro _); conv => whnf)
    all_goals (first | rfl | exact ⟨rfl, rfl⟩ | exact ⟨rfl, rfl, rfl⟩)
end Go.Tr
/- Levels. -/
namespace Go.Tr
open Go.Proofs
end Go.Tr
/- Levels, of the reference; Level. -/
namespace Go.Tr
open Go.Proofs
end Go.Tr
/- uses; Copy of a signature. -/
namespace Go.Tr
open Go.Proofs
def usesT (n : Int) (t : Term) : Bool := !allT (hdOk 2 (fun x => !decide (x = n))) t 0
end Go.Tr
/- Copy of a signature; Add. -/
namespace Go.Tr
open Go.Proofs
theorem dcs_snoc (l : List Dcl) (d : Dcl) : dcs l ++ [dc d] = dcs (l ++ [d]) := by simp [dcs]
end Go.Tr
/- renumbered, Chosen. -/
namespace Go.Tr
open Go.Proofs
theorem cMapRn (F : KV → Option Int) (g : Int → Int → Int → Int → Int × Int × Int) (ok : Term → Int → Prop) (hok : ∀ t i, ok t i → (0 ≤ i ∧ i ≤ 1000000000) ∧ ∀ (j : Nat) u, t.ts[j]? = some u → ok u (i + unT t.k j))
    (hf : ∀ t i, ok t i → CallSt Tryz.prog 99 ([.agg [.c (.int .i64 (t.k)), .c (.int .i64 (t.l)), .c (.int .i64 (t.n)), .nil], .c (.int .i64 (i))] ++ [.ptr 0 0]) [.box [.fn 76 [.ptr 1 0]], .box [.mpv 2], .mp false (.n F)]
      (fun r H' => r = .agg [.c (.int .i64 ((g t.k t.l t.n i).1)), .c (.int .i64 ((g t.k t.l t.n i).2.1)), .c (.int .i64 ((g t.k t.l t.n i).2.2)), .nil] ∧ H' = [.box [.fn 76 [.ptr 1 0]], .box [.mpv 2], .mp false (.n F)])) (t : Term) :
    ∀ (i : Int), ok t i → CallSt Tryz.prog 98 [tv t, .c (.int .i64 (i)), .fn 99 [.ptr 0 0]] [.box [.fn 76 [.ptr 1 0]], .box [.mpv 2], .mp false (.n F)]
      (fun r H' => r = tv (mapT g t i) ∧ H' = [.box [.fn 76 [.ptr 1 0]], .box [.mpv 2], .mp false (.n F)]) := by
  induction t using Term.ind with
  | _ t ih =>
  intro i hti
  have hff := hf t i hti
  obtain ⟨hib, hch⟩ := hok t i hti
  obtain ⟨k, l, n, ts⟩ := t
  replace ih : ∀ u, u ∈ ts → _ := ih
  rw [tv_mk]
  refine call_pure (E := envK 3) (fn := Tryz.f98) (c := bodyOf Tryz.f98) (envK_ok 3) mixed (by kernel_rfl) (by kernel_rfl) (by kernel_rfl) (by kernel_rfl) (by kernel_rfl) (by kernel_rfl) rfl ?_
  conv => whnf
  try (refine dI (by kernel_rfl) ?_; conv => whnf)
  first | refine CallSt.use hff [0, 1, 2] ⟨rfl, rfl, rfl, trivial⟩ (by decide) rfl ?_ | refine CallPt.useS hff [0, 1, 2] ⟨rfl, rfl, rfl, trivial⟩ (by decide) rfl ?_
  rintro _ _ ⟨rfl, rfl⟩ _
  conv => whnf
  simp only [Term.k, Term.l, Term.n]
  generalize hg : g k l n i = y
  obtain ⟨y1, y2, y3⟩ := y
  conv => whnf
  intro hlen
  replace hlen : (tcs ts).length * 48 ≤ 140737488355328 := hlen
  rw [len_tcs] at hlen
  conv => whnf
  refine loop_intro (fun m tm H => ∃ (j : Nat) (us : List Term), ts.length = m + j ∧ us.length = j ∧ us ++ mapL g k i j (ts.drop j) = mapL g k i 0 ts ∧
      tm = [(23, .c (.int .i64 (j))), (21, .c (.sl 4 48 (tcs ts))), (22, .c (.int .i64 ((tcs ts).length))), (1, .c (.int .i64 (i))), (2, .fn 99 [.ptr 0 0]), (3, .ptr 3 0), (6, .ptr 4 0), (7, .ptr 5 0)] ∧
      H = [.box [.fn 76 [.ptr 1 0]], .box [.mpv 2], .mp false (.n F), .box [.c (.int .i64 (k)), .c (.int .i64 (l)), .c (.int .i64 (n)), .c (.sl 4 48 (tcs ts))], .box [.c (.int .i64 (0)), .c (.int .i64 (0)), .c (.int .i64 (0)), .nil],
        .box [.c (.int .i64 (y1)), .c (.int .i64 (y2)), .c (.int .i64 (y3)), .own 6], .row 25 4 48 (tcs us)])
      ts.length _ _ ⟨0, [], by omega, rfl, rfl, rfl, rfl⟩ ?_ ?_
  · refine Wk.trans (H1 := [.box [.fn 76 [.ptr 1 0]], .box [.mpv 2], .mp false (.n F), .box [.c (.int .i64 (k)), .c (.int .i64 (l)), .c (.int .i64 (n)), .c (.sl 4 48 (tcs ts))], .box [.c (.int .i64 (0)), .c (.int .i64 (0)), .c (.int .i64 (0)), .nil],
        .box [.c (.int .i64 (y1)), .c (.int .i64 (y2)), .c (.int .i64 (y3)), .nil]]) ?_ (Wk.nilrow' 5 3 25 4 48 rfl rfl rfl rfl)
    exact Wk.sl [0, 1, 2, 3, 4, 5] rfl ⟨rfl, rfl, rfl, rfl, rfl, rfl, trivial⟩ ⟨rfl, rfl, rfl, rfl, rfl, rfl, rfl, rfl, trivial⟩ rfl
  rintro m tm H ⟨j, us, hj, hus, hR, rfl, rfl⟩
  conv => whnf
  refine ⟨fun hc => ?_, fun hc => ?_⟩
  · replace hc : (j : Int) < (tcs ts).length := of_decide_eq_true hc
    rw [len_tcs] at hc
    have hlt : j < ts.length := by omega
    obtain ⟨u, hu⟩ : ∃ u, ts[j]? = some u := ⟨ts[j], List.getElem?_eq_getElem hlt⟩
    have hm := List.mem_of_getElem? hu
    have huc := tcs_at ts j u hu
    have hcc := ih u hm (i + unT k j) (hch j u hu)
    have hun := c77 (.mk k l n ts) j
    have hub := unT_bd k j
    rw [drop_at hu, mapL] at hR
    obtain ⟨k', l', n', us'⟩ := u
    conv => whnf
    refine ⟨_, ⟨by omega, by simpa using huc⟩, ?_⟩
    conv => whnf
    refine ⟨Nat.le_refl 4, ?_⟩
    conv => whnf
    try (refine dI (by kernel_rfl) ?_; conv => whnf)
    first | refine CallSt.use hun [] trivial (by decide) rfl ?_ | refine CallPt.useS hun [] trivial (by decide) rfl ?_
    rintro _ _ ⟨rfl, rfl⟩ _
    conv => whnf
    refine ⟨⟨by simp only [Term.k]; omega, by simp only [Term.k]; omega⟩, ?_⟩
    conv => whnf
    try (refine dI (by kernel_rfl) ?_; conv => whnf)
    first | refine CallSt.use hcc [0, 1, 2] ⟨rfl, rfl, rfl, trivial⟩ (by decide) rfl ?_ | refine CallPt.useS hcc [0, 1, 2] ⟨rfl, rfl, rfl, trivial⟩ (by decide) rfl ?_
    rintro _ _ ⟨rfl, rfl⟩ _
    generalize hv : mapT g (.mk k' l' n' us') (i + unT k j) = v at *
    obtain ⟨k3, l3, n3, us3⟩ := v
    conv => whnf
    refine ⟨by decide, ?_⟩
    conv => whnf
    refine ⟨by decide, ?_⟩
    conv => whnf
    have hl1 : (tcs us).length = j := by rw [len_tcs, hus]
    have hl2 : ((tcs us).length + 1) * 48 ≤ 140737488355328 := by omega
    have hl3 : (tcs us).length + 1 ≤ 9223372036854775807 := by omega
    refine ⟨hl2, hl3, ?_⟩
    conv => whnf
    refine ⟨⟨by omega, by omega⟩, ?_⟩
    conv => whnf
    refine ⟨m - 1, _, _, by omega, ⟨j + 1, us ++ [.mk k3 l3 n3 us3], by omega, by simp [hus], ?_, rfl, rfl⟩, Wk.sl [0, 1, 2, 3, 4, 5, 9] rfl ⟨rfl, rfl, rfl, rfl, rfl, rfl, ?_, trivial⟩ ⟨rfl, rfl, rfl, rfl, rfl, rfl, rfl, rfl, trivial⟩ rfl⟩
    · rw [← hR, List.append_assoc]
      rfl
    · rw [← tcs_snoc]
      rfl
  · replace hc : ¬ (j : Int) < (tcs ts).length := of_decide_eq_false hc
    rw [len_tcs] at hc
    conv => whnf
    refine ⟨rfl, ?_⟩
    conv => whnf
    refine ⟨rfl, ?_⟩
    rw [List.drop_eq_nil_of_le (by omega), mapL, List.append_nil] at hR
    rw [mapT, hg, ← hR]
    exact ⟨rfl, rfl⟩
theorem cChosen1 (F : KV → Option Int) (n : Int) : CallSt Tryz.prog 76 [.c (.int .i64 (n)), .ptr 0 0] [.box [.mpv 1], .mp false (.n F)] (fun r H' => r = .c (.int .i64 ((F (.i n)).getD 0)) ∧ H' = [.box [.mpv 1], .mp false (.n F)]) := by
  refine call_pure (E := env 2) (fn := Tryz.f76) (c := bodyOf Tryz.f76) (env_ok 2) mixed (by kernel_rfl) (by kernel_rfl) (by kernel_rfl) (by kernel_rfl) (by kernel_rfl) (by kernel_rfl) rfl ?_
  conv => whnf
  repeat ((first | refine aI rfl ?_ | refine aI (by decide) ?_ | refine dI (by kernel_rfl) ?_ | refine aI ⟨by omega, by omega⟩ ?_ | refine aI (by omega) ?_ | refine aI (fun _ => ⟨by omega, by omega⟩) ?_ | refine aI (of_decide_eq_true rfl) ?_ | (refine yI ?_ ?_; focus (first | decide | (simp; done) | (simp [tcs]; done))) | (refine nI ?_ ?_; focus (first | decide | (simp; done) | (simp [tcs]; done))) | intro _); conv => whnf)
  all_goals (first | rfl | exact ⟨rfl, rfl⟩ | exact ⟨rfl, rfl, rfl⟩)
def rnG (f : Int → Int) (k l n _i : Int) : Int × Int × Int := match decide (k = 4) && decide (l = 2) with | true => (k, l, f n) | false => (k, l, n)
def mget (F : KV → Option Int) (n : Int) : Int := (F (.i n)).getD 0
theorem cRenum1 (F : KV → Option Int) (k l n i : Int) : CallSt Tryz.prog 99 [.agg [.c (.int .i64 (k)), .c (.int .i64 (l)), .c (.int .i64 (n)), .nil], .c (.int .i64 (i)), .ptr 0 0] [.box [.fn 76 [.ptr 1 0]], .box [.mpv 2], .mp false (.n F)]
    (fun r H' => r = .agg [.c (.int .i64 ((rnG (mget F) k l n i).1)), .c (.int .i64 ((rnG (mget F) k l n i).2.1)), .c (.int .i64 ((rnG (mget F) k l n i).2.2)), .nil] ∧ H' = [.box [.fn 76 [.ptr 1 0]], .box [.mpv 2], .mp false (.n F)]) := by
  have hc := cChosen1 F n
  by_cases hg : k = 4 ∧ l = 2
  · obtain ⟨rfl, rfl⟩ := hg
    refine call_trim (E := env 3) (fn := Tryz.f99) (c := bodyOf Tryz.f99) (env_ok 3) mixed (by kernel_rfl) (by kernel_rfl) (by kernel_rfl) (by kernel_rfl) (by kernel_rfl) (by kernel_rfl) rfl ?_
    conv => whnf
    repeat ((first | refine aI rfl ?_ | refine aI (by decide) ?_ | refine dI (by kernel_rfl) ?_ | refine aI ⟨by omega, by omega⟩ ?_ | refine aI (by omega) ?_ | refine aI (fun _ => ⟨by omega, by omega⟩) ?_ | refine aI (of_decide_eq_true rfl) ?_ | (refine yI ?_ ?_; focus (first | decide | (simp; done) | (simp [tcs]; done))) | (refine nI ?_ ?_; focus (first | decide | (simp; done) | (simp [tcs]; done))) | intro _); conv => whnf)
    try (refine dI (by kernel_rfl) ?_; conv => whnf)
    first | refine CallSt.use hc [1, 2] ⟨rfl, rfl, trivial⟩ (by decide) rfl ?_ | refine CallPt.useS hc [1, 2] ⟨rfl, rfl, trivial⟩ (by decide) rfl ?_
    rintro _ _ ⟨rfl, rfl⟩ _
    conv => whnf
    repeat ((first | refine aI rfl ?_ | refine aI (by decide) ?_ | refine dI (by kernel_rfl) ?_ | refine aI ⟨by omega, by omega⟩ ?_ | refine aI (by omega) ?_ | refine aI (fun _ => ⟨by omega, by omega⟩) ?_ | refine aI (of_decide_eq_true rfl) ?_ | (refine yI ?_ ?_; focus (first | decide | (simp; done) | (simp [tcs]; done))) | (refine nI ?_ ?_; focus (first | decide | (simp; done) | (simp [tcs]; done))) | intro _); conv => whnf)
    all_goals (first | rfl | exact ⟨rfl, rfl⟩ | exact ⟨rfl, rfl, rfl⟩)
  · have hb : (decide (k = 4) && decide (l = 2)) = false := by
      rw [Bool.and_eq_false_iff, decide_eq_false_iff_not, decide_eq_false_iff_not]
      omega
    rw [show rnG (mget F) k l n i = (k, l, n) by unfold rnG; rw [hb]]
    refine call_trim (E := env 3) (fn := Tryz.f99) (c := bodyOf Tryz.f99) (env_ok 3) mixed (by kernel_rfl) (by kernel_rfl) (by kernel_rfl) (by kernel_rfl) (by kernel_rfl) (by kernel_rfl) rfl ?_
    conv => whnf
    refine ⟨fun hc => ?_, fun hc => ?_⟩
    · exact absurd (hb.symm.trans hc) (by decide)
    · conv => whnf
      repeat ((first | refine aI rfl ?_ | refine aI (by decide) ?_ | refine dI (by kernel_rfl) ?_ | refine aI ⟨by omega, by omega⟩ ?_ | refine aI (by omega) ?_ | refine aI (fun _ => ⟨by omega, by omega⟩) ?_ | refine aI (of_decide_eq_true rfl) ?_ | (refine yI ?_ ?_; focus (first | decide | (simp; done) | (simp [tcs]; done))) | (refine nI ?_ ?_; focus (first | decide | (simp; done) | (simp [tcs]; done))) | intro _); conv => whnf)
      all_goals (first | rfl | exact ⟨rfl, rfl⟩ | exact ⟨rfl, rfl, rfl⟩)
theorem cRenum (F : KV → Option Int) (t : Term) (hp : prop t = true) : CallSt Tryz.prog 75 [tv t, .fn 76 [.ptr 0 0]] [.box [.mpv 1], .mp false (.n F)]
    (fun r H' => r = tv (mapT (rnG (mget F)) t 0) ∧ H' = [.box [.mpv 1], .mp false (.n F)]) := by
  have hm := cMapRn F (rnG (mget F)) okT okT_step (fun t i _ => cRenum1 F t.k t.l t.n i) t 0 (prop_ok hp)
  generalize mapT (rnG (mget F)) t 0 = u at *
  clear hp
  obtain ⟨k, l, n, ts⟩ := t
  obtain ⟨k2, l2, n2, us⟩ := u
  rw [tv_mk] at *
  rw [tv_mk] at *
  refine call_pure (E := env 2) (fn := Tryz.f75) (c := bodyOf Tryz.f75) (env_ok 2) mixed (by kernel_rfl) (by kernel_rfl) (by kernel_rfl) (by kernel_rfl) (by kernel_rfl) (by kernel_rfl) rfl ?_
  conv => whnf
  try (refine dI (by kernel_rfl) ?_; conv => whnf)
  first | refine CallSt.use hm [3, 0, 1] ⟨rfl, rfl, rfl, trivial⟩ (by decide) rfl ?_ | refine CallPt.useS hm [3, 0, 1] ⟨rfl, rfl, rfl, trivial⟩ (by decide) rfl ?_
  rintro _ _ ⟨rfl, rfl⟩ _
  conv => whnf
  repeat ((first | refine aI rfl ?_ | refine aI (by decide) ?_ | refine dI (by kernel_rfl) ?_ | refine aI ⟨by omega, by omega⟩ ?_ | refine aI (by omega) ?_ | refine aI (fun _ => ⟨by omega, by omega⟩) ?_ | refine aI (of_decide_eq_true rfl) ?_ | (refine yI ?_ ?_; focus (first | decide | (simp; done) | (simp [tcs]; done))) | (refine nI ?_ ?_; focus (first | decide | (simp; done) | (simp [tcs]; done))) | intro _); conv => whnf)
  all_goals (first | rfl | exact ⟨rfl, rfl⟩ | exact ⟨rfl, rfl, rfl⟩)
def chMap (l : List Int) : Nat → KV → Option Int
  | 0 => fun _ => none
  | j + 1 => match l[j]? with | some n => mput (chMap l j) (.i n) (j : Int) | none => chMap l j
def pickD (sig : List Dcl) (f : Int → Int) (n : Int) : Dcl := match sig[n.toNat]? with | some d => ⟨d.s, mapT (rnG f) d.c 0, d.i⟩ | none => ⟨⟨#[]⟩, zT, 0⟩
def chosenF (sig : List Dcl) (l : List Int) : List Dcl := l.map (pickD sig (mget (chMap l l.length)))
theorem cChosen (sig : List Dcl) (hp : ∀ e ∈ sig, prop e.c = true) (l : List Int) (hl : l.length ≤ 1000) (hi : ∀ n ∈ l, 0 ≤ n ∧ n < sig.length) :
    CallSt Tryz.prog 44 [.c (.sl 6 72 (dcs sig)), .c (.sl 1 8 (rowI l))] [] (fun r H' => r = .c (.sl 6 72 (dcs (chosenF sig l))) ∧ H' = []) := by
  have hbl := len_dcs sig
  have hrl := len_rowI l
  refine call_pure (E := env 0) (fn := Tryz.f44) (c := bodyOf Tryz.f44) (env_ok 0) mixed (by kernel_rfl) (by kernel_rfl) (by kernel_rfl) (by kernel_rfl) (by kernel_rfl) (by kernel_rfl) rfl ?_
  conv => whnf
  repeat ((first | refine aI rfl ?_ | refine aI (by decide) ?_ | refine dI (by kernel_rfl) ?_ | refine aI ⟨by omega, by omega⟩ ?_ | refine aI (by omega) ?_ | refine aI (fun _ => ⟨by omega, by omega⟩) ?_ | refine aI (of_decide_eq_true rfl) ?_ | (refine yI ?_ ?_; focus (first | decide | (simp; done) | (simp [tcs]; done))) | (refine nI ?_ ?_; focus (first | decide | (simp; done) | (simp [tcs]; done))) | intro _); conv => whnf)
  refine loop_intro (fun m tm H => ∃ j : Nat, l.length = m + j ∧
    tm = [(15, .c (.int .i64 (j))), (14, .c (.int .i64 ((rowI l).length))), (13, .c (.sl 1 8 (rowI l))), (0, .c (.sl 6 72 (dcs sig))), (1, .c (.sl 1 8 (rowI l))), (5, .ptr 0 0)] ∧ H = [.box [.mpv 1], .mp false (.n (chMap l j))])
    l.length _ _ ⟨0, by omega, rfl, rfl⟩ (Wk.sl [1, 0] rfl ⟨rfl, rfl, trivial⟩ ⟨rfl, rfl, rfl, rfl, rfl, rfl, trivial⟩ rfl) ?_
  rintro m tm H ⟨j, hj, rfl, rfl⟩
  conv => whnf
  refine ⟨fun hlt => ?_, fun hlt => ?_⟩
  · replace hlt : (j : Int) < (rowI l).length := of_decide_eq_true hlt
    obtain ⟨n, hn⟩ : ∃ n, l[j]? = some n := ⟨l[j]'(by omega), List.getElem?_eq_getElem (by omega)⟩
    have hnr := rowI_at hn
    have hnx : chMap l (j + 1) = mput (chMap l j) (.i n) (j : Int) := by rw [chMap, hn]
    conv => whnf
    refine ⟨_, ⟨by omega, by simpa using hnr⟩, ?_⟩
    conv => whnf
    refine ⟨Nat.le_refl 1, ?_⟩
    conv => whnf
    repeat ((first | refine aI rfl ?_ | refine aI (by decide) ?_ | refine dI (by kernel_rfl) ?_ | refine aI ⟨by omega, by omega⟩ ?_ | refine aI (by omega) ?_ | refine aI (fun _ => ⟨by omega, by omega⟩) ?_ | refine aI (of_decide_eq_true rfl) ?_ | (refine yI ?_ ?_; focus (first | decide | (simp; done) | (simp [tcs]; done))) | (refine nI ?_ ?_; focus (first | decide | (simp; done) | (simp [tcs]; done))) | intro _); conv => whnf)
    refine ⟨m - 1, _, _, by omega, ⟨j + 1, by omega, rfl, rfl⟩, Wk.sl [0, 1] rfl ⟨rfl, ?_, trivial⟩ ⟨rfl, rfl, rfl, rfl, rfl, rfl, trivial⟩ rfl⟩
    rw [hnx]
    rfl
  · replace hlt : ¬ (j : Int) < (rowI l).length := of_decide_eq_false hlt
    obtain rfl : j = l.length := by omega
    have hcf : chosenF sig l = (l.take l.length).map (pickD sig (mget (chMap l l.length))) := by rw [List.take_length]; rfl
    rw [hcf]
    generalize chMap l l.length = F at *
    clear hcf
    conv => whnf
    repeat ((first | refine aI rfl ?_ | refine aI (by decide) ?_ | refine dI (by kernel_rfl) ?_ | refine aI ⟨by omega, by omega⟩ ?_ | refine aI (by omega) ?_ | refine aI (fun _ => ⟨by omega, by omega⟩) ?_ | refine aI (of_decide_eq_true rfl) ?_ | (refine yI ?_ ?_; focus (first | decide | (simp; done) | (simp [tcs]; done))) | (refine nI ?_ ?_; focus (first | decide | (simp; done) | (simp [tcs]; done))) | intro _); conv => whnf)
    refine loop_intro (fun m tm H => ∃ j : Nat, l.length = m + j ∧
      tm = [(26, .c (.int .i64 (j))), (25, .c (.int .i64 ((rowI l).length))), (24, .c (.sl 1 8 (rowI l))), (0, .c (.sl 6 72 (dcs sig))), (5, .ptr 0 0), (8, .own 2)] ∧
      H = [.box [.mpv 1], .mp false (.n F), .row 56 6 72 (dcs ((l.take j).map (pickD sig (mget F))))])
      l.length _ _ ⟨0, by omega, rfl, rfl⟩ ?_ ?_
    · refine Wk.trans (tm1 := [(26, .c (.int .i64 (0))), (25, .c (.int .i64 ((rowI l).length))), (24, .c (.sl 1 8 (rowI l))), (0, .c (.sl 6 72 (dcs sig))), (5, .ptr 0 0), (8, .nil)]) (H1 := [.box [.mpv 1], .mp false (.n F)]) ?_ (Wk.trans (Wk.niltmp 8 56 6 72 rfl rfl) ?_)
      · exact Wk.sl [0, 1] rfl ⟨rfl, rfl, trivial⟩ ⟨rfl, rfl, rfl, rfl, rfl, rfl, trivial⟩ rfl
      · exact Wk.sl [0, 1, 2] rfl ⟨rfl, rfl, rfl, trivial⟩ ⟨rfl, rfl, rfl, rfl, rfl, rfl, trivial⟩ rfl
    rintro m2 tm H ⟨j, hj, rfl, rfl⟩
    conv => whnf
    refine ⟨fun hlt => ?_, fun hlt => ?_⟩
    · replace hlt : (j : Int) < (rowI l).length := of_decide_eq_true hlt
      obtain ⟨n, hn⟩ : ∃ n, l[j]? = some n := ⟨l[j]'(by omega), List.getElem?_eq_getElem (by omega)⟩
      have hnr := rowI_at hn
      have hin := hi n (List.mem_of_getElem? hn)
      obtain ⟨q, e, rfl, hq, he⟩ := get_nat hin
      have hec := dcs_at he
      have hcr := cRenum F e.c (hp e (List.mem_of_getElem? he))
      have hpk : pickD sig (mget F) q = ⟨e.s, mapT (rnG (mget F)) e.c 0, e.i⟩ := by unfold pickD; rw [Int.toNat_natCast, he]
      have htk : (l.take (j + 1)).map (pickD sig (mget F)) = (l.take j).map (pickD sig (mget F)) ++ [⟨e.s, mapT (rnG (mget F)) e.c 0, e.i⟩] := by
        rw [List.take_add_one, hn, List.map_append]
        simp [hpk]
      have hml := len_dcs ((l.take j).map (pickD sig (mget F)))
      have hul : ((l.take j).map (pickD sig (mget F))).length ≤ j := by simp; omega
      have hl2 : ((dcs ((l.take j).map (pickD sig (mget F)))).length + 1) * 72 ≤ 140737488355328 := by omega
      have hl3 : (dcs ((l.take j).map (pickD sig (mget F)))).length + 1 ≤ 9223372036854775807 := by omega
      generalize mapT (rnG (mget F)) e.c 0 = u at *
      obtain ⟨s', ⟨k', l', n', us⟩, i'⟩ := e
      obtain ⟨k2, l2, n2, us2⟩ := u
      rw [tv_mk] at hcr
      rw [tv_mk] at hcr
      conv => whnf
      refine ⟨_, ⟨by omega, by simpa using hnr⟩, ?_⟩
      conv => whnf
      refine ⟨Nat.le_refl 1, ?_⟩
      conv => whnf
      refine ⟨_, ⟨by omega, by simpa using hec⟩, ?_⟩
      conv => whnf
      refine ⟨show 6 ≤ 6 by decide, ?_⟩
      conv => whnf
      try (refine dI (by kernel_rfl) ?_; conv => whnf)
      first | refine CallSt.use hcr [0, 1] ⟨rfl, rfl, trivial⟩ (by decide) rfl ?_ | refine CallPt.useS hcr [0, 1] ⟨rfl, rfl, trivial⟩ (by decide) rfl ?_
      rintro _ _ ⟨rfl, rfl⟩ _
      conv => whnf
      repeat ((first | refine aI rfl ?_ | refine aI (by decide) ?_ | refine dI (by kernel_rfl) ?_ | refine aI ⟨by omega, by omega⟩ ?_ | refine aI (by omega) ?_ | refine aI (fun _ => ⟨by omega, by omega⟩) ?_ | refine aI (of_decide_eq_true rfl) ?_ | (refine yI ?_ ?_; focus (first | decide | (simp; done) | (simp [tcs]; done))) | (refine nI ?_ ?_; focus (first | decide | (simp; done) | (simp [tcs]; done))) | intro _); conv => whnf)
      refine ⟨m2 - 1, _, _, by omega, ⟨j + 1, by omega, rfl, rfl⟩, Wk.sl [0, 1, 5] rfl ⟨rfl, rfl, ?_, trivial⟩ ⟨rfl, rfl, rfl, rfl, rfl, rfl, trivial⟩ rfl⟩
      rw [htk, ← dcs_snoc]
      rfl
    · replace hlt : ¬ (j : Int) < (rowI l).length := of_decide_eq_false hlt
      obtain rfl : j = l.length := by omega
      conv => whnf
      repeat ((first | refine aI rfl ?_ | refine aI (by decide) ?_ | refine dI (by kernel_rfl) ?_ | refine aI ⟨by omega, by omega⟩ ?_ | refine aI (by omega) ?_ | refine aI (fun _ => ⟨by omega, by omega⟩) ?_ | refine aI (of_decide_eq_true rfl) ?_ | (refine yI ?_ ?_; focus (first | decide | (simp; done) | (simp [tcs]; done))) | (refine nI ?_ ?_; focus (first | decide | (simp; done) | (simp [tcs]; done))) | intro _); conv => whnf)
      all_goals (first | rfl | exact ⟨rfl, rfl⟩ | exact ⟨rfl, rfl, rfl⟩)
end Go.Tr
