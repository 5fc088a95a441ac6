/- What each function computes, and the plain laws of it. -/
import Derived.Test.YtmockcponpmefaaRows
import Derived.Test.YtmockcponpmefaaTrXd8155406
set_option linter.unusedVariables false
set_option linter.unusedSimpArgs false
set_option linter.unnecessarySimpa false
set_option autoImplicit false
/- depend.below: put, stands. -/
namespace Go.Tr
open Go.Proofs
def tabB2 : List (Nat × TyD) := (60, ⟨1, 8, .other, [.pointer none], [60]⟩) :: tabM
def envB (n : Nat) : Env := ⟨lkT tabB2, keep, n, false, false, none, fun _ _ => none⟩
theorem envB_ok (n : Nat) : EnvOk Try.prog (envB n) := EnvOk.of (l := tabB2) rfl (by kernel_rfl)
def tg (a : Term) : Nat := (domT a).2.n.toNat
def orE (f : Nat → Nat → Bool) (L : List (Nat × Nat)) : Nat → Nat → Bool := fun x y => f x y || decide ((x, y) ∈ L)
theorem orE_nil (f : Nat → Nat → Bool) : orE f [] = f := by funext x y; simp [orE]
theorem orE_app (f : Nat → Nat → Bool) (L M : List (Nat × Nat)) : orE (orE f L) M = orE f (L ++ M) := by
  funext x y
  unfold orE
  by_cases h1 : (x, y) ∈ L <;> by_cases h2 : (x, y) ∈ M <;> simp [h1, h2]
theorem orE_one (f : Nat → Nat → Bool) (a b : Nat) : updM f a b true = orE f [(a, b)] := by
  funext x y
  unfold updM orE
  by_cases h : x = a ∧ y = b
  · rw [if_pos h, h.1, h.2]
    simp
  · rw [if_neg h]
    have : ¬ (x, y) ∈ [(a, b)] := fun hm => by
      rw [List.mem_singleton, Prod.mk.injEq] at hm
      exact h hm
    simp [this]
def edF (sig : List Dcl) : Nat → Term → Nat → Bool → List (Nat × Nat)
  | 0, _, _, _ => []
  | n + 1, a, fam, ok => (domT a).1.flatMap fun d => (if ok && tgB sig d then [(tg d, fam)] else []) ++ edF sig n d (tg d) (tgB sig d)
abbrev bwH (sig : List Dcl) (f : Nat → Nat → Bool) : HP := [.box [.c (.sl 6 72 (dcs sig))], .row 80 10000 1 [mrow f], .box [.elt 1 10000 0 0]]
theorem tg_lt {sig : List Dcl} {a : Term} {d : Int} (h : fmT a d = true) (ht : tgB sig a = true) (hl : sig.length ≤ 100) : tg a < 100 ∧ ((tg a : Nat) : Int) = (domT a).2.n := by
  obtain ⟨_, _, d', hd', _⟩ := dom_rest a d h
  have hn := fm_n hd'
  unfold tgB at ht
  rw [Bool.and_eq_true, Bool.and_eq_true] at ht
  have := of_decide_eq_true ht.1.2
  unfold tg
  omega
theorem cPutM (sig : List Dcl) (hp : ∀ e ∈ sig, prop e.c = true) (hl : sig.length ≤ 100) (f : Nat → Nat → Bool) (a : Term) (d : Int) (h : fmT a d = true) (hd : 0 ≤ d) (b : Nat) (hb : b < 100) :
    CallSt Try.prog 57 [tv a, .c (.int .i64 (b)), .ptr 0 0, .ptr 2 0] (bwH sig f) (fun r H' => r = .tup [] ∧ H' = bwH sig (orE f (if tgB sig a then [(tg a, b)] else []))) := by
  have htg := cDTarget sig hp a d h hd
  cases ht : tgB sig a with
  | false =>
    rw [ht] at htg
    rw [if_neg (by simp), orE_nil]
    generalize (domT a).2.n = un at *
    obtain ⟨k, l, n, ts⟩ := a
    rw [tv_mk] at *
    refine call_trim (E := envB 3) (fn := Try.f57) (c := bodyOf Try.f57) (envB_ok 3) mixed (by kernel_rfl) (by kernel_rfl) (by kernel_rfl) (by kernel_rfl) (by kernel_rfl) (by kernel_rfl) rfl ?_
    conv => whnf
    repeat ((first | refine aI rfl ?_ | refine aI (by decide) ?_ | refine dI (by kernel_rfl) ?_ | refine aI ⟨by omega, by omega⟩ ?_ | refine aI (by omega) ?_ | refine aI (fun _ => ⟨by omega, by omega⟩) ?_ | refine aI (of_decide_eq_true rfl) ?_ | (refine yI ?_ ?_; focus (first | decide | (simp; done) | (simp [tcs]; done))) | (refine nI ?_ ?_; focus (first | decide | (simp; done) | (simp [tcs]; done))) | intro _); conv => whnf)
    try (refine dI (by kernel_rfl) ?_; conv => whnf)
    first | refine CallSt.use htg [] trivial (by decide) rfl ?_ | refine CallPt.useS htg [] trivial (by decide) rfl ?_
    rintro _ _ ⟨rfl, rfl⟩ _
    conv => whnf
    repeat ((first | refine aI rfl ?_ | refine aI (by decide) ?_ | refine dI (by kernel_rfl) ?_ | refine aI ⟨by omega, by omega⟩ ?_ | refine aI (by omega) ?_ | refine aI (fun _ => ⟨by omega, by omega⟩) ?_ | refine aI (of_decide_eq_true rfl) ?_ | (refine yI ?_ ?_; focus (first | decide | (simp; done) | (simp [tcs]; done))) | (refine nI ?_ ?_; focus (first | decide | (simp; done) | (simp [tcs]; done))) | intro _); conv => whnf)
    all_goals (first | rfl | exact ⟨rfl, rfl⟩ | exact ⟨rfl, rfl, rfl⟩)
  | true =>
    obtain ⟨h1, h2⟩ := tg_lt h ht hl
    rw [ht] at htg
    rw [if_pos rfl, ← orE_one]
    rw [← h2] at htg
    generalize tg a = un at *
    obtain ⟨k, l, n, ts⟩ := a
    rw [tv_mk] at *
    refine call_trim (E := envB 3) (fn := Try.f57) (c := bodyOf Try.f57) (envB_ok 3) mixed (by kernel_rfl) (by kernel_rfl) (by kernel_rfl) (by kernel_rfl) (by kernel_rfl) (by kernel_rfl) rfl ?_
    conv => whnf
    repeat ((first | refine aI rfl ?_ | refine aI (by decide) ?_ | refine dI (by kernel_rfl) ?_ | refine aI ⟨by omega, by omega⟩ ?_ | refine aI (by omega) ?_ | refine aI (fun _ => ⟨by omega, by omega⟩) ?_ | refine aI (of_decide_eq_true rfl) ?_ | (refine yI ?_ ?_; focus (first | decide | (simp; done) | (simp [tcs]; done))) | (refine nI ?_ ?_; focus (first | decide | (simp; done) | (simp [tcs]; done))) | intro _); conv => whnf)
    try (refine dI (by kernel_rfl) ?_; conv => whnf)
    first | refine CallSt.use htg [] trivial (by decide) rfl ?_ | refine CallPt.useS htg [] trivial (by decide) rfl ?_
    rintro _ _ ⟨rfl, rfl⟩ _
    conv => whnf
    repeat ((first | refine aI rfl ?_ | refine aI (by decide) ?_ | refine dI (by kernel_rfl) ?_ | refine aI ⟨by omega, by omega⟩ ?_ | refine aI (by omega) ?_ | refine aI (fun _ => ⟨by omega, by omega⟩) ?_ | refine aI (of_decide_eq_true rfl) ?_ | (refine yI ?_ ?_; focus (first | decide | (simp; done) | (simp [tcs]; done))) | (refine nI ?_ ?_; focus (first | decide | (simp; done) | (simp [tcs]; done))) | intro _); conv => whnf)
    refine ⟨_, _, rfl, mrow_set2 f true (by omega) (by omega), ?_⟩
    conv => whnf
    repeat ((first | refine aI rfl ?_ | refine aI (by decide) ?_ | refine dI (by kernel_rfl) ?_ | refine aI ⟨by omega, by omega⟩ ?_ | refine aI (by omega) ?_ | refine aI (fun _ => ⟨by omega, by omega⟩) ?_ | refine aI (of_decide_eq_true rfl) ?_ | (refine yI ?_ ?_; focus (first | decide | (simp; done) | (simp [tcs]; done))) | (refine nI ?_ ?_; focus (first | decide | (simp; done) | (simp [tcs]; done))) | intro _); conv => whnf)
    all_goals (first | rfl | exact ⟨rfl, rfl⟩)
end Go.Tr
/- depend.below: stands. -/
namespace Go.Tr
open Go.Proofs
abbrev bwH5 (sig : List Dcl) (f : Nat → Nat → Bool) : HP := [.box [.c (.sl 6 72 (dcs sig))], .row 80 10000 1 [mrow f], .box [.elt 1 10000 0 0], .box [.fn 57 [.ptr 0 0, .ptr 2 0]], .box [.fn 58 [.ptr 0 0, .ptr 3 0, .ptr 4 0]]]
def stepE (sig : List Dcl) (n : Nat) (fam : Nat) (ok : Bool) (d : Term) : List (Nat × Nat) := (if ok && tgB sig d then [(tg d, fam)] else []) ++ edF sig n d (tg d) (tgB sig d)
theorem edF_succ (sig : List Dcl) (n : Nat) (a : Term) (fam : Nat) (ok : Bool) : edF sig (n + 1) a fam ok = (domT a).1.flatMap (stepE sig n fam ok) := by rw [edF]; rfl
theorem cStands (sig : List Dcl) (hp : ∀ e ∈ sig, prop e.c = true) (hl : sig.length ≤ 100) : ∀ (n : Nat) (a : Term) (d : Int), fmT a d = true → 0 ≤ d → SizeOf.sizeOf a ≤ n → ∀ f : Nat → Nat → Bool,
    CallSt Try.prog 58 [tv a, .ptr 0 0, .ptr 3 0, .ptr 4 0] (bwH5 sig f) (fun r H' => r = .tup [] ∧ H' = bwH5 sig (orE f (edF sig n a (tg a) (tgB sig a)))) := by
  intro n
  induction n with
  | zero =>
    intro a d h hd hs f
    obtain ⟨k, l, m, ts⟩ := a
    simp at hs
  | succ n ih =>
    intro a d h hd hs f
    have hdm := c68 a d h hd
    have hmem := dom_mem a d h
    have hdl := dom_len a d h
    have htg := cDTarget sig hp a d h hd
    have htl : tgB sig a = true → tg a < 100 ∧ ((tg a : Nat) : Int) = (domT a).2.n := fun ht => tg_lt h ht hl
    rw [edF_succ]
    generalize tgB sig a = ok at *
    generalize tg a = ta at *
    have hD : ∀ u ∈ (domT a).1, ∃ d', fmT u d' = true ∧ 0 ≤ d' ∧ SizeOf.sizeOf u ≤ n := fun u hu => by
      obtain ⟨h1, d', h2, h3⟩ := hmem u hu
      exact ⟨d', h2, by omega, by omega⟩
    clear hmem hs h
    generalize (domT a).1 = D at *
    generalize (domT a).2 = u at *
    rw [show tv u = .agg [.c (.int .i64 (u.k)), .c (.int .i64 (u.l)), .c (.int .i64 (u.n)), .c (.sl 4 48 (tcs u.ts))] from rfl] at hdm
    generalize u.k = uk at *
    generalize u.l = ul at *
    generalize u.n = un at *
    generalize u.ts = uts at *
    have hDl := len_tcs D
    obtain ⟨k, l, m, ts⟩ := a
    rw [tv_mk] at *
    refine call_trim (E := envB 5) (fn := Try.f58) (c := bodyOf Try.f58) (envB_ok 5) mixed (by kernel_rfl) (by kernel_rfl) (by kernel_rfl) (by kernel_rfl) (by kernel_rfl) (by kernel_rfl) rfl ?_
    conv => whnf
    repeat ((first | refine aI rfl ?_ | refine aI (by decide) ?_ | refine dI (by kernel_rfl) ?_ | refine aI ⟨by omega, by omega⟩ ?_ | refine aI (by omega) ?_ | refine aI (fun _ => ⟨by omega, by omega⟩) ?_ | refine aI (of_decide_eq_true rfl) ?_ | (refine yI ?_ ?_; focus (first | decide | (simp; done) | (simp [tcs]; done))) | (refine nI ?_ ?_; focus (first | decide | (simp; done) | (simp [tcs]; done))) | intro _); conv => whnf)
    try (refine dI (by kernel_rfl) ?_; conv => whnf)
    first | refine CallSt.use hdm [] trivial (by decide) rfl ?_ | refine CallPt.useS hdm [] trivial (by decide) rfl ?_
    rintro _ _ ⟨rfl, rfl⟩ _
    conv => whnf
    repeat ((first | refine aI rfl ?_ | refine aI (by decide) ?_ | refine dI (by kernel_rfl) ?_ | refine aI ⟨by omega, by omega⟩ ?_ | refine aI (by omega) ?_ | refine aI (fun _ => ⟨by omega, by omega⟩) ?_ | refine aI (of_decide_eq_true rfl) ?_ | (refine yI ?_ ?_; focus (first | decide | (simp; done) | (simp [tcs]; done))) | (refine nI ?_ ?_; focus (first | decide | (simp; done) | (simp [tcs]; done))) | intro _); conv => whnf)
    refine loop_intro (fun mm tm H => ∃ j : Nat, D.length = mm + j ∧ tm = [(18, .c (.int .i64 (j))), (17, .c (.int .i64 ((tcs D).length))), (16, .c (.sl 4 48 (tcs D))), (1, .ptr 0 0), (2, .ptr 3 0), (3, .ptr 4 0), (4, .ptr 5 0)] ∧
        H = bwH5 sig (orE f ((D.take j).flatMap (stepE sig n ta ok))) ++ [.box [.c (.int .i64 (k)), .c (.int .i64 (l)), .c (.int .i64 (m)), .c (.sl 4 48 (tcs ts))]])
      D.length _ _ ⟨0, by omega, rfl, rfl⟩ ?_ ?_
    · have e0 : orE f ((D.take 0).flatMap (stepE sig n ta ok)) = f := by rw [List.take_zero, List.flatMap_nil, orE_nil]
      rw [e0]
      exact Wk.sl [0, 1, 2, 3, 4, 5] rfl ⟨rfl, rfl, rfl, rfl, rfl, rfl, trivial⟩ ⟨rfl, rfl, rfl, rfl, rfl, rfl, rfl, trivial⟩ rfl
    rintro mm tm H ⟨j, hj, rfl, rfl⟩
    conv => whnf
    refine ⟨fun hc => ?_, fun hc => ?_⟩
    · replace hc : (j : Int) < (tcs D).length := of_decide_eq_true hc
      obtain ⟨v, hv⟩ : ∃ v, D[j]? = some v := ⟨D[j]'(by omega), List.getElem?_eq_getElem (by omega)⟩
      have hvc := tcs_at D j v hv
      obtain ⟨d', hv1, hv2, hv3⟩ := hD v (List.mem_of_getElem? hv)
      have hst : orE f ((D.take (j + 1)).flatMap (stepE sig n ta ok)) = orE (orE f ((D.take j).flatMap (stepE sig n ta ok))) (stepE sig n ta ok v) := by
        rw [orE_app, List.take_add_one, hv, List.flatMap_append]
        simp
      generalize orE f ((D.take j).flatMap (stepE sig n ta ok)) = fj at *
      unfold stepE at hst
      rw [← orE_app] at hst
      cases ok with
      | false =>
        have hi := ih v d' hv1 hv2 hv3 fj
        rw [Bool.false_and, if_neg (by simp), orE_nil] at hst
        rw [← hst] at hi
        obtain ⟨k', l', n', us⟩ := v
        rw [tv_mk] at *
        conv => whnf
        repeat ((first | refine aI rfl ?_ | refine aI (by decide) ?_ | refine dI (by kernel_rfl) ?_ | refine aI ⟨by omega, by omega⟩ ?_ | refine aI (by omega) ?_ | refine aI (fun _ => ⟨by omega, by omega⟩) ?_ | refine aI (of_decide_eq_true rfl) ?_ | (refine yI ?_ ?_; focus (first | decide | (simp; done) | (simp [tcs]; done))) | (refine nI ?_ ?_; focus (first | decide | (simp; done) | (simp [tcs]; done))) | intro _); conv => whnf)
        refine ⟨_, ⟨by omega, by simpa using hvc⟩, ?_⟩
        conv => whnf
        refine ⟨Nat.le_refl 4, ?_⟩
        conv => whnf
        repeat ((first | refine aI rfl ?_ | refine aI (by decide) ?_ | refine dI (by kernel_rfl) ?_ | refine aI ⟨by omega, by omega⟩ ?_ | refine aI (by omega) ?_ | refine aI (fun _ => ⟨by omega, by omega⟩) ?_ | refine aI (of_decide_eq_true rfl) ?_ | (refine yI ?_ ?_; focus (first | decide | (simp; done) | (simp [tcs]; done))) | (refine nI ?_ ?_; focus (first | decide | (simp; done) | (simp [tcs]; done))) | intro _); conv => whnf)
        try (refine dI (by kernel_rfl) ?_; conv => whnf)
        first | refine CallSt.use htg [] trivial (by decide) rfl ?_ | refine CallPt.useS htg [] trivial (by decide) rfl ?_
        rintro _ _ ⟨rfl, rfl⟩ _
        conv => whnf
        repeat ((first | refine aI rfl ?_ | refine aI (by decide) ?_ | refine dI (by kernel_rfl) ?_ | refine aI ⟨by omega, by omega⟩ ?_ | refine aI (by omega) ?_ | refine aI (fun _ => ⟨by omega, by omega⟩) ?_ | refine aI (of_decide_eq_true rfl) ?_ | (refine yI ?_ ?_; focus (first | decide | (simp; done) | (simp [tcs]; done))) | (refine nI ?_ ?_; focus (first | decide | (simp; done) | (simp [tcs]; done))) | intro _); conv => whnf)
        try (refine dI (by kernel_rfl) ?_; conv => whnf)
        first | refine CallSt.use hi [0, 1, 2, 3, 4] ⟨rfl, rfl, rfl, rfl, rfl, trivial⟩ (by decide) rfl ?_ | refine CallPt.useS hi [0, 1, 2, 3, 4] ⟨rfl, rfl, rfl, rfl, rfl, trivial⟩ (by decide) rfl ?_
        rintro _ _ ⟨rfl, rfl⟩ _
        conv => whnf
        repeat ((first | refine aI rfl ?_ | refine aI (by decide) ?_ | refine dI (by kernel_rfl) ?_ | refine aI ⟨by omega, by omega⟩ ?_ | refine aI (by omega) ?_ | refine aI (fun _ => ⟨by omega, by omega⟩) ?_ | refine aI (of_decide_eq_true rfl) ?_ | (refine yI ?_ ?_; focus (first | decide | (simp; done) | (simp [tcs]; done))) | (refine nI ?_ ?_; focus (first | decide | (simp; done) | (simp [tcs]; done))) | intro _); conv => whnf)
        exact ⟨mm - 1, _, _, by omega, ⟨j + 1, by omega, rfl, rfl⟩, Wk.sl [0, 1, 2, 3, 4, 5] rfl ⟨rfl, rfl, rfl, rfl, rfl, rfl, trivial⟩ ⟨rfl, rfl, rfl, rfl, rfl, rfl, rfl, trivial⟩ rfl⟩
      | true =>
        obtain ⟨ht1, ht2⟩ := htl rfl
        rw [← ht2] at htg
        have hpt := cPutM sig hp hl fj v d' hv1 hv2 ta ht1
        rw [Bool.true_and] at hst
        generalize orE fj (if tgB sig v then [(tg v, ta)] else []) = fp at *
        have hi := ih v d' hv1 hv2 hv3 fp
        rw [← hst] at hi
        obtain ⟨k', l', n', us⟩ := v
        rw [tv_mk] at *
        conv => whnf
        repeat ((first | refine aI rfl ?_ | refine aI (by decide) ?_ | refine dI (by kernel_rfl) ?_ | refine aI ⟨by omega, by omega⟩ ?_ | refine aI (by omega) ?_ | refine aI (fun _ => ⟨by omega, by omega⟩) ?_ | refine aI (of_decide_eq_true rfl) ?_ | (refine yI ?_ ?_; focus (first | decide | (simp; done) | (simp [tcs]; done))) | (refine nI ?_ ?_; focus (first | decide | (simp; done) | (simp [tcs]; done))) | intro _); conv => whnf)
        refine ⟨_, ⟨by omega, by simpa using hvc⟩, ?_⟩
        conv => whnf
        refine ⟨Nat.le_refl 4, ?_⟩
        conv => whnf
        repeat ((first | refine aI rfl ?_ | refine aI (by decide) ?_ | refine dI (by kernel_rfl) ?_ | refine aI ⟨by omega, by omega⟩ ?_ | refine aI (by omega) ?_ | refine aI (fun _ => ⟨by omega, by omega⟩) ?_ | refine aI (of_decide_eq_true rfl) ?_ | (refine yI ?_ ?_; focus (first | decide | (simp; done) | (simp [tcs]; done))) | (refine nI ?_ ?_; focus (first | decide | (simp; done) | (simp [tcs]; done))) | intro _); conv => whnf)
        try (refine dI (by kernel_rfl) ?_; conv => whnf)
        first | refine CallSt.use htg [] trivial (by decide) rfl ?_ | refine CallPt.useS htg [] trivial (by decide) rfl ?_
        rintro _ _ ⟨rfl, rfl⟩ _
        conv => whnf
        repeat ((first | refine aI rfl ?_ | refine aI (by decide) ?_ | refine dI (by kernel_rfl) ?_ | refine aI ⟨by omega, by omega⟩ ?_ | refine aI (by omega) ?_ | refine aI (fun _ => ⟨by omega, by omega⟩) ?_ | refine aI (of_decide_eq_true rfl) ?_ | (refine yI ?_ ?_; focus (first | decide | (simp; done) | (simp [tcs]; done))) | (refine nI ?_ ?_; focus (first | decide | (simp; done) | (simp [tcs]; done))) | intro _); conv => whnf)
        try (refine dI (by kernel_rfl) ?_; conv => whnf)
        first | refine CallSt.use hpt [0, 1, 2] ⟨rfl, rfl, rfl, trivial⟩ (by decide) rfl ?_ | refine CallPt.useS hpt [0, 1, 2] ⟨rfl, rfl, rfl, trivial⟩ (by decide) rfl ?_
        rintro _ _ ⟨rfl, rfl⟩ _
        conv => whnf
        repeat ((first | refine aI rfl ?_ | refine aI (by decide) ?_ | refine dI (by kernel_rfl) ?_ | refine aI ⟨by omega, by omega⟩ ?_ | refine aI (by omega) ?_ | refine aI (fun _ => ⟨by omega, by omega⟩) ?_ | refine aI (of_decide_eq_true rfl) ?_ | (refine yI ?_ ?_; focus (first | decide | (simp; done) | (simp [tcs]; done))) | (refine nI ?_ ?_; focus (first | decide | (simp; done) | (simp [tcs]; done))) | intro _); conv => whnf)
        try (refine dI (by kernel_rfl) ?_; conv => whnf)
        first | refine CallSt.use hi [0, 1, 2, 3, 4] ⟨rfl, rfl, rfl, rfl, rfl, trivial⟩ (by decide) rfl ?_ | refine CallPt.useS hi [0, 1, 2, 3, 4] ⟨rfl, rfl, rfl, rfl, rfl, trivial⟩ (by decide) rfl ?_
        rintro _ _ ⟨rfl, rfl⟩ _
        conv => whnf
        repeat ((first | refine aI rfl ?_ | refine aI (by decide) ?_ | refine dI (by kernel_rfl) ?_ | refine aI ⟨by omega, by omega⟩ ?_ | refine aI (by omega) ?_ | refine aI (fun _ => ⟨by omega, by omega⟩) ?_ | refine aI (of_decide_eq_true rfl) ?_ | (refine yI ?_ ?_; focus (first | decide | (simp; done) | (simp [tcs]; done))) | (refine nI ?_ ?_; focus (first | decide | (simp; done) | (simp [tcs]; done))) | intro _); conv => whnf)
        exact ⟨mm - 1, _, _, by omega, ⟨j + 1, by omega, rfl, rfl⟩, Wk.sl [0, 1, 2, 3, 4, 5] rfl ⟨rfl, rfl, rfl, rfl, rfl, rfl, trivial⟩ ⟨rfl, rfl, rfl, rfl, rfl, rfl, rfl, trivial⟩ rfl⟩
    · replace hc : ¬ (j : Int) < (tcs D).length := of_decide_eq_false hc
      obtain rfl : j = D.length := by omega
      rw [List.take_length]
      conv => whnf
      repeat ((first | refine aI rfl ?_ | refine aI (by decide) ?_ | refine dI (by kernel_rfl) ?_ | refine aI ⟨by omega, by omega⟩ ?_ | refine aI (by omega) ?_ | refine aI (fun _ => ⟨by omega, by omega⟩) ?_ | refine aI (of_decide_eq_true rfl) ?_ | (refine yI ?_ ?_; focus (first | decide | (simp; done) | (simp [tcs]; done))) | (refine nI ?_ ?_; focus (first | decide | (simp; done) | (simp [tcs]; done))) | intro _); conv => whnf)
      all_goals (first | rfl | exact ⟨rfl, rfl⟩ | exact ⟨rfl, rfl, rfl⟩)
end Go.Tr
/- depend.below. -/
namespace Go.Tr
open Go.Proofs
theorem head_lt {sig : List Dcl} (h : checkB sig = true) {i : Nat} {d : Dcl} (hd : sig[i]? = some d) : 0 ≤ headT d i ∧ headT d i ≤ i := by
  have hil := (List.getElem?_eq_some_iff.1 hd).1
  unfold checkB at h
  simp only [Bool.and_eq_true, List.all_eq_true] at h
  have hg := h.2 i (by simpa using hil)
  unfold goodD at hg
  rw [hd] at hg
  simp only [Bool.and_eq_true] at hg
  have hf := hg.2
  unfold formedF at hf
  simp only [Bool.and_eq_true, Bool.or_eq_true] at hf
  have hp := hf.1.1.1.1
  unfold headT
  cases hk : kindT d.c with
  | true => simp only; omega
  | false =>
    simp only
    rcases hf.2 with h2 | ⟨h2, h3⟩
    · rw [hk] at h2; cases h2
    · have h0 := targ_pos hp h2
      unfold kindAt at h3
      split at h3
      · rename_i e he
        have := (List.getElem?_eq_some_iff.1 he).1
        rw [List.length_take] at this
        omega
      · cases h3
noncomputable def edC (sig : List Dcl) (d : Dcl) (i : Nat) : List (Nat × Nat) := edF sig (SizeOf.sizeOf d.c + 1) d.c (headT d i).toNat true
noncomputable def bwP (sig : List Dcl) : Nat → Nat → Nat → Bool
  | 0 => fun _ _ => false
  | j + 1 => match sig[j]? with | some d => orE (updM (bwP sig j) j j (kindT d.c)) (edC sig d j) | none => bwP sig j
noncomputable def belM (sig : List Dcl) : Nat → Nat → Bool := closeF sig.length (bwP sig sig.length)
theorem cBelowM (sig : List Dcl) (h : checkB sig = true) : CallSt Try.prog 33 [.c (.sl 6 72 (dcs sig))] [] (fun r H' => r = .elt 0 10000 0 0 ∧ H' = [.row 80 10000 1 [mrow (belM sig)]]) := by
  have hsl := check_len h
  have hpr := check_prop h
  have hhd := fun i d (hd : sig[i]? = some d) => head_lt h hd
  have hbl := len_dcs sig
  have hcl : CallSt Try.prog 60 [.elt 0 10000 0 0, .c (.int .i64 ((dcs sig).length))] [.row 80 10000 1 [mrow (bwP sig sig.length)]] (fun r H' => r = .tup [] ∧ H' = [.row 80 10000 1 [mrow (belM sig)]]) := by
    rw [hbl]
    exact cClose sig.length (bwP sig sig.length) hsl
  clear h
  refine call_wk (E := envB 0) (fn := Try.f33) (c := bodyOf Try.f33) (envB_ok 0) mixed (by kernel_rfl) (by kernel_rfl) (by kernel_rfl) (by kernel_rfl) (by kernel_rfl) (by kernel_rfl) rfl false ?_
  conv => whnf
  repeat ((first | refine aI rfl ?_ | refine aI (by decide) ?_ | refine dI (by kernel_rfl) ?_ | refine aI ⟨by omega, by omega⟩ ?_ | refine aI (by omega) ?_ | refine aI (fun _ => ⟨by omega, by omega⟩) ?_ | refine aI (of_decide_eq_true rfl) ?_ | (refine yI ?_ ?_; focus (first | decide | (simp; done) | (simp [tcs]; done))) | (refine nI ?_ ?_; focus (first | decide | (simp; done) | (simp [tcs]; done))) | intro _); conv => whnf)
  refine ⟨mrow (fun _ _ => false), big0, mrow_len _, ?_⟩
  conv => whnf
  repeat ((first | refine aI rfl ?_ | refine aI (by decide) ?_ | refine dI (by kernel_rfl) ?_ | refine aI ⟨by omega, by omega⟩ ?_ | refine aI (by omega) ?_ | refine aI (fun _ => ⟨by omega, by omega⟩) ?_ | refine aI (of_decide_eq_true rfl) ?_ | (refine yI ?_ ?_; focus (first | decide | (simp; done) | (simp [tcs]; done))) | (refine nI ?_ ?_; focus (first | decide | (simp; done) | (simp [tcs]; done))) | intro _); conv => whnf)
  refine loop_intro (fun m tm H => ∃ j : Nat, sig.length = m + j ∧ tm = [(18, .c (.int .i64 (j))), (17, .c (.int .i64 ((dcs sig).length))), (16, .c (.sl 6 72 (dcs sig))), (1, .ptr 0 0), (3, .ptr 2 0), (4, .ptr 3 0), (5, .ptr 4 0)] ∧ H = bwH5 sig (bwP sig j))
    sig.length _ _ ⟨0, by omega, rfl, rfl⟩ (Wk.sl [0, 1, 2, 3, 4] rfl ⟨rfl, rfl, rfl, rfl, rfl, trivial⟩ ⟨rfl, rfl, rfl, rfl, rfl, rfl, rfl, trivial⟩ rfl) ?_
  rintro m tm H ⟨j, hj, rfl, rfl⟩
  conv => whnf
  refine ⟨fun hc => ?_, fun hc => ?_⟩
  · replace hc : (j : Int) < (dcs sig).length := of_decide_eq_true hc
    obtain ⟨d, hd⟩ : ∃ d, sig[j]? = some d := ⟨sig[j]'(by omega), List.getElem?_eq_getElem (by omega)⟩
    have hdc := dcs_at hd
    have hpd := hpr d (List.mem_of_getElem? hd)
    have hfa := cFamily sig j d hd hpd
    have hha := cHead sig hpr j d hd
    have hdm := c68 d.c 1 (prop_fm1 hpd) (by omega)
    have hmem := dom_mem d.c 1 (prop_fm1 hpd)
    have hdl := dom_len d.c 1 (prop_fm1 hpd)
    obtain ⟨hh0, hh1⟩ := hhd j d hd
    have hnx : bwP sig (j + 1) = orE (updM (bwP sig j) j j (kindT d.c)) ((domT d.c).1.flatMap (stepE sig (SizeOf.sizeOf d.c) (headT d j).toNat true)) := by
      rw [bwP, hd]
      simp only
      rw [edC, edF_succ]
    obtain ⟨hn, hhe⟩ : ∃ hn : Nat, headT d j = hn := ⟨(headT d j).toNat, by omega⟩
    rw [hhe] at hha
    rw [hhe, Int.toNat_natCast] at hnx
    rw [hhe] at hh1
    generalize hbj : bwP sig j = bj at *
    generalize kindT d.c = kd at *
    have hD : ∀ u ∈ (domT d.c).1, ∃ d', fmT u d' = true ∧ 0 ≤ d' ∧ SizeOf.sizeOf u ≤ SizeOf.sizeOf d.c := fun u hu => by
      obtain ⟨h1, d', h2, h3⟩ := hmem u hu
      exact ⟨d', h2, by omega, by omega⟩
    clear hmem
    generalize SizeOf.sizeOf d.c = sz at *
    generalize (domT d.c).1 = D at *
    generalize (domT d.c).2 = u at *
    rw [show tv u = .agg [.c (.int .i64 (u.k)), .c (.int .i64 (u.l)), .c (.int .i64 (u.n)), .c (.sl 4 48 (tcs u.ts))] from rfl] at hdm
    generalize u.k = uk at *
    generalize u.l = ul at *
    generalize u.n = un at *
    generalize u.ts = uts at *
    have hDl := len_tcs D
    obtain ⟨s', ⟨k', l', n', us'⟩, i'⟩ := d
    dsimp only at hdm
    rw [tv_mk] at hdm
    conv => whnf
    repeat ((first | refine aI rfl ?_ | refine aI (by decide) ?_ | refine dI (by kernel_rfl) ?_ | refine aI ⟨by omega, by omega⟩ ?_ | refine aI (by omega) ?_ | refine aI (fun _ => ⟨by omega, by omega⟩) ?_ | refine aI (of_decide_eq_true rfl) ?_ | (refine yI ?_ ?_; focus (first | decide | (simp; done) | (simp [tcs]; done))) | (refine nI ?_ ?_; focus (first | decide | (simp; done) | (simp [tcs]; done))) | intro _); conv => whnf)
    refine ⟨_, ⟨by omega, hdc⟩, ?_⟩
    conv => whnf
    refine ⟨show 6 ≤ 6 by decide, ?_⟩
    conv => whnf
    repeat ((first | refine aI rfl ?_ | refine aI (by decide) ?_ | refine dI (by kernel_rfl) ?_ | refine aI ⟨by omega, by omega⟩ ?_ | refine aI (by omega) ?_ | refine aI (fun _ => ⟨by omega, by omega⟩) ?_ | refine aI (of_decide_eq_true rfl) ?_ | (refine yI ?_ ?_; focus (first | decide | (simp; done) | (simp [tcs]; done))) | (refine nI ?_ ?_; focus (first | decide | (simp; done) | (simp [tcs]; done))) | intro _); conv => whnf)
    try (refine dI (by kernel_rfl) ?_; conv => whnf)
    first | refine CallSt.use hfa [] trivial (by decide) rfl ?_ | refine CallPt.useS hfa [] trivial (by decide) rfl ?_
    rintro _ _ ⟨rfl, rfl⟩ _
    conv => whnf
    repeat ((first | refine aI rfl ?_ | refine aI (by decide) ?_ | refine dI (by kernel_rfl) ?_ | refine aI ⟨by omega, by omega⟩ ?_ | refine aI (by omega) ?_ | refine aI (fun _ => ⟨by omega, by omega⟩) ?_ | refine aI (of_decide_eq_true rfl) ?_ | (refine yI ?_ ?_; focus (first | decide | (simp; done) | (simp [tcs]; done))) | (refine nI ?_ ?_; focus (first | decide | (simp; done) | (simp [tcs]; done))) | intro _); conv => whnf)
    refine ⟨_, _, rfl, mrow_set2 bj kd (by omega) (by omega), ?_⟩
    conv => whnf
    repeat ((first | refine aI rfl ?_ | refine aI (by decide) ?_ | refine dI (by kernel_rfl) ?_ | refine aI ⟨by omega, by omega⟩ ?_ | refine aI (by omega) ?_ | refine aI (fun _ => ⟨by omega, by omega⟩) ?_ | refine aI (of_decide_eq_true rfl) ?_ | (refine yI ?_ ?_; focus (first | decide | (simp; done) | (simp [tcs]; done))) | (refine nI ?_ ?_; focus (first | decide | (simp; done) | (simp [tcs]; done))) | intro _); conv => whnf)
    try (refine dI (by kernel_rfl) ?_; conv => whnf)
    first | refine CallSt.use hdm [] trivial (by decide) rfl ?_ | refine CallPt.useS hdm [] trivial (by decide) rfl ?_
    rintro _ _ ⟨rfl, rfl⟩ _
    conv => whnf
    repeat ((first | refine aI rfl ?_ | refine aI (by decide) ?_ | refine dI (by kernel_rfl) ?_ | refine aI ⟨by omega, by omega⟩ ?_ | refine aI (by omega) ?_ | refine aI (fun _ => ⟨by omega, by omega⟩) ?_ | refine aI (of_decide_eq_true rfl) ?_ | (refine yI ?_ ?_; focus (first | decide | (simp; done) | (simp [tcs]; done))) | (refine nI ?_ ?_; focus (first | decide | (simp; done) | (simp [tcs]; done))) | intro _); conv => whnf)
    generalize hb0 : updM bj j j kd = b0 at *
    refine loop_intro (fun mm tm H => ∃ i : Nat, D.length = mm + i ∧ tm = [(40, .c (.int .i64 (i))), (39, .c (.int .i64 ((tcs D).length))), (38, .c (.sl 4 48 (tcs D))), (6, .c (.int .i64 (j))), (18, .c (.int .i64 (j))), (17, .c (.int .i64 ((dcs sig).length))), (16, .c (.sl 6 72 (dcs sig))), (1, .ptr 0 0), (3, .ptr 2 0), (4, .ptr 3 0), (5, .ptr 4 0)] ∧
        H = bwH5 sig (orE b0 ((D.take i).flatMap (stepE sig sz hn true))))
      D.length _ _ ⟨0, by omega, rfl, rfl⟩ ?_ ?_
    · have e0 : orE b0 ((D.take 0).flatMap (stepE sig sz hn true)) = b0 := by rw [List.take_zero, List.flatMap_nil, orE_nil]
      rw [e0]
      exact Wk.sl [0, 1, 2, 3, 4] rfl ⟨rfl, rfl, rfl, rfl, rfl, trivial⟩ ⟨rfl, rfl, rfl, rfl, rfl, rfl, rfl, rfl, rfl, rfl, rfl, trivial⟩ rfl
    rintro mm tm H ⟨i, hi, rfl, rfl⟩
    conv => whnf
    refine ⟨fun hc2 => ?_, fun hc2 => ?_⟩
    · replace hc2 : (i : Int) < (tcs D).length := of_decide_eq_true hc2
      obtain ⟨v, hv⟩ : ∃ v, D[i]? = some v := ⟨D[i]'(by omega), List.getElem?_eq_getElem (by omega)⟩
      have hvc := tcs_at D i v hv
      obtain ⟨d', hv1, hv2, hv3⟩ := hD v (List.mem_of_getElem? hv)
      have hst : orE b0 ((D.take (i + 1)).flatMap (stepE sig sz hn true)) = orE (orE b0 ((D.take i).flatMap (stepE sig sz hn true))) (stepE sig sz hn true v) := by
        rw [orE_app, List.take_add_one, hv, List.flatMap_append]
        simp
      generalize orE b0 ((D.take i).flatMap (stepE sig sz hn true)) = fj at *
      unfold stepE at hst
      rw [← orE_app, Bool.true_and] at hst
      have hpt := cPutM sig hpr hsl fj v d' hv1 hv2 hn (by omega)
      generalize orE fj (if tgB sig v then [(tg v, hn)] else []) = fp at *
      have hst2 := cStands sig hpr hsl sz v d' hv1 hv2 hv3 fp
      rw [← hst] at hst2
      obtain ⟨k', l', n', us⟩ := v
      rw [tv_mk] at *
      conv => whnf
      repeat ((first | refine aI rfl ?_ | refine aI (by decide) ?_ | refine dI (by kernel_rfl) ?_ | refine aI ⟨by omega, by omega⟩ ?_ | refine aI (by omega) ?_ | refine aI (fun _ => ⟨by omega, by omega⟩) ?_ | refine aI (of_decide_eq_true rfl) ?_ | (refine yI ?_ ?_; focus (first | decide | (simp; done) | (simp [tcs]; done))) | (refine nI ?_ ?_; focus (first | decide | (simp; done) | (simp [tcs]; done))) | intro _); conv => whnf)
      refine ⟨_, ⟨by omega, by simpa using hvc⟩, ?_⟩
      conv => whnf
      refine ⟨Nat.le_refl 4, ?_⟩
      conv => whnf
      repeat ((first | refine aI rfl ?_ | refine aI (by decide) ?_ | refine dI (by kernel_rfl) ?_ | refine aI ⟨by omega, by omega⟩ ?_ | refine aI (by omega) ?_ | refine aI (fun _ => ⟨by omega, by omega⟩) ?_ | refine aI (of_decide_eq_true rfl) ?_ | (refine yI ?_ ?_; focus (first | decide | (simp; done) | (simp [tcs]; done))) | (refine nI ?_ ?_; focus (first | decide | (simp; done) | (simp [tcs]; done))) | intro _); conv => whnf)
      try (refine dI (by kernel_rfl) ?_; conv => whnf)
      first | refine CallSt.use hha [] trivial (by decide) rfl ?_ | refine CallPt.useS hha [] trivial (by decide) rfl ?_
      rintro _ _ ⟨rfl, rfl⟩ _
      conv => whnf
      repeat ((first | refine aI rfl ?_ | refine aI (by decide) ?_ | refine dI (by kernel_rfl) ?_ | refine aI ⟨by omega, by omega⟩ ?_ | refine aI (by omega) ?_ | refine aI (fun _ => ⟨by omega, by omega⟩) ?_ | refine aI (of_decide_eq_true rfl) ?_ | (refine yI ?_ ?_; focus (first | decide | (simp; done) | (simp [tcs]; done))) | (refine nI ?_ ?_; focus (first | decide | (simp; done) | (simp [tcs]; done))) | intro _); conv => whnf)
      try (refine dI (by kernel_rfl) ?_; conv => whnf)
      first | refine CallSt.use hpt [0, 1, 2] ⟨rfl, rfl, rfl, trivial⟩ (by decide) rfl ?_ | refine CallPt.useS hpt [0, 1, 2] ⟨rfl, rfl, rfl, trivial⟩ (by decide) rfl ?_
      rintro _ _ ⟨rfl, rfl⟩ _
      conv => whnf
      repeat ((first | refine aI rfl ?_ | refine aI (by decide) ?_ | refine dI (by kernel_rfl) ?_ | refine aI ⟨by omega, by omega⟩ ?_ | refine aI (by omega) ?_ | refine aI (fun _ => ⟨by omega, by omega⟩) ?_ | refine aI (of_decide_eq_true rfl) ?_ | (refine yI ?_ ?_; focus (first | decide | (simp; done) | (simp [tcs]; done))) | (refine nI ?_ ?_; focus (first | decide | (simp; done) | (simp [tcs]; done))) | intro _); conv => whnf)
      try (refine dI (by kernel_rfl) ?_; conv => whnf)
      first | refine CallSt.use hst2 [0, 1, 2, 3, 4] ⟨rfl, rfl, rfl, rfl, rfl, trivial⟩ (by decide) rfl ?_ | refine CallPt.useS hst2 [0, 1, 2, 3, 4] ⟨rfl, rfl, rfl, rfl, rfl, trivial⟩ (by decide) rfl ?_
      rintro _ _ ⟨rfl, rfl⟩ _
      conv => whnf
      repeat ((first | refine aI rfl ?_ | refine aI (by decide) ?_ | refine dI (by kernel_rfl) ?_ | refine aI ⟨by omega, by omega⟩ ?_ | refine aI (by omega) ?_ | refine aI (fun _ => ⟨by omega, by omega⟩) ?_ | refine aI (of_decide_eq_true rfl) ?_ | (refine yI ?_ ?_; focus (first | decide | (simp; done) | (simp [tcs]; done))) | (refine nI ?_ ?_; focus (first | decide | (simp; done) | (simp [tcs]; done))) | intro _); conv => whnf)
      exact ⟨mm - 1, _, _, by omega, ⟨i + 1, by omega, rfl, rfl⟩, Wk.sl [0, 1, 2, 3, 4] rfl ⟨rfl, rfl, rfl, rfl, rfl, trivial⟩ ⟨rfl, rfl, rfl, rfl, rfl, rfl, rfl, rfl, rfl, rfl, rfl, trivial⟩ rfl⟩
    · replace hc2 : ¬ (i : Int) < (tcs D).length := of_decide_eq_false hc2
      obtain rfl : i = D.length := by omega
      rw [List.take_length, ← hnx]
      conv => whnf
      repeat ((first | refine aI rfl ?_ | refine aI (by decide) ?_ | refine dI (by kernel_rfl) ?_ | refine aI ⟨by omega, by omega⟩ ?_ | refine aI (by omega) ?_ | refine aI (fun _ => ⟨by omega, by omega⟩) ?_ | refine aI (of_decide_eq_true rfl) ?_ | (refine yI ?_ ?_; focus (first | decide | (simp; done) | (simp [tcs]; done))) | (refine nI ?_ ?_; focus (first | decide | (simp; done) | (simp [tcs]; done))) | intro _); conv => whnf)
      exact ⟨m - 1, _, _, by omega, ⟨j + 1, by omega, rfl, rfl⟩, Wk.sl [0, 1, 2, 3, 4] rfl ⟨rfl, rfl, rfl, rfl, rfl, trivial⟩ ⟨rfl, rfl, rfl, rfl, rfl, rfl, rfl, trivial⟩ rfl⟩
  · replace hc : ¬ (j : Int) < (dcs sig).length := of_decide_eq_false hc
    obtain rfl : j = sig.length := by omega
    generalize bwP sig sig.length = fp at *
    generalize belM sig = fm at *
    conv => whnf
    repeat ((first | refine aI rfl ?_ | refine aI (by decide) ?_ | refine dI (by kernel_rfl) ?_ | refine aI ⟨by omega, by omega⟩ ?_ | refine aI (by omega) ?_ | refine aI (fun _ => ⟨by omega, by omega⟩) ?_ | refine aI (of_decide_eq_true rfl) ?_ | (refine yI ?_ ?_; focus (first | decide | (simp; done) | (simp [tcs]; done))) | (refine nI ?_ ?_; focus (first | decide | (simp; done) | (simp [tcs]; done))) | intro _); conv => whnf)
    try (refine dI (by kernel_rfl) ?_; conv => whnf)
    first | refine CallSt.use hcl [1] ⟨rfl, trivial⟩ (by decide) rfl ?_ | refine CallPt.useS hcl [1] ⟨rfl, trivial⟩ (by decide) rfl ?_
    rintro _ _ ⟨rfl, rfl⟩ _
    conv => whnf
    repeat ((first | refine aI rfl ?_ | refine aI (by decide) ?_ | refine dI (by kernel_rfl) ?_ | refine aI ⟨by omega, by omega⟩ ?_ | refine aI (by omega) ?_ | refine aI (fun _ => ⟨by omega, by omega⟩) ?_ | refine aI (of_decide_eq_true rfl) ?_ | (refine yI ?_ ?_; focus (first | decide | (simp; done) | (simp [tcs]; done))) | (refine nI ?_ ?_; focus (first | decide | (simp; done) | (simp [tcs]; done))) | intro _); conv => whnf)
    refine ⟨[(2, .elt 0 10000 0 0)], [.row 80 10000 1 [mrow fm]], Wk.sl [1] rfl ⟨rfl, trivial⟩ ⟨rfl, trivial⟩ rfl, ?_⟩
    conv => whnf
    exact ⟨rfl, rfl⟩
end Go.Tr
/- depend.Users, depend.Needs. -/
namespace Go.Tr
open Go.Proofs
def usersF (sig : List Dcl) (n : Int) : List Int := match decide (hasE sig n = 0) with | true => upTo (fun j => needM sig j n.toNat) sig.length | false => []
theorem cUsersD (sig : List Dcl) (n : Int) : CallSt Try.prog 28 [.c (.sl 6 72 (dcs sig)), .c (.int .i64 (n))] [] (fun r H' => r = .tup [.c (.sl 1 8 (rowI (usersF sig n))), .c (.int .i64 (hasE sig n))] ∧ H' = []) := by
  have hh := cDHas sig n
  have hbl := len_dcs sig
  unfold usersF
  rcases hasE_cases sig n with ⟨he, _⟩ | ⟨he, _⟩ | ⟨he, hc, hn⟩
  · rw [he] at hh ⊢
    refine call_pure (E := envM 0) (fn := Try.f28) (c := bodyOf Try.f28) (envM_ok 0) mixed (by kernel_rfl) (by kernel_rfl) (by kernel_rfl) (by kernel_rfl) (by kernel_rfl) (by kernel_rfl) rfl ?_
    conv => whnf
    try (refine dI (by kernel_rfl) ?_; conv => whnf)
    first | refine CallSt.use hh [] trivial (by decide) rfl ?_ | refine CallPt.useS hh [] trivial (by decide) rfl ?_
    rintro _ _ ⟨rfl, rfl⟩ _
    conv => whnf
    repeat ((first | refine aI rfl ?_ | refine aI (by decide) ?_ | refine dI (by kernel_rfl) ?_ | refine aI ⟨by omega, by omega⟩ ?_ | refine aI (by omega) ?_ | refine aI (fun _ => ⟨by omega, by omega⟩) ?_ | refine aI (of_decide_eq_true rfl) ?_ | (refine yI ?_ ?_; focus (first | decide | (simp; done) | (simp [tcs]; done))) | (refine nI ?_ ?_; focus (first | decide | (simp; done) | (simp [tcs]; done))) | intro _); conv => whnf)
    all_goals (first | rfl | exact ⟨rfl, rfl⟩ | exact ⟨rfl, rfl, rfl⟩)
  · rw [he] at hh ⊢
    refine call_pure (E := envM 0) (fn := Try.f28) (c := bodyOf Try.f28) (envM_ok 0) mixed (by kernel_rfl) (by kernel_rfl) (by kernel_rfl) (by kernel_rfl) (by kernel_rfl) (by kernel_rfl) rfl ?_
    conv => whnf
    try (refine dI (by kernel_rfl) ?_; conv => whnf)
    first | refine CallSt.use hh [] trivial (by decide) rfl ?_ | refine CallPt.useS hh [] trivial (by decide) rfl ?_
    rintro _ _ ⟨rfl, rfl⟩ _
    conv => whnf
    repeat ((first | refine aI rfl ?_ | refine aI (by decide) ?_ | refine dI (by kernel_rfl) ?_ | refine aI ⟨by omega, by omega⟩ ?_ | refine aI (by omega) ?_ | refine aI (fun _ => ⟨by omega, by omega⟩) ?_ | refine aI (of_decide_eq_true rfl) ?_ | (refine yI ?_ ?_; focus (first | decide | (simp; done) | (simp [tcs]; done))) | (refine nI ?_ ?_; focus (first | decide | (simp; done) | (simp [tcs]; done))) | intro _); conv => whnf)
    all_goals (first | rfl | exact ⟨rfl, rfl⟩ | exact ⟨rfl, rfl, rfl⟩)
  · obtain ⟨q, d, rfl, hq, hd⟩ := get_nat hn
    have hnd := cNeeds sig hc
    have hl := check_len hc
    rw [he] at hh ⊢
    rw [decide_eq_true (show (0 : Int) = 0 from rfl), Int.toNat_natCast]
    show CallSt _ _ _ _ fun r H' => r = .tup [.c (.sl 1 8 (rowI (upTo (fun j => needM sig j q) sig.length))), .c (.int .i64 (0))] ∧ H' = []
    generalize needM sig = fm at *
    refine call_pure (E := envM 0) (fn := Try.f28) (c := bodyOf Try.f28) (envM_ok 0) mixed (by kernel_rfl) (by kernel_rfl) (by kernel_rfl) (by kernel_rfl) (by kernel_rfl) (by kernel_rfl) rfl ?_
    conv => whnf
    try (refine dI (by kernel_rfl) ?_; conv => whnf)
    first | refine CallSt.use hh [] trivial (by decide) rfl ?_ | refine CallPt.useS hh [] trivial (by decide) rfl ?_
    rintro _ _ ⟨rfl, rfl⟩ _
    conv => whnf
    repeat ((first | refine aI rfl ?_ | refine aI (by decide) ?_ | refine dI (by kernel_rfl) ?_ | refine aI ⟨by omega, by omega⟩ ?_ | refine aI (by omega) ?_ | refine aI (fun _ => ⟨by omega, by omega⟩) ?_ | refine aI (of_decide_eq_true rfl) ?_ | (refine yI ?_ ?_; focus (first | decide | (simp; done) | (simp [tcs]; done))) | (refine nI ?_ ?_; focus (first | decide | (simp; done) | (simp [tcs]; done))) | intro _); conv => whnf)
    try (refine dI (by kernel_rfl) ?_; conv => whnf)
    first | refine CallSt.use hnd [] trivial (by decide) rfl ?_ | refine CallPt.useS hnd [] trivial (by decide) rfl ?_
    rintro _ _ ⟨rfl, rfl⟩ _
    conv => whnf
    repeat ((first | refine aI rfl ?_ | refine aI (by decide) ?_ | refine dI (by kernel_rfl) ?_ | refine aI ⟨by omega, by omega⟩ ?_ | refine aI (by omega) ?_ | refine aI (fun _ => ⟨by omega, by omega⟩) ?_ | refine aI (of_decide_eq_true rfl) ?_ | (refine yI ?_ ?_; focus (first | decide | (simp; done) | (simp [tcs]; done))) | (refine nI ?_ ?_; focus (first | decide | (simp; done) | (simp [tcs]; done))) | intro _); conv => whnf)
    refine loop_intro (fun m tm H => ∃ j : Nat, sig.length = m + j ∧
      tm = [(20, .c (.int .i64 (j))), (19, .c (.int .i64 ((dcs sig).length))), (1, .c (.int .i64 (q))), (7, .elt 0 10000 0 0), (8, .own 1)] ∧ H = [.row 80 10000 1 [mrow fm], .row 3 1 8 (rowI (upTo (fun j => fm j q) j))])
      sig.length _ _ ⟨0, by omega, rfl, rfl⟩ ?_ ?_
    · refine Wk.trans (tm1 := [(20, .c (.int .i64 (0))), (19, .c (.int .i64 ((dcs sig).length))), (1, .c (.int .i64 (q))), (7, .elt 0 10000 0 0), (8, .nil)]) (H1 := [.row 80 10000 1 [mrow fm]]) ?_ (Wk.trans (Wk.niltmp 8 3 1 8 rfl rfl) ?_)
      · exact Wk.sl [0] rfl ⟨rfl, trivial⟩ ⟨rfl, rfl, rfl, rfl, rfl, trivial⟩ rfl
      · exact Wk.sl [0, 1] rfl ⟨rfl, rfl, trivial⟩ ⟨rfl, rfl, rfl, rfl, rfl, trivial⟩ rfl
    rintro m tm H ⟨j, hj, rfl, rfl⟩
    conv => whnf
    refine ⟨fun hlt => ?_, fun hlt => ?_⟩
    · replace hlt : (j : Int) < (dcs sig).length := of_decide_eq_true hlt
      have hrl := len_rowI (upTo (fun j => fm j q) j)
      have hul := upTo_len (fun j => fm j q) j
      have hl2 : ((rowI (upTo (fun j => fm j q) j)).length + 1) * 8 ≤ 140737488355328 := by omega
      have hl3 : (rowI (upTo (fun j => fm j q) j)).length + 1 ≤ 9223372036854775807 := by omega
      conv => whnf
      repeat ((first | refine aI rfl ?_ | refine aI (by decide) ?_ | refine dI (by kernel_rfl) ?_ | refine aI ⟨by omega, by omega⟩ ?_ | refine aI (by omega) ?_ | refine aI (fun _ => ⟨by omega, by omega⟩) ?_ | refine aI (of_decide_eq_true rfl) ?_ | (refine yI ?_ ?_; focus (first | decide | (simp; done) | (simp [tcs]; done))) | (refine nI ?_ ?_; focus (first | decide | (simp; done) | (simp [tcs]; done))) | intro _); conv => whnf)
      refine ⟨fm j q, ⟨_, rfl, mrow_at2 fm (by omega) (by omega)⟩, ?_⟩
      conv => whnf
      refine ⟨fun h2 => ?_, fun h2 => ?_⟩
      · conv => whnf
        refine ⟨by decide, ?_⟩
        conv => whnf
        refine ⟨by decide, ?_⟩
        conv => whnf
        refine ⟨hl2, hl3, ?_⟩
        conv => whnf
        repeat ((first | refine aI rfl ?_ | refine aI (by decide) ?_ | refine dI (by kernel_rfl) ?_ | refine aI ⟨by omega, by omega⟩ ?_ | refine aI (by omega) ?_ | refine aI (fun _ => ⟨by omega, by omega⟩) ?_ | refine aI (of_decide_eq_true rfl) ?_ | (refine yI ?_ ?_; focus (first | decide | (simp; done) | (simp [tcs]; done))) | (refine nI ?_ ?_; focus (first | decide | (simp; done) | (simp [tcs]; done))) | intro _); conv => whnf)
        refine ⟨m - 1, _, _, by omega, ⟨j + 1, by omega, rfl, rfl⟩, Wk.sl [0, 3] rfl ⟨rfl, ?_, trivial⟩ ⟨rfl, rfl, rfl, rfl, rfl, trivial⟩ rfl⟩
        rw [upTo_yes (p := fun j => fm j q) h2, ← rowI_snoc]
        rfl
      · conv => whnf
        repeat ((first | refine aI rfl ?_ | refine aI (by decide) ?_ | refine dI (by kernel_rfl) ?_ | refine aI ⟨by omega, by omega⟩ ?_ | refine aI (by omega) ?_ | refine aI (fun _ => ⟨by omega, by omega⟩) ?_ | refine aI (of_decide_eq_true rfl) ?_ | (refine yI ?_ ?_; focus (first | decide | (simp; done) | (simp [tcs]; done))) | (refine nI ?_ ?_; focus (first | decide | (simp; done) | (simp [tcs]; done))) | intro _); conv => whnf)
        refine ⟨m - 1, _, _, by omega, ⟨j + 1, by omega, rfl, rfl⟩, Wk.sl [0, 1] rfl ⟨rfl, ?_, trivial⟩ ⟨rfl, rfl, rfl, rfl, rfl, trivial⟩ rfl⟩
        rw [upTo_no (p := fun j => fm j q) h2]
        rfl
    · replace hlt : ¬ (j : Int) < (dcs sig).length := of_decide_eq_false hlt
      obtain rfl : j = sig.length := by omega
      conv => whnf
      repeat ((first | refine aI rfl ?_ | refine aI (by decide) ?_ | refine dI (by kernel_rfl) ?_ | refine aI ⟨by omega, by omega⟩ ?_ | refine aI (by omega) ?_ | refine aI (fun _ => ⟨by omega, by omega⟩) ?_ | refine aI (of_decide_eq_true rfl) ?_ | (refine yI ?_ ?_; focus (first | decide | (simp; done) | (simp [tcs]; done))) | (refine nI ?_ ?_; focus (first | decide | (simp; done) | (simp [tcs]; done))) | intro _); conv => whnf)
      all_goals (first | rfl | exact ⟨rfl, rfl⟩ | exact ⟨rfl, rfl, rfl⟩)
end Go.Tr
/- depend.Needs. -/
namespace Go.Tr
open Go.Proofs
theorem etaR_len (l : List CV) : ∀ n d, (etaR l d n).length = n
  | 0, _ => rfl
  | n + 1, d => by rw [etaR, List.length_cons, etaR_len l n]
theorem etaR_at (l : List CV) : ∀ n d j, j < n → (etaR l d n)[j]? = some (.c (l.getD (d + j) (.bool false)))
  | 0, _, j, h => absurd h (Nat.not_lt_zero j)
  | n + 1, d, 0, _ => by rw [etaR]; rfl
  | n + 1, d, j + 1, h => by
    rw [etaR, List.getElem?_cons_succ, etaR_at l n (d + 1) j (by omega), show d + 1 + j = d + (j + 1) by omega]
def lrow (f : Nat → Nat → Bool) (q : Nat) : List AV := (List.range 100).map fun j => .c (.bool (f q j))
theorem lrow_at (f : Nat → Nat → Bool) (q : Nat) {j : Nat} (h : j < 100) : (lrow f q)[(j : Int).toNat]? = some (.c (.bool (f q j))) := by
  unfold lrow
  rw [Int.toNat_natCast, List.getElem?_map, List.getElem?_range h]
  rfl
theorem rens_pure (φ : Nat → Nat) : ∀ l : List CV, AV.rens φ (l.map .c) = l.map .c
  | [] => rfl
  | x :: r => by rw [List.map_cons, AV.rens, AV.ren, rens_pure φ r]
theorem ren_lrow (φ : Nat → Nat) (f : Nat → Nat → Bool) (q : Nat) : AV.agg (lrow f q) = AV.ren φ (.agg (lrow f q)) := by
  rw [AV.ren]
  unfold lrow
  have := rens_pure φ ((List.range 100).map fun j => .bool (f q j))
  rw [List.map_map] at this
  exact congrArg _ this.symm
theorem etaR_mrow (f : Nat → Nat → Bool) {q : Nat} (hq : q < 100) : etaR (mrow f) (q * 100) 100 = lrow f q := by
  refine List.ext_getElem? fun j => ?_
  by_cases hj : j < 100
  · rw [etaR_at _ _ _ _ hj]
    have := lrow_at f q hj
    rw [Int.toNat_natCast] at this
    rw [this, List.getD_eq_getElem?_getD, mrow_at f hq hj]
    rfl
  · rw [List.getElem?_eq_none (by rw [etaR_len]; omega), List.getElem?_eq_none (by unfold lrow; rw [List.length_map, List.length_range]; omega)]
attribute [irreducible] lrow
theorem load_row {k : TK} {s : Nat} (hs : s = 100) {f : Nat → Nat → Bool} {q : Nat} (hq : q < 100) {K : AV → Prop} (h : wrapAgg k (lrow f q) K) : 0 + (q : Int).toNat * s + s ≤ (mrow f).length ∧ wrapAgg k (etaR (mrow f) (0 + (q : Int).toNat * s) s) K := by
  subst hs
  rw [Int.toNat_natCast, Nat.zero_add, etaR_mrow f hq, mrow_len]
  exact ⟨by omega, h⟩
def needsF (sig : List Dcl) (n : Int) : List Int := match decide (hasE sig n = 0) with | true => upTo (fun j => needM sig n.toNat j) 100 | false => []
theorem cNeedsD (sig : List Dcl) (n : Int) : CallSt Try.prog 27 [.c (.sl 6 72 (dcs sig)), .c (.int .i64 (n))] [] (fun r H' => r = .tup [.c (.sl 1 8 (rowI (needsF sig n))), .c (.int .i64 (hasE sig n))] ∧ H' = []) := by
  have hh := cDHas sig n
  have hbl := len_dcs sig
  unfold needsF
  rcases hasE_cases sig n with ⟨he, _⟩ | ⟨he, _⟩ | ⟨he, hc, hn⟩
  · rw [he] at hh ⊢
    refine call_pure (E := envM 0) (fn := Try.f27) (c := bodyOf Try.f27) (envM_ok 0) mixed (by kernel_rfl) (by kernel_rfl) (by kernel_rfl) (by kernel_rfl) (by kernel_rfl) (by kernel_rfl) rfl ?_
    conv => whnf
    try (refine dI (by kernel_rfl) ?_; conv => whnf)
    first | refine CallSt.use hh [] trivial (by decide) rfl ?_ | refine CallPt.useS hh [] trivial (by decide) rfl ?_
    rintro _ _ ⟨rfl, rfl⟩ _
    conv => whnf
    repeat ((first | refine aI rfl ?_ | refine aI (by decide) ?_ | refine dI (by kernel_rfl) ?_ | refine aI ⟨by omega, by omega⟩ ?_ | refine aI (by omega) ?_ | refine aI (fun _ => ⟨by omega, by omega⟩) ?_ | refine aI (of_decide_eq_true rfl) ?_ | (refine yI ?_ ?_; focus (first | decide | (simp; done) | (simp [tcs]; done))) | (refine nI ?_ ?_; focus (first | decide | (simp; done) | (simp [tcs]; done))) | intro _); conv => whnf)
    all_goals (first | rfl | exact ⟨rfl, rfl⟩ | exact ⟨rfl, rfl, rfl⟩)
  · rw [he] at hh ⊢
    refine call_pure (E := envM 0) (fn := Try.f27) (c := bodyOf Try.f27) (envM_ok 0) mixed (by kernel_rfl) (by kernel_rfl) (by kernel_rfl) (by kernel_rfl) (by kernel_rfl) (by kernel_rfl) rfl ?_
    conv => whnf
    try (refine dI (by kernel_rfl) ?_; conv => whnf)
    first | refine CallSt.use hh [] trivial (by decide) rfl ?_ | refine CallPt.useS hh [] trivial (by decide) rfl ?_
    rintro _ _ ⟨rfl, rfl⟩ _
    conv => whnf
    repeat ((first | refine aI rfl ?_ | refine aI (by decide) ?_ | refine dI (by kernel_rfl) ?_ | refine aI ⟨by omega, by omega⟩ ?_ | refine aI (by omega) ?_ | refine aI (fun _ => ⟨by omega, by omega⟩) ?_ | refine aI (of_decide_eq_true rfl) ?_ | (refine yI ?_ ?_; focus (first | decide | (simp; done) | (simp [tcs]; done))) | (refine nI ?_ ?_; focus (first | decide | (simp; done) | (simp [tcs]; done))) | intro _); conv => whnf)
    all_goals (first | rfl | exact ⟨rfl, rfl⟩ | exact ⟨rfl, rfl, rfl⟩)
  · obtain ⟨q, d, rfl, hq, hd⟩ := get_nat hn
    have hnd := cNeeds sig hc
    have hl := check_len hc
    rw [he] at hh ⊢
    rw [decide_eq_true (show (0 : Int) = 0 from rfl), Int.toNat_natCast]
    show CallSt _ _ _ _ fun r H' => r = .tup [.c (.sl 1 8 (rowI (upTo (fun j => needM sig q j) 100))), .c (.int .i64 (0))] ∧ H' = []
    generalize needM sig = fm at *
    refine call_pure (E := envM 0) (fn := Try.f27) (c := bodyOf Try.f27) (envM_ok 0) mixed (by kernel_rfl) (by kernel_rfl) (by kernel_rfl) (by kernel_rfl) (by kernel_rfl) (by kernel_rfl) rfl ?_
    conv => whnf
    try (refine dI (by kernel_rfl) ?_; conv => whnf)
    first | refine CallSt.use hh [] trivial (by decide) rfl ?_ | refine CallPt.useS hh [] trivial (by decide) rfl ?_
    rintro _ _ ⟨rfl, rfl⟩ _
    conv => whnf
    repeat ((first | refine aI rfl ?_ | refine aI (by decide) ?_ | refine dI (by kernel_rfl) ?_ | refine aI ⟨by omega, by omega⟩ ?_ | refine aI (by omega) ?_ | refine aI (fun _ => ⟨by omega, by omega⟩) ?_ | refine aI (of_decide_eq_true rfl) ?_ | (refine yI ?_ ?_; focus (first | decide | (simp; done) | (simp [tcs]; done))) | (refine nI ?_ ?_; focus (first | decide | (simp; done) | (simp [tcs]; done))) | intro _); conv => whnf)
    try (refine dI (by kernel_rfl) ?_; conv => whnf)
    first | refine CallSt.use hnd [] trivial (by decide) rfl ?_ | refine CallPt.useS hnd [] trivial (by decide) rfl ?_
    rintro _ _ ⟨rfl, rfl⟩ _
    conv => whnf
    repeat ((first | refine aI rfl ?_ | refine aI (by decide) ?_ | refine dI (by kernel_rfl) ?_ | refine aI ⟨by omega, by omega⟩ ?_ | refine aI (by omega) ?_ | refine aI (fun _ => ⟨by omega, by omega⟩) ?_ | refine aI (of_decide_eq_true rfl) ?_ | (refine yI ?_ ?_; focus (first | decide | (simp; done) | (simp [tcs]; done))) | (refine nI ?_ ?_; focus (first | decide | (simp; done) | (simp [tcs]; done))) | intro _); conv => whnf)
    refine ⟨_, rfl, load_row rfl (by omega) ?_⟩
    conv => whnf
    repeat ((first | refine aI rfl ?_ | refine aI (by decide) ?_ | refine dI (by kernel_rfl) ?_ | refine aI ⟨by omega, by omega⟩ ?_ | refine aI (by omega) ?_ | refine aI (fun _ => ⟨by omega, by omega⟩) ?_ | refine aI (of_decide_eq_true rfl) ?_ | (refine yI ?_ ?_; focus (first | decide | (simp; done) | (simp [tcs]; done))) | (refine nI ?_ ?_; focus (first | decide | (simp; done) | (simp [tcs]; done))) | intro _); conv => whnf)
    refine loop_intro (fun m tm H => ∃ j : Nat, 100 = m + j ∧
      tm = [(22, .c (.int .i64 (j))), (21, .agg (lrow fm q)), (7, .own 0)] ∧ H = [.row 3 1 8 (rowI (upTo (fun j => fm q j) j))])
      100 _ _ ⟨0, by omega, rfl, rfl⟩ ?_ ?_
    · refine Wk.trans (tm1 := [(22, .c (.int .i64 (0))), (21, .agg (lrow fm q)), (7, .nil)]) (H1 := []) ?_ (Wk.trans (Wk.niltmp 7 3 1 8 rfl rfl) ?_)
      · exact Wk.sl [] rfl trivial ⟨rfl, ren_lrow _ fm q, rfl, trivial⟩ rfl
      · exact Wk.sl [0] rfl ⟨rfl, trivial⟩ ⟨rfl, ren_lrow _ fm q, rfl, trivial⟩ rfl
    rintro m tm H ⟨j, hj, rfl, rfl⟩
    conv => whnf
    refine ⟨fun hlt => ?_, fun hlt => ?_⟩
    · replace hlt : (j : Int) < 100 := of_decide_eq_true hlt
      have hrl := len_rowI (upTo (fun j => fm q j) j)
      have hul := upTo_len (fun j => fm q j) j
      have hl2 : ((rowI (upTo (fun j => fm q j) j)).length + 1) * 8 ≤ 140737488355328 := by omega
      have hl3 : (rowI (upTo (fun j => fm q j) j)).length + 1 ≤ 9223372036854775807 := by omega
      conv => whnf
      repeat ((first | refine aI rfl ?_ | refine aI (by decide) ?_ | refine dI (by kernel_rfl) ?_ | refine aI ⟨by omega, by omega⟩ ?_ | refine aI (by omega) ?_ | refine aI (fun _ => ⟨by omega, by omega⟩) ?_ | refine aI (of_decide_eq_true rfl) ?_ | (refine yI ?_ ?_; focus (first | decide | (simp; done) | (simp [tcs]; done))) | (refine nI ?_ ?_; focus (first | decide | (simp; done) | (simp [tcs]; done))) | intro _); conv => whnf)
      refine ⟨fm q j, lrow_at fm q (by omega), ?_⟩
      conv => whnf
      repeat ((first | refine aI rfl ?_ | refine aI (by decide) ?_ | refine dI (by kernel_rfl) ?_ | refine aI ⟨by omega, by omega⟩ ?_ | refine aI (by omega) ?_ | refine aI (fun _ => ⟨by omega, by omega⟩) ?_ | refine aI (of_decide_eq_true rfl) ?_ | (refine yI ?_ ?_; focus (first | decide | (simp; done) | (simp [tcs]; done))) | (refine nI ?_ ?_; focus (first | decide | (simp; done) | (simp [tcs]; done))) | intro _); conv => whnf)
      refine ⟨fun h2 => ?_, fun h2 => ?_⟩
      · conv => whnf
        refine ⟨by decide, ?_⟩
        conv => whnf
        refine ⟨by decide, ?_⟩
        conv => whnf
        refine ⟨hl2, hl3, ?_⟩
        conv => whnf
        repeat ((first | refine aI rfl ?_ | refine aI (by decide) ?_ | refine dI (by kernel_rfl) ?_ | refine aI ⟨by omega, by omega⟩ ?_ | refine aI (by omega) ?_ | refine aI (fun _ => ⟨by omega, by omega⟩) ?_ | refine aI (of_decide_eq_true rfl) ?_ | (refine yI ?_ ?_; focus (first | decide | (simp; done) | (simp [tcs]; done))) | (refine nI ?_ ?_; focus (first | decide | (simp; done) | (simp [tcs]; done))) | intro _); conv => whnf)
        refine ⟨m - 1, _, _, by omega, ⟨j + 1, by omega, rfl, rfl⟩, Wk.sl [2] rfl ⟨?_, trivial⟩ ⟨rfl, ren_lrow _ fm q, rfl, trivial⟩ rfl⟩
        rw [upTo_yes (p := fun j => fm q j) h2, ← rowI_snoc]
        rfl
      · conv => whnf
        repeat ((first | refine aI rfl ?_ | refine aI (by decide) ?_ | refine dI (by kernel_rfl) ?_ | refine aI ⟨by omega, by omega⟩ ?_ | refine aI (by omega) ?_ | refine aI (fun _ => ⟨by omega, by omega⟩) ?_ | refine aI (of_decide_eq_true rfl) ?_ | (refine yI ?_ ?_; focus (first | decide | (simp; done) | (simp [tcs]; done))) | (refine nI ?_ ?_; focus (first | decide | (simp; done) | (simp [tcs]; done))) | intro _); conv => whnf)
        refine ⟨m - 1, _, _, by omega, ⟨j + 1, by omega, rfl, rfl⟩, Wk.sl [0] rfl ⟨?_, trivial⟩ ⟨rfl, ren_lrow _ fm q, rfl, trivial⟩ rfl⟩
        rw [upTo_no (p := fun j => fm q j) h2]
        rfl
    · replace hlt : ¬ (j : Int) < 100 := of_decide_eq_false hlt
      obtain rfl : j = 100 := by omega
      conv => whnf
      repeat ((first | refine aI rfl ?_ | refine aI (by decide) ?_ | refine dI (by kernel_rfl) ?_ | refine aI ⟨by omega, by omega⟩ ?_ | refine aI (by omega) ?_ | refine aI (fun _ => ⟨by omega, by omega⟩) ?_ | refine aI (of_decide_eq_true rfl) ?_ | (refine yI ?_ ?_; focus (first | decide | (simp; done) | (simp [tcs]; done))) | (refine nI ?_ ?_; focus (first | decide | (simp; done) | (simp [tcs]; done))) | intro _); conv => whnf)
      all_goals (first | rfl | exact ⟨rfl, rfl⟩ | exact ⟨rfl, rfl, rfl⟩)
end Go.Tr
/- depend.Below. -/
namespace Go.Tr
open Go.Proofs
def fstE : List Int → Int
  | [] => 0
  | e :: r => match decide (e = 0) with | true => fstE r | false => e
theorem fst_no : ∀ (L : List Int) (j : Nat) (e : Int), L[j]? = some e → e ≠ 0 → fstE (L.drop j) = e
  | [], _, _, h, _ => nomatch h
  | x :: r, 0, e, h, he => by
    cases h
    rw [List.drop_zero, fstE, decide_eq_false he]
  | x :: r, j + 1, e, h, he => by
    rw [List.drop_succ_cons]
    exact fst_no r j e (by simpa using h) he
theorem fst_yes : ∀ (L : List Int) (j : Nat), L[j]? = some 0 → fstE (L.drop j) = fstE (L.drop (j + 1))
  | [], _, h => nomatch h
  | x :: r, 0, h => by
    cases h
    rw [List.drop_zero, fstE, decide_eq_true rfl]
    rfl
  | x :: r, j + 1, h => by
    rw [List.drop_succ_cons, List.drop_succ_cons]
    exact fst_yes r j (by simpa using h)
def belL (sig : List Dcl) (a b : Int) : List Int := [hasE sig a, hasE sig b, famE sig a, famE sig b]
def belE (sig : List Dcl) (a b : Int) : Int := fstE (belL sig a b)
theorem belE_ok {sig : List Dcl} {a b : Int} (h : belE sig a b = 0) : hasE sig a = 0 ∧ hasE sig b = 0 ∧ famE sig a = 0 ∧ famE sig b = 0 := by
  unfold belE belL at h
  have : ∀ (e : Int) (r : List Int), fstE (e :: r) = 0 → e = 0 ∧ fstE r = 0 := fun e r h => by
    rw [fstE] at h
    by_cases he : e = 0
    · rw [decide_eq_true he] at h
      exact ⟨he, h⟩
    · rw [decide_eq_false he] at h
      exact absurd h he
  obtain ⟨h1, h⟩ := this _ _ h
  obtain ⟨h2, h⟩ := this _ _ h
  obtain ⟨h3, h⟩ := this _ _ h
  obtain ⟨h4, h⟩ := this _ _ h
  exact ⟨h1, h2, h3, h4⟩
theorem bel1 (sig : List Dcl) (a b : Int) {j : Nat} {x : Int} (h : [a, b][j]? = some x) : (belL sig a b)[j]? = some (hasE sig x) := by
  match j, h with
  | 0, h => cases h; rfl
  | 1, h => cases h; rfl
theorem bel2 (sig : List Dcl) (a b : Int) {j : Nat} {x : Int} (h : [a, b][j]? = some x) : (belL sig a b)[2 + j]? = some (famE sig x) := by
  match j, h with
  | 0, h => cases h; rfl
  | 1, h => cases h; rfl
theorem cBelowD (sig : List Dcl) (a b : Int) : CallSt Try.prog 8 [.c (.sl 6 72 (dcs sig)), .c (.int .i64 (a)), .c (.int .i64 (b))] [] (fun r H' => r = .tup [.c (.bool (decide (belE sig a b = 0) && belM sig a.toNat b.toNat)), .c (.int .i64 (belE sig a b))] ∧ H' = []) := by
  have hh := cDHas sig
  have hf := cDFam sig
  have hb1 := fun j x h => @bel1 sig a b j x h
  have hb2 := fun j x h => @bel2 sig a b j x h
  have hok := @belE_ok sig a b
  have hB : belE sig a b = fstE ((belL sig a b).drop 0) := rfl
  have hbl : (belL sig a b).length = 4 := rfl
  have hM := cBelowM sig
  have hhc := hasE_cases sig
  generalize belE sig a b = BE at *
  generalize belL sig a b = L at *
  generalize belM sig = fm at *
  refine call_pure (E := envB 0) (fn := Try.f8) (c := bodyOf Try.f8) (envB_ok 0) mixed (by kernel_rfl) (by kernel_rfl) (by kernel_rfl) (by kernel_rfl) (by kernel_rfl) (by kernel_rfl) rfl ?_
  conv => whnf
  repeat ((first | refine aI rfl ?_ | refine aI (by decide) ?_ | refine dI (by kernel_rfl) ?_ | refine aI ⟨by omega, by omega⟩ ?_ | refine aI (by omega) ?_ | refine aI (fun _ => ⟨by omega, by omega⟩) ?_ | refine aI (of_decide_eq_true rfl) ?_ | (refine yI ?_ ?_; focus (first | decide | (simp; done) | (simp [tcs]; done))) | (refine nI ?_ ?_; focus (first | decide | (simp; done) | (simp [tcs]; done))) | intro _); conv => whnf)
  refine loop_intro (fun m tm H => ∃ j : Nat, 2 = m + j ∧ BE = fstE (L.drop j) ∧
    tm = [(18, .c (.int .i64 (j))), (17, .c (.int .i64 (2))), (16, .own 0), (0, .c (.sl 6 72 (dcs sig))), (1, .c (.int .i64 (a))), (2, .c (.int .i64 (b)))] ∧ H = [.row 3 1 8 (rowI [a, b])])
    2 _ _ ⟨0, by omega, hB, rfl, rfl⟩ (Wk.sl [0] rfl ⟨rfl, trivial⟩ ⟨rfl, rfl, rfl, rfl, rfl, rfl, trivial⟩ rfl) ?_
  rintro m tm H ⟨j, hj, hBj, rfl, rfl⟩
  conv => whnf
  refine ⟨fun hlt => ?_, fun hlt => ?_⟩
  · replace hlt : (j : Int) < 2 := of_decide_eq_true hlt
    obtain ⟨x, hx⟩ : ∃ x, [a, b][j]? = some x := ⟨[a, b][j]'(show j < 2 by omega), List.getElem?_eq_getElem (show j < 2 by omega)⟩
    have hxr := rowI_at hx
    have hhx := hh x
    have hbx := hb1 j x hx
    generalize hasE sig x = e at *
    have hrl : (rowI [a, b]).length = 2 := rfl
    have hxq : (rowI [a, b])[(j : Int).toNat]? = some [.int .i64 x] := rowI_at hx
    conv => whnf
    repeat ((first | refine aI rfl ?_ | refine aI (by decide) ?_ | refine dI (by kernel_rfl) ?_ | refine aI ⟨by omega, by omega⟩ ?_ | refine aI (by omega) ?_ | refine aI (fun _ => ⟨by omega, by omega⟩) ?_ | refine aI (of_decide_eq_true rfl) ?_ | (refine yI ?_ ?_; focus (first | decide | (simp; done) | (simp [tcs]; done))) | (refine nI ?_ ?_; focus (first | decide | (simp; done) | (simp [tcs]; done))) | intro _); conv => whnf)
    refine ⟨_, hxq, Nat.le_refl 1, ?_⟩
    conv => whnf
    repeat ((first | refine aI rfl ?_ | refine aI (by decide) ?_ | refine dI (by kernel_rfl) ?_ | refine aI ⟨by omega, by omega⟩ ?_ | refine aI (by omega) ?_ | refine aI (fun _ => ⟨by omega, by omega⟩) ?_ | refine aI (of_decide_eq_true rfl) ?_ | (refine yI ?_ ?_; focus (first | decide | (simp; done) | (simp [tcs]; done))) | (refine nI ?_ ?_; focus (first | decide | (simp; done) | (simp [tcs]; done))) | intro _); conv => whnf)
    try (refine dI (by kernel_rfl) ?_; conv => whnf)
    first | refine CallSt.use hhx [] trivial (by decide) rfl ?_ | refine CallPt.useS hhx [] trivial (by decide) rfl ?_
    rintro _ _ ⟨rfl, rfl⟩ _
    conv => whnf
    repeat ((first | refine aI rfl ?_ | refine aI (by decide) ?_ | refine dI (by kernel_rfl) ?_ | refine aI ⟨by omega, by omega⟩ ?_ | refine aI (by omega) ?_ | refine aI (fun _ => ⟨by omega, by omega⟩) ?_ | refine aI (of_decide_eq_true rfl) ?_ | (refine yI ?_ ?_; focus (first | decide | (simp; done) | (simp [tcs]; done))) | (refine nI ?_ ?_; focus (first | decide | (simp; done) | (simp [tcs]; done))) | intro _); conv => whnf)
    refine ⟨fun he => ?_, fun he => ?_⟩
    · replace he : ¬ e = 0 := by simpa using he
      rw [fst_no L j e hbx he] at hBj
      subst hBj
      rw [decide_eq_false he]
      conv => whnf
      repeat ((first | refine aI rfl ?_ | refine aI (by decide) ?_ | refine dI (by kernel_rfl) ?_ | refine aI ⟨by omega, by omega⟩ ?_ | refine aI (by omega) ?_ | refine aI (fun _ => ⟨by omega, by omega⟩) ?_ | refine aI (of_decide_eq_true rfl) ?_ | (refine yI ?_ ?_; focus (first | decide | (simp; done) | (simp [tcs]; done))) | (refine nI ?_ ?_; focus (first | decide | (simp; done) | (simp [tcs]; done))) | intro _); conv => whnf)
      all_goals (first | rfl | exact ⟨rfl, rfl⟩ | exact ⟨rfl, rfl, rfl⟩)
    · replace he : e = 0 := by simpa using he
      subst he
      rw [fst_yes L j hbx] at hBj
      conv => whnf
      repeat ((first | refine aI rfl ?_ | refine aI (by decide) ?_ | refine dI (by kernel_rfl) ?_ | refine aI ⟨by omega, by omega⟩ ?_ | refine aI (by omega) ?_ | refine aI (fun _ => ⟨by omega, by omega⟩) ?_ | refine aI (of_decide_eq_true rfl) ?_ | (refine yI ?_ ?_; focus (first | decide | (simp; done) | (simp [tcs]; done))) | (refine nI ?_ ?_; focus (first | decide | (simp; done) | (simp [tcs]; done))) | intro _); conv => whnf)
      exact ⟨m - 1, _, _, by omega, ⟨j + 1, by omega, hBj, rfl, rfl⟩, Wk.sl [0] rfl ⟨rfl, trivial⟩ ⟨rfl, rfl, rfl, rfl, rfl, rfl, trivial⟩ rfl⟩
  · replace hlt : ¬ (j : Int) < 2 := of_decide_eq_false hlt
    obtain rfl : j = 2 := by omega
    conv => whnf
    repeat ((first | refine aI rfl ?_ | refine aI (by decide) ?_ | refine dI (by kernel_rfl) ?_ | refine aI ⟨by omega, by omega⟩ ?_ | refine aI (by omega) ?_ | refine aI (fun _ => ⟨by omega, by omega⟩) ?_ | refine aI (of_decide_eq_true rfl) ?_ | (refine yI ?_ ?_; focus (first | decide | (simp; done) | (simp [tcs]; done))) | (refine nI ?_ ?_; focus (first | decide | (simp; done) | (simp [tcs]; done))) | intro _); conv => whnf)
    refine loop_intro (fun m tm H => ∃ j : Nat, 2 = m + j ∧ BE = fstE (L.drop (2 + j)) ∧
      tm = [(33, .c (.int .i64 (j))), (32, .c (.int .i64 (2))), (31, .own 0), (0, .c (.sl 6 72 (dcs sig))), (1, .c (.int .i64 (a))), (2, .c (.int .i64 (b)))] ∧ H = [.row 3 1 8 (rowI [a, b])])
      2 _ _ ⟨0, by omega, hBj, rfl, rfl⟩ (Wk.sl [1] rfl ⟨rfl, trivial⟩ ⟨rfl, rfl, rfl, rfl, rfl, rfl, trivial⟩ rfl) ?_
    clear hBj hj
    rintro m tm H ⟨j, hj, hBj, rfl, rfl⟩
    conv => whnf
    refine ⟨fun hlt => ?_, fun hlt => ?_⟩
    · replace hlt : (j : Int) < 2 := of_decide_eq_true hlt
      obtain ⟨x, hx⟩ : ∃ x, [a, b][j]? = some x := ⟨[a, b][j]'(show j < 2 by omega), List.getElem?_eq_getElem (show j < 2 by omega)⟩
      have hfx := hf x
      have hbx := hb2 j x hx
      generalize famE sig x = e at *
      have hrl : (rowI [a, b]).length = 2 := rfl
      have hxq : (rowI [a, b])[(j : Int).toNat]? = some [.int .i64 x] := rowI_at hx
      conv => whnf
      repeat ((first | refine aI rfl ?_ | refine aI (by decide) ?_ | refine dI (by kernel_rfl) ?_ | refine aI ⟨by omega, by omega⟩ ?_ | refine aI (by omega) ?_ | refine aI (fun _ => ⟨by omega, by omega⟩) ?_ | refine aI (of_decide_eq_true rfl) ?_ | (refine yI ?_ ?_; focus (first | decide | (simp; done) | (simp [tcs]; done))) | (refine nI ?_ ?_; focus (first | decide | (simp; done) | (simp [tcs]; done))) | intro _); conv => whnf)
      refine ⟨_, hxq, Nat.le_refl 1, ?_⟩
      conv => whnf
      repeat ((first | refine aI rfl ?_ | refine aI (by decide) ?_ | refine dI (by kernel_rfl) ?_ | refine aI ⟨by omega, by omega⟩ ?_ | refine aI (by omega) ?_ | refine aI (fun _ => ⟨by omega, by omega⟩) ?_ | refine aI (of_decide_eq_true rfl) ?_ | (refine yI ?_ ?_; focus (first | decide | (simp; done) | (simp [tcs]; done))) | (refine nI ?_ ?_; focus (first | decide | (simp; done) | (simp [tcs]; done))) | intro _); conv => whnf)
      try (refine dI (by kernel_rfl) ?_; conv => whnf)
      first | refine CallSt.use hfx [] trivial (by decide) rfl ?_ | refine CallPt.useS hfx [] trivial (by decide) rfl ?_
      rintro _ _ ⟨rfl, rfl⟩ _
      conv => whnf
      repeat ((first | refine aI rfl ?_ | refine aI (by decide) ?_ | refine dI (by kernel_rfl) ?_ | refine aI ⟨by omega, by omega⟩ ?_ | refine aI (by omega) ?_ | refine aI (fun _ => ⟨by omega, by omega⟩) ?_ | refine aI (of_decide_eq_true rfl) ?_ | (refine yI ?_ ?_; focus (first | decide | (simp; done) | (simp [tcs]; done))) | (refine nI ?_ ?_; focus (first | decide | (simp; done) | (simp [tcs]; done))) | intro _); conv => whnf)
      refine ⟨fun he => ?_, fun he => ?_⟩
      · replace he : ¬ e = 0 := by simpa using he
        rw [fst_no L (2 + j) e hbx he] at hBj
        subst hBj
        rw [decide_eq_false he]
        conv => whnf
        repeat ((first | refine aI rfl ?_ | refine aI (by decide) ?_ | refine dI (by kernel_rfl) ?_ | refine aI ⟨by omega, by omega⟩ ?_ | refine aI (by omega) ?_ | refine aI (fun _ => ⟨by omega, by omega⟩) ?_ | refine aI (of_decide_eq_true rfl) ?_ | (refine yI ?_ ?_; focus (first | decide | (simp; done) | (simp [tcs]; done))) | (refine nI ?_ ?_; focus (first | decide | (simp; done) | (simp [tcs]; done))) | intro _); conv => whnf)
        all_goals (first | rfl | exact ⟨rfl, rfl⟩ | exact ⟨rfl, rfl, rfl⟩)
      · replace he : e = 0 := by simpa using he
        subst he
        rw [fst_yes L (2 + j) hbx] at hBj
        conv => whnf
        repeat ((first | refine aI rfl ?_ | refine aI (by decide) ?_ | refine dI (by kernel_rfl) ?_ | refine aI ⟨by omega, by omega⟩ ?_ | refine aI (by omega) ?_ | refine aI (fun _ => ⟨by omega, by omega⟩) ?_ | refine aI (of_decide_eq_true rfl) ?_ | (refine yI ?_ ?_; focus (first | decide | (simp; done) | (simp [tcs]; done))) | (refine nI ?_ ?_; focus (first | decide | (simp; done) | (simp [tcs]; done))) | intro _); conv => whnf)
        exact ⟨m - 1, _, _, by omega, ⟨j + 1, by omega, hBj, rfl, rfl⟩, Wk.sl [0] rfl ⟨rfl, trivial⟩ ⟨rfl, rfl, rfl, rfl, rfl, rfl, trivial⟩ rfl⟩
    · replace hlt : ¬ (j : Int) < 2 := of_decide_eq_false hlt
      obtain rfl : j = 2 := by omega
      rw [List.drop_of_length_le (by omega)] at hBj
      obtain rfl : BE = 0 := hBj
      obtain ⟨h1, h2, _⟩ := hok rfl
      obtain ⟨hc, ha0, ha1⟩ := hasE_ok h1
      obtain ⟨_, hb0, hb1⟩ := hasE_ok h2
      have hm := hM hc
      have hl := check_len hc
      obtain ⟨p, rfl⟩ : ∃ p : Nat, a = p := ⟨a.toNat, by omega⟩
      obtain ⟨q, rfl⟩ : ∃ q : Nat, b = q := ⟨b.toNat, by omega⟩
      rw [decide_eq_true (show (0 : Int) = 0 from rfl), Bool.true_and, Int.toNat_natCast, Int.toNat_natCast]
      conv => whnf
      repeat ((first | refine aI rfl ?_ | refine aI (by decide) ?_ | refine dI (by kernel_rfl) ?_ | refine aI ⟨by omega, by omega⟩ ?_ | refine aI (by omega) ?_ | refine aI (fun _ => ⟨by omega, by omega⟩) ?_ | refine aI (of_decide_eq_true rfl) ?_ | (refine yI ?_ ?_; focus (first | decide | (simp; done) | (simp [tcs]; done))) | (refine nI ?_ ?_; focus (first | decide | (simp; done) | (simp [tcs]; done))) | intro _); conv => whnf)
      try (refine dI (by kernel_rfl) ?_; conv => whnf)
      first | refine CallSt.use hm [] trivial (by decide) rfl ?_ | refine CallPt.useS hm [] trivial (by decide) rfl ?_
      rintro _ _ ⟨rfl, rfl⟩ _
      conv => whnf
      repeat ((first | refine aI rfl ?_ | refine aI (by decide) ?_ | refine dI (by kernel_rfl) ?_ | refine aI ⟨by omega, by omega⟩ ?_ | refine aI (by omega) ?_ | refine aI (fun _ => ⟨by omega, by omega⟩) ?_ | refine aI (of_decide_eq_true rfl) ?_ | (refine yI ?_ ?_; focus (first | decide | (simp; done) | (simp [tcs]; done))) | (refine nI ?_ ?_; focus (first | decide | (simp; done) | (simp [tcs]; done))) | intro _); conv => whnf)
      refine ⟨fm p q, ⟨_, rfl, mrow_at2 fm (by omega) (by omega)⟩, ?_⟩
      conv => whnf
      repeat ((first | refine aI rfl ?_ | refine aI (by decide) ?_ | refine dI (by kernel_rfl) ?_ | refine aI ⟨by omega, by omega⟩ ?_ | refine aI (by omega) ?_ | refine aI (fun _ => ⟨by omega, by omega⟩) ?_ | refine aI (of_decide_eq_true rfl) ?_ | (refine yI ?_ ?_; focus (first | decide | (simp; done) | (simp [tcs]; done))) | (refine nI ?_ ?_; focus (first | decide | (simp; done) | (simp [tcs]; done))) | intro _); conv => whnf)
      all_goals (first | rfl | exact ⟨rfl, rfl⟩ | exact ⟨rfl, rfl, rfl⟩)
end Go.Tr
/- depend.Table. -/
namespace Go.Tr
open Go.Proofs
def rowL (L : List (List Int)) : List (List CV) := L.map fun l => [.sl 1 8 (rowI l)]
theorem len_rowL (L : List (List Int)) : (rowL L).length = L.length := by simp [rowL]
theorem rowL_snoc (L : List (List Int)) (l : List Int) : rowL L ++ [[.sl 1 8 (rowI l)]] = rowL (L ++ [l]) := by simp [rowL]
end Go.Tr
/- depend.Groups: the next group. -/
namespace Go.Tr
open Go.Proofs
def drow (d : Nat → Bool) : List CV := (List.range 100).map fun k => .bool (d k)
theorem drow_len (d : Nat → Bool) : (drow d).length = 100 := by simp [drow]
theorem drow_at (d : Nat → Bool) {a : Nat} (ha : a < 100) : (drow d)[0 + (a : Int).toNat * 1]? = some (.bool (d a)) := by
  rw [Int.toNat_natCast, Nat.zero_add, Nat.mul_one]
  unfold drow
  rw [List.getElem?_map, List.getElem?_range ha]
  rfl
def updD (d : Nat → Bool) (a : Nat) : Nat → Bool := fun x => d x || decide (x = a)
theorem drow_set (d : Nat → Bool) {a : Nat} (ha : a < 100) : 0 + (a : Int).toNat * 1 + 1 ≤ (drow d).length ∧ (drow d).set (0 + (a : Int).toNat * 1) (.bool true) = drow (updD d a) := by
  rw [Int.toNat_natCast, Nat.zero_add, Nat.mul_one, drow_len]
  refine ⟨by omega, List.ext_getElem? fun k => ?_⟩
  rw [List.getElem?_set]
  unfold drow
  by_cases hk : a = k
  · subst hk
    rw [if_pos rfl, if_pos (by simp; omega), List.getElem?_map, List.getElem?_range (by omega)]
    simp [updD]
  · rw [if_neg hk, List.getElem?_map, List.getElem?_map]
    by_cases hl : k < 100
    · rw [List.getElem?_range hl]
      have : ¬ k = a := fun e => hk e.symm
      simp [updD, this]
    · rw [List.getElem?_eq_none (by simp; omega)]
      rfl
theorem drow_zero : (List.replicate 100 (CV.bool false)) = drow (fun _ => false) := by
  unfold drow
  rw [List.map_const', List.length_range]
attribute [irreducible] drow
def okB (f : Nat → Nat → Bool) (d : Nat → Bool) (a b : Nat) : Bool := (f b a && f a b) || !(f b a && !d b)
def okG (f : Nat → Nat → Bool) (kd d : Nat → Bool) (n a : Nat) : Bool := !d a && kd a && (List.range n).all fun b => okB f d a b
def grp (f : Nat → Nat → Bool) (n a : Nat) : List Int := upTo (fun b => f b a && f a b) n
def nxG (ok : Nat → Bool) (n : Nat) : Option Nat := (List.range n).find? ok
theorem nxG_some {ok : Nat → Bool} {n a : Nat} (ha : a < n) (h : ok a = true) (hn : ∀ i, i < a → ok i = false) : nxG ok n = some a := by
  unfold nxG
  rw [List.find?_range_eq_some]
  exact ⟨h, by simpa using ha, fun j hj => by simp [hn j hj]⟩
theorem nxG_none {ok : Nat → Bool} {n : Nat} (hn : ∀ i, i < n → ok i = false) : nxG ok n = none := by
  unfold nxG
  rw [List.find?_eq_none]
  intro x hx
  rw [hn x (by simpa using hx)]
  simp
theorem nxG_of {ok : Nat → Bool} {n a : Nat} (h : nxG ok n = some a) : a < n ∧ ok a = true := by
  unfold nxG at h
  rw [List.find?_range_eq_some] at h
  exact ⟨by simpa using h.2.1, h.1⟩
def nxW (f : Nat → Nat → Bool) (n : Nat) : Option Nat → AV
  | some a => .c (.sl 1 8 (rowI (grp f n a)))
  | none => .nil
abbrev gpH (sig : List Dcl) (d : Nat → Bool) (f : Nat → Nat → Bool) : HP := [.box [.c (.sl 6 72 (dcs sig))], .row 59 100 1 [drow d], .box [.elt 3 10000 0 0], .row 80 10000 1 [mrow f]]
theorem cGrpS (sig : List Dcl) (hp : ∀ e ∈ sig, prop e.c = true) (hl : sig.length ≤ 100) (d : Nat → Bool) (f : Nat → Nat → Bool) {g : Nat} (ho : nxG (okG f (fun n => kindAt sig n) d sig.length) sig.length = some g) :
    CallSt Try.prog 35 [.ptr 0 0, .elt 1 100 0 0, .ptr 2 0] (gpH sig d f) (fun r H' => r = .c (.sl 1 8 (rowI (grp f sig.length g))) ∧ H' = gpH sig d f) := by
  have hbl := len_dcs sig
  have hfm := fun (n : Int) h0 h1 => cFam2 hp (n := n) h0 h1
  have hnone := fun h => @nxG_none (okG f (fun n => kindAt sig n) d sig.length) sig.length h
  have hsome := fun a h1 h2 h3 => @nxG_some (okG f (fun n => kindAt sig n) d sig.length) sig.length a h1 h2 h3
  have hok : ∀ a, okG f (fun n => kindAt sig n) d sig.length a = (!d a && kindAt sig a && (List.range sig.length).all fun b => okB f d a b) := fun a => rfl
  generalize okG f (fun n => kindAt sig n) d sig.length = ok at *
  refine call_pure (E := envB 4) (fn := Try.f35) (c := bodyOf Try.f35) (envB_ok 4) mixed (by kernel_rfl) (by kernel_rfl) (by kernel_rfl) (by kernel_rfl) (by kernel_rfl) (by kernel_rfl) rfl ?_
  conv => whnf
  repeat ((first | refine aI rfl ?_ | refine aI (by decide) ?_ | refine dI (by kernel_rfl) ?_ | refine aI ⟨by omega, by omega⟩ ?_ | refine aI (by omega) ?_ | refine aI (fun _ => ⟨by omega, by omega⟩) ?_ | refine aI (of_decide_eq_true rfl) ?_ | (refine yI ?_ ?_; focus (first | decide | (simp; done) | (simp [tcs]; done))) | (refine nI ?_ ?_; focus (first | decide | (simp; done) | (simp [tcs]; done))) | intro _); conv => whnf)
  refine loop_intro (fun m tm H => ∃ j : Nat, sig.length = m + j ∧ (∀ i, i < j → ok i = false) ∧
    tm = [(9, .c (.int .i64 (j))), (8, .c (.int .i64 ((dcs sig).length))), (0, .ptr 0 0), (1, .elt 1 100 0 0), (2, .ptr 2 0)] ∧ H = gpH sig d f)
    sig.length _ _ ⟨0, by omega, fun i hi => absurd hi (by omega), rfl, rfl⟩ ?_ ?_
  · exact Wk.sl [0, 1, 2, 3] rfl ⟨rfl, rfl, rfl, rfl, trivial⟩ ⟨rfl, rfl, rfl, rfl, rfl, trivial⟩ rfl
  rintro m tm H ⟨j, hj, hlow, rfl, rfl⟩
  conv => whnf
  refine ⟨fun hlt => ?_, fun hlt => ?_⟩
  · replace hlt : (j : Int) < (dcs sig).length := of_decide_eq_true hlt
    have hfj := hfm j (by omega) (by omega)
    have hoj := hok j
    generalize kindAt sig j = kj at *
    have hda : (drow d)[0 + (j : Int).toNat * 1]? = some (.bool (d j)) := drow_at d (by omega)
    have hskip : ok j = false → ∀ i, i < j + 1 → ok i = false := fun h i hi => (by
      by_cases e : i = j
      · rw [e]; exact h
      · exact hlow i (by omega))
    cases hdj : d j with
    | true =>
      rw [hdj] at hda hoj
      have hoF := hskip hoj
      conv => whnf
      repeat ((first | refine aI rfl ?_ | refine aI (by decide) ?_ | refine dI (by kernel_rfl) ?_ | refine aI ⟨by omega, by omega⟩ ?_ | refine aI (by omega) ?_ | refine aI (fun _ => ⟨by omega, by omega⟩) ?_ | refine aI (of_decide_eq_true rfl) ?_ | (refine yI ?_ ?_; focus (first | decide | (simp; done) | (simp [tcs]; done))) | (refine nI ?_ ?_; focus (first | decide | (simp; done) | (simp [tcs]; done))) | intro _); conv => whnf)
      refine ⟨true, ⟨_, rfl, hda⟩, ?_⟩
      conv => whnf
      repeat ((first | refine aI rfl ?_ | refine aI (by decide) ?_ | refine dI (by kernel_rfl) ?_ | refine aI ⟨by omega, by omega⟩ ?_ | refine aI (by omega) ?_ | refine aI (fun _ => ⟨by omega, by omega⟩) ?_ | refine aI (of_decide_eq_true rfl) ?_ | (refine yI ?_ ?_; focus (first | decide | (simp; done) | (simp [tcs]; done))) | (refine nI ?_ ?_; focus (first | decide | (simp; done) | (simp [tcs]; done))) | intro _); conv => whnf)
      exact ⟨m - 1, _, _, by omega, ⟨j + 1, by omega, hoF, rfl, rfl⟩, Wk.sl [0, 1, 2, 3] rfl ⟨rfl, rfl, rfl, rfl, trivial⟩ ⟨rfl, rfl, rfl, rfl, rfl, trivial⟩ rfl⟩
    | false =>
      rw [hdj] at hda hoj
      cases kj with
      | false =>
        have hoF := hskip hoj
        conv => whnf
        repeat ((first | refine aI rfl ?_ | refine aI (by decide) ?_ | refine dI (by kernel_rfl) ?_ | refine aI ⟨by omega, by omega⟩ ?_ | refine aI (by omega) ?_ | refine aI (fun _ => ⟨by omega, by omega⟩) ?_ | refine aI (of_decide_eq_true rfl) ?_ | (refine yI ?_ ?_; focus (first | decide | (simp; done) | (simp [tcs]; done))) | (refine nI ?_ ?_; focus (first | decide | (simp; done) | (simp [tcs]; done))) | intro _); conv => whnf)
        refine ⟨false, ⟨_, rfl, hda⟩, ?_⟩
        conv => whnf
        repeat ((first | refine aI rfl ?_ | refine aI (by decide) ?_ | refine dI (by kernel_rfl) ?_ | refine aI ⟨by omega, by omega⟩ ?_ | refine aI (by omega) ?_ | refine aI (fun _ => ⟨by omega, by omega⟩) ?_ | refine aI (of_decide_eq_true rfl) ?_ | (refine yI ?_ ?_; focus (first | decide | (simp; done) | (simp [tcs]; done))) | (refine nI ?_ ?_; focus (first | decide | (simp; done) | (simp [tcs]; done))) | intro _); conv => whnf)
        try (refine dI (by kernel_rfl) ?_; conv => whnf)
        first | refine CallSt.use hfj [] trivial (by decide) rfl ?_ | refine CallPt.useS hfj [] trivial (by decide) rfl ?_
        rintro _ _ ⟨rfl, rfl⟩ _
        conv => whnf
        repeat ((first | refine aI rfl ?_ | refine aI (by decide) ?_ | refine dI (by kernel_rfl) ?_ | refine aI ⟨by omega, by omega⟩ ?_ | refine aI (by omega) ?_ | refine aI (fun _ => ⟨by omega, by omega⟩) ?_ | refine aI (of_decide_eq_true rfl) ?_ | (refine yI ?_ ?_; focus (first | decide | (simp; done) | (simp [tcs]; done))) | (refine nI ?_ ?_; focus (first | decide | (simp; done) | (simp [tcs]; done))) | intro _); conv => whnf)
        exact ⟨m - 1, _, _, by omega, ⟨j + 1, by omega, hoF, rfl, rfl⟩, Wk.sl [0, 1, 2, 3] rfl ⟨rfl, rfl, rfl, rfl, trivial⟩ ⟨rfl, rfl, rfl, rfl, rfl, trivial⟩ rfl⟩
      | true =>
        rw [Bool.not_false, Bool.true_and, Bool.true_and] at hoj
        conv => whnf
        repeat ((first | refine aI rfl ?_ | refine aI (by decide) ?_ | refine dI (by kernel_rfl) ?_ | refine aI ⟨by omega, by omega⟩ ?_ | refine aI (by omega) ?_ | refine aI (fun _ => ⟨by omega, by omega⟩) ?_ | refine aI (of_decide_eq_true rfl) ?_ | (refine yI ?_ ?_; focus (first | decide | (simp; done) | (simp [tcs]; done))) | (refine nI ?_ ?_; focus (first | decide | (simp; done) | (simp [tcs]; done))) | intro _); conv => whnf)
        refine ⟨false, ⟨_, rfl, hda⟩, ?_⟩
        conv => whnf
        repeat ((first | refine aI rfl ?_ | refine aI (by decide) ?_ | refine dI (by kernel_rfl) ?_ | refine aI ⟨by omega, by omega⟩ ?_ | refine aI (by omega) ?_ | refine aI (fun _ => ⟨by omega, by omega⟩) ?_ | refine aI (of_decide_eq_true rfl) ?_ | (refine yI ?_ ?_; focus (first | decide | (simp; done) | (simp [tcs]; done))) | (refine nI ?_ ?_; focus (first | decide | (simp; done) | (simp [tcs]; done))) | intro _); conv => whnf)
        try (refine dI (by kernel_rfl) ?_; conv => whnf)
        first | refine CallSt.use hfj [] trivial (by decide) rfl ?_ | refine CallPt.useS hfj [] trivial (by decide) rfl ?_
        rintro _ _ ⟨rfl, rfl⟩ _
        conv => whnf
        repeat ((first | refine aI rfl ?_ | refine aI (by decide) ?_ | refine dI (by kernel_rfl) ?_ | refine aI ⟨by omega, by omega⟩ ?_ | refine aI (by omega) ?_ | refine aI (fun _ => ⟨by omega, by omega⟩) ?_ | refine aI (of_decide_eq_true rfl) ?_ | (refine yI ?_ ?_; focus (first | decide | (simp; done) | (simp [tcs]; done))) | (refine nI ?_ ?_; focus (first | decide | (simp; done) | (simp [tcs]; done))) | intro _); conv => whnf)
        refine loop_intro (fun m tm H => ∃ i : Nat, sig.length = m + i ∧ (∀ b, b < i → okB f d j b = true) ∧
          tm = [(23, .c (.int .i64 (i))), (22, .c (.int .i64 ((dcs sig).length))), (5, .own 4), (4, .c (.int .i64 (j))), (9, .c (.int .i64 (j))), (8, .c (.int .i64 ((dcs sig).length))), (0, .ptr 0 0), (1, .elt 1 100 0 0), (2, .ptr 2 0)] ∧ H = gpH sig d f ++ [.row 3 1 8 (rowI (upTo (fun b => f b j && f j b) i))])
          sig.length _ _ ⟨0, by omega, fun i hi => absurd hi (by omega), rfl, rfl⟩ ?_ ?_
        · refine Wk.trans (tm1 := [(23, .c (.int .i64 (0))), (22, .c (.int .i64 ((dcs sig).length))), (5, .nil), (4, .c (.int .i64 (j))), (9, .c (.int .i64 (j))), (8, .c (.int .i64 ((dcs sig).length))), (0, .ptr 0 0), (1, .elt 1 100 0 0), (2, .ptr 2 0)]) (H1 := gpH sig d f) ?_ (Wk.trans (Wk.niltmp 5 3 1 8 rfl rfl) ?_)
          · exact Wk.sl [0, 1, 2, 3] rfl ⟨rfl, rfl, rfl, rfl, trivial⟩ ⟨rfl, rfl, rfl, rfl, rfl, rfl, rfl, rfl, rfl, trivial⟩ rfl
          · exact Wk.sl [0, 1, 2, 3, 4] rfl ⟨rfl, rfl, rfl, rfl, rfl, trivial⟩ ⟨rfl, rfl, rfl, rfl, rfl, rfl, rfl, rfl, rfl, trivial⟩ rfl
        rintro m2 tm H ⟨i, hi, hall, rfl, rfl⟩
        conv => whnf
        refine ⟨fun hlt2 => ?_, fun hlt2 => ?_⟩
        · replace hlt2 : (i : Int) < (dcs sig).length := of_decide_eq_true hlt2
          have hrl := len_rowI (upTo (fun b => f b j && f j b) i)
          have hul := upTo_len (fun b => f b j && f j b) i
          have hl2 : ((rowI (upTo (fun b => f b j && f j b) i)).length + 1) * 8 ≤ 140737488355328 := by omega
          have hl3 : (rowI (upTo (fun b => f b j && f j b) i)).length + 1 ≤ 9223372036854775807 := by omega
          have hm1 : (mrow f)[0 + (i : Int).toNat * 100 + (j : Int).toNat * 1]? = some (.bool (f i j)) := mrow_at2 f (by omega) (by omega)
          have hm2 : (mrow f)[0 + (j : Int).toNat * 100 + (i : Int).toNat * 1]? = some (.bool (f j i)) := mrow_at2 f (by omega) (by omega)
          have hd2 : (drow d)[0 + (i : Int).toNat * 1]? = some (.bool (d i)) := drow_at d (by omega)
          have hob : okB f d j i = ((f i j && f j i) || !(f i j && !d i)) := rfl
          have hpp : ∀ x : Bool, x = (f i j && f j i) → (fun b => f b j && f j b) i = x := fun x h => h.symm
          have hnext : okB f d j i = true → ∀ b, b < i + 1 → okB f d j b = true := fun h b hb => (by
            by_cases e : b = i
            · rw [e]; exact h
            · exact hall b (by omega))
          have hstop : okB f d j i = false → ok j = false := fun h => (by
            rw [hoj, List.all_eq_false]
            exact ⟨i, by simp; omega, by rw [h]; simp⟩)
          cases h1 : f i j with
          | false =>
            rw [h1] at hm1 hob hpp
            have hnx := hnext hob
            conv => whnf
            repeat ((first | refine aI rfl ?_ | refine aI (by decide) ?_ | refine dI (by kernel_rfl) ?_ | refine aI ⟨by omega, by omega⟩ ?_ | refine aI (by omega) ?_ | refine aI (fun _ => ⟨by omega, by omega⟩) ?_ | refine aI (of_decide_eq_true rfl) ?_ | (refine yI ?_ ?_; focus (first | decide | (simp; done) | (simp [tcs]; done))) | (refine nI ?_ ?_; focus (first | decide | (simp; done) | (simp [tcs]; done))) | intro _); conv => whnf)
            refine ⟨false, ⟨_, rfl, hm1⟩, ?_⟩
            conv => whnf
            repeat ((first | refine aI rfl ?_ | refine aI (by decide) ?_ | refine dI (by kernel_rfl) ?_ | refine aI ⟨by omega, by omega⟩ ?_ | refine aI (by omega) ?_ | refine aI (fun _ => ⟨by omega, by omega⟩) ?_ | refine aI (of_decide_eq_true rfl) ?_ | (refine yI ?_ ?_; focus (first | decide | (simp; done) | (simp [tcs]; done))) | (refine nI ?_ ?_; focus (first | decide | (simp; done) | (simp [tcs]; done))) | intro _); conv => whnf)
            refine ⟨f j i, ⟨_, rfl, hm2⟩, ?_⟩
            conv => whnf
            repeat ((first | refine aI rfl ?_ | refine aI (by decide) ?_ | refine dI (by kernel_rfl) ?_ | refine aI ⟨by omega, by omega⟩ ?_ | refine aI (by omega) ?_ | refine aI (fun _ => ⟨by omega, by omega⟩) ?_ | refine aI (of_decide_eq_true rfl) ?_ | (refine yI ?_ ?_; focus (first | decide | (simp; done) | (simp [tcs]; done))) | (refine nI ?_ ?_; focus (first | decide | (simp; done) | (simp [tcs]; done))) | intro _); conv => whnf)
            refine ⟨false, ⟨_, rfl, hm1⟩, ?_⟩
            conv => whnf
            repeat ((first | refine aI rfl ?_ | refine aI (by decide) ?_ | refine dI (by kernel_rfl) ?_ | refine aI ⟨by omega, by omega⟩ ?_ | refine aI (by omega) ?_ | refine aI (fun _ => ⟨by omega, by omega⟩) ?_ | refine aI (of_decide_eq_true rfl) ?_ | (refine yI ?_ ?_; focus (first | decide | (simp; done) | (simp [tcs]; done))) | (refine nI ?_ ?_; focus (first | decide | (simp; done) | (simp [tcs]; done))) | intro _); conv => whnf)
            refine ⟨d i, ⟨_, rfl, hd2⟩, ?_⟩
            conv => whnf
            repeat ((first | refine aI rfl ?_ | refine aI (by decide) ?_ | refine dI (by kernel_rfl) ?_ | refine aI ⟨by omega, by omega⟩ ?_ | refine aI (by omega) ?_ | refine aI (fun _ => ⟨by omega, by omega⟩) ?_ | refine aI (of_decide_eq_true rfl) ?_ | (refine yI ?_ ?_; focus (first | decide | (simp; done) | (simp [tcs]; done))) | (refine nI ?_ ?_; focus (first | decide | (simp; done) | (simp [tcs]; done))) | intro _); conv => whnf)
            refine ⟨m2 - 1, _, _, by omega, ⟨i + 1, by omega, hnx, rfl, rfl⟩, Wk.sl [0, 1, 2, 3, 4] rfl ⟨rfl, rfl, rfl, rfl, ?_, trivial⟩ ⟨rfl, rfl, rfl, rfl, rfl, rfl, rfl, rfl, rfl, trivial⟩ rfl⟩
            rw [upTo_no (hpp false rfl)]
            rfl
          | true =>
            rw [h1] at hm1 hob hpp
            cases h2 : f j i with
            | true =>
              rw [h2] at hm2 hob hpp
              have hnx := hnext hob
              conv => whnf
              repeat ((first | refine aI rfl ?_ | refine aI (by decide) ?_ | refine dI (by kernel_rfl) ?_ | refine aI ⟨by omega, by omega⟩ ?_ | refine aI (by omega) ?_ | refine aI (fun _ => ⟨by omega, by omega⟩) ?_ | refine aI (of_decide_eq_true rfl) ?_ | (refine yI ?_ ?_; focus (first | decide | (simp; done) | (simp [tcs]; done))) | (refine nI ?_ ?_; focus (first | decide | (simp; done) | (simp [tcs]; done))) | intro _); conv => whnf)
              refine ⟨true, ⟨_, rfl, hm1⟩, ?_⟩
              conv => whnf
              repeat ((first | refine aI rfl ?_ | refine aI (by decide) ?_ | refine dI (by kernel_rfl) ?_ | refine aI ⟨by omega, by omega⟩ ?_ | refine aI (by omega) ?_ | refine aI (fun _ => ⟨by omega, by omega⟩) ?_ | refine aI (of_decide_eq_true rfl) ?_ | (refine yI ?_ ?_; focus (first | decide | (simp; done) | (simp [tcs]; done))) | (refine nI ?_ ?_; focus (first | decide | (simp; done) | (simp [tcs]; done))) | intro _); conv => whnf)
              refine ⟨true, ⟨_, rfl, hm2⟩, ?_⟩
              conv => whnf
              repeat ((first | refine aI rfl ?_ | refine aI (by decide) ?_ | refine dI (by kernel_rfl) ?_ | refine aI ⟨by omega, by omega⟩ ?_ | refine aI (by omega) ?_ | refine aI (fun _ => ⟨by omega, by omega⟩) ?_ | refine aI (of_decide_eq_true rfl) ?_ | (refine yI ?_ ?_; focus (first | decide | (simp; done) | (simp [tcs]; done))) | (refine nI ?_ ?_; focus (first | decide | (simp; done) | (simp [tcs]; done))) | intro _); conv => whnf)
              refine ⟨m2 - 1, _, _, by omega, ⟨i + 1, by omega, hnx, rfl, rfl⟩, Wk.sl [0, 1, 2, 3, 6] rfl ⟨rfl, rfl, rfl, rfl, ?_, trivial⟩ ⟨rfl, rfl, rfl, rfl, rfl, rfl, rfl, rfl, rfl, trivial⟩ rfl⟩
              rw [upTo_yes (hpp true rfl), ← rowI_snoc]
              rfl
            | false =>
              rw [h2] at hm2 hob hpp
              cases h3 : d i with
              | true =>
                rw [h3] at hd2 hob
                have hnx := hnext hob
                conv => whnf
                repeat ((first | refine aI rfl ?_ | refine aI (by decide) ?_ | refine dI (by kernel_rfl) ?_ | refine aI ⟨by omega, by omega⟩ ?_ | refine aI (by omega) ?_ | refine aI (fun _ => ⟨by omega, by omega⟩) ?_ | refine aI (of_decide_eq_true rfl) ?_ | (refine yI ?_ ?_; focus (first | decide | (simp; done) | (simp [tcs]; done))) | (refine nI ?_ ?_; focus (first | decide | (simp; done) | (simp [tcs]; done))) | intro _); conv => whnf)
                refine ⟨true, ⟨_, rfl, hm1⟩, ?_⟩
                conv => whnf
                repeat ((first | refine aI rfl ?_ | refine aI (by decide) ?_ | refine dI (by kernel_rfl) ?_ | refine aI ⟨by omega, by omega⟩ ?_ | refine aI (by omega) ?_ | refine aI (fun _ => ⟨by omega, by omega⟩) ?_ | refine aI (of_decide_eq_true rfl) ?_ | (refine yI ?_ ?_; focus (first | decide | (simp; done) | (simp [tcs]; done))) | (refine nI ?_ ?_; focus (first | decide | (simp; done) | (simp [tcs]; done))) | intro _); conv => whnf)
                refine ⟨false, ⟨_, rfl, hm2⟩, ?_⟩
                conv => whnf
                repeat ((first | refine aI rfl ?_ | refine aI (by decide) ?_ | refine dI (by kernel_rfl) ?_ | refine aI ⟨by omega, by omega⟩ ?_ | refine aI (by omega) ?_ | refine aI (fun _ => ⟨by omega, by omega⟩) ?_ | refine aI (of_decide_eq_true rfl) ?_ | (refine yI ?_ ?_; focus (first | decide | (simp; done) | (simp [tcs]; done))) | (refine nI ?_ ?_; focus (first | decide | (simp; done) | (simp [tcs]; done))) | intro _); conv => whnf)
                refine ⟨true, ⟨_, rfl, hm1⟩, ?_⟩
                conv => whnf
                repeat ((first | refine aI rfl ?_ | refine aI (by decide) ?_ | refine dI (by kernel_rfl) ?_ | refine aI ⟨by omega, by omega⟩ ?_ | refine aI (by omega) ?_ | refine aI (fun _ => ⟨by omega, by omega⟩) ?_ | refine aI (of_decide_eq_true rfl) ?_ | (refine yI ?_ ?_; focus (first | decide | (simp; done) | (simp [tcs]; done))) | (refine nI ?_ ?_; focus (first | decide | (simp; done) | (simp [tcs]; done))) | intro _); conv => whnf)
                refine ⟨true, ⟨_, rfl, hd2⟩, ?_⟩
                conv => whnf
                repeat ((first | refine aI rfl ?_ | refine aI (by decide) ?_ | refine dI (by kernel_rfl) ?_ | refine aI ⟨by omega, by omega⟩ ?_ | refine aI (by omega) ?_ | refine aI (fun _ => ⟨by omega, by omega⟩) ?_ | refine aI (of_decide_eq_true rfl) ?_ | (refine yI ?_ ?_; focus (first | decide | (simp; done) | (simp [tcs]; done))) | (refine nI ?_ ?_; focus (first | decide | (simp; done) | (simp [tcs]; done))) | intro _); conv => whnf)
                refine ⟨m2 - 1, _, _, by omega, ⟨i + 1, by omega, hnx, rfl, rfl⟩, Wk.sl [0, 1, 2, 3, 4] rfl ⟨rfl, rfl, rfl, rfl, ?_, trivial⟩ ⟨rfl, rfl, rfl, rfl, rfl, rfl, rfl, rfl, rfl, trivial⟩ rfl⟩
                rw [upTo_no (hpp false rfl)]
                rfl
              | false =>
                rw [h3] at hd2 hob
                have hoF := hskip (hstop hob)
                conv => whnf
                repeat ((first | refine aI rfl ?_ | refine aI (by decide) ?_ | refine dI (by kernel_rfl) ?_ | refine aI ⟨by omega, by omega⟩ ?_ | refine aI (by omega) ?_ | refine aI (fun _ => ⟨by omega, by omega⟩) ?_ | refine aI (of_decide_eq_true rfl) ?_ | (refine yI ?_ ?_; focus (first | decide | (simp; done) | (simp [tcs]; done))) | (refine nI ?_ ?_; focus (first | decide | (simp; done) | (simp [tcs]; done))) | intro _); conv => whnf)
                refine ⟨true, ⟨_, rfl, hm1⟩, ?_⟩
                conv => whnf
                repeat ((first | refine aI rfl ?_ | refine aI (by decide) ?_ | refine dI (by kernel_rfl) ?_ | refine aI ⟨by omega, by omega⟩ ?_ | refine aI (by omega) ?_ | refine aI (fun _ => ⟨by omega, by omega⟩) ?_ | refine aI (of_decide_eq_true rfl) ?_ | (refine yI ?_ ?_; focus (first | decide | (simp; done) | (simp [tcs]; done))) | (refine nI ?_ ?_; focus (first | decide | (simp; done) | (simp [tcs]; done))) | intro _); conv => whnf)
                refine ⟨false, ⟨_, rfl, hm2⟩, ?_⟩
                conv => whnf
                repeat ((first | refine aI rfl ?_ | refine aI (by decide) ?_ | refine dI (by kernel_rfl) ?_ | refine aI ⟨by omega, by omega⟩ ?_ | refine aI (by omega) ?_ | refine aI (fun _ => ⟨by omega, by omega⟩) ?_ | refine aI (of_decide_eq_true rfl) ?_ | (refine yI ?_ ?_; focus (first | decide | (simp; done) | (simp [tcs]; done))) | (refine nI ?_ ?_; focus (first | decide | (simp; done) | (simp [tcs]; done))) | intro _); conv => whnf)
                refine ⟨true, ⟨_, rfl, hm1⟩, ?_⟩
                conv => whnf
                repeat ((first | refine aI rfl ?_ | refine aI (by decide) ?_ | refine dI (by kernel_rfl) ?_ | refine aI ⟨by omega, by omega⟩ ?_ | refine aI (by omega) ?_ | refine aI (fun _ => ⟨by omega, by omega⟩) ?_ | refine aI (of_decide_eq_true rfl) ?_ | (refine yI ?_ ?_; focus (first | decide | (simp; done) | (simp [tcs]; done))) | (refine nI ?_ ?_; focus (first | decide | (simp; done) | (simp [tcs]; done))) | intro _); conv => whnf)
                refine ⟨false, ⟨_, rfl, hd2⟩, ?_⟩
                conv => whnf
                repeat ((first | refine aI rfl ?_ | refine aI (by decide) ?_ | refine dI (by kernel_rfl) ?_ | refine aI ⟨by omega, by omega⟩ ?_ | refine aI (by omega) ?_ | refine aI (fun _ => ⟨by omega, by omega⟩) ?_ | refine aI (of_decide_eq_true rfl) ?_ | (refine yI ?_ ?_; focus (first | decide | (simp; done) | (simp [tcs]; done))) | (refine nI ?_ ?_; focus (first | decide | (simp; done) | (simp [tcs]; done))) | intro _); conv => whnf)
                exact ⟨m - 1, _, _, by omega, ⟨j + 1, by omega, hoF, rfl, rfl⟩, Wk.sl [0, 1, 2, 3] rfl ⟨rfl, rfl, rfl, rfl, trivial⟩ ⟨rfl, rfl, rfl, rfl, rfl, trivial⟩ rfl⟩
        · replace hlt2 : ¬ (i : Int) < (dcs sig).length := of_decide_eq_false hlt2
          obtain rfl : i = sig.length := by omega
          have hoT : ok j = true := by
            rw [hoj, List.all_eq_true]
            intro x hx
            exact hall x (by simpa using hx)
          rw [hsome j (by omega) hoT hlow] at ho
          cases ho
          conv => whnf
          repeat ((first | refine aI rfl ?_ | refine aI (by decide) ?_ | refine dI (by kernel_rfl) ?_ | refine aI ⟨by omega, by omega⟩ ?_ | refine aI (by omega) ?_ | refine aI (fun _ => ⟨by omega, by omega⟩) ?_ | refine aI (of_decide_eq_true rfl) ?_ | (refine yI ?_ ?_; focus (first | decide | (simp; done) | (simp [tcs]; done))) | (refine nI ?_ ?_; focus (first | decide | (simp; done) | (simp [tcs]; done))) | intro _); conv => whnf)
          all_goals (first | rfl | exact ⟨rfl, rfl⟩ | exact ⟨rfl, rfl, rfl⟩)
  · replace hlt : ¬ (j : Int) < (dcs sig).length := of_decide_eq_false hlt
    obtain rfl : j = sig.length := by omega
    rw [hnone hlow] at ho
    cases ho
theorem cGrpN (sig : List Dcl) (hp : ∀ e ∈ sig, prop e.c = true) (hl : sig.length ≤ 100) (d : Nat → Bool) (f : Nat → Nat → Bool) (ho : nxG (okG f (fun n => kindAt sig n) d sig.length) sig.length = none) :
    CallSt Try.prog 35 [.ptr 0 0, .elt 1 100 0 0, .ptr 2 0] (gpH sig d f) (fun r H' => r = .nil ∧ H' = gpH sig d f) := by
  have hbl := len_dcs sig
  have hfm := fun (n : Int) h0 h1 => cFam2 hp (n := n) h0 h1
  have hnone := fun h => @nxG_none (okG f (fun n => kindAt sig n) d sig.length) sig.length h
  have hsome := fun a h1 h2 h3 => @nxG_some (okG f (fun n => kindAt sig n) d sig.length) sig.length a h1 h2 h3
  have hok : ∀ a, okG f (fun n => kindAt sig n) d sig.length a = (!d a && kindAt sig a && (List.range sig.length).all fun b => okB f d a b) := fun a => rfl
  generalize okG f (fun n => kindAt sig n) d sig.length = ok at *
  refine call_intro (E := envB 4) (fn := Try.f35) (c := bodyOf Try.f35) (envB_ok 4) mixed (by kernel_rfl) (by kernel_rfl) (by kernel_rfl) (by kernel_rfl) (by kernel_rfl) (by kernel_rfl) rfl ?_
  conv => whnf
  repeat ((first | refine aI rfl ?_ | refine aI (by decide) ?_ | refine dI (by kernel_rfl) ?_ | refine aI ⟨by omega, by omega⟩ ?_ | refine aI (by omega) ?_ | refine aI (fun _ => ⟨by omega, by omega⟩) ?_ | refine aI (of_decide_eq_true rfl) ?_ | (refine yI ?_ ?_; focus (first | decide | (simp; done) | (simp [tcs]; done))) | (refine nI ?_ ?_; focus (first | decide | (simp; done) | (simp [tcs]; done))) | intro _); conv => whnf)
  refine loop_intro (fun m tm H => ∃ j : Nat, sig.length = m + j ∧ (∀ i, i < j → ok i = false) ∧
    tm = [(9, .c (.int .i64 (j))), (8, .c (.int .i64 ((dcs sig).length))), (0, .ptr 0 0), (1, .elt 1 100 0 0), (2, .ptr 2 0)] ∧ H = gpH sig d f)
    sig.length _ _ ⟨0, by omega, fun i hi => absurd hi (by omega), rfl, rfl⟩ ?_ ?_
  · exact Wk.sl [0, 1, 2, 3] rfl ⟨rfl, rfl, rfl, rfl, trivial⟩ ⟨rfl, rfl, rfl, rfl, rfl, trivial⟩ rfl
  rintro m tm H ⟨j, hj, hlow, rfl, rfl⟩
  conv => whnf
  refine ⟨fun hlt => ?_, fun hlt => ?_⟩
  · replace hlt : (j : Int) < (dcs sig).length := of_decide_eq_true hlt
    have hfj := hfm j (by omega) (by omega)
    have hoj := hok j
    generalize kindAt sig j = kj at *
    have hda : (drow d)[0 + (j : Int).toNat * 1]? = some (.bool (d j)) := drow_at d (by omega)
    have hskip : ok j = false → ∀ i, i < j + 1 → ok i = false := fun h i hi => (by
      by_cases e : i = j
      · rw [e]; exact h
      · exact hlow i (by omega))
    cases hdj : d j with
    | true =>
      rw [hdj] at hda hoj
      have hoF := hskip hoj
      conv => whnf
      repeat ((first | refine aI rfl ?_ | refine aI (by decide) ?_ | refine dI (by kernel_rfl) ?_ | refine aI ⟨by omega, by omega⟩ ?_ | refine aI (by omega) ?_ | refine aI (fun _ => ⟨by omega, by omega⟩) ?_ | refine aI (of_decide_eq_true rfl) ?_ | (refine yI ?_ ?_; focus (first | decide | (simp; done) | (simp [tcs]; done))) | (refine nI ?_ ?_; focus (first | decide | (simp; done) | (simp [tcs]; done))) | intro _); conv => whnf)
      refine ⟨true, ⟨_, rfl, hda⟩, ?_⟩
      conv => whnf
      repeat ((first | refine aI rfl ?_ | refine aI (by decide) ?_ | refine dI (by kernel_rfl) ?_ | refine aI ⟨by omega, by omega⟩ ?_ | refine aI (by omega) ?_ | refine aI (fun _ => ⟨by omega, by omega⟩) ?_ | refine aI (of_decide_eq_true rfl) ?_ | (refine yI ?_ ?_; focus (first | decide | (simp; done) | (simp [tcs]; done))) | (refine nI ?_ ?_; focus (first | decide | (simp; done) | (simp [tcs]; done))) | intro _); conv => whnf)
      exact ⟨m - 1, _, _, by omega, ⟨j + 1, by omega, hoF, rfl, rfl⟩, Wk.sl [0, 1, 2, 3] rfl ⟨rfl, rfl, rfl, rfl, trivial⟩ ⟨rfl, rfl, rfl, rfl, rfl, trivial⟩ rfl⟩
    | false =>
      rw [hdj] at hda hoj
      cases kj with
      | false =>
        have hoF := hskip hoj
        conv => whnf
        repeat ((first | refine aI rfl ?_ | refine aI (by decide) ?_ | refine dI (by kernel_rfl) ?_ | refine aI ⟨by omega, by omega⟩ ?_ | refine aI (by omega) ?_ | refine aI (fun _ => ⟨by omega, by omega⟩) ?_ | refine aI (of_decide_eq_true rfl) ?_ | (refine yI ?_ ?_; focus (first | decide | (simp; done) | (simp [tcs]; done))) | (refine nI ?_ ?_; focus (first | decide | (simp; done) | (simp [tcs]; done))) | intro _); conv => whnf)
        refine ⟨false, ⟨_, rfl, hda⟩, ?_⟩
        conv => whnf
        repeat ((first | refine aI rfl ?_ | refine aI (by decide) ?_ | refine dI (by kernel_rfl) ?_ | refine aI ⟨by omega, by omega⟩ ?_ | refine aI (by omega) ?_ | refine aI (fun _ => ⟨by omega, by omega⟩) ?_ | refine aI (of_decide_eq_true rfl) ?_ | (refine yI ?_ ?_; focus (first | decide | (simp; done) | (simp [tcs]; done))) | (refine nI ?_ ?_; focus (first | decide | (simp; done) | (simp [tcs]; done))) | intro _); conv => whnf)
        try (refine dI (by kernel_rfl) ?_; conv => whnf)
        first | refine CallSt.use hfj [] trivial (by decide) rfl ?_ | refine CallPt.useS hfj [] trivial (by decide) rfl ?_
        rintro _ _ ⟨rfl, rfl⟩ _
        conv => whnf
        repeat ((first | refine aI rfl ?_ | refine aI (by decide) ?_ | refine dI (by kernel_rfl) ?_ | refine aI ⟨by omega, by omega⟩ ?_ | refine aI (by omega) ?_ | refine aI (fun _ => ⟨by omega, by omega⟩) ?_ | refine aI (of_decide_eq_true rfl) ?_ | (refine yI ?_ ?_; focus (first | decide | (simp; done) | (simp [tcs]; done))) | (refine nI ?_ ?_; focus (first | decide | (simp; done) | (simp [tcs]; done))) | intro _); conv => whnf)
        exact ⟨m - 1, _, _, by omega, ⟨j + 1, by omega, hoF, rfl, rfl⟩, Wk.sl [0, 1, 2, 3] rfl ⟨rfl, rfl, rfl, rfl, trivial⟩ ⟨rfl, rfl, rfl, rfl, rfl, trivial⟩ rfl⟩
      | true =>
        rw [Bool.not_false, Bool.true_and, Bool.true_and] at hoj
        conv => whnf
        repeat ((first | refine aI rfl ?_ | refine aI (by decide) ?_ | refine dI (by kernel_rfl) ?_ | refine aI ⟨by omega, by omega⟩ ?_ | refine aI (by omega) ?_ | refine aI (fun _ => ⟨by omega, by omega⟩) ?_ | refine aI (of_decide_eq_true rfl) ?_ | (refine yI ?_ ?_; focus (first | decide | (simp; done) | (simp [tcs]; done))) | (refine nI ?_ ?_; focus (first | decide | (simp; done) | (simp [tcs]; done))) | intro _); conv => whnf)
        refine ⟨false, ⟨_, rfl, hda⟩, ?_⟩
        conv => whnf
        repeat ((first | refine aI rfl ?_ | refine aI (by decide) ?_ | refine dI (by kernel_rfl) ?_ | refine aI ⟨by omega, by omega⟩ ?_ | refine aI (by omega) ?_ | refine aI (fun _ => ⟨by omega, by omega⟩) ?_ | refine aI (of_decide_eq_true rfl) ?_ | (refine yI ?_ ?_; focus (first | decide | (simp; done) | (simp [tcs]; done))) | (refine nI ?_ ?_; focus (first | decide | (simp; done) | (simp [tcs]; done))) | intro _); conv => whnf)
        try (refine dI (by kernel_rfl) ?_; conv => whnf)
        first | refine CallSt.use hfj [] trivial (by decide) rfl ?_ | refine CallPt.useS hfj [] trivial (by decide) rfl ?_
        rintro _ _ ⟨rfl, rfl⟩ _
        conv => whnf
        repeat ((first | refine aI rfl ?_ | refine aI (by decide) ?_ | refine dI (by kernel_rfl) ?_ | refine aI ⟨by omega, by omega⟩ ?_ | refine aI (by omega) ?_ | refine aI (fun _ => ⟨by omega, by omega⟩) ?_ | refine aI (of_decide_eq_true rfl) ?_ | (refine yI ?_ ?_; focus (first | decide | (simp; done) | (simp [tcs]; done))) | (refine nI ?_ ?_; focus (first | decide | (simp; done) | (simp [tcs]; done))) | intro _); conv => whnf)
        refine loop_intro (fun m tm H => ∃ i : Nat, sig.length = m + i ∧ (∀ b, b < i → okB f d j b = true) ∧
          tm = [(23, .c (.int .i64 (i))), (22, .c (.int .i64 ((dcs sig).length))), (5, .own 4), (4, .c (.int .i64 (j))), (9, .c (.int .i64 (j))), (8, .c (.int .i64 ((dcs sig).length))), (0, .ptr 0 0), (1, .elt 1 100 0 0), (2, .ptr 2 0)] ∧ H = gpH sig d f ++ [.row 3 1 8 (rowI (upTo (fun b => f b j && f j b) i))])
          sig.length _ _ ⟨0, by omega, fun i hi => absurd hi (by omega), rfl, rfl⟩ ?_ ?_
        · refine Wk.trans (tm1 := [(23, .c (.int .i64 (0))), (22, .c (.int .i64 ((dcs sig).length))), (5, .nil), (4, .c (.int .i64 (j))), (9, .c (.int .i64 (j))), (8, .c (.int .i64 ((dcs sig).length))), (0, .ptr 0 0), (1, .elt 1 100 0 0), (2, .ptr 2 0)]) (H1 := gpH sig d f) ?_ (Wk.trans (Wk.niltmp 5 3 1 8 rfl rfl) ?_)
          · exact Wk.sl [0, 1, 2, 3] rfl ⟨rfl, rfl, rfl, rfl, trivial⟩ ⟨rfl, rfl, rfl, rfl, rfl, rfl, rfl, rfl, rfl, trivial⟩ rfl
          · exact Wk.sl [0, 1, 2, 3, 4] rfl ⟨rfl, rfl, rfl, rfl, rfl, trivial⟩ ⟨rfl, rfl, rfl, rfl, rfl, rfl, rfl, rfl, rfl, trivial⟩ rfl
        rintro m2 tm H ⟨i, hi, hall, rfl, rfl⟩
        conv => whnf
        refine ⟨fun hlt2 => ?_, fun hlt2 => ?_⟩
        · replace hlt2 : (i : Int) < (dcs sig).length := of_decide_eq_true hlt2
          have hrl := len_rowI (upTo (fun b => f b j && f j b) i)
          have hul := upTo_len (fun b => f b j && f j b) i
          have hl2 : ((rowI (upTo (fun b => f b j && f j b) i)).length + 1) * 8 ≤ 140737488355328 := by omega
          have hl3 : (rowI (upTo (fun b => f b j && f j b) i)).length + 1 ≤ 9223372036854775807 := by omega
          have hm1 : (mrow f)[0 + (i : Int).toNat * 100 + (j : Int).toNat * 1]? = some (.bool (f i j)) := mrow_at2 f (by omega) (by omega)
          have hm2 : (mrow f)[0 + (j : Int).toNat * 100 + (i : Int).toNat * 1]? = some (.bool (f j i)) := mrow_at2 f (by omega) (by omega)
          have hd2 : (drow d)[0 + (i : Int).toNat * 1]? = some (.bool (d i)) := drow_at d (by omega)
          have hob : okB f d j i = ((f i j && f j i) || !(f i j && !d i)) := rfl
          have hpp : ∀ x : Bool, x = (f i j && f j i) → (fun b => f b j && f j b) i = x := fun x h => h.symm
          have hnext : okB f d j i = true → ∀ b, b < i + 1 → okB f d j b = true := fun h b hb => (by
            by_cases e : b = i
            · rw [e]; exact h
            · exact hall b (by omega))
          have hstop : okB f d j i = false → ok j = false := fun h => (by
            rw [hoj, List.all_eq_false]
            exact ⟨i, by simp; omega, by rw [h]; simp⟩)
          cases h1 : f i j with
          | false =>
            rw [h1] at hm1 hob hpp
            have hnx := hnext hob
            conv => whnf
            repeat ((first | refine aI rfl ?_ | refine aI (by decide) ?_ | refine dI (by kernel_rfl) ?_ | refine aI ⟨by omega, by omega⟩ ?_ | refine aI (by omega) ?_ | refine aI (fun _ => ⟨by omega, by omega⟩) ?_ | refine aI (of_decide_eq_true rfl) ?_ | (refine yI ?_ ?_; focus (first | decide | (simp; done) | (simp [tcs]; done))) | (refine nI ?_ ?_; focus (first | decide | (simp; done) | (simp [tcs]; done))) | intro _); conv => whnf)
            refine ⟨false, ⟨_, rfl, hm1⟩, ?_⟩
            conv => whnf
            repeat ((first | refine aI rfl ?_ | refine aI (by decide) ?_ | refine dI (by kernel_rfl) ?_ | refine aI ⟨by omega, by omega⟩ ?_ | refine aI (by omega) ?_ | refine aI (fun _ => ⟨by omega, by omega⟩) ?_ | refine aI (of_decide_eq_true rfl) ?_ | (refine yI ?_ ?_; focus (first | decide | (simp; done) | (simp [tcs]; done))) | (refine nI ?_ ?_; focus (first | decide | (simp; done) | (simp [tcs]; done))) | intro _); conv => whnf)
            refine ⟨f j i, ⟨_, rfl, hm2⟩, ?_⟩
            conv => whnf
            repeat ((first | refine aI rfl ?_ | refine aI (by decide) ?_ | refine dI (by kernel_rfl) ?_ | refine aI ⟨by omega, by omega⟩ ?_ | refine aI (by omega) ?_ | refine aI (fun _ => ⟨by omega, by omega⟩) ?_ | refine aI (of_decide_eq_true rfl) ?_ | (refine yI ?_ ?_; focus (first | decide | (simp; done) | (simp [tcs]; done))) | (refine nI ?_ ?_; focus (first | decide | (simp; done) | (simp [tcs]; done))) | intro _); conv => whnf)
            refine ⟨false, ⟨_, rfl, hm1⟩, ?_⟩
            conv => whnf
            repeat ((first | refine aI rfl ?_ | refine aI (by decide) ?_ | refine dI (by kernel_rfl) ?_ | refine aI ⟨by omega, by omega⟩ ?_ | refine aI (by omega) ?_ | refine aI (fun _ => ⟨by omega, by omega⟩) ?_ | refine aI (of_decide_eq_true rfl) ?_ | (refine yI ?_ ?_; focus (first | decide | (simp; done) | (simp [tcs]; done))) | (refine nI ?_ ?_; focus (first | decide | (simp; done) | (simp [tcs]; done))) | intro _); conv => whnf)
            refine ⟨d i, ⟨_, rfl, hd2⟩, ?_⟩
            conv => whnf
            repeat ((first | refine aI rfl ?_ | refine aI (by decide) ?_ | refine dI (by kernel_rfl) ?_ | refine aI ⟨by omega, by omega⟩ ?_ | refine aI (by omega) ?_ | refine aI (fun _ => ⟨by omega, by omega⟩) ?_ | refine aI (of_decide_eq_true rfl) ?_ | (refine yI ?_ ?_; focus (first | decide | (simp; done) | (simp [tcs]; done))) | (refine nI ?_ ?_; focus (first | decide | (simp; done) | (simp [tcs]; done))) | intro _); conv => whnf)
            refine ⟨m2 - 1, _, _, by omega, ⟨i + 1, by omega, hnx, rfl, rfl⟩, Wk.sl [0, 1, 2, 3, 4] rfl ⟨rfl, rfl, rfl, rfl, ?_, trivial⟩ ⟨rfl, rfl, rfl, rfl, rfl, rfl, rfl, rfl, rfl, trivial⟩ rfl⟩
            rw [upTo_no (hpp false rfl)]
            rfl
          | true =>
            rw [h1] at hm1 hob hpp
            cases h2 : f j i with
            | true =>
              rw [h2] at hm2 hob hpp
              have hnx := hnext hob
              conv => whnf
              repeat ((first | refine aI rfl ?_ | refine aI (by decide) ?_ | refine dI (by kernel_rfl) ?_ | refine aI ⟨by omega, by omega⟩ ?_ | refine aI (by omega) ?_ | refine aI (fun _ => ⟨by omega, by omega⟩) ?_ | refine aI (of_decide_eq_true rfl) ?_ | (refine yI ?_ ?_; focus (first | decide | (simp; done) | (simp [tcs]; done))) | (refine nI ?_ ?_; focus (first | decide | (simp; done) | (simp [tcs]; done))) | intro _); conv => whnf)
              refine ⟨true, ⟨_, rfl, hm1⟩, ?_⟩
              conv => whnf
              repeat ((first | refine aI rfl ?_ | refine aI (by decide) ?_ | refine dI (by kernel_rfl) ?_ | refine aI ⟨by omega, by omega⟩ ?_ | refine aI (by omega) ?_ | refine aI (fun _ => ⟨by omega, by omega⟩) ?_ | refine aI (of_decide_eq_true rfl) ?_ | (refine yI ?_ ?_; focus (first | decide | (simp; done) | (simp [tcs]; done))) | (refine nI ?_ ?_; focus (first | decide | (simp; done) | (simp [tcs]; done))) | intro _); conv => whnf)
              refine ⟨true, ⟨_, rfl, hm2⟩, ?_⟩
              conv => whnf
              repeat ((first | refine aI rfl ?_ | refine aI (by decide) ?_ | refine dI (by kernel_rfl) ?_ | refine aI ⟨by omega, by omega⟩ ?_ | refine aI (by omega) ?_ | refine aI (fun _ => ⟨by omega, by omega⟩) ?_ | refine aI (of_decide_eq_true rfl) ?_ | (refine yI ?_ ?_; focus (first | decide | (simp; done) | (simp [tcs]; done))) | (refine nI ?_ ?_; focus (first | decide | (simp; done) | (simp [tcs]; done))) | intro _); conv => whnf)
              refine ⟨m2 - 1, _, _, by omega, ⟨i + 1, by omega, hnx, rfl, rfl⟩, Wk.sl [0, 1, 2, 3, 6] rfl ⟨rfl, rfl, rfl, rfl, ?_, trivial⟩ ⟨rfl, rfl, rfl, rfl, rfl, rfl, rfl, rfl, rfl, trivial⟩ rfl⟩
              rw [upTo_yes (hpp true rfl), ← rowI_snoc]
              rfl
            | false =>
              rw [h2] at hm2 hob hpp
              cases h3 : d i with
              | true =>
                rw [h3] at hd2 hob
                have hnx := hnext hob
                conv => whnf
                repeat ((first | refine aI rfl ?_ | refine aI (by decide) ?_ | refine dI (by kernel_rfl) ?_ | refine aI ⟨by omega, by omega⟩ ?_ | refine aI (by omega) ?_ | refine aI (fun _ => ⟨by omega, by omega⟩) ?_ | refine aI (of_decide_eq_true rfl) ?_ | (refine yI ?_ ?_; focus (first | decide | (simp; done) | (simp [tcs]; done))) | (refine nI ?_ ?_; focus (first | decide | (simp; done) | (simp [tcs]; done))) | intro _); conv => whnf)
                refine ⟨true, ⟨_, rfl, hm1⟩, ?_⟩
                conv => whnf
                repeat ((first | refine aI rfl ?_ | refine aI (by decide) ?_ | refine dI (by kernel_rfl) ?_ | refine aI ⟨by omega, by omega⟩ ?_ | refine aI (by omega) ?_ | refine aI (fun _ => ⟨by omega, by omega⟩) ?_ | refine aI (of_decide_eq_true rfl) ?_ | (refine yI ?_ ?_; focus (first | decide | (simp; done) | (simp [tcs]; done))) | (refine nI ?_ ?_; focus (first | decide | (simp; done) | (simp [tcs]; done))) | intro _); conv => whnf)
                refine ⟨false, ⟨_, rfl, hm2⟩, ?_⟩
                conv => whnf
                repeat ((first | refine aI rfl ?_ | refine aI (by decide) ?_ | refine dI (by kernel_rfl) ?_ | refine aI ⟨by omega, by omega⟩ ?_ | refine aI (by omega) ?_ | refine aI (fun _ => ⟨by omega, by omega⟩) ?_ | refine aI (of_decide_eq_true rfl) ?_ | (refine yI ?_ ?_; focus (first | decide | (simp; done) | (simp [tcs]; done))) | (refine nI ?_ ?_; focus (first | decide | (simp; done) | (simp [tcs]; done))) | intro _); conv => whnf)
                refine ⟨true, ⟨_, rfl, hm1⟩, ?_⟩
                conv => whnf
                repeat ((first | refine aI rfl ?_ | refine aI (by decide) ?_ | refine dI (by kernel_rfl) ?_ | refine aI ⟨by omega, by omega⟩ ?_ | refine aI (by omega) ?_ | refine aI (fun _ => ⟨by omega, by omega⟩) ?_ | refine aI (of_decide_eq_true rfl) ?_ | (refine yI ?_ ?_; focus (first | decide | (simp; done) | (simp [tcs]; done))) | (refine nI ?_ ?_; focus (first | decide | (simp; done) | (simp [tcs]; done))) | intro _); conv => whnf)
                refine ⟨true, ⟨_, rfl, hd2⟩, ?_⟩
                conv => whnf
                repeat ((first | refine aI rfl ?_ | refine aI (by decide) ?_ | refine dI (by kernel_rfl) ?_ | refine aI ⟨by omega, by omega⟩ ?_ | refine aI (by omega) ?_ | refine aI (fun _ => ⟨by omega, by omega⟩) ?_ | refine aI (of_decide_eq_true rfl) ?_ | (refine yI ?_ ?_; focus (first | decide | (simp; done) | (simp [tcs]; done))) | (refine nI ?_ ?_; focus (first | decide | (simp; done) | (simp [tcs]; done))) | intro _); conv => whnf)
                refine ⟨m2 - 1, _, _, by omega, ⟨i + 1, by omega, hnx, rfl, rfl⟩, Wk.sl [0, 1, 2, 3, 4] rfl ⟨rfl, rfl, rfl, rfl, ?_, trivial⟩ ⟨rfl, rfl, rfl, rfl, rfl, rfl, rfl, rfl, rfl, trivial⟩ rfl⟩
                rw [upTo_no (hpp false rfl)]
                rfl
              | false =>
                rw [h3] at hd2 hob
                have hoF := hskip (hstop hob)
                conv => whnf
                repeat ((first | refine aI rfl ?_ | refine aI (by decide) ?_ | refine dI (by kernel_rfl) ?_ | refine aI ⟨by omega, by omega⟩ ?_ | refine aI (by omega) ?_ | refine aI (fun _ => ⟨by omega, by omega⟩) ?_ | refine aI (of_decide_eq_true rfl) ?_ | (refine yI ?_ ?_; focus (first | decide | (simp; done) | (simp [tcs]; done))) | (refine nI ?_ ?_; focus (first | decide | (simp; done) | (simp [tcs]; done))) | intro _); conv => whnf)
                refine ⟨true, ⟨_, rfl, hm1⟩, ?_⟩
                conv => whnf
                repeat ((first | refine aI rfl ?_ | refine aI (by decide) ?_ | refine dI (by kernel_rfl) ?_ | refine aI ⟨by omega, by omega⟩ ?_ | refine aI (by omega) ?_ | refine aI (fun _ => ⟨by omega, by omega⟩) ?_ | refine aI (of_decide_eq_true rfl) ?_ | (refine yI ?_ ?_; focus (first | decide | (simp; done) | (simp [tcs]; done))) | (refine nI ?_ ?_; focus (first | decide | (simp; done) | (simp [tcs]; done))) | intro _); conv => whnf)
                refine ⟨false, ⟨_, rfl, hm2⟩, ?_⟩
                conv => whnf
                repeat ((first | refine aI rfl ?_ | refine aI (by decide) ?_ | refine dI (by kernel_rfl) ?_ | refine aI ⟨by omega, by omega⟩ ?_ | refine aI (by omega) ?_ | refine aI (fun _ => ⟨by omega, by omega⟩) ?_ | refine aI (of_decide_eq_true rfl) ?_ | (refine yI ?_ ?_; focus (first | decide | (simp; done) | (simp [tcs]; done))) | (refine nI ?_ ?_; focus (first | decide | (simp; done) | (simp [tcs]; done))) | intro _); conv => whnf)
                refine ⟨true, ⟨_, rfl, hm1⟩, ?_⟩
                conv => whnf
                repeat ((first | refine aI rfl ?_ | refine aI (by decide) ?_ | refine dI (by kernel_rfl) ?_ | refine aI ⟨by omega, by omega⟩ ?_ | refine aI (by omega) ?_ | refine aI (fun _ => ⟨by omega, by omega⟩) ?_ | refine aI (of_decide_eq_true rfl) ?_ | (refine yI ?_ ?_; focus (first | decide | (simp; done) | (simp [tcs]; done))) | (refine nI ?_ ?_; focus (first | decide | (simp; done) | (simp [tcs]; done))) | intro _); conv => whnf)
                refine ⟨false, ⟨_, rfl, hd2⟩, ?_⟩
                conv => whnf
                repeat ((first | refine aI rfl ?_ | refine aI (by decide) ?_ | refine dI (by kernel_rfl) ?_ | refine aI ⟨by omega, by omega⟩ ?_ | refine aI (by omega) ?_ | refine aI (fun _ => ⟨by omega, by omega⟩) ?_ | refine aI (of_decide_eq_true rfl) ?_ | (refine yI ?_ ?_; focus (first | decide | (simp; done) | (simp [tcs]; done))) | (refine nI ?_ ?_; focus (first | decide | (simp; done) | (simp [tcs]; done))) | intro _); conv => whnf)
                exact ⟨m - 1, _, _, by omega, ⟨j + 1, by omega, hoF, rfl, rfl⟩, Wk.sl [0, 1, 2, 3] rfl ⟨rfl, rfl, rfl, rfl, trivial⟩ ⟨rfl, rfl, rfl, rfl, rfl, trivial⟩ rfl⟩
        · replace hlt2 : ¬ (i : Int) < (dcs sig).length := of_decide_eq_false hlt2
          obtain rfl : i = sig.length := by omega
          have hoT : ok j = true := by
            rw [hoj, List.all_eq_true]
            intro x hx
            exact hall x (by simpa using hx)
          rw [hsome j (by omega) hoT hlow] at ho
          cases ho
  · replace hlt : ¬ (j : Int) < (dcs sig).length := of_decide_eq_false hlt
    obtain rfl : j = sig.length := by omega
    conv => whnf
    repeat ((first | refine aI rfl ?_ | refine aI (by decide) ?_ | refine dI (by kernel_rfl) ?_ | refine aI ⟨by omega, by omega⟩ ?_ | refine aI (by omega) ?_ | refine aI (fun _ => ⟨by omega, by omega⟩) ?_ | refine aI (of_decide_eq_true rfl) ?_ | (refine yI ?_ ?_; focus (first | decide | (simp; done) | (simp [tcs]; done))) | (refine nI ?_ ?_; focus (first | decide | (simp; done) | (simp [tcs]; done))) | intro _); conv => whnf)
    all_goals (first | rfl | exact ⟨rfl, rfl⟩ | exact ⟨rfl, rfl, rfl⟩)
theorem cGrpW (sig : List Dcl) (hp : ∀ e ∈ sig, prop e.c = true) (hl : sig.length ≤ 100) (d : Nat → Bool) (f : Nat → Nat → Bool) :
    CallSt Try.prog 35 [.ptr 0 0, .elt 1 100 0 0, .ptr 2 0] (gpH sig d f) (fun r H' => r = nxW f sig.length (nxG (okG f (fun n => kindAt sig n) d sig.length) sig.length) ∧ H' = gpH sig d f) := by
  cases ho : nxG (okG f (fun n => kindAt sig n) d sig.length) sig.length with
  | none => exact cGrpN sig hp hl d f ho
  | some g => exact cGrpS sig hp hl d f ho
end Go.Tr
/- depend.Groups. -/
namespace Go.Tr
open Go.Proofs
theorem bwP_diag (sig : List Dcl) {a : Nat} {d : Dcl} (hd : sig[a]? = some d) (hk : kindT d.c = true) : ∀ j, a < j → bwP sig j a a = true
  | 0, h => absurd h (Nat.not_lt_zero a)
  | j + 1, h => by
    have hor : ∀ (f : Nat → Nat → Bool) (L : List (Nat × Nat)), f a a = true → orE f L a a = true := fun f L h => by unfold orE; rw [h]; rfl
    rw [bwP]
    by_cases e : a = j
    · subst e
      rw [hd]
      simp only
      exact hor _ _ (by unfold updM; rw [if_pos ⟨rfl, rfl⟩]; exact hk)
    · have ih := bwP_diag sig hd hk j (by omega)
      cases hj : sig[j]? with
      | none => exact ih
      | some d2 =>
        simp only
        exact hor _ _ (by unfold updM; rw [if_neg (fun h => e h.1)]; exact ih)
theorem belM_diag (sig : List Dcl) {a : Nat} (ha : a < sig.length) (hk : kindAt sig a = true) : belM sig a a = true := by
  have hd : sig[a]? = some sig[a] := List.getElem?_eq_getElem ha
  rw [kindAt_at hd] at hk
  exact close_mono ha ha (bwP_diag sig hd hk _ ha)
def markD (d : Nat → Bool) (L : List Int) : Nat → Bool := fun x => d x || decide ((x : Int) ∈ L)
theorem markD_nil (d : Nat → Bool) : markD d [] = d := by funext x; simp [markD]
theorem markD_snoc (d : Nat → Bool) (L : List Int) (x : Nat) : markD d (L ++ [(x : Int)]) = updD (markD d L) x := by
  funext y
  unfold markD updD
  by_cases h : y = x
  · subst h; simp
  · have : ¬ (y : Int) = x := by omega
    simp [h, this]
def cntD (d : Nat → Bool) (n : Nat) : Nat := ((List.range n).filter fun x => !d x).length
theorem cnt_lt {d : Nat → Bool} {L : List Int} {n a : Nat} (ha : a < n) (hd : d a = false) (hL : (a : Int) ∈ L) : cntD (markD d L) n < cntD d n := by
  unfold cntD
  have e : (List.range n).filter (fun x => !markD d L x) = ((List.range n).filter fun x => !d x).filter fun x : Nat => !decide ((x : Int) ∈ L) := by
    rw [List.filter_filter]
    refine List.filter_congr fun x _ => ?_
    unfold markD
    cases d x <;> simp
  rw [e, List.length_filter_lt_length_iff_exists]
  exact ⟨a, List.mem_filter.2 ⟨by simpa using ha, by rw [hd]; rfl⟩, by simp [hL]⟩
def grpsP (f : Nat → Nat → Bool) (kd : Nat → Bool) (n : Nat) : Nat → (Nat → Bool) → List (List Int)
  | 0, _ => []
  | k + 1, d => match nxG (okG f kd d n) n with | none => [] | some a => grp f n a :: grpsP f kd n k (markD d (grp f n a))
theorem grpsP_none {f : Nat → Nat → Bool} {kd : Nat → Bool} {n : Nat} {d : Nat → Bool} (h : nxG (okG f kd d n) n = none) : ∀ k, grpsP f kd n k d = []
  | 0 => rfl
  | k + 1 => by rw [grpsP, h]
theorem grpsP_some {f : Nat → Nat → Bool} {kd : Nat → Bool} {n a : Nat} {d : Nat → Bool} (h : nxG (okG f kd d n) n = some a) (k : Nat) : grpsP f kd n (k + 1) d = grp f n a :: grpsP f kd n k (markD d (grp f n a)) := by rw [grpsP, h]
theorem grp_mem {f : Nat → Nat → Bool} {kd d : Nat → Bool} {n a : Nat} (hf : ∀ a, a < n → kd a = true → f a a = true) (h : nxG (okG f kd d n) n = some a) : a < n ∧ d a = false ∧ (a : Int) ∈ grp f n a := by
  obtain ⟨h1, h2⟩ := nxG_of h
  unfold okG at h2
  rw [Bool.and_eq_true, Bool.and_eq_true] at h2
  have hfa := hf a h1 h2.1.2
  refine ⟨h1, by simpa using h2.1.1, ?_⟩
  unfold grp upTo
  rw [List.mem_map]
  exact ⟨a, List.mem_filter.2 ⟨by simpa using h1, by simp [hfa]⟩, rfl⟩
theorem grp_bd {f : Nat → Nat → Bool} {n a : Nat} : ∀ x ∈ grp f n a, 0 ≤ x ∧ x < n := by
  intro x hx
  unfold grp upTo at hx
  rw [List.mem_map] at hx
  obtain ⟨y, hy, rfl⟩ := hx
  have := (List.mem_filter.1 hy).1
  rw [List.mem_range] at this
  omega
noncomputable def groupsF (sig : List Dcl) : List (List Int) := match checkB sig with | true => grpsP (belM sig) (fun n => kindAt sig n) sig.length sig.length (fun _ => false) | false => []
end Go.Tr
/- depend.Groups: the walk. -/
namespace Go.Tr
open Go.Proofs
theorem big100 : List.map ofConst (List.replicate 100 (.bool false)) = (drow (fun _ => false)).map AV.c := by
  rw [← drow_zero, List.map_replicate, List.map_replicate]
  rfl
theorem cGroupsD (sig : List Dcl) : CallSt Try.prog 10 [.c (.sl 6 72 (dcs sig))] [] (fun r H' => r = .tup [.c (.sl 1 24 (rowL (groupsF sig))), .c (.int .i64 ((if checkB sig then 0 else 2)))] ∧ H' = []) := by
  have hck := cCheck sig
  have hM := cBelowM sig
  have hbl := len_dcs sig
  unfold groupsF
  cases hc : checkB sig with
  | false =>
    rw [hc] at hck
    refine call_pure (E := envB 0) (fn := Try.f10) (c := bodyOf Try.f10) (envB_ok 0) mixed (by kernel_rfl) (by kernel_rfl) (by kernel_rfl) (by kernel_rfl) (by kernel_rfl) (by kernel_rfl) rfl ?_
    conv => whnf
    try (refine dI (by kernel_rfl) ?_; conv => whnf)
    first | refine CallSt.use hck [] trivial (by decide) rfl ?_ | refine CallPt.useS hck [] trivial (by decide) rfl ?_
    rintro _ _ ⟨rfl, rfl⟩ _
    conv => whnf
    repeat ((first | refine aI rfl ?_ | refine aI (by decide) ?_ | refine dI (by kernel_rfl) ?_ | refine aI ⟨by omega, by omega⟩ ?_ | refine aI (by omega) ?_ | refine aI (fun _ => ⟨by omega, by omega⟩) ?_ | refine aI (of_decide_eq_true rfl) ?_ | (refine yI ?_ ?_; focus (first | decide | (simp; done) | (simp [tcs]; done))) | (refine nI ?_ ?_; focus (first | decide | (simp; done) | (simp [tcs]; done))) | intro _); conv => whnf)
    all_goals (first | rfl | exact ⟨rfl, rfl⟩ | exact ⟨rfl, rfl, rfl⟩)
  | true =>
    rw [hc] at hck
    replace hM := hM hc
    have hl := check_len hc
    have hp := check_prop hc
    have hdg := fun a ha => @belM_diag sig a ha
    show CallSt _ _ _ _ fun r H' => r = .tup [.c (.sl 1 24 (rowL (grpsP (belM sig) (fun n => kindAt sig n) sig.length sig.length (fun _ => false)))), .c (.int .i64 (0))] ∧ H' = []
    generalize belM sig = fm at *
    have hg := fun d => cGrpW sig hp hl d fm
    have hdiag : ∀ a, a < sig.length → kindAt sig a = true → fm a a = true := fun a ha hk => hdg a ha hk
    generalize hn : sig.length = n at *
    have hgm := fun (d : Nat → Bool) a h => @grp_mem fm (fun n => kindAt sig n) d n a hdiag h
    have hnone := fun d h => @grpsP_none fm (fun n => kindAt sig n) n d h
    have hsome := fun d a h k => @grpsP_some fm (fun n => kindAt sig n) n a d h k
    have hcnt0 : cntD (fun _ => false) n ≤ n := by
      unfold cntD
      exact Nat.le_trans (List.length_filter_le _ _) (by simp)
    generalize (fun n : Nat => kindAt sig n) = kd at *
    have hgl : ∀ a, (grp fm n a).length ≤ n := fun a => upTo_len _ n
    generalize hG : grpsP fm kd n n (fun _ => false) = G at *
    refine call_pure (E := envB 0) (fn := Try.f10) (c := bodyOf Try.f10) (envB_ok 0) mixed (by kernel_rfl) (by kernel_rfl) (by kernel_rfl) (by kernel_rfl) (by kernel_rfl) (by kernel_rfl) rfl ?_
    refine aw_cut _ _ rfl fun C hC => ?_
    conv => whnf
    subst hC
    refine aw_cut _ _ rfl fun C hC => ?_
    conv => whnf
    try (refine dI (by kernel_rfl) ?_; conv => whnf)
    first | refine CallSt.use hck [] trivial (by decide) rfl ?_ | refine CallPt.useS hck [] trivial (by decide) rfl ?_
    rintro _ _ ⟨rfl, rfl⟩ _
    conv => whnf
    repeat ((first | refine aI rfl ?_ | refine aI (by decide) ?_ | refine dI (by kernel_rfl) ?_ | refine aI ⟨by omega, by omega⟩ ?_ | refine aI (by omega) ?_ | refine aI (fun _ => ⟨by omega, by omega⟩) ?_ | refine aI (of_decide_eq_true rfl) ?_ | (refine yI ?_ ?_; focus (first | decide | (simp; done) | (simp [tcs]; done))) | (refine nI ?_ ?_; focus (first | decide | (simp; done) | (simp [tcs]; done))) | intro _); conv => whnf)
    subst hC
    refine aw_cut _ _ rfl fun C hC => ?_
    conv => whnf
    repeat ((first | refine aI rfl ?_ | refine aI (by decide) ?_ | refine dI (by kernel_rfl) ?_ | refine aI ⟨by omega, by omega⟩ ?_ | refine aI (by omega) ?_ | refine aI (fun _ => ⟨by omega, by omega⟩) ?_ | refine aI (of_decide_eq_true rfl) ?_ | (refine yI ?_ ?_; focus (first | decide | (simp; done) | (simp [tcs]; done))) | (refine nI ?_ ?_; focus (first | decide | (simp; done) | (simp [tcs]; done))) | intro _); conv => whnf)
    try (refine dI (by kernel_rfl) ?_; conv => whnf)
    first | refine CallSt.use hM [] trivial (by decide) rfl ?_ | refine CallPt.useS hM [] trivial (by decide) rfl ?_
    rintro _ _ ⟨rfl, rfl⟩ _
    conv => whnf
    show aw Try.prog (envB 0) C [(5, .ptr 2 0), (18, .elt 1 10000 0 0), (17, .c (.sl 6 72 (dcs sig))), (15, .c (.bool false)), (14, .c (.int .i64 (0))), (4, .c (.int .i64 (0))), (13, .c (.int .i64 (0))), (12, .c (.sl 6 72 (dcs sig))), (3, .c (.int .i64 (0))), (2, .nil), (1, .ptr 0 0), (0, .c (.sl 6 72 (dcs sig)))]
      [.box [.c (.sl 6 72 (dcs sig))], matE fm, .box [.elt 1 10000 0 0]] _
    subst hC
    refine aw_cut _ _ rfl fun C hC => ?_
    conv => whnf
    refine ⟨drow (fun _ => false), big100, drow_len _, ?_⟩
    conv => whnf
    subst hC
    refine aw_cut _ _ rfl fun C hC => ?_
    conv => whnf
    subst hC
    refine aw_cut _ _ rfl fun C hC => ?_
    conv => whnf
    show aw Try.prog (envB 0) C [(8, .fn 35 [.ptr 0 0, .elt 3 100 0 0, .ptr 2 0]), (19, .fn 35 [.ptr 0 0, .elt 3 100 0 0, .ptr 2 0]), (7, .nil), (6, .elt 3 100 0 0), (5, .ptr 2 0), (18, .elt 1 10000 0 0), (17, .c (.sl 6 72 (dcs sig))), (15, .c (.bool false)), (14, .c (.int .i64 (0))), (4, .c (.int .i64 (0))), (13, .c (.int .i64 (0))), (12, .c (.sl 6 72 (dcs sig))), (3, .c (.int .i64 (0))), (2, .nil), (1, .ptr 0 0), (0, .c (.sl 6 72 (dcs sig)))]
      [.box [.c (.sl 6 72 (dcs sig))], matE fm, .box [.elt 1 10000 0 0], .row 59 100 1 [drow fun _ => false]] _
    subst hC
    refine aw_cut2 _ _ _ rfl fun C D hC hD => ?_
    conv => whnf
    suffices key : ∀ o, nxG (okG fm kd (fun _ => false) n) n = o → aw Try.prog (envB 0) C [(9, nxW fm n o), (21, nxW fm n o), (20, .fn 35 [.ptr 0 0, .elt 3 100 0 0, .ptr 2 0]), (8, .fn 35 [.ptr 0 0, .elt 3 100 0 0, .ptr 2 0]), (19, .fn 35 [.ptr 0 0, .elt 3 100 0 0, .ptr 2 0]), (7, .nil), (6, .elt 3 100 0 0), (5, .ptr 2 0), (18, .elt 1 10000 0 0), (17, .c (.sl 6 72 (dcs sig))), (15, .c (.bool false)), (14, .c (.int .i64 (0))), (4, .c (.int .i64 (0))), (13, .c (.int .i64 (0))), (12, .c (.sl 6 72 (dcs sig))), (3, .c (.int .i64 (0))), (2, .nil), (1, .ptr 0 0), (0, .c (.sl 6 72 (dcs sig)))]
        [.box [.c (.sl 6 72 (dcs sig))], matE fm, .box [.elt 1 10000 0 0], .row 59 100 1 [drow fun _ => false]] (thenQ Try.prog (envB 0) D (finP (envB 0) Try.f10 (fun r H' => r = .tup [.c (.sl 1 24 (rowL G)), .c (.int .i64 (0))] ∧ H' = []))) by
      have h0 := hg fun _ => false
      rcases ho : nxG (okG fm kd (fun _ => false) n) n with _ | a
      · rw [ho] at h0
        try (refine dI (by kernel_rfl) ?_; conv => whnf)
        first | refine CallSt.use h0 [0, 3, 2, 1] ⟨rfl, rfl, rfl, rfl, trivial⟩ (by decide) rfl ?_ | refine CallPt.useS h0 [0, 3, 2, 1] ⟨rfl, rfl, rfl, rfl, trivial⟩ (by decide) rfl ?_
        rintro _ _ ⟨rfl, rfl⟩ _
        conv => whnf
        exact key none ho
      · rw [ho] at h0
        try (refine dI (by kernel_rfl) ?_; conv => whnf)
        first | refine CallSt.use h0 [0, 3, 2, 1] ⟨rfl, rfl, rfl, rfl, trivial⟩ (by decide) rfl ?_ | refine CallPt.useS h0 [0, 3, 2, 1] ⟨rfl, rfl, rfl, rfl, trivial⟩ (by decide) rfl ?_
        rintro _ _ ⟨rfl, rfl⟩ _
        conv => whnf
        exact key (some a) ho
    intro o0 ho0
    subst hC
    conv => whnf
    refine loop_intro (fun m tm H => ∃ d T o, cntD d n ≤ m ∧ G = T ++ grpsP fm kd n m d ∧ nxG (okG fm kd d n) n = o ∧ T.length + m ≤ 200 ∧ tm = [(9, nxW fm n o), (8, .fn 35 [.ptr 0 0, .elt 3 100 0 0, .ptr 2 0]), (7, .own 4), (6, .elt 3 100 0 0), (3, .c (.int .i64 (0))), (2, .nil)] ∧
        H = [.box [.c (.sl 6 72 (dcs sig))], matE fm, .box [.elt 1 10000 0 0], .row 59 100 1 [drow d], .row 39 1 24 (rowL T)]) n _ _ ⟨fun _ => false, [], o0, hcnt0, hG.symm, ho0, by simp; omega, rfl, rfl⟩ ?_ ?_
    · refine Wk.trans (tm1 := [(9, nxW fm n o0), (8, .fn 35 [.ptr 0 0, .elt 3 100 0 0, .ptr 2 0]), (7, .nil), (6, .elt 3 100 0 0), (3, .c (.int .i64 (0))), (2, .nil)]) (H1 := [.box [.c (.sl 6 72 (dcs sig))], matE fm, .box [.elt 1 10000 0 0], .row 59 100 1 [drow fun _ => false]]) ?_ (Wk.trans (Wk.niltmp 7 39 1 24 (by cases o0 <;> rfl) (by cases o0 <;> rfl)) ?_)
      · exact Wk.sl [0, 1, 2, 3] rfl ⟨rfl, rfl, rfl, rfl, trivial⟩ ⟨by cases o0 <;> rfl, rfl, rfl, rfl, rfl, rfl, trivial⟩ (by cases o0 <;> rfl)
      · exact Wk.sl [0, 1, 2, 3, 4] rfl ⟨rfl, rfl, rfl, rfl, rfl, trivial⟩ ⟨by cases o0 <;> rfl, rfl, rfl, rfl, rfl, rfl, trivial⟩ (by cases o0 <;> rfl)
    rintro m tm H ⟨d, T, o, hcn, hGe, hoe, hTl, rfl, rfl⟩
    rcases o with _ | a
    · rw [hnone d hoe m, List.append_nil] at hGe
      subst hGe
      conv => whnf
      repeat ((first | refine aI rfl ?_ | refine aI (by decide) ?_ | refine dI (by kernel_rfl) ?_ | refine aI ⟨by omega, by omega⟩ ?_ | refine aI (by omega) ?_ | refine aI (fun _ => ⟨by omega, by omega⟩) ?_ | refine aI (of_decide_eq_true rfl) ?_ | (refine yI ?_ ?_; focus (first | decide | (simp; done) | (simp [tcs]; done))) | (refine nI ?_ ?_; focus (first | decide | (simp; done) | (simp [tcs]; done))) | intro _); conv => whnf)
      subst hD
      conv => whnf
      repeat ((first | refine aI rfl ?_ | refine aI (by decide) ?_ | refine dI (by kernel_rfl) ?_ | refine aI ⟨by omega, by omega⟩ ?_ | refine aI (by omega) ?_ | refine aI (fun _ => ⟨by omega, by omega⟩) ?_ | refine aI (of_decide_eq_true rfl) ?_ | (refine yI ?_ ?_; focus (first | decide | (simp; done) | (simp [tcs]; done))) | (refine nI ?_ ?_; focus (first | decide | (simp; done) | (simp [tcs]; done))) | intro _); conv => whnf)
      all_goals (first | rfl | exact ⟨rfl, rfl⟩ | exact ⟨rfl, rfl, rfl⟩)
    · obtain ⟨hga, hgd, hgi⟩ := hgm d a hoe
      have hcl := @cnt_lt d _ n a hga hgd hgi
      obtain ⟨m, rfl⟩ : ∃ q, m = q + 1 := ⟨m - 1, by omega⟩
      rw [hsome d a hoe m] at hGe
      have hgb : ∀ x ∈ grp fm n a, 0 ≤ x ∧ x < n := grp_bd
      have hgL := hgl a
      have hgne : rowI (grp fm n a) ≠ [] := fun h => by
        have := congrArg List.length h
        rw [len_rowI] at this
        have h2 := List.length_pos_of_mem hgi
        simp at this
        rw [this] at h2
        exact absurd h2 (by simp)
      rw [show nxW fm n (some a) = .c (.sl 1 8 (rowI (grp fm n a))) from rfl]
      generalize grp fm n a = L at *
      have hrl := len_rowI L
      conv => whnf
      intro e he
      obtain rfl : e = true := by cases e with | true => rfl | false => exact absurd (he rfl) hgne
      conv => whnf
      repeat ((first | refine aI rfl ?_ | refine aI (by decide) ?_ | refine dI (by kernel_rfl) ?_ | refine aI ⟨by omega, by omega⟩ ?_ | refine aI (by omega) ?_ | refine aI (fun _ => ⟨by omega, by omega⟩) ?_ | refine aI (of_decide_eq_true rfl) ?_ | (refine yI ?_ ?_; focus (first | decide | (simp; done) | (simp [tcs]; done))) | (refine nI ?_ ?_; focus (first | decide | (simp; done) | (simp [tcs]; done))) | intro _); conv => whnf)
      refine loop_intro (fun mm tm H => ∃ i : Nat, L.length = mm + i ∧ tm = [(28, .c (.int .i64 (i))), (27, .c (.int .i64 ((rowI L).length))), (26, .c (.sl 1 8 (rowI L))), (9, .c (.sl 1 8 (rowI L))), (8, .fn 35 [.ptr 0 0, .elt 3 100 0 0, .ptr 2 0]), (7, .own 4), (6, .elt 3 100 0 0), (3, .c (.int .i64 (0))), (2, .nil)] ∧
        H = [.box [.c (.sl 6 72 (dcs sig))], matE fm, .box [.elt 1 10000 0 0], .row 59 100 1 [drow (markD d (L.take i))], .row 39 1 24 (rowL T)])
        L.length _ _ ⟨0, by omega, rfl, rfl⟩ ?_ ?_
      · refine Wk.sl [0, 1, 2, 3, 4] rfl ⟨rfl, rfl, rfl, ?_, rfl, trivial⟩ ⟨rfl, rfl, rfl, rfl, rfl, rfl, rfl, rfl, rfl, trivial⟩ rfl
        rw [show L.take 0 = [] from rfl, markD_nil]
        rfl
      rintro mm tm H ⟨i, hi, rfl, rfl⟩
      conv => whnf
      refine ⟨fun hc2 => ?_, fun hc2 => ?_⟩
      · replace hc2 : (i : Int) < (rowI L).length := of_decide_eq_true hc2
        obtain ⟨x, hx⟩ : ∃ x, L[i]? = some x := ⟨L[i]'(by omega), List.getElem?_eq_getElem (by omega)⟩
        have hxb := hgb x (List.mem_of_getElem? hx)
        obtain ⟨k, rfl⟩ : ∃ k : Nat, x = k := ⟨x.toNat, by omega⟩
        have hxr := rowI_at hx
        have hst : markD d (L.take (i + 1)) = updD (markD d (L.take i)) k := by
          rw [← markD_snoc, List.take_add_one, hx]
          rfl
        generalize hfq : markD d (L.take i) = fq at *
        conv => whnf
        repeat ((first | refine aI rfl ?_ | refine aI (by decide) ?_ | refine dI (by kernel_rfl) ?_ | refine aI ⟨by omega, by omega⟩ ?_ | refine aI (by omega) ?_ | refine aI (fun _ => ⟨by omega, by omega⟩) ?_ | refine aI (of_decide_eq_true rfl) ?_ | (refine yI ?_ ?_; focus (first | decide | (simp; done) | (simp [tcs]; done))) | (refine nI ?_ ?_; focus (first | decide | (simp; done) | (simp [tcs]; done))) | intro _); conv => whnf)
        refine ⟨_, ⟨by omega, by simpa using hxr⟩, ?_⟩
        conv => whnf
        refine ⟨Nat.le_refl 1, ?_⟩
        conv => whnf
        repeat ((first | refine aI rfl ?_ | refine aI (by decide) ?_ | refine dI (by kernel_rfl) ?_ | refine aI ⟨by omega, by omega⟩ ?_ | refine aI (by omega) ?_ | refine aI (fun _ => ⟨by omega, by omega⟩) ?_ | refine aI (of_decide_eq_true rfl) ?_ | (refine yI ?_ ?_; focus (first | decide | (simp; done) | (simp [tcs]; done))) | (refine nI ?_ ?_; focus (first | decide | (simp; done) | (simp [tcs]; done))) | intro _); conv => whnf)
        refine ⟨_, _, rfl, drow_set fq (by omega), ?_⟩
        conv => whnf
        repeat ((first | refine aI rfl ?_ | refine aI (by decide) ?_ | refine dI (by kernel_rfl) ?_ | refine aI ⟨by omega, by omega⟩ ?_ | refine aI (by omega) ?_ | refine aI (fun _ => ⟨by omega, by omega⟩) ?_ | refine aI (of_decide_eq_true rfl) ?_ | (refine yI ?_ ?_; focus (first | decide | (simp; done) | (simp [tcs]; done))) | (refine nI ?_ ?_; focus (first | decide | (simp; done) | (simp [tcs]; done))) | intro _); conv => whnf)
        refine ⟨mm - 1, _, _, by omega, ⟨i + 1, by omega, rfl, rfl⟩, Wk.sl [0, 1, 2, 3, 4] rfl ⟨rfl, rfl, rfl, ?_, rfl, trivial⟩ ⟨rfl, rfl, rfl, rfl, rfl, rfl, rfl, rfl, rfl, trivial⟩ rfl⟩
        rw [hst]
        rfl
      · replace hc2 : ¬ (i : Int) < (rowI L).length := of_decide_eq_false hc2
        obtain rfl : i = L.length := by omega
        rw [List.take_length]
        have hrT := len_rowL T
        have hl2 : ((rowL T).length + 1) * 24 ≤ 140737488355328 := by omega
        have hl3 : (rowL T).length + 1 ≤ 9223372036854775807 := by omega
        have h0 := hg (markD d L)
        have hGe' : G = (T ++ [L]) ++ grpsP fm kd n m (markD d L) := by rw [hGe, List.append_assoc]; rfl
        rcases ho : nxG (okG fm kd (markD d L) n) n with _ | b
        · rw [ho] at h0
          conv => whnf
          repeat ((first | refine aI rfl ?_ | refine aI (by decide) ?_ | refine dI (by kernel_rfl) ?_ | refine aI ⟨by omega, by omega⟩ ?_ | refine aI (by omega) ?_ | refine aI (fun _ => ⟨by omega, by omega⟩) ?_ | refine aI (of_decide_eq_true rfl) ?_ | (refine yI ?_ ?_; focus (first | decide | (simp; done) | (simp [tcs]; done))) | (refine nI ?_ ?_; focus (first | decide | (simp; done) | (simp [tcs]; done))) | intro _); conv => whnf)
          try (refine dI (by kernel_rfl) ?_; conv => whnf)
          first | refine CallSt.use h0 [0, 3, 2, 1] ⟨rfl, rfl, rfl, rfl, trivial⟩ (by decide) rfl ?_ | refine CallPt.useS h0 [0, 3, 2, 1] ⟨rfl, rfl, rfl, rfl, trivial⟩ (by decide) rfl ?_
          rintro _ _ ⟨rfl, rfl⟩ _
          conv => whnf
          refine ⟨m, _, _, by omega, ⟨markD d L, T ++ [L], none, by omega, hGe', ho, by rw [List.length_append, List.length_singleton]; omega, rfl, rfl⟩, Wk.sl [0, 1, 2, 3, 6] rfl ⟨rfl, rfl, rfl, rfl, ?_, trivial⟩ ⟨rfl, rfl, rfl, rfl, rfl, rfl, trivial⟩ rfl⟩
          rw [← rowL_snoc]
          rfl
        · rw [ho] at h0
          conv => whnf
          repeat ((first | refine aI rfl ?_ | refine aI (by decide) ?_ | refine dI (by kernel_rfl) ?_ | refine aI ⟨by omega, by omega⟩ ?_ | refine aI (by omega) ?_ | refine aI (fun _ => ⟨by omega, by omega⟩) ?_ | refine aI (of_decide_eq_true rfl) ?_ | (refine yI ?_ ?_; focus (first | decide | (simp; done) | (simp [tcs]; done))) | (refine nI ?_ ?_; focus (first | decide | (simp; done) | (simp [tcs]; done))) | intro _); conv => whnf)
          try (refine dI (by kernel_rfl) ?_; conv => whnf)
          first | refine CallSt.use h0 [0, 3, 2, 1] ⟨rfl, rfl, rfl, rfl, trivial⟩ (by decide) rfl ?_ | refine CallPt.useS h0 [0, 3, 2, 1] ⟨rfl, rfl, rfl, rfl, trivial⟩ (by decide) rfl ?_
          rintro _ _ ⟨rfl, rfl⟩ _
          conv => whnf
          refine ⟨m, _, _, by omega, ⟨markD d L, T ++ [L], some b, by omega, hGe', ho, by rw [List.length_append, List.length_singleton]; omega, rfl, rfl⟩, Wk.sl [0, 1, 2, 3, 6] rfl ⟨rfl, rfl, rfl, rfl, ?_, trivial⟩ ⟨rfl, rfl, rfl, rfl, rfl, rfl, trivial⟩ rfl⟩
          rw [← rowL_snoc]
          rfl
end Go.Tr
/- depend.Strengthen. -/
namespace Go.Tr
open Go.Proofs
end Go.Tr
/- The reference's matrix. -/
namespace Go.Tr
open Go.Proofs
def rowB (n : Nat) (f : Nat → Bool) : List (List CV) := (List.range n).map fun j => [.bool (f j)]
def rowM (n : Nat) (M : Nat → Nat → Bool) (i : Nat) : List (List CV) := (List.range i).map fun a => [.sl 1 1 (rowB n (M a))]
attribute [irreducible] rowB rowM
def rowF (M : Nat → Nat → Bool) (L : List Int) : Nat → Bool := fun b => L.any fun k => decide ((b : Int) = k) || M k.toNat b
def mxP (sig : List Dcl) : Nat → Nat → Nat → Bool
  | 0 => fun _ _ => false
  | j + 1 => fun a b => match decide (a = j) with | true => (match sig[j]? with | some d => rowF (mxP sig j) (conF 2 d.c) b | none => false) | false => mxP sig j a b
def mxF (sig : List Dcl) : Nat → Nat → Bool := mxP sig sig.length
theorem mxP_last {sig : List Dcl} {j : Nat} {d : Dcl} (h : sig[j]? = some d) : mxP sig (j + 1) j = rowF (mxP sig j) (conF 2 d.c) := by
  funext b
  rw [mxP]
  dsimp only
  rw [decide_eq_true rfl, h]
theorem mxP_old {sig : List Dcl} {j a : Nat} (h : a ≠ j) : mxP sig (j + 1) a = mxP sig j a := by
  funext b
  rw [mxP]
  dsimp only
  rw [decide_eq_false h]
end Go.Tr
/- The reference's Needs and Users; a number in a list. -/
namespace Go.Tr
open Go.Proofs
theorem cHasL (L : List Int) (x : Int) (hL : L.length ≤ 1000000) : CallSt Try.prog 19 [.c (.sl 1 8 (rowI L)), .c (.int .i64 (x))] [] (fun r H' => r = .c (.bool (decide (x ∈ L))) ∧ H' = []) := by
  have hrl := len_rowI L
  refine call_pure (E := env 0) (fn := Try.f19) (c := bodyOf Try.f19) (env_ok 0) mixed (by kernel_rfl) (by kernel_rfl) (by kernel_rfl) (by kernel_rfl) (by kernel_rfl) (by kernel_rfl) rfl ?_
  conv => whnf
  repeat ((first | refine aI rfl ?_ | refine aI (by decide) ?_ | refine dI (by kernel_rfl) ?_ | refine aI ⟨by omega, by omega⟩ ?_ | refine aI (by omega) ?_ | refine aI (fun _ => ⟨by omega, by omega⟩) ?_ | refine aI (of_decide_eq_true rfl) ?_ | (refine yI ?_ ?_; focus (first | decide | (simp; done) | (simp [tcs]; done))) | (refine nI ?_ ?_; focus (first | decide | (simp; done) | (simp [tcs]; done))) | intro _); conv => whnf)
  refine loop_intro (fun m tm H => ∃ j : Nat, L.length = m + j ∧ (∀ (i : Nat) y, i < j → L[i]? = some y → y ≠ x) ∧
    tm = [(9, .c (.int .i64 (j))), (8, .c (.int .i64 ((rowI L).length))), (7, .c (.sl 1 8 (rowI L))), (1, .c (.int .i64 (x)))] ∧ H = [])
    L.length _ _ ⟨0, by omega, fun i y hi => absurd hi (by omega), rfl, rfl⟩ (Wk.sl [] rfl trivial ⟨rfl, rfl, rfl, rfl, trivial⟩ rfl) ?_
  rintro m tm H ⟨j, hj, hno, rfl, rfl⟩
  conv => whnf
  refine ⟨fun hc => ?_, fun hc => ?_⟩
  · replace hc : (j : Int) < (rowI L).length := of_decide_eq_true hc
    obtain ⟨y, hy⟩ : ∃ y, L[j]? = some y := ⟨L[j]'(by omega), List.getElem?_eq_getElem (by omega)⟩
    have hyr := rowI_at hy
    conv => whnf
    repeat ((first | refine aI rfl ?_ | refine aI (by decide) ?_ | refine dI (by kernel_rfl) ?_ | refine aI ⟨by omega, by omega⟩ ?_ | refine aI (by omega) ?_ | refine aI (fun _ => ⟨by omega, by omega⟩) ?_ | refine aI (of_decide_eq_true rfl) ?_ | (refine yI ?_ ?_; focus (first | decide | (simp; done) | (simp [tcs]; done))) | (refine nI ?_ ?_; focus (first | decide | (simp; done) | (simp [tcs]; done))) | intro _); conv => whnf)
    refine ⟨_, ⟨by omega, by simpa using hyr⟩, ?_⟩
    conv => whnf
    refine ⟨Nat.le_refl 1, ?_⟩
    conv => whnf
    repeat ((first | refine aI rfl ?_ | refine aI (by decide) ?_ | refine dI (by kernel_rfl) ?_ | refine aI ⟨by omega, by omega⟩ ?_ | refine aI (by omega) ?_ | refine aI (fun _ => ⟨by omega, by omega⟩) ?_ | refine aI (of_decide_eq_true rfl) ?_ | (refine yI ?_ ?_; focus (first | decide | (simp; done) | (simp [tcs]; done))) | (refine nI ?_ ?_; focus (first | decide | (simp; done) | (simp [tcs]; done))) | intro _); conv => whnf)
    refine ⟨fun he => ?_, fun he => ?_⟩
    · replace he : y = x := by simpa using he
      have e : decide (x ∈ L) = true := decide_eq_true (he ▸ List.mem_of_getElem? hy)
      rw [e]
      conv => whnf
      repeat ((first | refine aI rfl ?_ | refine aI (by decide) ?_ | refine dI (by kernel_rfl) ?_ | refine aI ⟨by omega, by omega⟩ ?_ | refine aI (by omega) ?_ | refine aI (fun _ => ⟨by omega, by omega⟩) ?_ | refine aI (of_decide_eq_true rfl) ?_ | (refine yI ?_ ?_; focus (first | decide | (simp; done) | (simp [tcs]; done))) | (refine nI ?_ ?_; focus (first | decide | (simp; done) | (simp [tcs]; done))) | intro _); conv => whnf)
      all_goals (first | rfl | exact ⟨rfl, rfl⟩ | exact ⟨rfl, rfl, rfl⟩)
    · replace he : ¬ y = x := by simpa using he
      conv => whnf
      repeat ((first | refine aI rfl ?_ | refine aI (by decide) ?_ | refine dI (by kernel_rfl) ?_ | refine aI ⟨by omega, by omega⟩ ?_ | refine aI (by omega) ?_ | refine aI (fun _ => ⟨by omega, by omega⟩) ?_ | refine aI (of_decide_eq_true rfl) ?_ | (refine yI ?_ ?_; focus (first | decide | (simp; done) | (simp [tcs]; done))) | (refine nI ?_ ?_; focus (first | decide | (simp; done) | (simp [tcs]; done))) | intro _); conv => whnf)
      refine ⟨m - 1, _, _, by omega, ⟨j + 1, by omega, fun i z hi hz => ?_, rfl, rfl⟩, Wk.sl [] rfl trivial ⟨rfl, rfl, rfl, rfl, trivial⟩ rfl⟩
      by_cases hij : i < j
      · exact hno i z hij hz
      · obtain rfl : i = j := by omega
        rw [hy] at hz
        injection hz with hz
        exact hz ▸ he
  · replace hc : ¬ (j : Int) < (rowI L).length := of_decide_eq_false hc
    have e : decide (x ∈ L) = false := decide_eq_false (fun h => by
      obtain ⟨i, hi⟩ := List.mem_iff_getElem?.1 h
      exact hno i x (by have := (List.getElem?_eq_some_iff.1 hi).1; omega) hi rfl)
    rw [e]
    conv => whnf
    repeat ((first | refine aI rfl ?_ | refine aI (by decide) ?_ | refine dI (by kernel_rfl) ?_ | refine aI ⟨by omega, by omega⟩ ?_ | refine aI (by omega) ?_ | refine aI (fun _ => ⟨by omega, by omega⟩) ?_ | refine aI (of_decide_eq_true rfl) ?_ | (refine yI ?_ ?_; focus (first | decide | (simp; done) | (simp [tcs]; done))) | (refine nI ?_ ?_; focus (first | decide | (simp; done) | (simp [tcs]; done))) | intro _); conv => whnf)
    all_goals (first | rfl | exact ⟨rfl, rfl⟩ | exact ⟨rfl, rfl, rfl⟩)
end Go.Tr
/- Needs: the plain law. -/
namespace Go.Tr
open Go.Proofs
theorem mxP_stab (sig : List Dcl) : ∀ (j a : Nat), a < j → mxP sig j a = mxP sig (a + 1) a
  | 0, _, h => absurd h (Nat.not_lt_zero _)
  | j + 1, a, h => by
    by_cases e : a = j
    · rw [e]
    · rw [mxP_old e, mxP_stab sig j a (by omega)]
theorem mx_eq {sig : List Dcl} (hc : checkB sig = true) {a : Nat} {d : Dcl} (hd : sig[a]? = some d) (b : Nat) : mxF sig a b = (conF 2 d.c).any fun k => decide ((b : Int) = k) || mxF sig k.toNat b := by
  have ha := (List.getElem?_eq_some_iff.1 hd).1
  unfold mxF
  rw [mxP_stab sig _ a ha, mxP_last hd]
  unfold rowF
  have : ∀ k ∈ conF 2 d.c, (decide ((b : Int) = k) || mxP sig a k.toNat b) = (decide ((b : Int) = k) || mxP sig sig.length k.toNat b) := fun k hk => by
    obtain ⟨h0, h1⟩ := check_con hc hd k hk
    rw [mxP_stab sig a k.toNat (by omega), mxP_stab sig sig.length k.toNat (by omega)]
  generalize conF 2 d.c = L at *
  clear hd
  induction L with
  | nil => rfl
  | cons x r ih =>
    rw [List.any_cons, List.any_cons, this x (by simp), ih fun k hk => this k (List.mem_cons_of_mem _ hk)]
theorem mx_iff {sig : List Dcl} (hc : checkB sig = true) {a : Nat} {d : Dcl} (hd : sig[a]? = some d) (b : Nat) : mxF sig a b = true ↔ ∃ k : Nat, (k : Int) ∈ conF 2 d.c ∧ k < a ∧ (b = k ∨ mxF sig k b = true) := by
  rw [mx_eq hc hd, List.any_eq_true]
  constructor
  · rintro ⟨x, hx, h⟩
    obtain ⟨h0, h1⟩ := check_con hc hd x hx
    refine ⟨x.toNat, by rw [Int.toNat_of_nonneg h0]; exact hx, by omega, ?_⟩
    rw [Bool.or_eq_true, decide_eq_true_eq] at h
    rcases h with h | h
    · exact .inl (by omega)
    · exact .inr h
  · rintro ⟨k, hk, _, h⟩
    refine ⟨k, hk, ?_⟩
    rw [Bool.or_eq_true, decide_eq_true_eq, Int.toNat_natCast]
    rcases h with h | h
    · exact .inl (by omega)
    · exact .inr h
theorem get_lt {α : Type} {l : List α} {a : Nat} (h : a < l.length) : ∃ d, l[a]? = some d := ⟨l[a], List.getElem?_eq_getElem h⟩
theorem mx_lt {sig : List Dcl} (hc : checkB sig = true) : ∀ (a b : Nat), a < sig.length → mxF sig a b = true → b < a := by
  intro a
  induction a using Nat.strongRecOn with
  | _ a ih =>
    intro b ha h
    obtain ⟨d, hd⟩ := get_lt ha
    obtain ⟨k, _, hk, h | h⟩ := (mx_iff hc hd b).1 h
    · omega
    · have := ih k hk b (by omega) h
      omega
theorem mx_trans {sig : List Dcl} (hc : checkB sig = true) : ∀ (a b c : Nat), a < sig.length → mxF sig a b = true → mxF sig b c = true → mxF sig a c = true := by
  intro a
  induction a using Nat.strongRecOn with
  | _ a ih =>
    intro b c ha h1 h2
    obtain ⟨d, hd⟩ := get_lt ha
    obtain ⟨k, hk, hka, h | h⟩ := (mx_iff hc hd b).1 h1
    · subst h
      exact (mx_iff hc hd c).2 ⟨b, hk, hka, .inr h2⟩
    · exact (mx_iff hc hd c).2 ⟨k, hk, hka, .inr (ih k hka b c (by omega) h h2)⟩
theorem need_mx {sig : List Dcl} (hc : checkB sig = true) {a b : Nat} (ha : a < sig.length) (hb : b < sig.length) : needM sig a b = mxF sig a b := by
  rw [Bool.eq_iff_iff]
  constructor
  · refine fun h => close_min (T := fun a b => mxF sig a b = true) (fun a b ha hb h => ?_) (fun a b c ha hb hc' h1 h2 => mx_trans hc a b c ha h1 h2) ha hb h
    obtain ⟨d, hd⟩ := get_lt ha
    unfold needF at h
    rw [hd] at h
    replace h := of_decide_eq_true h
    exact (mx_iff hc hd b).2 ⟨b, h, by have := (check_con hc hd b h).2; omega, .inl rfl⟩
  · revert b
    induction a using Nat.strongRecOn with
    | _ a ih =>
      intro b hb h
      obtain ⟨d, hd⟩ := get_lt ha
      obtain ⟨k, hk, hka, h | h⟩ := (mx_iff hc hd b).1 h
      all_goals have hak : needM sig a k = true := close_mono ha (by omega) (by unfold needF; rw [hd]; exact decide_eq_true hk)
      · rw [h]; exact hak
      · exact close_trans ha (by omega) hb hak (ih k hka (by omega) hb h)
theorem need_out {sig : List Dcl} (hc : checkB sig = true) {a b : Nat} (ha : a < sig.length) (hb : sig.length ≤ b) : needM sig a b = false := by
  unfold needM
  rw [close_out (.inr hb)]
  obtain ⟨d, hd⟩ := get_lt ha
  unfold needF
  rw [hd]
  exact decide_eq_false fun h => by have := (check_con hc hd b h).2; omega
theorem upTo_cut {p : Nat → Bool} {n : Nat} : ∀ k, (∀ i, n ≤ i → p i = false) → upTo p (n + k) = upTo p n
  | 0, _ => rfl
  | k + 1, h => by rw [← Nat.add_assoc, upTo_no (h _ (by omega)), upTo_cut k h]
theorem needs_law {sig : List Dcl} (hc : checkB sig = true) {q : Nat} (hq : q < sig.length) (hh : hasE sig q = 0) : needsF sig q = upTo (mxF sig q) sig.length := by
  have hl := check_len hc
  unfold needsF
  rw [hh, decide_eq_true rfl, Int.toNat_natCast]
  simp only
  obtain ⟨k, hk⟩ : ∃ k, 100 = sig.length + k := ⟨100 - sig.length, by omega⟩
  rw [hk, upTo_cut k fun i hi => need_out hc hq hi]
  exact upTo_congr fun i hi => need_mx hc hq hi
theorem users_law {sig : List Dcl} (hc : checkB sig = true) {q : Nat} (hq : q < sig.length) (hh : hasE sig q = 0) : usersF sig q = upTo (fun j => mxF sig j q) sig.length := by
  unfold usersF
  rw [hh, decide_eq_true rfl, Int.toNat_natCast]
  exact upTo_congr fun i hi => need_mx hc hi hq
end Go.Tr
/- Levels. -/
namespace Go.Tr
open Go.Proofs
end Go.Tr
/- Levels, of the reference; Level. -/
namespace Go.Tr
open Go.Proofs
end Go.Tr
/- uses; Copy of a signature. -/
namespace Go.Tr
open Go.Proofs
end Go.Tr
/- Copy of a signature; Add. -/
namespace Go.Tr
open Go.Proofs
end Go.Tr
/- renumbered, Chosen. -/
namespace Go.Tr
open Go.Proofs
end Go.Tr
/- Swap. -/
namespace Go.Tr
open Go.Proofs
end Go.Tr
/- Without, Rename. -/
namespace Go.Tr
open Go.Proofs
theorem upTo_mem {p : Nat → Bool} {j : Nat} {x : Int} : x ∈ upTo p j ↔ ∃ i : Nat, x = i ∧ i < j ∧ p i = true := by
  unfold upTo
  simp only [List.mem_map, List.mem_filter, List.mem_range]
  constructor
  · rintro ⟨i, ⟨h1, h2⟩, rfl⟩
    exact ⟨i, rfl, h1, h2⟩
  · rintro ⟨i, rfl, h1, h2⟩
    exact ⟨i, ⟨h1, h2⟩, rfl⟩
end Go.Tr
/- The reference's Same and Add; the law's helpers; awake. -/
namespace Go.Tr
open Go.Proofs
def con0 (n : Int) (ts : List Term) : Term := .mk 4 2 n ts
theorem cConL (n : Int) (ts : List Term) : CallSt Try.prog 39 [.c (.int .i64 (n)), .c (.sl 4 48 (tcs ts))] [] (fun r H' => r = tv (con0 n ts) ∧ H' = []) := by
  refine call_pure (E := env 0) (fn := Try.f39) (c := bodyOf Try.f39) (env_ok 0) mixed (by kernel_rfl) (by kernel_rfl) (by kernel_rfl) (by kernel_rfl) (by kernel_rfl) (by kernel_rfl) rfl ?_
  conv => whnf
  repeat ((first | refine aI rfl ?_ | refine aI (by decide) ?_ | refine dI (by kernel_rfl) ?_ | refine aI ⟨by omega, by omega⟩ ?_ | refine aI (by omega) ?_ | refine aI (fun _ => ⟨by omega, by omega⟩) ?_ | refine aI (of_decide_eq_true rfl) ?_ | (refine yI ?_ ?_; focus (first | decide | (simp; done) | (simp [tcs]; done))) | (refine nI ?_ ?_; focus (first | decide | (simp; done) | (simp [tcs]; done))) | intro _); conv => whnf)
  all_goals (first | rfl | exact ⟨rfl, rfl⟩ | exact ⟨rfl, rfl, rfl⟩)
end Go.Tr
/- awake of trusslaw12. -/
namespace Go.Tr
open Go.Proofs
theorem cPiL (a b : Term) : CallSt Try.prog 38 [tv a, tv b] [] (fun r H' => r = tv (.mk 2 0 0 [a, b]) ∧ H' = []) := by
  obtain ⟨k, l, n, ts⟩ := a
  obtain ⟨k2, l2, n2, us⟩ := b
  rw [tv_mk, tv_mk]
  refine call_pure (E := env 0) (fn := Try.f38) (c := bodyOf Try.f38) (env_ok 0) mixed (by kernel_rfl) (by kernel_rfl) (by kernel_rfl) (by kernel_rfl) (by kernel_rfl) (by kernel_rfl) rfl ?_
  conv => whnf
  repeat ((first | refine aI rfl ?_ | refine aI (by decide) ?_ | refine dI (by kernel_rfl) ?_ | refine aI ⟨by omega, by omega⟩ ?_ | refine aI (by omega) ?_ | refine aI (fun _ => ⟨by omega, by omega⟩) ?_ | refine aI (of_decide_eq_true rfl) ?_ | (refine yI ?_ ?_; focus (first | decide | (simp; done) | (simp [tcs]; done))) | (refine nI ?_ ?_; focus (first | decide | (simp; done) | (simp [tcs]; done))) | intro _); conv => whnf)
  all_goals (first | rfl | exact ⟨rfl, rfl⟩ | exact ⟨rfl, rfl, rfl⟩)
def depS : List Dcl := [⟨⟨#[116, 109]⟩, .mk 1 0 0 [], 0⟩, ⟨⟨#[108, 97, 109]⟩, .mk 2 0 0 [.mk 2 0 0 [con0 0 [], con0 0 []], con0 0 []], 0⟩, ⟨⟨#[115, 116, 101, 112]⟩, .mk 2 0 0 [con0 0 [], .mk 1 0 0 []], 0⟩]
theorem dep_ok : checkB depS = true := by kernel_rfl
theorem dep_fam : famE depS 0 = 0 := by kernel_rfl
theorem dep_hig : higB depS 0 = true := by kernel_rfl
theorem dep_be : belE depS 0 2 = 0 := by kernel_rfl
theorem dep_be2 : belE depS 2 0 = 0 := by kernel_rfl
theorem dep_bel : belM depS 0 2 = true := by kernel_rfl
theorem dep_bel2 : belM depS 2 0 = false := by kernel_rfl
theorem dep_grp : groupsF depS = [[0], [2]] := by kernel_rfl
set_option maxRecDepth 100000 in
theorem cAwake12 : CallSt Try.prog 12 [] [] (fun r H' => r = .c (.bool true) ∧ H' = []) := by
  have h0 := cConL 0 []
  have h1 := cPiL (con0 0 []) (con0 0 [])
  have h2 := cPiL (.mk 2 0 0 [con0 0 [], con0 0 []]) (con0 0 [])
  have h3 := cPiL (con0 0 []) (.mk 1 0 0 [])
  have h4 := cHigher depS 0
  rw [dep_fam, dep_hig] at h4
  have h5 := cBelowD depS 0 2
  rw [dep_be, show belM depS (0 : Int).toNat (2 : Int).toNat = true from dep_bel] at h5
  have h6 := cBelowD depS 2 0
  rw [dep_be2, show belM depS (2 : Int).toNat (0 : Int).toNat = false from dep_bel2] at h6
  have h7 := cGroupsD depS
  rw [dep_grp, dep_ok] at h7
  have h8 := cNumsEq [0] [0] (by decide) (by decide)
  have h9 := cNumsEq [2] [2] (by decide) (by decide)
  rw [decide_eq_true rfl] at h8 h9
  refine call_pure (E := env 0) (fn := Try.f12) (c := bodyOf Try.f12) (env_ok 0) mixed (by kernel_rfl) (by kernel_rfl) (by kernel_rfl) (by kernel_rfl) (by kernel_rfl) (by kernel_rfl) rfl ?_
  conv => whnf
  try (refine dI (by kernel_rfl) ?_; conv => whnf)
  first | refine CallSt.use h0 [] trivial (by decide) rfl ?_ | refine CallPt.useS h0 [] trivial (by decide) rfl ?_
  rintro _ _ ⟨rfl, rfl⟩ _
  conv => whnf
  try (refine dI (by kernel_rfl) ?_; conv => whnf)
  first | refine CallSt.use h0 [] trivial (by decide) rfl ?_ | refine CallPt.useS h0 [] trivial (by decide) rfl ?_
  rintro _ _ ⟨rfl, rfl⟩ _
  conv => whnf
  try (refine dI (by kernel_rfl) ?_; conv => whnf)
  first | refine CallSt.use h1 [] trivial (by decide) rfl ?_ | refine CallPt.useS h1 [] trivial (by decide) rfl ?_
  rintro _ _ ⟨rfl, rfl⟩ _
  conv => whnf
  try (refine dI (by kernel_rfl) ?_; conv => whnf)
  first | refine CallSt.use h0 [] trivial (by decide) rfl ?_ | refine CallPt.useS h0 [] trivial (by decide) rfl ?_
  rintro _ _ ⟨rfl, rfl⟩ _
  conv => whnf
  try (refine dI (by kernel_rfl) ?_; conv => whnf)
  first | refine CallSt.use h2 [] trivial (by decide) rfl ?_ | refine CallPt.useS h2 [] trivial (by decide) rfl ?_
  rintro _ _ ⟨rfl, rfl⟩ _
  conv => whnf
  try (refine dI (by kernel_rfl) ?_; conv => whnf)
  first | refine CallSt.use h0 [] trivial (by decide) rfl ?_ | refine CallPt.useS h0 [] trivial (by decide) rfl ?_
  rintro _ _ ⟨rfl, rfl⟩ _
  conv => whnf
  try (refine dI (by kernel_rfl) ?_; conv => whnf)
  first | refine CallSt.use h3 [] trivial (by decide) rfl ?_ | refine CallPt.useS h3 [] trivial (by decide) rfl ?_
  rintro _ _ ⟨rfl, rfl⟩ _
  conv => whnf
  repeat ((first | refine aI rfl ?_ | refine aI (by decide) ?_ | refine dI (by kernel_rfl) ?_ | refine aI ⟨by omega, by omega⟩ ?_ | refine aI (by omega) ?_ | refine aI (fun _ => ⟨by omega, by omega⟩) ?_ | refine aI (of_decide_eq_true rfl) ?_ | (refine yI ?_ ?_; focus (first | decide | (simp; done) | (simp [tcs]; done))) | (refine nI ?_ ?_; focus (first | decide | (simp; done) | (simp [tcs]; done))) | intro _); conv => whnf)
  try (refine dI (by kernel_rfl) ?_; conv => whnf)
  first | refine CallSt.use h4 [] trivial (by decide) rfl ?_ | refine CallPt.useS h4 [] trivial (by decide) rfl ?_
  rintro _ _ ⟨rfl, rfl⟩ _
  conv => whnf
  repeat ((first | refine aI rfl ?_ | refine aI (by decide) ?_ | refine dI (by kernel_rfl) ?_ | refine aI ⟨by omega, by omega⟩ ?_ | refine aI (by omega) ?_ | refine aI (fun _ => ⟨by omega, by omega⟩) ?_ | refine aI (of_decide_eq_true rfl) ?_ | (refine yI ?_ ?_; focus (first | decide | (simp; done) | (simp [tcs]; done))) | (refine nI ?_ ?_; focus (first | decide | (simp; done) | (simp [tcs]; done))) | intro _); conv => whnf)
  try (refine dI (by kernel_rfl) ?_; conv => whnf)
  first | refine CallSt.use h5 [] trivial (by decide) rfl ?_ | refine CallPt.useS h5 [] trivial (by decide) rfl ?_
  rintro _ _ ⟨rfl, rfl⟩ _
  conv => whnf
  repeat ((first | refine aI rfl ?_ | refine aI (by decide) ?_ | refine dI (by kernel_rfl) ?_ | refine aI ⟨by omega, by omega⟩ ?_ | refine aI (by omega) ?_ | refine aI (fun _ => ⟨by omega, by omega⟩) ?_ | refine aI (of_decide_eq_true rfl) ?_ | (refine yI ?_ ?_; focus (first | decide | (simp; done) | (simp [tcs]; done))) | (refine nI ?_ ?_; focus (first | decide | (simp; done) | (simp [tcs]; done))) | intro _); conv => whnf)
  try (refine dI (by kernel_rfl) ?_; conv => whnf)
  first | refine CallSt.use h6 [] trivial (by decide) rfl ?_ | refine CallPt.useS h6 [] trivial (by decide) rfl ?_
  rintro _ _ ⟨rfl, rfl⟩ _
  conv => whnf
  repeat ((first | refine aI rfl ?_ | refine aI (by decide) ?_ | refine dI (by kernel_rfl) ?_ | refine aI ⟨by omega, by omega⟩ ?_ | refine aI (by omega) ?_ | refine aI (fun _ => ⟨by omega, by omega⟩) ?_ | refine aI (of_decide_eq_true rfl) ?_ | (refine yI ?_ ?_; focus (first | decide | (simp; done) | (simp [tcs]; done))) | (refine nI ?_ ?_; focus (first | decide | (simp; done) | (simp [tcs]; done))) | intro _); conv => whnf)
  try (refine dI (by kernel_rfl) ?_; conv => whnf)
  first | refine CallSt.use h7 [] trivial (by decide) rfl ?_ | refine CallPt.useS h7 [] trivial (by decide) rfl ?_
  rintro _ _ ⟨rfl, rfl⟩ _
  conv => whnf
  repeat ((first | refine aI rfl ?_ | refine aI (by decide) ?_ | refine dI (by kernel_rfl) ?_ | refine aI ⟨by omega, by omega⟩ ?_ | refine aI (by omega) ?_ | refine aI (fun _ => ⟨by omega, by omega⟩) ?_ | refine aI (of_decide_eq_true rfl) ?_ | (refine yI ?_ ?_; focus (first | decide | (simp; done) | (simp [tcs]; done))) | (refine nI ?_ ?_; focus (first | decide | (simp; done) | (simp [tcs]; done))) | intro _); conv => whnf)
  refine ⟨[.sl 1 8 (rowI [0])], fun _ => ⟨by decide, rfl⟩, ?_⟩
  conv => whnf
  refine ⟨show 1 ≤ 1 by decide, ?_⟩
  conv => whnf
  repeat ((first | refine aI rfl ?_ | refine aI (by decide) ?_ | refine dI (by kernel_rfl) ?_ | refine aI ⟨by omega, by omega⟩ ?_ | refine aI (by omega) ?_ | refine aI (fun _ => ⟨by omega, by omega⟩) ?_ | refine aI (of_decide_eq_true rfl) ?_ | (refine yI ?_ ?_; focus (first | decide | (simp; done) | (simp [tcs]; done))) | (refine nI ?_ ?_; focus (first | decide | (simp; done) | (simp [tcs]; done))) | intro _); conv => whnf)
  try (refine dI (by kernel_rfl) ?_; conv => whnf)
  first | refine CallSt.use h8 [] trivial (by decide) rfl ?_ | refine CallPt.useS h8 [] trivial (by decide) rfl ?_
  rintro _ _ ⟨rfl, rfl⟩ _
  conv => whnf
  repeat ((first | refine aI rfl ?_ | refine aI (by decide) ?_ | refine dI (by kernel_rfl) ?_ | refine aI ⟨by omega, by omega⟩ ?_ | refine aI (by omega) ?_ | refine aI (fun _ => ⟨by omega, by omega⟩) ?_ | refine aI (of_decide_eq_true rfl) ?_ | (refine yI ?_ ?_; focus (first | decide | (simp; done) | (simp [tcs]; done))) | (refine nI ?_ ?_; focus (first | decide | (simp; done) | (simp [tcs]; done))) | intro _); conv => whnf)
  refine ⟨[.sl 1 8 (rowI [2])], fun _ => ⟨by decide, rfl⟩, ?_⟩
  conv => whnf
  refine ⟨show 1 ≤ 1 by decide, ?_⟩
  conv => whnf
  repeat ((first | refine aI rfl ?_ | refine aI (by decide) ?_ | refine dI (by kernel_rfl) ?_ | refine aI ⟨by omega, by omega⟩ ?_ | refine aI (by omega) ?_ | refine aI (fun _ => ⟨by omega, by omega⟩) ?_ | refine aI (of_decide_eq_true rfl) ?_ | (refine yI ?_ ?_; focus (first | decide | (simp; done) | (simp [tcs]; done))) | (refine nI ?_ ?_; focus (first | decide | (simp; done) | (simp [tcs]; done))) | intro _); conv => whnf)
  try (refine dI (by kernel_rfl) ?_; conv => whnf)
  first | refine CallSt.use h9 [] trivial (by decide) rfl ?_ | refine CallPt.useS h9 [] trivial (by decide) rfl ?_
  rintro _ _ ⟨rfl, rfl⟩ _
  conv => whnf
  repeat ((first | refine aI rfl ?_ | refine aI (by decide) ?_ | refine dI (by kernel_rfl) ?_ | refine aI ⟨by omega, by omega⟩ ?_ | refine aI (by omega) ?_ | refine aI (fun _ => ⟨by omega, by omega⟩) ?_ | refine aI (of_decide_eq_true rfl) ?_ | (refine yI ?_ ?_; focus (first | decide | (simp; done) | (simp [tcs]; done))) | (refine nI ?_ ?_; focus (first | decide | (simp; done) | (simp [tcs]; done))) | intro _); conv => whnf)
  all_goals (first | rfl | exact congrArg (fun z => AV.c (.bool z)) (by decide))
end Go.Tr
/- The law DependNeeds. -/
namespace Go.Tr
open Go.Proofs
end Go.Tr
/- TermBack: the plain law. -/
namespace Go.Tr
open Go.Proofs
end Go.Tr
/- The law TermBack. -/
namespace Go.Tr
open Go.Proofs
theorem modU (n k : Int) (hk : 0 < k ∧ k ≤ 1000) : ∃ m : Int, IntKind.i64.wrap ((IntKind.u64.wrap n).tmod k) = m ∧ 0 ≤ m ∧ m < k := by
  refine ⟨_, rfl, ?_⟩
  have h0 : 0 ≤ IntKind.u64.wrap n := by
    simp only [IntKind.wrap, IntKind.bits, IntKind.signed, Bool.false_and, Bool.false_eq_true, if_false]
    exact Int.emod_nonneg _ (by decide)
  rw [Int.tmod_eq_emod_of_nonneg h0]
  generalize IntKind.u64.wrap n = u
  have h1 := Int.emod_nonneg u (show k ≠ 0 by omega)
  have h3 := Int.emod_lt_of_pos u hk.1
  have h2 : IntKind.i64.wrap (u % k) = u % k := wrap_in ⟨by omega, by omega⟩
  rw [h2]
  exact ⟨h1, h3⟩
end Go.Tr
/- The law DependTransitive. -/
namespace Go.Tr
open Go.Proofs
theorem mem_upTo {p : Nat → Bool} {n x : Nat} (h : x < n) : decide ((x : Int) ∈ upTo p n) = p x := by
  cases hp : p x with
  | true => exact decide_eq_true (upTo_mem.2 ⟨x, rfl, h, hp⟩)
  | false =>
    refine decide_eq_false fun hm => ?_
    obtain ⟨y, hy, _, hpy⟩ := upTo_mem.1 hm
    obtain rfl : x = y := by omega
    rw [hp] at hpy
    cases hpy
theorem has_at12 {sig : List Dcl} (hc : checkB sig = true) {n : Nat} (h : n < sig.length) : hasE sig n = 0 := by
  rcases hasE_cases sig n with ⟨e, h2⟩ | ⟨e, h2, h3⟩ | ⟨e, h2, h3⟩
  · rw [hc] at h2; cases h2
  · exact absurd ⟨by omega, by omega⟩ h3
  · exact e
set_option maxRecDepth 100000 in
theorem cDependTransitive (sig : List Dcl) (n : Int) : CallSt Try.prog 7 [.c (.sl 6 72 (dcs sig)), .c (.int .i64 (n))] [] (fun r H' => r = .c (.bool true) ∧ H' = []) := by
  have haw := cAwake12
  have hbl := len_dcs sig
  by_cases hz : 0 < sig.length ∧ sig.length ≤ 100
  · have e1 : decide (((dcs sig).length : Int) = 0) = false := decide_eq_false (by omega)
    have e2 : decide ((100 : Int) < ((dcs sig).length : Int)) = false := decide_eq_false (by omega)
    have hw : IntKind.u64.wrap ((dcs sig).length : Int) = (dcs sig).length := by
      simp [IntKind.wrap, IntKind.signed, IntKind.bits]
      omega
    obtain ⟨x, hx, hx0, hx1⟩ := modU n (dcs sig).length (by omega)
    obtain ⟨q, rfl⟩ : ∃ q : Nat, x = q := ⟨x.toNat, by omega⟩
    have hq : q < sig.length := by omega
    have h1 := cNeedsD sig q
    have hhE : ∀ k : Nat, k < sig.length → checkB sig = true → hasE sig k = 0 := fun k hk hc => has_at12 hc hk
    cases hc : checkB sig with
    | false =>
      have he : hasE sig q = 2 := by unfold hasE; rw [hc]
      have e1' : needsF sig q = [] := by unfold needsF; rw [he]; rfl
      rw [e1', he] at h1
      refine call_pure (E := env 0) (fn := Try.f7) (c := bodyOf Try.f7) (env_ok 0) mixed (by kernel_rfl) (by kernel_rfl) (by kernel_rfl) (by kernel_rfl) (by kernel_rfl) (by kernel_rfl) rfl ?_
      conv => whnf
      repeat ((first | refine aI rfl ?_ | refine aI (by decide) ?_ | refine dI (by kernel_rfl) ?_ | refine aI ⟨by omega, by omega⟩ ?_ | refine aI (by omega) ?_ | refine aI (fun _ => ⟨by omega, by omega⟩) ?_ | refine aI (of_decide_eq_true rfl) ?_ | (refine yI ?_ ?_; focus (first | decide | (simp; done) | (simp [tcs]; done))) | (refine nI ?_ ?_; focus (first | decide | (simp; done) | (simp [tcs]; done))) | intro _); conv => whnf)
      rw [e1, e2]
      (refine ⟨fun h => absurd h ?_, fun _ => ?_⟩; (focus (first | decide | (simp; done) | (simp [tcs]; done))); conv => whnf)
      repeat ((first | refine aI rfl ?_ | refine aI (by decide) ?_ | refine dI (by kernel_rfl) ?_ | refine aI ⟨by omega, by omega⟩ ?_ | refine aI (by omega) ?_ | refine aI (fun _ => ⟨by omega, by omega⟩) ?_ | refine aI (of_decide_eq_true rfl) ?_ | (refine yI ?_ ?_; focus (first | decide | (simp; done) | (simp [tcs]; done))) | (refine nI ?_ ?_; focus (first | decide | (simp; done) | (simp [tcs]; done))) | intro _); conv => whnf)
      rw [hw]
      refine ⟨show ((dcs sig).length : Int) ≠ 0 by omega, ?_⟩
      conv => whnf
      rw [hx]
      repeat ((first | refine aI rfl ?_ | refine aI (by decide) ?_ | refine dI (by kernel_rfl) ?_ | refine aI ⟨by omega, by omega⟩ ?_ | refine aI (by omega) ?_ | refine aI (fun _ => ⟨by omega, by omega⟩) ?_ | refine aI (of_decide_eq_true rfl) ?_ | (refine yI ?_ ?_; focus (first | decide | (simp; done) | (simp [tcs]; done))) | (refine nI ?_ ?_; focus (first | decide | (simp; done) | (simp [tcs]; done))) | intro _); conv => whnf)
      try (refine dI (by kernel_rfl) ?_; conv => whnf)
      first | refine CallSt.use h1 [] trivial (by decide) rfl ?_ | refine CallPt.useS h1 [] trivial (by decide) rfl ?_
      rintro _ _ ⟨rfl, rfl⟩ _
      conv => whnf
      repeat ((first | refine aI rfl ?_ | refine aI (by decide) ?_ | refine dI (by kernel_rfl) ?_ | refine aI ⟨by omega, by omega⟩ ?_ | refine aI (by omega) ?_ | refine aI (fun _ => ⟨by omega, by omega⟩) ?_ | refine aI (of_decide_eq_true rfl) ?_ | (refine yI ?_ ?_; focus (first | decide | (simp; done) | (simp [tcs]; done))) | (refine nI ?_ ?_; focus (first | decide | (simp; done) | (simp [tcs]; done))) | intro _); conv => whnf)
      try (refine dI (by kernel_rfl) ?_; conv => whnf)
      first | refine CallSt.use haw [] trivial (by decide) rfl ?_ | refine CallPt.useS haw [] trivial (by decide) rfl ?_
      rintro _ _ ⟨rfl, rfl⟩ _
      conv => whnf
      repeat ((first | refine aI rfl ?_ | refine aI (by decide) ?_ | refine dI (by kernel_rfl) ?_ | refine aI ⟨by omega, by omega⟩ ?_ | refine aI (by omega) ?_ | refine aI (fun _ => ⟨by omega, by omega⟩) ?_ | refine aI (of_decide_eq_true rfl) ?_ | (refine yI ?_ ?_; focus (first | decide | (simp; done) | (simp [tcs]; done))) | (refine nI ?_ ?_; focus (first | decide | (simp; done) | (simp [tcs]; done))) | intro _); conv => whnf)
      all_goals (first | rfl | exact ⟨rfl, rfl⟩ | exact ⟨rfl, rfl, rfl⟩ | exact ⟨congrArg (fun z => AV.c (.bool z)) (by simp), rfl⟩)
    | true =>
      have he := hhE q hq hc
      rw [needs_law hc hq he, he] at h1
      have hN := upTo_len (mxF sig q) sig.length
      have hgL := fun k (hk : k < sig.length) => mem_upTo (p := mxF sig q) hk
      have hgb : ∀ x ∈ upTo (mxF sig q) sig.length, ∃ i : Nat, x = i ∧ i < sig.length ∧ mxF sig q i = true := fun x hx => upTo_mem.1 hx
      generalize upTo (mxF sig q) sig.length = N at *
      refine call_pure (E := env 0) (fn := Try.f7) (c := bodyOf Try.f7) (env_ok 0) mixed (by kernel_rfl) (by kernel_rfl) (by kernel_rfl) (by kernel_rfl) (by kernel_rfl) (by kernel_rfl) rfl ?_
      conv => whnf
      repeat ((first | refine aI rfl ?_ | refine aI (by decide) ?_ | refine dI (by kernel_rfl) ?_ | refine aI ⟨by omega, by omega⟩ ?_ | refine aI (by omega) ?_ | refine aI (fun _ => ⟨by omega, by omega⟩) ?_ | refine aI (of_decide_eq_true rfl) ?_ | (refine yI ?_ ?_; focus (first | decide | (simp; done) | (simp [tcs]; done))) | (refine nI ?_ ?_; focus (first | decide | (simp; done) | (simp [tcs]; done))) | intro _); conv => whnf)
      rw [e1, e2]
      (refine ⟨fun h => absurd h ?_, fun _ => ?_⟩; (focus (first | decide | (simp; done) | (simp [tcs]; done))); conv => whnf)
      repeat ((first | refine aI rfl ?_ | refine aI (by decide) ?_ | refine dI (by kernel_rfl) ?_ | refine aI ⟨by omega, by omega⟩ ?_ | refine aI (by omega) ?_ | refine aI (fun _ => ⟨by omega, by omega⟩) ?_ | refine aI (of_decide_eq_true rfl) ?_ | (refine yI ?_ ?_; focus (first | decide | (simp; done) | (simp [tcs]; done))) | (refine nI ?_ ?_; focus (first | decide | (simp; done) | (simp [tcs]; done))) | intro _); conv => whnf)
      rw [hw]
      refine ⟨show ((dcs sig).length : Int) ≠ 0 by omega, ?_⟩
      conv => whnf
      rw [hx]
      repeat ((first | refine aI rfl ?_ | refine aI (by decide) ?_ | refine dI (by kernel_rfl) ?_ | refine aI ⟨by omega, by omega⟩ ?_ | refine aI (by omega) ?_ | refine aI (fun _ => ⟨by omega, by omega⟩) ?_ | refine aI (of_decide_eq_true rfl) ?_ | (refine yI ?_ ?_; focus (first | decide | (simp; done) | (simp [tcs]; done))) | (refine nI ?_ ?_; focus (first | decide | (simp; done) | (simp [tcs]; done))) | intro _); conv => whnf)
      try (refine dI (by kernel_rfl) ?_; conv => whnf)
      first | refine CallSt.use h1 [] trivial (by decide) rfl ?_ | refine CallPt.useS h1 [] trivial (by decide) rfl ?_
      rintro _ _ ⟨rfl, rfl⟩ _
      conv => whnf
      repeat ((first | refine aI rfl ?_ | refine aI (by decide) ?_ | refine dI (by kernel_rfl) ?_ | refine aI ⟨by omega, by omega⟩ ?_ | refine aI (by omega) ?_ | refine aI (fun _ => ⟨by omega, by omega⟩) ?_ | refine aI (of_decide_eq_true rfl) ?_ | (refine yI ?_ ?_; focus (first | decide | (simp; done) | (simp [tcs]; done))) | (refine nI ?_ ?_; focus (first | decide | (simp; done) | (simp [tcs]; done))) | intro _); conv => whnf)
      refine loop_intro (fun m tm H => ∃ j : Nat, sig.length = m + j ∧
        tm = [(45, .c (.int .i64 (j))), (44, .c (.int .i64 ((dcs sig).length))), (0, .c (.sl 6 72 (dcs sig))), (1, .c (.int .i64 (q))), (5, .c (.sl 1 8 (rowI N)))] ∧ H = [])
        sig.length _ _ ⟨0, by omega, rfl, rfl⟩ (Wk.sl [] rfl trivial ⟨rfl, rfl, rfl, rfl, rfl, trivial⟩ rfl) ?_
      rintro m tm H ⟨j, hj, rfl, rfl⟩
      conv => whnf
      refine ⟨fun hlt => ?_, fun hlt => ?_⟩
      · replace hlt : (j : Int) < (dcs sig).length := of_decide_eq_true hlt
        have hjl : j < sig.length := by omega
        have hej := hhE j hjl hc
        have h2 := cUsersD sig j
        rw [users_law hc hjl hej, hej] at h2
        have hU := upTo_len (fun k => mxF sig k j) sig.length
        have h3 := cHasL (upTo (fun k => mxF sig k j) sig.length) q (by omega)
        rw [mem_upTo (p := fun k => mxF sig k j) hq] at h3
        have h4 := cHasL N j (by omega)
        rw [hgL j hjl] at h4
        have h5 := cNeedsD sig j
        rw [needs_law hc hjl hej, hej] at h5
        have hM := upTo_len (mxF sig j) sig.length
        have hMb : ∀ x ∈ upTo (mxF sig j) sig.length, ∃ i : Nat, x = i ∧ i < sig.length ∧ mxF sig j i = true := fun x hx => upTo_mem.1 hx
        generalize upTo (fun k => mxF sig k j) sig.length = U at *
        generalize upTo (mxF sig j) sig.length = M at *
        have hltq : mxF sig q j = true → j < q := fun h => mx_lt hc q j hq h
        cases hqj : mxF sig q j with
        | false =>
          rw [hqj] at h3 h4
          conv => whnf
          repeat ((first | refine aI rfl ?_ | refine aI (by decide) ?_ | refine dI (by kernel_rfl) ?_ | refine aI ⟨by omega, by omega⟩ ?_ | refine aI (by omega) ?_ | refine aI (fun _ => ⟨by omega, by omega⟩) ?_ | refine aI (of_decide_eq_true rfl) ?_ | (refine yI ?_ ?_; focus (first | decide | (simp; done) | (simp [tcs]; done))) | (refine nI ?_ ?_; focus (first | decide | (simp; done) | (simp [tcs]; done))) | intro _); conv => whnf)
          try (refine dI (by kernel_rfl) ?_; conv => whnf)
          first | refine CallSt.use h2 [] trivial (by decide) rfl ?_ | refine CallPt.useS h2 [] trivial (by decide) rfl ?_
          rintro _ _ ⟨rfl, rfl⟩ _
          conv => whnf
          repeat ((first | refine aI rfl ?_ | refine aI (by decide) ?_ | refine dI (by kernel_rfl) ?_ | refine aI ⟨by omega, by omega⟩ ?_ | refine aI (by omega) ?_ | refine aI (fun _ => ⟨by omega, by omega⟩) ?_ | refine aI (of_decide_eq_true rfl) ?_ | (refine yI ?_ ?_; focus (first | decide | (simp; done) | (simp [tcs]; done))) | (refine nI ?_ ?_; focus (first | decide | (simp; done) | (simp [tcs]; done))) | intro _); conv => whnf)
          try (refine dI (by kernel_rfl) ?_; conv => whnf)
          first | refine CallSt.use h3 [] trivial (by decide) rfl ?_ | refine CallPt.useS h3 [] trivial (by decide) rfl ?_
          rintro _ _ ⟨rfl, rfl⟩ _
          conv => whnf
          repeat ((first | refine aI rfl ?_ | refine aI (by decide) ?_ | refine dI (by kernel_rfl) ?_ | refine aI ⟨by omega, by omega⟩ ?_ | refine aI (by omega) ?_ | refine aI (fun _ => ⟨by omega, by omega⟩) ?_ | refine aI (of_decide_eq_true rfl) ?_ | (refine yI ?_ ?_; focus (first | decide | (simp; done) | (simp [tcs]; done))) | (refine nI ?_ ?_; focus (first | decide | (simp; done) | (simp [tcs]; done))) | intro _); conv => whnf)
          try (refine dI (by kernel_rfl) ?_; conv => whnf)
          first | refine CallSt.use h4 [] trivial (by decide) rfl ?_ | refine CallPt.useS h4 [] trivial (by decide) rfl ?_
          rintro _ _ ⟨rfl, rfl⟩ _
          conv => whnf
          repeat ((first | refine aI rfl ?_ | refine aI (by decide) ?_ | refine dI (by kernel_rfl) ?_ | refine aI ⟨by omega, by omega⟩ ?_ | refine aI (by omega) ?_ | refine aI (fun _ => ⟨by omega, by omega⟩) ?_ | refine aI (of_decide_eq_true rfl) ?_ | (refine yI ?_ ?_; focus (first | decide | (simp; done) | (simp [tcs]; done))) | (refine nI ?_ ?_; focus (first | decide | (simp; done) | (simp [tcs]; done))) | intro _); conv => whnf)
          try (refine dI (by kernel_rfl) ?_; conv => whnf)
          first | refine CallSt.use h4 [] trivial (by decide) rfl ?_ | refine CallPt.useS h4 [] trivial (by decide) rfl ?_
          rintro _ _ ⟨rfl, rfl⟩ _
          conv => whnf
          repeat ((first | refine aI rfl ?_ | refine aI (by decide) ?_ | refine dI (by kernel_rfl) ?_ | refine aI ⟨by omega, by omega⟩ ?_ | refine aI (by omega) ?_ | refine aI (fun _ => ⟨by omega, by omega⟩) ?_ | refine aI (of_decide_eq_true rfl) ?_ | (refine yI ?_ ?_; focus (first | decide | (simp; done) | (simp [tcs]; done))) | (refine nI ?_ ?_; focus (first | decide | (simp; done) | (simp [tcs]; done))) | intro _); conv => whnf)
          try (refine dI (by kernel_rfl) ?_; conv => whnf)
          first | refine CallSt.use h4 [] trivial (by decide) rfl ?_ | refine CallPt.useS h4 [] trivial (by decide) rfl ?_
          rintro _ _ ⟨rfl, rfl⟩ _
          conv => whnf
          repeat ((first | refine aI rfl ?_ | refine aI (by decide) ?_ | refine dI (by kernel_rfl) ?_ | refine aI ⟨by omega, by omega⟩ ?_ | refine aI (by omega) ?_ | refine aI (fun _ => ⟨by omega, by omega⟩) ?_ | refine aI (of_decide_eq_true rfl) ?_ | (refine yI ?_ ?_; focus (first | decide | (simp; done) | (simp [tcs]; done))) | (refine nI ?_ ?_; focus (first | decide | (simp; done) | (simp [tcs]; done))) | intro _); conv => whnf)
          exact ⟨m - 1, _, _, by omega, ⟨j + 1, by omega, rfl, rfl⟩, Wk.sl [] rfl trivial ⟨rfl, rfl, rfl, rfl, rfl, trivial⟩ rfl⟩
        | true =>
          rw [hqj] at h3 h4
          have hlt' := hltq hqj
          have hge : decide ((q : Int) ≤ (j : Int)) = false := decide_eq_false (by omega)
          have hrM := len_rowI M
          have htr : ∀ i : Nat, i < sig.length → mxF sig j i = true → mxF sig q i = true := fun i hi h => mx_trans hc q j i hq hqj h
          conv => whnf
          repeat ((first | refine aI rfl ?_ | refine aI (by decide) ?_ | refine dI (by kernel_rfl) ?_ | refine aI ⟨by omega, by omega⟩ ?_ | refine aI (by omega) ?_ | refine aI (fun _ => ⟨by omega, by omega⟩) ?_ | refine aI (of_decide_eq_true rfl) ?_ | (refine yI ?_ ?_; focus (first | decide | (simp; done) | (simp [tcs]; done))) | (refine nI ?_ ?_; focus (first | decide | (simp; done) | (simp [tcs]; done))) | intro _); conv => whnf)
          try (refine dI (by kernel_rfl) ?_; conv => whnf)
          first | refine CallSt.use h2 [] trivial (by decide) rfl ?_ | refine CallPt.useS h2 [] trivial (by decide) rfl ?_
          rintro _ _ ⟨rfl, rfl⟩ _
          conv => whnf
          repeat ((first | refine aI rfl ?_ | refine aI (by decide) ?_ | refine dI (by kernel_rfl) ?_ | refine aI ⟨by omega, by omega⟩ ?_ | refine aI (by omega) ?_ | refine aI (fun _ => ⟨by omega, by omega⟩) ?_ | refine aI (of_decide_eq_true rfl) ?_ | (refine yI ?_ ?_; focus (first | decide | (simp; done) | (simp [tcs]; done))) | (refine nI ?_ ?_; focus (first | decide | (simp; done) | (simp [tcs]; done))) | intro _); conv => whnf)
          try (refine dI (by kernel_rfl) ?_; conv => whnf)
          first | refine CallSt.use h3 [] trivial (by decide) rfl ?_ | refine CallPt.useS h3 [] trivial (by decide) rfl ?_
          rintro _ _ ⟨rfl, rfl⟩ _
          conv => whnf
          repeat ((first | refine aI rfl ?_ | refine aI (by decide) ?_ | refine dI (by kernel_rfl) ?_ | refine aI ⟨by omega, by omega⟩ ?_ | refine aI (by omega) ?_ | refine aI (fun _ => ⟨by omega, by omega⟩) ?_ | refine aI (of_decide_eq_true rfl) ?_ | (refine yI ?_ ?_; focus (first | decide | (simp; done) | (simp [tcs]; done))) | (refine nI ?_ ?_; focus (first | decide | (simp; done) | (simp [tcs]; done))) | intro _); conv => whnf)
          try (refine dI (by kernel_rfl) ?_; conv => whnf)
          first | refine CallSt.use h4 [] trivial (by decide) rfl ?_ | refine CallPt.useS h4 [] trivial (by decide) rfl ?_
          rintro _ _ ⟨rfl, rfl⟩ _
          conv => whnf
          repeat ((first | refine aI rfl ?_ | refine aI (by decide) ?_ | refine dI (by kernel_rfl) ?_ | refine aI ⟨by omega, by omega⟩ ?_ | refine aI (by omega) ?_ | refine aI (fun _ => ⟨by omega, by omega⟩) ?_ | refine aI (of_decide_eq_true rfl) ?_ | (refine yI ?_ ?_; focus (first | decide | (simp; done) | (simp [tcs]; done))) | (refine nI ?_ ?_; focus (first | decide | (simp; done) | (simp [tcs]; done))) | intro _); conv => whnf)
          try (refine dI (by kernel_rfl) ?_; conv => whnf)
          first | refine CallSt.use h4 [] trivial (by decide) rfl ?_ | refine CallPt.useS h4 [] trivial (by decide) rfl ?_
          rintro _ _ ⟨rfl, rfl⟩ _
          conv => whnf
          repeat ((first | refine aI rfl ?_ | refine aI (by decide) ?_ | refine dI (by kernel_rfl) ?_ | refine aI ⟨by omega, by omega⟩ ?_ | refine aI (by omega) ?_ | refine aI (fun _ => ⟨by omega, by omega⟩) ?_ | refine aI (of_decide_eq_true rfl) ?_ | (refine yI ?_ ?_; focus (first | decide | (simp; done) | (simp [tcs]; done))) | (refine nI ?_ ?_; focus (first | decide | (simp; done) | (simp [tcs]; done))) | intro _); conv => whnf)
          rw [hge]
          (refine ⟨fun h => absurd h (by simp), fun _ => ?_⟩; conv => whnf)
          repeat ((first | refine aI rfl ?_ | refine aI (by decide) ?_ | refine dI (by kernel_rfl) ?_ | refine aI ⟨by omega, by omega⟩ ?_ | refine aI (by omega) ?_ | refine aI (fun _ => ⟨by omega, by omega⟩) ?_ | refine aI (of_decide_eq_true rfl) ?_ | (refine yI ?_ ?_; focus (first | decide | (simp; done) | (simp [tcs]; done))) | (refine nI ?_ ?_; focus (first | decide | (simp; done) | (simp [tcs]; done))) | intro _); conv => whnf)
          try (refine dI (by kernel_rfl) ?_; conv => whnf)
          first | refine CallSt.use h4 [] trivial (by decide) rfl ?_ | refine CallPt.useS h4 [] trivial (by decide) rfl ?_
          rintro _ _ ⟨rfl, rfl⟩ _
          conv => whnf
          repeat ((first | refine aI rfl ?_ | refine aI (by decide) ?_ | refine dI (by kernel_rfl) ?_ | refine aI ⟨by omega, by omega⟩ ?_ | refine aI (by omega) ?_ | refine aI (fun _ => ⟨by omega, by omega⟩) ?_ | refine aI (of_decide_eq_true rfl) ?_ | (refine yI ?_ ?_; focus (first | decide | (simp; done) | (simp [tcs]; done))) | (refine nI ?_ ?_; focus (first | decide | (simp; done) | (simp [tcs]; done))) | intro _); conv => whnf)
          try (refine dI (by kernel_rfl) ?_; conv => whnf)
          first | refine CallSt.use h5 [] trivial (by decide) rfl ?_ | refine CallPt.useS h5 [] trivial (by decide) rfl ?_
          rintro _ _ ⟨rfl, rfl⟩ _
          conv => whnf
          repeat ((first | refine aI rfl ?_ | refine aI (by decide) ?_ | refine dI (by kernel_rfl) ?_ | refine aI ⟨by omega, by omega⟩ ?_ | refine aI (by omega) ?_ | refine aI (fun _ => ⟨by omega, by omega⟩) ?_ | refine aI (of_decide_eq_true rfl) ?_ | (refine yI ?_ ?_; focus (first | decide | (simp; done) | (simp [tcs]; done))) | (refine nI ?_ ?_; focus (first | decide | (simp; done) | (simp [tcs]; done))) | intro _); conv => whnf)
          refine loop_intro (fun m tm H => ∃ i : Nat, M.length = m + i ∧
            tm = [(89, .c (.int .i64 (i))), (88, .c (.int .i64 ((rowI M).length))), (87, .c (.sl 1 8 (rowI M))), (45, .c (.int .i64 (j))), (44, .c (.int .i64 ((dcs sig).length))), (0, .c (.sl 6 72 (dcs sig))), (1, .c (.int .i64 (q))), (5, .c (.sl 1 8 (rowI N)))] ∧ H = [])
            M.length _ _ ⟨0, by omega, rfl, rfl⟩ (Wk.sl [] rfl trivial ⟨rfl, rfl, rfl, rfl, rfl, rfl, rfl, rfl, trivial⟩ rfl) ?_
          rintro m2 tm H ⟨i, hi, rfl, rfl⟩
          conv => whnf
          refine ⟨fun hlt2 => ?_, fun hlt2 => ?_⟩
          · replace hlt2 : (i : Int) < (rowI M).length := of_decide_eq_true hlt2
            obtain ⟨x, hx⟩ : ∃ x, M[i]? = some x := ⟨M[i]'(by omega), List.getElem?_eq_getElem (by omega)⟩
            have hxr := rowI_at hx
            obtain ⟨y, rfl, hy1, hy2⟩ := hMb x (List.mem_of_getElem? hx)
            have h6 := cHasL N y (by omega)
            rw [hgL y hy1, htr y hy1 hy2] at h6
            conv => whnf
            repeat ((first | refine aI rfl ?_ | refine aI (by decide) ?_ | refine dI (by kernel_rfl) ?_ | refine aI ⟨by omega, by omega⟩ ?_ | refine aI (by omega) ?_ | refine aI (fun _ => ⟨by omega, by omega⟩) ?_ | refine aI (of_decide_eq_true rfl) ?_ | (refine yI ?_ ?_; focus (first | decide | (simp; done) | (simp [tcs]; done))) | (refine nI ?_ ?_; focus (first | decide | (simp; done) | (simp [tcs]; done))) | intro _); conv => whnf)
            refine ⟨_, ⟨by omega, by simpa using hxr⟩, ?_⟩
            conv => whnf
            refine ⟨Nat.le_refl 1, ?_⟩
            conv => whnf
            repeat ((first | refine aI rfl ?_ | refine aI (by decide) ?_ | refine dI (by kernel_rfl) ?_ | refine aI ⟨by omega, by omega⟩ ?_ | refine aI (by omega) ?_ | refine aI (fun _ => ⟨by omega, by omega⟩) ?_ | refine aI (of_decide_eq_true rfl) ?_ | (refine yI ?_ ?_; focus (first | decide | (simp; done) | (simp [tcs]; done))) | (refine nI ?_ ?_; focus (first | decide | (simp; done) | (simp [tcs]; done))) | intro _); conv => whnf)
            try (refine dI (by kernel_rfl) ?_; conv => whnf)
            first | refine CallSt.use h6 [] trivial (by decide) rfl ?_ | refine CallPt.useS h6 [] trivial (by decide) rfl ?_
            rintro _ _ ⟨rfl, rfl⟩ _
            conv => whnf
            repeat ((first | refine aI rfl ?_ | refine aI (by decide) ?_ | refine dI (by kernel_rfl) ?_ | refine aI ⟨by omega, by omega⟩ ?_ | refine aI (by omega) ?_ | refine aI (fun _ => ⟨by omega, by omega⟩) ?_ | refine aI (of_decide_eq_true rfl) ?_ | (refine yI ?_ ?_; focus (first | decide | (simp; done) | (simp [tcs]; done))) | (refine nI ?_ ?_; focus (first | decide | (simp; done) | (simp [tcs]; done))) | intro _); conv => whnf)
            exact ⟨m2 - 1, _, _, by omega, ⟨i + 1, by omega, rfl, rfl⟩, Wk.sl [] rfl trivial ⟨rfl, rfl, rfl, rfl, rfl, rfl, rfl, rfl, trivial⟩ rfl⟩
          · replace hlt2 : ¬ (i : Int) < (rowI M).length := of_decide_eq_false hlt2
            conv => whnf
            repeat ((first | refine aI rfl ?_ | refine aI (by decide) ?_ | refine dI (by kernel_rfl) ?_ | refine aI ⟨by omega, by omega⟩ ?_ | refine aI (by omega) ?_ | refine aI (fun _ => ⟨by omega, by omega⟩) ?_ | refine aI (of_decide_eq_true rfl) ?_ | (refine yI ?_ ?_; focus (first | decide | (simp; done) | (simp [tcs]; done))) | (refine nI ?_ ?_; focus (first | decide | (simp; done) | (simp [tcs]; done))) | intro _); conv => whnf)
            exact ⟨m - 1, _, _, by omega, ⟨j + 1, by omega, rfl, rfl⟩, Wk.sl [] rfl trivial ⟨rfl, rfl, rfl, rfl, rfl, trivial⟩ rfl⟩
      · replace hlt : ¬ (j : Int) < (dcs sig).length := of_decide_eq_false hlt
        conv => whnf
        repeat ((first | refine aI rfl ?_ | refine aI (by decide) ?_ | refine dI (by kernel_rfl) ?_ | refine aI ⟨by omega, by omega⟩ ?_ | refine aI (by omega) ?_ | refine aI (fun _ => ⟨by omega, by omega⟩) ?_ | refine aI (of_decide_eq_true rfl) ?_ | (refine yI ?_ ?_; focus (first | decide | (simp; done) | (simp [tcs]; done))) | (refine nI ?_ ?_; focus (first | decide | (simp; done) | (simp [tcs]; done))) | intro _); conv => whnf)
        try (refine dI (by kernel_rfl) ?_; conv => whnf)
        first | refine CallSt.use haw [] trivial (by decide) rfl ?_ | refine CallPt.useS haw [] trivial (by decide) rfl ?_
        rintro _ _ ⟨rfl, rfl⟩ _
        conv => whnf
        repeat ((first | refine aI rfl ?_ | refine aI (by decide) ?_ | refine dI (by kernel_rfl) ?_ | refine aI ⟨by omega, by omega⟩ ?_ | refine aI (by omega) ?_ | refine aI (fun _ => ⟨by omega, by omega⟩) ?_ | refine aI (of_decide_eq_true rfl) ?_ | (refine yI ?_ ?_; focus (first | decide | (simp; done) | (simp [tcs]; done))) | (refine nI ?_ ?_; focus (first | decide | (simp; done) | (simp [tcs]; done))) | intro _); conv => whnf)
        all_goals (first | rfl | exact ⟨rfl, rfl⟩ | exact ⟨rfl, rfl, rfl⟩)
  · have e1 : (decide (((dcs sig).length : Int) = 0) || decide ((100 : Int) < ((dcs sig).length : Int))) = true := by
      rw [Bool.or_eq_true, decide_eq_true_eq, decide_eq_true_eq]
      omega
    refine call_pure (E := env 0) (fn := Try.f7) (c := bodyOf Try.f7) (env_ok 0) mixed (by kernel_rfl) (by kernel_rfl) (by kernel_rfl) (by kernel_rfl) (by kernel_rfl) (by kernel_rfl) rfl ?_
    conv => whnf
    repeat ((first | refine aI rfl ?_ | refine aI (by decide) ?_ | refine dI (by kernel_rfl) ?_ | refine aI ⟨by omega, by omega⟩ ?_ | refine aI (by omega) ?_ | refine aI (fun _ => ⟨by omega, by omega⟩) ?_ | refine aI (of_decide_eq_true rfl) ?_ | (refine yI ?_ ?_; focus (first | decide | (simp; done) | (simp [tcs]; done))) | (refine nI ?_ ?_; focus (first | decide | (simp; done) | (simp [tcs]; done))) | intro _); conv => whnf)
    rw [e1]
    (refine ⟨fun _ => ?_, fun h => absurd h ?_⟩; rotate_left; (focus (first | decide | (simp; done) | (simp [tcs]; done))); conv => whnf)
    try (refine dI (by kernel_rfl) ?_; conv => whnf)
    first | refine CallSt.use haw [] trivial (by decide) rfl ?_ | refine CallPt.useS haw [] trivial (by decide) rfl ?_
    rintro _ _ ⟨rfl, rfl⟩ _
    conv => whnf
    repeat ((first | refine aI rfl ?_ | refine aI (by decide) ?_ | refine dI (by kernel_rfl) ?_ | refine aI ⟨by omega, by omega⟩ ?_ | refine aI (by omega) ?_ | refine aI (fun _ => ⟨by omega, by omega⟩) ?_ | refine aI (of_decide_eq_true rfl) ?_ | (refine yI ?_ ?_; focus (first | decide | (simp; done) | (simp [tcs]; done))) | (refine nI ?_ ?_; focus (first | decide | (simp; done) | (simp [tcs]; done))) | intro _); conv => whnf)
    all_goals (first | rfl | exact ⟨rfl, rfl⟩ | exact ⟨rfl, rfl, rfl⟩)
end Go.Tr
/- What is handed in, as terms. -/
namespace Go.Tr
open Go.Proofs
theorem tcs_map : ∀ ts : List Term, tcs ts = ts.map tc
  | [] => rfl
  | t :: r => by rw [tcs, tcs_map r]; rfl
theorem sh_term : ∀ (n : Nat) {xs : List CV}, Sh (lkT tab) n 49 xs → ∃ t, xs = tc t := by
  intro n
  induction n using Nat.strongRecOn with
  | _ n ih =>
  intro xs h
  obtain ⟨m, rfl, a, b, rfl, h0, c, d, rfl, h1, e, f, rfl, h2, g, i, rfl, h3, rfl⟩ := sh_struct (fs := [(0, 3), (1, 3), (2, 3), (3, 43)]) rfl h
  obtain ⟨k, rfl, _⟩ := sh_int (k := .i64) rfl h0
  obtain ⟨l, rfl, _⟩ := sh_int (k := .i64) rfl h1
  obtain ⟨n, rfl, _⟩ := sh_int (k := .i64) rfl h2
  obtain ⟨m2, es, rfl, rfl, _, h4⟩ := sh_slice (e := 49) rfl h3
  obtain ⟨ts, rfl⟩ := map_choose (f := tc) es fun r hr => ih m2 (by omega) (h4 r hr)
  exact ⟨.mk k l n ts, by rw [← tcs_map]; rfl⟩
def argTypes : List TypeId := [3, 43, 49]
theorem own : ownKnob Try.prog.godebug = none := by kernel_rfl
theorem laidOut : laidOutB Try.prog = true := by kernel_rfl
section
variable {H : Type} {enc : TypeId × Value → H} {W : World} {base : Nat} {v : Value} {d : DataW H} {ps : List MemPlace}
end
end Go.Tr
/- What is handed in: declarations. -/
namespace Go.Tr
open Go.Proofs
theorem sh_decl : ∀ (n : Nat) {xs : List CV}, Sh (lkT tab) n 66 xs → ∃ d, xs = dc d := by
  intro n xs h
  obtain ⟨m, rfl, a, b, rfl, h0, c, d, rfl, h1, e, f, rfl, h2, rfl⟩ := sh_struct (fs := [(0, 9), (1, 49), (5, 3)]) rfl h
  obtain ⟨s, rfl, _⟩ := sh_str rfl h0
  obtain ⟨t, rfl⟩ := sh_term m h1
  obtain ⟨i, rfl, _⟩ := sh_int (k := .i64) rfl h2
  obtain ⟨k, l, x, ts⟩ := t
  exact ⟨⟨s, ⟨k, l, x, ts⟩, i⟩, rfl⟩
theorem sh_sig {n : Nat} {xs : List CV} (h : Sh (lkT tab) n 22 xs) : ∃ l : List Dcl, xs = [.sl 6 72 (dcs l)] ∧ l.length * 72 ≤ 140737488351232 := by
  obtain ⟨m2, es, rfl, rfl, h5, h4⟩ := sh_slice (e := 66) rfl h
  obtain ⟨l, rfl⟩ := map_choose (f := dc) es fun r hr => sh_decl m2 (h4 r hr)
  refine ⟨l, rfl, ?_⟩
  rw [List.length_map] at h5
  exact h5
def argTypesD : List TypeId := [3, 9, 43, 49, 66, 22]
theorem arg_okD : argTypesD.all (cl1 (lkT tab) argTypesD) = true := by decide
section
variable {H : Type} {enc : TypeId × Value → H} {W : World} {base : Nat} {v : Value} {d : DataW H} {ps : List MemPlace}
set_option maxRecDepth 100000 in
theorem arg_sig (hval : Value.okWide Try.prog W .any base 22 v) (h : DataW.Trod enc Try.prog W 0 (fun _ => true) true 22 v d ps)
    (hw : ∀ n ∈ d.weights Try.prog 22, n ≤ reachBytes) : ∃ l : List Dcl, AVR W.heap noS (fun _ => .none) (.c (.sl 6 72 (dcs l))) v := by
  obtain ⟨fuel, xs, hs, a⟩ := open_arg (env_ok 0) arg_okD (by decide) hval h hw
  obtain ⟨l, rfl, hl⟩ := sh_sig hs
  exact ⟨l, a⟩
end
end Go.Tr
