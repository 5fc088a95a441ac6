/- What each function computes, and the plain laws of it. -/
import Derived.Test.YtkkbapgekkhlhaaGreatTrX057365ce
set_option linter.unusedVariables false
set_option linter.unusedSimpArgs false
set_option linter.unnecessarySimpa false
set_option linter.constructorNameAsVariable false
set_option autoImplicit false
/- The program's kernel: good. -/
namespace Go.Tr
open Go.Proofs
theorem cGood1 (t : Term) : CallSt Tryz.prog 76 [tv t] [] (fun r H' => r = .c (.bool (!prop t)) ∧ H' = []) := by
  have h := c14 t
  cases hp : prop t with
  | true =>
    rw [hp] at h
    clear hp
    obtain ⟨k, l, n, ts⟩ := t
    rw [tv_mk] at *
    refine call_pure (E := envC6 0) (fn := Tryz.f76) (c := bodyOf Tryz.f76) (envC6_ok 0) mixed (by kernel_rfl) (by kernel_rfl) (by kernel_rfl) (by kernel_rfl) (by kernel_rfl) (by kernel_rfl) rfl ?_
    conv => whnf
    repeat ((first | (refine aI ?_ ?_; focus exact sI) | refine dI (by kernel_rfl) ?_ | (refine yI ?_ ?_; focus exact sY) | (refine nI ?_ ?_; focus exact sY) | intro _); conv => whnf)
    try (refine dI (by kernel_rfl) ?_; conv => whnf)
    first | refine CallSt.use h [] trivial (by decide) rfl ?_ | refine CallPt.useS h [] trivial (by decide) rfl ?_
    rintro _ _ ⟨rfl, rfl⟩ _
    conv => whnf
    repeat ((first | (refine aI ?_ ?_; focus exact sI) | refine dI (by kernel_rfl) ?_ | (refine yI ?_ ?_; focus exact sY) | (refine nI ?_ ?_; focus exact sY) | intro _); conv => whnf)
    all_goals (first | rfl | exact ⟨rfl, rfl⟩ | exact ⟨rfl, rfl, rfl⟩)
  | false =>
    rw [hp] at h
    clear hp
    obtain ⟨k, l, n, ts⟩ := t
    rw [tv_mk] at *
    refine call_pure (E := envC6 0) (fn := Tryz.f76) (c := bodyOf Tryz.f76) (envC6_ok 0) mixed (by kernel_rfl) (by kernel_rfl) (by kernel_rfl) (by kernel_rfl) (by kernel_rfl) (by kernel_rfl) rfl ?_
    conv => whnf
    repeat ((first | (refine aI ?_ ?_; focus exact sI) | refine dI (by kernel_rfl) ?_ | (refine yI ?_ ?_; focus exact sY) | (refine nI ?_ ?_; focus exact sY) | intro _); conv => whnf)
    try (refine dI (by kernel_rfl) ?_; conv => whnf)
    first | refine CallSt.use h [] trivial (by decide) rfl ?_ | refine CallPt.useS h [] trivial (by decide) rfl ?_
    rintro _ _ ⟨rfl, rfl⟩ _
    conv => whnf
    repeat ((first | (refine aI ?_ ?_; focus exact sI) | refine dI (by kernel_rfl) ?_ | (refine yI ?_ ?_; focus exact sY) | (refine nI ?_ ?_; focus exact sY) | intro _); conv => whnf)
    all_goals (first | rfl | exact ⟨rfl, rfl⟩ | exact ⟨rfl, rfl, rfl⟩)
theorem cIdxG (l : List Term) : CallSt Tryz.prog 103 [.c (.sl 4 48 (tcs l)), .fn 76 []] [] (fun r H' => (∃ v, r = .c (.int .i64 (v)) ∧ (0 ≤ v ↔ l.all prop = false)) ∧ H' = []) := by
  have hll := len_tcs l
  refine call_pure (E := envC6 0) (fn := Tryz.f103) (c := bodyOf Tryz.f103) (envC6_ok 0) mixed (by kernel_rfl) (by kernel_rfl) (by kernel_rfl) (by kernel_rfl) (by kernel_rfl) (by kernel_rfl) rfl ?_
  conv => whnf
  repeat ((first | (refine aI ?_ ?_; focus exact sI) | refine dI (by kernel_rfl) ?_ | (refine yI ?_ ?_; focus exact sY) | (refine nI ?_ ?_; focus exact sY) | intro _); conv => whnf)
  refine loop_intro (fun m tm H => ∃ j : Nat, l.length = m + j ∧ (∀ (q : Nat) t, q < j → l[q]? = some t → prop t = true) ∧ tm = [(8, .c (.int .i64 (j))), (7, .c (.int .i64 ((tcs l).length))), (1, .fn 76 []), (0, .c (.sl 4 48 (tcs l)))] ∧ H = [])
    l.length _ _ ⟨0, by omega, fun q t h => absurd h (by omega), rfl, rfl⟩ (Wk.sl [] rfl trivial ⟨rfl, rfl, rfl, rfl, trivial⟩ rfl) ?_
  rintro m tm H ⟨j, hj, hall, rfl, rfl⟩
  conv => whnf
  repeat ((first | (refine aI ?_ ?_; focus exact sI) | refine dI (by kernel_rfl) ?_ | (refine yI ?_ ?_; focus exact sY) | (refine nI ?_ ?_; focus exact sY) | intro _); conv => whnf)
  refine ⟨fun hlt => ?_, fun hlt => ?_⟩
  · replace hlt : (j : Int) < (tcs l).length := of_decide_eq_true hlt
    obtain ⟨x, hx⟩ := get_some (show j < l.length by omega)
    have hxc := tcs_at l j x hx
    have hg := cGood1 x
    cases hp : prop x with
    | true =>
      rw [hp] at hg
      have hnx : ∀ (q : Nat) t, q < j + 1 → l[q]? = some t → prop t = true := fun q t hq ht => by
        by_cases e : q < j
        · exact hall q t e ht
        · obtain rfl : q = j := by omega
          rw [hx] at ht
          injection ht with ht
          exact ht ▸ hp
      clear hp hx
      obtain ⟨x1, x2, x3, x4⟩ := x
      rw [tv_mk] at hg
      conv => whnf
      repeat ((first | (refine aI ?_ ?_; focus exact sI) | refine dI (by kernel_rfl) ?_ | (refine yI ?_ ?_; focus exact sY) | (refine nI ?_ ?_; focus exact sY) | intro _); conv => whnf)
      refine ⟨_, ⟨by omega, by simpa using hxc⟩, ?_⟩
      conv => whnf
      refine ⟨Nat.le_refl 4, ?_⟩
      conv => whnf
      try (refine dI (by kernel_rfl) ?_; conv => whnf)
      first | refine CallSt.use hg [] trivial (by decide) rfl ?_ | refine CallPt.useS hg [] trivial (by decide) rfl ?_
      rintro _ _ ⟨rfl, rfl⟩ _
      conv => whnf
      repeat ((first | (refine aI ?_ ?_; focus exact sI) | refine dI (by kernel_rfl) ?_ | (refine yI ?_ ?_; focus exact sY) | (refine nI ?_ ?_; focus exact sY) | intro _); conv => whnf)
      have hlen : (tcs l).length * 48 ≤ 140737488355328 := ‹gd [] true ((tcs l).length * 48 ≤ 140737488355328)›
      refine ⟨show inR _ by unfold inR; omega, ?_⟩
      conv => whnf
      repeat ((first | (refine aI ?_ ?_; focus exact sI) | refine dI (by kernel_rfl) ?_ | (refine yI ?_ ?_; focus exact sY) | (refine nI ?_ ?_; focus exact sY) | intro _); conv => whnf)
      exact ⟨m - 1, _, _, by omega, ⟨j + 1, by omega, hnx, rfl, rfl⟩, Wk.sl [] rfl trivial ⟨rfl, rfl, rfl, rfl, trivial⟩ rfl⟩
    | false =>
      rw [hp] at hg
      have e : l.all prop = false := List.all_eq_false.2 ⟨x, List.mem_of_getElem? hx, by rw [hp]; decide⟩
      clear hp hx
      obtain ⟨x1, x2, x3, x4⟩ := x
      rw [tv_mk] at hg
      conv => whnf
      repeat ((first | (refine aI ?_ ?_; focus exact sI) | refine dI (by kernel_rfl) ?_ | (refine yI ?_ ?_; focus exact sY) | (refine nI ?_ ?_; focus exact sY) | intro _); conv => whnf)
      refine ⟨_, ⟨by omega, by simpa using hxc⟩, ?_⟩
      conv => whnf
      refine ⟨Nat.le_refl 4, ?_⟩
      conv => whnf
      try (refine dI (by kernel_rfl) ?_; conv => whnf)
      first | refine CallSt.use hg [] trivial (by decide) rfl ?_ | refine CallPt.useS hg [] trivial (by decide) rfl ?_
      rintro _ _ ⟨rfl, rfl⟩ _
      conv => whnf
      repeat ((first | (refine aI ?_ ?_; focus exact sI) | refine dI (by kernel_rfl) ?_ | (refine yI ?_ ?_; focus exact sY) | (refine nI ?_ ?_; focus exact sY) | intro _); conv => whnf)
      exact ⟨⟨_, rfl, fun _ => e, fun _ => by omega⟩, rfl⟩
  · replace hlt : ¬ (j : Int) < (tcs l).length := of_decide_eq_false hlt
    have e : l.all prop = true := List.all_eq_true.2 fun t ht => by
      obtain ⟨i, hi⟩ := List.mem_iff_getElem?.1 ht
      exact hall i t (by have := (List.getElem?_eq_some_iff.1 hi).1; omega) hi
    conv => whnf
    repeat ((first | (refine aI ?_ ?_; focus exact sI) | refine dI (by kernel_rfl) ?_ | (refine yI ?_ ?_; focus exact sY) | (refine nI ?_ ?_; focus exact sY) | intro _); conv => whnf)
    exact ⟨⟨_, rfl, fun h => absurd h (by omega), fun h => by rw [e] at h; cases h⟩, rfl⟩
theorem cAnyG (l : List Term) : CallSt Tryz.prog 74 [.c (.sl 4 48 (tcs l)), .fn 76 []] [] (fun r H' => r = .c (.bool (!l.all prop)) ∧ H' = []) := by
  have h := cIdxG l
  refine call_pure (E := envC6 0) (fn := Tryz.f74) (c := bodyOf Tryz.f74) (envC6_ok 0) mixed (by kernel_rfl) (by kernel_rfl) (by kernel_rfl) (by kernel_rfl) (by kernel_rfl) (by kernel_rfl) rfl ?_
  conv => whnf
  repeat ((first | (refine aI ?_ ?_; focus exact sI) | refine dI (by kernel_rfl) ?_ | (refine yI ?_ ?_; focus exact sY) | (refine nI ?_ ?_; focus exact sY) | intro _); conv => whnf)
  try (refine dI (by kernel_rfl) ?_; conv => whnf)
  first | refine CallSt.use h [] trivial (by decide) rfl ?_ | refine CallPt.useS h [] trivial (by decide) rfl ?_
  rintro _ _ ⟨⟨v, rfl, hv⟩, rfl⟩ _
  conv => whnf
  repeat ((first | (refine aI ?_ ?_; focus exact sI) | refine dI (by kernel_rfl) ?_ | (refine yI ?_ ?_; focus exact sY) | (refine nI ?_ ?_; focus exact sY) | intro _); conv => whnf)
  refine ⟨congrArg (fun z => AV.c (.bool z)) ?_, rfl⟩
  cases hp : l.all prop with
  | true => exact decide_eq_false fun h => by rw [hp] at hv; exact absurd (hv.1 h) (by decide)
  | false => exact decide_eq_true (hv.2 hp)
theorem rws_two (a b : List Term) : rws [a, b] = [[.sl 4 48 (tcs a)], [.sl 4 48 (tcs b)]] := by unfold rws; rfl
theorem cConcat2 (a b : List Term) (ha : a.length ≤ 100000) (hb : b.length ≤ 100000) : CallSt Tryz.prog 75 [.c (.sl 1 24 [[.sl 4 48 (tcs a)], [.sl 4 48 (tcs b)]])] [] (fun r H' => r = .c (.sl 4 48 (tcs (a ++ b))) ∧ H' = []) := by
  have e : [a, b].flatten = a ++ b := by simp
  rw [← rws_two, ← e]
  by_cases h : 0 < [a, b].flatten.length
  · exact cConcat [a, b] (by simp) (by rw [e, List.length_append]; omega) h
  · exact cConcat0 [a, b] (by simp) (by omega)
theorem cGood (sig : List Dcl) (ms : List Mta) (cx l : List Term) (hl : l.length ≤ 1000) : CallSt Tryz.prog 45 [.c (.sl 6 72 (dcs sig)), .c (.sl 10 120 (mcs ms)), .c (.sl 4 48 (tcs cx)), .c (.sl 4 48 (tcs l))] [] (fun r H' => r = .c (.bool (okR sig ms cx l)) ∧ H' = []) := by
  have hck := cCheck sig
  have hml := len_mcs ms
  have hcl := len_tcs cx
  have e80 : decide ((80 : Int) < ((mcs ms).length : Int)) = !decide (ms.length ≤ 80) := by by_cases h : ms.length ≤ 80 <;> simp [h] <;> omega
  have e30 : decide ((30 : Int) < ((tcs cx).length : Int)) = !decide (cx.length ≤ 30) := by by_cases h : cx.length ≤ 30 <;> simp [h] <;> omega
  unfold okR metasR
  cases hs : checkB sig with
  | false =>
    rw [hs] at hck
    clear hs
    refine call_pure (E := envN6 0) (fn := Tryz.f45) (c := bodyOf Tryz.f45) (envN6_ok 0) mixed (by kernel_rfl) (by kernel_rfl) (by kernel_rfl) (by kernel_rfl) (by kernel_rfl) (by kernel_rfl) rfl ?_
    refine aw_cut _ _ rfl fun C hC => ?_
    conv => whnf
    repeat ((first | (refine aI ?_ ?_; focus exact sI) | refine dI (by kernel_rfl) ?_ | (refine yI ?_ ?_; focus exact sY) | (refine nI ?_ ?_; focus exact sY) | intro _); conv => whnf)
    subst hC
    refine aw_cut _ _ rfl fun C hC => ?_
    conv => whnf
    repeat ((first | (refine aI ?_ ?_; focus exact sI) | refine dI (by kernel_rfl) ?_ | (refine yI ?_ ?_; focus exact sY) | (refine nI ?_ ?_; focus exact sY) | intro _); conv => whnf)
    try (refine dI (by kernel_rfl) ?_; conv => whnf)
    first | refine CallSt.use hck [] trivial (by decide) rfl ?_ | refine CallPt.useS hck [] trivial (by decide) rfl ?_
    rintro _ _ ⟨rfl, rfl⟩ _
    conv => whnf
    repeat ((first | (refine aI ?_ ?_; focus exact sI) | refine dI (by kernel_rfl) ?_ | (refine yI ?_ ?_; focus exact sY) | (refine nI ?_ ?_; focus exact sY) | intro _); conv => whnf)
    subst hC
    repeat ((first | (refine aI ?_ ?_; focus exact sI) | refine dI (by kernel_rfl) ?_ | (refine yI ?_ ?_; focus exact sY) | (refine nI ?_ ?_; focus exact sY) | intro _); conv => whnf)
    all_goals (first | rfl | exact ⟨rfl, rfl⟩ | exact ⟨rfl, rfl, rfl⟩)
  | true =>
    rw [hs] at hck
    clear hs
    by_cases h80 : ms.length ≤ 80
    · rw [decide_eq_true h80] at e80 ⊢
      by_cases h30 : cx.length ≤ 30
      · rw [decide_eq_true h30] at e30 ⊢
        have hco := cConcat2 cx l (by omega) (by omega)
        have han := cAnyG (cx ++ l)
        rw [List.all_append] at han
        refine call_pure (E := envN6 0) (fn := Tryz.f45) (c := bodyOf Tryz.f45) (envN6_ok 0) mixed (by kernel_rfl) (by kernel_rfl) (by kernel_rfl) (by kernel_rfl) (by kernel_rfl) (by kernel_rfl) rfl ?_
        refine aw_cut _ _ rfl fun C hC => ?_
        conv => whnf
        repeat ((first | (refine aI ?_ ?_; focus exact sI) | refine dI (by kernel_rfl) ?_ | (refine yI ?_ ?_; focus exact sY) | (refine nI ?_ ?_; focus exact sY) | intro _); conv => whnf)
        subst hC
        refine aw_cut _ _ rfl fun C hC => ?_
        conv => whnf
        repeat ((first | (refine aI ?_ ?_; focus exact sI) | refine dI (by kernel_rfl) ?_ | (refine yI ?_ ?_; focus exact sY) | (refine nI ?_ ?_; focus exact sY) | intro _); conv => whnf)
        try (refine dI (by kernel_rfl) ?_; conv => whnf)
        first | refine CallSt.use hck [] trivial (by decide) rfl ?_ | refine CallPt.useS hck [] trivial (by decide) rfl ?_
        rintro _ _ ⟨rfl, rfl⟩ _
        conv => whnf
        repeat ((first | (refine aI ?_ ?_; focus exact sI) | refine dI (by kernel_rfl) ?_ | (refine yI ?_ ?_; focus exact sY) | (refine nI ?_ ?_; focus exact sY) | intro _); conv => whnf)
        rw [e80]
        repeat ((first | (refine aI ?_ ?_; focus exact sI) | refine dI (by kernel_rfl) ?_ | (refine yI ?_ ?_; focus exact sY) | (refine nI ?_ ?_; focus exact sY) | intro _); conv => whnf)
        rw [e30]
        repeat ((first | (refine aI ?_ ?_; focus exact sI) | refine dI (by kernel_rfl) ?_ | (refine yI ?_ ?_; focus exact sY) | (refine nI ?_ ?_; focus exact sY) | intro _); conv => whnf)
        subst hC
        conv => whnf
        repeat ((first | (refine aI ?_ ?_; focus exact sI) | refine dI (by kernel_rfl) ?_ | (refine yI ?_ ?_; focus exact sY) | (refine nI ?_ ?_; focus exact sY) | intro _); conv => whnf)
        refine loop_intro (fun m tm H => ∃ j : Nat, ms.length = m + j ∧ (∀ (q : Nat) t, q < j → ms[q]? = some t → metaOk t = true) ∧ tm = [(28, .c (.int .i64 (j))), (27, .c (.int .i64 ((mcs ms).length))), (26, .c (.sl 10 120 (mcs ms))), (3, .c (.sl 4 48 (tcs l))), (2, .c (.sl 4 48 (tcs cx)))] ∧ H = [])
          ms.length _ _ ⟨0, by omega, fun q t h => absurd h (by omega), rfl, rfl⟩ (Wk.sl [] rfl trivial ⟨rfl, rfl, rfl, rfl, rfl, trivial⟩ rfl) ?_
        rintro m tm H ⟨j, hj, hall, rfl, rfl⟩
        conv => whnf
        repeat ((first | (refine aI ?_ ?_; focus exact sI) | refine dI (by kernel_rfl) ?_ | (refine yI ?_ ?_; focus exact sY) | (refine nI ?_ ?_; focus exact sY) | intro _); conv => whnf)
        refine ⟨fun hlt => ?_, fun hlt => ?_⟩
        · replace hlt : (j : Int) < (mcs ms).length := of_decide_eq_true hlt
          obtain ⟨u, hu⟩ := get_some (show j < ms.length by omega)
          have huc := mcs_at hu
          have hfr := cFreeP u.cl
          have hno : metaOk u = false → ms.all metaOk = false := fun h => List.all_eq_false.2 ⟨u, List.mem_of_getElem? hu, by rw [h]; decide⟩
          have hnx : metaOk u = true → ∀ (q : Nat) t, q < j + 1 → ms[q]? = some t → metaOk t = true := fun h q t hq ht => by
            by_cases e : q < j
            · exact hall q t e ht
            · obtain rfl : q = j := by omega
              rw [hu] at ht
              injection ht with ht
              exact ht ▸ h
          cases hpu : prop u.cl with
          | true =>
            rw [hpu] at hfr
            have hmk : metaOk u = decide (conF 1 u.cl = []) := by unfold metaOk; rw [hpu, Bool.true_and]
            clear hpu hu
            cases hF : conF 1 u.cl with
            | nil =>
              rw [hF] at hmk hfr
              replace hnx := hnx (by rw [hmk]; rfl)
              clear hF hmk hno
              obtain ⟨nm, ⟨c1, c2, c3, c4⟩, so, ⟨v1, v2, v3, v4⟩⟩ := u
              rw [tv_mk] at hfr
              conv => whnf
              repeat ((first | (refine aI ?_ ?_; focus exact sI) | refine dI (by kernel_rfl) ?_ | (refine yI ?_ ?_; focus exact sY) | (refine nI ?_ ?_; focus exact sY) | intro _); conv => whnf)
              refine ⟨_, ⟨by omega, huc⟩, ?_⟩
              conv => whnf
              refine ⟨show 10 ≤ 10 by decide, ?_⟩
              conv => whnf
              repeat ((first | (refine aI ?_ ?_; focus exact sI) | refine dI (by kernel_rfl) ?_ | (refine yI ?_ ?_; focus exact sY) | (refine nI ?_ ?_; focus exact sY) | intro _); conv => whnf)
              try (refine dI (by kernel_rfl) ?_; conv => whnf)
              first | refine CallSt.use hfr [] trivial (by decide) rfl ?_ | refine CallPt.useS hfr [] trivial (by decide) rfl ?_
              rintro _ _ ⟨rfl, rfl⟩ _
              conv => whnf
              repeat ((first | (refine aI ?_ ?_; focus exact sI) | refine dI (by kernel_rfl) ?_ | (refine yI ?_ ?_; focus exact sY) | (refine nI ?_ ?_; focus exact sY) | intro _); conv => whnf)
              exact ⟨m - 1, _, _, by omega, ⟨j + 1, by omega, hnx, rfl, rfl⟩, Wk.sl [] rfl trivial ⟨rfl, rfl, rfl, rfl, rfl, trivial⟩ rfl⟩
            | cons z zs =>
              rw [hF] at hmk hfr
              replace hno := hno (by rw [hmk]; simp)
              rw [hno]
              have ez : decide ((0 : Int) < ((rowI (z :: zs)).length : Int)) = true := decide_eq_true (by simp [rowI])
              clear hF hmk hnx
              obtain ⟨nm, ⟨c1, c2, c3, c4⟩, so, ⟨v1, v2, v3, v4⟩⟩ := u
              rw [tv_mk] at hfr
              conv => whnf
              repeat ((first | (refine aI ?_ ?_; focus exact sI) | refine dI (by kernel_rfl) ?_ | (refine yI ?_ ?_; focus exact sY) | (refine nI ?_ ?_; focus exact sY) | intro _); conv => whnf)
              refine ⟨_, ⟨by omega, huc⟩, ?_⟩
              conv => whnf
              refine ⟨show 10 ≤ 10 by decide, ?_⟩
              conv => whnf
              repeat ((first | (refine aI ?_ ?_; focus exact sI) | refine dI (by kernel_rfl) ?_ | (refine yI ?_ ?_; focus exact sY) | (refine nI ?_ ?_; focus exact sY) | intro _); conv => whnf)
              try (refine dI (by kernel_rfl) ?_; conv => whnf)
              first | refine CallSt.use hfr [] trivial (by decide) rfl ?_ | refine CallPt.useS hfr [] trivial (by decide) rfl ?_
              rintro _ _ ⟨rfl, rfl⟩ _
              conv => whnf
              repeat ((first | (refine aI ?_ ?_; focus exact sI) | refine dI (by kernel_rfl) ?_ | (refine yI ?_ ?_; focus exact sY) | (refine nI ?_ ?_; focus exact sY) | intro _); conv => whnf)
              rw [ez]
              (refine ⟨fun _ => ?_, fun h => absurd h (by simp)⟩; conv => whnf)
              repeat ((first | (refine aI ?_ ?_; focus exact sI) | refine dI (by kernel_rfl) ?_ | (refine yI ?_ ?_; focus exact sY) | (refine nI ?_ ?_; focus exact sY) | intro _); conv => whnf)
              all_goals (first | rfl | exact ⟨rfl, rfl⟩ | exact ⟨rfl, rfl, rfl⟩)
          | false =>
            rw [hpu] at hfr
            rw [hno (by unfold metaOk; rw [hpu]; rfl)]
            clear hpu hu hno hnx
            obtain ⟨nm, ⟨c1, c2, c3, c4⟩, so, ⟨v1, v2, v3, v4⟩⟩ := u
            rw [tv_mk] at hfr
            conv => whnf
            repeat ((first | (refine aI ?_ ?_; focus exact sI) | refine dI (by kernel_rfl) ?_ | (refine yI ?_ ?_; focus exact sY) | (refine nI ?_ ?_; focus exact sY) | intro _); conv => whnf)
            refine ⟨_, ⟨by omega, huc⟩, ?_⟩
            conv => whnf
            refine ⟨show 10 ≤ 10 by decide, ?_⟩
            conv => whnf
            repeat ((first | (refine aI ?_ ?_; focus exact sI) | refine dI (by kernel_rfl) ?_ | (refine yI ?_ ?_; focus exact sY) | (refine nI ?_ ?_; focus exact sY) | intro _); conv => whnf)
            try (refine dI (by kernel_rfl) ?_; conv => whnf)
            first | refine CallSt.use hfr [] trivial (by decide) rfl ?_ | refine CallPt.useS hfr [] trivial (by decide) rfl ?_
            rintro _ _ ⟨rfl, rfl⟩ _
            conv => whnf
            repeat ((first | (refine aI ?_ ?_; focus exact sI) | refine dI (by kernel_rfl) ?_ | (refine yI ?_ ?_; focus exact sY) | (refine nI ?_ ?_; focus exact sY) | intro _); conv => whnf)
            repeat ((first | (refine aI ?_ ?_; focus exact sI) | refine dI (by kernel_rfl) ?_ | (refine yI ?_ ?_; focus exact sY) | (refine nI ?_ ?_; focus exact sY) | intro _); conv => whnf)
            all_goals (first | rfl | exact ⟨rfl, rfl⟩ | exact ⟨rfl, rfl, rfl⟩)
        · replace hlt : ¬ (j : Int) < (mcs ms).length := of_decide_eq_false hlt
          have e : ms.all metaOk = true := List.all_eq_true.2 fun t ht => by
            obtain ⟨i, hi⟩ := List.mem_iff_getElem?.1 ht
            exact hall i t (by have := (List.getElem?_eq_some_iff.1 hi).1; omega) hi
          rw [e]
          conv => whnf
          repeat ((first | (refine aI ?_ ?_; focus exact sI) | refine dI (by kernel_rfl) ?_ | (refine yI ?_ ?_; focus exact sY) | (refine nI ?_ ?_; focus exact sY) | intro _); conv => whnf)
          try (refine dI (by kernel_rfl) ?_; conv => whnf)
          first | refine CallSt.use hco [] trivial (by decide) rfl ?_ | refine CallPt.useS hco [] trivial (by decide) rfl ?_
          rintro _ _ ⟨rfl, rfl⟩ _
          conv => whnf
          repeat ((first | (refine aI ?_ ?_; focus exact sI) | refine dI (by kernel_rfl) ?_ | (refine yI ?_ ?_; focus exact sY) | (refine nI ?_ ?_; focus exact sY) | intro _); conv => whnf)
          try (refine dI (by kernel_rfl) ?_; conv => whnf)
          first | refine CallSt.use han [] trivial (by decide) rfl ?_ | refine CallPt.useS han [] trivial (by decide) rfl ?_
          rintro _ _ ⟨rfl, rfl⟩ _
          conv => whnf
          repeat ((first | (refine aI ?_ ?_; focus exact sI) | refine dI (by kernel_rfl) ?_ | (refine yI ?_ ?_; focus exact sY) | (refine nI ?_ ?_; focus exact sY) | intro _); conv => whnf)
          exact ⟨congrArg (fun z => AV.c (.bool z)) (by simp), rfl⟩
      · rw [decide_eq_false h30] at e30 ⊢
        refine call_pure (E := envN6 0) (fn := Tryz.f45) (c := bodyOf Tryz.f45) (envN6_ok 0) mixed (by kernel_rfl) (by kernel_rfl) (by kernel_rfl) (by kernel_rfl) (by kernel_rfl) (by kernel_rfl) rfl ?_
        refine aw_cut _ _ rfl fun C hC => ?_
        conv => whnf
        repeat ((first | (refine aI ?_ ?_; focus exact sI) | refine dI (by kernel_rfl) ?_ | (refine yI ?_ ?_; focus exact sY) | (refine nI ?_ ?_; focus exact sY) | intro _); conv => whnf)
        subst hC
        refine aw_cut _ _ rfl fun C hC => ?_
        conv => whnf
        repeat ((first | (refine aI ?_ ?_; focus exact sI) | refine dI (by kernel_rfl) ?_ | (refine yI ?_ ?_; focus exact sY) | (refine nI ?_ ?_; focus exact sY) | intro _); conv => whnf)
        try (refine dI (by kernel_rfl) ?_; conv => whnf)
        first | refine CallSt.use hck [] trivial (by decide) rfl ?_ | refine CallPt.useS hck [] trivial (by decide) rfl ?_
        rintro _ _ ⟨rfl, rfl⟩ _
        conv => whnf
        repeat ((first | (refine aI ?_ ?_; focus exact sI) | refine dI (by kernel_rfl) ?_ | (refine yI ?_ ?_; focus exact sY) | (refine nI ?_ ?_; focus exact sY) | intro _); conv => whnf)
        rw [e80]
        repeat ((first | (refine aI ?_ ?_; focus exact sI) | refine dI (by kernel_rfl) ?_ | (refine yI ?_ ?_; focus exact sY) | (refine nI ?_ ?_; focus exact sY) | intro _); conv => whnf)
        rw [e30]
        repeat ((first | (refine aI ?_ ?_; focus exact sI) | refine dI (by kernel_rfl) ?_ | (refine yI ?_ ?_; focus exact sY) | (refine nI ?_ ?_; focus exact sY) | intro _); conv => whnf)
        subst hC
        repeat ((first | (refine aI ?_ ?_; focus exact sI) | refine dI (by kernel_rfl) ?_ | (refine yI ?_ ?_; focus exact sY) | (refine nI ?_ ?_; focus exact sY) | intro _); conv => whnf)
        exact ⟨congrArg (fun z => AV.c (.bool z)) (by simp), rfl⟩
    · rw [decide_eq_false h80] at e80 ⊢
      refine call_pure (E := envN6 0) (fn := Tryz.f45) (c := bodyOf Tryz.f45) (envN6_ok 0) mixed (by kernel_rfl) (by kernel_rfl) (by kernel_rfl) (by kernel_rfl) (by kernel_rfl) (by kernel_rfl) rfl ?_
      refine aw_cut _ _ rfl fun C hC => ?_
      conv => whnf
      repeat ((first | (refine aI ?_ ?_; focus exact sI) | refine dI (by kernel_rfl) ?_ | (refine yI ?_ ?_; focus exact sY) | (refine nI ?_ ?_; focus exact sY) | intro _); conv => whnf)
      subst hC
      refine aw_cut _ _ rfl fun C hC => ?_
      conv => whnf
      repeat ((first | (refine aI ?_ ?_; focus exact sI) | refine dI (by kernel_rfl) ?_ | (refine yI ?_ ?_; focus exact sY) | (refine nI ?_ ?_; focus exact sY) | intro _); conv => whnf)
      try (refine dI (by kernel_rfl) ?_; conv => whnf)
      first | refine CallSt.use hck [] trivial (by decide) rfl ?_ | refine CallPt.useS hck [] trivial (by decide) rfl ?_
      rintro _ _ ⟨rfl, rfl⟩ _
      conv => whnf
      repeat ((first | (refine aI ?_ ?_; focus exact sI) | refine dI (by kernel_rfl) ?_ | (refine yI ?_ ?_; focus exact sY) | (refine nI ?_ ?_; focus exact sY) | intro _); conv => whnf)
      rw [e80]
      repeat ((first | (refine aI ?_ ?_; focus exact sI) | refine dI (by kernel_rfl) ?_ | (refine yI ?_ ?_; focus exact sY) | (refine nI ?_ ?_; focus exact sY) | intro _); conv => whnf)
      subst hC
      repeat ((first | (refine aI ?_ ?_; focus exact sI) | refine dI (by kernel_rfl) ?_ | (refine yI ?_ ?_; focus exact sY) | (refine nI ?_ ?_; focus exact sY) | intro _); conv => whnf)
      all_goals (first | rfl | exact ⟨rfl, rfl⟩ | exact ⟨rfl, rfl, rfl⟩)
end Go.Tr
/- The program's kernel: Type, Kind, Object, Infer. -/
namespace Go.Tr
open Go.Proofs
theorem okR_K {sig : List Dcl} {ms : List Mta} {cx l : List Term} (h : okR sig ms cx l = true) : KOk ⟨sig, ms⟩ ∧ COk cx ∧ (∀ t ∈ l, prop t = true) ∧ checkB sig = true := by
  unfold okR at h
  simp only [Bool.and_eq_true, decide_eq_true_eq, List.all_eq_true] at h
  obtain ⟨h1, h2, h3, h4, h5⟩ := h
  unfold metasR at h2
  simp only [Bool.and_eq_true, decide_eq_true_eq, List.all_eq_true] at h2
  have h6 := check_prop h1
  have h7 := check_len h1
  refine ⟨⟨h6, fun m hm => ?_, by simp only; omega, by simp only; omega⟩, ⟨h4, h3⟩, h5, h1⟩
  have := h2.2 m hm
  unfold metaOk at this
  rw [Bool.and_eq_true] at this
  exact this.1
def ktypF (sig : List Dcl) (ms : List Mta) (cx : List Term) (a : Term) : Int := match okR sig ms cx [a] with | true => typF ⟨sig, ms⟩ a cx | false => 2
def kkndF (sig : List Dcl) (ms : List Mta) (cx : List Term) (a : Term) : Int := match okR sig ms cx [a] with | true => kndF ⟨sig, ms⟩ a cx | false => 2
def kobjF (sig : List Dcl) (ms : List Mta) (cx : List Term) (m a : Term) : Int := match okR sig ms cx [m, a] with | true => objF ⟨sig, ms⟩ m cx a | false => 2
theorem cKType (sig : List Dcl) (ms : List Mta) (cx : List Term) (a : Term) : CallSt Tryz.prog 16 [.c (.sl 6 72 (dcs sig)), .c (.sl 10 120 (mcs ms)), .c (.sl 4 48 (tcs cx)), tv a] [] (fun r H' => r = .c (.int .i64 (ktypF sig ms cx a)) ∧ H' = []) := by
  unfold ktypF
  have hg := cGood sig ms cx [a] (by simp)
  have hov := cOver sig ms
  cases hok : okR sig ms cx [a] with
  | false =>
    rw [hok] at hg
    clear hok
    obtain ⟨a1, a2, a3, a4⟩ := a
    rw [tv_mk]
    refine call_pure (E := envC6 0) (fn := Tryz.f16) (c := bodyOf Tryz.f16) (envC6_ok 0) mixed (by kernel_rfl) (by kernel_rfl) (by kernel_rfl) (by kernel_rfl) (by kernel_rfl) (by kernel_rfl) rfl ?_
    refine aw_cut _ _ rfl fun C hC => ?_
    conv => whnf
    repeat ((first | (refine aI ?_ ?_; focus exact sI) | refine dI (by kernel_rfl) ?_ | (refine yI ?_ ?_; focus exact sY) | (refine nI ?_ ?_; focus exact sY) | intro _); conv => whnf)
    subst hC
    refine aw_cut _ _ rfl fun C hC => ?_
    conv => whnf
    repeat ((first | (refine aI ?_ ?_; focus exact sI) | refine dI (by kernel_rfl) ?_ | (refine yI ?_ ?_; focus exact sY) | (refine nI ?_ ?_; focus exact sY) | intro _); conv => whnf)
    try (refine dI (by kernel_rfl) ?_; conv => whnf)
    first | refine CallSt.use hg [] trivial (by decide) rfl ?_ | refine CallPt.useS hg [] trivial (by decide) rfl ?_
    rintro _ _ ⟨rfl, rfl⟩ _
    conv => whnf
    repeat ((first | (refine aI ?_ ?_; focus exact sI) | refine dI (by kernel_rfl) ?_ | (refine yI ?_ ?_; focus exact sY) | (refine nI ?_ ?_; focus exact sY) | intro _); conv => whnf)
    subst hC
    repeat ((first | (refine aI ?_ ?_; focus exact sI) | refine dI (by kernel_rfl) ?_ | (refine yI ?_ ?_; focus exact sY) | (refine nI ?_ ?_; focus exact sY) | intro _); conv => whnf)
    all_goals (first | rfl | exact ⟨rfl, rfl⟩ | exact ⟨rfl, rfl, rfl⟩)
  | true =>
    obtain ⟨hK, hc, hl, _⟩ := okR_K hok
    have ht := cSType ⟨sig, ms⟩ hK a (hl a (by simp)) cx hc
    rw [hok] at hg
    clear hok hl
    obtain ⟨a1, a2, a3, a4⟩ := a
    rw [tv_mk] at ht
    rw [tv_mk]
    refine call_pure (E := envC6 0) (fn := Tryz.f16) (c := bodyOf Tryz.f16) (envC6_ok 0) mixed (by kernel_rfl) (by kernel_rfl) (by kernel_rfl) (by kernel_rfl) (by kernel_rfl) (by kernel_rfl) rfl ?_
    refine aw_cut _ _ rfl fun C hC => ?_
    conv => whnf
    repeat ((first | (refine aI ?_ ?_; focus exact sI) | refine dI (by kernel_rfl) ?_ | (refine yI ?_ ?_; focus exact sY) | (refine nI ?_ ?_; focus exact sY) | intro _); conv => whnf)
    subst hC
    refine aw_cut _ _ rfl fun C hC => ?_
    conv => whnf
    repeat ((first | (refine aI ?_ ?_; focus exact sI) | refine dI (by kernel_rfl) ?_ | (refine yI ?_ ?_; focus exact sY) | (refine nI ?_ ?_; focus exact sY) | intro _); conv => whnf)
    try (refine dI (by kernel_rfl) ?_; conv => whnf)
    first | refine CallSt.use hg [] trivial (by decide) rfl ?_ | refine CallPt.useS hg [] trivial (by decide) rfl ?_
    rintro _ _ ⟨rfl, rfl⟩ _
    conv => whnf
    repeat ((first | (refine aI ?_ ?_; focus exact sI) | refine dI (by kernel_rfl) ?_ | (refine yI ?_ ?_; focus exact sY) | (refine nI ?_ ?_; focus exact sY) | intro _); conv => whnf)
    subst hC
    conv => whnf
    repeat ((first | (refine aI ?_ ?_; focus exact sI) | refine dI (by kernel_rfl) ?_ | (refine yI ?_ ?_; focus exact sY) | (refine nI ?_ ?_; focus exact sY) | intro _); conv => whnf)
    try (refine dI (by kernel_rfl) ?_; conv => whnf)
    first | refine CallSt.use hov [] trivial (by decide) rfl ?_ | refine CallPt.useS hov [] trivial (by decide) rfl ?_
    rintro _ _ ⟨rfl, rfl⟩ _
    conv => whnf
    repeat ((first | (refine aI ?_ ?_; focus exact sI) | refine dI (by kernel_rfl) ?_ | (refine yI ?_ ?_; focus exact sY) | (refine nI ?_ ?_; focus exact sY) | intro _); conv => whnf)
    try (refine dI (by kernel_rfl) ?_; conv => whnf)
    first | refine CallSt.use ht [] trivial (by decide) rfl ?_ | refine CallPt.useS ht [] trivial (by decide) rfl ?_
    rintro _ _ ⟨rfl, rfl⟩ _
    conv => whnf
    repeat ((first | (refine aI ?_ ?_; focus exact sI) | refine dI (by kernel_rfl) ?_ | (refine yI ?_ ?_; focus exact sY) | (refine nI ?_ ?_; focus exact sY) | intro _); conv => whnf)
    all_goals (first | rfl | exact ⟨rfl, rfl⟩ | exact ⟨rfl, rfl, rfl⟩)
theorem cKKind (sig : List Dcl) (ms : List Mta) (cx : List Term) (a : Term) : CallSt Tryz.prog 22 [.c (.sl 6 72 (dcs sig)), .c (.sl 10 120 (mcs ms)), .c (.sl 4 48 (tcs cx)), tv a] [] (fun r H' => r = .c (.int .i64 (kkndF sig ms cx a)) ∧ H' = []) := by
  unfold kkndF
  have hg := cGood sig ms cx [a] (by simp)
  have hov := cOver sig ms
  cases hok : okR sig ms cx [a] with
  | false =>
    rw [hok] at hg
    clear hok
    obtain ⟨a1, a2, a3, a4⟩ := a
    rw [tv_mk]
    refine call_pure (E := envC6 0) (fn := Tryz.f22) (c := bodyOf Tryz.f22) (envC6_ok 0) mixed (by kernel_rfl) (by kernel_rfl) (by kernel_rfl) (by kernel_rfl) (by kernel_rfl) (by kernel_rfl) rfl ?_
    refine aw_cut _ _ rfl fun C hC => ?_
    conv => whnf
    repeat ((first | (refine aI ?_ ?_; focus exact sI) | refine dI (by kernel_rfl) ?_ | (refine yI ?_ ?_; focus exact sY) | (refine nI ?_ ?_; focus exact sY) | intro _); conv => whnf)
    subst hC
    refine aw_cut _ _ rfl fun C hC => ?_
    conv => whnf
    repeat ((first | (refine aI ?_ ?_; focus exact sI) | refine dI (by kernel_rfl) ?_ | (refine yI ?_ ?_; focus exact sY) | (refine nI ?_ ?_; focus exact sY) | intro _); conv => whnf)
    try (refine dI (by kernel_rfl) ?_; conv => whnf)
    first | refine CallSt.use hg [] trivial (by decide) rfl ?_ | refine CallPt.useS hg [] trivial (by decide) rfl ?_
    rintro _ _ ⟨rfl, rfl⟩ _
    conv => whnf
    repeat ((first | (refine aI ?_ ?_; focus exact sI) | refine dI (by kernel_rfl) ?_ | (refine yI ?_ ?_; focus exact sY) | (refine nI ?_ ?_; focus exact sY) | intro _); conv => whnf)
    subst hC
    repeat ((first | (refine aI ?_ ?_; focus exact sI) | refine dI (by kernel_rfl) ?_ | (refine yI ?_ ?_; focus exact sY) | (refine nI ?_ ?_; focus exact sY) | intro _); conv => whnf)
    all_goals (first | rfl | exact ⟨rfl, rfl⟩ | exact ⟨rfl, rfl, rfl⟩)
  | true =>
    obtain ⟨hK, hc, hl, _⟩ := okR_K hok
    have ht := cSKind ⟨sig, ms⟩ hK a (hl a (by simp)) cx hc
    rw [hok] at hg
    clear hok hl
    obtain ⟨a1, a2, a3, a4⟩ := a
    rw [tv_mk] at ht
    rw [tv_mk]
    refine call_pure (E := envC6 0) (fn := Tryz.f22) (c := bodyOf Tryz.f22) (envC6_ok 0) mixed (by kernel_rfl) (by kernel_rfl) (by kernel_rfl) (by kernel_rfl) (by kernel_rfl) (by kernel_rfl) rfl ?_
    refine aw_cut _ _ rfl fun C hC => ?_
    conv => whnf
    repeat ((first | (refine aI ?_ ?_; focus exact sI) | refine dI (by kernel_rfl) ?_ | (refine yI ?_ ?_; focus exact sY) | (refine nI ?_ ?_; focus exact sY) | intro _); conv => whnf)
    subst hC
    refine aw_cut _ _ rfl fun C hC => ?_
    conv => whnf
    repeat ((first | (refine aI ?_ ?_; focus exact sI) | refine dI (by kernel_rfl) ?_ | (refine yI ?_ ?_; focus exact sY) | (refine nI ?_ ?_; focus exact sY) | intro _); conv => whnf)
    try (refine dI (by kernel_rfl) ?_; conv => whnf)
    first | refine CallSt.use hg [] trivial (by decide) rfl ?_ | refine CallPt.useS hg [] trivial (by decide) rfl ?_
    rintro _ _ ⟨rfl, rfl⟩ _
    conv => whnf
    repeat ((first | (refine aI ?_ ?_; focus exact sI) | refine dI (by kernel_rfl) ?_ | (refine yI ?_ ?_; focus exact sY) | (refine nI ?_ ?_; focus exact sY) | intro _); conv => whnf)
    subst hC
    conv => whnf
    repeat ((first | (refine aI ?_ ?_; focus exact sI) | refine dI (by kernel_rfl) ?_ | (refine yI ?_ ?_; focus exact sY) | (refine nI ?_ ?_; focus exact sY) | intro _); conv => whnf)
    try (refine dI (by kernel_rfl) ?_; conv => whnf)
    first | refine CallSt.use hov [] trivial (by decide) rfl ?_ | refine CallPt.useS hov [] trivial (by decide) rfl ?_
    rintro _ _ ⟨rfl, rfl⟩ _
    conv => whnf
    repeat ((first | (refine aI ?_ ?_; focus exact sI) | refine dI (by kernel_rfl) ?_ | (refine yI ?_ ?_; focus exact sY) | (refine nI ?_ ?_; focus exact sY) | intro _); conv => whnf)
    try (refine dI (by kernel_rfl) ?_; conv => whnf)
    first | refine CallSt.use ht [] trivial (by decide) rfl ?_ | refine CallPt.useS ht [] trivial (by decide) rfl ?_
    rintro _ _ ⟨rfl, rfl⟩ _
    conv => whnf
    repeat ((first | (refine aI ?_ ?_; focus exact sI) | refine dI (by kernel_rfl) ?_ | (refine yI ?_ ?_; focus exact sY) | (refine nI ?_ ?_; focus exact sY) | intro _); conv => whnf)
    all_goals (first | rfl | exact ⟨rfl, rfl⟩ | exact ⟨rfl, rfl, rfl⟩)
theorem cKObject (sig : List Dcl) (ms : List Mta) (cx : List Term) (m a : Term) : CallSt Tryz.prog 15 [.c (.sl 6 72 (dcs sig)), .c (.sl 10 120 (mcs ms)), .c (.sl 4 48 (tcs cx)), tv m, tv a] [] (fun r H' => r = .c (.int .i64 (kobjF sig ms cx m a)) ∧ H' = []) := by
  unfold kobjF
  have hg := cGood sig ms cx [m, a] (by simp)
  have hov := cOver sig ms
  cases hok : okR sig ms cx [m, a] with
  | false =>
    rw [hok] at hg
    clear hok
    obtain ⟨a1, a2, a3, a4⟩ := a
    obtain ⟨m1, m2, m3, m4⟩ := m
    rw [tv_mk, tv_mk]
    refine call_pure (E := envC6 0) (fn := Tryz.f15) (c := bodyOf Tryz.f15) (envC6_ok 0) mixed (by kernel_rfl) (by kernel_rfl) (by kernel_rfl) (by kernel_rfl) (by kernel_rfl) (by kernel_rfl) rfl ?_
    refine aw_cut _ _ rfl fun C hC => ?_
    conv => whnf
    repeat ((first | (refine aI ?_ ?_; focus exact sI) | refine dI (by kernel_rfl) ?_ | (refine yI ?_ ?_; focus exact sY) | (refine nI ?_ ?_; focus exact sY) | intro _); conv => whnf)
    subst hC
    refine aw_cut _ _ rfl fun C hC => ?_
    conv => whnf
    repeat ((first | (refine aI ?_ ?_; focus exact sI) | refine dI (by kernel_rfl) ?_ | (refine yI ?_ ?_; focus exact sY) | (refine nI ?_ ?_; focus exact sY) | intro _); conv => whnf)
    try (refine dI (by kernel_rfl) ?_; conv => whnf)
    first | refine CallSt.use hg [] trivial (by decide) rfl ?_ | refine CallPt.useS hg [] trivial (by decide) rfl ?_
    rintro _ _ ⟨rfl, rfl⟩ _
    conv => whnf
    repeat ((first | (refine aI ?_ ?_; focus exact sI) | refine dI (by kernel_rfl) ?_ | (refine yI ?_ ?_; focus exact sY) | (refine nI ?_ ?_; focus exact sY) | intro _); conv => whnf)
    subst hC
    repeat ((first | (refine aI ?_ ?_; focus exact sI) | refine dI (by kernel_rfl) ?_ | (refine yI ?_ ?_; focus exact sY) | (refine nI ?_ ?_; focus exact sY) | intro _); conv => whnf)
    all_goals (first | rfl | exact ⟨rfl, rfl⟩ | exact ⟨rfl, rfl, rfl⟩)
  | true =>
    obtain ⟨hK, hc, hl, _⟩ := okR_K hok
    have ht := cSObject ⟨sig, ms⟩ hK m (hl m (by simp)) cx a hc (hl a (by simp))
    rw [hok] at hg
    clear hok hl
    obtain ⟨a1, a2, a3, a4⟩ := a
    obtain ⟨m1, m2, m3, m4⟩ := m
    rw [tv_mk, tv_mk] at ht
    rw [tv_mk, tv_mk]
    refine call_pure (E := envC6 0) (fn := Tryz.f15) (c := bodyOf Tryz.f15) (envC6_ok 0) mixed (by kernel_rfl) (by kernel_rfl) (by kernel_rfl) (by kernel_rfl) (by kernel_rfl) (by kernel_rfl) rfl ?_
    refine aw_cut _ _ rfl fun C hC => ?_
    conv => whnf
    repeat ((first | (refine aI ?_ ?_; focus exact sI) | refine dI (by kernel_rfl) ?_ | (refine yI ?_ ?_; focus exact sY) | (refine nI ?_ ?_; focus exact sY) | intro _); conv => whnf)
    subst hC
    refine aw_cut _ _ rfl fun C hC => ?_
    conv => whnf
    repeat ((first | (refine aI ?_ ?_; focus exact sI) | refine dI (by kernel_rfl) ?_ | (refine yI ?_ ?_; focus exact sY) | (refine nI ?_ ?_; focus exact sY) | intro _); conv => whnf)
    try (refine dI (by kernel_rfl) ?_; conv => whnf)
    first | refine CallSt.use hg [] trivial (by decide) rfl ?_ | refine CallPt.useS hg [] trivial (by decide) rfl ?_
    rintro _ _ ⟨rfl, rfl⟩ _
    conv => whnf
    repeat ((first | (refine aI ?_ ?_; focus exact sI) | refine dI (by kernel_rfl) ?_ | (refine yI ?_ ?_; focus exact sY) | (refine nI ?_ ?_; focus exact sY) | intro _); conv => whnf)
    subst hC
    conv => whnf
    repeat ((first | (refine aI ?_ ?_; focus exact sI) | refine dI (by kernel_rfl) ?_ | (refine yI ?_ ?_; focus exact sY) | (refine nI ?_ ?_; focus exact sY) | intro _); conv => whnf)
    try (refine dI (by kernel_rfl) ?_; conv => whnf)
    first | refine CallSt.use hov [] trivial (by decide) rfl ?_ | refine CallPt.useS hov [] trivial (by decide) rfl ?_
    rintro _ _ ⟨rfl, rfl⟩ _
    conv => whnf
    repeat ((first | (refine aI ?_ ?_; focus exact sI) | refine dI (by kernel_rfl) ?_ | (refine yI ?_ ?_; focus exact sY) | (refine nI ?_ ?_; focus exact sY) | intro _); conv => whnf)
    try (refine dI (by kernel_rfl) ?_; conv => whnf)
    first | refine CallSt.use ht [] trivial (by decide) rfl ?_ | refine CallPt.useS ht [] trivial (by decide) rfl ?_
    rintro _ _ ⟨rfl, rfl⟩ _
    conv => whnf
    repeat ((first | (refine aI ?_ ?_; focus exact sI) | refine dI (by kernel_rfl) ?_ | (refine yI ?_ ?_; focus exact sY) | (refine nI ?_ ?_; focus exact sY) | intro _); conv => whnf)
    all_goals (first | rfl | exact ⟨rfl, rfl⟩ | exact ⟨rfl, rfl, rfl⟩)
end Go.Tr
/- The program's kernel: Context, class, Signature, Declare. -/
namespace Go.Tr
open Go.Proofs
def ksigF (sig : List Dcl) : Int × Int := match checkB sig with | true => sigF sig 0 sig | false => (0, 2)
theorem cSCla (sig : List Dcl) (hK : KOk ⟨sig, []⟩) (c : Term) (hp : prop c = true) : CallSt Tryz.prog 53 [.c (.sl 6 72 (dcs sig)), tv c] [] (fun r H' => r = .c (.int .i64 (claF ⟨sig, []⟩ c)) ∧ H' = []) := by
  have hs := c68 c 1 (prop_fm1 hp) (by decide)
  have hov := cOver sig []
  have h1 := cSKind ⟨sig, []⟩ hK c hp [] COk.nil
  have h2 := cSType ⟨sig, []⟩ hK c hp [] COk.nil
  rw [show tcs [] = [] by rw [tcs]] at h1 h2
  rw [show mcs [] = [] from rfl] at hov
  unfold claF kindT
  obtain ⟨D, hD⟩ : ∃ D, D = domT c := ⟨_, rfl⟩
  rw [← hD] at hs ⊢
  clear hD
  obtain ⟨D, ⟨d1, d2, d3, d4⟩⟩ := D
  simp only at hs h1 h2 ⊢
  rw [show (Term.mk d1 d2 d3 d4).k = d1 from rfl]
  by_cases hk : d1 = 1
  · rw [if_pos (decide_eq_true hk)]
    have e1 : decide (d1 = 1) = true := decide_eq_true hk
    obtain ⟨x1, x2, x3, x4⟩ := c
    rw [tv_mk] at hs h1 h2
    rw [tv_mk] at hs
    rw [tv_mk]
    refine call_pure (E := envC6 0) (fn := Tryz.f53) (c := bodyOf Tryz.f53) (envC6_ok 0) mixed (by kernel_rfl) (by kernel_rfl) (by kernel_rfl) (by kernel_rfl) (by kernel_rfl) (by kernel_rfl) rfl ?_
    refine aw_cut _ _ rfl fun C hC => ?_
    conv => whnf
    repeat ((first | (refine aI ?_ ?_; focus exact sI) | refine dI (by kernel_rfl) ?_ | (refine yI ?_ ?_; focus exact sY) | (refine nI ?_ ?_; focus exact sY) | intro _); conv => whnf)
    subst hC
    refine aw_cut _ _ rfl fun C hC => ?_
    conv => whnf
    repeat ((first | (refine aI ?_ ?_; focus exact sI) | refine dI (by kernel_rfl) ?_ | (refine yI ?_ ?_; focus exact sY) | (refine nI ?_ ?_; focus exact sY) | intro _); conv => whnf)
    try (refine dI (by kernel_rfl) ?_; conv => whnf)
    first | refine CallSt.use hov [] trivial (by decide) rfl ?_ | refine CallPt.useS hov [] trivial (by decide) rfl ?_
    rintro _ _ ⟨rfl, rfl⟩ _
    conv => whnf
    repeat ((first | (refine aI ?_ ?_; focus exact sI) | refine dI (by kernel_rfl) ?_ | (refine yI ?_ ?_; focus exact sY) | (refine nI ?_ ?_; focus exact sY) | intro _); conv => whnf)
    subst hC
    refine aw_cut _ _ rfl fun C hC => ?_
    conv => whnf
    repeat ((first | (refine aI ?_ ?_; focus exact sI) | refine dI (by kernel_rfl) ?_ | (refine yI ?_ ?_; focus exact sY) | (refine nI ?_ ?_; focus exact sY) | intro _); conv => whnf)
    try (refine dI (by kernel_rfl) ?_; conv => whnf)
    first | refine CallSt.use hs [] trivial (by decide) rfl ?_ | refine CallPt.useS hs [] trivial (by decide) rfl ?_
    rintro _ _ ⟨rfl, rfl⟩ _
    conv => whnf
    repeat ((first | (refine aI ?_ ?_; focus exact sI) | refine dI (by kernel_rfl) ?_ | (refine yI ?_ ?_; focus exact sY) | (refine nI ?_ ?_; focus exact sY) | intro _); conv => whnf)
    rw [e1]
    (refine ⟨fun _ => ?_, fun h => absurd h ?_⟩; rotate_left; (focus (first | decide | (simp; done) | (simp [tcs]; done))); conv => whnf)
    try (refine dI (by kernel_rfl) ?_; conv => whnf)
    first | refine CallSt.use h1 [] trivial (by decide) rfl ?_ | refine CallPt.useS h1 [] trivial (by decide) rfl ?_
    rintro _ _ ⟨rfl, rfl⟩ _
    conv => whnf
    subst hC
    repeat ((first | (refine aI ?_ ?_; focus exact sI) | refine dI (by kernel_rfl) ?_ | (refine yI ?_ ?_; focus exact sY) | (refine nI ?_ ?_; focus exact sY) | intro _); conv => whnf)
    all_goals (first | rfl | exact ⟨rfl, rfl⟩ | exact ⟨rfl, rfl, rfl⟩)
  · have e1 : decide (d1 = 1) = false := decide_eq_false hk
    rw [if_neg (by rw [e1]; decide)]
    obtain ⟨x1, x2, x3, x4⟩ := c
    rw [tv_mk] at hs h1 h2
    rw [tv_mk] at hs
    rw [tv_mk]
    refine call_pure (E := envC6 0) (fn := Tryz.f53) (c := bodyOf Tryz.f53) (envC6_ok 0) mixed (by kernel_rfl) (by kernel_rfl) (by kernel_rfl) (by kernel_rfl) (by kernel_rfl) (by kernel_rfl) rfl ?_
    refine aw_cut _ _ rfl fun C hC => ?_
    conv => whnf
    repeat ((first | (refine aI ?_ ?_; focus exact sI) | refine dI (by kernel_rfl) ?_ | (refine yI ?_ ?_; focus exact sY) | (refine nI ?_ ?_; focus exact sY) | intro _); conv => whnf)
    subst hC
    refine aw_cut _ _ rfl fun C hC => ?_
    conv => whnf
    repeat ((first | (refine aI ?_ ?_; focus exact sI) | refine dI (by kernel_rfl) ?_ | (refine yI ?_ ?_; focus exact sY) | (refine nI ?_ ?_; focus exact sY) | intro _); conv => whnf)
    try (refine dI (by kernel_rfl) ?_; conv => whnf)
    first | refine CallSt.use hov [] trivial (by decide) rfl ?_ | refine CallPt.useS hov [] trivial (by decide) rfl ?_
    rintro _ _ ⟨rfl, rfl⟩ _
    conv => whnf
    repeat ((first | (refine aI ?_ ?_; focus exact sI) | refine dI (by kernel_rfl) ?_ | (refine yI ?_ ?_; focus exact sY) | (refine nI ?_ ?_; focus exact sY) | intro _); conv => whnf)
    subst hC
    refine aw_cut _ _ rfl fun C hC => ?_
    conv => whnf
    repeat ((first | (refine aI ?_ ?_; focus exact sI) | refine dI (by kernel_rfl) ?_ | (refine yI ?_ ?_; focus exact sY) | (refine nI ?_ ?_; focus exact sY) | intro _); conv => whnf)
    try (refine dI (by kernel_rfl) ?_; conv => whnf)
    first | refine CallSt.use hs [] trivial (by decide) rfl ?_ | refine CallPt.useS hs [] trivial (by decide) rfl ?_
    rintro _ _ ⟨rfl, rfl⟩ _
    conv => whnf
    repeat ((first | (refine aI ?_ ?_; focus exact sI) | refine dI (by kernel_rfl) ?_ | (refine yI ?_ ?_; focus exact sY) | (refine nI ?_ ?_; focus exact sY) | intro _); conv => whnf)
    rw [e1]
    (refine ⟨fun h => absurd h ?_, fun _ => ?_⟩; (focus (first | decide | (simp; done) | (simp [tcs]; done))); conv => whnf)
    subst hC
    conv => whnf
    repeat ((first | (refine aI ?_ ?_; focus exact sI) | refine dI (by kernel_rfl) ?_ | (refine yI ?_ ?_; focus exact sY) | (refine nI ?_ ?_; focus exact sY) | intro _); conv => whnf)
    try (refine dI (by kernel_rfl) ?_; conv => whnf)
    first | refine CallSt.use h2 [] trivial (by decide) rfl ?_ | refine CallPt.useS h2 [] trivial (by decide) rfl ?_
    rintro _ _ ⟨rfl, rfl⟩ _
    conv => whnf
    repeat ((first | (refine aI ?_ ?_; focus exact sI) | refine dI (by kernel_rfl) ?_ | (refine yI ?_ ?_; focus exact sY) | (refine nI ?_ ?_; focus exact sY) | intro _); conv => whnf)
    all_goals (first | rfl | exact ⟨rfl, rfl⟩ | exact ⟨rfl, rfl, rfl⟩)
theorem cKSignature (sig : List Dcl) : CallSt Tryz.prog 20 [.c (.sl 6 72 (dcs sig))] [] (fun r H' => r = .tup [.c (.int .i64 ((ksigF sig).1)), .c (.int .i64 ((ksigF sig).2))] ∧ H' = []) := by
  unfold ksigF
  have hck := cCheck sig
  have hsl := len_dcs sig
  cases hs : checkB sig with
  | false =>
    rw [hs] at hck
    clear hs
    refine call_pure (E := envC6 0) (fn := Tryz.f20) (c := bodyOf Tryz.f20) (envC6_ok 0) mixed (by kernel_rfl) (by kernel_rfl) (by kernel_rfl) (by kernel_rfl) (by kernel_rfl) (by kernel_rfl) rfl ?_
    refine aw_cut _ _ rfl fun C hC => ?_
    conv => whnf
    repeat ((first | (refine aI ?_ ?_; focus exact sI) | refine dI (by kernel_rfl) ?_ | (refine yI ?_ ?_; focus exact sY) | (refine nI ?_ ?_; focus exact sY) | intro _); conv => whnf)
    subst hC
    refine aw_cut _ _ rfl fun C hC => ?_
    conv => whnf
    repeat ((first | (refine aI ?_ ?_; focus exact sI) | refine dI (by kernel_rfl) ?_ | (refine yI ?_ ?_; focus exact sY) | (refine nI ?_ ?_; focus exact sY) | intro _); conv => whnf)
    try (refine dI (by kernel_rfl) ?_; conv => whnf)
    first | refine CallSt.use hck [] trivial (by decide) rfl ?_ | refine CallPt.useS hck [] trivial (by decide) rfl ?_
    rintro _ _ ⟨rfl, rfl⟩ _
    conv => whnf
    repeat ((first | (refine aI ?_ ?_; focus exact sI) | refine dI (by kernel_rfl) ?_ | (refine yI ?_ ?_; focus exact sY) | (refine nI ?_ ?_; focus exact sY) | intro _); conv => whnf)
    subst hC
    repeat ((first | (refine aI ?_ ?_; focus exact sI) | refine dI (by kernel_rfl) ?_ | (refine yI ?_ ?_; focus exact sY) | (refine nI ?_ ?_; focus exact sY) | intro _); conv => whnf)
    all_goals (first | rfl | exact ⟨rfl, rfl⟩ | exact ⟨rfl, rfl, rfl⟩)
  | true =>
    have hpr := check_prop hs
    have hle := check_len hs
    rw [hs] at hck
    obtain ⟨A, hA⟩ : ∃ A, A = sigF sig 0 sig := ⟨_, rfl⟩
    simp only
    rw [← hA]
    refine call_pure (E := envC6 0) (fn := Tryz.f20) (c := bodyOf Tryz.f20) (envC6_ok 0) mixed (by kernel_rfl) (by kernel_rfl) (by kernel_rfl) (by kernel_rfl) (by kernel_rfl) (by kernel_rfl) rfl ?_
    refine aw_cut _ _ rfl fun C hC => ?_
    conv => whnf
    repeat ((first | (refine aI ?_ ?_; focus exact sI) | refine dI (by kernel_rfl) ?_ | (refine yI ?_ ?_; focus exact sY) | (refine nI ?_ ?_; focus exact sY) | intro _); conv => whnf)
    subst hC
    refine aw_cut _ _ rfl fun C hC => ?_
    conv => whnf
    repeat ((first | (refine aI ?_ ?_; focus exact sI) | refine dI (by kernel_rfl) ?_ | (refine yI ?_ ?_; focus exact sY) | (refine nI ?_ ?_; focus exact sY) | intro _); conv => whnf)
    try (refine dI (by kernel_rfl) ?_; conv => whnf)
    first | refine CallSt.use hck [] trivial (by decide) rfl ?_ | refine CallPt.useS hck [] trivial (by decide) rfl ?_
    rintro _ _ ⟨rfl, rfl⟩ _
    conv => whnf
    repeat ((first | (refine aI ?_ ?_; focus exact sI) | refine dI (by kernel_rfl) ?_ | (refine yI ?_ ?_; focus exact sY) | (refine nI ?_ ?_; focus exact sY) | intro _); conv => whnf)
    subst hC
    conv => whnf
    repeat ((first | (refine aI ?_ ?_; focus exact sI) | refine dI (by kernel_rfl) ?_ | (refine yI ?_ ?_; focus exact sY) | (refine nI ?_ ?_; focus exact sY) | intro _); conv => whnf)
    refine loop_intro (fun m tm H => ∃ j : Nat, sig.length = m + j ∧ A = sigF sig j (sig.drop j) ∧ tm = [(15, .c (.int .i64 (j))), (14, .c (.int .i64 ((dcs sig).length))), (13, .c (.sl 6 72 (dcs sig))), (0, .c (.sl 6 72 (dcs sig)))] ∧ H = [])
      sig.length _ _ ⟨0, by omega, hA, rfl, rfl⟩ (Wk.sl [] rfl trivial ⟨rfl, rfl, rfl, rfl, trivial⟩ rfl) ?_
    rintro m tm H ⟨j, hj, hR, rfl, rfl⟩
    conv => whnf
    repeat ((first | (refine aI ?_ ?_; focus exact sI) | refine dI (by kernel_rfl) ?_ | (refine yI ?_ ?_; focus exact sY) | (refine nI ?_ ?_; focus exact sY) | intro _); conv => whnf)
    refine ⟨fun hlt => ?_, fun hlt => ?_⟩
    · replace hlt : (j : Int) < (dcs sig).length := of_decide_eq_true hlt
      obtain ⟨x, hx⟩ := get_some (show j < sig.length by omega)
      have hxc := dcs_at hx
      have ht := cSCla (sig.take j) (KOk.of hs j) x.c (hpr x (List.mem_of_getElem? hx))
      rw [← dcs_take'] at ht
      rw [drop_at hx, sigF] at hR
      by_cases he : claF ⟨sig.take j, []⟩ x.c ≠ 0
      · rw [if_pos he] at hR
        have ez : decide (claF ⟨sig.take j, []⟩ x.c = 0) = false := decide_eq_false he
        generalize claF ⟨sig.take j, []⟩ x.c = e at *
        subst hR
        clear hx
        obtain ⟨nm, ⟨x1, x2, x3, x4⟩, im⟩ := x
        rw [tv_mk] at ht
        conv => whnf
        repeat ((first | (refine aI ?_ ?_; focus exact sI) | refine dI (by kernel_rfl) ?_ | (refine yI ?_ ?_; focus exact sY) | (refine nI ?_ ?_; focus exact sY) | intro _); conv => whnf)
        refine ⟨_, ⟨by omega, hxc⟩, ?_⟩
        conv => whnf
        refine ⟨show 6 ≤ 6 by decide, ?_⟩
        conv => whnf
        repeat ((first | (refine aI ?_ ?_; focus exact sI) | refine dI (by kernel_rfl) ?_ | (refine yI ?_ ?_; focus exact sY) | (refine nI ?_ ?_; focus exact sY) | intro _); conv => whnf)
        try (refine dI (by kernel_rfl) ?_; conv => whnf)
        first | refine CallSt.use ht [] trivial (by decide) rfl ?_ | refine CallPt.useS ht [] trivial (by decide) rfl ?_
        rintro _ _ ⟨rfl, rfl⟩ _
        conv => whnf
        repeat ((first | (refine aI ?_ ?_; focus exact sI) | refine dI (by kernel_rfl) ?_ | (refine yI ?_ ?_; focus exact sY) | (refine nI ?_ ?_; focus exact sY) | intro _); conv => whnf)
        rw [ez]
        (refine ⟨fun _ => ?_, fun h => absurd h ?_⟩; rotate_left; (focus (first | decide | (simp; done) | (simp [tcs]; done))); conv => whnf)
        repeat ((first | (refine aI ?_ ?_; focus exact sI) | refine dI (by kernel_rfl) ?_ | (refine yI ?_ ?_; focus exact sY) | (refine nI ?_ ?_; focus exact sY) | intro _); conv => whnf)
        all_goals (first | rfl | exact ⟨rfl, rfl⟩ | exact ⟨rfl, rfl, rfl⟩)
      · rw [if_neg he] at hR
        have e0 : claF ⟨sig.take j, []⟩ x.c = 0 := by omega
        rw [e0] at ht
        clear he e0 hx
        obtain ⟨nm, ⟨x1, x2, x3, x4⟩, im⟩ := x
        rw [tv_mk] at ht
        conv => whnf
        repeat ((first | (refine aI ?_ ?_; focus exact sI) | refine dI (by kernel_rfl) ?_ | (refine yI ?_ ?_; focus exact sY) | (refine nI ?_ ?_; focus exact sY) | intro _); conv => whnf)
        refine ⟨_, ⟨by omega, hxc⟩, ?_⟩
        conv => whnf
        refine ⟨show 6 ≤ 6 by decide, ?_⟩
        conv => whnf
        repeat ((first | (refine aI ?_ ?_; focus exact sI) | refine dI (by kernel_rfl) ?_ | (refine yI ?_ ?_; focus exact sY) | (refine nI ?_ ?_; focus exact sY) | intro _); conv => whnf)
        try (refine dI (by kernel_rfl) ?_; conv => whnf)
        first | refine CallSt.use ht [] trivial (by decide) rfl ?_ | refine CallPt.useS ht [] trivial (by decide) rfl ?_
        rintro _ _ ⟨rfl, rfl⟩ _
        conv => whnf
        repeat ((first | (refine aI ?_ ?_; focus exact sI) | refine dI (by kernel_rfl) ?_ | (refine yI ?_ ?_; focus exact sY) | (refine nI ?_ ?_; focus exact sY) | intro _); conv => whnf)
        exact ⟨m - 1, _, _, by omega, ⟨j + 1, by omega, hR, rfl, rfl⟩, Wk.sl [] rfl trivial ⟨rfl, rfl, rfl, rfl, trivial⟩ rfl⟩
    · replace hlt : ¬ (j : Int) < (dcs sig).length := of_decide_eq_false hlt
      obtain rfl : j = sig.length := by omega
      rw [List.drop_length, sigF, ← hsl] at hR
      subst hR
      conv => whnf
      repeat ((first | (refine aI ?_ ?_; focus exact sI) | refine dI (by kernel_rfl) ?_ | (refine yI ?_ ?_; focus exact sY) | (refine nI ?_ ?_; focus exact sY) | intro _); conv => whnf)
      all_goals (first | rfl | exact ⟨rfl, rfl⟩ | exact ⟨rfl, rfl, rfl⟩)
end Go.Tr
/- awake of trusslaw06. -/
namespace Go.Tr
open Go.Proofs
def ty6 : Term := .mk 1 0 0 []
def kind6 : Term := pi6 (con6 0 []) (pi6 (con6 0 []) (pi6 (con6 0 []) ty6))
def nat6 : List Dcl := [⟨⟨#[110, 97, 116]⟩, ty6, 0⟩, ⟨⟨#[122]⟩, con6 0 [], 0⟩, ⟨⟨#[115]⟩, pi6 (con6 0 []) (con6 0 []), 0⟩, ⟨⟨#[112, 108, 117, 115]⟩, kind6, 0⟩, ⟨⟨#[112, 122]⟩, pi6 (con6 0 []) (con6 3 [con6 1 [], vr6 0 [], vr6 0 []]), 1⟩]
def one6 : Term := con6 2 [con6 1 []]
theorem cNat6 : CallSt Tryz.prog 41 [] [] (fun r H' => r = .c (.sl 6 72 (dcs nat6)) ∧ H' = []) := by
  have h0 := cCon6 0 []
  have h1 := cCon6 1 []
  have hv := cVr6 0 []
  have h3 := cCon6 3 [con6 1 [], vr6 0 [], vr6 0 []]
  have p1 := cPi6 (con6 0 []) ty6
  have p2 := cPi6 (con6 0 []) (pi6 (con6 0 []) ty6)
  have p3 := cPi6 (con6 0 []) (pi6 (con6 0 []) (pi6 (con6 0 []) ty6))
  have p4 := cPi6 (con6 0 []) (con6 0 [])
  have p5 := cPi6 (con6 0 []) (con6 3 [con6 1 [], vr6 0 [], vr6 0 []])
  refine call_pure (E := envC6 0) (fn := Tryz.f41) (c := bodyOf Tryz.f41) (envC6_ok 0) mixed (by kernel_rfl) (by kernel_rfl) (by kernel_rfl) (by kernel_rfl) (by kernel_rfl) (by kernel_rfl) rfl ?_
  refine aw_cut _ _ rfl fun C hC => ?_
  conv => whnf
  repeat ((first | (refine aI ?_ ?_; focus exact sI) | refine dI (by kernel_rfl) ?_ | (refine yI ?_ ?_; focus exact sY) | (refine nI ?_ ?_; focus exact sY) | intro _); conv => whnf)
  subst hC
  refine aw_cut _ _ rfl fun C hC => ?_
  conv => whnf
  repeat ((first | (refine aI ?_ ?_; focus exact sI) | refine dI (by kernel_rfl) ?_ | (refine yI ?_ ?_; focus exact sY) | (refine nI ?_ ?_; focus exact sY) | intro _); conv => whnf)
  try (refine dI (by kernel_rfl) ?_; conv => whnf)
  first | refine CallSt.use h0 [] trivial (by decide) rfl ?_ | refine CallPt.useS h0 [] trivial (by decide) rfl ?_
  rintro _ _ ⟨rfl, rfl⟩ _
  conv => whnf
  repeat ((first | (refine aI ?_ ?_; focus exact sI) | refine dI (by kernel_rfl) ?_ | (refine yI ?_ ?_; focus exact sY) | (refine nI ?_ ?_; focus exact sY) | intro _); conv => whnf)
  try (refine dI (by kernel_rfl) ?_; conv => whnf)
  first | refine CallSt.use h0 [] trivial (by decide) rfl ?_ | refine CallPt.useS h0 [] trivial (by decide) rfl ?_
  rintro _ _ ⟨rfl, rfl⟩ _
  conv => whnf
  repeat ((first | (refine aI ?_ ?_; focus exact sI) | refine dI (by kernel_rfl) ?_ | (refine yI ?_ ?_; focus exact sY) | (refine nI ?_ ?_; focus exact sY) | intro _); conv => whnf)
  try (refine dI (by kernel_rfl) ?_; conv => whnf)
  first | refine CallSt.use h0 [] trivial (by decide) rfl ?_ | refine CallPt.useS h0 [] trivial (by decide) rfl ?_
  rintro _ _ ⟨rfl, rfl⟩ _
  conv => whnf
  repeat ((first | (refine aI ?_ ?_; focus exact sI) | refine dI (by kernel_rfl) ?_ | (refine yI ?_ ?_; focus exact sY) | (refine nI ?_ ?_; focus exact sY) | intro _); conv => whnf)
  try (refine dI (by kernel_rfl) ?_; conv => whnf)
  first | refine CallSt.use p1 [] trivial (by decide) rfl ?_ | refine CallPt.useS p1 [] trivial (by decide) rfl ?_
  rintro _ _ ⟨rfl, rfl⟩ _
  conv => whnf
  repeat ((first | (refine aI ?_ ?_; focus exact sI) | refine dI (by kernel_rfl) ?_ | (refine yI ?_ ?_; focus exact sY) | (refine nI ?_ ?_; focus exact sY) | intro _); conv => whnf)
  try (refine dI (by kernel_rfl) ?_; conv => whnf)
  first | refine CallSt.use p2 [] trivial (by decide) rfl ?_ | refine CallPt.useS p2 [] trivial (by decide) rfl ?_
  rintro _ _ ⟨rfl, rfl⟩ _
  conv => whnf
  repeat ((first | (refine aI ?_ ?_; focus exact sI) | refine dI (by kernel_rfl) ?_ | (refine yI ?_ ?_; focus exact sY) | (refine nI ?_ ?_; focus exact sY) | intro _); conv => whnf)
  try (refine dI (by kernel_rfl) ?_; conv => whnf)
  first | refine CallSt.use p3 [] trivial (by decide) rfl ?_ | refine CallPt.useS p3 [] trivial (by decide) rfl ?_
  rintro _ _ ⟨rfl, rfl⟩ _
  conv => whnf
  repeat ((first | (refine aI ?_ ?_; focus exact sI) | refine dI (by kernel_rfl) ?_ | (refine yI ?_ ?_; focus exact sY) | (refine nI ?_ ?_; focus exact sY) | intro _); conv => whnf)
  subst hC
  conv => whnf
  repeat ((first | (refine aI ?_ ?_; focus exact sI) | refine dI (by kernel_rfl) ?_ | (refine yI ?_ ?_; focus exact sY) | (refine nI ?_ ?_; focus exact sY) | intro _); conv => whnf)
  try (refine dI (by kernel_rfl) ?_; conv => whnf)
  first | refine CallSt.use h0 [] trivial (by decide) rfl ?_ | refine CallPt.useS h0 [] trivial (by decide) rfl ?_
  rintro _ _ ⟨rfl, rfl⟩ _
  conv => whnf
  repeat ((first | (refine aI ?_ ?_; focus exact sI) | refine dI (by kernel_rfl) ?_ | (refine yI ?_ ?_; focus exact sY) | (refine nI ?_ ?_; focus exact sY) | intro _); conv => whnf)
  try (refine dI (by kernel_rfl) ?_; conv => whnf)
  first | refine CallSt.use h0 [] trivial (by decide) rfl ?_ | refine CallPt.useS h0 [] trivial (by decide) rfl ?_
  rintro _ _ ⟨rfl, rfl⟩ _
  conv => whnf
  repeat ((first | (refine aI ?_ ?_; focus exact sI) | refine dI (by kernel_rfl) ?_ | (refine yI ?_ ?_; focus exact sY) | (refine nI ?_ ?_; focus exact sY) | intro _); conv => whnf)
  try (refine dI (by kernel_rfl) ?_; conv => whnf)
  first | refine CallSt.use h0 [] trivial (by decide) rfl ?_ | refine CallPt.useS h0 [] trivial (by decide) rfl ?_
  rintro _ _ ⟨rfl, rfl⟩ _
  conv => whnf
  repeat ((first | (refine aI ?_ ?_; focus exact sI) | refine dI (by kernel_rfl) ?_ | (refine yI ?_ ?_; focus exact sY) | (refine nI ?_ ?_; focus exact sY) | intro _); conv => whnf)
  try (refine dI (by kernel_rfl) ?_; conv => whnf)
  first | refine CallSt.use p4 [] trivial (by decide) rfl ?_ | refine CallPt.useS p4 [] trivial (by decide) rfl ?_
  rintro _ _ ⟨rfl, rfl⟩ _
  conv => whnf
  repeat ((first | (refine aI ?_ ?_; focus exact sI) | refine dI (by kernel_rfl) ?_ | (refine yI ?_ ?_; focus exact sY) | (refine nI ?_ ?_; focus exact sY) | intro _); conv => whnf)
  try (refine dI (by kernel_rfl) ?_; conv => whnf)
  first | refine CallSt.use h0 [] trivial (by decide) rfl ?_ | refine CallPt.useS h0 [] trivial (by decide) rfl ?_
  rintro _ _ ⟨rfl, rfl⟩ _
  conv => whnf
  repeat ((first | (refine aI ?_ ?_; focus exact sI) | refine dI (by kernel_rfl) ?_ | (refine yI ?_ ?_; focus exact sY) | (refine nI ?_ ?_; focus exact sY) | intro _); conv => whnf)
  try (refine dI (by kernel_rfl) ?_; conv => whnf)
  first | refine CallSt.use h1 [] trivial (by decide) rfl ?_ | refine CallPt.useS h1 [] trivial (by decide) rfl ?_
  rintro _ _ ⟨rfl, rfl⟩ _
  conv => whnf
  repeat ((first | (refine aI ?_ ?_; focus exact sI) | refine dI (by kernel_rfl) ?_ | (refine yI ?_ ?_; focus exact sY) | (refine nI ?_ ?_; focus exact sY) | intro _); conv => whnf)
  try (refine dI (by kernel_rfl) ?_; conv => whnf)
  first | refine CallSt.use hv [] trivial (by decide) rfl ?_ | refine CallPt.useS hv [] trivial (by decide) rfl ?_
  rintro _ _ ⟨rfl, rfl⟩ _
  conv => whnf
  repeat ((first | (refine aI ?_ ?_; focus exact sI) | refine dI (by kernel_rfl) ?_ | (refine yI ?_ ?_; focus exact sY) | (refine nI ?_ ?_; focus exact sY) | intro _); conv => whnf)
  try (refine dI (by kernel_rfl) ?_; conv => whnf)
  first | refine CallSt.use hv [] trivial (by decide) rfl ?_ | refine CallPt.useS hv [] trivial (by decide) rfl ?_
  rintro _ _ ⟨rfl, rfl⟩ _
  conv => whnf
  repeat ((first | (refine aI ?_ ?_; focus exact sI) | refine dI (by kernel_rfl) ?_ | (refine yI ?_ ?_; focus exact sY) | (refine nI ?_ ?_; focus exact sY) | intro _); conv => whnf)
  try (refine dI (by kernel_rfl) ?_; conv => whnf)
  first | refine CallSt.use h3 [] trivial (by decide) rfl ?_ | refine CallPt.useS h3 [] trivial (by decide) rfl ?_
  rintro _ _ ⟨rfl, rfl⟩ _
  conv => whnf
  repeat ((first | (refine aI ?_ ?_; focus exact sI) | refine dI (by kernel_rfl) ?_ | (refine yI ?_ ?_; focus exact sY) | (refine nI ?_ ?_; focus exact sY) | intro _); conv => whnf)
  try (refine dI (by kernel_rfl) ?_; conv => whnf)
  first | refine CallSt.use p5 [] trivial (by decide) rfl ?_ | refine CallPt.useS p5 [] trivial (by decide) rfl ?_
  rintro _ _ ⟨rfl, rfl⟩ _
  conv => whnf
  repeat ((first | (refine aI ?_ ?_; focus exact sI) | refine dI (by kernel_rfl) ?_ | (refine yI ?_ ?_; focus exact sY) | (refine nI ?_ ?_; focus exact sY) | intro _); conv => whnf)
  all_goals (first | rfl | exact ⟨rfl, rfl⟩ | exact ⟨rfl, rfl, rfl⟩)
end Go.Tr
/- awake of trusslaw06, the end. -/
namespace Go.Tr
open Go.Proofs
theorem n6_sig : ksigF nat6 = (5, 0) := by kernel_rfl
theorem n6_o1 : kobjF nat6 [] [] (lam6 (con6 2 [vr6 0 []])) (pi6 (con6 0 []) (con6 0 [])) = 0 := by kernel_rfl
theorem n6_o2 : kobjF nat6 [] [] (con6 4 [one6]) (con6 3 [con6 1 [], one6, one6]) = 0 := by kernel_rfl
theorem n6_o3 : kobjF nat6 [] [] (con6 4 [one6]) (con6 3 [con6 1 [], con6 1 [], con6 1 []]) = 24 := by kernel_rfl
theorem n6_t : ktypF nat6 [] [] (con6 3 [con6 1 [], con6 1 []]) = 23 := by kernel_rfl
set_option maxRecDepth 100000 in
set_option maxHeartbeats 1000000 in
theorem cAwake6 : CallSt Tryz.prog 14 [] [] (fun r H' => r = .c (.bool true) ∧ H' = []) := by
  have hn := cNat6
  have c1 := cCon6 1 []
  have c0 := cCon6 0 []
  have v0 := cVr6 0 []
  have hone := cCon6 2 [con6 1 []]
  have hsg := cKSignature nat6
  rw [n6_sig] at hsg
  have s2 := cCon6 2 [vr6 0 []]
  have l2 := cLam6 (con6 2 [vr6 0 []])
  have p2 := cPi6 (con6 0 []) (con6 0 [])
  have o1 := cKObject nat6 [] [] (lam6 (con6 2 [vr6 0 []])) (pi6 (con6 0 []) (con6 0 []))
  rw [n6_o1] at o1
  have c4 := cCon6 4 [one6]
  have c3 := cCon6 3 [con6 1 [], one6, one6]
  have o2 := cKObject nat6 [] [] (con6 4 [one6]) (con6 3 [con6 1 [], one6, one6])
  rw [n6_o2] at o2
  have c3b := cCon6 3 [con6 1 [], con6 1 [], con6 1 []]
  have o3 := cKObject nat6 [] [] (con6 4 [one6]) (con6 3 [con6 1 [], con6 1 [], con6 1 []])
  rw [n6_o3] at o3
  have c3c := cCon6 3 [con6 1 [], con6 1 []]
  have ot := cKType nat6 [] [] (con6 3 [con6 1 [], con6 1 []])
  rw [n6_t] at ot
  rw [show tcs [] = [] by rw [tcs], show mcs [] = [] from rfl] at o1 o2 o3 ot
  refine call_pure (E := envC6 0) (fn := Tryz.f14) (c := bodyOf Tryz.f14) (envC6_ok 0) mixed (by kernel_rfl) (by kernel_rfl) (by kernel_rfl) (by kernel_rfl) (by kernel_rfl) (by kernel_rfl) rfl ?_
  refine aw_cut _ _ rfl fun C hC => ?_
  conv => whnf
  repeat ((first | (refine aI ?_ ?_; focus exact sI) | refine dI (by kernel_rfl) ?_ | (refine yI ?_ ?_; focus exact sY) | (refine nI ?_ ?_; focus exact sY) | intro _); conv => whnf)
  subst hC
  refine aw_cut _ _ rfl fun C hC => ?_
  conv => whnf
  repeat ((first | (refine aI ?_ ?_; focus exact sI) | refine dI (by kernel_rfl) ?_ | (refine yI ?_ ?_; focus exact sY) | (refine nI ?_ ?_; focus exact sY) | intro _); conv => whnf)
  try (refine dI (by kernel_rfl) ?_; conv => whnf)
  first | refine CallSt.use c1 [] trivial (by decide) rfl ?_ | refine CallPt.useS c1 [] trivial (by decide) rfl ?_
  rintro _ _ ⟨rfl, rfl⟩ _
  conv => whnf
  repeat ((first | (refine aI ?_ ?_; focus exact sI) | refine dI (by kernel_rfl) ?_ | (refine yI ?_ ?_; focus exact sY) | (refine nI ?_ ?_; focus exact sY) | intro _); conv => whnf)
  try (refine dI (by kernel_rfl) ?_; conv => whnf)
  first | refine CallSt.use hone [] trivial (by decide) rfl ?_ | refine CallPt.useS hone [] trivial (by decide) rfl ?_
  rintro _ _ ⟨rfl, rfl⟩ _
  conv => whnf
  repeat ((first | (refine aI ?_ ?_; focus exact sI) | refine dI (by kernel_rfl) ?_ | (refine yI ?_ ?_; focus exact sY) | (refine nI ?_ ?_; focus exact sY) | intro _); conv => whnf)
  subst hC
  refine aw_cut _ _ rfl fun C hC => ?_
  conv => whnf
  repeat ((first | (refine aI ?_ ?_; focus exact sI) | refine dI (by kernel_rfl) ?_ | (refine yI ?_ ?_; focus exact sY) | (refine nI ?_ ?_; focus exact sY) | intro _); conv => whnf)
  try (refine dI (by kernel_rfl) ?_; conv => whnf)
  first | refine CallSt.use hn [] trivial (by decide) rfl ?_ | refine CallPt.useS hn [] trivial (by decide) rfl ?_
  rintro _ _ ⟨rfl, rfl⟩ _
  conv => whnf
  repeat ((first | (refine aI ?_ ?_; focus exact sI) | refine dI (by kernel_rfl) ?_ | (refine yI ?_ ?_; focus exact sY) | (refine nI ?_ ?_; focus exact sY) | intro _); conv => whnf)
  try (refine dI (by kernel_rfl) ?_; conv => whnf)
  first | refine CallSt.use hsg [] trivial (by decide) rfl ?_ | refine CallPt.useS hsg [] trivial (by decide) rfl ?_
  rintro _ _ ⟨rfl, rfl⟩ _
  conv => whnf
  repeat ((first | (refine aI ?_ ?_; focus exact sI) | refine dI (by kernel_rfl) ?_ | (refine yI ?_ ?_; focus exact sY) | (refine nI ?_ ?_; focus exact sY) | intro _); conv => whnf)
  subst hC
  refine aw_cut _ _ rfl fun C hC => ?_
  conv => whnf
  repeat ((first | (refine aI ?_ ?_; focus exact sI) | refine dI (by kernel_rfl) ?_ | (refine yI ?_ ?_; focus exact sY) | (refine nI ?_ ?_; focus exact sY) | intro _); conv => whnf)
  try (refine dI (by kernel_rfl) ?_; conv => whnf)
  first | refine CallSt.use hn [] trivial (by decide) rfl ?_ | refine CallPt.useS hn [] trivial (by decide) rfl ?_
  rintro _ _ ⟨rfl, rfl⟩ _
  conv => whnf
  repeat ((first | (refine aI ?_ ?_; focus exact sI) | refine dI (by kernel_rfl) ?_ | (refine yI ?_ ?_; focus exact sY) | (refine nI ?_ ?_; focus exact sY) | intro _); conv => whnf)
  try (refine dI (by kernel_rfl) ?_; conv => whnf)
  first | refine CallSt.use v0 [] trivial (by decide) rfl ?_ | refine CallPt.useS v0 [] trivial (by decide) rfl ?_
  rintro _ _ ⟨rfl, rfl⟩ _
  conv => whnf
  repeat ((first | (refine aI ?_ ?_; focus exact sI) | refine dI (by kernel_rfl) ?_ | (refine yI ?_ ?_; focus exact sY) | (refine nI ?_ ?_; focus exact sY) | intro _); conv => whnf)
  try (refine dI (by kernel_rfl) ?_; conv => whnf)
  first | refine CallSt.use s2 [] trivial (by decide) rfl ?_ | refine CallPt.useS s2 [] trivial (by decide) rfl ?_
  rintro _ _ ⟨rfl, rfl⟩ _
  conv => whnf
  repeat ((first | (refine aI ?_ ?_; focus exact sI) | refine dI (by kernel_rfl) ?_ | (refine yI ?_ ?_; focus exact sY) | (refine nI ?_ ?_; focus exact sY) | intro _); conv => whnf)
  try (refine dI (by kernel_rfl) ?_; conv => whnf)
  first | refine CallSt.use l2 [] trivial (by decide) rfl ?_ | refine CallPt.useS l2 [] trivial (by decide) rfl ?_
  rintro _ _ ⟨rfl, rfl⟩ _
  conv => whnf
  repeat ((first | (refine aI ?_ ?_; focus exact sI) | refine dI (by kernel_rfl) ?_ | (refine yI ?_ ?_; focus exact sY) | (refine nI ?_ ?_; focus exact sY) | intro _); conv => whnf)
  try (refine dI (by kernel_rfl) ?_; conv => whnf)
  first | refine CallSt.use c0 [] trivial (by decide) rfl ?_ | refine CallPt.useS c0 [] trivial (by decide) rfl ?_
  rintro _ _ ⟨rfl, rfl⟩ _
  conv => whnf
  repeat ((first | (refine aI ?_ ?_; focus exact sI) | refine dI (by kernel_rfl) ?_ | (refine yI ?_ ?_; focus exact sY) | (refine nI ?_ ?_; focus exact sY) | intro _); conv => whnf)
  try (refine dI (by kernel_rfl) ?_; conv => whnf)
  first | refine CallSt.use c0 [] trivial (by decide) rfl ?_ | refine CallPt.useS c0 [] trivial (by decide) rfl ?_
  rintro _ _ ⟨rfl, rfl⟩ _
  conv => whnf
  repeat ((first | (refine aI ?_ ?_; focus exact sI) | refine dI (by kernel_rfl) ?_ | (refine yI ?_ ?_; focus exact sY) | (refine nI ?_ ?_; focus exact sY) | intro _); conv => whnf)
  try (refine dI (by kernel_rfl) ?_; conv => whnf)
  first | refine CallSt.use p2 [] trivial (by decide) rfl ?_ | refine CallPt.useS p2 [] trivial (by decide) rfl ?_
  rintro _ _ ⟨rfl, rfl⟩ _
  conv => whnf
  repeat ((first | (refine aI ?_ ?_; focus exact sI) | refine dI (by kernel_rfl) ?_ | (refine yI ?_ ?_; focus exact sY) | (refine nI ?_ ?_; focus exact sY) | intro _); conv => whnf)
  try (refine dI (by kernel_rfl) ?_; conv => whnf)
  first | refine CallSt.use o1 [] trivial (by decide) rfl ?_ | refine CallPt.useS o1 [] trivial (by decide) rfl ?_
  rintro _ _ ⟨rfl, rfl⟩ _
  conv => whnf
  repeat ((first | (refine aI ?_ ?_; focus exact sI) | refine dI (by kernel_rfl) ?_ | (refine yI ?_ ?_; focus exact sY) | (refine nI ?_ ?_; focus exact sY) | intro _); conv => whnf)
  subst hC
  refine aw_cut _ _ rfl fun C hC => ?_
  conv => whnf
  repeat ((first | (refine aI ?_ ?_; focus exact sI) | refine dI (by kernel_rfl) ?_ | (refine yI ?_ ?_; focus exact sY) | (refine nI ?_ ?_; focus exact sY) | intro _); conv => whnf)
  (refine And.intro ?_ ?_ <;> conv => whnf)
  all_goals
    repeat ((first | (refine aI ?_ ?_; focus exact sI) | refine dI (by kernel_rfl) ?_ | (refine yI ?_ ?_; focus exact sY) | (refine nI ?_ ?_; focus exact sY) | intro _); conv => whnf)
    try (refine dI (by kernel_rfl) ?_; conv => whnf)
    first | refine CallSt.use hn [] trivial (by decide) rfl ?_ | refine CallPt.useS hn [] trivial (by decide) rfl ?_
    rintro _ _ ⟨rfl, rfl⟩ _
    conv => whnf
    repeat ((first | (refine aI ?_ ?_; focus exact sI) | refine dI (by kernel_rfl) ?_ | (refine yI ?_ ?_; focus exact sY) | (refine nI ?_ ?_; focus exact sY) | intro _); conv => whnf)
    try (refine dI (by kernel_rfl) ?_; conv => whnf)
    first | refine CallSt.use c4 [] trivial (by decide) rfl ?_ | refine CallPt.useS c4 [] trivial (by decide) rfl ?_
    rintro _ _ ⟨rfl, rfl⟩ _
    conv => whnf
    repeat ((first | (refine aI ?_ ?_; focus exact sI) | refine dI (by kernel_rfl) ?_ | (refine yI ?_ ?_; focus exact sY) | (refine nI ?_ ?_; focus exact sY) | intro _); conv => whnf)
    try (refine dI (by kernel_rfl) ?_; conv => whnf)
    first | refine CallSt.use c1 [] trivial (by decide) rfl ?_ | refine CallPt.useS c1 [] trivial (by decide) rfl ?_
    rintro _ _ ⟨rfl, rfl⟩ _
    conv => whnf
    repeat ((first | (refine aI ?_ ?_; focus exact sI) | refine dI (by kernel_rfl) ?_ | (refine yI ?_ ?_; focus exact sY) | (refine nI ?_ ?_; focus exact sY) | intro _); conv => whnf)
    try (refine dI (by kernel_rfl) ?_; conv => whnf)
    first | refine CallSt.use c3 [] trivial (by decide) rfl ?_ | refine CallPt.useS c3 [] trivial (by decide) rfl ?_
    rintro _ _ ⟨rfl, rfl⟩ _
    conv => whnf
    repeat ((first | (refine aI ?_ ?_; focus exact sI) | refine dI (by kernel_rfl) ?_ | (refine yI ?_ ?_; focus exact sY) | (refine nI ?_ ?_; focus exact sY) | intro _); conv => whnf)
    try (refine dI (by kernel_rfl) ?_; conv => whnf)
    first | refine CallSt.use o2 [] trivial (by decide) rfl ?_ | refine CallPt.useS o2 [] trivial (by decide) rfl ?_
    rintro _ _ ⟨rfl, rfl⟩ _
    conv => whnf
    repeat ((first | (refine aI ?_ ?_; focus exact sI) | refine dI (by kernel_rfl) ?_ | (refine yI ?_ ?_; focus exact sY) | (refine nI ?_ ?_; focus exact sY) | intro _); conv => whnf)
    subst hC
    refine aw_cut _ _ rfl fun C hC => ?_
    conv => whnf
    repeat ((first | (refine aI ?_ ?_; focus exact sI) | refine dI (by kernel_rfl) ?_ | (refine yI ?_ ?_; focus exact sY) | (refine nI ?_ ?_; focus exact sY) | intro _); conv => whnf)
    (refine And.intro ?_ ?_ <;> conv => whnf)
    all_goals
      repeat ((first | (refine aI ?_ ?_; focus exact sI) | refine dI (by kernel_rfl) ?_ | (refine yI ?_ ?_; focus exact sY) | (refine nI ?_ ?_; focus exact sY) | intro _); conv => whnf)
      try (refine dI (by kernel_rfl) ?_; conv => whnf)
      first | refine CallSt.use hn [] trivial (by decide) rfl ?_ | refine CallPt.useS hn [] trivial (by decide) rfl ?_
      rintro _ _ ⟨rfl, rfl⟩ _
      conv => whnf
      repeat ((first | (refine aI ?_ ?_; focus exact sI) | refine dI (by kernel_rfl) ?_ | (refine yI ?_ ?_; focus exact sY) | (refine nI ?_ ?_; focus exact sY) | intro _); conv => whnf)
      try (refine dI (by kernel_rfl) ?_; conv => whnf)
      first | refine CallSt.use c4 [] trivial (by decide) rfl ?_ | refine CallPt.useS c4 [] trivial (by decide) rfl ?_
      rintro _ _ ⟨rfl, rfl⟩ _
      conv => whnf
      repeat ((first | (refine aI ?_ ?_; focus exact sI) | refine dI (by kernel_rfl) ?_ | (refine yI ?_ ?_; focus exact sY) | (refine nI ?_ ?_; focus exact sY) | intro _); conv => whnf)
      try (refine dI (by kernel_rfl) ?_; conv => whnf)
      first | refine CallSt.use c1 [] trivial (by decide) rfl ?_ | refine CallPt.useS c1 [] trivial (by decide) rfl ?_
      rintro _ _ ⟨rfl, rfl⟩ _
      conv => whnf
      repeat ((first | (refine aI ?_ ?_; focus exact sI) | refine dI (by kernel_rfl) ?_ | (refine yI ?_ ?_; focus exact sY) | (refine nI ?_ ?_; focus exact sY) | intro _); conv => whnf)
      try (refine dI (by kernel_rfl) ?_; conv => whnf)
      first | refine CallSt.use c1 [] trivial (by decide) rfl ?_ | refine CallPt.useS c1 [] trivial (by decide) rfl ?_
      rintro _ _ ⟨rfl, rfl⟩ _
      conv => whnf
      repeat ((first | (refine aI ?_ ?_; focus exact sI) | refine dI (by kernel_rfl) ?_ | (refine yI ?_ ?_; focus exact sY) | (refine nI ?_ ?_; focus exact sY) | intro _); conv => whnf)
      try (refine dI (by kernel_rfl) ?_; conv => whnf)
      first | refine CallSt.use c1 [] trivial (by decide) rfl ?_ | refine CallPt.useS c1 [] trivial (by decide) rfl ?_
      rintro _ _ ⟨rfl, rfl⟩ _
      conv => whnf
      repeat ((first | (refine aI ?_ ?_; focus exact sI) | refine dI (by kernel_rfl) ?_ | (refine yI ?_ ?_; focus exact sY) | (refine nI ?_ ?_; focus exact sY) | intro _); conv => whnf)
      try (refine dI (by kernel_rfl) ?_; conv => whnf)
      first | refine CallSt.use c3b [] trivial (by decide) rfl ?_ | refine CallPt.useS c3b [] trivial (by decide) rfl ?_
      rintro _ _ ⟨rfl, rfl⟩ _
      conv => whnf
      repeat ((first | (refine aI ?_ ?_; focus exact sI) | refine dI (by kernel_rfl) ?_ | (refine yI ?_ ?_; focus exact sY) | (refine nI ?_ ?_; focus exact sY) | intro _); conv => whnf)
      try (refine dI (by kernel_rfl) ?_; conv => whnf)
      first | refine CallSt.use o3 [] trivial (by decide) rfl ?_ | refine CallPt.useS o3 [] trivial (by decide) rfl ?_
      rintro _ _ ⟨rfl, rfl⟩ _
      conv => whnf
      repeat ((first | (refine aI ?_ ?_; focus exact sI) | refine dI (by kernel_rfl) ?_ | (refine yI ?_ ?_; focus exact sY) | (refine nI ?_ ?_; focus exact sY) | intro _); conv => whnf)
      subst hC
      refine aw_cut _ _ rfl fun C hC => ?_
      conv => whnf
      repeat ((first | (refine aI ?_ ?_; focus exact sI) | refine dI (by kernel_rfl) ?_ | (refine yI ?_ ?_; focus exact sY) | (refine nI ?_ ?_; focus exact sY) | intro _); conv => whnf)
      try (refine dI (by kernel_rfl) ?_; conv => whnf)
      first | refine CallSt.use hn [] trivial (by decide) rfl ?_ | refine CallPt.useS hn [] trivial (by decide) rfl ?_
      rintro _ _ ⟨rfl, rfl⟩ _
      conv => whnf
      repeat ((first | (refine aI ?_ ?_; focus exact sI) | refine dI (by kernel_rfl) ?_ | (refine yI ?_ ?_; focus exact sY) | (refine nI ?_ ?_; focus exact sY) | intro _); conv => whnf)
      try (refine dI (by kernel_rfl) ?_; conv => whnf)
      first | refine CallSt.use c1 [] trivial (by decide) rfl ?_ | refine CallPt.useS c1 [] trivial (by decide) rfl ?_
      rintro _ _ ⟨rfl, rfl⟩ _
      conv => whnf
      repeat ((first | (refine aI ?_ ?_; focus exact sI) | refine dI (by kernel_rfl) ?_ | (refine yI ?_ ?_; focus exact sY) | (refine nI ?_ ?_; focus exact sY) | intro _); conv => whnf)
      try (refine dI (by kernel_rfl) ?_; conv => whnf)
      first | refine CallSt.use c1 [] trivial (by decide) rfl ?_ | refine CallPt.useS c1 [] trivial (by decide) rfl ?_
      rintro _ _ ⟨rfl, rfl⟩ _
      conv => whnf
      repeat ((first | (refine aI ?_ ?_; focus exact sI) | refine dI (by kernel_rfl) ?_ | (refine yI ?_ ?_; focus exact sY) | (refine nI ?_ ?_; focus exact sY) | intro _); conv => whnf)
      try (refine dI (by kernel_rfl) ?_; conv => whnf)
      first | refine CallSt.use c3c [] trivial (by decide) rfl ?_ | refine CallPt.useS c3c [] trivial (by decide) rfl ?_
      rintro _ _ ⟨rfl, rfl⟩ _
      conv => whnf
      repeat ((first | (refine aI ?_ ?_; focus exact sI) | refine dI (by kernel_rfl) ?_ | (refine yI ?_ ?_; focus exact sY) | (refine nI ?_ ?_; focus exact sY) | intro _); conv => whnf)
      try (refine dI (by kernel_rfl) ?_; conv => whnf)
      first | refine CallSt.use ot [] trivial (by decide) rfl ?_ | refine CallPt.useS ot [] trivial (by decide) rfl ?_
      rintro _ _ ⟨rfl, rfl⟩ _
      conv => whnf
      repeat ((first | (refine aI ?_ ?_; focus exact sI) | refine dI (by kernel_rfl) ?_ | (refine yI ?_ ?_; focus exact sY) | (refine nI ?_ ?_; focus exact sY) | intro _); conv => whnf)
      subst hC
      conv => whnf
      repeat ((first | (refine aI ?_ ?_; focus exact sI) | refine dI (by kernel_rfl) ?_ | (refine yI ?_ ?_; focus exact sY) | (refine nI ?_ ?_; focus exact sY) | intro _); conv => whnf)
  all_goals (first | rfl | exact ⟨rfl, rfl⟩ | exact congrArg (fun z => AV.c (.bool z)) (by decide))
end Go.Tr
/- CheckTypes, CheckContexts. -/
namespace Go.Tr
open Go.Proofs
def tabW6 : List (Nat × TyD) := [
  (26, ⟨3, 72, .struct [(0, 22), (1, 23), (2, 24)], [.slice none 0 0, .slice none 0 0, .slice none 0 0], [22, 23, 24]⟩),
  (54, ⟨2, 48, .struct [(0, 22), (1, 23)], [.slice none 0 0, .slice none 0 0], [22, 23]⟩),
  (30, ⟨17, 200, .struct [(0, 3), (1, 28), (5, 28), (9, 28), (13, 28)], [.int .i64 0, .int .i64 0, .int .i64 0, .int .i64 0, .slice none 0 0, .int .i64 0, .int .i64 0, .int .i64 0, .slice none 0 0, .int .i64 0, .int .i64 0, .int .i64 0, .slice none 0 0, .int .i64 0, .int .i64 0, .int .i64 0, .slice none 0 0], [3, 3, 3, 3, 24, 3, 3, 3, 24, 3, 3, 3, 24, 3, 3, 3, 24]⟩),
  (34, ⟨1, 8, .int .u64, [.int .u64 0], [34]⟩),
  (22, ⟨1, 24, .slice 66, [.slice none 0 0], [22]⟩),
  (23, ⟨1, 24, .slice 110, [.slice none 0 0], [23]⟩),
  (24, ⟨1, 24, .slice 28, [.slice none 0 0], [24]⟩),
  (3, ⟨1, 8, .int .i64, [.int .i64 0], [3]⟩),
  (28, ⟨4, 48, .struct [(0, 3), (1, 3), (2, 3), (3, 24)], [.int .i64 0, .int .i64 0, .int .i64 0, .slice none 0 0], [3, 3, 3, 24]⟩),
  (66, ⟨6, 72, .struct [(0, 9), (1, 28), (5, 3)], [.string ⟨#[]⟩, .int .i64 0, .int .i64 0, .int .i64 0, .slice none 0 0, .int .i64 0], [9, 3, 3, 3, 24, 3]⟩),
  (110, ⟨10, 120, .struct [(0, 9), (1, 28), (5, 4), (6, 28)], [.string ⟨#[]⟩, .int .i64 0, .int .i64 0, .int .i64 0, .slice none 0 0, .bool false, .int .i64 0, .int .i64 0, .int .i64 0, .slice none 0 0], [9, 3, 3, 3, 24, 4, 3, 3, 3, 24]⟩),
  (9, ⟨1, 16, .str, [.string ⟨#[]⟩], [9]⟩),
  (4, ⟨1, 1, .bool, [.bool false], [4]⟩)] ++ tabC6
def envW6 (n : Nat) : Env := ⟨lkT tabW6, keep, n, false, false, none, mthC⟩
theorem envW6_ok (n : Nat) : EnvOk Tryz.prog (envW6 n) := EnvOk.of (l := tabW6) rfl (by kernel_rfl)
abbrev wvR (sig : List Dcl) (ms : List Mta) (cx : List Term) : AV := .agg [.c (.sl 6 72 (dcs sig)), .c (.sl 10 120 (mcs ms)), .c (.sl 4 48 (tcs cx))]
theorem cCheckTypes (sig : List Dcl) (ms : List Mta) (cx : List Term) (a : Term) : CallSt Tryz.prog 5 [wvR sig ms cx, tv a] [] (fun r H' => r = .c (.bool true) ∧ H' = []) := by
  have h1 := cKType sig ms cx a
  have h2 := cKKind sig ms cx a
  have h3 := cROk6 sig ms cx [a]
  have hw := cAwake6
  unfold ktypF at h1
  unfold kkndF at h2
  cases hok : okR sig ms cx [a] with
  | false =>
    rw [hok] at h1 h2 h3
    simp only at h1 h2
    clear hok
    obtain ⟨a1, a2, a3, a4⟩ := a
    rw [tv_mk] at h1 h2
    rw [tv_mk]
    refine call_pure (E := envW6 0) (fn := Tryz.f5) (c := bodyOf Tryz.f5) (envW6_ok 0) mixed (by kernel_rfl) (by kernel_rfl) (by kernel_rfl) (by kernel_rfl) (by kernel_rfl) (by kernel_rfl) rfl ?_
    refine aw_cut _ _ rfl fun C hC => ?_
    conv => whnf
    repeat ((first | (refine aI ?_ ?_; focus exact sI) | refine dI (by kernel_rfl) ?_ | (refine yI ?_ ?_; focus exact sY) | (refine nI ?_ ?_; focus exact sY) | intro _); conv => whnf)
    subst hC
    refine aw_cut _ _ rfl fun C hC => ?_
    conv => whnf
    repeat ((first | (refine aI ?_ ?_; focus exact sI) | refine dI (by kernel_rfl) ?_ | (refine yI ?_ ?_; focus exact sY) | (refine nI ?_ ?_; focus exact sY) | intro _); conv => whnf)
    try (refine dI (by kernel_rfl) ?_; conv => whnf)
    first | refine CallSt.use h1 [] trivial (by decide) rfl ?_ | refine CallPt.useS h1 [] trivial (by decide) rfl ?_
    rintro _ _ ⟨rfl, rfl⟩ _
    conv => whnf
    repeat ((first | (refine aI ?_ ?_; focus exact sI) | refine dI (by kernel_rfl) ?_ | (refine yI ?_ ?_; focus exact sY) | (refine nI ?_ ?_; focus exact sY) | intro _); conv => whnf)
    subst hC
    refine aw_cut _ _ rfl fun C hC => ?_
    conv => whnf
    repeat ((first | (refine aI ?_ ?_; focus exact sI) | refine dI (by kernel_rfl) ?_ | (refine yI ?_ ?_; focus exact sY) | (refine nI ?_ ?_; focus exact sY) | intro _); conv => whnf)
    try (refine dI (by kernel_rfl) ?_; conv => whnf)
    first | refine CallSt.use h2 [] trivial (by decide) rfl ?_ | refine CallPt.useS h2 [] trivial (by decide) rfl ?_
    rintro _ _ ⟨rfl, rfl⟩ _
    conv => whnf
    repeat ((first | (refine aI ?_ ?_; focus exact sI) | refine dI (by kernel_rfl) ?_ | (refine yI ?_ ?_; focus exact sY) | (refine nI ?_ ?_; focus exact sY) | intro _); conv => whnf)
    subst hC
    refine aw_cut _ _ rfl fun C hC => ?_
    conv => whnf
    repeat ((first | (refine aI ?_ ?_; focus exact sI) | refine dI (by kernel_rfl) ?_ | (refine yI ?_ ?_; focus exact sY) | (refine nI ?_ ?_; focus exact sY) | intro _); conv => whnf)
    try (refine dI (by kernel_rfl) ?_; conv => whnf)
    first | refine CallSt.use h3 [] trivial (by decide) rfl ?_ | refine CallPt.useS h3 [] trivial (by decide) rfl ?_
    rintro _ _ ⟨rfl, rfl⟩ _
    conv => whnf
    repeat ((first | (refine aI ?_ ?_; focus exact sI) | refine dI (by kernel_rfl) ?_ | (refine yI ?_ ?_; focus exact sY) | (refine nI ?_ ?_; focus exact sY) | intro _); conv => whnf)
    try (refine dI (by kernel_rfl) ?_; conv => whnf)
    first | refine CallSt.use hw [] trivial (by decide) rfl ?_ | refine CallPt.useS hw [] trivial (by decide) rfl ?_
    rintro _ _ ⟨rfl, rfl⟩ _
    conv => whnf
    repeat ((first | (refine aI ?_ ?_; focus exact sI) | refine dI (by kernel_rfl) ?_ | (refine yI ?_ ?_; focus exact sY) | (refine nI ?_ ?_; focus exact sY) | intro _); conv => whnf)
    subst hC
    repeat ((first | (refine aI ?_ ?_; focus exact sI) | refine dI (by kernel_rfl) ?_ | (refine yI ?_ ?_; focus exact sY) | (refine nI ?_ ?_; focus exact sY) | intro _); conv => whnf)
    all_goals (first | rfl | exact ⟨rfl, rfl⟩ | exact ⟨rfl, rfl, rfl⟩)
  | true =>
    obtain ⟨hK, hc, hl, _⟩ := okR_K hok
    have ha := hl a (by simp)
    have h4 := cRType ⟨sig, ms⟩ hK a ha cx hc
    have h5 := cRKind ⟨sig, ms⟩ hK a ha cx hc
    rw [hok] at h1 h2 h3
    simp only at h1 h2
    generalize typF ⟨sig, ms⟩ a cx = x at *
    generalize kndF ⟨sig, ms⟩ a cx = y at *
    clear hok hl ha
    obtain ⟨a1, a2, a3, a4⟩ := a
    rw [tv_mk] at h1 h2 h4 h5
    rw [tv_mk]
    refine call_pure (E := envW6 0) (fn := Tryz.f5) (c := bodyOf Tryz.f5) (envW6_ok 0) mixed (by kernel_rfl) (by kernel_rfl) (by kernel_rfl) (by kernel_rfl) (by kernel_rfl) (by kernel_rfl) rfl ?_
    refine aw_cut _ _ rfl fun C hC => ?_
    conv => whnf
    repeat ((first | (refine aI ?_ ?_; focus exact sI) | refine dI (by kernel_rfl) ?_ | (refine yI ?_ ?_; focus exact sY) | (refine nI ?_ ?_; focus exact sY) | intro _); conv => whnf)
    subst hC
    refine aw_cut _ _ rfl fun C hC => ?_
    conv => whnf
    repeat ((first | (refine aI ?_ ?_; focus exact sI) | refine dI (by kernel_rfl) ?_ | (refine yI ?_ ?_; focus exact sY) | (refine nI ?_ ?_; focus exact sY) | intro _); conv => whnf)
    try (refine dI (by kernel_rfl) ?_; conv => whnf)
    first | refine CallSt.use h1 [] trivial (by decide) rfl ?_ | refine CallPt.useS h1 [] trivial (by decide) rfl ?_
    rintro _ _ ⟨rfl, rfl⟩ _
    conv => whnf
    repeat ((first | (refine aI ?_ ?_; focus exact sI) | refine dI (by kernel_rfl) ?_ | (refine yI ?_ ?_; focus exact sY) | (refine nI ?_ ?_; focus exact sY) | intro _); conv => whnf)
    subst hC
    refine aw_cut _ _ rfl fun C hC => ?_
    conv => whnf
    repeat ((first | (refine aI ?_ ?_; focus exact sI) | refine dI (by kernel_rfl) ?_ | (refine yI ?_ ?_; focus exact sY) | (refine nI ?_ ?_; focus exact sY) | intro _); conv => whnf)
    try (refine dI (by kernel_rfl) ?_; conv => whnf)
    first | refine CallSt.use h2 [] trivial (by decide) rfl ?_ | refine CallPt.useS h2 [] trivial (by decide) rfl ?_
    rintro _ _ ⟨rfl, rfl⟩ _
    conv => whnf
    repeat ((first | (refine aI ?_ ?_; focus exact sI) | refine dI (by kernel_rfl) ?_ | (refine yI ?_ ?_; focus exact sY) | (refine nI ?_ ?_; focus exact sY) | intro _); conv => whnf)
    subst hC
    refine aw_cut _ _ rfl fun C hC => ?_
    conv => whnf
    repeat ((first | (refine aI ?_ ?_; focus exact sI) | refine dI (by kernel_rfl) ?_ | (refine yI ?_ ?_; focus exact sY) | (refine nI ?_ ?_; focus exact sY) | intro _); conv => whnf)
    try (refine dI (by kernel_rfl) ?_; conv => whnf)
    first | refine CallSt.use h3 [] trivial (by decide) rfl ?_ | refine CallPt.useS h3 [] trivial (by decide) rfl ?_
    rintro _ _ ⟨rfl, rfl⟩ _
    conv => whnf
    repeat ((first | (refine aI ?_ ?_; focus exact sI) | refine dI (by kernel_rfl) ?_ | (refine yI ?_ ?_; focus exact sY) | (refine nI ?_ ?_; focus exact sY) | intro _); conv => whnf)
    subst hC
    conv => whnf
    repeat ((first | (refine aI ?_ ?_; focus exact sI) | refine dI (by kernel_rfl) ?_ | (refine yI ?_ ?_; focus exact sY) | (refine nI ?_ ?_; focus exact sY) | intro _); conv => whnf)
    try (refine dI (by kernel_rfl) ?_; conv => whnf)
    first | refine CallSt.use h4 [] trivial (by decide) rfl ?_ | refine CallPt.useS h4 [] trivial (by decide) rfl ?_
    rintro _ _ ⟨rfl, rfl⟩ _
    conv => whnf
    repeat ((first | (refine aI ?_ ?_; focus exact sI) | refine dI (by kernel_rfl) ?_ | (refine yI ?_ ?_; focus exact sY) | (refine nI ?_ ?_; focus exact sY) | intro _); conv => whnf)
    try (refine dI (by kernel_rfl) ?_; conv => whnf)
    first | refine CallSt.use h5 [] trivial (by decide) rfl ?_ | refine CallPt.useS h5 [] trivial (by decide) rfl ?_
    rintro _ _ ⟨rfl, rfl⟩ _
    conv => whnf
    repeat ((first | (refine aI ?_ ?_; focus exact sI) | refine dI (by kernel_rfl) ?_ | (refine yI ?_ ?_; focus exact sY) | (refine nI ?_ ?_; focus exact sY) | intro _); conv => whnf)
    try (refine dI (by kernel_rfl) ?_; conv => whnf)
    first | refine CallSt.use hw [] trivial (by decide) rfl ?_ | refine CallPt.useS hw [] trivial (by decide) rfl ?_
    rintro _ _ ⟨rfl, rfl⟩ _
    conv => whnf
    repeat ((first | (refine aI ?_ ?_; focus exact sI) | refine dI (by kernel_rfl) ?_ | (refine yI ?_ ?_; focus exact sY) | (refine nI ?_ ?_; focus exact sY) | intro _); conv => whnf)
    all_goals (first | rfl | exact ⟨rfl, rfl⟩ | exact ⟨rfl, rfl, rfl⟩)
end Go.Tr
/- What is handed in: worlds, and what is put. -/
namespace Go.Tr
open Go.Proofs
theorem tcs_map6 : ∀ ts : List Term, tcs ts = ts.map tc
  | [] => rfl
  | t :: r => by rw [tcs, tcs_map6 r]; rfl
theorem sh6_term : ∀ (n : Nat) {xs : List CV}, Sh (lkT tabW6) n 28 xs → ∃ t, xs = tc t := by
  intro n
  induction n using Nat.strongRecOn with
  | _ n ih =>
  intro xs h
  obtain ⟨m, rfl, a, b, rfl, h0, c, d, rfl, h1, e, f, rfl, h2, g, i, rfl, h3, rfl⟩ := sh_struct (fs := [(0, 3), (1, 3), (2, 3), (3, 24)]) rfl h
  obtain ⟨k, rfl, _⟩ := sh_int (k := .i64) rfl h0
  obtain ⟨l, rfl, _⟩ := sh_int (k := .i64) rfl h1
  obtain ⟨n, rfl, _⟩ := sh_int (k := .i64) rfl h2
  obtain ⟨m2, es, rfl, rfl, _, h4⟩ := sh_slice (e := 28) rfl h3
  obtain ⟨ts, rfl⟩ := map_choose (f := tc) es fun r hr => ih m2 (by omega) (h4 r hr)
  exact ⟨.mk k l n ts, by rw [← tcs_map6]; rfl⟩
theorem sh6_decl : ∀ (n : Nat) {xs : List CV}, Sh (lkT tabW6) n 66 xs → ∃ d, xs = dc d := by
  intro n xs h
  obtain ⟨m, rfl, a, b, rfl, h0, c, d, rfl, h1, e, f, rfl, h2, rfl⟩ := sh_struct (fs := [(0, 9), (1, 28), (5, 3)]) rfl h
  obtain ⟨s, rfl, _⟩ := sh_str rfl h0
  obtain ⟨t, rfl⟩ := sh6_term m h1
  obtain ⟨i, rfl, _⟩ := sh_int (k := .i64) rfl h2
  obtain ⟨k, l, x, ts⟩ := t
  exact ⟨⟨s, ⟨k, l, x, ts⟩, i⟩, rfl⟩
theorem sh6_meta : ∀ (n : Nat) {xs : List CV}, Sh (lkT tabW6) n 110 xs → ∃ d, xs = mc d := by
  intro n xs h
  obtain ⟨m, rfl, a, b, rfl, h0, c, d, rfl, h1, e, f, rfl, h2, g, i, rfl, h3, rfl⟩ := sh_struct (fs := [(0, 9), (1, 28), (5, 4), (6, 28)]) rfl h
  obtain ⟨s, rfl, _⟩ := sh_str rfl h0
  obtain ⟨t, rfl⟩ := sh6_term m h1
  obtain ⟨z, rfl⟩ := sh_bool rfl h2
  obtain ⟨u, rfl⟩ := sh6_term m h3
  obtain ⟨k, l, x, ts⟩ := t
  obtain ⟨k2, l2, x2, us⟩ := u
  exact ⟨⟨s, ⟨k, l, x, ts⟩, z, ⟨k2, l2, x2, us⟩⟩, rfl⟩
theorem sh6_sig {n : Nat} {xs : List CV} (h : Sh (lkT tabW6) n 22 xs) : ∃ l : List Dcl, xs = [.sl 6 72 (dcs l)] := by
  obtain ⟨m2, es, rfl, rfl, h5, h4⟩ := sh_slice (e := 66) rfl h
  obtain ⟨l, rfl⟩ := map_choose (f := dc) es fun r hr => sh6_decl m2 (h4 r hr)
  exact ⟨l, rfl⟩
theorem sh6_metas {n : Nat} {xs : List CV} (h : Sh (lkT tabW6) n 23 xs) : ∃ l : List Mta, xs = [.sl 10 120 (mcs l)] := by
  obtain ⟨m2, es, rfl, rfl, h5, h4⟩ := sh_slice (e := 110) rfl h
  obtain ⟨l, rfl⟩ := map_choose (f := mc) es fun r hr => sh6_meta m2 (h4 r hr)
  exact ⟨l, rfl⟩
theorem sh6_terms {n : Nat} {xs : List CV} (h : Sh (lkT tabW6) n 24 xs) : ∃ ts : List Term, xs = [.sl 4 48 (tcs ts)] := by
  obtain ⟨m2, es, rfl, rfl, h5, h4⟩ := sh_slice (e := 28) rfl h
  obtain ⟨ts, rfl⟩ := map_choose (f := tc) es fun r hr => sh6_term m2 (h4 r hr)
  exact ⟨ts, by rw [← tcs_map6]; rfl⟩
structure Wld where
  sig : List Dcl
  ms : List Mta
  cx : List Term
def wldC (x : Wld) : List CV := [.sl 6 72 (dcs x.sig), .sl 10 120 (mcs x.ms), .sl 4 48 (tcs x.cx)]
theorem sh6_world : ∀ (n : Nat) {xs : List CV}, Sh (lkT tabW6) n 26 xs → ∃ d, xs = wldC d := by
  intro n xs h
  obtain ⟨m, rfl, a, b, rfl, h0, c, d, rfl, h1, e, f, rfl, h2, rfl⟩ := sh_struct (fs := [(0, 22), (1, 23), (2, 24)]) rfl h
  obtain ⟨S, rfl⟩ := sh6_sig h0
  obtain ⟨M, rfl⟩ := sh6_metas h1
  obtain ⟨X, rfl⟩ := sh6_terms h2
  exact ⟨⟨S, M, X⟩, rfl⟩
structure Ptt where
  nn : Int
  mm : Term
  aa : Term
  ss : Term
  bb : Term
def argTypesH : List TypeId := [3, 4, 9, 24, 28, 66, 22, 110, 23, 26, 30]
theorem arg_okH : argTypesH.all (cl1 (lkT tabW6) argTypesH) = true := by decide
section
variable {H : Type} {enc : TypeId × Value → H} {W : World} {base : Nat} {v : Value} {d : DataW H} {ps : List MemPlace}
set_option maxRecDepth 100000 in
theorem arg_world (hval : Value.okWide Tryz.prog W .any base 26 v) (h : DataW.Trod enc Tryz.prog W 0 (fun _ => true) true 26 v d ps)
    (hw : ∀ n ∈ d.weights Tryz.prog 26, n ≤ reachBytes) : ∃ x : Wld, AVR W.heap noS (fun _ => .none) (wvR x.sig x.ms x.cx) v := by
  obtain ⟨fuel, xs, hs, a⟩ := open_arg (envW6_ok 0) arg_okH (by decide) hval h hw
  obtain ⟨x, rfl⟩ := sh6_world fuel hs
  exact ⟨x, a⟩
end
theorem wCheckTypes (x : Wld) (a : Term) : CallSt Tryz.prog 5 [wvR x.sig x.ms x.cx, tv a] [] (fun r H' => r = .c (.bool true) ∧ H' = []) := cCheckTypes x.sig x.ms x.cx a
end Go.Tr
