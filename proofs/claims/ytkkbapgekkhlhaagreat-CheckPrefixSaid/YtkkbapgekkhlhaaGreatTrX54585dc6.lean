/- What each function computes, and the plain laws of it. -/
import Derived.Test.YtkkbapgekkhlhaaGreatTrX9a7a3cc7
set_option linter.unusedVariables false
set_option linter.unusedSimpArgs false
set_option linter.unnecessarySimpa false
set_option linter.constructorNameAsVariable false
set_option autoImplicit false
/- The program's kernel: good. -/
namespace Go.Tr
open Go.Proofs
theorem cGood1 (t : Term) : CallSt Tryz.prog 76 [tv t] [] (fun r H' => r = .c (.bool (!prop t)) ∧ H' = []) := by
  have h := c14 t
  cases hp : prop t with
  | true =>
    rw [hp] at h
    clear hp
    obtain ⟨k, l, n, ts⟩ := t
    rw [tv_mk] at *
    refine call_pure (E := envC6 0) (fn := Tryz.f76) (c := bodyOf Tryz.f76) (envC6_ok 0) mixed sK sK sK sK sK sK rfl ?_
    conv => whnf
    repeat ((first | (refine aI ?_ ?_; focus exact sI) | refine dI sK ?_ | (refine yI ?_ ?_; focus exact sY) | (refine nI ?_ ?_; focus exact sY) | intro _); conv => whnf)
    try (refine dI sK ?_; conv => whnf)
    first | refine u0 h ?_ | refine v0 h ?_
    rintro _ _ ⟨rfl, rfl⟩ _
    conv => whnf
    repeat ((first | (refine aI ?_ ?_; focus exact sI) | refine dI sK ?_ | (refine yI ?_ ?_; focus exact sY) | (refine nI ?_ ?_; focus exact sY) | intro _); conv => whnf)
    all_goals exact sR
  | false =>
    rw [hp] at h
    clear hp
    obtain ⟨k, l, n, ts⟩ := t
    rw [tv_mk] at *
    refine call_pure (E := envC6 0) (fn := Tryz.f76) (c := bodyOf Tryz.f76) (envC6_ok 0) mixed sK sK sK sK sK sK rfl ?_
    conv => whnf
    repeat ((first | (refine aI ?_ ?_; focus exact sI) | refine dI sK ?_ | (refine yI ?_ ?_; focus exact sY) | (refine nI ?_ ?_; focus exact sY) | intro _); conv => whnf)
    try (refine dI sK ?_; conv => whnf)
    first | refine u0 h ?_ | refine v0 h ?_
    rintro _ _ ⟨rfl, rfl⟩ _
    conv => whnf
    repeat ((first | (refine aI ?_ ?_; focus exact sI) | refine dI sK ?_ | (refine yI ?_ ?_; focus exact sY) | (refine nI ?_ ?_; focus exact sY) | intro _); conv => whnf)
    all_goals exact sR
theorem cIdxG (l : List Term) : CallSt Tryz.prog 103 [.c (.sl 4 48 (tcs l)), .fn 76 []] [] (fun r H' => (∃ v, r = .c (.int .i64 (v)) ∧ (0 ≤ v ↔ l.all prop = false)) ∧ H' = []) := by
  have hll := len_tcs l
  refine call_pure (E := envC6 0) (fn := Tryz.f103) (c := bodyOf Tryz.f103) (envC6_ok 0) mixed sK sK sK sK sK sK rfl ?_
  conv => whnf
  repeat ((first | (refine aI ?_ ?_; focus exact sI) | refine dI sK ?_ | (refine yI ?_ ?_; focus exact sY) | (refine nI ?_ ?_; focus exact sY) | intro _); conv => whnf)
  refine loop_intro (fun m tm H => ∃ j : Nat, l.length = m + j ∧ (∀ (q : Nat) t, q < j → l[q]? = some t → prop t = true) ∧ tm = [(8, .c (.int .i64 (j))), (7, .c (.int .i64 ((tcs l).length))), (1, .fn 76 []), (0, .c (.sl 4 48 (tcs l)))] ∧ H = [])
    l.length _ _ ⟨0, by omega, fun q t h => absurd h (by omega), rfl, rfl⟩ (Wk.sl [] rfl trivial ⟨rfl, rfl, rfl, rfl, trivial⟩ rfl) ?_
  rintro m tm H ⟨j, hj, hall, rfl, rfl⟩
  conv => whnf
  repeat ((first | (refine aI ?_ ?_; focus exact sI) | refine dI sK ?_ | (refine yI ?_ ?_; focus exact sY) | (refine nI ?_ ?_; focus exact sY) | intro _); conv => whnf)
  refine ⟨fun hlt => ?_, fun hlt => ?_⟩
  · replace hlt : (j : Int) < (tcs l).length := of_decide_eq_true hlt
    obtain ⟨x, hx⟩ := get_some (show j < l.length by omega)
    have hxc := tcs_at l j x hx
    have hg := cGood1 x
    cases hp : prop x with
    | true =>
      rw [hp] at hg
      have hnx : ∀ (q : Nat) t, q < j + 1 → l[q]? = some t → prop t = true := fun q t hq ht => by
        by_cases e : q < j
        · exact hall q t e ht
        · obtain rfl : q = j := by omega
          rw [hx] at ht
          injection ht with ht
          exact ht ▸ hp
      clear hp hx
      obtain ⟨x1, x2, x3, x4⟩ := x
      rw [tv_mk] at hg
      conv => whnf
      repeat ((first | (refine aI ?_ ?_; focus exact sI) | refine dI sK ?_ | (refine yI ?_ ?_; focus exact sY) | (refine nI ?_ ?_; focus exact sY) | intro _); conv => whnf)
      refine ⟨_, ⟨by omega, by simpa using hxc⟩, ?_⟩
      conv => whnf
      refine ⟨Nat.le_refl 4, ?_⟩
      conv => whnf
      try (refine dI sK ?_; conv => whnf)
      first | refine u0 hg ?_ | refine v0 hg ?_
      rintro _ _ ⟨rfl, rfl⟩ _
      conv => whnf
      repeat ((first | (refine aI ?_ ?_; focus exact sI) | refine dI sK ?_ | (refine yI ?_ ?_; focus exact sY) | (refine nI ?_ ?_; focus exact sY) | intro _); conv => whnf)
      have hlen : (tcs l).length * 48 ≤ 140737488355328 := ‹gd [] true ((tcs l).length * 48 ≤ 140737488355328)›
      refine ⟨show inR _ by unfold inR; omega, ?_⟩
      conv => whnf
      repeat ((first | (refine aI ?_ ?_; focus exact sI) | refine dI sK ?_ | (refine yI ?_ ?_; focus exact sY) | (refine nI ?_ ?_; focus exact sY) | intro _); conv => whnf)
      exact ⟨m - 1, _, _, by omega, ⟨j + 1, by omega, hnx, rfl, rfl⟩, Wk.sl [] rfl trivial ⟨rfl, rfl, rfl, rfl, trivial⟩ rfl⟩
    | false =>
      rw [hp] at hg
      have e : l.all prop = false := List.all_eq_false.2 ⟨x, List.mem_of_getElem? hx, by rw [hp]; decide⟩
      clear hp hx
      obtain ⟨x1, x2, x3, x4⟩ := x
      rw [tv_mk] at hg
      conv => whnf
      repeat ((first | (refine aI ?_ ?_; focus exact sI) | refine dI sK ?_ | (refine yI ?_ ?_; focus exact sY) | (refine nI ?_ ?_; focus exact sY) | intro _); conv => whnf)
      refine ⟨_, ⟨by omega, by simpa using hxc⟩, ?_⟩
      conv => whnf
      refine ⟨Nat.le_refl 4, ?_⟩
      conv => whnf
      try (refine dI sK ?_; conv => whnf)
      first | refine u0 hg ?_ | refine v0 hg ?_
      rintro _ _ ⟨rfl, rfl⟩ _
      conv => whnf
      repeat ((first | (refine aI ?_ ?_; focus exact sI) | refine dI sK ?_ | (refine yI ?_ ?_; focus exact sY) | (refine nI ?_ ?_; focus exact sY) | intro _); conv => whnf)
      exact ⟨⟨_, rfl, fun _ => e, fun _ => by omega⟩, rfl⟩
  · replace hlt : ¬ (j : Int) < (tcs l).length := of_decide_eq_false hlt
    have e : l.all prop = true := List.all_eq_true.2 fun t ht => by
      obtain ⟨i, hi⟩ := List.mem_iff_getElem?.1 ht
      exact hall i t (by have := (List.getElem?_eq_some_iff.1 hi).1; omega) hi
    conv => whnf
    repeat ((first | (refine aI ?_ ?_; focus exact sI) | refine dI sK ?_ | (refine yI ?_ ?_; focus exact sY) | (refine nI ?_ ?_; focus exact sY) | intro _); conv => whnf)
    exact ⟨⟨_, rfl, fun h => absurd h (by omega), fun h => by rw [e] at h; cases h⟩, rfl⟩
theorem cAnyG (l : List Term) : CallSt Tryz.prog 74 [.c (.sl 4 48 (tcs l)), .fn 76 []] [] (fun r H' => r = .c (.bool (!l.all prop)) ∧ H' = []) := by
  have h := cIdxG l
  refine call_pure (E := envC6 0) (fn := Tryz.f74) (c := bodyOf Tryz.f74) (envC6_ok 0) mixed sK sK sK sK sK sK rfl ?_
  conv => whnf
  repeat ((first | (refine aI ?_ ?_; focus exact sI) | refine dI sK ?_ | (refine yI ?_ ?_; focus exact sY) | (refine nI ?_ ?_; focus exact sY) | intro _); conv => whnf)
  try (refine dI sK ?_; conv => whnf)
  first | refine u0 h ?_ | refine v0 h ?_
  rintro _ _ ⟨⟨v, rfl, hv⟩, rfl⟩ _
  conv => whnf
  repeat ((first | (refine aI ?_ ?_; focus exact sI) | refine dI sK ?_ | (refine yI ?_ ?_; focus exact sY) | (refine nI ?_ ?_; focus exact sY) | intro _); conv => whnf)
  refine ⟨congrArg (fun z => AV.c (.bool z)) ?_, rfl⟩
  cases hp : l.all prop with
  | true => exact decide_eq_false fun h => by rw [hp] at hv; exact absurd (hv.1 h) (by decide)
  | false => exact decide_eq_true (hv.2 hp)
theorem rws_two (a b : List Term) : rws [a, b] = [[.sl 4 48 (tcs a)], [.sl 4 48 (tcs b)]] := by unfold rws; rfl
theorem cConcat2 (a b : List Term) (ha : a.length ≤ 100000) (hb : b.length ≤ 100000) : CallSt Tryz.prog 75 [.c (.sl 1 24 [[.sl 4 48 (tcs a)], [.sl 4 48 (tcs b)]])] [] (fun r H' => r = .c (.sl 4 48 (tcs (a ++ b))) ∧ H' = []) := by
  have e : [a, b].flatten = a ++ b := by simp
  rw [← rws_two, ← e]
  by_cases h : 0 < [a, b].flatten.length
  · exact cConcat [a, b] (by simp) (by rw [e, List.length_append]; omega) h
  · exact cConcat0 [a, b] (by simp) (by omega)
theorem cGood (sig : List Dcl) (ms : List Mta) (cx l : List Term) (hl : l.length ≤ 1000) : CallSt Tryz.prog 45 [.c (.sl 6 72 (dcs sig)), .c (.sl 10 120 (mcs ms)), .c (.sl 4 48 (tcs cx)), .c (.sl 4 48 (tcs l))] [] (fun r H' => r = .c (.bool (okR sig ms cx l)) ∧ H' = []) := by
  have hck := cCheck sig
  have hml := len_mcs ms
  have hcl := len_tcs cx
  have e80 : decide ((80 : Int) < ((mcs ms).length : Int)) = !decide (ms.length ≤ 80) := by by_cases h : ms.length ≤ 80 <;> simp [h] <;> omega
  have e30 : decide ((30 : Int) < ((tcs cx).length : Int)) = !decide (cx.length ≤ 30) := by by_cases h : cx.length ≤ 30 <;> simp [h] <;> omega
  unfold okR metasR
  cases hs : checkB sig with
  | false =>
    rw [hs] at hck
    clear hs
    refine call_pure (E := envN6 0) (fn := Tryz.f45) (c := bodyOf Tryz.f45) (envN6_ok 0) mixed sK sK sK sK sK sK rfl ?_
    refine aw_cut _ _ rfl fun C hC => ?_
    conv => whnf
    repeat ((first | (refine aI ?_ ?_; focus exact sI) | refine dI sK ?_ | (refine yI ?_ ?_; focus exact sY) | (refine nI ?_ ?_; focus exact sY) | intro _); conv => whnf)
    subst hC
    refine aw_cut _ _ rfl fun C hC => ?_
    conv => whnf
    repeat ((first | (refine aI ?_ ?_; focus exact sI) | refine dI sK ?_ | (refine yI ?_ ?_; focus exact sY) | (refine nI ?_ ?_; focus exact sY) | intro _); conv => whnf)
    try (refine dI sK ?_; conv => whnf)
    first | refine u0 hck ?_ | refine v0 hck ?_
    rintro _ _ ⟨rfl, rfl⟩ _
    conv => whnf
    repeat ((first | (refine aI ?_ ?_; focus exact sI) | refine dI sK ?_ | (refine yI ?_ ?_; focus exact sY) | (refine nI ?_ ?_; focus exact sY) | intro _); conv => whnf)
    subst hC
    repeat ((first | (refine aI ?_ ?_; focus exact sI) | refine dI sK ?_ | (refine yI ?_ ?_; focus exact sY) | (refine nI ?_ ?_; focus exact sY) | intro _); conv => whnf)
    all_goals exact sR
  | true =>
    rw [hs] at hck
    clear hs
    by_cases h80 : ms.length ≤ 80
    · rw [decide_eq_true h80] at e80 ⊢
      by_cases h30 : cx.length ≤ 30
      · rw [decide_eq_true h30] at e30 ⊢
        have hco := cConcat2 cx l (by omega) (by omega)
        have han := cAnyG (cx ++ l)
        rw [List.all_append] at han
        refine call_pure (E := envN6 0) (fn := Tryz.f45) (c := bodyOf Tryz.f45) (envN6_ok 0) mixed sK sK sK sK sK sK rfl ?_
        refine aw_cut _ _ rfl fun C hC => ?_
        conv => whnf
        repeat ((first | (refine aI ?_ ?_; focus exact sI) | refine dI sK ?_ | (refine yI ?_ ?_; focus exact sY) | (refine nI ?_ ?_; focus exact sY) | intro _); conv => whnf)
        subst hC
        refine aw_cut _ _ rfl fun C hC => ?_
        conv => whnf
        repeat ((first | (refine aI ?_ ?_; focus exact sI) | refine dI sK ?_ | (refine yI ?_ ?_; focus exact sY) | (refine nI ?_ ?_; focus exact sY) | intro _); conv => whnf)
        try (refine dI sK ?_; conv => whnf)
        first | refine u0 hck ?_ | refine v0 hck ?_
        rintro _ _ ⟨rfl, rfl⟩ _
        conv => whnf
        repeat ((first | (refine aI ?_ ?_; focus exact sI) | refine dI sK ?_ | (refine yI ?_ ?_; focus exact sY) | (refine nI ?_ ?_; focus exact sY) | intro _); conv => whnf)
        rw [e80]
        repeat ((first | (refine aI ?_ ?_; focus exact sI) | refine dI sK ?_ | (refine yI ?_ ?_; focus exact sY) | (refine nI ?_ ?_; focus exact sY) | intro _); conv => whnf)
        rw [e30]
        repeat ((first | (refine aI ?_ ?_; focus exact sI) | refine dI sK ?_ | (refine yI ?_ ?_; focus exact sY) | (refine nI ?_ ?_; focus exact sY) | intro _); conv => whnf)
        subst hC
        conv => whnf
        repeat ((first | (refine aI ?_ ?_; focus exact sI) | refine dI sK ?_ | (refine yI ?_ ?_; focus exact sY) | (refine nI ?_ ?_; focus exact sY) | intro _); conv => whnf)
        refine loop_intro (fun m tm H => ∃ j : Nat, ms.length = m + j ∧ (∀ (q : Nat) t, q < j → ms[q]? = some t → metaOk t = true) ∧ tm = [(28, .c (.int .i64 (j))), (27, .c (.int .i64 ((mcs ms).length))), (26, .c (.sl 10 120 (mcs ms))), (3, .c (.sl 4 48 (tcs l))), (2, .c (.sl 4 48 (tcs cx)))] ∧ H = [])
          ms.length _ _ ⟨0, by omega, fun q t h => absurd h (by omega), rfl, rfl⟩ (Wk.sl [] rfl trivial ⟨rfl, rfl, rfl, rfl, rfl, trivial⟩ rfl) ?_
        rintro m tm H ⟨j, hj, hall, rfl, rfl⟩
        conv => whnf
        repeat ((first | (refine aI ?_ ?_; focus exact sI) | refine dI sK ?_ | (refine yI ?_ ?_; focus exact sY) | (refine nI ?_ ?_; focus exact sY) | intro _); conv => whnf)
        refine ⟨fun hlt => ?_, fun hlt => ?_⟩
        · replace hlt : (j : Int) < (mcs ms).length := of_decide_eq_true hlt
          obtain ⟨u, hu⟩ := get_some (show j < ms.length by omega)
          have huc := mcs_at hu
          have hfr := cFreeP u.cl
          have hno : metaOk u = false → ms.all metaOk = false := fun h => List.all_eq_false.2 ⟨u, List.mem_of_getElem? hu, by rw [h]; decide⟩
          have hnx : metaOk u = true → ∀ (q : Nat) t, q < j + 1 → ms[q]? = some t → metaOk t = true := fun h q t hq ht => by
            by_cases e : q < j
            · exact hall q t e ht
            · obtain rfl : q = j := by omega
              rw [hu] at ht
              injection ht with ht
              exact ht ▸ h
          cases hpu : prop u.cl with
          | true =>
            rw [hpu] at hfr
            have hmk : metaOk u = decide (conF 1 u.cl = []) := by unfold metaOk; rw [hpu, Bool.true_and]
            clear hpu hu
            cases hF : conF 1 u.cl with
            | nil =>
              rw [hF] at hmk hfr
              replace hnx := hnx (by rw [hmk]; rfl)
              clear hF hmk hno
              obtain ⟨nm, ⟨c1, c2, c3, c4⟩, so, ⟨v1, v2, v3, v4⟩⟩ := u
              rw [tv_mk] at hfr
              conv => whnf
              repeat ((first | (refine aI ?_ ?_; focus exact sI) | refine dI sK ?_ | (refine yI ?_ ?_; focus exact sY) | (refine nI ?_ ?_; focus exact sY) | intro _); conv => whnf)
              refine ⟨_, ⟨by omega, huc⟩, ?_⟩
              conv => whnf
              refine ⟨show 10 ≤ 10 by decide, ?_⟩
              conv => whnf
              repeat ((first | (refine aI ?_ ?_; focus exact sI) | refine dI sK ?_ | (refine yI ?_ ?_; focus exact sY) | (refine nI ?_ ?_; focus exact sY) | intro _); conv => whnf)
              try (refine dI sK ?_; conv => whnf)
              first | refine u0 hfr ?_ | refine v0 hfr ?_
              rintro _ _ ⟨rfl, rfl⟩ _
              conv => whnf
              repeat ((first | (refine aI ?_ ?_; focus exact sI) | refine dI sK ?_ | (refine yI ?_ ?_; focus exact sY) | (refine nI ?_ ?_; focus exact sY) | intro _); conv => whnf)
              exact ⟨m - 1, _, _, by omega, ⟨j + 1, by omega, hnx, rfl, rfl⟩, Wk.sl [] rfl trivial ⟨rfl, rfl, rfl, rfl, rfl, trivial⟩ rfl⟩
            | cons z zs =>
              rw [hF] at hmk hfr
              replace hno := hno (by rw [hmk]; simp)
              rw [hno]
              have ez : decide ((0 : Int) < ((rowI (z :: zs)).length : Int)) = true := decide_eq_true (by simp [rowI])
              clear hF hmk hnx
              obtain ⟨nm, ⟨c1, c2, c3, c4⟩, so, ⟨v1, v2, v3, v4⟩⟩ := u
              rw [tv_mk] at hfr
              conv => whnf
              repeat ((first | (refine aI ?_ ?_; focus exact sI) | refine dI sK ?_ | (refine yI ?_ ?_; focus exact sY) | (refine nI ?_ ?_; focus exact sY) | intro _); conv => whnf)
              refine ⟨_, ⟨by omega, huc⟩, ?_⟩
              conv => whnf
              refine ⟨show 10 ≤ 10 by decide, ?_⟩
              conv => whnf
              repeat ((first | (refine aI ?_ ?_; focus exact sI) | refine dI sK ?_ | (refine yI ?_ ?_; focus exact sY) | (refine nI ?_ ?_; focus exact sY) | intro _); conv => whnf)
              try (refine dI sK ?_; conv => whnf)
              first | refine u0 hfr ?_ | refine v0 hfr ?_
              rintro _ _ ⟨rfl, rfl⟩ _
              conv => whnf
              repeat ((first | (refine aI ?_ ?_; focus exact sI) | refine dI sK ?_ | (refine yI ?_ ?_; focus exact sY) | (refine nI ?_ ?_; focus exact sY) | intro _); conv => whnf)
              rw [ez]
              (refine ⟨fun _ => ?_, fun h => absurd h (by simp)⟩; conv => whnf)
              repeat ((first | (refine aI ?_ ?_; focus exact sI) | refine dI sK ?_ | (refine yI ?_ ?_; focus exact sY) | (refine nI ?_ ?_; focus exact sY) | intro _); conv => whnf)
              all_goals exact sR
          | false =>
            rw [hpu] at hfr
            rw [hno (by unfold metaOk; rw [hpu]; rfl)]
            clear hpu hu hno hnx
            obtain ⟨nm, ⟨c1, c2, c3, c4⟩, so, ⟨v1, v2, v3, v4⟩⟩ := u
            rw [tv_mk] at hfr
            conv => whnf
            repeat ((first | (refine aI ?_ ?_; focus exact sI) | refine dI sK ?_ | (refine yI ?_ ?_; focus exact sY) | (refine nI ?_ ?_; focus exact sY) | intro _); conv => whnf)
            refine ⟨_, ⟨by omega, huc⟩, ?_⟩
            conv => whnf
            refine ⟨show 10 ≤ 10 by decide, ?_⟩
            conv => whnf
            repeat ((first | (refine aI ?_ ?_; focus exact sI) | refine dI sK ?_ | (refine yI ?_ ?_; focus exact sY) | (refine nI ?_ ?_; focus exact sY) | intro _); conv => whnf)
            try (refine dI sK ?_; conv => whnf)
            first | refine u0 hfr ?_ | refine v0 hfr ?_
            rintro _ _ ⟨rfl, rfl⟩ _
            conv => whnf
            repeat ((first | (refine aI ?_ ?_; focus exact sI) | refine dI sK ?_ | (refine yI ?_ ?_; focus exact sY) | (refine nI ?_ ?_; focus exact sY) | intro _); conv => whnf)
            repeat ((first | (refine aI ?_ ?_; focus exact sI) | refine dI sK ?_ | (refine yI ?_ ?_; focus exact sY) | (refine nI ?_ ?_; focus exact sY) | intro _); conv => whnf)
            all_goals exact sR
        · replace hlt : ¬ (j : Int) < (mcs ms).length := of_decide_eq_false hlt
          have e : ms.all metaOk = true := List.all_eq_true.2 fun t ht => by
            obtain ⟨i, hi⟩ := List.mem_iff_getElem?.1 ht
            exact hall i t (by have := (List.getElem?_eq_some_iff.1 hi).1; omega) hi
          rw [e]
          conv => whnf
          repeat ((first | (refine aI ?_ ?_; focus exact sI) | refine dI sK ?_ | (refine yI ?_ ?_; focus exact sY) | (refine nI ?_ ?_; focus exact sY) | intro _); conv => whnf)
          try (refine dI sK ?_; conv => whnf)
          first | refine u0 hco ?_ | refine v0 hco ?_
          rintro _ _ ⟨rfl, rfl⟩ _
          conv => whnf
          repeat ((first | (refine aI ?_ ?_; focus exact sI) | refine dI sK ?_ | (refine yI ?_ ?_; focus exact sY) | (refine nI ?_ ?_; focus exact sY) | intro _); conv => whnf)
          try (refine dI sK ?_; conv => whnf)
          first | refine u0 han ?_ | refine v0 han ?_
          rintro _ _ ⟨rfl, rfl⟩ _
          conv => whnf
          repeat ((first | (refine aI ?_ ?_; focus exact sI) | refine dI sK ?_ | (refine yI ?_ ?_; focus exact sY) | (refine nI ?_ ?_; focus exact sY) | intro _); conv => whnf)
          exact ⟨congrArg (fun z => AV.c (.bool z)) (by simp), rfl⟩
      · rw [decide_eq_false h30] at e30 ⊢
        refine call_pure (E := envN6 0) (fn := Tryz.f45) (c := bodyOf Tryz.f45) (envN6_ok 0) mixed sK sK sK sK sK sK rfl ?_
        refine aw_cut _ _ rfl fun C hC => ?_
        conv => whnf
        repeat ((first | (refine aI ?_ ?_; focus exact sI) | refine dI sK ?_ | (refine yI ?_ ?_; focus exact sY) | (refine nI ?_ ?_; focus exact sY) | intro _); conv => whnf)
        subst hC
        refine aw_cut _ _ rfl fun C hC => ?_
        conv => whnf
        repeat ((first | (refine aI ?_ ?_; focus exact sI) | refine dI sK ?_ | (refine yI ?_ ?_; focus exact sY) | (refine nI ?_ ?_; focus exact sY) | intro _); conv => whnf)
        try (refine dI sK ?_; conv => whnf)
        first | refine u0 hck ?_ | refine v0 hck ?_
        rintro _ _ ⟨rfl, rfl⟩ _
        conv => whnf
        repeat ((first | (refine aI ?_ ?_; focus exact sI) | refine dI sK ?_ | (refine yI ?_ ?_; focus exact sY) | (refine nI ?_ ?_; focus exact sY) | intro _); conv => whnf)
        rw [e80]
        repeat ((first | (refine aI ?_ ?_; focus exact sI) | refine dI sK ?_ | (refine yI ?_ ?_; focus exact sY) | (refine nI ?_ ?_; focus exact sY) | intro _); conv => whnf)
        rw [e30]
        repeat ((first | (refine aI ?_ ?_; focus exact sI) | refine dI sK ?_ | (refine yI ?_ ?_; focus exact sY) | (refine nI ?_ ?_; focus exact sY) | intro _); conv => whnf)
        subst hC
        repeat ((first | (refine aI ?_ ?_; focus exact sI) | refine dI sK ?_ | (refine yI ?_ ?_; focus exact sY) | (refine nI ?_ ?_; focus exact sY) | intro _); conv => whnf)
        exact ⟨congrArg (fun z => AV.c (.bool z)) (by simp), rfl⟩
    · rw [decide_eq_false h80] at e80 ⊢
      refine call_pure (E := envN6 0) (fn := Tryz.f45) (c := bodyOf Tryz.f45) (envN6_ok 0) mixed sK sK sK sK sK sK rfl ?_
      refine aw_cut _ _ rfl fun C hC => ?_
      conv => whnf
      repeat ((first | (refine aI ?_ ?_; focus exact sI) | refine dI sK ?_ | (refine yI ?_ ?_; focus exact sY) | (refine nI ?_ ?_; focus exact sY) | intro _); conv => whnf)
      subst hC
      refine aw_cut _ _ rfl fun C hC => ?_
      conv => whnf
      repeat ((first | (refine aI ?_ ?_; focus exact sI) | refine dI sK ?_ | (refine yI ?_ ?_; focus exact sY) | (refine nI ?_ ?_; focus exact sY) | intro _); conv => whnf)
      try (refine dI sK ?_; conv => whnf)
      first | refine u0 hck ?_ | refine v0 hck ?_
      rintro _ _ ⟨rfl, rfl⟩ _
      conv => whnf
      repeat ((first | (refine aI ?_ ?_; focus exact sI) | refine dI sK ?_ | (refine yI ?_ ?_; focus exact sY) | (refine nI ?_ ?_; focus exact sY) | intro _); conv => whnf)
      rw [e80]
      repeat ((first | (refine aI ?_ ?_; focus exact sI) | refine dI sK ?_ | (refine yI ?_ ?_; focus exact sY) | (refine nI ?_ ?_; focus exact sY) | intro _); conv => whnf)
      subst hC
      repeat ((first | (refine aI ?_ ?_; focus exact sI) | refine dI sK ?_ | (refine yI ?_ ?_; focus exact sY) | (refine nI ?_ ?_; focus exact sY) | intro _); conv => whnf)
      all_goals exact sR
end Go.Tr
/- The program's kernel: Type, Kind, Object, Infer. -/
namespace Go.Tr
open Go.Proofs
theorem okR_K {sig : List Dcl} {ms : List Mta} {cx l : List Term} (h : okR sig ms cx l = true) : KOk ⟨sig, ms⟩ ∧ COk cx ∧ (∀ t ∈ l, prop t = true) ∧ checkB sig = true := by
  unfold okR at h
  simp only [Bool.and_eq_true, decide_eq_true_eq, List.all_eq_true] at h
  obtain ⟨h1, h2, h3, h4, h5⟩ := h
  unfold metasR at h2
  simp only [Bool.and_eq_true, decide_eq_true_eq, List.all_eq_true] at h2
  have h6 := check_prop h1
  have h7 := check_len h1
  refine ⟨⟨h6, fun m hm => ?_, by simp only; omega, by simp only; omega⟩, ⟨h4, h3⟩, h5, h1⟩
  have := h2.2 m hm
  unfold metaOk at this
  rw [Bool.and_eq_true] at this
  exact this.1
def ktypF (sig : List Dcl) (ms : List Mta) (cx : List Term) (a : Term) : Int := match okR sig ms cx [a] with | true => typF ⟨sig, ms⟩ a cx | false => 2
def kkndF (sig : List Dcl) (ms : List Mta) (cx : List Term) (a : Term) : Int := match okR sig ms cx [a] with | true => kndF ⟨sig, ms⟩ a cx | false => 2
def kobjF (sig : List Dcl) (ms : List Mta) (cx : List Term) (m a : Term) : Int := match okR sig ms cx [m, a] with | true => objF ⟨sig, ms⟩ m cx a | false => 2
def kinfF (sig : List Dcl) (ms : List Mta) (cx : List Term) (m : Term) : Term × Int := match okR sig ms cx [m] with | true => infF ⟨sig, ms⟩ cx m | false => (zT, 2)
theorem fitF_prop {K : Krn} {cx : List Term} : ∀ (ts : List Term) (c : Term), prop c = true → (fitF K ts cx c).2 = 0 → prop (fitF K ts cx c).1 = true
  | [], c, hc, h => by rw [fitF]; exact hc
  | m :: r, c, hc, h => by
    by_cases hk : c.k = 2
    · obtain ⟨k, l, n, us⟩ := c
      replace hk : k = 2 := hk
      subst hk
      obtain ⟨A, B, rfl, rfl, rfl, hA, hB⟩ := prop_pi6 hc
      rw [fitF_cons] at h ⊢
      by_cases he : objF K m cx A ≠ 0
      · rw [if_pos he] at h
        exact absurd h he
      · rw [if_neg he] at h ⊢
        by_cases he2 : (instR (.mk 2 0 0 [A, B]) [m]).2 ≠ 0
        · rw [if_pos he2] at h
          exact absurd h he2
        · rw [if_neg he2] at h ⊢
          exact fitF_prop r _ (instR_prop (by omega)) h
    · rw [fitF_no K m r cx hk] at h
      cases h
theorem appF_z (c : Term × Int) (f : Term → Term × Int) (h : (appF c f).2 ≠ 0) : (appF c f).1 = zT := by
  unfold appF at h ⊢
  split
  · rfl
  · rename_i h1
    rw [if_neg h1] at h
    unfold restF at h ⊢
    split
    · rfl
    · rename_i h2
      rw [if_neg h2] at h
      split
      · rfl
      · rename_i h3
        rw [if_neg h3] at h
        exact absurd rfl h
theorem cKType (sig : List Dcl) (ms : List Mta) (cx : List Term) (a : Term) : CallSt Tryz.prog 16 [.c (.sl 6 72 (dcs sig)), .c (.sl 10 120 (mcs ms)), .c (.sl 4 48 (tcs cx)), tv a] [] (fun r H' => r = .c (.int .i64 (ktypF sig ms cx a)) ∧ H' = []) := by
  unfold ktypF
  have hg := cGood sig ms cx [a] (by simp)
  have hov := cOver sig ms
  cases hok : okR sig ms cx [a] with
  | false =>
    rw [hok] at hg
    clear hok
    obtain ⟨a1, a2, a3, a4⟩ := a
    rw [tv_mk]
    refine call_pure (E := envC6 0) (fn := Tryz.f16) (c := bodyOf Tryz.f16) (envC6_ok 0) mixed sK sK sK sK sK sK rfl ?_
    refine aw_cut _ _ rfl fun C hC => ?_
    conv => whnf
    repeat ((first | (refine aI ?_ ?_; focus exact sI) | refine dI sK ?_ | (refine yI ?_ ?_; focus exact sY) | (refine nI ?_ ?_; focus exact sY) | intro _); conv => whnf)
    subst hC
    refine aw_cut _ _ rfl fun C hC => ?_
    conv => whnf
    repeat ((first | (refine aI ?_ ?_; focus exact sI) | refine dI sK ?_ | (refine yI ?_ ?_; focus exact sY) | (refine nI ?_ ?_; focus exact sY) | intro _); conv => whnf)
    try (refine dI sK ?_; conv => whnf)
    first | refine u0 hg ?_ | refine v0 hg ?_
    rintro _ _ ⟨rfl, rfl⟩ _
    conv => whnf
    repeat ((first | (refine aI ?_ ?_; focus exact sI) | refine dI sK ?_ | (refine yI ?_ ?_; focus exact sY) | (refine nI ?_ ?_; focus exact sY) | intro _); conv => whnf)
    subst hC
    repeat ((first | (refine aI ?_ ?_; focus exact sI) | refine dI sK ?_ | (refine yI ?_ ?_; focus exact sY) | (refine nI ?_ ?_; focus exact sY) | intro _); conv => whnf)
    all_goals exact sR
  | true =>
    obtain ⟨hK, hc, hl, _⟩ := okR_K hok
    have ht := cSType ⟨sig, ms⟩ hK a (hl a (by simp)) cx hc
    rw [hok] at hg
    clear hok hl
    obtain ⟨a1, a2, a3, a4⟩ := a
    rw [tv_mk] at ht
    rw [tv_mk]
    refine call_pure (E := envC6 0) (fn := Tryz.f16) (c := bodyOf Tryz.f16) (envC6_ok 0) mixed sK sK sK sK sK sK rfl ?_
    refine aw_cut _ _ rfl fun C hC => ?_
    conv => whnf
    repeat ((first | (refine aI ?_ ?_; focus exact sI) | refine dI sK ?_ | (refine yI ?_ ?_; focus exact sY) | (refine nI ?_ ?_; focus exact sY) | intro _); conv => whnf)
    subst hC
    refine aw_cut _ _ rfl fun C hC => ?_
    conv => whnf
    repeat ((first | (refine aI ?_ ?_; focus exact sI) | refine dI sK ?_ | (refine yI ?_ ?_; focus exact sY) | (refine nI ?_ ?_; focus exact sY) | intro _); conv => whnf)
    try (refine dI sK ?_; conv => whnf)
    first | refine u0 hg ?_ | refine v0 hg ?_
    rintro _ _ ⟨rfl, rfl⟩ _
    conv => whnf
    repeat ((first | (refine aI ?_ ?_; focus exact sI) | refine dI sK ?_ | (refine yI ?_ ?_; focus exact sY) | (refine nI ?_ ?_; focus exact sY) | intro _); conv => whnf)
    subst hC
    conv => whnf
    repeat ((first | (refine aI ?_ ?_; focus exact sI) | refine dI sK ?_ | (refine yI ?_ ?_; focus exact sY) | (refine nI ?_ ?_; focus exact sY) | intro _); conv => whnf)
    try (refine dI sK ?_; conv => whnf)
    first | refine u0 hov ?_ | refine v0 hov ?_
    rintro _ _ ⟨rfl, rfl⟩ _
    conv => whnf
    repeat ((first | (refine aI ?_ ?_; focus exact sI) | refine dI sK ?_ | (refine yI ?_ ?_; focus exact sY) | (refine nI ?_ ?_; focus exact sY) | intro _); conv => whnf)
    try (refine dI sK ?_; conv => whnf)
    first | refine u0 ht ?_ | refine v0 ht ?_
    rintro _ _ ⟨rfl, rfl⟩ _
    conv => whnf
    repeat ((first | (refine aI ?_ ?_; focus exact sI) | refine dI sK ?_ | (refine yI ?_ ?_; focus exact sY) | (refine nI ?_ ?_; focus exact sY) | intro _); conv => whnf)
    all_goals exact sR
theorem cKKind (sig : List Dcl) (ms : List Mta) (cx : List Term) (a : Term) : CallSt Tryz.prog 22 [.c (.sl 6 72 (dcs sig)), .c (.sl 10 120 (mcs ms)), .c (.sl 4 48 (tcs cx)), tv a] [] (fun r H' => r = .c (.int .i64 (kkndF sig ms cx a)) ∧ H' = []) := by
  unfold kkndF
  have hg := cGood sig ms cx [a] (by simp)
  have hov := cOver sig ms
  cases hok : okR sig ms cx [a] with
  | false =>
    rw [hok] at hg
    clear hok
    obtain ⟨a1, a2, a3, a4⟩ := a
    rw [tv_mk]
    refine call_pure (E := envC6 0) (fn := Tryz.f22) (c := bodyOf Tryz.f22) (envC6_ok 0) mixed sK sK sK sK sK sK rfl ?_
    refine aw_cut _ _ rfl fun C hC => ?_
    conv => whnf
    repeat ((first | (refine aI ?_ ?_; focus exact sI) | refine dI sK ?_ | (refine yI ?_ ?_; focus exact sY) | (refine nI ?_ ?_; focus exact sY) | intro _); conv => whnf)
    subst hC
    refine aw_cut _ _ rfl fun C hC => ?_
    conv => whnf
    repeat ((first | (refine aI ?_ ?_; focus exact sI) | refine dI sK ?_ | (refine yI ?_ ?_; focus exact sY) | (refine nI ?_ ?_; focus exact sY) | intro _); conv => whnf)
    try (refine dI sK ?_; conv => whnf)
    first | refine u0 hg ?_ | refine v0 hg ?_
    rintro _ _ ⟨rfl, rfl⟩ _
    conv => whnf
    repeat ((first | (refine aI ?_ ?_; focus exact sI) | refine dI sK ?_ | (refine yI ?_ ?_; focus exact sY) | (refine nI ?_ ?_; focus exact sY) | intro _); conv => whnf)
    subst hC
    repeat ((first | (refine aI ?_ ?_; focus exact sI) | refine dI sK ?_ | (refine yI ?_ ?_; focus exact sY) | (refine nI ?_ ?_; focus exact sY) | intro _); conv => whnf)
    all_goals exact sR
  | true =>
    obtain ⟨hK, hc, hl, _⟩ := okR_K hok
    have ht := cSKind ⟨sig, ms⟩ hK a (hl a (by simp)) cx hc
    rw [hok] at hg
    clear hok hl
    obtain ⟨a1, a2, a3, a4⟩ := a
    rw [tv_mk] at ht
    rw [tv_mk]
    refine call_pure (E := envC6 0) (fn := Tryz.f22) (c := bodyOf Tryz.f22) (envC6_ok 0) mixed sK sK sK sK sK sK rfl ?_
    refine aw_cut _ _ rfl fun C hC => ?_
    conv => whnf
    repeat ((first | (refine aI ?_ ?_; focus exact sI) | refine dI sK ?_ | (refine yI ?_ ?_; focus exact sY) | (refine nI ?_ ?_; focus exact sY) | intro _); conv => whnf)
    subst hC
    refine aw_cut _ _ rfl fun C hC => ?_
    conv => whnf
    repeat ((first | (refine aI ?_ ?_; focus exact sI) | refine dI sK ?_ | (refine yI ?_ ?_; focus exact sY) | (refine nI ?_ ?_; focus exact sY) | intro _); conv => whnf)
    try (refine dI sK ?_; conv => whnf)
    first | refine u0 hg ?_ | refine v0 hg ?_
    rintro _ _ ⟨rfl, rfl⟩ _
    conv => whnf
    repeat ((first | (refine aI ?_ ?_; focus exact sI) | refine dI sK ?_ | (refine yI ?_ ?_; focus exact sY) | (refine nI ?_ ?_; focus exact sY) | intro _); conv => whnf)
    subst hC
    conv => whnf
    repeat ((first | (refine aI ?_ ?_; focus exact sI) | refine dI sK ?_ | (refine yI ?_ ?_; focus exact sY) | (refine nI ?_ ?_; focus exact sY) | intro _); conv => whnf)
    try (refine dI sK ?_; conv => whnf)
    first | refine u0 hov ?_ | refine v0 hov ?_
    rintro _ _ ⟨rfl, rfl⟩ _
    conv => whnf
    repeat ((first | (refine aI ?_ ?_; focus exact sI) | refine dI sK ?_ | (refine yI ?_ ?_; focus exact sY) | (refine nI ?_ ?_; focus exact sY) | intro _); conv => whnf)
    try (refine dI sK ?_; conv => whnf)
    first | refine u0 ht ?_ | refine v0 ht ?_
    rintro _ _ ⟨rfl, rfl⟩ _
    conv => whnf
    repeat ((first | (refine aI ?_ ?_; focus exact sI) | refine dI sK ?_ | (refine yI ?_ ?_; focus exact sY) | (refine nI ?_ ?_; focus exact sY) | intro _); conv => whnf)
    all_goals exact sR
theorem cKObject (sig : List Dcl) (ms : List Mta) (cx : List Term) (m a : Term) : CallSt Tryz.prog 15 [.c (.sl 6 72 (dcs sig)), .c (.sl 10 120 (mcs ms)), .c (.sl 4 48 (tcs cx)), tv m, tv a] [] (fun r H' => r = .c (.int .i64 (kobjF sig ms cx m a)) ∧ H' = []) := by
  unfold kobjF
  have hg := cGood sig ms cx [m, a] (by simp)
  have hov := cOver sig ms
  cases hok : okR sig ms cx [m, a] with
  | false =>
    rw [hok] at hg
    clear hok
    obtain ⟨a1, a2, a3, a4⟩ := a
    obtain ⟨m1, m2, m3, m4⟩ := m
    rw [tv_mk, tv_mk]
    refine call_pure (E := envC6 0) (fn := Tryz.f15) (c := bodyOf Tryz.f15) (envC6_ok 0) mixed sK sK sK sK sK sK rfl ?_
    refine aw_cut _ _ rfl fun C hC => ?_
    conv => whnf
    repeat ((first | (refine aI ?_ ?_; focus exact sI) | refine dI sK ?_ | (refine yI ?_ ?_; focus exact sY) | (refine nI ?_ ?_; focus exact sY) | intro _); conv => whnf)
    subst hC
    refine aw_cut _ _ rfl fun C hC => ?_
    conv => whnf
    repeat ((first | (refine aI ?_ ?_; focus exact sI) | refine dI sK ?_ | (refine yI ?_ ?_; focus exact sY) | (refine nI ?_ ?_; focus exact sY) | intro _); conv => whnf)
    try (refine dI sK ?_; conv => whnf)
    first | refine u0 hg ?_ | refine v0 hg ?_
    rintro _ _ ⟨rfl, rfl⟩ _
    conv => whnf
    repeat ((first | (refine aI ?_ ?_; focus exact sI) | refine dI sK ?_ | (refine yI ?_ ?_; focus exact sY) | (refine nI ?_ ?_; focus exact sY) | intro _); conv => whnf)
    subst hC
    repeat ((first | (refine aI ?_ ?_; focus exact sI) | refine dI sK ?_ | (refine yI ?_ ?_; focus exact sY) | (refine nI ?_ ?_; focus exact sY) | intro _); conv => whnf)
    all_goals exact sR
  | true =>
    obtain ⟨hK, hc, hl, _⟩ := okR_K hok
    have ht := cSObject ⟨sig, ms⟩ hK m (hl m (by simp)) cx a hc (hl a (by simp))
    rw [hok] at hg
    clear hok hl
    obtain ⟨a1, a2, a3, a4⟩ := a
    obtain ⟨m1, m2, m3, m4⟩ := m
    rw [tv_mk, tv_mk] at ht
    rw [tv_mk, tv_mk]
    refine call_pure (E := envC6 0) (fn := Tryz.f15) (c := bodyOf Tryz.f15) (envC6_ok 0) mixed sK sK sK sK sK sK rfl ?_
    refine aw_cut _ _ rfl fun C hC => ?_
    conv => whnf
    repeat ((first | (refine aI ?_ ?_; focus exact sI) | refine dI sK ?_ | (refine yI ?_ ?_; focus exact sY) | (refine nI ?_ ?_; focus exact sY) | intro _); conv => whnf)
    subst hC
    refine aw_cut _ _ rfl fun C hC => ?_
    conv => whnf
    repeat ((first | (refine aI ?_ ?_; focus exact sI) | refine dI sK ?_ | (refine yI ?_ ?_; focus exact sY) | (refine nI ?_ ?_; focus exact sY) | intro _); conv => whnf)
    try (refine dI sK ?_; conv => whnf)
    first | refine u0 hg ?_ | refine v0 hg ?_
    rintro _ _ ⟨rfl, rfl⟩ _
    conv => whnf
    repeat ((first | (refine aI ?_ ?_; focus exact sI) | refine dI sK ?_ | (refine yI ?_ ?_; focus exact sY) | (refine nI ?_ ?_; focus exact sY) | intro _); conv => whnf)
    subst hC
    conv => whnf
    repeat ((first | (refine aI ?_ ?_; focus exact sI) | refine dI sK ?_ | (refine yI ?_ ?_; focus exact sY) | (refine nI ?_ ?_; focus exact sY) | intro _); conv => whnf)
    try (refine dI sK ?_; conv => whnf)
    first | refine u0 hov ?_ | refine v0 hov ?_
    rintro _ _ ⟨rfl, rfl⟩ _
    conv => whnf
    repeat ((first | (refine aI ?_ ?_; focus exact sI) | refine dI sK ?_ | (refine yI ?_ ?_; focus exact sY) | (refine nI ?_ ?_; focus exact sY) | intro _); conv => whnf)
    try (refine dI sK ?_; conv => whnf)
    first | refine u0 ht ?_ | refine v0 ht ?_
    rintro _ _ ⟨rfl, rfl⟩ _
    conv => whnf
    repeat ((first | (refine aI ?_ ?_; focus exact sI) | refine dI sK ?_ | (refine yI ?_ ?_; focus exact sY) | (refine nI ?_ ?_; focus exact sY) | intro _); conv => whnf)
    all_goals exact sR
theorem infF_prop {K : Krn} (hK : KOk K) {cx : List Term} (hc : COk cx) {m : Term} (hm : prop m = true) (h : (infF K cx m).2 = 0) : prop (infF K cx m).1 = true := by
  by_cases hk : m.k = 4
  · obtain ⟨k, l, n, ts⟩ := m
    replace hk : k = 4 := hk
    subst hk
    obtain ⟨h1, h2, h3, h4, h5⟩ := prop_app hm
    rw [infF_app] at h ⊢
    have hpc := @clsF_prop K hK cx hc l n h3 h4
    obtain ⟨c, e, hC⟩ : ∃ c e, clsF K cx l n = (c, e) := ⟨_, _, rfl⟩
    rw [hC] at h hpc ⊢
    unfold appF at h ⊢
    simp only at h hpc ⊢
    by_cases he : e ≠ 0
    · rw [if_pos he] at h
      exact absurd h he
    · rw [if_neg he] at h ⊢
      unfold restF at h ⊢
      by_cases he2 : (fitF K ts cx c).2 ≠ 0
      · rw [if_pos he2] at h
        exact absurd h he2
      · rw [if_neg he2] at h ⊢
        by_cases hk2 : (fitF K ts cx c).1.k = 2
        · rw [if_pos hk2] at h
          cases h
        · rw [if_neg hk2]
          exact fitF_prop ts c (hpc (by omega)) (by omega)
  · rw [infF_no K cx hk] at h
    cases h
theorem cKInfer (sig : List Dcl) (ms : List Mta) (cx : List Term) (m : Term) : CallSt Tryz.prog 28 [.c (.sl 6 72 (dcs sig)), .c (.sl 10 120 (mcs ms)), .c (.sl 4 48 (tcs cx)), tv m] [] (fun r H' => r = .tup [tv (kinfF sig ms cx m).1, .c (.int .i64 ((kinfF sig ms cx m).2))] ∧ H' = []) := by
  unfold kinfF
  have hg := cGood sig ms cx [m] (by simp)
  have hov := cOver sig ms
  cases hok : okR sig ms cx [m] with
  | false =>
    rw [hok] at hg
    clear hok
    obtain ⟨m1, m2, m3, m4⟩ := m
    rw [tv_mk]
    refine call_pure (E := envC6 0) (fn := Tryz.f28) (c := bodyOf Tryz.f28) (envC6_ok 0) mixed sK sK sK sK sK sK rfl ?_
    refine aw_cut _ _ rfl fun C hC => ?_
    conv => whnf
    repeat ((first | (refine aI ?_ ?_; focus exact sI) | refine dI sK ?_ | (refine yI ?_ ?_; focus exact sY) | (refine nI ?_ ?_; focus exact sY) | intro _); conv => whnf)
    subst hC
    refine aw_cut _ _ rfl fun C hC => ?_
    conv => whnf
    repeat ((first | (refine aI ?_ ?_; focus exact sI) | refine dI sK ?_ | (refine yI ?_ ?_; focus exact sY) | (refine nI ?_ ?_; focus exact sY) | intro _); conv => whnf)
    try (refine dI sK ?_; conv => whnf)
    first | refine u0 hg ?_ | refine v0 hg ?_
    rintro _ _ ⟨rfl, rfl⟩ _
    conv => whnf
    repeat ((first | (refine aI ?_ ?_; focus exact sI) | refine dI sK ?_ | (refine yI ?_ ?_; focus exact sY) | (refine nI ?_ ?_; focus exact sY) | intro _); conv => whnf)
    subst hC
    repeat ((first | (refine aI ?_ ?_; focus exact sI) | refine dI sK ?_ | (refine yI ?_ ?_; focus exact sY) | (refine nI ?_ ?_; focus exact sY) | intro _); conv => whnf)
    all_goals exact sR
  | true =>
    obtain ⟨hK, hc, hl, _⟩ := okR_K hok
    have hm := hl m (by simp)
    rw [hok] at hg
    clear hok hl
    obtain ⟨m1, m2, m3, m4⟩ := m
    by_cases h4 : m1 = 4
    · subst h4
      have ht := cSFind ⟨sig, ms⟩ hK m2 m3 m4 hm (fun u hu => cSObject ⟨sig, ms⟩ hK u ((prop_app hm).2.2.2.2 u hu)) cx hc
      have hpi := @infF_prop ⟨sig, ms⟩ hK cx hc (.mk 4 m2 m3 m4) hm
      have hz : (infF ⟨sig, ms⟩ cx (.mk 4 m2 m3 m4)).2 ≠ 0 → (infF ⟨sig, ms⟩ cx (.mk 4 m2 m3 m4)).1 = zT := by
        rw [infF_app]
        exact appF_z _ _
      obtain ⟨V, hV⟩ : ∃ V, V = infF ⟨sig, ms⟩ cx (.mk 4 m2 m3 m4) := ⟨_, rfl⟩
      rw [← hV] at ht hpi hz ⊢
      clear hV hm
      obtain ⟨v, e⟩ := V
      simp only at ht hpi hz ⊢
      rw [tv_mk] at ht ⊢
      by_cases he : e = 0
      · subst he
        have hcp := c64 v (prop_ok (hpi rfl))
        clear hpi hz
        obtain ⟨v1, v2, v3, v4⟩ := v
        rw [tv_mk] at ht hcp ⊢
        refine call_pure (E := envC6 0) (fn := Tryz.f28) (c := bodyOf Tryz.f28) (envC6_ok 0) mixed sK sK sK sK sK sK rfl ?_
        refine aw_cut _ _ rfl fun C hC => ?_
        conv => whnf
        repeat ((first | (refine aI ?_ ?_; focus exact sI) | refine dI sK ?_ | (refine yI ?_ ?_; focus exact sY) | (refine nI ?_ ?_; focus exact sY) | intro _); conv => whnf)
        subst hC
        refine aw_cut _ _ rfl fun C hC => ?_
        conv => whnf
        repeat ((first | (refine aI ?_ ?_; focus exact sI) | refine dI sK ?_ | (refine yI ?_ ?_; focus exact sY) | (refine nI ?_ ?_; focus exact sY) | intro _); conv => whnf)
        try (refine dI sK ?_; conv => whnf)
        first | refine u0 hg ?_ | refine v0 hg ?_
        rintro _ _ ⟨rfl, rfl⟩ _
        conv => whnf
        repeat ((first | (refine aI ?_ ?_; focus exact sI) | refine dI sK ?_ | (refine yI ?_ ?_; focus exact sY) | (refine nI ?_ ?_; focus exact sY) | intro _); conv => whnf)
        subst hC
        conv => whnf
        repeat ((first | (refine aI ?_ ?_; focus exact sI) | refine dI sK ?_ | (refine yI ?_ ?_; focus exact sY) | (refine nI ?_ ?_; focus exact sY) | intro _); conv => whnf)
        (refine And.intro ?_ ?_ <;> conv => whnf)
        · repeat ((first | (refine aI ?_ ?_; focus exact sI) | refine dI sK ?_ | (refine yI ?_ ?_; focus exact sY) | (refine nI ?_ ?_; focus exact sY) | intro _); conv => whnf)
          try (refine dI sK ?_; conv => whnf)
          first | refine u0 hov ?_ | refine v0 hov ?_
          rintro _ _ ⟨rfl, rfl⟩ _
          conv => whnf
          repeat ((first | (refine aI ?_ ?_; focus exact sI) | refine dI sK ?_ | (refine yI ?_ ?_; focus exact sY) | (refine nI ?_ ?_; focus exact sY) | intro _); conv => whnf)
          (refine And.intro ?_ ?_ <;> conv => whnf)
          all_goals
            repeat ((first | (refine aI ?_ ?_; focus exact sI) | refine dI sK ?_ | (refine yI ?_ ?_; focus exact sY) | (refine nI ?_ ?_; focus exact sY) | intro _); conv => whnf)
            try (refine dI sK ?_; conv => whnf)
            first | refine u0 ht ?_ | refine v0 ht ?_
            rintro _ _ ⟨rfl, rfl⟩ _
            conv => whnf
            repeat ((first | (refine aI ?_ ?_; focus exact sI) | refine dI sK ?_ | (refine yI ?_ ?_; focus exact sY) | (refine nI ?_ ?_; focus exact sY) | intro _); conv => whnf)
            try (refine dI sK ?_; conv => whnf)
            first | refine u0 hcp ?_ | refine v0 hcp ?_
            rintro _ _ ⟨rfl, rfl⟩ _
            conv => whnf
            repeat ((first | (refine aI ?_ ?_; focus exact sI) | refine dI sK ?_ | (refine yI ?_ ?_; focus exact sY) | (refine nI ?_ ?_; focus exact sY) | intro _); conv => whnf)
            all_goals exact sR
        · repeat ((first | (refine aI ?_ ?_; focus exact sI) | refine dI sK ?_ | (refine yI ?_ ?_; focus exact sY) | (refine nI ?_ ?_; focus exact sY) | intro _); conv => whnf)
          try (refine dI sK ?_; conv => whnf)
          first | refine u0 hov ?_ | refine v0 hov ?_
          rintro _ _ ⟨rfl, rfl⟩ _
          conv => whnf
          repeat ((first | (refine aI ?_ ?_; focus exact sI) | refine dI sK ?_ | (refine yI ?_ ?_; focus exact sY) | (refine nI ?_ ?_; focus exact sY) | intro _); conv => whnf)
          try (refine dI sK ?_; conv => whnf)
          first | refine u0 ht ?_ | refine v0 ht ?_
          rintro _ _ ⟨rfl, rfl⟩ _
          conv => whnf
          repeat ((first | (refine aI ?_ ?_; focus exact sI) | refine dI sK ?_ | (refine yI ?_ ?_; focus exact sY) | (refine nI ?_ ?_; focus exact sY) | intro _); conv => whnf)
          try (refine dI sK ?_; conv => whnf)
          first | refine u0 hcp ?_ | refine v0 hcp ?_
          rintro _ _ ⟨rfl, rfl⟩ _
          conv => whnf
          repeat ((first | (refine aI ?_ ?_; focus exact sI) | refine dI sK ?_ | (refine yI ?_ ?_; focus exact sY) | (refine nI ?_ ?_; focus exact sY) | intro _); conv => whnf)
          all_goals exact sR
      · have ez : decide (e = 0) = false := decide_eq_false he
        rw [hz he] at ht ⊢
        refine call_pure (E := envC6 0) (fn := Tryz.f28) (c := bodyOf Tryz.f28) (envC6_ok 0) mixed sK sK sK sK sK sK rfl ?_
        refine aw_cut _ _ rfl fun C hC => ?_
        conv => whnf
        repeat ((first | (refine aI ?_ ?_; focus exact sI) | refine dI sK ?_ | (refine yI ?_ ?_; focus exact sY) | (refine nI ?_ ?_; focus exact sY) | intro _); conv => whnf)
        subst hC
        refine aw_cut _ _ rfl fun C hC => ?_
        conv => whnf
        repeat ((first | (refine aI ?_ ?_; focus exact sI) | refine dI sK ?_ | (refine yI ?_ ?_; focus exact sY) | (refine nI ?_ ?_; focus exact sY) | intro _); conv => whnf)
        try (refine dI sK ?_; conv => whnf)
        first | refine u0 hg ?_ | refine v0 hg ?_
        rintro _ _ ⟨rfl, rfl⟩ _
        conv => whnf
        repeat ((first | (refine aI ?_ ?_; focus exact sI) | refine dI sK ?_ | (refine yI ?_ ?_; focus exact sY) | (refine nI ?_ ?_; focus exact sY) | intro _); conv => whnf)
        subst hC
        conv => whnf
        repeat ((first | (refine aI ?_ ?_; focus exact sI) | refine dI sK ?_ | (refine yI ?_ ?_; focus exact sY) | (refine nI ?_ ?_; focus exact sY) | intro _); conv => whnf)
        (refine And.intro ?_ ?_ <;> conv => whnf)
        · repeat ((first | (refine aI ?_ ?_; focus exact sI) | refine dI sK ?_ | (refine yI ?_ ?_; focus exact sY) | (refine nI ?_ ?_; focus exact sY) | intro _); conv => whnf)
          try (refine dI sK ?_; conv => whnf)
          first | refine u0 hov ?_ | refine v0 hov ?_
          rintro _ _ ⟨rfl, rfl⟩ _
          conv => whnf
          repeat ((first | (refine aI ?_ ?_; focus exact sI) | refine dI sK ?_ | (refine yI ?_ ?_; focus exact sY) | (refine nI ?_ ?_; focus exact sY) | intro _); conv => whnf)
          (refine And.intro ?_ ?_ <;> conv => whnf)
          all_goals
            repeat ((first | (refine aI ?_ ?_; focus exact sI) | refine dI sK ?_ | (refine yI ?_ ?_; focus exact sY) | (refine nI ?_ ?_; focus exact sY) | intro _); conv => whnf)
            try (refine dI sK ?_; conv => whnf)
            first | refine u0 ht ?_ | refine v0 ht ?_
            rintro _ _ ⟨rfl, rfl⟩ _
            conv => whnf
            repeat ((first | (refine aI ?_ ?_; focus exact sI) | refine dI sK ?_ | (refine yI ?_ ?_; focus exact sY) | (refine nI ?_ ?_; focus exact sY) | intro _); conv => whnf)
            rw [ez]
            (refine yI ?_ ?_; (focus exact sY); conv => whnf)
            repeat ((first | (refine aI ?_ ?_; focus exact sI) | refine dI sK ?_ | (refine yI ?_ ?_; focus exact sY) | (refine nI ?_ ?_; focus exact sY) | intro _); conv => whnf)
            all_goals exact sR
        · repeat ((first | (refine aI ?_ ?_; focus exact sI) | refine dI sK ?_ | (refine yI ?_ ?_; focus exact sY) | (refine nI ?_ ?_; focus exact sY) | intro _); conv => whnf)
          try (refine dI sK ?_; conv => whnf)
          first | refine u0 hov ?_ | refine v0 hov ?_
          rintro _ _ ⟨rfl, rfl⟩ _
          conv => whnf
          repeat ((first | (refine aI ?_ ?_; focus exact sI) | refine dI sK ?_ | (refine yI ?_ ?_; focus exact sY) | (refine nI ?_ ?_; focus exact sY) | intro _); conv => whnf)
          try (refine dI sK ?_; conv => whnf)
          first | refine u0 ht ?_ | refine v0 ht ?_
          rintro _ _ ⟨rfl, rfl⟩ _
          conv => whnf
          repeat ((first | (refine aI ?_ ?_; focus exact sI) | refine dI sK ?_ | (refine yI ?_ ?_; focus exact sY) | (refine nI ?_ ?_; focus exact sY) | intro _); conv => whnf)
          rw [ez]
          (refine yI ?_ ?_; (focus exact sY); conv => whnf)
          repeat ((first | (refine aI ?_ ?_; focus exact sI) | refine dI sK ?_ | (refine yI ?_ ?_; focus exact sY) | (refine nI ?_ ?_; focus exact sY) | intro _); conv => whnf)
          all_goals exact sR
    · have e4 : decide (m1 = 4) = false := decide_eq_false h4
      rw [infF_no _ cx (m := .mk m1 m2 m3 m4) h4, tv_mk]
      refine call_pure (E := envC6 0) (fn := Tryz.f28) (c := bodyOf Tryz.f28) (envC6_ok 0) mixed sK sK sK sK sK sK rfl ?_
      refine aw_cut _ _ rfl fun C hC => ?_
      conv => whnf
      repeat ((first | (refine aI ?_ ?_; focus exact sI) | refine dI sK ?_ | (refine yI ?_ ?_; focus exact sY) | (refine nI ?_ ?_; focus exact sY) | intro _); conv => whnf)
      subst hC
      refine aw_cut _ _ rfl fun C hC => ?_
      conv => whnf
      repeat ((first | (refine aI ?_ ?_; focus exact sI) | refine dI sK ?_ | (refine yI ?_ ?_; focus exact sY) | (refine nI ?_ ?_; focus exact sY) | intro _); conv => whnf)
      try (refine dI sK ?_; conv => whnf)
      first | refine u0 hg ?_ | refine v0 hg ?_
      rintro _ _ ⟨rfl, rfl⟩ _
      conv => whnf
      repeat ((first | (refine aI ?_ ?_; focus exact sI) | refine dI sK ?_ | (refine yI ?_ ?_; focus exact sY) | (refine nI ?_ ?_; focus exact sY) | intro _); conv => whnf)
      rw [e4]
      (refine yI ?_ ?_; (focus exact sY); conv => whnf)
      subst hC
      repeat ((first | (refine aI ?_ ?_; focus exact sI) | refine dI sK ?_ | (refine yI ?_ ?_; focus exact sY) | (refine nI ?_ ?_; focus exact sY) | intro _); conv => whnf)
      all_goals exact sR
end Go.Tr
/- The program's kernel: Context, class, Signature, Declare. -/
namespace Go.Tr
open Go.Proofs
def kctxF (sig : List Dcl) (ms : List Mta) (cx : List Term) : Int := match okR sig ms cx [] with | true => ctxF ⟨sig, ms⟩ [] cx | false => 2
def ksigF (sig : List Dcl) : Int × Int := match checkB sig with | true => sigF sig 0 sig | false => (0, 2)
theorem cKContext (sig : List Dcl) (ms : List Mta) (cx : List Term) : CallSt Tryz.prog 26 [.c (.sl 6 72 (dcs sig)), .c (.sl 10 120 (mcs ms)), .c (.sl 4 48 (tcs cx))] [] (fun r H' => r = .c (.int .i64 (kctxF sig ms cx)) ∧ H' = []) := by
  unfold kctxF
  have hg := cGood sig ms cx [] (by simp)
  rw [show tcs [] = [] by rw [tcs]] at hg
  have hov := cOver sig ms
  cases hok : okR sig ms cx [] with
  | false =>
    rw [hok] at hg
    clear hok
    refine call_pure (E := envC6 0) (fn := Tryz.f26) (c := bodyOf Tryz.f26) (envC6_ok 0) mixed sK sK sK sK sK sK rfl ?_
    refine aw_cut _ _ rfl fun C hC => ?_
    conv => whnf
    repeat ((first | (refine aI ?_ ?_; focus exact sI) | refine dI sK ?_ | (refine yI ?_ ?_; focus exact sY) | (refine nI ?_ ?_; focus exact sY) | intro _); conv => whnf)
    subst hC
    refine aw_cut _ _ rfl fun C hC => ?_
    conv => whnf
    repeat ((first | (refine aI ?_ ?_; focus exact sI) | refine dI sK ?_ | (refine yI ?_ ?_; focus exact sY) | (refine nI ?_ ?_; focus exact sY) | intro _); conv => whnf)
    try (refine dI sK ?_; conv => whnf)
    first | refine u0 hg ?_ | refine v0 hg ?_
    rintro _ _ ⟨rfl, rfl⟩ _
    conv => whnf
    repeat ((first | (refine aI ?_ ?_; focus exact sI) | refine dI sK ?_ | (refine yI ?_ ?_; focus exact sY) | (refine nI ?_ ?_; focus exact sY) | intro _); conv => whnf)
    subst hC
    repeat ((first | (refine aI ?_ ?_; focus exact sI) | refine dI sK ?_ | (refine yI ?_ ?_; focus exact sY) | (refine nI ?_ ?_; focus exact sY) | intro _); conv => whnf)
    all_goals exact sR
  | true =>
    obtain ⟨hK, hc, hl, _⟩ := okR_K hok
    rw [hok] at hg
    clear hok hl
    have hcl := len_tcs cx
    have hc2 := hc.2
    obtain ⟨A, hA⟩ : ∃ A, A = ctxF ⟨sig, ms⟩ [] cx := ⟨_, rfl⟩
    simp only
    rw [← hA]
    refine call_pure (E := envC6 0) (fn := Tryz.f26) (c := bodyOf Tryz.f26) (envC6_ok 0) mixed sK sK sK sK sK sK rfl ?_
    refine aw_cut _ _ rfl fun C hC => ?_
    conv => whnf
    repeat ((first | (refine aI ?_ ?_; focus exact sI) | refine dI sK ?_ | (refine yI ?_ ?_; focus exact sY) | (refine nI ?_ ?_; focus exact sY) | intro _); conv => whnf)
    subst hC
    refine aw_cut _ _ rfl fun C hC => ?_
    conv => whnf
    repeat ((first | (refine aI ?_ ?_; focus exact sI) | refine dI sK ?_ | (refine yI ?_ ?_; focus exact sY) | (refine nI ?_ ?_; focus exact sY) | intro _); conv => whnf)
    try (refine dI sK ?_; conv => whnf)
    first | refine u0 hg ?_ | refine v0 hg ?_
    rintro _ _ ⟨rfl, rfl⟩ _
    conv => whnf
    repeat ((first | (refine aI ?_ ?_; focus exact sI) | refine dI sK ?_ | (refine yI ?_ ?_; focus exact sY) | (refine nI ?_ ?_; focus exact sY) | intro _); conv => whnf)
    subst hC
    conv => whnf
    repeat ((first | (refine aI ?_ ?_; focus exact sI) | refine dI sK ?_ | (refine yI ?_ ?_; focus exact sY) | (refine nI ?_ ?_; focus exact sY) | intro _); conv => whnf)
    refine loop_intro (fun m tm H => ∃ j : Nat, cx.length = m + j ∧ A = ctxF ⟨sig, ms⟩ (cx.take j) (cx.drop j) ∧ tm = [(17, .c (.int .i64 (j))), (16, .c (.int .i64 ((tcs cx).length))), (15, .c (.sl 4 48 (tcs cx))), (2, .c (.sl 4 48 (tcs cx))), (1, .c (.sl 10 120 (mcs ms))), (0, .c (.sl 6 72 (dcs sig)))] ∧ H = [])
      cx.length _ _ ⟨0, by omega, hA, rfl, rfl⟩ (Wk.sl [] rfl trivial ⟨rfl, rfl, rfl, rfl, rfl, rfl, trivial⟩ rfl) ?_
    rintro m tm H ⟨j, hj, hR, rfl, rfl⟩
    conv => whnf
    repeat ((first | (refine aI ?_ ?_; focus exact sI) | refine dI sK ?_ | (refine yI ?_ ?_; focus exact sY) | (refine nI ?_ ?_; focus exact sY) | intro _); conv => whnf)
    refine ⟨fun hlt => ?_, fun hlt => ?_⟩
    · replace hlt : (j : Int) < (tcs cx).length := of_decide_eq_true hlt
      obtain ⟨x, hx⟩ := get_some (show j < cx.length by omega)
      have hxc := tcs_at cx j x hx
      have ht := cSType ⟨sig, ms⟩ hK x (hc.1 x (List.mem_of_getElem? hx)) (cx.take j) (hc.take j)
      rw [← tcs_take6] at ht
      rw [drop_at hx, ctxF, take_snoc6 hx] at hR
      by_cases he : typF ⟨sig, ms⟩ x (cx.take j) ≠ 0
      · rw [if_pos he] at hR
        have ez : decide (typF ⟨sig, ms⟩ x (cx.take j) = 0) = false := decide_eq_false he
        generalize typF ⟨sig, ms⟩ x (cx.take j) = e at *
        subst hR
        clear hx
        obtain ⟨x1, x2, x3, x4⟩ := x
        rw [tv_mk] at ht
        conv => whnf
        repeat ((first | (refine aI ?_ ?_; focus exact sI) | refine dI sK ?_ | (refine yI ?_ ?_; focus exact sY) | (refine nI ?_ ?_; focus exact sY) | intro _); conv => whnf)
        refine ⟨_, ⟨by omega, by simpa using hxc⟩, ?_⟩
        conv => whnf
        refine ⟨Nat.le_refl 4, ?_⟩
        conv => whnf
        repeat ((first | (refine aI ?_ ?_; focus exact sI) | refine dI sK ?_ | (refine yI ?_ ?_; focus exact sY) | (refine nI ?_ ?_; focus exact sY) | intro _); conv => whnf)
        try (refine dI sK ?_; conv => whnf)
        first | refine u0 hov ?_ | refine v0 hov ?_
        rintro _ _ ⟨rfl, rfl⟩ _
        conv => whnf
        repeat ((first | (refine aI ?_ ?_; focus exact sI) | refine dI sK ?_ | (refine yI ?_ ?_; focus exact sY) | (refine nI ?_ ?_; focus exact sY) | intro _); conv => whnf)
        try (refine dI sK ?_; conv => whnf)
        first | refine u0 ht ?_ | refine v0 ht ?_
        rintro _ _ ⟨rfl, rfl⟩ _
        conv => whnf
        repeat ((first | (refine aI ?_ ?_; focus exact sI) | refine dI sK ?_ | (refine yI ?_ ?_; focus exact sY) | (refine nI ?_ ?_; focus exact sY) | intro _); conv => whnf)
        rw [ez]
        (refine yI ?_ ?_; (focus exact sY); conv => whnf)
        repeat ((first | (refine aI ?_ ?_; focus exact sI) | refine dI sK ?_ | (refine yI ?_ ?_; focus exact sY) | (refine nI ?_ ?_; focus exact sY) | intro _); conv => whnf)
        all_goals exact sR
      · rw [if_neg he] at hR
        have e0 : typF ⟨sig, ms⟩ x (cx.take j) = 0 := by omega
        rw [e0] at ht
        clear he e0 hx
        obtain ⟨x1, x2, x3, x4⟩ := x
        rw [tv_mk] at ht
        conv => whnf
        repeat ((first | (refine aI ?_ ?_; focus exact sI) | refine dI sK ?_ | (refine yI ?_ ?_; focus exact sY) | (refine nI ?_ ?_; focus exact sY) | intro _); conv => whnf)
        refine ⟨_, ⟨by omega, by simpa using hxc⟩, ?_⟩
        conv => whnf
        refine ⟨Nat.le_refl 4, ?_⟩
        conv => whnf
        repeat ((first | (refine aI ?_ ?_; focus exact sI) | refine dI sK ?_ | (refine yI ?_ ?_; focus exact sY) | (refine nI ?_ ?_; focus exact sY) | intro _); conv => whnf)
        try (refine dI sK ?_; conv => whnf)
        first | refine u0 hov ?_ | refine v0 hov ?_
        rintro _ _ ⟨rfl, rfl⟩ _
        conv => whnf
        repeat ((first | (refine aI ?_ ?_; focus exact sI) | refine dI sK ?_ | (refine yI ?_ ?_; focus exact sY) | (refine nI ?_ ?_; focus exact sY) | intro _); conv => whnf)
        try (refine dI sK ?_; conv => whnf)
        first | refine u0 ht ?_ | refine v0 ht ?_
        rintro _ _ ⟨rfl, rfl⟩ _
        conv => whnf
        repeat ((first | (refine aI ?_ ?_; focus exact sI) | refine dI sK ?_ | (refine yI ?_ ?_; focus exact sY) | (refine nI ?_ ?_; focus exact sY) | intro _); conv => whnf)
        exact ⟨m - 1, _, _, by omega, ⟨j + 1, by omega, hR, rfl, rfl⟩, Wk.sl [] rfl trivial ⟨rfl, rfl, rfl, rfl, rfl, rfl, trivial⟩ rfl⟩
    · replace hlt : ¬ (j : Int) < (tcs cx).length := of_decide_eq_false hlt
      rw [List.drop_eq_nil_of_le (by omega), ctxF] at hR
      subst hR
      conv => whnf
      repeat ((first | (refine aI ?_ ?_; focus exact sI) | refine dI sK ?_ | (refine yI ?_ ?_; focus exact sY) | (refine nI ?_ ?_; focus exact sY) | intro _); conv => whnf)
      all_goals exact sR
theorem cSCla (sig : List Dcl) (hK : KOk ⟨sig, []⟩) (c : Term) (hp : prop c = true) : CallSt Tryz.prog 53 [.c (.sl 6 72 (dcs sig)), tv c] [] (fun r H' => r = .c (.int .i64 (claF ⟨sig, []⟩ c)) ∧ H' = []) := by
  have hs := c68 c 1 (prop_fm1 hp) (by decide)
  have hov := cOver sig []
  have h1 := cSKind ⟨sig, []⟩ hK c hp [] COk.nil
  have h2 := cSType ⟨sig, []⟩ hK c hp [] COk.nil
  rw [show tcs [] = [] by rw [tcs]] at h1 h2
  rw [show mcs [] = [] from rfl] at hov
  unfold claF kindT
  obtain ⟨D, hD⟩ : ∃ D, D = domT c := ⟨_, rfl⟩
  rw [← hD] at hs ⊢
  clear hD
  obtain ⟨D, ⟨d1, d2, d3, d4⟩⟩ := D
  simp only at hs h1 h2 ⊢
  rw [show (Term.mk d1 d2 d3 d4).k = d1 from rfl]
  by_cases hk : d1 = 1
  · rw [if_pos (decide_eq_true hk)]
    have e1 : decide (d1 = 1) = true := decide_eq_true hk
    obtain ⟨x1, x2, x3, x4⟩ := c
    rw [tv_mk] at hs h1 h2
    rw [tv_mk] at hs
    rw [tv_mk]
    refine call_pure (E := envC6 0) (fn := Tryz.f53) (c := bodyOf Tryz.f53) (envC6_ok 0) mixed sK sK sK sK sK sK rfl ?_
    refine aw_cut _ _ rfl fun C hC => ?_
    conv => whnf
    repeat ((first | (refine aI ?_ ?_; focus exact sI) | refine dI sK ?_ | (refine yI ?_ ?_; focus exact sY) | (refine nI ?_ ?_; focus exact sY) | intro _); conv => whnf)
    subst hC
    refine aw_cut _ _ rfl fun C hC => ?_
    conv => whnf
    repeat ((first | (refine aI ?_ ?_; focus exact sI) | refine dI sK ?_ | (refine yI ?_ ?_; focus exact sY) | (refine nI ?_ ?_; focus exact sY) | intro _); conv => whnf)
    try (refine dI sK ?_; conv => whnf)
    first | refine u0 hov ?_ | refine v0 hov ?_
    rintro _ _ ⟨rfl, rfl⟩ _
    conv => whnf
    repeat ((first | (refine aI ?_ ?_; focus exact sI) | refine dI sK ?_ | (refine yI ?_ ?_; focus exact sY) | (refine nI ?_ ?_; focus exact sY) | intro _); conv => whnf)
    subst hC
    refine aw_cut _ _ rfl fun C hC => ?_
    conv => whnf
    repeat ((first | (refine aI ?_ ?_; focus exact sI) | refine dI sK ?_ | (refine yI ?_ ?_; focus exact sY) | (refine nI ?_ ?_; focus exact sY) | intro _); conv => whnf)
    try (refine dI sK ?_; conv => whnf)
    first | refine u0 hs ?_ | refine v0 hs ?_
    rintro _ _ ⟨rfl, rfl⟩ _
    conv => whnf
    repeat ((first | (refine aI ?_ ?_; focus exact sI) | refine dI sK ?_ | (refine yI ?_ ?_; focus exact sY) | (refine nI ?_ ?_; focus exact sY) | intro _); conv => whnf)
    rw [e1]
    (refine yI ?_ ?_; (focus exact sY); conv => whnf)
    try (refine dI sK ?_; conv => whnf)
    first | refine u0 h1 ?_ | refine v0 h1 ?_
    rintro _ _ ⟨rfl, rfl⟩ _
    conv => whnf
    subst hC
    repeat ((first | (refine aI ?_ ?_; focus exact sI) | refine dI sK ?_ | (refine yI ?_ ?_; focus exact sY) | (refine nI ?_ ?_; focus exact sY) | intro _); conv => whnf)
    all_goals exact sR
  · have e1 : decide (d1 = 1) = false := decide_eq_false hk
    rw [if_neg (by rw [e1]; decide)]
    obtain ⟨x1, x2, x3, x4⟩ := c
    rw [tv_mk] at hs h1 h2
    rw [tv_mk] at hs
    rw [tv_mk]
    refine call_pure (E := envC6 0) (fn := Tryz.f53) (c := bodyOf Tryz.f53) (envC6_ok 0) mixed sK sK sK sK sK sK rfl ?_
    refine aw_cut _ _ rfl fun C hC => ?_
    conv => whnf
    repeat ((first | (refine aI ?_ ?_; focus exact sI) | refine dI sK ?_ | (refine yI ?_ ?_; focus exact sY) | (refine nI ?_ ?_; focus exact sY) | intro _); conv => whnf)
    subst hC
    refine aw_cut _ _ rfl fun C hC => ?_
    conv => whnf
    repeat ((first | (refine aI ?_ ?_; focus exact sI) | refine dI sK ?_ | (refine yI ?_ ?_; focus exact sY) | (refine nI ?_ ?_; focus exact sY) | intro _); conv => whnf)
    try (refine dI sK ?_; conv => whnf)
    first | refine u0 hov ?_ | refine v0 hov ?_
    rintro _ _ ⟨rfl, rfl⟩ _
    conv => whnf
    repeat ((first | (refine aI ?_ ?_; focus exact sI) | refine dI sK ?_ | (refine yI ?_ ?_; focus exact sY) | (refine nI ?_ ?_; focus exact sY) | intro _); conv => whnf)
    subst hC
    refine aw_cut _ _ rfl fun C hC => ?_
    conv => whnf
    repeat ((first | (refine aI ?_ ?_; focus exact sI) | refine dI sK ?_ | (refine yI ?_ ?_; focus exact sY) | (refine nI ?_ ?_; focus exact sY) | intro _); conv => whnf)
    try (refine dI sK ?_; conv => whnf)
    first | refine u0 hs ?_ | refine v0 hs ?_
    rintro _ _ ⟨rfl, rfl⟩ _
    conv => whnf
    repeat ((first | (refine aI ?_ ?_; focus exact sI) | refine dI sK ?_ | (refine yI ?_ ?_; focus exact sY) | (refine nI ?_ ?_; focus exact sY) | intro _); conv => whnf)
    rw [e1]
    (refine nI ?_ ?_; (focus exact sY); conv => whnf)
    subst hC
    conv => whnf
    repeat ((first | (refine aI ?_ ?_; focus exact sI) | refine dI sK ?_ | (refine yI ?_ ?_; focus exact sY) | (refine nI ?_ ?_; focus exact sY) | intro _); conv => whnf)
    try (refine dI sK ?_; conv => whnf)
    first | refine u0 h2 ?_ | refine v0 h2 ?_
    rintro _ _ ⟨rfl, rfl⟩ _
    conv => whnf
    repeat ((first | (refine aI ?_ ?_; focus exact sI) | refine dI sK ?_ | (refine yI ?_ ?_; focus exact sY) | (refine nI ?_ ?_; focus exact sY) | intro _); conv => whnf)
    all_goals exact sR
theorem cKSignature (sig : List Dcl) : CallSt Tryz.prog 20 [.c (.sl 6 72 (dcs sig))] [] (fun r H' => r = .tup [.c (.int .i64 ((ksigF sig).1)), .c (.int .i64 ((ksigF sig).2))] ∧ H' = []) := by
  unfold ksigF
  have hck := cCheck sig
  have hsl := len_dcs sig
  cases hs : checkB sig with
  | false =>
    rw [hs] at hck
    clear hs
    refine call_pure (E := envC6 0) (fn := Tryz.f20) (c := bodyOf Tryz.f20) (envC6_ok 0) mixed sK sK sK sK sK sK rfl ?_
    refine aw_cut _ _ rfl fun C hC => ?_
    conv => whnf
    repeat ((first | (refine aI ?_ ?_; focus exact sI) | refine dI sK ?_ | (refine yI ?_ ?_; focus exact sY) | (refine nI ?_ ?_; focus exact sY) | intro _); conv => whnf)
    subst hC
    refine aw_cut _ _ rfl fun C hC => ?_
    conv => whnf
    repeat ((first | (refine aI ?_ ?_; focus exact sI) | refine dI sK ?_ | (refine yI ?_ ?_; focus exact sY) | (refine nI ?_ ?_; focus exact sY) | intro _); conv => whnf)
    try (refine dI sK ?_; conv => whnf)
    first | refine u0 hck ?_ | refine v0 hck ?_
    rintro _ _ ⟨rfl, rfl⟩ _
    conv => whnf
    repeat ((first | (refine aI ?_ ?_; focus exact sI) | refine dI sK ?_ | (refine yI ?_ ?_; focus exact sY) | (refine nI ?_ ?_; focus exact sY) | intro _); conv => whnf)
    subst hC
    repeat ((first | (refine aI ?_ ?_; focus exact sI) | refine dI sK ?_ | (refine yI ?_ ?_; focus exact sY) | (refine nI ?_ ?_; focus exact sY) | intro _); conv => whnf)
    all_goals exact sR
  | true =>
    have hpr := check_prop hs
    have hle := check_len hs
    rw [hs] at hck
    obtain ⟨A, hA⟩ : ∃ A, A = sigF sig 0 sig := ⟨_, rfl⟩
    simp only
    rw [← hA]
    refine call_pure (E := envC6 0) (fn := Tryz.f20) (c := bodyOf Tryz.f20) (envC6_ok 0) mixed sK sK sK sK sK sK rfl ?_
    refine aw_cut _ _ rfl fun C hC => ?_
    conv => whnf
    repeat ((first | (refine aI ?_ ?_; focus exact sI) | refine dI sK ?_ | (refine yI ?_ ?_; focus exact sY) | (refine nI ?_ ?_; focus exact sY) | intro _); conv => whnf)
    subst hC
    refine aw_cut _ _ rfl fun C hC => ?_
    conv => whnf
    repeat ((first | (refine aI ?_ ?_; focus exact sI) | refine dI sK ?_ | (refine yI ?_ ?_; focus exact sY) | (refine nI ?_ ?_; focus exact sY) | intro _); conv => whnf)
    try (refine dI sK ?_; conv => whnf)
    first | refine u0 hck ?_ | refine v0 hck ?_
    rintro _ _ ⟨rfl, rfl⟩ _
    conv => whnf
    repeat ((first | (refine aI ?_ ?_; focus exact sI) | refine dI sK ?_ | (refine yI ?_ ?_; focus exact sY) | (refine nI ?_ ?_; focus exact sY) | intro _); conv => whnf)
    subst hC
    conv => whnf
    repeat ((first | (refine aI ?_ ?_; focus exact sI) | refine dI sK ?_ | (refine yI ?_ ?_; focus exact sY) | (refine nI ?_ ?_; focus exact sY) | intro _); conv => whnf)
    refine loop_intro (fun m tm H => ∃ j : Nat, sig.length = m + j ∧ A = sigF sig j (sig.drop j) ∧ tm = [(15, .c (.int .i64 (j))), (14, .c (.int .i64 ((dcs sig).length))), (13, .c (.sl 6 72 (dcs sig))), (0, .c (.sl 6 72 (dcs sig)))] ∧ H = [])
      sig.length _ _ ⟨0, by omega, hA, rfl, rfl⟩ (Wk.sl [] rfl trivial ⟨rfl, rfl, rfl, rfl, trivial⟩ rfl) ?_
    rintro m tm H ⟨j, hj, hR, rfl, rfl⟩
    conv => whnf
    repeat ((first | (refine aI ?_ ?_; focus exact sI) | refine dI sK ?_ | (refine yI ?_ ?_; focus exact sY) | (refine nI ?_ ?_; focus exact sY) | intro _); conv => whnf)
    refine ⟨fun hlt => ?_, fun hlt => ?_⟩
    · replace hlt : (j : Int) < (dcs sig).length := of_decide_eq_true hlt
      obtain ⟨x, hx⟩ := get_some (show j < sig.length by omega)
      have hxc := dcs_at hx
      have ht := cSCla (sig.take j) (KOk.of hs j) x.c (hpr x (List.mem_of_getElem? hx))
      rw [← dcs_take'] at ht
      rw [drop_at hx, sigF] at hR
      by_cases he : claF ⟨sig.take j, []⟩ x.c ≠ 0
      · rw [if_pos he] at hR
        have ez : decide (claF ⟨sig.take j, []⟩ x.c = 0) = false := decide_eq_false he
        generalize claF ⟨sig.take j, []⟩ x.c = e at *
        subst hR
        clear hx
        obtain ⟨nm, ⟨x1, x2, x3, x4⟩, im⟩ := x
        rw [tv_mk] at ht
        conv => whnf
        repeat ((first | (refine aI ?_ ?_; focus exact sI) | refine dI sK ?_ | (refine yI ?_ ?_; focus exact sY) | (refine nI ?_ ?_; focus exact sY) | intro _); conv => whnf)
        refine ⟨_, ⟨by omega, hxc⟩, ?_⟩
        conv => whnf
        refine ⟨show 6 ≤ 6 by decide, ?_⟩
        conv => whnf
        repeat ((first | (refine aI ?_ ?_; focus exact sI) | refine dI sK ?_ | (refine yI ?_ ?_; focus exact sY) | (refine nI ?_ ?_; focus exact sY) | intro _); conv => whnf)
        try (refine dI sK ?_; conv => whnf)
        first | refine u0 ht ?_ | refine v0 ht ?_
        rintro _ _ ⟨rfl, rfl⟩ _
        conv => whnf
        repeat ((first | (refine aI ?_ ?_; focus exact sI) | refine dI sK ?_ | (refine yI ?_ ?_; focus exact sY) | (refine nI ?_ ?_; focus exact sY) | intro _); conv => whnf)
        rw [ez]
        (refine yI ?_ ?_; (focus exact sY); conv => whnf)
        repeat ((first | (refine aI ?_ ?_; focus exact sI) | refine dI sK ?_ | (refine yI ?_ ?_; focus exact sY) | (refine nI ?_ ?_; focus exact sY) | intro _); conv => whnf)
        all_goals exact sR
      · rw [if_neg he] at hR
        have e0 : claF ⟨sig.take j, []⟩ x.c = 0 := by omega
        rw [e0] at ht
        clear he e0 hx
        obtain ⟨nm, ⟨x1, x2, x3, x4⟩, im⟩ := x
        rw [tv_mk] at ht
        conv => whnf
        repeat ((first | (refine aI ?_ ?_; focus exact sI) | refine dI sK ?_ | (refine yI ?_ ?_; focus exact sY) | (refine nI ?_ ?_; focus exact sY) | intro _); conv => whnf)
        refine ⟨_, ⟨by omega, hxc⟩, ?_⟩
        conv => whnf
        refine ⟨show 6 ≤ 6 by decide, ?_⟩
        conv => whnf
        repeat ((first | (refine aI ?_ ?_; focus exact sI) | refine dI sK ?_ | (refine yI ?_ ?_; focus exact sY) | (refine nI ?_ ?_; focus exact sY) | intro _); conv => whnf)
        try (refine dI sK ?_; conv => whnf)
        first | refine u0 ht ?_ | refine v0 ht ?_
        rintro _ _ ⟨rfl, rfl⟩ _
        conv => whnf
        repeat ((first | (refine aI ?_ ?_; focus exact sI) | refine dI sK ?_ | (refine yI ?_ ?_; focus exact sY) | (refine nI ?_ ?_; focus exact sY) | intro _); conv => whnf)
        exact ⟨m - 1, _, _, by omega, ⟨j + 1, by omega, hR, rfl, rfl⟩, Wk.sl [] rfl trivial ⟨rfl, rfl, rfl, rfl, trivial⟩ rfl⟩
    · replace hlt : ¬ (j : Int) < (dcs sig).length := of_decide_eq_false hlt
      obtain rfl : j = sig.length := by omega
      rw [List.drop_length, sigF, ← hsl] at hR
      subst hR
      conv => whnf
      repeat ((first | (refine aI ?_ ?_; focus exact sI) | refine dI sK ?_ | (refine yI ?_ ?_; focus exact sY) | (refine nI ?_ ?_; focus exact sY) | intro _); conv => whnf)
      all_goals exact sR
theorem addE_prop {sig : List Dcl} {d : Dcl} (e0 : addE sig d = 0) : checkB sig = true ∧ prop d.c = true := by
  unfold addE at e0
  cases hs : checkB sig with
  | false => rw [hs] at e0; cases e0
  | true =>
    rw [hs] at e0
    refine ⟨rfl, ?_⟩
    simp only at e0
    split at e0
    · cases e0
    · split at e0
      · cases e0
      · split at e0
        · rename_i h3
          unfold formedF at h3
          cases hp : prop d.c with
          | true => rfl
          | false => rw [hp] at h3; simp at h3
        · cases e0
theorem cKDeclare (sig : List Dcl) (d : Dcl) : CallSt Tryz.prog 32 [.c (.sl 6 72 (dcs sig)), dv d] [] (fun r H' => r = .tup [.c (.sl 6 72 (dcs (declF sig d))), .c (.int .i64 (declE sig d))] ∧ H' = []) := by
  have hsl := len_dcs sig
  have had := cAdd sig d
  unfold declF declE
  by_cases he : addE sig d ≠ 0
  · rw [if_pos he, if_neg he]
    have ez : decide (addE sig d = 0) = false := decide_eq_false he
    generalize addE sig d = e at *
    generalize addL sig d = L at *
    obtain ⟨nm, ⟨x1, x2, x3, x4⟩, im⟩ := d
    refine call_pure (E := envC6 0) (fn := Tryz.f32) (c := bodyOf Tryz.f32) (envC6_ok 0) mixed sK sK sK sK sK sK rfl ?_
    refine aw_cut _ _ rfl fun C hC => ?_
    conv => whnf
    repeat ((first | (refine aI ?_ ?_; focus exact sI) | refine dI sK ?_ | (refine yI ?_ ?_; focus exact sY) | (refine nI ?_ ?_; focus exact sY) | intro _); conv => whnf)
    subst hC
    refine aw_cut _ _ rfl fun C hC => ?_
    conv => whnf
    repeat ((first | (refine aI ?_ ?_; focus exact sI) | refine dI sK ?_ | (refine yI ?_ ?_; focus exact sY) | (refine nI ?_ ?_; focus exact sY) | intro _); conv => whnf)
    try (refine dI sK ?_; conv => whnf)
    first | refine u0 had ?_ | refine v0 had ?_
    rintro _ _ ⟨rfl, rfl⟩ _
    conv => whnf
    subst hC
    conv => whnf
    repeat ((first | (refine aI ?_ ?_; focus exact sI) | refine dI sK ?_ | (refine yI ?_ ?_; focus exact sY) | (refine nI ?_ ?_; focus exact sY) | intro _); conv => whnf)
    rw [ez]
    (refine yI ?_ ?_; (focus exact sY); conv => whnf)
    repeat ((first | (refine aI ?_ ?_; focus exact sI) | refine dI sK ?_ | (refine yI ?_ ?_; focus exact sY) | (refine nI ?_ ?_; focus exact sY) | intro _); conv => whnf)
    all_goals exact sR
  · rw [if_neg he]
    have e0 : addE sig d = 0 := by omega
    have hL : addL sig d = sig ++ [d] := by unfold addL; rw [decide_eq_true e0]
    obtain ⟨hs, hpd⟩ := addE_prop e0
    have ht := cSCla sig (KOk.of' hs) d.c hpd
    rw [e0] at had
    by_cases hc : claF ⟨sig, []⟩ d.c = 0
    · rw [if_pos hc, ← hL, hc]
      rw [hc] at ht
      generalize addL sig d = L at *
      clear e0 he hL hc hpd
      obtain ⟨nm, ⟨x1, x2, x3, x4⟩, im⟩ := d
      rw [tv_mk] at ht
      refine call_pure (E := envC6 0) (fn := Tryz.f32) (c := bodyOf Tryz.f32) (envC6_ok 0) mixed sK sK sK sK sK sK rfl ?_
      refine aw_cut _ _ rfl fun C hC => ?_
      conv => whnf
      repeat ((first | (refine aI ?_ ?_; focus exact sI) | refine dI sK ?_ | (refine yI ?_ ?_; focus exact sY) | (refine nI ?_ ?_; focus exact sY) | intro _); conv => whnf)
      subst hC
      refine aw_cut _ _ rfl fun C hC => ?_
      conv => whnf
      repeat ((first | (refine aI ?_ ?_; focus exact sI) | refine dI sK ?_ | (refine yI ?_ ?_; focus exact sY) | (refine nI ?_ ?_; focus exact sY) | intro _); conv => whnf)
      try (refine dI sK ?_; conv => whnf)
      first | refine u0 had ?_ | refine v0 had ?_
      rintro _ _ ⟨rfl, rfl⟩ _
      conv => whnf
      subst hC
      conv => whnf
      repeat ((first | (refine aI ?_ ?_; focus exact sI) | refine dI sK ?_ | (refine yI ?_ ?_; focus exact sY) | (refine nI ?_ ?_; focus exact sY) | intro _); conv => whnf)
      try (refine dI sK ?_; conv => whnf)
      first | refine u0 ht ?_ | refine v0 ht ?_
      rintro _ _ ⟨rfl, rfl⟩ _
      conv => whnf
      repeat ((first | (refine aI ?_ ?_; focus exact sI) | refine dI sK ?_ | (refine yI ?_ ?_; focus exact sY) | (refine nI ?_ ?_; focus exact sY) | intro _); conv => whnf)
      all_goals exact sR
    · rw [if_neg hc]
      have ez : decide (claF ⟨sig, []⟩ d.c = 0) = false := decide_eq_false hc
      generalize claF ⟨sig, []⟩ d.c = e at *
      generalize addL sig d = L at *
      clear e0 he hL hc hpd
      obtain ⟨nm, ⟨x1, x2, x3, x4⟩, im⟩ := d
      rw [tv_mk] at ht
      refine call_pure (E := envC6 0) (fn := Tryz.f32) (c := bodyOf Tryz.f32) (envC6_ok 0) mixed sK sK sK sK sK sK rfl ?_
      refine aw_cut _ _ rfl fun C hC => ?_
      conv => whnf
      repeat ((first | (refine aI ?_ ?_; focus exact sI) | refine dI sK ?_ | (refine yI ?_ ?_; focus exact sY) | (refine nI ?_ ?_; focus exact sY) | intro _); conv => whnf)
      subst hC
      refine aw_cut _ _ rfl fun C hC => ?_
      conv => whnf
      repeat ((first | (refine aI ?_ ?_; focus exact sI) | refine dI sK ?_ | (refine yI ?_ ?_; focus exact sY) | (refine nI ?_ ?_; focus exact sY) | intro _); conv => whnf)
      try (refine dI sK ?_; conv => whnf)
      first | refine u0 had ?_ | refine v0 had ?_
      rintro _ _ ⟨rfl, rfl⟩ _
      conv => whnf
      subst hC
      conv => whnf
      repeat ((first | (refine aI ?_ ?_; focus exact sI) | refine dI sK ?_ | (refine yI ?_ ?_; focus exact sY) | (refine nI ?_ ?_; focus exact sY) | intro _); conv => whnf)
      try (refine dI sK ?_; conv => whnf)
      first | refine u0 ht ?_ | refine v0 ht ?_
      rintro _ _ ⟨rfl, rfl⟩ _
      conv => whnf
      rw [ez]
      (refine yI ?_ ?_; (focus exact sY); conv => whnf)
      repeat ((first | (refine aI ?_ ?_; focus exact sI) | refine dI sK ?_ | (refine yI ?_ ?_; focus exact sY) | (refine nI ?_ ?_; focus exact sY) | intro _); conv => whnf)
      all_goals exact sR
end Go.Tr
/- awake of trusslaw06. -/
namespace Go.Tr
open Go.Proofs
def ty6 : Term := .mk 1 0 0 []
def kind6 : Term := pi6 (con6 0 []) (pi6 (con6 0 []) (pi6 (con6 0 []) ty6))
def nat6 : List Dcl := [⟨⟨#[110, 97, 116]⟩, ty6, 0⟩, ⟨⟨#[122]⟩, con6 0 [], 0⟩, ⟨⟨#[115]⟩, pi6 (con6 0 []) (con6 0 []), 0⟩, ⟨⟨#[112, 108, 117, 115]⟩, kind6, 0⟩, ⟨⟨#[112, 122]⟩, pi6 (con6 0 []) (con6 3 [con6 1 [], vr6 0 [], vr6 0 []]), 1⟩]
def one6 : Term := con6 2 [con6 1 []]
theorem cNat6 : CallSt Tryz.prog 41 [] [] (fun r H' => r = .c (.sl 6 72 (dcs nat6)) ∧ H' = []) := by
  have h0 := cCon6 0 []
  have h1 := cCon6 1 []
  have hv := cVr6 0 []
  have h3 := cCon6 3 [con6 1 [], vr6 0 [], vr6 0 []]
  have p1 := cPi6 (con6 0 []) ty6
  have p2 := cPi6 (con6 0 []) (pi6 (con6 0 []) ty6)
  have p3 := cPi6 (con6 0 []) (pi6 (con6 0 []) (pi6 (con6 0 []) ty6))
  have p4 := cPi6 (con6 0 []) (con6 0 [])
  have p5 := cPi6 (con6 0 []) (con6 3 [con6 1 [], vr6 0 [], vr6 0 []])
  refine call_pure (E := envC6 0) (fn := Tryz.f41) (c := bodyOf Tryz.f41) (envC6_ok 0) mixed sK sK sK sK sK sK rfl ?_
  refine aw_cut _ _ rfl fun C hC => ?_
  conv => whnf
  repeat ((first | (refine aI ?_ ?_; focus exact sI) | refine dI sK ?_ | (refine yI ?_ ?_; focus exact sY) | (refine nI ?_ ?_; focus exact sY) | intro _); conv => whnf)
  subst hC
  refine aw_cut _ _ rfl fun C hC => ?_
  conv => whnf
  repeat ((first | (refine aI ?_ ?_; focus exact sI) | refine dI sK ?_ | (refine yI ?_ ?_; focus exact sY) | (refine nI ?_ ?_; focus exact sY) | intro _); conv => whnf)
  try (refine dI sK ?_; conv => whnf)
  first | refine u0 h0 ?_ | refine v0 h0 ?_
  rintro _ _ ⟨rfl, rfl⟩ _
  conv => whnf
  repeat ((first | (refine aI ?_ ?_; focus exact sI) | refine dI sK ?_ | (refine yI ?_ ?_; focus exact sY) | (refine nI ?_ ?_; focus exact sY) | intro _); conv => whnf)
  try (refine dI sK ?_; conv => whnf)
  first | refine u0 h0 ?_ | refine v0 h0 ?_
  rintro _ _ ⟨rfl, rfl⟩ _
  conv => whnf
  repeat ((first | (refine aI ?_ ?_; focus exact sI) | refine dI sK ?_ | (refine yI ?_ ?_; focus exact sY) | (refine nI ?_ ?_; focus exact sY) | intro _); conv => whnf)
  try (refine dI sK ?_; conv => whnf)
  first | refine u0 h0 ?_ | refine v0 h0 ?_
  rintro _ _ ⟨rfl, rfl⟩ _
  conv => whnf
  repeat ((first | (refine aI ?_ ?_; focus exact sI) | refine dI sK ?_ | (refine yI ?_ ?_; focus exact sY) | (refine nI ?_ ?_; focus exact sY) | intro _); conv => whnf)
  try (refine dI sK ?_; conv => whnf)
  first | refine u0 p1 ?_ | refine v0 p1 ?_
  rintro _ _ ⟨rfl, rfl⟩ _
  conv => whnf
  repeat ((first | (refine aI ?_ ?_; focus exact sI) | refine dI sK ?_ | (refine yI ?_ ?_; focus exact sY) | (refine nI ?_ ?_; focus exact sY) | intro _); conv => whnf)
  try (refine dI sK ?_; conv => whnf)
  first | refine u0 p2 ?_ | refine v0 p2 ?_
  rintro _ _ ⟨rfl, rfl⟩ _
  conv => whnf
  repeat ((first | (refine aI ?_ ?_; focus exact sI) | refine dI sK ?_ | (refine yI ?_ ?_; focus exact sY) | (refine nI ?_ ?_; focus exact sY) | intro _); conv => whnf)
  try (refine dI sK ?_; conv => whnf)
  first | refine u0 p3 ?_ | refine v0 p3 ?_
  rintro _ _ ⟨rfl, rfl⟩ _
  conv => whnf
  repeat ((first | (refine aI ?_ ?_; focus exact sI) | refine dI sK ?_ | (refine yI ?_ ?_; focus exact sY) | (refine nI ?_ ?_; focus exact sY) | intro _); conv => whnf)
  subst hC
  conv => whnf
  repeat ((first | (refine aI ?_ ?_; focus exact sI) | refine dI sK ?_ | (refine yI ?_ ?_; focus exact sY) | (refine nI ?_ ?_; focus exact sY) | intro _); conv => whnf)
  try (refine dI sK ?_; conv => whnf)
  first | refine u0 h0 ?_ | refine v0 h0 ?_
  rintro _ _ ⟨rfl, rfl⟩ _
  conv => whnf
  repeat ((first | (refine aI ?_ ?_; focus exact sI) | refine dI sK ?_ | (refine yI ?_ ?_; focus exact sY) | (refine nI ?_ ?_; focus exact sY) | intro _); conv => whnf)
  try (refine dI sK ?_; conv => whnf)
  first | refine u0 h0 ?_ | refine v0 h0 ?_
  rintro _ _ ⟨rfl, rfl⟩ _
  conv => whnf
  repeat ((first | (refine aI ?_ ?_; focus exact sI) | refine dI sK ?_ | (refine yI ?_ ?_; focus exact sY) | (refine nI ?_ ?_; focus exact sY) | intro _); conv => whnf)
  try (refine dI sK ?_; conv => whnf)
  first | refine u0 h0 ?_ | refine v0 h0 ?_
  rintro _ _ ⟨rfl, rfl⟩ _
  conv => whnf
  repeat ((first | (refine aI ?_ ?_; focus exact sI) | refine dI sK ?_ | (refine yI ?_ ?_; focus exact sY) | (refine nI ?_ ?_; focus exact sY) | intro _); conv => whnf)
  try (refine dI sK ?_; conv => whnf)
  first | refine u0 p4 ?_ | refine v0 p4 ?_
  rintro _ _ ⟨rfl, rfl⟩ _
  conv => whnf
  repeat ((first | (refine aI ?_ ?_; focus exact sI) | refine dI sK ?_ | (refine yI ?_ ?_; focus exact sY) | (refine nI ?_ ?_; focus exact sY) | intro _); conv => whnf)
  try (refine dI sK ?_; conv => whnf)
  first | refine u0 h0 ?_ | refine v0 h0 ?_
  rintro _ _ ⟨rfl, rfl⟩ _
  conv => whnf
  repeat ((first | (refine aI ?_ ?_; focus exact sI) | refine dI sK ?_ | (refine yI ?_ ?_; focus exact sY) | (refine nI ?_ ?_; focus exact sY) | intro _); conv => whnf)
  try (refine dI sK ?_; conv => whnf)
  first | refine u0 h1 ?_ | refine v0 h1 ?_
  rintro _ _ ⟨rfl, rfl⟩ _
  conv => whnf
  repeat ((first | (refine aI ?_ ?_; focus exact sI) | refine dI sK ?_ | (refine yI ?_ ?_; focus exact sY) | (refine nI ?_ ?_; focus exact sY) | intro _); conv => whnf)
  try (refine dI sK ?_; conv => whnf)
  first | refine u0 hv ?_ | refine v0 hv ?_
  rintro _ _ ⟨rfl, rfl⟩ _
  conv => whnf
  repeat ((first | (refine aI ?_ ?_; focus exact sI) | refine dI sK ?_ | (refine yI ?_ ?_; focus exact sY) | (refine nI ?_ ?_; focus exact sY) | intro _); conv => whnf)
  try (refine dI sK ?_; conv => whnf)
  first | refine u0 hv ?_ | refine v0 hv ?_
  rintro _ _ ⟨rfl, rfl⟩ _
  conv => whnf
  repeat ((first | (refine aI ?_ ?_; focus exact sI) | refine dI sK ?_ | (refine yI ?_ ?_; focus exact sY) | (refine nI ?_ ?_; focus exact sY) | intro _); conv => whnf)
  try (refine dI sK ?_; conv => whnf)
  first | refine u0 h3 ?_ | refine v0 h3 ?_
  rintro _ _ ⟨rfl, rfl⟩ _
  conv => whnf
  repeat ((first | (refine aI ?_ ?_; focus exact sI) | refine dI sK ?_ | (refine yI ?_ ?_; focus exact sY) | (refine nI ?_ ?_; focus exact sY) | intro _); conv => whnf)
  try (refine dI sK ?_; conv => whnf)
  first | refine u0 p5 ?_ | refine v0 p5 ?_
  rintro _ _ ⟨rfl, rfl⟩ _
  conv => whnf
  repeat ((first | (refine aI ?_ ?_; focus exact sI) | refine dI sK ?_ | (refine yI ?_ ?_; focus exact sY) | (refine nI ?_ ?_; focus exact sY) | intro _); conv => whnf)
  all_goals exact sR
end Go.Tr
/- awake of trusslaw06, the end. -/
namespace Go.Tr
open Go.Proofs
theorem n6_sig : ksigF nat6 = (5, 0) := by kernel_rfl
theorem n6_o1 : kobjF nat6 [] [] (lam6 (con6 2 [vr6 0 []])) (pi6 (con6 0 []) (con6 0 [])) = 0 := by kernel_rfl
theorem n6_o2 : kobjF nat6 [] [] (con6 4 [one6]) (con6 3 [con6 1 [], one6, one6]) = 0 := by kernel_rfl
theorem n6_o3 : kobjF nat6 [] [] (con6 4 [one6]) (con6 3 [con6 1 [], con6 1 [], con6 1 []]) = 24 := by kernel_rfl
theorem n6_t : ktypF nat6 [] [] (con6 3 [con6 1 [], con6 1 []]) = 23 := by kernel_rfl
set_option maxRecDepth 100000 in
set_option maxHeartbeats 1000000 in
theorem cAwake6 : CallSt Tryz.prog 14 [] [] (fun r H' => r = .c (.bool true) ∧ H' = []) := by
  have hn := cNat6
  have c1 := cCon6 1 []
  have c0 := cCon6 0 []
  have v0 := cVr6 0 []
  have hone := cCon6 2 [con6 1 []]
  have hsg := cKSignature nat6
  rw [n6_sig] at hsg
  have s2 := cCon6 2 [vr6 0 []]
  have l2 := cLam6 (con6 2 [vr6 0 []])
  have p2 := cPi6 (con6 0 []) (con6 0 [])
  have o1 := cKObject nat6 [] [] (lam6 (con6 2 [vr6 0 []])) (pi6 (con6 0 []) (con6 0 []))
  rw [n6_o1] at o1
  have c4 := cCon6 4 [one6]
  have c3 := cCon6 3 [con6 1 [], one6, one6]
  have o2 := cKObject nat6 [] [] (con6 4 [one6]) (con6 3 [con6 1 [], one6, one6])
  rw [n6_o2] at o2
  have c3b := cCon6 3 [con6 1 [], con6 1 [], con6 1 []]
  have o3 := cKObject nat6 [] [] (con6 4 [one6]) (con6 3 [con6 1 [], con6 1 [], con6 1 []])
  rw [n6_o3] at o3
  have c3c := cCon6 3 [con6 1 [], con6 1 []]
  have ot := cKType nat6 [] [] (con6 3 [con6 1 [], con6 1 []])
  rw [n6_t] at ot
  rw [show tcs [] = [] by rw [tcs], show mcs [] = [] from rfl] at o1 o2 o3 ot
  refine call_pure (E := envC6 0) (fn := Tryz.f14) (c := bodyOf Tryz.f14) (envC6_ok 0) mixed sK sK sK sK sK sK rfl ?_
  refine aw_cut _ _ rfl fun C hC => ?_
  conv => whnf
  repeat ((first | (refine aI ?_ ?_; focus exact sI) | refine dI sK ?_ | (refine yI ?_ ?_; focus exact sY) | (refine nI ?_ ?_; focus exact sY) | intro _); conv => whnf)
  subst hC
  refine aw_cut _ _ rfl fun C hC => ?_
  conv => whnf
  repeat ((first | (refine aI ?_ ?_; focus exact sI) | refine dI sK ?_ | (refine yI ?_ ?_; focus exact sY) | (refine nI ?_ ?_; focus exact sY) | intro _); conv => whnf)
  try (refine dI sK ?_; conv => whnf)
  first | refine u0 c1 ?_ | refine v0 c1 ?_
  rintro _ _ ⟨rfl, rfl⟩ _
  conv => whnf
  repeat ((first | (refine aI ?_ ?_; focus exact sI) | refine dI sK ?_ | (refine yI ?_ ?_; focus exact sY) | (refine nI ?_ ?_; focus exact sY) | intro _); conv => whnf)
  try (refine dI sK ?_; conv => whnf)
  first | refine u0 hone ?_ | refine v0 hone ?_
  rintro _ _ ⟨rfl, rfl⟩ _
  conv => whnf
  repeat ((first | (refine aI ?_ ?_; focus exact sI) | refine dI sK ?_ | (refine yI ?_ ?_; focus exact sY) | (refine nI ?_ ?_; focus exact sY) | intro _); conv => whnf)
  subst hC
  refine aw_cut _ _ rfl fun C hC => ?_
  conv => whnf
  repeat ((first | (refine aI ?_ ?_; focus exact sI) | refine dI sK ?_ | (refine yI ?_ ?_; focus exact sY) | (refine nI ?_ ?_; focus exact sY) | intro _); conv => whnf)
  try (refine dI sK ?_; conv => whnf)
  first | refine u0 hn ?_ | refine v0 hn ?_
  rintro _ _ ⟨rfl, rfl⟩ _
  conv => whnf
  repeat ((first | (refine aI ?_ ?_; focus exact sI) | refine dI sK ?_ | (refine yI ?_ ?_; focus exact sY) | (refine nI ?_ ?_; focus exact sY) | intro _); conv => whnf)
  try (refine dI sK ?_; conv => whnf)
  first | refine u0 hsg ?_ | refine v0 hsg ?_
  rintro _ _ ⟨rfl, rfl⟩ _
  conv => whnf
  repeat ((first | (refine aI ?_ ?_; focus exact sI) | refine dI sK ?_ | (refine yI ?_ ?_; focus exact sY) | (refine nI ?_ ?_; focus exact sY) | intro _); conv => whnf)
  subst hC
  refine aw_cut _ _ rfl fun C hC => ?_
  conv => whnf
  repeat ((first | (refine aI ?_ ?_; focus exact sI) | refine dI sK ?_ | (refine yI ?_ ?_; focus exact sY) | (refine nI ?_ ?_; focus exact sY) | intro _); conv => whnf)
  try (refine dI sK ?_; conv => whnf)
  first | refine u0 hn ?_ | refine v0 hn ?_
  rintro _ _ ⟨rfl, rfl⟩ _
  conv => whnf
  repeat ((first | (refine aI ?_ ?_; focus exact sI) | refine dI sK ?_ | (refine yI ?_ ?_; focus exact sY) | (refine nI ?_ ?_; focus exact sY) | intro _); conv => whnf)
  try (refine dI sK ?_; conv => whnf)
  first | refine u0 v0 ?_ | refine v0 v0 ?_
  rintro _ _ ⟨rfl, rfl⟩ _
  conv => whnf
  repeat ((first | (refine aI ?_ ?_; focus exact sI) | refine dI sK ?_ | (refine yI ?_ ?_; focus exact sY) | (refine nI ?_ ?_; focus exact sY) | intro _); conv => whnf)
  try (refine dI sK ?_; conv => whnf)
  first | refine u0 s2 ?_ | refine v0 s2 ?_
  rintro _ _ ⟨rfl, rfl⟩ _
  conv => whnf
  repeat ((first | (refine aI ?_ ?_; focus exact sI) | refine dI sK ?_ | (refine yI ?_ ?_; focus exact sY) | (refine nI ?_ ?_; focus exact sY) | intro _); conv => whnf)
  try (refine dI sK ?_; conv => whnf)
  first | refine u0 l2 ?_ | refine v0 l2 ?_
  rintro _ _ ⟨rfl, rfl⟩ _
  conv => whnf
  repeat ((first | (refine aI ?_ ?_; focus exact sI) | refine dI sK ?_ | (refine yI ?_ ?_; focus exact sY) | (refine nI ?_ ?_; focus exact sY) | intro _); conv => whnf)
  try (refine dI sK ?_; conv => whnf)
  first | refine u0 c0 ?_ | refine v0 c0 ?_
  rintro _ _ ⟨rfl, rfl⟩ _
  conv => whnf
  repeat ((first | (refine aI ?_ ?_; focus exact sI) | refine dI sK ?_ | (refine yI ?_ ?_; focus exact sY) | (refine nI ?_ ?_; focus exact sY) | intro _); conv => whnf)
  try (refine dI sK ?_; conv => whnf)
  first | refine u0 c0 ?_ | refine v0 c0 ?_
  rintro _ _ ⟨rfl, rfl⟩ _
  conv => whnf
  repeat ((first | (refine aI ?_ ?_; focus exact sI) | refine dI sK ?_ | (refine yI ?_ ?_; focus exact sY) | (refine nI ?_ ?_; focus exact sY) | intro _); conv => whnf)
  try (refine dI sK ?_; conv => whnf)
  first | refine u0 p2 ?_ | refine v0 p2 ?_
  rintro _ _ ⟨rfl, rfl⟩ _
  conv => whnf
  repeat ((first | (refine aI ?_ ?_; focus exact sI) | refine dI sK ?_ | (refine yI ?_ ?_; focus exact sY) | (refine nI ?_ ?_; focus exact sY) | intro _); conv => whnf)
  try (refine dI sK ?_; conv => whnf)
  first | refine u0 o1 ?_ | refine v0 o1 ?_
  rintro _ _ ⟨rfl, rfl⟩ _
  conv => whnf
  repeat ((first | (refine aI ?_ ?_; focus exact sI) | refine dI sK ?_ | (refine yI ?_ ?_; focus exact sY) | (refine nI ?_ ?_; focus exact sY) | intro _); conv => whnf)
  subst hC
  refine aw_cut _ _ rfl fun C hC => ?_
  conv => whnf
  repeat ((first | (refine aI ?_ ?_; focus exact sI) | refine dI sK ?_ | (refine yI ?_ ?_; focus exact sY) | (refine nI ?_ ?_; focus exact sY) | intro _); conv => whnf)
  (refine And.intro ?_ ?_ <;> conv => whnf)
  all_goals
    repeat ((first | (refine aI ?_ ?_; focus exact sI) | refine dI sK ?_ | (refine yI ?_ ?_; focus exact sY) | (refine nI ?_ ?_; focus exact sY) | intro _); conv => whnf)
    try (refine dI sK ?_; conv => whnf)
    first | refine u0 hn ?_ | refine v0 hn ?_
    rintro _ _ ⟨rfl, rfl⟩ _
    conv => whnf
    repeat ((first | (refine aI ?_ ?_; focus exact sI) | refine dI sK ?_ | (refine yI ?_ ?_; focus exact sY) | (refine nI ?_ ?_; focus exact sY) | intro _); conv => whnf)
    try (refine dI sK ?_; conv => whnf)
    first | refine u0 c4 ?_ | refine v0 c4 ?_
    rintro _ _ ⟨rfl, rfl⟩ _
    conv => whnf
    repeat ((first | (refine aI ?_ ?_; focus exact sI) | refine dI sK ?_ | (refine yI ?_ ?_; focus exact sY) | (refine nI ?_ ?_; focus exact sY) | intro _); conv => whnf)
    try (refine dI sK ?_; conv => whnf)
    first | refine u0 c1 ?_ | refine v0 c1 ?_
    rintro _ _ ⟨rfl, rfl⟩ _
    conv => whnf
    repeat ((first | (refine aI ?_ ?_; focus exact sI) | refine dI sK ?_ | (refine yI ?_ ?_; focus exact sY) | (refine nI ?_ ?_; focus exact sY) | intro _); conv => whnf)
    try (refine dI sK ?_; conv => whnf)
    first | refine u0 c3 ?_ | refine v0 c3 ?_
    rintro _ _ ⟨rfl, rfl⟩ _
    conv => whnf
    repeat ((first | (refine aI ?_ ?_; focus exact sI) | refine dI sK ?_ | (refine yI ?_ ?_; focus exact sY) | (refine nI ?_ ?_; focus exact sY) | intro _); conv => whnf)
    try (refine dI sK ?_; conv => whnf)
    first | refine u0 o2 ?_ | refine v0 o2 ?_
    rintro _ _ ⟨rfl, rfl⟩ _
    conv => whnf
    repeat ((first | (refine aI ?_ ?_; focus exact sI) | refine dI sK ?_ | (refine yI ?_ ?_; focus exact sY) | (refine nI ?_ ?_; focus exact sY) | intro _); conv => whnf)
    subst hC
    refine aw_cut _ _ rfl fun C hC => ?_
    conv => whnf
    repeat ((first | (refine aI ?_ ?_; focus exact sI) | refine dI sK ?_ | (refine yI ?_ ?_; focus exact sY) | (refine nI ?_ ?_; focus exact sY) | intro _); conv => whnf)
    (refine And.intro ?_ ?_ <;> conv => whnf)
    all_goals
      repeat ((first | (refine aI ?_ ?_; focus exact sI) | refine dI sK ?_ | (refine yI ?_ ?_; focus exact sY) | (refine nI ?_ ?_; focus exact sY) | intro _); conv => whnf)
      try (refine dI sK ?_; conv => whnf)
      first | refine u0 hn ?_ | refine v0 hn ?_
      rintro _ _ ⟨rfl, rfl⟩ _
      conv => whnf
      repeat ((first | (refine aI ?_ ?_; focus exact sI) | refine dI sK ?_ | (refine yI ?_ ?_; focus exact sY) | (refine nI ?_ ?_; focus exact sY) | intro _); conv => whnf)
      try (refine dI sK ?_; conv => whnf)
      first | refine u0 c4 ?_ | refine v0 c4 ?_
      rintro _ _ ⟨rfl, rfl⟩ _
      conv => whnf
      repeat ((first | (refine aI ?_ ?_; focus exact sI) | refine dI sK ?_ | (refine yI ?_ ?_; focus exact sY) | (refine nI ?_ ?_; focus exact sY) | intro _); conv => whnf)
      try (refine dI sK ?_; conv => whnf)
      first | refine u0 c1 ?_ | refine v0 c1 ?_
      rintro _ _ ⟨rfl, rfl⟩ _
      conv => whnf
      repeat ((first | (refine aI ?_ ?_; focus exact sI) | refine dI sK ?_ | (refine yI ?_ ?_; focus exact sY) | (refine nI ?_ ?_; focus exact sY) | intro _); conv => whnf)
      try (refine dI sK ?_; conv => whnf)
      first | refine u0 c1 ?_ | refine v0 c1 ?_
      rintro _ _ ⟨rfl, rfl⟩ _
      conv => whnf
      repeat ((first | (refine aI ?_ ?_; focus exact sI) | refine dI sK ?_ | (refine yI ?_ ?_; focus exact sY) | (refine nI ?_ ?_; focus exact sY) | intro _); conv => whnf)
      try (refine dI sK ?_; conv => whnf)
      first | refine u0 c1 ?_ | refine v0 c1 ?_
      rintro _ _ ⟨rfl, rfl⟩ _
      conv => whnf
      repeat ((first | (refine aI ?_ ?_; focus exact sI) | refine dI sK ?_ | (refine yI ?_ ?_; focus exact sY) | (refine nI ?_ ?_; focus exact sY) | intro _); conv => whnf)
      try (refine dI sK ?_; conv => whnf)
      first | refine u0 c3b ?_ | refine v0 c3b ?_
      rintro _ _ ⟨rfl, rfl⟩ _
      conv => whnf
      repeat ((first | (refine aI ?_ ?_; focus exact sI) | refine dI sK ?_ | (refine yI ?_ ?_; focus exact sY) | (refine nI ?_ ?_; focus exact sY) | intro _); conv => whnf)
      try (refine dI sK ?_; conv => whnf)
      first | refine u0 o3 ?_ | refine v0 o3 ?_
      rintro _ _ ⟨rfl, rfl⟩ _
      conv => whnf
      repeat ((first | (refine aI ?_ ?_; focus exact sI) | refine dI sK ?_ | (refine yI ?_ ?_; focus exact sY) | (refine nI ?_ ?_; focus exact sY) | intro _); conv => whnf)
      subst hC
      refine aw_cut _ _ rfl fun C hC => ?_
      conv => whnf
      repeat ((first | (refine aI ?_ ?_; focus exact sI) | refine dI sK ?_ | (refine yI ?_ ?_; focus exact sY) | (refine nI ?_ ?_; focus exact sY) | intro _); conv => whnf)
      try (refine dI sK ?_; conv => whnf)
      first | refine u0 hn ?_ | refine v0 hn ?_
      rintro _ _ ⟨rfl, rfl⟩ _
      conv => whnf
      repeat ((first | (refine aI ?_ ?_; focus exact sI) | refine dI sK ?_ | (refine yI ?_ ?_; focus exact sY) | (refine nI ?_ ?_; focus exact sY) | intro _); conv => whnf)
      try (refine dI sK ?_; conv => whnf)
      first | refine u0 c1 ?_ | refine v0 c1 ?_
      rintro _ _ ⟨rfl, rfl⟩ _
      conv => whnf
      repeat ((first | (refine aI ?_ ?_; focus exact sI) | refine dI sK ?_ | (refine yI ?_ ?_; focus exact sY) | (refine nI ?_ ?_; focus exact sY) | intro _); conv => whnf)
      try (refine dI sK ?_; conv => whnf)
      first | refine u0 c1 ?_ | refine v0 c1 ?_
      rintro _ _ ⟨rfl, rfl⟩ _
      conv => whnf
      repeat ((first | (refine aI ?_ ?_; focus exact sI) | refine dI sK ?_ | (refine yI ?_ ?_; focus exact sY) | (refine nI ?_ ?_; focus exact sY) | intro _); conv => whnf)
      try (refine dI sK ?_; conv => whnf)
      first | refine u0 c3c ?_ | refine v0 c3c ?_
      rintro _ _ ⟨rfl, rfl⟩ _
      conv => whnf
      repeat ((first | (refine aI ?_ ?_; focus exact sI) | refine dI sK ?_ | (refine yI ?_ ?_; focus exact sY) | (refine nI ?_ ?_; focus exact sY) | intro _); conv => whnf)
      try (refine dI sK ?_; conv => whnf)
      first | refine u0 ot ?_ | refine v0 ot ?_
      rintro _ _ ⟨rfl, rfl⟩ _
      conv => whnf
      repeat ((first | (refine aI ?_ ?_; focus exact sI) | refine dI sK ?_ | (refine yI ?_ ?_; focus exact sY) | (refine nI ?_ ?_; focus exact sY) | intro _); conv => whnf)
      subst hC
      conv => whnf
      repeat ((first | (refine aI ?_ ?_; focus exact sI) | refine dI sK ?_ | (refine yI ?_ ?_; focus exact sY) | (refine nI ?_ ?_; focus exact sY) | intro _); conv => whnf)
  all_goals (first | rfl | exact ⟨rfl, rfl⟩ | exact congrArg (fun z => AV.c (.bool z)) (by decide))
end Go.Tr
/- CheckTypes, CheckContexts. -/
namespace Go.Tr
open Go.Proofs
def tabW6 : List (Nat × TyD) := [
  (26, ⟨3, 72, .struct [(0, 22), (1, 23), (2, 24)], [.slice none 0 0, .slice none 0 0, .slice none 0 0], [22, 23, 24]⟩),
  (54, ⟨2, 48, .struct [(0, 22), (1, 23)], [.slice none 0 0, .slice none 0 0], [22, 23]⟩),
  (30, ⟨17, 200, .struct [(0, 3), (1, 28), (5, 28), (9, 28), (13, 28)], [.int .i64 0, .int .i64 0, .int .i64 0, .int .i64 0, .slice none 0 0, .int .i64 0, .int .i64 0, .int .i64 0, .slice none 0 0, .int .i64 0, .int .i64 0, .int .i64 0, .slice none 0 0, .int .i64 0, .int .i64 0, .int .i64 0, .slice none 0 0], [3, 3, 3, 3, 24, 3, 3, 3, 24, 3, 3, 3, 24, 3, 3, 3, 24]⟩),
  (34, ⟨1, 8, .int .u64, [.int .u64 0], [34]⟩),
  (22, ⟨1, 24, .slice 66, [.slice none 0 0], [22]⟩),
  (23, ⟨1, 24, .slice 110, [.slice none 0 0], [23]⟩),
  (24, ⟨1, 24, .slice 28, [.slice none 0 0], [24]⟩),
  (3, ⟨1, 8, .int .i64, [.int .i64 0], [3]⟩),
  (28, ⟨4, 48, .struct [(0, 3), (1, 3), (2, 3), (3, 24)], [.int .i64 0, .int .i64 0, .int .i64 0, .slice none 0 0], [3, 3, 3, 24]⟩),
  (66, ⟨6, 72, .struct [(0, 9), (1, 28), (5, 3)], [.string ⟨#[]⟩, .int .i64 0, .int .i64 0, .int .i64 0, .slice none 0 0, .int .i64 0], [9, 3, 3, 3, 24, 3]⟩),
  (110, ⟨10, 120, .struct [(0, 9), (1, 28), (5, 4), (6, 28)], [.string ⟨#[]⟩, .int .i64 0, .int .i64 0, .int .i64 0, .slice none 0 0, .bool false, .int .i64 0, .int .i64 0, .int .i64 0, .slice none 0 0], [9, 3, 3, 3, 24, 4, 3, 3, 3, 24]⟩),
  (9, ⟨1, 16, .str, [.string ⟨#[]⟩], [9]⟩),
  (4, ⟨1, 1, .bool, [.bool false], [4]⟩)] ++ tabC6
def envW6 (n : Nat) : Env := ⟨lkT tabW6, keep, n, false, false, none, mthC⟩
theorem envW6_ok (n : Nat) : EnvOk Tryz.prog (envW6 n) := EnvOk.of (l := tabW6) rfl (by kernel_rfl)
abbrev wvR (sig : List Dcl) (ms : List Mta) (cx : List Term) : AV := .agg [.c (.sl 6 72 (dcs sig)), .c (.sl 10 120 (mcs ms)), .c (.sl 4 48 (tcs cx))]
theorem cCheckTypes (sig : List Dcl) (ms : List Mta) (cx : List Term) (a : Term) : CallSt Tryz.prog 5 [wvR sig ms cx, tv a] [] (fun r H' => r = .c (.bool true) ∧ H' = []) := by
  have h1 := cKType sig ms cx a
  have h2 := cKKind sig ms cx a
  have h3 := cROk6 sig ms cx [a]
  have hw := cAwake6
  unfold ktypF at h1
  unfold kkndF at h2
  cases hok : okR sig ms cx [a] with
  | false =>
    rw [hok] at h1 h2 h3
    simp only at h1 h2
    clear hok
    obtain ⟨a1, a2, a3, a4⟩ := a
    rw [tv_mk] at h1 h2
    rw [tv_mk]
    refine call_pure (E := envW6 0) (fn := Tryz.f5) (c := bodyOf Tryz.f5) (envW6_ok 0) mixed sK sK sK sK sK sK rfl ?_
    refine aw_cut _ _ rfl fun C hC => ?_
    conv => whnf
    repeat ((first | (refine aI ?_ ?_; focus exact sI) | refine dI sK ?_ | (refine yI ?_ ?_; focus exact sY) | (refine nI ?_ ?_; focus exact sY) | intro _); conv => whnf)
    subst hC
    refine aw_cut _ _ rfl fun C hC => ?_
    conv => whnf
    repeat ((first | (refine aI ?_ ?_; focus exact sI) | refine dI sK ?_ | (refine yI ?_ ?_; focus exact sY) | (refine nI ?_ ?_; focus exact sY) | intro _); conv => whnf)
    try (refine dI sK ?_; conv => whnf)
    first | refine u0 h1 ?_ | refine v0 h1 ?_
    rintro _ _ ⟨rfl, rfl⟩ _
    conv => whnf
    repeat ((first | (refine aI ?_ ?_; focus exact sI) | refine dI sK ?_ | (refine yI ?_ ?_; focus exact sY) | (refine nI ?_ ?_; focus exact sY) | intro _); conv => whnf)
    subst hC
    refine aw_cut _ _ rfl fun C hC => ?_
    conv => whnf
    repeat ((first | (refine aI ?_ ?_; focus exact sI) | refine dI sK ?_ | (refine yI ?_ ?_; focus exact sY) | (refine nI ?_ ?_; focus exact sY) | intro _); conv => whnf)
    try (refine dI sK ?_; conv => whnf)
    first | refine u0 h2 ?_ | refine v0 h2 ?_
    rintro _ _ ⟨rfl, rfl⟩ _
    conv => whnf
    repeat ((first | (refine aI ?_ ?_; focus exact sI) | refine dI sK ?_ | (refine yI ?_ ?_; focus exact sY) | (refine nI ?_ ?_; focus exact sY) | intro _); conv => whnf)
    subst hC
    refine aw_cut _ _ rfl fun C hC => ?_
    conv => whnf
    repeat ((first | (refine aI ?_ ?_; focus exact sI) | refine dI sK ?_ | (refine yI ?_ ?_; focus exact sY) | (refine nI ?_ ?_; focus exact sY) | intro _); conv => whnf)
    try (refine dI sK ?_; conv => whnf)
    first | refine u0 h3 ?_ | refine v0 h3 ?_
    rintro _ _ ⟨rfl, rfl⟩ _
    conv => whnf
    repeat ((first | (refine aI ?_ ?_; focus exact sI) | refine dI sK ?_ | (refine yI ?_ ?_; focus exact sY) | (refine nI ?_ ?_; focus exact sY) | intro _); conv => whnf)
    try (refine dI sK ?_; conv => whnf)
    first | refine u0 hw ?_ | refine v0 hw ?_
    rintro _ _ ⟨rfl, rfl⟩ _
    conv => whnf
    repeat ((first | (refine aI ?_ ?_; focus exact sI) | refine dI sK ?_ | (refine yI ?_ ?_; focus exact sY) | (refine nI ?_ ?_; focus exact sY) | intro _); conv => whnf)
    subst hC
    repeat ((first | (refine aI ?_ ?_; focus exact sI) | refine dI sK ?_ | (refine yI ?_ ?_; focus exact sY) | (refine nI ?_ ?_; focus exact sY) | intro _); conv => whnf)
    all_goals exact sR
  | true =>
    obtain ⟨hK, hc, hl, _⟩ := okR_K hok
    have ha := hl a (by simp)
    have h4 := cRType ⟨sig, ms⟩ hK a ha cx hc
    have h5 := cRKind ⟨sig, ms⟩ hK a ha cx hc
    rw [hok] at h1 h2 h3
    simp only at h1 h2
    generalize typF ⟨sig, ms⟩ a cx = x at *
    generalize kndF ⟨sig, ms⟩ a cx = y at *
    clear hok hl ha
    obtain ⟨a1, a2, a3, a4⟩ := a
    rw [tv_mk] at h1 h2 h4 h5
    rw [tv_mk]
    refine call_pure (E := envW6 0) (fn := Tryz.f5) (c := bodyOf Tryz.f5) (envW6_ok 0) mixed sK sK sK sK sK sK rfl ?_
    refine aw_cut _ _ rfl fun C hC => ?_
    conv => whnf
    repeat ((first | (refine aI ?_ ?_; focus exact sI) | refine dI sK ?_ | (refine yI ?_ ?_; focus exact sY) | (refine nI ?_ ?_; focus exact sY) | intro _); conv => whnf)
    subst hC
    refine aw_cut _ _ rfl fun C hC => ?_
    conv => whnf
    repeat ((first | (refine aI ?_ ?_; focus exact sI) | refine dI sK ?_ | (refine yI ?_ ?_; focus exact sY) | (refine nI ?_ ?_; focus exact sY) | intro _); conv => whnf)
    try (refine dI sK ?_; conv => whnf)
    first | refine u0 h1 ?_ | refine v0 h1 ?_
    rintro _ _ ⟨rfl, rfl⟩ _
    conv => whnf
    repeat ((first | (refine aI ?_ ?_; focus exact sI) | refine dI sK ?_ | (refine yI ?_ ?_; focus exact sY) | (refine nI ?_ ?_; focus exact sY) | intro _); conv => whnf)
    subst hC
    refine aw_cut _ _ rfl fun C hC => ?_
    conv => whnf
    repeat ((first | (refine aI ?_ ?_; focus exact sI) | refine dI sK ?_ | (refine yI ?_ ?_; focus exact sY) | (refine nI ?_ ?_; focus exact sY) | intro _); conv => whnf)
    try (refine dI sK ?_; conv => whnf)
    first | refine u0 h2 ?_ | refine v0 h2 ?_
    rintro _ _ ⟨rfl, rfl⟩ _
    conv => whnf
    repeat ((first | (refine aI ?_ ?_; focus exact sI) | refine dI sK ?_ | (refine yI ?_ ?_; focus exact sY) | (refine nI ?_ ?_; focus exact sY) | intro _); conv => whnf)
    subst hC
    refine aw_cut _ _ rfl fun C hC => ?_
    conv => whnf
    repeat ((first | (refine aI ?_ ?_; focus exact sI) | refine dI sK ?_ | (refine yI ?_ ?_; focus exact sY) | (refine nI ?_ ?_; focus exact sY) | intro _); conv => whnf)
    try (refine dI sK ?_; conv => whnf)
    first | refine u0 h3 ?_ | refine v0 h3 ?_
    rintro _ _ ⟨rfl, rfl⟩ _
    conv => whnf
    repeat ((first | (refine aI ?_ ?_; focus exact sI) | refine dI sK ?_ | (refine yI ?_ ?_; focus exact sY) | (refine nI ?_ ?_; focus exact sY) | intro _); conv => whnf)
    subst hC
    conv => whnf
    repeat ((first | (refine aI ?_ ?_; focus exact sI) | refine dI sK ?_ | (refine yI ?_ ?_; focus exact sY) | (refine nI ?_ ?_; focus exact sY) | intro _); conv => whnf)
    try (refine dI sK ?_; conv => whnf)
    first | refine u0 h4 ?_ | refine v0 h4 ?_
    rintro _ _ ⟨rfl, rfl⟩ _
    conv => whnf
    repeat ((first | (refine aI ?_ ?_; focus exact sI) | refine dI sK ?_ | (refine yI ?_ ?_; focus exact sY) | (refine nI ?_ ?_; focus exact sY) | intro _); conv => whnf)
    try (refine dI sK ?_; conv => whnf)
    first | refine u0 h5 ?_ | refine v0 h5 ?_
    rintro _ _ ⟨rfl, rfl⟩ _
    conv => whnf
    repeat ((first | (refine aI ?_ ?_; focus exact sI) | refine dI sK ?_ | (refine yI ?_ ?_; focus exact sY) | (refine nI ?_ ?_; focus exact sY) | intro _); conv => whnf)
    try (refine dI sK ?_; conv => whnf)
    first | refine u0 hw ?_ | refine v0 hw ?_
    rintro _ _ ⟨rfl, rfl⟩ _
    conv => whnf
    repeat ((first | (refine aI ?_ ?_; focus exact sI) | refine dI sK ?_ | (refine yI ?_ ?_; focus exact sY) | (refine nI ?_ ?_; focus exact sY) | intro _); conv => whnf)
    all_goals exact sR
theorem cCheckContexts (sig : List Dcl) (ms : List Mta) (cx : List Term) : CallSt Tryz.prog 6 [wvR sig ms cx] [] (fun r H' => r = .c (.bool true) ∧ H' = []) := by
  have h1 := cKContext sig ms cx
  have h3 := cROk6 sig ms cx []
  have hw := cAwake6
  rw [show tcs [] = [] by rw [tcs]] at h3
  unfold kctxF at h1
  cases hok : okR sig ms cx [] with
  | false =>
    rw [hok] at h1 h3
    simp only at h1
    refine call_pure (E := envW6 0) (fn := Tryz.f6) (c := bodyOf Tryz.f6) (envW6_ok 0) mixed sK sK sK sK sK sK rfl ?_
    refine aw_cut _ _ rfl fun C hC => ?_
    conv => whnf
    repeat ((first | (refine aI ?_ ?_; focus exact sI) | refine dI sK ?_ | (refine yI ?_ ?_; focus exact sY) | (refine nI ?_ ?_; focus exact sY) | intro _); conv => whnf)
    subst hC
    refine aw_cut _ _ rfl fun C hC => ?_
    conv => whnf
    repeat ((first | (refine aI ?_ ?_; focus exact sI) | refine dI sK ?_ | (refine yI ?_ ?_; focus exact sY) | (refine nI ?_ ?_; focus exact sY) | intro _); conv => whnf)
    try (refine dI sK ?_; conv => whnf)
    first | refine u0 h1 ?_ | refine v0 h1 ?_
    rintro _ _ ⟨rfl, rfl⟩ _
    conv => whnf
    repeat ((first | (refine aI ?_ ?_; focus exact sI) | refine dI sK ?_ | (refine yI ?_ ?_; focus exact sY) | (refine nI ?_ ?_; focus exact sY) | intro _); conv => whnf)
    subst hC
    refine aw_cut _ _ rfl fun C hC => ?_
    conv => whnf
    repeat ((first | (refine aI ?_ ?_; focus exact sI) | refine dI sK ?_ | (refine yI ?_ ?_; focus exact sY) | (refine nI ?_ ?_; focus exact sY) | intro _); conv => whnf)
    try (refine dI sK ?_; conv => whnf)
    first | refine u0 h3 ?_ | refine v0 h3 ?_
    rintro _ _ ⟨rfl, rfl⟩ _
    conv => whnf
    repeat ((first | (refine aI ?_ ?_; focus exact sI) | refine dI sK ?_ | (refine yI ?_ ?_; focus exact sY) | (refine nI ?_ ?_; focus exact sY) | intro _); conv => whnf)
    try (refine dI sK ?_; conv => whnf)
    first | refine u0 hw ?_ | refine v0 hw ?_
    rintro _ _ ⟨rfl, rfl⟩ _
    conv => whnf
    repeat ((first | (refine aI ?_ ?_; focus exact sI) | refine dI sK ?_ | (refine yI ?_ ?_; focus exact sY) | (refine nI ?_ ?_; focus exact sY) | intro _); conv => whnf)
    subst hC
    repeat ((first | (refine aI ?_ ?_; focus exact sI) | refine dI sK ?_ | (refine yI ?_ ?_; focus exact sY) | (refine nI ?_ ?_; focus exact sY) | intro _); conv => whnf)
    all_goals exact sR
  | true =>
    obtain ⟨hK, hc, hl, _⟩ := okR_K hok
    have h4 := cRContext ⟨sig, ms⟩ hK cx hc
    rw [hok] at h1 h3
    simp only at h1
    generalize ctxF ⟨sig, ms⟩ [] cx = x at *
    refine call_pure (E := envW6 0) (fn := Tryz.f6) (c := bodyOf Tryz.f6) (envW6_ok 0) mixed sK sK sK sK sK sK rfl ?_
    refine aw_cut _ _ rfl fun C hC => ?_
    conv => whnf
    repeat ((first | (refine aI ?_ ?_; focus exact sI) | refine dI sK ?_ | (refine yI ?_ ?_; focus exact sY) | (refine nI ?_ ?_; focus exact sY) | intro _); conv => whnf)
    subst hC
    refine aw_cut _ _ rfl fun C hC => ?_
    conv => whnf
    repeat ((first | (refine aI ?_ ?_; focus exact sI) | refine dI sK ?_ | (refine yI ?_ ?_; focus exact sY) | (refine nI ?_ ?_; focus exact sY) | intro _); conv => whnf)
    try (refine dI sK ?_; conv => whnf)
    first | refine u0 h1 ?_ | refine v0 h1 ?_
    rintro _ _ ⟨rfl, rfl⟩ _
    conv => whnf
    repeat ((first | (refine aI ?_ ?_; focus exact sI) | refine dI sK ?_ | (refine yI ?_ ?_; focus exact sY) | (refine nI ?_ ?_; focus exact sY) | intro _); conv => whnf)
    subst hC
    refine aw_cut _ _ rfl fun C hC => ?_
    conv => whnf
    repeat ((first | (refine aI ?_ ?_; focus exact sI) | refine dI sK ?_ | (refine yI ?_ ?_; focus exact sY) | (refine nI ?_ ?_; focus exact sY) | intro _); conv => whnf)
    try (refine dI sK ?_; conv => whnf)
    first | refine u0 h3 ?_ | refine v0 h3 ?_
    rintro _ _ ⟨rfl, rfl⟩ _
    conv => whnf
    repeat ((first | (refine aI ?_ ?_; focus exact sI) | refine dI sK ?_ | (refine yI ?_ ?_; focus exact sY) | (refine nI ?_ ?_; focus exact sY) | intro _); conv => whnf)
    subst hC
    conv => whnf
    repeat ((first | (refine aI ?_ ?_; focus exact sI) | refine dI sK ?_ | (refine yI ?_ ?_; focus exact sY) | (refine nI ?_ ?_; focus exact sY) | intro _); conv => whnf)
    try (refine dI sK ?_; conv => whnf)
    first | refine u0 h4 ?_ | refine v0 h4 ?_
    rintro _ _ ⟨rfl, rfl⟩ _
    conv => whnf
    repeat ((first | (refine aI ?_ ?_; focus exact sI) | refine dI sK ?_ | (refine yI ?_ ?_; focus exact sY) | (refine nI ?_ ?_; focus exact sY) | intro _); conv => whnf)
    try (refine dI sK ?_; conv => whnf)
    first | refine u0 hw ?_ | refine v0 hw ?_
    rintro _ _ ⟨rfl, rfl⟩ _
    conv => whnf
    repeat ((first | (refine aI ?_ ?_; focus exact sI) | refine dI sK ?_ | (refine yI ?_ ?_; focus exact sY) | (refine nI ?_ ?_; focus exact sY) | intro _); conv => whnf)
    all_goals exact sR
end Go.Tr
/- What is handed in: worlds, and what is put. -/
namespace Go.Tr
open Go.Proofs
theorem tcs_map6 : ∀ ts : List Term, tcs ts = ts.map tc
  | [] => rfl
  | t :: r => by rw [tcs, tcs_map6 r]; rfl
theorem sh6_term : ∀ (n : Nat) {xs : List CV}, Sh (lkT tabW6) n 28 xs → ∃ t, xs = tc t := by
  intro n
  induction n using Nat.strongRecOn with
  | _ n ih =>
  intro xs h
  obtain ⟨m, rfl, a, b, rfl, h0, c, d, rfl, h1, e, f, rfl, h2, g, i, rfl, h3, rfl⟩ := sh_struct (fs := [(0, 3), (1, 3), (2, 3), (3, 24)]) rfl h
  obtain ⟨k, rfl, _⟩ := sh_int (k := .i64) rfl h0
  obtain ⟨l, rfl, _⟩ := sh_int (k := .i64) rfl h1
  obtain ⟨n, rfl, _⟩ := sh_int (k := .i64) rfl h2
  obtain ⟨m2, es, rfl, rfl, _, h4⟩ := sh_slice (e := 28) rfl h3
  obtain ⟨ts, rfl⟩ := map_choose (f := tc) es fun r hr => ih m2 (by omega) (h4 r hr)
  exact ⟨.mk k l n ts, by rw [← tcs_map6]; rfl⟩
theorem sh6_decl : ∀ (n : Nat) {xs : List CV}, Sh (lkT tabW6) n 66 xs → ∃ d, xs = dc d := by
  intro n xs h
  obtain ⟨m, rfl, a, b, rfl, h0, c, d, rfl, h1, e, f, rfl, h2, rfl⟩ := sh_struct (fs := [(0, 9), (1, 28), (5, 3)]) rfl h
  obtain ⟨s, rfl, _⟩ := sh_str rfl h0
  obtain ⟨t, rfl⟩ := sh6_term m h1
  obtain ⟨i, rfl, _⟩ := sh_int (k := .i64) rfl h2
  obtain ⟨k, l, x, ts⟩ := t
  exact ⟨⟨s, ⟨k, l, x, ts⟩, i⟩, rfl⟩
theorem sh6_meta : ∀ (n : Nat) {xs : List CV}, Sh (lkT tabW6) n 110 xs → ∃ d, xs = mc d := by
  intro n xs h
  obtain ⟨m, rfl, a, b, rfl, h0, c, d, rfl, h1, e, f, rfl, h2, g, i, rfl, h3, rfl⟩ := sh_struct (fs := [(0, 9), (1, 28), (5, 4), (6, 28)]) rfl h
  obtain ⟨s, rfl, _⟩ := sh_str rfl h0
  obtain ⟨t, rfl⟩ := sh6_term m h1
  obtain ⟨z, rfl⟩ := sh_bool rfl h2
  obtain ⟨u, rfl⟩ := sh6_term m h3
  obtain ⟨k, l, x, ts⟩ := t
  obtain ⟨k2, l2, x2, us⟩ := u
  exact ⟨⟨s, ⟨k, l, x, ts⟩, z, ⟨k2, l2, x2, us⟩⟩, rfl⟩
theorem sh6_sig {n : Nat} {xs : List CV} (h : Sh (lkT tabW6) n 22 xs) : ∃ l : List Dcl, xs = [.sl 6 72 (dcs l)] := by
  obtain ⟨m2, es, rfl, rfl, h5, h4⟩ := sh_slice (e := 66) rfl h
  obtain ⟨l, rfl⟩ := map_choose (f := dc) es fun r hr => sh6_decl m2 (h4 r hr)
  exact ⟨l, rfl⟩
theorem sh6_metas {n : Nat} {xs : List CV} (h : Sh (lkT tabW6) n 23 xs) : ∃ l : List Mta, xs = [.sl 10 120 (mcs l)] := by
  obtain ⟨m2, es, rfl, rfl, h5, h4⟩ := sh_slice (e := 110) rfl h
  obtain ⟨l, rfl⟩ := map_choose (f := mc) es fun r hr => sh6_meta m2 (h4 r hr)
  exact ⟨l, rfl⟩
theorem sh6_terms {n : Nat} {xs : List CV} (h : Sh (lkT tabW6) n 24 xs) : ∃ ts : List Term, xs = [.sl 4 48 (tcs ts)] := by
  obtain ⟨m2, es, rfl, rfl, h5, h4⟩ := sh_slice (e := 28) rfl h
  obtain ⟨ts, rfl⟩ := map_choose (f := tc) es fun r hr => sh6_term m2 (h4 r hr)
  exact ⟨ts, by rw [← tcs_map6]; rfl⟩
structure Wld where
  sig : List Dcl
  ms : List Mta
  cx : List Term
def wldC (x : Wld) : List CV := [.sl 6 72 (dcs x.sig), .sl 10 120 (mcs x.ms), .sl 4 48 (tcs x.cx)]
theorem sh6_world : ∀ (n : Nat) {xs : List CV}, Sh (lkT tabW6) n 26 xs → ∃ d, xs = wldC d := by
  intro n xs h
  obtain ⟨m, rfl, a, b, rfl, h0, c, d, rfl, h1, e, f, rfl, h2, rfl⟩ := sh_struct (fs := [(0, 22), (1, 23), (2, 24)]) rfl h
  obtain ⟨S, rfl⟩ := sh6_sig h0
  obtain ⟨M, rfl⟩ := sh6_metas h1
  obtain ⟨X, rfl⟩ := sh6_terms h2
  exact ⟨⟨S, M, X⟩, rfl⟩
structure Ptt where
  nn : Int
  mm : Term
  aa : Term
  ss : Term
  bb : Term
def argTypesH : List TypeId := [3, 4, 9, 24, 28, 66, 22, 110, 23, 26, 30]
theorem arg_okH : argTypesH.all (cl1 (lkT tabW6) argTypesH) = true := by decide
section
variable {H : Type} {enc : TypeId × Value → H} {W : World} {base : Nat} {v : Value} {d : DataW H} {ps : List MemPlace}
set_option maxRecDepth 100000 in
theorem arg_world (hval : Value.okWide Tryz.prog W .any base 26 v) (h : DataW.Trod enc Tryz.prog W 0 (fun _ => true) true 26 v d ps)
    (hw : ∀ n ∈ d.weights Tryz.prog 26, n ≤ reachBytes) : ∃ x : Wld, AVR W.heap noS (fun _ => .none) (wvR x.sig x.ms x.cx) v := by
  obtain ⟨fuel, xs, hs, a⟩ := open_arg (envW6_ok 0) arg_okH (by decide) hval h hw
  obtain ⟨x, rfl⟩ := sh6_world fuel hs
  exact ⟨x, a⟩
end
theorem wCheckTypes (x : Wld) (a : Term) : CallSt Tryz.prog 5 [wvR x.sig x.ms x.cx, tv a] [] (fun r H' => r = .c (.bool true) ∧ H' = []) := cCheckTypes x.sig x.ms x.cx a
theorem wCheckContexts (x : Wld) : CallSt Tryz.prog 6 [wvR x.sig x.ms x.cx] [] (fun r H' => r = .c (.bool true) ∧ H' = []) := cCheckContexts x.sig x.ms x.cx
end Go.Tr
/- The kernel never says ErrArg; the beginnings of a signature. -/
namespace Go.Tr
theorem n02 : (0 : Int) ≠ 2 := by decide
theorem n22 : (22 : Int) ≠ 2 := by decide
theorem n27 : (27 : Int) ≠ 2 := by decide
theorem n23 : (23 : Int) ≠ 2 := by decide
theorem clsE_2 (K : Krn) (cx : List Term) (l n : Int) : (clsE K cx l n).2 ≠ 2 := by
  unfold clsE
  split
  · split
    · exact n02
    · exact n27
  · split
    · split
      · split
        · exact n22
        · exact n02
      · exact n27
    · split
      · exact n02
      · exact n27
theorem instE_2 (A B m : Term) : (instE A B m).2 ≠ 2 := by
  unfold instE
  split
  · exact n22
  · split
    · exact n23
    · exact n02
theorem restF_2 {p : Term × Int} (h : p.2 ≠ 2) : (restF p).2 ≠ 2 := by
  unfold restF
  split
  · exact h
  · split <;> (simp only; decide)
theorem appF_2 {c : Term × Int} {f : Term → Term × Int} (h : c.2 ≠ 2) (h2 : ∀ t, (f t).2 ≠ 2) : (appF c f).2 ≠ 2 := by
  unfold appF
  split
  · exact h
  · exact restF_2 (h2 _)
theorem eqF_2 {a : Term} {p : Term × Int} (h : p.2 ≠ 2) : eqF a p ≠ 2 := by
  unfold eqF
  split
  · exact h
  · split <;> decide
mutual
theorem objE_2 (K : Krn) : ∀ (m : Term) (cx : List Term) (a : Term), objE K m cx a ≠ 2
  | .mk k l n ts, cx, a => by
    rw [objE]
    split
    · split
      · decide
      · split
        · split
          · match ts with
            | [] => rw [objEH]; decide
            | m :: r => rw [objEH]; exact objE_2 K m _ _
          · decide
        · decide
    · split
      · split
        · decide
        · split
          · exact eqF_2 (appF_2 (clsE_2 _ _ _ _) fun t => fitE_2 K ts cx t)
          · decide
      · decide
theorem fitE_2 (K : Krn) : ∀ (ts cx : List Term) (c : Term), (fitE K ts cx c).2 ≠ 2
  | [], cx, c => by rw [fitE]; exact n02
  | m :: r, cx, c => by
    rw [fitE]
    split
    · split
      · split
        · exact objE_2 K m _ _
        · split
          · exact instE_2 _ _ _
          · exact fitE_2 K r _ _
      · decide
    · decide
end
theorem famE_2 (K : Krn) (cx : List Term) (n : Int) (ts : List Term) : famE6 K cx n ts ≠ 2 := by
  unfold famE6
  split
  · decide
  · split
    · split
      · exact fitE_2 _ _ _ _
      · split <;> decide
    · decide
theorem typE_2 (K : Krn) : ∀ (a : Term) (cx : List Term), typE K a cx ≠ 2
  | .mk k l n [], cx => by
    rw [typE.eq_def]
    simp only
    split
    · decide
    · split
      · exact famE_2 _ _ _ _
      · decide
  | .mk k l n [A], cx => by
    rw [typE.eq_def]
    simp only
    split
    · decide
    · split
      · exact famE_2 _ _ _ _
      · decide
  | .mk k l n (A :: B :: r), cx => by
    rw [typE.eq_def]
    simp only
    split
    · split
      · exact typE_2 K A cx
      · exact typE_2 K B _
    · split
      · exact famE_2 _ _ _ _
      · decide
theorem kndE_2 (K : Krn) : ∀ (a : Term) (cx : List Term), kndE K a cx ≠ 2
  | .mk k l n [], cx => by
    rw [kndE.eq_def]
    simp only
    split
    · decide
    · split <;> decide
  | .mk k l n [A], cx => by
    rw [kndE.eq_def]
    simp only
    split
    · decide
    · split <;> decide
  | .mk k l n (A :: B :: r), cx => by
    rw [kndE.eq_def]
    simp only
    split
    · decide
    · split
      · split
        · exact typE_2 K A cx
        · exact kndE_2 K B _
      · decide
theorem claF_2 {K : Krn} (hK : KOk K) {c : Term} (hc : prop c = true) : claF K c ≠ 2 := by
  have hn : COk [] := ⟨fun t ht => (nomatch ht), Nat.zero_le 30⟩
  unfold claF
  split
  · rcases knd_rel hK c [] hn hc with h | h
    · rw [h]; decide
    · rw [h]; exact kndE_2 _ _ _
  · rcases typ_rel hK c [] hn hc with h | h
    · rw [h]; decide
    · rw [h]; exact typE_2 _ _ _
theorem KOk.take6 {sig : List Dcl} (h : checkB sig = true) (j : Nat) : KOk ⟨sig.take j, []⟩ := by
  have h1 := check_prop h
  have h2 := check_len h
  exact ⟨fun e he => h1 e (List.mem_of_mem_take he), fun m hm => (nomatch hm), by simp only [List.length_take]; omega, by simp⟩
theorem sigF_2 {sig : List Dcl} (hs : checkB sig = true) : ∀ (l : List Dcl) (i : Nat), (∀ d ∈ l, prop d.c = true) → (sigF sig i l).2 ≠ 2
  | [], i, h => by rw [sigF]; exact n02
  | d :: r, i, h => by
    rw [sigF]
    split
    · exact claF_2 (KOk.take6 hs i) (h d (List.mem_cons_self ..))
    · exact sigF_2 hs r (i + 1) fun e he => h e (List.mem_cons_of_mem _ he)
theorem goodD_take (sig : List Dcl) {m n : Nat} (h : n < m) : goodD (sig.take m) n = goodD sig n := by
  unfold goodD
  rw [List.getElem?_take, if_pos h, List.take_take, Nat.min_eq_left (by omega)]
theorem checkB_take {sig : List Dcl} (h : checkB sig = true) (m : Nat) : checkB (sig.take m) = true := by
  have h1 := check_len h
  have h2 := check_good h
  unfold checkB
  rw [Bool.and_eq_true, decide_eq_true_eq, List.all_eq_true, List.length_take]
  refine ⟨by omega, fun i hi => ?_⟩
  rw [List.mem_range] at hi
  rw [goodD_take sig (by omega)]
  exact h2 i (by omega)
theorem add_next {sig : List Dcl} (h : checkB sig = true) {i : Nat} {d : Dcl} (hd : sig[i]? = some d) : addE (sig.take i) d = 0 := by
  have hi := (List.getElem?_eq_some_iff.1 hd).1
  have h1 := check_len h
  have h2 := check_good h i hi
  rw [good_formed sig hd] at h2
  unfold formedR at h2
  simp only [Bool.and_eq_true, Bool.not_eq_true'] at h2
  unfold addE
  rw [checkB_take h i, h2.1, h2.2, decide_eq_false (by rw [List.length_take]; omega)]
end Go.Tr
/- CheckObjects, CheckSignatures. -/
namespace Go.Tr
open Go.Proofs
theorem okR_two (sig : List Dcl) (ms : List Mta) (cx : List Term) (m a : Term) : okR sig ms cx [m, a] = (okR sig ms cx [m] && prop a) := by
  unfold okR
  simp only [List.all_cons, List.all_nil, Bool.and_true, Bool.and_assoc]
set_option maxHeartbeats 1000000 in
theorem cCheckObjects (sig : List Dcl) (ms : List Mta) (cx : List Term) (m a : Term) : CallSt Tryz.prog 7 [wvR sig ms cx, tv m, tv a] [] (fun r H' => r = .c (.bool true) ∧ H' = []) := by
  have h1 := cKObject sig ms cx m a
  have h2 := cKInfer sig ms cx m
  have h3 := cROk6 sig ms cx [m]
  have hpa := cRProper a
  have hw := cAwake6
  unfold kobjF at h1
  unfold kinfF at h2
  rw [okR_two] at h1
  cases hok : okR sig ms cx [m] with
  | false =>
    rw [hok] at h1 h2 h3
    rw [Bool.false_and] at h1
    simp only at h1 h2
    have hs := c23 zT zT
    rw [(sameT_iff zT zT).2 rfl] at hs
    clear hok
    obtain ⟨a1, a2, a3, a4⟩ := a
    obtain ⟨m1, m2, m3, m4⟩ := m
    rw [tv_mk, tv_mk] at h1
    rw [tv_mk] at h2
    rw [tv_mk, tv_mk]
    refine call_pure (E := envW6 0) (fn := Tryz.f7) (c := bodyOf Tryz.f7) (envW6_ok 0) mixed sK sK sK sK sK sK rfl ?_
    refine aw_cut _ _ rfl fun C hC => ?_
    conv => whnf
    repeat ((first | (refine aI ?_ ?_; focus exact sI) | refine dI sK ?_ | (refine yI ?_ ?_; focus exact sY) | (refine nI ?_ ?_; focus exact sY) | intro _); conv => whnf)
    subst hC
    refine aw_cut _ _ rfl fun C hC => ?_
    conv => whnf
    repeat ((first | (refine aI ?_ ?_; focus exact sI) | refine dI sK ?_ | (refine yI ?_ ?_; focus exact sY) | (refine nI ?_ ?_; focus exact sY) | intro _); conv => whnf)
    try (refine dI sK ?_; conv => whnf)
    first | refine u0 h1 ?_ | refine v0 h1 ?_
    rintro _ _ ⟨rfl, rfl⟩ _
    conv => whnf
    repeat ((first | (refine aI ?_ ?_; focus exact sI) | refine dI sK ?_ | (refine yI ?_ ?_; focus exact sY) | (refine nI ?_ ?_; focus exact sY) | intro _); conv => whnf)
    subst hC
    refine aw_cut _ _ rfl fun C hC => ?_
    conv => whnf
    repeat ((first | (refine aI ?_ ?_; focus exact sI) | refine dI sK ?_ | (refine yI ?_ ?_; focus exact sY) | (refine nI ?_ ?_; focus exact sY) | intro _); conv => whnf)
    try (refine dI sK ?_; conv => whnf)
    first | refine u0 h2 ?_ | refine v0 h2 ?_
    rintro _ _ ⟨rfl, rfl⟩ _
    conv => whnf
    repeat ((first | (refine aI ?_ ?_; focus exact sI) | refine dI sK ?_ | (refine yI ?_ ?_; focus exact sY) | (refine nI ?_ ?_; focus exact sY) | intro _); conv => whnf)
    subst hC
    refine aw_cut _ _ rfl fun C hC => ?_
    conv => whnf
    repeat ((first | (refine aI ?_ ?_; focus exact sI) | refine dI sK ?_ | (refine yI ?_ ?_; focus exact sY) | (refine nI ?_ ?_; focus exact sY) | intro _); conv => whnf)
    subst hC
    refine aw_cut _ _ rfl fun C hC => ?_
    conv => whnf
    repeat ((first | (refine aI ?_ ?_; focus exact sI) | refine dI sK ?_ | (refine yI ?_ ?_; focus exact sY) | (refine nI ?_ ?_; focus exact sY) | intro _); conv => whnf)
    subst hC
    refine aw_cut _ _ rfl fun C hC => ?_
    conv => whnf
    repeat ((first | (refine aI ?_ ?_; focus exact sI) | refine dI sK ?_ | (refine yI ?_ ?_; focus exact sY) | (refine nI ?_ ?_; focus exact sY) | intro _); conv => whnf)
    subst hC
    refine aw_cut _ _ rfl fun C hC => ?_
    conv => whnf
    repeat ((first | (refine aI ?_ ?_; focus exact sI) | refine dI sK ?_ | (refine yI ?_ ?_; focus exact sY) | (refine nI ?_ ?_; focus exact sY) | intro _); conv => whnf)
    try (refine dI sK ?_; conv => whnf)
    first | refine u0 h3 ?_ | refine v0 h3 ?_
    rintro _ _ ⟨rfl, rfl⟩ _
    conv => whnf
    repeat ((first | (refine aI ?_ ?_; focus exact sI) | refine dI sK ?_ | (refine yI ?_ ?_; focus exact sY) | (refine nI ?_ ?_; focus exact sY) | intro _); conv => whnf)
    subst hC
    conv => whnf
    repeat ((first | (refine aI ?_ ?_; focus exact sI) | refine dI sK ?_ | (refine yI ?_ ?_; focus exact sY) | (refine nI ?_ ?_; focus exact sY) | intro _); conv => whnf)
    try (refine dI sK ?_; conv => whnf)
    first | refine u0 hs ?_ | refine v0 hs ?_
    rintro _ _ ⟨rfl, rfl⟩ _
    conv => whnf
    repeat ((first | (refine aI ?_ ?_; focus exact sI) | refine dI sK ?_ | (refine yI ?_ ?_; focus exact sY) | (refine nI ?_ ?_; focus exact sY) | intro _); conv => whnf)
    try (refine dI sK ?_; conv => whnf)
    first | refine u0 hw ?_ | refine v0 hw ?_
    rintro _ _ ⟨rfl, rfl⟩ _
    conv => whnf
    repeat ((first | (refine aI ?_ ?_; focus exact sI) | refine dI sK ?_ | (refine yI ?_ ?_; focus exact sY) | (refine nI ?_ ?_; focus exact sY) | intro _); conv => whnf)
    all_goals exact sR
  | true =>
    obtain ⟨hK, hc, hl, _⟩ := okR_K hok
    have hm := hl m (by simp)
    have h4 := cRInfer ⟨sig, ms⟩ hK m hm (fun u hu => cRObject ⟨sig, ms⟩ hK u (prop_sub hm u hu)) cx hc
    rw [hok] at h1 h2 h3
    rw [Bool.true_and] at h1
    simp only at h2
    obtain ⟨V, hV⟩ : ∃ V, V = infF ⟨sig, ms⟩ cx m := ⟨_, rfl⟩
    rw [← hV] at h2 h4
    clear hV
    obtain ⟨v, e⟩ := V
    have hs := c23 v v
    rw [(sameT_iff v v).2 rfl] at hs
    simp only at h2 h4
    cases hp : prop a with
    | false =>
      rw [hp] at h1 hpa
      simp only at h1
      clear hok hl hm hp
      obtain ⟨a1, a2, a3, a4⟩ := a
      obtain ⟨m1, m2, m3, m4⟩ := m
      obtain ⟨v1, v2, v3, v4⟩ := v
      rw [tv_mk] at hpa
      rw [tv_mk, tv_mk] at h1 h2 h4
      rw [tv_mk] at hs
      rw [tv_mk, tv_mk]
      refine call_pure (E := envW6 0) (fn := Tryz.f7) (c := bodyOf Tryz.f7) (envW6_ok 0) mixed sK sK sK sK sK sK rfl ?_
      refine aw_cut _ _ rfl fun C hC => ?_
      conv => whnf
      repeat ((first | (refine aI ?_ ?_; focus exact sI) | refine dI sK ?_ | (refine yI ?_ ?_; focus exact sY) | (refine nI ?_ ?_; focus exact sY) | intro _); conv => whnf)
      subst hC
      refine aw_cut _ _ rfl fun C hC => ?_
      conv => whnf
      repeat ((first | (refine aI ?_ ?_; focus exact sI) | refine dI sK ?_ | (refine yI ?_ ?_; focus exact sY) | (refine nI ?_ ?_; focus exact sY) | intro _); conv => whnf)
      try (refine dI sK ?_; conv => whnf)
      first | refine u0 h1 ?_ | refine v0 h1 ?_
      rintro _ _ ⟨rfl, rfl⟩ _
      conv => whnf
      repeat ((first | (refine aI ?_ ?_; focus exact sI) | refine dI sK ?_ | (refine yI ?_ ?_; focus exact sY) | (refine nI ?_ ?_; focus exact sY) | intro _); conv => whnf)
      subst hC
      refine aw_cut _ _ rfl fun C hC => ?_
      conv => whnf
      repeat ((first | (refine aI ?_ ?_; focus exact sI) | refine dI sK ?_ | (refine yI ?_ ?_; focus exact sY) | (refine nI ?_ ?_; focus exact sY) | intro _); conv => whnf)
      try (refine dI sK ?_; conv => whnf)
      first | refine u0 h2 ?_ | refine v0 h2 ?_
      rintro _ _ ⟨rfl, rfl⟩ _
      conv => whnf
      repeat ((first | (refine aI ?_ ?_; focus exact sI) | refine dI sK ?_ | (refine yI ?_ ?_; focus exact sY) | (refine nI ?_ ?_; focus exact sY) | intro _); conv => whnf)
      subst hC
      refine aw_cut _ _ rfl fun C hC => ?_
      conv => whnf
      repeat ((first | (refine aI ?_ ?_; focus exact sI) | refine dI sK ?_ | (refine yI ?_ ?_; focus exact sY) | (refine nI ?_ ?_; focus exact sY) | intro _); conv => whnf)
      subst hC
      refine aw_cut _ _ rfl fun C hC => ?_
      conv => whnf
      repeat ((first | (refine aI ?_ ?_; focus exact sI) | refine dI sK ?_ | (refine yI ?_ ?_; focus exact sY) | (refine nI ?_ ?_; focus exact sY) | intro _); conv => whnf)
      subst hC
      refine aw_cut _ _ rfl fun C hC => ?_
      conv => whnf
      repeat ((first | (refine aI ?_ ?_; focus exact sI) | refine dI sK ?_ | (refine yI ?_ ?_; focus exact sY) | (refine nI ?_ ?_; focus exact sY) | intro _); conv => whnf)
      subst hC
      refine aw_cut _ _ rfl fun C hC => ?_
      conv => whnf
      repeat ((first | (refine aI ?_ ?_; focus exact sI) | refine dI sK ?_ | (refine yI ?_ ?_; focus exact sY) | (refine nI ?_ ?_; focus exact sY) | intro _); conv => whnf)
      try (refine dI sK ?_; conv => whnf)
      first | refine u0 h3 ?_ | refine v0 h3 ?_
      rintro _ _ ⟨rfl, rfl⟩ _
      conv => whnf
      repeat ((first | (refine aI ?_ ?_; focus exact sI) | refine dI sK ?_ | (refine yI ?_ ?_; focus exact sY) | (refine nI ?_ ?_; focus exact sY) | intro _); conv => whnf)
      try (refine dI sK ?_; conv => whnf)
      first | refine u0 h4 ?_ | refine v0 h4 ?_
      rintro _ _ ⟨rfl, rfl⟩ _
      conv => whnf
      repeat ((first | (refine aI ?_ ?_; focus exact sI) | refine dI sK ?_ | (refine yI ?_ ?_; focus exact sY) | (refine nI ?_ ?_; focus exact sY) | intro _); conv => whnf)
      try (refine dI sK ?_; conv => whnf)
      first | refine u0 hpa ?_ | refine v0 hpa ?_
      rintro _ _ ⟨rfl, rfl⟩ _
      conv => whnf
      repeat ((first | (refine aI ?_ ?_; focus exact sI) | refine dI sK ?_ | (refine yI ?_ ?_; focus exact sY) | (refine nI ?_ ?_; focus exact sY) | intro _); conv => whnf)
      subst hC
      conv => whnf
      repeat ((first | (refine aI ?_ ?_; focus exact sI) | refine dI sK ?_ | (refine yI ?_ ?_; focus exact sY) | (refine nI ?_ ?_; focus exact sY) | intro _); conv => whnf)
      try (refine dI sK ?_; conv => whnf)
      first | refine u0 hs ?_ | refine v0 hs ?_
      rintro _ _ ⟨rfl, rfl⟩ _
      conv => whnf
      repeat ((first | (refine aI ?_ ?_; focus exact sI) | refine dI sK ?_ | (refine yI ?_ ?_; focus exact sY) | (refine nI ?_ ?_; focus exact sY) | intro _); conv => whnf)
      try (refine dI sK ?_; conv => whnf)
      first | refine u0 hw ?_ | refine v0 hw ?_
      rintro _ _ ⟨rfl, rfl⟩ _
      conv => whnf
      repeat ((first | (refine aI ?_ ?_; focus exact sI) | refine dI sK ?_ | (refine yI ?_ ?_; focus exact sY) | (refine nI ?_ ?_; focus exact sY) | intro _); conv => whnf)
      all_goals exact sR
    | true =>
      have h5 := cRObject ⟨sig, ms⟩ hK m hm cx a hc hp
      rw [hp] at h1 hpa
      simp only at h1
      generalize objF ⟨sig, ms⟩ m cx a = x at *
      clear hok hl hm hp
      obtain ⟨a1, a2, a3, a4⟩ := a
      obtain ⟨m1, m2, m3, m4⟩ := m
      obtain ⟨v1, v2, v3, v4⟩ := v
      rw [tv_mk] at hpa
      rw [tv_mk, tv_mk] at h1 h2 h4 h5
      rw [tv_mk] at hs
      rw [tv_mk, tv_mk]
      refine call_pure (E := envW6 0) (fn := Tryz.f7) (c := bodyOf Tryz.f7) (envW6_ok 0) mixed sK sK sK sK sK sK rfl ?_
      refine aw_cut _ _ rfl fun C hC => ?_
      conv => whnf
      repeat ((first | (refine aI ?_ ?_; focus exact sI) | refine dI sK ?_ | (refine yI ?_ ?_; focus exact sY) | (refine nI ?_ ?_; focus exact sY) | intro _); conv => whnf)
      subst hC
      refine aw_cut _ _ rfl fun C hC => ?_
      conv => whnf
      repeat ((first | (refine aI ?_ ?_; focus exact sI) | refine dI sK ?_ | (refine yI ?_ ?_; focus exact sY) | (refine nI ?_ ?_; focus exact sY) | intro _); conv => whnf)
      try (refine dI sK ?_; conv => whnf)
      first | refine u0 h1 ?_ | refine v0 h1 ?_
      rintro _ _ ⟨rfl, rfl⟩ _
      conv => whnf
      repeat ((first | (refine aI ?_ ?_; focus exact sI) | refine dI sK ?_ | (refine yI ?_ ?_; focus exact sY) | (refine nI ?_ ?_; focus exact sY) | intro _); conv => whnf)
      subst hC
      refine aw_cut _ _ rfl fun C hC => ?_
      conv => whnf
      repeat ((first | (refine aI ?_ ?_; focus exact sI) | refine dI sK ?_ | (refine yI ?_ ?_; focus exact sY) | (refine nI ?_ ?_; focus exact sY) | intro _); conv => whnf)
      try (refine dI sK ?_; conv => whnf)
      first | refine u0 h2 ?_ | refine v0 h2 ?_
      rintro _ _ ⟨rfl, rfl⟩ _
      conv => whnf
      repeat ((first | (refine aI ?_ ?_; focus exact sI) | refine dI sK ?_ | (refine yI ?_ ?_; focus exact sY) | (refine nI ?_ ?_; focus exact sY) | intro _); conv => whnf)
      subst hC
      refine aw_cut _ _ rfl fun C hC => ?_
      conv => whnf
      repeat ((first | (refine aI ?_ ?_; focus exact sI) | refine dI sK ?_ | (refine yI ?_ ?_; focus exact sY) | (refine nI ?_ ?_; focus exact sY) | intro _); conv => whnf)
      subst hC
      refine aw_cut _ _ rfl fun C hC => ?_
      conv => whnf
      repeat ((first | (refine aI ?_ ?_; focus exact sI) | refine dI sK ?_ | (refine yI ?_ ?_; focus exact sY) | (refine nI ?_ ?_; focus exact sY) | intro _); conv => whnf)
      subst hC
      refine aw_cut _ _ rfl fun C hC => ?_
      conv => whnf
      repeat ((first | (refine aI ?_ ?_; focus exact sI) | refine dI sK ?_ | (refine yI ?_ ?_; focus exact sY) | (refine nI ?_ ?_; focus exact sY) | intro _); conv => whnf)
      subst hC
      refine aw_cut _ _ rfl fun C hC => ?_
      conv => whnf
      repeat ((first | (refine aI ?_ ?_; focus exact sI) | refine dI sK ?_ | (refine yI ?_ ?_; focus exact sY) | (refine nI ?_ ?_; focus exact sY) | intro _); conv => whnf)
      try (refine dI sK ?_; conv => whnf)
      first | refine u0 h3 ?_ | refine v0 h3 ?_
      rintro _ _ ⟨rfl, rfl⟩ _
      conv => whnf
      repeat ((first | (refine aI ?_ ?_; focus exact sI) | refine dI sK ?_ | (refine yI ?_ ?_; focus exact sY) | (refine nI ?_ ?_; focus exact sY) | intro _); conv => whnf)
      try (refine dI sK ?_; conv => whnf)
      first | refine u0 h4 ?_ | refine v0 h4 ?_
      rintro _ _ ⟨rfl, rfl⟩ _
      conv => whnf
      repeat ((first | (refine aI ?_ ?_; focus exact sI) | refine dI sK ?_ | (refine yI ?_ ?_; focus exact sY) | (refine nI ?_ ?_; focus exact sY) | intro _); conv => whnf)
      try (refine dI sK ?_; conv => whnf)
      first | refine u0 hpa ?_ | refine v0 hpa ?_
      rintro _ _ ⟨rfl, rfl⟩ _
      conv => whnf
      repeat ((first | (refine aI ?_ ?_; focus exact sI) | refine dI sK ?_ | (refine yI ?_ ?_; focus exact sY) | (refine nI ?_ ?_; focus exact sY) | intro _); conv => whnf)
      try (refine dI sK ?_; conv => whnf)
      first | refine u0 h5 ?_ | refine v0 h5 ?_
      rintro _ _ ⟨rfl, rfl⟩ _
      conv => whnf
      repeat ((first | (refine aI ?_ ?_; focus exact sI) | refine dI sK ?_ | (refine yI ?_ ?_; focus exact sY) | (refine nI ?_ ?_; focus exact sY) | intro _); conv => whnf)
      subst hC
      conv => whnf
      repeat ((first | (refine aI ?_ ?_; focus exact sI) | refine dI sK ?_ | (refine yI ?_ ?_; focus exact sY) | (refine nI ?_ ?_; focus exact sY) | intro _); conv => whnf)
      try (refine dI sK ?_; conv => whnf)
      first | refine u0 hs ?_ | refine v0 hs ?_
      rintro _ _ ⟨rfl, rfl⟩ _
      conv => whnf
      repeat ((first | (refine aI ?_ ?_; focus exact sI) | refine dI sK ?_ | (refine yI ?_ ?_; focus exact sY) | (refine nI ?_ ?_; focus exact sY) | intro _); conv => whnf)
      try (refine dI sK ?_; conv => whnf)
      first | refine u0 hw ?_ | refine v0 hw ?_
      rintro _ _ ⟨rfl, rfl⟩ _
      conv => whnf
      repeat ((first | (refine aI ?_ ?_; focus exact sI) | refine dI sK ?_ | (refine yI ?_ ?_; focus exact sY) | (refine nI ?_ ?_; focus exact sY) | intro _); conv => whnf)
      all_goals exact sR
set_option maxHeartbeats 1000000 in
theorem cCheckSignatures (sig : List Dcl) (d : Dcl) : CallSt Tryz.prog 9 [.c (.sl 6 72 (dcs sig)), dv d] [] (fun r H' => r = .c (.bool true) ∧ H' = []) := by
  have h1 := cKSignature sig
  have h2 := cKDeclare sig d
  have h3 := cRFormed sig
  have hw := cAwake6
  unfold ksigF at h1
  cases hs : checkB sig with
  | false =>
    rw [hs] at h1 h3
    simp only at h1
    have hE : declE sig d = 2 := by
      unfold declE addE
      rw [hs]
      rfl
    have hF : declF sig d = [] := by
      unfold declF
      rw [hE]
      rfl
    rw [hE, hF, show dcs [] = [] from rfl] at h2
    clear hs hE hF
    obtain ⟨nm, ⟨x1, x2, x3, x4⟩, im⟩ := d
    refine call_pure (E := envW6 0) (fn := Tryz.f9) (c := bodyOf Tryz.f9) (envW6_ok 0) mixed sK sK sK sK sK sK rfl ?_
    refine aw_cut _ _ rfl fun C hC => ?_
    conv => whnf
    repeat ((first | (refine aI ?_ ?_; focus exact sI) | refine dI sK ?_ | (refine yI ?_ ?_; focus exact sY) | (refine nI ?_ ?_; focus exact sY) | intro _); conv => whnf)
    subst hC
    refine aw_cut _ _ rfl fun C hC => ?_
    conv => whnf
    repeat ((first | (refine aI ?_ ?_; focus exact sI) | refine dI sK ?_ | (refine yI ?_ ?_; focus exact sY) | (refine nI ?_ ?_; focus exact sY) | intro _); conv => whnf)
    try (refine dI sK ?_; conv => whnf)
    first | refine u0 h1 ?_ | refine v0 h1 ?_
    rintro _ _ ⟨rfl, rfl⟩ _
    conv => whnf
    repeat ((first | (refine aI ?_ ?_; focus exact sI) | refine dI sK ?_ | (refine yI ?_ ?_; focus exact sY) | (refine nI ?_ ?_; focus exact sY) | intro _); conv => whnf)
    subst hC
    refine aw_cut _ _ rfl fun C hC => ?_
    conv => whnf
    repeat ((first | (refine aI ?_ ?_; focus exact sI) | refine dI sK ?_ | (refine yI ?_ ?_; focus exact sY) | (refine nI ?_ ?_; focus exact sY) | intro _); conv => whnf)
    try (refine dI sK ?_; conv => whnf)
    first | refine u0 h2 ?_ | refine v0 h2 ?_
    rintro _ _ ⟨rfl, rfl⟩ _
    conv => whnf
    repeat ((first | (refine aI ?_ ?_; focus exact sI) | refine dI sK ?_ | (refine yI ?_ ?_; focus exact sY) | (refine nI ?_ ?_; focus exact sY) | intro _); conv => whnf)
    subst hC
    refine aw_cut _ _ rfl fun C hC => ?_
    conv => whnf
    repeat ((first | (refine aI ?_ ?_; focus exact sI) | refine dI sK ?_ | (refine yI ?_ ?_; focus exact sY) | (refine nI ?_ ?_; focus exact sY) | intro _); conv => whnf)
    try (refine dI sK ?_; conv => whnf)
    first | refine u0 h3 ?_ | refine v0 h3 ?_
    rintro _ _ ⟨rfl, rfl⟩ _
    conv => whnf
    repeat ((first | (refine aI ?_ ?_; focus exact sI) | refine dI sK ?_ | (refine yI ?_ ?_; focus exact sY) | (refine nI ?_ ?_; focus exact sY) | intro _); conv => whnf)
    try (refine dI sK ?_; conv => whnf)
    first | refine u0 hw ?_ | refine v0 hw ?_
    rintro _ _ ⟨rfl, rfl⟩ _
    conv => whnf
    subst hC
    repeat ((first | (refine aI ?_ ?_; focus exact sI) | refine dI sK ?_ | (refine yI ?_ ?_; focus exact sY) | (refine nI ?_ ?_; focus exact sY) | intro _); conv => whnf)
    all_goals exact sR
  | true =>
    have h4 := cRSignature sig hs
    have h5 := cRDeclare sig hs d
    have h6 := cRSame (declF sig d)
    rw [hs] at h1 h3
    simp only at h1
    generalize sigF sig 0 sig = V at *
    obtain ⟨v, e⟩ := V
    simp only at h1 h4
    generalize declF sig d = L at *
    generalize declE sig d = z at *
    clear hs
    obtain ⟨nm, ⟨x1, x2, x3, x4⟩, im⟩ := d
    refine call_pure (E := envW6 0) (fn := Tryz.f9) (c := bodyOf Tryz.f9) (envW6_ok 0) mixed sK sK sK sK sK sK rfl ?_
    refine aw_cut _ _ rfl fun C hC => ?_
    conv => whnf
    repeat ((first | (refine aI ?_ ?_; focus exact sI) | refine dI sK ?_ | (refine yI ?_ ?_; focus exact sY) | (refine nI ?_ ?_; focus exact sY) | intro _); conv => whnf)
    subst hC
    refine aw_cut _ _ rfl fun C hC => ?_
    conv => whnf
    repeat ((first | (refine aI ?_ ?_; focus exact sI) | refine dI sK ?_ | (refine yI ?_ ?_; focus exact sY) | (refine nI ?_ ?_; focus exact sY) | intro _); conv => whnf)
    try (refine dI sK ?_; conv => whnf)
    first | refine u0 h1 ?_ | refine v0 h1 ?_
    rintro _ _ ⟨rfl, rfl⟩ _
    conv => whnf
    repeat ((first | (refine aI ?_ ?_; focus exact sI) | refine dI sK ?_ | (refine yI ?_ ?_; focus exact sY) | (refine nI ?_ ?_; focus exact sY) | intro _); conv => whnf)
    subst hC
    refine aw_cut _ _ rfl fun C hC => ?_
    conv => whnf
    repeat ((first | (refine aI ?_ ?_; focus exact sI) | refine dI sK ?_ | (refine yI ?_ ?_; focus exact sY) | (refine nI ?_ ?_; focus exact sY) | intro _); conv => whnf)
    try (refine dI sK ?_; conv => whnf)
    first | refine u0 h2 ?_ | refine v0 h2 ?_
    rintro _ _ ⟨rfl, rfl⟩ _
    conv => whnf
    repeat ((first | (refine aI ?_ ?_; focus exact sI) | refine dI sK ?_ | (refine yI ?_ ?_; focus exact sY) | (refine nI ?_ ?_; focus exact sY) | intro _); conv => whnf)
    subst hC
    refine aw_cut _ _ rfl fun C hC => ?_
    conv => whnf
    repeat ((first | (refine aI ?_ ?_; focus exact sI) | refine dI sK ?_ | (refine yI ?_ ?_; focus exact sY) | (refine nI ?_ ?_; focus exact sY) | intro _); conv => whnf)
    try (refine dI sK ?_; conv => whnf)
    first | refine u0 h3 ?_ | refine v0 h3 ?_
    rintro _ _ ⟨rfl, rfl⟩ _
    conv => whnf
    repeat ((first | (refine aI ?_ ?_; focus exact sI) | refine dI sK ?_ | (refine yI ?_ ?_; focus exact sY) | (refine nI ?_ ?_; focus exact sY) | intro _); conv => whnf)
    subst hC
    conv => whnf
    repeat ((first | (refine aI ?_ ?_; focus exact sI) | refine dI sK ?_ | (refine yI ?_ ?_; focus exact sY) | (refine nI ?_ ?_; focus exact sY) | intro _); conv => whnf)
    try (refine dI sK ?_; conv => whnf)
    first | refine u0 h4 ?_ | refine v0 h4 ?_
    rintro _ _ ⟨rfl, rfl⟩ _
    conv => whnf
    repeat ((first | (refine aI ?_ ?_; focus exact sI) | refine dI sK ?_ | (refine yI ?_ ?_; focus exact sY) | (refine nI ?_ ?_; focus exact sY) | intro _); conv => whnf)
    try (refine dI sK ?_; conv => whnf)
    first | refine u0 h5 ?_ | refine v0 h5 ?_
    rintro _ _ ⟨rfl, rfl⟩ _
    conv => whnf
    repeat ((first | (refine aI ?_ ?_; focus exact sI) | refine dI sK ?_ | (refine yI ?_ ?_; focus exact sY) | (refine nI ?_ ?_; focus exact sY) | intro _); conv => whnf)
    try (refine dI sK ?_; conv => whnf)
    first | refine u0 h6 ?_ | refine v0 h6 ?_
    rintro _ _ ⟨rfl, rfl⟩ _
    conv => whnf
    repeat ((first | (refine aI ?_ ?_; focus exact sI) | refine dI sK ?_ | (refine yI ?_ ?_; focus exact sY) | (refine nI ?_ ?_; focus exact sY) | intro _); conv => whnf)
    try (refine dI sK ?_; conv => whnf)
    first | refine u0 hw ?_ | refine v0 hw ?_
    rintro _ _ ⟨rfl, rfl⟩ _
    conv => whnf
    repeat ((first | (refine aI ?_ ?_; focus exact sI) | refine dI sK ?_ | (refine yI ?_ ?_; focus exact sY) | (refine nI ?_ ?_; focus exact sY) | intro _); conv => whnf)
    all_goals exact sR
end Go.Tr
/- CheckPrefix. -/
namespace Go.Tr
open Go.Proofs
set_option maxHeartbeats 1000000 in
theorem cCheckPrefix (sig : List Dcl) : CallSt Tryz.prog 11 [.c (.sl 6 72 (dcs sig))] [] (fun r H' => r = .c (.bool true) ∧ H' = []) := by
  have h1 := cKSignature sig
  have hw := cAwake6
  have hsl := len_dcs sig
  unfold ksigF at h1
  cases hs : checkB sig with
  | false =>
    rw [hs] at h1
    simp only at h1
    refine call_pure (E := envW6 0) (fn := Tryz.f11) (c := bodyOf Tryz.f11) (envW6_ok 0) mixed sK sK sK sK sK sK rfl ?_
    refine aw_cut _ _ rfl fun C hC => ?_
    conv => whnf
    repeat ((first | (refine aI ?_ ?_; focus exact sI) | refine dI sK ?_ | (refine yI ?_ ?_; focus exact sY) | (refine nI ?_ ?_; focus exact sY) | intro _); conv => whnf)
    subst hC
    refine aw_cut _ _ rfl fun C hC => ?_
    conv => whnf
    repeat ((first | (refine aI ?_ ?_; focus exact sI) | refine dI sK ?_ | (refine yI ?_ ?_; focus exact sY) | (refine nI ?_ ?_; focus exact sY) | intro _); conv => whnf)
    try (refine dI sK ?_; conv => whnf)
    first | refine u0 h1 ?_ | refine v0 h1 ?_
    rintro _ _ ⟨rfl, rfl⟩ _
    conv => whnf
    repeat ((first | (refine aI ?_ ?_; focus exact sI) | refine dI sK ?_ | (refine yI ?_ ?_; focus exact sY) | (refine nI ?_ ?_; focus exact sY) | intro _); conv => whnf)
    subst hC
    refine aw_cut _ _ rfl fun C hC => ?_
    conv => whnf
    repeat ((first | (refine aI ?_ ?_; focus exact sI) | refine dI sK ?_ | (refine yI ?_ ?_; focus exact sY) | (refine nI ?_ ?_; focus exact sY) | intro _); conv => whnf)
    try (refine dI sK ?_; conv => whnf)
    first | refine u0 hw ?_ | refine v0 hw ?_
    rintro _ _ ⟨rfl, rfl⟩ _
    conv => whnf
    subst hC
    repeat ((first | (refine aI ?_ ?_; focus exact sI) | refine dI sK ?_ | (refine yI ?_ ?_; focus exact sY) | (refine nI ?_ ?_; focus exact sY) | intro _); conv => whnf)
    all_goals exact sR
  | true =>
    have hpr := check_prop hs
    have hle := check_len hs
    have h2 := sigF_2 hs sig 0 hpr
    rw [hs] at h1
    simp only at h1
    obtain ⟨A, hA⟩ : ∃ A, A = sigF sig 0 sig := ⟨_, rfl⟩
    rw [← hA] at h1 h2
    obtain ⟨x, e⟩ := A
    simp only at h1 h2
    have e2 : decide (e = 2) = false := decide_eq_false h2
    refine call_pure (E := envW6 0) (fn := Tryz.f11) (c := bodyOf Tryz.f11) (envW6_ok 0) mixed sK sK sK sK sK sK rfl ?_
    refine aw_cut _ _ rfl fun C hC => ?_
    conv => whnf
    repeat ((first | (refine aI ?_ ?_; focus exact sI) | refine dI sK ?_ | (refine yI ?_ ?_; focus exact sY) | (refine nI ?_ ?_; focus exact sY) | intro _); conv => whnf)
    subst hC
    refine aw_cut _ _ rfl fun C hC => ?_
    conv => whnf
    repeat ((first | (refine aI ?_ ?_; focus exact sI) | refine dI sK ?_ | (refine yI ?_ ?_; focus exact sY) | (refine nI ?_ ?_; focus exact sY) | intro _); conv => whnf)
    try (refine dI sK ?_; conv => whnf)
    first | refine u0 h1 ?_ | refine v0 h1 ?_
    rintro _ _ ⟨rfl, rfl⟩ _
    conv => whnf
    repeat ((first | (refine aI ?_ ?_; focus exact sI) | refine dI sK ?_ | (refine yI ?_ ?_; focus exact sY) | (refine nI ?_ ?_; focus exact sY) | intro _); conv => whnf)
    subst hC
    refine aw_cut _ _ rfl fun C hC => ?_
    conv => whnf
    repeat ((first | (refine aI ?_ ?_; focus exact sI) | refine dI sK ?_ | (refine yI ?_ ?_; focus exact sY) | (refine nI ?_ ?_; focus exact sY) | intro _); conv => whnf)
    rw [e2]
    (refine nI ?_ ?_; (focus exact sY); conv => whnf)
    subst hC
    conv => whnf
    repeat ((first | (refine aI ?_ ?_; focus exact sI) | refine dI sK ?_ | (refine yI ?_ ?_; focus exact sY) | (refine nI ?_ ?_; focus exact sY) | intro _); conv => whnf)
    refine loop_intro (fun m tm H => ∃ j : Nat, sig.length = m + j ∧ (x, e) = sigF sig j (sig.drop j) ∧ tm = [(23, .c (.int .i64 (j))), (22, .c (.int .i64 ((dcs sig).length))), (5, .c (.sl 6 72 (dcs (sig.take j)))), (4, .c (.int .i64 (e))), (3, .c (.int .i64 (x))), (0, .c (.sl 6 72 (dcs sig)))] ∧ H = [])
      sig.length _ _ ⟨0, by omega, hA, rfl, rfl⟩ ?_ ?_
    · refine Wk.trans (tm1 := [(23, .c (.int .i64 (0))), (22, .c (.int .i64 ((dcs sig).length))), (5, .nil), (4, .c (.int .i64 (e))), (3, .c (.int .i64 (x))), (0, .c (.sl 6 72 (dcs sig)))]) (H1 := []) (Wk.sl [] rfl trivial ⟨rfl, rfl, rfl, rfl, rfl, rfl, trivial⟩ rfl) ?_
      refine Wk.trans (Wk.niltmp 5 66 6 72 rfl rfl) ?_
      refine Wk.trans (Wk.frz 0 66 6 72 [] rfl rfl) ?_
      refine Wk.trans (Wk.pur 5 0 (.sl 6 72 []) rfl rfl rfl) ?_
      exact Wk.sl [] rfl trivial ⟨rfl, rfl, rfl, rfl, rfl, rfl, trivial⟩ rfl
    rintro m tm H ⟨j, hj, hR, rfl, rfl⟩
    conv => whnf
    repeat ((first | (refine aI ?_ ?_; focus exact sI) | refine dI sK ?_ | (refine yI ?_ ?_; focus exact sY) | (refine nI ?_ ?_; focus exact sY) | intro _); conv => whnf)
    refine ⟨fun hlt => ?_, fun hlt => ?_⟩
    · replace hlt : (j : Int) < (dcs sig).length := of_decide_eq_true hlt
      obtain ⟨d, hd⟩ := get_some (show j < sig.length by omega)
      have hdc := dcs_at hd
      have hD := cKDeclare (sig.take j) d
      have had := add_next hs hd
      have hE : declE (sig.take j) d = claF ⟨sig.take j, []⟩ d.c := by
        unfold declE
        rw [had, if_neg nz0]
      have hF : declE (sig.take j) d = 0 → declF (sig.take j) d = sig.take (j + 1) := fun h => by
        unfold declF
        rw [if_pos h, take_snoc6 hd]
      rw [drop_at hd, sigF, ← hE] at hR
      by_cases he : declE (sig.take j) d ≠ 0
      · rw [if_pos he] at hR
        have ez : decide (declE (sig.take j) d = 0) = false := decide_eq_false he
        generalize declE (sig.take j) d = z at *
        generalize declF (sig.take j) d = L at *
        cases hR
        clear hd
        obtain ⟨nm, ⟨x1, x2, x3, x4⟩, im⟩ := d
        conv => whnf
        repeat ((first | (refine aI ?_ ?_; focus exact sI) | refine dI sK ?_ | (refine yI ?_ ?_; focus exact sY) | (refine nI ?_ ?_; focus exact sY) | intro _); conv => whnf)
        refine ⟨_, ⟨by omega, hdc⟩, ?_⟩
        conv => whnf
        refine ⟨show 6 ≤ 6 by decide, ?_⟩
        conv => whnf
        repeat ((first | (refine aI ?_ ?_; focus exact sI) | refine dI sK ?_ | (refine yI ?_ ?_; focus exact sY) | (refine nI ?_ ?_; focus exact sY) | intro _); conv => whnf)
        try (refine dI sK ?_; conv => whnf)
        first | refine u0 hD ?_ | refine v0 hD ?_
        rintro _ _ ⟨rfl, rfl⟩ _
        conv => whnf
        repeat ((first | (refine aI ?_ ?_; focus exact sI) | refine dI sK ?_ | (refine yI ?_ ?_; focus exact sY) | (refine nI ?_ ?_; focus exact sY) | intro _); conv => whnf)
        rw [ez]
        (refine yI ?_ ?_; (focus exact sY); conv => whnf)
        repeat ((first | (refine aI ?_ ?_; focus exact sI) | refine dI sK ?_ | (refine yI ?_ ?_; focus exact sY) | (refine nI ?_ ?_; focus exact sY) | intro _); conv => whnf)
        try (refine dI sK ?_; conv => whnf)
        first | refine u0 hw ?_ | refine v0 hw ?_
        rintro _ _ ⟨rfl, rfl⟩ _
        conv => whnf
        repeat ((first | (refine aI ?_ ?_; focus exact sI) | refine dI sK ?_ | (refine yI ?_ ?_; focus exact sY) | (refine nI ?_ ?_; focus exact sY) | intro _); conv => whnf)
        all_goals exact sR
      · rw [if_neg he] at hR
        have e0 : declE (sig.take j) d = 0 := by omega
        rw [e0, hF e0] at hD
        clear hF hE he e0 hd
        obtain ⟨nm, ⟨x1, x2, x3, x4⟩, im⟩ := d
        conv => whnf
        repeat ((first | (refine aI ?_ ?_; focus exact sI) | refine dI sK ?_ | (refine yI ?_ ?_; focus exact sY) | (refine nI ?_ ?_; focus exact sY) | intro _); conv => whnf)
        refine ⟨_, ⟨by omega, hdc⟩, ?_⟩
        conv => whnf
        refine ⟨show 6 ≤ 6 by decide, ?_⟩
        conv => whnf
        repeat ((first | (refine aI ?_ ?_; focus exact sI) | refine dI sK ?_ | (refine yI ?_ ?_; focus exact sY) | (refine nI ?_ ?_; focus exact sY) | intro _); conv => whnf)
        try (refine dI sK ?_; conv => whnf)
        first | refine u0 hD ?_ | refine v0 hD ?_
        rintro _ _ ⟨rfl, rfl⟩ _
        conv => whnf
        repeat ((first | (refine aI ?_ ?_; focus exact sI) | refine dI sK ?_ | (refine yI ?_ ?_; focus exact sY) | (refine nI ?_ ?_; focus exact sY) | intro _); conv => whnf)
        exact ⟨m - 1, _, _, by omega, ⟨j + 1, by omega, hR, rfl, rfl⟩, Wk.sl [] rfl trivial ⟨rfl, rfl, rfl, rfl, rfl, rfl, trivial⟩ rfl⟩
    · replace hlt : ¬ (j : Int) < (dcs sig).length := of_decide_eq_false hlt
      obtain rfl : j = sig.length := by omega
      have hsm := cRSame sig
      rw [List.drop_length, sigF, ← hsl] at hR
      rw [List.take_length]
      cases hR
      conv => whnf
      repeat ((first | (refine aI ?_ ?_; focus exact sI) | refine dI sK ?_ | (refine yI ?_ ?_; focus exact sY) | (refine nI ?_ ?_; focus exact sY) | intro _); conv => whnf)
      try (refine dI sK ?_; conv => whnf)
      first | refine u0 hsm ?_ | refine v0 hsm ?_
      rintro _ _ ⟨rfl, rfl⟩ _
      conv => whnf
      repeat ((first | (refine aI ?_ ?_; focus exact sI) | refine dI sK ?_ | (refine yI ?_ ?_; focus exact sY) | (refine nI ?_ ?_; focus exact sY) | intro _); conv => whnf)
      try (refine dI sK ?_; conv => whnf)
      first | refine u0 hw ?_ | refine v0 hw ?_
      rintro _ _ ⟨rfl, rfl⟩ _
      conv => whnf
      repeat ((first | (refine aI ?_ ?_; focus exact sI) | refine dI sK ?_ | (refine yI ?_ ?_; focus exact sY) | (refine nI ?_ ?_; focus exact sY) | intro _); conv => whnf)
      all_goals exact sR
end Go.Tr
/- The laws, for what is handed in. -/
namespace Go.Tr
open Go.Proofs
theorem wCheckObjects (x : Wld) (m a : Term) : CallSt Tryz.prog 7 [wvR x.sig x.ms x.cx, tv m, tv a] [] (fun r H' => r = .c (.bool true) ∧ H' = []) := cCheckObjects x.sig x.ms x.cx m a
end Go.Tr
