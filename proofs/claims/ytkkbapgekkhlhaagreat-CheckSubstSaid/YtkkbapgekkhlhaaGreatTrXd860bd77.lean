/- What each function computes, and the plain laws of it. -/
import Derived.Test.YtkkbapgekkhlhaaGreatTrXc866f6b4
set_option linter.unusedVariables false
set_option linter.unusedSimpArgs false
set_option linter.unnecessarySimpa false
set_option linter.constructorNameAsVariable false
set_option autoImplicit false
/- The program's kernel: good. -/
namespace Go.Tr
open Go.Proofs
theorem cGood1 (t : Term) : CallSt Tryz.prog 76 [tv t] [] (fun r H' => r = .c (.bool (!prop t)) ∧ H' = []) := by
 have h := c14 t
 cases hp : prop t with
 | true =>
  rw [hp] at h
  clear hp
  obtain ⟨k, l, n, ts⟩ := t
  rw [tv_mk] at *
  refine call_pure (E := envC6 0) (fn := Tryz.f76) (c := bodyOf Tryz.f76) (envC6_ok 0) mixed sK sK sK sK sK sK rfl ?_
  conv => whnf
  repeat ((first | (refine aI ?_ ?_; focus exact sI) | refine dI sK ?_ | (refine yI ?_ ?_; focus exact sY) | (refine nI ?_ ?_; focus exact sY) | intro _); conv => whnf)
  try (refine dI sK ?_; conv => whnf)
  first | refine u0 h ?_ | refine v0 h ?_
  rintro _ _ ⟨rfl, rfl⟩ _
  conv => whnf
  repeat ((first | (refine aI ?_ ?_; focus exact sI) | refine dI sK ?_ | (refine yI ?_ ?_; focus exact sY) | (refine nI ?_ ?_; focus exact sY) | intro _); conv => whnf)
  all_goals exact sR
 | false =>
  rw [hp] at h
  clear hp
  obtain ⟨k, l, n, ts⟩ := t
  rw [tv_mk] at *
  refine call_pure (E := envC6 0) (fn := Tryz.f76) (c := bodyOf Tryz.f76) (envC6_ok 0) mixed sK sK sK sK sK sK rfl ?_
  conv => whnf
  repeat ((first | (refine aI ?_ ?_; focus exact sI) | refine dI sK ?_ | (refine yI ?_ ?_; focus exact sY) | (refine nI ?_ ?_; focus exact sY) | intro _); conv => whnf)
  try (refine dI sK ?_; conv => whnf)
  first | refine u0 h ?_ | refine v0 h ?_
  rintro _ _ ⟨rfl, rfl⟩ _
  conv => whnf
  repeat ((first | (refine aI ?_ ?_; focus exact sI) | refine dI sK ?_ | (refine yI ?_ ?_; focus exact sY) | (refine nI ?_ ?_; focus exact sY) | intro _); conv => whnf)
  all_goals exact sR
theorem cIdxG (l : List Term) : CallSt Tryz.prog 103 [.c (.sl 4 48 (tcs l)), .fn 76 []] [] (fun r H' => (∃ v, r = .c (.int .i64 (v)) ∧ (0 ≤ v ↔ l.all prop = false)) ∧ H' = []) := by
 have hll := len_tcs l
 refine call_pure (E := envC6 0) (fn := Tryz.f103) (c := bodyOf Tryz.f103) (envC6_ok 0) mixed sK sK sK sK sK sK rfl ?_
 conv => whnf
 repeat ((first | (refine aI ?_ ?_; focus exact sI) | refine dI sK ?_ | (refine yI ?_ ?_; focus exact sY) | (refine nI ?_ ?_; focus exact sY) | intro _); conv => whnf)
 refine loop_intro (fun m tm H => ∃ j : Nat, l.length = m + j ∧ (∀ (q : Nat) t, q < j → l[q]? = some t → prop t = true) ∧ tm = [(8, .c (.int .i64 (j))), (7, .c (.int .i64 ((tcs l).length))), (1, .fn 76 []), (0, .c (.sl 4 48 (tcs l)))] ∧ H = [])
  l.length _ _ ⟨0, by omega, fun q t h => absurd h (by omega), rfl, rfl⟩ (Wk.sl [] rfl trivial ⟨rfl, rfl, rfl, rfl, trivial⟩ rfl) ?_
 rintro m tm H ⟨j, hj, hall, rfl, rfl⟩
 conv => whnf
 repeat ((first | (refine aI ?_ ?_; focus exact sI) | refine dI sK ?_ | (refine yI ?_ ?_; focus exact sY) | (refine nI ?_ ?_; focus exact sY) | intro _); conv => whnf)
 refine ⟨fun hlt => ?_, fun hlt => ?_⟩
 ·replace hlt : (j : Int) < (tcs l).length := of_decide_eq_true hlt
  obtain ⟨x, hx⟩ := get_some (show j < l.length by omega)
  have hxc := tcs_at l j x hx
  have hg := cGood1 x
  cases hp : prop x with
  | true =>
   rw [hp] at hg
   have hnx : ∀ (q : Nat) t, q < j + 1 → l[q]? = some t → prop t = true := fun q t hq ht => by
    by_cases e : q < j
    ·exact hall q t e ht
    ·obtain rfl : q = j := by omega
     rw [hx] at ht
     injection ht with ht
     exact ht ▸ hp
   clear hp hx
   obtain ⟨x1, x2, x3, x4⟩ := x
   rw [tv_mk] at hg
   conv => whnf
   repeat ((first | (refine aI ?_ ?_; focus exact sI) | refine dI sK ?_ | (refine yI ?_ ?_; focus exact sY) | (refine nI ?_ ?_; focus exact sY) | intro _); conv => whnf)
   refine ⟨_, ⟨by omega, by simpa using hxc⟩, ?_⟩
   conv => whnf
   refine ⟨Nat.le_refl 4, ?_⟩
   conv => whnf
   try (refine dI sK ?_; conv => whnf)
   first | refine u0 hg ?_ | refine v0 hg ?_
   rintro _ _ ⟨rfl, rfl⟩ _
   conv => whnf
   repeat ((first | (refine aI ?_ ?_; focus exact sI) | refine dI sK ?_ | (refine yI ?_ ?_; focus exact sY) | (refine nI ?_ ?_; focus exact sY) | intro _); conv => whnf)
   have hlen : (tcs l).length * 48 ≤ 140737488355328 := ‹gd [] true ((tcs l).length * 48 ≤ 140737488355328)›
   refine ⟨show inR _ by unfold inR; omega, ?_⟩
   conv => whnf
   repeat ((first | (refine aI ?_ ?_; focus exact sI) | refine dI sK ?_ | (refine yI ?_ ?_; focus exact sY) | (refine nI ?_ ?_; focus exact sY) | intro _); conv => whnf)
   exact ⟨m - 1, _, _, by omega, ⟨j + 1, by omega, hnx, rfl, rfl⟩, Wk.sl [] rfl trivial ⟨rfl, rfl, rfl, rfl, trivial⟩ rfl⟩
  | false =>
   rw [hp] at hg
   have e : l.all prop = false := List.all_eq_false.2 ⟨x, List.mem_of_getElem? hx, by rw [hp]; decide⟩
   clear hp hx
   obtain ⟨x1, x2, x3, x4⟩ := x
   rw [tv_mk] at hg
   conv => whnf
   repeat ((first | (refine aI ?_ ?_; focus exact sI) | refine dI sK ?_ | (refine yI ?_ ?_; focus exact sY) | (refine nI ?_ ?_; focus exact sY) | intro _); conv => whnf)
   refine ⟨_, ⟨by omega, by simpa using hxc⟩, ?_⟩
   conv => whnf
   refine ⟨Nat.le_refl 4, ?_⟩
   conv => whnf
   try (refine dI sK ?_; conv => whnf)
   first | refine u0 hg ?_ | refine v0 hg ?_
   rintro _ _ ⟨rfl, rfl⟩ _
   conv => whnf
   repeat ((first | (refine aI ?_ ?_; focus exact sI) | refine dI sK ?_ | (refine yI ?_ ?_; focus exact sY) | (refine nI ?_ ?_; focus exact sY) | intro _); conv => whnf)
   exact ⟨⟨_, rfl, fun _ => e, fun _ => by omega⟩, rfl⟩
 ·replace hlt : ¬ (j : Int) < (tcs l).length := of_decide_eq_false hlt
  have e : l.all prop = true := List.all_eq_true.2 fun t ht => by
   obtain ⟨i, hi⟩ := List.mem_iff_getElem?.1 ht
   exact hall i t (by have := (List.getElem?_eq_some_iff.1 hi).1; omega) hi
  conv => whnf
  repeat ((first | (refine aI ?_ ?_; focus exact sI) | refine dI sK ?_ | (refine yI ?_ ?_; focus exact sY) | (refine nI ?_ ?_; focus exact sY) | intro _); conv => whnf)
  exact ⟨⟨_, rfl, fun h => absurd h (by omega), fun h => by rw [e] at h; cases h⟩, rfl⟩
theorem cAnyG (l : List Term) : CallSt Tryz.prog 74 [.c (.sl 4 48 (tcs l)), .fn 76 []] [] (fun r H' => r = .c (.bool (!l.all prop)) ∧ H' = []) := by
 have h := cIdxG l
 refine call_pure (E := envC6 0) (fn := Tryz.f74) (c := bodyOf Tryz.f74) (envC6_ok 0) mixed sK sK sK sK sK sK rfl ?_
 conv => whnf
 repeat ((first | (refine aI ?_ ?_; focus exact sI) | refine dI sK ?_ | (refine yI ?_ ?_; focus exact sY) | (refine nI ?_ ?_; focus exact sY) | intro _); conv => whnf)
 try (refine dI sK ?_; conv => whnf)
 first | refine u0 h ?_ | refine v0 h ?_
 rintro _ _ ⟨⟨v, rfl, hv⟩, rfl⟩ _
 conv => whnf
 repeat ((first | (refine aI ?_ ?_; focus exact sI) | refine dI sK ?_ | (refine yI ?_ ?_; focus exact sY) | (refine nI ?_ ?_; focus exact sY) | intro _); conv => whnf)
 refine ⟨congrArg (fun z => AV.c (.bool z)) ?_, rfl⟩
 cases hp : l.all prop with
 | true => exact decide_eq_false fun h => by rw [hp] at hv; exact absurd (hv.1 h) (by decide)
 | false => exact decide_eq_true (hv.2 hp)
theorem rws_two (a b : List Term) : rws [a, b] = [[.sl 4 48 (tcs a)], [.sl 4 48 (tcs b)]] := by unfold rws; rfl
theorem cConcat2 (a b : List Term) (ha : a.length ≤ 100000) (hb : b.length ≤ 100000) : CallSt Tryz.prog 75 [.c (.sl 1 24 [[.sl 4 48 (tcs a)], [.sl 4 48 (tcs b)]])] [] (fun r H' => r = .c (.sl 4 48 (tcs (a ++ b))) ∧ H' = []) := by
 have e : [a, b].flatten = a ++ b := by simp
 rw [← rws_two, ← e]
 by_cases h : 0 < [a, b].flatten.length
 ·exact cConcat [a, b] (by simp) (by rw [e, List.length_append]; omega) h
 ·exact cConcat0 [a, b] (by simp) (by omega)
theorem cGood (sig : List Dcl) (ms : List Mta) (cx l : List Term) (hl : l.length ≤ 1000) : CallSt Tryz.prog 45 [.c (.sl 6 72 (dcs sig)), .c (.sl 10 120 (mcs ms)), .c (.sl 4 48 (tcs cx)), .c (.sl 4 48 (tcs l))] [] (fun r H' => r = .c (.bool (okR sig ms cx l)) ∧ H' = []) := by
 have hck := cCheck sig
 have hml := len_mcs ms
 have hcl := len_tcs cx
 have e80 : decide ((80 : Int) < ((mcs ms).length : Int)) = !decide (ms.length ≤ 80) := by by_cases h : ms.length ≤ 80 <;> simp [h] <;> omega
 have e30 : decide ((30 : Int) < ((tcs cx).length : Int)) = !decide (cx.length ≤ 30) := by by_cases h : cx.length ≤ 30 <;> simp [h] <;> omega
 unfold okR metasR
 cases hs : checkB sig with
 | false =>
  rw [hs] at hck
  clear hs
  refine call_pure (E := envN6 0) (fn := Tryz.f45) (c := bodyOf Tryz.f45) (envN6_ok 0) mixed sK sK sK sK sK sK rfl ?_
  refine aw_cut _ _ rfl fun C hC => ?_
  conv => whnf
  repeat ((first | (refine aI ?_ ?_; focus exact sI) | refine dI sK ?_ | (refine yI ?_ ?_; focus exact sY) | (refine nI ?_ ?_; focus exact sY) | intro _); conv => whnf)
  subst hC
  refine aw_cut _ _ rfl fun C hC => ?_
  conv => whnf
  repeat ((first | (refine aI ?_ ?_; focus exact sI) | refine dI sK ?_ | (refine yI ?_ ?_; focus exact sY) | (refine nI ?_ ?_; focus exact sY) | intro _); conv => whnf)
  try (refine dI sK ?_; conv => whnf)
  first | refine u0 hck ?_ | refine v0 hck ?_
  rintro _ _ ⟨rfl, rfl⟩ _
  conv => whnf
  repeat ((first | (refine aI ?_ ?_; focus exact sI) | refine dI sK ?_ | (refine yI ?_ ?_; focus exact sY) | (refine nI ?_ ?_; focus exact sY) | intro _); conv => whnf)
  subst hC
  repeat ((first | (refine aI ?_ ?_; focus exact sI) | refine dI sK ?_ | (refine yI ?_ ?_; focus exact sY) | (refine nI ?_ ?_; focus exact sY) | intro _); conv => whnf)
  all_goals exact sR
 | true =>
  rw [hs] at hck
  clear hs
  by_cases h80 : ms.length ≤ 80
  ·rw [decide_eq_true h80] at e80 ⊢
   by_cases h30 : cx.length ≤ 30
   ·rw [decide_eq_true h30] at e30 ⊢
    have hco := cConcat2 cx l (by omega) (by omega)
    have han := cAnyG (cx ++ l)
    rw [List.all_append] at han
    refine call_pure (E := envN6 0) (fn := Tryz.f45) (c := bodyOf Tryz.f45) (envN6_ok 0) mixed sK sK sK sK sK sK rfl ?_
    refine aw_cut _ _ rfl fun C hC => ?_
    conv => whnf
    repeat ((first | (refine aI ?_ ?_; focus exact sI) | refine dI sK ?_ | (refine yI ?_ ?_; focus exact sY) | (refine nI ?_ ?_; focus exact sY) | intro _); conv => whnf)
    subst hC
    refine aw_cut _ _ rfl fun C hC => ?_
    conv => whnf
    repeat ((first | (refine aI ?_ ?_; focus exact sI) | refine dI sK ?_ | (refine yI ?_ ?_; focus exact sY) | (refine nI ?_ ?_; focus exact sY) | intro _); conv => whnf)
    try (refine dI sK ?_; conv => whnf)
    first | refine u0 hck ?_ | refine v0 hck ?_
    rintro _ _ ⟨rfl, rfl⟩ _
    conv => whnf
    repeat ((first | (refine aI ?_ ?_; focus exact sI) | refine dI sK ?_ | (refine yI ?_ ?_; focus exact sY) | (refine nI ?_ ?_; focus exact sY) | intro _); conv => whnf)
    rw [e80]
    repeat ((first | (refine aI ?_ ?_; focus exact sI) | refine dI sK ?_ | (refine yI ?_ ?_; focus exact sY) | (refine nI ?_ ?_; focus exact sY) | intro _); conv => whnf)
    rw [e30]
    repeat ((first | (refine aI ?_ ?_; focus exact sI) | refine dI sK ?_ | (refine yI ?_ ?_; focus exact sY) | (refine nI ?_ ?_; focus exact sY) | intro _); conv => whnf)
    subst hC
    conv => whnf
    repeat ((first | (refine aI ?_ ?_; focus exact sI) | refine dI sK ?_ | (refine yI ?_ ?_; focus exact sY) | (refine nI ?_ ?_; focus exact sY) | intro _); conv => whnf)
    refine loop_intro (fun m tm H => ∃ j : Nat, ms.length = m + j ∧ (∀ (q : Nat) t, q < j → ms[q]? = some t → metaOk t = true) ∧ tm = [(28, .c (.int .i64 (j))), (27, .c (.int .i64 ((mcs ms).length))), (26, .c (.sl 10 120 (mcs ms))), (3, .c (.sl 4 48 (tcs l))), (2, .c (.sl 4 48 (tcs cx)))] ∧ H = [])
     ms.length _ _ ⟨0, by omega, fun q t h => absurd h (by omega), rfl, rfl⟩ (Wk.sl [] rfl trivial ⟨rfl, rfl, rfl, rfl, rfl, trivial⟩ rfl) ?_
    rintro m tm H ⟨j, hj, hall, rfl, rfl⟩
    conv => whnf
    repeat ((first | (refine aI ?_ ?_; focus exact sI) | refine dI sK ?_ | (refine yI ?_ ?_; focus exact sY) | (refine nI ?_ ?_; focus exact sY) | intro _); conv => whnf)
    refine ⟨fun hlt => ?_, fun hlt => ?_⟩
    ·replace hlt : (j : Int) < (mcs ms).length := of_decide_eq_true hlt
     obtain ⟨u, hu⟩ := get_some (show j < ms.length by omega)
     have huc := mcs_at hu
     have hfr := cFreeP u.cl
     have hno : metaOk u = false → ms.all metaOk = false := fun h => List.all_eq_false.2 ⟨u, List.mem_of_getElem? hu, by rw [h]; decide⟩
     have hnx : metaOk u = true → ∀ (q : Nat) t, q < j + 1 → ms[q]? = some t → metaOk t = true := fun h q t hq ht => by
      by_cases e : q < j
      ·exact hall q t e ht
      ·obtain rfl : q = j := by omega
       rw [hu] at ht
       injection ht with ht
       exact ht ▸ h
     cases hpu : prop u.cl with
     | true =>
      rw [hpu] at hfr
      have hmk : metaOk u = decide (conF 1 u.cl = []) := by unfold metaOk; rw [hpu, Bool.true_and]
      clear hpu hu
      cases hF : conF 1 u.cl with
      | nil =>
       rw [hF] at hmk hfr
       replace hnx := hnx (by rw [hmk]; rfl)
       clear hF hmk hno
       obtain ⟨nm, ⟨c1, c2, c3, c4⟩, so, ⟨v1, v2, v3, v4⟩⟩ := u
       rw [tv_mk] at hfr
       conv => whnf
       repeat ((first | (refine aI ?_ ?_; focus exact sI) | refine dI sK ?_ | (refine yI ?_ ?_; focus exact sY) | (refine nI ?_ ?_; focus exact sY) | intro _); conv => whnf)
       refine ⟨_, ⟨by omega, huc⟩, ?_⟩
       conv => whnf
       refine ⟨show 10 ≤ 10 by decide, ?_⟩
       conv => whnf
       repeat ((first | (refine aI ?_ ?_; focus exact sI) | refine dI sK ?_ | (refine yI ?_ ?_; focus exact sY) | (refine nI ?_ ?_; focus exact sY) | intro _); conv => whnf)
       try (refine dI sK ?_; conv => whnf)
       first | refine u0 hfr ?_ | refine v0 hfr ?_
       rintro _ _ ⟨rfl, rfl⟩ _
       conv => whnf
       repeat ((first | (refine aI ?_ ?_; focus exact sI) | refine dI sK ?_ | (refine yI ?_ ?_; focus exact sY) | (refine nI ?_ ?_; focus exact sY) | intro _); conv => whnf)
       exact ⟨m - 1, _, _, by omega, ⟨j + 1, by omega, hnx, rfl, rfl⟩, Wk.sl [] rfl trivial ⟨rfl, rfl, rfl, rfl, rfl, trivial⟩ rfl⟩
      | cons z zs =>
       rw [hF] at hmk hfr
       replace hno := hno (by rw [hmk]; simp)
       rw [hno]
       have ez : decide ((0 : Int) < ((rowI (z :: zs)).length : Int)) = true := decide_eq_true (by simp [rowI])
       clear hF hmk hnx
       obtain ⟨nm, ⟨c1, c2, c3, c4⟩, so, ⟨v1, v2, v3, v4⟩⟩ := u
       rw [tv_mk] at hfr
       conv => whnf
       repeat ((first | (refine aI ?_ ?_; focus exact sI) | refine dI sK ?_ | (refine yI ?_ ?_; focus exact sY) | (refine nI ?_ ?_; focus exact sY) | intro _); conv => whnf)
       refine ⟨_, ⟨by omega, huc⟩, ?_⟩
       conv => whnf
       refine ⟨show 10 ≤ 10 by decide, ?_⟩
       conv => whnf
       repeat ((first | (refine aI ?_ ?_; focus exact sI) | refine dI sK ?_ | (refine yI ?_ ?_; focus exact sY) | (refine nI ?_ ?_; focus exact sY) | intro _); conv => whnf)
       try (refine dI sK ?_; conv => whnf)
       first | refine u0 hfr ?_ | refine v0 hfr ?_
       rintro _ _ ⟨rfl, rfl⟩ _
       conv => whnf
       repeat ((first | (refine aI ?_ ?_; focus exact sI) | refine dI sK ?_ | (refine yI ?_ ?_; focus exact sY) | (refine nI ?_ ?_; focus exact sY) | intro _); conv => whnf)
       rw [ez]
       (refine ⟨fun _ => ?_, fun h => absurd h (by simp)⟩; conv => whnf)
       repeat ((first | (refine aI ?_ ?_; focus exact sI) | refine dI sK ?_ | (refine yI ?_ ?_; focus exact sY) | (refine nI ?_ ?_; focus exact sY) | intro _); conv => whnf)
       all_goals exact sR
     | false =>
      rw [hpu] at hfr
      rw [hno (by unfold metaOk; rw [hpu]; rfl)]
      clear hpu hu hno hnx
      obtain ⟨nm, ⟨c1, c2, c3, c4⟩, so, ⟨v1, v2, v3, v4⟩⟩ := u
      rw [tv_mk] at hfr
      conv => whnf
      repeat ((first | (refine aI ?_ ?_; focus exact sI) | refine dI sK ?_ | (refine yI ?_ ?_; focus exact sY) | (refine nI ?_ ?_; focus exact sY) | intro _); conv => whnf)
      refine ⟨_, ⟨by omega, huc⟩, ?_⟩
      conv => whnf
      refine ⟨show 10 ≤ 10 by decide, ?_⟩
      conv => whnf
      repeat ((first | (refine aI ?_ ?_; focus exact sI) | refine dI sK ?_ | (refine yI ?_ ?_; focus exact sY) | (refine nI ?_ ?_; focus exact sY) | intro _); conv => whnf)
      try (refine dI sK ?_; conv => whnf)
      first | refine u0 hfr ?_ | refine v0 hfr ?_
      rintro _ _ ⟨rfl, rfl⟩ _
      conv => whnf
      repeat ((first | (refine aI ?_ ?_; focus exact sI) | refine dI sK ?_ | (refine yI ?_ ?_; focus exact sY) | (refine nI ?_ ?_; focus exact sY) | intro _); conv => whnf)
      repeat ((first | (refine aI ?_ ?_; focus exact sI) | refine dI sK ?_ | (refine yI ?_ ?_; focus exact sY) | (refine nI ?_ ?_; focus exact sY) | intro _); conv => whnf)
      all_goals exact sR
    ·replace hlt : ¬ (j : Int) < (mcs ms).length := of_decide_eq_false hlt
     have e : ms.all metaOk = true := List.all_eq_true.2 fun t ht => by
      obtain ⟨i, hi⟩ := List.mem_iff_getElem?.1 ht
      exact hall i t (by have := (List.getElem?_eq_some_iff.1 hi).1; omega) hi
     rw [e]
     conv => whnf
     repeat ((first | (refine aI ?_ ?_; focus exact sI) | refine dI sK ?_ | (refine yI ?_ ?_; focus exact sY) | (refine nI ?_ ?_; focus exact sY) | intro _); conv => whnf)
     try (refine dI sK ?_; conv => whnf)
     first | refine u0 hco ?_ | refine v0 hco ?_
     rintro _ _ ⟨rfl, rfl⟩ _
     conv => whnf
     repeat ((first | (refine aI ?_ ?_; focus exact sI) | refine dI sK ?_ | (refine yI ?_ ?_; focus exact sY) | (refine nI ?_ ?_; focus exact sY) | intro _); conv => whnf)
     try (refine dI sK ?_; conv => whnf)
     first | refine u0 han ?_ | refine v0 han ?_
     rintro _ _ ⟨rfl, rfl⟩ _
     conv => whnf
     repeat ((first | (refine aI ?_ ?_; focus exact sI) | refine dI sK ?_ | (refine yI ?_ ?_; focus exact sY) | (refine nI ?_ ?_; focus exact sY) | intro _); conv => whnf)
     exact ⟨congrArg (fun z => AV.c (.bool z)) (by simp), rfl⟩
   ·rw [decide_eq_false h30] at e30 ⊢
    refine call_pure (E := envN6 0) (fn := Tryz.f45) (c := bodyOf Tryz.f45) (envN6_ok 0) mixed sK sK sK sK sK sK rfl ?_
    refine aw_cut _ _ rfl fun C hC => ?_
    conv => whnf
    repeat ((first | (refine aI ?_ ?_; focus exact sI) | refine dI sK ?_ | (refine yI ?_ ?_; focus exact sY) | (refine nI ?_ ?_; focus exact sY) | intro _); conv => whnf)
    subst hC
    refine aw_cut _ _ rfl fun C hC => ?_
    conv => whnf
    repeat ((first | (refine aI ?_ ?_; focus exact sI) | refine dI sK ?_ | (refine yI ?_ ?_; focus exact sY) | (refine nI ?_ ?_; focus exact sY) | intro _); conv => whnf)
    try (refine dI sK ?_; conv => whnf)
    first | refine u0 hck ?_ | refine v0 hck ?_
    rintro _ _ ⟨rfl, rfl⟩ _
    conv => whnf
    repeat ((first | (refine aI ?_ ?_; focus exact sI) | refine dI sK ?_ | (refine yI ?_ ?_; focus exact sY) | (refine nI ?_ ?_; focus exact sY) | intro _); conv => whnf)
    rw [e80]
    repeat ((first | (refine aI ?_ ?_; focus exact sI) | refine dI sK ?_ | (refine yI ?_ ?_; focus exact sY) | (refine nI ?_ ?_; focus exact sY) | intro _); conv => whnf)
    rw [e30]
    repeat ((first | (refine aI ?_ ?_; focus exact sI) | refine dI sK ?_ | (refine yI ?_ ?_; focus exact sY) | (refine nI ?_ ?_; focus exact sY) | intro _); conv => whnf)
    subst hC
    repeat ((first | (refine aI ?_ ?_; focus exact sI) | refine dI sK ?_ | (refine yI ?_ ?_; focus exact sY) | (refine nI ?_ ?_; focus exact sY) | intro _); conv => whnf)
    exact ⟨congrArg (fun z => AV.c (.bool z)) (by simp), rfl⟩
  ·rw [decide_eq_false h80] at e80 ⊢
   refine call_pure (E := envN6 0) (fn := Tryz.f45) (c := bodyOf Tryz.f45) (envN6_ok 0) mixed sK sK sK sK sK sK rfl ?_
   refine aw_cut _ _ rfl fun C hC => ?_
   conv => whnf
   repeat ((first | (refine aI ?_ ?_; focus exact sI) | refine dI sK ?_ | (refine yI ?_ ?_; focus exact sY) | (refine nI ?_ ?_; focus exact sY) | intro _); conv => whnf)
   subst hC
   refine aw_cut _ _ rfl fun C hC => ?_
   conv => whnf
   repeat ((first | (refine aI ?_ ?_; focus exact sI) | refine dI sK ?_ | (refine yI ?_ ?_; focus exact sY) | (refine nI ?_ ?_; focus exact sY) | intro _); conv => whnf)
   try (refine dI sK ?_; conv => whnf)
   first | refine u0 hck ?_ | refine v0 hck ?_
   rintro _ _ ⟨rfl, rfl⟩ _
   conv => whnf
   repeat ((first | (refine aI ?_ ?_; focus exact sI) | refine dI sK ?_ | (refine yI ?_ ?_; focus exact sY) | (refine nI ?_ ?_; focus exact sY) | intro _); conv => whnf)
   rw [e80]
   repeat ((first | (refine aI ?_ ?_; focus exact sI) | refine dI sK ?_ | (refine yI ?_ ?_; focus exact sY) | (refine nI ?_ ?_; focus exact sY) | intro _); conv => whnf)
   subst hC
   repeat ((first | (refine aI ?_ ?_; focus exact sI) | refine dI sK ?_ | (refine yI ?_ ?_; focus exact sY) | (refine nI ?_ ?_; focus exact sY) | intro _); conv => whnf)
   all_goals exact sR
end Go.Tr
/- The program's kernel: Type, Kind, Object, Infer. -/
namespace Go.Tr
open Go.Proofs
theorem okR_K {sig : List Dcl} {ms : List Mta} {cx l : List Term} (h : okR sig ms cx l = true) : KOk ⟨sig, ms⟩ ∧ COk cx ∧ (∀ t ∈ l, prop t = true) ∧ checkB sig = true := by
 unfold okR at h
 simp only [Bool.and_eq_true, decide_eq_true_eq, List.all_eq_true] at h
 obtain ⟨h1, h2, h3, h4, h5⟩ := h
 unfold metasR at h2
 simp only [Bool.and_eq_true, decide_eq_true_eq, List.all_eq_true] at h2
 have h6 := check_prop h1
 have h7 := check_len h1
 refine ⟨⟨h6, fun m hm => ?_, by simp only; omega, by simp only; omega⟩, ⟨h4, h3⟩, h5, h1⟩
 have := h2.2 m hm
 unfold metaOk at this
 rw [Bool.and_eq_true] at this
 exact this.1
def ktypF (sig : List Dcl) (ms : List Mta) (cx : List Term) (a : Term) : Int := match okR sig ms cx [a] with | true => typF ⟨sig, ms⟩ a cx | false => 2
def kobjF (sig : List Dcl) (ms : List Mta) (cx : List Term) (m a : Term) : Int := match okR sig ms cx [m, a] with | true => objF ⟨sig, ms⟩ m cx a | false => 2
theorem cKType (sig : List Dcl) (ms : List Mta) (cx : List Term) (a : Term) : CallSt Tryz.prog 16 [.c (.sl 6 72 (dcs sig)), .c (.sl 10 120 (mcs ms)), .c (.sl 4 48 (tcs cx)), tv a] [] (fun r H' => r = .c (.int .i64 (ktypF sig ms cx a)) ∧ H' = []) := by
 unfold ktypF
 have hg := cGood sig ms cx [a] (by simp)
 have hov := cOver sig ms
 cases hok : okR sig ms cx [a] with
 | false =>
  rw [hok] at hg
  clear hok
  obtain ⟨a1, a2, a3, a4⟩ := a
  rw [tv_mk]
  refine call_pure (E := envC6 0) (fn := Tryz.f16) (c := bodyOf Tryz.f16) (envC6_ok 0) mixed sK sK sK sK sK sK rfl ?_
  refine aw_cut _ _ rfl fun C hC => ?_
  conv => whnf
  repeat ((first | (refine aI ?_ ?_; focus exact sI) | refine dI sK ?_ | (refine yI ?_ ?_; focus exact sY) | (refine nI ?_ ?_; focus exact sY) | intro _); conv => whnf)
  subst hC
  refine aw_cut _ _ rfl fun C hC => ?_
  conv => whnf
  repeat ((first | (refine aI ?_ ?_; focus exact sI) | refine dI sK ?_ | (refine yI ?_ ?_; focus exact sY) | (refine nI ?_ ?_; focus exact sY) | intro _); conv => whnf)
  try (refine dI sK ?_; conv => whnf)
  first | refine u0 hg ?_ | refine v0 hg ?_
  rintro _ _ ⟨rfl, rfl⟩ _
  conv => whnf
  repeat ((first | (refine aI ?_ ?_; focus exact sI) | refine dI sK ?_ | (refine yI ?_ ?_; focus exact sY) | (refine nI ?_ ?_; focus exact sY) | intro _); conv => whnf)
  subst hC
  repeat ((first | (refine aI ?_ ?_; focus exact sI) | refine dI sK ?_ | (refine yI ?_ ?_; focus exact sY) | (refine nI ?_ ?_; focus exact sY) | intro _); conv => whnf)
  all_goals exact sR
 | true =>
  obtain ⟨hK, hc, hl, _⟩ := okR_K hok
  have ht := cSType ⟨sig, ms⟩ hK a (hl a (by simp)) cx hc
  rw [hok] at hg
  clear hok hl
  obtain ⟨a1, a2, a3, a4⟩ := a
  rw [tv_mk] at ht
  rw [tv_mk]
  refine call_pure (E := envC6 0) (fn := Tryz.f16) (c := bodyOf Tryz.f16) (envC6_ok 0) mixed sK sK sK sK sK sK rfl ?_
  refine aw_cut _ _ rfl fun C hC => ?_
  conv => whnf
  repeat ((first | (refine aI ?_ ?_; focus exact sI) | refine dI sK ?_ | (refine yI ?_ ?_; focus exact sY) | (refine nI ?_ ?_; focus exact sY) | intro _); conv => whnf)
  subst hC
  refine aw_cut _ _ rfl fun C hC => ?_
  conv => whnf
  repeat ((first | (refine aI ?_ ?_; focus exact sI) | refine dI sK ?_ | (refine yI ?_ ?_; focus exact sY) | (refine nI ?_ ?_; focus exact sY) | intro _); conv => whnf)
  try (refine dI sK ?_; conv => whnf)
  first | refine u0 hg ?_ | refine v0 hg ?_
  rintro _ _ ⟨rfl, rfl⟩ _
  conv => whnf
  repeat ((first | (refine aI ?_ ?_; focus exact sI) | refine dI sK ?_ | (refine yI ?_ ?_; focus exact sY) | (refine nI ?_ ?_; focus exact sY) | intro _); conv => whnf)
  subst hC
  conv => whnf
  repeat ((first | (refine aI ?_ ?_; focus exact sI) | refine dI sK ?_ | (refine yI ?_ ?_; focus exact sY) | (refine nI ?_ ?_; focus exact sY) | intro _); conv => whnf)
  try (refine dI sK ?_; conv => whnf)
  first | refine u0 hov ?_ | refine v0 hov ?_
  rintro _ _ ⟨rfl, rfl⟩ _
  conv => whnf
  repeat ((first | (refine aI ?_ ?_; focus exact sI) | refine dI sK ?_ | (refine yI ?_ ?_; focus exact sY) | (refine nI ?_ ?_; focus exact sY) | intro _); conv => whnf)
  try (refine dI sK ?_; conv => whnf)
  first | refine u0 ht ?_ | refine v0 ht ?_
  rintro _ _ ⟨rfl, rfl⟩ _
  conv => whnf
  repeat ((first | (refine aI ?_ ?_; focus exact sI) | refine dI sK ?_ | (refine yI ?_ ?_; focus exact sY) | (refine nI ?_ ?_; focus exact sY) | intro _); conv => whnf)
  all_goals exact sR
theorem cKObject (sig : List Dcl) (ms : List Mta) (cx : List Term) (m a : Term) : CallSt Tryz.prog 15 [.c (.sl 6 72 (dcs sig)), .c (.sl 10 120 (mcs ms)), .c (.sl 4 48 (tcs cx)), tv m, tv a] [] (fun r H' => r = .c (.int .i64 (kobjF sig ms cx m a)) ∧ H' = []) := by
 unfold kobjF
 have hg := cGood sig ms cx [m, a] (by simp)
 have hov := cOver sig ms
 cases hok : okR sig ms cx [m, a] with
 | false =>
  rw [hok] at hg
  clear hok
  obtain ⟨a1, a2, a3, a4⟩ := a
  obtain ⟨m1, m2, m3, m4⟩ := m
  rw [tv_mk, tv_mk]
  refine call_pure (E := envC6 0) (fn := Tryz.f15) (c := bodyOf Tryz.f15) (envC6_ok 0) mixed sK sK sK sK sK sK rfl ?_
  refine aw_cut _ _ rfl fun C hC => ?_
  conv => whnf
  repeat ((first | (refine aI ?_ ?_; focus exact sI) | refine dI sK ?_ | (refine yI ?_ ?_; focus exact sY) | (refine nI ?_ ?_; focus exact sY) | intro _); conv => whnf)
  subst hC
  refine aw_cut _ _ rfl fun C hC => ?_
  conv => whnf
  repeat ((first | (refine aI ?_ ?_; focus exact sI) | refine dI sK ?_ | (refine yI ?_ ?_; focus exact sY) | (refine nI ?_ ?_; focus exact sY) | intro _); conv => whnf)
  try (refine dI sK ?_; conv => whnf)
  first | refine u0 hg ?_ | refine v0 hg ?_
  rintro _ _ ⟨rfl, rfl⟩ _
  conv => whnf
  repeat ((first | (refine aI ?_ ?_; focus exact sI) | refine dI sK ?_ | (refine yI ?_ ?_; focus exact sY) | (refine nI ?_ ?_; focus exact sY) | intro _); conv => whnf)
  subst hC
  repeat ((first | (refine aI ?_ ?_; focus exact sI) | refine dI sK ?_ | (refine yI ?_ ?_; focus exact sY) | (refine nI ?_ ?_; focus exact sY) | intro _); conv => whnf)
  all_goals exact sR
 | true =>
  obtain ⟨hK, hc, hl, _⟩ := okR_K hok
  have ht := cSObject ⟨sig, ms⟩ hK m (hl m (by simp)) cx a hc (hl a (by simp))
  rw [hok] at hg
  clear hok hl
  obtain ⟨a1, a2, a3, a4⟩ := a
  obtain ⟨m1, m2, m3, m4⟩ := m
  rw [tv_mk, tv_mk] at ht
  rw [tv_mk, tv_mk]
  refine call_pure (E := envC6 0) (fn := Tryz.f15) (c := bodyOf Tryz.f15) (envC6_ok 0) mixed sK sK sK sK sK sK rfl ?_
  refine aw_cut _ _ rfl fun C hC => ?_
  conv => whnf
  repeat ((first | (refine aI ?_ ?_; focus exact sI) | refine dI sK ?_ | (refine yI ?_ ?_; focus exact sY) | (refine nI ?_ ?_; focus exact sY) | intro _); conv => whnf)
  subst hC
  refine aw_cut _ _ rfl fun C hC => ?_
  conv => whnf
  repeat ((first | (refine aI ?_ ?_; focus exact sI) | refine dI sK ?_ | (refine yI ?_ ?_; focus exact sY) | (refine nI ?_ ?_; focus exact sY) | intro _); conv => whnf)
  try (refine dI sK ?_; conv => whnf)
  first | refine u0 hg ?_ | refine v0 hg ?_
  rintro _ _ ⟨rfl, rfl⟩ _
  conv => whnf
  repeat ((first | (refine aI ?_ ?_; focus exact sI) | refine dI sK ?_ | (refine yI ?_ ?_; focus exact sY) | (refine nI ?_ ?_; focus exact sY) | intro _); conv => whnf)
  subst hC
  conv => whnf
  repeat ((first | (refine aI ?_ ?_; focus exact sI) | refine dI sK ?_ | (refine yI ?_ ?_; focus exact sY) | (refine nI ?_ ?_; focus exact sY) | intro _); conv => whnf)
  try (refine dI sK ?_; conv => whnf)
  first | refine u0 hov ?_ | refine v0 hov ?_
  rintro _ _ ⟨rfl, rfl⟩ _
  conv => whnf
  repeat ((first | (refine aI ?_ ?_; focus exact sI) | refine dI sK ?_ | (refine yI ?_ ?_; focus exact sY) | (refine nI ?_ ?_; focus exact sY) | intro _); conv => whnf)
  try (refine dI sK ?_; conv => whnf)
  first | refine u0 ht ?_ | refine v0 ht ?_
  rintro _ _ ⟨rfl, rfl⟩ _
  conv => whnf
  repeat ((first | (refine aI ?_ ?_; focus exact sI) | refine dI sK ?_ | (refine yI ?_ ?_; focus exact sY) | (refine nI ?_ ?_; focus exact sY) | intro _); conv => whnf)
  all_goals exact sR
end Go.Tr
/- The program's kernel: Context, class, Signature, Declare. -/
namespace Go.Tr
open Go.Proofs
def kctxF (sig : List Dcl) (ms : List Mta) (cx : List Term) : Int := match okR sig ms cx [] with | true => ctxF ⟨sig, ms⟩ [] cx | false => 2
def ksigF (sig : List Dcl) : Int × Int := match checkB sig with | true => sigF sig 0 sig | false => (0, 2)
theorem cSCla (sig : List Dcl) (hK : KOk ⟨sig, []⟩) (c : Term) (hp : prop c = true) : CallSt Tryz.prog 53 [.c (.sl 6 72 (dcs sig)), tv c] [] (fun r H' => r = .c (.int .i64 (claF ⟨sig, []⟩ c)) ∧ H' = []) := by
 have hs := c68 c 1 (prop_fm1 hp) (by decide)
 have hov := cOver sig []
 have h1 := cSKind ⟨sig, []⟩ hK c hp [] COk.nil
 have h2 := cSType ⟨sig, []⟩ hK c hp [] COk.nil
 rw [show tcs [] = [] by rw [tcs]] at h1 h2
 rw [show mcs [] = [] from rfl] at hov
 unfold claF kindT
 obtain ⟨D, hD⟩ : ∃ D, D = domT c := ⟨_, rfl⟩
 rw [← hD] at hs ⊢
 clear hD
 obtain ⟨D, ⟨d1, d2, d3, d4⟩⟩ := D
 simp only at hs h1 h2 ⊢
 rw [show (Term.mk d1 d2 d3 d4).k = d1 from rfl]
 by_cases hk : d1 = 1
 ·rw [if_pos (decide_eq_true hk)]
  have e1 : decide (d1 = 1) = true := decide_eq_true hk
  obtain ⟨x1, x2, x3, x4⟩ := c
  rw [tv_mk] at hs h1 h2
  rw [tv_mk] at hs
  rw [tv_mk]
  refine call_pure (E := envC6 0) (fn := Tryz.f53) (c := bodyOf Tryz.f53) (envC6_ok 0) mixed sK sK sK sK sK sK rfl ?_
  refine aw_cut _ _ rfl fun C hC => ?_
  conv => whnf
  repeat ((first | (refine aI ?_ ?_; focus exact sI) | refine dI sK ?_ | (refine yI ?_ ?_; focus exact sY) | (refine nI ?_ ?_; focus exact sY) | intro _); conv => whnf)
  subst hC
  refine aw_cut _ _ rfl fun C hC => ?_
  conv => whnf
  repeat ((first | (refine aI ?_ ?_; focus exact sI) | refine dI sK ?_ | (refine yI ?_ ?_; focus exact sY) | (refine nI ?_ ?_; focus exact sY) | intro _); conv => whnf)
  try (refine dI sK ?_; conv => whnf)
  first | refine u0 hov ?_ | refine v0 hov ?_
  rintro _ _ ⟨rfl, rfl⟩ _
  conv => whnf
  repeat ((first | (refine aI ?_ ?_; focus exact sI) | refine dI sK ?_ | (refine yI ?_ ?_; focus exact sY) | (refine nI ?_ ?_; focus exact sY) | intro _); conv => whnf)
  subst hC
  refine aw_cut _ _ rfl fun C hC => ?_
  conv => whnf
  repeat ((first | (refine aI ?_ ?_; focus exact sI) | refine dI sK ?_ | (refine yI ?_ ?_; focus exact sY) | (refine nI ?_ ?_; focus exact sY) | intro _); conv => whnf)
  try (refine dI sK ?_; conv => whnf)
  first | refine u0 hs ?_ | refine v0 hs ?_
  rintro _ _ ⟨rfl, rfl⟩ _
  conv => whnf
  repeat ((first | (refine aI ?_ ?_; focus exact sI) | refine dI sK ?_ | (refine yI ?_ ?_; focus exact sY) | (refine nI ?_ ?_; focus exact sY) | intro _); conv => whnf)
  rw [e1]
  (refine yI ?_ ?_; (focus exact sY); conv => whnf)
  try (refine dI sK ?_; conv => whnf)
  first | refine u0 h1 ?_ | refine v0 h1 ?_
  rintro _ _ ⟨rfl, rfl⟩ _
  conv => whnf
  subst hC
  repeat ((first | (refine aI ?_ ?_; focus exact sI) | refine dI sK ?_ | (refine yI ?_ ?_; focus exact sY) | (refine nI ?_ ?_; focus exact sY) | intro _); conv => whnf)
  all_goals exact sR
 ·have e1 : decide (d1 = 1) = false := decide_eq_false hk
  rw [if_neg (by rw [e1]; decide)]
  obtain ⟨x1, x2, x3, x4⟩ := c
  rw [tv_mk] at hs h1 h2
  rw [tv_mk] at hs
  rw [tv_mk]
  refine call_pure (E := envC6 0) (fn := Tryz.f53) (c := bodyOf Tryz.f53) (envC6_ok 0) mixed sK sK sK sK sK sK rfl ?_
  refine aw_cut _ _ rfl fun C hC => ?_
  conv => whnf
  repeat ((first | (refine aI ?_ ?_; focus exact sI) | refine dI sK ?_ | (refine yI ?_ ?_; focus exact sY) | (refine nI ?_ ?_; focus exact sY) | intro _); conv => whnf)
  subst hC
  refine aw_cut _ _ rfl fun C hC => ?_
  conv => whnf
  repeat ((first | (refine aI ?_ ?_; focus exact sI) | refine dI sK ?_ | (refine yI ?_ ?_; focus exact sY) | (refine nI ?_ ?_; focus exact sY) | intro _); conv => whnf)
  try (refine dI sK ?_; conv => whnf)
  first | refine u0 hov ?_ | refine v0 hov ?_
  rintro _ _ ⟨rfl, rfl⟩ _
  conv => whnf
  repeat ((first | (refine aI ?_ ?_; focus exact sI) | refine dI sK ?_ | (refine yI ?_ ?_; focus exact sY) | (refine nI ?_ ?_; focus exact sY) | intro _); conv => whnf)
  subst hC
  refine aw_cut _ _ rfl fun C hC => ?_
  conv => whnf
  repeat ((first | (refine aI ?_ ?_; focus exact sI) | refine dI sK ?_ | (refine yI ?_ ?_; focus exact sY) | (refine nI ?_ ?_; focus exact sY) | intro _); conv => whnf)
  try (refine dI sK ?_; conv => whnf)
  first | refine u0 hs ?_ | refine v0 hs ?_
  rintro _ _ ⟨rfl, rfl⟩ _
  conv => whnf
  repeat ((first | (refine aI ?_ ?_; focus exact sI) | refine dI sK ?_ | (refine yI ?_ ?_; focus exact sY) | (refine nI ?_ ?_; focus exact sY) | intro _); conv => whnf)
  rw [e1]
  (refine nI ?_ ?_; (focus exact sY); conv => whnf)
  subst hC
  conv => whnf
  repeat ((first | (refine aI ?_ ?_; focus exact sI) | refine dI sK ?_ | (refine yI ?_ ?_; focus exact sY) | (refine nI ?_ ?_; focus exact sY) | intro _); conv => whnf)
  try (refine dI sK ?_; conv => whnf)
  first | refine u0 h2 ?_ | refine v0 h2 ?_
  rintro _ _ ⟨rfl, rfl⟩ _
  conv => whnf
  repeat ((first | (refine aI ?_ ?_; focus exact sI) | refine dI sK ?_ | (refine yI ?_ ?_; focus exact sY) | (refine nI ?_ ?_; focus exact sY) | intro _); conv => whnf)
  all_goals exact sR
theorem cKSignature (sig : List Dcl) : CallSt Tryz.prog 20 [.c (.sl 6 72 (dcs sig))] [] (fun r H' => r = .tup [.c (.int .i64 ((ksigF sig).1)), .c (.int .i64 ((ksigF sig).2))] ∧ H' = []) := by
 unfold ksigF
 have hck := cCheck sig
 have hsl := len_dcs sig
 cases hs : checkB sig with
 | false =>
  rw [hs] at hck
  clear hs
  refine call_pure (E := envC6 0) (fn := Tryz.f20) (c := bodyOf Tryz.f20) (envC6_ok 0) mixed sK sK sK sK sK sK rfl ?_
  refine aw_cut _ _ rfl fun C hC => ?_
  conv => whnf
  repeat ((first | (refine aI ?_ ?_; focus exact sI) | refine dI sK ?_ | (refine yI ?_ ?_; focus exact sY) | (refine nI ?_ ?_; focus exact sY) | intro _); conv => whnf)
  subst hC
  refine aw_cut _ _ rfl fun C hC => ?_
  conv => whnf
  repeat ((first | (refine aI ?_ ?_; focus exact sI) | refine dI sK ?_ | (refine yI ?_ ?_; focus exact sY) | (refine nI ?_ ?_; focus exact sY) | intro _); conv => whnf)
  try (refine dI sK ?_; conv => whnf)
  first | refine u0 hck ?_ | refine v0 hck ?_
  rintro _ _ ⟨rfl, rfl⟩ _
  conv => whnf
  repeat ((first | (refine aI ?_ ?_; focus exact sI) | refine dI sK ?_ | (refine yI ?_ ?_; focus exact sY) | (refine nI ?_ ?_; focus exact sY) | intro _); conv => whnf)
  subst hC
  repeat ((first | (refine aI ?_ ?_; focus exact sI) | refine dI sK ?_ | (refine yI ?_ ?_; focus exact sY) | (refine nI ?_ ?_; focus exact sY) | intro _); conv => whnf)
  all_goals exact sR
 | true =>
  have hpr := check_prop hs
  have hle := check_len hs
  rw [hs] at hck
  obtain ⟨A, hA⟩ : ∃ A, A = sigF sig 0 sig := ⟨_, rfl⟩
  simp only
  rw [← hA]
  refine call_pure (E := envC6 0) (fn := Tryz.f20) (c := bodyOf Tryz.f20) (envC6_ok 0) mixed sK sK sK sK sK sK rfl ?_
  refine aw_cut _ _ rfl fun C hC => ?_
  conv => whnf
  repeat ((first | (refine aI ?_ ?_; focus exact sI) | refine dI sK ?_ | (refine yI ?_ ?_; focus exact sY) | (refine nI ?_ ?_; focus exact sY) | intro _); conv => whnf)
  subst hC
  refine aw_cut _ _ rfl fun C hC => ?_
  conv => whnf
  repeat ((first | (refine aI ?_ ?_; focus exact sI) | refine dI sK ?_ | (refine yI ?_ ?_; focus exact sY) | (refine nI ?_ ?_; focus exact sY) | intro _); conv => whnf)
  try (refine dI sK ?_; conv => whnf)
  first | refine u0 hck ?_ | refine v0 hck ?_
  rintro _ _ ⟨rfl, rfl⟩ _
  conv => whnf
  repeat ((first | (refine aI ?_ ?_; focus exact sI) | refine dI sK ?_ | (refine yI ?_ ?_; focus exact sY) | (refine nI ?_ ?_; focus exact sY) | intro _); conv => whnf)
  subst hC
  conv => whnf
  repeat ((first | (refine aI ?_ ?_; focus exact sI) | refine dI sK ?_ | (refine yI ?_ ?_; focus exact sY) | (refine nI ?_ ?_; focus exact sY) | intro _); conv => whnf)
  refine loop_intro (fun m tm H => ∃ j : Nat, sig.length = m + j ∧ A = sigF sig j (sig.drop j) ∧ tm = [(15, .c (.int .i64 (j))), (14, .c (.int .i64 ((dcs sig).length))), (13, .c (.sl 6 72 (dcs sig))), (0, .c (.sl 6 72 (dcs sig)))] ∧ H = [])
   sig.length _ _ ⟨0, by omega, hA, rfl, rfl⟩ (Wk.sl [] rfl trivial ⟨rfl, rfl, rfl, rfl, trivial⟩ rfl) ?_
  rintro m tm H ⟨j, hj, hR, rfl, rfl⟩
  conv => whnf
  repeat ((first | (refine aI ?_ ?_; focus exact sI) | refine dI sK ?_ | (refine yI ?_ ?_; focus exact sY) | (refine nI ?_ ?_; focus exact sY) | intro _); conv => whnf)
  refine ⟨fun hlt => ?_, fun hlt => ?_⟩
  ·replace hlt : (j : Int) < (dcs sig).length := of_decide_eq_true hlt
   obtain ⟨x, hx⟩ := get_some (show j < sig.length by omega)
   have hxc := dcs_at hx
   have ht := cSCla (sig.take j) (KOk.of hs j) x.c (hpr x (List.mem_of_getElem? hx))
   rw [← dcs_take'] at ht
   rw [drop_at hx, sigF] at hR
   by_cases he : claF ⟨sig.take j, []⟩ x.c ≠ 0
   ·rw [if_pos he] at hR
    have ez : decide (claF ⟨sig.take j, []⟩ x.c = 0) = false := decide_eq_false he
    generalize claF ⟨sig.take j, []⟩ x.c = e at *
    subst hR
    clear hx
    obtain ⟨nm, ⟨x1, x2, x3, x4⟩, im⟩ := x
    rw [tv_mk] at ht
    conv => whnf
    repeat ((first | (refine aI ?_ ?_; focus exact sI) | refine dI sK ?_ | (refine yI ?_ ?_; focus exact sY) | (refine nI ?_ ?_; focus exact sY) | intro _); conv => whnf)
    refine ⟨_, ⟨by omega, hxc⟩, ?_⟩
    conv => whnf
    refine ⟨show 6 ≤ 6 by decide, ?_⟩
    conv => whnf
    repeat ((first | (refine aI ?_ ?_; focus exact sI) | refine dI sK ?_ | (refine yI ?_ ?_; focus exact sY) | (refine nI ?_ ?_; focus exact sY) | intro _); conv => whnf)
    try (refine dI sK ?_; conv => whnf)
    first | refine u0 ht ?_ | refine v0 ht ?_
    rintro _ _ ⟨rfl, rfl⟩ _
    conv => whnf
    repeat ((first | (refine aI ?_ ?_; focus exact sI) | refine dI sK ?_ | (refine yI ?_ ?_; focus exact sY) | (refine nI ?_ ?_; focus exact sY) | intro _); conv => whnf)
    rw [ez]
    (refine yI ?_ ?_; (focus exact sY); conv => whnf)
    repeat ((first | (refine aI ?_ ?_; focus exact sI) | refine dI sK ?_ | (refine yI ?_ ?_; focus exact sY) | (refine nI ?_ ?_; focus exact sY) | intro _); conv => whnf)
    all_goals exact sR
   ·rw [if_neg he] at hR
    have e0 : claF ⟨sig.take j, []⟩ x.c = 0 := by omega
    rw [e0] at ht
    clear he e0 hx
    obtain ⟨nm, ⟨x1, x2, x3, x4⟩, im⟩ := x
    rw [tv_mk] at ht
    conv => whnf
    repeat ((first | (refine aI ?_ ?_; focus exact sI) | refine dI sK ?_ | (refine yI ?_ ?_; focus exact sY) | (refine nI ?_ ?_; focus exact sY) | intro _); conv => whnf)
    refine ⟨_, ⟨by omega, hxc⟩, ?_⟩
    conv => whnf
    refine ⟨show 6 ≤ 6 by decide, ?_⟩
    conv => whnf
    repeat ((first | (refine aI ?_ ?_; focus exact sI) | refine dI sK ?_ | (refine yI ?_ ?_; focus exact sY) | (refine nI ?_ ?_; focus exact sY) | intro _); conv => whnf)
    try (refine dI sK ?_; conv => whnf)
    first | refine u0 ht ?_ | refine v0 ht ?_
    rintro _ _ ⟨rfl, rfl⟩ _
    conv => whnf
    repeat ((first | (refine aI ?_ ?_; focus exact sI) | refine dI sK ?_ | (refine yI ?_ ?_; focus exact sY) | (refine nI ?_ ?_; focus exact sY) | intro _); conv => whnf)
    exact ⟨m - 1, _, _, by omega, ⟨j + 1, by omega, hR, rfl, rfl⟩, Wk.sl [] rfl trivial ⟨rfl, rfl, rfl, rfl, trivial⟩ rfl⟩
  ·replace hlt : ¬ (j : Int) < (dcs sig).length := of_decide_eq_false hlt
   obtain rfl : j = sig.length := by omega
   rw [List.drop_length, sigF, ← hsl] at hR
   subst hR
   conv => whnf
   repeat ((first | (refine aI ?_ ?_; focus exact sI) | refine dI sK ?_ | (refine yI ?_ ?_; focus exact sY) | (refine nI ?_ ?_; focus exact sY) | intro _); conv => whnf)
   all_goals exact sR
end Go.Tr
/- awake of trusslaw06. -/
namespace Go.Tr
open Go.Proofs
def ty6 : Term := .mk 1 0 0 []
def kind6 : Term := pi6 (con6 0 []) (pi6 (con6 0 []) (pi6 (con6 0 []) ty6))
def nat6 : List Dcl := [⟨⟨#[110, 97, 116]⟩, ty6, 0⟩, ⟨⟨#[122]⟩, con6 0 [], 0⟩, ⟨⟨#[115]⟩, pi6 (con6 0 []) (con6 0 []), 0⟩, ⟨⟨#[112, 108, 117, 115]⟩, kind6, 0⟩, ⟨⟨#[112, 122]⟩, pi6 (con6 0 []) (con6 3 [con6 1 [], vr6 0 [], vr6 0 []]), 1⟩]
def one6 : Term := con6 2 [con6 1 []]
theorem cNat6 : CallSt Tryz.prog 41 [] [] (fun r H' => r = .c (.sl 6 72 (dcs nat6)) ∧ H' = []) := by
 have h0 := cCon6 0 []
 have h1 := cCon6 1 []
 have hv := cVr6 0 []
 have h3 := cCon6 3 [con6 1 [], vr6 0 [], vr6 0 []]
 have p1 := cPi6 (con6 0 []) ty6
 have p2 := cPi6 (con6 0 []) (pi6 (con6 0 []) ty6)
 have p3 := cPi6 (con6 0 []) (pi6 (con6 0 []) (pi6 (con6 0 []) ty6))
 have p4 := cPi6 (con6 0 []) (con6 0 [])
 have p5 := cPi6 (con6 0 []) (con6 3 [con6 1 [], vr6 0 [], vr6 0 []])
 refine call_pure (E := envC6 0) (fn := Tryz.f41) (c := bodyOf Tryz.f41) (envC6_ok 0) mixed sK sK sK sK sK sK rfl ?_
 refine aw_cut _ _ rfl fun C hC => ?_
 conv => whnf
 repeat ((first | (refine aI ?_ ?_; focus exact sI) | refine dI sK ?_ | (refine yI ?_ ?_; focus exact sY) | (refine nI ?_ ?_; focus exact sY) | intro _); conv => whnf)
 subst hC
 refine aw_cut _ _ rfl fun C hC => ?_
 conv => whnf
 repeat ((first | (refine aI ?_ ?_; focus exact sI) | refine dI sK ?_ | (refine yI ?_ ?_; focus exact sY) | (refine nI ?_ ?_; focus exact sY) | intro _); conv => whnf)
 try (refine dI sK ?_; conv => whnf)
 first | refine u0 h0 ?_ | refine v0 h0 ?_
 rintro _ _ ⟨rfl, rfl⟩ _
 conv => whnf
 repeat ((first | (refine aI ?_ ?_; focus exact sI) | refine dI sK ?_ | (refine yI ?_ ?_; focus exact sY) | (refine nI ?_ ?_; focus exact sY) | intro _); conv => whnf)
 try (refine dI sK ?_; conv => whnf)
 first | refine u0 h0 ?_ | refine v0 h0 ?_
 rintro _ _ ⟨rfl, rfl⟩ _
 conv => whnf
 repeat ((first | (refine aI ?_ ?_; focus exact sI) | refine dI sK ?_ | (refine yI ?_ ?_; focus exact sY) | (refine nI ?_ ?_; focus exact sY) | intro _); conv => whnf)
 try (refine dI sK ?_; conv => whnf)
 first | refine u0 h0 ?_ | refine v0 h0 ?_
 rintro _ _ ⟨rfl, rfl⟩ _
 conv => whnf
 repeat ((first | (refine aI ?_ ?_; focus exact sI) | refine dI sK ?_ | (refine yI ?_ ?_; focus exact sY) | (refine nI ?_ ?_; focus exact sY) | intro _); conv => whnf)
 try (refine dI sK ?_; conv => whnf)
 first | refine u0 p1 ?_ | refine v0 p1 ?_
 rintro _ _ ⟨rfl, rfl⟩ _
 conv => whnf
 repeat ((first | (refine aI ?_ ?_; focus exact sI) | refine dI sK ?_ | (refine yI ?_ ?_; focus exact sY) | (refine nI ?_ ?_; focus exact sY) | intro _); conv => whnf)
 try (refine dI sK ?_; conv => whnf)
 first | refine u0 p2 ?_ | refine v0 p2 ?_
 rintro _ _ ⟨rfl, rfl⟩ _
 conv => whnf
 repeat ((first | (refine aI ?_ ?_; focus exact sI) | refine dI sK ?_ | (refine yI ?_ ?_; focus exact sY) | (refine nI ?_ ?_; focus exact sY) | intro _); conv => whnf)
 try (refine dI sK ?_; conv => whnf)
 first | refine u0 p3 ?_ | refine v0 p3 ?_
 rintro _ _ ⟨rfl, rfl⟩ _
 conv => whnf
 repeat ((first | (refine aI ?_ ?_; focus exact sI) | refine dI sK ?_ | (refine yI ?_ ?_; focus exact sY) | (refine nI ?_ ?_; focus exact sY) | intro _); conv => whnf)
 subst hC
 conv => whnf
 repeat ((first | (refine aI ?_ ?_; focus exact sI) | refine dI sK ?_ | (refine yI ?_ ?_; focus exact sY) | (refine nI ?_ ?_; focus exact sY) | intro _); conv => whnf)
 try (refine dI sK ?_; conv => whnf)
 first | refine u0 h0 ?_ | refine v0 h0 ?_
 rintro _ _ ⟨rfl, rfl⟩ _
 conv => whnf
 repeat ((first | (refine aI ?_ ?_; focus exact sI) | refine dI sK ?_ | (refine yI ?_ ?_; focus exact sY) | (refine nI ?_ ?_; focus exact sY) | intro _); conv => whnf)
 try (refine dI sK ?_; conv => whnf)
 first | refine u0 h0 ?_ | refine v0 h0 ?_
 rintro _ _ ⟨rfl, rfl⟩ _
 conv => whnf
 repeat ((first | (refine aI ?_ ?_; focus exact sI) | refine dI sK ?_ | (refine yI ?_ ?_; focus exact sY) | (refine nI ?_ ?_; focus exact sY) | intro _); conv => whnf)
 try (refine dI sK ?_; conv => whnf)
 first | refine u0 h0 ?_ | refine v0 h0 ?_
 rintro _ _ ⟨rfl, rfl⟩ _
 conv => whnf
 repeat ((first | (refine aI ?_ ?_; focus exact sI) | refine dI sK ?_ | (refine yI ?_ ?_; focus exact sY) | (refine nI ?_ ?_; focus exact sY) | intro _); conv => whnf)
 try (refine dI sK ?_; conv => whnf)
 first | refine u0 p4 ?_ | refine v0 p4 ?_
 rintro _ _ ⟨rfl, rfl⟩ _
 conv => whnf
 repeat ((first | (refine aI ?_ ?_; focus exact sI) | refine dI sK ?_ | (refine yI ?_ ?_; focus exact sY) | (refine nI ?_ ?_; focus exact sY) | intro _); conv => whnf)
 try (refine dI sK ?_; conv => whnf)
 first | refine u0 h0 ?_ | refine v0 h0 ?_
 rintro _ _ ⟨rfl, rfl⟩ _
 conv => whnf
 repeat ((first | (refine aI ?_ ?_; focus exact sI) | refine dI sK ?_ | (refine yI ?_ ?_; focus exact sY) | (refine nI ?_ ?_; focus exact sY) | intro _); conv => whnf)
 try (refine dI sK ?_; conv => whnf)
 first | refine u0 h1 ?_ | refine v0 h1 ?_
 rintro _ _ ⟨rfl, rfl⟩ _
 conv => whnf
 repeat ((first | (refine aI ?_ ?_; focus exact sI) | refine dI sK ?_ | (refine yI ?_ ?_; focus exact sY) | (refine nI ?_ ?_; focus exact sY) | intro _); conv => whnf)
 try (refine dI sK ?_; conv => whnf)
 first | refine u0 hv ?_ | refine v0 hv ?_
 rintro _ _ ⟨rfl, rfl⟩ _
 conv => whnf
 repeat ((first | (refine aI ?_ ?_; focus exact sI) | refine dI sK ?_ | (refine yI ?_ ?_; focus exact sY) | (refine nI ?_ ?_; focus exact sY) | intro _); conv => whnf)
 try (refine dI sK ?_; conv => whnf)
 first | refine u0 hv ?_ | refine v0 hv ?_
 rintro _ _ ⟨rfl, rfl⟩ _
 conv => whnf
 repeat ((first | (refine aI ?_ ?_; focus exact sI) | refine dI sK ?_ | (refine yI ?_ ?_; focus exact sY) | (refine nI ?_ ?_; focus exact sY) | intro _); conv => whnf)
 try (refine dI sK ?_; conv => whnf)
 first | refine u0 h3 ?_ | refine v0 h3 ?_
 rintro _ _ ⟨rfl, rfl⟩ _
 conv => whnf
 repeat ((first | (refine aI ?_ ?_; focus exact sI) | refine dI sK ?_ | (refine yI ?_ ?_; focus exact sY) | (refine nI ?_ ?_; focus exact sY) | intro _); conv => whnf)
 try (refine dI sK ?_; conv => whnf)
 first | refine u0 p5 ?_ | refine v0 p5 ?_
 rintro _ _ ⟨rfl, rfl⟩ _
 conv => whnf
 repeat ((first | (refine aI ?_ ?_; focus exact sI) | refine dI sK ?_ | (refine yI ?_ ?_; focus exact sY) | (refine nI ?_ ?_; focus exact sY) | intro _); conv => whnf)
 all_goals exact sR
end Go.Tr
/- awake of trusslaw06, the end. -/
namespace Go.Tr
open Go.Proofs
theorem n6_sig : ksigF nat6 = (5, 0) := by kernel_rfl
theorem n6_o1 : kobjF nat6 [] [] (lam6 (con6 2 [vr6 0 []])) (pi6 (con6 0 []) (con6 0 [])) = 0 := by kernel_rfl
theorem n6_o2 : kobjF nat6 [] [] (con6 4 [one6]) (con6 3 [con6 1 [], one6, one6]) = 0 := by kernel_rfl
theorem n6_o3 : kobjF nat6 [] [] (con6 4 [one6]) (con6 3 [con6 1 [], con6 1 [], con6 1 []]) = 24 := by kernel_rfl
theorem n6_t : ktypF nat6 [] [] (con6 3 [con6 1 [], con6 1 []]) = 23 := by kernel_rfl
set_option maxRecDepth 100000 in
set_option maxHeartbeats 1000000 in
theorem cAwake6 : CallSt Tryz.prog 14 [] [] (fun r H' => r = .c (.bool true) ∧ H' = []) := by
 have hn := cNat6
 have c1 := cCon6 1 []
 have c0 := cCon6 0 []
 have v0 := cVr6 0 []
 have hone := cCon6 2 [con6 1 []]
 have hsg := cKSignature nat6
 rw [n6_sig] at hsg
 have s2 := cCon6 2 [vr6 0 []]
 have l2 := cLam6 (con6 2 [vr6 0 []])
 have p2 := cPi6 (con6 0 []) (con6 0 [])
 have o1 := cKObject nat6 [] [] (lam6 (con6 2 [vr6 0 []])) (pi6 (con6 0 []) (con6 0 []))
 rw [n6_o1] at o1
 have c4 := cCon6 4 [one6]
 have c3 := cCon6 3 [con6 1 [], one6, one6]
 have o2 := cKObject nat6 [] [] (con6 4 [one6]) (con6 3 [con6 1 [], one6, one6])
 rw [n6_o2] at o2
 have c3b := cCon6 3 [con6 1 [], con6 1 [], con6 1 []]
 have o3 := cKObject nat6 [] [] (con6 4 [one6]) (con6 3 [con6 1 [], con6 1 [], con6 1 []])
 rw [n6_o3] at o3
 have c3c := cCon6 3 [con6 1 [], con6 1 []]
 have ot := cKType nat6 [] [] (con6 3 [con6 1 [], con6 1 []])
 rw [n6_t] at ot
 rw [show tcs [] = [] by rw [tcs], show mcs [] = [] from rfl] at o1 o2 o3 ot
 refine call_pure (E := envC6 0) (fn := Tryz.f14) (c := bodyOf Tryz.f14) (envC6_ok 0) mixed sK sK sK sK sK sK rfl ?_
 refine aw_cut _ _ rfl fun C hC => ?_
 conv => whnf
 repeat ((first | (refine aI ?_ ?_; focus exact sI) | refine dI sK ?_ | (refine yI ?_ ?_; focus exact sY) | (refine nI ?_ ?_; focus exact sY) | intro _); conv => whnf)
 subst hC
 refine aw_cut _ _ rfl fun C hC => ?_
 conv => whnf
 repeat ((first | (refine aI ?_ ?_; focus exact sI) | refine dI sK ?_ | (refine yI ?_ ?_; focus exact sY) | (refine nI ?_ ?_; focus exact sY) | intro _); conv => whnf)
 try (refine dI sK ?_; conv => whnf)
 first | refine u0 c1 ?_ | refine v0 c1 ?_
 rintro _ _ ⟨rfl, rfl⟩ _
 conv => whnf
 repeat ((first | (refine aI ?_ ?_; focus exact sI) | refine dI sK ?_ | (refine yI ?_ ?_; focus exact sY) | (refine nI ?_ ?_; focus exact sY) | intro _); conv => whnf)
 try (refine dI sK ?_; conv => whnf)
 first | refine u0 hone ?_ | refine v0 hone ?_
 rintro _ _ ⟨rfl, rfl⟩ _
 conv => whnf
 repeat ((first | (refine aI ?_ ?_; focus exact sI) | refine dI sK ?_ | (refine yI ?_ ?_; focus exact sY) | (refine nI ?_ ?_; focus exact sY) | intro _); conv => whnf)
 subst hC
 refine aw_cut _ _ rfl fun C hC => ?_
 conv => whnf
 repeat ((first | (refine aI ?_ ?_; focus exact sI) | refine dI sK ?_ | (refine yI ?_ ?_; focus exact sY) | (refine nI ?_ ?_; focus exact sY) | intro _); conv => whnf)
 try (refine dI sK ?_; conv => whnf)
 first | refine u0 hn ?_ | refine v0 hn ?_
 rintro _ _ ⟨rfl, rfl⟩ _
 conv => whnf
 repeat ((first | (refine aI ?_ ?_; focus exact sI) | refine dI sK ?_ | (refine yI ?_ ?_; focus exact sY) | (refine nI ?_ ?_; focus exact sY) | intro _); conv => whnf)
 try (refine dI sK ?_; conv => whnf)
 first | refine u0 hsg ?_ | refine v0 hsg ?_
 rintro _ _ ⟨rfl, rfl⟩ _
 conv => whnf
 repeat ((first | (refine aI ?_ ?_; focus exact sI) | refine dI sK ?_ | (refine yI ?_ ?_; focus exact sY) | (refine nI ?_ ?_; focus exact sY) | intro _); conv => whnf)
 subst hC
 refine aw_cut _ _ rfl fun C hC => ?_
 conv => whnf
 repeat ((first | (refine aI ?_ ?_; focus exact sI) | refine dI sK ?_ | (refine yI ?_ ?_; focus exact sY) | (refine nI ?_ ?_; focus exact sY) | intro _); conv => whnf)
 try (refine dI sK ?_; conv => whnf)
 first | refine u0 hn ?_ | refine v0 hn ?_
 rintro _ _ ⟨rfl, rfl⟩ _
 conv => whnf
 repeat ((first | (refine aI ?_ ?_; focus exact sI) | refine dI sK ?_ | (refine yI ?_ ?_; focus exact sY) | (refine nI ?_ ?_; focus exact sY) | intro _); conv => whnf)
 try (refine dI sK ?_; conv => whnf)
 first | refine u0 v0 ?_ | refine v0 v0 ?_
 rintro _ _ ⟨rfl, rfl⟩ _
 conv => whnf
 repeat ((first | (refine aI ?_ ?_; focus exact sI) | refine dI sK ?_ | (refine yI ?_ ?_; focus exact sY) | (refine nI ?_ ?_; focus exact sY) | intro _); conv => whnf)
 try (refine dI sK ?_; conv => whnf)
 first | refine u0 s2 ?_ | refine v0 s2 ?_
 rintro _ _ ⟨rfl, rfl⟩ _
 conv => whnf
 repeat ((first | (refine aI ?_ ?_; focus exact sI) | refine dI sK ?_ | (refine yI ?_ ?_; focus exact sY) | (refine nI ?_ ?_; focus exact sY) | intro _); conv => whnf)
 try (refine dI sK ?_; conv => whnf)
 first | refine u0 l2 ?_ | refine v0 l2 ?_
 rintro _ _ ⟨rfl, rfl⟩ _
 conv => whnf
 repeat ((first | (refine aI ?_ ?_; focus exact sI) | refine dI sK ?_ | (refine yI ?_ ?_; focus exact sY) | (refine nI ?_ ?_; focus exact sY) | intro _); conv => whnf)
 try (refine dI sK ?_; conv => whnf)
 first | refine u0 c0 ?_ | refine v0 c0 ?_
 rintro _ _ ⟨rfl, rfl⟩ _
 conv => whnf
 repeat ((first | (refine aI ?_ ?_; focus exact sI) | refine dI sK ?_ | (refine yI ?_ ?_; focus exact sY) | (refine nI ?_ ?_; focus exact sY) | intro _); conv => whnf)
 try (refine dI sK ?_; conv => whnf)
 first | refine u0 c0 ?_ | refine v0 c0 ?_
 rintro _ _ ⟨rfl, rfl⟩ _
 conv => whnf
 repeat ((first | (refine aI ?_ ?_; focus exact sI) | refine dI sK ?_ | (refine yI ?_ ?_; focus exact sY) | (refine nI ?_ ?_; focus exact sY) | intro _); conv => whnf)
 try (refine dI sK ?_; conv => whnf)
 first | refine u0 p2 ?_ | refine v0 p2 ?_
 rintro _ _ ⟨rfl, rfl⟩ _
 conv => whnf
 repeat ((first | (refine aI ?_ ?_; focus exact sI) | refine dI sK ?_ | (refine yI ?_ ?_; focus exact sY) | (refine nI ?_ ?_; focus exact sY) | intro _); conv => whnf)
 try (refine dI sK ?_; conv => whnf)
 first | refine u0 o1 ?_ | refine v0 o1 ?_
 rintro _ _ ⟨rfl, rfl⟩ _
 conv => whnf
 repeat ((first | (refine aI ?_ ?_; focus exact sI) | refine dI sK ?_ | (refine yI ?_ ?_; focus exact sY) | (refine nI ?_ ?_; focus exact sY) | intro _); conv => whnf)
 subst hC
 refine aw_cut _ _ rfl fun C hC => ?_
 conv => whnf
 repeat ((first | (refine aI ?_ ?_; focus exact sI) | refine dI sK ?_ | (refine yI ?_ ?_; focus exact sY) | (refine nI ?_ ?_; focus exact sY) | intro _); conv => whnf)
 (refine And.intro ?_ ?_ <;> conv => whnf)
 all_goals
  repeat ((first | (refine aI ?_ ?_; focus exact sI) | refine dI sK ?_ | (refine yI ?_ ?_; focus exact sY) | (refine nI ?_ ?_; focus exact sY) | intro _); conv => whnf)
  try (refine dI sK ?_; conv => whnf)
  first | refine u0 hn ?_ | refine v0 hn ?_
  rintro _ _ ⟨rfl, rfl⟩ _
  conv => whnf
  repeat ((first | (refine aI ?_ ?_; focus exact sI) | refine dI sK ?_ | (refine yI ?_ ?_; focus exact sY) | (refine nI ?_ ?_; focus exact sY) | intro _); conv => whnf)
  try (refine dI sK ?_; conv => whnf)
  first | refine u0 c4 ?_ | refine v0 c4 ?_
  rintro _ _ ⟨rfl, rfl⟩ _
  conv => whnf
  repeat ((first | (refine aI ?_ ?_; focus exact sI) | refine dI sK ?_ | (refine yI ?_ ?_; focus exact sY) | (refine nI ?_ ?_; focus exact sY) | intro _); conv => whnf)
  try (refine dI sK ?_; conv => whnf)
  first | refine u0 c1 ?_ | refine v0 c1 ?_
  rintro _ _ ⟨rfl, rfl⟩ _
  conv => whnf
  repeat ((first | (refine aI ?_ ?_; focus exact sI) | refine dI sK ?_ | (refine yI ?_ ?_; focus exact sY) | (refine nI ?_ ?_; focus exact sY) | intro _); conv => whnf)
  try (refine dI sK ?_; conv => whnf)
  first | refine u0 c3 ?_ | refine v0 c3 ?_
  rintro _ _ ⟨rfl, rfl⟩ _
  conv => whnf
  repeat ((first | (refine aI ?_ ?_; focus exact sI) | refine dI sK ?_ | (refine yI ?_ ?_; focus exact sY) | (refine nI ?_ ?_; focus exact sY) | intro _); conv => whnf)
  try (refine dI sK ?_; conv => whnf)
  first | refine u0 o2 ?_ | refine v0 o2 ?_
  rintro _ _ ⟨rfl, rfl⟩ _
  conv => whnf
  repeat ((first | (refine aI ?_ ?_; focus exact sI) | refine dI sK ?_ | (refine yI ?_ ?_; focus exact sY) | (refine nI ?_ ?_; focus exact sY) | intro _); conv => whnf)
  subst hC
  refine aw_cut _ _ rfl fun C hC => ?_
  conv => whnf
  repeat ((first | (refine aI ?_ ?_; focus exact sI) | refine dI sK ?_ | (refine yI ?_ ?_; focus exact sY) | (refine nI ?_ ?_; focus exact sY) | intro _); conv => whnf)
  (refine And.intro ?_ ?_ <;> conv => whnf)
  all_goals
   repeat ((first | (refine aI ?_ ?_; focus exact sI) | refine dI sK ?_ | (refine yI ?_ ?_; focus exact sY) | (refine nI ?_ ?_; focus exact sY) | intro _); conv => whnf)
   try (refine dI sK ?_; conv => whnf)
   first | refine u0 hn ?_ | refine v0 hn ?_
   rintro _ _ ⟨rfl, rfl⟩ _
   conv => whnf
   repeat ((first | (refine aI ?_ ?_; focus exact sI) | refine dI sK ?_ | (refine yI ?_ ?_; focus exact sY) | (refine nI ?_ ?_; focus exact sY) | intro _); conv => whnf)
   try (refine dI sK ?_; conv => whnf)
   first | refine u0 c4 ?_ | refine v0 c4 ?_
   rintro _ _ ⟨rfl, rfl⟩ _
   conv => whnf
   repeat ((first | (refine aI ?_ ?_; focus exact sI) | refine dI sK ?_ | (refine yI ?_ ?_; focus exact sY) | (refine nI ?_ ?_; focus exact sY) | intro _); conv => whnf)
   try (refine dI sK ?_; conv => whnf)
   first | refine u0 c1 ?_ | refine v0 c1 ?_
   rintro _ _ ⟨rfl, rfl⟩ _
   conv => whnf
   repeat ((first | (refine aI ?_ ?_; focus exact sI) | refine dI sK ?_ | (refine yI ?_ ?_; focus exact sY) | (refine nI ?_ ?_; focus exact sY) | intro _); conv => whnf)
   try (refine dI sK ?_; conv => whnf)
   first | refine u0 c1 ?_ | refine v0 c1 ?_
   rintro _ _ ⟨rfl, rfl⟩ _
   conv => whnf
   repeat ((first | (refine aI ?_ ?_; focus exact sI) | refine dI sK ?_ | (refine yI ?_ ?_; focus exact sY) | (refine nI ?_ ?_; focus exact sY) | intro _); conv => whnf)
   try (refine dI sK ?_; conv => whnf)
   first | refine u0 c1 ?_ | refine v0 c1 ?_
   rintro _ _ ⟨rfl, rfl⟩ _
   conv => whnf
   repeat ((first | (refine aI ?_ ?_; focus exact sI) | refine dI sK ?_ | (refine yI ?_ ?_; focus exact sY) | (refine nI ?_ ?_; focus exact sY) | intro _); conv => whnf)
   try (refine dI sK ?_; conv => whnf)
   first | refine u0 c3b ?_ | refine v0 c3b ?_
   rintro _ _ ⟨rfl, rfl⟩ _
   conv => whnf
   repeat ((first | (refine aI ?_ ?_; focus exact sI) | refine dI sK ?_ | (refine yI ?_ ?_; focus exact sY) | (refine nI ?_ ?_; focus exact sY) | intro _); conv => whnf)
   try (refine dI sK ?_; conv => whnf)
   first | refine u0 o3 ?_ | refine v0 o3 ?_
   rintro _ _ ⟨rfl, rfl⟩ _
   conv => whnf
   repeat ((first | (refine aI ?_ ?_; focus exact sI) | refine dI sK ?_ | (refine yI ?_ ?_; focus exact sY) | (refine nI ?_ ?_; focus exact sY) | intro _); conv => whnf)
   subst hC
   refine aw_cut _ _ rfl fun C hC => ?_
   conv => whnf
   repeat ((first | (refine aI ?_ ?_; focus exact sI) | refine dI sK ?_ | (refine yI ?_ ?_; focus exact sY) | (refine nI ?_ ?_; focus exact sY) | intro _); conv => whnf)
   try (refine dI sK ?_; conv => whnf)
   first | refine u0 hn ?_ | refine v0 hn ?_
   rintro _ _ ⟨rfl, rfl⟩ _
   conv => whnf
   repeat ((first | (refine aI ?_ ?_; focus exact sI) | refine dI sK ?_ | (refine yI ?_ ?_; focus exact sY) | (refine nI ?_ ?_; focus exact sY) | intro _); conv => whnf)
   try (refine dI sK ?_; conv => whnf)
   first | refine u0 c1 ?_ | refine v0 c1 ?_
   rintro _ _ ⟨rfl, rfl⟩ _
   conv => whnf
   repeat ((first | (refine aI ?_ ?_; focus exact sI) | refine dI sK ?_ | (refine yI ?_ ?_; focus exact sY) | (refine nI ?_ ?_; focus exact sY) | intro _); conv => whnf)
   try (refine dI sK ?_; conv => whnf)
   first | refine u0 c1 ?_ | refine v0 c1 ?_
   rintro _ _ ⟨rfl, rfl⟩ _
   conv => whnf
   repeat ((first | (refine aI ?_ ?_; focus exact sI) | refine dI sK ?_ | (refine yI ?_ ?_; focus exact sY) | (refine nI ?_ ?_; focus exact sY) | intro _); conv => whnf)
   try (refine dI sK ?_; conv => whnf)
   first | refine u0 c3c ?_ | refine v0 c3c ?_
   rintro _ _ ⟨rfl, rfl⟩ _
   conv => whnf
   repeat ((first | (refine aI ?_ ?_; focus exact sI) | refine dI sK ?_ | (refine yI ?_ ?_; focus exact sY) | (refine nI ?_ ?_; focus exact sY) | intro _); conv => whnf)
   try (refine dI sK ?_; conv => whnf)
   first | refine u0 ot ?_ | refine v0 ot ?_
   rintro _ _ ⟨rfl, rfl⟩ _
   conv => whnf
   repeat ((first | (refine aI ?_ ?_; focus exact sI) | refine dI sK ?_ | (refine yI ?_ ?_; focus exact sY) | (refine nI ?_ ?_; focus exact sY) | intro _); conv => whnf)
   subst hC
   conv => whnf
   repeat ((first | (refine aI ?_ ?_; focus exact sI) | refine dI sK ?_ | (refine yI ?_ ?_; focus exact sY) | (refine nI ?_ ?_; focus exact sY) | intro _); conv => whnf)
 all_goals (first | rfl | exact ⟨rfl, rfl⟩ | exact congrArg (fun z => AV.c (.bool z)) (by decide))
end Go.Tr
/- CheckTypes, CheckContexts. -/
namespace Go.Tr
open Go.Proofs
def tabW6 : List (Nat × TyD) := [
 (26, ⟨3, 72, .struct [(0, 22), (1, 23), (2, 24)], [.slice none 0 0, .slice none 0 0, .slice none 0 0], [22, 23, 24]⟩),
 (54, ⟨2, 48, .struct [(0, 22), (1, 23)], [.slice none 0 0, .slice none 0 0], [22, 23]⟩),
 (30, ⟨17, 200, .struct [(0, 3), (1, 28), (5, 28), (9, 28), (13, 28)], [.int .i64 0, .int .i64 0, .int .i64 0, .int .i64 0, .slice none 0 0, .int .i64 0, .int .i64 0, .int .i64 0, .slice none 0 0, .int .i64 0, .int .i64 0, .int .i64 0, .slice none 0 0, .int .i64 0, .int .i64 0, .int .i64 0, .slice none 0 0], [3, 3, 3, 3, 24, 3, 3, 3, 24, 3, 3, 3, 24, 3, 3, 3, 24]⟩),
 (34, ⟨1, 8, .int .u64, [.int .u64 0], [34]⟩),
 (22, ⟨1, 24, .slice 66, [.slice none 0 0], [22]⟩),
 (23, ⟨1, 24, .slice 110, [.slice none 0 0], [23]⟩),
 (24, ⟨1, 24, .slice 28, [.slice none 0 0], [24]⟩),
 (3, ⟨1, 8, .int .i64, [.int .i64 0], [3]⟩),
 (28, ⟨4, 48, .struct [(0, 3), (1, 3), (2, 3), (3, 24)], [.int .i64 0, .int .i64 0, .int .i64 0, .slice none 0 0], [3, 3, 3, 24]⟩),
 (66, ⟨6, 72, .struct [(0, 9), (1, 28), (5, 3)], [.string ⟨#[]⟩, .int .i64 0, .int .i64 0, .int .i64 0, .slice none 0 0, .int .i64 0], [9, 3, 3, 3, 24, 3]⟩),
 (110, ⟨10, 120, .struct [(0, 9), (1, 28), (5, 4), (6, 28)], [.string ⟨#[]⟩, .int .i64 0, .int .i64 0, .int .i64 0, .slice none 0 0, .bool false, .int .i64 0, .int .i64 0, .int .i64 0, .slice none 0 0], [9, 3, 3, 3, 24, 4, 3, 3, 3, 24]⟩),
 (9, ⟨1, 16, .str, [.string ⟨#[]⟩], [9]⟩),
 (4, ⟨1, 1, .bool, [.bool false], [4]⟩)] ++ tabC6
def envW6 (n : Nat) : Env := ⟨lkT tabW6, keep, n, false, false, none, mthC⟩
theorem envW6_ok (n : Nat) : EnvOk Tryz.prog (envW6 n) := EnvOk.of (l := tabW6) rfl (by kernel_rfl)
abbrev wvR (sig : List Dcl) (ms : List Mta) (cx : List Term) : AV := .agg [.c (.sl 6 72 (dcs sig)), .c (.sl 10 120 (mcs ms)), .c (.sl 4 48 (tcs cx))]
end Go.Tr
/- What is handed in: worlds, and what is put. -/
namespace Go.Tr
open Go.Proofs
theorem tcs_map6 : ∀ ts : List Term, tcs ts = ts.map tc
 | [] => rfl
 | t :: r => by rw [tcs, tcs_map6 r]; rfl
theorem sh6_term : ∀ (n : Nat) {xs : List CV}, Sh (lkT tabW6) n 28 xs → ∃ t, xs = tc t := by
 intro n
 induction n using Nat.strongRecOn with
 | _ n ih =>
 intro xs h
 obtain ⟨m, rfl, a, b, rfl, h0, c, d, rfl, h1, e, f, rfl, h2, g, i, rfl, h3, rfl⟩ := sh_struct (fs := [(0, 3), (1, 3), (2, 3), (3, 24)]) rfl h
 obtain ⟨k, rfl, _⟩ := sh_int (k := .i64) rfl h0
 obtain ⟨l, rfl, _⟩ := sh_int (k := .i64) rfl h1
 obtain ⟨n, rfl, _⟩ := sh_int (k := .i64) rfl h2
 obtain ⟨m2, es, rfl, rfl, _, h4⟩ := sh_slice (e := 28) rfl h3
 obtain ⟨ts, rfl⟩ := map_choose (f := tc) es fun r hr => ih m2 (by omega) (h4 r hr)
 exact ⟨.mk k l n ts, by rw [← tcs_map6]; rfl⟩
theorem sh6_decl : ∀ (n : Nat) {xs : List CV}, Sh (lkT tabW6) n 66 xs → ∃ d, xs = dc d := by
 intro n xs h
 obtain ⟨m, rfl, a, b, rfl, h0, c, d, rfl, h1, e, f, rfl, h2, rfl⟩ := sh_struct (fs := [(0, 9), (1, 28), (5, 3)]) rfl h
 obtain ⟨s, rfl, _⟩ := sh_str rfl h0
 obtain ⟨t, rfl⟩ := sh6_term m h1
 obtain ⟨i, rfl, _⟩ := sh_int (k := .i64) rfl h2
 obtain ⟨k, l, x, ts⟩ := t
 exact ⟨⟨s, ⟨k, l, x, ts⟩, i⟩, rfl⟩
theorem sh6_meta : ∀ (n : Nat) {xs : List CV}, Sh (lkT tabW6) n 110 xs → ∃ d, xs = mc d := by
 intro n xs h
 obtain ⟨m, rfl, a, b, rfl, h0, c, d, rfl, h1, e, f, rfl, h2, g, i, rfl, h3, rfl⟩ := sh_struct (fs := [(0, 9), (1, 28), (5, 4), (6, 28)]) rfl h
 obtain ⟨s, rfl, _⟩ := sh_str rfl h0
 obtain ⟨t, rfl⟩ := sh6_term m h1
 obtain ⟨z, rfl⟩ := sh_bool rfl h2
 obtain ⟨u, rfl⟩ := sh6_term m h3
 obtain ⟨k, l, x, ts⟩ := t
 obtain ⟨k2, l2, x2, us⟩ := u
 exact ⟨⟨s, ⟨k, l, x, ts⟩, z, ⟨k2, l2, x2, us⟩⟩, rfl⟩
theorem sh6_sig {n : Nat} {xs : List CV} (h : Sh (lkT tabW6) n 22 xs) : ∃ l : List Dcl, xs = [.sl 6 72 (dcs l)] := by
 obtain ⟨m2, es, rfl, rfl, h5, h4⟩ := sh_slice (e := 66) rfl h
 obtain ⟨l, rfl⟩ := map_choose (f := dc) es fun r hr => sh6_decl m2 (h4 r hr)
 exact ⟨l, rfl⟩
theorem sh6_metas {n : Nat} {xs : List CV} (h : Sh (lkT tabW6) n 23 xs) : ∃ l : List Mta, xs = [.sl 10 120 (mcs l)] := by
 obtain ⟨m2, es, rfl, rfl, h5, h4⟩ := sh_slice (e := 110) rfl h
 obtain ⟨l, rfl⟩ := map_choose (f := mc) es fun r hr => sh6_meta m2 (h4 r hr)
 exact ⟨l, rfl⟩
theorem sh6_terms {n : Nat} {xs : List CV} (h : Sh (lkT tabW6) n 24 xs) : ∃ ts : List Term, xs = [.sl 4 48 (tcs ts)] := by
 obtain ⟨m2, es, rfl, rfl, h5, h4⟩ := sh_slice (e := 28) rfl h
 obtain ⟨ts, rfl⟩ := map_choose (f := tc) es fun r hr => sh6_term m2 (h4 r hr)
 exact ⟨ts, by rw [← tcs_map6]; rfl⟩
structure Wld where
 sig : List Dcl
 ms : List Mta
 cx : List Term
def wldC (x : Wld) : List CV := [.sl 6 72 (dcs x.sig), .sl 10 120 (mcs x.ms), .sl 4 48 (tcs x.cx)]
theorem sh6_world : ∀ (n : Nat) {xs : List CV}, Sh (lkT tabW6) n 26 xs → ∃ d, xs = wldC d := by
 intro n xs h
 obtain ⟨m, rfl, a, b, rfl, h0, c, d, rfl, h1, e, f, rfl, h2, rfl⟩ := sh_struct (fs := [(0, 22), (1, 23), (2, 24)]) rfl h
 obtain ⟨S, rfl⟩ := sh6_sig h0
 obtain ⟨M, rfl⟩ := sh6_metas h1
 obtain ⟨X, rfl⟩ := sh6_terms h2
 exact ⟨⟨S, M, X⟩, rfl⟩
structure Ptt where
 nn : Int
 mm : Term
 aa : Term
 ss : Term
 bb : Term
def pttC (x : Ptt) : List CV := .int .i64 x.nn :: (tc x.mm ++ (tc x.aa ++ (tc x.ss ++ tc x.bb)))
def pttV (x : Ptt) : AV := .agg [.c (.int .i64 (x.nn)), .c (.int .i64 (x.mm.k)), .c (.int .i64 (x.mm.l)), .c (.int .i64 (x.mm.n)), .c (.sl 4 48 (tcs x.mm.ts)), .c (.int .i64 (x.aa.k)), .c (.int .i64 (x.aa.l)), .c (.int .i64 (x.aa.n)), .c (.sl 4 48 (tcs x.aa.ts)), .c (.int .i64 (x.ss.k)), .c (.int .i64 (x.ss.l)), .c (.int .i64 (x.ss.n)), .c (.sl 4 48 (tcs x.ss.ts)), .c (.int .i64 (x.bb.k)), .c (.int .i64 (x.bb.l)), .c (.int .i64 (x.bb.n)), .c (.sl 4 48 (tcs x.bb.ts))]
theorem ptt_av (k : List (Nat × TypeId)) (x : Ptt) : avOf (.struct k) (pttC x) = pttV x := by obtain ⟨n, ⟨_, _, _, _⟩, ⟨_, _, _, _⟩, ⟨_, _, _, _⟩, ⟨_, _, _, _⟩⟩ := x; rfl
theorem sh6_put : ∀ (n : Nat) {xs : List CV}, Sh (lkT tabW6) n 30 xs → ∃ d, xs = pttC d ∧ inR d.nn := by
 intro n xs h
 obtain ⟨m, rfl, a, b, rfl, h0, c, d, rfl, h1, e, f, rfl, h2, g, i, rfl, h3, p, q, rfl, h4, rfl⟩ := sh_struct (fs := [(0, 3), (1, 28), (5, 28), (9, 28), (13, 28)]) rfl h
 obtain ⟨z, rfl, hz⟩ := sh_int (k := .i64) rfl h0
 obtain ⟨t1, rfl⟩ := sh6_term _ h1
 obtain ⟨t2, rfl⟩ := sh6_term _ h2
 obtain ⟨t3, rfl⟩ := sh6_term _ h3
 obtain ⟨t4, rfl⟩ := sh6_term _ h4
 exact ⟨⟨z, t1, t2, t3, t4⟩, by simp [pttC], wf_in hz⟩
def argTypesH : List TypeId := [3, 4, 9, 24, 28, 66, 22, 110, 23, 26, 30]
theorem arg_okH : argTypesH.all (cl1 (lkT tabW6) argTypesH) = true := by decide
section
variable {H : Type} {enc : TypeId × Value → H} {W : World} {base : Nat} {v : Value} {d : DataW H} {ps : List MemPlace}
set_option maxRecDepth 100000 in
theorem arg_world (hval : Value.okWide Tryz.prog W .any base 26 v) (h : DataW.Trod enc Tryz.prog W 0 (fun _ => true) true 26 v d ps)
  (hw : ∀ n ∈ d.weights Tryz.prog 26, n ≤ reachBytes) : ∃ x : Wld, AVR W.heap noS (fun _ => .none) (wvR x.sig x.ms x.cx) v := by
 obtain ⟨fuel, xs, hs, a⟩ := open_arg (envW6_ok 0) arg_okH (by decide) hval h hw
 obtain ⟨x, rfl⟩ := sh6_world fuel hs
 exact ⟨x, a⟩
set_option maxRecDepth 100000 in
theorem arg_put (hval : Value.okWide Tryz.prog W .any base 30 v) (h : DataW.Trod enc Tryz.prog W 0 (fun _ => true) true 30 v d ps)
  (hw : ∀ n ∈ d.weights Tryz.prog 30, n ≤ reachBytes) : ∃ x : Ptt, AVR W.heap noS (fun _ => .none) (pttV x) v ∧ inR x.nn := by
 obtain ⟨fuel, xs, hs, a⟩ := open_arg (envW6_ok 0) arg_okH (by decide) hval h hw
 obtain ⟨x, rfl, hx⟩ := sh6_put fuel hs
 exact ⟨x, by rw [← ptt_av [(0, 3), (1, 28), (5, 28), (9, 28), (13, 28)]]; exact a, hx⟩
end
end Go.Tr
/- Signatures: what is formed, told by positions; chosen constants. -/
namespace Go.Tr
open Go.Proofs
def okAt (sig : List Dcl) (n : Nat) (d : Dcl) : Prop :=
 prop d.c = true ∧ nameF d.s = true ∧ 0 ≤ d.i ∧ d.i ≤ (domT d.c).1.length ∧ nodesT n d.c 0 = true ∧ (kindT d.c = true ∨ (targOk d.c = true ∧ kindAt sig (domT d.c).2.n = true))
theorem kindAt_take {sig : List Dcl} {n : Nat} {x : Int} (h0 : 0 ≤ x) (h : x < n) : kindAt (sig.take n) x = kindAt sig x := by
 unfold kindAt
 rw [List.getElem?_take, if_pos (by omega)]
theorem formed_iff {sig : List Dcl} {n : Nat} {d : Dcl} (hd : sig[n]? = some d) : formedF (sig.take n) d = true ↔ okAt sig n d := by
 have hlt := (List.getElem?_eq_some_iff.1 hd).1
 have hlen : (sig.take n).length = n := by rw [List.length_take]; omega
 unfold formedF okAt
 rw [hlen]
 simp only [Bool.and_eq_true, Bool.or_eq_true, decide_eq_true_eq]
 constructor
 ·rintro ⟨⟨⟨⟨h1, h2⟩, h3⟩, h4, h5⟩, h6⟩
  refine ⟨h1, h2, h3, h4, h5, h6.imp id fun h => ⟨h.1, ?_⟩⟩
  rw [← kindAt_take (targ_pos h1 h.1) (nodes_targ h5 h.1)]
  exact h.2
 ·rintro ⟨h1, h2, h3, h4, h5, h6⟩
  refine ⟨⟨⟨⟨h1, h2⟩, h3⟩, h4, h5⟩, h6.imp id fun h => ⟨h.1, ?_⟩⟩
  rw [kindAt_take (targ_pos h1 h.1) (nodes_targ h5 h.1)]
  exact h.2
theorem nameIn_iff (l : List Dcl) (s : ByteArray) : nameIn l s = true ↔ ∃ e ∈ l, e.s = s := by
 unfold nameIn
 rw [List.any_eq_true]
 simp
theorem check_iff (sig : List Dcl) : checkB sig = true ↔ sig.length ≤ 100 ∧ (∀ (i j : Nat) d e, i < j → sig[i]? = some d → sig[j]? = some e → d.s ≠ e.s) ∧ ∀ (n : Nat) d, sig[n]? = some d → okAt sig n d := by
 constructor
 ·intro h
  refine ⟨check_len h, fun i j d e hij hi hj he => ?_, fun n d hd => ?_⟩
  ·have hg := check_good h j (List.getElem?_eq_some_iff.1 hj).1
   rw [good_formed sig hj] at hg
   unfold formedR at hg
   rw [Bool.and_eq_true, Bool.not_eq_true'] at hg
   have : nameIn (sig.take j) e.s = true := (nameIn_iff _ _).2 ⟨d, List.mem_of_getElem? (i := i) (by rw [List.getElem?_take, if_pos hij]; exact hi), he⟩
   rw [this] at hg
   cases hg.1
  ·have hg := check_good h n (List.getElem?_eq_some_iff.1 hd).1
   rw [good_formed sig hd] at hg
   unfold formedR at hg
   rw [Bool.and_eq_true] at hg
   exact (formed_iff hd).1 hg.2
 ·rintro ⟨h1, h2, h3⟩
  unfold checkB
  rw [decide_eq_true h1, Bool.true_and, List.all_eq_true]
  intro n hn
  have hn := List.mem_range.1 hn
  have hd : sig[n]? = some sig[n] := List.getElem?_eq_getElem hn
  rw [good_formed sig hd]
  unfold formedR
  rw [Bool.and_eq_true, Bool.not_eq_true', ← Bool.not_eq_true, nameIn_iff]
  refine ⟨?_, (formed_iff hd).2 (h3 n _ hd)⟩
  rintro ⟨e, he, hs⟩
  obtain ⟨i, hi⟩ := List.mem_iff_getElem?.1 he
  rw [List.getElem?_take] at hi
  split at hi
  ·exact h2 i n e _ (by assumption) hi hd hs
  ·cases hi
end Go.Tr
/- Closed terms; the judgements in a longer context. -/
namespace Go.Tr
def cloB : Term → Int → Bool := hdOk 1 (fun _ => false)
def Clo (t : Term) (i : Int) : Prop := allT cloB t i = true
theorem cloB_no {k l n i : Int} {ts : List Term} (h : cloB (.mk k l n ts) i = true) : ¬ (k = 4 ∧ l = 1 ∧ i ≤ n) := by
 rintro ⟨rfl, rfl, hi⟩
 unfold cloB hdOk at h
 rw [show decide (i ≤ (Term.mk 4 1 n ts).n) = true from decide_eq_true hi] at h
 simp only [Term.k, Term.l, decide_true, Bool.and_self, Bool.not_true] at h
 cases h
mutual
theorem sh_clo (b : Int) : ∀ (t : Term) (i c : Int), Clo t i → i ≤ c → sh b c t = t
 | .mk k l n ts, i, c, h, hc => by
  unfold Clo at h
  rw [allT, Bool.and_eq_true] at h
  have h1 := cloB_no h.1
  rw [sh, shL_clo b k ts 0 i c h.2 hc]
  congr 1
  unfold shv
  rw [if_neg (by omega)]
theorem shL_clo (b k : Int) : ∀ (ts : List Term) (j i c : Int), allL cloB k i j ts = true → i ≤ c → shL b k c j ts = ts
 | [], j, i, c, h, hc => by rw [shL]
 | t :: r, j, i, c, h, hc => by
  rw [allL, Bool.and_eq_true] at h
  rw [shL, sh_clo b t (i + unT k j) (c + unT k j) h.1 (by omega), shL_clo b k r (j + 1) i c h.2 hc]
end
mutual
theorem hs_clo (sm : Smp) (x : Term) : ∀ (t : Term) (i n : Int), Clo t i → i ≤ n → hsT sm x n t = some t
 | .mk k l m ts, i, n, h, hc => by
  unfold Clo at h
  rw [allT, Bool.and_eq_true] at h
  have h1 := cloB_no h.1
  rw [hsT_mk, hsL_clo sm x k ts 0 i n h.2 hc]
  simp only
  by_cases hv : k = 4 ∧ l = 1
  ·rw [if_pos hv, if_neg (by omega), if_neg (by omega)]
  ·rw [if_neg hv]
theorem hsL_clo (sm : Smp) (x : Term) (k : Int) : ∀ (ts : List Term) (j i n : Int), allL cloB k i j ts = true → i ≤ n → hsL sm x n k j ts = some ts
 | [], j, i, n, h, hc => by rw [hsL_nil]
 | t :: r, j, i, n, h, hc => by
  rw [allL, Bool.and_eq_true] at h
  rw [hsL_cons, hs_clo sm x t (i + unT k j) (n + unT k j) h.1 (by omega), hsL_clo sm x k r (j + 1) i n h.2 hc]
end
theorem clo_nodes {m : Int} {t : Term} {i : Int} (h : nodesT m t i = true) : Clo t i := by
 rw [nodesT_all] at h
 refine allT_imp (fun t i h => ?_) t i h
 unfold cloB hdOk
 cases hk : decide (t.k = 4) with
 | false => rfl
 | true =>
  rw [hk] at h
  simp only [Bool.not_true, Bool.false_or] at h
  unfold nodeOk at h
  simp only [Bool.and_eq_true, Bool.or_eq_true] at h
  cases hl : decide (t.l = 1) with
  | false => rfl
  | true =>
   rw [hl] at h
   simp only [Bool.not_true, Bool.false_eq_true, false_or, decide_eq_true_eq] at h
   simp only [Bool.and_self, decide_true, Bool.not_true]
   rw [decide_eq_false (by omega)]
def KClo (K : Krn) : Prop := (∀ d ∈ K.sig, Clo d.c 0) ∧ ∀ m ∈ K.ms, Clo m.cl 0
theorem lkC_snoc (cx : List Term) (A : Term) (n : Int) : lkC (cx ++ [A]) n = if n = 0 then some A else lkC cx (n - 1) := by
 unfold lkC
 rw [List.reverse_append, List.reverse_singleton, List.singleton_append]
 by_cases h : n = 0
 ·subst h
  rw [if_pos rfl, if_pos (Int.le_refl 0)]
  rfl
 ·rw [if_neg h]
  by_cases h0 : 0 ≤ n
  ·rw [if_pos h0, if_pos (by omega), show n.toNat = (n - 1).toNat + 1 by omega, List.getElem?_cons_succ]
  ·rw [if_neg h0, if_neg (by omega)]
def WkC (b q : Int) (cx cx' : List Term) : Prop := 0 ≤ q ∧ (∀ n, n < q → lkC cx' n = (lkC cx n).map (sh b (q - 1 - n))) ∧ ∀ n, q ≤ n → lkC cx' (n + b) = lkC cx n
theorem WkC.snoc {b q : Int} {cx cx' : List Term} (hb : 0 ≤ b) (h : WkC b q cx cx') (A : Term) : WkC b (q + 1) (cx ++ [A]) (cx' ++ [sh b q A]) := by
 obtain ⟨h0, h1, h2⟩ := h
 refine ⟨by omega, fun n hn => ?_, fun n hn => ?_⟩
 ·rw [lkC_snoc, lkC_snoc]
  by_cases e : n = 0
  ·rw [if_pos e, if_pos e, e, show q + 1 - 1 - 0 = q by omega]; rfl
  ·rw [if_neg e, if_neg e, h1 _ (by omega), show q - 1 - (n - 1) = q + 1 - 1 - n by omega]
 ·rw [lkC_snoc, lkC_snoc, if_neg (by omega), if_neg (by omega), show n + b - 1 = n - 1 + b by omega, h2 _ (by omega)]
theorem WkC.one (cx : List Term) (B : Term) : WkC 1 0 cx (cx ++ [B]) := by
 refine ⟨Int.le_refl 0, fun n hn => ?_, fun n hn => ?_⟩
 ·unfold lkC
  rw [if_neg (by omega), if_neg (by omega)]
  rfl
 ·rw [lkC_snoc, if_neg (by omega), show n + 1 - 1 = n by omega]
def shP (b q : Int) (p : Term × Int) : Term × Int := (sh b q p.1, p.2)
theorem sh_zT (b q : Int) : sh b q zT = zT := by
 unfold zT
 rw [sh, shL]
 unfold shv
 rw [if_neg (by omega)]
mutual
theorem sh_inj {b : Int} (hb : 0 ≤ b) : ∀ (t u : Term) (c : Int), sh b c t = sh b c u → t = u
 | .mk k l n ts, .mk k' l' n' us, c, h => by
  rw [sh, sh, Term.mk.injEq] at h
  obtain ⟨rfl, rfl, h3, h4⟩ := h
  rw [shL_inj hb k ts us 0 c h4]
  congr 1
  unfold shv at h3
  split at h3 <;> split at h3 <;> omega
theorem shL_inj {b : Int} (hb : 0 ≤ b) (k : Int) : ∀ (ts us : List Term) (i c : Int), shL b k c i ts = shL b k c i us → ts = us
 | [], [], i, c, h => rfl
 | [], u :: s, i, c, h => by rw [shL, shL] at h; cases h
 | t :: r, [], i, c, h => by rw [shL, shL] at h; cases h
 | t :: r, u :: s, i, c, h => by
  rw [shL, shL, List.cons.injEq] at h
  rw [sh_inj hb t u _ h.1, shL_inj hb k r s _ _ h.2]
end
theorem same_sh {b : Int} (hb : 0 ≤ b) (t u : Term) (c : Int) : sameT (sh b c t) (sh b c u) = sameT t u := by
 rw [Bool.eq_iff_iff, sameT_iff, sameT_iff]
 exact ⟨sh_inj hb t u c, fun h => by rw [h]⟩
theorem cls_wk {K : Krn} (hK : KClo K) {b q : Int} (hb : 0 ≤ b) {cx cx' : List Term} (h : WkC b q cx cx') (l n : Int) : clsE K cx' l (shv b q 4 l n) = shP b q (clsE K cx l n) := by
 obtain ⟨h0, h1, h2⟩ := h
 unfold clsE
 by_cases hl : l = 1
 ·subst hl
  rw [if_pos rfl, if_pos rfl]
  unfold shv
  by_cases hn : q ≤ n
  ·rw [if_pos ⟨rfl, rfl, hn⟩, h2 n hn]
   cases lkC cx n with
   | none => simp only [shP, sh_zT]
   | some t =>
    simp only [shP]
    rw [sh_add t 0 q h0 (by omega), show n + b + 1 = b + (n + 1) by omega]
  ·rw [if_neg (by omega), h1 n (by omega)]
   cases ht : lkC cx n with
   | none => simp only [shP, sh_zT, Option.map]
   | some t =>
    have hn0 : 0 ≤ n := by
     unfold lkC at ht
     split at ht
     ·assumption
     ·cases ht
    simp only [shP, Option.map]
    rw [sh_sh (by omega) hb t 0 (q - 1 - n) (by omega), show q - 1 - n + (n + 1) = q by omega]
 ·rw [if_neg hl, if_neg hl]
  have e : shv b q 4 l n = n := by
   unfold shv
   rw [if_neg (by omega)]
  rw [e]
  by_cases hl2 : l = 2
  ·rw [if_pos hl2]
   try rw [if_pos hl2]
   cases hd : K.sig[n.toNat]? with
   | none => simp only [shP, sh_zT]
   | some d =>
    simp only
    split
    ·simp only [shP, sh_zT]
    ·simp only [shP]
     rw [sh_clo b d.c 0 q (hK.1 d (List.mem_of_getElem? hd)) h0]
  ·rw [if_neg hl2]
   try rw [if_neg hl2]
   cases hd : K.ms[n.toNat]? with
   | none => simp only [shP, sh_zT]
   | some d =>
    simp only [shP]
    rw [sh_clo b d.cl 0 q (hK.2 d (List.mem_of_getElem? hd)) h0]
theorem inst_wk {b q : Int} (hb : 0 ≤ b) (hq : 0 ≤ q) (A B m : Term) : instE (sh b q A) (sh b (q + 1) B) (sh b q m) = shP b q (instE A B m) := by
 unfold instE
 rw [sh_smp]
 cases smpT A with
 | none => simp only [shP, sh_zT]
 | some sm =>
  have h := hs_out hb _ sm (Nat.le_refl _) B m 0 q (Int.le_refl 0) hq
  rw [Int.sub_zero] at h
  simp only
  rw [h]
  cases hsT sm m 0 B with
  | none => simp only [Option.map, shP, sh_zT]
  | some u => simp only [Option.map, shP]
theorem rest_wk (b q : Int) (p : Term × Int) : restF (shP b q p) = shP b q (restF p) := by
 unfold restF
 by_cases h : p.2 ≠ 0
 ·rw [if_pos h, if_pos (show (shP b q p).2 ≠ 0 from h)]
  simp only [shP, sh_zT]
 ·rw [if_neg h, if_neg (show ¬ (shP b q p).2 ≠ 0 from h)]
  by_cases h2 : p.1.k = 2
  ·rw [if_pos h2, if_pos (show (shP b q p).1.k = 2 by simp only [shP, sh_k, h2])]
   simp only [shP, sh_zT]
  ·rw [if_neg h2, if_neg (show ¬ (shP b q p).1.k = 2 by simp only [shP, sh_k, h2, not_false_eq_true])]
   rfl
theorem app_wk {b q : Int} {c : Term × Int} {f g : Term → Term × Int} (h : c.2 = 0 → f (sh b q c.1) = shP b q (g c.1)) : appF (shP b q c) f = shP b q (appF c g) := by
 unfold appF
 by_cases hc : c.2 ≠ 0
 ·rw [if_pos hc, if_pos (show (shP b q c).2 ≠ 0 from hc)]
  simp only [shP, sh_zT]
 ·rw [if_neg hc, if_neg (show ¬ (shP b q c).2 ≠ 0 from hc)]
  show restF (f (sh b q c.1)) = _
  rw [h (by omega)]
  exact rest_wk b q _
theorem eq_wk {b : Int} (hb : 0 ≤ b) (q : Int) (a : Term) (p : Term × Int) : eqF (sh b q a) (shP b q p) = eqF a p := by
 unfold eqF
 by_cases hc : p.2 ≠ 0
 ·rw [if_pos hc, if_pos (show (shP b q p).2 ≠ 0 from hc)]
  rfl
 ·rw [if_neg hc, if_neg (show ¬ (shP b q p).2 ≠ 0 from hc)]
  have h := same_sh hb a p.1 q
  by_cases hs : sameT a p.1 = true
  ·rw [if_pos hs, if_pos (show sameT (sh b q a) (shP b q p).1 = true by simp only [shP]; rw [h]; exact hs)]
  ·rw [if_neg hs, if_neg (show ¬ sameT (sh b q a) (shP b q p).1 = true by simp only [shP]; rw [h]; exact hs)]
theorem sh_ts2 (b q : Int) {a : Term} (h : a.k = 2) : (sh b q a).ts = match a.ts with | A :: B :: r => sh b q A :: sh b (q + 1) B :: shL b 2 q 2 r | [A] => [sh b q A] | [] => [] := by
 rw [sh_ts, h]
 match a.ts with
 | [] => rw [shL]
 | [A] => rw [shL, shL]; simp [unT]
 | A :: B :: r => rw [shL, shL]; simp [unT]
mutual
theorem obj_wk {K : Krn} (hK : KClo K) {b : Int} (hb : 0 ≤ b) : ∀ (m : Term) (q : Int) (cx cx' : List Term) (a : Term), WkC b q cx cx' → objE K (sh b q m) cx' (sh b q a) = objE K m cx a
 | .mk k l n ts, q, cx, cx', a, h => by
  rw [sh, objE, objE, sh_k]
  by_cases ha2 : a.k = 2
  ·rw [if_pos ha2, if_pos ha2, sh_ts2 b q ha2]
   by_cases hk4 : k = 4
   ·rw [if_pos hk4, if_pos hk4]
   ·rw [if_neg hk4, if_neg hk4]
    by_cases hk3 : k = 3
    ·rw [if_pos hk3, if_pos hk3]
     subst hk3
     match a.ts with
     | [] => rfl
     | [A] => rfl
     | A :: B :: r =>
      simp only
      match ts with
      | [] => rw [shL, objEH, objEH]
      | m :: s =>
       rw [shL, objEH, objEH, show unT 3 0 = 1 from rfl]
       exact obj_wk hK hb m (q + 1) _ _ B (h.snoc hb A)
    ·rw [if_neg hk3, if_neg hk3]
  ·rw [if_neg ha2, if_neg ha2]
   by_cases ha4 : a.k = 4
   ·rw [if_pos ha4, if_pos ha4]
    by_cases hk3 : k = 3
    ·rw [if_pos hk3, if_pos hk3]
    ·rw [if_neg hk3, if_neg hk3]
     by_cases hk4 : k = 4
     ·rw [if_pos hk4, if_pos hk4]
      subst hk4
      rw [cls_wk hK hb h, app_wk (g := fun c => fitE K ts cx c), eq_wk hb]
      intro _
      rw [shL_4]
      exact fit_wk hK hb ts q cx cx' _ h
     ·rw [if_neg hk4, if_neg hk4]
   ·rw [if_neg ha4, if_neg ha4]
theorem fit_wk {K : Krn} (hK : KClo K) {b : Int} (hb : 0 ≤ b) : ∀ (ts : List Term) (q : Int) (cx cx' : List Term) (c : Term), WkC b q cx cx' → fitE K (ts.map (sh b q)) cx' (sh b q c) = shP b q (fitE K ts cx c)
 | [], q, cx, cx', c, h => by rw [List.map_nil, fitE, fitE]; rfl
 | m :: r, q, cx, cx', c, h => by
  rw [List.map_cons, fitE, fitE, sh_k]
  by_cases hc : c.k = 2
  ·rw [if_pos hc, if_pos hc, sh_ts2 b q hc]
   match c.ts with
   | [] => simp only [shP, sh_zT]
   | [A] => simp only [shP, sh_zT]
   | A :: B :: s =>
    simp only
    rw [obj_wk hK hb m q cx cx' A h, inst_wk hb h.1]
    by_cases he : objE K m cx A ≠ 0
    ·rw [if_pos he, if_pos he]; simp only [shP, sh_zT]
    ·rw [if_neg he, if_neg he]
     by_cases he2 : (instE A B m).2 ≠ 0
     ·rw [if_pos he2, if_pos (show (shP b q (instE A B m)).2 ≠ 0 from he2)]; simp only [shP, sh_zT]
     ·rw [if_neg he2, if_neg (show ¬ (shP b q (instE A B m)).2 ≠ 0 from he2)]
      exact fit_wk hK hb r q cx cx' _ h
  ·rw [if_neg hc, if_neg hc]; simp only [shP, sh_zT]
end
end Go.Tr
/- An object that is put for a variable of its type keeps what is typed. -/
namespace Go.Tr
theorem eqF_ok (a : Term) : eqF a (a, 0) = 0 := by
 unfold eqF
 rw [if_neg nz0, if_pos ((sameT_iff a a).2 rfl)]
theorem obj_k {K : Krn} {m a : Term} {cx : List Term} (h : objE K m cx a = 0) : a.k = 2 ∨ a.k = 4 := by
 obtain ⟨k, l, n, ts⟩ := m
 rw [objE] at h
 split at h
 ·left; assumption
 ·split at h
  ·right; assumption
  ·cases h
theorem obj_lam_inv {K : Krn} {m a : Term} {cx : List Term} (h : objE K m cx a = 0) (ha : a.k = 2) : ∃ l n b r A B s, m = .mk 3 l n (b :: r) ∧ a.ts = A :: B :: s ∧ objE K b (cx ++ [A]) B = 0 := by
 obtain ⟨k, l, n, ts⟩ := m
 rw [objE, if_pos ha] at h
 split at h
 ·cases h
 ·split at h
  ·rename_i hk3
   subst hk3
   match hts : a.ts with
   | [] => rw [hts] at h; cases h
   | [A] => rw [hts] at h; cases h
   | A :: B :: s =>
    rw [hts] at h
    match ts with
    | [] => simp only [objEH] at h; cases h
    | b :: r => simp only [objEH] at h; exact ⟨l, n, b, r, A, B, s, rfl, rfl, h⟩
  ·cases h
theorem obj_app_inv {K : Krn} {m a : Term} {cx : List Term} (h : objE K m cx a = 0) (ha : a.k = 4) : ∃ l n ts c, m = .mk 4 l n ts ∧ clsE K cx l n = (c, 0) ∧ fitE K ts cx c = (a, 0) := by
 obtain ⟨k, l, n, ts⟩ := m
 rw [objE, if_neg (by omega), if_pos ha] at h
 split at h
 ·cases h
 ·split at h
  ·rename_i hk4
   subst hk4
   obtain ⟨c, e, hc⟩ : ∃ c e, clsE K cx l n = (c, e) := ⟨_, _, rfl⟩
   obtain ⟨v, e2, hv⟩ : ∃ v e, fitE K ts cx c = (v, e) := ⟨_, _, rfl⟩
   rw [hc] at h
   unfold eqF appF at h
   simp only at h
   by_cases he : e ≠ 0
   ·rw [if_pos he, if_pos he] at h
    exact absurd h he
   ·rw [if_neg he] at h
    have he0 : e = 0 := by omega
    unfold restF at h
    rw [hv] at h
    simp only at h
    by_cases he2 : e2 ≠ 0
    ·rw [if_pos he2, if_pos he2] at h
     exact absurd h he2
    ·rw [if_neg he2] at h
     have he20 : e2 = 0 := by omega
     split at h
     ·rw [if_pos (show (23 : Int) ≠ 0 by decide)] at h; cases h
     ·rw [if_neg nz0] at h
      simp only at h
      split at h
      ·rename_i hs
       rw [sameT_iff] at hs
       subst hs
       exact ⟨l, n, ts, c, rfl, by rw [hc, he0], by rw [hv, he20]⟩
      ·cases h
  ·cases h
theorem obj_lam {K : Krn} {a b A B : Term} {cx r s : List Term} {l n : Int} (ha : a.k = 2) (hts : a.ts = A :: B :: s) (h : objE K b (cx ++ [A]) B = 0) : objE K (.mk 3 l n (b :: r)) cx a = 0 := by
 rw [objE, if_pos ha, if_neg (by decide), if_pos rfl, hts]
 simp only [objEH]
 exact h
theorem obj_app {K : Krn} {a c : Term} {cx ts : List Term} {l n : Int} (ha : a.k = 4) (hc : clsE K cx l n = (c, 0)) (h : fitE K ts cx c = (a, 0)) : objE K (.mk 4 l n ts) cx a = 0 := by
 rw [objE, if_neg (by omega), if_pos ha, if_neg (by decide), if_pos rfl, hc]
 rw [appF_ok, h, restF_ok (by omega), eqF_ok]
theorem fit_inv {K : Krn} {m c v : Term} {r cx : List Term} (h : fitE K (m :: r) cx c = (v, 0)) : c.k = 2 ∧ ∃ A B s sm u, c.ts = A :: B :: s ∧ objE K m cx A = 0 ∧ smpT A = some sm ∧ hsT sm m 0 B = some u ∧ fitE K r cx u = (v, 0) := by
 rw [fitE] at h
 split at h
 ·rename_i hc
  refine ⟨hc, ?_⟩
  match hts : c.ts with
  | [] => rw [hts] at h; cases h
  | [A] => rw [hts] at h; cases h
  | A :: B :: s =>
   rw [hts] at h
   simp only at h
   by_cases he : objE K m cx A ≠ 0
   ·rw [if_pos he] at h
    exact absurd (congrArg Prod.snd h) he
   ·rw [if_neg he] at h
    by_cases he2 : (instE A B m).2 ≠ 0
    ·rw [if_pos he2] at h
     exact absurd (congrArg Prod.snd h) he2
    ·rw [if_neg he2] at h
     unfold instE at h he2
     cases hA : smpT A with
     | none => rw [hA] at he2; exact absurd (show (22 : Int) ≠ 0 by decide) he2
     | some sm =>
      rw [hA] at h he2
      simp only at h he2
      cases hu : hsT sm m 0 B with
      | none => rw [hu] at he2; exact absurd (show (23 : Int) ≠ 0 by decide) he2
      | some u =>
       rw [hu] at h
       exact ⟨A, B, s, sm, u, rfl, by omega, hA, hu, h⟩
 ·cases h
theorem fit_of {K : Krn} {m c v A B u : Term} {r s cx : List Term} {sm : Smp} (hc : c.k = 2) (hts : c.ts = A :: B :: s) (hm : objE K m cx A = 0) (hA : smpT A = some sm) (hu : hsT sm m 0 B = some u) (h : fitE K r cx u = (v, 0)) : fitE K (m :: r) cx c = (v, 0) := by
 rw [fitE, if_pos hc, hts]
 simp only
 rw [if_neg (by omega)]
 have e : instE A B m = (u, 0) := by
  unfold instE
  rw [hA]
  simp only
  rw [hu]
 rw [e, if_neg nz0]
 exact h
theorem smp_pi_inv {c : Term} {σ : Smp} (hc : c.k = 2) (h : smpT c = some σ) : ∃ A B s x y, c.ts = A :: B :: s ∧ smpT A = some x ∧ smpT B = some y ∧ σ = .mk (x :: y.xs) y.c := by
 obtain ⟨k, l, n, ts⟩ := c
 replace hc : k = 2 := hc
 subst hc
 rw [smpT.eq_def] at h
 simp only at h
 rw [if_neg (by omega)] at h
 match ts with
 | [] => cases h
 | [A] => cases h
 | A :: B :: s =>
  simp only [if_true] at h
  cases hx : smpT A with
  | none => rw [hx] at h; cases h
  | some x =>
   cases hy : smpT B with
   | none => rw [hx, hy] at h; cases h
   | some y =>
    rw [hx, hy] at h
    cases h
    exact ⟨A, B, s, x, y, rfl, hx, hy, rfl⟩
theorem smp_4_inv {c : Term} {σ : Smp} (hc : c.k = 4) (h : smpT c = some σ) : c.l = 2 ∧ σ = .mk [] c.n := by
 rw [smpT_no (by omega)] at h
 split at h
 ·rename_i h2
  cases h
  exact ⟨h2.2, rfl⟩
 ·cases h
theorem hs_pi {sm : Smp} {x c c' : Term} {n : Int} (hc : c.k = 2) (h : hsT sm x n c = some c') {A B : Term} {s : List Term} (hts : c.ts = A :: B :: s) : c'.k = 2 ∧ ∃ A' B' s', c'.ts = A' :: B' :: s' ∧ hsT sm x n A = some A' ∧ hsT sm x (n + 1) B = some B' := by
 obtain ⟨k, l, m, ts⟩ := c
 replace hc : k = 2 := hc
 replace hts : ts = A :: B :: s := hts
 subst hc
 subst hts
 obtain ⟨us, hus, h⟩ := hsT_some h
 obtain ⟨A', us1, rfl, hA, hus⟩ := hsL_some hus
 obtain ⟨B', us2, rfl, hB, hus⟩ := hsL_some hus
 rw [show unT 2 0 = 0 from rfl, Int.add_zero] at hA
 rw [show unT 2 (0 + 1) = 1 from rfl] at hB
 rcases h with ⟨_, rfl⟩ | ⟨h, _⟩ | ⟨h, _⟩ | ⟨h, _⟩
 ·exact ⟨rfl, A', B', us2, rfl, hA, hB⟩
 ·cases h
 ·cases h
 ·cases h
theorem hs_rig_k {sm : Smp} {x c c' : Term} {n : Int} (hc : ¬ (c.k = 4 ∧ c.l = 1)) (h : hsT sm x n c = some c') : c'.k = c.k ∧ c'.l = c.l ∧ c'.n = c.n ∧ hsL sm x n c.k 0 c.ts = some c'.ts := by
 obtain ⟨k, l, m, ts⟩ := c
 obtain ⟨us, hus, h⟩ := hsT_some h
 rcases h with ⟨_, rfl⟩ | ⟨h1, h2, _⟩ | ⟨h1, h2, _⟩ | ⟨h1, h2, _⟩
 ·exact ⟨rfl, rfl, rfl, hus⟩
 ·exact absurd ⟨h1, h2⟩ hc
 ·exact absurd ⟨h1, h2⟩ hc
 ·exact absurd ⟨h1, h2⟩ hc
def SbC (K : Krn) (σ : Smp) (s A : Term) (q : Int) (cx cx' : List Term) : Prop :=
 0 ≤ q ∧ (∀ n t, n < q → lkC cx n = some t → ∃ t', hsT σ s (q - 1 - n) t = some t' ∧ lkC cx' n = some t') ∧ (∀ n, q < n → lkC cx' (n - 1) = lkC cx n) ∧ lkC cx q = some A ∧ smpT A = some σ ∧ objE K (sh q 0 s) cx' (sh q 0 A) = 0
theorem SbC.snoc {K : Krn} (hK : KClo K) {σ : Smp} {s A : Term} {q : Int} {cx cx' : List Term} (h : SbC K σ s A q cx cx') {B B' : Term} (hB : hsT σ s q B = some B') : SbC K σ s A (q + 1) (cx ++ [B]) (cx' ++ [B']) := by
 obtain ⟨h0, h1, h2, h3, h4, h5⟩ := h
 refine ⟨by omega, fun n t hn ht => ?_, fun n hn => ?_, ?_, h4, ?_⟩
 ·rw [lkC_snoc] at ht ⊢
  by_cases e : n = 0
  ·rw [if_pos e] at ht ⊢
   cases ht
   exact ⟨B', by rw [show q + 1 - 1 - n = q by omega]; exact hB, rfl⟩
  ·rw [if_neg e] at ht ⊢
   obtain ⟨t', h6, h7⟩ := h1 (n - 1) t (by omega) ht
   exact ⟨t', by rw [show q + 1 - 1 - n = q - 1 - (n - 1) by omega]; exact h6, h7⟩
 ·rw [lkC_snoc, lkC_snoc, if_neg (by omega), if_neg (by omega)]
  exact h2 (n - 1) (by omega)
 ·rw [lkC_snoc, if_neg (by omega), show q + 1 - 1 = q by omega]
  exact h3
 ·have h6 := obj_wk hK (show (0 : Int) ≤ 1 by decide) (sh q 0 s) 0 cx' (cx' ++ [B']) (sh q 0 A) (WkC.one cx' B')
  rw [sh_add s 0 0 (Int.le_refl 0) (by omega), sh_add A 0 0 (Int.le_refl 0) (by omega), show 1 + q = q + 1 by omega] at h6
  rw [h6]
  exact h5
def SubObj (K : Krn) (σ : Smp) : Prop := ∀ (m : Term) (s A : Term) (q : Int) (cx cx' : List Term) (a m' a' : Term) (ρ : Smp), SbC K σ s A q cx cx' → objE K m cx a = 0 → smpT a = some ρ → hsT σ s q m = some m' → hsT σ s q a = some a' → objE K m' cx' a' = 0
theorem app_obj {K : Krn} : ∀ {S : List Smp}, (∀ m ∈ S, SubObj K m) → ∀ {ys cx : List Term} {f C r v : Term} {σ : Smp}, σ.xs = S → objE K f cx C = 0 → fitE K ys cx C = (r, 0) → smpT C = some σ → hsA S f ys = some v → objE K v cx r = 0
 | S, hS, [], cx, f, C, r, v, σ, hx, hf, hfit, hC, hv => by
  rw [hsA_nil] at hv
  rw [fitE] at hfit
  cases hv
  cases hfit
  exact hf
 | S, hS, y :: ys, cx, f, C, r, v, σ, hx, hf, hfit, hC, hv => by
  obtain ⟨m1, S', b, bs, u, rfl, hk, hts, hu, hv1⟩ := hsA_some hv
  obtain ⟨hCk, A1, B1, s, sm, c1, hCts, hy, hA1, hc1, hfit⟩ := fit_inv hfit
  obtain ⟨A2, B2, s2, x, z, hCts2, hx2, hz2, rfl⟩ := smp_pi_inv hCk hC
  rw [hCts] at hCts2
  cases hCts2
  rw [hA1] at hx2
  cases hx2
  simp only [Smp.xs, List.cons.injEq] at hx
  obtain ⟨rfl, hx⟩ := hx
  obtain ⟨l, n, b2, r2, A3, B3, s3, rfl, hCts3, hb⟩ := obj_lam_inv hf hCk
  rw [hCts] at hCts3
  cases hCts3
  replace hts : b2 :: r2 = b :: bs := hts
  cases hts
  have h0 : objE K u cx c1 = 0 := by
   refine hS sm (List.mem_cons_self ..) b y A1 0 (cx ++ [A1]) cx B1 u c1 z ⟨Int.le_refl 0, fun n t hn ht => ?_, fun n hn => ?_, ?_, hA1, ?_⟩ hb hz2 hu hc1
   ·unfold lkC at ht
    rw [if_neg (by omega)] at ht
    cases ht
   ·rw [lkC_snoc, if_neg (by omega)]
   ·rw [lkC_snoc, if_pos rfl]
   ·rw [sh_zero, sh_zero]
    exact hy
  exact app_obj (fun m hm => hS m (List.mem_cons_of_mem _ hm)) hx h0 hfit (hs_smp hz2 hc1) hv1
set_option maxRecDepth 20000 in
mutual
theorem sub_obj {K : Krn} (hK : KClo K) (σ : Smp) (hσ : ∀ m ∈ σ.xs, SubObj K m) : ∀ (m : Term) (s A : Term) (q : Int) (cx cx' : List Term) (a m' a' : Term) (ρ : Smp), SbC K σ s A q cx cx' → objE K m cx a = 0 → smpT a = some ρ → hsT σ s q m = some m' → hsT σ s q a = some a' → objE K m' cx' a' = 0
 | .mk k l n ts, s, A, q, cx, cx', a, m', a', ρ, hS, hm, hρ, hm', ha' => by
  rcases obj_k hm with ha | ha
  ·obtain ⟨l2, n2, b, r, A1, B1, s1, he, hts, hb⟩ := obj_lam_inv hm ha
   rw [Term.mk.injEq] at he
   obtain ⟨rfl, rfl, rfl, rfl⟩ := he
   obtain ⟨ha'2, A1', B1', s1', hts', hA1, hB1⟩ := hs_pi ha ha' hts
   obtain ⟨A2, B2, s2, x, z, hts2, hx2, hz2, rfl⟩ := smp_pi_inv ha hρ
   rw [hts] at hts2
   cases hts2
   obtain ⟨hk', _, _, hts3⟩ := hs_rig_k (by simp [Term.k]) hm'
   obtain ⟨b', r', hb1, hb2, _⟩ := hsL_some hts3
   obtain ⟨k4, l4, n4, ts4⟩ := m'
   replace hk' : k4 = 3 := hk'
   replace hb1 : ts4 = b' :: r' := hb1
   subst hk'
   subst hb1
   replace hb2 : hsT σ s (q + 1) b = some b' := hb2
   exact obj_lam ha'2 hts' (sub_obj hK σ hσ b s A (q + 1) _ _ B1 b' B1' z (hS.snoc hK hA1) hb hz2 hb2 hB1)
  ·obtain ⟨l2, n2, ts2, c, he, hc, hfit⟩ := obj_app_inv hm ha
   rw [Term.mk.injEq] at he
   obtain ⟨rfl, rfl, rfl, rfl⟩ := he
   obtain ⟨hal, _⟩ := smp_4_inv ha hρ
   obtain ⟨ha'k, _⟩ := hs_rig_k (by omega) ha'
   obtain ⟨us, hus, hm'⟩ := hsT_some hm'
   obtain ⟨h0, h1, h2, h3, h4, h5⟩ := id hS
   by_cases hl : l = 1
   ·subst hl
    unfold clsE at hc
    rw [if_pos rfl] at hc
    cases ht : lkC cx n with
    | none => rw [ht] at hc; cases hc
    | some t =>
     rw [ht] at hc
     cases hc
     have hn0 : 0 ≤ n := by
      unfold lkC at ht
      split at ht
      ·assumption
      ·cases ht
     rcases hm' with ⟨hm', _⟩ | ⟨_, _, hlt, rfl⟩ | ⟨_, _, hgt, rfl⟩ | ⟨_, _, heq, hm'⟩
     ·exact absurd ⟨rfl, rfl⟩ hm'
     ·obtain ⟨t', ht1, ht2⟩ := h1 n t hlt ht
      have hcl : hsT σ s q (sh (n + 1) 0 t) = some (sh (n + 1) 0 t') := by
       have h6 := hs_in (show 0 ≤ n + 1 by omega) σ s t (q - 1 - n) 0 (Int.le_refl 0) (by omega)
       rw [ht1, show q - 1 - n + (n + 1) = q by omega] at h6
       exact h6
      obtain ⟨r', hr1, hr2⟩ := sub_fit hK σ hσ ts s A q cx cx' _ _ 0 us _ hS hfit hus hcl
      rw [ha'] at hr1
      cases hr1
      refine obj_app (by omega) (c := sh (n + 1) 0 t') ?_ hr2
      unfold clsE
      rw [if_pos rfl, ht2]
     ·have hcl : hsT σ s q (sh (n + 1) 0 t) = some (sh (n - 1 + 1) 0 t) := by
       have h6 := sh_add (a := 1) (b := n) t 0 q h0 (by omega)
       rw [show n + 1 = 1 + n by omega, ← h6, show n - 1 + 1 = n by omega]
       exact hs_vac σ s _ q
      obtain ⟨r', hr1, hr2⟩ := sub_fit hK σ hσ ts s A q cx cx' _ _ 0 us _ hS hfit hus hcl
      rw [ha'] at hr1
      cases hr1
      refine obj_app (by omega) (c := sh (n - 1 + 1) 0 t) ?_ hr2
      unfold clsE
      rw [if_pos rfl, h2 n hgt, ht]
     ·subst heq
      rw [h3] at ht
      cases ht
      have hcl : hsT σ s n (sh (n + 1) 0 A) = some (sh n 0 A) := by
       have h6 := sh_add (a := 1) (b := n) A 0 n h0 (by omega)
       rw [show n + 1 = 1 + n by omega, ← h6]
       exact hs_vac σ s _ n
      obtain ⟨r', hr1, hr2⟩ := sub_fit hK σ hσ ts s A n cx cx' _ _ 0 us _ hS hfit hus hcl
      rw [ha'] at hr1
      cases hr1
      exact app_obj hσ rfl h5 hr2 (by rw [sh_smp]; exact h4) hm'
   ·have hcl : hsT σ s q c = some c ∧ clsE K cx' l n = (c, 0) := by
     unfold clsE at hc ⊢
     rw [if_neg hl] at hc ⊢
     by_cases hl2 : l = 2
     ·rw [if_pos hl2] at hc ⊢
      cases hd : K.sig[n.toNat]? with
      | none => rw [hd] at hc; cases hc
      | some d =>
       rw [hd] at hc
       simp only at hc ⊢
       split at hc
       ·cases hc
       ·rename_i hkd
        cases hc
        rw [if_neg hkd]
        exact ⟨hs_clo σ s _ 0 q (hK.1 d (List.mem_of_getElem? hd)) h0, rfl⟩
     ·rw [if_neg hl2] at hc ⊢
      cases hd : K.ms[n.toNat]? with
      | none => rw [hd] at hc; cases hc
      | some d =>
       rw [hd] at hc
       cases hc
       exact ⟨hs_clo σ s _ 0 q (hK.2 d (List.mem_of_getElem? hd)) h0, rfl⟩
    obtain ⟨r', hr1, hr2⟩ := sub_fit hK σ hσ ts s A q cx cx' _ _ 0 us _ hS hfit hus hcl.1
    rw [ha'] at hr1
    cases hr1
    rcases hm' with ⟨_, rfl⟩ | ⟨_, hl1, _⟩ | ⟨_, hl1, _⟩ | ⟨_, hl1, _⟩
    ·exact obj_app (by omega) hcl.2 hr2
    ·exact absurd hl1 hl
    ·exact absurd hl1 hl
    ·exact absurd hl1 hl
theorem sub_fit {K : Krn} (hK : KClo K) (σ : Smp) (hσ : ∀ m ∈ σ.xs, SubObj K m) : ∀ (ts : List Term) (s A : Term) (q : Int) (cx cx' : List Term) (c r : Term) (i : Int) (ts' : List Term) (c' : Term), SbC K σ s A q cx cx' → fitE K ts cx c = (r, 0) → hsL σ s q 4 i ts = some ts' → hsT σ s q c = some c' → ∃ r', hsT σ s q r = some r' ∧ fitE K ts' cx' c' = (r', 0)
 | [], s, A, q, cx, cx', c, r, i, ts', c', hS, hfit, hts', hc' => by
  rw [fitE] at hfit
  cases hfit
  rw [hsL_nil] at hts'
  cases hts'
  exact ⟨c', hc', by rw [fitE]⟩
 | m :: ts, s, A, q, cx, cx', c, r, i, ts', c', hS, hfit, hts', hc' => by
  obtain ⟨hck, A1, B1, s1, sm, u, hcts, hm, hA1, hu, hfit⟩ := fit_inv hfit
  obtain ⟨m', ts1, rfl, hm', hts'⟩ := hsL_some hts'
  rw [unT_4, Int.add_zero] at hm'
  obtain ⟨hc'k, A1', B1', s1', hcts', hA1', hB1'⟩ := hs_pi hck hc' hcts
  obtain ⟨u', hu1, hu2⟩ := comp sm σ B1 m s B1' u m' q 0 hS.1 (Int.le_refl 0) (by rw [Int.add_zero]; exact hB1') hu hm'
  rw [Int.add_zero] at hu2
  obtain ⟨r', hr1, hr2⟩ := sub_fit hK σ hσ ts s A q cx cx' u r (i + 1) ts1 u' hS hfit hts' hu2
  exact ⟨r', hr1, fit_of hc'k hcts' (sub_obj hK σ hσ m s A q cx cx' A1 m' A1' sm hS hm hA1 hm' hA1') (hs_smp hA1 hA1') hu1 hr2⟩
end
theorem sub_N {K : Krn} (hK : KClo K) : ∀ (N : Nat) (σ : Smp), SizeOf.sizeOf σ ≤ N → SubObj K σ
 | 0, σ, h => by cases σ; simp at h
 | N + 1, σ, h => sub_obj hK σ fun m hm => sub_N hK N m (by
   obtain ⟨xs, c⟩ := σ
   have := List.sizeOf_lt_of_mem hm
   simp [Smp.xs] at this h
   omega)
theorem subst_obj {K : Krn} (hK : KClo K) (σ : Smp) : SubObj K σ := sub_N hK _ σ (Nat.le_refl _)
end Go.Tr
/- Simple types: what is put in simply typed terms is there. -/
namespace Go.Tr
def lkS (G : List Smp) (n : Int) : Option Smp := if 0 ≤ n then G.reverse[n.toNat]? else none
theorem lkS_snoc (G : List Smp) (A : Smp) (n : Int) : lkS (G ++ [A]) n = if n = 0 then some A else lkS G (n - 1) := by
 unfold lkS
 rw [List.reverse_append, List.reverse_singleton, List.singleton_append]
 by_cases h : n = 0
 ·subst h
  rw [if_pos rfl, if_pos (Int.le_refl 0)]
  rfl
 ·rw [if_neg h]
  by_cases h0 : 0 ≤ n
  ·rw [if_pos h0, if_pos (by omega), show n.toNat = (n - 1).toNat + 1 by omega, List.getElem?_cons_succ]
  ·rw [if_neg h0, if_neg (by omega)]
def hdS (K : Krn) (G : List Smp) (l n : Int) : Option Smp :=
 if l = 1 then lkS G n else if l = 2 then (match K.sig[n.toNat]? with | some d => smpT d.c | none => none)
 else (match K.ms[n.toNat]? with | some d => smpT d.cl | none => none)
mutual
def sO (K : Krn) : Term → List Smp → List Smp → Int → Prop
 | .mk k _ _ ts, G, x :: S, c => k = 3 ∧ sOH K ts (G ++ [x]) S c
 | .mk k l n ts, G, [], c => k = 4 ∧ ∃ τ, hdS K G l n = some τ ∧ sL K ts G τ.xs ∧ τ.c = c
def sOH (K : Krn) : List Term → List Smp → List Smp → Int → Prop
 | [], _, _, _ => False
 | m :: r, G, S, c => r = [] ∧ sO K m G S c
def sL (K : Krn) : List Term → List Smp → List Smp → Prop
 | [], _, [] => True
 | m :: r, G, x :: S => sO K m G x.xs x.c ∧ sL K r G S
 | _, _, _ => False
end
def WkS (b q : Int) (G G' : List Smp) : Prop := 0 ≤ q ∧ (∀ n, n < q → lkS G' n = lkS G n) ∧ ∀ n, q ≤ n → lkS G' (n + b) = lkS G n
theorem WkS.snoc {b q : Int} (hb : 0 ≤ b) {G G' : List Smp} (h : WkS b q G G') (A : Smp) : WkS b (q + 1) (G ++ [A]) (G' ++ [A]) := by
 obtain ⟨h0, h1, h2⟩ := h
 refine ⟨by omega, fun n hn => ?_, fun n hn => ?_⟩
 ·rw [lkS_snoc, lkS_snoc]
  by_cases e : n = 0
  ·rw [if_pos e, if_pos e]
  ·rw [if_neg e, if_neg e, h1 _ (by omega)]
 ·rw [lkS_snoc, lkS_snoc, if_neg (by omega), if_neg (by omega), show n + b - 1 = n - 1 + b by omega, h2 _ (by omega)]
theorem WkS.one (G : List Smp) (B : Smp) : WkS 1 0 G (G ++ [B]) := by
 refine ⟨Int.le_refl 0, fun n hn => ?_, fun n hn => ?_⟩
 ·unfold lkS
  rw [if_neg (by omega), if_neg (by omega)]
 ·rw [lkS_snoc, if_neg (by omega), show n + 1 - 1 = n by omega]
theorem hdS_wk {K : Krn} {b q : Int} {G G' : List Smp} (h : WkS b q G G') (l n : Int) : hdS K G' l (shv b q 4 l n) = hdS K G l n := by
 obtain ⟨h0, h1, h2⟩ := h
 unfold hdS
 by_cases hl : l = 1
 ·rw [if_pos hl, if_pos hl]
  unfold shv
  by_cases hq : q ≤ n
  ·rw [if_pos ⟨rfl, hl, hq⟩, h2 n hq]
  ·rw [if_neg (by omega), h1 n (by omega)]
 ·rw [if_neg hl, if_neg hl, shv_42 _ _ _ _ _ (by omega)]
mutual
theorem sO_wk {K : Krn} {b : Int} (hb : 0 ≤ b) : ∀ (m : Term) (q : Int) (G G' S : List Smp) (c : Int), WkS b q G G' → sO K m G S c → sO K (sh b q m) G' S c
 | .mk k l n ts, q, G, G', x :: S, c, h, hm => by
  rw [sO] at hm
  obtain ⟨rfl, hm⟩ := hm
  rw [sh, sO]
  refine ⟨rfl, ?_⟩
  match ts, hm with
  | m :: r, hm =>
   rw [sOH] at hm
   obtain ⟨rfl, hm⟩ := hm
   rw [shL, shL, sOH]
   exact ⟨rfl, sO_wk hb m (q + unT 3 0) _ _ S c (h.snoc hb x) hm⟩
 | .mk k l n ts, q, G, G', [], c, h, hm => by
  rw [sO] at hm
  obtain ⟨rfl, τ, h1, h2, h3⟩ := hm
  rw [sh, sO]
  refine ⟨rfl, τ, by rw [hdS_wk h]; exact h1, ?_, h3⟩
  rw [shL_4]
  exact sL_wk hb ts q G G' τ.xs h h2
theorem sL_wk {K : Krn} {b : Int} (hb : 0 ≤ b) : ∀ (ts : List Term) (q : Int) (G G' S : List Smp), WkS b q G G' → sL K ts G S → sL K (ts.map (sh b q)) G' S
 | [], q, G, G', [], h, hm => by rw [List.map_nil, sL]; trivial
 | [], q, G, G', x :: S, h, hm => by rw [sL] at hm; exact hm.elim; all_goals simp
 | m :: r, q, G, G', [], h, hm => by rw [sL] at hm; exact hm.elim; all_goals simp
 | m :: r, q, G, G', x :: S, h, hm => by
  rw [sL] at hm
  rw [List.map_cons, sL]
  exact ⟨sO_wk hb m q G G' x.xs x.c h hm.1, sL_wk hb r q G G' S h hm.2⟩
end
def SbS (K : Krn) (τ : Smp) (s : Term) (q : Int) (G G' : List Smp) : Prop :=
 0 ≤ q ∧ (∀ n, n < q → lkS G' n = lkS G n) ∧ (∀ n, q < n → lkS G' (n - 1) = lkS G n) ∧ lkS G q = some τ ∧ sO K (sh q 0 s) G' τ.xs τ.c
theorem SbS.snoc {K : Krn} {τ : Smp} {s : Term} {q : Int} {G G' : List Smp} (h : SbS K τ s q G G') (x : Smp) : SbS K τ s (q + 1) (G ++ [x]) (G' ++ [x]) := by
 obtain ⟨h0, h1, h2, h3, h4⟩ := h
 refine ⟨by omega, fun n hn => ?_, fun n hn => ?_, ?_, ?_⟩
 ·rw [lkS_snoc, lkS_snoc]
  by_cases e : n = 0
  ·rw [if_pos e, if_pos e]
  ·rw [if_neg e, if_neg e, h1 _ (by omega)]
 ·rw [lkS_snoc, lkS_snoc, if_neg (by omega), if_neg (by omega)]
  exact h2 (n - 1) (by omega)
 ·rw [lkS_snoc, if_neg (by omega), show q + 1 - 1 = q by omega]
  exact h3
 ·have h6 := sO_wk (K := K) (show (0 : Int) ≤ 1 by decide) (sh q 0 s) 0 G' (G' ++ [x]) τ.xs τ.c (WkS.one G' x) h4
  rw [sh_add s 0 0 (Int.le_refl 0) (by omega), show 1 + q = q + 1 by omega] at h6
  exact h6
def SubSm (K : Krn) (τ : Smp) : Prop := ∀ (m s : Term) (q : Int) (G G' S : List Smp) (c : Int), SbS K τ s q G G' → sO K m G S c → ∃ m', hsT τ s q m = some m' ∧ sO K m' G' S c
theorem app_sm {K : Krn} : ∀ {S : List Smp}, (∀ m ∈ S, SubSm K m) → ∀ {ys : List Term} {G : List Smp} {f : Term} {c : Int}, sO K f G S c → sL K ys G S → ∃ v, hsA S f ys = some v ∧ sO K v G [] c
 | [], hS, [], G, f, c, hf, hy => ⟨f, hsA_nil _ _, hf⟩
 | [], hS, y :: ys, G, f, c, hf, hy => by rw [sL] at hy; exact hy.elim; all_goals simp
 | x :: S, hS, [], G, f, c, hf, hy => by rw [sL] at hy; exact hy.elim; all_goals simp
 | x :: S, hS, y :: ys, G, f, c, hf, hy => by
  rw [sL] at hy
  obtain ⟨k, l, n, ts⟩ := f
  rw [sO] at hf
  obtain ⟨rfl, hf⟩ := hf
  match ts, hf with
  | b :: r, hf =>
   rw [sOH] at hf
   obtain ⟨rfl, hf⟩ := hf
   have hsb : SbS K x y 0 (G ++ [x]) G := by
    refine ⟨Int.le_refl 0, fun n hn => ?_, fun n hn => ?_, ?_, ?_⟩
    ·rw [lkS_snoc, if_neg (by omega)]
     unfold lkS
     rw [if_neg (by omega), if_neg (by omega)]
    ·rw [lkS_snoc, if_neg (by omega)]
    ·rw [lkS_snoc, if_pos rfl]
    ·rw [sh_zero]; exact hy.1
   obtain ⟨u, hu1, hu2⟩ := hS x (List.mem_cons_self ..) b y 0 (G ++ [x]) G S c hsb hf
   obtain ⟨v, hv1, hv2⟩ := app_sm (fun m hm => hS m (List.mem_cons_of_mem _ hm)) hu2 hy.2
   exact ⟨v, by rw [hsA_of (f := .mk 3 l n [b]) rfl rfl hu1]; exact hv1, hv2⟩
mutual
theorem sub_sm {K : Krn} (τ : Smp) (hτ : ∀ m ∈ τ.xs, SubSm K m) : ∀ (m s : Term) (q : Int) (G G' S : List Smp) (c : Int), SbS K τ s q G G' → sO K m G S c → ∃ m', hsT τ s q m = some m' ∧ sO K m' G' S c
 | .mk k l n ts, s, q, G, G', x :: S, c, h, hm => by
  rw [sO] at hm
  obtain ⟨rfl, hm⟩ := hm
  match ts, hm with
  | b :: r, hm =>
   rw [sOH] at hm
   obtain ⟨rfl, hm⟩ := hm
   obtain ⟨u, hu1, hu2⟩ := sub_sm τ hτ b s (q + 1) _ _ S c (h.snoc x) hm
   refine ⟨.mk 3 l n [u], hsT_rig (hsL_of (show hsT τ s (q + unT 3 0) b = some u from hu1) (hsL_nil _ _ _ _ _)) (by omega), ?_⟩
   rw [sO]
   refine ⟨rfl, ?_⟩
   rw [sOH]
   exact ⟨rfl, hu2⟩
 | .mk k l n ts, s, q, G, G', [], c, h, hm => by
  rw [sO] at hm
  obtain ⟨rfl, ρ, h1, h2, h3⟩ := hm
  obtain ⟨us, hu1, hu2⟩ := sub_smL τ hτ ts s q G G' ρ.xs 0 h h2
  obtain ⟨h0, g1, g2, g3, g4⟩ := id h
  by_cases hl : l = 1
  ·subst hl
   unfold hdS at h1
   rw [if_pos rfl] at h1
   rcases Int.lt_trichotomy n q with hn | hn | hn
   ·refine ⟨_, hsT_lt hu1 hn, ?_⟩
    rw [sO]
    refine ⟨rfl, ρ, ?_, hu2, h3⟩
    unfold hdS
    rw [if_pos rfl, g1 n hn]
    exact h1
   ·subst hn
    rw [g3] at h1
    cases h1
    rw [hsT_hd hu1]
    rw [← h3]
    exact app_sm hτ g4 hu2
   ·refine ⟨_, hsT_gt hu1 hn, ?_⟩
    rw [sO]
    refine ⟨rfl, ρ, ?_, hu2, h3⟩
    unfold hdS
    rw [if_pos rfl, g2 n hn]
    exact h1
  ·refine ⟨_, hsT_rig hu1 (by omega), ?_⟩
   rw [sO]
   refine ⟨rfl, ρ, ?_, hu2, h3⟩
   unfold hdS at h1 ⊢
   rw [if_neg hl] at h1 ⊢
   exact h1
theorem sub_smL {K : Krn} (τ : Smp) (hτ : ∀ m ∈ τ.xs, SubSm K m) : ∀ (ts : List Term) (s : Term) (q : Int) (G G' S : List Smp) (i : Int), SbS K τ s q G G' → sL K ts G S → ∃ us, hsL τ s q 4 i ts = some us ∧ sL K us G' S
 | [], s, q, G, G', [], i, h, hm => ⟨[], hsL_nil _ _ _ _ _, by rw [sL]; trivial⟩
 | [], s, q, G, G', x :: S, i, h, hm => by rw [sL] at hm; exact hm.elim; all_goals simp
 | m :: r, s, q, G, G', [], i, h, hm => by rw [sL] at hm; exact hm.elim; all_goals simp
 | m :: r, s, q, G, G', x :: S, i, h, hm => by
  rw [sL] at hm
  obtain ⟨u, hu1, hu2⟩ := sub_sm τ hτ m s q G G' x.xs x.c h hm.1
  obtain ⟨us, hv1, hv2⟩ := sub_smL τ hτ r s q G G' S (i + 1) h hm.2
  exact ⟨u :: us, hsL_of (by rw [unT_4, Int.add_zero]; exact hu1) hv1, by rw [sL]; exact ⟨hu2, hv2⟩⟩
end
theorem sub_smN {K : Krn} : ∀ (N : Nat) (τ : Smp), SizeOf.sizeOf τ ≤ N → SubSm K τ
 | 0, τ, h => by cases τ; simp at h
 | N + 1, τ, h => sub_sm τ fun m hm => sub_smN N m (by
   obtain ⟨xs, c⟩ := τ
   have := List.sizeOf_lt_of_mem hm
   simp [Smp.xs] at this h
   omega)
theorem subst_sm {K : Krn} (τ : Smp) : SubSm K τ := sub_smN _ τ (Nat.le_refl _)
def ErC (cx : List Term) (G : List Smp) : Prop := ∀ n t, lkC cx n = some t → ∃ σ, smpT t = some σ ∧ lkS G n = some σ
theorem ErC.snoc {cx : List Term} {G : List Smp} (h : ErC cx G) {A : Term} {x : Smp} (hA : smpT A = some x) : ErC (cx ++ [A]) (G ++ [x]) := by
 intro n t ht
 rw [lkC_snoc] at ht
 rw [lkS_snoc]
 by_cases e : n = 0
 ·rw [if_pos e] at ht ⊢
  cases ht
  exact ⟨x, hA, rfl⟩
 ·rw [if_neg e] at ht ⊢
  exact h _ _ ht
def KSm (K : Krn) : Prop := (∀ d ∈ K.sig, kindT d.c = false → ∃ σ, smpT d.c = some σ) ∧ ∀ m ∈ K.ms, ∃ σ, smpT m.cl = some σ
theorem hdS_of {K : Krn} (hK : KSm K) {cx : List Term} {G : List Smp} (hG : ErC cx G) {l n : Int} {c : Term} (h : clsE K cx l n = (c, 0)) : ∃ τ, hdS K G l n = some τ ∧ smpT c = some τ := by
 unfold clsE at h
 unfold hdS
 by_cases hl : l = 1
 ·rw [if_pos hl] at h ⊢
  cases ht : lkC cx n with
  | none => rw [ht] at h; cases h
  | some t =>
   rw [ht] at h
   cases h
   obtain ⟨σ, h1, h2⟩ := hG n t ht
   exact ⟨σ, h2, by rw [sh_smp]; exact h1⟩
 ·rw [if_neg hl] at h ⊢
  by_cases hl2 : l = 2
  ·rw [if_pos hl2] at h ⊢
   cases hd : K.sig[n.toNat]? with
   | none => rw [hd] at h; cases h
   | some d =>
    rw [hd] at h
    simp only at h ⊢
    by_cases hk : kindT d.c = true
    ·rw [if_pos hk] at h
     cases h
    ·rw [if_neg hk] at h
     cases h
     obtain ⟨σ, h1⟩ := hK.1 d (List.mem_of_getElem? hd) (by simpa using hk)
     exact ⟨σ, h1, h1⟩
  ·rw [if_neg hl2] at h ⊢
   cases hd : K.ms[n.toNat]? with
   | none => rw [hd] at h; cases h
   | some d =>
    rw [hd] at h
    cases h
    obtain ⟨σ, h1⟩ := hK.2 d (List.mem_of_getElem? hd)
    exact ⟨σ, h1, h1⟩
theorem fit_c {K : Krn} {cx : List Term} : ∀ (ts : List Term) {c r : Term} {τ ρ : Smp}, fitE K ts cx c = (r, 0) → smpT c = some τ → smpT r = some ρ → ρ.c = τ.c
 | [], c, r, τ, ρ, h, hc, hr => by
  rw [fitE] at h
  cases h
  rw [hc] at hr
  cases hr
  rfl
 | m :: ts, c, r, τ, ρ, h, hc, hr => by
  obtain ⟨hck, A, B, s, sm, u, hcts, hm, hA, hu, hfit⟩ := fit_inv h
  obtain ⟨A2, B2, s2, x, z, hts2, hx2, hz2, rfl⟩ := smp_pi_inv hck hc
  rw [hcts] at hts2
  cases hts2
  show ρ.c = z.c
  exact fit_c (τ := z) ts hfit (hs_smp hz2 hu) hr
mutual
theorem obj_sm {K : Krn} (hK : KSm K) : ∀ (m : Term) (cx : List Term) (a : Term) (G : List Smp) (ρ : Smp), fmT m 1 = true → ErC cx G → objE K m cx a = 0 → smpT a = some ρ → sO K m G ρ.xs ρ.c
 | .mk k l n ts, cx, a, G, ρ, hfm, hG, h, hρ => by
  rcases obj_k h with ha | ha
  ·obtain ⟨l2, n2, b, r, A, B, s, he, hts, hb⟩ := obj_lam_inv h ha
   rw [Term.mk.injEq] at he
   obtain ⟨rfl, rfl, rfl, rfl⟩ := he
   obtain ⟨A2, B2, s2, x, z, hts2, hx2, hz2, rfl⟩ := smp_pi_inv ha hρ
   rw [hts] at hts2
   cases hts2
   obtain ⟨_, _, b2, he2, hb2⟩ := fm_lam hfm
   cases he2
   simp only [Smp.xs, Smp.c]
   rw [sO]
   refine ⟨rfl, ?_⟩
   rw [sOH]
   exact ⟨rfl, obj_sm hK b (cx ++ [A]) B (G ++ [x]) z (fm_mono b 2 1 hb2 (by omega)) (hG.snoc hx2) hb hz2⟩
  ·obtain ⟨l2, n2, ts2, c, he, hc, hfit⟩ := obj_app_inv h ha
   rw [Term.mk.injEq] at he
   obtain ⟨rfl, rfl, rfl, rfl⟩ := he
   obtain ⟨_, rfl⟩ := smp_4_inv ha hρ
   obtain ⟨τ, h1, h2⟩ := hdS_of hK hG hc
   simp only [Smp.xs, Smp.c]
   rw [sO]
   refine ⟨rfl, τ, h1, ?_⟩
   unfold fmT at hfm
   simp only [Bool.and_eq_true] at hfm
   have h3 := fit_sm hK ts cx c a G τ (fun t ht => fm_mono t 2 1 (fmL_mem4 ts 1 hfm.2 t ht) (by omega)) hG hfit h2 ha
   exact ⟨h3, (fit_c ts hfit h2 hρ).symm⟩
theorem fit_sm {K : Krn} (hK : KSm K) : ∀ (ts cx : List Term) (c r : Term) (G : List Smp) (τ : Smp), (∀ t ∈ ts, fmT t 1 = true) → ErC cx G → fitE K ts cx c = (r, 0) → smpT c = some τ → r.k = 4 → sL K ts G τ.xs
 | [], cx, c, r, G, τ, hfm, hG, h, hc, hr => by
  rw [fitE] at h
  cases h
  obtain ⟨_, rfl⟩ := smp_4_inv hr hc
  rw [show (Smp.mk [] c.n).xs = [] from rfl, sL]
  trivial
 | m :: ts, cx, c, r, G, τ, hfm, hG, h, hc, hr => by
  obtain ⟨hck, A, B, s, sm, u, hcts, hm, hA, hu, hfit⟩ := fit_inv h
  obtain ⟨A2, B2, s2, x, z, hts2, hx2, hz2, rfl⟩ := smp_pi_inv hck hc
  rw [hcts] at hts2
  cases hts2
  rw [hA] at hx2
  cases hx2
  have h1 := obj_sm hK m cx A G sm (hfm m (List.mem_cons_self ..)) hG hm hA
  have h2 := fit_sm hK ts cx u r G z (fun t ht => hfm t (List.mem_cons_of_mem _ ht)) hG hfit (hs_smp hz2 hu) hr
  rw [show (Smp.mk (sm :: z.xs) z.c).xs = sm :: z.xs from rfl, sL]
  exact ⟨h1, h2⟩
end
end Go.Tr
/- The kernel never says ErrArg; the beginnings of a signature. -/
namespace Go.Tr
theorem KOk.take6 {sig : List Dcl} (h : checkB sig = true) (j : Nat) : KOk ⟨sig.take j, []⟩ := by
 have h1 := check_prop h
 have h2 := check_len h
 exact ⟨fun e he => h1 e (List.mem_of_mem_take he), fun m hm => (nomatch hm), by simp only [List.length_take]; omega, by simp⟩
end Go.Tr
/- The kernel under other numbers of constants. -/
namespace Go.Tr
mutual
def rnS (f : Int → Int) : Smp → Smp
 | .mk xs c => .mk (rnSL f xs) (f c)
def rnSL (f : Int → Int) : List Smp → List Smp
 | [] => []
 | a :: r => rnS f a :: rnSL f r
end
theorem rnS_xs (f : Int → Int) (s : Smp) : (rnS f s).xs = rnSL f s.xs := by cases s; rw [rnS]; rfl
theorem rnT_mk (f : Int → Int) (k l n : Int) (ts : List Term) (h : ¬ (k = 4 ∧ l = 2)) : rnT f (.mk k l n ts) = .mk k l n (rnL f ts) := by
 rw [rnT]
 have : (decide (k = 4) && decide (l = 2)) = false := by
  by_cases h4 : k = 4
  ·have : ¬ l = 2 := fun e => h ⟨h4, e⟩
   simp [this]
  ·simp [h4]
 rw [this]
theorem rnT_42 (f : Int → Int) (n : Int) (ts : List Term) : rnT f (.mk 4 2 n ts) = .mk 4 2 (f n) (rnL f ts) := by
 rw [rnT]
 rfl
theorem rnT_ts (f : Int → Int) (t : Term) : (rnT f t).ts = rnL f t.ts := by cases t; rw [rnT]; rfl
theorem cnT_mk (k l n : Int) (ts : List Term) {z : Int} (h : z ∈ cnL ts) : z ∈ cnT (.mk k l n ts) := by
 rw [cnT]
 exact List.mem_append.2 (.inr h)
theorem cnT_no {k l n : Int} {ts : List Term} (h : ¬ (k = 4 ∧ l = 2)) : cnT (.mk k l n ts) = cnL ts := by
 rw [cnT]
 have : (decide (k = 4) && decide (l = 2)) = false := by
  by_cases h4 : k = 4
  ·have : ¬ l = 2 := fun e => h ⟨h4, e⟩
   simp [this]
  ·simp [h4]
 rw [this]
 rfl
mutual
theorem rn_sh (f : Int → Int) (b : Int) : ∀ (t : Term) (c : Int), rnT f (sh b c t) = sh b c (rnT f t)
 | .mk k l n ts, c => by
  by_cases h : k = 4 ∧ l = 2
  ·obtain ⟨rfl, rfl⟩ := h
   rw [sh, rnT_42, rnT_42, sh, rnL_sh f b 4 ts 0 c, shv_42 _ _ _ _ _ (by omega), shv_42 _ _ _ _ _ (by omega)]
  ·rw [sh, rnT_mk f k l _ _ h, rnT_mk f k l _ _ h, sh, rnL_sh f b k ts 0 c]
theorem rnL_sh (f : Int → Int) (b k : Int) : ∀ (ts : List Term) (i c : Int), rnL f (shL b k c i ts) = shL b k c i (rnL f ts)
 | [], i, c => by rw [shL, rnL, shL]
 | t :: r, i, c => by rw [shL, rnL, rnL, shL, rn_sh f b t, rnL_sh f b k r]
end
mutual
theorem sh_cn (b : Int) : ∀ (t : Term) (c : Int), cnT (sh b c t) = cnT t
 | .mk k l n ts, c => by
  by_cases h : k = 4 ∧ l = 2
  ·rw [sh, cnT, cnT, shL_cn b k ts 0 c, shv_42 _ _ _ _ _ (by omega)]
  ·rw [sh, cnT_no h, cnT_no h, shL_cn b k ts 0 c]
theorem shL_cn (b k : Int) : ∀ (ts : List Term) (i c : Int), cnL (shL b k c i ts) = cnL ts
 | [], i, c => by rw [shL]
 | t :: r, i, c => by rw [shL, cnL, cnL, sh_cn b t, shL_cn b k r]
end
theorem smp_rn (f : Int → Int) : ∀ (t : Term), smpT (rnT f t) = (smpT t).map (rnS f)
 | .mk k l n [] => by
  by_cases h : k = 4 ∧ l = 2
  ·obtain ⟨rfl, rfl⟩ := h
   rw [rnT_42, smpT_42, smpT_42]
   rfl
  ·rw [rnT_mk f k l n _ h, rnL, smpT_nil, if_neg h]
   rfl
 | .mk k l n [a] => by
  by_cases h : k = 4 ∧ l = 2
  ·obtain ⟨rfl, rfl⟩ := h
   rw [rnT_42, smpT_42, smpT_42]
   rfl
  ·rw [rnT_mk f k l n _ h, rnL, rnL, smpT_one, smpT_one, if_neg h]
   rfl
 | .mk k l n (a :: x :: r) => by
  by_cases h : k = 4 ∧ l = 2
  ·obtain ⟨rfl, rfl⟩ := h
   rw [rnT_42, smpT_42, smpT_42]
   rfl
  ·rw [rnT_mk f k l n _ h, rnL, rnL, smpT_two, smpT_two, if_neg h, if_neg h, smp_rn f a, smp_rn f x]
   split
   ·cases smpT a with
    | none => rfl
    | some p =>
     cases smpT x with
     | none => rfl
     | some q =>
      obtain ⟨q1, q2⟩ := q
      simp only [Option.map, rnS, rnSL, Smp.xs, Smp.c]
   ·rfl
 termination_by t => SizeOf.sizeOf t
 decreasing_by all_goals (simp; omega)
section
variable {f : Int → Int} (hf : ∀ x, 0 ≤ x → x ≤ 9999 → 0 ≤ f x ∧ f x ≤ 9999)
include hf
theorem rn_prop' {t : Term} (hp : prop t = true) : prop (rnT f t) = true :=
 rn_prop (fun x hx => hf x (prop_cn hp x hx).1 (prop_cn hp x hx).2) hp
theorem whole_rn {t u : Term} {s s' : Int} (h : wholeR t s = .ok u s') : wholeR (rnT f t) s = .ok (rnT f u) s' := by
 obtain ⟨h1, rfl, rfl⟩ := wholeR_ok h
 unfold wholeR
 rw [rn_prop' hf h1]
omit hf in
theorem putArgs_rn {F F' : Int → Term → Int → SbR} {x : Term} {k n : Int} (hF : ∀ s t n u s', F s t n = .ok u s' → F' s (rnT f t) n = .ok (rnT f u) s' ∧ ∀ z ∈ cnT u, z ∈ cnT t ∨ z ∈ cnT x) : ∀ {ts : List Term} {i s : Int} {us : List Term} {s' : Int}, putArgs F k n i ts s = .ok us s' → putArgs F' k n i (rnL f ts) s = .ok (rnL f us) s' ∧ ∀ z ∈ cnL us, z ∈ cnL ts ∨ z ∈ cnT x
 | [], i, s, us, s', h => by
  rw [putArgs] at h
  cases h
  rw [rnL, putArgs]
  exact ⟨rfl, fun z hz => .inl hz⟩
 | t :: r, i, s, us, s', h => by
  rw [putArgs] at h
  split at h
  ·cases h
  ·rename_i u s1 hu
   split at h
   ·cases h
   ·rename_i us2 s2 hus
    cases h
    obtain ⟨h1, h2⟩ := hF _ _ _ _ _ hu
    obtain ⟨h3, h4⟩ := putArgs_rn hF hus
    rw [rnL, putArgs, h1]
    simp only
    rw [h3]
    refine ⟨by rw [rnL], fun z hz => ?_⟩
    rw [cnL] at hz ⊢
    rcases List.mem_append.1 hz with hz | hz
    ·exact (h2 z hz).imp (fun h => List.mem_append.2 (.inl h)) id
    ·exact (h4 z hz).imp (fun h => List.mem_append.2 (.inr h)) id
theorem appR_rn {F F' : Int → Term → Term → Smp → SbR} (hF : ∀ s b y m u s', F s b y m = .ok u s' → F' s (rnT f b) (rnT f y) (rnS f m) = .ok (rnT f u) s' ∧ ∀ z ∈ cnT u, z ∈ cnT b ∨ z ∈ cnT y) : ∀ {ys : List Term} {g : Term} {S : List Smp} {s : Int} {u : Term} {s' : Int}, appR F g ys S s = .ok u s' → appR F' (rnT f g) (rnL f ys) (rnSL f S) s = .ok (rnT f u) s' ∧ ∀ z ∈ cnT u, z ∈ cnT g ∨ z ∈ cnL ys
 | [], g, S, s, u, s', h => by
  rw [appR] at h
  rw [rnL, appR]
  obtain ⟨_, h1, _⟩ := wholeR_ok h
  exact ⟨whole_rn hf h, fun z hz => .inl (by rw [← h1]; exact hz)⟩
 | y :: ys, g, S, s, u, s', h => by
  rw [appR_cons] at h
  split at h
  ·rename_i b r m S' hk hts
   split at h
   ·cases h
   ·rename_i v s1 hv
    obtain ⟨h1, h2⟩ := hF _ _ _ _ _ _ hv
    obtain ⟨h3, h4⟩ := appR_rn hF h
    rw [rnL, appR_cons, rnT_k, hk, rnT_ts, hts, rnL, rnSL]
    simp only
    rw [h1]
    refine ⟨h3, fun z hz => ?_⟩
    rw [cnL]
    rcases h4 z hz with hz | hz
    ·rcases h2 z hz with hz | hz
     ·left
      obtain ⟨k, l, n, ts⟩ := g
      replace hts : ts = b :: r := hts
      subst hts
      exact cnT_mk k l n _ (by rw [cnL]; exact List.mem_append.2 (.inl hz))
     ·exact .inr (List.mem_append.2 (.inl hz))
    ·exact .inr (List.mem_append.2 (.inr hz))
  ·cases h
theorem put_rn : ∀ (g : Nat) {s : Int} {t : Term} {n : Int} {x : Term} {sm : Smp} {u : Term} {s' : Int}, putT g s t n x sm = .ok u s' → putT g s (rnT f t) n (rnT f x) (rnS f sm) = .ok (rnT f u) s' ∧ ∀ z ∈ cnT u, z ∈ cnT t ∨ z ∈ cnT x
 | 0, s, t, n, x, sm, u, s', h => by
  rw [putT] at h
  cases h
 | g + 1, s, .mk k l m ts, n, x, sm, u, s', h => by
  rw [putT] at h
  split at h
  ·cases h
  ·rename_i hs
   split at h
   ·cases h
   ·rename_i us s1 hus
    obtain ⟨h1, h2⟩ := putArgs_rn (f := f) (F' := fun s u n => putT g s u n (rnT f x) (rnS f sm)) (x := x) (fun s t n u s' h => put_rn g h) hus
    have hlift : ∀ z ∈ cnL us, z ∈ cnT (.mk k l m ts) ∨ z ∈ cnT x := fun z hz => (h2 z hz).imp (cnT_mk k l m ts) id
    by_cases h42 : k = 4 ∧ l = 2
    ·obtain ⟨rfl, rfl⟩ := h42
     rw [rnT_42, putT, hs]
     simp only
     rw [h1]
     simp only at h ⊢
     have hw : wholeR (.mk 4 2 m us) s1 = .ok u s' := h
     have := whole_rn hf hw
     rw [rnT_42] at this
     refine ⟨this, fun z hz => ?_⟩
     obtain ⟨_, hu, _⟩ := wholeR_ok hw
     rw [hu, cnT] at hz
     rcases List.mem_append.1 hz with hz | hz
     ·left
      rw [cnT]
      exact List.mem_append.2 (.inl hz)
     ·exact hlift z hz
    ·rw [rnT_mk f k l m ts h42, putT, hs]
     simp only
     rw [h1]
     simp only at h ⊢
     split at h
     ·rename_i hc
      try rw [hc]
      have := whole_rn hf h
      rw [rnT_mk f k l m us h42] at this
      refine ⟨this, fun z hz => ?_⟩
      obtain ⟨_, hu, _⟩ := wholeR_ok h
      rw [hu, cnT_no h42] at hz
      exact hlift z hz
     ·rename_i hc
      try rw [hc]
      try simp only
      split at h
      ·rename_i hd
       try rw [hd]
       have := whole_rn hf h
       rw [rnT_mk f k l (m - 1) us h42] at this
       refine ⟨this, fun z hz => ?_⟩
       obtain ⟨_, hu, _⟩ := wholeR_ok h
       rw [hu, cnT_no h42] at hz
       exact hlift z hz
      ·rename_i hd
       try rw [hd]
       try simp only
       split at h
       ·cases h
       ·rename_i hp
        have e : raisedT (rnT f x) n = rnT f (raisedT x n) := by rw [raised_sh, raised_sh, rn_sh]
        rw [e, rn_prop' hf hp]
        simp only
        rw [rnS_xs]
        obtain ⟨h3, h4⟩ := appR_rn hf (F' := fun s b y sm => putT g s b 0 y sm) (fun s b y m u s' h => put_rn g h) h
        refine ⟨h3, fun z hz => ?_⟩
        rcases h4 z hz with hz | hz
        ·rw [raised_sh, sh_cn] at hz
         exact .inr hz
        ·exact hlift z hz
end
end Go.Tr
/- What the kernel accepts, it accepts under other numbers of constants. -/
namespace Go.Tr
set_option linter.unusedSectionVars false
def cnP (P : Int → Prop) (t : Term) : Prop := ∀ z ∈ cnT t, P z
def RnK (f : Int → Int) (P : Int → Prop) (K K' : Krn) : Prop := (∀ x d, P x → 0 ≤ x → K.sig[x.toNat]? = some d → ∃ d', K'.sig[(f x).toNat]? = some d' ∧ d'.c = rnT f d.c ∧ cnP P d.c) ∧ K.ms = []
section
variable {f : Int → Int} (hf : ∀ x, 0 ≤ x → x ≤ 9999 → 0 ≤ f x ∧ f x ≤ 9999) {P : Int → Prop} {K K' : Krn}
include hf
theorem inst_rn {A B m : Term} (hc : prop (.mk 2 0 0 [A, B]) = true) (hm : prop m = true) (h : (instR (.mk 2 0 0 [A, B]) [m]).2 = 0) (hP : cnP P (.mk 2 0 0 [A, B])) (hPm : cnP P m) :
  instR (.mk 2 0 0 [rnT f A, rnT f B]) [rnT f m] = (rnT f (instR (.mk 2 0 0 [A, B]) [m]).1, 0) ∧ cnP P (instR (.mk 2 0 0 [A, B]) [m]).1 := by
 have e : rnT f (.mk 2 0 0 [A, B]) = .mk 2 0 0 [rnT f A, rnT f B] := by rw [rnT_mk f 2 0 0 _ (by decide), rnL, rnL, rnL]
 have hc' := rn_prop' hf hc
 have hm' := rn_prop' hf hm
 rw [e] at hc'
 unfold instR at h ⊢
 rw [hc] at h
 rw [hc', hc]
 simp only [List.all_cons, hm, hm', List.all_nil, List.length_cons, List.length_nil, Bool.true_and, Bool.and_true, show decide ((0 + 1 : Nat) ≤ 600) = true from rfl, instL] at h ⊢
 unfold stepR at h ⊢
 simp only [Term.k, Term.ts, decide_true] at h ⊢
 rw [smp_rn]
 cases hA : smpT A with
 | none => rw [hA] at h; simp at h
 | some sm =>
  rw [hA] at h
  simp only [Option.map] at h ⊢
  cases hp : putT 20001 0 B 0 m sm with
  | er e =>
   rw [hp] at h
   exact absurd h (putT_er _ hp)
  | ok u s1 =>
   obtain ⟨h1, h2⟩ := put_rn hf _ hp
   rw [h1]
   refine ⟨rfl, fun z hz => ?_⟩
   rcases h2 z hz with hz | hz
   ·exact hP z (cnT_mk 2 0 0 _ (by rw [cnL, cnL]; exact List.mem_append.2 (.inr (List.mem_append.2 (.inl hz)))))
   ·exact hPm z hz
theorem cls_rn (hK : RnK f P K K') (hKO : KOk K) {cx : List Term} (hc : COk cx) (hP : ∀ t ∈ cx, cnP P t) {l n : Int} (h0 : 0 ≤ n) (h1 : n ≤ 9999) (hn : l = 2 → P n) (h : (clsF K cx l n).2 = 0) :
  clsF K' (cx.map (rnT f)) l (if l = 2 then f n else n) = (rnT f (clsF K cx l n).1, 0) ∧ cnP P (clsF K cx l n).1 := by
 unfold clsF at h ⊢
 by_cases hl : l = 1
 ·rw [if_pos hl] at h
  rw [if_pos hl, if_pos hl, if_neg (by omega), List.length_map, List.getElem?_map]
  cases ht : cx[cx.length - 1 - n.toNat]? with
  | none => rw [ht] at h; cases h
  | some t =>
   rw [ht] at h
   simp only [Option.map] at h ⊢
   by_cases hlt : n < cx.length
   ·rw [if_pos hlt] at h
    rw [if_pos hlt, if_pos hlt]
    have hp := hc.1 t (List.mem_of_getElem? ht)
    have hcl := hc.2
    rw [shift_up t hp (n + 1) (by omega)] at h ⊢
    rw [shift_up (rnT f t) (rn_prop' hf hp) (n + 1) (by omega)]
    have e : raisedT (rnT f t) (n + 1) = rnT f (raisedT t (n + 1)) := by rw [raised_sh, raised_sh, rn_sh]
    cases hr : prop (raisedT t (n + 1)) with
    | true =>
     rw [e, rn_prop' hf hr]
     refine ⟨rfl, fun z hz => ?_⟩
     simp only at hz
     rw [raised_sh, sh_cn] at hz
     exact hP t (List.mem_of_getElem? ht) z hz
    | false => rw [hr] at h; cases h
   ·rw [if_neg hlt] at h
    cases h
 ·rw [if_neg hl] at h
  rw [if_neg hl, if_neg hl]
  by_cases hl2 : l = 2
  ·rw [if_pos hl2] at h
   rw [if_pos hl2, if_pos hl2, if_pos hl2]
   cases hd : K.sig[n.toNat]? with
   | none => rw [hd] at h; cases h
   | some d =>
    rw [hd] at h
    simp only at h ⊢
    obtain ⟨d', h2, h3, h4⟩ := hK.1 n d (hn hl2) h0 hd
    rw [h2]
    simp only
    rw [h3, rn_kind]
    by_cases hk : kindT d.c = true
    ·rw [if_pos hk] at h
     cases h
    ·rw [if_neg hk, if_neg hk]
     exact ⟨rfl, h4⟩
  ·rw [if_neg hl2, hK.2] at h
   simp at h
theorem cnP_mk {k l n : Int} {ts : List Term} (h : cnP P (.mk k l n ts)) : ∀ t ∈ ts, cnP P t := by
 intro t ht z hz
 refine h z (cnT_mk k l n ts ?_)
 clear h
 induction ts with
 | nil => cases ht
 | cons a r ih =>
  rw [cnL]
  rcases List.mem_cons.1 ht with rfl | ht
  ·exact List.mem_append.2 (.inl hz)
  ·exact List.mem_append.2 (.inr (ih ht))
theorem rest_z {p : Term × Int} (h : (restF p).2 = 0) : p.2 = 0 ∧ p.1.k ≠ 2 ∧ restF p = p := by
 unfold restF at h ⊢
 by_cases h1 : p.2 ≠ 0
 ·rw [if_pos h1] at h
  exact absurd h h1
 ·rw [if_neg h1] at h ⊢
  by_cases h2 : p.1.k = 2
  ·rw [if_pos h2] at h
   cases h
  ·rw [if_neg h2]
   exact ⟨by omega, h2, Prod.ext rfl (show 0 = p.2 by omega)⟩
theorem app_z {c : Term × Int} {g : Term → Term × Int} (h : (appF c g).2 = 0) : c.2 = 0 ∧ (g c.1).2 = 0 ∧ (g c.1).1.k ≠ 2 ∧ appF c g = g c.1 := by
 unfold appF at h ⊢
 by_cases h1 : c.2 ≠ 0
 ·rw [if_pos h1] at h
  exact absurd h h1
 ·rw [if_neg h1] at h ⊢
  obtain ⟨h2, h3, h4⟩ := rest_z hf h
  exact ⟨by omega, h2, h3, h4⟩
theorem eq_z {a : Term} {p : Term × Int} (h : eqF a p = 0) : p.2 = 0 ∧ a = p.1 := by
 unfold eqF at h
 by_cases h1 : p.2 ≠ 0
 ·rw [if_pos h1] at h
  exact absurd h h1
 ·rw [if_neg h1] at h
  by_cases h2 : sameT a p.1 = true
  ·exact ⟨by omega, (sameT_iff _ _).1 h2⟩
  ·rw [if_neg h2] at h
   cases h
mutual
theorem obj_rn (hK : RnK f P K K') (hKO : KOk K) : ∀ (m : Term) (cx : List Term) (a : Term), COk cx → (∀ t ∈ cx, cnP P t) → prop m = true → prop a = true → cnP P m → cnP P a → objF K m cx a = 0 → objF K' (rnT f m) (cx.map (rnT f)) (rnT f a) = 0
 | .mk k l n ts, cx, a, hc, hPc, hm, ha, hPm, hPa, h => by
  rw [objF] at h
  by_cases ha2 : a.k = 2
  ·rw [if_pos ha2] at h
   split at h
   ·cases h
   ·split at h
    ·rename_i hk3
     subst hk3
     obtain ⟨b, rfl, rfl, rfl, hb⟩ := prop_lam6 hm
     obtain ⟨k2, l2, n2, us⟩ := a
     replace ha2 : k2 = 2 := ha2
     subst ha2
     obtain ⟨A, B, rfl, rfl, rfl, hA, hB⟩ := prop_pi6 ha
     split at h
     ·cases h
     ·rename_i h30
      simp only [Term.ts, objH] at h
      have ih := obj_rn hK hKO b (cx ++ [A]) B (hc.snoc hA h30) (fun t ht => by
       rcases List.mem_append.1 ht with ht | ht
       ·exact hPc t ht
       ·rw [List.mem_singleton.1 ht]; exact cnP_mk hf hPa A (by simp)) hb hB (cnP_mk hf hPm b (by simp)) (cnP_mk hf hPa B (by simp)) h
      rw [rnT_mk f 3 0 0 _ (by decide), rnT_mk f 2 0 0 _ (by decide), rnL, rnL, rnL, rnL, rnL, objF_pi, List.length_map, if_neg h30]
      rw [List.map_append] at ih
      exact ih
    ·cases h
  ·rw [if_neg ha2] at h
   by_cases ha4 : a.k = 4
   ·rw [if_pos ha4] at h
    split at h
    ·cases h
    ·split at h
     ·rename_i hk4
      subst hk4
      obtain ⟨h1, h2, h3, h4, h5⟩ := prop_app hm
      obtain ⟨hp, hq⟩ := eq_z hf h
      obtain ⟨hc0, hf0, hk2, he⟩ := app_z hf hp
      rw [he] at hq
      have hcl := cls_rn hf hK hKO hc hPc (l := l) h3 h4 (fun e => hPm n (by rw [e, cnT]; simp)) hc0
      have hft := fit_rn hK hKO ts cx _ hc hPc h5 (clsF_prop hKO hc h3 h4 hc0) (cnP_mk hf hPm) hcl.2 hf0
      have hobj : objF K' (.mk 4 l (if l = 2 then f n else n) (rnL f ts)) (cx.map (rnT f)) (rnT f a) = 0 := by
       rw [objF_app K' _ _ _ (by rw [rnT_k]; exact ha4) rfl, infF_app, hcl.1, appF_ok, hft.1, restF_ok (by rw [rnT_k]; exact hk2), ← hq]
       unfold eqF
       rw [if_neg nz0, if_pos ((sameT_iff _ _).2 rfl)]
      by_cases hl2 : l = 2
      ·subst hl2
       rw [rnT_42]
       rw [if_pos rfl] at hobj
       exact hobj
      ·rw [rnT_mk f 4 l n ts (by omega)]
       rw [if_neg hl2] at hobj
       exact hobj
     ·cases h
   ·rw [if_neg ha4] at h
    cases h
theorem fit_rn (hK : RnK f P K K') (hKO : KOk K) : ∀ (ts cx : List Term) (c : Term), COk cx → (∀ t ∈ cx, cnP P t) → (∀ t ∈ ts, prop t = true) → prop c = true → (∀ t ∈ ts, cnP P t) → cnP P c → (fitF K ts cx c).2 = 0 → fitF K' (rnL f ts) (cx.map (rnT f)) (rnT f c) = (rnT f (fitF K ts cx c).1, 0) ∧ cnP P (fitF K ts cx c).1
 | [], cx, c, hc, hPc, hts, hcl, hPt, hP, h => by rw [rnL, fitF, fitF]; exact ⟨rfl, hP⟩
 | m :: r, cx, c, hc, hPc, hts, hcl, hPt, hP, h => by
  by_cases hk : c.k = 2
  ·obtain ⟨k2, l2, n2, us⟩ := c
   replace hk : k2 = 2 := hk
   subst hk
   obtain ⟨A, B, rfl, rfl, rfl, hA, hB⟩ := prop_pi6 hcl
   rw [fitF_cons] at h ⊢
   by_cases he : objF K m cx A ≠ 0
   ·rw [if_pos he] at h
    exact absurd h he
   ·rw [if_neg he] at h ⊢
    by_cases he2 : (instR (.mk 2 0 0 [A, B]) [m]).2 ≠ 0
    ·rw [if_pos he2] at h
     exact absurd h he2
    ·rw [if_neg he2] at h ⊢
     have hm := hts m (List.mem_cons_self ..)
     have hPm := hPt m (List.mem_cons_self ..)
     have ih := obj_rn hK hKO m cx A hc hPc hm hA hPm (cnP_mk hf hP A (by simp)) (by omega)
     obtain ⟨h1, h2⟩ := inst_rn hf hcl hm (by omega) hP hPm
     rw [rnL, rnT_mk f 2 0 0 _ (by decide), rnL, rnL, rnL, fitF_cons, if_neg (by omega), h1, if_neg nz0]
     exact fit_rn hK hKO r cx _ hc hPc (fun t ht => hts t (List.mem_cons_of_mem _ ht)) (instR_prop (by omega)) (fun t ht => hPt t (List.mem_cons_of_mem _ ht)) h2 h
  ·rw [fitF_no K m r cx hk] at h
   cases h
end
theorem typ_rn (hK : RnK f P K K') (hKO : KOk K) : ∀ (a : Term) (cx : List Term), COk cx → (∀ t ∈ cx, cnP P t) → prop a = true → cnP P a → typF K a cx = 0 → typF K' (rnT f a) (cx.map (rnT f)) = 0
 | .mk k l n ts, cx, hc, hPc, ha, hPa, h => by
  by_cases hk : k = 2
  ·subst hk
   obtain ⟨A, B, rfl, rfl, rfl, hA, hB⟩ := prop_pi6 ha
   rw [typF_pi] at h
   by_cases he : typF K A cx ≠ 0
   ·rw [if_pos he] at h
    exact absurd h he
   ·rw [if_neg he] at h
    by_cases h30 : 30 ≤ cx.length
    ·rw [if_pos h30] at h
     cases h
    ·rw [if_neg h30] at h
     have h1 := typ_rn hK hKO A cx hc hPc hA (cnP_mk hf hPa A (by simp)) (by omega)
     have h2 := typ_rn hK hKO B (cx ++ [A]) (hc.snoc hA h30) (fun t ht => by
       rcases List.mem_append.1 ht with ht | ht
       ·exact hPc t ht
       ·rw [List.mem_singleton.1 ht]; exact cnP_mk hf hPa A (by simp)) hB (cnP_mk hf hPa B (by simp)) h
     rw [rnT_mk f 2 0 0 _ (by decide), rnL, rnL, rnL, typF_pi, if_neg (by omega), List.length_map, if_neg h30]
     rw [List.map_append] at h2
     exact h2
  ·rw [typF.eq_def] at h
   simp only at h
   rw [if_neg hk] at h
   split at h
   ·rename_i h4
    obtain ⟨rfl, rfl⟩ := h4
    obtain ⟨h1, h2, h3, h4, h5⟩ := prop_app ha
    rw [rnT_42, typF.eq_def]
    simp only
    rw [if_neg (by decide), if_pos ⟨trivial, trivial⟩]
    unfold famF at h ⊢
    cases hd : K.sig[n.toNat]? with
    | none => rw [hd] at h; cases h
    | some d =>
     rw [hd] at h
     obtain ⟨d', h6, h7, h8⟩ := hK.1 n d (hPa n (by rw [cnT]; simp)) h3 hd
     rw [h6]
     simp only at h ⊢
     rw [h7, rn_kind]
     by_cases hkd : kindT d.c = true
     ·rw [if_pos hkd] at h ⊢
      by_cases he : (fitF K ts cx d.c).2 ≠ 0
      ·rw [if_pos he] at h
       exact absurd h he
      ·rw [if_neg he] at h
       have hft := fit_rn hf hK hKO ts cx d.c hc hPc h5 (hKO.1 d (List.mem_of_getElem? hd)) (cnP_mk hf hPa) h8 (by omega)
       rw [hft.1, if_neg nz0]
       split at h
       ·rename_i h9
        rw [if_pos (by rw [rnT_k]; exact h9)]
       ·cases h
     ·rw [if_neg hkd] at h
      cases h
   ·cases h
theorem knd_rn (hK : RnK f P K K') (hKO : KOk K) : ∀ (a : Term) (cx : List Term), COk cx → (∀ t ∈ cx, cnP P t) → prop a = true → cnP P a → kndF K a cx = 0 → kndF K' (rnT f a) (cx.map (rnT f)) = 0
 | .mk k l n ts, cx, hc, hPc, ha, hPa, h => by
  by_cases hk : k = 2
  ·subst hk
   obtain ⟨A, B, rfl, rfl, rfl, hA, hB⟩ := prop_pi6 ha
   rw [kndF_pi] at h
   by_cases he : typF K A cx ≠ 0
   ·rw [if_pos he] at h
    exact absurd h he
   ·rw [if_neg he] at h
    by_cases h30 : 30 ≤ cx.length
    ·rw [if_pos h30] at h
     cases h
    ·rw [if_neg h30] at h
     have h1 := typ_rn hf hK hKO A cx hc hPc hA (cnP_mk hf hPa A (by simp)) (by omega)
     have h2 := knd_rn hK hKO B (cx ++ [A]) (hc.snoc hA h30) (fun t ht => by
       rcases List.mem_append.1 ht with ht | ht
       ·exact hPc t ht
       ·rw [List.mem_singleton.1 ht]; exact cnP_mk hf hPa A (by simp)) hB (cnP_mk hf hPa B (by simp)) h
     rw [rnT_mk f 2 0 0 _ (by decide), rnL, rnL, rnL, kndF_pi, if_neg (by omega), List.length_map, if_neg h30]
     rw [List.map_append] at h2
     exact h2
  ·rw [kndF.eq_def] at h
   simp only at h
   by_cases hk1 : k = 1
   ·subst hk1
    rw [rnT_mk f 1 l n ts (by omega), kndF.eq_def]
    rfl
   ·rw [if_neg hk1, if_neg hk] at h
    cases h
theorem cla_rn (hK : RnK f P K K') (hKO : KOk K) {c : Term} (hc : prop c = true) (hP : cnP P c) (h : claF K c = 0) : claF K' (rnT f c) = 0 := by
 unfold claF at h ⊢
 rw [rn_kind]
 have hn : COk [] := ⟨fun t ht => (nomatch ht), Nat.zero_le 30⟩
 split
 ·rename_i h1
  rw [if_pos h1] at h
  exact knd_rn hf hK hKO c [] hn (fun t ht => (nomatch ht)) hc hP h
 ·rename_i h1
  rw [if_neg h1] at h
  exact typ_rn hf hK hKO c [] hn (fun t ht => (nomatch ht)) hc hP h
end
end Go.Tr
/- Swap, Without and Rename of formed signatures: the plain laws. -/
namespace Go.Tr
open Go.Proofs
end Go.Tr
/- awake. -/
namespace Go.Tr
open Go.Proofs
end Go.Tr
/- The laws SignLooks, SignLevels, SignAdds. -/
namespace Go.Tr
open Go.Proofs
end Go.Tr
/- The laws SignSwapped, SignUndone. -/
namespace Go.Tr
open Go.Proofs
end Go.Tr
/- Exchanged constants keep a signature valid. -/
namespace Go.Tr
theorem sigF_iff (sig : List Dcl) : ∀ (l : List Dcl) (i : Nat), ((sigF sig i l).2 = 0 ↔ ∀ (j : Nat) d, l[j]? = some d → claF ⟨sig.take (i + j), []⟩ d.c = 0) ∧ ((sigF sig i l).2 = 0 → (sigF sig i l).1 = ((i + l.length : Nat) : Int))
 | [], i => by
  rw [sigF]
  exact ⟨⟨fun _ j d h => (nomatch h), fun _ => rfl⟩, fun _ => rfl⟩
 | d :: r, i => by
  obtain ⟨h1, h2⟩ := sigF_iff sig r (i + 1)
  rw [sigF]
  by_cases he : claF ⟨sig.take i, []⟩ d.c ≠ 0
  ·rw [if_pos he]
   refine ⟨⟨fun h => absurd h he, fun h => absurd (h 0 d rfl) he⟩, fun h => absurd h he⟩
  ·rw [if_neg he]
   refine ⟨⟨fun h j e hj => ?_, fun h => h1.2 fun j e hj => ?_⟩, fun h => ?_⟩
   ·cases j with
    | zero =>
     cases hj
     rw [Nat.add_zero]
     omega
    | succ j =>
     have := h1.1 h j e hj
     rw [show i + (j + 1) = i + 1 + j by omega]
     exact this
   ·have := h (j + 1) e hj
    rw [show i + (j + 1) = i + 1 + j by omega] at this
    exact this
   ·rw [h2 h, List.length_cons]
    omega
end Go.Tr
/- Valid signatures and contexts; what is found is a type. -/
namespace Go.Tr
theorem typ_smp {K : Krn} : ∀ (a : Term) (cx : List Term), typE K a cx = 0 → ∃ σ, smpT a = some σ
 | .mk k l n [], cx, h => by
  rw [typE.eq_def] at h
  simp only at h
  split at h
  ·cases h
  ·split at h
   ·rename_i h4
    obtain ⟨rfl, rfl⟩ := h4
    exact ⟨_, smpT_42 _ _⟩
   ·cases h
 | .mk k l n [A], cx, h => by
  rw [typE.eq_def] at h
  simp only at h
  split at h
  ·cases h
  ·split at h
   ·rename_i h4
    obtain ⟨rfl, rfl⟩ := h4
    exact ⟨_, smpT_42 _ _⟩
   ·cases h
 | .mk k l n (A :: B :: r), cx, h => by
  rw [typE.eq_def] at h
  simp only at h
  split at h
  ·rename_i hk
   subst hk
   by_cases he : typE K A cx ≠ 0
   ·rw [if_pos he] at h
    exact absurd h he
   ·rw [if_neg he] at h
    obtain ⟨x, hx⟩ := typ_smp (K := K) A cx (by omega)
    obtain ⟨y, hy⟩ := typ_smp B _ h
    exact ⟨_, by rw [smpT_2, hx, hy]⟩
  ·split at h
   ·rename_i h4
    obtain ⟨rfl, rfl⟩ := h4
    exact ⟨_, smpT_42 _ _⟩
   ·cases h
structure KVal (K : Krn) : Prop where
 ok : KOk K
 clo : KClo K
 ms : K.ms = []
 cls : ∀ d ∈ K.sig, kindT d.c = false → typE K d.c [] = 0
theorem KVal.sm {K : Krn} (h : KVal K) : KSm K := ⟨fun d hd hk => typ_smp d.c [] (h.cls d hd hk), fun m hm => by rw [h.ms] at hm; cases hm⟩
theorem clo_sig {sig : List Dcl} (h : checkB sig = true) {d : Dcl} (hd : d ∈ sig) : Clo d.c 0 := by
 obtain ⟨i, hi⟩ := List.mem_iff_getElem?.1 hd
 exact clo_nodes (((check_iff sig).1 h).2.2 i d hi).2.2.2.2.1
theorem KOk.of6 {sig : List Dcl} (h : checkB sig = true) : KOk ⟨sig, []⟩ := by
 have := KOk.take6 h sig.length
 rwa [List.take_length] at this
theorem cOk_nil : COk [] := ⟨fun t ht => (nomatch ht), Nat.zero_le 30⟩
theorem sig_val {sig : List Dcl} (h : checkB sig = true) (hv : (sigF sig 0 sig).2 = 0) : KVal ⟨sig, []⟩ := by
 have hK := KOk.of6 h
 refine ⟨hK, ⟨fun d hd => clo_sig h hd, fun m hm => absurd hm (List.not_mem_nil)⟩, rfl, fun d hd hk => ?_⟩
 obtain ⟨i, hi⟩ := List.mem_iff_getElem?.1 hd
 have h1 := (sigF_iff sig sig 0).1.1 hv i d hi
 rw [Nat.zero_add] at h1
 have hR : RnK (fun x => x) (fun _ => True) ⟨sig.take i, []⟩ ⟨sig, []⟩ := by
  refine ⟨fun x e _ h0 he => ?_, rfl⟩
  simp only at he
  rw [List.getElem?_take] at he
  split at he
  ·exact ⟨e, he, (rn_id e.c fun _ _ => rfl).symm, fun _ _ => trivial⟩
  ·cases he
 have h2 := cla_rn (fun x h0 h1 => ⟨h0, h1⟩) hR (KOk.take6 h i) (check_prop h d hd) (fun _ _ => trivial) h1
 rw [rn_id d.c fun _ _ => rfl] at h2
 unfold claF at h2
 rw [if_neg (by rw [hk]; decide)] at h2
 rcases typ_rel hK d.c [] cOk_nil (check_prop h d hd) with h3 | h3
 ·rw [h3] at h2; cases h2
 ·rw [← h3]; exact h2
theorem lkC_none {cx : List Term} {n : Int} (h : (cx.length : Int) ≤ n) : lkC cx n = none := by
 unfold lkC
 split
 ·rw [List.getElem?_eq_none (by rw [List.length_reverse]; omega)]
 ·rfl
theorem lkC_neg {cx : List Term} {n : Int} (h : n < 0) : lkC cx n = none := by
 unfold lkC
 rw [if_neg (by omega)]
theorem lkC_some {cx : List Term} {n : Int} {t : Term} (h : lkC cx n = some t) : 0 ≤ n ∧ n < cx.length := by
 constructor
 ·rcases Int.lt_or_le n 0 with h1 | h1
  ·rw [lkC_neg h1] at h; cases h
  ·exact h1
 ·rcases Int.lt_or_le n cx.length with h1 | h1
  ·exact h1
  ·rw [lkC_none h1] at h; cases h
def CVal (K : Krn) (cx : List Term) : Prop := ∀ (i : Nat) t, cx[i]? = some t → typE K t (cx.take i) = 0
theorem ctx_val {K : Krn} (hK : KOk K) {cx : List Term} (hc : COk cx) : ∀ (r : List Term) (i : Nat), cx.drop i = r → ctxF K (cx.take i) r = 0 → ∀ (j : Nat) t, i ≤ j → cx[j]? = some t → typE K t (cx.take j) = 0
 | [], i, hd, h, j, t, hj, ht => by
  have h1 := (List.getElem?_eq_some_iff.1 ht).1
  have h2 := congrArg List.length hd
  rw [List.length_drop, List.length_nil] at h2
  omega
 | a :: r, i, hd, h, j, t, hj, ht => by
  have hi : i < cx.length := by
   have h2 := congrArg List.length hd
   rw [List.length_drop, List.length_cons] at h2
   omega
  have ha : cx[i]? = some a := by
   have := List.getElem?_drop (xs := cx) (i := i) (j := 0)
   rw [hd, Nat.add_zero] at this
   exact this.symm
  rw [ctxF] at h
  by_cases he : typF K a (cx.take i) ≠ 0
  ·rw [if_pos he] at h
   exact absurd h he
  ·rw [if_neg he] at h
   by_cases hij : i = j
   ·subst hij
    rw [ha] at ht
    cases ht
    rcases typ_rel hK a (cx.take i) ⟨fun t ht => hc.1 t (List.mem_of_mem_take ht), by rw [List.length_take]; have := hc.2; omega⟩ (hc.1 a (List.mem_of_getElem? ha)) with h3 | h3
    ·rw [h3] at he; exact absurd (show (5 : Int) ≠ 0 by decide) he
    ·rw [← h3]; omega
   ·have hs : cx.take i ++ [a] = cx.take (i + 1) := by rw [List.take_add_one, ha]; rfl
    rw [hs] at h
    exact ctx_val hK hc r (i + 1) (by rw [← List.drop_drop, hd]; rfl) h j t (by omega) ht
theorem typ_pi_inv {K : Krn} {c A B : Term} {s cx : List Term} (hc : c.k = 2) (hts : c.ts = A :: B :: s) (h : typE K c cx = 0) : typE K A cx = 0 ∧ typE K B (cx ++ [A]) = 0 := by
 obtain ⟨k, l, n, ts⟩ := c
 replace hc : k = 2 := hc
 replace hts : ts = A :: B :: s := hts
 subst hc
 subst hts
 rw [typE.eq_def] at h
 simp only [if_true] at h
 by_cases he : typE K A cx ≠ 0
 ·rw [if_pos he] at h
  exact absurd h he
 ·rw [if_neg he] at h
  exact ⟨by omega, h⟩
theorem sbC_top {K : Krn} {cx : List Term} {m A : Term} {sm : Smp} (hA : smpT A = some sm) (hm : objE K m cx A = 0) : SbC K sm m A 0 (cx ++ [A]) cx := by
 refine ⟨Int.le_refl 0, fun n t hn ht => ?_, fun n hn => ?_, ?_, hA, ?_⟩
 ·rw [lkC_neg hn] at ht
  cases ht
 ·rw [lkC_snoc, if_neg (by omega)]
 ·rw [lkC_snoc, if_pos rfl]
 ·rw [sh_zero, sh_zero]
  exact hm
end Go.Tr
/- CheckObjects, CheckSignatures. -/
namespace Go.Tr
open Go.Proofs
end Go.Tr
/- CheckPrefix. -/
namespace Go.Tr
open Go.Proofs
end Go.Tr
/- The reference's renumbered and uses. -/
namespace Go.Tr
open Go.Proofs
end Go.Tr
/- The law SignUndone. -/
namespace Go.Tr
open Go.Proofs
end Go.Tr
/- The reference's Rename, Swap. -/
namespace Go.Tr
open Go.Proofs
end Go.Tr
/- CheckSwaps. -/
namespace Go.Tr
open Go.Proofs
end Go.Tr
/- right; CheckUnique. -/
namespace Go.Tr
open Go.Proofs
def rightB (sig : List Dcl) (ms : List Mta) (cx : List Term) : Bool := match decide (0 < ms.length) with
 | true => false
 | false => (match okR sig [] cx [] with
  | false => false
  | true => decide ((sigF sig 0 sig).2 = 0) && decide (ctxF ⟨sig, []⟩ [] cx = 0))
theorem cRight (sig : List Dcl) (ms : List Mta) (cx : List Term) : CallSt Tryz.prog 12 [wvR sig ms cx] [] (fun r H' => r = .c (.bool (rightB sig ms cx)) ∧ H' = []) := by
 have hml := len_mcs ms
 have h3 := cROk6 sig [] cx []
 rw [show tcs [] = [] by rw [tcs], show mcs [] = [] from rfl] at h3
 have em : decide ((0 : Int) < ((mcs ms).length : Int)) = decide (0 < ms.length) := by rw [hml]; exact decide_eq_decide.2 (by omega)
 unfold rightB
 cases hm : decide (0 < ms.length) with
 | true =>
  rw [hm] at em
  refine call_pure (E := envW6 0) (fn := Tryz.f12) (c := bodyOf Tryz.f12) (envW6_ok 0) mixed sK sK sK sK sK sK rfl ?_
  refine aw_cut _ _ rfl fun C hC => ?_
  conv => whnf
  repeat ((first | (refine aI ?_ ?_; focus exact sI) | refine dI sK ?_ | (refine yI ?_ ?_; focus exact sY) | (refine nI ?_ ?_; focus exact sY) | intro _); conv => whnf)
  subst hC
  refine aw_cut _ _ rfl fun C hC => ?_
  conv => whnf
  repeat ((first | (refine aI ?_ ?_; focus exact sI) | refine dI sK ?_ | (refine yI ?_ ?_; focus exact sY) | (refine nI ?_ ?_; focus exact sY) | intro _); conv => whnf)
  rw [em]
  repeat ((first | (refine aI ?_ ?_; focus exact sI) | refine dI sK ?_ | (refine yI ?_ ?_; focus exact sY) | (refine nI ?_ ?_; focus exact sY) | intro _); conv => whnf)
  subst hC
  repeat ((first | (refine aI ?_ ?_; focus exact sI) | refine dI sK ?_ | (refine yI ?_ ?_; focus exact sY) | (refine nI ?_ ?_; focus exact sY) | intro _); conv => whnf)
  all_goals exact sR
 | false =>
  rw [hm] at em
  cases hok : okR sig [] cx [] with
  | false =>
   rw [hok] at h3
   refine call_pure (E := envW6 0) (fn := Tryz.f12) (c := bodyOf Tryz.f12) (envW6_ok 0) mixed sK sK sK sK sK sK rfl ?_
   refine aw_cut _ _ rfl fun C hC => ?_
   conv => whnf
   repeat ((first | (refine aI ?_ ?_; focus exact sI) | refine dI sK ?_ | (refine yI ?_ ?_; focus exact sY) | (refine nI ?_ ?_; focus exact sY) | intro _); conv => whnf)
   subst hC
   refine aw_cut _ _ rfl fun C hC => ?_
   conv => whnf
   repeat ((first | (refine aI ?_ ?_; focus exact sI) | refine dI sK ?_ | (refine yI ?_ ?_; focus exact sY) | (refine nI ?_ ?_; focus exact sY) | intro _); conv => whnf)
   rw [em]
   repeat ((first | (refine aI ?_ ?_; focus exact sI) | refine dI sK ?_ | (refine yI ?_ ?_; focus exact sY) | (refine nI ?_ ?_; focus exact sY) | intro _); conv => whnf)
   try (refine dI sK ?_; conv => whnf)
   first | refine u0 h3 ?_ | refine v0 h3 ?_
   rintro _ _ ⟨rfl, rfl⟩ _
   conv => whnf
   repeat ((first | (refine aI ?_ ?_; focus exact sI) | refine dI sK ?_ | (refine yI ?_ ?_; focus exact sY) | (refine nI ?_ ?_; focus exact sY) | intro _); conv => whnf)
   subst hC
   repeat ((first | (refine aI ?_ ?_; focus exact sI) | refine dI sK ?_ | (refine yI ?_ ?_; focus exact sY) | (refine nI ?_ ?_; focus exact sY) | intro _); conv => whnf)
   all_goals exact sR
  | true =>
   rw [hok] at h3
   obtain ⟨hK, hc, _, hs⟩ := okR_K hok
   have h4 := cRSignature sig hs
   have h5 := cRContext ⟨sig, []⟩ hK cx hc
   rw [show kvR (Krn.sig ⟨sig, []⟩) (Krn.ms ⟨sig, []⟩) = .agg [.c (.sl 6 72 (dcs sig)), .c (.sl 10 120 [])] from rfl] at h5
   generalize sigF sig 0 sig = V at *
   obtain ⟨v, e⟩ := V
   simp only at h4
   by_cases he : e = 0
   ·subst he
    generalize ctxF ⟨sig, []⟩ [] cx = z at *
    refine call_pure (E := envW6 0) (fn := Tryz.f12) (c := bodyOf Tryz.f12) (envW6_ok 0) mixed sK sK sK sK sK sK rfl ?_
    refine aw_cut _ _ rfl fun C hC => ?_
    conv => whnf
    repeat ((first | (refine aI ?_ ?_; focus exact sI) | refine dI sK ?_ | (refine yI ?_ ?_; focus exact sY) | (refine nI ?_ ?_; focus exact sY) | intro _); conv => whnf)
    subst hC
    refine aw_cut _ _ rfl fun C hC => ?_
    conv => whnf
    repeat ((first | (refine aI ?_ ?_; focus exact sI) | refine dI sK ?_ | (refine yI ?_ ?_; focus exact sY) | (refine nI ?_ ?_; focus exact sY) | intro _); conv => whnf)
    rw [em]
    repeat ((first | (refine aI ?_ ?_; focus exact sI) | refine dI sK ?_ | (refine yI ?_ ?_; focus exact sY) | (refine nI ?_ ?_; focus exact sY) | intro _); conv => whnf)
    try (refine dI sK ?_; conv => whnf)
    first | refine u0 h3 ?_ | refine v0 h3 ?_
    rintro _ _ ⟨rfl, rfl⟩ _
    conv => whnf
    repeat ((first | (refine aI ?_ ?_; focus exact sI) | refine dI sK ?_ | (refine yI ?_ ?_; focus exact sY) | (refine nI ?_ ?_; focus exact sY) | intro _); conv => whnf)
    subst hC
    conv => whnf
    repeat ((first | (refine aI ?_ ?_; focus exact sI) | refine dI sK ?_ | (refine yI ?_ ?_; focus exact sY) | (refine nI ?_ ?_; focus exact sY) | intro _); conv => whnf)
    try (refine dI sK ?_; conv => whnf)
    first | refine u0 h4 ?_ | refine v0 h4 ?_
    rintro _ _ ⟨rfl, rfl⟩ _
    conv => whnf
    repeat ((first | (refine aI ?_ ?_; focus exact sI) | refine dI sK ?_ | (refine yI ?_ ?_; focus exact sY) | (refine nI ?_ ?_; focus exact sY) | intro _); conv => whnf)
    try (refine dI sK ?_; conv => whnf)
    first | refine u0 h5 ?_ | refine v0 h5 ?_
    rintro _ _ ⟨rfl, rfl⟩ _
    conv => whnf
    repeat ((first | (refine aI ?_ ?_; focus exact sI) | refine dI sK ?_ | (refine yI ?_ ?_; focus exact sY) | (refine nI ?_ ?_; focus exact sY) | intro _); conv => whnf)
    all_goals exact sR
   ·have ez : decide (e = 0) = false := decide_eq_false he
    rw [show decide ((v, e).2 = 0) = false from ez]
    refine call_pure (E := envW6 0) (fn := Tryz.f12) (c := bodyOf Tryz.f12) (envW6_ok 0) mixed sK sK sK sK sK sK rfl ?_
    refine aw_cut _ _ rfl fun C hC => ?_
    conv => whnf
    repeat ((first | (refine aI ?_ ?_; focus exact sI) | refine dI sK ?_ | (refine yI ?_ ?_; focus exact sY) | (refine nI ?_ ?_; focus exact sY) | intro _); conv => whnf)
    subst hC
    refine aw_cut _ _ rfl fun C hC => ?_
    conv => whnf
    repeat ((first | (refine aI ?_ ?_; focus exact sI) | refine dI sK ?_ | (refine yI ?_ ?_; focus exact sY) | (refine nI ?_ ?_; focus exact sY) | intro _); conv => whnf)
    rw [em]
    repeat ((first | (refine aI ?_ ?_; focus exact sI) | refine dI sK ?_ | (refine yI ?_ ?_; focus exact sY) | (refine nI ?_ ?_; focus exact sY) | intro _); conv => whnf)
    try (refine dI sK ?_; conv => whnf)
    first | refine u0 h3 ?_ | refine v0 h3 ?_
    rintro _ _ ⟨rfl, rfl⟩ _
    conv => whnf
    repeat ((first | (refine aI ?_ ?_; focus exact sI) | refine dI sK ?_ | (refine yI ?_ ?_; focus exact sY) | (refine nI ?_ ?_; focus exact sY) | intro _); conv => whnf)
    subst hC
    conv => whnf
    repeat ((first | (refine aI ?_ ?_; focus exact sI) | refine dI sK ?_ | (refine yI ?_ ?_; focus exact sY) | (refine nI ?_ ?_; focus exact sY) | intro _); conv => whnf)
    try (refine dI sK ?_; conv => whnf)
    first | refine u0 h4 ?_ | refine v0 h4 ?_
    rintro _ _ ⟨rfl, rfl⟩ _
    conv => whnf
    repeat ((first | (refine aI ?_ ?_; focus exact sI) | refine dI sK ?_ | (refine yI ?_ ?_; focus exact sY) | (refine nI ?_ ?_; focus exact sY) | intro _); conv => whnf)
    rw [ez]
    repeat ((first | (refine aI ?_ ?_; focus exact sI) | refine dI sK ?_ | (refine yI ?_ ?_; focus exact sY) | (refine nI ?_ ?_; focus exact sY) | intro _); conv => whnf)
    repeat ((first | (refine aI ?_ ?_; focus exact sI) | refine dI sK ?_ | (refine yI ?_ ?_; focus exact sY) | (refine nI ?_ ?_; focus exact sY) | intro _); conv => whnf)
    all_goals exact sR
structure RightP (sig : List Dcl) (cx : List Term) : Prop where
 kv : KVal ⟨sig, []⟩
 co : COk cx
 cv : CVal ⟨sig, []⟩ cx
 ck : checkB sig = true
theorem right_p {sig : List Dcl} {ms : List Mta} {cx : List Term} (h : rightB sig ms cx = true) : ms = [] ∧ RightP sig cx := by
 unfold rightB at h
 split at h
 ·cases h
 ·rename_i hm
  split at h
  ·cases h
  ·rename_i hok
   obtain ⟨hK, hc, _, hs⟩ := okR_K hok
   rw [Bool.and_eq_true, decide_eq_true_eq, decide_eq_true_eq] at h
   refine ⟨List.length_eq_zero_iff.1 (by have := of_decide_eq_false hm; omega), sig_val hs h.1, hc, fun i t ht => ?_, hs⟩
   exact ctx_val hK hc cx 0 rfl h.2 i t (Nat.zero_le _) ht
end Go.Tr
/- CheckWeak: the plain law. -/
namespace Go.Tr
theorem okR_of2 {sig : List Dcl} (hs : checkB sig = true) {cx l : List Term} (hc : COk cx) (hl : ∀ t ∈ l, prop t = true) : okR sig [] cx l = true := by
 unfold okR
 rw [hs]
 simp only [Bool.true_and, Bool.and_eq_true, decide_eq_true_eq, List.all_eq_true]
 exact ⟨rfl, hc.2, hc.1, hl⟩
theorem in_two {m a : Term} (hm : prop m = true) (ha : prop a = true) : ∀ t ∈ [m, a], prop t = true := fun t ht => by
 rcases List.mem_cons.1 ht with rfl | ht
 ·exact hm
 ·rw [List.mem_singleton.1 ht]
  exact ha
end Go.Tr
/- The reference's Subst. -/
namespace Go.Tr
open Go.Proofs
def subF (t : Term) (n : Int) (s : Term) (sm : Smp) : Term × Int := match putT 20001 0 t n s sm with | .ok u _ => (u, 0) | .er e => (zT, e)
theorem cRNum (n : Int) (hn : 0 ≤ n ∧ n ≤ 9999) : CallSt Tryz.prog 50 [.c (.int .i64 (n))] [] (fun r H' => r = .c (.bool true) ∧ H' = []) := by
 have e1 : decide ((0 : Int) ≤ n) = true := decide_eq_true hn.1
 have e2 : decide (n ≤ (9999 : Int)) = true := decide_eq_true hn.2
 refine call_pure (E := env4 0) (fn := Tryz.f50) (c := bodyOf Tryz.f50) (env4_ok 0) mixed sK sK sK sK sK sK rfl ?_
 conv => whnf
 repeat ((first | (refine aI ?_ ?_; focus exact sI) | refine dI sK ?_ | (refine yI ?_ ?_; focus exact sY) | (refine nI ?_ ?_; focus exact sY) | intro _); conv => whnf)
 rw [e1]
 repeat ((first | (refine aI ?_ ?_; focus exact sI) | refine dI sK ?_ | (refine yI ?_ ?_; focus exact sY) | (refine nI ?_ ?_; focus exact sY) | intro _); conv => whnf)
 rw [e2]
 repeat ((first | (refine aI ?_ ?_; focus exact sI) | refine dI sK ?_ | (refine yI ?_ ?_; focus exact sY) | (refine nI ?_ ?_; focus exact sY) | intro _); conv => whnf)
 all_goals exact sR
theorem cRSubst (t : Term) (ht : prop t = true) (n : Int) (hn : 0 ≤ n ∧ n ≤ 9999) (s : Term) (hs : prop s = true) (sm : Smp) (hok : smOk sm = true) (hsn : smN sm ≤ 600) :
  CallSt Tryz.prog 19 [tv t, .c (.int .i64 (n)), tv s, sv sm] [] (fun r H' => r = .tup [tv (subF t n s sm).1, .c (.int .i64 ((subF t n s sm).2))] ∧ H' = []) := by
 have h1 := cRProper t
 have h2 := cRProper s
 have h3 := cRNum n hn
 have h4 := cRSmall4 sm hok hsn
 have h5 := cRPut 20001 0 t 1 n s sm (Int.le_refl 0) (by decide) (by decide) (prop_fm1 ht) (by decide) hn.1 (by omega) hs
 rw [ht] at h1
 rw [hs] at h2
 unfold subF
 obtain ⟨Z, hZ⟩ : ∃ Z, Z = putT 20001 0 t n s sm := ⟨_, rfl⟩
 rw [← hZ] at h5 ⊢
 obtain ⟨t1, t2, t3, t4⟩ := t
 obtain ⟨s1, s2, s3, s4⟩ := s
 obtain ⟨ys, yc⟩ := sm
 clear hZ ht hs hok hsn
 cases Z with
 | er e =>
  replace h5 : CallSt Tryz.prog 51 [.ptr 0 0, tv (.mk t1 t2 t3 t4), .c (.int .i64 (n)), tv (.mk s1 s2 s3 s4), sv (.mk ys yc)] (cnH 0) (fun r H' => r = .tup [tv zT, .c (.int .i64 (e))] ∧ ∃ s, H' = cnH s) := h5
  rw [tv_mk] at *
  rw [tv_mk] at *
  simp only
  refine call_pure (E := env4 0) (fn := Tryz.f19) (c := bodyOf Tryz.f19) (env4_ok 0) mixed sK sK sK sK sK sK rfl ?_
  conv => whnf
  repeat ((first | (refine aI ?_ ?_; focus exact sI) | refine dI sK ?_ | (refine yI ?_ ?_; focus exact sY) | (refine nI ?_ ?_; focus exact sY) | intro _); conv => whnf)
  try (refine dI sK ?_; conv => whnf)
  first | refine u0 h1 ?_ | refine v0 h1 ?_
  rintro _ _ ⟨rfl, rfl⟩ _
  conv => whnf
  repeat ((first | (refine aI ?_ ?_; focus exact sI) | refine dI sK ?_ | (refine yI ?_ ?_; focus exact sY) | (refine nI ?_ ?_; focus exact sY) | intro _); conv => whnf)
  try (refine dI sK ?_; conv => whnf)
  first | refine u0 h3 ?_ | refine v0 h3 ?_
  rintro _ _ ⟨rfl, rfl⟩ _
  conv => whnf
  repeat ((first | (refine aI ?_ ?_; focus exact sI) | refine dI sK ?_ | (refine yI ?_ ?_; focus exact sY) | (refine nI ?_ ?_; focus exact sY) | intro _); conv => whnf)
  try (refine dI sK ?_; conv => whnf)
  first | refine u0 h2 ?_ | refine v0 h2 ?_
  rintro _ _ ⟨rfl, rfl⟩ _
  conv => whnf
  repeat ((first | (refine aI ?_ ?_; focus exact sI) | refine dI sK ?_ | (refine yI ?_ ?_; focus exact sY) | (refine nI ?_ ?_; focus exact sY) | intro _); conv => whnf)
  try (refine dI sK ?_; conv => whnf)
  first | refine u0 h4 ?_ | refine v0 h4 ?_
  rintro _ _ ⟨rfl, rfl⟩ _
  conv => whnf
  repeat ((first | (refine aI ?_ ?_; focus exact sI) | refine dI sK ?_ | (refine yI ?_ ?_; focus exact sY) | (refine nI ?_ ?_; focus exact sY) | intro _); conv => whnf)
  try (refine dI sK ?_; conv => whnf)
  first | refine CallSt.use h5 [4] ⟨rfl, trivial⟩ (by decide) rfl ?_ | refine CallPt.useS h5 [4] ⟨rfl, trivial⟩ (by decide) rfl ?_
  rintro _ _ ⟨rfl, s2, rfl⟩ _
  conv => whnf
  repeat ((first | (refine aI ?_ ?_; focus exact sI) | refine dI sK ?_ | (refine yI ?_ ?_; focus exact sY) | (refine nI ?_ ?_; focus exact sY) | intro _); conv => whnf)
  all_goals exact sR
 | ok u s5 =>
  replace h5 : CallSt Tryz.prog 51 [.ptr 0 0, tv (.mk t1 t2 t3 t4), .c (.int .i64 (n)), tv (.mk s1 s2 s3 s4), sv (.mk ys yc)] (cnH 0) (fun r H' => r = .tup [tv u, .c (.int .i64 (0))] ∧ H' = cnH s5) := h5
  obtain ⟨u1, u2, u3, u4⟩ := u
  rw [tv_mk] at *
  rw [tv_mk] at *
  rw [tv_mk] at *
  simp only
  refine call_pure (E := env4 0) (fn := Tryz.f19) (c := bodyOf Tryz.f19) (env4_ok 0) mixed sK sK sK sK sK sK rfl ?_
  conv => whnf
  repeat ((first | (refine aI ?_ ?_; focus exact sI) | refine dI sK ?_ | (refine yI ?_ ?_; focus exact sY) | (refine nI ?_ ?_; focus exact sY) | intro _); conv => whnf)
  try (refine dI sK ?_; conv => whnf)
  first | refine u0 h1 ?_ | refine v0 h1 ?_
  rintro _ _ ⟨rfl, rfl⟩ _
  conv => whnf
  repeat ((first | (refine aI ?_ ?_; focus exact sI) | refine dI sK ?_ | (refine yI ?_ ?_; focus exact sY) | (refine nI ?_ ?_; focus exact sY) | intro _); conv => whnf)
  try (refine dI sK ?_; conv => whnf)
  first | refine u0 h3 ?_ | refine v0 h3 ?_
  rintro _ _ ⟨rfl, rfl⟩ _
  conv => whnf
  repeat ((first | (refine aI ?_ ?_; focus exact sI) | refine dI sK ?_ | (refine yI ?_ ?_; focus exact sY) | (refine nI ?_ ?_; focus exact sY) | intro _); conv => whnf)
  try (refine dI sK ?_; conv => whnf)
  first | refine u0 h2 ?_ | refine v0 h2 ?_
  rintro _ _ ⟨rfl, rfl⟩ _
  conv => whnf
  repeat ((first | (refine aI ?_ ?_; focus exact sI) | refine dI sK ?_ | (refine yI ?_ ?_; focus exact sY) | (refine nI ?_ ?_; focus exact sY) | intro _); conv => whnf)
  try (refine dI sK ?_; conv => whnf)
  first | refine u0 h4 ?_ | refine v0 h4 ?_
  rintro _ _ ⟨rfl, rfl⟩ _
  conv => whnf
  repeat ((first | (refine aI ?_ ?_; focus exact sI) | refine dI sK ?_ | (refine yI ?_ ?_; focus exact sY) | (refine nI ?_ ?_; focus exact sY) | intro _); conv => whnf)
  try (refine dI sK ?_; conv => whnf)
  first | refine CallSt.use h5 [4] ⟨rfl, trivial⟩ (by decide) rfl ?_ | refine CallPt.useS h5 [4] ⟨rfl, trivial⟩ (by decide) rfl ?_
  rintro _ _ ⟨rfl, rfl⟩ _
  conv => whnf
  repeat ((first | (refine aI ?_ ?_; focus exact sI) | refine dI sK ?_ | (refine yI ?_ ?_; focus exact sY) | (refine nI ?_ ?_; focus exact sY) | intro _); conv => whnf)
  all_goals exact sR
end Go.Tr
/- CheckSubst: the plain law. -/
namespace Go.Tr
theorem fit_sL {K : Krn} (hK : KSm K) : ∀ (ts cx : List Term) (c r : Term) (G : List Smp), (∀ t ∈ ts, fmT t 1 = true) → ErC cx G → fitE K ts cx c = (r, 0) → ∃ S, sL K ts G S
 | [], cx, c, r, G, hfm, hG, h => ⟨[], by rw [sL]; trivial⟩
 | m :: ts, cx, c, r, G, hfm, hG, h => by
  obtain ⟨hck, A, B, s, sm, u, hcts, hm, hA, hu, hfit⟩ := fit_inv h
  have h1 := obj_sm hK m cx A G sm (hfm m (List.mem_cons_self ..)) hG hm hA
  obtain ⟨S, h2⟩ := fit_sL hK ts cx u r G (fun t ht => hfm t (List.mem_cons_of_mem _ ht)) hG hfit
  exact ⟨sm :: S, by rw [sL]; exact ⟨h1, h2⟩⟩
theorem typ_progN {K : Krn} (hK : KSm K) (σ : Smp) (s : Term) : ∀ (N : Nat) (a : Term) (q : Int) (cx : List Term) (G G' : List Smp), SizeOf.sizeOf a ≤ N → prop a = true → ErC cx G → SbS K σ s q G G' → typE K a cx = 0 → ∃ a', hsT σ s q a = some a'
 | 0, a, q, cx, G, G', hN, _, _, _, _ => by cases a; simp at hN
 | N + 1, .mk k l n ts, q, cx, G, G', hN, hp, hG, hS, h => by
  by_cases hk : k = 2
  ·subst hk
   obtain ⟨A, B, rfl, rfl, rfl, hpA, hpB⟩ := prop_pi6 hp
   simp at hN
   obtain ⟨hA, hB⟩ := typ_pi_inv (K := K) (c := .mk 2 0 0 [A, B]) rfl rfl h
   obtain ⟨x, hx⟩ := typ_smp A cx hA
   obtain ⟨A', hA'⟩ := typ_progN hK σ s N A q cx G G' (by omega) hpA hG hS hA
   obtain ⟨B', hB'⟩ := typ_progN hK σ s N B (q + 1) (cx ++ [A]) (G ++ [x]) (G' ++ [x]) (by omega) hpB (hG.snoc hx) (hS.snoc x) hB
   refine ⟨.mk 2 0 0 [A', B'], ?_⟩
   rw [hsT_mk, hsL_cons, show q + unT 2 0 = q from Int.add_zero q, hA']
   simp only
   rw [hsL_cons, show q + unT 2 (0 + 1) = q + 1 from rfl, hB']
   simp only
   rw [hsL_nil]
   simp only
   rw [if_neg (by decide)]
  ·rw [typE.eq_def] at h
   simp only at h
   rw [if_neg hk] at h
   by_cases h4 : k = 4 ∧ l = 2
   ·rw [if_pos h4] at h
    obtain ⟨rfl, rfl⟩ := h4
    unfold famE6 at h
    split at h
    ·cases h
    ·rename_i d hd
     split at h
     ·have h2 : (fitE K ts cx d.c).2 = 0 := by
       by_cases hz : (fitE K ts cx d.c).2 ≠ 0
       ·rw [if_pos hz] at h
        exact h
       ·omega
      obtain ⟨S, h3⟩ := fit_sL hK ts cx d.c (fitE K ts cx d.c).1 G (fun t ht => prop_fm1 ((prop_app hp).2.2.2.2 t ht)) hG (Prod.ext rfl h2)
      obtain ⟨us, h5, _⟩ := sub_smL σ (fun m _ => subst_sm m) ts s q G G' S 0 hS h3
      refine ⟨.mk 4 2 n us, ?_⟩
      rw [hsT_mk, h5]
      simp only
      rw [if_neg (by decide)]
     ·cases h
   ·rw [if_neg h4] at h
    cases h
theorem typ_prog {K : Krn} (hK : KSm K) (σ : Smp) (s : Term) (a : Term) (q : Int) (cx : List Term) (G G' : List Smp) (hp : prop a = true) (hG : ErC cx G) (hS : SbS K σ s q G G') (h : typE K a cx = 0) : ∃ a', hsT σ s q a = some a' := typ_progN hK σ s _ a q cx G G' (Nat.le_refl _) hp hG hS h
theorem ctx_er {K : Krn} {cx : List Term} (hc : CVal K cx) : ∀ i : Nat, i ≤ cx.length → ∃ G, ErC (cx.take i) G
 | 0, _ => ⟨[], fun n t h => by
   have := lkC_some h
   simp at this
   omega⟩
 | i + 1, hi => by
  obtain ⟨x, hx⟩ := get_some (show i < cx.length by omega)
  obtain ⟨G, hG⟩ := ctx_er hc i (by omega)
  obtain ⟨σ, hσ⟩ := typ_smp x (cx.take i) (hc i x hx)
  exact ⟨G ++ [σ], by rw [← take_snoc6 hx]; exact hG.snoc hσ⟩
structure SubI (K : Krn) (σ : Smp) (s A : Term) (cx : List Term) (j : Int) (R : List Term) (i : Nat) : Prop where
 sb : SbC K σ s A j (cx.take i) R
 co : COk R
 le : R.length + 1 = i
 er : ∃ G G', ErC (cx.take i) G ∧ SbS K σ s j G G'
theorem sub_start {sig : List Dcl} {cx : List Term} (h : RightP sig cx) {k : Nat} {A s : Term} (hA : cx[k]? = some A) (hs : objE ⟨sig, []⟩ s (cx.take k) A = 0) (hp : prop s = true) :
  ∃ σ, smpT A = some σ ∧ SubI ⟨sig, []⟩ σ s A cx 0 (cx.take k) (k + 1) := by
 obtain ⟨σ, hσ⟩ := typ_smp A (cx.take k) (h.cv k A hA)
 obtain ⟨hl, _⟩ := List.getElem?_eq_some_iff.1 hA
 obtain ⟨G, hG⟩ := ctx_er h.cv k (by omega)
 refine ⟨σ, hσ, ?_, h.co.take k, by rw [List.length_take]; omega, G ++ [σ], G, ?_, Int.le_refl 0, fun n hn => ?_, fun n hn => ?_, ?_, ?_⟩
 ·rw [← take_snoc6 hA]
  exact sbC_top hσ hs
 ·rw [← take_snoc6 hA]
  exact hG.snoc hσ
 ·unfold lkS
  rw [if_neg (by omega), if_neg (by omega)]
 ·rw [lkS_snoc, if_neg (by omega)]
 ·rw [lkS_snoc, if_pos rfl]
 ·rw [sh_zero]
  exact obj_sm h.kv.sm s (cx.take k) A G σ (prop_fm1 hp) hG hs hσ
theorem sub_next {sig : List Dcl} {cx : List Term} (h : RightP sig cx) {σ : Smp} {s A : Term} {j : Int} {R : List Term} {i : Nat} (hi : SubI ⟨sig, []⟩ σ s A cx j R i) {x x' : Term} (hx : cx[i]? = some x) (hx' : hsT σ s j x = some x') (hp : prop x' = true) :
  SubI ⟨sig, []⟩ σ s A cx (j + 1) (R ++ [x']) (i + 1) := by
 obtain ⟨τ, hτ⟩ := typ_smp x (cx.take i) (h.cv i x hx)
 obtain ⟨hl, _⟩ := List.getElem?_eq_some_iff.1 hx
 obtain ⟨G, G', hG, hS⟩ := hi.er
 have hle := hi.le
 have hc2 := h.co.2
 refine ⟨?_, hi.co.snoc hp (by omega), by rw [List.length_append]; simp only [List.length_singleton]; omega, G ++ [τ], G' ++ [τ], ?_, hS.snoc τ⟩
 ·rw [← take_snoc6 hx]
  exact hi.sb.snoc h.kv.clo hx'
 ·rw [← take_snoc6 hx]
  exact hG.snoc hτ
theorem sub_prog {sig : List Dcl} {cx : List Term} (h : RightP sig cx) {σ : Smp} {s A : Term} {j : Int} {R : List Term} {i : Nat} (hi : SubI ⟨sig, []⟩ σ s A cx j R i) {x : Term} (hp : prop x = true) (hx : typE ⟨sig, []⟩ x (cx.take i) = 0) : ∃ x', hsT σ s j x = some x' := by
 obtain ⟨G, G', hG, hS⟩ := hi.er
 exact typ_prog h.kv.sm σ s x j _ G G' hp hG hS hx
theorem sub_objp {sig : List Dcl} {cx : List Term} (h : RightP sig cx) {σ : Smp} {s A : Term} {j : Int} {R : List Term} {i : Nat} (hi : SubI ⟨sig, []⟩ σ s A cx j R i) {m a : Term} (hp : prop m = true) (ha : typE ⟨sig, []⟩ a (cx.take i) = 0) (hm : objE ⟨sig, []⟩ m (cx.take i) a = 0) : ∃ m', hsT σ s j m = some m' := by
 obtain ⟨G, G', hG, hS⟩ := hi.er
 obtain ⟨ρ, hρ⟩ := typ_smp a _ ha
 obtain ⟨m', h1, _⟩ := subst_sm σ m s j G G' ρ.xs ρ.c hS (obj_sm h.kv.sm m _ a G ρ (prop_fm1 hp) hG hm hρ)
 exact ⟨m', h1⟩
theorem sub_end {sig : List Dcl} {cx : List Term} (h : RightP sig cx) {σ : Smp} {s A : Term} {j : Int} {R : List Term} {i : Nat} (hi : SubI ⟨sig, []⟩ σ s A cx j R i) {m a m' a' : Term} (ha : typE ⟨sig, []⟩ a (cx.take i) = 0) (hm : objE ⟨sig, []⟩ m (cx.take i) a = 0)
  (hm' : hsT σ s j m = some m') (ha' : hsT σ s j a = some a') (hpm : prop m' = true) (hpa : prop a' = true) : kobjF sig [] R m' a' = 0 ∨ kobjF sig [] R m' a' = 5 := by
 obtain ⟨ρ, hρ⟩ := typ_smp a _ ha
 have h0 := subst_obj h.kv.clo σ m s A j _ R a m' a' ρ hi.sb hm hρ hm' ha'
 unfold kobjF
 rw [okR_of2 h.ck hi.co (in_two hpm hpa)]
 simp only
 rcases obj_rel h.kv.ok m' R a' hi.co hpm hpa with h1 | h1
 ·exact .inr h1
 ·rw [h1]
  exact .inl h0
theorem subF_rel {t s : Term} {n : Int} {sm : Smp} {t' : Term} (h : hsT sm s n t = some t') : subF t n s sm = (zT, 5) ∨ (subF t n s sm = (t', 0) ∧ prop t' = true) := by
 have h1 := put_rel 20001 0 t n s sm
 unfold subF
 rw [h] at h1
 rcases h1 with h1 | ⟨s', h1⟩
 ·left
  rw [h1]
 ·right
  have h2 := h1
  rw [h1]
  exact ⟨rfl, (putT_ok _ h2).1⟩
theorem kobj_0 {sig : List Dcl} {cx : List Term} (hs : checkB sig = true) (hc : COk cx) {m a : Term} (hm : prop m = true) (ha : prop a = true) (h : kobjF sig [] cx m a = 0) : objE ⟨sig, []⟩ m cx a = 0 := by
 unfold kobjF at h
 rw [okR_of2 hs hc (in_two hm ha)] at h
 simp only at h
 rcases obj_rel (KOk.of6 hs) m cx a hc hm ha with h1 | h1
 ·rw [h1] at h
  cases h
 ·rw [← h1]
  exact h
theorem ktyp_0 {sig : List Dcl} {cx : List Term} (hs : checkB sig = true) (hc : COk cx) {a : Term} (ha : prop a = true) (h : ktypF sig [] cx a = 0) : typE ⟨sig, []⟩ a cx = 0 := by
 unfold ktypF at h
 rw [okR_of2 hs hc (fun t ht => by rw [List.mem_singleton.1 ht]; exact ha)] at h
 simp only at h
 rcases typ_rel (KOk.of6 hs) a cx hc ha with h1 | h1
 ·rw [h1] at h
  cases h
 ·rw [← h1]
  exact h
end Go.Tr
/- CheckWeak. -/
namespace Go.Tr
open Go.Proofs
theorem modU6 (n k : Int) (hk : 0 < k ∧ k ≤ 1000) : ∃ m : Int, IntKind.i64.wrap ((IntKind.u64.wrap n).tmod k) = m ∧ 0 ≤ m ∧ m < k := by
 refine ⟨_, rfl, ?_⟩
 have h0 : 0 ≤ IntKind.u64.wrap n := by
  simp only [IntKind.wrap, IntKind.bits, IntKind.signed, Bool.false_and, Bool.false_eq_true, if_false]
  exact Int.emod_nonneg _ (by decide)
 rw [Int.tmod_eq_emod_of_nonneg h0]
 generalize IntKind.u64.wrap n = u
 have h1 := Int.emod_nonneg u (show k ≠ 0 by omega)
 have h3 := Int.emod_lt_of_pos u hk.1
 have h2 : IntKind.i64.wrap (u % k) = u % k := wrap_in ⟨by omega, by omega⟩
 rw [h2]
 exact ⟨h1, h3⟩
abbrev bx6 (a b c : Int) (l : List Term) : Ent := .box [.c (.int .i64 (a)), .c (.int .i64 (b)), .c (.int .i64 (c)), .c (.sl 4 48 (tcs l))]
abbrev wbx (sig : List Dcl) (ms : List Mta) (cx : List Term) : Ent := .box [.c (.sl 6 72 (dcs sig)), .c (.sl 10 120 (mcs ms)), .c (.sl 4 48 (tcs cx))]
end Go.Tr
/- CheckSubst. -/
namespace Go.Tr
open Go.Proofs
def tabX6 : List (Nat × TyD) := [
 (40, ⟨2, 32, .struct [(0, 38), (1, 3)], [.slice none 0 0, .int .i64 0], [38, 3]⟩),
 (38, ⟨1, 24, .slice 40, [.slice none 0 0], [38]⟩),
 (3, ⟨1, 8, .int .i64, [.int .i64 0], [3]⟩)] ++ tabW6
def envX6 (n : Nat) : Env := ⟨lkT tabX6, keep, n, false, false, none, fun _ _ => none⟩
theorem envX6_ok (n : Nat) : EnvOk Tryz.prog (envX6 n) := EnvOk.of (l := tabX6) rfl (by kernel_rfl)
abbrev sbx (ys : List Smp) (c : Int) : Ent := .box [.c (.sl 2 32 (scs ys)), .c (.int .i64 (c))]
set_option maxRecDepth 20000 in
set_option maxHeartbeats 3000000 in
theorem cCheckSubst (sig : List Dcl) (ms : List Mta) (cx : List Term) (y : Ptt) (hn : inR y.nn) : CallSt Tryz.prog 3 [wvR sig ms cx, pttV y] [] (fun r H' => r = .c (.bool true) ∧ H' = []) := by
 obtain ⟨N, ⟨m1, m2, m3, m4⟩, ⟨a1, a2, a3, a4⟩, ⟨s1, s2, s3, s4⟩, ⟨b1, b2, b3, b4⟩⟩ := y
 have h1 := cRight sig ms cx
 have hw := cAwake6
 have pm := cRProper (.mk m1 m2 m3 m4)
 have pa := cRProper (.mk a1 a2 a3 a4)
 have ps := cRProper (.mk s1 s2 s3 s4)
 rw [tv_mk] at pm pa ps
 have hcl := len_tcs cx
 unfold pttV
 refine call_pure (E := envX6 0) (fn := Tryz.f3) (c := bodyOf Tryz.f3) (envX6_ok 0) mixed sK sK sK sK sK sK rfl ?_
 refine aw_cut _ _ rfl fun C hC => ?_
 conv => whnf
 repeat ((first | (refine aI ?_ ?_; focus exact sI) | refine dI sK ?_ | (refine yI ?_ ?_; focus exact sY) | (refine nI ?_ ?_; focus exact sY) | intro _); conv => whnf)
 subst hC
 refine aw_cut _ _ rfl fun C hC => ?_
 conv => whnf
 refine draw_wk [(8, .ptr 4 0), (7, .ptr 3 0), (6, .ptr 2 0), (5, .c (.int .i64 (N))), (3, .ptr 1 0), (2, .ptr 0 0)]
  [wbx sig ms cx, .box [.c (.int .i64 (N)), .c (.int .i64 (m1)), .c (.int .i64 (m2)), .c (.int .i64 (m3)), .c (.sl 4 48 (tcs m4)), .c (.int .i64 (a1)), .c (.int .i64 (a2)), .c (.int .i64 (a3)), .c (.sl 4 48 (tcs a4)), .c (.int .i64 (s1)), .c (.int .i64 (s2)), .c (.int .i64 (s3)), .c (.sl 4 48 (tcs s4)), .c (.int .i64 (b1)), .c (.int .i64 (b2)), .c (.int .i64 (b3)), .c (.sl 4 48 (tcs b4))],
   bx6 m1 m2 m3 m4, bx6 a1 a2 a3 a4, bx6 s1 s2 s3 s4] ?_ ?_
 ·refine draw_intro true (by kernel_rfl) ?_
  conv => whnf
  repeat' (refine And.intro ?_ ?_ <;> conv => whnf)
  all_goals first
  | exact Wk.sl [0, 1, 2, 3, 4] rfl ⟨rfl, rfl, rfl, rfl, rfl, trivial⟩ ⟨rfl, rfl, rfl, rfl, rfl, rfl, trivial⟩ rfl
  | exact Wk.sl [0, 1, 2, 4, 3] rfl ⟨rfl, rfl, rfl, rfl, rfl, trivial⟩ ⟨rfl, rfl, rfl, rfl, rfl, rfl, trivial⟩ rfl
  | exact Wk.sl [0, 1, 3, 2, 4] rfl ⟨rfl, rfl, rfl, rfl, rfl, trivial⟩ ⟨rfl, rfl, rfl, rfl, rfl, rfl, trivial⟩ rfl
  | exact Wk.sl [0, 1, 3, 4, 2] rfl ⟨rfl, rfl, rfl, rfl, rfl, trivial⟩ ⟨rfl, rfl, rfl, rfl, rfl, rfl, trivial⟩ rfl
  | exact Wk.sl [0, 1, 4, 2, 3] rfl ⟨rfl, rfl, rfl, rfl, rfl, trivial⟩ ⟨rfl, rfl, rfl, rfl, rfl, rfl, trivial⟩ rfl
  | exact Wk.sl [0, 1, 4, 3, 2] rfl ⟨rfl, rfl, rfl, rfl, rfl, trivial⟩ ⟨rfl, rfl, rfl, rfl, rfl, rfl, trivial⟩ rfl
 conv => whnf
 subst hC
 refine aw_cut _ _ rfl fun C hC => ?_
 conv => whnf
 repeat ((first | (refine aI ?_ ?_; focus exact sI) | refine dI sK ?_ | (refine yI ?_ ?_; focus exact sY) | (refine nI ?_ ?_; focus exact sY) | intro _); conv => whnf)
 try (refine dI sK ?_; conv => whnf)
 first | refine u0 h1 ?_ | refine v0 h1 ?_
 rintro _ _ ⟨rfl, rfl⟩ _
 conv => whnf
 repeat ((first | (refine aI ?_ ?_; focus exact sI) | refine dI sK ?_ | (refine yI ?_ ?_; focus exact sY) | (refine nI ?_ ?_; focus exact sY) | intro _); conv => whnf)
 cases hrb : rightB sig ms cx with
 | false =>
  repeat ((first | (refine aI ?_ ?_; focus exact sI) | refine dI sK ?_ | (refine yI ?_ ?_; focus exact sY) | (refine nI ?_ ?_; focus exact sY) | intro _); conv => whnf)
  try (refine dI sK ?_; conv => whnf)
  first | refine u0 hw ?_ | refine v0 hw ?_
  rintro _ _ ⟨rfl, rfl⟩ _
  conv => whnf
  subst hC
  repeat ((first | (refine aI ?_ ?_; focus exact sI) | refine dI sK ?_ | (refine yI ?_ ?_; focus exact sY) | (refine nI ?_ ?_; focus exact sY) | intro _); conv => whnf)
  all_goals exact sR
 | true =>
  obtain ⟨rfl, hR⟩ := right_p hrb
  have hc30 := hR.co.2
  repeat ((first | (refine aI ?_ ?_; focus exact sI) | refine dI sK ?_ | (refine yI ?_ ?_; focus exact sY) | (refine nI ?_ ?_; focus exact sY) | intro _); conv => whnf)
  by_cases h30 : cx.length = 0
  ·rw [show decide (((tcs cx).length : Int) = 0) = true from decide_eq_true (by omega)]
   repeat ((first | (refine aI ?_ ?_; focus exact sI) | refine dI sK ?_ | (refine yI ?_ ?_; focus exact sY) | (refine nI ?_ ?_; focus exact sY) | intro _); conv => whnf)
   try (refine dI sK ?_; conv => whnf)
   first | refine u0 hw ?_ | refine v0 hw ?_
   rintro _ _ ⟨rfl, rfl⟩ _
   conv => whnf
   subst hC
   repeat ((first | (refine aI ?_ ?_; focus exact sI) | refine dI sK ?_ | (refine yI ?_ ?_; focus exact sY) | (refine nI ?_ ?_; focus exact sY) | intro _); conv => whnf)
   all_goals exact sR
  ·rw [show decide (((tcs cx).length : Int) = 0) = false from decide_eq_false (by omega)]
   repeat ((first | (refine aI ?_ ?_; focus exact sI) | refine dI sK ?_ | (refine yI ?_ ?_; focus exact sY) | (refine nI ?_ ?_; focus exact sY) | intro _); conv => whnf)
   try (refine dI sK ?_; conv => whnf)
   first | refine u0 pm ?_ | refine v0 pm ?_
   rintro _ _ ⟨rfl, rfl⟩ _
   conv => whnf
   repeat ((first | (refine aI ?_ ?_; focus exact sI) | refine dI sK ?_ | (refine yI ?_ ?_; focus exact sY) | (refine nI ?_ ?_; focus exact sY) | intro _); conv => whnf)
   cases hpm : prop (.mk m1 m2 m3 m4) with
   | false =>
    repeat ((first | (refine aI ?_ ?_; focus exact sI) | refine dI sK ?_ | (refine yI ?_ ?_; focus exact sY) | (refine nI ?_ ?_; focus exact sY) | intro _); conv => whnf)
    try (refine dI sK ?_; conv => whnf)
    first | refine u0 hw ?_ | refine v0 hw ?_
    rintro _ _ ⟨rfl, rfl⟩ _
    conv => whnf
    subst hC
    repeat ((first | (refine aI ?_ ?_; focus exact sI) | refine dI sK ?_ | (refine yI ?_ ?_; focus exact sY) | (refine nI ?_ ?_; focus exact sY) | intro _); conv => whnf)
    all_goals exact sR
   | true =>
    repeat ((first | (refine aI ?_ ?_; focus exact sI) | refine dI sK ?_ | (refine yI ?_ ?_; focus exact sY) | (refine nI ?_ ?_; focus exact sY) | intro _); conv => whnf)
    try (refine dI sK ?_; conv => whnf)
    first | refine u0 pa ?_ | refine v0 pa ?_
    rintro _ _ ⟨rfl, rfl⟩ _
    conv => whnf
    repeat ((first | (refine aI ?_ ?_; focus exact sI) | refine dI sK ?_ | (refine yI ?_ ?_; focus exact sY) | (refine nI ?_ ?_; focus exact sY) | intro _); conv => whnf)
    cases hpa : prop (.mk a1 a2 a3 a4) with
    | false =>
     repeat ((first | (refine aI ?_ ?_; focus exact sI) | refine dI sK ?_ | (refine yI ?_ ?_; focus exact sY) | (refine nI ?_ ?_; focus exact sY) | intro _); conv => whnf)
     try (refine dI sK ?_; conv => whnf)
     first | refine u0 hw ?_ | refine v0 hw ?_
     rintro _ _ ⟨rfl, rfl⟩ _
     conv => whnf
     subst hC
     repeat ((first | (refine aI ?_ ?_; focus exact sI) | refine dI sK ?_ | (refine yI ?_ ?_; focus exact sY) | (refine nI ?_ ?_; focus exact sY) | intro _); conv => whnf)
     all_goals exact sR
    | true =>
     repeat ((first | (refine aI ?_ ?_; focus exact sI) | refine dI sK ?_ | (refine yI ?_ ?_; focus exact sY) | (refine nI ?_ ?_; focus exact sY) | intro _); conv => whnf)
     try (refine dI sK ?_; conv => whnf)
     first | refine u0 ps ?_ | refine v0 ps ?_
     rintro _ _ ⟨rfl, rfl⟩ _
     conv => whnf
     repeat ((first | (refine aI ?_ ?_; focus exact sI) | refine dI sK ?_ | (refine yI ?_ ?_; focus exact sY) | (refine nI ?_ ?_; focus exact sY) | intro _); conv => whnf)
     cases hps : prop (.mk s1 s2 s3 s4) with
     | false =>
      repeat ((first | (refine aI ?_ ?_; focus exact sI) | refine dI sK ?_ | (refine yI ?_ ?_; focus exact sY) | (refine nI ?_ ?_; focus exact sY) | intro _); conv => whnf)
      try (refine dI sK ?_; conv => whnf)
      first | refine u0 hw ?_ | refine v0 hw ?_
      rintro _ _ ⟨rfl, rfl⟩ _
      conv => whnf
      subst hC
      repeat ((first | (refine aI ?_ ?_; focus exact sI) | refine dI sK ?_ | (refine yI ?_ ?_; focus exact sY) | (refine nI ?_ ?_; focus exact sY) | intro _); conv => whnf)
      all_goals exact sR
     | true =>
      repeat ((first | (refine aI ?_ ?_; focus exact sI) | refine dI sK ?_ | (refine yI ?_ ?_; focus exact sY) | (refine nI ?_ ?_; focus exact sY) | intro _); conv => whnf)
      subst hC
      refine aw_cut _ _ rfl fun C hC => ?_
      conv => whnf
      repeat ((first | (refine aI ?_ ?_; focus exact sI) | refine dI sK ?_ | (refine yI ?_ ?_; focus exact sY) | (refine nI ?_ ?_; focus exact sY) | intro _); conv => whnf)
      have hu : IntKind.u64.wrap ((tcs cx).length : Int) = ((tcs cx).length : Int) := by
       rw [IntKind.wrap]
       simp only [IntKind.bits, IntKind.signed, Bool.false_and, Bool.false_eq_true, if_false]
       omega
      obtain ⟨n, hN, n1, n2⟩ := modU6 N ((tcs cx).length : Int) ⟨by omega, by omega⟩
      rw [hu]
      refine ⟨show ((tcs cx).length : Int) ≠ 0 by omega, ?_⟩
      conv => whnf
      repeat ((first | (refine aI ?_ ?_; focus exact sI) | refine dI sK ?_ | (refine yI ?_ ?_; focus exact sY) | (refine nI ?_ ?_; focus exact sY) | intro _); conv => whnf)
      rw [hN]
      obtain ⟨k, hk⟩ : ∃ k : Nat, ((tcs cx).length : Int) - 1 - n = (k : Int) := ⟨(((tcs cx).length : Int) - 1 - n).toNat, by omega⟩
      subst hC
      refine aw_cut _ _ rfl fun C hC => ?_
      conv => whnf
      repeat ((first | (refine aI ?_ ?_; focus exact sI) | refine dI sK ?_ | (refine yI ?_ ?_; focus exact sY) | (refine nI ?_ ?_; focus exact sY) | intro _); conv => whnf)
      rw [hk]
      subst hC
      refine aw_cut _ _ rfl fun C hC => ?_
      conv => whnf
      repeat ((first | (refine aI ?_ ?_; focus exact sI) | refine dI sK ?_ | (refine yI ?_ ?_; focus exact sY) | (refine nI ?_ ?_; focus exact sY) | intro _); conv => whnf)
      rw [tcs_take6]
      obtain ⟨A, hA⟩ := get_some (show k < cx.length by omega)
      have hAc := tcs_at cx k A hA
      have hpA := hR.co.1 A (List.mem_of_getElem? hA)
      have q1 := cKObject sig [] (cx.take k) (.mk s1 s2 s3 s4) A
      have q2 := cKType sig [] cx (.mk a1 a2 a3 a4)
      have q3 := cKObject sig [] cx (.mk m1 m2 m3 m4) (.mk a1 a2 a3 a4)
      rw [tv_mk, show mcs [] = [] from rfl] at q1 q2 q3
      generalize hw1 : kobjF sig [] (cx.take k) (.mk s1 s2 s3 s4) A = w1 at q1
      generalize hw2 : ktypF sig [] cx (.mk a1 a2 a3 a4) = w2 at q2
      generalize hw3 : kobjF sig [] cx (.mk m1 m2 m3 m4) (.mk a1 a2 a3 a4) = w3 at q3
      obtain ⟨A1, A2, A3, A4⟩ := A
      rw [tv_mk] at q1
      subst hC
      refine aw_cut _ _ rfl fun C hC => ?_
      conv => whnf
      refine draw_wk [(102, .c (.bool (!(decide (w1 = 0) && decide (w2 = 0) && decide (w3 = 0))))), (10, .c (.sl 4 48 (tcs (cx.take k)))), (9, .c (.int .i64 (k))), (5, .c (.int .i64 (n))), (8, .ptr 3 0), (7, .ptr 2 0), (6, .ptr 1 0), (2, .ptr 0 0)]
       [wbx sig [] cx, bx6 m1 m2 m3 m4, bx6 a1 a2 a3 a4, bx6 s1 s2 s3 s4] ?_ ?_
      ·refine draw_intro true (by kernel_rfl) ?_
       conv => whnf
       repeat ((first | (refine aI ?_ ?_; focus exact sI) | refine dI sK ?_ | (refine yI ?_ ?_; focus exact sY) | (refine nI ?_ ?_; focus exact sY) | intro _); conv => whnf)
       refine ⟨_, ⟨by omega, by simpa using hAc⟩, ?_⟩
       conv => whnf
       refine ⟨Nat.le_refl 4, ?_⟩
       conv => whnf
       repeat ((first | (refine aI ?_ ?_; focus exact sI) | refine dI sK ?_ | (refine yI ?_ ?_; focus exact sY) | (refine nI ?_ ?_; focus exact sY) | intro _); conv => whnf)
       try (refine dI sK ?_; conv => whnf)
       first | refine u0 q1 ?_ | refine v0 q1 ?_
       rintro _ _ ⟨rfl, rfl⟩ _
       conv => whnf
       repeat ((first | (refine aI ?_ ?_; focus exact sI) | refine dI sK ?_ | (refine yI ?_ ?_; focus exact sY) | (refine nI ?_ ?_; focus exact sY) | intro _); conv => whnf)
       cases hz1 : decide (w1 = 0) with
       | false =>
        repeat ((first | (refine aI ?_ ?_; focus exact sI) | refine dI sK ?_ | (refine yI ?_ ?_; focus exact sY) | (refine nI ?_ ?_; focus exact sY) | intro _); conv => whnf)
        exact Wk.sl [0, 2, 3, 4] rfl ⟨rfl, rfl, rfl, rfl, trivial⟩ ⟨rfl, rfl, rfl, rfl, rfl, rfl, rfl, rfl, trivial⟩ rfl
       | true =>
        repeat ((first | (refine aI ?_ ?_; focus exact sI) | refine dI sK ?_ | (refine yI ?_ ?_; focus exact sY) | (refine nI ?_ ?_; focus exact sY) | intro _); conv => whnf)
        try (refine dI sK ?_; conv => whnf)
        first | refine u0 q2 ?_ | refine v0 q2 ?_
        rintro _ _ ⟨rfl, rfl⟩ _
        conv => whnf
        repeat ((first | (refine aI ?_ ?_; focus exact sI) | refine dI sK ?_ | (refine yI ?_ ?_; focus exact sY) | (refine nI ?_ ?_; focus exact sY) | intro _); conv => whnf)
        cases hz2 : decide (w2 = 0) with
        | false =>
         repeat ((first | (refine aI ?_ ?_; focus exact sI) | refine dI sK ?_ | (refine yI ?_ ?_; focus exact sY) | (refine nI ?_ ?_; focus exact sY) | intro _); conv => whnf)
         exact Wk.sl [0, 2, 3, 4] rfl ⟨rfl, rfl, rfl, rfl, trivial⟩ ⟨rfl, rfl, rfl, rfl, rfl, rfl, rfl, rfl, trivial⟩ rfl
        | true =>
         repeat ((first | (refine aI ?_ ?_; focus exact sI) | refine dI sK ?_ | (refine yI ?_ ?_; focus exact sY) | (refine nI ?_ ?_; focus exact sY) | intro _); conv => whnf)
         try (refine dI sK ?_; conv => whnf)
         first | refine u0 q3 ?_ | refine v0 q3 ?_
         rintro _ _ ⟨rfl, rfl⟩ _
         conv => whnf
         repeat ((first | (refine aI ?_ ?_; focus exact sI) | refine dI sK ?_ | (refine yI ?_ ?_; focus exact sY) | (refine nI ?_ ?_; focus exact sY) | intro _); conv => whnf)
         exact Wk.sl [0, 2, 3, 4] rfl ⟨rfl, rfl, rfl, rfl, trivial⟩ ⟨rfl, rfl, rfl, rfl, rfl, rfl, rfl, rfl, trivial⟩ rfl
      conv => whnf
      cases hz : (decide (w1 = 0) && decide (w2 = 0) && decide (w3 = 0)) with
      | false =>
       conv => whnf
       repeat ((first | (refine aI ?_ ?_; focus exact sI) | refine dI sK ?_ | (refine yI ?_ ?_; focus exact sY) | (refine nI ?_ ?_; focus exact sY) | intro _); conv => whnf)
       try (refine dI sK ?_; conv => whnf)
       first | refine u0 hw ?_ | refine v0 hw ?_
       rintro _ _ ⟨rfl, rfl⟩ _
       conv => whnf
       subst hC
       repeat ((first | (refine aI ?_ ?_; focus exact sI) | refine dI sK ?_ | (refine yI ?_ ?_; focus exact sY) | (refine nI ?_ ?_; focus exact sY) | intro _); conv => whnf)
       all_goals exact sR
      | true =>
       rw [Bool.and_eq_true, Bool.and_eq_true, decide_eq_true_eq, decide_eq_true_eq, decide_eq_true_eq] at hz
       obtain ⟨⟨rfl, rfl⟩, rfl⟩ := hz
       (refine nI ?_ ?_; (focus exact sY); conv => whnf)
       have he1 := kobj_0 hR.ck (hR.co.take k) hps hpA hw1
       have he2 := ktyp_0 hR.ck hR.co hpa hw2
       have he3 := kobj_0 hR.ck hR.co hpm hpa hw3
       obtain ⟨σ, hσ, hS⟩ := sub_start hR hA he1 hps
       obtain ⟨ok1, ok2⟩ := smp_small _ _ 1 σ (Nat.le_refl _) (prop_fm1 hpA) hσ
       have hsz := (prop_fm hpA).2
       have hsi := c27 _ (.mk A1 A2 A3 A4) 1 (Nat.le_refl _) (prop_fm1 hpA) (by decide)
       have ok6 : smN σ ≤ 600 := by omega
       have hsm := cRSmall4 σ ok1 ok6
       rw [hσ, show smpB (some σ) = .tup [sv σ, .c (.bool true)] from rfl, tv_mk] at hsi
       obtain ⟨ys, yc⟩ := σ
       rw [sv_mk] at hsi hsm
       have htk := len_tcs (cx.take k)
       have htl : (cx.take k).length = k := by rw [List.length_take]; omega
       clear q1 q2 q3 hw1 hw2 hw3 hsz
       subst hC
       refine aw_cut _ _ rfl fun C hC => ?_
       conv => whnf
       repeat ((first | (refine aI ?_ ?_; focus exact sI) | refine dI sK ?_ | (refine yI ?_ ?_; focus exact sY) | (refine nI ?_ ?_; focus exact sY) | intro _); conv => whnf)
       refine ⟨_, ⟨by omega, by simpa using hAc⟩, ?_⟩
       conv => whnf
       refine ⟨Nat.le_refl 4, ?_⟩
       conv => whnf
       repeat ((first | (refine aI ?_ ?_; focus exact sI) | refine dI sK ?_ | (refine yI ?_ ?_; focus exact sY) | (refine nI ?_ ?_; focus exact sY) | intro _); conv => whnf)
       try (refine dI sK ?_; conv => whnf)
       first | refine u0 hsi ?_ | refine v0 hsi ?_
       rintro _ _ ⟨rfl, rfl⟩ _
       conv => whnf
       repeat ((first | (refine aI ?_ ?_; focus exact sI) | refine dI sK ?_ | (refine yI ?_ ?_; focus exact sY) | (refine nI ?_ ?_; focus exact sY) | intro _); conv => whnf)
       subst hC
       refine aw_cut _ _ rfl fun C hC => ?_
       conv => whnf
       repeat ((first | (refine aI ?_ ?_; focus exact sI) | refine dI sK ?_ | (refine yI ?_ ?_; focus exact sY) | (refine nI ?_ ?_; focus exact sY) | intro _); conv => whnf)
       subst hC
       refine aw_cut _ _ rfl fun C hC => ?_
       conv => whnf
       repeat ((first | (refine aI ?_ ?_; focus exact sI) | refine dI sK ?_ | (refine yI ?_ ?_; focus exact sY) | (refine nI ?_ ?_; focus exact sY) | intro _); conv => whnf)
       try (refine dI sK ?_; conv => whnf)
       first | refine u0 hsm ?_ | refine v0 hsm ?_
       rintro _ _ ⟨rfl, rfl⟩ _
       conv => whnf
       repeat ((first | (refine aI ?_ ?_; focus exact sI) | refine dI sK ?_ | (refine yI ?_ ?_; focus exact sY) | (refine nI ?_ ?_; focus exact sY) | intro _); conv => whnf)
       subst hC
       refine aw_cut _ _ rfl fun C hC => ?_
       conv => whnf
       repeat ((first | (refine aI ?_ ?_; focus exact sI) | refine dI sK ?_ | (refine yI ?_ ?_; focus exact sY) | (refine nI ?_ ?_; focus exact sY) | intro _); conv => whnf)
       subst hC
       refine aw_cut _ _ rfl fun C hC => ?_
       conv => whnf
       repeat ((first | (refine aI ?_ ?_; focus exact sI) | refine dI sK ?_ | (refine yI ?_ ?_; focus exact sY) | (refine nI ?_ ?_; focus exact sY) | intro _); conv => whnf)
       refine ⟨show (tcs (cx.take k)).length * 48 ≤ 140737488355328 by omega, show (tcs (cx.take k)).length ≤ 9223372036854775807 by omega, ?_⟩
       conv => whnf
       repeat ((first | (refine aI ?_ ?_; focus exact sI) | refine dI sK ?_ | (refine yI ?_ ?_; focus exact sY) | (refine nI ?_ ?_; focus exact sY) | intro _); conv => whnf)
       subst hC
       refine aw_cut _ _ rfl fun C hC => ?_
       conv => whnf
       repeat ((first | (refine aI ?_ ?_; focus exact sI) | refine dI sK ?_ | (refine yI ?_ ?_; focus exact sY) | (refine nI ?_ ?_; focus exact sY) | intro _); conv => whnf)
       refine loop_intro (fun m tm H => ∃ (j : Nat) (R : List Term), cx.length = m + j ∧ k + 1 ≤ j ∧ SubI ⟨sig, []⟩ (.mk ys yc) (.mk s1 s2 s3 s4) (.mk A1 A2 A3 A4) cx ((j : Int) - (k : Int) - 1) R j ∧
         tm = [(14, .c (.int .i64 (j))), (13, .own 5), (11, .ptr 4 0), (9, .c (.int .i64 (k))), (5, .c (.int .i64 (n))), (8, .ptr 3 0), (7, .ptr 2 0), (6, .ptr 1 0), (2, .ptr 0 0)] ∧ H = [wbx sig [] cx, bx6 m1 m2 m3 m4, bx6 a1 a2 a3 a4, bx6 s1 s2 s3 s4, sbx ys yc, .row 28 4 48 (tcs R)])
        (cx.length - (k + 1)) _ _ ⟨k + 1, cx.take k, by omega, Nat.le_refl _, by rw [show ((k + 1 : Nat) : Int) - (k : Int) - 1 = 0 by omega]; exact hS, rfl, rfl⟩ (Wk.sl [0, 1, 2, 3, 4, 5] rfl ⟨rfl, rfl, rfl, rfl, rfl, rfl, trivial⟩ ⟨rfl, rfl, rfl, rfl, rfl, rfl, rfl, rfl, rfl, trivial⟩ rfl) ?_
       rintro m tm H ⟨j, R, hj, hkj, hI, rfl, rfl⟩
       conv => whnf
       repeat ((first | (refine aI ?_ ?_; focus exact sI) | refine dI sK ?_ | (refine yI ?_ ?_; focus exact sY) | (refine nI ?_ ?_; focus exact sY) | intro _); conv => whnf)
       refine ⟨fun hlt => ?_, fun hlt => ?_⟩
       ·replace hlt : (j : Int) < (tcs cx).length := of_decide_eq_true hlt
        obtain ⟨x, hx⟩ := get_some (show j < cx.length by omega)
        have hxc := tcs_at cx j x hx
        have hpx := hR.co.1 x (List.mem_of_getElem? hx)
        have hsb := cRSubst x hpx ((j : Int) - (k : Int) - 1) ⟨by omega, by omega⟩ (.mk s1 s2 s3 s4) hps (.mk ys yc) ok1 ok6
        obtain ⟨x', hx'⟩ := sub_prog hR hI hpx (hR.cv j x hx)
        have hRc := len_tcs R
        have hRl := hI.le
        rw [tv_mk, sv_mk] at hsb
        rcases subF_rel hx' with h5 | ⟨h5, hp'⟩
        ·rw [h5, show tv (zT, (5 : Int)).1 = tv zT from rfl, show zT = .mk 0 0 0 [] from rfl, tv_mk] at hsb
         clear hx' hI hx
         obtain ⟨x1, x2, x3, x4⟩ := x
         rw [tv_mk] at hsb
         conv => whnf
         refine draw_wk [(16, .c (.int .i64 (5))), (15, .ptr 6 0), (14, .c (.int .i64 (j))), (13, .own 5), (11, .ptr 4 0), (9, .c (.int .i64 (k))), (5, .c (.int .i64 (n))), (8, .ptr 3 0), (7, .ptr 2 0), (6, .ptr 1 0), (2, .ptr 0 0)]
          [wbx sig [] cx, bx6 m1 m2 m3 m4, bx6 a1 a2 a3 a4, bx6 s1 s2 s3 s4, sbx ys yc, .row 28 4 48 (tcs R), bx6 0 0 0 []] ?_ ?_
         ·refine draw_intro true (by kernel_rfl) ?_
          conv => whnf
          repeat ((first | (refine aI ?_ ?_; focus exact sI) | refine dI sK ?_ | (refine yI ?_ ?_; focus exact sY) | (refine nI ?_ ?_; focus exact sY) | intro _); conv => whnf)
          refine ⟨_, ⟨by omega, by simpa using hxc⟩, ?_⟩
          conv => whnf
          refine ⟨Nat.le_refl 4, ?_⟩
          conv => whnf
          repeat ((first | (refine aI ?_ ?_; focus exact sI) | refine dI sK ?_ | (refine yI ?_ ?_; focus exact sY) | (refine nI ?_ ?_; focus exact sY) | intro _); conv => whnf)
          (refine And.intro ?_ ?_ <;> conv => whnf)
          all_goals
           repeat ((first | (refine aI ?_ ?_; focus exact sI) | refine dI sK ?_ | (refine yI ?_ ?_; focus exact sY) | (refine nI ?_ ?_; focus exact sY) | intro _); conv => whnf)
           try (refine dI sK ?_; conv => whnf)
           first | refine u0 hsb ?_ | refine v0 hsb ?_
           rintro _ _ ⟨rfl, rfl⟩ _
           conv => whnf
           repeat ((first | (refine aI ?_ ?_; focus exact sI) | refine dI sK ?_ | (refine yI ?_ ?_; focus exact sY) | (refine nI ?_ ?_; focus exact sY) | intro _); conv => whnf)
           exact Wk.sl [0, 1, 2, 3, 4, 5, 6] rfl ⟨rfl, rfl, rfl, rfl, rfl, rfl, rfl, trivial⟩ ⟨rfl, rfl, rfl, rfl, rfl, rfl, rfl, rfl, rfl, rfl, rfl, trivial⟩ rfl
         conv => whnf
         repeat ((first | (refine aI ?_ ?_; focus exact sI) | refine dI sK ?_ | (refine yI ?_ ?_; focus exact sY) | (refine nI ?_ ?_; focus exact sY) | intro _); conv => whnf)
         try (refine dI sK ?_; conv => whnf)
         first | refine u0 hw ?_ | refine v0 hw ?_
         rintro _ _ ⟨rfl, rfl⟩ _
         conv => whnf
         repeat ((first | (refine aI ?_ ?_; focus exact sI) | refine dI sK ?_ | (refine yI ?_ ?_; focus exact sY) | (refine nI ?_ ?_; focus exact sY) | intro _); conv => whnf)
         all_goals exact sR
        ·have hnx := sub_next hR hI hx hx' hp'
         have hsn : tcs (R ++ [x']) = tcs R ++ [tc x'] := by rw [← tcs_snoc]
         rw [h5] at hsb
         clear h5 hx' hI hx hp'
         obtain ⟨x1, x2, x3, x4⟩ := x
         obtain ⟨u1, u2, u3, u4⟩ := x'
         simp only at hsb
         rw [tv_mk] at hsb
         rw [tv_mk] at hsb
         conv => whnf
         refine draw_wk [(16, .c (.int .i64 (0))), (15, .ptr 6 0), (14, .c (.int .i64 (j))), (13, .own 5), (11, .ptr 4 0), (9, .c (.int .i64 (k))), (5, .c (.int .i64 (n))), (8, .ptr 3 0), (7, .ptr 2 0), (6, .ptr 1 0), (2, .ptr 0 0)]
          [wbx sig [] cx, bx6 m1 m2 m3 m4, bx6 a1 a2 a3 a4, bx6 s1 s2 s3 s4, sbx ys yc, .row 28 4 48 (tcs R), bx6 u1 u2 u3 u4] ?_ ?_
         ·refine draw_intro true (by kernel_rfl) ?_
          conv => whnf
          repeat ((first | (refine aI ?_ ?_; focus exact sI) | refine dI sK ?_ | (refine yI ?_ ?_; focus exact sY) | (refine nI ?_ ?_; focus exact sY) | intro _); conv => whnf)
          refine ⟨_, ⟨by omega, by simpa using hxc⟩, ?_⟩
          conv => whnf
          refine ⟨Nat.le_refl 4, ?_⟩
          conv => whnf
          repeat ((first | (refine aI ?_ ?_; focus exact sI) | refine dI sK ?_ | (refine yI ?_ ?_; focus exact sY) | (refine nI ?_ ?_; focus exact sY) | intro _); conv => whnf)
          (refine And.intro ?_ ?_ <;> conv => whnf)
          all_goals
           repeat ((first | (refine aI ?_ ?_; focus exact sI) | refine dI sK ?_ | (refine yI ?_ ?_; focus exact sY) | (refine nI ?_ ?_; focus exact sY) | intro _); conv => whnf)
           try (refine dI sK ?_; conv => whnf)
           first | refine u0 hsb ?_ | refine v0 hsb ?_
           rintro _ _ ⟨rfl, rfl⟩ _
           conv => whnf
           repeat ((first | (refine aI ?_ ?_; focus exact sI) | refine dI sK ?_ | (refine yI ?_ ?_; focus exact sY) | (refine nI ?_ ?_; focus exact sY) | intro _); conv => whnf)
           exact Wk.sl [0, 1, 2, 3, 4, 5, 6] rfl ⟨rfl, rfl, rfl, rfl, rfl, rfl, rfl, trivial⟩ ⟨rfl, rfl, rfl, rfl, rfl, rfl, rfl, rfl, rfl, rfl, rfl, trivial⟩ rfl
         conv => whnf
         repeat ((first | (refine aI ?_ ?_; focus exact sI) | refine dI sK ?_ | (refine yI ?_ ?_; focus exact sY) | (refine nI ?_ ?_; focus exact sY) | intro _); conv => whnf)
         refine ⟨show ((tcs R).length + 1) * 48 ≤ 140737488355328 by omega, show (tcs R).length + 1 ≤ 9223372036854775807 by omega, ?_⟩
         conv => whnf
         repeat ((first | (refine aI ?_ ?_; focus exact sI) | refine dI sK ?_ | (refine yI ?_ ?_; focus exact sY) | (refine nI ?_ ?_; focus exact sY) | intro _); conv => whnf)
         exact ⟨m - 1, _, _, by omega, ⟨j + 1, R ++ [⟨u1, u2, u3, u4⟩], by omega, by omega, by rw [show ((j + 1 : Nat) : Int) - (k : Int) - 1 = (j : Int) - (k : Int) - 1 + 1 by omega]; exact hnx, rfl, rfl⟩, by rw [hsn]; exact Wk.sl [0, 1, 2, 3, 4, 8] rfl ⟨rfl, rfl, rfl, rfl, rfl, rfl, trivial⟩ ⟨rfl, rfl, rfl, rfl, rfl, rfl, rfl, rfl, rfl, trivial⟩ rfl⟩
       ·replace hlt : ¬ (j : Int) < (tcs cx).length := of_decide_eq_false hlt
        obtain rfl : j = cx.length := by omega
        rw [show (cx.length : Int) - (k : Int) - 1 = n by omega] at hI
        rw [← List.take_length (l := cx)] at he2 he3
        obtain ⟨m', hm'⟩ := sub_objp hR hI hpm he2 he3
        obtain ⟨a', ha'⟩ := sub_prog hR hI hpa he2
        have hf := fun p q => sub_end hR hI he2 he3 hm' ha' p q
        have g1 := cRSubst (.mk m1 m2 m3 m4) hpm n ⟨by omega, by omega⟩ (.mk s1 s2 s3 s4) hps (.mk ys yc) ok1 ok6
        have g2 := cRSubst (.mk a1 a2 a3 a4) hpa n ⟨by omega, by omega⟩ (.mk s1 s2 s3 s4) hps (.mk ys yc) ok1 ok6
        rw [tv_mk, sv_mk] at g1 g2
        rcases subF_rel hm' with h5 | ⟨h5, hp1⟩
        ·rcases subF_rel ha' with h6 | ⟨h6, hp2⟩
         ·rw [h5, show tv (zT, (5 : Int)).1 = tv zT from rfl, show zT = .mk 0 0 0 [] from rfl, tv_mk] at g1
          rw [h6, show tv (zT, (5 : Int)).1 = tv zT from rfl, show zT = .mk 0 0 0 [] from rfl, tv_mk] at g2
          conv => whnf
          repeat ((first | (refine aI ?_ ?_; focus exact sI) | refine dI sK ?_ | (refine yI ?_ ?_; focus exact sY) | (refine nI ?_ ?_; focus exact sY) | intro _); conv => whnf)
          subst hC
          refine aw_cut _ _ rfl fun C hC => ?_
          conv => whnf
          repeat ((first | (refine aI ?_ ?_; focus exact sI) | refine dI sK ?_ | (refine yI ?_ ?_; focus exact sY) | (refine nI ?_ ?_; focus exact sY) | intro _); conv => whnf)
          try (refine dI sK ?_; conv => whnf)
          first | refine u0 g1 ?_ | refine v0 g1 ?_
          rintro _ _ ⟨rfl, rfl⟩ _
          conv => whnf
          repeat ((first | (refine aI ?_ ?_; focus exact sI) | refine dI sK ?_ | (refine yI ?_ ?_; focus exact sY) | (refine nI ?_ ?_; focus exact sY) | intro _); conv => whnf)
          subst hC
          refine aw_cut _ _ rfl fun C hC => ?_
          conv => whnf
          repeat ((first | (refine aI ?_ ?_; focus exact sI) | refine dI sK ?_ | (refine yI ?_ ?_; focus exact sY) | (refine nI ?_ ?_; focus exact sY) | intro _); conv => whnf)
          try (refine dI sK ?_; conv => whnf)
          first | refine u0 g2 ?_ | refine v0 g2 ?_
          rintro _ _ ⟨rfl, rfl⟩ _
          conv => whnf
          repeat ((first | (refine aI ?_ ?_; focus exact sI) | refine dI sK ?_ | (refine yI ?_ ?_; focus exact sY) | (refine nI ?_ ?_; focus exact sY) | intro _); conv => whnf)
          subst hC
          refine aw_cut _ _ rfl fun C hC => ?_
          conv => whnf
          repeat ((first | (refine aI ?_ ?_; focus exact sI) | refine dI sK ?_ | (refine yI ?_ ?_; focus exact sY) | (refine nI ?_ ?_; focus exact sY) | intro _); conv => whnf)
          try (refine dI sK ?_; conv => whnf)
          first | refine u0 hw ?_ | refine v0 hw ?_
          rintro _ _ ⟨rfl, rfl⟩ _
          conv => whnf
          subst hC
          repeat ((first | (refine aI ?_ ?_; focus exact sI) | refine dI sK ?_ | (refine yI ?_ ?_; focus exact sY) | (refine nI ?_ ?_; focus exact sY) | intro _); conv => whnf)
          all_goals exact sR
         ·rw [h5, show tv (zT, (5 : Int)).1 = tv zT from rfl, show zT = .mk 0 0 0 [] from rfl, tv_mk] at g1
          rw [h6] at g2
          clear h6 ha' hp2 hf
          obtain ⟨v1, v2, v3, v4⟩ := a'
          simp only at g2
          rw [tv_mk] at g2
          conv => whnf
          repeat ((first | (refine aI ?_ ?_; focus exact sI) | refine dI sK ?_ | (refine yI ?_ ?_; focus exact sY) | (refine nI ?_ ?_; focus exact sY) | intro _); conv => whnf)
          subst hC
          refine aw_cut _ _ rfl fun C hC => ?_
          conv => whnf
          repeat ((first | (refine aI ?_ ?_; focus exact sI) | refine dI sK ?_ | (refine yI ?_ ?_; focus exact sY) | (refine nI ?_ ?_; focus exact sY) | intro _); conv => whnf)
          try (refine dI sK ?_; conv => whnf)
          first | refine u0 g1 ?_ | refine v0 g1 ?_
          rintro _ _ ⟨rfl, rfl⟩ _
          conv => whnf
          repeat ((first | (refine aI ?_ ?_; focus exact sI) | refine dI sK ?_ | (refine yI ?_ ?_; focus exact sY) | (refine nI ?_ ?_; focus exact sY) | intro _); conv => whnf)
          subst hC
          refine aw_cut _ _ rfl fun C hC => ?_
          conv => whnf
          repeat ((first | (refine aI ?_ ?_; focus exact sI) | refine dI sK ?_ | (refine yI ?_ ?_; focus exact sY) | (refine nI ?_ ?_; focus exact sY) | intro _); conv => whnf)
          try (refine dI sK ?_; conv => whnf)
          first | refine u0 g2 ?_ | refine v0 g2 ?_
          rintro _ _ ⟨rfl, rfl⟩ _
          conv => whnf
          repeat ((first | (refine aI ?_ ?_; focus exact sI) | refine dI sK ?_ | (refine yI ?_ ?_; focus exact sY) | (refine nI ?_ ?_; focus exact sY) | intro _); conv => whnf)
          subst hC
          refine aw_cut _ _ rfl fun C hC => ?_
          conv => whnf
          repeat ((first | (refine aI ?_ ?_; focus exact sI) | refine dI sK ?_ | (refine yI ?_ ?_; focus exact sY) | (refine nI ?_ ?_; focus exact sY) | intro _); conv => whnf)
          try (refine dI sK ?_; conv => whnf)
          first | refine u0 hw ?_ | refine v0 hw ?_
          rintro _ _ ⟨rfl, rfl⟩ _
          conv => whnf
          subst hC
          repeat ((first | (refine aI ?_ ?_; focus exact sI) | refine dI sK ?_ | (refine yI ?_ ?_; focus exact sY) | (refine nI ?_ ?_; focus exact sY) | intro _); conv => whnf)
          all_goals exact sR
        ·rcases subF_rel ha' with h6 | ⟨h6, hp2⟩
         ·rw [h5] at g1
          rw [h6, show tv (zT, (5 : Int)).1 = tv zT from rfl, show zT = .mk 0 0 0 [] from rfl, tv_mk] at g2
          clear h5 hm' hp1 hf
          obtain ⟨u1, u2, u3, u4⟩ := m'
          simp only at g1
          rw [tv_mk] at g1
          conv => whnf
          repeat ((first | (refine aI ?_ ?_; focus exact sI) | refine dI sK ?_ | (refine yI ?_ ?_; focus exact sY) | (refine nI ?_ ?_; focus exact sY) | intro _); conv => whnf)
          subst hC
          refine aw_cut _ _ rfl fun C hC => ?_
          conv => whnf
          repeat ((first | (refine aI ?_ ?_; focus exact sI) | refine dI sK ?_ | (refine yI ?_ ?_; focus exact sY) | (refine nI ?_ ?_; focus exact sY) | intro _); conv => whnf)
          try (refine dI sK ?_; conv => whnf)
          first | refine u0 g1 ?_ | refine v0 g1 ?_
          rintro _ _ ⟨rfl, rfl⟩ _
          conv => whnf
          repeat ((first | (refine aI ?_ ?_; focus exact sI) | refine dI sK ?_ | (refine yI ?_ ?_; focus exact sY) | (refine nI ?_ ?_; focus exact sY) | intro _); conv => whnf)
          subst hC
          refine aw_cut _ _ rfl fun C hC => ?_
          conv => whnf
          repeat ((first | (refine aI ?_ ?_; focus exact sI) | refine dI sK ?_ | (refine yI ?_ ?_; focus exact sY) | (refine nI ?_ ?_; focus exact sY) | intro _); conv => whnf)
          try (refine dI sK ?_; conv => whnf)
          first | refine u0 g2 ?_ | refine v0 g2 ?_
          rintro _ _ ⟨rfl, rfl⟩ _
          conv => whnf
          repeat ((first | (refine aI ?_ ?_; focus exact sI) | refine dI sK ?_ | (refine yI ?_ ?_; focus exact sY) | (refine nI ?_ ?_; focus exact sY) | intro _); conv => whnf)
          subst hC
          refine aw_cut _ _ rfl fun C hC => ?_
          conv => whnf
          repeat ((first | (refine aI ?_ ?_; focus exact sI) | refine dI sK ?_ | (refine yI ?_ ?_; focus exact sY) | (refine nI ?_ ?_; focus exact sY) | intro _); conv => whnf)
          try (refine dI sK ?_; conv => whnf)
          first | refine u0 hw ?_ | refine v0 hw ?_
          rintro _ _ ⟨rfl, rfl⟩ _
          conv => whnf
          subst hC
          repeat ((first | (refine aI ?_ ?_; focus exact sI) | refine dI sK ?_ | (refine yI ?_ ?_; focus exact sY) | (refine nI ?_ ?_; focus exact sY) | intro _); conv => whnf)
          all_goals exact sR
         ·have hg := hf hp1 hp2
          rw [h5] at g1
          rw [h6] at g2
          clear h5 h6 hm' ha' hp1 hp2 hf
          obtain ⟨u1, u2, u3, u4⟩ := m'
          obtain ⟨v1, v2, v3, v4⟩ := a'
          have g3 := cKObject sig [] R (.mk u1 u2 u3 u4) (.mk v1 v2 v3 v4)
          generalize kobjF sig [] R (.mk u1 u2 u3 u4) (.mk v1 v2 v3 v4) = z at *
          simp only at g1 g2
          rw [tv_mk] at g1 g2
          conv => whnf
          repeat ((first | (refine aI ?_ ?_; focus exact sI) | refine dI sK ?_ | (refine yI ?_ ?_; focus exact sY) | (refine nI ?_ ?_; focus exact sY) | intro _); conv => whnf)
          subst hC
          refine aw_cut _ _ rfl fun C hC => ?_
          conv => whnf
          repeat ((first | (refine aI ?_ ?_; focus exact sI) | refine dI sK ?_ | (refine yI ?_ ?_; focus exact sY) | (refine nI ?_ ?_; focus exact sY) | intro _); conv => whnf)
          try (refine dI sK ?_; conv => whnf)
          first | refine u0 g1 ?_ | refine v0 g1 ?_
          rintro _ _ ⟨rfl, rfl⟩ _
          conv => whnf
          repeat ((first | (refine aI ?_ ?_; focus exact sI) | refine dI sK ?_ | (refine yI ?_ ?_; focus exact sY) | (refine nI ?_ ?_; focus exact sY) | intro _); conv => whnf)
          subst hC
          refine aw_cut _ _ rfl fun C hC => ?_
          conv => whnf
          repeat ((first | (refine aI ?_ ?_; focus exact sI) | refine dI sK ?_ | (refine yI ?_ ?_; focus exact sY) | (refine nI ?_ ?_; focus exact sY) | intro _); conv => whnf)
          try (refine dI sK ?_; conv => whnf)
          first | refine u0 g2 ?_ | refine v0 g2 ?_
          rintro _ _ ⟨rfl, rfl⟩ _
          conv => whnf
          repeat ((first | (refine aI ?_ ?_; focus exact sI) | refine dI sK ?_ | (refine yI ?_ ?_; focus exact sY) | (refine nI ?_ ?_; focus exact sY) | intro _); conv => whnf)
          subst hC
          refine aw_cut _ _ rfl fun C hC => ?_
          conv => whnf
          repeat ((first | (refine aI ?_ ?_; focus exact sI) | refine dI sK ?_ | (refine yI ?_ ?_; focus exact sY) | (refine nI ?_ ?_; focus exact sY) | intro _); conv => whnf)
          subst hC
          refine aw_cut _ _ rfl fun C hC => ?_
          conv => whnf
          repeat ((first | (refine aI ?_ ?_; focus exact sI) | refine dI sK ?_ | (refine yI ?_ ?_; focus exact sY) | (refine nI ?_ ?_; focus exact sY) | intro _); conv => whnf)
          try (refine dI sK ?_; conv => whnf)
          first | refine u0 g3 ?_ | refine v0 g3 ?_
          rintro _ _ ⟨rfl, rfl⟩ _
          conv => whnf
          repeat ((first | (refine aI ?_ ?_; focus exact sI) | refine dI sK ?_ | (refine yI ?_ ?_; focus exact sY) | (refine nI ?_ ?_; focus exact sY) | intro _); conv => whnf)
          subst hC
          conv => whnf
          repeat ((first | (refine aI ?_ ?_; focus exact sI) | refine dI sK ?_ | (refine yI ?_ ?_; focus exact sY) | (refine nI ?_ ?_; focus exact sY) | intro _); conv => whnf)
          rcases hg with rfl | rfl
          ·repeat ((first | (refine aI ?_ ?_; focus exact sI) | refine dI sK ?_ | (refine yI ?_ ?_; focus exact sY) | (refine nI ?_ ?_; focus exact sY) | intro _); conv => whnf)
           try (refine dI sK ?_; conv => whnf)
           first | refine u0 hw ?_ | refine v0 hw ?_
           rintro _ _ ⟨rfl, rfl⟩ _
           conv => whnf
           repeat ((first | (refine aI ?_ ?_; focus exact sI) | refine dI sK ?_ | (refine yI ?_ ?_; focus exact sY) | (refine nI ?_ ?_; focus exact sY) | intro _); conv => whnf)
           all_goals exact sR
          ·repeat ((first | (refine aI ?_ ?_; focus exact sI) | refine dI sK ?_ | (refine yI ?_ ?_; focus exact sY) | (refine nI ?_ ?_; focus exact sY) | intro _); conv => whnf)
           try (refine dI sK ?_; conv => whnf)
           first | refine u0 hw ?_ | refine v0 hw ?_
           rintro _ _ ⟨rfl, rfl⟩ _
           conv => whnf
           repeat ((first | (refine aI ?_ ?_; focus exact sI) | refine dI sK ?_ | (refine yI ?_ ?_; focus exact sY) | (refine nI ?_ ?_; focus exact sY) | intro _); conv => whnf)
           all_goals exact sR
end Go.Tr
/- The laws, for what is handed in. -/
namespace Go.Tr
open Go.Proofs
theorem wCheckSubst (x : Wld) (y : Ptt) (hn : inR y.nn) : CallSt Tryz.prog 3 [wvR x.sig x.ms x.cx, pttV y] [] (fun r H' => r = .c (.bool true) ∧ H' = []) := cCheckSubst x.sig x.ms x.cx y hn
end Go.Tr
