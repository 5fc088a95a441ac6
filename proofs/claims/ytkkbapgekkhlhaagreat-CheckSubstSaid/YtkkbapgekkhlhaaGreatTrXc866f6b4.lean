/- What each function computes, and the plain laws of it. -/
import Derived.Test.YtkkbapgekkhlhaaGreatTrXc21d2c2a
set_option linter.unusedVariables false
set_option linter.unusedSimpArgs false
set_option linter.unnecessarySimpa false
set_option linter.constructorNameAsVariable false
set_option autoImplicit false
/- The reference kernel: Infer, Object. -/
namespace Go.Tr
open Go.Proofs
theorem infF_app (K : Krn) (cx : List Term) (l n : Int) (ts : List Term) : infF K cx (.mk 4 l n ts) = appF (clsF K cx l n) fun c => fitF K ts cx c := if_pos rfl
theorem infF_no (K : Krn) (cx : List Term) {m : Term} (h : m.k ≠ 4) : infF K cx m = (zT, 22) := if_neg h
theorem clsF_prop {K : Krn} (hK : KOk K) {cx : List Term} (hc : COk cx) {l n : Int} (h0 : 0 ≤ n) (h1 : n ≤ 9999) (h : (clsF K cx l n).2 = 0) : prop (clsF K cx l n).1 = true := by
 rcases cls_rel hK hc (l := l) h0 h1 with h2 | ⟨h2, h3⟩
 ·rw [h2] at h; cases h
 ·rw [h2] at h ⊢; exact h3 h
set_option maxHeartbeats 1000000 in
theorem cRInfer (K : Krn) (hK : KOk K) (m : Term) (hm : prop m = true) (hl : ∀ u ∈ m.ts, RObjOk Tryz.prog 30 K u) (cx : List Term) (hc : COk cx) :
  CallSt Tryz.prog 29 [kvR K.sig K.ms, .c (.sl 4 48 (tcs cx)), tv m] [] (fun r H' => r = .tup [tv (infF K cx m).1, .c (.int .i64 ((infF K cx m).2))] ∧ H' = []) := by
 by_cases hk : m.k = 4
 ·obtain ⟨k, l, n, ts⟩ := m
  replace hk : k = 4 := hk
  subst hk
  replace hl : ∀ u ∈ ts, RObjOk Tryz.prog 30 K u := hl
  obtain ⟨h1, h2, h3, h4, h5⟩ := prop_app hm
  have hcl := cRClass K hK cx hc.2 l n ts ⟨h1, h2⟩ ⟨h3, h4⟩
  rw [infF_app]
  have hpc := @clsF_prop K hK cx hc l n h3 h4
  obtain ⟨C, hC0⟩ : ∃ C, C = clsF K cx l n := ⟨_, rfl⟩
  rw [← hC0] at hcl hpc ⊢
  clear hC0
  obtain ⟨c, e⟩ := C
  simp only at hcl hpc
  by_cases he : e = 0
  ·subst he
   have hft := cRFits K ts (fun u hu => ⟨h5 u hu, hl u hu⟩) cx hc c (hpc rfl)
   rw [appF_ok]
   obtain ⟨V, hV⟩ : ∃ V, V = fitF K ts cx c := ⟨_, rfl⟩
   rw [← hV] at hft ⊢
   clear hV
   obtain ⟨⟨v1, v2, v3, v4⟩, e2⟩ := V
   obtain ⟨c1, c2, c3, c4⟩ := c
   rw [tv_mk] at hcl
   rw [tv_mk] at hcl
   simp only at hft
   rw [tv_mk, tv_mk] at hft
   rw [tv_mk]
   by_cases he2 : e2 = 0
   ·subst he2
    by_cases hv : v1 = 2
    ·subst hv
     rw [show restF (.mk 2 v2 v3 v4, 0) = (zT, 23) from rfl]
     refine call_pure (E := envR6 0) (fn := Tryz.f29) (c := bodyOf Tryz.f29) (envR6_ok 0) mixed sK sK sK sK sK sK rfl ?_
     conv => whnf
     repeat ((first | (refine aI ?_ ?_; focus exact sI) | refine dI sK ?_ | (refine yI ?_ ?_; focus exact sY) | (refine nI ?_ ?_; focus exact sY) | intro _); conv => whnf)
     try (refine dI sK ?_; conv => whnf)
     first | refine u0 hcl ?_ | refine v0 hcl ?_
     rintro _ _ ⟨rfl, rfl⟩ _
     conv => whnf
     repeat ((first | (refine aI ?_ ?_; focus exact sI) | refine dI sK ?_ | (refine yI ?_ ?_; focus exact sY) | (refine nI ?_ ?_; focus exact sY) | intro _); conv => whnf)
     try (refine dI sK ?_; conv => whnf)
     first | refine u0 hft ?_ | refine v0 hft ?_
     rintro _ _ ⟨rfl, rfl⟩ _
     conv => whnf
     repeat ((first | (refine aI ?_ ?_; focus exact sI) | refine dI sK ?_ | (refine yI ?_ ?_; focus exact sY) | (refine nI ?_ ?_; focus exact sY) | intro _); conv => whnf)
     repeat ((first | (refine aI ?_ ?_; focus exact sI) | refine dI sK ?_ | (refine yI ?_ ?_; focus exact sY) | (refine nI ?_ ?_; focus exact sY) | intro _); conv => whnf)
     all_goals exact sR
    ·have ev : decide (v1 = 2) = false := decide_eq_false hv
     rw [restF_ok (p := .mk v1 v2 v3 v4) hv]
     refine call_pure (E := envR6 0) (fn := Tryz.f29) (c := bodyOf Tryz.f29) (envR6_ok 0) mixed sK sK sK sK sK sK rfl ?_
     conv => whnf
     repeat ((first | (refine aI ?_ ?_; focus exact sI) | refine dI sK ?_ | (refine yI ?_ ?_; focus exact sY) | (refine nI ?_ ?_; focus exact sY) | intro _); conv => whnf)
     try (refine dI sK ?_; conv => whnf)
     first | refine u0 hcl ?_ | refine v0 hcl ?_
     rintro _ _ ⟨rfl, rfl⟩ _
     conv => whnf
     repeat ((first | (refine aI ?_ ?_; focus exact sI) | refine dI sK ?_ | (refine yI ?_ ?_; focus exact sY) | (refine nI ?_ ?_; focus exact sY) | intro _); conv => whnf)
     try (refine dI sK ?_; conv => whnf)
     first | refine u0 hft ?_ | refine v0 hft ?_
     rintro _ _ ⟨rfl, rfl⟩ _
     conv => whnf
     repeat ((first | (refine aI ?_ ?_; focus exact sI) | refine dI sK ?_ | (refine yI ?_ ?_; focus exact sY) | (refine nI ?_ ?_; focus exact sY) | intro _); conv => whnf)
     rw [ev]
     (refine nI ?_ ?_; (focus exact sY); conv => whnf)
     repeat ((first | (refine aI ?_ ?_; focus exact sI) | refine dI sK ?_ | (refine yI ?_ ?_; focus exact sY) | (refine nI ?_ ?_; focus exact sY) | intro _); conv => whnf)
     all_goals exact sR
   ·have ev : decide (e2 = 0) = false := decide_eq_false he2
    rw [show restF (.mk v1 v2 v3 v4, e2) = (zT, e2) from if_pos he2]
    refine call_pure (E := envR6 0) (fn := Tryz.f29) (c := bodyOf Tryz.f29) (envR6_ok 0) mixed sK sK sK sK sK sK rfl ?_
    conv => whnf
    repeat ((first | (refine aI ?_ ?_; focus exact sI) | refine dI sK ?_ | (refine yI ?_ ?_; focus exact sY) | (refine nI ?_ ?_; focus exact sY) | intro _); conv => whnf)
    try (refine dI sK ?_; conv => whnf)
    first | refine u0 hcl ?_ | refine v0 hcl ?_
    rintro _ _ ⟨rfl, rfl⟩ _
    conv => whnf
    repeat ((first | (refine aI ?_ ?_; focus exact sI) | refine dI sK ?_ | (refine yI ?_ ?_; focus exact sY) | (refine nI ?_ ?_; focus exact sY) | intro _); conv => whnf)
    try (refine dI sK ?_; conv => whnf)
    first | refine u0 hft ?_ | refine v0 hft ?_
    rintro _ _ ⟨rfl, rfl⟩ _
    conv => whnf
    repeat ((first | (refine aI ?_ ?_; focus exact sI) | refine dI sK ?_ | (refine yI ?_ ?_; focus exact sY) | (refine nI ?_ ?_; focus exact sY) | intro _); conv => whnf)
    rw [ev]
    (refine yI ?_ ?_; (focus exact sY); conv => whnf)
    repeat ((first | (refine aI ?_ ?_; focus exact sI) | refine dI sK ?_ | (refine yI ?_ ?_; focus exact sY) | (refine nI ?_ ?_; focus exact sY) | intro _); conv => whnf)
    all_goals exact sR
  ·have ev : decide (e = 0) = false := decide_eq_false he
   rw [show appF (c, e) (fun c => fitF K ts cx c) = (zT, e) from if_pos he]
   obtain ⟨c1, c2, c3, c4⟩ := c
   rw [tv_mk, tv_mk] at hcl
   rw [tv_mk]
   refine call_pure (E := envR6 0) (fn := Tryz.f29) (c := bodyOf Tryz.f29) (envR6_ok 0) mixed sK sK sK sK sK sK rfl ?_
   conv => whnf
   repeat ((first | (refine aI ?_ ?_; focus exact sI) | refine dI sK ?_ | (refine yI ?_ ?_; focus exact sY) | (refine nI ?_ ?_; focus exact sY) | intro _); conv => whnf)
   try (refine dI sK ?_; conv => whnf)
   first | refine u0 hcl ?_ | refine v0 hcl ?_
   rintro _ _ ⟨rfl, rfl⟩ _
   conv => whnf
   repeat ((first | (refine aI ?_ ?_; focus exact sI) | refine dI sK ?_ | (refine yI ?_ ?_; focus exact sY) | (refine nI ?_ ?_; focus exact sY) | intro _); conv => whnf)
   rw [ev]
   (refine yI ?_ ?_; (focus exact sY); conv => whnf)
   repeat ((first | (refine aI ?_ ?_; focus exact sI) | refine dI sK ?_ | (refine yI ?_ ?_; focus exact sY) | (refine nI ?_ ?_; focus exact sY) | intro _); conv => whnf)
   all_goals exact sR
 ·rw [infF_no K cx hk]
  obtain ⟨k, l, n, ts⟩ := m
  have ek : decide (k = 4) = false := decide_eq_false hk
  rw [tv_mk]
  refine call_pure (E := envR6 0) (fn := Tryz.f29) (c := bodyOf Tryz.f29) (envR6_ok 0) mixed sK sK sK sK sK sK rfl ?_
  conv => whnf
  repeat ((first | (refine aI ?_ ?_; focus exact sI) | refine dI sK ?_ | (refine yI ?_ ?_; focus exact sY) | (refine nI ?_ ?_; focus exact sY) | intro _); conv => whnf)
  rw [ek]
  (refine yI ?_ ?_; (focus exact sY); conv => whnf)
  repeat ((first | (refine aI ?_ ?_; focus exact sI) | refine dI sK ?_ | (refine yI ?_ ?_; focus exact sY) | (refine nI ?_ ?_; focus exact sY) | intro _); conv => whnf)
  all_goals exact sR
end Go.Tr
/- The reference kernel: Object. -/
namespace Go.Tr
open Go.Proofs
theorem prop_sub {m : Term} (h : prop m = true) : ∀ u ∈ m.ts, prop u = true := by
 obtain ⟨k, l, n, ts⟩ := m
 rcases fm_k (prop_fm1 h) with rfl | rfl | rfl | rfl
 ·intro u hu
  have h1 := prop_fm1 h
  unfold fmT at h1
  simp only [Bool.and_eq_true] at h1
  obtain ⟨⟨_, h2⟩, _⟩ := h1
  unfold fmB at h2
  simp at h2
  simp only [Term.ts] at hu
  rw [h2.1.1] at hu
  cases hu
 ·obtain ⟨A, B, _, _, rfl, hA, hB⟩ := prop_pi6 h
  intro u hu
  simp only [Term.ts, List.mem_cons, List.not_mem_nil, or_false] at hu
  rcases hu with rfl | rfl
  ·exact hA
  ·exact hB
 ·obtain ⟨b, _, _, rfl, hb⟩ := prop_lam6 h
  intro u hu
  simp only [Term.ts, List.mem_cons, List.not_mem_nil, or_false] at hu
  rw [hu]
  exact hb
 ·exact (prop_app h).2.2.2.2
set_option maxHeartbeats 1000000 in
theorem cRObject (K : Krn) (hK : KOk K) (m : Term) : prop m = true → RObjOk Tryz.prog 30 K m := by
 induction m using Term.ind with
 | _ m ih =>
 intro hm cx a hc ha
 have hsub := prop_sub hm
 have hin := cRInfer K hK m hm (fun u hu => ih u hu (hsub u hu)) cx hc
 by_cases ha2 : a.k = 2
 ·obtain ⟨k2, l2, n2, us⟩ := a
  replace ha2 : k2 = 2 := ha2
  subst ha2
  obtain ⟨A, B, rfl, rfl, rfl, hA, hB⟩ := prop_pi6 ha
  obtain ⟨k, l, n, ts⟩ := m
  by_cases hk4 : k = 4
  ·subst hk4
   rw [show objF K (.mk 4 l n ts) cx (.mk 2 0 0 [A, B]) = 23 by rw [objF]; rfl, tv_mk, tv_mk]
   refine call_pure (E := envR6 0) (fn := Tryz.f30) (c := bodyOf Tryz.f30) (envR6_ok 0) mixed sK sK sK sK sK sK rfl ?_
   refine aw_cut _ _ rfl fun C hC => ?_
   conv => whnf
   repeat ((first | (refine aI ?_ ?_; focus exact sI) | refine dI sK ?_ | (refine yI ?_ ?_; focus exact sY) | (refine nI ?_ ?_; focus exact sY) | intro _); conv => whnf)
   subst hC
   refine aw_cut _ _ rfl fun C hC => ?_
   conv => whnf
   repeat ((first | (refine aI ?_ ?_; focus exact sI) | refine dI sK ?_ | (refine yI ?_ ?_; focus exact sY) | (refine nI ?_ ?_; focus exact sY) | intro _); conv => whnf)
   subst hC
   repeat ((first | (refine aI ?_ ?_; focus exact sI) | refine dI sK ?_ | (refine yI ?_ ?_; focus exact sY) | (refine nI ?_ ?_; focus exact sY) | intro _); conv => whnf)
   all_goals exact sR
  ·have e4 : decide (k = 4) = false := decide_eq_false hk4
   by_cases hk3 : k = 3
   ·subst hk3
    obtain ⟨b, rfl, rfl, rfl, hb⟩ := prop_lam6 hm
    have hlo := cRLonger cx A
    rw [objF_pi, tv_mk, tv_mk]
    unfold longF longE at hlo
    by_cases h30 : 30 ≤ cx.length
    ·rw [if_pos h30, if_pos h30] at hlo
     rw [if_pos h30]
     obtain ⟨a1, a2, a3, a4⟩ := A
     rw [tv_mk] at hlo
     refine call_pure (E := envR6 0) (fn := Tryz.f30) (c := bodyOf Tryz.f30) (envR6_ok 0) mixed sK sK sK sK sK sK rfl ?_
     refine aw_cut _ _ rfl fun C hC => ?_
     conv => whnf
     repeat ((first | (refine aI ?_ ?_; focus exact sI) | refine dI sK ?_ | (refine yI ?_ ?_; focus exact sY) | (refine nI ?_ ?_; focus exact sY) | intro _); conv => whnf)
     subst hC
     refine aw_cut _ _ rfl fun C hC => ?_
     conv => whnf
     repeat ((first | (refine aI ?_ ?_; focus exact sI) | refine dI sK ?_ | (refine yI ?_ ?_; focus exact sY) | (refine nI ?_ ?_; focus exact sY) | intro _); conv => whnf)
     refine ⟨_, ⟨Int.le_refl 0, rfl⟩, ?_⟩
     conv => whnf
     refine ⟨Nat.le_refl 4, ?_⟩
     conv => whnf
     try (refine dI sK ?_; conv => whnf)
     first | refine u0 hlo ?_ | refine v0 hlo ?_
     rintro _ _ ⟨rfl, rfl⟩ _
     conv => whnf
     repeat ((first | (refine aI ?_ ?_; focus exact sI) | refine dI sK ?_ | (refine yI ?_ ?_; focus exact sY) | (refine nI ?_ ?_; focus exact sY) | intro _); conv => whnf)
     subst hC
     repeat ((first | (refine aI ?_ ?_; focus exact sI) | refine dI sK ?_ | (refine yI ?_ ?_; focus exact sY) | (refine nI ?_ ?_; focus exact sY) | intro _); conv => whnf)
     all_goals exact sR
    ·rw [if_neg h30, if_neg h30] at hlo
     rw [if_neg h30]
     have hob := ih b (List.mem_singleton.2 rfl) hb (cx ++ [A]) B (hc.snoc hA h30) hB
     obtain ⟨a1, a2, a3, a4⟩ := A
     obtain ⟨b1, b2, b3, b4⟩ := B
     obtain ⟨c1, c2, c3, c4⟩ := b
     rw [tv_mk] at hlo
     rw [tv_mk, tv_mk] at hob
     refine call_pure (E := envR6 0) (fn := Tryz.f30) (c := bodyOf Tryz.f30) (envR6_ok 0) mixed sK sK sK sK sK sK rfl ?_
     refine aw_cut _ _ rfl fun C hC => ?_
     conv => whnf
     repeat ((first | (refine aI ?_ ?_; focus exact sI) | refine dI sK ?_ | (refine yI ?_ ?_; focus exact sY) | (refine nI ?_ ?_; focus exact sY) | intro _); conv => whnf)
     subst hC
     refine aw_cut _ _ rfl fun C hC => ?_
     conv => whnf
     repeat ((first | (refine aI ?_ ?_; focus exact sI) | refine dI sK ?_ | (refine yI ?_ ?_; focus exact sY) | (refine nI ?_ ?_; focus exact sY) | intro _); conv => whnf)
     refine ⟨_, ⟨Int.le_refl 0, rfl⟩, ?_⟩
     conv => whnf
     refine ⟨Nat.le_refl 4, ?_⟩
     conv => whnf
     try (refine dI sK ?_; conv => whnf)
     first | refine u0 hlo ?_ | refine v0 hlo ?_
     rintro _ _ ⟨rfl, rfl⟩ _
     conv => whnf
     repeat ((first | (refine aI ?_ ?_; focus exact sI) | refine dI sK ?_ | (refine yI ?_ ?_; focus exact sY) | (refine nI ?_ ?_; focus exact sY) | intro _); conv => whnf)
     refine ⟨_, ⟨Int.le_refl 0, rfl⟩, ?_⟩
     conv => whnf
     refine ⟨Nat.le_refl 4, ?_⟩
     conv => whnf
     repeat ((first | (refine aI ?_ ?_; focus exact sI) | refine dI sK ?_ | (refine yI ?_ ?_; focus exact sY) | (refine nI ?_ ?_; focus exact sY) | intro _); conv => whnf)
     refine ⟨_, ⟨by decide, rfl⟩, ?_⟩
     conv => whnf
     refine ⟨Nat.le_refl 4, ?_⟩
     conv => whnf
     try (refine dI sK ?_; conv => whnf)
     first | refine u0 hob ?_ | refine v0 hob ?_
     rintro _ _ ⟨rfl, rfl⟩ _
     conv => whnf
     subst hC
     repeat ((first | (refine aI ?_ ?_; focus exact sI) | refine dI sK ?_ | (refine yI ?_ ?_; focus exact sY) | (refine nI ?_ ?_; focus exact sY) | intro _); conv => whnf)
     all_goals exact sR
   ·have e3 : decide (k = 3) = false := decide_eq_false hk3
    rw [show objF K (.mk k l n ts) cx (.mk 2 0 0 [A, B]) = 22 by rw [objF, if_pos (show (Term.mk 2 0 0 [A, B]).k = 2 from rfl), if_neg hk4, if_neg hk3], tv_mk, tv_mk]
    refine call_pure (E := envR6 0) (fn := Tryz.f30) (c := bodyOf Tryz.f30) (envR6_ok 0) mixed sK sK sK sK sK sK rfl ?_
    refine aw_cut _ _ rfl fun C hC => ?_
    conv => whnf
    repeat ((first | (refine aI ?_ ?_; focus exact sI) | refine dI sK ?_ | (refine yI ?_ ?_; focus exact sY) | (refine nI ?_ ?_; focus exact sY) | intro _); conv => whnf)
    subst hC
    refine aw_cut _ _ rfl fun C hC => ?_
    conv => whnf
    repeat ((first | (refine aI ?_ ?_; focus exact sI) | refine dI sK ?_ | (refine yI ?_ ?_; focus exact sY) | (refine nI ?_ ?_; focus exact sY) | intro _); conv => whnf)
    rw [e4]
    (refine nI ?_ ?_; (focus exact sY); conv => whnf)
    repeat ((first | (refine aI ?_ ?_; focus exact sI) | refine dI sK ?_ | (refine yI ?_ ?_; focus exact sY) | (refine nI ?_ ?_; focus exact sY) | intro _); conv => whnf)
    rw [e3]
    (refine yI ?_ ?_; (focus exact sY); conv => whnf)
    subst hC
    repeat ((first | (refine aI ?_ ?_; focus exact sI) | refine dI sK ?_ | (refine yI ?_ ?_; focus exact sY) | (refine nI ?_ ?_; focus exact sY) | intro _); conv => whnf)
    all_goals exact sR
 ·by_cases ha4 : a.k = 4
  ·obtain ⟨k2, l2, n2, us⟩ := a
   replace ha4 : k2 = 4 := ha4
   subst ha4
   by_cases hk3 : m.k = 3
   ·obtain ⟨k, l, n, ts⟩ := m
    replace hk3 : k = 3 := hk3
    subst hk3
    rw [show objF K (.mk 3 l n ts) cx (.mk 4 l2 n2 us) = 23 by rw [objF]; rfl, tv_mk, tv_mk]
    refine call_pure (E := envR6 0) (fn := Tryz.f30) (c := bodyOf Tryz.f30) (envR6_ok 0) mixed sK sK sK sK sK sK rfl ?_
    refine aw_cut _ _ rfl fun C hC => ?_
    conv => whnf
    repeat ((first | (refine aI ?_ ?_; focus exact sI) | refine dI sK ?_ | (refine yI ?_ ?_; focus exact sY) | (refine nI ?_ ?_; focus exact sY) | intro _); conv => whnf)
    subst hC
    refine aw_cut _ _ rfl fun C hC => ?_
    conv => whnf
    repeat ((first | (refine aI ?_ ?_; focus exact sI) | refine dI sK ?_ | (refine yI ?_ ?_; focus exact sY) | (refine nI ?_ ?_; focus exact sY) | intro _); conv => whnf)
    subst hC
    repeat ((first | (refine aI ?_ ?_; focus exact sI) | refine dI sK ?_ | (refine yI ?_ ?_; focus exact sY) | (refine nI ?_ ?_; focus exact sY) | intro _); conv => whnf)
    all_goals exact sR
   ·have hE : objF K m cx (.mk 4 l2 n2 us) = eqF (.mk 4 l2 n2 us) (infF K cx m) := by
     by_cases hk4 : m.k = 4
     ·exact objF_app K cx _ m rfl hk4
     ·rw [infF_no K cx hk4]
      obtain ⟨k, l, n, ts⟩ := m
      rw [objF, if_neg ha2, if_pos (show (Term.mk 4 l2 n2 us).k = 4 from rfl), if_neg (show ¬ k = 3 from hk3), if_neg (show ¬ k = 4 from hk4)]
      rfl
    rw [hE]
    clear hE
    have e3 : decide (m.k = 3) = false := decide_eq_false hk3
    obtain ⟨V, hV⟩ : ∃ V, V = infF K cx m := ⟨_, rfl⟩
    rw [← hV] at hin ⊢
    clear hV ih hsub
    obtain ⟨v, e⟩ := V
    have hsm := c23 (.mk 4 l2 n2 us) v
    obtain ⟨k, l, n, ts⟩ := m
    replace e3 : decide (k = 3) = false := e3
    simp only at hin
    unfold eqF
    simp only
    by_cases he : e = 0
    ·subst he
     rw [if_neg nz0]
     cases hb : sameT (.mk 4 l2 n2 us) v with
     | true =>
      rw [hb] at hsm
      rw [if_pos rfl]
      clear hb
      obtain ⟨v1, v2, v3, v4⟩ := v
      rw [tv_mk, tv_mk] at hin hsm
      rw [tv_mk, tv_mk]
      refine call_pure (E := envR6 0) (fn := Tryz.f30) (c := bodyOf Tryz.f30) (envR6_ok 0) mixed sK sK sK sK sK sK rfl ?_
      refine aw_cut _ _ rfl fun C hC => ?_
      conv => whnf
      repeat ((first | (refine aI ?_ ?_; focus exact sI) | refine dI sK ?_ | (refine yI ?_ ?_; focus exact sY) | (refine nI ?_ ?_; focus exact sY) | intro _); conv => whnf)
      subst hC
      refine aw_cut _ _ rfl fun C hC => ?_
      conv => whnf
      repeat ((first | (refine aI ?_ ?_; focus exact sI) | refine dI sK ?_ | (refine yI ?_ ?_; focus exact sY) | (refine nI ?_ ?_; focus exact sY) | intro _); conv => whnf)
      rw [e3]
      (refine nI ?_ ?_; (focus exact sY); conv => whnf)
      repeat ((first | (refine aI ?_ ?_; focus exact sI) | refine dI sK ?_ | (refine yI ?_ ?_; focus exact sY) | (refine nI ?_ ?_; focus exact sY) | intro _); conv => whnf)
      try (refine dI sK ?_; conv => whnf)
      first | refine u0 hin ?_ | refine v0 hin ?_
      rintro _ _ ⟨rfl, rfl⟩ _
      conv => whnf
      repeat ((first | (refine aI ?_ ?_; focus exact sI) | refine dI sK ?_ | (refine yI ?_ ?_; focus exact sY) | (refine nI ?_ ?_; focus exact sY) | intro _); conv => whnf)
      try (refine dI sK ?_; conv => whnf)
      first | refine u0 hsm ?_ | refine v0 hsm ?_
      rintro _ _ ⟨rfl, rfl⟩ _
      conv => whnf
      repeat ((first | (refine aI ?_ ?_; focus exact sI) | refine dI sK ?_ | (refine yI ?_ ?_; focus exact sY) | (refine nI ?_ ?_; focus exact sY) | intro _); conv => whnf)
      subst hC
      repeat ((first | (refine aI ?_ ?_; focus exact sI) | refine dI sK ?_ | (refine yI ?_ ?_; focus exact sY) | (refine nI ?_ ?_; focus exact sY) | intro _); conv => whnf)
      all_goals exact sR
     | false =>
      rw [hb] at hsm
      rw [if_neg (by decide)]
      clear hb
      obtain ⟨v1, v2, v3, v4⟩ := v
      rw [tv_mk, tv_mk] at hin hsm
      rw [tv_mk, tv_mk]
      refine call_pure (E := envR6 0) (fn := Tryz.f30) (c := bodyOf Tryz.f30) (envR6_ok 0) mixed sK sK sK sK sK sK rfl ?_
      refine aw_cut _ _ rfl fun C hC => ?_
      conv => whnf
      repeat ((first | (refine aI ?_ ?_; focus exact sI) | refine dI sK ?_ | (refine yI ?_ ?_; focus exact sY) | (refine nI ?_ ?_; focus exact sY) | intro _); conv => whnf)
      subst hC
      refine aw_cut _ _ rfl fun C hC => ?_
      conv => whnf
      repeat ((first | (refine aI ?_ ?_; focus exact sI) | refine dI sK ?_ | (refine yI ?_ ?_; focus exact sY) | (refine nI ?_ ?_; focus exact sY) | intro _); conv => whnf)
      rw [e3]
      (refine nI ?_ ?_; (focus exact sY); conv => whnf)
      repeat ((first | (refine aI ?_ ?_; focus exact sI) | refine dI sK ?_ | (refine yI ?_ ?_; focus exact sY) | (refine nI ?_ ?_; focus exact sY) | intro _); conv => whnf)
      try (refine dI sK ?_; conv => whnf)
      first | refine u0 hin ?_ | refine v0 hin ?_
      rintro _ _ ⟨rfl, rfl⟩ _
      conv => whnf
      repeat ((first | (refine aI ?_ ?_; focus exact sI) | refine dI sK ?_ | (refine yI ?_ ?_; focus exact sY) | (refine nI ?_ ?_; focus exact sY) | intro _); conv => whnf)
      try (refine dI sK ?_; conv => whnf)
      first | refine u0 hsm ?_ | refine v0 hsm ?_
      rintro _ _ ⟨rfl, rfl⟩ _
      conv => whnf
      repeat ((first | (refine aI ?_ ?_; focus exact sI) | refine dI sK ?_ | (refine yI ?_ ?_; focus exact sY) | (refine nI ?_ ?_; focus exact sY) | intro _); conv => whnf)
      subst hC
      repeat ((first | (refine aI ?_ ?_; focus exact sI) | refine dI sK ?_ | (refine yI ?_ ?_; focus exact sY) | (refine nI ?_ ?_; focus exact sY) | intro _); conv => whnf)
      all_goals exact sR
    ·rw [if_pos he]
     have ez : decide (e = 0) = false := decide_eq_false he
     obtain ⟨v1, v2, v3, v4⟩ := v
     rw [tv_mk, tv_mk] at hin
     rw [tv_mk, tv_mk]
     refine call_pure (E := envR6 0) (fn := Tryz.f30) (c := bodyOf Tryz.f30) (envR6_ok 0) mixed sK sK sK sK sK sK rfl ?_
     refine aw_cut _ _ rfl fun C hC => ?_
     conv => whnf
     repeat ((first | (refine aI ?_ ?_; focus exact sI) | refine dI sK ?_ | (refine yI ?_ ?_; focus exact sY) | (refine nI ?_ ?_; focus exact sY) | intro _); conv => whnf)
     subst hC
     refine aw_cut _ _ rfl fun C hC => ?_
     conv => whnf
     repeat ((first | (refine aI ?_ ?_; focus exact sI) | refine dI sK ?_ | (refine yI ?_ ?_; focus exact sY) | (refine nI ?_ ?_; focus exact sY) | intro _); conv => whnf)
     rw [e3]
     (refine nI ?_ ?_; (focus exact sY); conv => whnf)
     repeat ((first | (refine aI ?_ ?_; focus exact sI) | refine dI sK ?_ | (refine yI ?_ ?_; focus exact sY) | (refine nI ?_ ?_; focus exact sY) | intro _); conv => whnf)
     try (refine dI sK ?_; conv => whnf)
     first | refine u0 hin ?_ | refine v0 hin ?_
     rintro _ _ ⟨rfl, rfl⟩ _
     conv => whnf
     repeat ((first | (refine aI ?_ ?_; focus exact sI) | refine dI sK ?_ | (refine yI ?_ ?_; focus exact sY) | (refine nI ?_ ?_; focus exact sY) | intro _); conv => whnf)
     rw [ez]
     (refine yI ?_ ?_; (focus exact sY); conv => whnf)
     subst hC
     repeat ((first | (refine aI ?_ ?_; focus exact sI) | refine dI sK ?_ | (refine yI ?_ ?_; focus exact sY) | (refine nI ?_ ?_; focus exact sY) | intro _); conv => whnf)
     all_goals exact sR
  ·obtain ⟨k, l, n, ts⟩ := m
   rw [show objF K (.mk k l n ts) cx a = 22 by rw [objF, if_neg ha2, if_neg ha4]]
   obtain ⟨k2, l2, n2, us⟩ := a
   have e2 : decide (k2 = 2) = false := decide_eq_false ha2
   have e4 : decide (k2 = 4) = false := decide_eq_false ha4
   rw [tv_mk, tv_mk]
   refine call_pure (E := envR6 0) (fn := Tryz.f30) (c := bodyOf Tryz.f30) (envR6_ok 0) mixed sK sK sK sK sK sK rfl ?_
   refine aw_cut _ _ rfl fun C hC => ?_
   conv => whnf
   repeat ((first | (refine aI ?_ ?_; focus exact sI) | refine dI sK ?_ | (refine yI ?_ ?_; focus exact sY) | (refine nI ?_ ?_; focus exact sY) | intro _); conv => whnf)
   subst hC
   refine aw_cut _ _ rfl fun C hC => ?_
   conv => whnf
   repeat ((first | (refine aI ?_ ?_; focus exact sI) | refine dI sK ?_ | (refine yI ?_ ?_; focus exact sY) | (refine nI ?_ ?_; focus exact sY) | intro _); conv => whnf)
   rw [e2]
   (refine nI ?_ ?_; (focus exact sY); conv => whnf)
   repeat ((first | (refine aI ?_ ?_; focus exact sI) | refine dI sK ?_ | (refine yI ?_ ?_; focus exact sY) | (refine nI ?_ ?_; focus exact sY) | intro _); conv => whnf)
   rw [e4]
   (refine nI ?_ ?_; (focus exact sY); conv => whnf)
   subst hC
   repeat ((first | (refine aI ?_ ?_; focus exact sI) | refine dI sK ?_ | (refine yI ?_ ?_; focus exact sY) | (refine nI ?_ ?_; focus exact sY) | intro _); conv => whnf)
   all_goals exact sR
end Go.Tr
/- The reference kernel: Type, pi, Kind. -/
namespace Go.Tr
open Go.Proofs
def RTypOk (P : Program) (f : FuncId) (K : Krn) (a : Term) : Prop := ∀ (cx : List Term), COk cx → CallSt P f [kvR K.sig K.ms, .c (.sl 4 48 (tcs cx)), tv a] [] (fun r H' => r = .c (.int .i64 (typF K a cx)) ∧ H' = [])
def RKndOk (P : Program) (f : FuncId) (K : Krn) (a : Term) : Prop := ∀ (cx : List Term), COk cx → CallSt P f [kvR K.sig K.ms, .c (.sl 4 48 (tcs cx)), tv a] [] (fun r H' => r = .c (.int .i64 (kndF K a cx)) ∧ H' = [])
theorem cRPi0 (K : Krn) (A B : Term) (hA : prop A = true) (h1 : RTypOk Tryz.prog 24 K A) (h2 : RTypOk Tryz.prog 24 K B) (cx : List Term) (hc : COk cx) :
  CallSt Tryz.prog 60 [kvR K.sig K.ms, .c (.sl 4 48 (tcs cx)), tv (.mk 2 0 0 [A, B]), .c (.bool false)] [] (fun r H' => r = .c (.int .i64 (typF K (.mk 2 0 0 [A, B]) cx)) ∧ H' = []) := by
 have ht := h1 cx hc
 have hlo := cRLonger cx A
 have hb := fun h30 => h2 (cx ++ [A]) (hc.snoc hA h30)
 rw [typF_pi, tv_mk]
 unfold longF longE at hlo
 by_cases he : typF K A cx ≠ 0
 ·rw [if_pos he]
  have ez : decide (typF K A cx = 0) = false := decide_eq_false he
  generalize typF K A cx = e at *
  clear hb
  obtain ⟨a1, a2, a3, a4⟩ := A
  rw [tv_mk] at ht
  refine call_pure (E := envR6 0) (fn := Tryz.f60) (c := bodyOf Tryz.f60) (envR6_ok 0) mixed sK sK sK sK sK sK rfl ?_
  refine aw_cut _ _ rfl fun C hC => ?_
  conv => whnf
  repeat ((first | (refine aI ?_ ?_; focus exact sI) | refine dI sK ?_ | (refine yI ?_ ?_; focus exact sY) | (refine nI ?_ ?_; focus exact sY) | intro _); conv => whnf)
  subst hC
  refine aw_cut _ _ rfl fun C hC => ?_
  conv => whnf
  repeat ((first | (refine aI ?_ ?_; focus exact sI) | refine dI sK ?_ | (refine yI ?_ ?_; focus exact sY) | (refine nI ?_ ?_; focus exact sY) | intro _); conv => whnf)
  refine ⟨_, ⟨by decide, rfl⟩, ?_⟩
  conv => whnf
  refine ⟨Nat.le_refl 4, ?_⟩
  conv => whnf
  try (refine dI sK ?_; conv => whnf)
  first | refine u0 ht ?_ | refine v0 ht ?_
  rintro _ _ ⟨rfl, rfl⟩ _
  conv => whnf
  rw [ez]
  (refine yI ?_ ?_; (focus exact sY); conv => whnf)
  subst hC
  repeat ((first | (refine aI ?_ ?_; focus exact sI) | refine dI sK ?_ | (refine yI ?_ ?_; focus exact sY) | (refine nI ?_ ?_; focus exact sY) | intro _); conv => whnf)
  all_goals exact sR
 ·rw [if_neg he]
  have e0 : typF K A cx = 0 := by omega
  rw [e0] at ht
  by_cases h30 : 30 ≤ cx.length
  ·rw [if_pos h30, if_pos h30] at hlo
   rw [if_pos h30]
   clear hb e0 he
   obtain ⟨a1, a2, a3, a4⟩ := A
   rw [tv_mk] at ht hlo
   refine call_pure (E := envR6 0) (fn := Tryz.f60) (c := bodyOf Tryz.f60) (envR6_ok 0) mixed sK sK sK sK sK sK rfl ?_
   refine aw_cut _ _ rfl fun C hC => ?_
   conv => whnf
   repeat ((first | (refine aI ?_ ?_; focus exact sI) | refine dI sK ?_ | (refine yI ?_ ?_; focus exact sY) | (refine nI ?_ ?_; focus exact sY) | intro _); conv => whnf)
   subst hC
   refine aw_cut _ _ rfl fun C hC => ?_
   conv => whnf
   repeat ((first | (refine aI ?_ ?_; focus exact sI) | refine dI sK ?_ | (refine yI ?_ ?_; focus exact sY) | (refine nI ?_ ?_; focus exact sY) | intro _); conv => whnf)
   refine ⟨_, ⟨by decide, rfl⟩, ?_⟩
   conv => whnf
   refine ⟨Nat.le_refl 4, ?_⟩
   conv => whnf
   try (refine dI sK ?_; conv => whnf)
   first | refine u0 ht ?_ | refine v0 ht ?_
   rintro _ _ ⟨rfl, rfl⟩ _
   conv => whnf
   repeat ((first | (refine aI ?_ ?_; focus exact sI) | refine dI sK ?_ | (refine yI ?_ ?_; focus exact sY) | (refine nI ?_ ?_; focus exact sY) | intro _); conv => whnf)
   subst hC
   refine aw_cut _ _ rfl fun C hC => ?_
   conv => whnf
   repeat ((first | (refine aI ?_ ?_; focus exact sI) | refine dI sK ?_ | (refine yI ?_ ?_; focus exact sY) | (refine nI ?_ ?_; focus exact sY) | intro _); conv => whnf)
   refine ⟨_, ⟨by decide, rfl⟩, ?_⟩
   conv => whnf
   refine ⟨Nat.le_refl 4, ?_⟩
   conv => whnf
   try (refine dI sK ?_; conv => whnf)
   first | refine u0 hlo ?_ | refine v0 hlo ?_
   rintro _ _ ⟨rfl, rfl⟩ _
   conv => whnf
   repeat ((first | (refine aI ?_ ?_; focus exact sI) | refine dI sK ?_ | (refine yI ?_ ?_; focus exact sY) | (refine nI ?_ ?_; focus exact sY) | intro _); conv => whnf)
   subst hC
   repeat ((first | (refine aI ?_ ?_; focus exact sI) | refine dI sK ?_ | (refine yI ?_ ?_; focus exact sY) | (refine nI ?_ ?_; focus exact sY) | intro _); conv => whnf)
   all_goals exact sR
  ·rw [if_neg h30, if_neg h30] at hlo
   rw [if_neg h30]
   replace hb := hb h30
   clear e0 he
   obtain ⟨a1, a2, a3, a4⟩ := A
   obtain ⟨b1, b2, b3, b4⟩ := B
   rw [tv_mk] at ht hlo hb
   refine call_pure (E := envR6 0) (fn := Tryz.f60) (c := bodyOf Tryz.f60) (envR6_ok 0) mixed sK sK sK sK sK sK rfl ?_
   refine aw_cut _ _ rfl fun C hC => ?_
   conv => whnf
   repeat ((first | (refine aI ?_ ?_; focus exact sI) | refine dI sK ?_ | (refine yI ?_ ?_; focus exact sY) | (refine nI ?_ ?_; focus exact sY) | intro _); conv => whnf)
   subst hC
   refine aw_cut _ _ rfl fun C hC => ?_
   conv => whnf
   repeat ((first | (refine aI ?_ ?_; focus exact sI) | refine dI sK ?_ | (refine yI ?_ ?_; focus exact sY) | (refine nI ?_ ?_; focus exact sY) | intro _); conv => whnf)
   refine ⟨_, ⟨by decide, rfl⟩, ?_⟩
   conv => whnf
   refine ⟨Nat.le_refl 4, ?_⟩
   conv => whnf
   try (refine dI sK ?_; conv => whnf)
   first | refine u0 ht ?_ | refine v0 ht ?_
   rintro _ _ ⟨rfl, rfl⟩ _
   conv => whnf
   repeat ((first | (refine aI ?_ ?_; focus exact sI) | refine dI sK ?_ | (refine yI ?_ ?_; focus exact sY) | (refine nI ?_ ?_; focus exact sY) | intro _); conv => whnf)
   subst hC
   refine aw_cut _ _ rfl fun C hC => ?_
   conv => whnf
   repeat ((first | (refine aI ?_ ?_; focus exact sI) | refine dI sK ?_ | (refine yI ?_ ?_; focus exact sY) | (refine nI ?_ ?_; focus exact sY) | intro _); conv => whnf)
   refine ⟨_, ⟨by decide, rfl⟩, ?_⟩
   conv => whnf
   refine ⟨Nat.le_refl 4, ?_⟩
   conv => whnf
   try (refine dI sK ?_; conv => whnf)
   first | refine u0 hlo ?_ | refine v0 hlo ?_
   rintro _ _ ⟨rfl, rfl⟩ _
   conv => whnf
   repeat ((first | (refine aI ?_ ?_; focus exact sI) | refine dI sK ?_ | (refine yI ?_ ?_; focus exact sY) | (refine nI ?_ ?_; focus exact sY) | intro _); conv => whnf)
   subst hC
   refine aw_cut _ _ rfl fun C hC => ?_
   conv => whnf
   repeat ((first | (refine aI ?_ ?_; focus exact sI) | refine dI sK ?_ | (refine yI ?_ ?_; focus exact sY) | (refine nI ?_ ?_; focus exact sY) | intro _); conv => whnf)
   subst hC
   refine aw_cut _ _ rfl fun C hC => ?_
   conv => whnf
   repeat ((first | (refine aI ?_ ?_; focus exact sI) | refine dI sK ?_ | (refine yI ?_ ?_; focus exact sY) | (refine nI ?_ ?_; focus exact sY) | intro _); conv => whnf)
   subst hC
   refine aw_cut _ _ rfl fun C hC => ?_
   conv => whnf
   repeat ((first | (refine aI ?_ ?_; focus exact sI) | refine dI sK ?_ | (refine yI ?_ ?_; focus exact sY) | (refine nI ?_ ?_; focus exact sY) | intro _); conv => whnf)
   refine ⟨_, ⟨by decide, rfl⟩, ?_⟩
   conv => whnf
   refine ⟨Nat.le_refl 4, ?_⟩
   conv => whnf
   try (refine dI sK ?_; conv => whnf)
   first | refine u0 hb ?_ | refine v0 hb ?_
   rintro _ _ ⟨rfl, rfl⟩ _
   conv => whnf
   subst hC
   repeat ((first | (refine aI ?_ ?_; focus exact sI) | refine dI sK ?_ | (refine yI ?_ ?_; focus exact sY) | (refine nI ?_ ?_; focus exact sY) | intro _); conv => whnf)
   all_goals exact sR
theorem cRPi1 (K : Krn) (A B : Term) (hA : prop A = true) (h1 : RTypOk Tryz.prog 24 K A) (h2 : RKndOk Tryz.prog 25 K B) (cx : List Term) (hc : COk cx) :
  CallSt Tryz.prog 60 [kvR K.sig K.ms, .c (.sl 4 48 (tcs cx)), tv (.mk 2 0 0 [A, B]), .c (.bool true)] [] (fun r H' => r = .c (.int .i64 (kndF K (.mk 2 0 0 [A, B]) cx)) ∧ H' = []) := by
 have ht := h1 cx hc
 have hlo := cRLonger cx A
 have hb := fun h30 => h2 (cx ++ [A]) (hc.snoc hA h30)
 rw [kndF_pi, tv_mk]
 unfold longF longE at hlo
 by_cases he : typF K A cx ≠ 0
 ·rw [if_pos he]
  have ez : decide (typF K A cx = 0) = false := decide_eq_false he
  generalize typF K A cx = e at *
  clear hb
  obtain ⟨a1, a2, a3, a4⟩ := A
  rw [tv_mk] at ht
  refine call_pure (E := envR6 0) (fn := Tryz.f60) (c := bodyOf Tryz.f60) (envR6_ok 0) mixed sK sK sK sK sK sK rfl ?_
  refine aw_cut _ _ rfl fun C hC => ?_
  conv => whnf
  repeat ((first | (refine aI ?_ ?_; focus exact sI) | refine dI sK ?_ | (refine yI ?_ ?_; focus exact sY) | (refine nI ?_ ?_; focus exact sY) | intro _); conv => whnf)
  subst hC
  refine aw_cut _ _ rfl fun C hC => ?_
  conv => whnf
  repeat ((first | (refine aI ?_ ?_; focus exact sI) | refine dI sK ?_ | (refine yI ?_ ?_; focus exact sY) | (refine nI ?_ ?_; focus exact sY) | intro _); conv => whnf)
  refine ⟨_, ⟨by decide, rfl⟩, ?_⟩
  conv => whnf
  refine ⟨Nat.le_refl 4, ?_⟩
  conv => whnf
  try (refine dI sK ?_; conv => whnf)
  first | refine u0 ht ?_ | refine v0 ht ?_
  rintro _ _ ⟨rfl, rfl⟩ _
  conv => whnf
  rw [ez]
  (refine yI ?_ ?_; (focus exact sY); conv => whnf)
  subst hC
  repeat ((first | (refine aI ?_ ?_; focus exact sI) | refine dI sK ?_ | (refine yI ?_ ?_; focus exact sY) | (refine nI ?_ ?_; focus exact sY) | intro _); conv => whnf)
  all_goals exact sR
 ·rw [if_neg he]
  have e0 : typF K A cx = 0 := by omega
  rw [e0] at ht
  by_cases h30 : 30 ≤ cx.length
  ·rw [if_pos h30, if_pos h30] at hlo
   rw [if_pos h30]
   clear hb e0 he
   obtain ⟨a1, a2, a3, a4⟩ := A
   rw [tv_mk] at ht hlo
   refine call_pure (E := envR6 0) (fn := Tryz.f60) (c := bodyOf Tryz.f60) (envR6_ok 0) mixed sK sK sK sK sK sK rfl ?_
   refine aw_cut _ _ rfl fun C hC => ?_
   conv => whnf
   repeat ((first | (refine aI ?_ ?_; focus exact sI) | refine dI sK ?_ | (refine yI ?_ ?_; focus exact sY) | (refine nI ?_ ?_; focus exact sY) | intro _); conv => whnf)
   subst hC
   refine aw_cut _ _ rfl fun C hC => ?_
   conv => whnf
   repeat ((first | (refine aI ?_ ?_; focus exact sI) | refine dI sK ?_ | (refine yI ?_ ?_; focus exact sY) | (refine nI ?_ ?_; focus exact sY) | intro _); conv => whnf)
   refine ⟨_, ⟨by decide, rfl⟩, ?_⟩
   conv => whnf
   refine ⟨Nat.le_refl 4, ?_⟩
   conv => whnf
   try (refine dI sK ?_; conv => whnf)
   first | refine u0 ht ?_ | refine v0 ht ?_
   rintro _ _ ⟨rfl, rfl⟩ _
   conv => whnf
   repeat ((first | (refine aI ?_ ?_; focus exact sI) | refine dI sK ?_ | (refine yI ?_ ?_; focus exact sY) | (refine nI ?_ ?_; focus exact sY) | intro _); conv => whnf)
   subst hC
   refine aw_cut _ _ rfl fun C hC => ?_
   conv => whnf
   repeat ((first | (refine aI ?_ ?_; focus exact sI) | refine dI sK ?_ | (refine yI ?_ ?_; focus exact sY) | (refine nI ?_ ?_; focus exact sY) | intro _); conv => whnf)
   refine ⟨_, ⟨by decide, rfl⟩, ?_⟩
   conv => whnf
   refine ⟨Nat.le_refl 4, ?_⟩
   conv => whnf
   try (refine dI sK ?_; conv => whnf)
   first | refine u0 hlo ?_ | refine v0 hlo ?_
   rintro _ _ ⟨rfl, rfl⟩ _
   conv => whnf
   repeat ((first | (refine aI ?_ ?_; focus exact sI) | refine dI sK ?_ | (refine yI ?_ ?_; focus exact sY) | (refine nI ?_ ?_; focus exact sY) | intro _); conv => whnf)
   subst hC
   repeat ((first | (refine aI ?_ ?_; focus exact sI) | refine dI sK ?_ | (refine yI ?_ ?_; focus exact sY) | (refine nI ?_ ?_; focus exact sY) | intro _); conv => whnf)
   all_goals exact sR
  ·rw [if_neg h30, if_neg h30] at hlo
   rw [if_neg h30]
   replace hb := hb h30
   clear e0 he
   obtain ⟨a1, a2, a3, a4⟩ := A
   obtain ⟨b1, b2, b3, b4⟩ := B
   rw [tv_mk] at ht hlo hb
   refine call_pure (E := envR6 0) (fn := Tryz.f60) (c := bodyOf Tryz.f60) (envR6_ok 0) mixed sK sK sK sK sK sK rfl ?_
   refine aw_cut _ _ rfl fun C hC => ?_
   conv => whnf
   repeat ((first | (refine aI ?_ ?_; focus exact sI) | refine dI sK ?_ | (refine yI ?_ ?_; focus exact sY) | (refine nI ?_ ?_; focus exact sY) | intro _); conv => whnf)
   subst hC
   refine aw_cut _ _ rfl fun C hC => ?_
   conv => whnf
   repeat ((first | (refine aI ?_ ?_; focus exact sI) | refine dI sK ?_ | (refine yI ?_ ?_; focus exact sY) | (refine nI ?_ ?_; focus exact sY) | intro _); conv => whnf)
   refine ⟨_, ⟨by decide, rfl⟩, ?_⟩
   conv => whnf
   refine ⟨Nat.le_refl 4, ?_⟩
   conv => whnf
   try (refine dI sK ?_; conv => whnf)
   first | refine u0 ht ?_ | refine v0 ht ?_
   rintro _ _ ⟨rfl, rfl⟩ _
   conv => whnf
   repeat ((first | (refine aI ?_ ?_; focus exact sI) | refine dI sK ?_ | (refine yI ?_ ?_; focus exact sY) | (refine nI ?_ ?_; focus exact sY) | intro _); conv => whnf)
   subst hC
   refine aw_cut _ _ rfl fun C hC => ?_
   conv => whnf
   repeat ((first | (refine aI ?_ ?_; focus exact sI) | refine dI sK ?_ | (refine yI ?_ ?_; focus exact sY) | (refine nI ?_ ?_; focus exact sY) | intro _); conv => whnf)
   refine ⟨_, ⟨by decide, rfl⟩, ?_⟩
   conv => whnf
   refine ⟨Nat.le_refl 4, ?_⟩
   conv => whnf
   try (refine dI sK ?_; conv => whnf)
   first | refine u0 hlo ?_ | refine v0 hlo ?_
   rintro _ _ ⟨rfl, rfl⟩ _
   conv => whnf
   repeat ((first | (refine aI ?_ ?_; focus exact sI) | refine dI sK ?_ | (refine yI ?_ ?_; focus exact sY) | (refine nI ?_ ?_; focus exact sY) | intro _); conv => whnf)
   subst hC
   refine aw_cut _ _ rfl fun C hC => ?_
   conv => whnf
   repeat ((first | (refine aI ?_ ?_; focus exact sI) | refine dI sK ?_ | (refine yI ?_ ?_; focus exact sY) | (refine nI ?_ ?_; focus exact sY) | intro _); conv => whnf)
   subst hC
   refine aw_cut _ _ rfl fun C hC => ?_
   conv => whnf
   repeat ((first | (refine aI ?_ ?_; focus exact sI) | refine dI sK ?_ | (refine yI ?_ ?_; focus exact sY) | (refine nI ?_ ?_; focus exact sY) | intro _); conv => whnf)
   refine ⟨_, ⟨by decide, rfl⟩, ?_⟩
   conv => whnf
   refine ⟨Nat.le_refl 4, ?_⟩
   conv => whnf
   try (refine dI sK ?_; conv => whnf)
   first | refine u0 hb ?_ | refine v0 hb ?_
   rintro _ _ ⟨rfl, rfl⟩ _
   conv => whnf
   subst hC
   repeat ((first | (refine aI ?_ ?_; focus exact sI) | refine dI sK ?_ | (refine yI ?_ ?_; focus exact sY) | (refine nI ?_ ?_; focus exact sY) | intro _); conv => whnf)
   all_goals exact sR
end Go.Tr
/- The reference kernel: Type, Kind. -/
namespace Go.Tr
open Go.Proofs
set_option maxHeartbeats 1000000 in
theorem cRTypeA (K : Krn) (hK : KOk K) (n : Int) (ts : List Term) (hm : prop (.mk 4 2 n ts) = true) : RTypOk Tryz.prog 24 K (.mk 4 2 n ts) := by
 intro cx hc
 obtain ⟨h1, h2, h3, h4, h5⟩ := prop_app hm
 obtain ⟨q, rfl⟩ : ∃ q : Nat, n = q := ⟨n.toNat, by omega⟩
 have hsl := len_dcs K.sig
 have hE : typF K (.mk 4 2 (q : Int) ts) cx = famF K cx (q : Int) ts := by rw [typF.eq_def]; simp
 rw [hE]
 clear hE
 have hh := cRHas K.sig q
 unfold famF
 rw [Int.toNat_natCast, tv_mk]
 by_cases hq : q < K.sig.length
 ·obtain ⟨d, hd⟩ : ∃ d, K.sig[q]? = some d := ⟨K.sig[q]'(by omega), List.getElem?_eq_getElem (by omega)⟩
  have hdc := dcs_at hd
  have hp := hK.1 d (List.mem_of_getElem? hd)
  have hf := cRIsFamily K.sig q (by omega) d (by rw [Int.toNat_natCast]; exact hd) hp
  rw [show (decide (0 ≤ (q : Int)) && decide ((q : Int) < (K.sig.length : Int))) = true by rw [decide_eq_true (show 0 ≤ (q : Int) by omega), decide_eq_true (show (q : Int) < K.sig.length by omega)]; rfl] at hh
  have hft := cRFits K ts (fun u hu => ⟨h5 u hu, cRObject K hK u (h5 u hu)⟩) cx hc d.c hp
  rw [hd]
  simp only
  cases hk : kindT d.c with
  | true =>
   rw [hk] at hf
   rw [if_pos rfl]
   clear hk
   obtain ⟨V, hV⟩ : ∃ V, V = fitF K ts cx d.c := ⟨_, rfl⟩
   rw [← hV] at hft ⊢
   clear hV hd hp
   obtain ⟨⟨v1, v2, v3, v4⟩, e2⟩ := V
   obtain ⟨nm, ⟨c1, c2, c3, c4⟩, im⟩ := d
   simp only at hft
   rw [tv_mk, tv_mk] at hft
   by_cases he2 : e2 = 0
   ·subst he2
    rw [if_neg nz0]
    by_cases hv : v1 = 1
    ·subst hv
     rw [if_pos (show (Term.mk 1 v2 v3 v4).k = 1 from rfl)]
     refine call_pure (E := envR6 0) (fn := Tryz.f24) (c := bodyOf Tryz.f24) (envR6_ok 0) mixed sK sK sK sK sK sK rfl ?_
     refine aw_cut _ _ rfl fun C hC => ?_
     conv => whnf
     repeat ((first | (refine aI ?_ ?_; focus exact sI) | refine dI sK ?_ | (refine yI ?_ ?_; focus exact sY) | (refine nI ?_ ?_; focus exact sY) | intro _); conv => whnf)
     subst hC
     refine aw_cut _ _ rfl fun C hC => ?_
     conv => whnf
     repeat ((first | (refine aI ?_ ?_; focus exact sI) | refine dI sK ?_ | (refine yI ?_ ?_; focus exact sY) | (refine nI ?_ ?_; focus exact sY) | intro _); conv => whnf)
     try (refine dI sK ?_; conv => whnf)
     first | refine u0 hh ?_ | refine v0 hh ?_
     rintro _ _ ⟨rfl, rfl⟩ _
     conv => whnf
     repeat ((first | (refine aI ?_ ?_; focus exact sI) | refine dI sK ?_ | (refine yI ?_ ?_; focus exact sY) | (refine nI ?_ ?_; focus exact sY) | intro _); conv => whnf)
     try (refine dI sK ?_; conv => whnf)
     first | refine u0 hf ?_ | refine v0 hf ?_
     rintro _ _ ⟨rfl, rfl⟩ _
     conv => whnf
     repeat ((first | (refine aI ?_ ?_; focus exact sI) | refine dI sK ?_ | (refine yI ?_ ?_; focus exact sY) | (refine nI ?_ ?_; focus exact sY) | intro _); conv => whnf)
     subst hC
     refine aw_cut _ _ rfl fun C hC => ?_
     conv => whnf
     repeat ((first | (refine aI ?_ ?_; focus exact sI) | refine dI sK ?_ | (refine yI ?_ ?_; focus exact sY) | (refine nI ?_ ?_; focus exact sY) | intro _); conv => whnf)
     refine ⟨_, ⟨by omega, hdc⟩, ?_⟩
     conv => whnf
     refine ⟨show 4 ≤ 5 by decide, ?_⟩
     conv => whnf
     (refine And.intro ?_ ?_ <;> conv => whnf)
     all_goals
      repeat ((first | (refine aI ?_ ?_; focus exact sI) | refine dI sK ?_ | (refine yI ?_ ?_; focus exact sY) | (refine nI ?_ ?_; focus exact sY) | intro _); conv => whnf)
      try (refine dI sK ?_; conv => whnf)
      first | refine u0 hft ?_ | refine v0 hft ?_
      rintro _ _ ⟨rfl, rfl⟩ _
      conv => whnf
      repeat ((first | (refine aI ?_ ?_; focus exact sI) | refine dI sK ?_ | (refine yI ?_ ?_; focus exact sY) | (refine nI ?_ ?_; focus exact sY) | intro _); conv => whnf)
      subst hC
      repeat ((first | (refine aI ?_ ?_; focus exact sI) | refine dI sK ?_ | (refine yI ?_ ?_; focus exact sY) | (refine nI ?_ ?_; focus exact sY) | intro _); conv => whnf)
      all_goals exact sR
    ·have ev : decide (v1 = 1) = false := decide_eq_false hv
     rw [if_neg (show ¬ (Term.mk v1 v2 v3 v4).k = 1 from hv)]
     refine call_pure (E := envR6 0) (fn := Tryz.f24) (c := bodyOf Tryz.f24) (envR6_ok 0) mixed sK sK sK sK sK sK rfl ?_
     refine aw_cut _ _ rfl fun C hC => ?_
     conv => whnf
     repeat ((first | (refine aI ?_ ?_; focus exact sI) | refine dI sK ?_ | (refine yI ?_ ?_; focus exact sY) | (refine nI ?_ ?_; focus exact sY) | intro _); conv => whnf)
     subst hC
     refine aw_cut _ _ rfl fun C hC => ?_
     conv => whnf
     repeat ((first | (refine aI ?_ ?_; focus exact sI) | refine dI sK ?_ | (refine yI ?_ ?_; focus exact sY) | (refine nI ?_ ?_; focus exact sY) | intro _); conv => whnf)
     try (refine dI sK ?_; conv => whnf)
     first | refine u0 hh ?_ | refine v0 hh ?_
     rintro _ _ ⟨rfl, rfl⟩ _
     conv => whnf
     repeat ((first | (refine aI ?_ ?_; focus exact sI) | refine dI sK ?_ | (refine yI ?_ ?_; focus exact sY) | (refine nI ?_ ?_; focus exact sY) | intro _); conv => whnf)
     try (refine dI sK ?_; conv => whnf)
     first | refine u0 hf ?_ | refine v0 hf ?_
     rintro _ _ ⟨rfl, rfl⟩ _
     conv => whnf
     repeat ((first | (refine aI ?_ ?_; focus exact sI) | refine dI sK ?_ | (refine yI ?_ ?_; focus exact sY) | (refine nI ?_ ?_; focus exact sY) | intro _); conv => whnf)
     subst hC
     refine aw_cut _ _ rfl fun C hC => ?_
     conv => whnf
     repeat ((first | (refine aI ?_ ?_; focus exact sI) | refine dI sK ?_ | (refine yI ?_ ?_; focus exact sY) | (refine nI ?_ ?_; focus exact sY) | intro _); conv => whnf)
     refine ⟨_, ⟨by omega, hdc⟩, ?_⟩
     conv => whnf
     refine ⟨show 4 ≤ 5 by decide, ?_⟩
     conv => whnf
     (refine And.intro ?_ ?_ <;> conv => whnf)
     all_goals
      repeat ((first | (refine aI ?_ ?_; focus exact sI) | refine dI sK ?_ | (refine yI ?_ ?_; focus exact sY) | (refine nI ?_ ?_; focus exact sY) | intro _); conv => whnf)
      try (refine dI sK ?_; conv => whnf)
      first | refine u0 hft ?_ | refine v0 hft ?_
      rintro _ _ ⟨rfl, rfl⟩ _
      conv => whnf
      repeat ((first | (refine aI ?_ ?_; focus exact sI) | refine dI sK ?_ | (refine yI ?_ ?_; focus exact sY) | (refine nI ?_ ?_; focus exact sY) | intro _); conv => whnf)
      subst hC
      repeat ((first | (refine aI ?_ ?_; focus exact sI) | refine dI sK ?_ | (refine yI ?_ ?_; focus exact sY) | (refine nI ?_ ?_; focus exact sY) | intro _); conv => whnf)
      rw [ev]
      (refine yI ?_ ?_; (focus exact sY); conv => whnf)
      repeat ((first | (refine aI ?_ ?_; focus exact sI) | refine dI sK ?_ | (refine yI ?_ ?_; focus exact sY) | (refine nI ?_ ?_; focus exact sY) | intro _); conv => whnf)
      all_goals exact sR
   ·rw [if_pos (show (Term.mk v1 v2 v3 v4, e2).2 ≠ 0 from he2)]
    have ev : decide (e2 = 0) = false := decide_eq_false he2
    refine call_pure (E := envR6 0) (fn := Tryz.f24) (c := bodyOf Tryz.f24) (envR6_ok 0) mixed sK sK sK sK sK sK rfl ?_
    refine aw_cut _ _ rfl fun C hC => ?_
    conv => whnf
    repeat ((first | (refine aI ?_ ?_; focus exact sI) | refine dI sK ?_ | (refine yI ?_ ?_; focus exact sY) | (refine nI ?_ ?_; focus exact sY) | intro _); conv => whnf)
    subst hC
    refine aw_cut _ _ rfl fun C hC => ?_
    conv => whnf
    repeat ((first | (refine aI ?_ ?_; focus exact sI) | refine dI sK ?_ | (refine yI ?_ ?_; focus exact sY) | (refine nI ?_ ?_; focus exact sY) | intro _); conv => whnf)
    try (refine dI sK ?_; conv => whnf)
    first | refine u0 hh ?_ | refine v0 hh ?_
    rintro _ _ ⟨rfl, rfl⟩ _
    conv => whnf
    repeat ((first | (refine aI ?_ ?_; focus exact sI) | refine dI sK ?_ | (refine yI ?_ ?_; focus exact sY) | (refine nI ?_ ?_; focus exact sY) | intro _); conv => whnf)
    try (refine dI sK ?_; conv => whnf)
    first | refine u0 hf ?_ | refine v0 hf ?_
    rintro _ _ ⟨rfl, rfl⟩ _
    conv => whnf
    repeat ((first | (refine aI ?_ ?_; focus exact sI) | refine dI sK ?_ | (refine yI ?_ ?_; focus exact sY) | (refine nI ?_ ?_; focus exact sY) | intro _); conv => whnf)
    subst hC
    refine aw_cut _ _ rfl fun C hC => ?_
    conv => whnf
    repeat ((first | (refine aI ?_ ?_; focus exact sI) | refine dI sK ?_ | (refine yI ?_ ?_; focus exact sY) | (refine nI ?_ ?_; focus exact sY) | intro _); conv => whnf)
    refine ⟨_, ⟨by omega, hdc⟩, ?_⟩
    conv => whnf
    refine ⟨show 4 ≤ 5 by decide, ?_⟩
    conv => whnf
    (refine And.intro ?_ ?_ <;> conv => whnf)
    all_goals
     repeat ((first | (refine aI ?_ ?_; focus exact sI) | refine dI sK ?_ | (refine yI ?_ ?_; focus exact sY) | (refine nI ?_ ?_; focus exact sY) | intro _); conv => whnf)
     try (refine dI sK ?_; conv => whnf)
     first | refine u0 hft ?_ | refine v0 hft ?_
     rintro _ _ ⟨rfl, rfl⟩ _
     conv => whnf
     repeat ((first | (refine aI ?_ ?_; focus exact sI) | refine dI sK ?_ | (refine yI ?_ ?_; focus exact sY) | (refine nI ?_ ?_; focus exact sY) | intro _); conv => whnf)
     subst hC
     conv => whnf
     repeat ((first | (refine aI ?_ ?_; focus exact sI) | refine dI sK ?_ | (refine yI ?_ ?_; focus exact sY) | (refine nI ?_ ?_; focus exact sY) | intro _); conv => whnf)
     rw [ev]
     (refine yI ?_ ?_; (focus exact sY); conv => whnf)
     repeat ((first | (refine aI ?_ ?_; focus exact sI) | refine dI sK ?_ | (refine yI ?_ ?_; focus exact sY) | (refine nI ?_ ?_; focus exact sY) | intro _); conv => whnf)
     all_goals exact sR
  | false =>
   rw [hk] at hf
   rw [if_neg (by decide)]
   refine call_pure (E := envR6 0) (fn := Tryz.f24) (c := bodyOf Tryz.f24) (envR6_ok 0) mixed sK sK sK sK sK sK rfl ?_
   refine aw_cut _ _ rfl fun C hC => ?_
   conv => whnf
   repeat ((first | (refine aI ?_ ?_; focus exact sI) | refine dI sK ?_ | (refine yI ?_ ?_; focus exact sY) | (refine nI ?_ ?_; focus exact sY) | intro _); conv => whnf)
   subst hC
   refine aw_cut _ _ rfl fun C hC => ?_
   conv => whnf
   repeat ((first | (refine aI ?_ ?_; focus exact sI) | refine dI sK ?_ | (refine yI ?_ ?_; focus exact sY) | (refine nI ?_ ?_; focus exact sY) | intro _); conv => whnf)
   try (refine dI sK ?_; conv => whnf)
   first | refine u0 hh ?_ | refine v0 hh ?_
   rintro _ _ ⟨rfl, rfl⟩ _
   conv => whnf
   repeat ((first | (refine aI ?_ ?_; focus exact sI) | refine dI sK ?_ | (refine yI ?_ ?_; focus exact sY) | (refine nI ?_ ?_; focus exact sY) | intro _); conv => whnf)
   try (refine dI sK ?_; conv => whnf)
   first | refine u0 hf ?_ | refine v0 hf ?_
   rintro _ _ ⟨rfl, rfl⟩ _
   conv => whnf
   repeat ((first | (refine aI ?_ ?_; focus exact sI) | refine dI sK ?_ | (refine yI ?_ ?_; focus exact sY) | (refine nI ?_ ?_; focus exact sY) | intro _); conv => whnf)
   subst hC
   repeat ((first | (refine aI ?_ ?_; focus exact sI) | refine dI sK ?_ | (refine yI ?_ ?_; focus exact sY) | (refine nI ?_ ?_; focus exact sY) | intro _); conv => whnf)
   all_goals exact sR
 ·rw [List.getElem?_eq_none (by omega)]
  simp only
  rw [show (decide (0 ≤ (q : Int)) && decide ((q : Int) < (K.sig.length : Int))) = false by rw [decide_eq_false (show ¬ (q : Int) < K.sig.length by omega), Bool.and_false]] at hh
  refine call_pure (E := envR6 0) (fn := Tryz.f24) (c := bodyOf Tryz.f24) (envR6_ok 0) mixed sK sK sK sK sK sK rfl ?_
  refine aw_cut _ _ rfl fun C hC => ?_
  conv => whnf
  repeat ((first | (refine aI ?_ ?_; focus exact sI) | refine dI sK ?_ | (refine yI ?_ ?_; focus exact sY) | (refine nI ?_ ?_; focus exact sY) | intro _); conv => whnf)
  subst hC
  refine aw_cut _ _ rfl fun C hC => ?_
  conv => whnf
  repeat ((first | (refine aI ?_ ?_; focus exact sI) | refine dI sK ?_ | (refine yI ?_ ?_; focus exact sY) | (refine nI ?_ ?_; focus exact sY) | intro _); conv => whnf)
  try (refine dI sK ?_; conv => whnf)
  first | refine u0 hh ?_ | refine v0 hh ?_
  rintro _ _ ⟨rfl, rfl⟩ _
  conv => whnf
  repeat ((first | (refine aI ?_ ?_; focus exact sI) | refine dI sK ?_ | (refine yI ?_ ?_; focus exact sY) | (refine nI ?_ ?_; focus exact sY) | intro _); conv => whnf)
  subst hC
  repeat ((first | (refine aI ?_ ?_; focus exact sI) | refine dI sK ?_ | (refine yI ?_ ?_; focus exact sY) | (refine nI ?_ ?_; focus exact sY) | intro _); conv => whnf)
  all_goals exact sR
set_option maxHeartbeats 1000000 in
theorem cRType (K : Krn) (hK : KOk K) (a : Term) : prop a = true → RTypOk Tryz.prog 24 K a := by
 induction a using Term.ind with
 | _ a ih =>
 intro ha
 have hsub := prop_sub ha
 obtain ⟨k, l, n, ts⟩ := a
 by_cases hk2 : k = 2
 ·subst hk2
  obtain ⟨A, B, rfl, rfl, rfl, hA, hB⟩ := prop_pi6 ha
  intro cx hc
  have hp := cRPi0 K A B hA (ih A (by simp [Term.ts]) hA) (ih B (by simp [Term.ts]) hB) cx hc
  rw [tv_mk] at hp ⊢
  refine call_pure (E := envR6 0) (fn := Tryz.f24) (c := bodyOf Tryz.f24) (envR6_ok 0) mixed sK sK sK sK sK sK rfl ?_
  refine aw_cut _ _ rfl fun C hC => ?_
  conv => whnf
  repeat ((first | (refine aI ?_ ?_; focus exact sI) | refine dI sK ?_ | (refine yI ?_ ?_; focus exact sY) | (refine nI ?_ ?_; focus exact sY) | intro _); conv => whnf)
  subst hC
  refine aw_cut _ _ rfl fun C hC => ?_
  conv => whnf
  repeat ((first | (refine aI ?_ ?_; focus exact sI) | refine dI sK ?_ | (refine yI ?_ ?_; focus exact sY) | (refine nI ?_ ?_; focus exact sY) | intro _); conv => whnf)
  try (refine dI sK ?_; conv => whnf)
  first | refine u0 hp ?_ | refine v0 hp ?_
  rintro _ _ ⟨rfl, rfl⟩ _
  conv => whnf
  subst hC
  repeat ((first | (refine aI ?_ ?_; focus exact sI) | refine dI sK ?_ | (refine yI ?_ ?_; focus exact sY) | (refine nI ?_ ?_; focus exact sY) | intro _); conv => whnf)
  all_goals exact sR
 ·have e2 : decide (k = 2) = false := decide_eq_false hk2
  by_cases h4 : k = 4 ∧ l = 2
  ·obtain ⟨rfl, rfl⟩ := h4
   exact cRTypeA K hK n ts ha
  ·intro cx hc
   have hE : typF K (.mk k l n ts) cx = 22 := by
    rw [typF.eq_def]
    simp only
    rw [if_neg hk2, if_neg h4]
   rw [hE, tv_mk]
   clear hE
   by_cases hk4 : k = 4
   ·subst hk4
    have el : decide (l = 2) = false := decide_eq_false fun h => h4 ⟨rfl, h⟩
    refine call_pure (E := envR6 0) (fn := Tryz.f24) (c := bodyOf Tryz.f24) (envR6_ok 0) mixed sK sK sK sK sK sK rfl ?_
    refine aw_cut _ _ rfl fun C hC => ?_
    conv => whnf
    repeat ((first | (refine aI ?_ ?_; focus exact sI) | refine dI sK ?_ | (refine yI ?_ ?_; focus exact sY) | (refine nI ?_ ?_; focus exact sY) | intro _); conv => whnf)
    subst hC
    refine aw_cut _ _ rfl fun C hC => ?_
    conv => whnf
    repeat ((first | (refine aI ?_ ?_; focus exact sI) | refine dI sK ?_ | (refine yI ?_ ?_; focus exact sY) | (refine nI ?_ ?_; focus exact sY) | intro _); conv => whnf)
    rw [el]
    (refine yI ?_ ?_; (focus exact sY); conv => whnf)
    subst hC
    repeat ((first | (refine aI ?_ ?_; focus exact sI) | refine dI sK ?_ | (refine yI ?_ ?_; focus exact sY) | (refine nI ?_ ?_; focus exact sY) | intro _); conv => whnf)
    all_goals exact sR
   ·have e4 : decide (k = 4) = false := decide_eq_false hk4
    refine call_pure (E := envR6 0) (fn := Tryz.f24) (c := bodyOf Tryz.f24) (envR6_ok 0) mixed sK sK sK sK sK sK rfl ?_
    refine aw_cut _ _ rfl fun C hC => ?_
    conv => whnf
    repeat ((first | (refine aI ?_ ?_; focus exact sI) | refine dI sK ?_ | (refine yI ?_ ?_; focus exact sY) | (refine nI ?_ ?_; focus exact sY) | intro _); conv => whnf)
    subst hC
    refine aw_cut _ _ rfl fun C hC => ?_
    conv => whnf
    repeat ((first | (refine aI ?_ ?_; focus exact sI) | refine dI sK ?_ | (refine yI ?_ ?_; focus exact sY) | (refine nI ?_ ?_; focus exact sY) | intro _); conv => whnf)
    rw [e2]
    (refine nI ?_ ?_; (focus exact sY); conv => whnf)
    repeat ((first | (refine aI ?_ ?_; focus exact sI) | refine dI sK ?_ | (refine yI ?_ ?_; focus exact sY) | (refine nI ?_ ?_; focus exact sY) | intro _); conv => whnf)
    rw [e4]
    (refine yI ?_ ?_; (focus exact sY); conv => whnf)
    subst hC
    repeat ((first | (refine aI ?_ ?_; focus exact sI) | refine dI sK ?_ | (refine yI ?_ ?_; focus exact sY) | (refine nI ?_ ?_; focus exact sY) | intro _); conv => whnf)
    all_goals exact sR
theorem cRKind (K : Krn) (hK : KOk K) (a : Term) : prop a = true → RKndOk Tryz.prog 25 K a := by
 induction a using Term.ind with
 | _ a ih =>
 intro ha
 obtain ⟨k, l, n, ts⟩ := a
 intro cx hc
 by_cases hk1 : k = 1
 ·subst hk1
  rw [show kndF K (.mk 1 l n ts) cx = 0 by rw [kndF.eq_def]; rfl, tv_mk]
  refine call_pure (E := envR6 0) (fn := Tryz.f25) (c := bodyOf Tryz.f25) (envR6_ok 0) mixed sK sK sK sK sK sK rfl ?_
  refine aw_cut _ _ rfl fun C hC => ?_
  conv => whnf
  repeat ((first | (refine aI ?_ ?_; focus exact sI) | refine dI sK ?_ | (refine yI ?_ ?_; focus exact sY) | (refine nI ?_ ?_; focus exact sY) | intro _); conv => whnf)
  subst hC
  refine aw_cut _ _ rfl fun C hC => ?_
  conv => whnf
  repeat ((first | (refine aI ?_ ?_; focus exact sI) | refine dI sK ?_ | (refine yI ?_ ?_; focus exact sY) | (refine nI ?_ ?_; focus exact sY) | intro _); conv => whnf)
  subst hC
  repeat ((first | (refine aI ?_ ?_; focus exact sI) | refine dI sK ?_ | (refine yI ?_ ?_; focus exact sY) | (refine nI ?_ ?_; focus exact sY) | intro _); conv => whnf)
  all_goals exact sR
 ·have e1 : decide (k = 1) = false := decide_eq_false hk1
  by_cases hk2 : k = 2
  ·subst hk2
   obtain ⟨A, B, rfl, rfl, rfl, hA, hB⟩ := prop_pi6 ha
   have hp := cRPi1 K A B hA (cRType K hK A hA) (ih B (by simp [Term.ts]) hB) cx hc
   rw [tv_mk] at hp ⊢
   refine call_pure (E := envR6 0) (fn := Tryz.f25) (c := bodyOf Tryz.f25) (envR6_ok 0) mixed sK sK sK sK sK sK rfl ?_
   refine aw_cut _ _ rfl fun C hC => ?_
   conv => whnf
   repeat ((first | (refine aI ?_ ?_; focus exact sI) | refine dI sK ?_ | (refine yI ?_ ?_; focus exact sY) | (refine nI ?_ ?_; focus exact sY) | intro _); conv => whnf)
   subst hC
   refine aw_cut _ _ rfl fun C hC => ?_
   conv => whnf
   repeat ((first | (refine aI ?_ ?_; focus exact sI) | refine dI sK ?_ | (refine yI ?_ ?_; focus exact sY) | (refine nI ?_ ?_; focus exact sY) | intro _); conv => whnf)
   try (refine dI sK ?_; conv => whnf)
   first | refine u0 hp ?_ | refine v0 hp ?_
   rintro _ _ ⟨rfl, rfl⟩ _
   conv => whnf
   subst hC
   repeat ((first | (refine aI ?_ ?_; focus exact sI) | refine dI sK ?_ | (refine yI ?_ ?_; focus exact sY) | (refine nI ?_ ?_; focus exact sY) | intro _); conv => whnf)
   all_goals exact sR
  ·have e2 : decide (k = 2) = false := decide_eq_false hk2
   have hE : kndF K (.mk k l n ts) cx = 22 := by
    rw [kndF.eq_def]
    simp only
    rw [if_neg hk1, if_neg hk2]
   rw [hE, tv_mk]
   refine call_pure (E := envR6 0) (fn := Tryz.f25) (c := bodyOf Tryz.f25) (envR6_ok 0) mixed sK sK sK sK sK sK rfl ?_
   refine aw_cut _ _ rfl fun C hC => ?_
   conv => whnf
   repeat ((first | (refine aI ?_ ?_; focus exact sI) | refine dI sK ?_ | (refine yI ?_ ?_; focus exact sY) | (refine nI ?_ ?_; focus exact sY) | intro _); conv => whnf)
   subst hC
   refine aw_cut _ _ rfl fun C hC => ?_
   conv => whnf
   repeat ((first | (refine aI ?_ ?_; focus exact sI) | refine dI sK ?_ | (refine yI ?_ ?_; focus exact sY) | (refine nI ?_ ?_; focus exact sY) | intro _); conv => whnf)
   rw [e1]
   (refine nI ?_ ?_; (focus exact sY); conv => whnf)
   repeat ((first | (refine aI ?_ ?_; focus exact sI) | refine dI sK ?_ | (refine yI ?_ ?_; focus exact sY) | (refine nI ?_ ?_; focus exact sY) | intro _); conv => whnf)
   rw [e2]
   (refine nI ?_ ?_; (focus exact sY); conv => whnf)
   subst hC
   repeat ((first | (refine aI ?_ ?_; focus exact sI) | refine dI sK ?_ | (refine yI ?_ ?_; focus exact sY) | (refine nI ?_ ?_; focus exact sY) | intro _); conv => whnf)
   all_goals exact sR
end Go.Tr
/- The reference kernel: Context, Class, Signature, Declare. -/
namespace Go.Tr
open Go.Proofs
theorem tcs_take6 (l : List Term) (n : Nat) : ((tcs l).take ((n : Int).toNat)).drop (Int.toNat 0) = tcs (l.take n) := by
 rw [Int.toNat_natCast, show Int.toNat 0 = 0 from rfl, List.drop_zero]
 induction l generalizing n with
 | nil => simp [tcs]
 | cons t r ih => cases n with
  | zero => simp [tcs]
  | succ n => simp only [tcs, List.take_succ_cons, ih]
theorem COk.take {cx : List Term} (h : COk cx) (n : Nat) : COk (cx.take n) := ⟨fun t ht => h.1 t (List.mem_of_mem_take ht), by rw [List.length_take]; have := h.2; omega⟩
theorem take_snoc6 {α : Type} {l : List α} {j : Nat} {x : α} (h : l[j]? = some x) : l.take j ++ [x] = l.take (j + 1) := by
 rw [List.take_add_one, h]
 rfl
theorem cRContext (K : Krn) (hK : KOk K) (cx : List Term) (hc : COk cx) : CallSt Tryz.prog 27 [kvR K.sig K.ms, .c (.sl 4 48 (tcs cx))] [] (fun r H' => r = .c (.int .i64 (ctxF K [] cx)) ∧ H' = []) := by
 have hcl := len_tcs cx
 have hc2 := hc.2
 obtain ⟨A, hA⟩ : ∃ A, A = ctxF K [] cx := ⟨_, rfl⟩
 rw [← hA]
 refine call_pure (E := envR6 0) (fn := Tryz.f27) (c := bodyOf Tryz.f27) (envR6_ok 0) mixed sK sK sK sK sK sK rfl ?_
 conv => whnf
 repeat ((first | (refine aI ?_ ?_; focus exact sI) | refine dI sK ?_ | (refine yI ?_ ?_; focus exact sY) | (refine nI ?_ ?_; focus exact sY) | intro _); conv => whnf)
 refine loop_intro (fun m tm H => ∃ j : Nat, cx.length = m + j ∧ A = ctxF K (cx.take j) (cx.drop j) ∧ tm = [(9, .c (.int .i64 (j))), (8, .c (.int .i64 ((tcs cx).length))), (2, .ptr 0 0), (1, .c (.sl 4 48 (tcs cx)))] ∧ H = [.box [.c (.sl 6 72 (dcs K.sig)), .c (.sl 10 120 (mcs K.ms))]])
  cx.length _ _ ⟨0, by omega, hA, rfl, rfl⟩ (Wk.sl [0] rfl ⟨rfl, trivial⟩ ⟨rfl, rfl, rfl, rfl, trivial⟩ rfl) ?_
 rintro m tm H ⟨j, hj, hR, rfl, rfl⟩
 conv => whnf
 repeat ((first | (refine aI ?_ ?_; focus exact sI) | refine dI sK ?_ | (refine yI ?_ ?_; focus exact sY) | (refine nI ?_ ?_; focus exact sY) | intro _); conv => whnf)
 refine ⟨fun hlt => ?_, fun hlt => ?_⟩
 ·replace hlt : (j : Int) < (tcs cx).length := of_decide_eq_true hlt
  obtain ⟨x, hx⟩ := get_some (show j < cx.length by omega)
  have hxc := tcs_at cx j x hx
  have ht := cRType K hK x (hc.1 x (List.mem_of_getElem? hx)) (cx.take j) (hc.take j)
  rw [← tcs_take6] at ht
  rw [drop_at hx, ctxF, take_snoc6 hx] at hR
  by_cases he : typF K x (cx.take j) ≠ 0
  ·rw [if_pos he] at hR
   have ez : decide (typF K x (cx.take j) = 0) = false := decide_eq_false he
   generalize typF K x (cx.take j) = e at *
   subst hR
   obtain ⟨x1, x2, x3, x4⟩ := x
   rw [tv_mk] at ht
   conv => whnf
   repeat ((first | (refine aI ?_ ?_; focus exact sI) | refine dI sK ?_ | (refine yI ?_ ?_; focus exact sY) | (refine nI ?_ ?_; focus exact sY) | intro _); conv => whnf)
   refine ⟨_, ⟨by omega, by simpa using hxc⟩, ?_⟩
   conv => whnf
   refine ⟨Nat.le_refl 4, ?_⟩
   conv => whnf
   try (refine dI sK ?_; conv => whnf)
   first | refine u0 ht ?_ | refine v0 ht ?_
   rintro _ _ ⟨rfl, rfl⟩ _
   conv => whnf
   repeat ((first | (refine aI ?_ ?_; focus exact sI) | refine dI sK ?_ | (refine yI ?_ ?_; focus exact sY) | (refine nI ?_ ?_; focus exact sY) | intro _); conv => whnf)
   rw [ez]
   (refine yI ?_ ?_; (focus exact sY); conv => whnf)
   repeat ((first | (refine aI ?_ ?_; focus exact sI) | refine dI sK ?_ | (refine yI ?_ ?_; focus exact sY) | (refine nI ?_ ?_; focus exact sY) | intro _); conv => whnf)
   all_goals exact sR
  ·rw [if_neg he] at hR
   have e0 : typF K x (cx.take j) = 0 := by omega
   rw [e0] at ht
   clear he e0
   obtain ⟨x1, x2, x3, x4⟩ := x
   rw [tv_mk] at ht
   conv => whnf
   repeat ((first | (refine aI ?_ ?_; focus exact sI) | refine dI sK ?_ | (refine yI ?_ ?_; focus exact sY) | (refine nI ?_ ?_; focus exact sY) | intro _); conv => whnf)
   refine ⟨_, ⟨by omega, by simpa using hxc⟩, ?_⟩
   conv => whnf
   refine ⟨Nat.le_refl 4, ?_⟩
   conv => whnf
   try (refine dI sK ?_; conv => whnf)
   first | refine u0 ht ?_ | refine v0 ht ?_
   rintro _ _ ⟨rfl, rfl⟩ _
   conv => whnf
   repeat ((first | (refine aI ?_ ?_; focus exact sI) | refine dI sK ?_ | (refine yI ?_ ?_; focus exact sY) | (refine nI ?_ ?_; focus exact sY) | intro _); conv => whnf)
   exact ⟨m - 1, _, _, by omega, ⟨j + 1, by omega, hR, rfl, rfl⟩, Wk.sl [0] rfl ⟨rfl, trivial⟩ ⟨rfl, rfl, rfl, rfl, trivial⟩ rfl⟩
 ·replace hlt : ¬ (j : Int) < (tcs cx).length := of_decide_eq_false hlt
  rw [List.drop_eq_nil_of_le (by omega), ctxF] at hR
  subst hR
  conv => whnf
  repeat ((first | (refine aI ?_ ?_; focus exact sI) | refine dI sK ?_ | (refine yI ?_ ?_; focus exact sY) | (refine nI ?_ ?_; focus exact sY) | intro _); conv => whnf)
  all_goals exact sR
theorem COk.nil : COk [] := ⟨fun t ht => (nomatch ht), Nat.zero_le 30⟩
theorem cRCla (K : Krn) (hK : KOk K) (c : Term) (hp : prop c = true) : CallSt Tryz.prog 69 [kvR K.sig K.ms, tv c] [] (fun r H' => r = .c (.int .i64 (claF K c)) ∧ H' = []) := by
 have hs := c33 c 1 (prop_fm1 hp) (by decide)
 have h1 := cRKind K hK c hp [] COk.nil
 have h2 := cRType K hK c hp [] COk.nil
 rw [show tcs [] = [] by rw [tcs]] at h1 h2
 unfold claF kindT
 obtain ⟨D, hD⟩ : ∃ D, D = domT c := ⟨_, rfl⟩
 rw [← hD] at hs ⊢
 clear hD
 obtain ⟨D, ⟨d1, d2, d3, d4⟩⟩ := D
 simp only at hs ⊢
 rw [show (Term.mk d1 d2 d3 d4).k = d1 from rfl]
 by_cases hk : d1 = 1
 ·rw [if_pos (decide_eq_true hk)]
  have e1 : decide (d1 = 1) = true := decide_eq_true hk
  obtain ⟨x1, x2, x3, x4⟩ := c
  rw [tv_mk] at hs h1 h2
  rw [tv_mk] at hs
  rw [tv_mk]
  refine call_pure (E := envR6 0) (fn := Tryz.f69) (c := bodyOf Tryz.f69) (envR6_ok 0) mixed sK sK sK sK sK sK rfl ?_
  refine aw_cut _ _ rfl fun C hC => ?_
  conv => whnf
  repeat ((first | (refine aI ?_ ?_; focus exact sI) | refine dI sK ?_ | (refine yI ?_ ?_; focus exact sY) | (refine nI ?_ ?_; focus exact sY) | intro _); conv => whnf)
  subst hC
  refine aw_cut _ _ rfl fun C hC => ?_
  conv => whnf
  repeat ((first | (refine aI ?_ ?_; focus exact sI) | refine dI sK ?_ | (refine yI ?_ ?_; focus exact sY) | (refine nI ?_ ?_; focus exact sY) | intro _); conv => whnf)
  try (refine dI sK ?_; conv => whnf)
  first | refine u0 hs ?_ | refine v0 hs ?_
  rintro _ _ ⟨rfl, rfl⟩ _
  conv => whnf
  rw [e1]
  (refine yI ?_ ?_; (focus exact sY); conv => whnf)
  try (refine dI sK ?_; conv => whnf)
  first | refine u0 h1 ?_ | refine v0 h1 ?_
  rintro _ _ ⟨rfl, rfl⟩ _
  conv => whnf
  subst hC
  repeat ((first | (refine aI ?_ ?_; focus exact sI) | refine dI sK ?_ | (refine yI ?_ ?_; focus exact sY) | (refine nI ?_ ?_; focus exact sY) | intro _); conv => whnf)
  all_goals exact sR
 ·have e1 : decide (d1 = 1) = false := decide_eq_false hk
  rw [if_neg (by rw [e1]; decide)]
  obtain ⟨x1, x2, x3, x4⟩ := c
  rw [tv_mk] at hs h1 h2
  rw [tv_mk] at hs
  rw [tv_mk]
  refine call_pure (E := envR6 0) (fn := Tryz.f69) (c := bodyOf Tryz.f69) (envR6_ok 0) mixed sK sK sK sK sK sK rfl ?_
  refine aw_cut _ _ rfl fun C hC => ?_
  conv => whnf
  repeat ((first | (refine aI ?_ ?_; focus exact sI) | refine dI sK ?_ | (refine yI ?_ ?_; focus exact sY) | (refine nI ?_ ?_; focus exact sY) | intro _); conv => whnf)
  subst hC
  refine aw_cut _ _ rfl fun C hC => ?_
  conv => whnf
  repeat ((first | (refine aI ?_ ?_; focus exact sI) | refine dI sK ?_ | (refine yI ?_ ?_; focus exact sY) | (refine nI ?_ ?_; focus exact sY) | intro _); conv => whnf)
  try (refine dI sK ?_; conv => whnf)
  first | refine u0 hs ?_ | refine v0 hs ?_
  rintro _ _ ⟨rfl, rfl⟩ _
  conv => whnf
  rw [e1]
  (refine nI ?_ ?_; (focus exact sY); conv => whnf)
  subst hC
  conv => whnf
  repeat ((first | (refine aI ?_ ?_; focus exact sI) | refine dI sK ?_ | (refine yI ?_ ?_; focus exact sY) | (refine nI ?_ ?_; focus exact sY) | intro _); conv => whnf)
  try (refine dI sK ?_; conv => whnf)
  first | refine u0 h2 ?_ | refine v0 h2 ?_
  rintro _ _ ⟨rfl, rfl⟩ _
  conv => whnf
  repeat ((first | (refine aI ?_ ?_; focus exact sI) | refine dI sK ?_ | (refine yI ?_ ?_; focus exact sY) | (refine nI ?_ ?_; focus exact sY) | intro _); conv => whnf)
  all_goals exact sR
end Go.Tr
/- The reference's Same and Add; the law's helpers; awake. -/
namespace Go.Tr
open Go.Proofs
end Go.Tr
/- The reference kernel: Signature, Declare. -/
namespace Go.Tr
open Go.Proofs
theorem KOk.of {sig : List Dcl} (h : checkB sig = true) (j : Nat) : KOk ⟨sig.take j, []⟩ := by
 have h1 := check_prop h
 have h2 := check_len h
 exact ⟨fun e he => h1 e (List.mem_of_mem_take he), fun m hm => (nomatch hm), by simp only [List.length_take]; omega, by simp⟩
theorem cRSignature (sig : List Dcl) (hs : checkB sig = true) : CallSt Tryz.prog 34 [.c (.sl 6 72 (dcs sig))] [] (fun r H' => r = .tup [.c (.int .i64 ((sigF sig 0 sig).1)), .c (.int .i64 ((sigF sig 0 sig).2))] ∧ H' = []) := by
 have hsl := len_dcs sig
 have hpr := check_prop hs
 have hle := check_len hs
 obtain ⟨A, hA⟩ : ∃ A, A = sigF sig 0 sig := ⟨_, rfl⟩
 rw [← hA]
 refine call_pure (E := envR6 0) (fn := Tryz.f34) (c := bodyOf Tryz.f34) (envR6_ok 0) mixed sK sK sK sK sK sK rfl ?_
 conv => whnf
 repeat ((first | (refine aI ?_ ?_; focus exact sI) | refine dI sK ?_ | (refine yI ?_ ?_; focus exact sY) | (refine nI ?_ ?_; focus exact sY) | intro _); conv => whnf)
 refine loop_intro (fun m tm H => ∃ j : Nat, sig.length = m + j ∧ A = sigF sig j (sig.drop j) ∧ tm = [(10, .c (.int .i64 (j))), (9, .c (.int .i64 ((dcs sig).length))), (8, .c (.sl 6 72 (dcs sig))), (0, .c (.sl 6 72 (dcs sig)))] ∧ H = [])
  sig.length _ _ ⟨0, by omega, hA, rfl, rfl⟩ (Wk.sl [] rfl trivial ⟨rfl, rfl, rfl, rfl, trivial⟩ rfl) ?_
 rintro m tm H ⟨j, hj, hR, rfl, rfl⟩
 conv => whnf
 repeat ((first | (refine aI ?_ ?_; focus exact sI) | refine dI sK ?_ | (refine yI ?_ ?_; focus exact sY) | (refine nI ?_ ?_; focus exact sY) | intro _); conv => whnf)
 refine ⟨fun hlt => ?_, fun hlt => ?_⟩
 ·replace hlt : (j : Int) < (dcs sig).length := of_decide_eq_true hlt
  obtain ⟨x, hx⟩ := get_some (show j < sig.length by omega)
  have hxc := dcs_at hx
  have ht := cRCla ⟨sig.take j, []⟩ (KOk.of hs j) x.c (hpr x (List.mem_of_getElem? hx))
  unfold kvR at ht
  rw [← dcs_take', show mcs [] = [] from rfl] at ht
  rw [drop_at hx, sigF] at hR
  by_cases he : claF ⟨sig.take j, []⟩ x.c ≠ 0
  ·rw [if_pos he] at hR
   have ez : decide (claF ⟨sig.take j, []⟩ x.c = 0) = false := decide_eq_false he
   generalize claF ⟨sig.take j, []⟩ x.c = e at *
   subst hR
   clear hx
   obtain ⟨nm, ⟨x1, x2, x3, x4⟩, im⟩ := x
   rw [tv_mk] at ht
   conv => whnf
   repeat ((first | (refine aI ?_ ?_; focus exact sI) | refine dI sK ?_ | (refine yI ?_ ?_; focus exact sY) | (refine nI ?_ ?_; focus exact sY) | intro _); conv => whnf)
   refine ⟨_, ⟨by omega, hxc⟩, ?_⟩
   conv => whnf
   refine ⟨show 6 ≤ 6 by decide, ?_⟩
   conv => whnf
   repeat ((first | (refine aI ?_ ?_; focus exact sI) | refine dI sK ?_ | (refine yI ?_ ?_; focus exact sY) | (refine nI ?_ ?_; focus exact sY) | intro _); conv => whnf)
   try (refine dI sK ?_; conv => whnf)
   first | refine u0 ht ?_ | refine v0 ht ?_
   rintro _ _ ⟨rfl, rfl⟩ _
   conv => whnf
   repeat ((first | (refine aI ?_ ?_; focus exact sI) | refine dI sK ?_ | (refine yI ?_ ?_; focus exact sY) | (refine nI ?_ ?_; focus exact sY) | intro _); conv => whnf)
   rw [ez]
   (refine yI ?_ ?_; (focus exact sY); conv => whnf)
   repeat ((first | (refine aI ?_ ?_; focus exact sI) | refine dI sK ?_ | (refine yI ?_ ?_; focus exact sY) | (refine nI ?_ ?_; focus exact sY) | intro _); conv => whnf)
   all_goals exact sR
  ·rw [if_neg he] at hR
   have e0 : claF ⟨sig.take j, []⟩ x.c = 0 := by omega
   rw [e0] at ht
   clear he e0 hx
   obtain ⟨nm, ⟨x1, x2, x3, x4⟩, im⟩ := x
   rw [tv_mk] at ht
   conv => whnf
   repeat ((first | (refine aI ?_ ?_; focus exact sI) | refine dI sK ?_ | (refine yI ?_ ?_; focus exact sY) | (refine nI ?_ ?_; focus exact sY) | intro _); conv => whnf)
   refine ⟨_, ⟨by omega, hxc⟩, ?_⟩
   conv => whnf
   refine ⟨show 6 ≤ 6 by decide, ?_⟩
   conv => whnf
   repeat ((first | (refine aI ?_ ?_; focus exact sI) | refine dI sK ?_ | (refine yI ?_ ?_; focus exact sY) | (refine nI ?_ ?_; focus exact sY) | intro _); conv => whnf)
   try (refine dI sK ?_; conv => whnf)
   first | refine u0 ht ?_ | refine v0 ht ?_
   rintro _ _ ⟨rfl, rfl⟩ _
   conv => whnf
   repeat ((first | (refine aI ?_ ?_; focus exact sI) | refine dI sK ?_ | (refine yI ?_ ?_; focus exact sY) | (refine nI ?_ ?_; focus exact sY) | intro _); conv => whnf)
   exact ⟨m - 1, _, _, by omega, ⟨j + 1, by omega, hR, rfl, rfl⟩, Wk.sl [] rfl trivial ⟨rfl, rfl, rfl, rfl, trivial⟩ rfl⟩
 ·replace hlt : ¬ (j : Int) < (dcs sig).length := of_decide_eq_false hlt
  obtain rfl : j = sig.length := by omega
  rw [List.drop_length, sigF, ← hsl] at hR
  subst hR
  conv => whnf
  repeat ((first | (refine aI ?_ ?_; focus exact sI) | refine dI sK ?_ | (refine yI ?_ ?_; focus exact sY) | (refine nI ?_ ?_; focus exact sY) | intro _); conv => whnf)
  all_goals exact sR
end Go.Tr
/- The program's kernel: sigma.class. -/
namespace Go.Tr
open Go.Proofs
def tabC6 : List (Nat × TyD) := [
 (117, ⟨2, 48, .struct [(0, 22), (1, 23)], [.slice none 0 0, .slice none 0 0], [22, 23]⟩),
 (22, ⟨1, 24, .slice 66, [.slice none 0 0], [22]⟩),
 (23, ⟨1, 24, .slice 110, [.slice none 0 0], [23]⟩),
 (66, ⟨6, 72, .struct [(0, 9), (1, 28), (5, 3)], [.string ⟨#[]⟩, .int .i64 0, .int .i64 0, .int .i64 0, .slice none 0 0, .int .i64 0], [9, 3, 3, 3, 24, 3]⟩),
 (110, ⟨10, 120, .struct [(0, 9), (1, 28), (5, 4), (6, 28)], [.string ⟨#[]⟩, .int .i64 0, .int .i64 0, .int .i64 0, .slice none 0 0, .bool false, .int .i64 0, .int .i64 0, .int .i64 0, .slice none 0 0], [9, 3, 3, 3, 24, 4, 3, 3, 3, 24]⟩),
 (9, ⟨1, 16, .str, [.string ⟨#[]⟩], [9]⟩),
 (28, ⟨4, 48, .struct [(0, 3), (1, 3), (2, 3), (3, 24)], [.int .i64 0, .int .i64 0, .int .i64 0, .slice none 0 0], [3, 3, 3, 24]⟩),
 (3, ⟨1, 8, .int .i64, [.int .i64 0], [3]⟩),
 (4, ⟨1, 1, .bool, [.bool false], [4]⟩),
 (24, ⟨1, 24, .slice 28, [.slice none 0 0], [24]⟩)] ++ [(83, ⟨1, 16, .ifc, [.nilIface], [83]⟩), (85, ⟨2, 40, .struct [(0, 83), (1, 22)], [.nilIface, .slice none 0 0], [83, 22]⟩)] ++ tabM6
def mthC (t : TypeId) (s : String) : Option FuncId := if t = 117 ∧ s = "truss/check.class" then some 198 else none
def envC6 (n : Nat) : Env := ⟨lkT tabC6, keep, n, false, false, none, mthC⟩
theorem envC6_ok (n : Nat) : EnvOk Tryz.prog (envC6 n) := EnvOk.of (l := tabC6) rfl (by kernel_rfl)
abbrev sgC (sig : List Dcl) (ms : List Mta) : CV := .ifc 117 [.sl 6 72 (dcs sig), .sl 10 120 (mcs ms)]
abbrev kvC (sig : List Dcl) (ms : List Mta) : AV := .agg [.c (sgC sig ms), .c (.sl 6 72 (dcs sig))]
theorem cDeeper (cx : List Term) (hc : cx.length ≤ 1000000) (a : Term) : CallSt Tryz.prog 78 [.c (.sl 4 48 (tcs cx)), tv a] [] (fun r H' => r = .tup [.c (.sl 4 48 (tcs (longF cx a))), .c (.int .i64 (longE cx))] ∧ H' = []) := by
  have hll := len_tcs cx
  have hcl := c66 cx (by omega)
  unfold longF longE
  by_cases h : 30 ≤ cx.length
  · rw [if_pos h, if_pos h]
    have e : decide ((30 : Int) ≤ ((tcs cx).length : Int)) = true := decide_eq_true (by omega)
    obtain ⟨k, l, n, ts⟩ := a
    rw [tv_mk]
    refine call_pure (E := envC6 0) (fn := Tryz.f78) (c := bodyOf Tryz.f78) (envC6_ok 0) mixed sK sK sK sK sK sK rfl ?_
    refine aw_cut _ _ rfl fun C hC => ?_
    conv => whnf
    repeat ((first | (refine aI ?_ ?_; focus exact sI) | refine dI sK ?_ | (refine yI ?_ ?_; focus exact sY) | (refine nI ?_ ?_; focus exact sY) | intro _); conv => whnf)
    subst hC
    refine aw_cut _ _ rfl fun C hC => ?_
    conv => whnf
    repeat ((first | (refine aI ?_ ?_; focus exact sI) | refine dI sK ?_ | (refine yI ?_ ?_; focus exact sY) | (refine nI ?_ ?_; focus exact sY) | intro _); conv => whnf)
    rw [e]
    (refine yI ?_ ?_; (focus exact sY); conv => whnf)
    subst hC
    repeat ((first | (refine aI ?_ ?_; focus exact sI) | refine dI sK ?_ | (refine yI ?_ ?_; focus exact sY) | (refine nI ?_ ?_; focus exact sY) | intro _); conv => whnf)
    all_goals exact sR
  · rw [if_neg h, if_neg h]
    have e : decide ((30 : Int) ≤ ((tcs cx).length : Int)) = false := decide_eq_false (by omega)
    obtain ⟨k, l, n, ts⟩ := a
    have ht : tcs (cx ++ [.mk k l n ts]) = tcs cx ++ [[.int .i64 k, .int .i64 l, .int .i64 n, .sl 4 48 (tcs ts)]] := by rw [← tcs_snoc]; rfl
    rw [tv_mk, ht]
    refine call_pure (E := envC6 0) (fn := Tryz.f78) (c := bodyOf Tryz.f78) (envC6_ok 0) mixed sK sK sK sK sK sK rfl ?_
    refine aw_cut _ _ rfl fun C hC => ?_
    conv => whnf
    repeat ((first | (refine aI ?_ ?_; focus exact sI) | refine dI sK ?_ | (refine yI ?_ ?_; focus exact sY) | (refine nI ?_ ?_; focus exact sY) | intro _); conv => whnf)
    subst hC
    refine aw_cut _ _ rfl fun C hC => ?_
    conv => whnf
    repeat ((first | (refine aI ?_ ?_; focus exact sI) | refine dI sK ?_ | (refine yI ?_ ?_; focus exact sY) | (refine nI ?_ ?_; focus exact sY) | intro _); conv => whnf)
    rw [e]
    (refine nI ?_ ?_; (focus exact sY); conv => whnf)
    subst hC
    conv => whnf
    repeat ((first | (refine aI ?_ ?_; focus exact sI) | refine dI sK ?_ | (refine yI ?_ ?_; focus exact sY) | (refine nI ?_ ?_; focus exact sY) | intro _); conv => whnf)
    (refine And.intro ?_ ?_ <;> conv => whnf)
    all_goals
      repeat ((first | (refine aI ?_ ?_; focus exact sI) | refine dI sK ?_ | (refine yI ?_ ?_; focus exact sY) | (refine nI ?_ ?_; focus exact sY) | intro _); conv => whnf)
      try (refine dI sK ?_; conv => whnf)
      first | refine u0 hcl ?_ | refine v0 hcl ?_
      rintro _ _ (⟨rfl, hnil, rfl⟩ | ⟨rfl, rfl⟩) _
    all_goals
      conv => whnf
      repeat ((first | (refine aI ?_ ?_; focus exact sI) | refine dI sK ?_ | (refine yI ?_ ?_; focus exact sY) | (refine nI ?_ ?_; focus exact sY) | intro _); conv => whnf)
      first
        | (subst hnil; first | rfl | exact ⟨rfl, rfl⟩)
        | (refine ⟨show ((tcs cx).length + 1) * 48 ≤ 140737488355328 by omega, show (tcs cx).length + 1 ≤ 9223372036854775807 by omega, ?_⟩
           conv => whnf
           repeat ((first | refine aI rfl ?_ | intro _); conv => whnf)
           first | rfl | exact ⟨rfl, rfl⟩ | exact ⟨rfl, rfl, rfl⟩)
theorem cOver (sig : List Dcl) (ms : List Mta) : CallSt Tryz.prog 46 [.c (.sl 6 72 (dcs sig)), .c (.sl 10 120 (mcs ms))] [] (fun r H' => r = kvC sig ms ∧ H' = []) := by
 refine call_pure (E := envC6 0) (fn := Tryz.f46) (c := bodyOf Tryz.f46) (envC6_ok 0) mixed sK sK sK sK sK sK rfl ?_
 conv => whnf
 repeat ((first | (refine aI ?_ ?_; focus exact sI) | refine dI sK ?_ | (refine yI ?_ ?_; focus exact sY) | (refine nI ?_ ?_; focus exact sY) | intro _); conv => whnf)
 all_goals exact sR
theorem cSClass (K : Krn) (hK : KOk K) (cx : List Term) (hc : cx.length ≤ 30) (l : Int) (q : Nat) (hl : 1 ≤ l ∧ l ≤ 3) (hn : q ≤ 9999) :
  CallSt Tryz.prog 198 [.agg [.c (.sl 6 72 (dcs K.sig)), .c (.sl 10 120 (mcs K.ms))], .c (.sl 4 48 (tcs cx)), .c (.int .i64 (l)), .c (.int .i64 (q))] [] (fun r H' => r = .tup [tv (clsF K cx l q).1, .c (.int .i64 ((clsF K cx l q).2))] ∧ H' = []) := by
 have hll := len_tcs cx
 have hml := len_mcs K.ms
 have hsl := len_dcs K.sig
 obtain ⟨hK1, hK2, hK3, hK4⟩ := hK
 rcases (show l = 1 ∨ l = 2 ∨ l = 3 by omega) with rfl | rfl | rfl
 ·by_cases hq : q < cx.length
  ·obtain ⟨t, ht⟩ : ∃ t, cx[cx.length - 1 - q]? = some t := ⟨cx[cx.length - 1 - q]'(by omega), List.getElem?_eq_getElem (by omega)⟩
   have htc := tcs_at cx _ t ht
   have hs := c19 t ((q : Int) + 1) 0
   have hz : clsF K cx 1 q = shiftF t ((q : Int) + 1) 0 := by
    unfold clsF
    rw [Int.toNat_natCast, if_pos rfl, ht]
    exact if_pos (show (q : Int) < cx.length by omega)
   have e : decide ((q : Int) < ((tcs cx).length : Int)) = true := decide_eq_true (by omega)
   rw [hz]
   obtain ⟨U, hU⟩ : ∃ U, U = shiftF t ((q : Int) + 1) 0 := ⟨_, rfl⟩
   rw [← hU] at hs ⊢
   obtain ⟨⟨u1, u2, u3, u4⟩, u5⟩ := U
   clear hU ht hz
   obtain ⟨t1, t2, t3, t4⟩ := t
   simp only at hs ⊢
   rw [tv_mk] at hs ⊢
   rw [tv_mk] at hs
   refine call_pure (E := envC6 0) (fn := Tryz.f198) (c := bodyOf Tryz.f198) (envC6_ok 0) mixed sK sK sK sK sK sK rfl ?_
   refine aw_cut _ _ rfl fun C hC => ?_
   conv => whnf
   repeat ((first | (refine aI ?_ ?_; focus exact sI) | refine dI sK ?_ | (refine yI ?_ ?_; focus exact sY) | (refine nI ?_ ?_; focus exact sY) | intro _); conv => whnf)
   subst hC
   refine aw_cut _ _ rfl fun C hC => ?_
   conv => whnf
   repeat ((first | (refine aI ?_ ?_; focus exact sI) | refine dI sK ?_ | (refine yI ?_ ?_; focus exact sY) | (refine nI ?_ ?_; focus exact sY) | intro _); conv => whnf)
   rw [e]
   (refine yI ?_ ?_; (focus exact sY); conv => whnf)
   repeat ((first | (refine aI ?_ ?_; focus exact sI) | refine dI sK ?_ | (refine yI ?_ ?_; focus exact sY) | (refine nI ?_ ?_; focus exact sY) | intro _); conv => whnf)
   refine ⟨_, ⟨by omega, by rw [show (((tcs cx).length : Int) - 1 - (q : Int)).toNat = cx.length - 1 - q by omega]; exact htc⟩, ?_⟩
   conv => whnf
   refine ⟨Nat.le_refl 4, ?_⟩
   conv => whnf
   repeat ((first | (refine aI ?_ ?_; focus exact sI) | refine dI sK ?_ | (refine yI ?_ ?_; focus exact sY) | (refine nI ?_ ?_; focus exact sY) | intro _); conv => whnf)
   try (refine dI sK ?_; conv => whnf)
   first | refine u0 hs ?_ | refine v0 hs ?_
   rintro _ _ ⟨rfl, rfl⟩ _
   conv => whnf
   repeat ((first | (refine aI ?_ ?_; focus exact sI) | refine dI sK ?_ | (refine yI ?_ ?_; focus exact sY) | (refine nI ?_ ?_; focus exact sY) | intro _); conv => whnf)
   subst hC
   repeat ((first | (refine aI ?_ ?_; focus exact sI) | refine dI sK ?_ | (refine yI ?_ ?_; focus exact sY) | (refine nI ?_ ?_; focus exact sY) | intro _); conv => whnf)
   all_goals exact sR
  ·have e : decide ((q : Int) < ((tcs cx).length : Int)) = false := decide_eq_false (by omega)
   have hz : clsF K cx 1 q = (zT, 27) := by
    unfold clsF
    rw [Int.toNat_natCast, if_pos rfl]
    cases cx[cx.length - 1 - q]? with
    | none => rfl
    | some t => exact if_neg (by omega)
   rw [hz]
   refine call_pure (E := envC6 0) (fn := Tryz.f198) (c := bodyOf Tryz.f198) (envC6_ok 0) mixed sK sK sK sK sK sK rfl ?_
   refine aw_cut _ _ rfl fun C hC => ?_
   conv => whnf
   repeat ((first | (refine aI ?_ ?_; focus exact sI) | refine dI sK ?_ | (refine yI ?_ ?_; focus exact sY) | (refine nI ?_ ?_; focus exact sY) | intro _); conv => whnf)
   subst hC
   refine aw_cut _ _ rfl fun C hC => ?_
   conv => whnf
   repeat ((first | (refine aI ?_ ?_; focus exact sI) | refine dI sK ?_ | (refine yI ?_ ?_; focus exact sY) | (refine nI ?_ ?_; focus exact sY) | intro _); conv => whnf)
   rw [e]
   (refine nI ?_ ?_; (focus exact sY); conv => whnf)
   repeat ((first | (refine aI ?_ ?_; focus exact sI) | refine dI sK ?_ | (refine yI ?_ ?_; focus exact sY) | (refine nI ?_ ?_; focus exact sY) | intro _); conv => whnf)
   subst hC
   repeat ((first | (refine aI ?_ ?_; focus exact sI) | refine dI sK ?_ | (refine yI ?_ ?_; focus exact sY) | (refine nI ?_ ?_; focus exact sY) | intro _); conv => whnf)
   all_goals exact sR
 ·by_cases hq : q < K.sig.length
  ·obtain ⟨d, hd⟩ : ∃ d, K.sig[q]? = some d := ⟨K.sig[q]'(by omega), List.getElem?_eq_getElem (by omega)⟩
   have hdc := dcs_at hd
   have hf := cFamily K.sig q d hd (hK1 d (List.mem_of_getElem? hd))
   have e : decide ((q : Int) < ((dcs K.sig).length : Int)) = true := decide_eq_true (by omega)
   have hz : clsF K cx 2 q = if kindT d.c = true then (zT, 22) else (d.c, 0) := by
    unfold clsF
    rw [Int.toNat_natCast, if_neg (by decide), if_pos rfl, hd]
   rw [hz]
   clear hz hd
   cases hk : kindT d.c with
   | true =>
    rw [hk] at hf
    rw [if_pos rfl]
    refine call_pure (E := envC6 0) (fn := Tryz.f198) (c := bodyOf Tryz.f198) (envC6_ok 0) mixed sK sK sK sK sK sK rfl ?_
    refine aw_cut _ _ rfl fun C hC => ?_
    conv => whnf
    repeat ((first | (refine aI ?_ ?_; focus exact sI) | refine dI sK ?_ | (refine yI ?_ ?_; focus exact sY) | (refine nI ?_ ?_; focus exact sY) | intro _); conv => whnf)
    subst hC
    refine aw_cut _ _ rfl fun C hC => ?_
    conv => whnf
    repeat ((first | (refine aI ?_ ?_; focus exact sI) | refine dI sK ?_ | (refine yI ?_ ?_; focus exact sY) | (refine nI ?_ ?_; focus exact sY) | intro _); conv => whnf)
    rw [e]
    (refine yI ?_ ?_; (focus exact sY); conv => whnf)
    repeat ((first | (refine aI ?_ ?_; focus exact sI) | refine dI sK ?_ | (refine yI ?_ ?_; focus exact sY) | (refine nI ?_ ?_; focus exact sY) | intro _); conv => whnf)
    try (refine dI sK ?_; conv => whnf)
    first | refine u0 hf ?_ | refine v0 hf ?_
    rintro _ _ ⟨rfl, rfl⟩ _
    conv => whnf
    repeat ((first | (refine aI ?_ ?_; focus exact sI) | refine dI sK ?_ | (refine yI ?_ ?_; focus exact sY) | (refine nI ?_ ?_; focus exact sY) | intro _); conv => whnf)
    subst hC
    repeat ((first | (refine aI ?_ ?_; focus exact sI) | refine dI sK ?_ | (refine yI ?_ ?_; focus exact sY) | (refine nI ?_ ?_; focus exact sY) | intro _); conv => whnf)
    all_goals exact sR
   | false =>
    rw [hk] at hf
    rw [if_neg (by decide)]
    clear hk
    obtain ⟨nm, ⟨c1, c2, c3, c4⟩, im⟩ := d
    refine call_pure (E := envC6 0) (fn := Tryz.f198) (c := bodyOf Tryz.f198) (envC6_ok 0) mixed sK sK sK sK sK sK rfl ?_
    refine aw_cut _ _ rfl fun C hC => ?_
    conv => whnf
    repeat ((first | (refine aI ?_ ?_; focus exact sI) | refine dI sK ?_ | (refine yI ?_ ?_; focus exact sY) | (refine nI ?_ ?_; focus exact sY) | intro _); conv => whnf)
    subst hC
    refine aw_cut _ _ rfl fun C hC => ?_
    conv => whnf
    repeat ((first | (refine aI ?_ ?_; focus exact sI) | refine dI sK ?_ | (refine yI ?_ ?_; focus exact sY) | (refine nI ?_ ?_; focus exact sY) | intro _); conv => whnf)
    rw [e]
    (refine yI ?_ ?_; (focus exact sY); conv => whnf)
    repeat ((first | (refine aI ?_ ?_; focus exact sI) | refine dI sK ?_ | (refine yI ?_ ?_; focus exact sY) | (refine nI ?_ ?_; focus exact sY) | intro _); conv => whnf)
    try (refine dI sK ?_; conv => whnf)
    first | refine u0 hf ?_ | refine v0 hf ?_
    rintro _ _ ⟨rfl, rfl⟩ _
    conv => whnf
    repeat ((first | (refine aI ?_ ?_; focus exact sI) | refine dI sK ?_ | (refine yI ?_ ?_; focus exact sY) | (refine nI ?_ ?_; focus exact sY) | intro _); conv => whnf)
    refine ⟨_, ⟨by omega, hdc⟩, ?_⟩
    conv => whnf
    refine ⟨show 4 ≤ 5 by decide, ?_⟩
    conv => whnf
    repeat ((first | (refine aI ?_ ?_; focus exact sI) | refine dI sK ?_ | (refine yI ?_ ?_; focus exact sY) | (refine nI ?_ ?_; focus exact sY) | intro _); conv => whnf)
    subst hC
    repeat ((first | (refine aI ?_ ?_; focus exact sI) | refine dI sK ?_ | (refine yI ?_ ?_; focus exact sY) | (refine nI ?_ ?_; focus exact sY) | intro _); conv => whnf)
    all_goals exact sR
  ·have e : decide ((q : Int) < ((dcs K.sig).length : Int)) = false := decide_eq_false (by omega)
   have hz : clsF K cx 2 q = (zT, 27) := by
    unfold clsF
    rw [Int.toNat_natCast, if_neg (by decide), if_pos rfl, List.getElem?_eq_none (by omega)]
   rw [hz]
   refine call_pure (E := envC6 0) (fn := Tryz.f198) (c := bodyOf Tryz.f198) (envC6_ok 0) mixed sK sK sK sK sK sK rfl ?_
   refine aw_cut _ _ rfl fun C hC => ?_
   conv => whnf
   repeat ((first | (refine aI ?_ ?_; focus exact sI) | refine dI sK ?_ | (refine yI ?_ ?_; focus exact sY) | (refine nI ?_ ?_; focus exact sY) | intro _); conv => whnf)
   subst hC
   refine aw_cut _ _ rfl fun C hC => ?_
   conv => whnf
   repeat ((first | (refine aI ?_ ?_; focus exact sI) | refine dI sK ?_ | (refine yI ?_ ?_; focus exact sY) | (refine nI ?_ ?_; focus exact sY) | intro _); conv => whnf)
   rw [e]
   (refine nI ?_ ?_; (focus exact sY); conv => whnf)
   repeat ((first | (refine aI ?_ ?_; focus exact sI) | refine dI sK ?_ | (refine yI ?_ ?_; focus exact sY) | (refine nI ?_ ?_; focus exact sY) | intro _); conv => whnf)
   subst hC
   repeat ((first | (refine aI ?_ ?_; focus exact sI) | refine dI sK ?_ | (refine yI ?_ ?_; focus exact sY) | (refine nI ?_ ?_; focus exact sY) | intro _); conv => whnf)
   all_goals exact sR
 ·by_cases hq : q < K.ms.length
  ·obtain ⟨d, hd⟩ : ∃ d, K.ms[q]? = some d := ⟨K.ms[q]'(by omega), List.getElem?_eq_getElem (by omega)⟩
   have hdc := mcs_at hd
   have e : decide ((q : Int) < ((mcs K.ms).length : Int)) = true := decide_eq_true (by omega)
   have hz : clsF K cx 3 q = (d.cl, 0) := by
    unfold clsF
    rw [Int.toNat_natCast, if_neg (by decide), if_neg (by decide), hd]
   rw [hz]
   clear hz hd
   obtain ⟨nm, ⟨c1, c2, c3, c4⟩, so, vl⟩ := d
   refine call_pure (E := envC6 0) (fn := Tryz.f198) (c := bodyOf Tryz.f198) (envC6_ok 0) mixed sK sK sK sK sK sK rfl ?_
   refine aw_cut _ _ rfl fun C hC => ?_
   conv => whnf
   repeat ((first | (refine aI ?_ ?_; focus exact sI) | refine dI sK ?_ | (refine yI ?_ ?_; focus exact sY) | (refine nI ?_ ?_; focus exact sY) | intro _); conv => whnf)
   subst hC
   refine aw_cut _ _ rfl fun C hC => ?_
   conv => whnf
   repeat ((first | (refine aI ?_ ?_; focus exact sI) | refine dI sK ?_ | (refine yI ?_ ?_; focus exact sY) | (refine nI ?_ ?_; focus exact sY) | intro _); conv => whnf)
   rw [e]
   (refine yI ?_ ?_; (focus exact sY); conv => whnf)
   repeat ((first | (refine aI ?_ ?_; focus exact sI) | refine dI sK ?_ | (refine yI ?_ ?_; focus exact sY) | (refine nI ?_ ?_; focus exact sY) | intro _); conv => whnf)
   refine ⟨_, ⟨by omega, hdc⟩, ?_⟩
   conv => whnf
   refine ⟨show 4 ≤ 9 by decide, ?_⟩
   conv => whnf
   repeat ((first | (refine aI ?_ ?_; focus exact sI) | refine dI sK ?_ | (refine yI ?_ ?_; focus exact sY) | (refine nI ?_ ?_; focus exact sY) | intro _); conv => whnf)
   subst hC
   repeat ((first | (refine aI ?_ ?_; focus exact sI) | refine dI sK ?_ | (refine yI ?_ ?_; focus exact sY) | (refine nI ?_ ?_; focus exact sY) | intro _); conv => whnf)
   all_goals exact sR
  ·have e : decide ((q : Int) < ((mcs K.ms).length : Int)) = false := decide_eq_false (by omega)
   have hz : clsF K cx 3 q = (zT, 27) := by
    unfold clsF
    rw [Int.toNat_natCast, if_neg (by decide), if_neg (by decide), List.getElem?_eq_none (by omega)]
   rw [hz]
   refine call_pure (E := envC6 0) (fn := Tryz.f198) (c := bodyOf Tryz.f198) (envC6_ok 0) mixed sK sK sK sK sK sK rfl ?_
   refine aw_cut _ _ rfl fun C hC => ?_
   conv => whnf
   repeat ((first | (refine aI ?_ ?_; focus exact sI) | refine dI sK ?_ | (refine yI ?_ ?_; focus exact sY) | (refine nI ?_ ?_; focus exact sY) | intro _); conv => whnf)
   subst hC
   refine aw_cut _ _ rfl fun C hC => ?_
   conv => whnf
   repeat ((first | (refine aI ?_ ?_; focus exact sI) | refine dI sK ?_ | (refine yI ?_ ?_; focus exact sY) | (refine nI ?_ ?_; focus exact sY) | intro _); conv => whnf)
   rw [e]
   (refine nI ?_ ?_; (focus exact sY); conv => whnf)
   repeat ((first | (refine aI ?_ ?_; focus exact sI) | refine dI sK ?_ | (refine yI ?_ ?_; focus exact sY) | (refine nI ?_ ?_; focus exact sY) | intro _); conv => whnf)
   subst hC
   repeat ((first | (refine aI ?_ ?_; focus exact sI) | refine dI sK ?_ | (refine yI ?_ ?_; focus exact sY) | (refine nI ?_ ?_; focus exact sY) | intro _); conv => whnf)
   all_goals exact sR
end Go.Tr
/- slices.Concat. -/
namespace Go.Tr
open Go.Proofs
def tabK6 : List (Nat × TyD) := [
 (141, ⟨1, 24, .slice 24, [.slice none 0 0], [141]⟩),
 (24, ⟨1, 24, .slice 28, [.slice none 0 0], [24]⟩),
 (28, ⟨4, 48, .struct [(0, 3), (1, 3), (2, 3), (3, 24)], [.int .i64 0, .int .i64 0, .int .i64 0, .slice none 0 0], [3, 3, 3, 24]⟩),
 (3, ⟨1, 8, .int .i64, [.int .i64 0], [3]⟩)] ++ tabC6
def envN6 (n : Nat) : Env := ⟨lkT tabK6, fun f => decide (f = 104), n, false, false, none, mthC⟩
theorem envN6_ok (n : Nat) : EnvOk Tryz.prog (envN6 n) := EnvOk.of (l := tabK6) rfl (by kernel_rfl)
def rws (L : List (List Term)) : List (List CV) := L.map fun a => [.sl 4 48 (tcs a)]
theorem rws_len (L : List (List Term)) : (rws L).length = L.length := by simp [rws]
theorem rws_at {L : List (List Term)} {j : Nat} {a : List Term} (h : L[j]? = some a) : (rws L)[j]? = some [.sl 4 48 (tcs a)] := by simp [rws, h]
theorem flat_take {L : List (List Term)} {j : Nat} {a : List Term} (h : L[j]? = some a) : (L.take (j + 1)).flatten = (L.take j).flatten ++ a := by
 rw [List.take_add_one, h, List.flatten_append]
 simp
theorem flat_le (L : List (List Term)) (j : Nat) : (L.take j).flatten.length ≤ L.flatten.length := by
 have h : L.flatten = (L.take j).flatten ++ (L.drop j).flatten := by rw [← List.flatten_append, List.take_append_drop]
 rw [h, List.length_append]
 omega
theorem tcs_app (a b : List Term) : tcs (a ++ b) = tcs a ++ tcs b := by
 induction a with
 | nil => simp [tcs]
 | cons t r ih => simp only [tcs, List.cons_append, ih]
attribute [irreducible] rws
theorem cConcat (L : List (List Term)) (hL : L.length ≤ 1000) (hT : L.flatten.length ≤ 1000000) (h0 : 0 < L.flatten.length) : CallSt Tryz.prog 75 [.c (.sl 1 24 (rws L))] [] (fun r H' => r = .c (.sl 4 48 (tcs L.flatten)) ∧ H' = []) := by
 have hlen := rws_len L
 have hg := cGrow L.flatten.length h0 hT
 refine call_pure (E := envN6 0) (fn := Tryz.f75) (c := bodyOf Tryz.f75) (envN6_ok 0) mixed sK sK sK sK sK sK rfl ?_
 conv => whnf
 repeat ((first | (refine aI ?_ ?_; focus exact sI) | refine dI sK ?_ | (refine yI ?_ ?_; focus exact sY) | (refine nI ?_ ?_; focus exact sY) | intro _); conv => whnf)
 refine loop_intro (fun m tm H => ∃ j : Nat, L.length = m + j ∧ tm = [(11, .c (.int .i64 (j))), (10, .c (.int .i64 ((rws L).length))), (9, .c (.sl 1 24 (rws L))), (3, .c (.int .i64 ((L.take j).flatten.length))), (0, .c (.sl 1 24 (rws L)))] ∧ H = [])
  L.length _ _ ⟨0, by omega, rfl, rfl⟩ ?_ ?_
 ·refine Wk.sl [] rfl trivial ⟨rfl, rfl, rfl, ?_, rfl, trivial⟩ rfl
  rfl
 rintro m tm H ⟨j, hj, rfl, rfl⟩
 conv => whnf
 repeat ((first | (refine aI ?_ ?_; focus exact sI) | refine dI sK ?_ | (refine yI ?_ ?_; focus exact sY) | (refine nI ?_ ?_; focus exact sY) | intro _); conv => whnf)
 refine ⟨fun hlt => ?_, fun hlt => ?_⟩
 ·replace hlt : (j : Int) < (rws L).length := of_decide_eq_true hlt
  obtain ⟨a, ha⟩ := get_some (show j < L.length by omega)
  have hac := rws_at ha
  have hfl := flat_take ha
  have hle := flat_le L j
  have hle2 := flat_le L (j + 1)
  have hal := len_tcs a
  rw [hfl, List.length_append] at hle2
  conv => whnf
  repeat ((first | (refine aI ?_ ?_; focus exact sI) | refine dI sK ?_ | (refine yI ?_ ?_; focus exact sY) | (refine nI ?_ ?_; focus exact sY) | intro _); conv => whnf)
  refine ⟨_, ⟨by omega, hac⟩, ?_⟩
  conv => whnf
  refine ⟨Nat.le_refl 1, ?_⟩
  conv => whnf
  repeat ((first | (refine aI ?_ ?_; focus exact sI) | refine dI sK ?_ | (refine yI ?_ ?_; focus exact sY) | (refine nI ?_ ?_; focus exact sY) | intro _); conv => whnf)
  rw [show decide (((L.take j).flatten.length : Int) + ((tcs a).length : Int) < 0) = false from decide_eq_false (by omega)]
  (refine nI ?_ ?_; (focus exact sY); conv => whnf)
  repeat ((first | (refine aI ?_ ?_; focus exact sI) | refine dI sK ?_ | (refine yI ?_ ?_; focus exact sY) | (refine nI ?_ ?_; focus exact sY) | intro _); conv => whnf)
  refine ⟨m - 1, _, _, by omega, ⟨j + 1, by omega, rfl, rfl⟩, ?_⟩
  refine Wk.sl [] rfl trivial ⟨rfl, rfl, rfl, ?_, rfl, trivial⟩ rfl
  refine congrArg (fun z : Int => AV.c (CV.int .i64 z)) ?_
  rw [hfl, List.length_append]
  omega
 ·replace hlt : ¬ (j : Int) < (rws L).length := of_decide_eq_false hlt
  obtain rfl : j = L.length := by omega
  rw [List.take_length]
  conv => whnf
  repeat ((first | (refine aI ?_ ?_; focus exact sI) | refine dI sK ?_ | (refine yI ?_ ?_; focus exact sY) | (refine nI ?_ ?_; focus exact sY) | intro _); conv => whnf)
  try (refine dI sK ?_; conv => whnf)
  first | refine u0 hg ?_ | refine v0 hg ?_
  rintro _ _ ⟨rfl, rfl⟩ _
  conv => whnf
  repeat ((first | (refine aI ?_ ?_; focus exact sI) | refine dI sK ?_ | (refine yI ?_ ?_; focus exact sY) | (refine nI ?_ ?_; focus exact sY) | intro _); conv => whnf)
  refine loop_intro (fun m tm H => ∃ j : Nat, L.length = m + j ∧ tm = [(27, .c (.int .i64 (j))), (26, .c (.int .i64 ((rws L).length))), (25, .c (.sl 1 24 (rws L))), (6, .own 0)] ∧ H = [.row 28 4 48 (tcs (L.take j).flatten)])
   L.length _ _ ⟨0, by omega, rfl, rfl⟩ ?_ ?_
  ·refine Wk.sl [0] rfl ⟨rfl, trivial⟩ ⟨rfl, rfl, rfl, rfl, trivial⟩ rfl
  rintro m tm H ⟨j, hj, rfl, rfl⟩
  conv => whnf
  repeat ((first | (refine aI ?_ ?_; focus exact sI) | refine dI sK ?_ | (refine yI ?_ ?_; focus exact sY) | (refine nI ?_ ?_; focus exact sY) | intro _); conv => whnf)
  refine ⟨fun hlt2 => ?_, fun hlt2 => ?_⟩
  ·replace hlt2 : (j : Int) < (rws L).length := of_decide_eq_true hlt2
   obtain ⟨a, ha⟩ := get_some (show j < L.length by omega)
   have hac := rws_at ha
   have hfl := flat_take ha
   have hle2 := flat_le L (j + 1)
   have hal := len_tcs a
   have hbl := len_tcs (L.take j).flatten
   rw [hfl, List.length_append] at hle2
   conv => whnf
   repeat ((first | (refine aI ?_ ?_; focus exact sI) | refine dI sK ?_ | (refine yI ?_ ?_; focus exact sY) | (refine nI ?_ ?_; focus exact sY) | intro _); conv => whnf)
   refine ⟨_, ⟨by omega, hac⟩, ?_⟩
   conv => whnf
   refine ⟨Nat.le_refl 1, ?_⟩
   conv => whnf
   repeat ((first | (refine aI ?_ ?_; focus exact sI) | refine dI sK ?_ | (refine yI ?_ ?_; focus exact sY) | (refine nI ?_ ?_; focus exact sY) | intro _); conv => whnf)
   refine ⟨m - 1, _, _, by omega, ⟨j + 1, by omega, rfl, rfl⟩, ?_⟩
   rw [hfl, tcs_app]
   refine Wk.sl [1] rfl ⟨rfl, trivial⟩ ⟨rfl, rfl, rfl, rfl, trivial⟩ rfl
  ·replace hlt2 : ¬ (j : Int) < (rws L).length := of_decide_eq_false hlt2
   obtain rfl : j = L.length := by omega
   rw [List.take_length]
   conv => whnf
   repeat ((first | (refine aI ?_ ?_; focus exact sI) | refine dI sK ?_ | (refine yI ?_ ?_; focus exact sY) | (refine nI ?_ ?_; focus exact sY) | intro _); conv => whnf)
   all_goals exact sR
theorem flat_nil {L : List (List Term)} (h : L.flatten.length = 0) {j : Nat} {a : List Term} (ha : L[j]? = some a) : a = [] := by
 have h1 := flat_take ha
 have h2 := flat_le L (j + 1)
 rw [h1, List.length_append] at h2
 exact List.length_eq_zero_iff.1 (by omega)
theorem cConcat0 (L : List (List Term)) (hL : L.length ≤ 1000) (h0 : L.flatten.length = 0) : CallSt Tryz.prog 75 [.c (.sl 1 24 (rws L))] [] (fun r H' => r = .c (.sl 4 48 (tcs L.flatten)) ∧ H' = []) := by
 have hlen := rws_len L
 have hz : L.flatten = [] := List.length_eq_zero_iff.1 h0
 have hg := cGrow0
 rw [hz]
 refine call_pure (E := envN6 0) (fn := Tryz.f75) (c := bodyOf Tryz.f75) (envN6_ok 0) mixed sK sK sK sK sK sK rfl ?_
 conv => whnf
 repeat ((first | (refine aI ?_ ?_; focus exact sI) | refine dI sK ?_ | (refine yI ?_ ?_; focus exact sY) | (refine nI ?_ ?_; focus exact sY) | intro _); conv => whnf)
 refine loop_intro (fun m tm H => ∃ j : Nat, L.length = m + j ∧ tm = [(11, .c (.int .i64 (j))), (10, .c (.int .i64 ((rws L).length))), (9, .c (.sl 1 24 (rws L))), (3, .c (.int .i64 (0))), (0, .c (.sl 1 24 (rws L)))] ∧ H = [])
  L.length _ _ ⟨0, by omega, rfl, rfl⟩ (Wk.sl [] rfl trivial ⟨rfl, rfl, rfl, rfl, rfl, trivial⟩ rfl) ?_
 rintro m tm H ⟨j, hj, rfl, rfl⟩
 conv => whnf
 repeat ((first | (refine aI ?_ ?_; focus exact sI) | refine dI sK ?_ | (refine yI ?_ ?_; focus exact sY) | (refine nI ?_ ?_; focus exact sY) | intro _); conv => whnf)
 refine ⟨fun hlt => ?_, fun hlt => ?_⟩
 ·replace hlt : (j : Int) < (rws L).length := of_decide_eq_true hlt
  obtain ⟨a, ha⟩ := get_some (show j < L.length by omega)
  have hac := rws_at ha
  obtain rfl := flat_nil h0 ha
  rw [show tcs [] = [] by rw [tcs]] at hac
  conv => whnf
  repeat ((first | (refine aI ?_ ?_; focus exact sI) | refine dI sK ?_ | (refine yI ?_ ?_; focus exact sY) | (refine nI ?_ ?_; focus exact sY) | intro _); conv => whnf)
  refine ⟨_, ⟨by omega, hac⟩, ?_⟩
  conv => whnf
  refine ⟨Nat.le_refl 1, ?_⟩
  conv => whnf
  repeat ((first | (refine aI ?_ ?_; focus exact sI) | refine dI sK ?_ | (refine yI ?_ ?_; focus exact sY) | (refine nI ?_ ?_; focus exact sY) | intro _); conv => whnf)
  refine ⟨show inR _ by unfold inR; simp, ?_⟩
  conv => whnf
  (refine nI ?_ ?_; (focus exact sY); conv => whnf)
  repeat ((first | (refine aI ?_ ?_; focus exact sI) | refine dI sK ?_ | (refine yI ?_ ?_; focus exact sY) | (refine nI ?_ ?_; focus exact sY) | intro _); conv => whnf)
  exact ⟨m - 1, _, _, by omega, ⟨j + 1, by omega, rfl, rfl⟩, Wk.sl [] rfl trivial ⟨rfl, rfl, rfl, rfl, rfl, trivial⟩ rfl⟩
 ·replace hlt : ¬ (j : Int) < (rws L).length := of_decide_eq_false hlt
  conv => whnf
  repeat ((first | (refine aI ?_ ?_; focus exact sI) | refine dI sK ?_ | (refine yI ?_ ?_; focus exact sY) | (refine nI ?_ ?_; focus exact sY) | intro _); conv => whnf)
  try (refine dI sK ?_; conv => whnf)
  first | refine u0 hg ?_ | refine v0 hg ?_
  rintro _ _ ⟨rfl, rfl⟩ _
  conv => whnf
  repeat ((first | (refine aI ?_ ?_; focus exact sI) | refine dI sK ?_ | (refine yI ?_ ?_; focus exact sY) | (refine nI ?_ ?_; focus exact sY) | intro _); conv => whnf)
  refine loop_intro (fun m tm H => ∃ j : Nat, L.length = m + j ∧ tm = [(27, .c (.int .i64 (j))), (26, .c (.int .i64 ((rws L).length))), (25, .c (.sl 1 24 (rws L))), (6, .own 0)] ∧ H = [.row 28 4 48 []])
   L.length _ _ ⟨0, by omega, rfl, rfl⟩ ?_ ?_
  ·refine Wk.trans (tm1 := [(27, .c (.int .i64 (0))), (26, .c (.int .i64 ((rws L).length))), (25, .c (.sl 1 24 (rws L))), (6, .nil)]) (H1 := []) ?_ (Wk.trans (Wk.niltmp 6 28 4 48 rfl rfl) ?_)
   ·exact Wk.sl [] rfl trivial ⟨rfl, rfl, rfl, rfl, trivial⟩ rfl
   ·exact Wk.sl [0] rfl ⟨rfl, trivial⟩ ⟨rfl, rfl, rfl, rfl, trivial⟩ rfl
  rintro m tm H ⟨j, hj, rfl, rfl⟩
  conv => whnf
  repeat ((first | (refine aI ?_ ?_; focus exact sI) | refine dI sK ?_ | (refine yI ?_ ?_; focus exact sY) | (refine nI ?_ ?_; focus exact sY) | intro _); conv => whnf)
  refine ⟨fun hlt2 => ?_, fun hlt2 => ?_⟩
  ·replace hlt2 : (j : Int) < (rws L).length := of_decide_eq_true hlt2
   obtain ⟨a, ha⟩ := get_some (show j < L.length by omega)
   have hac := rws_at ha
   obtain rfl := flat_nil h0 ha
   rw [show tcs [] = [] by rw [tcs]] at hac
   conv => whnf
   repeat ((first | (refine aI ?_ ?_; focus exact sI) | refine dI sK ?_ | (refine yI ?_ ?_; focus exact sY) | (refine nI ?_ ?_; focus exact sY) | intro _); conv => whnf)
   refine ⟨_, ⟨by omega, hac⟩, ?_⟩
   conv => whnf
   refine ⟨Nat.le_refl 1, ?_⟩
   conv => whnf
   repeat ((first | (refine aI ?_ ?_; focus exact sI) | refine dI sK ?_ | (refine yI ?_ ?_; focus exact sY) | (refine nI ?_ ?_; focus exact sY) | intro _); conv => whnf)
   exact ⟨m - 1, _, _, by omega, ⟨j + 1, by omega, rfl, rfl⟩, Wk.sl [1] rfl ⟨rfl, trivial⟩ ⟨rfl, rfl, rfl, rfl, trivial⟩ rfl⟩
  ·replace hlt2 : ¬ (j : Int) < (rws L).length := of_decide_eq_false hlt2
   conv => whnf
   repeat ((first | (refine aI ?_ ?_; focus exact sI) | refine dI sK ?_ | (refine yI ?_ ?_; focus exact sY) | (refine nI ?_ ?_; focus exact sY) | intro _); conv => whnf)
   all_goals exact sR
end Go.Tr
/- The program's substitution: small, good. -/
namespace Go.Tr
open Go.Proofs
def SmallOk (P : Program) (f : FuncId) (s : Smp) : Prop := ∀ c : Int, smOk s = true → 0 ≤ c → c + smN s ≤ 600 → CallSt P f [sv s, .ptr 0 0] [.box [.c (.int .i64 (c))]] (fun r H' => r = .c (.bool true) ∧ H' = [.box [.c (.int .i64 (c + smN s))]])
theorem cSmall1 (y : Smp) (h : SmallOk Tryz.prog 143 y) (c : Int) (ho : smOk y = true) (h0 : 0 ≤ c) (h1 : c + smN y ≤ 600) :
  CallSt Tryz.prog 156 [sv y, .ptr 1 0] [.box [.c (.int .i64 (c))], .box [.ptr 0 0]] (fun r H' => r = .c (.bool false) ∧ H' = [.box [.c (.int .i64 (c + smN y))], .box [.ptr 0 0]]) := by
 have hs := h c ho h0 h1
 generalize smN y = z at *
 clear ho h
 obtain ⟨ys, yc⟩ := y
 rw [sv_mk] at *
 refine call_trim (E := env6 2) (fn := Tryz.f156) (c := bodyOf Tryz.f156) (env6_ok 2) mixed sK sK sK sK sK sK rfl ?_
 conv => whnf
 repeat ((first | (refine aI ?_ ?_; focus exact sI) | refine dI sK ?_ | (refine yI ?_ ?_; focus exact sY) | (refine nI ?_ ?_; focus exact sY) | intro _); conv => whnf)
 try (refine dI sK ?_; conv => whnf)
 first | refine CallSt.use hs [0] ⟨rfl, trivial⟩ (by decide) rfl ?_ | refine CallPt.useS hs [0] ⟨rfl, trivial⟩ (by decide) rfl ?_
 rintro _ _ ⟨rfl, rfl⟩ _
 conv => whnf
 repeat ((first | (refine aI ?_ ?_; focus exact sI) | refine dI sK ?_ | (refine yI ?_ ?_; focus exact sY) | (refine nI ?_ ?_; focus exact sY) | intro _); conv => whnf)
 all_goals exact sR
theorem cIdxS (ys : List Smp) (h : ∀ y ∈ ys, SmallOk Tryz.prog 143 y) (c : Int) (ho : smOkL ys = true) (h0 : 0 ≤ c) (h1 : c + smNL ys ≤ 600) :
  CallSt Tryz.prog 154 [.c (.sl 2 32 (scs ys)), .fn 156 [.ptr 1 0]] [.box [.c (.int .i64 (c))], .box [.ptr 0 0]] (fun r H' => r = .c (.int .i64 (-1)) ∧ H' = [.box [.c (.int .i64 (c + smNL ys))], .box [.ptr 0 0]]) := by
 have hls := len_scs ys
 have hyl := smNL_len ys
 refine call_pure (E := envK6 2) (fn := Tryz.f154) (c := bodyOf Tryz.f154) (envK6_ok 2) mixed sK sK sK sK sK sK rfl ?_
 conv => whnf
 repeat ((first | (refine aI ?_ ?_; focus exact sI) | refine dI sK ?_ | (refine yI ?_ ?_; focus exact sY) | (refine nI ?_ ?_; focus exact sY) | intro _); conv => whnf)
 refine loop_intro (fun m tm H => ∃ j : Nat, ys.length = m + j ∧ tm = [(8, .c (.int .i64 (j))), (7, .c (.int .i64 ((scs ys).length))), (0, .c (.sl 2 32 (scs ys))), (1, .fn 156 [.ptr 1 0])] ∧ H = [.box [.c (.int .i64 (c + smNL (ys.take j)))], .box [.ptr 0 0]])
  ys.length _ _ ⟨0, by omega, rfl, rfl⟩ ?_ ?_
 ·refine Wk.sl [0, 1] rfl ⟨?_, rfl, trivial⟩ ⟨rfl, rfl, rfl, rfl, trivial⟩ rfl
  rw [show c + smNL (ys.take 0) = c by rw [List.take_zero, smNL]; omega]
  rfl
 rintro m tm H ⟨j, hj, rfl, rfl⟩
 have hp0 := smNL_pos (ys.take j)
 have hp1 := smNL_pos (ys.drop j)
 have hsp : smNL ys = smNL (ys.take j) + smNL (ys.drop j) := by rw [← smNL_app, List.take_append_drop]
 conv => whnf
 refine ⟨fun hc => ?_, fun hc => ?_⟩
 ·replace hc : (j : Int) < (scs ys).length := of_decide_eq_true hc
  obtain ⟨u, hu⟩ : ∃ u, ys[j]? = some u := ⟨ys[j]'(by omega), List.getElem?_eq_getElem (by omega)⟩
  have huc := scs_at ys j u hu
  have hdr : ys.drop j = u :: ys.drop (j + 1) := drop_at hu
  have hsu : smNL (ys.drop j) = smN u + smNL (ys.drop (j + 1)) := by rw [hdr, smNL]
  have hp2 := smNL_pos (ys.drop (j + 1))
  have hpu := smN_pos u
  have hnx : c + smNL (ys.take j) + smN u = c + smNL (ys.take (j + 1)) := by
   rw [List.take_add_one, hu, smNL_app]
   show _ = c + (smNL (ys.take j) + smNL [u])
   rw [smNL, smNL]
   omega
  have hcu := cSmall1 u (h u (List.mem_of_getElem? hu)) (c + smNL (ys.take j)) (smOkL_mem ho (List.mem_of_getElem? hu)) (by omega) (by omega)
  rw [hnx] at hcu
  obtain ⟨us, uc⟩ := u
  rw [sv_mk] at hcu
  conv => whnf
  repeat ((first | (refine aI ?_ ?_; focus exact sI) | refine dI sK ?_ | (refine yI ?_ ?_; focus exact sY) | (refine nI ?_ ?_; focus exact sY) | intro _); conv => whnf)
  refine ⟨_, ⟨by omega, huc⟩, ?_⟩
  conv => whnf
  refine ⟨show 2 ≤ 2 by decide, ?_⟩
  conv => whnf
  try (refine dI sK ?_; conv => whnf)
  first | refine CallSt.use hcu [0, 1] ⟨rfl, rfl, trivial⟩ (by decide) rfl ?_ | refine CallPt.useS hcu [0, 1] ⟨rfl, rfl, trivial⟩ (by decide) rfl ?_
  rintro _ _ ⟨rfl, rfl⟩ _
  conv => whnf
  repeat ((first | (refine aI ?_ ?_; focus exact sI) | refine dI sK ?_ | (refine yI ?_ ?_; focus exact sY) | (refine nI ?_ ?_; focus exact sY) | intro _); conv => whnf)
  exact ⟨m - 1, _, _, by omega, ⟨j + 1, by omega, rfl, rfl⟩, Wk.sl [0, 1] rfl ⟨rfl, rfl, trivial⟩ ⟨rfl, rfl, rfl, rfl, trivial⟩ rfl⟩
 ·replace hc : ¬ (j : Int) < (scs ys).length := of_decide_eq_false hc
  rw [List.take_of_length_le (by omega)]
  conv => whnf
  repeat ((first | (refine aI ?_ ?_; focus exact sI) | refine dI sK ?_ | (refine yI ?_ ?_; focus exact sY) | (refine nI ?_ ?_; focus exact sY) | intro _); conv => whnf)
  all_goals exact sR
theorem cAnyS (ys : List Smp) (h : ∀ y ∈ ys, SmallOk Tryz.prog 143 y) (c : Int) (ho : smOkL ys = true) (h0 : 0 ≤ c) (h1 : c + smNL ys ≤ 600) :
  CallSt Tryz.prog 138 [.c (.sl 2 32 (scs ys)), .fn 156 [.ptr 1 0]] [.box [.c (.int .i64 (c))], .box [.ptr 0 0]] (fun r H' => r = .c (.bool false) ∧ H' = [.box [.c (.int .i64 (c + smNL ys))], .box [.ptr 0 0]]) := by
 have hi := cIdxS ys h c ho h0 h1
 refine call_pure (E := envK6 2) (fn := Tryz.f138) (c := bodyOf Tryz.f138) (envK6_ok 2) mixed sK sK sK sK sK sK rfl ?_
 conv => whnf
 repeat ((first | (refine aI ?_ ?_; focus exact sI) | refine dI sK ?_ | (refine yI ?_ ?_; focus exact sY) | (refine nI ?_ ?_; focus exact sY) | intro _); conv => whnf)
 try (refine dI sK ?_; conv => whnf)
 first | refine CallSt.use hi [0, 1] ⟨rfl, rfl, trivial⟩ (by decide) rfl ?_ | refine CallPt.useS hi [0, 1] ⟨rfl, rfl, trivial⟩ (by decide) rfl ?_
 rintro _ _ ⟨rfl, rfl⟩ _
 conv => whnf
 repeat ((first | (refine aI ?_ ?_; focus exact sI) | refine dI sK ?_ | (refine yI ?_ ?_; focus exact sY) | (refine nI ?_ ?_; focus exact sY) | intro _); conv => whnf)
 all_goals exact sR
theorem cSmallP (s : Smp) : SmallOk Tryz.prog 143 s := by
 induction s using Smp.ind with
 | _ s ih =>
 intro c hok h0 h1
 obtain ⟨ys, yc⟩ := s
 replace ih : ∀ u, u ∈ ys → _ := ih
 rw [smOk, Bool.and_eq_true, Bool.and_eq_true, decide_eq_true_eq, decide_eq_true_eq] at hok
 obtain ⟨⟨hc0, hc1⟩, hoks⟩ := hok
 rw [smN] at h1 ⊢
 have hp := smNL_pos ys
 have ha := cAnyS ys ih (c + 1) hoks (by omega) (by omega)
 have e1 : decide (600 < c + 1) = false := decide_eq_false (by omega)
 have e2 : decide (yc < 0) = false := decide_eq_false (by omega)
 have e3 : decide (9999 < yc) = false := decide_eq_false (by omega)
 rw [show c + (1 + smNL ys) = c + 1 + smNL ys by omega]
 rw [sv_mk]
 refine call_trim (E := envK6 1) (fn := Tryz.f143) (c := bodyOf Tryz.f143) (envK6_ok 1) mixed sK sK sK sK sK sK rfl ?_
 conv => whnf
 repeat ((first | (refine aI ?_ ?_; focus exact sI) | refine dI sK ?_ | (refine yI ?_ ?_; focus exact sY) | (refine nI ?_ ?_; focus exact sY) | intro _); conv => whnf)
 rw [e1, e2, e3]
 (refine ⟨fun h => absurd h (by simp), fun _ => ?_⟩; conv => whnf)
 repeat ((first | (refine aI ?_ ?_; focus exact sI) | refine dI sK ?_ | (refine yI ?_ ?_; focus exact sY) | (refine nI ?_ ?_; focus exact sY) | intro _); conv => whnf)
 try (refine dI sK ?_; conv => whnf)
 first | refine CallSt.use ha [0, 2] ⟨rfl, rfl, trivial⟩ (by decide) rfl ?_ | refine CallPt.useS ha [0, 2] ⟨rfl, rfl, trivial⟩ (by decide) rfl ?_
 rintro _ _ ⟨rfl, rfl⟩ _
 conv => whnf
 repeat ((first | (refine aI ?_ ?_; focus exact sI) | refine dI sK ?_ | (refine yI ?_ ?_; focus exact sY) | (refine nI ?_ ?_; focus exact sY) | intro _); conv => whnf)
 all_goals exact sR
theorem cSmallT (s : Smp) (hok : smOk s = true) (hn : smN s ≤ 600) : CallSt Tryz.prog 129 [sv s] [] (fun r H' => r = .c (.bool true) ∧ H' = []) := by
 have h := cSmallP s 0 hok (Int.le_refl 0) (by omega)
 obtain ⟨ys, c⟩ := s
 rw [sv_mk] at *
 refine call_pure (E := envK6 0) (fn := Tryz.f129) (c := bodyOf Tryz.f129) (envK6_ok 0) mixed sK sK sK sK sK sK rfl ?_
 conv => whnf
 repeat ((first | (refine aI ?_ ?_; focus exact sI) | refine dI sK ?_ | (refine yI ?_ ?_; focus exact sY) | (refine nI ?_ ?_; focus exact sY) | intro _); conv => whnf)
 try (refine dI sK ?_; conv => whnf)
 first | refine CallSt.use h [1] ⟨rfl, trivial⟩ (by decide) rfl ?_ | refine CallPt.useS h [1] ⟨rfl, trivial⟩ (by decide) rfl ?_
 rintro _ _ ⟨rfl, rfl⟩ _
 conv => whnf
 repeat ((first | (refine aI ?_ ?_; focus exact sI) | refine dI sK ?_ | (refine yI ?_ ?_; focus exact sY) | (refine nI ?_ ?_; focus exact sY) | intro _); conv => whnf)
 all_goals exact sR
theorem cIdxS0 (f : FuncId) : CallSt Tryz.prog 154 [.c (.sl 2 32 []), .fn f []] [] (fun r H' => r = .c (.int .i64 (-1)) ∧ H' = []) := by
 refine call_pure (E := envK6 0) (fn := Tryz.f154) (c := bodyOf Tryz.f154) (envK6_ok 0) mixed sK sK sK sK sK sK rfl ?_
 conv => whnf
 repeat ((first | (refine aI ?_ ?_; focus exact sI) | refine dI sK ?_ | (refine yI ?_ ?_; focus exact sY) | (refine nI ?_ ?_; focus exact sY) | intro _); conv => whnf)
 refine loop_intro (fun m tm H => tm = [(8, .c (.int .i64 (0))), (7, .c (.int .i64 (0))), (0, .c (.sl 2 32 [])), (1, .fn f [])] ∧ H = []) 0 _ _ ⟨rfl, rfl⟩ (Wk.sl [] rfl trivial ⟨rfl, rfl, rfl, rfl, trivial⟩ rfl) ?_
 rintro m tm H ⟨rfl, rfl⟩
 conv => whnf
 (refine nI ?_ ?_; (focus exact sY); conv => whnf)
 repeat ((first | (refine aI ?_ ?_; focus exact sI) | refine dI sK ?_ | (refine yI ?_ ?_; focus exact sY) | (refine nI ?_ ?_; focus exact sY) | intro _); conv => whnf)
 all_goals exact sR
theorem cAnyS0 (f : FuncId) : CallSt Tryz.prog 138 [.c (.sl 2 32 []), .fn f []] [] (fun r H' => r = .c (.bool false) ∧ H' = []) := by
 have hi := cIdxS0 f
 refine call_pure (E := envK6 0) (fn := Tryz.f138) (c := bodyOf Tryz.f138) (envK6_ok 0) mixed sK sK sK sK sK sK rfl ?_
 conv => whnf
 repeat ((first | (refine aI ?_ ?_; focus exact sI) | refine dI sK ?_ | (refine yI ?_ ?_; focus exact sY) | (refine nI ?_ ?_; focus exact sY) | intro _); conv => whnf)
 try (refine dI sK ?_; conv => whnf)
 first | refine u0 hi ?_ | refine v0 hi ?_
 rintro _ _ ⟨rfl, rfl⟩ _
 conv => whnf
 repeat ((first | (refine aI ?_ ?_; focus exact sI) | refine dI sK ?_ | (refine yI ?_ ?_; focus exact sY) | (refine nI ?_ ?_; focus exact sY) | intro _); conv => whnf)
 all_goals exact sR
theorem cIdxN0 (f : FuncId) : CallSt Tryz.prog 155 [.c (.sl 1 8 []), .fn f []] [] (fun r H' => r = .c (.int .i64 (-1)) ∧ H' = []) := by
 refine call_pure (E := envK6 0) (fn := Tryz.f155) (c := bodyOf Tryz.f155) (envK6_ok 0) mixed sK sK sK sK sK sK rfl ?_
 conv => whnf
 repeat ((first | (refine aI ?_ ?_; focus exact sI) | refine dI sK ?_ | (refine yI ?_ ?_; focus exact sY) | (refine nI ?_ ?_; focus exact sY) | intro _); conv => whnf)
 refine loop_intro (fun m tm H => tm = [(8, .c (.int .i64 (0))), (7, .c (.int .i64 (0))), (0, .c (.sl 1 8 [])), (1, .fn f [])] ∧ H = []) 0 _ _ ⟨rfl, rfl⟩ (Wk.sl [] rfl trivial ⟨rfl, rfl, rfl, rfl, trivial⟩ rfl) ?_
 rintro m tm H ⟨rfl, rfl⟩
 conv => whnf
 (refine nI ?_ ?_; (focus exact sY); conv => whnf)
 repeat ((first | (refine aI ?_ ?_; focus exact sI) | refine dI sK ?_ | (refine yI ?_ ?_; focus exact sY) | (refine nI ?_ ?_; focus exact sY) | intro _); conv => whnf)
 all_goals exact sR
theorem cAnyN0 (f : FuncId) : CallSt Tryz.prog 140 [.c (.sl 1 8 []), .fn f []] [] (fun r H' => r = .c (.bool false) ∧ H' = []) := by
 have hi := cIdxN0 f
 refine call_pure (E := envK6 0) (fn := Tryz.f140) (c := bodyOf Tryz.f140) (envK6_ok 0) mixed sK sK sK sK sK sK rfl ?_
 conv => whnf
 repeat ((first | (refine aI ?_ ?_; focus exact sI) | refine dI sK ?_ | (refine yI ?_ ?_; focus exact sY) | (refine nI ?_ ?_; focus exact sY) | intro _); conv => whnf)
 try (refine dI sK ?_; conv => whnf)
 first | refine u0 hi ?_ | refine v0 hi ?_
 rintro _ _ ⟨rfl, rfl⟩ _
 conv => whnf
 repeat ((first | (refine aI ?_ ?_; focus exact sI) | refine dI sK ?_ | (refine yI ?_ ?_; focus exact sY) | (refine nI ?_ ?_; focus exact sY) | intro _); conv => whnf)
 all_goals exact sR
theorem cGoodS (l : List Term) : CallSt Tryz.prog 125 [.c (.sl 4 48 (tcs l)), .c (.sl 2 32 []), .c (.sl 1 8 [])] [] (fun r H' => r = .c (.bool (decide (l.length ≤ 601) && l.all prop)) ∧ H' = []) := by
 have hll := len_tcs l
 by_cases hl : l.length ≤ 601
 ·rw [decide_eq_true hl, Bool.true_and]
  have e6 : decide ((601 : Int) < ((tcs l).length : Int)) = false := decide_eq_false (by omega)
  have hs := cAnyS0 139
  have hn := cAnyN0 141
  refine call_pure (E := env6 0) (fn := Tryz.f125) (c := bodyOf Tryz.f125) (env6_ok 0) mixed sK sK sK sK sK sK rfl ?_
  conv => whnf
  repeat ((first | (refine aI ?_ ?_; focus exact sI) | refine dI sK ?_ | (refine yI ?_ ?_; focus exact sY) | (refine nI ?_ ?_; focus exact sY) | intro _); conv => whnf)
  rw [e6]
  (refine nI ?_ ?_; (focus exact sY); conv => whnf)
  repeat ((first | (refine aI ?_ ?_; focus exact sI) | refine dI sK ?_ | (refine yI ?_ ?_; focus exact sY) | (refine nI ?_ ?_; focus exact sY) | intro _); conv => whnf)
  refine loop_intro (fun m tm H => ∃ j : Nat, l.length = m + j ∧ (∀ (q : Nat) t, q < j → l[q]? = some t → prop t = true) ∧ tm = [(14, .c (.int .i64 (j))), (13, .c (.int .i64 ((tcs l).length))), (12, .c (.sl 4 48 (tcs l))), (1, .c (.sl 2 32 [])), (2, .c (.sl 1 8 []))] ∧ H = [])
   l.length _ _ ⟨0, by omega, fun q t h => absurd h (by omega), rfl, rfl⟩ (Wk.sl [] rfl trivial ⟨rfl, rfl, rfl, rfl, rfl, trivial⟩ rfl) ?_
  rintro m tm H ⟨j, hj, hall, rfl, rfl⟩
  conv => whnf
  refine ⟨fun hc => ?_, fun hc => ?_⟩
  ·replace hc : (j : Int) < (tcs l).length := of_decide_eq_true hc
   obtain ⟨u, hu⟩ : ∃ u, l[j]? = some u := ⟨l[j]'(by omega), List.getElem?_eq_getElem (by omega)⟩
   have huc := tcs_at l j u hu
   have hp := c14 u
   cases hpu : prop u with
   | true =>
    have hnx : ∀ (q : Nat) t, q < j + 1 → l[q]? = some t → prop t = true := fun q t hq ht => by
     by_cases e : q < j
     ·exact hall q t e ht
     ·obtain rfl : q = j := by omega
      rw [hu] at ht
      injection ht with ht
      exact ht ▸ hpu
    rw [hpu] at hp
    clear hpu
    obtain ⟨k', l', n', us⟩ := u
    rw [tv_mk] at hp
    conv => whnf
    repeat ((first | (refine aI ?_ ?_; focus exact sI) | refine dI sK ?_ | (refine yI ?_ ?_; focus exact sY) | (refine nI ?_ ?_; focus exact sY) | intro _); conv => whnf)
    refine ⟨_, ⟨by omega, by simpa using huc⟩, ?_⟩
    conv => whnf
    refine ⟨Nat.le_refl 4, ?_⟩
    conv => whnf
    repeat ((first | (refine aI ?_ ?_; focus exact sI) | refine dI sK ?_ | (refine yI ?_ ?_; focus exact sY) | (refine nI ?_ ?_; focus exact sY) | intro _); conv => whnf)
    try (refine dI sK ?_; conv => whnf)
    first | refine u0 hp ?_ | refine v0 hp ?_
    rintro _ _ ⟨rfl, rfl⟩ _
    conv => whnf
    repeat ((first | (refine aI ?_ ?_; focus exact sI) | refine dI sK ?_ | (refine yI ?_ ?_; focus exact sY) | (refine nI ?_ ?_; focus exact sY) | intro _); conv => whnf)
    exact ⟨m - 1, _, _, by omega, ⟨j + 1, by omega, hnx, rfl, rfl⟩, Wk.sl [] rfl trivial ⟨rfl, rfl, rfl, rfl, rfl, trivial⟩ rfl⟩
   | false =>
    have e : l.all prop = false := List.all_eq_false.2 ⟨u, List.mem_of_getElem? hu, by rw [hpu]; decide⟩
    rw [hpu] at hp
    rw [e]
    clear hpu
    obtain ⟨k', l', n', us⟩ := u
    rw [tv_mk] at hp
    conv => whnf
    repeat ((first | (refine aI ?_ ?_; focus exact sI) | refine dI sK ?_ | (refine yI ?_ ?_; focus exact sY) | (refine nI ?_ ?_; focus exact sY) | intro _); conv => whnf)
    refine ⟨_, ⟨by omega, by simpa using huc⟩, ?_⟩
    conv => whnf
    refine ⟨Nat.le_refl 4, ?_⟩
    conv => whnf
    repeat ((first | (refine aI ?_ ?_; focus exact sI) | refine dI sK ?_ | (refine yI ?_ ?_; focus exact sY) | (refine nI ?_ ?_; focus exact sY) | intro _); conv => whnf)
    try (refine dI sK ?_; conv => whnf)
    first | refine u0 hp ?_ | refine v0 hp ?_
    rintro _ _ ⟨rfl, rfl⟩ _
    conv => whnf
    repeat ((first | (refine aI ?_ ?_; focus exact sI) | refine dI sK ?_ | (refine yI ?_ ?_; focus exact sY) | (refine nI ?_ ?_; focus exact sY) | intro _); conv => whnf)
    all_goals exact sR
  ·replace hc : ¬ (j : Int) < (tcs l).length := of_decide_eq_false hc
   have e : l.all prop = true := List.all_eq_true.2 fun t ht => by
    obtain ⟨i, hi⟩ := List.mem_iff_getElem?.1 ht
    exact hall i t (by have := (List.getElem?_eq_some_iff.1 hi).1; omega) hi
   rw [e]
   conv => whnf
   repeat ((first | (refine aI ?_ ?_; focus exact sI) | refine dI sK ?_ | (refine yI ?_ ?_; focus exact sY) | (refine nI ?_ ?_; focus exact sY) | intro _); conv => whnf)
   try (refine dI sK ?_; conv => whnf)
   first | refine u0 hs ?_ | refine v0 hs ?_
   rintro _ _ ⟨rfl, rfl⟩ _
   conv => whnf
   repeat ((first | (refine aI ?_ ?_; focus exact sI) | refine dI sK ?_ | (refine yI ?_ ?_; focus exact sY) | (refine nI ?_ ?_; focus exact sY) | intro _); conv => whnf)
   try (refine dI sK ?_; conv => whnf)
   first | refine u0 hn ?_ | refine v0 hn ?_
   rintro _ _ ⟨rfl, rfl⟩ _
   conv => whnf
   repeat ((first | (refine aI ?_ ?_; focus exact sI) | refine dI sK ?_ | (refine yI ?_ ?_; focus exact sY) | (refine nI ?_ ?_; focus exact sY) | intro _); conv => whnf)
   all_goals exact sR
 ·rw [decide_eq_false hl, Bool.false_and]
  have e6 : decide ((601 : Int) < ((tcs l).length : Int)) = true := decide_eq_true (by omega)
  refine call_pure (E := env6 0) (fn := Tryz.f125) (c := bodyOf Tryz.f125) (env6_ok 0) mixed sK sK sK sK sK sK rfl ?_
  conv => whnf
  repeat ((first | (refine aI ?_ ?_; focus exact sI) | refine dI sK ?_ | (refine yI ?_ ?_; focus exact sY) | (refine nI ?_ ?_; focus exact sY) | intro _); conv => whnf)
  rw [e6]
  (refine yI ?_ ?_; (focus exact sY); conv => whnf)
  repeat ((first | (refine aI ?_ ?_; focus exact sI) | refine dI sK ?_ | (refine yI ?_ ?_; focus exact sY) | (refine nI ?_ ?_; focus exact sY) | intro _); conv => whnf)
  all_goals exact sR
end Go.Tr
/- The program's apply. -/
namespace Go.Tr
open Go.Proofs
abbrev SbK (R : SbR) (r : AV) (H' : HP) : Prop := ∃ t s, R = .ok t s ∧ r = tv t ∧ H' = cnH s
abbrev SbE (R : SbR) (x : CV) (H' : HP) : Prop := (∃ e, R = .er e ∧ x = flV e) ∧ H' = [.dead]
def SubOk (P : Program) (f : FuncId) (g : Nat) : Prop := ∀ (s : Int) (t : Term) (d n : Int) (x : Term) (sm : Smp), 0 ≤ s → s ≤ 20000 → 20000 < s + g → fmT t d = true → 0 ≤ d → 0 ≤ n → n ≤ 9998 + d → prop x = true →
 CallPt P f [.ptr 0 0, tv t, .c (.int .i64 (n)), tv x, sv sm] (cnH s) (fun r H' => SbK (putT g s t n x sm) r H') (fun v H' => SbE (putT g s t n x sm) v H')
set_option maxHeartbeats 1000000 in
theorem cSApply (g : Nat) (hput : SubOk Tryz.prog 130 g) (l : List Term) (u : Term) (sm : Smp) (s : Int) (hu : prop u = true) (hl : ∀ y ∈ l, prop y = true) (hs0 : 0 ≤ s) (hs1 : s ≤ 20000) (hsg : 20000 < s + g) :
  CallPt Tryz.prog 145 [.ptr 0 0, tv u, .c (.sl 4 48 (tcs l)), sv sm] (cnH s) (fun r H' => SbK (appR (fun s b y sm => putT g s b 0 y sm) u l sm.xs s) r H') (fun v H' => SbE (appR (fun s b y sm => putT g s b 0 y sm) u l sm.xs s) v H') := by
 have hll := len_tcs l
 obtain ⟨ys, c⟩ := sm
 rw [show (Smp.mk ys c).xs = ys from rfl]
 have hyl := len_scs ys
 obtain ⟨A, hA⟩ : ∃ A, A = appR (fun s b y sm => putT g s b 0 y sm) u l ys s := ⟨_, rfl⟩
 rw [← hA]
 obtain ⟨k, l', n, ts⟩ := u
 have hf23 := cFail 23
 rw [tv_mk, sv_mk]
 refine call_pan (E := env6 1) (fn := Tryz.f145) (c := bodyOf Tryz.f145) (env6_ok 1) mixed sK sK sK sK sK sK rfl .p ?_
 conv => whnf
 repeat ((first | (refine aI ?_ ?_; focus exact sI) | refine dI sK ?_ | (refine yI ?_ ?_; focus exact sY) | (refine nI ?_ ?_; focus exact sY) | intro _); conv => whnf)
 have hlb : (tcs l).length * 48 ≤ 140737488355328 := ‹gd [] true ((tcs l).length * 48 ≤ 140737488355328)›
 refine loop_intro (fun m tm H => ∃ (j : Nat) (u1 u2 u3 : Int) (us : List Term) (s' : Int), l.length = m + j ∧ A = appR (fun s b y sm => putT g s b 0 y sm) (.mk u1 u2 u3 us) (l.drop j) (ys.drop j) s' ∧ prop (.mk u1 u2 u3 us) = true ∧ s ≤ s' ∧ s' ≤ 20000 ∧
   tm = [(16, .c (.int .i64 (j))), (15, .c (.int .i64 ((tcs l).length))), (14, .c (.sl 4 48 (tcs l))), (9, .bd 130 [.ptr 0 0]), (8, .ptr 3 0), (7, .ptr 2 0), (5, .ptr 1 0)] ∧
   H = [.box [.c (.int .i64 (s'))], .box [.c (.int .i64 (u1)), .c (.int .i64 (u2)), .c (.int .i64 (u3)), .c (.sl 4 48 (tcs us))], .box [.c (.sl 2 32 (scs ys)), .c (.int .i64 (c))], .box [.c (.int .i64 (0)), .c (.int .i64 (0)), .c (.int .i64 (0)), .nil]])
  l.length _ _ ⟨0, k, l', n, ts, s, by omega, by rw [hA]; rfl, hu, Int.le_refl s, hs1, rfl, rfl⟩ (Wk.sl [0, 1, 2, 3] rfl ⟨rfl, rfl, rfl, rfl, trivial⟩ ⟨rfl, rfl, rfl, rfl, rfl, rfl, rfl, trivial⟩ rfl) ?_
 rintro m tm H ⟨j, u1, u2, u3, us, s', hj, hR, hpu, hs2, hs3, rfl, rfl⟩
 conv => whnf
 refine ⟨fun hc => ?_, fun hc => ?_⟩
 ·replace hc : (j : Int) < (tcs l).length := of_decide_eq_true hc
  obtain ⟨x, hx⟩ := get_some (show j < l.length by omega)
  have hxc := tcs_at l j x hx
  have hpx := hl x (List.mem_of_getElem? hx)
  rw [drop_at hx, appR_cons, show (Term.mk u1 u2 u3 us).k = u1 from rfl, show (Term.mk u1 u2 u3 us).ts = us from rfl] at hR
  by_cases hg : u1 = 3 ∧ j < ys.length
  ·obtain ⟨rfl, hjy⟩ := hg
   obtain ⟨b, hb, hfb⟩ := prop_lam hpu rfl
   replace hb : us = [b] := hb
   subst hb
   obtain ⟨y, hy⟩ := get_some hjy
   have hyc := scs_at ys j y hy
   rw [drop_at hy, decide_eq_true rfl] at hR
   simp only at hR
   have hpt := hput s' b 2 0 x y (by omega) hs3 (by omega) hfb (by omega) (Int.le_refl 0) (by omega) hpx
   have hok := fun v s1 => @putT_ok g s' b 0 x y v s1
   have htp := fun v s1 => @putT_top g s' b 0 x y v s1
   have e1 : decide ((((scs ys).length : Nat) : Int) ≤ (j : Int)) = false := decide_eq_false (by omega)
   obtain ⟨Z, hZ⟩ : ∃ Z, Z = putT g s' b 0 x y := ⟨_, rfl⟩
   rw [← hZ] at hR hpt hok htp
   clear hZ
   obtain ⟨b1, b2, b3, b4⟩ := b
   obtain ⟨x1, x2, x3, x4⟩ := x
   obtain ⟨y1, y2⟩ := y
   rw [tv_mk, tv_mk, sv_mk] at hpt
   conv => whnf
   repeat ((first | (refine aI ?_ ?_; focus exact sI) | refine dI sK ?_ | (refine yI ?_ ?_; focus exact sY) | (refine nI ?_ ?_; focus exact sY) | intro _); conv => whnf)
   refine ⟨_, ⟨by omega, by simpa using hxc⟩, ?_⟩
   conv => whnf
   refine ⟨Nat.le_refl 4, ?_⟩
   conv => whnf
   repeat ((first | (refine aI ?_ ?_; focus exact sI) | refine dI sK ?_ | (refine yI ?_ ?_; focus exact sY) | (refine nI ?_ ?_; focus exact sY) | intro _); conv => whnf)
   rw [e1]
   (refine ⟨fun h => absurd h (by simp), fun _ => ?_⟩; conv => whnf)
   repeat ((first | (refine aI ?_ ?_; focus exact sI) | refine dI sK ?_ | (refine yI ?_ ?_; focus exact sY) | (refine nI ?_ ?_; focus exact sY) | intro _); conv => whnf)
   refine ⟨_, ⟨by decide, rfl⟩, ?_⟩
   conv => whnf
   refine ⟨Nat.le_refl 4, ?_⟩
   conv => whnf
   refine ⟨_, ⟨by omega, hyc⟩, ?_⟩
   conv => whnf
   refine ⟨Nat.le_refl 2, ?_⟩
   conv => whnf
   try (refine dI sK ?_; conv => whnf)
   refine CallPt.use hpt [0] ⟨rfl, trivial⟩ (by decide) rfl ?_ ?_
   (focus (rintro x _ hx _; (conv => whnf); (obtain ⟨⟨e, rfl, rfl⟩, _⟩ := hx; exact ⟨e, hR, rfl⟩)))
   rintro _ _ ⟨⟨v1, v2, v3, v4⟩, s1, rfl, rfl, rfl⟩ _
   conv => whnf
   repeat ((first | (refine aI ?_ ?_; focus exact sI) | refine dI sK ?_ | (refine yI ?_ ?_; focus exact sY) | (refine nI ?_ ?_; focus exact sY) | intro _); conv => whnf)
   have ho := hok (.mk v1 v2 v3 v4) s1 rfl
   have ht := htp (.mk v1 v2 v3 v4) s1 rfl
   exact ⟨m - 1, _, _, by omega, ⟨j + 1, v1, v2, v3, v4, s1, by omega, hR, ho.1, by omega, ht, rfl, rfl⟩, Wk.sl [0, 1, 2, 3] rfl ⟨rfl, rfl, rfl, rfl, trivial⟩ ⟨rfl, rfl, rfl, rfl, rfl, rfl, rfl, trivial⟩ rfl⟩
  ·have hA23 : A = .er 23 := by
    rw [hR]
    by_cases h3 : u1 = 3
    ·have hjl : ys.drop j = [] := List.drop_eq_nil_of_le (by omega)
     rw [hjl]
     split
     ·rename_i h1 h2 h4
      cases h4
     ·rfl
    ·rw [decide_eq_false h3]
   have e1 : (!decide (u1 = 3) || decide ((((scs ys).length : Nat) : Int) ≤ (j : Int))) = true := by
    rw [Bool.or_eq_true, Bool.not_eq_true', decide_eq_false_iff_not, decide_eq_true_eq]
    omega
   obtain ⟨x1, x2, x3, x4⟩ := x
   conv => whnf
   repeat ((first | (refine aI ?_ ?_; focus exact sI) | refine dI sK ?_ | (refine yI ?_ ?_; focus exact sY) | (refine nI ?_ ?_; focus exact sY) | intro _); conv => whnf)
   refine ⟨_, ⟨by omega, by simpa using hxc⟩, ?_⟩
   conv => whnf
   refine ⟨Nat.le_refl 4, ?_⟩
   conv => whnf
   repeat ((first | (refine aI ?_ ?_; focus exact sI) | refine dI sK ?_ | (refine yI ?_ ?_; focus exact sY) | (refine nI ?_ ?_; focus exact sY) | intro _); conv => whnf)
   rw [e1]
   (refine ⟨fun _ => ?_, fun h => absurd h (by simp)⟩; conv => whnf)
   repeat ((first | (refine aI ?_ ?_; focus exact sI) | refine dI sK ?_ | (refine yI ?_ ?_; focus exact sY) | (refine nI ?_ ?_; focus exact sY) | intro _); conv => whnf)
   try (refine dI sK ?_; conv => whnf)
   refine CallPt.use hf23 [] trivial (by decide) rfl ?_ ?_
   (focus (rintro x _ hx _; (conv => whnf); exact ⟨23, hA23, hx.1⟩))
   rintro _ _ hno _
   conv => whnf
   exact hno.elim
 ·replace hc : ¬ (j : Int) < (tcs l).length := of_decide_eq_false hc
  rw [List.drop_eq_nil_of_le (by omega), appR, wholeR, hpu] at hR
  have hk := cKept (.mk u1 u2 u3 us)
  rw [tv_mk] at hk
  conv => whnf
  repeat ((first | (refine aI ?_ ?_; focus exact sI) | refine dI sK ?_ | (refine yI ?_ ?_; focus exact sY) | (refine nI ?_ ?_; focus exact sY) | intro _); conv => whnf)
  try (refine dI sK ?_; conv => whnf)
  refine CallPt.use hk [] trivial (by decide) rfl ?_ ?_
  (focus (rintro x _ hx _; (conv => whnf); exact absurd hx.1.2 (by rw [hpu]; decide)))
  rintro _ _ ⟨_, rfl, rfl⟩ _
  conv => whnf
  repeat ((first | (refine aI ?_ ?_; focus exact sI) | refine dI sK ?_ | (refine yI ?_ ?_; focus exact sY) | (refine nI ?_ ?_; focus exact sY) | intro _); conv => whnf)
  exact ⟨.mk u1 u2 u3 us, s', hR, rfl, rfl⟩
end Go.Tr
/- The program's subst. -/
namespace Go.Tr
open Go.Proofs
def joinR (A : SbL) (f : List Term → Int → SbR) : SbR := match A with
 | .er e => .er e
 | .ok us s1 => f us s1
theorem putT_join (g : Nat) (s k l m : Int) (ts : List Term) (n : Int) (x : Term) (sm : Smp) : putT (g + 1) s (.mk k l m ts) n x sm = match decide (20000 < s + 1) with
 | true => .er 5
 | false => joinR (putArgs (fun s u n => putT g s u n x sm) k n 0 ts (s + 1)) (putEnd g k l m n x sm) := by
 rw [putT_succ]
 rfl
set_option maxHeartbeats 2000000 in
theorem cSSubst : ∀ g, SubOk Tryz.prog 130 g
 | 0 => fun s t d n x sm hs0 hs1 hsg => absurd hsg (by omega)
 | g + 1 => by
  have hput := cSSubst g
  have happ := cSApply g hput
  intro s t d n x sm hs0 hs1 hsg hft hd hn0 hn1 hpx
  obtain ⟨k, l, m, ts⟩ := t
  rw [putT_join]
  cases hb : decide (20000 < s + 1) with
  | true =>
   have hf5 := cFail 5
   have hR5 : ∃ R, R = SbR.er 5 := ⟨_, rfl⟩
   obtain ⟨R, hR5⟩ := hR5
   simp only
   rw [← hR5]
   obtain ⟨x1, x2, x3, x4⟩ := x
   obtain ⟨ys, c⟩ := sm
   rw [tv_mk, tv_mk, sv_mk]
   refine call_pan (E := env6 1) (fn := Tryz.f130) (c := bodyOf Tryz.f130) (env6_ok 1) mixed sK sK sK sK sK sK rfl .p ?_
   refine aw_cut _ _ rfl fun C hC => ?_
   conv => whnf
   subst hC
   refine aw_cut _ _ rfl fun C hC => ?_
   conv => whnf
   repeat ((first | (refine aI ?_ ?_; focus exact sI) | refine dI sK ?_ | (refine yI ?_ ?_; focus exact sY) | (refine nI ?_ ?_; focus exact sY) | intro _); conv => whnf)
   rw [hb]
   (refine yI ?_ ?_; (focus exact sY); conv => whnf)
   try (refine dI sK ?_; conv => whnf)
   refine CallPt.use hf5 [] trivial (by decide) rfl ?_ ?_
   (focus (rintro x _ hx _; (conv => whnf); exact ⟨5, hR5, hx.1⟩))
   rintro _ _ hno _
   conv => whnf
   exact hno.elim
  | false =>
   have hs2 := of_decide_eq_false hb
   simp only
   have hdd := fm_d hft
   have hmb : k = 4 → 0 ≤ m ∧ m ≤ 9999 := fun h => by subst h; exact ⟨(fm_app hft).2.2.1, (fm_app hft).2.2.2⟩
   have hfl : fmL ts d = true := by
    simp only [fmT, Bool.and_eq_true] at hft
    exact hft.2
   have hkid := fmL_mem4 ts d hfl
   have hmv := fun h => cMovedS x hpx n ⟨hn0, h⟩
   obtain ⟨A, hA⟩ : ∃ A, A = putArgs (fun s u n => putT g s u n x sm) k n 0 ts (s + 1) := ⟨_, rfl⟩
   rw [← hA]
   have hRE : ∀ e, A = .er e → joinR A (putEnd g k l m n x sm) = .er e := fun e h => by rw [h]; rfl
   have hRO : ∀ us s1, A = .ok us s1 → joinR A (putEnd g k l m n x sm) = putEnd g k l m n x sm us s1 := fun us s1 h => by rw [h]; rfl
   obtain ⟨R, hR0⟩ : ∃ R, R = joinR A (putEnd g k l m n x sm) := ⟨_, rfl⟩
   rw [← hR0] at hRE hRO ⊢
   clear hR0
   obtain ⟨x1, x2, x3, x4⟩ := x
   obtain ⟨ys, c⟩ := sm
   rw [tv_mk, tv_mk, sv_mk]
   refine call_pan (E := env6 1) (fn := Tryz.f130) (c := bodyOf Tryz.f130) (env6_ok 1) mixed sK sK sK sK sK sK rfl .p ?_
   refine aw_cut _ _ rfl fun C hC => ?_
   conv => whnf
   subst hC
   refine aw_cut _ _ rfl fun C hC => ?_
   conv => whnf
   repeat ((first | (refine aI ?_ ?_; focus exact sI) | refine dI sK ?_ | (refine yI ?_ ?_; focus exact sY) | (refine nI ?_ ?_; focus exact sY) | intro _); conv => whnf)
   rw [hb]
   (refine nI ?_ ?_; (focus exact sY); conv => whnf)
   subst hC
   conv => whnf
   repeat ((first | (refine aI ?_ ?_; focus exact sI) | refine dI sK ?_ | (refine yI ?_ ?_; focus exact sY) | (refine nI ?_ ?_; focus exact sY) | intro _); conv => whnf)
   have hlen : (tcs ts).length * 48 ≤ 140737488355328 := ‹gd [] true ((tcs ts).length * 48 ≤ 140737488355328)›
   rw [len_tcs] at hlen
   refine loop_intro (fun mm tm H => ∃ (j : Nat) (us : List Term) (s' : Int), ts.length = mm + j ∧ us.length = j ∧ A = consL us (putArgs (fun s u n => putT g s u n (.mk x1 x2 x3 x4) (.mk ys c)) k n j (ts.drop j) s') ∧ s < s' ∧ s' ≤ 20000 ∧ (∀ u ∈ us, prop u = true) ∧
     tm = [(37, .c (.int .i64 (j))), (36, .c (.int .i64 ((tcs ts).length))), (35, .c (.sl 4 48 (tcs ts))), (11, .ptr 5 0), (10, .ptr 4 0), (9, .ptr 3 0), (8, .ptr 2 0), (6, .ptr 1 0), (0, .ptr 0 0), (2, .c (.int .i64 (n)))] ∧
     H = [.box [.c (.int .i64 (s'))], .box [.c (.int .i64 (k)), .c (.int .i64 (l)), .c (.int .i64 (m)), .c (.sl 4 48 (tcs ts))], .box [.c (.int .i64 (x1)), .c (.int .i64 (x2)), .c (.int .i64 (x3)), .c (.sl 4 48 (tcs x4))], .box [.c (.sl 2 32 (scs ys)), .c (.int .i64 (c))], .box [.c (.int .i64 (0)), .c (.int .i64 (0)), .c (.int .i64 (0)), .nil], .box [.c (.int .i64 (k)), .c (.int .i64 (l)), .c (.int .i64 (m)), .own 6], .row 28 4 48 (tcs us)])
    ts.length _ _ ⟨0, [], s + 1, by omega, rfl, by rw [hA]; exact (consL_nil _).symm, by omega, by omega, (fun u hu => nomatch hu), rfl, rfl⟩ ?_ ?_
   ·refine Wk.trans (H1 := [.box [.c (.int .i64 (s + 1))], .box [.c (.int .i64 (k)), .c (.int .i64 (l)), .c (.int .i64 (m)), .c (.sl 4 48 (tcs ts))], .box [.c (.int .i64 (x1)), .c (.int .i64 (x2)), .c (.int .i64 (x3)), .c (.sl 4 48 (tcs x4))], .box [.c (.sl 2 32 (scs ys)), .c (.int .i64 (c))], .box [.c (.int .i64 (0)), .c (.int .i64 (0)), .c (.int .i64 (0)), .nil], .box [.c (.int .i64 (k)), .c (.int .i64 (l)), .c (.int .i64 (m)), .nil]]) ?_ (Wk.nilrow' 5 3 28 4 48 rfl rfl rfl rfl)
    exact Wk.sl [0, 1, 2, 3, 4, 5] rfl ⟨rfl, rfl, rfl, rfl, rfl, rfl, trivial⟩ ⟨rfl, rfl, rfl, rfl, rfl, rfl, rfl, rfl, rfl, rfl, trivial⟩ rfl
   rintro mm tm H ⟨j, us, s', hj, hus, hR, hs3, hs4, hpu, rfl, rfl⟩
   conv => whnf
   refine ⟨fun hc => ?_, fun hc => ?_⟩
   ·replace hc : (j : Int) < (tcs ts).length := of_decide_eq_true hc
    rw [len_tcs] at hc
    have hlt : j < ts.length := by omega
    obtain ⟨u, hu⟩ : ∃ u, ts[j]? = some u := ⟨ts[j], List.getElem?_eq_getElem hlt⟩
    have hm := List.mem_of_getElem? hu
    have huc := tcs_at ts j u hu
    have hub := unT_bd k j
    have hun := c77 (.mk k l m ts) j
    rw [show (Term.mk k l m ts).k = k from rfl, tv_mk] at hun
    have hpt := hput s' u (d + 1) (n + unT k j) (.mk x1 x2 x3 x4) (.mk ys c) (by omega) hs4 (by omega) (hkid u hm) (by omega) (by omega) (by omega) hpx
    have hok := fun v s1 => @putT_ok g s' u (n + unT k j) (.mk x1 x2 x3 x4) (.mk ys c) v s1
    have htp := fun v s1 => @putT_top g s' u (n + unT k j) (.mk x1 x2 x3 x4) (.mk ys c) v s1
    rw [drop_at hu, putArgs] at hR
    have hl1 : (tcs us).length = j := by rw [len_tcs, hus]
    have hl2 : ((tcs us).length + 1) * 48 ≤ 140737488355328 := by omega
    have hl3 : (tcs us).length + 1 ≤ 9223372036854775807 := by omega
    obtain ⟨Z, hZ⟩ : ∃ Z, Z = putT g s' u (n + unT k j) (.mk x1 x2 x3 x4) (.mk ys c) := ⟨_, rfl⟩
    rw [← hZ] at hR hpt hok htp
    clear hZ
    obtain ⟨un, hune⟩ : ∃ un, un = unT k j := ⟨_, rfl⟩
    rw [← hune] at hpt hun hub
    obtain ⟨k', l2, n', us'⟩ := u
    rw [tv_mk, tv_mk, sv_mk] at hpt
    conv => whnf
    repeat ((first | (refine aI ?_ ?_; focus exact sI) | refine dI sK ?_ | (refine yI ?_ ?_; focus exact sY) | (refine nI ?_ ?_; focus exact sY) | intro _); conv => whnf)
    refine ⟨_, ⟨by omega, by simpa using huc⟩, ?_⟩
    conv => whnf
    refine ⟨Nat.le_refl 4, ?_⟩
    conv => whnf
    repeat ((first | (refine aI ?_ ?_; focus exact sI) | refine dI sK ?_ | (refine yI ?_ ?_; focus exact sY) | (refine nI ?_ ?_; focus exact sY) | intro _); conv => whnf)
    try (refine dI sK ?_; conv => whnf)
    first | refine u0 hun ?_ | refine v0 hun ?_
    rintro _ _ ⟨rfl, rfl⟩ _
    conv => whnf
    repeat ((first | (refine aI ?_ ?_; focus exact sI) | refine dI sK ?_ | (refine yI ?_ ?_; focus exact sY) | (refine nI ?_ ?_; focus exact sY) | intro _); conv => whnf)
    try (refine dI sK ?_; conv => whnf)
    refine CallPt.use hpt [0] ⟨rfl, trivial⟩ (by decide) rfl ?_ ?_
    (focus (rintro x _ hx _; (conv => whnf); (obtain ⟨⟨e, rfl, rfl⟩, _⟩ := hx; exact ⟨e, hRE e hR, rfl⟩)))
    rintro _ _ ⟨⟨v1, v2, v3, v4⟩, s1, rfl, rfl, rfl⟩ _
    conv => whnf
    repeat ((first | (refine aI ?_ ?_; focus exact sI) | refine dI sK ?_ | (refine yI ?_ ?_; focus exact sY) | (refine nI ?_ ?_; focus exact sY) | intro _); conv => whnf)
    have ho := hok (.mk v1 v2 v3 v4) s1 rfl
    have ht := htp (.mk v1 v2 v3 v4) s1 rfl
    have hR' : A = consL (us ++ [.mk v1 v2 v3 v4]) (putArgs (fun s u n => putT g s u n (.mk x1 x2 x3 x4) (.mk ys c)) k n (j + 1) (ts.drop (j + 1)) s1) := by
     rw [hR]
     exact consL_snoc us _ _
    refine ⟨mm - 1, _, _, by omega, ⟨j + 1, us ++ [.mk v1 v2 v3 v4], s1, by omega, by simp [hus], hR', by omega, ht, fun y hy => ?_, rfl, rfl⟩, Wk.sl [0, 1, 2, 3, 4, 5, 9] rfl ⟨rfl, rfl, rfl, rfl, rfl, rfl, ?_, trivial⟩ ⟨rfl, rfl, rfl, rfl, rfl, rfl, rfl, rfl, rfl, rfl, trivial⟩ rfl⟩
    ·rcases List.mem_append.1 hy with hy | hy
     ·exact hpu y hy
     ·rw [List.mem_singleton] at hy
      exact hy ▸ ho.1
    ·rw [← tcs_snoc]
     rfl
   ·replace hc : ¬ (j : Int) < (tcs ts).length := of_decide_eq_false hc
    rw [len_tcs] at hc
    rw [List.drop_eq_nil_of_le (by omega), putArgs, consL, List.append_nil] at hR
    have hRR := hRO us s' hR
    cases hkl : (decide (k = 4) && decide (l = 1)) with
    | false =>
     have e : R = wholeR (.mk k l m us) s' := by
      rw [hRR]
      unfold putEnd
      rw [hkl, Bool.false_and]
     have hk := cKept (.mk k l m us)
     rw [tv_mk] at hk
     conv => whnf
     repeat ((first | (refine aI ?_ ?_; focus exact sI) | refine dI sK ?_ | (refine yI ?_ ?_; focus exact sY) | (refine nI ?_ ?_; focus exact sY) | intro _); conv => whnf)
     rw [hkl]
     (refine nI ?_ ?_; (focus exact sY); conv => whnf)
     repeat ((first | (refine aI ?_ ?_; focus exact sI) | refine dI sK ?_ | (refine yI ?_ ?_; focus exact sY) | (refine nI ?_ ?_; focus exact sY) | intro _); conv => whnf)
     try (refine dI sK ?_; conv => whnf)
     refine CallPt.use hk [] trivial (by decide) rfl ?_ ?_
     (focus (rintro x _ hx _; (conv => whnf); exact ⟨5, by rw [e]; unfold wholeR; rw [hx.1.2], hx.1.1⟩))
     rintro _ _ ⟨hpk, rfl, rfl⟩ _
     conv => whnf
     repeat ((first | (refine aI ?_ ?_; focus exact sI) | refine dI sK ?_ | (refine yI ?_ ?_; focus exact sY) | (refine nI ?_ ?_; focus exact sY) | intro _); conv => whnf)
     exact ⟨.mk k l m us, s', by rw [e]; unfold wholeR; rw [hpk], rfl, rfl⟩
    | true =>
     have hkl' := hkl
     rw [Bool.and_eq_true, decide_eq_true_eq, decide_eq_true_eq] at hkl'
     obtain ⟨rfl, rfl⟩ := hkl'
     have hm2 := hmb rfl
     by_cases hmn : m = n
     ·subst hmn
      have e0 : R = (match prop (raisedT (.mk x1 x2 x3 x4) m) with | false => .er 5 | true => appR (fun s b y sm => putT g s b 0 y sm) (raisedT (.mk x1 x2 x3 x4) m) us ys s') := by
       rw [hRR]
       unfold putEnd
       rw [decide_eq_true (show m ≤ m by omega), decide_eq_false (show ¬ m < m by omega)]
       rfl
      have hmv := hmv (by omega)
      obtain ⟨Rt, hRt⟩ : ∃ Rt, Rt = raisedT (.mk x1 x2 x3 x4) m := ⟨_, rfl⟩
      rw [← hRt] at hmv e0
      clear hRt
      have hap := fun h => happ us Rt (.mk ys c) s' h hpu (by omega) hs4 (by omega)
      rw [show (Smp.mk ys c).xs = ys from rfl] at hap
      obtain ⟨k3, l3, n3, us3⟩ := Rt
      rw [tv_mk, tv_mk] at hmv
      rw [tv_mk, sv_mk] at hap
      conv => whnf
      repeat ((first | (refine aI ?_ ?_; focus exact sI) | refine dI sK ?_ | (refine yI ?_ ?_; focus exact sY) | (refine nI ?_ ?_; focus exact sY) | intro _); conv => whnf)
      try (refine dI sK ?_; conv => whnf)
      refine CallPt.use hmv [] trivial (by decide) rfl ?_ ?_
      (focus (rintro x _ hx _; (conv => whnf); exact ⟨5, by rw [e0, hx.1.2], hx.1.1⟩))
      rintro _ _ ⟨hpR, rfl, rfl⟩ _
      conv => whnf
      rw [hpR] at e0
      simp only at e0
      replace hap := hap hpR
      repeat ((first | (refine aI ?_ ?_; focus exact sI) | refine dI sK ?_ | (refine yI ?_ ?_; focus exact sY) | (refine nI ?_ ?_; focus exact sY) | intro _); conv => whnf)
      try (refine dI sK ?_; conv => whnf)
      refine CallPt.use hap [0] ⟨rfl, trivial⟩ (by decide) rfl ?_ ?_
      (focus (rintro x _ hx _; (conv => whnf); (obtain ⟨⟨e, he, rfl⟩, _⟩ := hx; exact ⟨e, e0.trans he, rfl⟩)))
      rintro _ _ ⟨⟨v1, v2, v3, v4⟩, s1, hA2, rfl, rfl⟩ _
      conv => whnf
      have hpv := (appR_ok (fun s b y m u s' h => (putT_ok g h).2) hA2).1
      have hk := cKept (.mk v1 v2 v3 v4)
      rw [tv_mk] at hk
      repeat ((first | (refine aI ?_ ?_; focus exact sI) | refine dI sK ?_ | (refine yI ?_ ?_; focus exact sY) | (refine nI ?_ ?_; focus exact sY) | intro _); conv => whnf)
      try (refine dI sK ?_; conv => whnf)
      refine CallPt.use hk [] trivial (by decide) rfl ?_ ?_
      (focus (rintro x _ hx _; (conv => whnf); exact absurd hx.1.2 (by rw [hpv]; decide)))
      rintro _ _ ⟨_, rfl, rfl⟩ _
      conv => whnf
      repeat ((first | (refine aI ?_ ?_; focus exact sI) | refine dI sK ?_ | (refine yI ?_ ?_; focus exact sY) | (refine nI ?_ ?_; focus exact sY) | intro _); conv => whnf)
      exact ⟨.mk v1 v2 v3 v4, s1, e0.trans hA2, rfl, rfl⟩
     ·have em : decide (m = n) = false := decide_eq_false hmn
      by_cases hlt : n < m
      ·have e : R = wholeR (.mk 4 1 (m - 1) us) s' := by
        rw [hRR]
        unfold putEnd
        rw [decide_eq_true (show n ≤ m by omega), decide_eq_true hlt]
        rfl
       have hk := cKept (.mk 4 1 (m - 1) us)
       rw [tv_mk] at hk
       conv => whnf
       repeat ((first | (refine aI ?_ ?_; focus exact sI) | refine dI sK ?_ | (refine yI ?_ ?_; focus exact sY) | (refine nI ?_ ?_; focus exact sY) | intro _); conv => whnf)
       rw [em]
       (refine nI ?_ ?_; (focus exact sY); conv => whnf)
       repeat ((first | (refine aI ?_ ?_; focus exact sI) | refine dI sK ?_ | (refine yI ?_ ?_; focus exact sY) | (refine nI ?_ ?_; focus exact sY) | intro _); conv => whnf)
       rw [decide_eq_true hlt]
       (refine yI ?_ ?_; (focus exact sY); conv => whnf)
       repeat ((first | (refine aI ?_ ?_; focus exact sI) | refine dI sK ?_ | (refine yI ?_ ?_; focus exact sY) | (refine nI ?_ ?_; focus exact sY) | intro _); conv => whnf)
       try (refine dI sK ?_; conv => whnf)
       refine CallPt.use hk [] trivial (by decide) rfl ?_ ?_
       (focus (rintro x _ hx _; (conv => whnf); exact ⟨5, by rw [e]; unfold wholeR; rw [hx.1.2], hx.1.1⟩))
       rintro _ _ ⟨hpk, rfl, rfl⟩ _
       conv => whnf
       repeat ((first | (refine aI ?_ ?_; focus exact sI) | refine dI sK ?_ | (refine yI ?_ ?_; focus exact sY) | (refine nI ?_ ?_; focus exact sY) | intro _); conv => whnf)
       exact ⟨.mk 4 1 (m - 1) us, s', by rw [e]; unfold wholeR; rw [hpk], rfl, rfl⟩
      ·have e : R = wholeR (.mk 4 1 m us) s' := by
        rw [hRR]
        unfold putEnd
        rw [decide_eq_false (show ¬ n ≤ m by omega)]
        rfl
       have hk := cKept (.mk 4 1 m us)
       rw [tv_mk] at hk
       conv => whnf
       repeat ((first | (refine aI ?_ ?_; focus exact sI) | refine dI sK ?_ | (refine yI ?_ ?_; focus exact sY) | (refine nI ?_ ?_; focus exact sY) | intro _); conv => whnf)
       rw [em]
       (refine nI ?_ ?_; (focus exact sY); conv => whnf)
       repeat ((first | (refine aI ?_ ?_; focus exact sI) | refine dI sK ?_ | (refine yI ?_ ?_; focus exact sY) | (refine nI ?_ ?_; focus exact sY) | intro _); conv => whnf)
       rw [decide_eq_false hlt]
       (refine nI ?_ ?_; (focus exact sY); conv => whnf)
       repeat ((first | (refine aI ?_ ?_; focus exact sI) | refine dI sK ?_ | (refine yI ?_ ?_; focus exact sY) | (refine nI ?_ ?_; focus exact sY) | intro _); conv => whnf)
       try (refine dI sK ?_; conv => whnf)
       refine CallPt.use hk [] trivial (by decide) rfl ?_ ?_
       (focus (rintro x _ hx _; (conv => whnf); exact ⟨5, by rw [e]; unfold wholeR; rw [hx.1.2], hx.1.1⟩))
       rintro _ _ ⟨hpk, rfl, rfl⟩ _
       conv => whnf
       repeat ((first | (refine aI ?_ ?_; focus exact sI) | refine dI sK ?_ | (refine yI ?_ ?_; focus exact sY) | (refine nI ?_ ?_; focus exact sY) | intro _); conv => whnf)
       exact ⟨.mk 4 1 m us, s', by rw [e]; unfold wholeR; rw [hpk], rfl, rfl⟩
end Go.Tr
/- Join: both sides. -/
namespace Go.Tr
open Go.Proofs
end Go.Tr
/- Join of the program. -/
namespace Go.Tr
open Go.Proofs
end Go.Tr
/- Split: both sides; SameAll. -/
namespace Go.Tr
open Go.Proofs
theorem prop_fm {t : Term} (h : prop t = true) : fmT t 1 = true ∧ szT t ≤ 600 := by
 rw [prop_rprop, rprop_iff, Bool.and_eq_true, decide_eq_true_eq] at h
 exact ⟨h.2, h.1⟩
theorem prop_of {t : Term} {d : Int} (h : fmT t d = true) (hd : 1 ≤ d) (hs : szT t ≤ 600) : prop t = true := by
 rw [prop_rprop, rprop_iff, Bool.and_eq_true, decide_eq_true_eq]
 exact ⟨hs, fm_mono t d 1 h hd⟩
end Go.Tr
/- The program's Instance: what is deferred. -/
namespace Go.Tr
open Go.Proofs
def envY6 (n : Nat) : Env := ⟨lkT tab6, keep, n, true, false, none, fun _ _ => none⟩
theorem envY6_ok (n : Nat) : EnvOk Tryz.prog (envY6 n) := EnvOk.of (l := tab6) rfl (by kernel_rfl)
abbrev bxT (a b c : Int) (l : List (List CV)) : Ent := .box [.c (.int .i64 (a)), .c (.int .i64 (b)), .c (.int .i64 (c)), .c (.sl 4 48 l)]
abbrev bxZ : Ent := .box [.c (.int .i64 (0)), .c (.int .i64 (0)), .c (.int .i64 (0)), .nil]
section
variable (a b c x1 x2 x3 s e yc o1 o2 o3 : Int) (l xl ol : List (List CV)) (F G : CV)
theorem cCau7 : DefSt Tryz.prog 126 [.ptr 1 0, .ptr 2 0] [bxT a b c l, bxZ, .box [.c (.int .i64 (0))], .dead, .frz F, .box [.c (.int .i64 (s))], bxT x1 x2 x3 xl] (some (flV e)) (fun H' => H' = [bxT a b c l, bxZ, .box [.c (.int .i64 (e))], .dead, .frz F, .box [.c (.int .i64 (s))], bxT x1 x2 x3 xl]) := by
 refine def_intro (E := envY6 7) (fn := Tryz.f126) (c := bodyOf Tryz.f126) (envY6_ok 7) mixed rfl sK sK rfl sK sK sK sK rfl ?_
 conv => whnf
 repeat ((first | (refine aI ?_ ?_; focus exact sI) | refine dI sK ?_ | (refine yI ?_ ?_; focus exact sY) | (refine nI ?_ ?_; focus exact sY) | intro _); conv => whnf)
 rfl
theorem cCau8 : DefSt Tryz.prog 126 [.ptr 1 0, .ptr 2 0] [bxT a b c l, bxZ, .box [.c (.int .i64 (0))], .dead, .frz F, .box [.c (.int .i64 (s))], bxT x1 x2 x3 xl, .box [.c G, .c (.int .i64 (yc))]] (some (flV e)) (fun H' => H' = [bxT a b c l, bxZ, .box [.c (.int .i64 (e))], .dead, .frz F, .box [.c (.int .i64 (s))], bxT x1 x2 x3 xl, .box [.c G, .c (.int .i64 (yc))]]) := by
 refine def_intro (E := envY6 8) (fn := Tryz.f126) (c := bodyOf Tryz.f126) (envY6_ok 8) mixed rfl sK sK rfl sK sK sK sK rfl ?_
 conv => whnf
 repeat ((first | (refine aI ?_ ?_; focus exact sI) | refine dI sK ?_ | (refine yI ?_ ?_; focus exact sY) | (refine nI ?_ ?_; focus exact sY) | intro _); conv => whnf)
 rfl
theorem cCauD : DefSt Tryz.prog 126 [.ptr 1 0, .ptr 2 0] [.dead, bxZ, .box [.c (.int .i64 (0))], .dead, .frz F, .dead, bxT x1 x2 x3 xl, .box [.c G, .c (.int .i64 (yc))]] (some (flV e)) (fun H' => H' = [.dead, bxZ, .box [.c (.int .i64 (e))], .dead, .frz F, .dead, bxT x1 x2 x3 xl, .box [.c G, .c (.int .i64 (yc))]]) := by
 refine def_intro (E := envY6 8) (fn := Tryz.f126) (c := bodyOf Tryz.f126) (envY6_ok 8) mixed rfl sK sK rfl sK sK sK sK rfl ?_
 conv => whnf
 repeat ((first | (refine aI ?_ ?_; focus exact sI) | refine dI sK ?_ | (refine yI ?_ ?_; focus exact sY) | (refine nI ?_ ?_; focus exact sY) | intro _); conv => whnf)
 rfl
theorem cCauN : DefSt Tryz.prog 126 [.ptr 1 0, .ptr 2 0] [bxT a b c l, bxT o1 o2 o3 ol, .box [.c (.int .i64 (0))], .dead, .frz F, .box [.c (.int .i64 (s))]] none (fun H' => H' = [bxT a b c l, bxT o1 o2 o3 ol, .box [.c (.int .i64 (0))], .dead, .frz F, .box [.c (.int .i64 (s))]]) := by
 refine def_intro (E := envY6 6) (fn := Tryz.f126) (c := bodyOf Tryz.f126) (envY6_ok 6) mixed rfl sK sK rfl sK sK sK sK rfl ?_
 conv => whnf
 repeat ((first | (refine aI ?_ ?_; focus exact sI) | refine dI sK ?_ | (refine yI ?_ ?_; focus exact sY) | (refine nI ?_ ?_; focus exact sY) | intro _); conv => whnf)
 rfl
end
theorem DefSt.mono6 {P : Program} {f : FuncId} {args : List AV} {H : HP} {rec : Option CV} {K K' : HP → Prop} (h : DefSt P f args H rec K) (hk : ∀ H', K H' → K' H') : DefSt P f args H rec K' := by
 unfold DefSt at *
 refine ⟨h.1, fun w S κ vs u hh hvs hu => (h.2 w S κ vs u hh hvs hu).mono ?_⟩
 rintro e u' w' ⟨v, H', κ', S', h1, h2, h3, h4⟩
 exact ⟨v, H', κ', S', h1, h2, hk _ h3, h4⟩
def envD6 (n : Nat) : Env := ⟨lkT tab6, keep, n, true, false, none, fun _ _ => none⟩
theorem envD6_ok (n : Nat) : EnvOk Tryz.prog (envD6 n) := EnvOk.of (l := tab6) rfl (by kernel_rfl)
theorem simF_of {t : Term} (hp : prop t = true) : simF t = match smpT t with | some s => (s, 0) | none => (zS, 22) := by
 unfold simF
 rw [hp]
 cases smpT t <;> rfl
theorem opPan6 {e : Int} {E0 : Ent} {T : HP} {R : Term × Int} (hop : R = (zT, e)) : finF Fin5.p (envD6 0) Tryz.f109 (fun r H' => r = .tup [tv R.1, .c (.int .i64 (R.2))] ∧ H' = []) AEx.ret [(4, .ptr 1 0), (5, .ptr 2 0)] ([E0, bxZ, .box [.c (.int .i64 (e))]] ++ T) := by
 rw [hop]
 conv => whnf
 repeat ((first | (refine aI ?_ ?_; focus exact sI) | refine dI sK ?_ | (refine yI ?_ ?_; focus exact sY) | (refine nI ?_ ?_; focus exact sY) | intro _); conv => whnf)
 all_goals rfl
set_option maxRecDepth 10000 in
set_option maxHeartbeats 4000000 in
theorem cSInstance (c : Term) (l : List Term) (hlb : l.length * 48 ≤ 140737488300000) : CallSt Tryz.prog 109 [tv c, .c (.sl 4 48 (tcs l))] [] (fun r H' => r = .tup [tv (instR c l).1, .c (.int .i64 ((instR c l).2))] ∧ H' = []) := by
 have hg := cGoodS (c :: l)
 have hll := len_tcs l
 by_cases hl6 : l.length ≤ 600
 ·have e6 : decide ((600 : Int) < ((tcs l).length : Int)) = false := decide_eq_false (by omega)
  have eg : (decide ((c :: l).length ≤ 601) && (c :: l).all prop) = (prop c && (decide (l.length ≤ 600) && l.all prop)) := by
   rw [List.all_cons, List.length_cons, decide_eq_true (show l.length + 1 ≤ 601 by omega), decide_eq_true hl6]
   simp
  rw [eg] at hg
  obtain ⟨R, hR⟩ : ∃ R, R = instR c l := ⟨_, rfl⟩
  rw [← hR]
  unfold instR at hR
  have hb1 : 1 + (tcs l).length ≤ 9223372036854775807 := by omega
  have hb2 : (1 + (tcs l).length) * 48 ≤ 140737488355328 := by omega
  cases hc : (prop c && (decide (l.length ≤ 600) && l.all prop)) with
  | false =>
   rw [hc] at hg hR
   simp only at hR
   subst hR
   obtain ⟨k, l', n, ts⟩ := c
   rw [tv_mk]
   refine call_dfr (E := envD6 0) (fn := Tryz.f109) (c := bodyOf Tryz.f109) (envD6_ok 0) mixed sK sK sK sK sK sK rfl rfl .p [4,5] ?_
   conv => whnf
   repeat ((first | (refine aI ?_ ?_; focus exact sI) | refine dI sK ?_ | (refine yI ?_ ?_; focus exact sY) | (refine nI ?_ ?_; focus exact sY) | intro _); conv => whnf)
   rw [e6]
   (refine ⟨fun _ => ?_, fun h => absurd h (by simp)⟩; conv => whnf)
   refine ⟨by decide, by decide, ?_⟩
   conv => whnf
   repeat ((first | (refine aI ?_ ?_; focus exact sI) | refine dI sK ?_ | (refine yI ?_ ?_; focus exact sY) | (refine nI ?_ ?_; focus exact sY) | intro _); conv => whnf)
   refine ⟨hb2, hb1, ?_⟩
   conv => whnf
   repeat ((first | (refine aI ?_ ?_; focus exact sI) | refine dI sK ?_ | (refine yI ?_ ?_; focus exact sY) | (refine nI ?_ ?_; focus exact sY) | intro _); conv => whnf)
   try (refine dI sK ?_; conv => whnf)
   first | refine u0 hg ?_ | refine v0 hg ?_
   rintro _ _ ⟨rfl, rfl⟩ _
   conv => whnf
   (refine ⟨fun _ => ?_, fun h => absurd h (by simp)⟩; conv => whnf)
   repeat ((first | (refine aI ?_ ?_; focus exact sI) | refine dI sK ?_ | (refine yI ?_ ?_; focus exact sY) | (refine nI ?_ ?_; focus exact sY) | intro _); conv => whnf)
   first | exact ⟨rfl, rfl⟩ | rfl
  | true =>
   rw [hc] at hg hR
   simp only at hR
   rw [Bool.and_eq_true, Bool.and_eq_true, List.all_eq_true] at hc
   obtain ⟨hcp, -, hlp⟩ := hc
   obtain ⟨A, hA⟩ : ∃ A, A = instL c l 0 := ⟨_, rfl⟩
   rw [← hA] at hR
   obtain ⟨k, l', n, ts⟩ := c
   rw [tv_mk]
   refine call_dfr (E := envD6 0) (fn := Tryz.f109) (c := bodyOf Tryz.f109) (envD6_ok 0) mixed sK sK sK sK sK sK rfl rfl .p [4,5] ?_
   conv => whnf
   repeat ((first | (refine aI ?_ ?_; focus exact sI) | refine dI sK ?_ | (refine yI ?_ ?_; focus exact sY) | (refine nI ?_ ?_; focus exact sY) | intro _); conv => whnf)
   rw [e6]
   (refine ⟨fun _ => ?_, fun h => absurd h (by simp)⟩; conv => whnf)
   refine ⟨by decide, by decide, ?_⟩
   conv => whnf
   repeat ((first | (refine aI ?_ ?_; focus exact sI) | refine dI sK ?_ | (refine yI ?_ ?_; focus exact sY) | (refine nI ?_ ?_; focus exact sY) | intro _); conv => whnf)
   refine ⟨hb2, hb1, ?_⟩
   conv => whnf
   repeat ((first | (refine aI ?_ ?_; focus exact sI) | refine dI sK ?_ | (refine yI ?_ ?_; focus exact sY) | (refine nI ?_ ?_; focus exact sY) | intro _); conv => whnf)
   try (refine dI sK ?_; conv => whnf)
   first | refine u0 hg ?_ | refine v0 hg ?_
   rintro _ _ ⟨rfl, rfl⟩ _
   conv => whnf
   (refine ⟨fun h => absurd h (by simp), fun _ => ?_⟩; conv => whnf)
   repeat ((first | (refine aI ?_ ?_; focus exact sI) | refine dI sK ?_ | (refine yI ?_ ?_; focus exact sY) | (refine nI ?_ ?_; focus exact sY) | intro _); conv => whnf)
   refine loop_intro (fun m tm H => ∃ (j : Nat) (u1 u2 u3 : Int) (us : List Term) (s : Int), l.length = m + j ∧ A = instL (.mk u1 u2 u3 us) (l.drop j) s ∧ prop (.mk u1 u2 u3 us) = true ∧ 0 ≤ s ∧ s ≤ 20000 ∧
     tm = [(27, .c (.int .i64 (j))), (26, .c (.int .i64 ((tcs l).length))), (25, .c (.sl 4 48 (tcs l))), (6, .ptr 5 0), (5, .ptr 2 0), (4, .ptr 1 0), (2, .ptr 0 0)] ∧ H = [bxT u1 u2 u3 (tcs us), bxZ, .box [.c (.int .i64 (0))], .dead, .frz (.sl 4 48 ([[.int .i64 k, .int .i64 l', .int .i64 n, .sl 4 48 (tcs ts)]] ++ tcs l)), .box [.c (.int .i64 (s))]])
    l.length _ _ ⟨0, k, l', n, ts, 0, by omega, by rw [hA]; rfl, hcp, Int.le_refl 0, by omega, rfl, rfl⟩ ?_ ?_
   ·exact Wk.sl [0, 1, 2, 3, 4, 5] rfl ⟨rfl, rfl, rfl, rfl, rfl, rfl, trivial⟩ ⟨rfl, rfl, rfl, rfl, rfl, rfl, rfl, trivial⟩ rfl
   obtain ⟨F, hF⟩ : ∃ F : CV, F = .sl 4 48 ([[.int .i64 k, .int .i64 l', .int .i64 n, .sl 4 48 (tcs ts)]] ++ tcs l) := ⟨_, rfl⟩
   rw [← hF]
   clear hF hg hA hcp
   rintro m tm H ⟨j, u1, u2, u3, us, s, hj, hA2, hpu, hs0, hs1, rfl, rfl⟩
   conv => whnf
   repeat ((first | (refine aI ?_ ?_; focus exact sI) | refine dI sK ?_ | (refine yI ?_ ?_; focus exact sY) | (refine nI ?_ ?_; focus exact sY) | intro _); conv => whnf)
   refine ⟨fun hlt => ?_, fun hlt => ?_⟩
   ·replace hlt : (j : Int) < (tcs l).length := of_decide_eq_true hlt
    obtain ⟨x, hx⟩ := get_some (show j < l.length by omega)
    have hxc := tcs_at l j x hx
    have hxp := hlp x (List.mem_of_getElem? hx)
    rw [drop_at hx, instL] at hA2
    by_cases hk : u1 = 2
    ·obtain ⟨a, b, he, hfa, hfb, hsz⟩ := prop_pi2 hpu hk
     injection he with _ e2 e3 e4
     subst hk e2 e3 e4
     have hpa : prop a = true := prop_of hfa (by decide) hsz
     have hsm := c26' a
     rw [simF_of hpa] at hsm
     obtain ⟨Z, hZ⟩ : ∃ Z, Z = stepR s (.mk 2 0 0 [a, b]) x := ⟨_, rfl⟩
     rw [← hZ] at hA2
     have hZ1 := fun v s1 (h : Z = .ok v s1) => stepR_ok (hZ ▸ h)
     unfold stepR at hZ
     rw [show (Term.mk 2 0 0 [a, b]).k = 2 from rfl, show (Term.mk 2 0 0 [a, b]).ts = [a, b] from rfl] at hZ
     simp only [decide_true] at hZ
     obtain ⟨x1, x2, x3, x4⟩ := x
     obtain ⟨a1, a2, a3, a4⟩ := a
     rw [tv_mk] at hsm
     cases hs : smpT (.mk a1 a2 a3 a4) with
     | none =>
      rw [hs] at hsm hZ
      simp only at hsm hZ
      have hf := cFail 22
      have hRe : R = (zT, 22) := by rw [hR, hA2, hZ]
      conv => whnf
      repeat ((first | (refine aI ?_ ?_; focus exact sI) | refine dI sK ?_ | (refine yI ?_ ?_; focus exact sY) | (refine nI ?_ ?_; focus exact sY) | intro _); conv => whnf)
      refine ⟨_, ⟨by omega, by simpa using hxc⟩, ?_⟩
      conv => whnf
      refine ⟨Nat.le_refl 4, ?_⟩
      conv => whnf
      repeat ((first | (refine aI ?_ ?_; focus exact sI) | refine dI sK ?_ | (refine yI ?_ ?_; focus exact sY) | (refine nI ?_ ?_; focus exact sY) | intro _); conv => whnf)
      refine ⟨_, ⟨by decide, rfl⟩, ?_⟩
      conv => whnf
      repeat ((first | (refine aI ?_ ?_; focus exact sI) | refine dI sK ?_ | (refine yI ?_ ?_; focus exact sY) | (refine nI ?_ ?_; focus exact sY) | intro _); conv => whnf)
      try (refine dI sK ?_; conv => whnf)
      first | refine u0 hsm ?_ | refine v0 hsm ?_
      rintro _ _ ⟨rfl, rfl⟩ _
      conv => whnf
      repeat ((first | (refine aI ?_ ?_; focus exact sI) | refine dI sK ?_ | (refine yI ?_ ?_; focus exact sY) | (refine nI ?_ ?_; focus exact sY) | intro _); conv => whnf)
      try (refine dI sK ?_; conv => whnf)
      refine CallPt.use hf [] trivial (by decide) rfl ?_ ?_
      (focus (rintro x _ hx _; (conv => whnf); (obtain ⟨rfl, rfl⟩ := hx; exact DefSt.mono6 (cCau8 _ _ _ _ _ _ _ _ _ _ _ _ _) (fun H' h => by cases h; exact opPan6 hRe))))
      rintro _ _ hno _
      conv => whnf
      exact hno.elim
     | some sm =>
      rw [hs] at hsm hZ
      simp only at hsm hZ
      obtain ⟨hok, hsn⟩ := smp_small _ _ 2 sm (Nat.le_refl _) hfa hs
      have hsl := cSmallT sm hok (by omega)
      have hsu := cSSubst 20001 s b 2 0 (.mk x1 x2 x3 x4) sm hs0 hs1 (by omega) hfb (by decide) (by decide) (by omega) hxp
      have hRe : ∀ e, Z = .er e → R = (zT, e) := fun e h => by rw [hR, hA2, h]
      rw [← hZ] at hsu
      clear hZ
      obtain ⟨b1, b2, b3, b4⟩ := b
      obtain ⟨ys, yc⟩ := sm
      rw [tv_mk, tv_mk, sv_mk] at hsu
      rw [sv_mk] at hsm hsl
      conv => whnf
      repeat ((first | (refine aI ?_ ?_; focus exact sI) | refine dI sK ?_ | (refine yI ?_ ?_; focus exact sY) | (refine nI ?_ ?_; focus exact sY) | intro _); conv => whnf)
      refine ⟨_, ⟨by omega, by simpa using hxc⟩, ?_⟩
      conv => whnf
      refine ⟨Nat.le_refl 4, ?_⟩
      conv => whnf
      repeat ((first | (refine aI ?_ ?_; focus exact sI) | refine dI sK ?_ | (refine yI ?_ ?_; focus exact sY) | (refine nI ?_ ?_; focus exact sY) | intro _); conv => whnf)
      refine ⟨_, ⟨by decide, rfl⟩, ?_⟩
      conv => whnf
      repeat ((first | (refine aI ?_ ?_; focus exact sI) | refine dI sK ?_ | (refine yI ?_ ?_; focus exact sY) | (refine nI ?_ ?_; focus exact sY) | intro _); conv => whnf)
      try (refine dI sK ?_; conv => whnf)
      first | refine u0 hsm ?_ | refine v0 hsm ?_
      rintro _ _ ⟨rfl, rfl⟩ _
      conv => whnf
      repeat ((first | (refine aI ?_ ?_; focus exact sI) | refine dI sK ?_ | (refine yI ?_ ?_; focus exact sY) | (refine nI ?_ ?_; focus exact sY) | intro _); conv => whnf)
      try (refine dI sK ?_; conv => whnf)
      first | refine u0 hsl ?_ | refine v0 hsl ?_
      rintro _ _ ⟨rfl, rfl⟩ _
      conv => whnf
      repeat ((first | (refine aI ?_ ?_; focus exact sI) | refine dI sK ?_ | (refine yI ?_ ?_; focus exact sY) | (refine nI ?_ ?_; focus exact sY) | intro _); conv => whnf)
      refine ⟨_, ⟨by decide, rfl⟩, ?_⟩
      conv => whnf
      repeat ((first | (refine aI ?_ ?_; focus exact sI) | refine dI sK ?_ | (refine yI ?_ ?_; focus exact sY) | (refine nI ?_ ?_; focus exact sY) | intro _); conv => whnf)
      try (refine dI sK ?_; conv => whnf)
      refine CallPt.use hsu [5] ⟨rfl, trivial⟩ (by decide) rfl ?_ ?_
      (focus (rintro x _ hx _; (conv => whnf); (obtain ⟨⟨e, he, rfl⟩, hH⟩ := hx; try subst hH; exact DefSt.mono6 (cCauD _ _ _ _ _ _ _ _) (fun H' h => by cases h; exact opPan6 (hRe e he)))))
      rintro _ _ ⟨⟨v1, v2, v3, v4⟩, s1, hv, rfl, rfl⟩ _
      conv => whnf
      repeat ((first | (refine aI ?_ ?_; focus exact sI) | refine dI sK ?_ | (refine yI ?_ ?_; focus exact sY) | (refine nI ?_ ?_; focus exact sY) | intro _); conv => whnf)
      rw [hv] at hA2
      obtain ⟨hv1, hv2, hv3⟩ := hZ1 _ _ hv
      exact ⟨m - 1, _, _, by omega, ⟨j + 1, v1, v2, v3, v4, s1, by omega, hA2, hv1, by omega, hv3, rfl, rfl⟩, Wk.sl [0, 1, 2, 3, 4, 5] rfl ⟨rfl, rfl, rfl, rfl, rfl, rfl, trivial⟩ ⟨rfl, rfl, rfl, rfl, rfl, rfl, rfl, trivial⟩ rfl⟩
    ·have hk2 : decide (u1 = 2) = false := decide_eq_false hk
     have hf := cFail 23
     have hRe : R = (zT, 23) := by
      rw [hR, hA2]
      unfold stepR
      rw [show (Term.mk u1 u2 u3 us).k = u1 from rfl, hk2]
     obtain ⟨x1, x2, x3, x4⟩ := x
     conv => whnf
     repeat ((first | (refine aI ?_ ?_; focus exact sI) | refine dI sK ?_ | (refine yI ?_ ?_; focus exact sY) | (refine nI ?_ ?_; focus exact sY) | intro _); conv => whnf)
     refine ⟨_, ⟨by omega, by simpa using hxc⟩, ?_⟩
     conv => whnf
     refine ⟨Nat.le_refl 4, ?_⟩
     conv => whnf
     repeat ((first | (refine aI ?_ ?_; focus exact sI) | refine dI sK ?_ | (refine yI ?_ ?_; focus exact sY) | (refine nI ?_ ?_; focus exact sY) | intro _); conv => whnf)
     rw [hk2]
     (refine ⟨fun _ => ?_, fun h => absurd h (by simp)⟩; conv => whnf)
     try (refine dI sK ?_; conv => whnf)
     refine CallPt.use hf [] trivial (by decide) rfl ?_ ?_
     (focus (rintro x _ hx _; (conv => whnf); (obtain ⟨rfl, rfl⟩ := hx; exact DefSt.mono6 (cCau7 _ _ _ _ _ _ _ _ _ _ _) (fun H' h => by cases h; exact opPan6 (T := [.dead, .frz F, .box [.c (.int .i64 (s))], bxT x1 x2 x3 (tcs x4)]) hRe))))
     rintro _ _ hno _
     conv => whnf
     exact hno.elim
   ·replace hlt : ¬ (j : Int) < (tcs l).length := of_decide_eq_false hlt
    rw [List.drop_eq_nil_of_le (by omega), instL] at hA2
    have hRe : R = (.mk u1 u2 u3 us, 0) := by rw [hR, hA2]
    have hcp := c64 (.mk u1 u2 u3 us) (prop_ok hpu)
    rw [tv_mk] at hcp
    rw [hRe]
    conv => whnf
    repeat ((first | (refine aI ?_ ?_; focus exact sI) | refine dI sK ?_ | (refine yI ?_ ?_; focus exact sY) | (refine nI ?_ ?_; focus exact sY) | intro _); conv => whnf)
    try (refine dI sK ?_; conv => whnf)
    first | refine u0 hcp ?_ | refine v0 hcp ?_
    rintro _ _ ⟨rfl, rfl⟩ _
    conv => whnf
    repeat ((first | (refine aI ?_ ?_; focus exact sI) | refine dI sK ?_ | (refine yI ?_ ?_; focus exact sY) | (refine nI ?_ ?_; focus exact sY) | intro _); conv => whnf)
    refine DefSt.mono6 (cCauN _ _ _ _ _ _ _ _ _ _) (fun H' h => ?_)
    cases h
    conv => whnf
    repeat ((first | (refine aI ?_ ?_; focus exact sI) | refine dI sK ?_ | (refine yI ?_ ?_; focus exact sY) | (refine nI ?_ ?_; focus exact sY) | intro _); conv => whnf)
    first | exact ⟨rfl, rfl⟩ | rfl
 ·have e6 : decide ((600 : Int) < ((tcs l).length : Int)) = true := decide_eq_true (by omega)
  have hi : instR c l = (zT, 2) := by
   unfold instR
   rw [decide_eq_false hl6]
   simp
  rw [hi]
  obtain ⟨k, l', n, ts⟩ := c
  rw [tv_mk]
  refine call_dfr (E := envD6 0) (fn := Tryz.f109) (c := bodyOf Tryz.f109) (envD6_ok 0) mixed sK sK sK sK sK sK rfl rfl .p [4,5] ?_
  conv => whnf
  repeat ((first | (refine aI ?_ ?_; focus exact sI) | refine dI sK ?_ | (refine yI ?_ ?_; focus exact sY) | (refine nI ?_ ?_; focus exact sY) | intro _); conv => whnf)
  rw [e6]
  (refine ⟨fun h => absurd h (by simp), fun _ => ?_⟩; conv => whnf)
  repeat ((first | (refine aI ?_ ?_; focus exact sI) | refine dI sK ?_ | (refine yI ?_ ?_; focus exact sY) | (refine nI ?_ ?_; focus exact sY) | intro _); conv => whnf)
  first | exact ⟨rfl, rfl⟩ | rfl
end Go.Tr
/- The program's kernel: fit. -/
namespace Go.Tr
open Go.Proofs
def SObjOk (P : Program) (f : FuncId) (K : Krn) (m : Term) : Prop := ∀ (cx : List Term) (a : Term), COk cx → prop a = true → CallSt P f [kvC K.sig K.ms, .c (.sl 4 48 (tcs cx)), tv m, tv a] [] (fun r H' => r = .c (.int .i64 (objF K m cx a)) ∧ H' = [])
set_option maxHeartbeats 1000000 in
theorem cSFit (K : Krn) (l : List Term) (hl : ∀ m ∈ l, prop m = true ∧ SObjOk Tryz.prog 47 K m) (cx : List Term) (hc : COk cx) (c : Term) (hp : prop c = true) :
  CallSt Tryz.prog 82 [kvC K.sig K.ms, .c (.sl 4 48 (tcs cx)), .c (.sl 4 48 (tcs l)), tv c] [] (fun r H' => r = .tup [tv (fitF K l cx c).1, .c (.int .i64 ((fitF K l cx c).2))] ∧ H' = []) := by
 have hll := len_tcs l
 have hcl := len_tcs cx
 obtain ⟨A, hA⟩ : ∃ A, A = fitF K l cx c := ⟨_, rfl⟩
 rw [← hA]
 obtain ⟨k, l', n, ts⟩ := c
 rw [tv_mk]
 refine call_pure (E := envC6 0) (fn := Tryz.f82) (c := bodyOf Tryz.f82) (envC6_ok 0) mixed sK sK sK sK sK sK rfl ?_
 conv => whnf
 repeat ((first | (refine aI ?_ ?_; focus exact sI) | refine dI sK ?_ | (refine yI ?_ ?_; focus exact sY) | (refine nI ?_ ?_; focus exact sY) | intro _); conv => whnf)
 refine loop_intro (fun m tm H => ∃ (j : Nat) (u1 u2 u3 : Int) (us : List Term), l.length = m + j ∧ A = fitF K (l.drop j) cx (.mk u1 u2 u3 us) ∧ prop (.mk u1 u2 u3 us) = true ∧
   tm = [(17, .c (.int .i64 (j))), (16, .c (.int .i64 ((tcs l).length))), (15, .c (.sl 4 48 (tcs l))), (8, .ptr 2 0), (7, .ptr 1 0), (4, .ptr 0 0), (1, .c (.sl 4 48 (tcs cx)))] ∧ H = [.box [.c (sgC K.sig K.ms), .c (.sl 6 72 (dcs K.sig))], .box [.c (.int .i64 (u1)), .c (.int .i64 (u2)), .c (.int .i64 (u3)), .c (.sl 4 48 (tcs us))], .box [.c (.int .i64 (0)), .c (.int .i64 (0)), .c (.int .i64 (0)), .nil]])
  l.length _ _ ⟨0, k, l', n, ts, by omega, hA, hp, rfl, rfl⟩ (Wk.sl [0, 1, 2] rfl ⟨rfl, rfl, rfl, trivial⟩ ⟨rfl, rfl, rfl, rfl, rfl, rfl, rfl, trivial⟩ rfl) ?_
 rintro m tm H ⟨j, u1, u2, u3, us, hj, hR, hpu, rfl, rfl⟩
 conv => whnf
 repeat ((first | (refine aI ?_ ?_; focus exact sI) | refine dI sK ?_ | (refine yI ?_ ?_; focus exact sY) | (refine nI ?_ ?_; focus exact sY) | intro _); conv => whnf)
 refine ⟨fun hlt => ?_, fun hlt => ?_⟩
 ·replace hlt : (j : Int) < (tcs l).length := of_decide_eq_true hlt
  obtain ⟨x, hx⟩ := get_some (show j < l.length by omega)
  have hxc := tcs_at l j x hx
  obtain ⟨hxp, hxo⟩ := hl x (List.mem_of_getElem? hx)
  rw [drop_at hx] at hR
  by_cases hk : u1 = 2
  ·obtain ⟨A1, B1, rfl, rfl, rfl, hA1, hB1⟩ := prop_pi7 hpu hk
   subst hk
   have ho := hxo cx A1 hc hA1
   rw [fitF_cons] at hR
   by_cases he : objF K x cx A1 ≠ 0
   ·rw [if_pos he] at hR
    have ez : decide (objF K x cx A1 = 0) = false := decide_eq_false he
    generalize objF K x cx A1 = e at *
    subst hR
    obtain ⟨x1, x2, x3, x4⟩ := x
    obtain ⟨a1, a2, a3, a4⟩ := A1
    rw [tv_mk, tv_mk] at ho
    conv => whnf
    repeat ((first | (refine aI ?_ ?_; focus exact sI) | refine dI sK ?_ | (refine yI ?_ ?_; focus exact sY) | (refine nI ?_ ?_; focus exact sY) | intro _); conv => whnf)
    refine ⟨_, ⟨by omega, by simpa using hxc⟩, ?_⟩
    conv => whnf
    refine ⟨Nat.le_refl 4, ?_⟩
    conv => whnf
    repeat ((first | (refine aI ?_ ?_; focus exact sI) | refine dI sK ?_ | (refine yI ?_ ?_; focus exact sY) | (refine nI ?_ ?_; focus exact sY) | intro _); conv => whnf)
    refine ⟨_, ⟨by decide, rfl⟩, ?_⟩
    conv => whnf
    refine ⟨Nat.le_refl 4, ?_⟩
    conv => whnf
    try (refine dI sK ?_; conv => whnf)
    first | refine u0 ho ?_ | refine v0 ho ?_
    rintro _ _ ⟨rfl, rfl⟩ _
    conv => whnf
    repeat ((first | (refine aI ?_ ?_; focus exact sI) | refine dI sK ?_ | (refine yI ?_ ?_; focus exact sY) | (refine nI ?_ ?_; focus exact sY) | intro _); conv => whnf)
    rw [ez]
    (refine yI ?_ ?_; (focus exact sY); conv => whnf)
    repeat ((first | (refine aI ?_ ?_; focus exact sI) | refine dI sK ?_ | (refine yI ?_ ?_; focus exact sY) | (refine nI ?_ ?_; focus exact sY) | intro _); conv => whnf)
    all_goals exact sR
   ·have e0 : objF K x cx A1 = 0 := by omega
    rw [if_neg he] at hR
    have hin := cSInstance (.mk 2 0 0 [A1, B1]) [x] (by simp)
    rw [e0] at ho
    have hpn := @instR_prop (.mk 2 0 0 [A1, B1]) [x]
    by_cases he2 : (instR (.mk 2 0 0 [A1, B1]) [x]).2 ≠ 0
    ·rw [if_pos he2] at hR
     have ez2 : decide ((instR (.mk 2 0 0 [A1, B1]) [x]).2 = 0) = false := decide_eq_false he2
     obtain ⟨v, hv⟩ : ∃ v, v = instR (.mk 2 0 0 [A1, B1]) [x] := ⟨_, rfl⟩
     rw [← hv] at hR hin ez2
     clear hv
     obtain ⟨⟨v1, v2, v3, v4⟩, e2⟩ := v
     subst hR
     obtain ⟨x1, x2, x3, x4⟩ := x
     obtain ⟨a1, a2, a3, a4⟩ := A1
     simp only at hin ez2
     rw [tv_mk, tv_mk] at ho
     rw [tv_mk, tv_mk] at hin
     conv => whnf
     repeat ((first | (refine aI ?_ ?_; focus exact sI) | refine dI sK ?_ | (refine yI ?_ ?_; focus exact sY) | (refine nI ?_ ?_; focus exact sY) | intro _); conv => whnf)
     refine ⟨_, ⟨by omega, by simpa using hxc⟩, ?_⟩
     conv => whnf
     refine ⟨Nat.le_refl 4, ?_⟩
     conv => whnf
     repeat ((first | (refine aI ?_ ?_; focus exact sI) | refine dI sK ?_ | (refine yI ?_ ?_; focus exact sY) | (refine nI ?_ ?_; focus exact sY) | intro _); conv => whnf)
     refine ⟨_, ⟨by decide, rfl⟩, ?_⟩
     conv => whnf
     refine ⟨Nat.le_refl 4, ?_⟩
     conv => whnf
     try (refine dI sK ?_; conv => whnf)
     first | refine u0 ho ?_ | refine v0 ho ?_
     rintro _ _ ⟨rfl, rfl⟩ _
     conv => whnf
     repeat ((first | (refine aI ?_ ?_; focus exact sI) | refine dI sK ?_ | (refine yI ?_ ?_; focus exact sY) | (refine nI ?_ ?_; focus exact sY) | intro _); conv => whnf)
     try (refine dI sK ?_; conv => whnf)
     first | refine u0 hin ?_ | refine v0 hin ?_
     rintro _ _ ⟨rfl, rfl⟩ _
     conv => whnf
     repeat ((first | (refine aI ?_ ?_; focus exact sI) | refine dI sK ?_ | (refine yI ?_ ?_; focus exact sY) | (refine nI ?_ ?_; focus exact sY) | intro _); conv => whnf)
     rw [ez2]
     (refine yI ?_ ?_; (focus exact sY); conv => whnf)
     repeat ((first | (refine aI ?_ ?_; focus exact sI) | refine dI sK ?_ | (refine yI ?_ ?_; focus exact sY) | (refine nI ?_ ?_; focus exact sY) | intro _); conv => whnf)
     all_goals exact sR
    ·rw [if_neg he2] at hR
     have e20 : (instR (.mk 2 0 0 [A1, B1]) [x]).2 = 0 := by omega
     have hpv := hpn e20
     obtain ⟨v, hv⟩ : ∃ v, v = instR (.mk 2 0 0 [A1, B1]) [x] := ⟨_, rfl⟩
     rw [← hv] at hR hin hpv e20
     clear hv hpn
     obtain ⟨⟨v1, v2, v3, v4⟩, e2⟩ := v
     simp only at hin hpv hR e20
     subst e20
     obtain ⟨x1, x2, x3, x4⟩ := x
     obtain ⟨a1, a2, a3, a4⟩ := A1
     rw [tv_mk, tv_mk] at ho
     rw [tv_mk, tv_mk] at hin
     conv => whnf
     repeat ((first | (refine aI ?_ ?_; focus exact sI) | refine dI sK ?_ | (refine yI ?_ ?_; focus exact sY) | (refine nI ?_ ?_; focus exact sY) | intro _); conv => whnf)
     refine ⟨_, ⟨by omega, by simpa using hxc⟩, ?_⟩
     conv => whnf
     refine ⟨Nat.le_refl 4, ?_⟩
     conv => whnf
     repeat ((first | (refine aI ?_ ?_; focus exact sI) | refine dI sK ?_ | (refine yI ?_ ?_; focus exact sY) | (refine nI ?_ ?_; focus exact sY) | intro _); conv => whnf)
     refine ⟨_, ⟨by decide, rfl⟩, ?_⟩
     conv => whnf
     refine ⟨Nat.le_refl 4, ?_⟩
     conv => whnf
     try (refine dI sK ?_; conv => whnf)
     first | refine u0 ho ?_ | refine v0 ho ?_
     rintro _ _ ⟨rfl, rfl⟩ _
     conv => whnf
     repeat ((first | (refine aI ?_ ?_; focus exact sI) | refine dI sK ?_ | (refine yI ?_ ?_; focus exact sY) | (refine nI ?_ ?_; focus exact sY) | intro _); conv => whnf)
     try (refine dI sK ?_; conv => whnf)
     first | refine u0 hin ?_ | refine v0 hin ?_
     rintro _ _ ⟨rfl, rfl⟩ _
     conv => whnf
     repeat ((first | (refine aI ?_ ?_; focus exact sI) | refine dI sK ?_ | (refine yI ?_ ?_; focus exact sY) | (refine nI ?_ ?_; focus exact sY) | intro _); conv => whnf)
     have hlen : (tcs l).length * 48 ≤ 140737488355328 := ‹gd [] true ((tcs l).length * 48 ≤ 140737488355328)›
     refine ⟨show inR _ by unfold inR; omega, ?_⟩
     conv => whnf
     repeat ((first | (refine aI ?_ ?_; focus exact sI) | refine dI sK ?_ | (refine yI ?_ ?_; focus exact sY) | (refine nI ?_ ?_; focus exact sY) | intro _); conv => whnf)
     exact ⟨m - 1, _, _, by omega, ⟨j + 1, v1, v2, v3, v4, by omega, hR, hpv, rfl, rfl⟩, Wk.sl [0, 1, 2] rfl ⟨rfl, rfl, rfl, trivial⟩ ⟨rfl, rfl, rfl, rfl, rfl, rfl, rfl, trivial⟩ rfl⟩
  ·rw [fitF_no K x _ cx (c := .mk u1 u2 u3 us) hk] at hR
   have ek : decide (u1 = 2) = false := decide_eq_false hk
   subst hR
   obtain ⟨x1, x2, x3, x4⟩ := x
   conv => whnf
   repeat ((first | (refine aI ?_ ?_; focus exact sI) | refine dI sK ?_ | (refine yI ?_ ?_; focus exact sY) | (refine nI ?_ ?_; focus exact sY) | intro _); conv => whnf)
   refine ⟨_, ⟨by omega, by simpa using hxc⟩, ?_⟩
   conv => whnf
   refine ⟨Nat.le_refl 4, ?_⟩
   conv => whnf
   repeat ((first | (refine aI ?_ ?_; focus exact sI) | refine dI sK ?_ | (refine yI ?_ ?_; focus exact sY) | (refine nI ?_ ?_; focus exact sY) | intro _); conv => whnf)
   rw [ek]
   (refine yI ?_ ?_; (focus exact sY); conv => whnf)
   repeat ((first | (refine aI ?_ ?_; focus exact sI) | refine dI sK ?_ | (refine yI ?_ ?_; focus exact sY) | (refine nI ?_ ?_; focus exact sY) | intro _); conv => whnf)
   all_goals exact sR
 ·replace hlt : ¬ (j : Int) < (tcs l).length := of_decide_eq_false hlt
  rw [List.drop_eq_nil_of_le (by omega), fitF] at hR
  subst hR
  conv => whnf
  repeat ((first | (refine aI ?_ ?_; focus exact sI) | refine dI sK ?_ | (refine yI ?_ ?_; focus exact sY) | (refine nI ?_ ?_; focus exact sY) | intro _); conv => whnf)
  all_goals exact sR
end Go.Tr
/- The program's kernel: find. -/
namespace Go.Tr
open Go.Proofs
theorem cMth : mthOk Tryz.prog 117 "truss/check.class" 198 := fun v w => by kernel_rfl
set_option maxHeartbeats 1000000 in
theorem cSFind (K : Krn) (hK : KOk K) (l n : Int) (ts : List Term) (hm : prop (.mk 4 l n ts) = true) (hl : ∀ u ∈ ts, SObjOk Tryz.prog 47 K u) (cx : List Term) (hc : COk cx) :
  CallSt Tryz.prog 63 [kvC K.sig K.ms, .c (.sl 4 48 (tcs cx)), tv (.mk 4 l n ts)] [] (fun r H' => r = .tup [tv (infF K cx (.mk 4 l n ts)).1, .c (.int .i64 ((infF K cx (.mk 4 l n ts)).2))] ∧ H' = []) := by
 obtain ⟨h1, h2, h3, h4, h5⟩ := prop_app hm
 obtain ⟨q, rfl⟩ : ∃ q : Nat, n = q := ⟨n.toNat, by omega⟩
 have hcl := cSClass K hK cx hc.2 l q ⟨h1, h2⟩ (by omega)
 rw [infF_app]
 have hpc := @clsF_prop K hK cx hc l q h3 h4
 obtain ⟨C, hC0⟩ : ∃ C, C = clsF K cx l q := ⟨_, rfl⟩
 rw [← hC0] at hcl hpc ⊢
 clear hC0
 obtain ⟨c, e⟩ := C
 simp only at hcl hpc
 rw [tv_mk]
 by_cases he : e = 0
 ·subst he
  have hft := cSFit K ts (fun u hu => ⟨h5 u hu, hl u hu⟩) cx hc c (hpc rfl)
  rw [appF_ok]
  obtain ⟨V, hV⟩ : ∃ V, V = fitF K ts cx c := ⟨_, rfl⟩
  rw [← hV] at hft ⊢
  clear hV
  obtain ⟨⟨v1, v2, v3, v4⟩, e2⟩ := V
  obtain ⟨c1, c2, c3, c4⟩ := c
  rw [tv_mk] at hcl
  simp only at hft
  rw [tv_mk, tv_mk] at hft
  by_cases he2 : e2 = 0
  ·subst he2
   by_cases hv : v1 = 2
   ·subst hv
    rw [show restF (.mk 2 v2 v3 v4, 0) = (zT, 23) from rfl]
    refine call_pure (E := envC6 0) (fn := Tryz.f63) (c := bodyOf Tryz.f63) (envC6_ok 0) mixed sK sK sK sK sK sK rfl ?_
    refine aw_cut _ _ rfl fun C hC => ?_
    conv => whnf
    repeat ((first | (refine aI ?_ ?_; focus exact sI) | refine dI sK ?_ | (refine yI ?_ ?_; focus exact sY) | (refine nI ?_ ?_; focus exact sY) | intro _); conv => whnf)
    subst hC
    refine aw_cut _ _ rfl fun C hC => ?_
    conv => whnf
    repeat ((first | (refine aI ?_ ?_; focus exact sI) | refine dI sK ?_ | (refine yI ?_ ?_; focus exact sY) | (refine nI ?_ ?_; focus exact sY) | intro _); conv => whnf)
    refine ⟨cMth, ?_⟩
    conv => whnf
    try (refine dI sK ?_; conv => whnf)
    first | refine u0 hcl ?_ | refine v0 hcl ?_
    rintro _ _ ⟨rfl, rfl⟩ _
    conv => whnf
    repeat ((first | (refine aI ?_ ?_; focus exact sI) | refine dI sK ?_ | (refine yI ?_ ?_; focus exact sY) | (refine nI ?_ ?_; focus exact sY) | intro _); conv => whnf)
    subst hC
    refine aw_cut _ _ rfl fun C hC => ?_
    conv => whnf
    repeat ((first | (refine aI ?_ ?_; focus exact sI) | refine dI sK ?_ | (refine yI ?_ ?_; focus exact sY) | (refine nI ?_ ?_; focus exact sY) | intro _); conv => whnf)
    subst hC
    refine aw_cut _ _ rfl fun C hC => ?_
    conv => whnf
    repeat ((first | (refine aI ?_ ?_; focus exact sI) | refine dI sK ?_ | (refine yI ?_ ?_; focus exact sY) | (refine nI ?_ ?_; focus exact sY) | intro _); conv => whnf)
    try (refine dI sK ?_; conv => whnf)
    first | refine u0 hft ?_ | refine v0 hft ?_
    rintro _ _ ⟨rfl, rfl⟩ _
    conv => whnf
    repeat ((first | (refine aI ?_ ?_; focus exact sI) | refine dI sK ?_ | (refine yI ?_ ?_; focus exact sY) | (refine nI ?_ ?_; focus exact sY) | intro _); conv => whnf)
    subst hC
    refine aw_cut _ _ rfl fun C hC => ?_
    conv => whnf
    repeat ((first | (refine aI ?_ ?_; focus exact sI) | refine dI sK ?_ | (refine yI ?_ ?_; focus exact sY) | (refine nI ?_ ?_; focus exact sY) | intro _); conv => whnf)
    subst hC
    conv => whnf
    repeat ((first | (refine aI ?_ ?_; focus exact sI) | refine dI sK ?_ | (refine yI ?_ ?_; focus exact sY) | (refine nI ?_ ?_; focus exact sY) | intro _); conv => whnf)
    all_goals exact sR
   ·have ev : decide (v1 = 2) = false := decide_eq_false hv
    rw [restF_ok (p := .mk v1 v2 v3 v4) hv]
    refine call_pure (E := envC6 0) (fn := Tryz.f63) (c := bodyOf Tryz.f63) (envC6_ok 0) mixed sK sK sK sK sK sK rfl ?_
    refine aw_cut _ _ rfl fun C hC => ?_
    conv => whnf
    repeat ((first | (refine aI ?_ ?_; focus exact sI) | refine dI sK ?_ | (refine yI ?_ ?_; focus exact sY) | (refine nI ?_ ?_; focus exact sY) | intro _); conv => whnf)
    subst hC
    refine aw_cut _ _ rfl fun C hC => ?_
    conv => whnf
    repeat ((first | (refine aI ?_ ?_; focus exact sI) | refine dI sK ?_ | (refine yI ?_ ?_; focus exact sY) | (refine nI ?_ ?_; focus exact sY) | intro _); conv => whnf)
    refine ⟨cMth, ?_⟩
    conv => whnf
    try (refine dI sK ?_; conv => whnf)
    first | refine u0 hcl ?_ | refine v0 hcl ?_
    rintro _ _ ⟨rfl, rfl⟩ _
    conv => whnf
    repeat ((first | (refine aI ?_ ?_; focus exact sI) | refine dI sK ?_ | (refine yI ?_ ?_; focus exact sY) | (refine nI ?_ ?_; focus exact sY) | intro _); conv => whnf)
    subst hC
    refine aw_cut _ _ rfl fun C hC => ?_
    conv => whnf
    repeat ((first | (refine aI ?_ ?_; focus exact sI) | refine dI sK ?_ | (refine yI ?_ ?_; focus exact sY) | (refine nI ?_ ?_; focus exact sY) | intro _); conv => whnf)
    subst hC
    refine aw_cut _ _ rfl fun C hC => ?_
    conv => whnf
    repeat ((first | (refine aI ?_ ?_; focus exact sI) | refine dI sK ?_ | (refine yI ?_ ?_; focus exact sY) | (refine nI ?_ ?_; focus exact sY) | intro _); conv => whnf)
    try (refine dI sK ?_; conv => whnf)
    first | refine u0 hft ?_ | refine v0 hft ?_
    rintro _ _ ⟨rfl, rfl⟩ _
    conv => whnf
    repeat ((first | (refine aI ?_ ?_; focus exact sI) | refine dI sK ?_ | (refine yI ?_ ?_; focus exact sY) | (refine nI ?_ ?_; focus exact sY) | intro _); conv => whnf)
    subst hC
    refine aw_cut _ _ rfl fun C hC => ?_
    conv => whnf
    repeat ((first | (refine aI ?_ ?_; focus exact sI) | refine dI sK ?_ | (refine yI ?_ ?_; focus exact sY) | (refine nI ?_ ?_; focus exact sY) | intro _); conv => whnf)
    rw [ev]
    (refine nI ?_ ?_; (focus exact sY); conv => whnf)
    repeat ((first | (refine aI ?_ ?_; focus exact sI) | refine dI sK ?_ | (refine yI ?_ ?_; focus exact sY) | (refine nI ?_ ?_; focus exact sY) | intro _); conv => whnf)
    subst hC
    conv => whnf
    repeat ((first | (refine aI ?_ ?_; focus exact sI) | refine dI sK ?_ | (refine yI ?_ ?_; focus exact sY) | (refine nI ?_ ?_; focus exact sY) | intro _); conv => whnf)
    all_goals exact sR
  ·have ev : decide (e2 = 0) = false := decide_eq_false he2
   rw [show restF (.mk v1 v2 v3 v4, e2) = (zT, e2) from if_pos he2]
   refine call_pure (E := envC6 0) (fn := Tryz.f63) (c := bodyOf Tryz.f63) (envC6_ok 0) mixed sK sK sK sK sK sK rfl ?_
   refine aw_cut _ _ rfl fun C hC => ?_
   conv => whnf
   repeat ((first | (refine aI ?_ ?_; focus exact sI) | refine dI sK ?_ | (refine yI ?_ ?_; focus exact sY) | (refine nI ?_ ?_; focus exact sY) | intro _); conv => whnf)
   subst hC
   refine aw_cut _ _ rfl fun C hC => ?_
   conv => whnf
   repeat ((first | (refine aI ?_ ?_; focus exact sI) | refine dI sK ?_ | (refine yI ?_ ?_; focus exact sY) | (refine nI ?_ ?_; focus exact sY) | intro _); conv => whnf)
   refine ⟨cMth, ?_⟩
   conv => whnf
   try (refine dI sK ?_; conv => whnf)
   first | refine u0 hcl ?_ | refine v0 hcl ?_
   rintro _ _ ⟨rfl, rfl⟩ _
   conv => whnf
   repeat ((first | (refine aI ?_ ?_; focus exact sI) | refine dI sK ?_ | (refine yI ?_ ?_; focus exact sY) | (refine nI ?_ ?_; focus exact sY) | intro _); conv => whnf)
   subst hC
   refine aw_cut _ _ rfl fun C hC => ?_
   conv => whnf
   repeat ((first | (refine aI ?_ ?_; focus exact sI) | refine dI sK ?_ | (refine yI ?_ ?_; focus exact sY) | (refine nI ?_ ?_; focus exact sY) | intro _); conv => whnf)
   subst hC
   refine aw_cut _ _ rfl fun C hC => ?_
   conv => whnf
   repeat ((first | (refine aI ?_ ?_; focus exact sI) | refine dI sK ?_ | (refine yI ?_ ?_; focus exact sY) | (refine nI ?_ ?_; focus exact sY) | intro _); conv => whnf)
   try (refine dI sK ?_; conv => whnf)
   first | refine u0 hft ?_ | refine v0 hft ?_
   rintro _ _ ⟨rfl, rfl⟩ _
   conv => whnf
   repeat ((first | (refine aI ?_ ?_; focus exact sI) | refine dI sK ?_ | (refine yI ?_ ?_; focus exact sY) | (refine nI ?_ ?_; focus exact sY) | intro _); conv => whnf)
   subst hC
   refine aw_cut _ _ rfl fun C hC => ?_
   conv => whnf
   repeat ((first | (refine aI ?_ ?_; focus exact sI) | refine dI sK ?_ | (refine yI ?_ ?_; focus exact sY) | (refine nI ?_ ?_; focus exact sY) | intro _); conv => whnf)
   rw [ev]
   (refine nI ?_ ?_; (focus exact sY); conv => whnf)
   repeat ((first | (refine aI ?_ ?_; focus exact sI) | refine dI sK ?_ | (refine yI ?_ ?_; focus exact sY) | (refine nI ?_ ?_; focus exact sY) | intro _); conv => whnf)
   subst hC
   refine aw_cut _ _ rfl fun C hC => ?_
   conv => whnf
   repeat ((first | (refine aI ?_ ?_; focus exact sI) | refine dI sK ?_ | (refine yI ?_ ?_; focus exact sY) | (refine nI ?_ ?_; focus exact sY) | intro _); conv => whnf)
   rw [ev]
   (refine yI ?_ ?_; (focus exact sY); conv => whnf)
   subst hC
   repeat ((first | (refine aI ?_ ?_; focus exact sI) | refine dI sK ?_ | (refine yI ?_ ?_; focus exact sY) | (refine nI ?_ ?_; focus exact sY) | intro _); conv => whnf)
   all_goals exact sR
 ·have ev : decide (e = 0) = false := decide_eq_false he
  rw [show appF (c, e) (fun c => fitF K ts cx c) = (zT, e) from if_pos he]
  obtain ⟨c1, c2, c3, c4⟩ := c
  rw [tv_mk] at hcl
  refine call_pure (E := envC6 0) (fn := Tryz.f63) (c := bodyOf Tryz.f63) (envC6_ok 0) mixed sK sK sK sK sK sK rfl ?_
  refine aw_cut _ _ rfl fun C hC => ?_
  conv => whnf
  repeat ((first | (refine aI ?_ ?_; focus exact sI) | refine dI sK ?_ | (refine yI ?_ ?_; focus exact sY) | (refine nI ?_ ?_; focus exact sY) | intro _); conv => whnf)
  subst hC
  refine aw_cut _ _ rfl fun C hC => ?_
  conv => whnf
  repeat ((first | (refine aI ?_ ?_; focus exact sI) | refine dI sK ?_ | (refine yI ?_ ?_; focus exact sY) | (refine nI ?_ ?_; focus exact sY) | intro _); conv => whnf)
  refine ⟨cMth, ?_⟩
  conv => whnf
  try (refine dI sK ?_; conv => whnf)
  first | refine u0 hcl ?_ | refine v0 hcl ?_
  rintro _ _ ⟨rfl, rfl⟩ _
  conv => whnf
  repeat ((first | (refine aI ?_ ?_; focus exact sI) | refine dI sK ?_ | (refine yI ?_ ?_; focus exact sY) | (refine nI ?_ ?_; focus exact sY) | intro _); conv => whnf)
  subst hC
  refine aw_cut _ _ rfl fun C hC => ?_
  conv => whnf
  repeat ((first | (refine aI ?_ ?_; focus exact sI) | refine dI sK ?_ | (refine yI ?_ ?_; focus exact sY) | (refine nI ?_ ?_; focus exact sY) | intro _); conv => whnf)
  rw [ev]
  (refine yI ?_ ?_; (focus exact sY); conv => whnf)
  subst hC
  repeat ((first | (refine aI ?_ ?_; focus exact sI) | refine dI sK ?_ | (refine yI ?_ ?_; focus exact sY) | (refine nI ?_ ?_; focus exact sY) | intro _); conv => whnf)
  all_goals exact sR
end Go.Tr
/- The program's kernel: isObject. -/
namespace Go.Tr
open Go.Proofs
set_option maxHeartbeats 1000000 in
theorem cSObject (K : Krn) (hK : KOk K) (m : Term) : prop m = true → SObjOk Tryz.prog 47 K m := by
 induction m using Term.ind with
 | _ m ih =>
 intro hm cx a hc ha
 have hsub := prop_sub hm
 have hc2 := hc.2
 by_cases ha2 : a.k = 2
 ·obtain ⟨k2, l2, n2, us⟩ := a
  replace ha2 : k2 = 2 := ha2
  subst ha2
  obtain ⟨A, B, rfl, rfl, rfl, hA, hB⟩ := prop_pi6 ha
  obtain ⟨k, l, n, ts⟩ := m
  by_cases hk4 : k = 4
  ·subst hk4
   rw [show objF K (.mk 4 l n ts) cx (.mk 2 0 0 [A, B]) = 23 by rw [objF]; rfl, tv_mk, tv_mk]
   refine call_pure (E := envC6 0) (fn := Tryz.f47) (c := bodyOf Tryz.f47) (envC6_ok 0) mixed sK sK sK sK sK sK rfl ?_
   refine aw_cut _ _ rfl fun C hC => ?_
   conv => whnf
   repeat ((first | (refine aI ?_ ?_; focus exact sI) | refine dI sK ?_ | (refine yI ?_ ?_; focus exact sY) | (refine nI ?_ ?_; focus exact sY) | intro _); conv => whnf)
   subst hC
   refine aw_cut _ _ rfl fun C hC => ?_
   conv => whnf
   repeat ((first | (refine aI ?_ ?_; focus exact sI) | refine dI sK ?_ | (refine yI ?_ ?_; focus exact sY) | (refine nI ?_ ?_; focus exact sY) | intro _); conv => whnf)
   subst hC
   refine aw_cut _ _ rfl fun C hC => ?_
   conv => whnf
   repeat ((first | (refine aI ?_ ?_; focus exact sI) | refine dI sK ?_ | (refine yI ?_ ?_; focus exact sY) | (refine nI ?_ ?_; focus exact sY) | intro _); conv => whnf)
   subst hC
   repeat ((first | (refine aI ?_ ?_; focus exact sI) | refine dI sK ?_ | (refine yI ?_ ?_; focus exact sY) | (refine nI ?_ ?_; focus exact sY) | intro _); conv => whnf)
   all_goals exact sR
  ·have e4 : decide (k = 4) = false := decide_eq_false hk4
   by_cases hk3 : k = 3
   ·subst hk3
    obtain ⟨b, rfl, rfl, rfl, hb⟩ := prop_lam6 hm
    have hlo := cDeeper cx (by omega) A
    rw [objF_pi, tv_mk, tv_mk]
    unfold longF longE at hlo
    by_cases h30 : 30 ≤ cx.length
    ·rw [if_pos h30, if_pos h30] at hlo
     rw [if_pos h30]
     obtain ⟨a1, a2, a3, a4⟩ := A
     rw [tv_mk] at hlo
     refine call_pure (E := envC6 0) (fn := Tryz.f47) (c := bodyOf Tryz.f47) (envC6_ok 0) mixed sK sK sK sK sK sK rfl ?_
     refine aw_cut _ _ rfl fun C hC => ?_
     conv => whnf
     repeat ((first | (refine aI ?_ ?_; focus exact sI) | refine dI sK ?_ | (refine yI ?_ ?_; focus exact sY) | (refine nI ?_ ?_; focus exact sY) | intro _); conv => whnf)
     subst hC
     refine aw_cut _ _ rfl fun C hC => ?_
     conv => whnf
     repeat ((first | (refine aI ?_ ?_; focus exact sI) | refine dI sK ?_ | (refine yI ?_ ?_; focus exact sY) | (refine nI ?_ ?_; focus exact sY) | intro _); conv => whnf)
     subst hC
     refine aw_cut _ _ rfl fun C hC => ?_
     conv => whnf
     repeat ((first | (refine aI ?_ ?_; focus exact sI) | refine dI sK ?_ | (refine yI ?_ ?_; focus exact sY) | (refine nI ?_ ?_; focus exact sY) | intro _); conv => whnf)
     subst hC
     refine aw_cut _ _ rfl fun C hC => ?_
     conv => whnf
     repeat ((first | (refine aI ?_ ?_; focus exact sI) | refine dI sK ?_ | (refine yI ?_ ?_; focus exact sY) | (refine nI ?_ ?_; focus exact sY) | intro _); conv => whnf)
     subst hC
     refine aw_cut _ _ rfl fun C hC => ?_
     conv => whnf
     repeat ((first | (refine aI ?_ ?_; focus exact sI) | refine dI sK ?_ | (refine yI ?_ ?_; focus exact sY) | (refine nI ?_ ?_; focus exact sY) | intro _); conv => whnf)
     refine ⟨_, ⟨by decide, rfl⟩, ?_⟩
     conv => whnf
     refine ⟨Nat.le_refl 4, ?_⟩
     conv => whnf
     try (refine dI sK ?_; conv => whnf)
     first | refine u0 hlo ?_ | refine v0 hlo ?_
     rintro _ _ ⟨rfl, rfl⟩ _
     conv => whnf
     repeat ((first | (refine aI ?_ ?_; focus exact sI) | refine dI sK ?_ | (refine yI ?_ ?_; focus exact sY) | (refine nI ?_ ?_; focus exact sY) | intro _); conv => whnf)
     subst hC
     repeat ((first | (refine aI ?_ ?_; focus exact sI) | refine dI sK ?_ | (refine yI ?_ ?_; focus exact sY) | (refine nI ?_ ?_; focus exact sY) | intro _); conv => whnf)
     all_goals exact sR
    ·rw [if_neg h30, if_neg h30] at hlo
     rw [if_neg h30]
     have hob := ih b (List.mem_singleton.2 rfl) hb (cx ++ [A]) B (hc.snoc hA h30) hB
     obtain ⟨a1, a2, a3, a4⟩ := A
     obtain ⟨b1, b2, b3, b4⟩ := B
     obtain ⟨c1, c2, c3, c4⟩ := b
     rw [tv_mk] at hlo
     rw [tv_mk, tv_mk] at hob
     refine call_pure (E := envC6 0) (fn := Tryz.f47) (c := bodyOf Tryz.f47) (envC6_ok 0) mixed sK sK sK sK sK sK rfl ?_
     refine aw_cut _ _ rfl fun C hC => ?_
     conv => whnf
     repeat ((first | (refine aI ?_ ?_; focus exact sI) | refine dI sK ?_ | (refine yI ?_ ?_; focus exact sY) | (refine nI ?_ ?_; focus exact sY) | intro _); conv => whnf)
     subst hC
     refine aw_cut _ _ rfl fun C hC => ?_
     conv => whnf
     repeat ((first | (refine aI ?_ ?_; focus exact sI) | refine dI sK ?_ | (refine yI ?_ ?_; focus exact sY) | (refine nI ?_ ?_; focus exact sY) | intro _); conv => whnf)
     subst hC
     refine aw_cut _ _ rfl fun C hC => ?_
     conv => whnf
     repeat ((first | (refine aI ?_ ?_; focus exact sI) | refine dI sK ?_ | (refine yI ?_ ?_; focus exact sY) | (refine nI ?_ ?_; focus exact sY) | intro _); conv => whnf)
     subst hC
     refine aw_cut _ _ rfl fun C hC => ?_
     conv => whnf
     repeat ((first | (refine aI ?_ ?_; focus exact sI) | refine dI sK ?_ | (refine yI ?_ ?_; focus exact sY) | (refine nI ?_ ?_; focus exact sY) | intro _); conv => whnf)
     subst hC
     refine aw_cut _ _ rfl fun C hC => ?_
     conv => whnf
     repeat ((first | (refine aI ?_ ?_; focus exact sI) | refine dI sK ?_ | (refine yI ?_ ?_; focus exact sY) | (refine nI ?_ ?_; focus exact sY) | intro _); conv => whnf)
     refine ⟨_, ⟨by decide, rfl⟩, ?_⟩
     conv => whnf
     refine ⟨Nat.le_refl 4, ?_⟩
     conv => whnf
     try (refine dI sK ?_; conv => whnf)
     first | refine u0 hlo ?_ | refine v0 hlo ?_
     rintro _ _ ⟨rfl, rfl⟩ _
     conv => whnf
     repeat ((first | (refine aI ?_ ?_; focus exact sI) | refine dI sK ?_ | (refine yI ?_ ?_; focus exact sY) | (refine nI ?_ ?_; focus exact sY) | intro _); conv => whnf)
     refine ⟨_, ⟨by decide, rfl⟩, ?_⟩
     conv => whnf
     refine ⟨Nat.le_refl 4, ?_⟩
     conv => whnf
     repeat ((first | (refine aI ?_ ?_; focus exact sI) | refine dI sK ?_ | (refine yI ?_ ?_; focus exact sY) | (refine nI ?_ ?_; focus exact sY) | intro _); conv => whnf)
     refine ⟨_, ⟨by decide, rfl⟩, ?_⟩
     conv => whnf
     refine ⟨Nat.le_refl 4, ?_⟩
     conv => whnf
     try (refine dI sK ?_; conv => whnf)
     first | refine u0 hob ?_ | refine v0 hob ?_
     rintro _ _ ⟨rfl, rfl⟩ _
     conv => whnf
     subst hC
     repeat ((first | (refine aI ?_ ?_; focus exact sI) | refine dI sK ?_ | (refine yI ?_ ?_; focus exact sY) | (refine nI ?_ ?_; focus exact sY) | intro _); conv => whnf)
     all_goals exact sR
   ·have e3 : decide (k = 3) = false := decide_eq_false hk3
    rw [show objF K (.mk k l n ts) cx (.mk 2 0 0 [A, B]) = 22 by rw [objF, if_pos (show (Term.mk 2 0 0 [A, B]).k = 2 from rfl), if_neg hk4, if_neg hk3], tv_mk, tv_mk]
    refine call_pure (E := envC6 0) (fn := Tryz.f47) (c := bodyOf Tryz.f47) (envC6_ok 0) mixed sK sK sK sK sK sK rfl ?_
    refine aw_cut _ _ rfl fun C hC => ?_
    conv => whnf
    repeat ((first | (refine aI ?_ ?_; focus exact sI) | refine dI sK ?_ | (refine yI ?_ ?_; focus exact sY) | (refine nI ?_ ?_; focus exact sY) | intro _); conv => whnf)
    subst hC
    refine aw_cut _ _ rfl fun C hC => ?_
    conv => whnf
    repeat ((first | (refine aI ?_ ?_; focus exact sI) | refine dI sK ?_ | (refine yI ?_ ?_; focus exact sY) | (refine nI ?_ ?_; focus exact sY) | intro _); conv => whnf)
    subst hC
    refine aw_cut _ _ rfl fun C hC => ?_
    conv => whnf
    repeat ((first | (refine aI ?_ ?_; focus exact sI) | refine dI sK ?_ | (refine yI ?_ ?_; focus exact sY) | (refine nI ?_ ?_; focus exact sY) | intro _); conv => whnf)
    subst hC
    refine aw_cut _ _ rfl fun C hC => ?_
    conv => whnf
    repeat ((first | (refine aI ?_ ?_; focus exact sI) | refine dI sK ?_ | (refine yI ?_ ?_; focus exact sY) | (refine nI ?_ ?_; focus exact sY) | intro _); conv => whnf)
    rw [e3, e4]
    (refine yI ?_ ?_; (focus exact sY); conv => whnf)
    subst hC
    repeat ((first | (refine aI ?_ ?_; focus exact sI) | refine dI sK ?_ | (refine yI ?_ ?_; focus exact sY) | (refine nI ?_ ?_; focus exact sY) | intro _); conv => whnf)
    all_goals exact sR
 ·by_cases ha4 : a.k = 4
  ·obtain ⟨k2, l2, n2, us⟩ := a
   replace ha4 : k2 = 4 := ha4
   subst ha4
   obtain ⟨k, l, n, ts⟩ := m
   by_cases hk3 : k = 3
   ·subst hk3
    rw [show objF K (.mk 3 l n ts) cx (.mk 4 l2 n2 us) = 23 by rw [objF]; rfl, tv_mk, tv_mk]
    refine call_pure (E := envC6 0) (fn := Tryz.f47) (c := bodyOf Tryz.f47) (envC6_ok 0) mixed sK sK sK sK sK sK rfl ?_
    refine aw_cut _ _ rfl fun C hC => ?_
    conv => whnf
    repeat ((first | (refine aI ?_ ?_; focus exact sI) | refine dI sK ?_ | (refine yI ?_ ?_; focus exact sY) | (refine nI ?_ ?_; focus exact sY) | intro _); conv => whnf)
    subst hC
    refine aw_cut _ _ rfl fun C hC => ?_
    conv => whnf
    repeat ((first | (refine aI ?_ ?_; focus exact sI) | refine dI sK ?_ | (refine yI ?_ ?_; focus exact sY) | (refine nI ?_ ?_; focus exact sY) | intro _); conv => whnf)
    subst hC
    refine aw_cut _ _ rfl fun C hC => ?_
    conv => whnf
    repeat ((first | (refine aI ?_ ?_; focus exact sI) | refine dI sK ?_ | (refine yI ?_ ?_; focus exact sY) | (refine nI ?_ ?_; focus exact sY) | intro _); conv => whnf)
    subst hC
    refine aw_cut _ _ rfl fun C hC => ?_
    conv => whnf
    repeat ((first | (refine aI ?_ ?_; focus exact sI) | refine dI sK ?_ | (refine yI ?_ ?_; focus exact sY) | (refine nI ?_ ?_; focus exact sY) | intro _); conv => whnf)
    subst hC
    repeat ((first | (refine aI ?_ ?_; focus exact sI) | refine dI sK ?_ | (refine yI ?_ ?_; focus exact sY) | (refine nI ?_ ?_; focus exact sY) | intro _); conv => whnf)
    all_goals exact sR
   ·have e3 : decide (k = 3) = false := decide_eq_false hk3
    by_cases hk4 : k = 4
    ·subst hk4
     rw [objF_app K cx (.mk 4 l2 n2 us) (.mk 4 l n ts) rfl rfl]
     have hin := cSFind K hK l n ts hm (fun u hu => ih u hu (hsub u hu)) cx hc
     obtain ⟨V, hV⟩ : ∃ V, V = infF K cx (.mk 4 l n ts) := ⟨_, rfl⟩
     rw [← hV] at hin ⊢
     clear hV ih hsub
     obtain ⟨v, e⟩ := V
     have hsm := c22 (.mk 4 l2 n2 us) v
     simp only at hin
     unfold eqF
     simp only
     by_cases he : e = 0
     ·subst he
      rw [if_neg nz0]
      cases hb : sameT (.mk 4 l2 n2 us) v with
      | true =>
       rw [hb] at hsm
       rw [if_pos rfl]
       clear hb
       obtain ⟨v1, v2, v3, v4⟩ := v
       rw [tv_mk, tv_mk] at hin hsm
       rw [tv_mk, tv_mk]
       refine call_pure (E := envC6 0) (fn := Tryz.f47) (c := bodyOf Tryz.f47) (envC6_ok 0) mixed sK sK sK sK sK sK rfl ?_
       refine aw_cut _ _ rfl fun C hC => ?_
       conv => whnf
       repeat ((first | (refine aI ?_ ?_; focus exact sI) | refine dI sK ?_ | (refine yI ?_ ?_; focus exact sY) | (refine nI ?_ ?_; focus exact sY) | intro _); conv => whnf)
       subst hC
       refine aw_cut _ _ rfl fun C hC => ?_
       conv => whnf
       repeat ((first | (refine aI ?_ ?_; focus exact sI) | refine dI sK ?_ | (refine yI ?_ ?_; focus exact sY) | (refine nI ?_ ?_; focus exact sY) | intro _); conv => whnf)
       subst hC
       refine aw_cut _ _ rfl fun C hC => ?_
       conv => whnf
       repeat ((first | (refine aI ?_ ?_; focus exact sI) | refine dI sK ?_ | (refine yI ?_ ?_; focus exact sY) | (refine nI ?_ ?_; focus exact sY) | intro _); conv => whnf)
       subst hC
       refine aw_cut _ _ rfl fun C hC => ?_
       conv => whnf
       repeat ((first | (refine aI ?_ ?_; focus exact sI) | refine dI sK ?_ | (refine yI ?_ ?_; focus exact sY) | (refine nI ?_ ?_; focus exact sY) | intro _); conv => whnf)
       subst hC
       refine aw_cut _ _ rfl fun C hC => ?_
       conv => whnf
       repeat ((first | (refine aI ?_ ?_; focus exact sI) | refine dI sK ?_ | (refine yI ?_ ?_; focus exact sY) | (refine nI ?_ ?_; focus exact sY) | intro _); conv => whnf)
       subst hC
       refine aw_cut _ _ rfl fun C hC => ?_
       conv => whnf
       repeat ((first | (refine aI ?_ ?_; focus exact sI) | refine dI sK ?_ | (refine yI ?_ ?_; focus exact sY) | (refine nI ?_ ?_; focus exact sY) | intro _); conv => whnf)
       try (refine dI sK ?_; conv => whnf)
       first | refine u0 hin ?_ | refine v0 hin ?_
       rintro _ _ ⟨rfl, rfl⟩ _
       conv => whnf
       repeat ((first | (refine aI ?_ ?_; focus exact sI) | refine dI sK ?_ | (refine yI ?_ ?_; focus exact sY) | (refine nI ?_ ?_; focus exact sY) | intro _); conv => whnf)
       subst hC
       refine aw_cut _ _ rfl fun C hC => ?_
       conv => whnf
       repeat ((first | (refine aI ?_ ?_; focus exact sI) | refine dI sK ?_ | (refine yI ?_ ?_; focus exact sY) | (refine nI ?_ ?_; focus exact sY) | intro _); conv => whnf)
       try (refine dI sK ?_; conv => whnf)
       first | refine u0 hsm ?_ | refine v0 hsm ?_
       rintro _ _ ⟨rfl, rfl⟩ _
       conv => whnf
       repeat ((first | (refine aI ?_ ?_; focus exact sI) | refine dI sK ?_ | (refine yI ?_ ?_; focus exact sY) | (refine nI ?_ ?_; focus exact sY) | intro _); conv => whnf)
       subst hC
       conv => whnf
       repeat ((first | (refine aI ?_ ?_; focus exact sI) | refine dI sK ?_ | (refine yI ?_ ?_; focus exact sY) | (refine nI ?_ ?_; focus exact sY) | intro _); conv => whnf)
       all_goals exact sR
      | false =>
       rw [hb] at hsm
       rw [if_neg (by decide)]
       clear hb
       obtain ⟨v1, v2, v3, v4⟩ := v
       rw [tv_mk, tv_mk] at hin hsm
       rw [tv_mk, tv_mk]
       refine call_pure (E := envC6 0) (fn := Tryz.f47) (c := bodyOf Tryz.f47) (envC6_ok 0) mixed sK sK sK sK sK sK rfl ?_
       refine aw_cut _ _ rfl fun C hC => ?_
       conv => whnf
       repeat ((first | (refine aI ?_ ?_; focus exact sI) | refine dI sK ?_ | (refine yI ?_ ?_; focus exact sY) | (refine nI ?_ ?_; focus exact sY) | intro _); conv => whnf)
       subst hC
       refine aw_cut _ _ rfl fun C hC => ?_
       conv => whnf
       repeat ((first | (refine aI ?_ ?_; focus exact sI) | refine dI sK ?_ | (refine yI ?_ ?_; focus exact sY) | (refine nI ?_ ?_; focus exact sY) | intro _); conv => whnf)
       subst hC
       refine aw_cut _ _ rfl fun C hC => ?_
       conv => whnf
       repeat ((first | (refine aI ?_ ?_; focus exact sI) | refine dI sK ?_ | (refine yI ?_ ?_; focus exact sY) | (refine nI ?_ ?_; focus exact sY) | intro _); conv => whnf)
       subst hC
       refine aw_cut _ _ rfl fun C hC => ?_
       conv => whnf
       repeat ((first | (refine aI ?_ ?_; focus exact sI) | refine dI sK ?_ | (refine yI ?_ ?_; focus exact sY) | (refine nI ?_ ?_; focus exact sY) | intro _); conv => whnf)
       subst hC
       refine aw_cut _ _ rfl fun C hC => ?_
       conv => whnf
       repeat ((first | (refine aI ?_ ?_; focus exact sI) | refine dI sK ?_ | (refine yI ?_ ?_; focus exact sY) | (refine nI ?_ ?_; focus exact sY) | intro _); conv => whnf)
       subst hC
       refine aw_cut _ _ rfl fun C hC => ?_
       conv => whnf
       repeat ((first | (refine aI ?_ ?_; focus exact sI) | refine dI sK ?_ | (refine yI ?_ ?_; focus exact sY) | (refine nI ?_ ?_; focus exact sY) | intro _); conv => whnf)
       try (refine dI sK ?_; conv => whnf)
       first | refine u0 hin ?_ | refine v0 hin ?_
       rintro _ _ ⟨rfl, rfl⟩ _
       conv => whnf
       repeat ((first | (refine aI ?_ ?_; focus exact sI) | refine dI sK ?_ | (refine yI ?_ ?_; focus exact sY) | (refine nI ?_ ?_; focus exact sY) | intro _); conv => whnf)
       subst hC
       refine aw_cut _ _ rfl fun C hC => ?_
       conv => whnf
       repeat ((first | (refine aI ?_ ?_; focus exact sI) | refine dI sK ?_ | (refine yI ?_ ?_; focus exact sY) | (refine nI ?_ ?_; focus exact sY) | intro _); conv => whnf)
       try (refine dI sK ?_; conv => whnf)
       first | refine u0 hsm ?_ | refine v0 hsm ?_
       rintro _ _ ⟨rfl, rfl⟩ _
       conv => whnf
       repeat ((first | (refine aI ?_ ?_; focus exact sI) | refine dI sK ?_ | (refine yI ?_ ?_; focus exact sY) | (refine nI ?_ ?_; focus exact sY) | intro _); conv => whnf)
       subst hC
       repeat ((first | (refine aI ?_ ?_; focus exact sI) | refine dI sK ?_ | (refine yI ?_ ?_; focus exact sY) | (refine nI ?_ ?_; focus exact sY) | intro _); conv => whnf)
       all_goals exact sR
     ·rw [if_pos he]
      have ez : decide (e = 0) = false := decide_eq_false he
      obtain ⟨v1, v2, v3, v4⟩ := v
      rw [tv_mk, tv_mk] at hin
      rw [tv_mk, tv_mk]
      refine call_pure (E := envC6 0) (fn := Tryz.f47) (c := bodyOf Tryz.f47) (envC6_ok 0) mixed sK sK sK sK sK sK rfl ?_
      refine aw_cut _ _ rfl fun C hC => ?_
      conv => whnf
      repeat ((first | (refine aI ?_ ?_; focus exact sI) | refine dI sK ?_ | (refine yI ?_ ?_; focus exact sY) | (refine nI ?_ ?_; focus exact sY) | intro _); conv => whnf)
      subst hC
      refine aw_cut _ _ rfl fun C hC => ?_
      conv => whnf
      repeat ((first | (refine aI ?_ ?_; focus exact sI) | refine dI sK ?_ | (refine yI ?_ ?_; focus exact sY) | (refine nI ?_ ?_; focus exact sY) | intro _); conv => whnf)
      subst hC
      refine aw_cut _ _ rfl fun C hC => ?_
      conv => whnf
      repeat ((first | (refine aI ?_ ?_; focus exact sI) | refine dI sK ?_ | (refine yI ?_ ?_; focus exact sY) | (refine nI ?_ ?_; focus exact sY) | intro _); conv => whnf)
      subst hC
      refine aw_cut _ _ rfl fun C hC => ?_
      conv => whnf
      repeat ((first | (refine aI ?_ ?_; focus exact sI) | refine dI sK ?_ | (refine yI ?_ ?_; focus exact sY) | (refine nI ?_ ?_; focus exact sY) | intro _); conv => whnf)
      subst hC
      refine aw_cut _ _ rfl fun C hC => ?_
      conv => whnf
      repeat ((first | (refine aI ?_ ?_; focus exact sI) | refine dI sK ?_ | (refine yI ?_ ?_; focus exact sY) | (refine nI ?_ ?_; focus exact sY) | intro _); conv => whnf)
      subst hC
      refine aw_cut _ _ rfl fun C hC => ?_
      conv => whnf
      repeat ((first | (refine aI ?_ ?_; focus exact sI) | refine dI sK ?_ | (refine yI ?_ ?_; focus exact sY) | (refine nI ?_ ?_; focus exact sY) | intro _); conv => whnf)
      try (refine dI sK ?_; conv => whnf)
      first | refine u0 hin ?_ | refine v0 hin ?_
      rintro _ _ ⟨rfl, rfl⟩ _
      conv => whnf
      repeat ((first | (refine aI ?_ ?_; focus exact sI) | refine dI sK ?_ | (refine yI ?_ ?_; focus exact sY) | (refine nI ?_ ?_; focus exact sY) | intro _); conv => whnf)
      subst hC
      refine aw_cut _ _ rfl fun C hC => ?_
      conv => whnf
      repeat ((first | (refine aI ?_ ?_; focus exact sI) | refine dI sK ?_ | (refine yI ?_ ?_; focus exact sY) | (refine nI ?_ ?_; focus exact sY) | intro _); conv => whnf)
      rw [ez]
      (refine nI ?_ ?_; (focus exact sY); conv => whnf)
      repeat ((first | (refine aI ?_ ?_; focus exact sI) | refine dI sK ?_ | (refine yI ?_ ?_; focus exact sY) | (refine nI ?_ ?_; focus exact sY) | intro _); conv => whnf)
      subst hC
      conv => whnf
      repeat ((first | (refine aI ?_ ?_; focus exact sI) | refine dI sK ?_ | (refine yI ?_ ?_; focus exact sY) | (refine nI ?_ ?_; focus exact sY) | intro _); conv => whnf)
      all_goals exact sR
    ·have e4 : decide (k = 4) = false := decide_eq_false hk4
     rw [show objF K (.mk k l n ts) cx (.mk 4 l2 n2 us) = 22 by rw [objF, if_neg ha2, if_pos (show (Term.mk 4 l2 n2 us).k = 4 from rfl), if_neg (show ¬ k = 3 from hk3), if_neg (show ¬ k = 4 from hk4)]]
     rw [tv_mk, tv_mk]
     refine call_pure (E := envC6 0) (fn := Tryz.f47) (c := bodyOf Tryz.f47) (envC6_ok 0) mixed sK sK sK sK sK sK rfl ?_
     refine aw_cut _ _ rfl fun C hC => ?_
     conv => whnf
     repeat ((first | (refine aI ?_ ?_; focus exact sI) | refine dI sK ?_ | (refine yI ?_ ?_; focus exact sY) | (refine nI ?_ ?_; focus exact sY) | intro _); conv => whnf)
     subst hC
     refine aw_cut _ _ rfl fun C hC => ?_
     conv => whnf
     repeat ((first | (refine aI ?_ ?_; focus exact sI) | refine dI sK ?_ | (refine yI ?_ ?_; focus exact sY) | (refine nI ?_ ?_; focus exact sY) | intro _); conv => whnf)
     subst hC
     refine aw_cut _ _ rfl fun C hC => ?_
     conv => whnf
     repeat ((first | (refine aI ?_ ?_; focus exact sI) | refine dI sK ?_ | (refine yI ?_ ?_; focus exact sY) | (refine nI ?_ ?_; focus exact sY) | intro _); conv => whnf)
     subst hC
     refine aw_cut _ _ rfl fun C hC => ?_
     conv => whnf
     repeat ((first | (refine aI ?_ ?_; focus exact sI) | refine dI sK ?_ | (refine yI ?_ ?_; focus exact sY) | (refine nI ?_ ?_; focus exact sY) | intro _); conv => whnf)
     rw [e3, e4]
     (refine yI ?_ ?_; (focus exact sY); conv => whnf)
     subst hC
     repeat ((first | (refine aI ?_ ?_; focus exact sI) | refine dI sK ?_ | (refine yI ?_ ?_; focus exact sY) | (refine nI ?_ ?_; focus exact sY) | intro _); conv => whnf)
     all_goals exact sR
  ·obtain ⟨k, l, n, ts⟩ := m
   rw [show objF K (.mk k l n ts) cx a = 22 by rw [objF, if_neg ha2, if_neg ha4]]
   obtain ⟨k2, l2, n2, us⟩ := a
   have e2 : decide (k2 = 2) = false := decide_eq_false ha2
   have e4 : decide (k2 = 4) = false := decide_eq_false ha4
   rw [tv_mk, tv_mk]
   refine call_pure (E := envC6 0) (fn := Tryz.f47) (c := bodyOf Tryz.f47) (envC6_ok 0) mixed sK sK sK sK sK sK rfl ?_
   refine aw_cut _ _ rfl fun C hC => ?_
   conv => whnf
   repeat ((first | (refine aI ?_ ?_; focus exact sI) | refine dI sK ?_ | (refine yI ?_ ?_; focus exact sY) | (refine nI ?_ ?_; focus exact sY) | intro _); conv => whnf)
   subst hC
   refine aw_cut _ _ rfl fun C hC => ?_
   conv => whnf
   repeat ((first | (refine aI ?_ ?_; focus exact sI) | refine dI sK ?_ | (refine yI ?_ ?_; focus exact sY) | (refine nI ?_ ?_; focus exact sY) | intro _); conv => whnf)
   subst hC
   refine aw_cut _ _ rfl fun C hC => ?_
   conv => whnf
   repeat ((first | (refine aI ?_ ?_; focus exact sI) | refine dI sK ?_ | (refine yI ?_ ?_; focus exact sY) | (refine nI ?_ ?_; focus exact sY) | intro _); conv => whnf)
   rw [e2]
   (refine nI ?_ ?_; (focus exact sY); conv => whnf)
   repeat ((first | (refine aI ?_ ?_; focus exact sI) | refine dI sK ?_ | (refine yI ?_ ?_; focus exact sY) | (refine nI ?_ ?_; focus exact sY) | intro _); conv => whnf)
   rw [e4]
   (refine nI ?_ ?_; (focus exact sY); conv => whnf)
   subst hC
   repeat ((first | (refine aI ?_ ?_; focus exact sI) | refine dI sK ?_ | (refine yI ?_ ?_; focus exact sY) | (refine nI ?_ ?_; focus exact sY) | intro _); conv => whnf)
   all_goals exact sR
end Go.Tr
/- The program's kernel: pi. -/
namespace Go.Tr
open Go.Proofs
def STypOk (P : Program) (f : FuncId) (K : Krn) (a : Term) : Prop := ∀ (cx : List Term), COk cx → CallSt P f [kvC K.sig K.ms, .c (.sl 4 48 (tcs cx)), tv a] [] (fun r H' => r = .c (.int .i64 (typF K a cx)) ∧ H' = [])
def SKndOk (P : Program) (f : FuncId) (K : Krn) (a : Term) : Prop := ∀ (cx : List Term), COk cx → CallSt P f [kvC K.sig K.ms, .c (.sl 4 48 (tcs cx)), tv a] [] (fun r H' => r = .c (.int .i64 (kndF K a cx)) ∧ H' = [])
theorem cSPi0 (K : Krn) (A B : Term) (hA : prop A = true) (h1 : STypOk Tryz.prog 48 K A) (h2 : STypOk Tryz.prog 48 K B) (cx : List Term) (hc : COk cx) :
  CallSt Tryz.prog 80 [kvC K.sig K.ms, .c (.sl 4 48 (tcs cx)), tv (.mk 2 0 0 [A, B]), .bd 48 [kvC K.sig K.ms]] [] (fun r H' => r = .c (.int .i64 (typF K (.mk 2 0 0 [A, B]) cx)) ∧ H' = []) := by
 have ht := h1 cx hc
 have hc2 := hc.2
 have hlo := cDeeper cx (by omega) A
 have hb := fun h30 => h2 (cx ++ [A]) (hc.snoc hA h30)
 rw [typF_pi, tv_mk]
 unfold longF longE at hlo
 by_cases he : typF K A cx ≠ 0
 ·rw [if_pos he]
  have ez : decide (typF K A cx = 0) = false := decide_eq_false he
  generalize typF K A cx = e at *
  clear hb
  obtain ⟨a1, a2, a3, a4⟩ := A
  rw [tv_mk] at ht
  refine call_pure (E := envC6 0) (fn := Tryz.f80) (c := bodyOf Tryz.f80) (envC6_ok 0) mixed sK sK sK sK sK sK rfl ?_
  refine aw_cut _ _ rfl fun C hC => ?_
  conv => whnf
  repeat ((first | (refine aI ?_ ?_; focus exact sI) | refine dI sK ?_ | (refine yI ?_ ?_; focus exact sY) | (refine nI ?_ ?_; focus exact sY) | intro _); conv => whnf)
  subst hC
  refine aw_cut _ _ rfl fun C hC => ?_
  conv => whnf
  repeat ((first | (refine aI ?_ ?_; focus exact sI) | refine dI sK ?_ | (refine yI ?_ ?_; focus exact sY) | (refine nI ?_ ?_; focus exact sY) | intro _); conv => whnf)
  refine ⟨_, ⟨by decide, rfl⟩, ?_⟩
  conv => whnf
  refine ⟨Nat.le_refl 4, ?_⟩
  conv => whnf
  try (refine dI sK ?_; conv => whnf)
  first | refine u0 ht ?_ | refine v0 ht ?_
  rintro _ _ ⟨rfl, rfl⟩ _
  conv => whnf
  rw [ez]
  (refine yI ?_ ?_; (focus exact sY); conv => whnf)
  subst hC
  repeat ((first | (refine aI ?_ ?_; focus exact sI) | refine dI sK ?_ | (refine yI ?_ ?_; focus exact sY) | (refine nI ?_ ?_; focus exact sY) | intro _); conv => whnf)
  all_goals exact sR
 ·rw [if_neg he]
  have e0 : typF K A cx = 0 := by omega
  rw [e0] at ht
  by_cases h30 : 30 ≤ cx.length
  ·rw [if_pos h30, if_pos h30] at hlo
   rw [if_pos h30]
   clear hb e0 he
   obtain ⟨a1, a2, a3, a4⟩ := A
   rw [tv_mk] at ht hlo
   refine call_pure (E := envC6 0) (fn := Tryz.f80) (c := bodyOf Tryz.f80) (envC6_ok 0) mixed sK sK sK sK sK sK rfl ?_
   refine aw_cut _ _ rfl fun C hC => ?_
   conv => whnf
   repeat ((first | (refine aI ?_ ?_; focus exact sI) | refine dI sK ?_ | (refine yI ?_ ?_; focus exact sY) | (refine nI ?_ ?_; focus exact sY) | intro _); conv => whnf)
   subst hC
   refine aw_cut _ _ rfl fun C hC => ?_
   conv => whnf
   repeat ((first | (refine aI ?_ ?_; focus exact sI) | refine dI sK ?_ | (refine yI ?_ ?_; focus exact sY) | (refine nI ?_ ?_; focus exact sY) | intro _); conv => whnf)
   refine ⟨_, ⟨by decide, rfl⟩, ?_⟩
   conv => whnf
   refine ⟨Nat.le_refl 4, ?_⟩
   conv => whnf
   try (refine dI sK ?_; conv => whnf)
   first | refine u0 ht ?_ | refine v0 ht ?_
   rintro _ _ ⟨rfl, rfl⟩ _
   conv => whnf
   repeat ((first | (refine aI ?_ ?_; focus exact sI) | refine dI sK ?_ | (refine yI ?_ ?_; focus exact sY) | (refine nI ?_ ?_; focus exact sY) | intro _); conv => whnf)
   subst hC
   refine aw_cut _ _ rfl fun C hC => ?_
   conv => whnf
   repeat ((first | (refine aI ?_ ?_; focus exact sI) | refine dI sK ?_ | (refine yI ?_ ?_; focus exact sY) | (refine nI ?_ ?_; focus exact sY) | intro _); conv => whnf)
   refine ⟨_, ⟨by decide, rfl⟩, ?_⟩
   conv => whnf
   refine ⟨Nat.le_refl 4, ?_⟩
   conv => whnf
   try (refine dI sK ?_; conv => whnf)
   first | refine u0 hlo ?_ | refine v0 hlo ?_
   rintro _ _ ⟨rfl, rfl⟩ _
   conv => whnf
   repeat ((first | (refine aI ?_ ?_; focus exact sI) | refine dI sK ?_ | (refine yI ?_ ?_; focus exact sY) | (refine nI ?_ ?_; focus exact sY) | intro _); conv => whnf)
   subst hC
   repeat ((first | (refine aI ?_ ?_; focus exact sI) | refine dI sK ?_ | (refine yI ?_ ?_; focus exact sY) | (refine nI ?_ ?_; focus exact sY) | intro _); conv => whnf)
   all_goals exact sR
  ·rw [if_neg h30, if_neg h30] at hlo
   rw [if_neg h30]
   replace hb := hb h30
   clear e0 he
   obtain ⟨a1, a2, a3, a4⟩ := A
   obtain ⟨b1, b2, b3, b4⟩ := B
   rw [tv_mk] at ht hlo hb
   refine call_pure (E := envC6 0) (fn := Tryz.f80) (c := bodyOf Tryz.f80) (envC6_ok 0) mixed sK sK sK sK sK sK rfl ?_
   refine aw_cut _ _ rfl fun C hC => ?_
   conv => whnf
   repeat ((first | (refine aI ?_ ?_; focus exact sI) | refine dI sK ?_ | (refine yI ?_ ?_; focus exact sY) | (refine nI ?_ ?_; focus exact sY) | intro _); conv => whnf)
   subst hC
   refine aw_cut _ _ rfl fun C hC => ?_
   conv => whnf
   repeat ((first | (refine aI ?_ ?_; focus exact sI) | refine dI sK ?_ | (refine yI ?_ ?_; focus exact sY) | (refine nI ?_ ?_; focus exact sY) | intro _); conv => whnf)
   refine ⟨_, ⟨by decide, rfl⟩, ?_⟩
   conv => whnf
   refine ⟨Nat.le_refl 4, ?_⟩
   conv => whnf
   try (refine dI sK ?_; conv => whnf)
   first | refine u0 ht ?_ | refine v0 ht ?_
   rintro _ _ ⟨rfl, rfl⟩ _
   conv => whnf
   repeat ((first | (refine aI ?_ ?_; focus exact sI) | refine dI sK ?_ | (refine yI ?_ ?_; focus exact sY) | (refine nI ?_ ?_; focus exact sY) | intro _); conv => whnf)
   subst hC
   refine aw_cut _ _ rfl fun C hC => ?_
   conv => whnf
   repeat ((first | (refine aI ?_ ?_; focus exact sI) | refine dI sK ?_ | (refine yI ?_ ?_; focus exact sY) | (refine nI ?_ ?_; focus exact sY) | intro _); conv => whnf)
   refine ⟨_, ⟨by decide, rfl⟩, ?_⟩
   conv => whnf
   refine ⟨Nat.le_refl 4, ?_⟩
   conv => whnf
   try (refine dI sK ?_; conv => whnf)
   first | refine u0 hlo ?_ | refine v0 hlo ?_
   rintro _ _ ⟨rfl, rfl⟩ _
   conv => whnf
   repeat ((first | (refine aI ?_ ?_; focus exact sI) | refine dI sK ?_ | (refine yI ?_ ?_; focus exact sY) | (refine nI ?_ ?_; focus exact sY) | intro _); conv => whnf)
   subst hC
   conv => whnf
   repeat ((first | (refine aI ?_ ?_; focus exact sI) | refine dI sK ?_ | (refine yI ?_ ?_; focus exact sY) | (refine nI ?_ ?_; focus exact sY) | intro _); conv => whnf)
   refine ⟨_, ⟨by decide, rfl⟩, ?_⟩
   conv => whnf
   refine ⟨Nat.le_refl 4, ?_⟩
   conv => whnf
   try (refine dI sK ?_; conv => whnf)
   first | refine u0 hb ?_ | refine v0 hb ?_
   rintro _ _ ⟨rfl, rfl⟩ _
   conv => whnf
   repeat ((first | (refine aI ?_ ?_; focus exact sI) | refine dI sK ?_ | (refine yI ?_ ?_; focus exact sY) | (refine nI ?_ ?_; focus exact sY) | intro _); conv => whnf)
   all_goals exact sR
theorem cSPi1 (K : Krn) (A B : Term) (hA : prop A = true) (h1 : STypOk Tryz.prog 48 K A) (h2 : SKndOk Tryz.prog 57 K B) (cx : List Term) (hc : COk cx) :
  CallSt Tryz.prog 80 [kvC K.sig K.ms, .c (.sl 4 48 (tcs cx)), tv (.mk 2 0 0 [A, B]), .bd 57 [kvC K.sig K.ms]] [] (fun r H' => r = .c (.int .i64 (kndF K (.mk 2 0 0 [A, B]) cx)) ∧ H' = []) := by
 have ht := h1 cx hc
 have hc2 := hc.2
 have hlo := cDeeper cx (by omega) A
 have hb := fun h30 => h2 (cx ++ [A]) (hc.snoc hA h30)
 rw [kndF_pi, tv_mk]
 unfold longF longE at hlo
 by_cases he : typF K A cx ≠ 0
 ·rw [if_pos he]
  have ez : decide (typF K A cx = 0) = false := decide_eq_false he
  generalize typF K A cx = e at *
  clear hb
  obtain ⟨a1, a2, a3, a4⟩ := A
  rw [tv_mk] at ht
  refine call_pure (E := envC6 0) (fn := Tryz.f80) (c := bodyOf Tryz.f80) (envC6_ok 0) mixed sK sK sK sK sK sK rfl ?_
  refine aw_cut _ _ rfl fun C hC => ?_
  conv => whnf
  repeat ((first | (refine aI ?_ ?_; focus exact sI) | refine dI sK ?_ | (refine yI ?_ ?_; focus exact sY) | (refine nI ?_ ?_; focus exact sY) | intro _); conv => whnf)
  subst hC
  refine aw_cut _ _ rfl fun C hC => ?_
  conv => whnf
  repeat ((first | (refine aI ?_ ?_; focus exact sI) | refine dI sK ?_ | (refine yI ?_ ?_; focus exact sY) | (refine nI ?_ ?_; focus exact sY) | intro _); conv => whnf)
  refine ⟨_, ⟨by decide, rfl⟩, ?_⟩
  conv => whnf
  refine ⟨Nat.le_refl 4, ?_⟩
  conv => whnf
  try (refine dI sK ?_; conv => whnf)
  first | refine u0 ht ?_ | refine v0 ht ?_
  rintro _ _ ⟨rfl, rfl⟩ _
  conv => whnf
  rw [ez]
  (refine yI ?_ ?_; (focus exact sY); conv => whnf)
  subst hC
  repeat ((first | (refine aI ?_ ?_; focus exact sI) | refine dI sK ?_ | (refine yI ?_ ?_; focus exact sY) | (refine nI ?_ ?_; focus exact sY) | intro _); conv => whnf)
  all_goals exact sR
 ·rw [if_neg he]
  have e0 : typF K A cx = 0 := by omega
  rw [e0] at ht
  by_cases h30 : 30 ≤ cx.length
  ·rw [if_pos h30, if_pos h30] at hlo
   rw [if_pos h30]
   clear hb e0 he
   obtain ⟨a1, a2, a3, a4⟩ := A
   rw [tv_mk] at ht hlo
   refine call_pure (E := envC6 0) (fn := Tryz.f80) (c := bodyOf Tryz.f80) (envC6_ok 0) mixed sK sK sK sK sK sK rfl ?_
   refine aw_cut _ _ rfl fun C hC => ?_
   conv => whnf
   repeat ((first | (refine aI ?_ ?_; focus exact sI) | refine dI sK ?_ | (refine yI ?_ ?_; focus exact sY) | (refine nI ?_ ?_; focus exact sY) | intro _); conv => whnf)
   subst hC
   refine aw_cut _ _ rfl fun C hC => ?_
   conv => whnf
   repeat ((first | (refine aI ?_ ?_; focus exact sI) | refine dI sK ?_ | (refine yI ?_ ?_; focus exact sY) | (refine nI ?_ ?_; focus exact sY) | intro _); conv => whnf)
   refine ⟨_, ⟨by decide, rfl⟩, ?_⟩
   conv => whnf
   refine ⟨Nat.le_refl 4, ?_⟩
   conv => whnf
   try (refine dI sK ?_; conv => whnf)
   first | refine u0 ht ?_ | refine v0 ht ?_
   rintro _ _ ⟨rfl, rfl⟩ _
   conv => whnf
   repeat ((first | (refine aI ?_ ?_; focus exact sI) | refine dI sK ?_ | (refine yI ?_ ?_; focus exact sY) | (refine nI ?_ ?_; focus exact sY) | intro _); conv => whnf)
   subst hC
   refine aw_cut _ _ rfl fun C hC => ?_
   conv => whnf
   repeat ((first | (refine aI ?_ ?_; focus exact sI) | refine dI sK ?_ | (refine yI ?_ ?_; focus exact sY) | (refine nI ?_ ?_; focus exact sY) | intro _); conv => whnf)
   refine ⟨_, ⟨by decide, rfl⟩, ?_⟩
   conv => whnf
   refine ⟨Nat.le_refl 4, ?_⟩
   conv => whnf
   try (refine dI sK ?_; conv => whnf)
   first | refine u0 hlo ?_ | refine v0 hlo ?_
   rintro _ _ ⟨rfl, rfl⟩ _
   conv => whnf
   repeat ((first | (refine aI ?_ ?_; focus exact sI) | refine dI sK ?_ | (refine yI ?_ ?_; focus exact sY) | (refine nI ?_ ?_; focus exact sY) | intro _); conv => whnf)
   subst hC
   repeat ((first | (refine aI ?_ ?_; focus exact sI) | refine dI sK ?_ | (refine yI ?_ ?_; focus exact sY) | (refine nI ?_ ?_; focus exact sY) | intro _); conv => whnf)
   all_goals exact sR
  ·rw [if_neg h30, if_neg h30] at hlo
   rw [if_neg h30]
   replace hb := hb h30
   clear e0 he
   obtain ⟨a1, a2, a3, a4⟩ := A
   obtain ⟨b1, b2, b3, b4⟩ := B
   rw [tv_mk] at ht hlo hb
   refine call_pure (E := envC6 0) (fn := Tryz.f80) (c := bodyOf Tryz.f80) (envC6_ok 0) mixed sK sK sK sK sK sK rfl ?_
   refine aw_cut _ _ rfl fun C hC => ?_
   conv => whnf
   repeat ((first | (refine aI ?_ ?_; focus exact sI) | refine dI sK ?_ | (refine yI ?_ ?_; focus exact sY) | (refine nI ?_ ?_; focus exact sY) | intro _); conv => whnf)
   subst hC
   refine aw_cut _ _ rfl fun C hC => ?_
   conv => whnf
   repeat ((first | (refine aI ?_ ?_; focus exact sI) | refine dI sK ?_ | (refine yI ?_ ?_; focus exact sY) | (refine nI ?_ ?_; focus exact sY) | intro _); conv => whnf)
   refine ⟨_, ⟨by decide, rfl⟩, ?_⟩
   conv => whnf
   refine ⟨Nat.le_refl 4, ?_⟩
   conv => whnf
   try (refine dI sK ?_; conv => whnf)
   first | refine u0 ht ?_ | refine v0 ht ?_
   rintro _ _ ⟨rfl, rfl⟩ _
   conv => whnf
   repeat ((first | (refine aI ?_ ?_; focus exact sI) | refine dI sK ?_ | (refine yI ?_ ?_; focus exact sY) | (refine nI ?_ ?_; focus exact sY) | intro _); conv => whnf)
   subst hC
   refine aw_cut _ _ rfl fun C hC => ?_
   conv => whnf
   repeat ((first | (refine aI ?_ ?_; focus exact sI) | refine dI sK ?_ | (refine yI ?_ ?_; focus exact sY) | (refine nI ?_ ?_; focus exact sY) | intro _); conv => whnf)
   refine ⟨_, ⟨by decide, rfl⟩, ?_⟩
   conv => whnf
   refine ⟨Nat.le_refl 4, ?_⟩
   conv => whnf
   try (refine dI sK ?_; conv => whnf)
   first | refine u0 hlo ?_ | refine v0 hlo ?_
   rintro _ _ ⟨rfl, rfl⟩ _
   conv => whnf
   repeat ((first | (refine aI ?_ ?_; focus exact sI) | refine dI sK ?_ | (refine yI ?_ ?_; focus exact sY) | (refine nI ?_ ?_; focus exact sY) | intro _); conv => whnf)
   subst hC
   conv => whnf
   repeat ((first | (refine aI ?_ ?_; focus exact sI) | refine dI sK ?_ | (refine yI ?_ ?_; focus exact sY) | (refine nI ?_ ?_; focus exact sY) | intro _); conv => whnf)
   refine ⟨_, ⟨by decide, rfl⟩, ?_⟩
   conv => whnf
   refine ⟨Nat.le_refl 4, ?_⟩
   conv => whnf
   try (refine dI sK ?_; conv => whnf)
   first | refine u0 hb ?_ | refine v0 hb ?_
   rintro _ _ ⟨rfl, rfl⟩ _
   conv => whnf
   repeat ((first | (refine aI ?_ ?_; focus exact sI) | refine dI sK ?_ | (refine yI ?_ ?_; focus exact sY) | (refine nI ?_ ?_; focus exact sY) | intro _); conv => whnf)
   all_goals exact sR
end Go.Tr
/- The program's kernel: isType, isKind. -/
namespace Go.Tr
open Go.Proofs
set_option maxHeartbeats 1000000 in
theorem cSTypeA (K : Krn) (hK : KOk K) (n : Int) (ts : List Term) (hm : prop (.mk 4 2 n ts) = true) : STypOk Tryz.prog 48 K (.mk 4 2 n ts) := by
 intro cx hc
 obtain ⟨h1, h2, h3, h4, h5⟩ := prop_app hm
 obtain ⟨q, rfl⟩ : ∃ q : Nat, n = q := ⟨n.toNat, by omega⟩
 have hsl := len_dcs K.sig
 have hE : typF K (.mk 4 2 (q : Int) ts) cx = famF K cx (q : Int) ts := by rw [typF.eq_def]; simp
 rw [hE]
 clear hE
 unfold famF
 rw [Int.toNat_natCast, tv_mk]
 by_cases hq : q < K.sig.length
 ·obtain ⟨d, hd⟩ : ∃ d, K.sig[q]? = some d := ⟨K.sig[q]'(by omega), List.getElem?_eq_getElem (by omega)⟩
  have hdc := dcs_at hd
  have hp := hK.1 d (List.mem_of_getElem? hd)
  have hf := cFamily K.sig q d hd hp
  have e : decide (((dcs K.sig).length : Int) ≤ (q : Int)) = false := decide_eq_false (by omega)
  have hft := cSFit K ts (fun u hu => ⟨h5 u hu, cSObject K hK u (h5 u hu)⟩) cx hc d.c hp
  rw [hd]
  simp only
  cases hk : kindT d.c with
  | true =>
   rw [hk] at hf
   rw [if_pos rfl]
   clear hk
   obtain ⟨V, hV⟩ : ∃ V, V = fitF K ts cx d.c := ⟨_, rfl⟩
   rw [← hV] at hft ⊢
   clear hV hd hp
   obtain ⟨⟨v1, v2, v3, v4⟩, e2⟩ := V
   obtain ⟨nm, ⟨c1, c2, c3, c4⟩, im⟩ := d
   simp only at hft
   rw [tv_mk, tv_mk] at hft
   by_cases he2 : e2 = 0
   ·subst he2
    rw [if_neg nz0]
    by_cases hv : v1 = 1
    ·subst hv
     rw [if_pos (show (Term.mk 1 v2 v3 v4).k = 1 from rfl)]
     refine call_pure (E := envC6 0) (fn := Tryz.f48) (c := bodyOf Tryz.f48) (envC6_ok 0) mixed sK sK sK sK sK sK rfl ?_
     refine aw_cut _ _ rfl fun C hC => ?_
     conv => whnf
     repeat ((first | (refine aI ?_ ?_; focus exact sI) | refine dI sK ?_ | (refine yI ?_ ?_; focus exact sY) | (refine nI ?_ ?_; focus exact sY) | intro _); conv => whnf)
     subst hC
     refine aw_cut _ _ rfl fun C hC => ?_
     conv => whnf
     repeat ((first | (refine aI ?_ ?_; focus exact sI) | refine dI sK ?_ | (refine yI ?_ ?_; focus exact sY) | (refine nI ?_ ?_; focus exact sY) | intro _); conv => whnf)
     rw [e]
     (refine nI ?_ ?_; (focus exact sY); conv => whnf)
     repeat ((first | (refine aI ?_ ?_; focus exact sI) | refine dI sK ?_ | (refine yI ?_ ?_; focus exact sY) | (refine nI ?_ ?_; focus exact sY) | intro _); conv => whnf)
     try (refine dI sK ?_; conv => whnf)
     first | refine u0 hf ?_ | refine v0 hf ?_
     rintro _ _ ⟨rfl, rfl⟩ _
     conv => whnf
     repeat ((first | (refine aI ?_ ?_; focus exact sI) | refine dI sK ?_ | (refine yI ?_ ?_; focus exact sY) | (refine nI ?_ ?_; focus exact sY) | intro _); conv => whnf)
     subst hC
     conv => whnf
     repeat ((first | (refine aI ?_ ?_; focus exact sI) | refine dI sK ?_ | (refine yI ?_ ?_; focus exact sY) | (refine nI ?_ ?_; focus exact sY) | intro _); conv => whnf)
     refine ⟨_, ⟨by omega, hdc⟩, ?_⟩
     conv => whnf
     refine ⟨show 4 ≤ 5 by decide, ?_⟩
     conv => whnf
     (refine And.intro ?_ ?_ <;> conv => whnf)
     all_goals
      repeat ((first | (refine aI ?_ ?_; focus exact sI) | refine dI sK ?_ | (refine yI ?_ ?_; focus exact sY) | (refine nI ?_ ?_; focus exact sY) | intro _); conv => whnf)
      try (refine dI sK ?_; conv => whnf)
      first | refine u0 hft ?_ | refine v0 hft ?_
      rintro _ _ ⟨rfl, rfl⟩ _
      conv => whnf
      repeat ((first | (refine aI ?_ ?_; focus exact sI) | refine dI sK ?_ | (refine yI ?_ ?_; focus exact sY) | (refine nI ?_ ?_; focus exact sY) | intro _); conv => whnf)
      all_goals exact sR
    ·have ev : decide (v1 = 1) = false := decide_eq_false hv
     rw [if_neg (show ¬ (Term.mk v1 v2 v3 v4).k = 1 from hv)]
     refine call_pure (E := envC6 0) (fn := Tryz.f48) (c := bodyOf Tryz.f48) (envC6_ok 0) mixed sK sK sK sK sK sK rfl ?_
     refine aw_cut _ _ rfl fun C hC => ?_
     conv => whnf
     repeat ((first | (refine aI ?_ ?_; focus exact sI) | refine dI sK ?_ | (refine yI ?_ ?_; focus exact sY) | (refine nI ?_ ?_; focus exact sY) | intro _); conv => whnf)
     subst hC
     refine aw_cut _ _ rfl fun C hC => ?_
     conv => whnf
     repeat ((first | (refine aI ?_ ?_; focus exact sI) | refine dI sK ?_ | (refine yI ?_ ?_; focus exact sY) | (refine nI ?_ ?_; focus exact sY) | intro _); conv => whnf)
     rw [e]
     (refine nI ?_ ?_; (focus exact sY); conv => whnf)
     repeat ((first | (refine aI ?_ ?_; focus exact sI) | refine dI sK ?_ | (refine yI ?_ ?_; focus exact sY) | (refine nI ?_ ?_; focus exact sY) | intro _); conv => whnf)
     try (refine dI sK ?_; conv => whnf)
     first | refine u0 hf ?_ | refine v0 hf ?_
     rintro _ _ ⟨rfl, rfl⟩ _
     conv => whnf
     repeat ((first | (refine aI ?_ ?_; focus exact sI) | refine dI sK ?_ | (refine yI ?_ ?_; focus exact sY) | (refine nI ?_ ?_; focus exact sY) | intro _); conv => whnf)
     subst hC
     conv => whnf
     repeat ((first | (refine aI ?_ ?_; focus exact sI) | refine dI sK ?_ | (refine yI ?_ ?_; focus exact sY) | (refine nI ?_ ?_; focus exact sY) | intro _); conv => whnf)
     refine ⟨_, ⟨by omega, hdc⟩, ?_⟩
     conv => whnf
     refine ⟨show 4 ≤ 5 by decide, ?_⟩
     conv => whnf
     (refine And.intro ?_ ?_ <;> conv => whnf)
     all_goals
      repeat ((first | (refine aI ?_ ?_; focus exact sI) | refine dI sK ?_ | (refine yI ?_ ?_; focus exact sY) | (refine nI ?_ ?_; focus exact sY) | intro _); conv => whnf)
      try (refine dI sK ?_; conv => whnf)
      first | refine u0 hft ?_ | refine v0 hft ?_
      rintro _ _ ⟨rfl, rfl⟩ _
      conv => whnf
      repeat ((first | (refine aI ?_ ?_; focus exact sI) | refine dI sK ?_ | (refine yI ?_ ?_; focus exact sY) | (refine nI ?_ ?_; focus exact sY) | intro _); conv => whnf)
      rw [ev]
      (refine yI ?_ ?_; (focus exact sY); conv => whnf)
      repeat ((first | (refine aI ?_ ?_; focus exact sI) | refine dI sK ?_ | (refine yI ?_ ?_; focus exact sY) | (refine nI ?_ ?_; focus exact sY) | intro _); conv => whnf)
      all_goals exact sR
   ·rw [if_pos (show (Term.mk v1 v2 v3 v4, e2).2 ≠ 0 from he2)]
    have ev : decide (e2 = 0) = false := decide_eq_false he2
    refine call_pure (E := envC6 0) (fn := Tryz.f48) (c := bodyOf Tryz.f48) (envC6_ok 0) mixed sK sK sK sK sK sK rfl ?_
    refine aw_cut _ _ rfl fun C hC => ?_
    conv => whnf
    repeat ((first | (refine aI ?_ ?_; focus exact sI) | refine dI sK ?_ | (refine yI ?_ ?_; focus exact sY) | (refine nI ?_ ?_; focus exact sY) | intro _); conv => whnf)
    subst hC
    refine aw_cut _ _ rfl fun C hC => ?_
    conv => whnf
    repeat ((first | (refine aI ?_ ?_; focus exact sI) | refine dI sK ?_ | (refine yI ?_ ?_; focus exact sY) | (refine nI ?_ ?_; focus exact sY) | intro _); conv => whnf)
    rw [e]
    (refine nI ?_ ?_; (focus exact sY); conv => whnf)
    repeat ((first | (refine aI ?_ ?_; focus exact sI) | refine dI sK ?_ | (refine yI ?_ ?_; focus exact sY) | (refine nI ?_ ?_; focus exact sY) | intro _); conv => whnf)
    try (refine dI sK ?_; conv => whnf)
    first | refine u0 hf ?_ | refine v0 hf ?_
    rintro _ _ ⟨rfl, rfl⟩ _
    conv => whnf
    repeat ((first | (refine aI ?_ ?_; focus exact sI) | refine dI sK ?_ | (refine yI ?_ ?_; focus exact sY) | (refine nI ?_ ?_; focus exact sY) | intro _); conv => whnf)
    subst hC
    conv => whnf
    repeat ((first | (refine aI ?_ ?_; focus exact sI) | refine dI sK ?_ | (refine yI ?_ ?_; focus exact sY) | (refine nI ?_ ?_; focus exact sY) | intro _); conv => whnf)
    refine ⟨_, ⟨by omega, hdc⟩, ?_⟩
    conv => whnf
    refine ⟨show 4 ≤ 5 by decide, ?_⟩
    conv => whnf
    (refine And.intro ?_ ?_ <;> conv => whnf)
    all_goals
     repeat ((first | (refine aI ?_ ?_; focus exact sI) | refine dI sK ?_ | (refine yI ?_ ?_; focus exact sY) | (refine nI ?_ ?_; focus exact sY) | intro _); conv => whnf)
     try (refine dI sK ?_; conv => whnf)
     first | refine u0 hft ?_ | refine v0 hft ?_
     rintro _ _ ⟨rfl, rfl⟩ _
     conv => whnf
     repeat ((first | (refine aI ?_ ?_; focus exact sI) | refine dI sK ?_ | (refine yI ?_ ?_; focus exact sY) | (refine nI ?_ ?_; focus exact sY) | intro _); conv => whnf)
     rw [ev]
     (refine nI ?_ ?_; (focus exact sY); conv => whnf)
     repeat ((first | (refine aI ?_ ?_; focus exact sI) | refine dI sK ?_ | (refine yI ?_ ?_; focus exact sY) | (refine nI ?_ ?_; focus exact sY) | intro _); conv => whnf)
     all_goals exact sR
  | false =>
   rw [hk] at hf
   rw [if_neg (by decide)]
   refine call_pure (E := envC6 0) (fn := Tryz.f48) (c := bodyOf Tryz.f48) (envC6_ok 0) mixed sK sK sK sK sK sK rfl ?_
   refine aw_cut _ _ rfl fun C hC => ?_
   conv => whnf
   repeat ((first | (refine aI ?_ ?_; focus exact sI) | refine dI sK ?_ | (refine yI ?_ ?_; focus exact sY) | (refine nI ?_ ?_; focus exact sY) | intro _); conv => whnf)
   subst hC
   refine aw_cut _ _ rfl fun C hC => ?_
   conv => whnf
   repeat ((first | (refine aI ?_ ?_; focus exact sI) | refine dI sK ?_ | (refine yI ?_ ?_; focus exact sY) | (refine nI ?_ ?_; focus exact sY) | intro _); conv => whnf)
   rw [e]
   (refine nI ?_ ?_; (focus exact sY); conv => whnf)
   repeat ((first | (refine aI ?_ ?_; focus exact sI) | refine dI sK ?_ | (refine yI ?_ ?_; focus exact sY) | (refine nI ?_ ?_; focus exact sY) | intro _); conv => whnf)
   try (refine dI sK ?_; conv => whnf)
   first | refine u0 hf ?_ | refine v0 hf ?_
   rintro _ _ ⟨rfl, rfl⟩ _
   conv => whnf
   repeat ((first | (refine aI ?_ ?_; focus exact sI) | refine dI sK ?_ | (refine yI ?_ ?_; focus exact sY) | (refine nI ?_ ?_; focus exact sY) | intro _); conv => whnf)
   subst hC
   repeat ((first | (refine aI ?_ ?_; focus exact sI) | refine dI sK ?_ | (refine yI ?_ ?_; focus exact sY) | (refine nI ?_ ?_; focus exact sY) | intro _); conv => whnf)
   all_goals exact sR
 ·have e : decide (((dcs K.sig).length : Int) ≤ (q : Int)) = true := decide_eq_true (by omega)
  rw [List.getElem?_eq_none (by omega)]
  simp only
  refine call_pure (E := envC6 0) (fn := Tryz.f48) (c := bodyOf Tryz.f48) (envC6_ok 0) mixed sK sK sK sK sK sK rfl ?_
  refine aw_cut _ _ rfl fun C hC => ?_
  conv => whnf
  repeat ((first | (refine aI ?_ ?_; focus exact sI) | refine dI sK ?_ | (refine yI ?_ ?_; focus exact sY) | (refine nI ?_ ?_; focus exact sY) | intro _); conv => whnf)
  subst hC
  refine aw_cut _ _ rfl fun C hC => ?_
  conv => whnf
  repeat ((first | (refine aI ?_ ?_; focus exact sI) | refine dI sK ?_ | (refine yI ?_ ?_; focus exact sY) | (refine nI ?_ ?_; focus exact sY) | intro _); conv => whnf)
  rw [e]
  (refine yI ?_ ?_; (focus exact sY); conv => whnf)
  subst hC
  repeat ((first | (refine aI ?_ ?_; focus exact sI) | refine dI sK ?_ | (refine yI ?_ ?_; focus exact sY) | (refine nI ?_ ?_; focus exact sY) | intro _); conv => whnf)
  all_goals exact sR
set_option maxHeartbeats 1000000 in
theorem cSType (K : Krn) (hK : KOk K) (a : Term) : prop a = true → STypOk Tryz.prog 48 K a := by
 induction a using Term.ind with
 | _ a ih =>
 intro ha
 obtain ⟨k, l, n, ts⟩ := a
 by_cases hk2 : k = 2
 ·subst hk2
  obtain ⟨A, B, rfl, rfl, rfl, hA, hB⟩ := prop_pi6 ha
  intro cx hc
  have hp := cSPi0 K A B hA (ih A (by simp [Term.ts]) hA) (ih B (by simp [Term.ts]) hB) cx hc
  rw [tv_mk] at hp ⊢
  refine call_pure (E := envC6 0) (fn := Tryz.f48) (c := bodyOf Tryz.f48) (envC6_ok 0) mixed sK sK sK sK sK sK rfl ?_
  refine aw_cut _ _ rfl fun C hC => ?_
  conv => whnf
  repeat ((first | (refine aI ?_ ?_; focus exact sI) | refine dI sK ?_ | (refine yI ?_ ?_; focus exact sY) | (refine nI ?_ ?_; focus exact sY) | intro _); conv => whnf)
  subst hC
  refine aw_cut _ _ rfl fun C hC => ?_
  conv => whnf
  repeat ((first | (refine aI ?_ ?_; focus exact sI) | refine dI sK ?_ | (refine yI ?_ ?_; focus exact sY) | (refine nI ?_ ?_; focus exact sY) | intro _); conv => whnf)
  try (refine dI sK ?_; conv => whnf)
  first | refine u0 hp ?_ | refine v0 hp ?_
  rintro _ _ ⟨rfl, rfl⟩ _
  conv => whnf
  subst hC
  repeat ((first | (refine aI ?_ ?_; focus exact sI) | refine dI sK ?_ | (refine yI ?_ ?_; focus exact sY) | (refine nI ?_ ?_; focus exact sY) | intro _); conv => whnf)
  all_goals exact sR
 ·have e2 : decide (k = 2) = false := decide_eq_false hk2
  by_cases h4 : k = 4 ∧ l = 2
  ·obtain ⟨rfl, rfl⟩ := h4
   exact cSTypeA K hK n ts ha
  ·intro cx hc
   have hE : typF K (.mk k l n ts) cx = 22 := by
    rw [typF.eq_def]
    simp only
    rw [if_neg hk2, if_neg h4]
   rw [hE, tv_mk]
   clear hE
   by_cases hk4 : k = 4
   ·subst hk4
    have el : decide (l = 2) = false := decide_eq_false fun h => h4 ⟨rfl, h⟩
    refine call_pure (E := envC6 0) (fn := Tryz.f48) (c := bodyOf Tryz.f48) (envC6_ok 0) mixed sK sK sK sK sK sK rfl ?_
    refine aw_cut _ _ rfl fun C hC => ?_
    conv => whnf
    repeat ((first | (refine aI ?_ ?_; focus exact sI) | refine dI sK ?_ | (refine yI ?_ ?_; focus exact sY) | (refine nI ?_ ?_; focus exact sY) | intro _); conv => whnf)
    subst hC
    refine aw_cut _ _ rfl fun C hC => ?_
    conv => whnf
    repeat ((first | (refine aI ?_ ?_; focus exact sI) | refine dI sK ?_ | (refine yI ?_ ?_; focus exact sY) | (refine nI ?_ ?_; focus exact sY) | intro _); conv => whnf)
    rw [el]
    (refine yI ?_ ?_; (focus exact sY); conv => whnf)
    subst hC
    repeat ((first | (refine aI ?_ ?_; focus exact sI) | refine dI sK ?_ | (refine yI ?_ ?_; focus exact sY) | (refine nI ?_ ?_; focus exact sY) | intro _); conv => whnf)
    all_goals exact sR
   ·have e4 : decide (k = 4) = false := decide_eq_false hk4
    refine call_pure (E := envC6 0) (fn := Tryz.f48) (c := bodyOf Tryz.f48) (envC6_ok 0) mixed sK sK sK sK sK sK rfl ?_
    refine aw_cut _ _ rfl fun C hC => ?_
    conv => whnf
    repeat ((first | (refine aI ?_ ?_; focus exact sI) | refine dI sK ?_ | (refine yI ?_ ?_; focus exact sY) | (refine nI ?_ ?_; focus exact sY) | intro _); conv => whnf)
    subst hC
    refine aw_cut _ _ rfl fun C hC => ?_
    conv => whnf
    repeat ((first | (refine aI ?_ ?_; focus exact sI) | refine dI sK ?_ | (refine yI ?_ ?_; focus exact sY) | (refine nI ?_ ?_; focus exact sY) | intro _); conv => whnf)
    rw [e2]
    (refine nI ?_ ?_; (focus exact sY); conv => whnf)
    repeat ((first | (refine aI ?_ ?_; focus exact sI) | refine dI sK ?_ | (refine yI ?_ ?_; focus exact sY) | (refine nI ?_ ?_; focus exact sY) | intro _); conv => whnf)
    rw [e4]
    (refine yI ?_ ?_; (focus exact sY); conv => whnf)
    subst hC
    repeat ((first | (refine aI ?_ ?_; focus exact sI) | refine dI sK ?_ | (refine yI ?_ ?_; focus exact sY) | (refine nI ?_ ?_; focus exact sY) | intro _); conv => whnf)
    all_goals exact sR
theorem cSKind (K : Krn) (hK : KOk K) (a : Term) : prop a = true → SKndOk Tryz.prog 57 K a := by
 induction a using Term.ind with
 | _ a ih =>
 intro ha
 obtain ⟨k, l, n, ts⟩ := a
 intro cx hc
 by_cases hk1 : k = 1
 ·subst hk1
  rw [show kndF K (.mk 1 l n ts) cx = 0 by rw [kndF.eq_def]; rfl, tv_mk]
  refine call_pure (E := envC6 0) (fn := Tryz.f57) (c := bodyOf Tryz.f57) (envC6_ok 0) mixed sK sK sK sK sK sK rfl ?_
  refine aw_cut _ _ rfl fun C hC => ?_
  conv => whnf
  repeat ((first | (refine aI ?_ ?_; focus exact sI) | refine dI sK ?_ | (refine yI ?_ ?_; focus exact sY) | (refine nI ?_ ?_; focus exact sY) | intro _); conv => whnf)
  subst hC
  refine aw_cut _ _ rfl fun C hC => ?_
  conv => whnf
  repeat ((first | (refine aI ?_ ?_; focus exact sI) | refine dI sK ?_ | (refine yI ?_ ?_; focus exact sY) | (refine nI ?_ ?_; focus exact sY) | intro _); conv => whnf)
  subst hC
  repeat ((first | (refine aI ?_ ?_; focus exact sI) | refine dI sK ?_ | (refine yI ?_ ?_; focus exact sY) | (refine nI ?_ ?_; focus exact sY) | intro _); conv => whnf)
  all_goals exact sR
 ·have e1 : decide (k = 1) = false := decide_eq_false hk1
  by_cases hk2 : k = 2
  ·subst hk2
   obtain ⟨A, B, rfl, rfl, rfl, hA, hB⟩ := prop_pi6 ha
   have hp := cSPi1 K A B hA (cSType K hK A hA) (ih B (by simp [Term.ts]) hB) cx hc
   rw [tv_mk] at hp ⊢
   refine call_pure (E := envC6 0) (fn := Tryz.f57) (c := bodyOf Tryz.f57) (envC6_ok 0) mixed sK sK sK sK sK sK rfl ?_
   refine aw_cut _ _ rfl fun C hC => ?_
   conv => whnf
   repeat ((first | (refine aI ?_ ?_; focus exact sI) | refine dI sK ?_ | (refine yI ?_ ?_; focus exact sY) | (refine nI ?_ ?_; focus exact sY) | intro _); conv => whnf)
   subst hC
   refine aw_cut _ _ rfl fun C hC => ?_
   conv => whnf
   repeat ((first | (refine aI ?_ ?_; focus exact sI) | refine dI sK ?_ | (refine yI ?_ ?_; focus exact sY) | (refine nI ?_ ?_; focus exact sY) | intro _); conv => whnf)
   try (refine dI sK ?_; conv => whnf)
   first | refine u0 hp ?_ | refine v0 hp ?_
   rintro _ _ ⟨rfl, rfl⟩ _
   conv => whnf
   subst hC
   repeat ((first | (refine aI ?_ ?_; focus exact sI) | refine dI sK ?_ | (refine yI ?_ ?_; focus exact sY) | (refine nI ?_ ?_; focus exact sY) | intro _); conv => whnf)
   all_goals exact sR
  ·have e2 : decide (k = 2) = false := decide_eq_false hk2
   have hE : kndF K (.mk k l n ts) cx = 22 := by
    rw [kndF.eq_def]
    simp only
    rw [if_neg hk1, if_neg hk2]
   rw [hE, tv_mk]
   refine call_pure (E := envC6 0) (fn := Tryz.f57) (c := bodyOf Tryz.f57) (envC6_ok 0) mixed sK sK sK sK sK sK rfl ?_
   refine aw_cut _ _ rfl fun C hC => ?_
   conv => whnf
   repeat ((first | (refine aI ?_ ?_; focus exact sI) | refine dI sK ?_ | (refine yI ?_ ?_; focus exact sY) | (refine nI ?_ ?_; focus exact sY) | intro _); conv => whnf)
   subst hC
   refine aw_cut _ _ rfl fun C hC => ?_
   conv => whnf
   repeat ((first | (refine aI ?_ ?_; focus exact sI) | refine dI sK ?_ | (refine yI ?_ ?_; focus exact sY) | (refine nI ?_ ?_; focus exact sY) | intro _); conv => whnf)
   rw [e1]
   (refine nI ?_ ?_; (focus exact sY); conv => whnf)
   repeat ((first | (refine aI ?_ ?_; focus exact sI) | refine dI sK ?_ | (refine yI ?_ ?_; focus exact sY) | (refine nI ?_ ?_; focus exact sY) | intro _); conv => whnf)
   rw [e2]
   (refine nI ?_ ?_; (focus exact sY); conv => whnf)
   subst hC
   repeat ((first | (refine aI ?_ ?_; focus exact sI) | refine dI sK ?_ | (refine yI ?_ ?_; focus exact sY) | (refine nI ?_ ?_; focus exact sY) | intro _); conv => whnf)
   all_goals exact sR
end Go.Tr
