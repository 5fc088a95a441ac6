/- What each function computes, and the plain laws of it. -/
import Derived.Test.YtdclcamgmepjpaaTrX0bfecd31
set_option linter.unusedVariables false
set_option linter.unusedSimpArgs false
set_option linter.unnecessarySimpa false
set_option autoImplicit false
/- cert: a node that is read. -/
namespace Go.Tr
open Go.Proofs
theorem eRow {T a b : Nat} {x y : List (List CV)} (h : x = y) : some (Ent.row T a b x) = some (Ent.row T a b y) := by rw [h]
def szN (t : Term) : Nat := (szT t).toNat
def rdArgs (N : List Term) : Nat → List UInt8 → List Term → Option (List Term × List UInt8)
  | 0, l, acc => some (acc, l)
  | c + 1, l, acc => match rdNum l 1 0 with
    | some (q, m) => (match (if q < N.length then N[N.length - 1 - q]? else none) with
      | some u => if 1 + szL (acc ++ [u]) ≤ 600 then rdArgs N c m (acc ++ [u]) else none
      | none => none)
    | none => none
/-- What is read behind a node's head. -/
def rdRest (k h n : Nat) (l : List UInt8) (N : List Term) : Option (Term × List UInt8) := match rdCount l with
  | some (c, m) => (match rdArgs N c m [] with
    | some (us, m2) => some (.mk k h n us, m2)
    | none => none)
  | none => none
/-- A node that is read. -/
def rdNode (l : List UInt8) (N : List Term) : Option (Term × List UInt8) := match l with
  | [] => none
  | b :: l1 => if b.toNat % 8 = 4 then (match rdNum l1 1 0 with
      | some (n, l2) => rdRest (b.toNat % 8) (b.toNat / 8) n l2 N
      | none => none)
    else rdRest (b.toNat % 8) (b.toNat / 8) 0 l1 N
set_option maxHeartbeats 4000000 in
theorem cRdNode (l : List UInt8) (N : List Term) (hl : l.length ≤ 1000000) (hN : ∀ t ∈ N, szT t ≤ 600) (hNl : N.length ≤ 900000) : CallPt Try.prog 55 [.ptr 0 0] (rdH l N (N.map szN))
    (fun r H' => ∃ t m, rdNode l N = some (t, m) ∧ r = tv t ∧ H' = [.box [.c (.str (sB m)), .own 3, .own 4], .dead, .dead, .row 25 4 48 (tcs (N ++ [t])), .row 3 1 8 (rowN ((N ++ [t]).map szN)), .box [.c (.int .i64 (t.k)), .c (.int .i64 (t.l)), .c (.int .i64 (t.n)), .own 6], .frz (.sl 4 48 (tcs t.ts))])
    (fun x H' => (x = trb ∧ rdNode l N = none) ∧ H' = dead3) := by
  have hn0 := cNext l N (N.map szN) hl
  have hlt := len_tcs N
  refine call_pan (E := env 3) (fn := Try.f55) (c := bodyOf Try.f55) (env_ok 3) mixed (by kernel_rfl) (by kernel_rfl) (by kernel_rfl) (by kernel_rfl) (by kernel_rfl) (by kernel_rfl) rfl .v ?_
  refine aw_cut _ _ rfl fun C hC => ?_
  conv => whnf
  subst hC
  refine aw_cut _ _ rfl fun C hC => ?_
  conv => whnf
  try (refine draw_intro true (by kernel_rfl) ?_; conv => whnf)
  refine CallPt.use hn0 [0, 1, 2] ⟨rfl, rfl, rfl, trivial⟩ (by decide) rfl ?_ ?_
  (focus (rintro x _ hx _; (conv => whnf); exact ⟨hx.1.1, by rw [hx.1.2]; rfl⟩))
  rintro _ _ ⟨b, l1, rfl, rfl, rfl⟩ _
  conv => whnf
  have hbl := b.toNat_lt
  simp only [List.length_cons] at hl
  have e1 : ((b.toNat : Int)).tmod 8 = ((b.toNat % 8 : Nat) : Int) := by rw [Int.tmod_eq_emod_of_nonneg (by omega)]; omega
  have e2 : ((b.toNat : Int)).tdiv 8 = ((b.toNat / 8 : Nat) : Int) := by rw [Int.tdiv_eq_ediv_of_nonneg (by omega)]; omega
  subst hC
  refine aw_cut _ _ rfl fun C hC => ?_
  conv => whnf
  refine ⟨show (8 : Int) ≠ 0 by decide, ?_⟩
  conv => whnf
  rw [e1]
  refine ⟨by rw [e2]; exact ⟨by omega, by omega, by omega⟩, ?_⟩
  conv => whnf
  rw [e2]
  repeat (first | (refine And.intro rfl ?_; conv => whnf) | (refine And.intro (by decide) ?_; conv => whnf) | (refine draw_intro true (by kernel_rfl) ?_; conv => whnf) | (refine And.intro ⟨by omega, by omega⟩ ?_; conv => whnf) | (refine And.intro (by omega) ?_; conv => whnf) | (refine And.intro (fun _ => ⟨by omega, by omega⟩) ?_; conv => whnf) | (refine And.intro (of_decide_eq_true rfl) ?_; conv => whnf) | (refine And.intro (fun _ => ?_) (fun h => absurd h ?_); rotate_left; (focus (first | decide | (simp; done) | (simp [tcs]; done))); conv => whnf) | (refine And.intro (fun h => absurd h ?_) (fun _ => ?_); (focus (first | decide | (simp; done) | (simp [tcs]; done))); conv => whnf) | (intro _; conv => whnf))
  subst hC
  refine aw_cut _ _ rfl fun C hC => ?_
  conv => whnf
  have hC1 := hC
  generalize hk0 : b.toNat % 8 = kk at *
  generalize hh0 : b.toNat / 8 = hh at *
  have eR : rdNode (b :: l1) N = if kk = 4 then (match rdNum l1 1 0 with | some (n, l2) => rdRest kk hh n l2 N | none => none) else rdRest kk hh 0 l1 N := by rw [← hk0, ← hh0]; rfl
  have hnm := cRdNumber l1 N (N.map szN) (by omega)
  refine ⟨fun hk4 => ?_, fun hk4 => ?_⟩
  · replace hk4 : kk = 4 := by have := of_decide_eq_true hk4; omega
    rw [if_pos hk4] at eR
    conv => whnf
    try (refine draw_intro true (by kernel_rfl) ?_; conv => whnf)
    refine CallPt.use hnm [0, 1, 2] ⟨rfl, rfl, rfl, trivial⟩ (by decide) rfl ?_ ?_
    (focus (rintro x _ hx _; (conv => whnf); exact ⟨hx.1.1, by rw [eR, hx.1.2]⟩))
    rintro _ _ ⟨n, l2, hR1, rfl, rfl⟩ _
    conv => whnf
    have hln := rdNum_len _ _ _ _ _ hR1
    rw [hR1] at eR
    simp only at eR
    repeat (first | (refine And.intro rfl ?_; conv => whnf) | (refine And.intro (by decide) ?_; conv => whnf) | (refine draw_intro true (by kernel_rfl) ?_; conv => whnf) | (refine And.intro ⟨by omega, by omega⟩ ?_; conv => whnf) | (refine And.intro (by omega) ?_; conv => whnf) | (refine And.intro (fun _ => ⟨by omega, by omega⟩) ?_; conv => whnf) | (refine And.intro (of_decide_eq_true rfl) ?_; conv => whnf) | (refine And.intro (fun _ => ?_) (fun h => absurd h ?_); rotate_left; (focus (first | decide | (simp; done) | (simp [tcs]; done))); conv => whnf) | (refine And.intro (fun h => absurd h ?_) (fun _ => ?_); (focus (first | decide | (simp; done) | (simp [tcs]; done))); conv => whnf) | (intro _; conv => whnf))
    subst hC
    refine aw_cut _ _ rfl fun C hC => ?_
    conv => whnf
    have hcn := cRdCount l2 N (N.map szN) (by omega)
    subst hC
    refine aw_cut _ _ rfl fun C hC => ?_
    conv => whnf
    try (refine draw_intro true (by kernel_rfl) ?_; conv => whnf)
    refine CallPt.use hcn [0, 1, 2] ⟨rfl, rfl, rfl, trivial⟩ (by decide) rfl ?_ ?_
    (focus (rintro x _ hx _; (conv => whnf); exact ⟨hx.1.1, by rw [eR]; unfold rdRest; rw [hx.1.2]⟩))
    rintro _ _ ⟨c, l3, hR2, rfl, rfl⟩ _
    conv => whnf
    obtain ⟨hc1, hc2⟩ := rdCount_le hR2
    have eR2 : rdNode (b :: l1) N = match rdArgs N c l3 [] with | some (us, m2) => some (.mk kk hh n us, m2) | none => none := by rw [eR]; unfold rdRest; rw [hR2]
    rw [eR2]
    clear eR eR2 hcn
    generalize hRR : rdArgs N c l3 [] = R at *
    repeat (first | (refine And.intro rfl ?_; conv => whnf) | (refine And.intro (by decide) ?_; conv => whnf) | (refine draw_intro true (by kernel_rfl) ?_; conv => whnf) | (refine And.intro ⟨by omega, by omega⟩ ?_; conv => whnf) | (refine And.intro (by omega) ?_; conv => whnf) | (refine And.intro (fun _ => ⟨by omega, by omega⟩) ?_; conv => whnf) | (refine And.intro (of_decide_eq_true rfl) ?_; conv => whnf) | (refine And.intro (fun _ => ?_) (fun h => absurd h ?_); rotate_left; (focus (first | decide | (simp; done) | (simp [tcs]; done))); conv => whnf) | (refine And.intro (fun h => absurd h ?_) (fun _ => ?_); (focus (first | decide | (simp; done) | (simp [tcs]; done))); conv => whnf) | (intro _; conv => whnf))
    refine loop_intro (fun q tm H => ∃ (j : Nat) (l' : List UInt8) (acc : List Term), c = q + j ∧ acc.length = j ∧ l'.length ≤ 1000000 ∧ 1 + szL acc ≤ 600 ∧ rdArgs N q l' acc = R ∧
        tm = [(22, .c (.int .i64 (j))), (21, .c (.int .i64 (c))), (5, .c (.int .i64 (1 + szL acc))), (4, .ptr 4 0), (2, .ptr 3 0), (0, .ptr 0 0)] ∧
        H = [.box [.c (.str (sB l')), .own 5, .own 6], .dead, .dead, .box [.c (.int .i64 (0)), .c (.int .i64 (0)), .c (.int .i64 (0)), .nil], .box [.c (.int .i64 (kk)), .c (.int .i64 (hh)), .c (.int .i64 (n)), .own 7], .row 25 4 48 (tcs N), .row 3 1 8 (rowN (N.map szN)), .row 25 4 48 (tcs acc)])
      c _ _ ⟨0, l3, [], by omega, rfl, by omega, by simp [szL], hRR, rfl, rfl⟩ ?_ ?_
    · refine Wk.trans (Wk.mvbox 0 1 1 25 4 48 (tcs N) rfl rfl rfl rfl) ?_
      refine Wk.trans (Wk.mvbox 0 2 2 3 1 8 (rowN (N.map szN)) rfl rfl rfl rfl) ?_
      refine Wk.trans (Wk.nilrow (i := 4) (j := 3) 25 4 48 rfl rfl rfl) ?_
      exact Wk.sel [0, 1, 2, 3, 4, 5, 6, 7] (by decide) (by first | decide | (show (0 : Nat) ≤ _; decide) | (show ∀ i, i < 0 → _; decide) | (show (1 : Nat) ≤ _; decide) | (show ∀ i, i < 1 → _; decide) | (show (2 : Nat) ≤ _; decide) | (show ∀ i, i < 2 → _; decide) | (show (3 : Nat) ≤ _; decide) | (show ∀ i, i < 3 → _; decide) | (show (4 : Nat) ≤ _; decide) | (show ∀ i, i < 4 → _; decide) | (show (5 : Nat) ≤ _; decide) | (show ∀ i, i < 5 → _; decide) | (show (6 : Nat) ≤ _; decide) | (show ∀ i, i < 6 → _; decide) | (show (7 : Nat) ≤ _; decide) | (show ∀ i, i < 7 → _; decide)) (by first | decide | (show (0 : Nat) ≤ _; decide) | (show ∀ i, i < 0 → _; decide) | (show (1 : Nat) ≤ _; decide) | (show ∀ i, i < 1 → _; decide) | (show (2 : Nat) ≤ _; decide) | (show ∀ i, i < 2 → _; decide) | (show (3 : Nat) ≤ _; decide) | (show ∀ i, i < 3 → _; decide) | (show (4 : Nat) ≤ _; decide) | (show ∀ i, i < 4 → _; decide) | (show (5 : Nat) ≤ _; decide) | (show ∀ i, i < 5 → _; decide) | (show (6 : Nat) ≤ _; decide) | (show ∀ i, i < 6 → _; decide) | (show (7 : Nat) ≤ _; decide) | (show ∀ i, i < 7 → _; decide)) ⟨rfl, rfl, rfl, rfl, rfl, rfl, rfl, rfl, trivial⟩ ⟨rfl, rfl, rfl, rfl, rfl, rfl, trivial⟩ rfl
    rintro q tm H ⟨j, l', acc, hj, hacc, hl', hsa, hRm, rfl, rfl⟩
    have hla := len_tcs acc
    have hsn := szL_pos acc
    have hb1 : ((tcs acc).length + 1) * 48 ≤ 140737488355328 := by have := szL_len acc; omega
    have hb2 : (tcs acc).length + 1 ≤ 9223372036854775807 := by have := szL_len acc; omega
    have hnm2 := cRdNumber l' N (N.map szN) hl'
    conv => whnf
    refine ⟨fun hc => ?_, fun hc => ?_⟩
    · replace hc : (j : Int) < c := of_decide_eq_true hc
      obtain ⟨q2, rfl⟩ : ∃ q2, q = q2 + 1 := ⟨q - 1, by omega⟩
      rw [rdArgs] at hRm
      cases hR1 : rdNum l' 1 0 with
      | none =>
        rw [hR1] at hRm hnm2
        conv => whnf
        refine draw_intro false (by kernel_rfl) ?_
        conv => whnf
        (refine And.intro ?_ ?_ <;> conv => whnf)
        · repeat (first | (refine And.intro rfl ?_; conv => whnf) | (refine And.intro (by decide) ?_; conv => whnf) | (refine draw_intro true (by kernel_rfl) ?_; conv => whnf) | (refine And.intro ⟨by omega, by omega⟩ ?_; conv => whnf) | (refine And.intro (by omega) ?_; conv => whnf) | (refine And.intro (fun _ => ⟨by omega, by omega⟩) ?_; conv => whnf) | (refine And.intro (of_decide_eq_true rfl) ?_; conv => whnf) | (refine And.intro (fun _ => ?_) (fun h => absurd h ?_); rotate_left; (focus (first | decide | (simp; done) | (simp [tcs]; done))); conv => whnf) | (refine And.intro (fun h => absurd h ?_) (fun _ => ?_); (focus (first | decide | (simp; done) | (simp [tcs]; done))); conv => whnf) | (intro _; conv => whnf))
          try (refine draw_intro true (by kernel_rfl) ?_; conv => whnf)
          refine CallPt.use hnm2 [0, 5, 6] ⟨rfl, rfl, rfl, trivial⟩ (by decide) rfl ?_ ?_
          (focus (rintro x _ hx _; (conv => whnf); exact ⟨hx.1.1, by rw [← hRm]⟩))
          rintro _ _ ⟨_, _, h, _⟩ _
          conv => whnf
          cases h
        · try (refine draw_intro true (by kernel_rfl) ?_; conv => whnf)
          refine CallPt.use hnm2 [0, 5, 6] ⟨rfl, rfl, rfl, trivial⟩ (by decide) rfl ?_ ?_
          (focus (rintro x _ hx _; (conv => whnf); exact ⟨hx.1.1, by rw [← hRm]⟩))
          rintro _ _ ⟨_, _, h, _⟩ _
          conv => whnf
          cases h
      | some p =>
        obtain ⟨qv, m⟩ := p
        have hql := rdNum_len _ _ _ _ _ hR1
        have hqb := rdNum_le _ _ _ _ _ (by omega) hR1
        rw [hR1] at hRm hnm2
        simp only at hRm
        have hnm3 : CallPt Try.prog 71 [.ptr 0 0] (rdH l' N (N.map szN)) (fun r H' => r = .c (.int .i64 ((qv : Nat))) ∧ H' = rdH m N (N.map szN)) (fun x H' => (x = trb ∧ some (qv, m) = none) ∧ H' = dead3) := by
          refine CallPt.mono hnm2 ?_ (fun _ _ h => h)
          rintro r H' ⟨n', m', h, rfl, rfl⟩
          injection h with h
          injection h with h1 h2
          subst h1 h2
          exact ⟨rfl, rfl⟩
        clear hnm2
        conv => whnf
        refine draw_wk [(6, .c (.int .i64 (((tcs N).length : Int) - 1 - (qv : Int)))), (22, .c (.int .i64 (j))), (21, .c (.int .i64 (c))), (5, .c (.int .i64 (1 + szL acc))), (4, .ptr 4 0), (2, .ptr 3 0), (0, .ptr 0 0)]
          [.box [.c (.str (sB m)), .own 5, .own 6], .dead, .dead, .box [.c (.int .i64 (0)), .c (.int .i64 (0)), .c (.int .i64 (0)), .nil], .box [.c (.int .i64 (kk)), .c (.int .i64 (hh)), .c (.int .i64 (n)), .own 7], .row 25 4 48 (tcs N), .row 3 1 8 (rowN (N.map szN)), .row 25 4 48 (tcs acc)] ?_ ?_
        · refine draw_intro false (by kernel_rfl) ?_
          conv => whnf
          (refine And.intro ?_ ?_ <;> conv => whnf)
          · repeat (first | (refine And.intro rfl ?_; conv => whnf) | (refine And.intro (by decide) ?_; conv => whnf) | (refine draw_intro true (by kernel_rfl) ?_; conv => whnf) | (refine And.intro ⟨by omega, by omega⟩ ?_; conv => whnf) | (refine And.intro (by omega) ?_; conv => whnf) | (refine And.intro (fun _ => ⟨by omega, by omega⟩) ?_; conv => whnf) | (refine And.intro (of_decide_eq_true rfl) ?_; conv => whnf) | (refine And.intro (fun _ => ?_) (fun h => absurd h ?_); rotate_left; (focus (first | decide | (simp; done) | (simp [tcs]; done))); conv => whnf) | (refine And.intro (fun h => absurd h ?_) (fun _ => ?_); (focus (first | decide | (simp; done) | (simp [tcs]; done))); conv => whnf) | (intro _; conv => whnf))
            try (refine draw_intro true (by kernel_rfl) ?_; conv => whnf)
            refine CallPt.use hnm3 [0, 5, 6] ⟨rfl, rfl, rfl, trivial⟩ (by decide) rfl ?_ ?_
            (focus (rintro x _ hx _; (conv => whnf); exact absurd hx.1.2 (by simp)))
            rintro _ _ ⟨rfl, rfl⟩ _
            conv => whnf
            repeat (first | (refine And.intro rfl ?_; conv => whnf) | (refine And.intro (by decide) ?_; conv => whnf) | (refine draw_intro true (by kernel_rfl) ?_; conv => whnf) | (refine And.intro ⟨by omega, by omega⟩ ?_; conv => whnf) | (refine And.intro (by omega) ?_; conv => whnf) | (refine And.intro (fun _ => ⟨by omega, by omega⟩) ?_; conv => whnf) | (refine And.intro (of_decide_eq_true rfl) ?_; conv => whnf) | (refine And.intro (fun _ => ?_) (fun h => absurd h ?_); rotate_left; (focus (first | decide | (simp; done) | (simp [tcs]; done))); conv => whnf) | (refine And.intro (fun h => absurd h ?_) (fun _ => ?_); (focus (first | decide | (simp; done) | (simp [tcs]; done))); conv => whnf) | (intro _; conv => whnf))
            exact Wk.sel [0, 1, 2, 3, 4, 5, 6, 7] (by decide) (by first | decide | (show (0 : Nat) ≤ _; decide) | (show ∀ i, i < 0 → _; decide) | (show (1 : Nat) ≤ _; decide) | (show ∀ i, i < 1 → _; decide) | (show (2 : Nat) ≤ _; decide) | (show ∀ i, i < 2 → _; decide) | (show (3 : Nat) ≤ _; decide) | (show ∀ i, i < 3 → _; decide) | (show (4 : Nat) ≤ _; decide) | (show ∀ i, i < 4 → _; decide) | (show (5 : Nat) ≤ _; decide) | (show ∀ i, i < 5 → _; decide) | (show (6 : Nat) ≤ _; decide) | (show ∀ i, i < 6 → _; decide) | (show (7 : Nat) ≤ _; decide) | (show ∀ i, i < 7 → _; decide)) (by first | decide | (show (0 : Nat) ≤ _; decide) | (show ∀ i, i < 0 → _; decide) | (show (1 : Nat) ≤ _; decide) | (show ∀ i, i < 1 → _; decide) | (show (2 : Nat) ≤ _; decide) | (show ∀ i, i < 2 → _; decide) | (show (3 : Nat) ≤ _; decide) | (show ∀ i, i < 3 → _; decide) | (show (4 : Nat) ≤ _; decide) | (show ∀ i, i < 4 → _; decide) | (show (5 : Nat) ≤ _; decide) | (show ∀ i, i < 5 → _; decide) | (show (6 : Nat) ≤ _; decide) | (show ∀ i, i < 6 → _; decide) | (show (7 : Nat) ≤ _; decide) | (show ∀ i, i < 7 → _; decide)) ⟨rfl, rfl, rfl, rfl, rfl, rfl, rfl, rfl, trivial⟩ ⟨rfl, rfl, rfl, rfl, rfl, rfl, rfl, trivial⟩ rfl
          · try (refine draw_intro true (by kernel_rfl) ?_; conv => whnf)
            refine CallPt.use hnm3 [0, 5, 6] ⟨rfl, rfl, rfl, trivial⟩ (by decide) rfl ?_ ?_
            (focus (rintro x _ hx _; (conv => whnf); exact absurd hx.1.2 (by simp)))
            rintro _ _ ⟨rfl, rfl⟩ _
            conv => whnf
            repeat (first | (refine And.intro rfl ?_; conv => whnf) | (refine And.intro (by decide) ?_; conv => whnf) | (refine draw_intro true (by kernel_rfl) ?_; conv => whnf) | (refine And.intro ⟨by omega, by omega⟩ ?_; conv => whnf) | (refine And.intro (by omega) ?_; conv => whnf) | (refine And.intro (fun _ => ⟨by omega, by omega⟩) ?_; conv => whnf) | (refine And.intro (of_decide_eq_true rfl) ?_; conv => whnf) | (refine And.intro (fun _ => ?_) (fun h => absurd h ?_); rotate_left; (focus (first | decide | (simp; done) | (simp [tcs]; done))); conv => whnf) | (refine And.intro (fun h => absurd h ?_) (fun _ => ?_); (focus (first | decide | (simp; done) | (simp [tcs]; done))); conv => whnf) | (intro _; conv => whnf))
            exact Wk.sel [0, 1, 2, 3, 4, 5, 6, 7] (by decide) (by first | decide | (show (0 : Nat) ≤ _; decide) | (show ∀ i, i < 0 → _; decide) | (show (1 : Nat) ≤ _; decide) | (show ∀ i, i < 1 → _; decide) | (show (2 : Nat) ≤ _; decide) | (show ∀ i, i < 2 → _; decide) | (show (3 : Nat) ≤ _; decide) | (show ∀ i, i < 3 → _; decide) | (show (4 : Nat) ≤ _; decide) | (show ∀ i, i < 4 → _; decide) | (show (5 : Nat) ≤ _; decide) | (show ∀ i, i < 5 → _; decide) | (show (6 : Nat) ≤ _; decide) | (show ∀ i, i < 6 → _; decide) | (show (7 : Nat) ≤ _; decide) | (show ∀ i, i < 7 → _; decide)) (by first | decide | (show (0 : Nat) ≤ _; decide) | (show ∀ i, i < 0 → _; decide) | (show (1 : Nat) ≤ _; decide) | (show ∀ i, i < 1 → _; decide) | (show (2 : Nat) ≤ _; decide) | (show ∀ i, i < 2 → _; decide) | (show (3 : Nat) ≤ _; decide) | (show ∀ i, i < 3 → _; decide) | (show (4 : Nat) ≤ _; decide) | (show ∀ i, i < 4 → _; decide) | (show (5 : Nat) ≤ _; decide) | (show ∀ i, i < 5 → _; decide) | (show (6 : Nat) ≤ _; decide) | (show ∀ i, i < 6 → _; decide) | (show (7 : Nat) ≤ _; decide) | (show ∀ i, i < 7 → _; decide)) ⟨rfl, rfl, rfl, rfl, rfl, rfl, rfl, rfl, trivial⟩ ⟨rfl, rfl, rfl, rfl, rfl, rfl, rfl, trivial⟩ rfl
        · have hd := cDemand (decide (0 ≤ ((tcs N).length : Int) - 1 - (qv : Int)))
          conv => whnf
          by_cases hqn : qv < N.length
          · obtain ⟨u, hu⟩ : ∃ u, N[N.length - 1 - qv]? = some u := ⟨N[N.length - 1 - qv]'(by omega), List.getElem?_eq_getElem (by omega)⟩
            have hum := List.mem_of_getElem? hu
            have hus := hN u hum
            have hup := szT_pos u
            have hzn : ((szN u : Nat) : Int) = szT u := by unfold szN; omega
            have hkt : (((tcs N).length : Int) - 1 - (qv : Int)).toNat = N.length - 1 - qv := by omega
            have hkz : (rowN (N.map szN))[(((tcs N).length : Int) - 1 - (qv : Int)).toNat]? = some [.int .i64 ((szN u : Nat) : Int)] := by rw [hkt]; simp [rowN, hu]
            have hkc : (tcs N)[(((tcs N).length : Int) - 1 - (qv : Int)).toNat]? = some (tc u) := by rw [hkt]; exact tcs_at N _ u hu
            have hzl : (rowN (N.map szN)).length = N.length := by simp [rowN]
            have hsl : szL (acc ++ [u]) = szL acc + szT u := by rw [szL_append]; simp [szL]
            rw [if_pos hqn, hu] at hRm
            simp only at hRm
            rw [decide_eq_true (show 0 ≤ ((tcs N).length : Int) - 1 - (qv : Int) by omega)] at hd ⊢
            try (refine draw_intro true (by kernel_rfl) ?_; conv => whnf)
            refine CallPt.use hd [] trivial (by decide) rfl ?_ ?_
            (focus (rintro x _ hx _; (conv => whnf); exact absurd hx.1.2 (by simp)))
            rintro _ _ ⟨_, rfl, rfl⟩ _
            conv => whnf
            refine ⟨⟨by omega, by omega⟩, ?_⟩
            conv => whnf
            refine ⟨[.int .i64 ((szN u : Nat) : Int)], hkz, show 0 + 1 ≤ 1 by decide, ?_⟩
            conv => whnf
            refine ⟨⟨by omega, by omega⟩, ?_⟩
            conv => whnf
            have hd2 := cDemand (decide ((1 + szL acc + ((szN u : Nat) : Int)) ≤ 600))
            by_cases hs6 : 1 + szL (acc ++ [u]) ≤ 600
            · rw [if_pos hs6] at hRm
              rw [decide_eq_true (show (1 + szL acc + ((szN u : Nat) : Int)) ≤ 600 by omega)] at hd2 ⊢
              try (refine draw_intro true (by kernel_rfl) ?_; conv => whnf)
              refine CallPt.use hd2 [] trivial (by decide) rfl ?_ ?_
              (focus (rintro x _ hx _; (conv => whnf); exact absurd hx.1.2 (by simp)))
              rintro _ _ ⟨_, rfl, rfl⟩ _
              conv => whnf
              have es : 1 + szL acc + ((szN u : Nat) : Int) = 1 + szL (acc ++ [u]) := by omega
              rw [es]
              have hst : tcs (acc ++ [u]) = tcs acc ++ [tc u] := tcs_snoc19 acc u
              obtain ⟨k', l2', n', us⟩ := u
              replace hkc : (tcs N)[(((tcs N).length : Int) - 1 - (qv : Int)).toNat]? = some [.int .i64 k', .int .i64 l2', .int .i64 n', .sl 4 48 (tcs us)] := hkc
              refine draw_intro true (by kernel_rfl) ?_
              conv => whnf
              refine ⟨⟨by omega, by omega⟩, ?_⟩
              conv => whnf
              refine ⟨[.int .i64 k', .int .i64 l2', .int .i64 n', .sl 4 48 (tcs us)], hkc, show 0 + 4 ≤ 4 by decide, ?_⟩
              conv => whnf
              repeat (first | (refine And.intro rfl ?_; conv => whnf) | (refine And.intro (by decide) ?_; conv => whnf) | (refine draw_intro true (by kernel_rfl) ?_; conv => whnf) | (refine And.intro ⟨by omega, by omega⟩ ?_; conv => whnf) | (refine And.intro (by omega) ?_; conv => whnf) | (refine And.intro (fun _ => ⟨by omega, by omega⟩) ?_; conv => whnf) | (refine And.intro (of_decide_eq_true rfl) ?_; conv => whnf) | (refine And.intro (fun _ => ?_) (fun h => absurd h ?_); rotate_left; (focus (first | decide | (simp; done) | (simp [tcs]; done))); conv => whnf) | (refine And.intro (fun h => absurd h ?_) (fun _ => ?_); (focus (first | decide | (simp; done) | (simp [tcs]; done))); conv => whnf) | (intro _; conv => whnf))
              refine ⟨q2, _, _, by omega, ⟨j + 1, m, acc ++ [.mk k' l2' n' us], by omega, by simp [hacc], by omega, hs6, hRm, rfl, rfl⟩, Wk.sel [0, 1, 2, 3, 4, 5, 6, 9] (by decide) (by first | decide | (show (0 : Nat) ≤ _; decide) | (show ∀ i, i < 0 → _; decide) | (show (1 : Nat) ≤ _; decide) | (show ∀ i, i < 1 → _; decide) | (show (2 : Nat) ≤ _; decide) | (show ∀ i, i < 2 → _; decide) | (show (3 : Nat) ≤ _; decide) | (show ∀ i, i < 3 → _; decide) | (show (4 : Nat) ≤ _; decide) | (show ∀ i, i < 4 → _; decide) | (show (5 : Nat) ≤ _; decide) | (show ∀ i, i < 5 → _; decide) | (show (6 : Nat) ≤ _; decide) | (show ∀ i, i < 6 → _; decide) | (show (7 : Nat) ≤ _; decide) | (show ∀ i, i < 7 → _; decide)) (by first | decide | (show (0 : Nat) ≤ _; decide) | (show ∀ i, i < 0 → _; decide) | (show (1 : Nat) ≤ _; decide) | (show ∀ i, i < 1 → _; decide) | (show (2 : Nat) ≤ _; decide) | (show ∀ i, i < 2 → _; decide) | (show (3 : Nat) ≤ _; decide) | (show ∀ i, i < 3 → _; decide) | (show (4 : Nat) ≤ _; decide) | (show ∀ i, i < 4 → _; decide) | (show (5 : Nat) ≤ _; decide) | (show ∀ i, i < 5 → _; decide) | (show (6 : Nat) ≤ _; decide) | (show ∀ i, i < 6 → _; decide) | (show (7 : Nat) ≤ _; decide) | (show ∀ i, i < 7 → _; decide)) ⟨rfl, rfl, rfl, rfl, rfl, rfl, rfl, ?_, trivial⟩ ⟨rfl, rfl, rfl, rfl, rfl, rfl, trivial⟩ rfl⟩
              rw [hst]
              rfl
            · rw [if_neg hs6] at hRm
              rw [decide_eq_false (show ¬ (1 + szL acc + ((szN u : Nat) : Int)) ≤ 600 by omega)] at hd2 ⊢
              try (refine draw_intro true (by kernel_rfl) ?_; conv => whnf)
              refine CallPt.use hd2 [] trivial (by decide) rfl ?_ ?_
              (focus (rintro x _ hx _; (conv => whnf); exact ⟨hx.1.1, by rw [← hRm]⟩))
              rintro _ _ ⟨h, _⟩ _
              conv => whnf
              cases h
          · rw [if_neg hqn] at hRm
            rw [decide_eq_false (show ¬ 0 ≤ ((tcs N).length : Int) - 1 - (qv : Int) by omega)] at hd ⊢
            try (refine draw_intro true (by kernel_rfl) ?_; conv => whnf)
            refine CallPt.use hd [] trivial (by decide) rfl ?_ ?_
            (focus (rintro x _ hx _; (conv => whnf); exact ⟨hx.1.1, by rw [← hRm]⟩))
            rintro _ _ ⟨h, _⟩ _
            conv => whnf
            cases h
    · replace hc : ¬ (j : Int) < c := of_decide_eq_false hc
      obtain rfl : q = 0 := by omega
      rw [rdArgs] at hRm
      subst hRm
      conv => whnf
      subst hC
      conv => whnf
      refine draw_wk [(5, .c (.int .i64 (1 + szL acc))), (4, .ptr 4 0), (2, .ptr 3 0), (0, .ptr 0 0)]
        [.box [.c (.str (sB l')), .own 7, .own 5], .dead, .dead, .box [.c (.int .i64 (0)), .c (.int .i64 (0)), .c (.int .i64 (0)), .nil], .box [.c (.int .i64 (kk)), .c (.int .i64 (hh)), .c (.int .i64 (n)), .own 6], .row 3 1 8 (rowN (N.map szN)), .frz (.sl 4 48 (tcs acc)), .row 25 4 48 (tcs N ++ [[.int .i64 kk, .int .i64 hh, .int .i64 n, .sl 4 48 (tcs acc)]])] ?_ ?_
      · refine draw_intro true (by kernel_rfl) ?_
        conv => whnf
        repeat (first | (refine And.intro rfl ?_; conv => whnf) | (refine And.intro (by decide) ?_; conv => whnf) | (refine And.intro ⟨by omega, by omega⟩ ?_; conv => whnf) | (refine And.intro (by omega) ?_; conv => whnf) | (refine And.intro (fun _ => ⟨by omega, by omega⟩) ?_; conv => whnf) | (refine And.intro (of_decide_eq_true rfl) ?_; conv => whnf) | (refine And.intro (fun _ => ?_) (fun h => absurd h ?_); rotate_left; (focus (first | decide | (simp; done) | (simp [tcs]; done))); conv => whnf) | (refine And.intro (fun h => absurd h ?_) (fun _ => ?_); (focus (first | decide | (simp; done) | (simp [tcs]; done))); conv => whnf))
        intro hlenN
        conv => whnf
        repeat (first | (refine And.intro rfl ?_; conv => whnf) | (refine And.intro (by decide) ?_; conv => whnf) | (refine And.intro ⟨by omega, by omega⟩ ?_; conv => whnf) | (refine And.intro (by omega) ?_; conv => whnf) | (refine And.intro (fun _ => ⟨by omega, by omega⟩) ?_; conv => whnf) | (refine And.intro (of_decide_eq_true rfl) ?_; conv => whnf) | (refine And.intro (fun _ => ?_) (fun h => absurd h ?_); rotate_left; (focus (first | decide | (simp; done) | (simp [tcs]; done))); conv => whnf) | (refine And.intro (fun h => absurd h ?_) (fun _ => ?_); (focus (first | decide | (simp; done) | (simp [tcs]; done))); conv => whnf))
        refine ⟨show ((tcs N).length + 1) * 48 ≤ 140737488355328 by omega, show (tcs N).length + 1 ≤ 9223372036854775807 by omega, ?_⟩
        conv => whnf
        repeat (first | (refine And.intro rfl ?_; conv => whnf) | (refine And.intro (by decide) ?_; conv => whnf) | (refine And.intro ⟨by omega, by omega⟩ ?_; conv => whnf) | (refine And.intro (by omega) ?_; conv => whnf) | (refine And.intro (fun _ => ⟨by omega, by omega⟩) ?_; conv => whnf) | (refine And.intro (of_decide_eq_true rfl) ?_; conv => whnf) | (refine And.intro (fun _ => ?_) (fun h => absurd h ?_); rotate_left; (focus (first | decide | (simp; done) | (simp [tcs]; done))); conv => whnf) | (refine And.intro (fun h => absurd h ?_) (fun _ => ?_); (focus (first | decide | (simp; done) | (simp [tcs]; done))); conv => whnf))
        have hix : ((tcs N).length : Int).toNat = (tcs N).length := by omega
        have hapl : ∀ z : List CV, (tcs N).length < (tcs N ++ [z]).length := fun z => by simp
        refine ⟨⟨by omega, by rw [hix]; exact hapl _⟩, ?_⟩
        conv => whnf
        repeat (first | (refine And.intro rfl ?_; conv => whnf) | (refine And.intro (by decide) ?_; conv => whnf) | (refine And.intro ⟨by omega, by omega⟩ ?_; conv => whnf) | (refine And.intro (by omega) ?_; conv => whnf) | (refine And.intro (fun _ => ⟨by omega, by omega⟩) ?_; conv => whnf) | (refine And.intro (of_decide_eq_true rfl) ?_; conv => whnf) | (refine And.intro (fun _ => ?_) (fun h => absurd h ?_); rotate_left; (focus (first | decide | (simp; done) | (simp [tcs]; done))); conv => whnf) | (refine And.intro (fun h => absurd h ?_) (fun _ => ?_); (focus (first | decide | (simp; done) | (simp [tcs]; done))); conv => whnf))
        have hget : ∀ z : List CV, (tcs N ++ [z])[((tcs N).length : Int).toNat]? = some z := fun z => by rw [hix]; simp
        have hset : ∀ z x : List CV, (tcs N ++ [z]).set ((tcs N).length : Int).toNat x = tcs N ++ [x] := fun z x => by rw [hix]; simp
        refine ⟨?_, ?_⟩
        · conv => whnf
          repeat (first | (refine And.intro rfl ?_; conv => whnf) | (refine And.intro (by decide) ?_; conv => whnf) | (refine And.intro ⟨by omega, by omega⟩ ?_; conv => whnf) | (refine And.intro (by omega) ?_; conv => whnf) | (refine And.intro (fun _ => ⟨by omega, by omega⟩) ?_; conv => whnf) | (refine And.intro (of_decide_eq_true rfl) ?_; conv => whnf) | (refine And.intro (fun _ => ?_) (fun h => absurd h ?_); rotate_left; (focus (first | decide | (simp; done) | (simp [tcs]; done))); conv => whnf) | (refine And.intro (fun h => absurd h ?_) (fun _ => ?_); (focus (first | decide | (simp; done) | (simp [tcs]; done))); conv => whnf))
          refine ⟨_, hget _, show 0 + 4 ≤ 4 by decide, ?_⟩
          conv => whnf
          repeat (first | (refine And.intro rfl ?_; conv => whnf) | (refine And.intro (by decide) ?_; conv => whnf) | (refine And.intro ⟨by omega, by omega⟩ ?_; conv => whnf) | (refine And.intro (by omega) ?_; conv => whnf) | (refine And.intro (fun _ => ⟨by omega, by omega⟩) ?_; conv => whnf) | (refine And.intro (of_decide_eq_true rfl) ?_; conv => whnf) | (refine And.intro (fun _ => ?_) (fun h => absurd h ?_); rotate_left; (focus (first | decide | (simp; done) | (simp [tcs]; done))); conv => whnf) | (refine And.intro (fun h => absurd h ?_) (fun _ => ?_); (focus (first | decide | (simp; done) | (simp [tcs]; done))); conv => whnf))
          exact Wk.sel [0, 1, 2, 3, 4, 6, 7, 9] (by decide) (by first | decide | (show (0 : Nat) ≤ _; decide) | (show ∀ i, i < 0 → _; decide) | (show (1 : Nat) ≤ _; decide) | (show ∀ i, i < 1 → _; decide) | (show (2 : Nat) ≤ _; decide) | (show ∀ i, i < 2 → _; decide) | (show (3 : Nat) ≤ _; decide) | (show ∀ i, i < 3 → _; decide) | (show (4 : Nat) ≤ _; decide) | (show ∀ i, i < 4 → _; decide) | (show (5 : Nat) ≤ _; decide) | (show ∀ i, i < 5 → _; decide) | (show (6 : Nat) ≤ _; decide) | (show ∀ i, i < 6 → _; decide) | (show (7 : Nat) ≤ _; decide) | (show ∀ i, i < 7 → _; decide)) (by first | decide | (show (0 : Nat) ≤ _; decide) | (show ∀ i, i < 0 → _; decide) | (show (1 : Nat) ≤ _; decide) | (show ∀ i, i < 1 → _; decide) | (show (2 : Nat) ≤ _; decide) | (show ∀ i, i < 2 → _; decide) | (show (3 : Nat) ≤ _; decide) | (show ∀ i, i < 3 → _; decide) | (show (4 : Nat) ≤ _; decide) | (show ∀ i, i < 4 → _; decide) | (show (5 : Nat) ≤ _; decide) | (show ∀ i, i < 5 → _; decide) | (show (6 : Nat) ≤ _; decide) | (show ∀ i, i < 6 → _; decide) | (show (7 : Nat) ≤ _; decide) | (show ∀ i, i < 7 → _; decide)) ⟨rfl, rfl, rfl, rfl, rfl, rfl, rfl, eRow (hset _ _), trivial⟩ ⟨rfl, rfl, rfl, rfl, trivial⟩ rfl
        · conv => whnf
          repeat (first | (refine And.intro rfl ?_; conv => whnf) | (refine And.intro (by decide) ?_; conv => whnf) | (refine And.intro ⟨by omega, by omega⟩ ?_; conv => whnf) | (refine And.intro (by omega) ?_; conv => whnf) | (refine And.intro (fun _ => ⟨by omega, by omega⟩) ?_; conv => whnf) | (refine And.intro (of_decide_eq_true rfl) ?_; conv => whnf) | (refine And.intro (fun _ => ?_) (fun h => absurd h ?_); rotate_left; (focus (first | decide | (simp; done) | (simp [tcs]; done))); conv => whnf) | (refine And.intro (fun h => absurd h ?_) (fun _ => ?_); (focus (first | decide | (simp; done) | (simp [tcs]; done))); conv => whnf))
          refine ⟨_, hget _, show 0 + 4 ≤ 4 by decide, ?_⟩
          conv => whnf
          repeat (first | (refine And.intro rfl ?_; conv => whnf) | (refine And.intro (by decide) ?_; conv => whnf) | (refine And.intro ⟨by omega, by omega⟩ ?_; conv => whnf) | (refine And.intro (by omega) ?_; conv => whnf) | (refine And.intro (fun _ => ⟨by omega, by omega⟩) ?_; conv => whnf) | (refine And.intro (of_decide_eq_true rfl) ?_; conv => whnf) | (refine And.intro (fun _ => ?_) (fun h => absurd h ?_); rotate_left; (focus (first | decide | (simp; done) | (simp [tcs]; done))); conv => whnf) | (refine And.intro (fun h => absurd h ?_) (fun _ => ?_); (focus (first | decide | (simp; done) | (simp [tcs]; done))); conv => whnf))
          exact Wk.sel [0, 1, 2, 3, 4, 6, 7, 9] (by decide) (by first | decide | (show (0 : Nat) ≤ _; decide) | (show ∀ i, i < 0 → _; decide) | (show (1 : Nat) ≤ _; decide) | (show ∀ i, i < 1 → _; decide) | (show (2 : Nat) ≤ _; decide) | (show ∀ i, i < 2 → _; decide) | (show (3 : Nat) ≤ _; decide) | (show ∀ i, i < 3 → _; decide) | (show (4 : Nat) ≤ _; decide) | (show ∀ i, i < 4 → _; decide) | (show (5 : Nat) ≤ _; decide) | (show ∀ i, i < 5 → _; decide) | (show (6 : Nat) ≤ _; decide) | (show ∀ i, i < 6 → _; decide) | (show (7 : Nat) ≤ _; decide) | (show ∀ i, i < 7 → _; decide)) (by first | decide | (show (0 : Nat) ≤ _; decide) | (show ∀ i, i < 0 → _; decide) | (show (1 : Nat) ≤ _; decide) | (show ∀ i, i < 1 → _; decide) | (show (2 : Nat) ≤ _; decide) | (show ∀ i, i < 2 → _; decide) | (show (3 : Nat) ≤ _; decide) | (show ∀ i, i < 3 → _; decide) | (show (4 : Nat) ≤ _; decide) | (show ∀ i, i < 4 → _; decide) | (show (5 : Nat) ≤ _; decide) | (show ∀ i, i < 5 → _; decide) | (show (6 : Nat) ≤ _; decide) | (show ∀ i, i < 6 → _; decide) | (show (7 : Nat) ≤ _; decide) | (show ∀ i, i < 7 → _; decide)) ⟨rfl, rfl, rfl, rfl, rfl, rfl, rfl, eRow (hset _ _), trivial⟩ ⟨rfl, rfl, rfl, rfl, trivial⟩ rfl
      · have hzl : (rowN (N.map szN)).length = N.length := by simp [rowN]
        conv => whnf
        repeat (first | (refine And.intro rfl ?_; conv => whnf) | (refine And.intro (by decide) ?_; conv => whnf) | (refine draw_intro true (by kernel_rfl) ?_; conv => whnf) | (refine And.intro ⟨by omega, by omega⟩ ?_; conv => whnf) | (refine And.intro (by omega) ?_; conv => whnf) | (refine And.intro (fun _ => ⟨by omega, by omega⟩) ?_; conv => whnf) | (refine And.intro (of_decide_eq_true rfl) ?_; conv => whnf) | (refine And.intro (fun _ => ?_) (fun h => absurd h ?_); rotate_left; (focus (first | decide | (simp; done) | (simp [tcs]; done))); conv => whnf) | (refine And.intro (fun h => absurd h ?_) (fun _ => ?_); (focus (first | decide | (simp; done) | (simp [tcs]; done))); conv => whnf) | (intro _; conv => whnf))
        refine ⟨show ((rowN (N.map szN)).length + 1) * 8 ≤ 140737488355328 by omega, show (rowN (N.map szN)).length + 1 ≤ 9223372036854775807 by omega, ?_⟩
        conv => whnf
        repeat (first | (refine And.intro rfl ?_; conv => whnf) | (refine And.intro (by decide) ?_; conv => whnf) | (refine draw_intro true (by kernel_rfl) ?_; conv => whnf) | (refine And.intro ⟨by omega, by omega⟩ ?_; conv => whnf) | (refine And.intro (by omega) ?_; conv => whnf) | (refine And.intro (fun _ => ⟨by omega, by omega⟩) ?_; conv => whnf) | (refine And.intro (of_decide_eq_true rfl) ?_; conv => whnf) | (refine And.intro (fun _ => ?_) (fun h => absurd h ?_); rotate_left; (focus (first | decide | (simp; done) | (simp [tcs]; done))); conv => whnf) | (refine And.intro (fun h => absurd h ?_) (fun _ => ?_); (focus (first | decide | (simp; done) | (simp [tcs]; done))); conv => whnf) | (intro _; conv => whnf))
        have ezN : ((szN (Term.mk kk hh n acc) : Nat) : Int) = 1 + szL acc := by have := szL_pos acc; unfold szN; rw [szT]; omega
        have eZ : rowN (N.map szN) ++ [[CV.int .i64 (1 + szL acc)]] = rowN ((N ++ [Term.mk kk hh n acc]).map szN) := by rw [← ezN]; simp [rowN]
        refine ⟨[(2, .ptr 5 0)], [.box [.c (.str (sB l')), .own 3, .own 4], .dead, .dead, .row 25 4 48 (tcs (N ++ [Term.mk kk hh n acc])), .row 3 1 8 (rowN ((N ++ [Term.mk kk hh n acc]).map szN)), .box [.c (.int .i64 (kk)), .c (.int .i64 (hh)), .c (.int .i64 (n)), .own 6], .frz (.sl 4 48 (tcs acc))],
          Wk.sel [0, 1, 2, 7, 9, 3, 6] (by decide) (by first | decide | (show (0 : Nat) ≤ _; decide) | (show ∀ i, i < 0 → _; decide) | (show (1 : Nat) ≤ _; decide) | (show ∀ i, i < 1 → _; decide) | (show (2 : Nat) ≤ _; decide) | (show ∀ i, i < 2 → _; decide) | (show (3 : Nat) ≤ _; decide) | (show ∀ i, i < 3 → _; decide) | (show (4 : Nat) ≤ _; decide) | (show ∀ i, i < 4 → _; decide) | (show (5 : Nat) ≤ _; decide) | (show ∀ i, i < 5 → _; decide) | (show (6 : Nat) ≤ _; decide) | (show ∀ i, i < 6 → _; decide) | (show (7 : Nat) ≤ _; decide) | (show ∀ i, i < 7 → _; decide)) (by first | decide | (show (0 : Nat) ≤ _; decide) | (show ∀ i, i < 0 → _; decide) | (show (1 : Nat) ≤ _; decide) | (show ∀ i, i < 1 → _; decide) | (show (2 : Nat) ≤ _; decide) | (show ∀ i, i < 2 → _; decide) | (show (3 : Nat) ≤ _; decide) | (show ∀ i, i < 3 → _; decide) | (show (4 : Nat) ≤ _; decide) | (show ∀ i, i < 4 → _; decide) | (show (5 : Nat) ≤ _; decide) | (show ∀ i, i < 5 → _; decide) | (show (6 : Nat) ≤ _; decide) | (show ∀ i, i < 6 → _; decide) | (show (7 : Nat) ≤ _; decide) | (show ∀ i, i < 7 → _; decide)) ⟨rfl, rfl, rfl, eRow (tcs_snoc19 N (Term.mk kk hh n acc)).symm, eRow eZ, rfl, rfl, trivial⟩ ⟨rfl, trivial⟩ rfl, ?_⟩
        conv => whnf
        repeat (first | (refine And.intro rfl ?_; conv => whnf) | (refine And.intro (by decide) ?_; conv => whnf) | (refine draw_intro true (by kernel_rfl) ?_; conv => whnf) | (refine And.intro ⟨by omega, by omega⟩ ?_; conv => whnf) | (refine And.intro (by omega) ?_; conv => whnf) | (refine And.intro (fun _ => ⟨by omega, by omega⟩) ?_; conv => whnf) | (refine And.intro (of_decide_eq_true rfl) ?_; conv => whnf) | (refine And.intro (fun _ => ?_) (fun h => absurd h ?_); rotate_left; (focus (first | decide | (simp; done) | (simp [tcs]; done))); conv => whnf) | (refine And.intro (fun h => absurd h ?_) (fun _ => ?_); (focus (first | decide | (simp; done) | (simp [tcs]; done))); conv => whnf) | (intro _; conv => whnf))
        exact ⟨_, _, rfl, rfl, rfl⟩
  · replace hk4 : kk ≠ 4 := by have := of_decide_eq_false hk4; omega
    rw [if_neg hk4] at eR
    conv => whnf
    subst hC
    refine aw_cut _ _ rfl fun C hC => ?_
    conv => whnf
    have hcn := cRdCount l1 N (N.map szN) (by omega)
    subst hC
    refine aw_cut _ _ rfl fun C hC => ?_
    conv => whnf
    try (refine draw_intro true (by kernel_rfl) ?_; conv => whnf)
    refine CallPt.use hcn [0, 1, 2] ⟨rfl, rfl, rfl, trivial⟩ (by decide) rfl ?_ ?_
    (focus (rintro x _ hx _; (conv => whnf); exact ⟨hx.1.1, by rw [eR]; unfold rdRest; rw [hx.1.2]⟩))
    rintro _ _ ⟨c, l3, hR2, rfl, rfl⟩ _
    conv => whnf
    obtain ⟨hc1, hc2⟩ := rdCount_le hR2
    have eR2 : rdNode (b :: l1) N = match rdArgs N c l3 [] with | some (us, m2) => some (.mk kk hh ((0 : Nat) : Int) us, m2) | none => none := by rw [eR]; unfold rdRest; rw [hR2]
    rw [eR2]
    clear eR eR2 hcn
    generalize hRR : rdArgs N c l3 [] = R at *
    repeat (first | (refine And.intro rfl ?_; conv => whnf) | (refine And.intro (by decide) ?_; conv => whnf) | (refine draw_intro true (by kernel_rfl) ?_; conv => whnf) | (refine And.intro ⟨by omega, by omega⟩ ?_; conv => whnf) | (refine And.intro (by omega) ?_; conv => whnf) | (refine And.intro (fun _ => ⟨by omega, by omega⟩) ?_; conv => whnf) | (refine And.intro (of_decide_eq_true rfl) ?_; conv => whnf) | (refine And.intro (fun _ => ?_) (fun h => absurd h ?_); rotate_left; (focus (first | decide | (simp; done) | (simp [tcs]; done))); conv => whnf) | (refine And.intro (fun h => absurd h ?_) (fun _ => ?_); (focus (first | decide | (simp; done) | (simp [tcs]; done))); conv => whnf) | (intro _; conv => whnf))
    refine loop_intro (fun q tm H => ∃ (j : Nat) (l' : List UInt8) (acc : List Term), c = q + j ∧ acc.length = j ∧ l'.length ≤ 1000000 ∧ 1 + szL acc ≤ 600 ∧ rdArgs N q l' acc = R ∧
        tm = [(22, .c (.int .i64 (j))), (21, .c (.int .i64 (c))), (5, .c (.int .i64 (1 + szL acc))), (4, .ptr 4 0), (2, .ptr 3 0), (0, .ptr 0 0)] ∧
        H = [.box [.c (.str (sB l')), .own 5, .own 6], .dead, .dead, .box [.c (.int .i64 (0)), .c (.int .i64 (0)), .c (.int .i64 (0)), .nil], .box [.c (.int .i64 (kk)), .c (.int .i64 (hh)), .c (.int .i64 (((0 : Nat) : Int))), .own 7], .row 25 4 48 (tcs N), .row 3 1 8 (rowN (N.map szN)), .row 25 4 48 (tcs acc)])
      c _ _ ⟨0, l3, [], by omega, rfl, by omega, by simp [szL], hRR, rfl, rfl⟩ ?_ ?_
    · refine Wk.trans (Wk.mvbox 0 1 1 25 4 48 (tcs N) rfl rfl rfl rfl) ?_
      refine Wk.trans (Wk.mvbox 0 2 2 3 1 8 (rowN (N.map szN)) rfl rfl rfl rfl) ?_
      refine Wk.trans (Wk.nilrow (i := 4) (j := 3) 25 4 48 rfl rfl rfl) ?_
      exact Wk.sel [0, 1, 2, 3, 4, 5, 6, 7] (by decide) (by first | decide | (show (0 : Nat) ≤ _; decide) | (show ∀ i, i < 0 → _; decide) | (show (1 : Nat) ≤ _; decide) | (show ∀ i, i < 1 → _; decide) | (show (2 : Nat) ≤ _; decide) | (show ∀ i, i < 2 → _; decide) | (show (3 : Nat) ≤ _; decide) | (show ∀ i, i < 3 → _; decide) | (show (4 : Nat) ≤ _; decide) | (show ∀ i, i < 4 → _; decide) | (show (5 : Nat) ≤ _; decide) | (show ∀ i, i < 5 → _; decide) | (show (6 : Nat) ≤ _; decide) | (show ∀ i, i < 6 → _; decide) | (show (7 : Nat) ≤ _; decide) | (show ∀ i, i < 7 → _; decide)) (by first | decide | (show (0 : Nat) ≤ _; decide) | (show ∀ i, i < 0 → _; decide) | (show (1 : Nat) ≤ _; decide) | (show ∀ i, i < 1 → _; decide) | (show (2 : Nat) ≤ _; decide) | (show ∀ i, i < 2 → _; decide) | (show (3 : Nat) ≤ _; decide) | (show ∀ i, i < 3 → _; decide) | (show (4 : Nat) ≤ _; decide) | (show ∀ i, i < 4 → _; decide) | (show (5 : Nat) ≤ _; decide) | (show ∀ i, i < 5 → _; decide) | (show (6 : Nat) ≤ _; decide) | (show ∀ i, i < 6 → _; decide) | (show (7 : Nat) ≤ _; decide) | (show ∀ i, i < 7 → _; decide)) ⟨rfl, rfl, rfl, rfl, rfl, rfl, rfl, rfl, trivial⟩ ⟨rfl, rfl, rfl, rfl, rfl, rfl, trivial⟩ rfl
    rintro q tm H ⟨j, l', acc, hj, hacc, hl', hsa, hRm, rfl, rfl⟩
    have hla := len_tcs acc
    have hsn := szL_pos acc
    have hb1 : ((tcs acc).length + 1) * 48 ≤ 140737488355328 := by have := szL_len acc; omega
    have hb2 : (tcs acc).length + 1 ≤ 9223372036854775807 := by have := szL_len acc; omega
    have hnm2 := cRdNumber l' N (N.map szN) hl'
    conv => whnf
    refine ⟨fun hc => ?_, fun hc => ?_⟩
    · replace hc : (j : Int) < c := of_decide_eq_true hc
      obtain ⟨q2, rfl⟩ : ∃ q2, q = q2 + 1 := ⟨q - 1, by omega⟩
      rw [rdArgs] at hRm
      cases hR1 : rdNum l' 1 0 with
      | none =>
        rw [hR1] at hRm hnm2
        conv => whnf
        refine draw_intro false (by kernel_rfl) ?_
        conv => whnf
        (refine And.intro ?_ ?_ <;> conv => whnf)
        · repeat (first | (refine And.intro rfl ?_; conv => whnf) | (refine And.intro (by decide) ?_; conv => whnf) | (refine draw_intro true (by kernel_rfl) ?_; conv => whnf) | (refine And.intro ⟨by omega, by omega⟩ ?_; conv => whnf) | (refine And.intro (by omega) ?_; conv => whnf) | (refine And.intro (fun _ => ⟨by omega, by omega⟩) ?_; conv => whnf) | (refine And.intro (of_decide_eq_true rfl) ?_; conv => whnf) | (refine And.intro (fun _ => ?_) (fun h => absurd h ?_); rotate_left; (focus (first | decide | (simp; done) | (simp [tcs]; done))); conv => whnf) | (refine And.intro (fun h => absurd h ?_) (fun _ => ?_); (focus (first | decide | (simp; done) | (simp [tcs]; done))); conv => whnf) | (intro _; conv => whnf))
          try (refine draw_intro true (by kernel_rfl) ?_; conv => whnf)
          refine CallPt.use hnm2 [0, 5, 6] ⟨rfl, rfl, rfl, trivial⟩ (by decide) rfl ?_ ?_
          (focus (rintro x _ hx _; (conv => whnf); exact ⟨hx.1.1, by rw [← hRm]⟩))
          rintro _ _ ⟨_, _, h, _⟩ _
          conv => whnf
          cases h
        · try (refine draw_intro true (by kernel_rfl) ?_; conv => whnf)
          refine CallPt.use hnm2 [0, 5, 6] ⟨rfl, rfl, rfl, trivial⟩ (by decide) rfl ?_ ?_
          (focus (rintro x _ hx _; (conv => whnf); exact ⟨hx.1.1, by rw [← hRm]⟩))
          rintro _ _ ⟨_, _, h, _⟩ _
          conv => whnf
          cases h
      | some p =>
        obtain ⟨qv, m⟩ := p
        have hql := rdNum_len _ _ _ _ _ hR1
        have hqb := rdNum_le _ _ _ _ _ (by omega) hR1
        rw [hR1] at hRm hnm2
        simp only at hRm
        have hnm3 : CallPt Try.prog 71 [.ptr 0 0] (rdH l' N (N.map szN)) (fun r H' => r = .c (.int .i64 ((qv : Nat))) ∧ H' = rdH m N (N.map szN)) (fun x H' => (x = trb ∧ some (qv, m) = none) ∧ H' = dead3) := by
          refine CallPt.mono hnm2 ?_ (fun _ _ h => h)
          rintro r H' ⟨n', m', h, rfl, rfl⟩
          injection h with h
          injection h with h1 h2
          subst h1 h2
          exact ⟨rfl, rfl⟩
        clear hnm2
        conv => whnf
        refine draw_wk [(6, .c (.int .i64 (((tcs N).length : Int) - 1 - (qv : Int)))), (22, .c (.int .i64 (j))), (21, .c (.int .i64 (c))), (5, .c (.int .i64 (1 + szL acc))), (4, .ptr 4 0), (2, .ptr 3 0), (0, .ptr 0 0)]
          [.box [.c (.str (sB m)), .own 5, .own 6], .dead, .dead, .box [.c (.int .i64 (0)), .c (.int .i64 (0)), .c (.int .i64 (0)), .nil], .box [.c (.int .i64 (kk)), .c (.int .i64 (hh)), .c (.int .i64 (((0 : Nat) : Int))), .own 7], .row 25 4 48 (tcs N), .row 3 1 8 (rowN (N.map szN)), .row 25 4 48 (tcs acc)] ?_ ?_
        · refine draw_intro false (by kernel_rfl) ?_
          conv => whnf
          (refine And.intro ?_ ?_ <;> conv => whnf)
          · repeat (first | (refine And.intro rfl ?_; conv => whnf) | (refine And.intro (by decide) ?_; conv => whnf) | (refine draw_intro true (by kernel_rfl) ?_; conv => whnf) | (refine And.intro ⟨by omega, by omega⟩ ?_; conv => whnf) | (refine And.intro (by omega) ?_; conv => whnf) | (refine And.intro (fun _ => ⟨by omega, by omega⟩) ?_; conv => whnf) | (refine And.intro (of_decide_eq_true rfl) ?_; conv => whnf) | (refine And.intro (fun _ => ?_) (fun h => absurd h ?_); rotate_left; (focus (first | decide | (simp; done) | (simp [tcs]; done))); conv => whnf) | (refine And.intro (fun h => absurd h ?_) (fun _ => ?_); (focus (first | decide | (simp; done) | (simp [tcs]; done))); conv => whnf) | (intro _; conv => whnf))
            try (refine draw_intro true (by kernel_rfl) ?_; conv => whnf)
            refine CallPt.use hnm3 [0, 5, 6] ⟨rfl, rfl, rfl, trivial⟩ (by decide) rfl ?_ ?_
            (focus (rintro x _ hx _; (conv => whnf); exact absurd hx.1.2 (by simp)))
            rintro _ _ ⟨rfl, rfl⟩ _
            conv => whnf
            repeat (first | (refine And.intro rfl ?_; conv => whnf) | (refine And.intro (by decide) ?_; conv => whnf) | (refine draw_intro true (by kernel_rfl) ?_; conv => whnf) | (refine And.intro ⟨by omega, by omega⟩ ?_; conv => whnf) | (refine And.intro (by omega) ?_; conv => whnf) | (refine And.intro (fun _ => ⟨by omega, by omega⟩) ?_; conv => whnf) | (refine And.intro (of_decide_eq_true rfl) ?_; conv => whnf) | (refine And.intro (fun _ => ?_) (fun h => absurd h ?_); rotate_left; (focus (first | decide | (simp; done) | (simp [tcs]; done))); conv => whnf) | (refine And.intro (fun h => absurd h ?_) (fun _ => ?_); (focus (first | decide | (simp; done) | (simp [tcs]; done))); conv => whnf) | (intro _; conv => whnf))
            exact Wk.sel [0, 1, 2, 3, 4, 5, 6, 7] (by decide) (by first | decide | (show (0 : Nat) ≤ _; decide) | (show ∀ i, i < 0 → _; decide) | (show (1 : Nat) ≤ _; decide) | (show ∀ i, i < 1 → _; decide) | (show (2 : Nat) ≤ _; decide) | (show ∀ i, i < 2 → _; decide) | (show (3 : Nat) ≤ _; decide) | (show ∀ i, i < 3 → _; decide) | (show (4 : Nat) ≤ _; decide) | (show ∀ i, i < 4 → _; decide) | (show (5 : Nat) ≤ _; decide) | (show ∀ i, i < 5 → _; decide) | (show (6 : Nat) ≤ _; decide) | (show ∀ i, i < 6 → _; decide) | (show (7 : Nat) ≤ _; decide) | (show ∀ i, i < 7 → _; decide)) (by first | decide | (show (0 : Nat) ≤ _; decide) | (show ∀ i, i < 0 → _; decide) | (show (1 : Nat) ≤ _; decide) | (show ∀ i, i < 1 → _; decide) | (show (2 : Nat) ≤ _; decide) | (show ∀ i, i < 2 → _; decide) | (show (3 : Nat) ≤ _; decide) | (show ∀ i, i < 3 → _; decide) | (show (4 : Nat) ≤ _; decide) | (show ∀ i, i < 4 → _; decide) | (show (5 : Nat) ≤ _; decide) | (show ∀ i, i < 5 → _; decide) | (show (6 : Nat) ≤ _; decide) | (show ∀ i, i < 6 → _; decide) | (show (7 : Nat) ≤ _; decide) | (show ∀ i, i < 7 → _; decide)) ⟨rfl, rfl, rfl, rfl, rfl, rfl, rfl, rfl, trivial⟩ ⟨rfl, rfl, rfl, rfl, rfl, rfl, rfl, trivial⟩ rfl
          · try (refine draw_intro true (by kernel_rfl) ?_; conv => whnf)
            refine CallPt.use hnm3 [0, 5, 6] ⟨rfl, rfl, rfl, trivial⟩ (by decide) rfl ?_ ?_
            (focus (rintro x _ hx _; (conv => whnf); exact absurd hx.1.2 (by simp)))
            rintro _ _ ⟨rfl, rfl⟩ _
            conv => whnf
            repeat (first | (refine And.intro rfl ?_; conv => whnf) | (refine And.intro (by decide) ?_; conv => whnf) | (refine draw_intro true (by kernel_rfl) ?_; conv => whnf) | (refine And.intro ⟨by omega, by omega⟩ ?_; conv => whnf) | (refine And.intro (by omega) ?_; conv => whnf) | (refine And.intro (fun _ => ⟨by omega, by omega⟩) ?_; conv => whnf) | (refine And.intro (of_decide_eq_true rfl) ?_; conv => whnf) | (refine And.intro (fun _ => ?_) (fun h => absurd h ?_); rotate_left; (focus (first | decide | (simp; done) | (simp [tcs]; done))); conv => whnf) | (refine And.intro (fun h => absurd h ?_) (fun _ => ?_); (focus (first | decide | (simp; done) | (simp [tcs]; done))); conv => whnf) | (intro _; conv => whnf))
            exact Wk.sel [0, 1, 2, 3, 4, 5, 6, 7] (by decide) (by first | decide | (show (0 : Nat) ≤ _; decide) | (show ∀ i, i < 0 → _; decide) | (show (1 : Nat) ≤ _; decide) | (show ∀ i, i < 1 → _; decide) | (show (2 : Nat) ≤ _; decide) | (show ∀ i, i < 2 → _; decide) | (show (3 : Nat) ≤ _; decide) | (show ∀ i, i < 3 → _; decide) | (show (4 : Nat) ≤ _; decide) | (show ∀ i, i < 4 → _; decide) | (show (5 : Nat) ≤ _; decide) | (show ∀ i, i < 5 → _; decide) | (show (6 : Nat) ≤ _; decide) | (show ∀ i, i < 6 → _; decide) | (show (7 : Nat) ≤ _; decide) | (show ∀ i, i < 7 → _; decide)) (by first | decide | (show (0 : Nat) ≤ _; decide) | (show ∀ i, i < 0 → _; decide) | (show (1 : Nat) ≤ _; decide) | (show ∀ i, i < 1 → _; decide) | (show (2 : Nat) ≤ _; decide) | (show ∀ i, i < 2 → _; decide) | (show (3 : Nat) ≤ _; decide) | (show ∀ i, i < 3 → _; decide) | (show (4 : Nat) ≤ _; decide) | (show ∀ i, i < 4 → _; decide) | (show (5 : Nat) ≤ _; decide) | (show ∀ i, i < 5 → _; decide) | (show (6 : Nat) ≤ _; decide) | (show ∀ i, i < 6 → _; decide) | (show (7 : Nat) ≤ _; decide) | (show ∀ i, i < 7 → _; decide)) ⟨rfl, rfl, rfl, rfl, rfl, rfl, rfl, rfl, trivial⟩ ⟨rfl, rfl, rfl, rfl, rfl, rfl, rfl, trivial⟩ rfl
        · have hd := cDemand (decide (0 ≤ ((tcs N).length : Int) - 1 - (qv : Int)))
          conv => whnf
          by_cases hqn : qv < N.length
          · obtain ⟨u, hu⟩ : ∃ u, N[N.length - 1 - qv]? = some u := ⟨N[N.length - 1 - qv]'(by omega), List.getElem?_eq_getElem (by omega)⟩
            have hum := List.mem_of_getElem? hu
            have hus := hN u hum
            have hup := szT_pos u
            have hzn : ((szN u : Nat) : Int) = szT u := by unfold szN; omega
            have hkt : (((tcs N).length : Int) - 1 - (qv : Int)).toNat = N.length - 1 - qv := by omega
            have hkz : (rowN (N.map szN))[(((tcs N).length : Int) - 1 - (qv : Int)).toNat]? = some [.int .i64 ((szN u : Nat) : Int)] := by rw [hkt]; simp [rowN, hu]
            have hkc : (tcs N)[(((tcs N).length : Int) - 1 - (qv : Int)).toNat]? = some (tc u) := by rw [hkt]; exact tcs_at N _ u hu
            have hzl : (rowN (N.map szN)).length = N.length := by simp [rowN]
            have hsl : szL (acc ++ [u]) = szL acc + szT u := by rw [szL_append]; simp [szL]
            rw [if_pos hqn, hu] at hRm
            simp only at hRm
            rw [decide_eq_true (show 0 ≤ ((tcs N).length : Int) - 1 - (qv : Int) by omega)] at hd ⊢
            try (refine draw_intro true (by kernel_rfl) ?_; conv => whnf)
            refine CallPt.use hd [] trivial (by decide) rfl ?_ ?_
            (focus (rintro x _ hx _; (conv => whnf); exact absurd hx.1.2 (by simp)))
            rintro _ _ ⟨_, rfl, rfl⟩ _
            conv => whnf
            refine ⟨⟨by omega, by omega⟩, ?_⟩
            conv => whnf
            refine ⟨[.int .i64 ((szN u : Nat) : Int)], hkz, show 0 + 1 ≤ 1 by decide, ?_⟩
            conv => whnf
            refine ⟨⟨by omega, by omega⟩, ?_⟩
            conv => whnf
            have hd2 := cDemand (decide ((1 + szL acc + ((szN u : Nat) : Int)) ≤ 600))
            by_cases hs6 : 1 + szL (acc ++ [u]) ≤ 600
            · rw [if_pos hs6] at hRm
              rw [decide_eq_true (show (1 + szL acc + ((szN u : Nat) : Int)) ≤ 600 by omega)] at hd2 ⊢
              try (refine draw_intro true (by kernel_rfl) ?_; conv => whnf)
              refine CallPt.use hd2 [] trivial (by decide) rfl ?_ ?_
              (focus (rintro x _ hx _; (conv => whnf); exact absurd hx.1.2 (by simp)))
              rintro _ _ ⟨_, rfl, rfl⟩ _
              conv => whnf
              have es : 1 + szL acc + ((szN u : Nat) : Int) = 1 + szL (acc ++ [u]) := by omega
              rw [es]
              have hst : tcs (acc ++ [u]) = tcs acc ++ [tc u] := tcs_snoc19 acc u
              obtain ⟨k', l2', n', us⟩ := u
              replace hkc : (tcs N)[(((tcs N).length : Int) - 1 - (qv : Int)).toNat]? = some [.int .i64 k', .int .i64 l2', .int .i64 n', .sl 4 48 (tcs us)] := hkc
              refine draw_intro true (by kernel_rfl) ?_
              conv => whnf
              refine ⟨⟨by omega, by omega⟩, ?_⟩
              conv => whnf
              refine ⟨[.int .i64 k', .int .i64 l2', .int .i64 n', .sl 4 48 (tcs us)], hkc, show 0 + 4 ≤ 4 by decide, ?_⟩
              conv => whnf
              repeat (first | (refine And.intro rfl ?_; conv => whnf) | (refine And.intro (by decide) ?_; conv => whnf) | (refine draw_intro true (by kernel_rfl) ?_; conv => whnf) | (refine And.intro ⟨by omega, by omega⟩ ?_; conv => whnf) | (refine And.intro (by omega) ?_; conv => whnf) | (refine And.intro (fun _ => ⟨by omega, by omega⟩) ?_; conv => whnf) | (refine And.intro (of_decide_eq_true rfl) ?_; conv => whnf) | (refine And.intro (fun _ => ?_) (fun h => absurd h ?_); rotate_left; (focus (first | decide | (simp; done) | (simp [tcs]; done))); conv => whnf) | (refine And.intro (fun h => absurd h ?_) (fun _ => ?_); (focus (first | decide | (simp; done) | (simp [tcs]; done))); conv => whnf) | (intro _; conv => whnf))
              refine ⟨q2, _, _, by omega, ⟨j + 1, m, acc ++ [.mk k' l2' n' us], by omega, by simp [hacc], by omega, hs6, hRm, rfl, rfl⟩, Wk.sel [0, 1, 2, 3, 4, 5, 6, 9] (by decide) (by first | decide | (show (0 : Nat) ≤ _; decide) | (show ∀ i, i < 0 → _; decide) | (show (1 : Nat) ≤ _; decide) | (show ∀ i, i < 1 → _; decide) | (show (2 : Nat) ≤ _; decide) | (show ∀ i, i < 2 → _; decide) | (show (3 : Nat) ≤ _; decide) | (show ∀ i, i < 3 → _; decide) | (show (4 : Nat) ≤ _; decide) | (show ∀ i, i < 4 → _; decide) | (show (5 : Nat) ≤ _; decide) | (show ∀ i, i < 5 → _; decide) | (show (6 : Nat) ≤ _; decide) | (show ∀ i, i < 6 → _; decide) | (show (7 : Nat) ≤ _; decide) | (show ∀ i, i < 7 → _; decide)) (by first | decide | (show (0 : Nat) ≤ _; decide) | (show ∀ i, i < 0 → _; decide) | (show (1 : Nat) ≤ _; decide) | (show ∀ i, i < 1 → _; decide) | (show (2 : Nat) ≤ _; decide) | (show ∀ i, i < 2 → _; decide) | (show (3 : Nat) ≤ _; decide) | (show ∀ i, i < 3 → _; decide) | (show (4 : Nat) ≤ _; decide) | (show ∀ i, i < 4 → _; decide) | (show (5 : Nat) ≤ _; decide) | (show ∀ i, i < 5 → _; decide) | (show (6 : Nat) ≤ _; decide) | (show ∀ i, i < 6 → _; decide) | (show (7 : Nat) ≤ _; decide) | (show ∀ i, i < 7 → _; decide)) ⟨rfl, rfl, rfl, rfl, rfl, rfl, rfl, ?_, trivial⟩ ⟨rfl, rfl, rfl, rfl, rfl, rfl, trivial⟩ rfl⟩
              rw [hst]
              rfl
            · rw [if_neg hs6] at hRm
              rw [decide_eq_false (show ¬ (1 + szL acc + ((szN u : Nat) : Int)) ≤ 600 by omega)] at hd2 ⊢
              try (refine draw_intro true (by kernel_rfl) ?_; conv => whnf)
              refine CallPt.use hd2 [] trivial (by decide) rfl ?_ ?_
              (focus (rintro x _ hx _; (conv => whnf); exact ⟨hx.1.1, by rw [← hRm]⟩))
              rintro _ _ ⟨h, _⟩ _
              conv => whnf
              cases h
          · rw [if_neg hqn] at hRm
            rw [decide_eq_false (show ¬ 0 ≤ ((tcs N).length : Int) - 1 - (qv : Int) by omega)] at hd ⊢
            try (refine draw_intro true (by kernel_rfl) ?_; conv => whnf)
            refine CallPt.use hd [] trivial (by decide) rfl ?_ ?_
            (focus (rintro x _ hx _; (conv => whnf); exact ⟨hx.1.1, by rw [← hRm]⟩))
            rintro _ _ ⟨h, _⟩ _
            conv => whnf
            cases h
    · replace hc : ¬ (j : Int) < c := of_decide_eq_false hc
      obtain rfl : q = 0 := by omega
      rw [rdArgs] at hRm
      subst hRm
      conv => whnf
      subst hC
      conv => whnf
      refine draw_wk [(5, .c (.int .i64 (1 + szL acc))), (4, .ptr 4 0), (2, .ptr 3 0), (0, .ptr 0 0)]
        [.box [.c (.str (sB l')), .own 7, .own 5], .dead, .dead, .box [.c (.int .i64 (0)), .c (.int .i64 (0)), .c (.int .i64 (0)), .nil], .box [.c (.int .i64 (kk)), .c (.int .i64 (hh)), .c (.int .i64 (((0 : Nat) : Int))), .own 6], .row 3 1 8 (rowN (N.map szN)), .frz (.sl 4 48 (tcs acc)), .row 25 4 48 (tcs N ++ [[.int .i64 kk, .int .i64 hh, .int .i64 ((0 : Nat) : Int), .sl 4 48 (tcs acc)]])] ?_ ?_
      · refine draw_intro true (by kernel_rfl) ?_
        conv => whnf
        repeat (first | (refine And.intro rfl ?_; conv => whnf) | (refine And.intro (by decide) ?_; conv => whnf) | (refine And.intro ⟨by omega, by omega⟩ ?_; conv => whnf) | (refine And.intro (by omega) ?_; conv => whnf) | (refine And.intro (fun _ => ⟨by omega, by omega⟩) ?_; conv => whnf) | (refine And.intro (of_decide_eq_true rfl) ?_; conv => whnf) | (refine And.intro (fun _ => ?_) (fun h => absurd h ?_); rotate_left; (focus (first | decide | (simp; done) | (simp [tcs]; done))); conv => whnf) | (refine And.intro (fun h => absurd h ?_) (fun _ => ?_); (focus (first | decide | (simp; done) | (simp [tcs]; done))); conv => whnf))
        intro hlenN
        conv => whnf
        repeat (first | (refine And.intro rfl ?_; conv => whnf) | (refine And.intro (by decide) ?_; conv => whnf) | (refine And.intro ⟨by omega, by omega⟩ ?_; conv => whnf) | (refine And.intro (by omega) ?_; conv => whnf) | (refine And.intro (fun _ => ⟨by omega, by omega⟩) ?_; conv => whnf) | (refine And.intro (of_decide_eq_true rfl) ?_; conv => whnf) | (refine And.intro (fun _ => ?_) (fun h => absurd h ?_); rotate_left; (focus (first | decide | (simp; done) | (simp [tcs]; done))); conv => whnf) | (refine And.intro (fun h => absurd h ?_) (fun _ => ?_); (focus (first | decide | (simp; done) | (simp [tcs]; done))); conv => whnf))
        refine ⟨show ((tcs N).length + 1) * 48 ≤ 140737488355328 by omega, show (tcs N).length + 1 ≤ 9223372036854775807 by omega, ?_⟩
        conv => whnf
        repeat (first | (refine And.intro rfl ?_; conv => whnf) | (refine And.intro (by decide) ?_; conv => whnf) | (refine And.intro ⟨by omega, by omega⟩ ?_; conv => whnf) | (refine And.intro (by omega) ?_; conv => whnf) | (refine And.intro (fun _ => ⟨by omega, by omega⟩) ?_; conv => whnf) | (refine And.intro (of_decide_eq_true rfl) ?_; conv => whnf) | (refine And.intro (fun _ => ?_) (fun h => absurd h ?_); rotate_left; (focus (first | decide | (simp; done) | (simp [tcs]; done))); conv => whnf) | (refine And.intro (fun h => absurd h ?_) (fun _ => ?_); (focus (first | decide | (simp; done) | (simp [tcs]; done))); conv => whnf))
        have hix : ((tcs N).length : Int).toNat = (tcs N).length := by omega
        have hapl : ∀ z : List CV, (tcs N).length < (tcs N ++ [z]).length := fun z => by simp
        refine ⟨⟨by omega, by rw [hix]; exact hapl _⟩, ?_⟩
        conv => whnf
        repeat (first | (refine And.intro rfl ?_; conv => whnf) | (refine And.intro (by decide) ?_; conv => whnf) | (refine And.intro ⟨by omega, by omega⟩ ?_; conv => whnf) | (refine And.intro (by omega) ?_; conv => whnf) | (refine And.intro (fun _ => ⟨by omega, by omega⟩) ?_; conv => whnf) | (refine And.intro (of_decide_eq_true rfl) ?_; conv => whnf) | (refine And.intro (fun _ => ?_) (fun h => absurd h ?_); rotate_left; (focus (first | decide | (simp; done) | (simp [tcs]; done))); conv => whnf) | (refine And.intro (fun h => absurd h ?_) (fun _ => ?_); (focus (first | decide | (simp; done) | (simp [tcs]; done))); conv => whnf))
        have hget : ∀ z : List CV, (tcs N ++ [z])[((tcs N).length : Int).toNat]? = some z := fun z => by rw [hix]; simp
        have hset : ∀ z x : List CV, (tcs N ++ [z]).set ((tcs N).length : Int).toNat x = tcs N ++ [x] := fun z x => by rw [hix]; simp
        refine ⟨?_, ?_⟩
        · conv => whnf
          repeat (first | (refine And.intro rfl ?_; conv => whnf) | (refine And.intro (by decide) ?_; conv => whnf) | (refine And.intro ⟨by omega, by omega⟩ ?_; conv => whnf) | (refine And.intro (by omega) ?_; conv => whnf) | (refine And.intro (fun _ => ⟨by omega, by omega⟩) ?_; conv => whnf) | (refine And.intro (of_decide_eq_true rfl) ?_; conv => whnf) | (refine And.intro (fun _ => ?_) (fun h => absurd h ?_); rotate_left; (focus (first | decide | (simp; done) | (simp [tcs]; done))); conv => whnf) | (refine And.intro (fun h => absurd h ?_) (fun _ => ?_); (focus (first | decide | (simp; done) | (simp [tcs]; done))); conv => whnf))
          refine ⟨_, hget _, show 0 + 4 ≤ 4 by decide, ?_⟩
          conv => whnf
          repeat (first | (refine And.intro rfl ?_; conv => whnf) | (refine And.intro (by decide) ?_; conv => whnf) | (refine And.intro ⟨by omega, by omega⟩ ?_; conv => whnf) | (refine And.intro (by omega) ?_; conv => whnf) | (refine And.intro (fun _ => ⟨by omega, by omega⟩) ?_; conv => whnf) | (refine And.intro (of_decide_eq_true rfl) ?_; conv => whnf) | (refine And.intro (fun _ => ?_) (fun h => absurd h ?_); rotate_left; (focus (first | decide | (simp; done) | (simp [tcs]; done))); conv => whnf) | (refine And.intro (fun h => absurd h ?_) (fun _ => ?_); (focus (first | decide | (simp; done) | (simp [tcs]; done))); conv => whnf))
          exact Wk.sel [0, 1, 2, 3, 4, 6, 7, 9] (by decide) (by first | decide | (show (0 : Nat) ≤ _; decide) | (show ∀ i, i < 0 → _; decide) | (show (1 : Nat) ≤ _; decide) | (show ∀ i, i < 1 → _; decide) | (show (2 : Nat) ≤ _; decide) | (show ∀ i, i < 2 → _; decide) | (show (3 : Nat) ≤ _; decide) | (show ∀ i, i < 3 → _; decide) | (show (4 : Nat) ≤ _; decide) | (show ∀ i, i < 4 → _; decide) | (show (5 : Nat) ≤ _; decide) | (show ∀ i, i < 5 → _; decide) | (show (6 : Nat) ≤ _; decide) | (show ∀ i, i < 6 → _; decide) | (show (7 : Nat) ≤ _; decide) | (show ∀ i, i < 7 → _; decide)) (by first | decide | (show (0 : Nat) ≤ _; decide) | (show ∀ i, i < 0 → _; decide) | (show (1 : Nat) ≤ _; decide) | (show ∀ i, i < 1 → _; decide) | (show (2 : Nat) ≤ _; decide) | (show ∀ i, i < 2 → _; decide) | (show (3 : Nat) ≤ _; decide) | (show ∀ i, i < 3 → _; decide) | (show (4 : Nat) ≤ _; decide) | (show ∀ i, i < 4 → _; decide) | (show (5 : Nat) ≤ _; decide) | (show ∀ i, i < 5 → _; decide) | (show (6 : Nat) ≤ _; decide) | (show ∀ i, i < 6 → _; decide) | (show (7 : Nat) ≤ _; decide) | (show ∀ i, i < 7 → _; decide)) ⟨rfl, rfl, rfl, rfl, rfl, rfl, rfl, eRow (hset _ _), trivial⟩ ⟨rfl, rfl, rfl, rfl, trivial⟩ rfl
        · conv => whnf
          repeat (first | (refine And.intro rfl ?_; conv => whnf) | (refine And.intro (by decide) ?_; conv => whnf) | (refine And.intro ⟨by omega, by omega⟩ ?_; conv => whnf) | (refine And.intro (by omega) ?_; conv => whnf) | (refine And.intro (fun _ => ⟨by omega, by omega⟩) ?_; conv => whnf) | (refine And.intro (of_decide_eq_true rfl) ?_; conv => whnf) | (refine And.intro (fun _ => ?_) (fun h => absurd h ?_); rotate_left; (focus (first | decide | (simp; done) | (simp [tcs]; done))); conv => whnf) | (refine And.intro (fun h => absurd h ?_) (fun _ => ?_); (focus (first | decide | (simp; done) | (simp [tcs]; done))); conv => whnf))
          refine ⟨_, hget _, show 0 + 4 ≤ 4 by decide, ?_⟩
          conv => whnf
          repeat (first | (refine And.intro rfl ?_; conv => whnf) | (refine And.intro (by decide) ?_; conv => whnf) | (refine And.intro ⟨by omega, by omega⟩ ?_; conv => whnf) | (refine And.intro (by omega) ?_; conv => whnf) | (refine And.intro (fun _ => ⟨by omega, by omega⟩) ?_; conv => whnf) | (refine And.intro (of_decide_eq_true rfl) ?_; conv => whnf) | (refine And.intro (fun _ => ?_) (fun h => absurd h ?_); rotate_left; (focus (first | decide | (simp; done) | (simp [tcs]; done))); conv => whnf) | (refine And.intro (fun h => absurd h ?_) (fun _ => ?_); (focus (first | decide | (simp; done) | (simp [tcs]; done))); conv => whnf))
          exact Wk.sel [0, 1, 2, 3, 4, 6, 7, 9] (by decide) (by first | decide | (show (0 : Nat) ≤ _; decide) | (show ∀ i, i < 0 → _; decide) | (show (1 : Nat) ≤ _; decide) | (show ∀ i, i < 1 → _; decide) | (show (2 : Nat) ≤ _; decide) | (show ∀ i, i < 2 → _; decide) | (show (3 : Nat) ≤ _; decide) | (show ∀ i, i < 3 → _; decide) | (show (4 : Nat) ≤ _; decide) | (show ∀ i, i < 4 → _; decide) | (show (5 : Nat) ≤ _; decide) | (show ∀ i, i < 5 → _; decide) | (show (6 : Nat) ≤ _; decide) | (show ∀ i, i < 6 → _; decide) | (show (7 : Nat) ≤ _; decide) | (show ∀ i, i < 7 → _; decide)) (by first | decide | (show (0 : Nat) ≤ _; decide) | (show ∀ i, i < 0 → _; decide) | (show (1 : Nat) ≤ _; decide) | (show ∀ i, i < 1 → _; decide) | (show (2 : Nat) ≤ _; decide) | (show ∀ i, i < 2 → _; decide) | (show (3 : Nat) ≤ _; decide) | (show ∀ i, i < 3 → _; decide) | (show (4 : Nat) ≤ _; decide) | (show ∀ i, i < 4 → _; decide) | (show (5 : Nat) ≤ _; decide) | (show ∀ i, i < 5 → _; decide) | (show (6 : Nat) ≤ _; decide) | (show ∀ i, i < 6 → _; decide) | (show (7 : Nat) ≤ _; decide) | (show ∀ i, i < 7 → _; decide)) ⟨rfl, rfl, rfl, rfl, rfl, rfl, rfl, eRow (hset _ _), trivial⟩ ⟨rfl, rfl, rfl, rfl, trivial⟩ rfl
      · have hzl : (rowN (N.map szN)).length = N.length := by simp [rowN]
        conv => whnf
        repeat (first | (refine And.intro rfl ?_; conv => whnf) | (refine And.intro (by decide) ?_; conv => whnf) | (refine draw_intro true (by kernel_rfl) ?_; conv => whnf) | (refine And.intro ⟨by omega, by omega⟩ ?_; conv => whnf) | (refine And.intro (by omega) ?_; conv => whnf) | (refine And.intro (fun _ => ⟨by omega, by omega⟩) ?_; conv => whnf) | (refine And.intro (of_decide_eq_true rfl) ?_; conv => whnf) | (refine And.intro (fun _ => ?_) (fun h => absurd h ?_); rotate_left; (focus (first | decide | (simp; done) | (simp [tcs]; done))); conv => whnf) | (refine And.intro (fun h => absurd h ?_) (fun _ => ?_); (focus (first | decide | (simp; done) | (simp [tcs]; done))); conv => whnf) | (intro _; conv => whnf))
        refine ⟨show ((rowN (N.map szN)).length + 1) * 8 ≤ 140737488355328 by omega, show (rowN (N.map szN)).length + 1 ≤ 9223372036854775807 by omega, ?_⟩
        conv => whnf
        repeat (first | (refine And.intro rfl ?_; conv => whnf) | (refine And.intro (by decide) ?_; conv => whnf) | (refine draw_intro true (by kernel_rfl) ?_; conv => whnf) | (refine And.intro ⟨by omega, by omega⟩ ?_; conv => whnf) | (refine And.intro (by omega) ?_; conv => whnf) | (refine And.intro (fun _ => ⟨by omega, by omega⟩) ?_; conv => whnf) | (refine And.intro (of_decide_eq_true rfl) ?_; conv => whnf) | (refine And.intro (fun _ => ?_) (fun h => absurd h ?_); rotate_left; (focus (first | decide | (simp; done) | (simp [tcs]; done))); conv => whnf) | (refine And.intro (fun h => absurd h ?_) (fun _ => ?_); (focus (first | decide | (simp; done) | (simp [tcs]; done))); conv => whnf) | (intro _; conv => whnf))
        have ezN : ((szN (Term.mk kk hh ((0 : Nat) : Int) acc) : Nat) : Int) = 1 + szL acc := by have := szL_pos acc; unfold szN; rw [szT]; omega
        have eZ : rowN (N.map szN) ++ [[CV.int .i64 (1 + szL acc)]] = rowN ((N ++ [Term.mk kk hh ((0 : Nat) : Int) acc]).map szN) := by rw [← ezN]; simp [rowN]
        refine ⟨[(2, .ptr 5 0)], [.box [.c (.str (sB l')), .own 3, .own 4], .dead, .dead, .row 25 4 48 (tcs (N ++ [Term.mk kk hh ((0 : Nat) : Int) acc])), .row 3 1 8 (rowN ((N ++ [Term.mk kk hh ((0 : Nat) : Int) acc]).map szN)), .box [.c (.int .i64 (kk)), .c (.int .i64 (hh)), .c (.int .i64 (((0 : Nat) : Int))), .own 6], .frz (.sl 4 48 (tcs acc))],
          Wk.sel [0, 1, 2, 7, 9, 3, 6] (by decide) (by first | decide | (show (0 : Nat) ≤ _; decide) | (show ∀ i, i < 0 → _; decide) | (show (1 : Nat) ≤ _; decide) | (show ∀ i, i < 1 → _; decide) | (show (2 : Nat) ≤ _; decide) | (show ∀ i, i < 2 → _; decide) | (show (3 : Nat) ≤ _; decide) | (show ∀ i, i < 3 → _; decide) | (show (4 : Nat) ≤ _; decide) | (show ∀ i, i < 4 → _; decide) | (show (5 : Nat) ≤ _; decide) | (show ∀ i, i < 5 → _; decide) | (show (6 : Nat) ≤ _; decide) | (show ∀ i, i < 6 → _; decide) | (show (7 : Nat) ≤ _; decide) | (show ∀ i, i < 7 → _; decide)) (by first | decide | (show (0 : Nat) ≤ _; decide) | (show ∀ i, i < 0 → _; decide) | (show (1 : Nat) ≤ _; decide) | (show ∀ i, i < 1 → _; decide) | (show (2 : Nat) ≤ _; decide) | (show ∀ i, i < 2 → _; decide) | (show (3 : Nat) ≤ _; decide) | (show ∀ i, i < 3 → _; decide) | (show (4 : Nat) ≤ _; decide) | (show ∀ i, i < 4 → _; decide) | (show (5 : Nat) ≤ _; decide) | (show ∀ i, i < 5 → _; decide) | (show (6 : Nat) ≤ _; decide) | (show ∀ i, i < 6 → _; decide) | (show (7 : Nat) ≤ _; decide) | (show ∀ i, i < 7 → _; decide)) ⟨rfl, rfl, rfl, eRow (tcs_snoc19 N (Term.mk kk hh ((0 : Nat) : Int) acc)).symm, eRow eZ, rfl, rfl, trivial⟩ ⟨rfl, trivial⟩ rfl, ?_⟩
        conv => whnf
        repeat (first | (refine And.intro rfl ?_; conv => whnf) | (refine And.intro (by decide) ?_; conv => whnf) | (refine draw_intro true (by kernel_rfl) ?_; conv => whnf) | (refine And.intro ⟨by omega, by omega⟩ ?_; conv => whnf) | (refine And.intro (by omega) ?_; conv => whnf) | (refine And.intro (fun _ => ⟨by omega, by omega⟩) ?_; conv => whnf) | (refine And.intro (of_decide_eq_true rfl) ?_; conv => whnf) | (refine And.intro (fun _ => ?_) (fun h => absurd h ?_); rotate_left; (focus (first | decide | (simp; done) | (simp [tcs]; done))); conv => whnf) | (refine And.intro (fun h => absurd h ?_) (fun _ => ?_); (focus (first | decide | (simp; done) | (simp [tcs]; done))); conv => whnf) | (intro _; conv => whnf))
        exact ⟨_, _, rfl, rfl, rfl⟩
end Go.Tr
/- cert: the nodes that are read. -/
namespace Go.Tr
open Go.Proofs
def rdNs : Nat → List UInt8 → List Term → Option (List Term × List UInt8)
  | 0, l, N => some (N, l)
  | n + 1, l, N => match rdNode l N with
    | some (t, m) => rdNs n m (N ++ [t])
    | none => none
/-- The nodes that are read. -/
def rdNodes (l : List UInt8) (N : List Term) : Option (List Term × List UInt8) := match rdCount l with
  | some (n, m) => rdNs n m N
  | none => none
theorem rdArgs_le {N : List Term} : ∀ (c : Nat) (l : List UInt8) (acc us : List Term) (m : List UInt8), rdArgs N c l acc = some (us, m) → 1 + szL acc ≤ 600 → m.length ≤ l.length ∧ 1 + szL us ≤ 600
  | 0, l, acc, us, m, h, hs => by
    rw [rdArgs] at h
    injection h with h
    injection h with h1 h2
    subst h1 h2
    exact ⟨Nat.le_refl _, hs⟩
  | c + 1, l, acc, us, m, h, hs => by
    rw [rdArgs] at h
    split at h
    · rename_i q m1 h1
      have g1 := rdNum_len _ _ _ _ _ h1
      split at h
      · split at h
        · rename_i hs2
          have := rdArgs_le c _ _ _ _ h hs2
          exact ⟨by omega, this.2⟩
        · cases h
      · cases h
    · cases h
theorem rdRest_le {k h n : Nat} {l m : List UInt8} {N : List Term} {t : Term} (e : rdRest k h n l N = some (t, m)) : m.length ≤ l.length ∧ szT t ≤ 600 := by
  unfold rdRest at e
  split at e
  · rename_i c m1 h1
    have g1 := rdCount_le h1
    split at e
    · rename_i us m2 h2
      have g2 := rdArgs_le _ _ _ _ _ h2 (by simp [szL])
      injection e with e
      injection e with e1 e2
      subst e1 e2
      rw [szT]
      exact ⟨by omega, g2.2⟩
    · cases e
  · cases e
theorem rdNode_le {l m : List UInt8} {N : List Term} {t : Term} (e : rdNode l N = some (t, m)) : m.length < l.length ∧ szT t ≤ 600 := by
  unfold rdNode at e
  split at e
  · cases e
  · rename_i b l1
    rw [List.length_cons]
    split at e
    · split at e
      · rename_i n l2 h1
        have g1 := rdNum_len _ _ _ _ _ h1
        have g2 := rdRest_le e
        exact ⟨by omega, g2.2⟩
      · cases e
    · have g2 := rdRest_le e
      exact ⟨by omega, g2.2⟩
theorem cReadNodes (l : List UInt8) (N0 : List Term) (hl : l.length ≤ 400000) (hN0 : ∀ t ∈ N0, szT t ≤ 600) (hNl : N0.length ≤ 400000) :
    CallPt Try.prog 54 [.ptr 0 0, .bd 55 [.ptr 0 0]] (rdH l N0 (N0.map szN))
    (fun r H' => ∃ N m ts, rdNodes l N0 = some (N, m) ∧ r = .own 5 ∧ H' = [.box [.c (.str (sB m)), .own 3, .own 4], .dead, .dead, .row 25 4 48 (tcs N), .row 3 1 8 (rowN (N.map szN)), .row 25 4 48 (tcs ts)])
    (fun x H' => (x = trb ∧ rdNodes l N0 = none) ∧ H' = dead3) := by
  have hn := cRdCount l N0 (N0.map szN) (by omega)
  refine call_pan (E := envK 3) (fn := Try.f54) (c := bodyOf Try.f54) (envK_ok 3) mixed (by kernel_rfl) (by kernel_rfl) (by kernel_rfl) (by kernel_rfl) (by kernel_rfl) (by kernel_rfl) rfl .w ?_
  refine aw_cut _ _ rfl fun C hC => ?_
  conv => whnf
  subst hC
  refine aw_cut _ _ rfl fun C hC => ?_
  conv => whnf
  subst hC
  refine aw_cut _ _ rfl fun C hC => ?_
  conv => whnf
  try (refine draw_intro true (by kernel_rfl) ?_; conv => whnf)
  refine CallPt.use hn [0, 1, 2] ⟨rfl, rfl, rfl, trivial⟩ (by decide) rfl ?_ ?_
  (focus (rintro x _ hx _; (conv => whnf); exact ⟨hx.1.1, by unfold rdNodes; rw [hx.1.2]⟩))
  rintro _ _ ⟨n, m, hR, rfl, rfl⟩ _
  conv => whnf
  obtain ⟨hnm, hml⟩ := rdCount_le hR
  have e : rdNodes l N0 = rdNs n m N0 := by unfold rdNodes; rw [hR]
  rw [e]
  clear e hR hn
  generalize hRR : rdNs n m N0 = R at *
  repeat (first | (refine And.intro rfl ?_; conv => whnf) | (refine And.intro (by decide) ?_; conv => whnf) | (refine draw_intro true (by kernel_rfl) ?_; conv => whnf) | (refine And.intro ⟨by omega, by omega⟩ ?_; conv => whnf) | (refine And.intro (by omega) ?_; conv => whnf) | (refine And.intro (fun _ => ⟨by omega, by omega⟩) ?_; conv => whnf) | (refine And.intro (of_decide_eq_true rfl) ?_; conv => whnf) | (refine And.intro (fun _ => ?_) (fun h => absurd h ?_); rotate_left; (focus (first | decide | (simp; done) | (simp [tcs]; done))); conv => whnf) | (refine And.intro (fun h => absurd h ?_) (fun _ => ?_); (focus (first | decide | (simp; done) | (simp [tcs]; done))); conv => whnf) | (intro _; conv => whnf))
  refine loop_intro (fun q tm H => ∃ (j : Nat) (l' : List UInt8) (N acc : List Term), n = q + j ∧ acc.length = j ∧ l'.length + N.length ≤ 800000 ∧ (∀ t ∈ N, szT t ≤ 600) ∧ rdNs q l' N = R ∧
      tm = [(9, .c (.int .i64 (j))), (8, .c (.int .i64 (n))), (5, .own 5), (1, .bd 55 [.ptr 0 0]), (0, .ptr 0 0)] ∧ H = [.box [.c (.str (sB l')), .own 3, .own 4], .dead, .dead, .row 25 4 48 (tcs N), .row 3 1 8 (rowN (N.map szN)), .row 25 4 48 (tcs acc)])
    n _ _ ⟨0, m, N0, [], by omega, rfl, by omega, hN0, hRR, rfl, rfl⟩ ?_ ?_
  · refine Wk.trans (Wk.mvbox 0 1 1 25 4 48 (tcs N0) rfl rfl rfl rfl) ?_
    refine Wk.trans (Wk.mvbox 0 2 2 3 1 8 (rowN (N0.map szN)) rfl rfl rfl rfl) ?_
    refine Wk.trans (Wk.niltmp 5 25 4 48 rfl rfl) ?_
    exact Wk.sel [0, 1, 2, 3, 4, 5] (by decide) (by first | decide | (show (0 : Nat) ≤ _; decide) | (show ∀ i, i < 0 → _; decide) | (show (1 : Nat) ≤ _; decide) | (show ∀ i, i < 1 → _; decide) | (show (2 : Nat) ≤ _; decide) | (show ∀ i, i < 2 → _; decide) | (show (3 : Nat) ≤ _; decide) | (show ∀ i, i < 3 → _; decide) | (show (4 : Nat) ≤ _; decide) | (show ∀ i, i < 4 → _; decide) | (show (5 : Nat) ≤ _; decide) | (show ∀ i, i < 5 → _; decide) | (show (6 : Nat) ≤ _; decide) | (show ∀ i, i < 6 → _; decide) | (show (7 : Nat) ≤ _; decide) | (show ∀ i, i < 7 → _; decide)) (by first | decide | (show (0 : Nat) ≤ _; decide) | (show ∀ i, i < 0 → _; decide) | (show (1 : Nat) ≤ _; decide) | (show ∀ i, i < 1 → _; decide) | (show (2 : Nat) ≤ _; decide) | (show ∀ i, i < 2 → _; decide) | (show (3 : Nat) ≤ _; decide) | (show ∀ i, i < 3 → _; decide) | (show (4 : Nat) ≤ _; decide) | (show ∀ i, i < 4 → _; decide) | (show (5 : Nat) ≤ _; decide) | (show ∀ i, i < 5 → _; decide) | (show (6 : Nat) ≤ _; decide) | (show ∀ i, i < 6 → _; decide) | (show (7 : Nat) ≤ _; decide) | (show ∀ i, i < 7 → _; decide)) ⟨rfl, rfl, rfl, rfl, rfl, rfl, trivial⟩ ⟨rfl, rfl, rfl, rfl, rfl, trivial⟩ rfl
  rintro q tm H ⟨j, l', N, acc, hj, hacc, hl', hN, hRm, rfl, rfl⟩
  have hla := len_tcs acc
  have hb1 : ((tcs acc).length + 1) * 48 ≤ 140737488355328 := by omega
  have hb2 : (tcs acc).length + 1 ≤ 9223372036854775807 := by omega
  conv => whnf
  refine ⟨fun hc => ?_, fun hc => ?_⟩
  · replace hc : (j : Int) < n := of_decide_eq_true hc
    obtain ⟨q2, rfl⟩ : ∃ q2, q = q2 + 1 := ⟨q - 1, by omega⟩
    rw [rdNs] at hRm
    have ht := cRdNode l' N (by omega) hN (by omega)
    conv => whnf
    try (refine draw_intro true (by kernel_rfl) ?_; conv => whnf)
    refine CallPt.use ht [0, 3, 4] ⟨rfl, rfl, rfl, trivial⟩ (by decide) rfl ?_ ?_
    (focus (rintro x _ hx _; (conv => whnf); exact ⟨hx.1.1, by rw [hx.1.2] at hRm; exact hRm.symm⟩))
    rintro _ _ ⟨t, m2, hR2, rfl, rfl⟩ _
    conv => whnf
    rw [hR2] at hRm
    have hlen2 := rdNode_le hR2
    have hst : tcs (acc ++ [t]) = tcs acc ++ [tc t] := tcs_snoc19 acc t
    have hN2 : ∀ u ∈ N ++ [t], szT u ≤ 600 := fun u hu => by
      rcases List.mem_append.1 hu with h | h
      · exact hN u h
      · rw [List.mem_singleton.1 h]; exact hlen2.2
    have hNn : (N ++ [t]).length = N.length + 1 := by simp
    replace hRm : rdNs q2 m2 (N ++ [t]) = R := hRm
    generalize N ++ [t] = N2 at *
    obtain ⟨k', l2, n', us⟩ := t
    rw [tv_mk]
    repeat (first | (refine And.intro rfl ?_; conv => whnf) | (refine And.intro (by decide) ?_; conv => whnf) | (refine draw_intro true (by kernel_rfl) ?_; conv => whnf) | (refine And.intro ⟨by omega, by omega⟩ ?_; conv => whnf) | (refine And.intro (by omega) ?_; conv => whnf) | (refine And.intro (fun _ => ⟨by omega, by omega⟩) ?_; conv => whnf) | (refine And.intro (of_decide_eq_true rfl) ?_; conv => whnf) | (refine And.intro (fun _ => ?_) (fun h => absurd h ?_); rotate_left; (focus (first | decide | (simp; done) | (simp [tcs]; done))); conv => whnf) | (refine And.intro (fun h => absurd h ?_) (fun _ => ?_); (focus (first | decide | (simp; done) | (simp [tcs]; done))); conv => whnf) | (intro _; conv => whnf))
    refine ⟨q2, _, _, by omega, ⟨j + 1, m2, N2, acc ++ [.mk k' l2 n' us], by omega, by simp [hacc], by omega, hN2, hRm, rfl, rfl⟩, Wk.sel [0, 1, 2, 6, 7, 12] (by decide) (by first | decide | (show (0 : Nat) ≤ _; decide) | (show ∀ i, i < 0 → _; decide) | (show (1 : Nat) ≤ _; decide) | (show ∀ i, i < 1 → _; decide) | (show (2 : Nat) ≤ _; decide) | (show ∀ i, i < 2 → _; decide) | (show (3 : Nat) ≤ _; decide) | (show ∀ i, i < 3 → _; decide) | (show (4 : Nat) ≤ _; decide) | (show ∀ i, i < 4 → _; decide) | (show (5 : Nat) ≤ _; decide) | (show ∀ i, i < 5 → _; decide) | (show (6 : Nat) ≤ _; decide) | (show ∀ i, i < 6 → _; decide) | (show (7 : Nat) ≤ _; decide) | (show ∀ i, i < 7 → _; decide)) (by first | decide | (show (0 : Nat) ≤ _; decide) | (show ∀ i, i < 0 → _; decide) | (show (1 : Nat) ≤ _; decide) | (show ∀ i, i < 1 → _; decide) | (show (2 : Nat) ≤ _; decide) | (show ∀ i, i < 2 → _; decide) | (show (3 : Nat) ≤ _; decide) | (show ∀ i, i < 3 → _; decide) | (show (4 : Nat) ≤ _; decide) | (show ∀ i, i < 4 → _; decide) | (show (5 : Nat) ≤ _; decide) | (show ∀ i, i < 5 → _; decide) | (show (6 : Nat) ≤ _; decide) | (show ∀ i, i < 6 → _; decide) | (show (7 : Nat) ≤ _; decide) | (show ∀ i, i < 7 → _; decide)) ⟨rfl, rfl, rfl, rfl, rfl, ?_, trivial⟩ ⟨rfl, rfl, rfl, rfl, rfl, trivial⟩ rfl⟩
    rw [hst]
    rfl
  · replace hc : ¬ (j : Int) < n := of_decide_eq_false hc
    obtain rfl : q = 0 := by omega
    rw [rdNs] at hRm
    subst hC
    conv => whnf
    repeat (first | (refine And.intro rfl ?_; conv => whnf) | (refine And.intro (by decide) ?_; conv => whnf) | (refine draw_intro true (by kernel_rfl) ?_; conv => whnf) | (refine And.intro ⟨by omega, by omega⟩ ?_; conv => whnf) | (refine And.intro (by omega) ?_; conv => whnf) | (refine And.intro (fun _ => ⟨by omega, by omega⟩) ?_; conv => whnf) | (refine And.intro (of_decide_eq_true rfl) ?_; conv => whnf) | (refine And.intro (fun _ => ?_) (fun h => absurd h ?_); rotate_left; (focus (first | decide | (simp; done) | (simp [tcs]; done))); conv => whnf) | (refine And.intro (fun h => absurd h ?_) (fun _ => ?_); (focus (first | decide | (simp; done) | (simp [tcs]; done))); conv => whnf) | (intro _; conv => whnf))
    refine ⟨[(4, .own 5)], [.box [.c (.str (sB l')), .own 3, .own 4], .dead, .dead, .row 25 4 48 (tcs N), .row 3 1 8 (rowN (N.map szN)), .row 25 4 48 (tcs acc)], Wk.sel [0, 1, 2, 3, 4, 5] (by decide) (by first | decide | (show (0 : Nat) ≤ _; decide) | (show ∀ i, i < 0 → _; decide) | (show (1 : Nat) ≤ _; decide) | (show ∀ i, i < 1 → _; decide) | (show (2 : Nat) ≤ _; decide) | (show ∀ i, i < 2 → _; decide) | (show (3 : Nat) ≤ _; decide) | (show ∀ i, i < 3 → _; decide) | (show (4 : Nat) ≤ _; decide) | (show ∀ i, i < 4 → _; decide) | (show (5 : Nat) ≤ _; decide) | (show ∀ i, i < 5 → _; decide) | (show (6 : Nat) ≤ _; decide) | (show ∀ i, i < 6 → _; decide) | (show (7 : Nat) ≤ _; decide) | (show ∀ i, i < 7 → _; decide)) (by first | decide | (show (0 : Nat) ≤ _; decide) | (show ∀ i, i < 0 → _; decide) | (show (1 : Nat) ≤ _; decide) | (show ∀ i, i < 1 → _; decide) | (show (2 : Nat) ≤ _; decide) | (show ∀ i, i < 2 → _; decide) | (show (3 : Nat) ≤ _; decide) | (show ∀ i, i < 3 → _; decide) | (show (4 : Nat) ≤ _; decide) | (show ∀ i, i < 4 → _; decide) | (show (5 : Nat) ≤ _; decide) | (show ∀ i, i < 5 → _; decide) | (show (6 : Nat) ≤ _; decide) | (show ∀ i, i < 6 → _; decide) | (show (7 : Nat) ≤ _; decide) | (show ∀ i, i < 7 → _; decide)) ⟨rfl, rfl, rfl, rfl, rfl, rfl, trivial⟩ ⟨rfl, trivial⟩ rfl, ?_⟩
    conv => whnf
    repeat (first | (refine And.intro rfl ?_; conv => whnf) | (refine And.intro (by decide) ?_; conv => whnf) | (refine draw_intro true (by kernel_rfl) ?_; conv => whnf) | (refine And.intro ⟨by omega, by omega⟩ ?_; conv => whnf) | (refine And.intro (by omega) ?_; conv => whnf) | (refine And.intro (fun _ => ⟨by omega, by omega⟩) ?_; conv => whnf) | (refine And.intro (of_decide_eq_true rfl) ?_; conv => whnf) | (refine And.intro (fun _ => ?_) (fun h => absurd h ?_); rotate_left; (focus (first | decide | (simp; done) | (simp [tcs]; done))); conv => whnf) | (refine And.intro (fun h => absurd h ?_) (fun _ => ?_); (focus (first | decide | (simp; done) | (simp [tcs]; done))); conv => whnf) | (intro _; conv => whnf))
    exact ⟨N, l', acc, hRm.symm, rfl, rfl⟩
end Go.Tr
/- cert: a certificate that is read. -/
namespace Go.Tr
open Go.Proofs
theorem rdNs_le : ∀ (n : Nat) (l : List UInt8) (N N' : List Term) (m : List UInt8), rdNs n l N = some (N', m) → (∀ t ∈ N, szT t ≤ 600) → m.length + N'.length ≤ l.length + N.length ∧ ∀ t ∈ N', szT t ≤ 600
  | 0, l, N, N', m, h, hs => by
    rw [rdNs] at h
    injection h with h
    injection h with h1 h2
    subst h1 h2
    exact ⟨Nat.le_refl _, hs⟩
  | n + 1, l, N, N', m, h, hs => by
    rw [rdNs] at h
    split at h
    · rename_i t m1 h1
      have g1 := rdNode_le h1
      have g2 := rdNs_le n m1 (N ++ [t]) N' m h (fun u hu => by
        rcases List.mem_append.1 hu with h | h
        · exact hs u h
        · rw [List.mem_singleton.1 h]; exact g1.2)
      have e : (N ++ [t]).length = N.length + 1 := by simp
      exact ⟨by omega, g2.2⟩
    · cases h
theorem rdNodes_le {l m : List UInt8} {N N' : List Term} (h : rdNodes l N = some (N', m)) (hs : ∀ t ∈ N, szT t ≤ 600) : m.length + N'.length ≤ l.length + N.length ∧ ∀ t ∈ N', szT t ≤ 600 := by
  unfold rdNodes at h
  split at h
  · rename_i c m1 h1
    have g1 := rdCount_le h1
    have g2 := rdNs_le _ _ _ _ _ h hs
    exact ⟨by omega, g2.2⟩
  · cases h
theorem rdMany_le {α : Type} {one : List UInt8 → Option (α × List UInt8)} (ho : ∀ l x m, one l = some (x, m) → m.length < l.length) : ∀ (n : Nat) (l : List UInt8) (acc ts : List α) (m : List UInt8), rdMany one n l acc = some (ts, m) → m.length ≤ l.length
  | 0, l, acc, ts, m, h => by
    rw [rdMany] at h
    injection h with h
    injection h with h1 h2
    subst h2
    exact Nat.le_refl _
  | n + 1, l, acc, ts, m, h => by
    rw [rdMany] at h
    split at h
    · rename_i x m1 h1
      have g1 := ho _ _ _ h1
      have g2 := rdMany_le ho n m1 _ _ _ h
      omega
    · cases h
theorem rdList_le {α : Type} {one : List UInt8 → Option (α × List UInt8)} (ho : ∀ l x m, one l = some (x, m) → m.length < l.length) {l m : List UInt8} {ts : List α} (h : rdList one l = some (ts, m)) : m.length ≤ l.length := by
  unfold rdList at h
  split at h
  · rename_i c m1 h1
    have g1 := rdCount_le h1
    have g2 := rdMany_le ho _ _ _ _ _ h
    omega
  · cases h
/-- The end of a certificate that is read. -/
def rdEnd (ds : List Dcl) (ts : List Term) (m : List UInt8) (N : List Term) : Option Crt := match rdTerm m N with
  | some (a, m1) => (match rdTerm m1 N with
    | some (b, m2) => if m2 = [] then some ⟨ds, ts, a, b⟩ else none
    | none => none)
  | none => none
/-- A certificate that is read. -/
def rdCert (l : List UInt8) : Option Crt := match rdNodes l [] with
  | some (N, m) => (match rdList (fun l => rdDecl l N) m with
    | some (ds, m1) => if ds.length ≤ 100 then (match rdList (fun l => rdTerm l N) m1 with
      | some (ts, m2) => if ts.length ≤ 30 then rdEnd ds ts m2 N else none
      | none => none) else none
    | none => none)
  | none => none
def crtV (c : Crt) : List AV := [.c (.sl 6 72 (dcs c.S)), .c (.sl 4 48 (tcs c.X)), .c (.int .i64 (c.o.k)), .c (.int .i64 (c.o.l)), .c (.int .i64 (c.o.n)), .c (.sl 4 48 (tcs c.o.ts)), .c (.int .i64 (c.c.k)), .c (.int .i64 (c.c.l)), .c (.int .i64 (c.c.n)), .c (.sl 4 48 (tcs c.c.ts))]
set_option maxHeartbeats 4000000 in
theorem cRdCert (l : List UInt8) (hl : l.length ≤ 400000) :
    CallPt Try.prog 48 [.ptr 0 0] [.box [.c (.str (sB l)), .nil, .nil]]
    (fun r H' => ∃ c N, rdCert l = some c ∧ r = crv c ∧ H' = [.box [.c (.str (sB [])), .own 1, .own 2], .row 25 4 48 (tcs N), .row 3 1 8 (rowN (N.map szN)), .box (crtV c)])
    (fun x H' => (x = trb ∧ rdCert l = none) ∧ H' = [.dead]) := by
  have hrn : CallPt Try.prog 54 [.ptr 0 0, .bd 55 [.ptr 0 0]] [.box [.c (.str (sB l)), .nil, .nil]]
    (fun r H' => ∃ N m ts, rdNodes l [] = some (N, m) ∧ r = .own 5 ∧ H' = [.box [.c (.str (sB m)), .own 3, .own 4], .dead, .dead, .row 25 4 48 (tcs N), .row 3 1 8 (rowN (N.map szN)), .row 25 4 48 (tcs ts)])
    (fun x H' => (x = trb ∧ rdNodes l [] = none) ∧ H' = dead3) := by
    refine CallPt.wk _ ?_ (cReadNodes l [] hl (fun t h => absurd h (by simp)) (by simp))
    refine Wk.trans (Wk.nilrow (i := 0) (j := 1) 25 4 48 rfl rfl rfl) ?_
    refine Wk.trans (Wk.nilrow (i := 0) (j := 2) 3 1 8 rfl rfl rfl) ?_
    exact Wk.sel [0, 1, 2] (by decide) (by first | decide | (show (0 : Nat) ≤ _; decide) | (show ∀ i, i < 0 → _; decide) | (show (1 : Nat) ≤ _; decide) | (show ∀ i, i < 1 → _; decide) | (show (2 : Nat) ≤ _; decide) | (show ∀ i, i < 2 → _; decide) | (show (3 : Nat) ≤ _; decide) | (show ∀ i, i < 3 → _; decide) | (show (4 : Nat) ≤ _; decide) | (show ∀ i, i < 4 → _; decide) | (show (5 : Nat) ≤ _; decide) | (show ∀ i, i < 5 → _; decide) | (show (6 : Nat) ≤ _; decide) | (show ∀ i, i < 6 → _; decide) | (show (7 : Nat) ≤ _; decide) | (show ∀ i, i < 7 → _; decide)) (by first | decide | (show (0 : Nat) ≤ _; decide) | (show ∀ i, i < 0 → _; decide) | (show (1 : Nat) ≤ _; decide) | (show ∀ i, i < 1 → _; decide) | (show (2 : Nat) ≤ _; decide) | (show ∀ i, i < 2 → _; decide) | (show (3 : Nat) ≤ _; decide) | (show ∀ i, i < 3 → _; decide) | (show (4 : Nat) ≤ _; decide) | (show ∀ i, i < 4 → _; decide) | (show (5 : Nat) ≤ _; decide) | (show ∀ i, i < 5 → _; decide) | (show (6 : Nat) ≤ _; decide) | (show ∀ i, i < 6 → _; decide) | (show (7 : Nat) ≤ _; decide) | (show ∀ i, i < 7 → _; decide)) ⟨rfl, rfl, rfl, trivial⟩ trivial rfl
  refine call_pan (E := env 1) (fn := Try.f48) (c := bodyOf Try.f48) (env_ok 1) mixed (by kernel_rfl) (by kernel_rfl) (by kernel_rfl) (by kernel_rfl) (by kernel_rfl) (by kernel_rfl) rfl .v ?_
  refine aw_cut _ _ rfl fun C hC => ?_
  conv => whnf
  subst hC
  refine aw_cut _ _ rfl fun C hC => ?_
  conv => whnf
  try (refine draw_intro true (by kernel_rfl) ?_; conv => whnf)
  refine CallPt.use hrn [0] ⟨rfl, trivial⟩ (by decide) rfl ?_ ?_
  (focus (rintro x _ hx _; (conv => whnf); exact ⟨hx.1.1, by unfold rdCert; rw [hx.1.2]⟩))
  rintro _ _ ⟨N, m, ts0, hR, rfl, rfl⟩ _
  conv => whnf
  obtain ⟨hm, hN⟩ := rdNodes_le hR (fun t h => absurd h (by simp))
  rw [List.length_nil] at hm
  have eR : rdCert l = match rdList (fun l => rdDecl l N) m with
    | some (ds, m1) => if ds.length ≤ 100 then (match rdList (fun l => rdTerm l N) m1 with
      | some (ts, m2) => if ts.length ≤ 30 then rdEnd ds ts m2 N else none
      | none => none) else none
    | none => none := by unfold rdCert; rw [hR]
  rw [eR]
  clear eR hR
  have hrd := cReadDecls m N (N.map szN) (by omega) hN (by omega)
  subst hC
  refine aw_cut _ _ rfl fun C hC => ?_
  conv => whnf
  subst hC
  refine aw_cut _ _ rfl fun C hC => ?_
  conv => whnf
  try (refine draw_intro true (by kernel_rfl) ?_; conv => whnf)
  refine CallPt.use hrd [0, 4, 5] ⟨rfl, rfl, rfl, trivial⟩ (by decide) rfl ?_ ?_
  (focus (rintro x _ hx _; (conv => whnf); exact ⟨hx.1.1, by rw [hx.1.2]⟩))
  rintro _ _ ⟨ds, m1, hR, rfl, rfl⟩ _
  conv => whnf
  have hm1 := rdList_le (fun _ _ _ h => rdDecl_len h) hR
  have hlt := len_dcs ds
  rw [hR]
  simp only
  clear hR hrd
  subst hC
  refine aw_cut _ _ rfl fun C hC => ?_
  conv => whnf
  intro hlen1
  clear hlen1
  conv => whnf
  have hd := cDemand (decide (((dcs ds).length : Int) ≤ 100))
  by_cases hds : ds.length ≤ 100
  rotate_left
  · rw [if_neg hds]
    rw [decide_eq_false (show ¬ ((dcs ds).length : Int) ≤ 100 by omega)] at hd ⊢
    try (refine draw_intro true (by kernel_rfl) ?_; conv => whnf)
    refine CallPt.use hd [] trivial (by decide) rfl ?_ ?_
    (focus (rintro x _ hx _; (conv => whnf); exact ⟨hx.1.1, rfl⟩))
    rintro _ _ ⟨h, _⟩ _
    conv => whnf
    cases h
  rw [if_pos hds]
  rw [decide_eq_true (show ((dcs ds).length : Int) ≤ 100 by omega)] at hd ⊢
  try (refine draw_intro true (by kernel_rfl) ?_; conv => whnf)
  refine CallPt.use hd [] trivial (by decide) rfl ?_ ?_
  (focus (rintro x _ hx _; (conv => whnf); exact absurd hx.1.2 (by simp)))
  rintro _ _ ⟨_, rfl, rfl⟩ _
  conv => whnf
  clear hd
  have hrt := cReadTerms m1 N (N.map szN) (by omega) hN (by omega)
  subst hC
  refine aw_cut _ _ rfl fun C hC => ?_
  conv => whnf
  try (refine draw_intro true (by kernel_rfl) ?_; conv => whnf)
  refine CallPt.use hrt [0, 4, 5] ⟨rfl, rfl, rfl, trivial⟩ (by decide) rfl ?_ ?_
  (focus (rintro x _ hx _; (conv => whnf); exact ⟨hx.1.1, by rw [hx.1.2]⟩))
  rintro _ _ ⟨ts, m2, hR, rfl, rfl⟩ _
  conv => whnf
  have hm2 := rdList_le (fun _ _ _ h => (rdTerm_len h).1) hR
  have hlx := len_tcs ts
  rw [hR]
  simp only
  clear hR hrt
  subst hC
  refine aw_cut _ _ rfl fun C hC => ?_
  conv => whnf
  intro hlen1
  clear hlen1
  conv => whnf
  have hd := cDemand (decide (((tcs ts).length : Int) ≤ 30))
  by_cases hts : ts.length ≤ 30
  rotate_left
  · rw [if_neg hts]
    rw [decide_eq_false (show ¬ ((tcs ts).length : Int) ≤ 30 by omega)] at hd ⊢
    try (refine draw_intro true (by kernel_rfl) ?_; conv => whnf)
    refine CallPt.use hd [] trivial (by decide) rfl ?_ ?_
    (focus (rintro x _ hx _; (conv => whnf); exact ⟨hx.1.1, rfl⟩))
    rintro _ _ ⟨h, _⟩ _
    conv => whnf
    cases h
  rw [if_pos hts]
  rw [decide_eq_true (show ((tcs ts).length : Int) ≤ 30 by omega)] at hd ⊢
  try (refine draw_intro true (by kernel_rfl) ?_; conv => whnf)
  refine CallPt.use hd [] trivial (by decide) rfl ?_ ?_
  (focus (rintro x _ hx _; (conv => whnf); exact absurd hx.1.2 (by simp)))
  rintro _ _ ⟨_, rfl, rfl⟩ _
  conv => whnf
  clear hd
  have ht1 := cRdTerm m2 N (N.map szN) (by omega) hN (by omega)
  subst hC
  refine aw_cut _ _ rfl fun C hC => ?_
  conv => whnf
  try (refine draw_intro true (by kernel_rfl) ?_; conv => whnf)
  refine CallPt.use ht1 [0, 4, 5] ⟨rfl, rfl, rfl, trivial⟩ (by decide) rfl ?_ ?_
  (focus (rintro x _ hx _; (conv => whnf); exact ⟨hx.1.1, by unfold rdEnd; rw [hx.1.2]⟩))
  rintro _ _ ⟨a, m3, hR, rfl, rfl⟩ _
  conv => whnf
  have hm3 := (rdTerm_len hR).1
  have eE : rdEnd ds ts m2 N = match rdTerm m3 N with
    | some (b, m4) => if m4 = [] then some ⟨ds, ts, a, b⟩ else none
    | none => none := by unfold rdEnd; rw [hR]
  rw [eE]
  clear eE hR ht1
  have ht2 := cRdTerm m3 N (N.map szN) (by omega) hN (by omega)
  subst hC
  refine aw_cut _ _ rfl fun C hC => ?_
  conv => whnf
  try (refine draw_intro true (by kernel_rfl) ?_; conv => whnf)
  refine CallPt.use ht2 [0, 4, 5] ⟨rfl, rfl, rfl, trivial⟩ (by decide) rfl ?_ ?_
  (focus (rintro x _ hx _; (conv => whnf); exact ⟨hx.1.1, by rw [hx.1.2]⟩))
  rintro _ _ ⟨b, m4, hR, rfl, rfl⟩ _
  conv => whnf
  rw [hR]
  simp only
  clear hR ht2
  subst hC
  refine aw_cut _ _ rfl fun C hC => ?_
  conv => whnf
  have hd := cDemand (decide (m4 = []))
  rw [show (decide (sB m4 = (⟨#[]⟩ : ByteArray))) = decide (m4 = []) from sB_nil m4]
  by_cases h4 : m4 = []
  rotate_left
  · rw [if_neg h4]
    rw [decide_eq_false h4] at hd ⊢
    try (refine draw_intro true (by kernel_rfl) ?_; conv => whnf)
    refine CallPt.use hd [] trivial (by decide) rfl ?_ ?_
    (focus (rintro x _ hx _; (conv => whnf); exact ⟨hx.1.1, rfl⟩))
    rintro _ _ ⟨h, _⟩ _
    conv => whnf
    cases h
  rw [if_pos h4]
  rw [decide_eq_true h4] at hd ⊢
  try (refine draw_intro true (by kernel_rfl) ?_; conv => whnf)
  refine CallPt.use hd [] trivial (by decide) rfl ?_ ?_
  (focus (rintro x _ hx _; (conv => whnf); exact absurd hx.1.2 (by simp)))
  rintro _ _ ⟨_, rfl, rfl⟩ _
  conv => whnf
  clear hd
  subst h4
  subst hC
  conv => whnf
  repeat (first | (refine And.intro rfl ?_; conv => whnf) | (refine And.intro (by decide) ?_; conv => whnf) | (refine draw_intro true (by kernel_rfl) ?_; conv => whnf) | (refine And.intro ⟨by omega, by omega⟩ ?_; conv => whnf) | (refine And.intro (by omega) ?_; conv => whnf) | (refine And.intro (fun _ => ⟨by omega, by omega⟩) ?_; conv => whnf) | (refine And.intro (of_decide_eq_true rfl) ?_; conv => whnf) | (refine And.intro (fun _ => ?_) (fun h => absurd h ?_); rotate_left; (focus (first | decide | (simp; done) | (simp [tcs]; done))); conv => whnf) | (refine And.intro (fun h => absurd h ?_) (fun _ => ?_); (focus (first | decide | (simp; done) | (simp [tcs]; done))); conv => whnf) | (intro _; conv => whnf))
  refine ⟨[(2, .ptr 3 0)], [.box [.c (.str (sB [])), .own 1, .own 2], .row 25 4 48 (tcs N), .row 3 1 8 (rowN (N.map szN)), .box [.c (.sl 6 72 (dcs ds)), .c (.sl 4 48 (tcs ts)), .c (.int .i64 (a.k)), .c (.int .i64 (a.l)), .c (.int .i64 (a.n)), .c (.sl 4 48 (tcs a.ts)), .c (.int .i64 (b.k)), .c (.int .i64 (b.l)), .c (.int .i64 (b.n)), .c (.sl 4 48 (tcs b.ts))]],
    Wk.sel [0, 4, 5, 1] (by decide) (by first | decide | (show (0 : Nat) ≤ _; decide) | (show ∀ i, i < 0 → _; decide) | (show (1 : Nat) ≤ _; decide) | (show ∀ i, i < 1 → _; decide) | (show (2 : Nat) ≤ _; decide) | (show ∀ i, i < 2 → _; decide) | (show (3 : Nat) ≤ _; decide) | (show ∀ i, i < 3 → _; decide) | (show (4 : Nat) ≤ _; decide) | (show ∀ i, i < 4 → _; decide) | (show (5 : Nat) ≤ _; decide) | (show ∀ i, i < 5 → _; decide) | (show (6 : Nat) ≤ _; decide) | (show ∀ i, i < 6 → _; decide) | (show (7 : Nat) ≤ _; decide) | (show ∀ i, i < 7 → _; decide)) (by first | decide | (show (0 : Nat) ≤ _; decide) | (show ∀ i, i < 0 → _; decide) | (show (1 : Nat) ≤ _; decide) | (show ∀ i, i < 1 → _; decide) | (show (2 : Nat) ≤ _; decide) | (show ∀ i, i < 2 → _; decide) | (show (3 : Nat) ≤ _; decide) | (show ∀ i, i < 3 → _; decide) | (show (4 : Nat) ≤ _; decide) | (show ∀ i, i < 4 → _; decide) | (show (5 : Nat) ≤ _; decide) | (show ∀ i, i < 5 → _; decide) | (show (6 : Nat) ≤ _; decide) | (show ∀ i, i < 6 → _; decide) | (show (7 : Nat) ≤ _; decide) | (show ∀ i, i < 7 → _; decide)) ⟨rfl, rfl, rfl, rfl, trivial⟩ ⟨rfl, trivial⟩ rfl, ?_⟩
  conv => whnf
  repeat (first | (refine And.intro rfl ?_; conv => whnf) | (refine And.intro (by decide) ?_; conv => whnf) | (refine draw_intro true (by kernel_rfl) ?_; conv => whnf) | (refine And.intro ⟨by omega, by omega⟩ ?_; conv => whnf) | (refine And.intro (by omega) ?_; conv => whnf) | (refine And.intro (fun _ => ⟨by omega, by omega⟩) ?_; conv => whnf) | (refine And.intro (of_decide_eq_true rfl) ?_; conv => whnf) | (refine And.intro (fun _ => ?_) (fun h => absurd h ?_); rotate_left; (focus (first | decide | (simp; done) | (simp [tcs]; done))); conv => whnf) | (refine And.intro (fun h => absurd h ?_) (fun _ => ?_); (focus (first | decide | (simp; done) | (simp [tcs]; done))); conv => whnf) | (intro _; conv => whnf))
  exact ⟨⟨ds, ts, a, b⟩, N, rfl, rfl, rfl⟩
end Go.Tr
/- cert: a deferred function that recovers. -/
namespace Go.Tr
open Go.Proofs
def crt0 : List AV := [.nil, .nil, .c (.int .i64 (0)), .c (.int .i64 (0)), .c (.int .i64 (0)), .nil, .c (.int .i64 (0)), .c (.int .i64 (0)), .c (.int .i64 (0)), .nil]
def envD (n : Nat) : Env := ⟨lkT tab, fun _ => true, n, true, false, none, fun _ _ => none⟩
theorem envD_ok (n : Nat) : EnvOk Try.prog (envD n) := EnvOk.of (l := tab) rfl (by kernel_rfl)
theorem cDefer : DefSt Try.prog 46 [.ptr 0 0, .ptr 1 0] [.box crt0, .box [.c (.int .i64 (0))]] (some trb) (fun H' => H' = [.box crt0, .box [.c (.int .i64 (30))]]) := by
  refine def_intro (E := envY 2) (fn := Try.f46) (c := bodyOf Try.f46) (envY_ok 2) mixed rfl (by kernel_rfl) (by kernel_rfl) rfl (by kernel_rfl) (by kernel_rfl) (by kernel_rfl) (by kernel_rfl) rfl ?_
  conv => whnf
  repeat (first | (refine And.intro rfl ?_; conv => whnf) | (refine And.intro (by decide) ?_; conv => whnf) | (refine draw_intro true (by kernel_rfl) ?_; conv => whnf) | (refine And.intro ⟨by omega, by omega⟩ ?_; conv => whnf) | (refine And.intro (by omega) ?_; conv => whnf) | (refine And.intro (fun _ => ⟨by omega, by omega⟩) ?_; conv => whnf) | (refine And.intro (of_decide_eq_true rfl) ?_; conv => whnf) | (refine And.intro (fun _ => ?_) (fun h => absurd h ?_); rotate_left; (focus (first | decide | (simp; done) | (simp [tcs]; done))); conv => whnf) | (refine And.intro (fun h => absurd h ?_) (fun _ => ?_); (focus (first | decide | (simp; done) | (simp [tcs]; done))); conv => whnf) | (intro _; conv => whnf))
  rfl
theorem cDefer1 : DefSt Try.prog 46 [.ptr 0 0, .ptr 1 0] [.box crt0, .box [.c (.int .i64 (0))], .dead] (some trb) (fun H' => H' = [.box crt0, .box [.c (.int .i64 (30))], .dead]) := by
  refine def_intro (E := envY 3) (fn := Try.f46) (c := bodyOf Try.f46) (envY_ok 3) mixed rfl (by kernel_rfl) (by kernel_rfl) rfl (by kernel_rfl) (by kernel_rfl) (by kernel_rfl) (by kernel_rfl) rfl ?_
  conv => whnf
  repeat (first | (refine And.intro rfl ?_; conv => whnf) | (refine And.intro (by decide) ?_; conv => whnf) | (refine draw_intro true (by kernel_rfl) ?_; conv => whnf) | (refine And.intro ⟨by omega, by omega⟩ ?_; conv => whnf) | (refine And.intro (by omega) ?_; conv => whnf) | (refine And.intro (fun _ => ⟨by omega, by omega⟩) ?_; conv => whnf) | (refine And.intro (of_decide_eq_true rfl) ?_; conv => whnf) | (refine And.intro (fun _ => ?_) (fun h => absurd h ?_); rotate_left; (focus (first | decide | (simp; done) | (simp [tcs]; done))); conv => whnf) | (refine And.intro (fun h => absurd h ?_) (fun _ => ?_); (focus (first | decide | (simp; done) | (simp [tcs]; done))); conv => whnf) | (intro _; conv => whnf))
  rfl
theorem cDefer2 : DefSt Try.prog 46 [.ptr 0 0, .ptr 1 0] [.box crt0, .box [.c (.int .i64 (0))], .dead, .dead] (some trb) (fun H' => H' = [.box crt0, .box [.c (.int .i64 (30))], .dead, .dead]) := by
  refine def_intro (E := envY 4) (fn := Try.f46) (c := bodyOf Try.f46) (envY_ok 4) mixed rfl (by kernel_rfl) (by kernel_rfl) rfl (by kernel_rfl) (by kernel_rfl) (by kernel_rfl) (by kernel_rfl) rfl ?_
  conv => whnf
  repeat (first | (refine And.intro rfl ?_; conv => whnf) | (refine And.intro (by decide) ?_; conv => whnf) | (refine draw_intro true (by kernel_rfl) ?_; conv => whnf) | (refine And.intro ⟨by omega, by omega⟩ ?_; conv => whnf) | (refine And.intro (by omega) ?_; conv => whnf) | (refine And.intro (fun _ => ⟨by omega, by omega⟩) ?_; conv => whnf) | (refine And.intro (of_decide_eq_true rfl) ?_; conv => whnf) | (refine And.intro (fun _ => ?_) (fun h => absurd h ?_); rotate_left; (focus (first | decide | (simp; done) | (simp [tcs]; done))); conv => whnf) | (refine And.intro (fun h => absurd h ?_) (fun _ => ?_); (focus (first | decide | (simp; done) | (simp [tcs]; done))); conv => whnf) | (intro _; conv => whnf))
  rfl
abbrev opT (c : Crt) (N : List Term) : HP := [.dead, .box [.c (.str (sB [])), .own 4, .own 5], .row 25 4 48 (tcs N), .row 3 1 8 (rowN (N.map szN)), .box (crtV c), .box (crtV c)]
theorem cDefer3 (c : Crt) (N : List Term) : DefSt Try.prog 46 [.ptr 0 0, .ptr 1 0] ([.box crt0, .box [.c (.int .i64 (0))]] ++ opT c N) (some trb) (fun H' => H' = [.box crt0, .box [.c (.int .i64 (30))]] ++ opT c N) := by
  refine def_intro (E := envY 8) (fn := Try.f46) (c := bodyOf Try.f46) (envY_ok 8) mixed rfl (by kernel_rfl) (by kernel_rfl) rfl (by kernel_rfl) (by kernel_rfl) (by kernel_rfl) (by kernel_rfl) rfl ?_
  conv => whnf
  repeat (first | (refine And.intro rfl ?_; conv => whnf) | (refine And.intro (by decide) ?_; conv => whnf) | (refine draw_intro true (by kernel_rfl) ?_; conv => whnf) | (refine And.intro ⟨by omega, by omega⟩ ?_; conv => whnf) | (refine And.intro (by omega) ?_; conv => whnf) | (refine And.intro (fun _ => ⟨by omega, by omega⟩) ?_; conv => whnf) | (refine And.intro (of_decide_eq_true rfl) ?_; conv => whnf) | (refine And.intro (fun _ => ?_) (fun h => absurd h ?_); rotate_left; (focus (first | decide | (simp; done) | (simp [tcs]; done))); conv => whnf) | (refine And.intro (fun h => absurd h ?_) (fun _ => ?_); (focus (first | decide | (simp; done) | (simp [tcs]; done))); conv => whnf) | (intro _; conv => whnf))
  rfl
theorem cDefer4 (c : Crt) (N : List Term) : DefSt Try.prog 46 [.ptr 0 0, .ptr 1 0] ([.box (crtV c), .box [.c (.int .i64 (0))]] ++ opT c N) none (fun H' => H' = [.box (crtV c), .box [.c (.int .i64 (0))]] ++ opT c N) := by
  refine def_intro (E := envY 8) (fn := Try.f46) (c := bodyOf Try.f46) (envY_ok 8) mixed rfl (by kernel_rfl) (by kernel_rfl) rfl (by kernel_rfl) (by kernel_rfl) (by kernel_rfl) (by kernel_rfl) rfl ?_
  conv => whnf
  repeat (first | (refine And.intro rfl ?_; conv => whnf) | (refine And.intro (by decide) ?_; conv => whnf) | (refine draw_intro true (by kernel_rfl) ?_; conv => whnf) | (refine And.intro ⟨by omega, by omega⟩ ?_; conv => whnf) | (refine And.intro (by omega) ?_; conv => whnf) | (refine And.intro (fun _ => ⟨by omega, by omega⟩) ?_; conv => whnf) | (refine And.intro (of_decide_eq_true rfl) ?_; conv => whnf) | (refine And.intro (fun _ => ?_) (fun h => absurd h ?_); rotate_left; (focus (first | decide | (simp; done) | (simp [tcs]; done))); conv => whnf) | (refine And.intro (fun h => absurd h ?_) (fun _ => ?_); (focus (first | decide | (simp; done) | (simp [tcs]; done))); conv => whnf) | (intro _; conv => whnf))
  rfl
def crtZ : Crt := ⟨[], [], .mk 0 0 0 [], .mk 0 0 0 []⟩
theorem DefSt.mono {P : Program} {f : FuncId} {args : List AV} {H : HP} {rec : Option CV} {K K' : HP → Prop} (h : DefSt P f args H rec K) (hk : ∀ H', K H' → K' H') : DefSt P f args H rec K' := by
  unfold DefSt at *
  refine ⟨h.1, fun w S κ vs u hh hvs hu => (h.2 w S κ vs u hh hvs hu).mono ?_⟩
  rintro e u' w' ⟨v, H', κ', S', h1, h2, h3, h4⟩
  exact ⟨v, H', κ', S', h1, h2, hk _ h3, h4⟩
/-- Is it a sealed file. -/
def sealedB (l : List UInt8) : Bool := decide (l.length ≤ 60000) && decide (7 ≤ l.length) && decide (l.take 3 = [116, 114, 49]) && decide (sealB (l.take (l.length - 4)) = l)
def packS (c : Crt) : ByteArray := ⟨(sealB (packL c.S c.X (bk c (crl c).length) (rt c (crl c).length))).toArray⟩
def openC (l : List UInt8) : Option Crt := match sealedB l with
  | true => (match rdCert ((l.take (l.length - 4)).drop 3) with
    | some c => if builtB c = true ∧ packS c = sB l then some c else none
    | none => none)
  | false => none
def openV (l : List UInt8) : AV := match openC l with
  | some c => .tup [crv c, .c (.int .i64 (0))]
  | none => .tup [crv crtZ, .c (.int .i64 (30))]
theorem opPan {l : List UInt8} {T : HP} (hop : openV l = .tup [crv crtZ, .c (.int .i64 (30))]) : finF Fin5.p (envD 0) Try.f37 (fun r H' => r = openV l ∧ H' = []) AEx.ret [(2, .ptr 0 0), (3, .ptr 1 0)] ([.box crt0, .box [.c (.int .i64 (30))]] ++ T) := by
  rw [hop]
  conv => whnf
  repeat (first | (refine And.intro rfl ?_; conv => whnf) | (refine And.intro (by decide) ?_; conv => whnf) | (refine draw_intro true (by kernel_rfl) ?_; conv => whnf) | (refine And.intro ⟨by omega, by omega⟩ ?_; conv => whnf) | (refine And.intro (by omega) ?_; conv => whnf) | (refine And.intro (fun _ => ⟨by omega, by omega⟩) ?_; conv => whnf) | (refine And.intro (of_decide_eq_true rfl) ?_; conv => whnf) | (refine And.intro (fun _ => ?_) (fun h => absurd h ?_); rotate_left; (focus (first | decide | (simp; done) | (simp [tcs]; done))); conv => whnf) | (refine And.intro (fun h => absurd h ?_) (fun _ => ?_); (focus (first | decide | (simp; done) | (simp [tcs]; done))); conv => whnf) | (intro _; conv => whnf))
  all_goals rfl
set_option maxHeartbeats 4000000 in
theorem cOpened (l : List UInt8) (hl : l.length ≤ 400000) : CallSt Try.prog 37 [.c (.str (sB l))] [] (fun r H' => r = openV l ∧ H' = []) := by
  refine call_dfr (E := envD 0) (fn := Try.f37) (c := bodyOf Try.f37) (envD_ok 0) mixed (by kernel_rfl) (by kernel_rfl) (by kernel_rfl) (by kernel_rfl) (by kernel_rfl) (by kernel_rfl) rfl rfl .p [2,3] ?_
  conv => whnf
  have hsz := sB_size l
  refine ⟨by kernel_rfl, ?_⟩
  refine aw_cut _ _ rfl fun C hC => ?_
  conv => whnf
  subst hC
  refine aw_cut _ _ rfl fun C hC => ?_
  conv => whnf
  refine ⟨fun h => ?_, ?_⟩
  · rw [Bool.and_eq_true] at h
    have h7 : (7 : Int) ≤ ((sB l).size : Int) := of_decide_eq_true h.2
    exact ⟨by omega, by omega, by omega⟩
  conv => whnf
  have e3 : (decide (((sB l).size : Int) ≤ 60000) && decide (7 ≤ ((sB l).size : Int)) && decide ((sB l).extract (Int.toNat 0) (Int.toNat 3) = (⟨#[116, 114, 49]⟩ : ByteArray))) = (decide (l.length ≤ 60000) && decide (7 ≤ l.length) && decide (l.take 3 = [116, 114, 49])) := by
    rw [hsz, sB_extract]
    have h1 : decide ((l.length : Int) ≤ 60000) = decide (l.length ≤ 60000) := by by_cases h : l.length ≤ 60000 <;> simp [h] <;> omega
    have h2 : decide (7 ≤ (l.length : Int)) = decide (7 ≤ l.length) := by by_cases h : 7 ≤ l.length <;> simp [h] <;> omega
    have h3 : decide (sB ((l.take (Int.toNat 3)).drop (Int.toNat 0)) = (⟨#[116, 114, 49]⟩ : ByteArray)) = decide (l.take 3 = [116, 114, 49]) := by
      have e : ∀ m : List UInt8, decide (sB m = sB [116, 114, 49]) = decide (m = [116, 114, 49]) := fun m => by
        by_cases h : m = [116, 114, 49]
        · simp [h]
        · rw [decide_eq_false h, decide_eq_false fun e => h (sB_inj e)]
      exact e _
    rw [h1, h2, h3]
  rw [e3]
  generalize hb3 : (decide (l.length ≤ 60000) && decide (7 ≤ l.length) && decide (l.take 3 = [116, 114, 49])) = b3
  have hd := cDemand b3
  cases b3 with
  | false =>
    have hop : openV l = .tup [crv crtZ, .c (.int .i64 (30))] := by unfold openV openC sealedB; rw [hb3]; rfl
    try (refine draw_intro true (by kernel_rfl) ?_; conv => whnf)
    refine CallPt.use hd [] trivial (by decide) rfl ?_ ?_
    (focus (rintro x _ hx _; (conv => whnf); (obtain ⟨⟨rfl, _⟩, rfl⟩ := hx; exact DefSt.mono cDefer (fun H' h => by cases h; exact opPan (T := []) hop))))
    rintro _ _ ⟨h, _⟩ _
    conv => whnf
    cases h
  | true =>
    try (refine draw_intro true (by kernel_rfl) ?_; conv => whnf)
    refine CallPt.use hd [] trivial (by decide) rfl ?_ ?_
    (focus (rintro x _ hx _; (conv => whnf); exact absurd hx.1.2 (by simp)))
    rintro _ _ ⟨_, rfl, rfl⟩ _
    conv => whnf
    clear hd
    have hlb : l.length ≤ 60000 ∧ 7 ≤ l.length := by
      rw [Bool.and_eq_true, Bool.and_eq_true] at hb3
      exact ⟨of_decide_eq_true hb3.1.1, of_decide_eq_true hb3.1.2⟩
    subst hC
    refine aw_cut _ _ rfl fun C hC => ?_
    conv => whnf
    refine ⟨show inR _ by unfold inR; omega, ?_⟩
    conv => whnf
    refine ⟨⟨by omega, by omega, by omega⟩, ?_⟩
    conv => whnf
    have e4 : (sB l).extract (Int.toNat 0) (((sB l).size : Int) - 4).toNat = sB (l.take (l.length - 4)) := by
      have hx4 : (((sB l).size : Int) - 4).toNat = l.length - 4 := by rw [hsz]; omega
      rw [sB_extract, hx4]
      rfl
    rw [e4]
    generalize hl4 : l.take (l.length - 4) = l4
    have h4l : l4.length ≤ 60000 := by rw [← hl4, List.length_take]; omega
    have hs4 := sB_size l4
    refine ⟨by omega, ?_⟩
    conv => whnf
    rw [sB_list]
    have hse := cSealed l4 (by omega)
    try (refine draw_intro true (by kernel_rfl) ?_; conv => whnf)
    first | refine CallSt.use hse [2] ⟨rfl, trivial⟩ (by decide) rfl ?_ | refine CallPt.useS hse [2] ⟨rfl, trivial⟩ (by decide) rfl ?_
    rintro _ _ ⟨rfl, rfl⟩ _
    conv => whnf
    have e5 : decide ((⟨(sealB l4).toArray⟩ : ByteArray) = sB l) = decide (sealB l4 = l) := by
      by_cases h : sealB l4 = l
      · rw [decide_eq_true h, decide_eq_true (show (⟨(sealB l4).toArray⟩ : ByteArray) = sB l by rw [h]; rfl)]
      · rw [decide_eq_false h, decide_eq_false (show ¬ (⟨(sealB l4).toArray⟩ : ByteArray) = sB l from fun e => h (sB_inj (l := sealB l4) e))]
    rw [e5]
    have hd := cDemand (decide (sealB l4 = l))
    by_cases hsl : sealB l4 = l
    rotate_left
    · have hop : openV l = .tup [crv crtZ, .c (.int .i64 (30))] := by unfold openV openC sealedB; rw [hb3, hl4, decide_eq_false hsl]; rfl
      rw [decide_eq_false hsl] at hd ⊢
      try (refine draw_intro true (by kernel_rfl) ?_; conv => whnf)
      refine CallPt.use hd [] trivial (by decide) rfl ?_ ?_
      (focus (rintro x _ hx _; (conv => whnf); (obtain ⟨⟨rfl, _⟩, rfl⟩ := hx; exact DefSt.mono cDefer1 (fun H' h => by cases h; exact opPan (T := [.dead]) hop))))
      rintro _ _ ⟨h, _⟩ _
      conv => whnf
      cases h
    rw [decide_eq_true hsl] at hd ⊢
    try (refine draw_intro true (by kernel_rfl) ?_; conv => whnf)
    refine CallPt.use hd [] trivial (by decide) rfl ?_ ?_
    (focus (rintro x _ hx _; (conv => whnf); exact absurd hx.1.2 (by simp)))
    rintro _ _ ⟨_, rfl, rfl⟩ _
    conv => whnf
    clear hd
    subst hC
    refine aw_cut _ _ rfl fun C hC => ?_
    conv => whnf
    refine ⟨show inR _ by unfold inR; omega, ?_⟩
    conv => whnf
    refine ⟨⟨by omega, by omega, by omega⟩, ?_⟩
    conv => whnf
    have e6 : (sB l).extract (Int.toNat 3) (((sB l).size : Int) - 4).toNat = sB (l4.drop 3) := by
      have hx4 : (((sB l).size : Int) - 4).toNat = l.length - 4 := by rw [hsz]; omega
      rw [sB_extract, hx4, hl4]
      rfl
    rw [e6]
    generalize hl5 : l4.drop 3 = l5
    have h5l : l5.length ≤ 60000 := by rw [← hl5, List.length_drop]; omega
    have hrc := cRdCert l5 (by omega)
    repeat (first | (refine And.intro rfl ?_; conv => whnf) | (refine And.intro (by decide) ?_; conv => whnf) | (refine draw_intro true (by kernel_rfl) ?_; conv => whnf) | (refine And.intro ⟨by omega, by omega⟩ ?_; conv => whnf) | (refine And.intro (by omega) ?_; conv => whnf) | (refine And.intro (fun _ => ⟨by omega, by omega⟩) ?_; conv => whnf) | (refine And.intro (of_decide_eq_true rfl) ?_; conv => whnf) | (refine And.intro (fun _ => ?_) (fun h => absurd h ?_); rotate_left; (focus (first | decide | (simp; done) | (simp [tcs]; done))); conv => whnf) | (refine And.intro (fun h => absurd h ?_) (fun _ => ?_); (focus (first | decide | (simp; done) | (simp [tcs]; done))); conv => whnf) | (intro _; conv => whnf))
    subst hC
    refine aw_cut _ _ rfl fun C hC => ?_
    conv => whnf
    have hopn : rdCert l5 = none → openV l = .tup [crv crtZ, .c (.int .i64 (30))] := fun h => by
      unfold openV openC sealedB
      rw [hb3, hl4, decide_eq_true hsl, hl5, h]
      rfl
    try (refine draw_intro true (by kernel_rfl) ?_; conv => whnf)
    refine CallPt.use hrc [3] ⟨rfl, trivial⟩ (by decide) rfl ?_ ?_
    (focus (rintro x _ hx _; (conv => whnf); (obtain ⟨⟨rfl, hno⟩, rfl⟩ := hx; exact DefSt.mono cDefer2 (fun H' h => by cases h; exact opPan (T := [.dead, .dead]) (hopn hno)))))
    rintro _ _ ⟨c, N, hR, rfl, rfl⟩ _
    conv => whnf
    clear hopn hrc
    have hops : openV l = match (if builtB c = true ∧ packS c = sB l then some c else none) with
      | some c => .tup [crv c, .c (.int .i64 (0))]
      | none => .tup [crv crtZ, .c (.int .i64 (30))] := by
      unfold openV openC sealedB
      rw [hb3, hl4, decide_eq_true hsl, hl5, hR]
      rfl
    have hbu := cBuilt c
    repeat (first | (refine And.intro rfl ?_; conv => whnf) | (refine And.intro (by decide) ?_; conv => whnf) | (refine draw_intro true (by kernel_rfl) ?_; conv => whnf) | (refine And.intro ⟨by omega, by omega⟩ ?_; conv => whnf) | (refine And.intro (by omega) ?_; conv => whnf) | (refine And.intro (fun _ => ⟨by omega, by omega⟩) ?_; conv => whnf) | (refine And.intro (of_decide_eq_true rfl) ?_; conv => whnf) | (refine And.intro (fun _ => ?_) (fun h => absurd h ?_); rotate_left; (focus (first | decide | (simp; done) | (simp [tcs]; done))); conv => whnf) | (refine And.intro (fun h => absurd h ?_) (fun _ => ?_); (focus (first | decide | (simp; done) | (simp [tcs]; done))); conv => whnf) | (intro _; conv => whnf))
    subst hC
    refine aw_cut _ _ rfl fun C hC => ?_
    conv => whnf
    try (refine draw_intro true (by kernel_rfl) ?_; conv => whnf)
    first | refine CallSt.use hbu [] trivial (by decide) rfl ?_ | refine CallPt.useS hbu [] trivial (by decide) rfl ?_
    rintro _ _ ⟨rfl, rfl⟩ _
    conv => whnf
    cases hbb : builtB c with
    | false =>
      have hop2 : openV l = .tup [crv crtZ, .c (.int .i64 (30))] := by rw [hops, hbb]; rfl
      have hd := cDemand false
      conv => whnf
      repeat (first | (refine And.intro rfl ?_; conv => whnf) | (refine And.intro (by decide) ?_; conv => whnf) | (refine And.intro ⟨by omega, by omega⟩ ?_; conv => whnf) | (refine And.intro (by omega) ?_; conv => whnf) | (refine And.intro (fun _ => ⟨by omega, by omega⟩) ?_; conv => whnf) | (refine And.intro (of_decide_eq_true rfl) ?_; conv => whnf) | (refine And.intro (fun _ => ?_) (fun h => absurd h ?_); rotate_left; (focus (first | decide | (simp; done) | (simp [tcs]; done))); conv => whnf) | (refine And.intro (fun h => absurd h ?_) (fun _ => ?_); (focus (first | decide | (simp; done) | (simp [tcs]; done))); conv => whnf))
      try (refine draw_intro true (by kernel_rfl) ?_; conv => whnf)
      refine CallPt.use hd [] trivial (by decide) rfl ?_ ?_
      (focus (rintro x _ hx _; (conv => whnf); (obtain ⟨⟨rfl, _⟩, rfl⟩ := hx; exact DefSt.mono (cDefer3 c N) (fun H' h => by cases h; exact opPan (T := opT c N) hop2))))
      rintro _ _ ⟨h, _⟩ _
      conv => whnf
      cases h
    | true =>
      have hpk := cPacked c (built_ok hbb)
      conv => whnf
      repeat (first | (refine And.intro rfl ?_; conv => whnf) | (refine And.intro (by decide) ?_; conv => whnf) | (refine And.intro ⟨by omega, by omega⟩ ?_; conv => whnf) | (refine And.intro (by omega) ?_; conv => whnf) | (refine And.intro (fun _ => ⟨by omega, by omega⟩) ?_; conv => whnf) | (refine And.intro (of_decide_eq_true rfl) ?_; conv => whnf) | (refine And.intro (fun _ => ?_) (fun h => absurd h ?_); rotate_left; (focus (first | decide | (simp; done) | (simp [tcs]; done))); conv => whnf) | (refine And.intro (fun h => absurd h ?_) (fun _ => ?_); (focus (first | decide | (simp; done) | (simp [tcs]; done))); conv => whnf))
      try (refine draw_intro true (by kernel_rfl) ?_; conv => whnf)
      first | refine CallSt.use hpk [] trivial (by decide) rfl ?_ | refine CallPt.useS hpk [] trivial (by decide) rfl ?_
      rintro _ _ ⟨rfl, rfl⟩ _
      conv => whnf
      generalize hpp : decide ((⟨(sealB (packL c.S c.X (bk c (crl c).length) (rt c (crl c).length))).toArray⟩ : ByteArray) = sB l) = pp
      have hd := cDemand pp
      cases pp with
      | false =>
        have hop2 : openV l = .tup [crv crtZ, .c (.int .i64 (30))] := by rw [hops, if_neg (fun h => of_decide_eq_false hpp h.2)]
        try (refine draw_intro true (by kernel_rfl) ?_; conv => whnf)
        refine CallPt.use hd [] trivial (by decide) rfl ?_ ?_
        (focus (rintro x _ hx _; (conv => whnf); (obtain ⟨⟨rfl, _⟩, rfl⟩ := hx; exact DefSt.mono (cDefer3 c N) (fun H' h => by cases h; exact opPan (T := opT c N) hop2))))
        rintro _ _ ⟨h, _⟩ _
        conv => whnf
        cases h
      | true =>
        have hop3 : openV l = .tup [crv c, .c (.int .i64 (0))] := by rw [hops, if_pos ⟨hbb, of_decide_eq_true hpp⟩]
        try (refine draw_intro true (by kernel_rfl) ?_; conv => whnf)
        refine CallPt.use hd [] trivial (by decide) rfl ?_ ?_
        (focus (rintro x _ hx _; (conv => whnf); exact absurd hx.1.2 (by simp)))
        rintro _ _ ⟨_, rfl, rfl⟩ _
        conv => whnf
        rw [hop3]
        subst hC
        conv => whnf
        repeat (first | (refine And.intro rfl ?_; conv => whnf) | (refine And.intro (by decide) ?_; conv => whnf) | (refine draw_intro true (by kernel_rfl) ?_; conv => whnf) | (refine And.intro ⟨by omega, by omega⟩ ?_; conv => whnf) | (refine And.intro (by omega) ?_; conv => whnf) | (refine And.intro (fun _ => ⟨by omega, by omega⟩) ?_; conv => whnf) | (refine And.intro (of_decide_eq_true rfl) ?_; conv => whnf) | (refine And.intro (fun _ => ?_) (fun h => absurd h ?_); rotate_left; (focus (first | decide | (simp; done) | (simp [tcs]; done))); conv => whnf) | (refine And.intro (fun h => absurd h ?_) (fun _ => ?_); (focus (first | decide | (simp; done) | (simp [tcs]; done))); conv => whnf) | (intro _; conv => whnf))
        refine DefSt.mono (cDefer4 c N) (fun H' h => ?_)
        cases h
        conv => whnf
        repeat (first | (refine And.intro rfl ?_; conv => whnf) | (refine And.intro (by decide) ?_; conv => whnf) | (refine draw_intro true (by kernel_rfl) ?_; conv => whnf) | (refine And.intro ⟨by omega, by omega⟩ ?_; conv => whnf) | (refine And.intro (by omega) ?_; conv => whnf) | (refine And.intro (fun _ => ⟨by omega, by omega⟩) ?_; conv => whnf) | (refine And.intro (of_decide_eq_true rfl) ?_; conv => whnf) | (refine And.intro (fun _ => ?_) (fun h => absurd h ?_); rotate_left; (focus (first | decide | (simp; done) | (simp [tcs]; done))); conv => whnf) | (refine And.intro (fun h => absurd h ?_) (fun _ => ?_); (focus (first | decide | (simp; done) | (simp [tcs]; done))); conv => whnf) | (intro _; conv => whnf))
        all_goals rfl
end Go.Tr
/- cert: Unpack. -/
namespace Go.Tr
open Go.Proofs
theorem cUnpack (l : List UInt8) (hl : l.length ≤ 400000) : CallSt Try.prog 20 [.c (.str (sB l))] [] (fun r H' => r = openV l ∧ H' = []) := by
  have ho := cOpened l hl
  cases h : openC l with
  | none =>
    have e : openV l = .tup [crv crtZ, .c (.int .i64 (30))] := by unfold openV; rw [h]
    rw [e] at ho ⊢
    refine call_pure (E := env 0) (fn := Try.f20) (c := bodyOf Try.f20) (env_ok 0) mixed (by kernel_rfl) (by kernel_rfl) (by kernel_rfl) (by kernel_rfl) (by kernel_rfl) (by kernel_rfl) rfl ?_
    conv => whnf
    repeat (first | (refine And.intro rfl ?_; conv => whnf) | (refine And.intro (by decide) ?_; conv => whnf) | (refine draw_intro true (by kernel_rfl) ?_; conv => whnf) | (refine And.intro ⟨by omega, by omega⟩ ?_; conv => whnf) | (refine And.intro (by omega) ?_; conv => whnf) | (refine And.intro (fun _ => ⟨by omega, by omega⟩) ?_; conv => whnf) | (refine And.intro (of_decide_eq_true rfl) ?_; conv => whnf) | (refine And.intro (fun _ => ?_) (fun h => absurd h ?_); rotate_left; (focus (first | decide | (simp; done) | (simp [tcs]; done))); conv => whnf) | (refine And.intro (fun h => absurd h ?_) (fun _ => ?_); (focus (first | decide | (simp; done) | (simp [tcs]; done))); conv => whnf) | (intro _; conv => whnf))
    try (refine draw_intro true (by kernel_rfl) ?_; conv => whnf)
    first | refine CallSt.use ho [] trivial (by decide) rfl ?_ | refine CallPt.useS ho [] trivial (by decide) rfl ?_
    rintro _ _ ⟨rfl, rfl⟩ _
    conv => whnf
    repeat (first | (refine And.intro rfl ?_; conv => whnf) | (refine And.intro (by decide) ?_; conv => whnf) | (refine draw_intro true (by kernel_rfl) ?_; conv => whnf) | (refine And.intro ⟨by omega, by omega⟩ ?_; conv => whnf) | (refine And.intro (by omega) ?_; conv => whnf) | (refine And.intro (fun _ => ⟨by omega, by omega⟩) ?_; conv => whnf) | (refine And.intro (of_decide_eq_true rfl) ?_; conv => whnf) | (refine And.intro (fun _ => ?_) (fun h => absurd h ?_); rotate_left; (focus (first | decide | (simp; done) | (simp [tcs]; done))); conv => whnf) | (refine And.intro (fun h => absurd h ?_) (fun _ => ?_); (focus (first | decide | (simp; done) | (simp [tcs]; done))); conv => whnf) | (intro _; conv => whnf))
    all_goals rfl
  | some c =>
    have e : openV l = .tup [crv c, .c (.int .i64 (0))] := by unfold openV; rw [h]
    rw [e] at ho ⊢
    refine call_pure (E := env 0) (fn := Try.f20) (c := bodyOf Try.f20) (env_ok 0) mixed (by kernel_rfl) (by kernel_rfl) (by kernel_rfl) (by kernel_rfl) (by kernel_rfl) (by kernel_rfl) rfl ?_
    conv => whnf
    repeat (first | (refine And.intro rfl ?_; conv => whnf) | (refine And.intro (by decide) ?_; conv => whnf) | (refine draw_intro true (by kernel_rfl) ?_; conv => whnf) | (refine And.intro ⟨by omega, by omega⟩ ?_; conv => whnf) | (refine And.intro (by omega) ?_; conv => whnf) | (refine And.intro (fun _ => ⟨by omega, by omega⟩) ?_; conv => whnf) | (refine And.intro (of_decide_eq_true rfl) ?_; conv => whnf) | (refine And.intro (fun _ => ?_) (fun h => absurd h ?_); rotate_left; (focus (first | decide | (simp; done) | (simp [tcs]; done))); conv => whnf) | (refine And.intro (fun h => absurd h ?_) (fun _ => ?_); (focus (first | decide | (simp; done) | (simp [tcs]; done))); conv => whnf) | (intro _; conv => whnf))
    try (refine draw_intro true (by kernel_rfl) ?_; conv => whnf)
    first | refine CallSt.use ho [] trivial (by decide) rfl ?_ | refine CallPt.useS ho [] trivial (by decide) rfl ?_
    rintro _ _ ⟨rfl, rfl⟩ _
    conv => whnf
    repeat (first | (refine And.intro rfl ?_; conv => whnf) | (refine And.intro (by decide) ?_; conv => whnf) | (refine draw_intro true (by kernel_rfl) ?_; conv => whnf) | (refine And.intro ⟨by omega, by omega⟩ ?_; conv => whnf) | (refine And.intro (by omega) ?_; conv => whnf) | (refine And.intro (fun _ => ⟨by omega, by omega⟩) ?_; conv => whnf) | (refine And.intro (of_decide_eq_true rfl) ?_; conv => whnf) | (refine And.intro (fun _ => ?_) (fun h => absurd h ?_); rotate_left; (focus (first | decide | (simp; done) | (simp [tcs]; done))); conv => whnf) | (refine And.intro (fun h => absurd h ?_) (fun _ => ?_); (focus (first | decide | (simp; done) | (simp [tcs]; done))); conv => whnf) | (intro _; conv => whnf))
    all_goals rfl
end Go.Tr
/- The law CertSealed. -/
namespace Go.Tr
open Go.Proofs
theorem openC_ok {l : List UInt8} {c : Crt} (h : openC l = some c) : builtB c = true ∧ packS c = sB l := by
  unfold openC at h
  split at h
  · split at h
    · split at h
      · rename_i hb
        injection h with h
        subst h
        exact hb
      · cases h
    · cases h
  · cases h
end Go.Tr
/- cert: the round trip, plain. -/
namespace Go.Tr
open Go.Proofs
theorem u8_nat (k : Nat) (h : k < 256) : (u8 (k : Int)).toNat = k := by
  unfold u8
  simp
  omega
theorem rdNum_digs : ∀ (m n p o : Nat) (r : List UInt8), n ≤ m → 0 < p → p < 1099511627776 → n * p < 1099511627776 → rdNum (digs n ++ r) p o = some (o + n * p, r) := by
  intro m
  induction m with
  | zero =>
    intro n p o r h h0 hp hn
    obtain rfl : n = 0 := by omega
    rw [digs_small (by omega), List.singleton_append, rdNum, if_pos hp, u8_nat 0 (by omega), if_pos (by omega)]
  | succ m ih =>
    intro n p o r h h0 hp hn
    by_cases hb : 127 < n
    · have e : (128 + (n : Int) % 128) = ((128 + n % 128 : Nat) : Int) := by omega
      have h1 : 1 ≤ n / 128 := by omega
      have h2 : (n / 128) * (p * 128) ≤ n * p := by
        have : (n / 128) * 128 ≤ n := Nat.div_mul_le_self n 128
        calc (n / 128) * (p * 128) = ((n / 128) * 128) * p := by rw [Nat.mul_comm p 128, Nat.mul_assoc]
          _ ≤ n * p := Nat.mul_le_mul_right p this
      have h3 : p * 128 ≤ (n / 128) * (p * 128) := Nat.le_mul_of_pos_left _ (by omega)
      rw [digs_big hb, List.cons_append, rdNum, if_pos hp, e, u8_nat _ (by omega), if_neg (by omega), ih (n / 128) (p * 128) _ r (by omega) (by omega) (by omega) (by omega)]
      have e2 : (128 + n % 128) % 128 = n % 128 := by omega
      have e3 : n % 128 * p + n / 128 * (p * 128) = n * p := by
        have : n = n % 128 + n / 128 * 128 := by omega
        calc n % 128 * p + n / 128 * (p * 128) = (n % 128 + n / 128 * 128) * p := by rw [Nat.add_mul, Nat.mul_comm p 128, Nat.mul_assoc]
          _ = n * p := by rw [← this]
      rw [e2, Nat.add_assoc, e3]
    · rw [digs_small hb, List.singleton_append, rdNum, if_pos hp, u8_nat n (by omega), if_pos (by omega), Nat.mod_eq_of_lt (by omega)]
end Go.Tr
/- cert: the round trip, plain: the reader reads what is packed. -/
namespace Go.Tr
open Go.Proofs
theorem rd1 {n : Nat} (r : List UInt8) (h : n < 1099511627776) : rdNum (digs n ++ r) 1 0 = some (n, r) := by
  rw [rdNum_digs n n 1 0 r (Nat.le_refl n) (by omega) (by omega) (by omega)]
  simp
theorem rdC1 {n : Nat} (r : List UInt8) (h : n < 1099511627776) (hr : n ≤ r.length) : rdCount (digs n ++ r) = some (n, r) := by
  unfold rdCount
  rw [rd1 r h]
  simp only
  rw [if_pos hr]
theorem flat_ge {α : Type} (g : α → List UInt8) (M : List α) (h : ∀ x ∈ M, 0 < (g x).length) : M.length ≤ (M.flatMap g).length := by
  induction M with
  | nil => simp
  | cons a M ih =>
    have h1 := h a (by simp)
    have h2 := ih fun x hx => h x (by simp [hx])
    simp only [List.flatMap_cons, List.length_append, List.length_cons]
    omega
theorem wf_n0 {t : Term} (h : wf t) (hk : t.k ≠ 4) : t.n = 0 := by
  obtain ⟨d, h⟩ := h
  obtain ⟨k, l, n, ts⟩ := t
  simp only [fmT, Bool.and_eq_true] at h
  have h := h.1.2
  simp only [Term.k, Term.n] at *
  unfold fmB at h
  split at h
  · simp at h; omega
  · split at h
    · simp at h; omega
    · split at h
      · simp at h; omega
      · cases h
theorem szL_app (A B : List Term) : szL (A ++ B) = szL A + szL B := by
  induction A with
  | nil => simp [szL]
  | cons a A ih => simp only [List.cons_append, szL, ih]; omega
theorem rdArgs_ok {N : List Term} (f : Term → Nat) (hN : N.length < 1000000) : ∀ (us acc : List Term) (r : List UInt8), (∀ u ∈ us, f u < N.length ∧ N[f u]? = some u) → 1 + szL (acc ++ us) ≤ 600 →
    rdArgs N us.length ((us.map f).flatMap (fun k => digs (N.length - k - 1)) ++ r) acc = some (acc ++ us, r)
  | [], acc, r, _, _ => by simp [rdArgs]
  | u :: us, acc, r, h, hs => by
    obtain ⟨h1, h2⟩ := h u (by simp)
    have ih := rdArgs_ok f hN us (acc ++ [u]) r (fun v hv => h v (by simp [hv])) (by rw [List.append_assoc]; exact hs)
    have hs2 : 1 + szL (acc ++ [u]) ≤ 600 := by
      have e : acc ++ u :: us = (acc ++ [u]) ++ us := by simp
      rw [e, szL_app] at hs
      have := szL_pos us
      omega
    rw [List.length_cons, List.map_cons, List.flatMap_cons, List.append_assoc, rdArgs, rd1 _ (by omega)]
    simp only
    have e2 : N.length - 1 - (N.length - f u - 1) = f u := by omega
    rw [if_pos (by omega), e2, h2]
    simp only
    rw [if_pos hs2, ih, List.append_assoc]
    rfl
theorem u8_node {k l : Int} (h : 0 ≤ k ∧ k < 8 ∧ 0 ≤ l ∧ l < 32) : ((u8 (k + 8 * l)).toNat % 8 = k.toNat) ∧ ((u8 (k + 8 * l)).toNat / 8 = l.toNat) := by
  have h1 := u8_toNat (k + 8 * l)
  omega
theorem nodeB_4 {B : List Term} {i : Nat} {t : Term} (h : t.k = 4) : nodeB B i t = u8 (t.k + 8 * t.l) :: (digs t.n.toNat ++ lstB (fun k => digs (i - k - 1)) (kd B t)) := by
  unfold nodeB
  rw [decide_eq_true h]
  rfl
theorem nodeB_no {B : List Term} {i : Nat} {t : Term} (h : t.k ≠ 4) : nodeB B i t = u8 (t.k + 8 * t.l) :: lstB (fun k => digs (i - k - 1)) (kd B t) := by
  unfold nodeB
  rw [decide_eq_false h]
  rfl
theorem rdNode_ok {B : List Term} (hg : Good B) (hsz : ∀ t ∈ B, szT t ≤ 600) (hB : B.length < 1000000) {i : Nat} {t : Term} (ht : B[i]? = some t) (r : List UInt8) :
    rdNode (nodeB B i t ++ r) (B.take i) = some (t, r) := by
  have hil := (List.getElem?_eq_some_iff.1 ht).1
  have hm := List.mem_of_getElem? ht
  have hw := hg.wf t hm
  have hn := wf_node hw
  have hs := hsz t hm
  have hn0 := wf_n0 hw
  have hlo : ∀ u ∈ t.ts, pl B u < (B.take i).length ∧ (B.take i)[pl B u]? = some u := fun u hu => by
    obtain ⟨j, hj, hbj⟩ := hg.lo i t ht u hu
    rw [pl_of hg.nd hbj, List.length_take, List.getElem?_take, if_pos hj]
    exact ⟨by omega, hbj⟩
  have hti : (B.take i).length = i := by rw [List.length_take]; omega
  obtain ⟨k, l, n, ts⟩ := t
  simp only [Term.k, Term.l, Term.n, Term.ts] at *
  rw [szT] at hs
  have ha := rdArgs_ok (N := B.take i) (pl B) (by omega) ts [] r hlo (by simpa using hs)
  rw [hti] at ha
  obtain ⟨e1, e2⟩ := u8_node (k := k) (l := l) ⟨by omega, by omega, by omega, by omega⟩
  have hsl := szL_len ts
  have hfl := flat_ge (fun k => digs (i - k - 1)) (ts.map (pl B)) fun x _ => digs_pos _
  rw [List.length_map] at hfl
  have hrest : ∀ n' : Nat, rdRest k.toNat l.toNat n' (lstB (fun k => digs (i - k - 1)) (ts.map (pl B)) ++ r) (B.take i) = some (.mk k l n' ts, r) := fun n' => by
    unfold rdRest lstB
    rw [List.append_assoc, List.length_map, rdC1 _ (by omega) (by rw [List.length_append]; omega)]
    simp only
    rw [ha]
    simp only [List.nil_append]
    rw [show ((k.toNat : Nat) : Int) = k by omega, show ((l.toNat : Nat) : Int) = l by omega]
  by_cases hk : k = 4
  · rw [nodeB_4 (show (Term.mk k l n ts).k = 4 from hk), List.cons_append, rdNode]
    simp only [Term.k, Term.l, Term.n, Term.ts, kd]
    simp only [e1, e2]
    rw [if_pos (by omega), List.append_assoc, rd1 _ (by omega)]
    simp only
    rw [hrest, show ((n.toNat : Nat) : Int) = n by omega]
  · rw [nodeB_no (show (Term.mk k l n ts).k ≠ 4 from hk), List.cons_append, rdNode]
    simp only [Term.k, Term.l, Term.n, Term.ts, kd]
    simp only [e1, e2]
    rw [if_neg (by omega), hrest 0, hn0 hk]
    rfl
theorem rdNs_ok {B : List Term} (hg : Good B) (hsz : ∀ t ∈ B, szT t ≤ 600) (hB : B.length < 1000000) : ∀ (k i : Nat), i + k = B.length →
    ∃ s, nodesB B (i + k) = nodesB B i ++ s ∧ k ≤ s.length ∧ ∀ r, rdNs k (s ++ r) (B.take i) = some (B, r)
  | 0, i, h => ⟨[], by simp, by simp, fun r => by rw [rdNs, List.take_of_length_le (by omega)]; rfl⟩
  | k + 1, i, h => by
    obtain ⟨s, h1, h2, h3⟩ := rdNs_ok hg hsz hB k (i + 1) (by omega)
    have ht : B[i]? = some B[i] := List.getElem?_eq_getElem (by omega)
    refine ⟨nodeB B i B[i] ++ s, ?_, ?_, fun r => ?_⟩
    · rw [show i + (k + 1) = i + 1 + k by omega, h1, nodesB, ht, List.append_assoc]
    · unfold nodeB
      simp only [List.length_append, List.length_singleton]
      omega
    · rw [List.append_assoc, rdNs, rdNode_ok hg hsz hB ht]
      simp only
      rw [← h3 r]
      congr 1
      rw [List.take_add_one, ht]
      rfl
theorem rdNodes_ok {B : List Term} (hg : Good B) (hsz : ∀ t ∈ B, szT t ≤ 600) (hB : B.length < 1000000) (r : List UInt8) : rdNodes (digs B.length ++ (nodesB B B.length ++ r)) [] = some (B, r) := by
  obtain ⟨s, h1, h2, h3⟩ := rdNs_ok hg hsz hB B.length 0 (by omega)
  rw [Nat.zero_add, nodesB, List.nil_append] at h1
  unfold rdNodes
  rw [h1, rdC1 _ (by omega) (by rw [List.length_append]; omega)]
  simp only
  exact h3 r
theorem rdMany_ok {α : Type} {one : List UInt8 → Option (α × List UInt8)} (f : α → List UInt8) : ∀ (xs acc : List α) (r : List UInt8), (∀ x ∈ xs, ∀ r, one (f x ++ r) = some (x, r)) →
    rdMany one xs.length (xs.flatMap f ++ r) acc = some (acc ++ xs, r)
  | [], acc, r, _ => by simp [rdMany]
  | x :: xs, acc, r, h => by
    rw [List.length_cons, List.flatMap_cons, List.append_assoc, rdMany, h x (by simp)]
    simp only
    rw [rdMany_ok f xs (acc ++ [x]) r fun y hy => h y (by simp [hy]), List.append_assoc]
    rfl
theorem rdList_ok {α : Type} {one : List UInt8 → Option (α × List UInt8)} (f : α → List UInt8) (xs : List α) (r : List UInt8) (hx : xs.length < 1000000) (hf : ∀ x ∈ xs, 0 < (f x).length) (h : ∀ x ∈ xs, ∀ r, one (f x ++ r) = some (x, r)) :
    rdList one (digs xs.length ++ (xs.flatMap f ++ r)) = some (xs, r) := by
  have := flat_ge f xs hf
  unfold rdList
  rw [rdC1 _ (by omega) (by rw [List.length_append]; omega)]
  simp only
  exact rdMany_ok f xs [] r h
theorem rdTerm_ok {N : List Term} {t : Term} (h : t ∈ N) (hN : N.length < 1000000) (r : List UInt8) : rdTerm (digs (pl N t) ++ r) N = some (t, r) := by
  have := pl_lt h
  unfold rdTerm
  rw [rd1 _ (by omega)]
  simp only
  rw [pl_at h]
theorem rdDecl_ok {N : List Term} {d : Dcl} (h : d.c ∈ N) (hN : N.length < 1000000) (hd : d.s.size ≤ 16 ∧ 0 ≤ d.i ∧ d.i ≤ 600) (r : List UInt8) : rdDecl (declB d (pl N d.c) ++ r) N = some (d, r) := by
  have hs : d.s.data.toList.length = d.s.size := by rw [Array.length_toList]; rfl
  unfold rdDecl declB rdName
  rw [List.append_assoc, List.append_assoc, List.append_assoc, rdC1 _ (by omega) (by rw [List.length_append]; omega)]
  simp only
  rw [List.take_append_of_le_length (by omega), List.take_of_length_le (by omega), List.drop_append_of_le_length (by omega), List.drop_of_length_le (by omega), List.nil_append, rdTerm_ok h hN]
  simp only
  rw [rd1 _ (by omega)]
  simp only
  obtain ⟨s, c, i⟩ := d
  simp only at hd
  rw [← sB_of, show ((i.toNat : Nat) : Int) = i by omega]
theorem declsB_flat (S : List Dcl) (R : List Nat) (f : Dcl → Nat) (h : ∀ (i : Nat) (d : Dcl), S[i]? = some d → R[i]? = some (f d)) : ∀ n : Nat, n ≤ S.length → declsB S R n = (S.take n).flatMap fun d => declB d (f d)
  | 0, _ => by simp [declsB]
  | n + 1, hn => by
    have hs : S[n]? = some S[n] := List.getElem?_eq_getElem (by omega)
    rw [declsB, declsB_flat S R f h n (by omega), hs, h n _ hs, List.take_add_one, hs, List.flatMap_append]
    simp only [Option.toList_some, List.flatMap_cons, List.flatMap_nil, List.append_nil]
/-- The bytes ahead of the sum, by the terms. -/
theorem packL_eq {c : Crt} (B : List Term) (R : List Nat) (hR : R = (crl c).map (pl B)) : packL c.S c.X B R =
    [116, 114, 49] ++ (digs B.length ++ (nodesB B B.length ++ (digs c.S.length ++ ((c.S.flatMap fun d => declB d (pl B d.c)) ++ (digs c.X.length ++ ((c.X.flatMap fun t => digs (pl B t)) ++ (digs (pl B c.o) ++ digs (pl B c.c)))))))) := by
  have h1 : R.drop c.S.length = (c.X ++ [c.o, c.c]).map (pl B) := by
    rw [hR, crl, List.map_append, List.drop_append_of_le_length (by simp), List.drop_of_length_le (by simp), List.nil_append]
  have h2 : declsB c.S R c.S.length = c.S.flatMap fun d => declB d (pl B d.c) := by
    rw [declsB_flat c.S R (fun d => pl B d.c) (fun i d h => ?_) _ (Nat.le_refl _), List.take_length]
    rw [hR, List.getElem?_map, crl_S h]
    rfl
  have h3 : ((c.X ++ [c.o, c.c]).map (pl B)).take c.X.length = c.X.map (pl B) := by
    rw [List.map_append, List.take_append_of_le_length (by simp), List.take_of_length_le (by simp)]
  have h4 : ((c.X ++ [c.o, c.c]).map (pl B)).drop c.X.length = [pl B c.o, pl B c.c] := by
    rw [List.map_append, List.drop_append_of_le_length (by simp), List.drop_of_length_le (by simp)]
    rfl
  unfold packL
  rw [h1, h2, h3, h4]
  simp [lstB, List.flatMap_map]
/-- What is read of a packed certificate, and of more. -/
theorem rdCert_ok {c : Crt} (h : builtB c = true) (r : List UInt8) : rdCert ((packL c.S c.X (bk c (crl c).length) (rt c (crl c).length)).drop 3 ++ r) = if r = [] then some c else none := by
  have hok := built_ok h
  obtain ⟨hg, hm, hl⟩ := bk_good hok.sane (crl c).length
  have hsz := bk_sz hok.sane (crl c).length
  have hsa := szL_all (crl c) fun u hu => (hok.sane.t u hu).2
  have hcl := crl_len c
  have hS := hok.sane.S
  have hX := hok.X
  have hnm := hok.names
  rw [List.take_length] at hm hl
  have hR : rt c (crl c).length = (crl c).map (pl (bk c (crl c).length)) := by unfold rt; rw [List.take_length]
  have hBl : (bk c (crl c).length).length < 1000000 := by omega
  have hmS : ∀ d ∈ c.S, d.c ∈ bk c (crl c).length := fun d hd => hm _ (by unfold crl; simp only [List.mem_append, List.mem_map]; exact .inl ⟨d, hd, rfl⟩)
  have hmX : ∀ t ∈ c.X, t ∈ bk c (crl c).length := fun t ht => hm _ (by unfold crl; simp [ht])
  have hmo : c.o ∈ bk c (crl c).length := hm _ (by unfold crl; simp)
  have hmc : c.c ∈ bk c (crl c).length := hm _ (by unfold crl; simp)
  rw [packL_eq _ _ hR]
  generalize bk c (crl c).length = B at *
  rw [show ([116, 114, 49] : List UInt8) = 116 :: 114 :: 49 :: [] from rfl]
  simp only [List.cons_append, List.nil_append, List.drop_succ_cons, List.drop_zero, List.append_assoc]
  unfold rdCert
  rw [rdNodes_ok hg hsz hBl]
  simp only
  rw [rdList_ok (one := fun l => rdDecl l B) (fun d => declB d (pl B d.c)) c.S _ (by omega) (fun d _ => by unfold declB; have := digs_pos d.s.size; simp only [List.length_append]; omega) (fun d hd r => rdDecl_ok (hmS d hd) hBl (hnm d hd) r)]
  simp only
  rw [if_pos hS, rdList_ok (one := fun l => rdTerm l B) (fun t => digs (pl B t)) c.X _ (by omega) (fun t _ => digs_pos _) (fun t ht r => rdTerm_ok (hmX t ht) hBl r)]
  simp only
  rw [if_pos hX]
  unfold rdEnd
  rw [rdTerm_ok hmo hBl]
  simp only
  rw [rdTerm_ok hmc hBl]
theorem packL_take {c : Crt} : (packL c.S c.X (bk c (crl c).length) (rt c (crl c).length)).take 3 = [116, 114, 49] ∧ 3 ≤ (packL c.S c.X (bk c (crl c).length) (rt c (crl c).length)).length := by
  unfold packL
  simp only [List.append_assoc, List.length_append, List.length_cons, List.length_nil]
  exact ⟨rfl, by omega⟩
theorem sealB_len (l : List UInt8) : (sealB l).length = l.length + 4 := by simp [sealB]
end Go.Tr
/- cert: no packed certificate begins another; a byte that is changed is seen. -/
namespace Go.Tr
open Go.Proofs
/-- The bytes ahead of the sum. -/
def pk (c : Crt) : List UInt8 := packL c.S c.X (bk c (crl c).length) (rt c (crl c).length)
theorem packB_pk (c : Crt) : packB c = sealB (pk c) := rfl
theorem pack_prefix {c c' : Crt} (h : builtB c = true) (h' : builtB c' = true) (r : List UInt8) (e : pk c ++ r = pk c') : r = [] := by
  have h1 := rdCert_ok h r
  have h2 := rdCert_ok h' []
  have h3 := (packL_take (c := c)).2
  have e1 : packL c.S c.X (bk c (crl c).length) (rt c (crl c).length) = pk c := rfl
  have e2 : packL c'.S c'.X (bk c' (crl c').length) (rt c' (crl c').length) = pk c' := rfl
  rw [e1] at h1 h3
  rw [e2, ← e, List.append_nil, if_pos rfl, List.drop_append_of_le_length h3, h1] at h2
  by_cases hr : r = []
  · exact hr
  · rw [if_neg hr] at h2
    cases h2
theorem openC_pk {l : List UInt8} {c : Crt} (h : openC l = some c) : builtB c = true ∧ l = sealB (pk c) := by
  obtain ⟨h1, h2⟩ := openC_ok h
  exact ⟨h1, (sB_inj h2).symm⟩
theorem cut_none {c : Crt} (h : builtB c = true) {k : Nat} (hk : k < (packB c).length) : openC ((packB c).take k) = none := by
  cases ho : openC ((packB c).take k) with
  | none => rfl
  | some c' =>
    obtain ⟨h1, h2⟩ := openC_pk ho
    rw [packB_pk] at *
    have hl := congrArg List.length h2
    rw [List.length_take, sealB_len, sealB_len] at hl
    rw [sealB_len] at hk
    have e1 : pk c' = (pk c).take (k - 4) := by
      have := congrArg (fun z => z.take (k - 4)) h2
      simp only [List.take_take, sealB] at this
      rw [Nat.min_eq_left (by omega), List.take_append_of_le_length (by omega), List.take_append_of_le_length (by omega), List.take_of_length_le (l := pk c') (by omega)] at this
      exact this.symm
    have := pack_prefix h1 h ((pk c).drop (k - 4)) (by rw [e1, List.take_append_drop])
    have := congrArg List.length this
    rw [List.length_drop, List.length_nil] at this
    omega
theorem more_none {c : Crt} (h : builtB c = true) (x : UInt8) : openC (packB c ++ [x]) = none := by
  cases ho : openC (packB c ++ [x]) with
  | none => rfl
  | some c' =>
    obtain ⟨h1, h2⟩ := openC_pk ho
    rw [packB_pk] at *
    have hl := congrArg List.length h2
    rw [List.length_append, sealB_len, sealB_len, List.length_singleton] at hl
    have e1 : pk c = (pk c').take (pk c).length := by
      have := congrArg (fun z => z.take (pk c).length) h2
      simp only [sealB, List.append_assoc] at this
      rw [List.take_append_of_le_length (by omega), List.take_append_of_le_length (by omega), List.take_of_length_le (l := pk c) (by omega)] at this
      exact this
    have := pack_prefix h h1 ((pk c').drop (pk c).length) (by
      have := List.take_append_drop (pk c).length (pk c')
      rw [← e1] at this
      exact this)
    have := congrArg List.length this
    rw [List.length_drop, List.length_nil] at this
    omega
def bsum : List UInt8 → Int
  | [] => 0
  | x :: r => (x.toNat : Int) + bsum r
theorem sumF_one : ∀ (l : List UInt8) (p : Int × Int), (sumF l p).1 % 65521 = (p.1 + bsum l) % 65521
  | [], p => by simp [sumF, bsum]
  | x :: r, p => by
    rw [sumF, sumF_one r, bsum]
    simp only
    omega
theorem bsum_set : ∀ (l : List UInt8) (i : Nat) (x y : UInt8), l[i]? = some y → bsum (l.set i x) = bsum l - y.toNat + x.toNat
  | [], _, _, _, h => by simp at h
  | a :: l, 0, x, y, h => by
    simp at h
    subst h
    simp only [List.set_cons_zero, bsum]
    omega
  | a :: l, i + 1, x, y, h => by
    have := bsum_set l i x y (by simpa using h)
    simp only [List.set_cons_succ, bsum, this]
    omega
theorem sum_set {l : List UInt8} {i : Nat} {x y : UInt8} (h : l[i]? = some y) (hxy : x ≠ y) : sumI (l.set i x) ≠ sumI l := by
  intro e
  have h1 := sumF_one l (1, 0)
  have h2 := sumF_one (l.set i x) (1, 0)
  have h3 := bsum_set l i x y h
  have b1 := sumF_bd l (1, 0) (by decide)
  have b2 := sumF_bd (l.set i x) (1, 0) (by decide)
  have hx := x.toNat_lt
  have hy := y.toNat_lt
  have hn : x.toNat ≠ y.toNat := fun h => hxy (UInt8.toNat_inj.1 h)
  unfold sumI at e
  simp only at h1 h2
  omega
theorem sb_inj {m n : Int} (hm : 0 ≤ m ∧ m < 4294967296) (hn : 0 ≤ n ∧ n < 4294967296) (h0 : sb m 0 = sb n 0) (h1 : sb m 1 = sb n 1) (h2 : sb m 2 = sb n 2) (h3 : sb m 3 = sb n 3) : m = n := by
  have e0 : ∀ x : Int, sb x 0 = u8 (x / 16777216) := fun x => by
    unfold sb
    rw [show (2 : Int) ^ (min (8 * (3 - ((0 : Nat) : Int))).toNat 64) = 16777216 by decide, Int.fdiv_eq_ediv_of_nonneg _ (by decide)]
  have e1 : ∀ x : Int, sb x 1 = u8 (x / 65536) := fun x => by
    unfold sb
    rw [show (2 : Int) ^ (min (8 * (3 - ((1 : Nat) : Int))).toNat 64) = 65536 by decide, Int.fdiv_eq_ediv_of_nonneg _ (by decide)]
  have e2 : ∀ x : Int, sb x 2 = u8 (x / 256) := fun x => by
    unfold sb
    rw [show (2 : Int) ^ (min (8 * (3 - ((2 : Nat) : Int))).toNat 64) = 256 by decide, Int.fdiv_eq_ediv_of_nonneg _ (by decide)]
  have e3 : ∀ x : Int, sb x 3 = u8 (x / 1) := fun x => by
    unfold sb
    rw [show (2 : Int) ^ (min (8 * (3 - ((3 : Nat) : Int))).toNat 64) = 1 by decide, Int.fdiv_eq_ediv_of_nonneg _ (by decide)]
  rw [e0, e0] at h0
  rw [e1, e1] at h1
  rw [e2, e2] at h2
  rw [e3, e3] at h3
  have g0 := congrArg (fun z : UInt8 => (z.toNat : Int)) h0
  have g1 := congrArg (fun z : UInt8 => (z.toNat : Int)) h1
  have g2 := congrArg (fun z : UInt8 => (z.toNat : Int)) h2
  have g3 := congrArg (fun z : UInt8 => (z.toNat : Int)) h3
  simp only [u8_toNat] at g0 g1 g2 g3
  omega
theorem set_none {p : List UInt8} {i : Nat} {x y : UInt8} (h : (sealB p)[i]? = some y) (hxy : x ≠ y) : sealedB ((sealB p).set i x) = false := by
  have hil := (List.getElem?_eq_some_iff.1 h).1
  have hsl := sealB_len p
  have key : sealB (((sealB p).set i x).take (((sealB p).set i x).length - 4)) ≠ (sealB p).set i x := by
    intro e
    rw [List.length_set, hsl, Nat.add_sub_cancel] at e
    by_cases hip : i < p.length
    · have e1 : (sealB p).set i x = p.set i x ++ [sb (sumI p) 0, sb (sumI p) 1, sb (sumI p) 2, sb (sumI p) 3] := by
        unfold sealB
        rw [List.set_append_left _ _ hip]
      have hy : p[i]? = some y := by
        unfold sealB at h
        rw [List.getElem?_append_left hip] at h
        exact h
      have e2 : ((sealB p).set i x).take p.length = p.set i x := by
        rw [e1, List.take_append_of_le_length (by simp), List.take_of_length_le (by simp)]
      rw [e2, e1] at e
      unfold sealB at e
      have e3 := List.append_cancel_left e
      simp only [List.cons.injEq, and_true] at e3
      exact sum_set hy hxy (sb_inj (sumI_bd _) (sumI_bd _) e3.1 e3.2.1 e3.2.2.1 e3.2.2.2)
    · have e2 : ((sealB p).set i x).take p.length = p := by
        unfold sealB
        rw [List.set_append_right _ _ (by omega), List.take_append_of_le_length (by omega), List.take_of_length_le (by omega)]
      rw [e2] at e
      have this : (sealB p)[i]? = ((sealB p).set i x)[i]? := congrArg (fun z => z[i]?) e
      rw [h, List.getElem?_set_self hil] at this
      injection this with this
      exact hxy this.symm
  unfold sealedB
  rw [decide_eq_false key, Bool.and_false]
theorem change_none {c : Crt} {i : Nat} {x y : UInt8} (h : (packB c)[i]? = some y) (hxy : x ≠ y) : openC ((packB c).take i ++ [x] ++ (packB c).drop (i + 1)) = none := by
  have hil := (List.getElem?_eq_some_iff.1 h).1
  have h1 : (packB c).take i ++ [x] ++ (packB c).drop (i + 1) = (packB c).set i x := by
    rw [List.set_eq_take_append_cons_drop, if_pos hil]
    simp
  rw [h1, packB_pk] at *
  unfold openC
  rw [set_none h hxy]
end Go.Tr
/- The law CertBack. -/
namespace Go.Tr
open Go.Proofs
theorem packV_ok {c : Crt} (hb : builtB c = true) (hl : (packB c).length ≤ 60000) : packV c = .tup [.c (.str (sB (packB c))), .c (.int .i64 (0))] := by
  have hs : ((⟨(packB c).toArray⟩ : ByteArray).size : Int) = (packB c).length := by
    have : (⟨(packB c).toArray⟩ : ByteArray) = sB (packB c) := rfl
    rw [this, sB_size]
  unfold packV
  rw [hb, decide_eq_false (by omega)]
  rfl
theorem packV_full {c : Crt} (hb : builtB c = true) (hl : ¬ (packB c).length ≤ 60000) : packV c = .tup [.c (.str ⟨#[]⟩), .c (.int .i64 (5))] := by
  have hs : ((⟨(packB c).toArray⟩ : ByteArray).size : Int) = (packB c).length := by
    have : (⟨(packB c).toArray⟩ : ByteArray) = sB (packB c) := rfl
    rw [this, sB_size]
  unfold packV
  rw [hb, decide_eq_true (by omega)]
theorem packV_arg {c : Crt} (hb : builtB c = false) : packV c = .tup [.c (.str ⟨#[]⟩), .c (.int .i64 (2))] := by
  unfold packV
  rw [hb]
end Go.Tr
/- The law CertChanged. -/
namespace Go.Tr
open Go.Proofs
theorem cMod19 (x : Int) (n : Int) (hn : 0 < n ∧ n ≤ 1000000000) : CallSt Try.prog 21 [.c (.int .i64 (x)), .c (.int .i64 (n))] [] (fun r H' => (∃ m : Nat, (m : Int) < n ∧ r = .c (.int .i64 (m))) ∧ H' = []) := by
  have hw : IntKind.u64.wrap n = n := by
    unfold IntKind.wrap
    simp [IntKind.bits, IntKind.signed]
    omega
  have hxw : 0 ≤ IntKind.u64.wrap x := by
    unfold IntKind.wrap
    simp [IntKind.bits, IntKind.signed]
    omega
  refine call_pure (E := env 0) (fn := Try.f21) (c := bodyOf Try.f21) (env_ok 0) mixed (by kernel_rfl) (by kernel_rfl) (by kernel_rfl) (by kernel_rfl) (by kernel_rfl) (by kernel_rfl) rfl ?_
  conv => whnf
  repeat (first | (refine And.intro rfl ?_; conv => whnf) | (refine And.intro (by decide) ?_; conv => whnf) | (refine draw_intro true (by kernel_rfl) ?_; conv => whnf) | (refine And.intro ⟨by omega, by omega⟩ ?_; conv => whnf) | (refine And.intro (by omega) ?_; conv => whnf) | (refine And.intro (fun _ => ⟨by omega, by omega⟩) ?_; conv => whnf) | (refine And.intro (of_decide_eq_true rfl) ?_; conv => whnf) | (refine And.intro (fun _ => ?_) (fun h => absurd h ?_); rotate_left; (focus (first | decide | (simp; done) | (simp [tcs]; done))); conv => whnf) | (refine And.intro (fun h => absurd h ?_) (fun _ => ?_); (focus (first | decide | (simp; done) | (simp [tcs]; done))); conv => whnf) | (intro _; conv => whnf))
  rw [hw]
  refine ⟨show n ≠ 0 by omega, ?_⟩
  conv => whnf
  generalize IntKind.u64.wrap x = y at *
  have e1 : y.tmod n = y % n := Int.tmod_eq_emod_of_nonneg hxw
  have h1 := Int.emod_nonneg y (show n ≠ 0 by omega)
  have h2 := Int.emod_lt_of_pos y hn.1
  have e2 : IntKind.i64.wrap (y % n) = y % n := i64_wrap (by omega)
  rw [e1, e2]
  repeat (first | (refine And.intro rfl ?_; conv => whnf) | (refine And.intro (by decide) ?_; conv => whnf) | (refine draw_intro true (by kernel_rfl) ?_; conv => whnf) | (refine And.intro ⟨by omega, by omega⟩ ?_; conv => whnf) | (refine And.intro (by omega) ?_; conv => whnf) | (refine And.intro (fun _ => ⟨by omega, by omega⟩) ?_; conv => whnf) | (refine And.intro (of_decide_eq_true rfl) ?_; conv => whnf) | (refine And.intro (fun _ => ?_) (fun h => absurd h ?_); rotate_left; (focus (first | decide | (simp; done) | (simp [tcs]; done))); conv => whnf) | (refine And.intro (fun h => absurd h ?_) (fun _ => ?_); (focus (first | decide | (simp; done) | (simp [tcs]; done))); conv => whnf) | (intro _; conv => whnf))
  exact ⟨⟨(y % n).toNat, by omega, by rw [show (((y % n).toNat : Nat) : Int) = y % n by omega]⟩, rfl⟩
theorem sB_app (l m : List UInt8) : sB l ++ sB m = sB (l ++ m) := by
  have h : (sB l ++ sB m).data.toList = (sB (l ++ m)).data.toList := by
    rw [sB_list, ByteArray.data_append, Array.toList_append, sB_list, sB_list]
  have h2 := congrArg sB h
  rw [← sB_of, ← sB_of] at h2
  exact h2
set_option maxHeartbeats 4000000 in
theorem cChanged (c : Crt) (a b : Int) : CallSt Try.prog 7 [crv c, .c (.int .i64 (a)), .c (.int .i64 (b))] [] (fun r H' => r = .c (.bool true) ∧ H' = []) := by
  have hsm := cSmall19 c
  have haw := cAwake19
  have hpk := cPack c
  have hbad : ∀ z : Int, z ≠ 0 → CallSt Try.prog 19 [crv c] [] (fun r H' => r = .tup [.c (.str ⟨#[]⟩), .c (.int .i64 (z))] ∧ H' = []) → CallSt Try.prog 7 [crv c, .c (.int .i64 (a)), .c (.int .i64 (b))] [] (fun r H' => r = .c (.bool true) ∧ H' = []) := fun z hz hpk => by
    have e0 : decide (z = 0) = false := decide_eq_false hz
    clear hz
    obtain ⟨S, X, ⟨k, l, n, ts⟩, ⟨k2, l2, n2, us⟩⟩ := c
    unfold crv at *
    dsimp only [Term.k, Term.l, Term.n, Term.ts] at *
    refine call_pure (E := env 0) (fn := Try.f7) (c := bodyOf Try.f7) (env_ok 0) mixed (by kernel_rfl) (by kernel_rfl) (by kernel_rfl) (by kernel_rfl) (by kernel_rfl) (by kernel_rfl) rfl ?_
    conv => whnf
    try (refine draw_intro true (by kernel_rfl) ?_; conv => whnf)
    first | refine CallSt.use hsm [] trivial (by decide) rfl ?_ | refine CallPt.useS hsm [] trivial (by decide) rfl ?_
    rintro _ _ ⟨b, rfl, rfl⟩ _
    conv => whnf
    cases b with
    | false =>
      repeat (first | (refine And.intro rfl ?_; conv => whnf) | (refine And.intro (by decide) ?_; conv => whnf) | (refine draw_intro true (by kernel_rfl) ?_; conv => whnf) | (refine And.intro ⟨by omega, by omega⟩ ?_; conv => whnf) | (refine And.intro (by omega) ?_; conv => whnf) | (refine And.intro (fun _ => ⟨by omega, by omega⟩) ?_; conv => whnf) | (refine And.intro (of_decide_eq_true rfl) ?_; conv => whnf) | (refine And.intro (fun _ => ?_) (fun h => absurd h ?_); rotate_left; (focus (first | decide | (simp; done) | (simp [tcs]; done))); conv => whnf) | (refine And.intro (fun h => absurd h ?_) (fun _ => ?_); (focus (first | decide | (simp; done) | (simp [tcs]; done))); conv => whnf) | (intro _; conv => whnf))
      try (refine draw_intro true (by kernel_rfl) ?_; conv => whnf)
      first | refine CallSt.use haw [] trivial (by decide) rfl ?_ | refine CallPt.useS haw [] trivial (by decide) rfl ?_
      rintro _ _ ⟨rfl, rfl⟩ _
      conv => whnf
      repeat (first | (refine And.intro rfl ?_; conv => whnf) | (refine And.intro (by decide) ?_; conv => whnf) | (refine draw_intro true (by kernel_rfl) ?_; conv => whnf) | (refine And.intro ⟨by omega, by omega⟩ ?_; conv => whnf) | (refine And.intro (by omega) ?_; conv => whnf) | (refine And.intro (fun _ => ⟨by omega, by omega⟩) ?_; conv => whnf) | (refine And.intro (of_decide_eq_true rfl) ?_; conv => whnf) | (refine And.intro (fun _ => ?_) (fun h => absurd h ?_); rotate_left; (focus (first | decide | (simp; done) | (simp [tcs]; done))); conv => whnf) | (refine And.intro (fun h => absurd h ?_) (fun _ => ?_); (focus (first | decide | (simp; done) | (simp [tcs]; done))); conv => whnf) | (intro _; conv => whnf))
      all_goals (first | rfl | exact ⟨rfl, rfl⟩ | exact ⟨rfl, rfl, rfl⟩)
    | true =>
      repeat (first | (refine And.intro rfl ?_; conv => whnf) | (refine And.intro (by decide) ?_; conv => whnf) | (refine draw_intro true (by kernel_rfl) ?_; conv => whnf) | (refine And.intro ⟨by omega, by omega⟩ ?_; conv => whnf) | (refine And.intro (by omega) ?_; conv => whnf) | (refine And.intro (fun _ => ⟨by omega, by omega⟩) ?_; conv => whnf) | (refine And.intro (of_decide_eq_true rfl) ?_; conv => whnf) | (refine And.intro (fun _ => ?_) (fun h => absurd h ?_); rotate_left; (focus (first | decide | (simp; done) | (simp [tcs]; done))); conv => whnf) | (refine And.intro (fun h => absurd h ?_) (fun _ => ?_); (focus (first | decide | (simp; done) | (simp [tcs]; done))); conv => whnf) | (intro _; conv => whnf))
      try (refine draw_intro true (by kernel_rfl) ?_; conv => whnf)
      first | refine CallSt.use hpk [] trivial (by decide) rfl ?_ | refine CallPt.useS hpk [] trivial (by decide) rfl ?_
      rintro _ _ ⟨rfl, rfl⟩ _
      conv => whnf
      repeat (first | (refine And.intro rfl ?_; conv => whnf) | (refine And.intro (by decide) ?_; conv => whnf) | (refine draw_intro true (by kernel_rfl) ?_; conv => whnf) | (refine And.intro ⟨by omega, by omega⟩ ?_; conv => whnf) | (refine And.intro (by omega) ?_; conv => whnf) | (refine And.intro (fun _ => ⟨by omega, by omega⟩) ?_; conv => whnf) | (refine And.intro (of_decide_eq_true rfl) ?_; conv => whnf) | (refine And.intro (fun _ => ?_) (fun h => absurd h ?_); rotate_left; (focus (first | decide | (simp; done) | (simp [tcs]; done))); conv => whnf) | (refine And.intro (fun h => absurd h ?_) (fun _ => ?_); (focus (first | decide | (simp; done) | (simp [tcs]; done))); conv => whnf) | (intro _; conv => whnf))
      rw [e0]
      repeat (first | (refine And.intro rfl ?_; conv => whnf) | (refine And.intro (by decide) ?_; conv => whnf) | (refine draw_intro true (by kernel_rfl) ?_; conv => whnf) | (refine And.intro ⟨by omega, by omega⟩ ?_; conv => whnf) | (refine And.intro (by omega) ?_; conv => whnf) | (refine And.intro (fun _ => ⟨by omega, by omega⟩) ?_; conv => whnf) | (refine And.intro (of_decide_eq_true rfl) ?_; conv => whnf) | (refine And.intro (fun _ => ?_) (fun h => absurd h ?_); rotate_left; (focus (first | decide | (simp; done) | (simp [tcs]; done))); conv => whnf) | (refine And.intro (fun h => absurd h ?_) (fun _ => ?_); (focus (first | decide | (simp; done) | (simp [tcs]; done))); conv => whnf) | (intro _; conv => whnf))
      rw [e0]
      refine ⟨fun _ => ?_, fun h => by cases h⟩
      conv => whnf
      try (refine draw_intro true (by kernel_rfl) ?_; conv => whnf)
      first | refine CallSt.use haw [] trivial (by decide) rfl ?_ | refine CallPt.useS haw [] trivial (by decide) rfl ?_
      rintro _ _ ⟨rfl, rfl⟩ _
      conv => whnf
      repeat (first | (refine And.intro rfl ?_; conv => whnf) | (refine And.intro (by decide) ?_; conv => whnf) | (refine draw_intro true (by kernel_rfl) ?_; conv => whnf) | (refine And.intro ⟨by omega, by omega⟩ ?_; conv => whnf) | (refine And.intro (by omega) ?_; conv => whnf) | (refine And.intro (fun _ => ⟨by omega, by omega⟩) ?_; conv => whnf) | (refine And.intro (of_decide_eq_true rfl) ?_; conv => whnf) | (refine And.intro (fun _ => ?_) (fun h => absurd h ?_); rotate_left; (focus (first | decide | (simp; done) | (simp [tcs]; done))); conv => whnf) | (refine And.intro (fun h => absurd h ?_) (fun _ => ?_); (focus (first | decide | (simp; done) | (simp [tcs]; done))); conv => whnf) | (intro _; conv => whnf))
      all_goals (first | rfl | exact ⟨rfl, rfl⟩ | exact ⟨rfl, rfl, rfl⟩)
  cases hb : builtB c with
  | false =>
    rw [packV_arg hb] at hpk
    exact hbad 2 (by decide) hpk
  | true =>
    by_cases hl : (packB c).length ≤ 60000
    rotate_left
    · rw [packV_full hb hl] at hpk
      exact hbad 5 (by decide) hpk
    clear hbad
    have hcut := fun k hk => cut_none hb (k := k) hk
    have hmore := more_none hb
    have hchg := fun i x y h hxy => change_none (c := c) (i := i) (x := x) (y := y) h hxy
    rw [packV_ok hb hl] at hpk
    have h7 : 7 ≤ (packB c).length := by rw [packB_pk, sealB_len]; have := (packL_take (c := c)).2; unfold pk; omega
    generalize packB c = l at *
    have hsz := sB_size l
    have e7 : decide (((sB l).size : Int) < 7) = false := decide_eq_false (by omega)
    have hm1 := cMod19 a (sB l).size ⟨by omega, by omega⟩
    have hm2 := cMod19 b 255 (by decide)
    obtain ⟨S, X, ⟨k, l', n, ts⟩, ⟨k2, l2, n2, us⟩⟩ := c
    unfold crv at *
    dsimp only [Term.k, Term.l, Term.n, Term.ts] at *
    refine call_pure (E := env 0) (fn := Try.f7) (c := bodyOf Try.f7) (env_ok 0) mixed (by kernel_rfl) (by kernel_rfl) (by kernel_rfl) (by kernel_rfl) (by kernel_rfl) (by kernel_rfl) rfl ?_
    conv => whnf
    try (refine draw_intro true (by kernel_rfl) ?_; conv => whnf)
    first | refine CallSt.use hsm [] trivial (by decide) rfl ?_ | refine CallPt.useS hsm [] trivial (by decide) rfl ?_
    rintro _ _ ⟨b, rfl, rfl⟩ _
    conv => whnf
    cases b with
    | false =>
      repeat (first | (refine And.intro rfl ?_; conv => whnf) | (refine And.intro (by decide) ?_; conv => whnf) | (refine draw_intro true (by kernel_rfl) ?_; conv => whnf) | (refine And.intro ⟨by omega, by omega⟩ ?_; conv => whnf) | (refine And.intro (by omega) ?_; conv => whnf) | (refine And.intro (fun _ => ⟨by omega, by omega⟩) ?_; conv => whnf) | (refine And.intro (of_decide_eq_true rfl) ?_; conv => whnf) | (refine And.intro (fun _ => ?_) (fun h => absurd h ?_); rotate_left; (focus (first | decide | (simp; done) | (simp [tcs]; done))); conv => whnf) | (refine And.intro (fun h => absurd h ?_) (fun _ => ?_); (focus (first | decide | (simp; done) | (simp [tcs]; done))); conv => whnf) | (intro _; conv => whnf))
      try (refine draw_intro true (by kernel_rfl) ?_; conv => whnf)
      first | refine CallSt.use haw [] trivial (by decide) rfl ?_ | refine CallPt.useS haw [] trivial (by decide) rfl ?_
      rintro _ _ ⟨rfl, rfl⟩ _
      conv => whnf
      repeat (first | (refine And.intro rfl ?_; conv => whnf) | (refine And.intro (by decide) ?_; conv => whnf) | (refine draw_intro true (by kernel_rfl) ?_; conv => whnf) | (refine And.intro ⟨by omega, by omega⟩ ?_; conv => whnf) | (refine And.intro (by omega) ?_; conv => whnf) | (refine And.intro (fun _ => ⟨by omega, by omega⟩) ?_; conv => whnf) | (refine And.intro (of_decide_eq_true rfl) ?_; conv => whnf) | (refine And.intro (fun _ => ?_) (fun h => absurd h ?_); rotate_left; (focus (first | decide | (simp; done) | (simp [tcs]; done))); conv => whnf) | (refine And.intro (fun h => absurd h ?_) (fun _ => ?_); (focus (first | decide | (simp; done) | (simp [tcs]; done))); conv => whnf) | (intro _; conv => whnf))
      all_goals (first | rfl | exact ⟨rfl, rfl⟩ | exact ⟨rfl, rfl, rfl⟩)
    | true =>
      repeat (first | (refine And.intro rfl ?_; conv => whnf) | (refine And.intro (by decide) ?_; conv => whnf) | (refine draw_intro true (by kernel_rfl) ?_; conv => whnf) | (refine And.intro ⟨by omega, by omega⟩ ?_; conv => whnf) | (refine And.intro (by omega) ?_; conv => whnf) | (refine And.intro (fun _ => ⟨by omega, by omega⟩) ?_; conv => whnf) | (refine And.intro (of_decide_eq_true rfl) ?_; conv => whnf) | (refine And.intro (fun _ => ?_) (fun h => absurd h ?_); rotate_left; (focus (first | decide | (simp; done) | (simp [tcs]; done))); conv => whnf) | (refine And.intro (fun h => absurd h ?_) (fun _ => ?_); (focus (first | decide | (simp; done) | (simp [tcs]; done))); conv => whnf) | (intro _; conv => whnf))
      try (refine draw_intro true (by kernel_rfl) ?_; conv => whnf)
      first | refine CallSt.use hpk [] trivial (by decide) rfl ?_ | refine CallPt.useS hpk [] trivial (by decide) rfl ?_
      rintro _ _ ⟨rfl, rfl⟩ _
      conv => whnf
      repeat (first | (refine And.intro rfl ?_; conv => whnf) | (refine And.intro (by decide) ?_; conv => whnf) | (refine draw_intro true (by kernel_rfl) ?_; conv => whnf) | (refine And.intro ⟨by omega, by omega⟩ ?_; conv => whnf) | (refine And.intro (by omega) ?_; conv => whnf) | (refine And.intro (fun _ => ⟨by omega, by omega⟩) ?_; conv => whnf) | (refine And.intro (of_decide_eq_true rfl) ?_; conv => whnf) | (refine And.intro (fun _ => ?_) (fun h => absurd h ?_); rotate_left; (focus (first | decide | (simp; done) | (simp [tcs]; done))); conv => whnf) | (refine And.intro (fun h => absurd h ?_) (fun _ => ?_); (focus (first | decide | (simp; done) | (simp [tcs]; done))); conv => whnf) | (intro _; conv => whnf))
      rw [e7]
      repeat (first | (refine And.intro rfl ?_; conv => whnf) | (refine And.intro (by decide) ?_; conv => whnf) | (refine draw_intro true (by kernel_rfl) ?_; conv => whnf) | (refine And.intro ⟨by omega, by omega⟩ ?_; conv => whnf) | (refine And.intro (by omega) ?_; conv => whnf) | (refine And.intro (fun _ => ⟨by omega, by omega⟩) ?_; conv => whnf) | (refine And.intro (of_decide_eq_true rfl) ?_; conv => whnf) | (refine And.intro (fun _ => ?_) (fun h => absurd h ?_); rotate_left; (focus (first | decide | (simp; done) | (simp [tcs]; done))); conv => whnf) | (refine And.intro (fun h => absurd h ?_) (fun _ => ?_); (focus (first | decide | (simp; done) | (simp [tcs]; done))); conv => whnf) | (intro _; conv => whnf))
      try (refine draw_intro true (by kernel_rfl) ?_; conv => whnf)
      first | refine CallSt.use hm1 [] trivial (by decide) rfl ?_ | refine CallPt.useS hm1 [] trivial (by decide) rfl ?_
      rintro _ _ ⟨⟨m, hm, rfl⟩, rfl⟩ _
      conv => whnf
      repeat (first | (refine And.intro rfl ?_; conv => whnf) | (refine And.intro (by decide) ?_; conv => whnf) | (refine draw_intro true (by kernel_rfl) ?_; conv => whnf) | (refine And.intro ⟨by omega, by omega⟩ ?_; conv => whnf) | (refine And.intro (by omega) ?_; conv => whnf) | (refine And.intro (fun _ => ⟨by omega, by omega⟩) ?_; conv => whnf) | (refine And.intro (of_decide_eq_true rfl) ?_; conv => whnf) | (refine And.intro (fun _ => ?_) (fun h => absurd h ?_); rotate_left; (focus (first | decide | (simp; done) | (simp [tcs]; done))); conv => whnf) | (refine And.intro (fun h => absurd h ?_) (fun _ => ?_); (focus (first | decide | (simp; done) | (simp [tcs]; done))); conv => whnf) | (intro _; conv => whnf))
      obtain ⟨y, hy⟩ : ∃ y, l[m]? = some y := ⟨_, List.getElem?_eq_getElem (by omega)⟩
      have hgd : (sB l).data.toList.getD ((m : Int)).toNat 0 = y := by rw [sB_list, Int.toNat_natCast, List.getD_eq_getElem?_getD, hy]; rfl
      have hyb := y.toNat_lt
      rw [hgd, i64_wrap (by omega)]
      repeat (first | (refine And.intro rfl ?_; conv => whnf) | (refine And.intro (by decide) ?_; conv => whnf) | (refine draw_intro true (by kernel_rfl) ?_; conv => whnf) | (refine And.intro ⟨by omega, by omega⟩ ?_; conv => whnf) | (refine And.intro (by omega) ?_; conv => whnf) | (refine And.intro (fun _ => ⟨by omega, by omega⟩) ?_; conv => whnf) | (refine And.intro (of_decide_eq_true rfl) ?_; conv => whnf) | (refine And.intro (fun _ => ?_) (fun h => absurd h ?_); rotate_left; (focus (first | decide | (simp; done) | (simp [tcs]; done))); conv => whnf) | (refine And.intro (fun h => absurd h ?_) (fun _ => ?_); (focus (first | decide | (simp; done) | (simp [tcs]; done))); conv => whnf) | (intro _; conv => whnf))
      try (refine draw_intro true (by kernel_rfl) ?_; conv => whnf)
      first | refine CallSt.use hm2 [] trivial (by decide) rfl ?_ | refine CallPt.useS hm2 [] trivial (by decide) rfl ?_
      rintro _ _ ⟨⟨q, hq, rfl⟩, rfl⟩ _
      conv => whnf
      have hxl : (((y.toNat : Int) + 1 + (q : Int)) % 256).toNat < 256 := by omega
      have hxy : u8 ((y.toNat : Int) + 1 + (q : Int)) ≠ y := fun e => by
        have h := congrArg (fun z : UInt8 => (z.toNat : Int)) e
        simp only [u8_toNat] at h
        omega
      repeat (first | (refine And.intro rfl ?_; conv => whnf) | (refine And.intro (by decide) ?_; conv => whnf) | (refine And.intro ⟨by omega, by omega⟩ ?_; conv => whnf) | (refine And.intro (by omega) ?_; conv => whnf) | (refine And.intro (fun _ => ⟨by omega, by omega⟩) ?_; conv => whnf) | (refine And.intro (of_decide_eq_true rfl) ?_; conv => whnf) | (refine And.intro (fun _ => ?_) (fun h => absurd h ?_); rotate_left; (focus (first | decide | (simp; done) | (simp [tcs]; done))); conv => whnf) | (refine And.intro (fun h => absurd h ?_) (fun _ => ?_); (focus (first | decide | (simp; done) | (simp [tcs]; done))); conv => whnf))
      have hrow : [[CV.int .u8 (IntKind.u8.wrap ((y.toNat : Int) + 1 + (q : Int)))]] = bR [u8 ((y.toNat : Int) + 1 + (q : Int))] := by rw [u8_wrap]; rfl
      generalize hx : u8 ((y.toNat : Int) + 1 + (q : Int)) = x at *
      have hA : ((sB l).extract (Int.toNat 0) ((m : Int)).toNat).size ≤ 60000 := by rw [ByteArray.size_extract]; omega
      have hB : ((sB l).extract (Int.toNat ((m : Int) + 1)) (((sB l).size : Int)).toNat).size ≤ 60000 := by rw [ByteArray.size_extract]; omega
      have h1 : (⟨[x].toArray⟩ : ByteArray).size = 1 := rfl
      have hAx : ((sB l).extract (Int.toNat 0) ((m : Int)).toNat ++ (⟨[x].toArray⟩ : ByteArray)).size ≤ 60001 := by rw [ByteArray.size_append]; omega
      have hno : ∀ q : List UInt8, q.length ≤ 400000 → openC q = none → CallSt Try.prog 20 [.c (.str (sB q))] [] (fun r H' => r = .tup [crv crtZ, .c (.int .i64 (30))] ∧ H' = []) := fun q hq h => by
        have h2 := cUnpack q hq
        rw [show openV q = .tup [crv crtZ, .c (.int .i64 (30))] by unfold openV; rw [h]] at h2
        exact h2
      have eB : (sB l).extract (Int.toNat 0) ((m : Int)).toNat = sB (l.take m) := by rw [sB_extract, Int.toNat_natCast]; rfl
      have eC : (sB l).extract (Int.toNat ((m : Int) + 1)) (((sB l).size : Int)).toNat = sB (l.drop (m + 1)) := by
        rw [sB_extract, Int.toNat_natCast, hsz, List.take_length]
        rfl
      have hU1 := hno (l.take m ++ [x] ++ l.drop (m + 1)) (by simp; omega) (hchg m x y hy hxy)
      have hU2 := hno (l.take m) (by simp; omega) (hcut m (by omega))
      have hU3 := hno (l ++ [x]) (by simp; omega) (hmore x)
      rw [← sB_app, ← sB_app, ← eB, ← eC] at hU1
      rw [← eB] at hU2
      rw [← sB_app] at hU3
      have eX : sB [x] = (⟨[x].toArray⟩ : ByteArray) := rfl
      rw [eX] at hU1 hU3
      clear hno
      refine draw_wk [(10, .ptr 0 0), (6, .c (.bool false))] [.box [.c (.str ((sB l).extract (Int.toNat 0) ((m : Int)).toNat ++ (⟨[x].toArray⟩ : ByteArray) ++ (sB l).extract (Int.toNat ((m : Int) + 1)) (((sB l).size : Int)).toNat)), .c (.str ((sB l).extract (Int.toNat 0) ((m : Int)).toNat)), .c (.str (sB l ++ (⟨[x].toArray⟩ : ByteArray)))]] ?_ ?_
      · refine draw_intro true (by kernel_rfl) ?_
        conv => whnf
        repeat' first
        | (refine And.intro rfl ?_; conv => whnf)
        | (refine And.intro (by decide) ?_; conv => whnf)
        | (refine And.intro ⟨by omega, by omega, by omega⟩ ?_; conv => whnf)
        | (refine And.intro ⟨by omega, by omega⟩ ?_; conv => whnf)
        | (refine And.intro (by omega) ?_; conv => whnf)
        | (refine ⟨[x], hrow, ?_⟩; conv => whnf)
        | (refine And.intro (show (_ : Nat) ≤ 9223372036854775807 by omega) ?_; conv => whnf)
        | (refine And.intro ?_ ?_ <;> conv => whnf)
        | exact Wk.sel [3] (by decide) (by first | decide | (show (0 : Nat) ≤ _; decide) | (show ∀ i, i < 0 → _; decide) | (show (1 : Nat) ≤ _; decide) | (show ∀ i, i < 1 → _; decide) | (show (2 : Nat) ≤ _; decide) | (show ∀ i, i < 2 → _; decide) | (show (3 : Nat) ≤ _; decide) | (show ∀ i, i < 3 → _; decide) | (show (4 : Nat) ≤ _; decide) | (show ∀ i, i < 4 → _; decide) | (show (5 : Nat) ≤ _; decide) | (show ∀ i, i < 5 → _; decide) | (show (6 : Nat) ≤ _; decide) | (show ∀ i, i < 6 → _; decide) | (show (7 : Nat) ≤ _; decide) | (show ∀ i, i < 7 → _; decide)) (by first | decide | (show (0 : Nat) ≤ _; decide) | (show ∀ i, i < 0 → _; decide) | (show (1 : Nat) ≤ _; decide) | (show ∀ i, i < 1 → _; decide) | (show (2 : Nat) ≤ _; decide) | (show ∀ i, i < 2 → _; decide) | (show (3 : Nat) ≤ _; decide) | (show ∀ i, i < 3 → _; decide) | (show (4 : Nat) ≤ _; decide) | (show ∀ i, i < 4 → _; decide) | (show (5 : Nat) ≤ _; decide) | (show ∀ i, i < 5 → _; decide) | (show (6 : Nat) ≤ _; decide) | (show ∀ i, i < 6 → _; decide) | (show (7 : Nat) ≤ _; decide) | (show ∀ i, i < 7 → _; decide)) ⟨rfl, trivial⟩ ⟨rfl, rfl, trivial⟩ rfl
        | exact Wk.sel [2] (by decide) (by first | decide | (show (0 : Nat) ≤ _; decide) | (show ∀ i, i < 0 → _; decide) | (show (1 : Nat) ≤ _; decide) | (show ∀ i, i < 1 → _; decide) | (show (2 : Nat) ≤ _; decide) | (show ∀ i, i < 2 → _; decide) | (show (3 : Nat) ≤ _; decide) | (show ∀ i, i < 3 → _; decide) | (show (4 : Nat) ≤ _; decide) | (show ∀ i, i < 4 → _; decide) | (show (5 : Nat) ≤ _; decide) | (show ∀ i, i < 5 → _; decide) | (show (6 : Nat) ≤ _; decide) | (show ∀ i, i < 6 → _; decide) | (show (7 : Nat) ≤ _; decide) | (show ∀ i, i < 7 → _; decide)) (by first | decide | (show (0 : Nat) ≤ _; decide) | (show ∀ i, i < 0 → _; decide) | (show (1 : Nat) ≤ _; decide) | (show ∀ i, i < 1 → _; decide) | (show (2 : Nat) ≤ _; decide) | (show ∀ i, i < 2 → _; decide) | (show (3 : Nat) ≤ _; decide) | (show ∀ i, i < 3 → _; decide) | (show (4 : Nat) ≤ _; decide) | (show ∀ i, i < 4 → _; decide) | (show (5 : Nat) ≤ _; decide) | (show ∀ i, i < 5 → _; decide) | (show (6 : Nat) ≤ _; decide) | (show ∀ i, i < 6 → _; decide) | (show (7 : Nat) ≤ _; decide) | (show ∀ i, i < 7 → _; decide)) ⟨rfl, trivial⟩ ⟨rfl, rfl, trivial⟩ rfl
        | exact Wk.sel [1] (by decide) (by first | decide | (show (0 : Nat) ≤ _; decide) | (show ∀ i, i < 0 → _; decide) | (show (1 : Nat) ≤ _; decide) | (show ∀ i, i < 1 → _; decide) | (show (2 : Nat) ≤ _; decide) | (show ∀ i, i < 2 → _; decide) | (show (3 : Nat) ≤ _; decide) | (show ∀ i, i < 3 → _; decide) | (show (4 : Nat) ≤ _; decide) | (show ∀ i, i < 4 → _; decide) | (show (5 : Nat) ≤ _; decide) | (show ∀ i, i < 5 → _; decide) | (show (6 : Nat) ≤ _; decide) | (show ∀ i, i < 6 → _; decide) | (show (7 : Nat) ≤ _; decide) | (show ∀ i, i < 7 → _; decide)) (by first | decide | (show (0 : Nat) ≤ _; decide) | (show ∀ i, i < 0 → _; decide) | (show (1 : Nat) ≤ _; decide) | (show ∀ i, i < 1 → _; decide) | (show (2 : Nat) ≤ _; decide) | (show ∀ i, i < 2 → _; decide) | (show (3 : Nat) ≤ _; decide) | (show ∀ i, i < 3 → _; decide) | (show (4 : Nat) ≤ _; decide) | (show ∀ i, i < 4 → _; decide) | (show (5 : Nat) ≤ _; decide) | (show ∀ i, i < 5 → _; decide) | (show (6 : Nat) ≤ _; decide) | (show ∀ i, i < 6 → _; decide) | (show (7 : Nat) ≤ _; decide) | (show ∀ i, i < 7 → _; decide)) ⟨rfl, trivial⟩ ⟨rfl, rfl, trivial⟩ rfl
        | fail
      clear hA hB hAx eB eC eX
      generalize (sB l).extract (Int.toNat 0) ((m : Int)).toNat ++ (⟨[x].toArray⟩ : ByteArray) ++ (sB l).extract (Int.toNat ((m : Int) + 1)) (((sB l).size : Int)).toNat = s1 at *
      generalize (sB l).extract (Int.toNat 0) ((m : Int)).toNat = s2 at *
      generalize sB l ++ (⟨[x].toArray⟩ : ByteArray) = s3 at *
      unfold crv crtZ at *
      conv => whnf
      refine loop_intro (fun m tm H => ∃ j : Nat, 3 = m + j ∧ tm = [(11, .c (.int .i64 (j))), (10, .ptr 0 0), (6, .c (.bool false))] ∧ H = [.box [.c (.str s1), .c (.str s2), .c (.str s3)]])
        3 _ _ ⟨0, rfl, rfl, rfl⟩ (Wk.sel [0] (by decide) (by first | decide | (show (0 : Nat) ≤ _; decide) | (show ∀ i, i < 0 → _; decide) | (show (1 : Nat) ≤ _; decide) | (show ∀ i, i < 1 → _; decide) | (show (2 : Nat) ≤ _; decide) | (show ∀ i, i < 2 → _; decide) | (show (3 : Nat) ≤ _; decide) | (show ∀ i, i < 3 → _; decide) | (show (4 : Nat) ≤ _; decide) | (show ∀ i, i < 4 → _; decide) | (show (5 : Nat) ≤ _; decide) | (show ∀ i, i < 5 → _; decide) | (show (6 : Nat) ≤ _; decide) | (show ∀ i, i < 6 → _; decide) | (show (7 : Nat) ≤ _; decide) | (show ∀ i, i < 7 → _; decide)) (by first | decide | (show (0 : Nat) ≤ _; decide) | (show ∀ i, i < 0 → _; decide) | (show (1 : Nat) ≤ _; decide) | (show ∀ i, i < 1 → _; decide) | (show (2 : Nat) ≤ _; decide) | (show ∀ i, i < 2 → _; decide) | (show (3 : Nat) ≤ _; decide) | (show ∀ i, i < 3 → _; decide) | (show (4 : Nat) ≤ _; decide) | (show ∀ i, i < 4 → _; decide) | (show (5 : Nat) ≤ _; decide) | (show ∀ i, i < 5 → _; decide) | (show (6 : Nat) ≤ _; decide) | (show ∀ i, i < 6 → _; decide) | (show (7 : Nat) ≤ _; decide) | (show ∀ i, i < 7 → _; decide)) ⟨rfl, trivial⟩ ⟨rfl, rfl, rfl, trivial⟩ rfl) ?_
      rintro m2 tm H ⟨j, hj, rfl, rfl⟩
      obtain rfl | rfl | rfl | rfl : j = 0 ∨ j = 1 ∨ j = 2 ∨ j = 3 := by omega
      · conv => whnf
        repeat (first | (refine And.intro rfl ?_; conv => whnf) | (refine And.intro (by decide) ?_; conv => whnf) | (refine draw_intro true (by kernel_rfl) ?_; conv => whnf) | (refine And.intro ⟨by omega, by omega⟩ ?_; conv => whnf) | (refine And.intro (by omega) ?_; conv => whnf) | (refine And.intro (fun _ => ⟨by omega, by omega⟩) ?_; conv => whnf) | (refine And.intro (of_decide_eq_true rfl) ?_; conv => whnf) | (refine And.intro (fun _ => ?_) (fun h => absurd h ?_); rotate_left; (focus (first | decide | (simp; done) | (simp [tcs]; done))); conv => whnf) | (refine And.intro (fun h => absurd h ?_) (fun _ => ?_); (focus (first | decide | (simp; done) | (simp [tcs]; done))); conv => whnf) | (intro _; conv => whnf))
        try (refine draw_intro true (by kernel_rfl) ?_; conv => whnf)
        first | refine CallSt.use hU1 [] trivial (by decide) rfl ?_ | refine CallPt.useS hU1 [] trivial (by decide) rfl ?_
        rintro _ _ ⟨rfl, rfl⟩ _
        conv => whnf
        repeat (first | (refine And.intro rfl ?_; conv => whnf) | (refine And.intro (by decide) ?_; conv => whnf) | (refine draw_intro true (by kernel_rfl) ?_; conv => whnf) | (refine And.intro ⟨by omega, by omega⟩ ?_; conv => whnf) | (refine And.intro (by omega) ?_; conv => whnf) | (refine And.intro (fun _ => ⟨by omega, by omega⟩) ?_; conv => whnf) | (refine And.intro (of_decide_eq_true rfl) ?_; conv => whnf) | (refine And.intro (fun _ => ?_) (fun h => absurd h ?_); rotate_left; (focus (first | decide | (simp; done) | (simp [tcs]; done))); conv => whnf) | (refine And.intro (fun h => absurd h ?_) (fun _ => ?_); (focus (first | decide | (simp; done) | (simp [tcs]; done))); conv => whnf) | (intro _; conv => whnf))
        refine ⟨2, _, _, by omega, ⟨1, by omega, rfl, rfl⟩, Wk.sel [0] (by decide) (by first | decide | (show (0 : Nat) ≤ _; decide) | (show ∀ i, i < 0 → _; decide) | (show (1 : Nat) ≤ _; decide) | (show ∀ i, i < 1 → _; decide) | (show (2 : Nat) ≤ _; decide) | (show ∀ i, i < 2 → _; decide) | (show (3 : Nat) ≤ _; decide) | (show ∀ i, i < 3 → _; decide) | (show (4 : Nat) ≤ _; decide) | (show ∀ i, i < 4 → _; decide) | (show (5 : Nat) ≤ _; decide) | (show ∀ i, i < 5 → _; decide) | (show (6 : Nat) ≤ _; decide) | (show ∀ i, i < 6 → _; decide) | (show (7 : Nat) ≤ _; decide) | (show ∀ i, i < 7 → _; decide)) (by first | decide | (show (0 : Nat) ≤ _; decide) | (show ∀ i, i < 0 → _; decide) | (show (1 : Nat) ≤ _; decide) | (show ∀ i, i < 1 → _; decide) | (show (2 : Nat) ≤ _; decide) | (show ∀ i, i < 2 → _; decide) | (show (3 : Nat) ≤ _; decide) | (show ∀ i, i < 3 → _; decide) | (show (4 : Nat) ≤ _; decide) | (show ∀ i, i < 4 → _; decide) | (show (5 : Nat) ≤ _; decide) | (show ∀ i, i < 5 → _; decide) | (show (6 : Nat) ≤ _; decide) | (show ∀ i, i < 6 → _; decide) | (show (7 : Nat) ≤ _; decide) | (show ∀ i, i < 7 → _; decide)) ⟨rfl, trivial⟩ ⟨rfl, rfl, rfl, trivial⟩ rfl⟩
      · conv => whnf
        repeat (first | (refine And.intro rfl ?_; conv => whnf) | (refine And.intro (by decide) ?_; conv => whnf) | (refine draw_intro true (by kernel_rfl) ?_; conv => whnf) | (refine And.intro ⟨by omega, by omega⟩ ?_; conv => whnf) | (refine And.intro (by omega) ?_; conv => whnf) | (refine And.intro (fun _ => ⟨by omega, by omega⟩) ?_; conv => whnf) | (refine And.intro (of_decide_eq_true rfl) ?_; conv => whnf) | (refine And.intro (fun _ => ?_) (fun h => absurd h ?_); rotate_left; (focus (first | decide | (simp; done) | (simp [tcs]; done))); conv => whnf) | (refine And.intro (fun h => absurd h ?_) (fun _ => ?_); (focus (first | decide | (simp; done) | (simp [tcs]; done))); conv => whnf) | (intro _; conv => whnf))
        try (refine draw_intro true (by kernel_rfl) ?_; conv => whnf)
        first | refine CallSt.use hU2 [] trivial (by decide) rfl ?_ | refine CallPt.useS hU2 [] trivial (by decide) rfl ?_
        rintro _ _ ⟨rfl, rfl⟩ _
        conv => whnf
        repeat (first | (refine And.intro rfl ?_; conv => whnf) | (refine And.intro (by decide) ?_; conv => whnf) | (refine draw_intro true (by kernel_rfl) ?_; conv => whnf) | (refine And.intro ⟨by omega, by omega⟩ ?_; conv => whnf) | (refine And.intro (by omega) ?_; conv => whnf) | (refine And.intro (fun _ => ⟨by omega, by omega⟩) ?_; conv => whnf) | (refine And.intro (of_decide_eq_true rfl) ?_; conv => whnf) | (refine And.intro (fun _ => ?_) (fun h => absurd h ?_); rotate_left; (focus (first | decide | (simp; done) | (simp [tcs]; done))); conv => whnf) | (refine And.intro (fun h => absurd h ?_) (fun _ => ?_); (focus (first | decide | (simp; done) | (simp [tcs]; done))); conv => whnf) | (intro _; conv => whnf))
        refine ⟨1, _, _, by omega, ⟨2, by omega, rfl, rfl⟩, Wk.sel [0] (by decide) (by first | decide | (show (0 : Nat) ≤ _; decide) | (show ∀ i, i < 0 → _; decide) | (show (1 : Nat) ≤ _; decide) | (show ∀ i, i < 1 → _; decide) | (show (2 : Nat) ≤ _; decide) | (show ∀ i, i < 2 → _; decide) | (show (3 : Nat) ≤ _; decide) | (show ∀ i, i < 3 → _; decide) | (show (4 : Nat) ≤ _; decide) | (show ∀ i, i < 4 → _; decide) | (show (5 : Nat) ≤ _; decide) | (show ∀ i, i < 5 → _; decide) | (show (6 : Nat) ≤ _; decide) | (show ∀ i, i < 6 → _; decide) | (show (7 : Nat) ≤ _; decide) | (show ∀ i, i < 7 → _; decide)) (by first | decide | (show (0 : Nat) ≤ _; decide) | (show ∀ i, i < 0 → _; decide) | (show (1 : Nat) ≤ _; decide) | (show ∀ i, i < 1 → _; decide) | (show (2 : Nat) ≤ _; decide) | (show ∀ i, i < 2 → _; decide) | (show (3 : Nat) ≤ _; decide) | (show ∀ i, i < 3 → _; decide) | (show (4 : Nat) ≤ _; decide) | (show ∀ i, i < 4 → _; decide) | (show (5 : Nat) ≤ _; decide) | (show ∀ i, i < 5 → _; decide) | (show (6 : Nat) ≤ _; decide) | (show ∀ i, i < 6 → _; decide) | (show (7 : Nat) ≤ _; decide) | (show ∀ i, i < 7 → _; decide)) ⟨rfl, trivial⟩ ⟨rfl, rfl, rfl, trivial⟩ rfl⟩
      · conv => whnf
        repeat (first | (refine And.intro rfl ?_; conv => whnf) | (refine And.intro (by decide) ?_; conv => whnf) | (refine draw_intro true (by kernel_rfl) ?_; conv => whnf) | (refine And.intro ⟨by omega, by omega⟩ ?_; conv => whnf) | (refine And.intro (by omega) ?_; conv => whnf) | (refine And.intro (fun _ => ⟨by omega, by omega⟩) ?_; conv => whnf) | (refine And.intro (of_decide_eq_true rfl) ?_; conv => whnf) | (refine And.intro (fun _ => ?_) (fun h => absurd h ?_); rotate_left; (focus (first | decide | (simp; done) | (simp [tcs]; done))); conv => whnf) | (refine And.intro (fun h => absurd h ?_) (fun _ => ?_); (focus (first | decide | (simp; done) | (simp [tcs]; done))); conv => whnf) | (intro _; conv => whnf))
        try (refine draw_intro true (by kernel_rfl) ?_; conv => whnf)
        first | refine CallSt.use hU3 [] trivial (by decide) rfl ?_ | refine CallPt.useS hU3 [] trivial (by decide) rfl ?_
        rintro _ _ ⟨rfl, rfl⟩ _
        conv => whnf
        repeat (first | (refine And.intro rfl ?_; conv => whnf) | (refine And.intro (by decide) ?_; conv => whnf) | (refine draw_intro true (by kernel_rfl) ?_; conv => whnf) | (refine And.intro ⟨by omega, by omega⟩ ?_; conv => whnf) | (refine And.intro (by omega) ?_; conv => whnf) | (refine And.intro (fun _ => ⟨by omega, by omega⟩) ?_; conv => whnf) | (refine And.intro (of_decide_eq_true rfl) ?_; conv => whnf) | (refine And.intro (fun _ => ?_) (fun h => absurd h ?_); rotate_left; (focus (first | decide | (simp; done) | (simp [tcs]; done))); conv => whnf) | (refine And.intro (fun h => absurd h ?_) (fun _ => ?_); (focus (first | decide | (simp; done) | (simp [tcs]; done))); conv => whnf) | (intro _; conv => whnf))
        refine ⟨0, _, _, by omega, ⟨3, by omega, rfl, rfl⟩, Wk.sel [0] (by decide) (by first | decide | (show (0 : Nat) ≤ _; decide) | (show ∀ i, i < 0 → _; decide) | (show (1 : Nat) ≤ _; decide) | (show ∀ i, i < 1 → _; decide) | (show (2 : Nat) ≤ _; decide) | (show ∀ i, i < 2 → _; decide) | (show (3 : Nat) ≤ _; decide) | (show ∀ i, i < 3 → _; decide) | (show (4 : Nat) ≤ _; decide) | (show ∀ i, i < 4 → _; decide) | (show (5 : Nat) ≤ _; decide) | (show ∀ i, i < 5 → _; decide) | (show (6 : Nat) ≤ _; decide) | (show ∀ i, i < 6 → _; decide) | (show (7 : Nat) ≤ _; decide) | (show ∀ i, i < 7 → _; decide)) (by first | decide | (show (0 : Nat) ≤ _; decide) | (show ∀ i, i < 0 → _; decide) | (show (1 : Nat) ≤ _; decide) | (show ∀ i, i < 1 → _; decide) | (show (2 : Nat) ≤ _; decide) | (show ∀ i, i < 2 → _; decide) | (show (3 : Nat) ≤ _; decide) | (show ∀ i, i < 3 → _; decide) | (show (4 : Nat) ≤ _; decide) | (show ∀ i, i < 4 → _; decide) | (show (5 : Nat) ≤ _; decide) | (show ∀ i, i < 5 → _; decide) | (show (6 : Nat) ≤ _; decide) | (show ∀ i, i < 6 → _; decide) | (show (7 : Nat) ≤ _; decide) | (show ∀ i, i < 7 → _; decide)) ⟨rfl, trivial⟩ ⟨rfl, rfl, rfl, trivial⟩ rfl⟩
      · conv => whnf
        repeat (first | (refine And.intro rfl ?_; conv => whnf) | (refine And.intro (by decide) ?_; conv => whnf) | (refine draw_intro true (by kernel_rfl) ?_; conv => whnf) | (refine And.intro ⟨by omega, by omega⟩ ?_; conv => whnf) | (refine And.intro (by omega) ?_; conv => whnf) | (refine And.intro (fun _ => ⟨by omega, by omega⟩) ?_; conv => whnf) | (refine And.intro (of_decide_eq_true rfl) ?_; conv => whnf) | (refine And.intro (fun _ => ?_) (fun h => absurd h ?_); rotate_left; (focus (first | decide | (simp; done) | (simp [tcs]; done))); conv => whnf) | (refine And.intro (fun h => absurd h ?_) (fun _ => ?_); (focus (first | decide | (simp; done) | (simp [tcs]; done))); conv => whnf) | (intro _; conv => whnf))
        try (refine draw_intro true (by kernel_rfl) ?_; conv => whnf)
        first | refine CallSt.use haw [] trivial (by decide) rfl ?_ | refine CallPt.useS haw [] trivial (by decide) rfl ?_
        rintro _ _ ⟨rfl, rfl⟩ _
        conv => whnf
        repeat (first | (refine And.intro rfl ?_; conv => whnf) | (refine And.intro (by decide) ?_; conv => whnf) | (refine draw_intro true (by kernel_rfl) ?_; conv => whnf) | (refine And.intro ⟨by omega, by omega⟩ ?_; conv => whnf) | (refine And.intro (by omega) ?_; conv => whnf) | (refine And.intro (fun _ => ⟨by omega, by omega⟩) ?_; conv => whnf) | (refine And.intro (of_decide_eq_true rfl) ?_; conv => whnf) | (refine And.intro (fun _ => ?_) (fun h => absurd h ?_); rotate_left; (focus (first | decide | (simp; done) | (simp [tcs]; done))); conv => whnf) | (refine And.intro (fun h => absurd h ?_) (fun _ => ?_); (focus (first | decide | (simp; done) | (simp [tcs]; done))); conv => whnf) | (intro _; conv => whnf))
        all_goals (first | rfl | exact ⟨rfl, rfl⟩ | exact ⟨rfl, rfl, rfl⟩)
end Go.Tr
