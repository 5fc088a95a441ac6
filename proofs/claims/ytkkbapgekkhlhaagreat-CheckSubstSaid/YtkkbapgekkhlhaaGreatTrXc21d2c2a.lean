/- What each function computes, and the plain laws of it. -/
import Derived.Shelf.Spec.SlicesGrow
import Derived.Test.YtkkbapgekkhlhaaGreatTrXc95a5045
set_option linter.unusedVariables false
set_option linter.unusedSimpArgs false
set_option linter.unnecessarySimpa false
set_option linter.constructorNameAsVariable false
set_option autoImplicit false
/- sign.formed. -/
namespace Go.Tr
open Go.Proofs
def kindAt (B : List Dcl) (n : Int) : Bool := match B[n.toNat]? with | some e => kindT e.c | none => false
def nameF (s : ByteArray) : Bool := isSmallF s && !decide (s = ⟨#[116, 121, 112, 101]⟩)
def formedF (B : List Dcl) (d : Dcl) : Bool :=
 prop d.c && nameF d.s && decide (0 ≤ d.i) && (decide (d.i ≤ (domT d.c).1.length) && nodesT B.length d.c 0) && (kindT d.c || (targOk d.c && kindAt B (domT d.c).2.n))
theorem targ_pos {t : Term} (h : prop t = true) (ht : targOk t = true) : 0 ≤ (domT t).2.n := by
 obtain ⟨_, _, d', h3, _⟩ := dom_rest t 1 (prop_fm1 h)
 unfold targOk at ht
 rw [Bool.and_eq_true] at ht
 generalize (domT t).2 = u at *
 obtain ⟨k, l, n, ts⟩ := u
 have h4 : k = 4 := of_decide_eq_true ht.1
 subst h4
 change 0 ≤ n
 by_cases hn : 0 ≤ n
 ·exact hn
 ·have hb : fmB 4 l n ts.length = false := by
   unfold fmB
   simp
   omega
  rw [fmT, hb] at h3
  simp at h3
theorem cFormed (B : List Dcl) (hB : ∀ e ∈ B, prop e.c = true) (hBl : B.length ≤ 1000) (d : Dcl) : CallSt Tryz.prog 87 [.c (.sl 6 72 (dcs B)), dv d] [] (fun r H' => r = .c (.bool (formedF B d)) ∧ H' = []) := by
 have h14 := c14 d.c
 have hnm : CallSt Tryz.prog 112 [.c (.str d.s)] [] (fun r H' => r = .c (.bool (nameF d.s)) ∧ H' = []) := cSignName d.s
 have hbl := len_dcs B
 cases hp : prop d.c with
 | false =>
  rw [show formedF B d = false by simp [formedF, hp]]
  simp only [hp, Bool.false_eq_true, if_false] at h14
  clear hp
  obtain ⟨s, ⟨k, l, n, ts⟩, i⟩ := d
  rw [tv_mk] at h14
  refine call_pure (E := env 0) (fn := Tryz.f87) (c := bodyOf Tryz.f87) (env_ok 0) mixed sK sK sK sK sK sK rfl ?_
  conv => whnf
  try (refine dI sK ?_; conv => whnf)
  first | refine u0 h14 ?_ | refine v0 h14 ?_
  rintro _ _ ⟨rfl, rfl⟩ _
  conv => whnf
  repeat ((first | (refine aI ?_ ?_; focus exact sI) | refine dI sK ?_ | (refine yI ?_ ?_; focus exact sY) | (refine nI ?_ ?_; focus exact sY)); conv => whnf)
  all_goals exact sR
 | true =>
  have hE := cEach2 114 (.sl 6 72 (dcs B)) (fun b : Bool => b) (fmStep B.length) okT okT_step (fun s u j hu => cFormed1 B s u j) d.c 0 (decide (d.i ≤ ((tcs (domT d.c).1).length : Int))) (prop_ok hp)
  have hd := c68 d.c 1 (prop_fm1 hp) (by omega)
  have hk := cKind d.c hp
  have ht := cTarget d.c hp
  have hdl := dom_len d.c 1 (prop_fm1 hp)
  simp only [hp, if_true] at h14
  simp only [nodesT_each] at hE
  have hF : formedF B d = (nameF d.s && decide (0 ≤ d.i) && (decide (d.i ≤ (domT d.c).1.length) && nodesT B.length d.c 0) && (kindT d.c || (targOk d.c && kindAt B (domT d.c).2.n))) := by
   simp [formedF, hp]
  rw [hF]
  cases hn : nameF d.s with
  | false =>
   rw [hn] at hnm
   simp only [Bool.false_and]
   clear hE hd hk ht hF hp
   obtain ⟨s, ⟨k, l, n, ts⟩, i⟩ := d
   rw [tv_mk] at h14
   refine call_pure (E := env 0) (fn := Tryz.f87) (c := bodyOf Tryz.f87) (env_ok 0) mixed sK sK sK sK sK sK rfl ?_
   conv => whnf
   try (refine dI sK ?_; conv => whnf)
   first | refine u0 h14 ?_ | refine v0 h14 ?_
   rintro _ _ ⟨rfl, rfl⟩ _
   conv => whnf
   repeat ((first | (refine aI ?_ ?_; focus exact sI) | refine dI sK ?_ | (refine yI ?_ ?_; focus exact sY) | (refine nI ?_ ?_; focus exact sY)); conv => whnf)
   try (refine dI sK ?_; conv => whnf)
   first | refine u0 hnm ?_ | refine v0 hnm ?_
   rintro _ _ ⟨rfl, rfl⟩ _
   conv => whnf
   repeat ((first | (refine aI ?_ ?_; focus exact sI) | refine dI sK ?_ | (refine yI ?_ ?_; focus exact sY) | (refine nI ?_ ?_; focus exact sY)); conv => whnf)
   all_goals exact sR
  | true =>
   rw [hn] at hnm
   by_cases h0 : 0 ≤ d.i
   ·rw [decide_eq_true h0]
    simp only [Bool.true_and]
    have hn1 : nodesT B.length d.c 0 = true → targOk d.c = true → (domT d.c).2.n < B.length := nodes_targ
    have hn0 := @targ_pos d.c hp
    have hkat : ∀ e : Dcl, B[(domT d.c).2.n.toNat]? = some e → kindAt B (domT d.c).2.n = kindT e.c := fun e he => by unfold kindAt; rw [he]
    generalize nodesT B.length d.c 0 = X at *
    generalize kindT d.c = K at *
    generalize targOk d.c = T at *
    generalize kindAt B (domT d.c).2.n = A at *
    clear hF
    generalize domT d.c = p at *
    obtain ⟨L, ⟨k2, l2, n2, ts2⟩⟩ := p
    obtain ⟨s, ⟨k, l, n, ts⟩, i⟩ := d
    dsimp only at *
    rw [tv_mk] at h14 hE hd hk ht
    rw [tv_mk] at hd
    rw [show decide (i ≤ (L.length : Int)) = decide (i ≤ ((tcs L).length : Int)) by rw [len_tcs]]
    refine call_pure (E := env 0) (fn := Tryz.f87) (c := bodyOf Tryz.f87) (env_ok 0) mixed sK sK sK sK sK sK rfl ?_
    conv => whnf
    try (refine dI sK ?_; conv => whnf)
    first | refine u0 h14 ?_ | refine v0 h14 ?_
    rintro _ _ ⟨rfl, rfl⟩ _
    conv => whnf
    repeat ((first | (refine aI ?_ ?_; focus exact sI) | refine dI sK ?_ | (refine yI ?_ ?_; focus exact sY) | (refine nI ?_ ?_; focus exact sY)); conv => whnf)
    try (refine dI sK ?_; conv => whnf)
    first | refine u0 hnm ?_ | refine v0 hnm ?_
    rintro _ _ ⟨rfl, rfl⟩ _
    conv => whnf
    (refine ⟨fun h => absurd (show i < 0 by simpa using h) (by omega), fun _ => ?_⟩; conv => whnf)
    try (refine dI sK ?_; conv => whnf)
    first | refine u0 hd ?_ | refine v0 hd ?_
    rintro _ _ ⟨rfl, rfl⟩ _
    conv => whnf
    intro _
    conv => whnf
    try (refine dI sK ?_; conv => whnf)
    first | refine CallSt.use hE [3, 0] ⟨rfl, rfl, trivial⟩ (by decide) rfl ?_ | refine CallPt.useS hE [3, 0] ⟨rfl, rfl, trivial⟩ (by decide) rfl ?_
    rintro _ _ ⟨rfl, rfl⟩ _
    conv => whnf
    try (refine dI sK ?_; conv => whnf)
    first | refine u0 hk ?_ | refine v0 hk ?_
    rintro _ _ ⟨rfl, rfl⟩ _
    conv => whnf
    cases K with
    | true =>
     simp only [Bool.true_or, Bool.and_true]
     (refine yI ?_ ?_; (focus exact sY); conv => whnf)
     repeat ((first | (refine aI ?_ ?_; focus exact sI) | refine dI sK ?_ | (refine yI ?_ ?_; focus exact sY) | (refine nI ?_ ?_; focus exact sY)); conv => whnf)
     all_goals exact sR
    | false =>
     simp only [Bool.false_or]
     (refine nI ?_ ?_; (focus exact sY); conv => whnf)
     try (refine dI sK ?_; conv => whnf)
     first | refine u0 ht ?_ | refine v0 ht ?_
     rintro _ _ ⟨rfl, rfl⟩ _
     conv => whnf
     have hYX : (decide (i ≤ ((tcs L).length : Int)) && X) = true → X = true := fun h => (Bool.and_eq_true _ _ ▸ h).2
     generalize (decide (i ≤ ((tcs L).length : Int)) && X) = Y at *
     cases Y with
     | false =>
      cases T with
      | false =>
       refine ⟨dc ⟨⟨#[]⟩, zT, 0⟩, fun h => absurd h (by simp), ?_⟩
       conv => whnf
       refine ⟨show 4 ≤ 5 by decide, ?_⟩
       conv => whnf
       refine ⟨fun h => absurd h (by simp), fun _ => ?_⟩
       conv => whnf
       repeat ((first | (refine aI ?_ ?_; focus exact sI) | refine dI sK ?_ | (refine yI ?_ ?_; focus exact sY) | (refine nI ?_ ?_; focus exact sY)); conv => whnf)
       all_goals exact sR
      | true =>
       refine ⟨dc ⟨⟨#[]⟩, zT, 0⟩, fun h => absurd h (by simp), ?_⟩
       conv => whnf
       refine ⟨show 4 ≤ 5 by decide, ?_⟩
       conv => whnf
       refine ⟨fun h => absurd h (by simp), fun _ => ?_⟩
       conv => whnf
       repeat ((first | (refine aI ?_ ?_; focus exact sI) | refine dI sK ?_ | (refine yI ?_ ?_; focus exact sY) | (refine nI ?_ ?_; focus exact sY)); conv => whnf)
       all_goals exact sR
     | true =>
      cases T with
      | false =>
       refine ⟨dc ⟨⟨#[]⟩, zT, 0⟩, fun h => absurd h (by simp), ?_⟩
       conv => whnf
       refine ⟨show 4 ≤ 5 by decide, ?_⟩
       conv => whnf
       refine ⟨fun h => absurd h (by simp), fun _ => ?_⟩
       conv => whnf
       repeat ((first | (refine aI ?_ ?_; focus exact sI) | refine dI sK ?_ | (refine yI ?_ ?_; focus exact sY) | (refine nI ?_ ?_; focus exact sY)); conv => whnf)
       all_goals exact sR
      | true =>
       have hX := hYX rfl
       have hA := hn0 rfl
       have hB2 := hn1 hX rfl
       change 0 ≤ n2 at hA
       change n2 < (B.length : Int) at hB2
       obtain ⟨e, he⟩ : ∃ e, B[n2.toNat]? = some e := ⟨B[n2.toNat]'(by omega), List.getElem?_eq_getElem (by omega)⟩
       have hce := cKind e.c (hB e (List.mem_of_getElem? he))
       have hrow := dcs_at he
       rw [hkat e he]
       generalize kindT e.c = K' at *
       clear hkat hB he
       obtain ⟨s', ⟨k3, l3, n3, ts3⟩, i'⟩ := e
       rw [tv_mk] at hce
       refine ⟨_, fun _ => ⟨hA, hrow⟩, ?_⟩
       conv => whnf
       refine ⟨show 4 ≤ 5 by decide, ?_⟩
       conv => whnf
       (refine yI ?_ ?_; (focus exact sY); conv => whnf)
       try (refine dI sK ?_; conv => whnf)
       first | refine u0 hce ?_ | refine v0 hce ?_
       rintro _ _ ⟨rfl, rfl⟩ _
       conv => whnf
       repeat ((first | (refine aI ?_ ?_; focus exact sI) | refine dI sK ?_ | (refine yI ?_ ?_; focus exact sY) | (refine nI ?_ ?_; focus exact sY)); conv => whnf)
       all_goals exact sR
   ·rw [decide_eq_false h0]
    simp only [Bool.and_false, Bool.false_and]
    clear hE hd hk ht hF hp
    obtain ⟨s, ⟨k, l, n, ts⟩, i⟩ := d
    simp only at h0
    rw [tv_mk] at h14
    refine call_pure (E := env 0) (fn := Tryz.f87) (c := bodyOf Tryz.f87) (env_ok 0) mixed sK sK sK sK sK sK rfl ?_
    conv => whnf
    try (refine dI sK ?_; conv => whnf)
    first | refine u0 h14 ?_ | refine v0 h14 ?_
    rintro _ _ ⟨rfl, rfl⟩ _
    conv => whnf
    repeat ((first | (refine aI ?_ ?_; focus exact sI) | refine dI sK ?_ | (refine yI ?_ ?_; focus exact sY) | (refine nI ?_ ?_; focus exact sY)); conv => whnf)
    try (refine dI sK ?_; conv => whnf)
    first | refine u0 hnm ?_ | refine v0 hnm ?_
    rintro _ _ ⟨rfl, rfl⟩ _
    conv => whnf
    (refine ⟨fun _ => ?_, fun h => absurd (show 0 ≤ i by simpa using h) (by omega)⟩; conv => whnf)
    repeat ((first | (refine aI ?_ ?_; focus exact sI) | refine dI sK ?_ | (refine yI ?_ ?_; focus exact sY) | (refine nI ?_ ?_; focus exact sY)); conv => whnf)
    all_goals exact sR
end Go.Tr
/- sign.each: the rounds. -/
namespace Go.Tr
open Go.Proofs
theorem cSEach (sig : List Dcl) : CallSt Tryz.prog 86 [.c (.sl 6 72 (dcs sig))] [] (fun r H' => r = .fn 111 [.ptr 0 0] ∧ H' = [.box [.c (.sl 6 72 (dcs sig))]]) := by
 refine call_intro (E := env 0) (fn := Tryz.f86) (c := bodyOf Tryz.f86) (env_ok 0) mixed sK sK sK sK sK sK rfl ?_
 conv => whnf
 repeat ((first | (refine aI ?_ ?_; focus exact sI) | refine dI sK ?_ | (refine yI ?_ ?_; focus exact sY) | (refine nI ?_ ?_; focus exact sY)); conv => whnf)
 all_goals exact sR
theorem dcs_take (sig : List Dcl) (n : Nat) : ((dcs sig).take ((n : Int).toNat)).drop (Int.toNat 0) = dcs (sig.take n) := by
 have h1 : (Int.toNat 0) = 0 := rfl
 rw [Int.toNat_natCast, h1, List.drop_zero]
 simp [dcs]
theorem cSEach1 {ps : Array Nat} {asg body : Code} (sig : List Dcl) (hlen : sig.length ≤ 1000) (F : Nat → KV → Option Bool) (good : Nat → Bool) (r0 r1 : Int)
  (hY : ∀ (n : Nat) (d : Dcl), sig[n]? = some d → (∀ i, i < n → good i = true) → YSt Tryz.prog 4 [.c (.sl 6 72 (dcs (sig.take n))), dv d] [.dead, .box [.c (.int .i64 (r0))], .mp true (.b (F n)), .box [.mpv 2], .lrec .ready [(3, .ptr 3 0), (2, .ptr 1 0)] ps asg body, .box [.c (.str d.s), .c (.int .i64 (d.c.k)), .c (.int .i64 (d.c.l)), .c (.int .i64 (d.c.n)), .c (.sl 4 48 (tcs d.c.ts)), .c (.int .i64 (d.i))]]
   (fun r H' => (good n = true ∧ r = .c (.bool true) ∧ H' = [.dead, .box [.c (.int .i64 (r0))], .mp true (.b (F (n + 1))), .box [.mpv 2], .lrec .ready [(3, .ptr 3 0), (2, .ptr 1 0)] ps asg body, .box [.c (.str d.s), .c (.int .i64 (d.c.k)), .c (.int .i64 (d.c.l)), .c (.int .i64 (d.c.n)), .c (.sl 4 48 (tcs d.c.ts)), .c (.int .i64 (d.i))]]) ∨
    (good n = false ∧ r = .c (.bool false) ∧ H' = [.dead, .box [.c (.int .i64 (r1))], .mp true (.b (F n)), .box [.mpv 2], .lrec .ret [(3, .ptr 3 0), (2, .ptr 1 0)] ps asg body, .box [.c (.str d.s), .c (.int .i64 (d.c.k)), .c (.int .i64 (d.c.l)), .c (.int .i64 (d.c.n)), .c (.sl 4 48 (tcs d.c.ts)), .c (.int .i64 (d.i))]]))) :
  CallSt Tryz.prog 111 [.yv 4, .ptr 0 0] [.box [.c (.sl 6 72 (dcs sig))], .box [.c (.int .i64 (r0))], .mp true (.b (F 0)), .box [.mpv 2], .lrec .ready [(3, .ptr 3 0), (2, .ptr 1 0)] ps asg body]
   (fun r H' => r = .tup [] ∧ (((∀ n, n < sig.length → good n = true) ∧ H' = [.box [.c (.sl 6 72 (dcs sig))], .box [.c (.int .i64 (r0))], .mp true (.b (F sig.length)), .box [.mpv 2], .lrec .ready [(3, .ptr 3 0), (2, .ptr 1 0)] ps asg body]) ∨
    ((∃ n, n < sig.length ∧ good n = false) ∧ ∃ n, H' = [.box [.c (.sl 6 72 (dcs sig))], .box [.c (.int .i64 (r1))], .mp true (.b (F n)), .box [.mpv 2], .lrec .ret [(3, .ptr 3 0), (2, .ptr 1 0)] ps asg body]))) := by
 have hrl := len_dcs sig
 refine call_pure (E := envK 5) (fn := Tryz.f111) (c := bodyOf Tryz.f111) (envK_ok 5) mixed sK sK sK sK sK sK rfl ?_
 conv => whnf
 intro _
 conv => whnf
 refine loop_intro (fun m tm H => ∃ (n : Nat), sig.length = m + n ∧ (∀ i, i < n → good i = true) ∧
   tm = [(7, .c (.int .i64 (n))), (6, .c (.int .i64 ((dcs sig).length))), (5, .c (.sl 6 72 (dcs sig))), (0, .yv 4), (1, .ptr 0 0)] ∧ H = [.box [.c (.sl 6 72 (dcs sig))], .box [.c (.int .i64 (r0))], .mp true (.b (F n)), .box [.mpv 2], .lrec .ready [(3, .ptr 3 0), (2, .ptr 1 0)] ps asg body])
   sig.length _ _ ⟨0, by omega, fun i hi => absurd hi (by omega), rfl, rfl⟩ (Wk.sl [0, 1, 2, 3, 4] rfl ⟨rfl, rfl, rfl, rfl, rfl, trivial⟩ ⟨rfl, rfl, rfl, rfl, rfl, trivial⟩ rfl) ?_
 rintro m tm H ⟨n, hm, hall, rfl, rfl⟩
 conv => whnf
 refine ⟨fun hc => ?_, fun hc => ?_⟩
 ·replace hc : (n : Int) < (dcs sig).length := of_decide_eq_true hc
  obtain ⟨d, hd⟩ : ∃ d, sig[n]? = some d := ⟨sig[n]'(by omega), List.getElem?_eq_getElem (by omega)⟩
  have hdc := dcs_at hd
  have hy := hY n d hd hall
  rw [← dcs_take] at hy
  obtain ⟨s', ⟨k', l', n', us⟩, i'⟩ := d
  dsimp only [Term.k, Term.l, Term.n, Term.ts] at hy
  conv => whnf
  refine ⟨_, ⟨by omega, hdc⟩, ?_⟩
  conv => whnf
  refine ⟨show 6 ≤ 6 by decide, ?_⟩
  conv => whnf
  refine draw_intro true (by kernel_rfl) ?_
  conv => whnf
  refine ⟨⟨by omega, by omega, by omega⟩, ?_⟩
  conv => whnf
  try (refine dI sK ?_; conv => whnf)
  refine YSt.mono hy ?_
  rintro _ _ (⟨hg, rfl, rfl⟩ | ⟨hg, rfl, rfl⟩)
  conv => whnf
  ·(refine nI ?_ ?_; (focus exact sY); conv => whnf)
   refine ⟨⟨by omega, by omega⟩, ?_⟩
   conv => whnf
   refine ⟨m - 1, _, _, by omega, ⟨n + 1, by omega, fun i hi => ?_, rfl, rfl⟩, Wk.sl [0, 1, 2, 3, 4] rfl ⟨rfl, rfl, rfl, rfl, rfl, trivial⟩ ⟨rfl, rfl, rfl, rfl, rfl, trivial⟩ rfl⟩
   by_cases hij : i < n
   ·exact hall i hij
   ·obtain rfl : i = n := by omega
    exact hg
  ·(refine yI ?_ ?_; (focus exact sY); conv => whnf)
   exact ⟨rfl, rfl, rfl, .inr ⟨⟨n, by omega, hg⟩, n, rfl⟩⟩
 ·replace hc : ¬ (n : Int) < (dcs sig).length := of_decide_eq_false hc
  obtain rfl : n = sig.length := by omega
  conv => whnf
  exact ⟨rfl, rfl, rfl, .inl ⟨fun i hi => hall i hi, rfl⟩⟩
end Go.Tr
/- Copy, Pi, kept; Arrow: both sides. -/
namespace Go.Tr
open Go.Proofs
def envY (n : Nat) : Env := ⟨lkT tab, keep, n, true, false, none, fun _ _ => none⟩
theorem envY_ok (n : Nat) : EnvOk Tryz.prog (envY n) := EnvOk.of (l := tab) rfl (by kernel_rfl)
theorem cMap0 (f : FuncId) (g : Int → Int → Int → Int → Int × Int × Int) (ok : Term → Int → Prop) (hok : ∀ t i, ok t i → (0 ≤ i ∧ i ≤ 1000000000) ∧ ∀ (j : Nat) u, t.ts[j]? = some u → ok u (i + unT t.k j))
  (hf : ∀ t i, ok t i → CallSt Tryz.prog f ([.agg [.c (.int .i64 (t.k)), .c (.int .i64 (t.l)), .c (.int .i64 (t.n)), .nil], .c (.int .i64 (i))] ++ []) []
   (fun r H' => r = .agg [.c (.int .i64 ((g t.k t.l t.n i).1)), .c (.int .i64 ((g t.k t.l t.n i).2.1)), .c (.int .i64 ((g t.k t.l t.n i).2.2)), .nil] ∧ H' = [])) (t : Term) :
  ∀ (i : Int), ok t i → CallSt Tryz.prog 93 [tv t, .c (.int .i64 (i)), .fn f []] []
   (fun r H' => r = tv (mapT g t i) ∧ H' = []) := by
 induction t using Term.ind with
 | _ t ih =>
 intro i hti
 have hff := hf t i hti
 obtain ⟨hib, hch⟩ := hok t i hti
 obtain ⟨k, l, n, ts⟩ := t
 replace ih : ∀ u, u ∈ ts → _ := ih
 rw [tv_mk]
 refine call_pure (E := envK 0) (fn := Tryz.f93) (c := bodyOf Tryz.f93) (envK_ok 0) mixed sK sK sK sK sK sK rfl ?_
 conv => whnf
 try (refine dI sK ?_; conv => whnf)
 first | refine u0 hff ?_ | refine v0 hff ?_
 rintro _ _ ⟨rfl, rfl⟩ _
 conv => whnf
 simp only [Term.k, Term.l, Term.n]
 generalize hg : g k l n i = y
 obtain ⟨y1, y2, y3⟩ := y
 conv => whnf
 intro hlen
 replace hlen : (tcs ts).length * 48 ≤ 140737488355328 := hlen
 rw [len_tcs] at hlen
 conv => whnf
 refine loop_intro (fun m tm H => ∃ (j : Nat) (us : List Term), ts.length = m + j ∧ us.length = j ∧ us ++ mapL g k i j (ts.drop j) = mapL g k i 0 ts ∧
   tm = [(23, .c (.int .i64 (j))), (21, .c (.sl 4 48 (tcs ts))), (22, .c (.int .i64 ((tcs ts).length))), (1, .c (.int .i64 (i))), (2, .fn f []), (3, .ptr 0 0), (6, .ptr 1 0), (7, .ptr 2 0)] ∧
   H = [.box [.c (.int .i64 (k)), .c (.int .i64 (l)), .c (.int .i64 (n)), .c (.sl 4 48 (tcs ts))], .box [.c (.int .i64 (0)), .c (.int .i64 (0)), .c (.int .i64 (0)), .nil],
    .box [.c (.int .i64 (y1)), .c (.int .i64 (y2)), .c (.int .i64 (y3)), .own 3], .row 28 4 48 (tcs us)])
   ts.length _ _ ⟨0, [], by omega, rfl, rfl, rfl, rfl⟩ ?_ ?_
 ·refine Wk.trans (H1 := [.box [.c (.int .i64 (k)), .c (.int .i64 (l)), .c (.int .i64 (n)), .c (.sl 4 48 (tcs ts))], .box [.c (.int .i64 (0)), .c (.int .i64 (0)), .c (.int .i64 (0)), .nil],
    .box [.c (.int .i64 (y1)), .c (.int .i64 (y2)), .c (.int .i64 (y3)), .nil]]) ?_ (Wk.nilrow' 2 3 28 4 48 rfl rfl rfl rfl)
  exact Wk.sl [0, 1, 2] rfl ⟨rfl, rfl, rfl, trivial⟩ ⟨rfl, rfl, rfl, rfl, rfl, rfl, rfl, rfl, trivial⟩ rfl
 rintro m tm H ⟨j, us, hj, hus, hR, rfl, rfl⟩
 conv => whnf
 refine ⟨fun hc => ?_, fun hc => ?_⟩
 ·replace hc : (j : Int) < (tcs ts).length := of_decide_eq_true hc
  rw [len_tcs] at hc
  have hlt : j < ts.length := by omega
  obtain ⟨u, hu⟩ : ∃ u, ts[j]? = some u := ⟨ts[j], List.getElem?_eq_getElem hlt⟩
  have hm := List.mem_of_getElem? hu
  have huc := tcs_at ts j u hu
  have hcc := ih u hm (i + unT k j) (hch j u hu)
  have hun := c77 (.mk k l n ts) j
  have hub := unT_bd k j
  rw [drop_at hu, mapL] at hR
  obtain ⟨k', l', n', us'⟩ := u
  conv => whnf
  refine ⟨_, ⟨by omega, by simpa using huc⟩, ?_⟩
  conv => whnf
  refine ⟨Nat.le_refl 4, ?_⟩
  conv => whnf
  try (refine dI sK ?_; conv => whnf)
  first | refine u0 hun ?_ | refine v0 hun ?_
  rintro _ _ ⟨rfl, rfl⟩ _
  conv => whnf
  refine ⟨⟨by simp only [Term.k]; omega, by simp only [Term.k]; omega⟩, ?_⟩
  conv => whnf
  try (refine dI sK ?_; conv => whnf)
  first | refine u0 hcc ?_ | refine v0 hcc ?_
  rintro _ _ ⟨rfl, rfl⟩ _
  generalize hv : mapT g (.mk k' l' n' us') (i + unT k j) = v at *
  obtain ⟨k3, l3, n3, us3⟩ := v
  conv => whnf
  refine ⟨by decide, ?_⟩
  conv => whnf
  refine ⟨by decide, ?_⟩
  conv => whnf
  have hl1 : (tcs us).length = j := by rw [len_tcs, hus]
  have hl2 : ((tcs us).length + 1) * 48 ≤ 140737488355328 := by omega
  have hl3 : (tcs us).length + 1 ≤ 9223372036854775807 := by omega
  refine ⟨hl2, hl3, ?_⟩
  conv => whnf
  refine ⟨⟨by omega, by omega⟩, ?_⟩
  conv => whnf
  refine ⟨m - 1, _, _, by omega, ⟨j + 1, us ++ [.mk k3 l3 n3 us3], by omega, by simp [hus], ?_, rfl, rfl⟩, Wk.sl [0, 1, 2, 6] rfl ⟨rfl, rfl, rfl, ?_, trivial⟩ ⟨rfl, rfl, rfl, rfl, rfl, rfl, rfl, rfl, trivial⟩ rfl⟩
  ·rw [← hR, List.append_assoc]
   rfl
  ·rw [← tcs_snoc]
   rfl
 ·replace hc : ¬ (j : Int) < (tcs ts).length := of_decide_eq_false hc
  rw [len_tcs] at hc
  conv => whnf
  refine ⟨rfl, ?_⟩
  conv => whnf
  refine ⟨rfl, ?_⟩
  rw [List.drop_eq_nil_of_le (by omega), mapL, List.append_nil] at hR
  rw [mapT, hg, ← hR]
  exact ⟨rfl, rfl⟩
theorem c81 (k l n i : Int) : CallSt Tryz.prog 94 [.agg [.c (.int .i64 (k)), .c (.int .i64 (l)), .c (.int .i64 (n)), .nil], .c (.int .i64 (i))] [] (fun r H' => r = .agg [.c (.int .i64 (k)), .c (.int .i64 (l)), .c (.int .i64 (n)), .nil] ∧ H' = []) := by
 refine call_trim (E := env 0) (fn := Tryz.f94) (c := bodyOf Tryz.f94) (env_ok 0) mixed sK sK sK sK sK sK rfl ?_
 conv => whnf
 repeat ((first | (refine aI ?_ ?_; focus exact sI) | refine dI sK ?_ | (refine yI ?_ ?_; focus exact sY) | (refine nI ?_ ?_; focus exact sY)); conv => whnf)
 all_goals exact sR
mutual
theorem mapT_id : ∀ (t : Term) (i : Int), mapT (fun k l n _ => (k, l, n)) t i = t
 | .mk k l n ts, i => by rw [mapT, mapL_id k i ts]
theorem mapL_id (k i : Int) : ∀ (ts : List Term) (j : Int), mapL (fun k l n _ => (k, l, n)) k i j ts = ts
 | [], j => by rw [mapL]
 | t :: r, j => by rw [mapL, mapT_id t, mapL_id k i r]
end
theorem c64 (t : Term) (h : okT t 0) : CallSt Tryz.prog 64 [tv t] [] (fun r H' => r = tv t ∧ H' = []) := by
 have c := cMap0 94 (fun k l n _ => (k, l, n)) okT okT_step (fun t i _ => c81 t.k t.l t.n i) t 0 h
 rw [mapT_id] at c
 obtain ⟨k, l, n, ts⟩ := t
 rw [tv_mk] at *
 refine call_pure (E := env 0) (fn := Tryz.f64) (c := bodyOf Tryz.f64) (env_ok 0) mixed sK sK sK sK sK sK rfl ?_
 conv => whnf
 try (refine dI sK ?_; conv => whnf)
 first | refine u0 c ?_ | refine v0 c ?_
 rintro _ _ ⟨rfl, rfl⟩ _
 conv => whnf
 repeat ((first | (refine aI ?_ ?_; focus exact sI) | refine dI sK ?_ | (refine yI ?_ ?_; focus exact sY) | (refine nI ?_ ?_; focus exact sY)); conv => whnf)
 all_goals exact sR
end Go.Tr
/- sign.Check. -/
namespace Go.Tr
open Go.Proofs
def namesOf (l : List Dcl) : KV → Option Bool := fun q => match q with | .s b => if l.any (fun e => decide (e.s = b)) then some true else none | _ => none
theorem namesOf_snoc {l : List Dcl} {d : Dcl} : mput (namesOf l) (.s d.s) true = namesOf (l ++ [d]) := by
 funext q
 cases q with
 | i n => simp [mput, namesOf]
 | s b =>
  unfold mput namesOf
  by_cases h : b = d.s
  ·subst h; simp
  ·rw [if_neg (by intro h2; injection h2 with h2; exact h h2)]
   have h3 : ¬ d.s = b := fun e => h e.symm
   simp [h3]
def namesAt (sig : List Dcl) : Nat → KV → Option Bool
 | 0 => fun _ => none
 | n + 1 => namesOf (sig.take (n + 1))
theorem namesAt_eq (sig : List Dcl) : ∀ n, namesAt sig n = namesOf (sig.take n)
 | 0 => by funext q; cases q <;> simp [namesAt, namesOf]
 | n + 1 => rfl
def goodD (sig : List Dcl) (n : Nat) : Bool := match sig[n]? with
 | some d => !((namesOf (sig.take n) (.s d.s)).getD false) && formedF (sig.take n) d
 | none => true
theorem good_prop {sig : List Dcl} {n : Nat} (h : ∀ i, i < n → goodD sig i = true) : ∀ e ∈ sig.take n, prop e.c = true := by
 intro e he
 obtain ⟨i, hi⟩ := List.mem_iff_getElem?.1 he
 rw [List.getElem?_take] at hi
 split at hi
 ·rename_i hin
  have hg := h i hin
  unfold goodD at hg
  rw [hi] at hg
  simp only [Bool.and_eq_true] at hg
  have := hg.2
  unfold formedF at this
  simp only [Bool.and_eq_true] at this
  exact this.1.1.1.1
 ·cases hi
def checkB (sig : List Dcl) : Bool := decide (sig.length ≤ 100) && (List.range sig.length).all (goodD sig)
theorem cCheck (sig : List Dcl) : CallSt Tryz.prog 52 [.c (.sl 6 72 (dcs sig))] [] (fun r H' => r = .c (.int .i64 ((if checkB sig then 0 else 2))) ∧ H' = []) := by
 have hbl := len_dcs sig
 by_cases hs : sig.length ≤ 100
 ·have hIt := fun {ps} {asg} {body} => @cSEach1 ps asg body sig (by omega) (namesAt sig) (goodD sig) 0 2
  refine call_pure (E := env 0) (fn := Tryz.f52) (c := bodyOf Tryz.f52) (env_ok 0) mixed sK sK sK sK sK sK rfl ?_
  conv => whnf
  intro _
  conv => whnf
  (refine ⟨fun h => absurd (of_decide_eq_true h) (by omega), fun _ => ?_⟩; conv => whnf)
  try (refine dI sK ?_; conv => whnf)
  first | refine u0 ((cSEach sig)) ?_ | refine v0 ((cSEach sig)) ?_
  rintro _ _ ⟨rfl, rfl⟩ _
  conv => whnf
  refine CallSt.wkl 4 [(3, .ptr 2 0), (2, .ptr 0 0)] rfl (subTM_lk ⟨rfl, rfl, trivial⟩) ?_
  refine CallSt.use (hIt ?_) [3, 0, 1, 2, 4] ⟨rfl, rfl, rfl, rfl, rfl, trivial⟩ (by decide) rfl ?_
  ·intro n d hd hall
   have hfm := cFormed (sig.take n) (good_prop hall) (by simp; omega) d
   have hg : goodD sig n = (!((namesAt sig n (.s d.s)).getD false) && formedF (sig.take n) d) := by unfold goodD; rw [hd, namesAt_eq]
   have hnx : namesAt sig (n + 1) = mput (namesAt sig n) (.s d.s) true := by rw [namesAt_eq, namesAt_eq, namesOf_snoc, List.take_add_one, hd]; rfl
   rw [hg, hnx]
   clear hg hnx hIt
   generalize namesAt sig n = F at *
   generalize formedF (sig.take n) d = b at *
   obtain ⟨s', ⟨k', l', n', us⟩, i'⟩ := d
   dsimp only [Term.k, Term.l, Term.n, Term.ts]
   refine y_intro (E := envY 6) (envY_ok 6) mixed rfl rfl (i := 4) rfl rfl rfl ?_
   conv => whnf
   generalize (F (.s s')).getD false = c at *
   cases c with
   | true =>
    repeat ((first | (refine aI ?_ ?_; focus exact sI) | refine dI sK ?_ | (refine yI ?_ ?_; focus exact sY) | (refine nI ?_ ?_; focus exact sY)); conv => whnf)
    first | exact ⟨rfl, .inr ⟨rfl, rfl, rfl⟩⟩ | exact .inr ⟨rfl, rfl, rfl⟩
   | false =>
    (refine yI ?_ ?_; (focus exact sY); conv => whnf)
    try (refine dI sK ?_; conv => whnf)
    first | refine u0 hfm ?_ | refine v0 hfm ?_
    rintro _ _ ⟨rfl, rfl⟩ _
    conv => whnf
    cases b with
    | true =>
     repeat ((first | (refine aI ?_ ?_; focus exact sI) | refine dI sK ?_ | (refine yI ?_ ?_; focus exact sY) | (refine nI ?_ ?_; focus exact sY)); conv => whnf)
     first | exact ⟨rfl, .inl ⟨rfl, rfl, rfl⟩⟩ | exact .inl ⟨rfl, rfl, rfl⟩
    | false =>
     repeat ((first | (refine aI ?_ ?_; focus exact sI) | refine dI sK ?_ | (refine yI ?_ ?_; focus exact sY) | (refine nI ?_ ?_; focus exact sY)); conv => whnf)
     first | exact ⟨rfl, .inr ⟨rfl, rfl, rfl⟩⟩ | exact .inr ⟨rfl, rfl, rfl⟩
  rintro _ _ ⟨rfl, (⟨hall, rfl⟩ | ⟨⟨n, hn, hg⟩, n', rfl⟩)⟩ _
  ·have hcb : checkB sig = true := by
    unfold checkB
    rw [decide_eq_true hs, Bool.true_and, List.all_eq_true]
    intro i hi
    exact hall i (by simpa using hi)
   rw [hcb]
   conv => whnf
   repeat ((first | (refine aI ?_ ?_; focus exact sI) | refine dI sK ?_ | (refine yI ?_ ?_; focus exact sY) | (refine nI ?_ ?_; focus exact sY)); conv => whnf)
   all_goals exact sR
  ·have hcb : checkB sig = false := by
    unfold checkB
    rw [decide_eq_true hs, Bool.true_and, List.all_eq_false]
    exact ⟨n, by simpa using hn, by rw [hg]; simp⟩
   rw [hcb]
   conv => whnf
   repeat ((first | (refine aI ?_ ?_; focus exact sI) | refine dI sK ?_ | (refine yI ?_ ?_; focus exact sY) | (refine nI ?_ ?_; focus exact sY)); conv => whnf)
   all_goals exact sR
 ·rw [show checkB sig = false by unfold checkB; rw [decide_eq_false hs]; rfl]
  refine call_pure (E := env 0) (fn := Tryz.f52) (c := bodyOf Tryz.f52) (env_ok 0) mixed sK sK sK sK sK sK rfl ?_
  conv => whnf
  intro _
  conv => whnf
  (refine ⟨fun _ => ?_, fun h => absurd (of_decide_eq_false h) (by omega)⟩; conv => whnf)
  repeat ((first | (refine aI ?_ ?_; focus exact sI) | refine dI sK ?_ | (refine yI ?_ ?_; focus exact sY) | (refine nI ?_ ?_; focus exact sY)); conv => whnf)
  all_goals exact sR
end Go.Tr
/- Occurs of the reference. -/
namespace Go.Tr
open Go.Proofs
end Go.Tr
/- Free, Constants, Metas, Occurs of both sides; lists of numbers. -/
namespace Go.Tr
open Go.Proofs
theorem cFreeP (t : Term) : CallSt Tryz.prog 73 [tv t] [] (fun r H' => r = .tup [.c (.sl 1 8 (rowI (conF 1 t))), .c (.int .i64 ((if prop t then 0 else 2)))] ∧ H' = []) := by
 have hh := numbers_of 102 1 (fun t i h => cFree1 t i h) t
 generalize conF 1 t = L at *
 generalize (if prop t then (0 : Int) else 2) = e at *
 obtain ⟨k, l, n, ts⟩ := t
 rw [tv_mk] at *
 refine call_pure (E := env 0) (fn := Tryz.f73) (c := bodyOf Tryz.f73) (env_ok 0) mixed sK sK sK sK sK sK rfl ?_
 conv => whnf
 try (refine dI sK ?_; conv => whnf)
 first | refine u0 hh ?_ | refine v0 hh ?_
 rintro _ _ ⟨rfl, rfl⟩ _
 conv => whnf
 repeat ((first | (refine aI ?_ ?_; focus exact sI) | refine dI sK ?_ | (refine yI ?_ ?_; focus exact sY) | (refine nI ?_ ?_; focus exact sY)); conv => whnf)
 all_goals exact sR
theorem heads_con (hd : Int) {t : Term} (h : prop t = true) : CallSt Tryz.prog 116 [tv t, .c (.int .i64 (hd)), .c (.int .i64 (0)), .c (.sl 1 8 (rowI []))] [] (fun r H' => r = .c (.sl 1 8 (rowI (conF hd t))) ∧ H' = []) := by
 have hz := prop_sz h
 have hh := cHeads hd t 0 [] (prop_ok h) (by simp; omega)
 have e : conF hd t = headsT hd t 0 [] := by unfold conF; rw [h]
 rw [e]
 exact hh
theorem cRFree {t : Term} (h : prop t = true) : CallSt Tryz.prog 90 [tv t] [] (fun r H' => r = .c (.sl 1 8 (rowI (conF 1 t))) ∧ H' = []) := by
 have hh := heads_con 1 h
 generalize conF 1 t = L at *
 clear h
 obtain ⟨k, l, n, ts⟩ := t
 rw [tv_mk] at *
 refine call_pure (E := env 0) (fn := Tryz.f90) (c := bodyOf Tryz.f90) (env_ok 0) mixed sK sK sK sK sK sK rfl ?_
 conv => whnf
 try (refine dI sK ?_; conv => whnf)
 first | refine u0 hh ?_ | refine v0 hh ?_
 rintro _ _ ⟨rfl, rfl⟩ _
 conv => whnf
 repeat ((first | (refine aI ?_ ?_; focus exact sI) | refine dI sK ?_ | (refine yI ?_ ?_; focus exact sY) | (refine nI ?_ ?_; focus exact sY)); conv => whnf)
 all_goals exact sR
theorem cRCons {t : Term} (h : prop t = true) : CallSt Tryz.prog 89 [tv t] [] (fun r H' => r = .c (.sl 1 8 (rowI (conF 2 t))) ∧ H' = []) := by
 have hh := heads_con 2 h
 generalize conF 2 t = L at *
 clear h
 obtain ⟨k, l, n, ts⟩ := t
 rw [tv_mk] at *
 refine call_pure (E := env 0) (fn := Tryz.f89) (c := bodyOf Tryz.f89) (env_ok 0) mixed sK sK sK sK sK sK rfl ?_
 conv => whnf
 try (refine dI sK ?_; conv => whnf)
 first | refine u0 hh ?_ | refine v0 hh ?_
 rintro _ _ ⟨rfl, rfl⟩ _
 conv => whnf
 repeat ((first | (refine aI ?_ ?_; focus exact sI) | refine dI sK ?_ | (refine yI ?_ ?_; focus exact sY) | (refine nI ?_ ?_; focus exact sY)); conv => whnf)
 all_goals exact sR
theorem cRMetas {t : Term} (h : prop t = true) : CallSt Tryz.prog 121 [tv t] [] (fun r H' => r = .c (.sl 1 8 (rowI (conF 3 t))) ∧ H' = []) := by
 have hh := heads_con 3 h
 generalize conF 3 t = L at *
 clear h
 obtain ⟨k, l, n, ts⟩ := t
 rw [tv_mk] at *
 refine call_pure (E := env 0) (fn := Tryz.f121) (c := bodyOf Tryz.f121) (env_ok 0) mixed sK sK sK sK sK sK rfl ?_
 conv => whnf
 try (refine dI sK ?_; conv => whnf)
 first | refine u0 hh ?_ | refine v0 hh ?_
 rintro _ _ ⟨rfl, rfl⟩ _
 conv => whnf
 repeat ((first | (refine aI ?_ ?_; focus exact sI) | refine dI sK ?_ | (refine yI ?_ ?_; focus exact sY) | (refine nI ?_ ?_; focus exact sY)); conv => whnf)
 all_goals exact sR
end Go.Tr
/- The reference's Split. -/
namespace Go.Tr
open Go.Proofs
theorem c33 (t : Term) (d : Int) (h : fmT t d = true) (hd : 0 ≤ d) : CallSt Tryz.prog 98 [tv t] [] (fun r H' => r = .tup [.c (.sl 4 48 (tcs (domT t).1)), tv (domT t).2] ∧ H' = []) := by
 have hlen := dom_len t d h
 have hz := SizeOf.sizeOf t
 generalize hT : t = T at *
 subst hT
 obtain ⟨k, l, n, ts⟩ := t
 rw [tv_mk]
 refine call_pure (E := env 0) (fn := Tryz.f98) (c := bodyOf Tryz.f98) (env_ok 0) mixed sK sK sK sK sK sK rfl ?_
 conv => whnf
 refine loop_intro (fun m tm H => ∃ (k' l' n' : Int) (ts' pre : List Term) (d' : Int), SizeOf.sizeOf (Term.mk k' l' n' ts') ≤ m ∧ fmT (.mk k' l' n' ts') d' = true ∧ pre ++ (domT (.mk k' l' n' ts')).1 = (domT (.mk k l n ts)).1 ∧ (domT (.mk k' l' n' ts')).2 = (domT (.mk k l n ts)).2 ∧
   tm = [(4, .own 2), (1, .ptr 0 0), (3, .ptr 1 0)] ∧ H = [.box [.c (.int .i64 (k')), .c (.int .i64 (l')), .c (.int .i64 (n')), .c (.sl 4 48 (tcs ts'))], .box [.c (.int .i64 (0)), .c (.int .i64 (0)), .c (.int .i64 (0)), .nil], .row 28 4 48 (tcs pre)])
   (SizeOf.sizeOf (Term.mk k l n ts)) _ _ ⟨k, l, n, ts, [], d, Nat.le_refl _, h, rfl, rfl, rfl, rfl⟩ ?_ ?_
 ·refine Wk.trans (tm1 := [(1, .ptr 0 0), (3, .ptr 1 0), (4, .nil)]) (H1 := [.box [.c (.int .i64 (k)), .c (.int .i64 (l)), .c (.int .i64 (n)), .c (.sl 4 48 (tcs ts))], .box [.c (.int .i64 (0)), .c (.int .i64 (0)), .c (.int .i64 (0)), .nil]]) ?_ (Wk.trans (Wk.niltmp 4 28 4 48 rfl rfl) ?_)
  ·exact Wk.sl [0, 1] rfl ⟨rfl, rfl, trivial⟩ ⟨rfl, rfl, rfl, trivial⟩ rfl
  ·exact Wk.sl [0, 1, 2] rfl ⟨rfl, rfl, rfl, trivial⟩ ⟨rfl, rfl, rfl, trivial⟩ rfl
 rintro m tm H ⟨k', l', n', ts', pre, d', hm, hf, hpre, hrest, rfl, rfl⟩
 conv => whnf
 refine ⟨fun hc => ?_, fun hc => ?_⟩
 ·replace hc : k' = 2 := of_decide_eq_true hc
  subst hc
  obtain ⟨rfl, rfl, a, b, rfl, ha, hb⟩ := fm_pi hf
  rw [domT_pi] at hpre hrest
  have hl1 : (tcs pre).length ≤ 41 := by
   rw [len_tcs]
   have := congrArg List.length hpre
   simp at this
   omega
  obtain ⟨a1, a2, a3, a4⟩ := a
  obtain ⟨b1, b2, b3, b4⟩ := b
  conv => whnf
  refine ⟨_, ⟨by decide, rfl⟩, ?_⟩
  conv => whnf
  refine ⟨Nat.le_refl 4, ?_⟩
  conv => whnf
  refine ⟨by decide, ?_⟩
  conv => whnf
  refine ⟨by decide, ?_⟩
  conv => whnf
  have hl2 : ((tcs pre).length + 1) * 48 ≤ 140737488355328 := by omega
  have hl3 : (tcs pre).length + 1 ≤ 9223372036854775807 := by omega
  refine ⟨hl2, hl3, ?_⟩
  conv => whnf
  refine ⟨_, ⟨by decide, rfl⟩, ?_⟩
  conv => whnf
  refine ⟨Nat.le_refl 4, ?_⟩
  conv => whnf
  refine ⟨SizeOf.sizeOf (Term.mk b1 b2 b3 b4), _, _, ?_, ⟨b1, b2, b3, b4, pre ++ [.mk a1 a2 a3 a4], d' + 1, Nat.le_refl _, hb, ?_, hrest, rfl, rfl⟩, Wk.sl [0, 1, 4] rfl ⟨rfl, rfl, ?_, trivial⟩ ⟨rfl, rfl, rfl, trivial⟩ rfl⟩
  ·simp at hm ⊢; omega
  ·rw [← hpre, List.append_assoc]; rfl
  ·rw [← tcs_snoc]; rfl
 ·replace hc : ¬ k' = 2 := of_decide_eq_false hc
  rw [domT_no (t := .mk k' l' n' ts') hc] at hpre hrest
  simp only [List.append_nil] at hpre
  rw [← hpre, ← hrest]
  conv => whnf
  repeat ((first | (refine aI ?_ ?_; focus exact sI) | refine dI sK ?_ | (refine yI ?_ ?_; focus exact sY) | (refine nI ?_ ?_; focus exact sY)); conv => whnf)
  all_goals exact sR
end Go.Tr
/- The reference: closed. -/
namespace Go.Tr
open Go.Proofs
def lastB (l : List Int) (n : Int) : Bool := match l.getLast? with | some x => decide (x < n) | none => true
def closedF (t : Term) (n : Int) : Bool := decide ((conF 1 t).length = 0) && decide ((conF 3 t).length = 0) && lastB (conF 2 t) n
theorem last_row (C : List Int) : (C = [] ∧ ∀ n, lastB C n = true) ∨ ∃ x, C ≠ [] ∧ (rowI C)[C.length - 1]? = some [.int .i64 x] ∧ ∀ n, lastB C n = decide (x < n) := by
 rcases List.eq_nil_or_concat C with rfl | ⟨D, x, rfl⟩
 ·exact .inl ⟨rfl, fun n => rfl⟩
 ·refine .inr ⟨x, by simp, ?_, fun n => by simp [lastB]⟩
  exact rowI_at (by simp)
theorem cRClosed (t : Term) (n : Int) (hp : prop t = true) : CallSt Tryz.prog 97 [tv t, .c (.int .i64 (n))] [] (fun r H' => r = .c (.bool (closedF t n)) ∧ H' = []) := by
 have h1 := cRFree hp
 have h2 := cRCons hp
 have h3 := cRMetas hp
 have l1 := len_rowI (conF 1 t)
 have l2 := len_rowI (conF 2 t)
 have l3 := len_rowI (conF 3 t)
 have hb := conF_len 2 t
 unfold closedF
 generalize conF 1 t = A at *
 generalize conF 2 t = C at *
 generalize conF 3 t = B at *
 clear hp
 obtain ⟨k, l, m, ts⟩ := t
 rw [tv_mk] at *
 have eA : decide (A.length = 0) = decide (((rowI A).length : Int) = 0) := by rw [l1]; exact decide_eq_decide.2 (by omega)
 have eB : decide (B.length = 0) = decide (((rowI B).length : Int) = 0) := by rw [l3]; exact decide_eq_decide.2 (by omega)
 rw [eA, eB]
 refine call_pure (E := env 0) (fn := Tryz.f97) (c := bodyOf Tryz.f97) (env_ok 0) mixed sK sK sK sK sK sK rfl ?_
 conv => whnf
 try (refine dI sK ?_; conv => whnf)
 first | refine u0 h2 ?_ | refine v0 h2 ?_
 rintro _ _ ⟨rfl, rfl⟩ _
 conv => whnf
 try (refine dI sK ?_; conv => whnf)
 first | refine u0 h1 ?_ | refine v0 h1 ?_
 rintro _ _ ⟨rfl, rfl⟩ _
 conv => whnf
 intro _
 conv => whnf
 generalize decide (((rowI A).length : Int) = 0) = a
 cases a with
 | true =>
  (refine yI ?_ ?_; (focus exact sY); conv => whnf)
  try (refine dI sK ?_; conv => whnf)
  first | refine u0 h3 ?_ | refine v0 h3 ?_
  rintro _ _ ⟨rfl, rfl⟩ _
  conv => whnf
  intro _
  conv => whnf
  generalize decide (((rowI B).length : Int) = 0) = b
  intro _
  conv => whnf
  intro _
  conv => whnf
  refine ⟨fun _ => ⟨by omega, by omega⟩, ?_⟩
  conv => whnf
  rcases last_row C with ⟨rfl, hL⟩ | ⟨x, hC, hx, hL⟩
  ·refine ⟨[.int .i64 0], fun h => absurd h (by rw [show (rowI []).length = 0 from rfl]; simp), ?_⟩
   conv => whnf
   refine ⟨show 1 ≤ 1 by decide, ?_⟩
   conv => whnf
   rw [hL]
   refine ⟨rfl, rfl, ?_, rfl⟩
   cases b <;> rfl
  ·have hl : C.length ≠ 0 := fun h => hC (List.eq_nil_of_length_eq_zero h)
   refine ⟨[.int .i64 x], fun _ => ⟨by omega, ?_⟩, ?_⟩
   ·rw [show ((((rowI C).length : Int) - 1)).toNat = C.length - 1 by omega]; exact hx
   ·conv => whnf
    refine ⟨show 1 ≤ 1 by decide, ?_⟩
    conv => whnf
    rw [hL]
    refine ⟨rfl, rfl, ?_, rfl⟩
    rw [show decide (((rowI C).length : Int) = 0) = false from decide_eq_false (by omega)]
    cases b <;> rfl
 | false =>
  (refine nI ?_ ?_; (focus exact sY); conv => whnf)
  intro _
  conv => whnf
  intro _
  conv => whnf
  refine ⟨fun _ => ⟨by omega, by omega⟩, ?_⟩
  conv => whnf
  refine ⟨[.int .i64 0], fun h => absurd h (by simp), ?_⟩
  conv => whnf
  refine ⟨show 1 ≤ 1 by decide, ?_⟩
  conv => whnf
  repeat ((first | (refine aI ?_ ?_; focus exact sI) | refine dI sK ?_ | (refine yI ?_ ?_; focus exact sY) | (refine nI ?_ ?_; focus exact sY)); conv => whnf)
  all_goals exact sR
theorem cRFamily (l : List Dcl) (n : Int) (h0 : 0 ≤ n) (d : Dcl) (hd : l[n.toNat]? = some d) (hp : prop d.c = true) : CallSt Tryz.prog 91 [.c (.sl 6 72 (dcs l)), .c (.int .i64 (n))] [] (fun r H' => r = .c (.bool (kindT d.c)) ∧ H' = []) := by
 have hs := c33 d.c 1 (prop_fm1 hp) (by omega)
 have hc := dcs_at hd
 unfold kindT
 generalize domT d.c = p at *
 clear hp
 obtain ⟨L, ⟨k2, l2, n2, ts2⟩⟩ := p
 obtain ⟨s, ⟨k, m, x, ts⟩, i⟩ := d
 rw [tv_mk] at *
 dsimp only at *
 rw [tv_mk] at hs
 refine call_pure (E := env 0) (fn := Tryz.f91) (c := bodyOf Tryz.f91) (env_ok 0) mixed sK sK sK sK sK sK rfl ?_
 conv => whnf
 refine ⟨_, ⟨h0, hc⟩, ?_⟩
 conv => whnf
 refine ⟨show 4 ≤ 5 by decide, ?_⟩
 conv => whnf
 try (refine dI sK ?_; conv => whnf)
 first | refine u0 hs ?_ | refine v0 hs ?_
 rintro _ _ ⟨rfl, rfl⟩ _
 conv => whnf
 repeat ((first | (refine aI ?_ ?_; focus exact sI) | refine dI sK ?_ | (refine yI ?_ ?_; focus exact sY) | (refine nI ?_ ?_; focus exact sY)); conv => whnf)
 all_goals exact sR
end Go.Tr
/- closed is what the program asks of the nodes. -/
namespace Go.Tr
open Go.Proofs
mutual
def allT (p : Term → Int → Bool) : Term → Int → Bool
 | .mk k l n ts, i => p (.mk k l n ts) i && allL p k i 0 ts
def allL (p : Term → Int → Bool) (k i : Int) : Int → List Term → Bool
 | _, [] => true
 | j, t :: r => allT p t (i + unT k j) && allL p k i (j + 1) r
end
mutual
theorem allT_each (p : Term → Int → Bool) : ∀ (t : Term) (i : Int) (b : Bool), eachT (fun b t i => b && p t i) t i b = (b && allT p t i)
 | .mk k l n ts, i, b => by rw [eachT, allT, allL_each p k i ts 0, ← Bool.and_assoc]
theorem allL_each (p : Term → Int → Bool) (k i : Int) : ∀ (ts : List Term) (j : Int) (b : Bool), eachL (fun b t i => b && p t i) k i j ts b = (b && allL p k i j ts)
 | [], j, b => by rw [eachL, allL, Bool.and_true]
 | t :: r, j, b => by rw [eachL, allL, allT_each p t, allL_each p k i r, Bool.and_assoc]
end
mutual
theorem allT_and (p q : Term → Int → Bool) : ∀ (t : Term) (i : Int), allT (fun t i => p t i && q t i) t i = (allT p t i && allT q t i)
 | .mk k l n ts, i => by
  rw [allT, allT, allT, allL_and p q k i ts 0]
  generalize p _ i = a
  generalize q _ i = b
  generalize allL p k i 0 ts = c
  generalize allL q k i 0 ts = d
  cases a <;> cases b <;> cases c <;> cases d <;> rfl
theorem allL_and (p q : Term → Int → Bool) (k i : Int) : ∀ (ts : List Term) (j : Int), allL (fun t i => p t i && q t i) k i j ts = (allL p k i j ts && allL q k i j ts)
 | [], j => by rw [allL, allL, allL, Bool.and_true]
 | t :: r, j => by
  rw [allL, allL, allL, allT_and p q t, allL_and p q k i r]
  generalize allT p t _ = a
  generalize allT q t _ = b
  generalize allL p k i (j + 1) r = c
  generalize allL q k i (j + 1) r = d
  cases a <;> cases b <;> cases c <;> cases d <;> rfl
end
mutual
theorem allT_congr {p q : Term → Int → Bool} (h : ∀ t i, p t i = q t i) : ∀ (t : Term) (i : Int), allT p t i = allT q t i
 | .mk k l n ts, i => by rw [allT, allT, h, allL_congr h k i ts 0]
theorem allL_congr {p q : Term → Int → Bool} (h : ∀ t i, p t i = q t i) (k i : Int) : ∀ (ts : List Term) (j : Int), allL p k i j ts = allL q k i j ts
 | [], j => by rw [allL, allL]
 | t :: r, j => by rw [allL, allL, allT_congr h t, allL_congr h k i r]
end
mutual
theorem allT_imp {p q : Term → Int → Bool} (h : ∀ t i, p t i = true → q t i = true) : ∀ (t : Term) (i : Int), allT p t i = true → allT q t i = true
 | .mk k l n ts, i, ha => by
  rw [allT, Bool.and_eq_true] at ha ⊢
  exact ⟨h _ _ ha.1, allL_imp h k i ts 0 ha.2⟩
theorem allL_imp {p q : Term → Int → Bool} (h : ∀ t i, p t i = true → q t i = true) (k i : Int) : ∀ (ts : List Term) (j : Int), allL p k i j ts = true → allL q k i j ts = true
 | [], j, _ => by rw [allL]
 | t :: r, j, ha => by
  rw [allL, Bool.and_eq_true] at ha ⊢
  exact ⟨allT_imp h t _ ha.1, allL_imp h k i r (j + 1) ha.2⟩
end
mutual
theorem nodesT_all (m : Int) : ∀ (t : Term) (i : Int), nodesT m t i = allT (fun t i => !decide (t.k = 4) || nodeOk m t i) t i
 | .mk k l n ts, i => by rw [nodesT, allT, nodesL_all m k i ts 0]; rfl
theorem nodesL_all (m k i : Int) : ∀ (ts : List Term) (j : Int), nodesL m k i j ts = allL (fun t i => !decide (t.k = 4) || nodeOk m t i) k i j ts
 | [], j => by rw [nodesL, allL]
 | t :: r, j => by rw [nodesL, allL, nodesT_all m t, nodesL_all m k i r]
end
def hdOk (hd : Int) (P : Int → Bool) (t : Term) (i : Int) : Bool := match decide (t.k = 4) && decide (t.l = hd) with
 | true => (match !decide (hd = 1) with | true => P t.n | false => (match decide (i ≤ t.n) with | true => P (t.n - i) | false => true))
 | false => true
theorem heads_all (hd : Int) (P : Int → Bool) (t : Term) : (∀ x ∈ headsT hd t 0 [], P x = true) ↔ allT (hdOk hd P) t 0 = true := by
 have h := eachT_rel (fun (L : List Int) (b : Bool) => (∀ x ∈ L, P x = true) ↔ b = true) (hdStep hd) (fun b t i => b && hdOk hd P t i) (fun _ _ => True) (fun _ _ _ _ _ _ => trivial)
  (fun L b t i _ hr => by
   unfold hdStep hdOk
   have put : ∀ y, (∀ x ∈ putI L y, P x = true) ↔ (b && P y) = true := fun y => by
    rw [Bool.and_eq_true, ← hr]
    constructor
    ·exact fun h => ⟨fun x hx => h x ((putI_mem L y x).2 (.inr hx)), h y ((putI_mem L y y).2 (.inl rfl))⟩
    ·rintro ⟨h1, h2⟩ x hx
     rcases (putI_mem L y x).1 hx with rfl | hx
     ·exact h2
     ·exact h1 x hx
   have stay : (∀ x ∈ L, P x = true) ↔ (b && true) = true := by rw [Bool.and_true]; exact hr
   cases decide (t.k = 4) && decide (t.l = hd) with
   | false => exact stay
   | true =>
    cases !decide (hd = 1) with
    | true => exact put _
    | false =>
     cases decide (i ≤ t.n) with
     | true => exact put _
     | false => exact stay) t 0 [] true trivial (by simp)
 rw [headsT_each, h, allT_each, Bool.true_and]
theorem con_all (hd : Int) (P : Int → Bool) {t : Term} (hp : prop t = true) : (∀ x ∈ conF hd t, P x = true) ↔ allT (hdOk hd P) t 0 = true := by
 unfold conF
 rw [hp]
 exact heads_all hd P t
theorem con_sorted (hd : Int) {t : Term} (hp : prop t = true) : (conF hd t).Pairwise (· < ·) := by
 unfold conF
 rw [hp]
 exact (rel_all hd t (prop_ok hp)).1
theorem lastB_all : ∀ {l : List Int}, l.Pairwise (· < ·) → ∀ n, lastB l n = true ↔ ∀ x ∈ l, x < n := by
 intro l hl n
 rcases List.eq_nil_or_concat l with rfl | ⟨D, y, rfl⟩
 ·simp [lastB]
 ·have e : lastB (D.concat y) n = decide (y < n) := by simp [lastB]
  rw [e, decide_eq_true_eq]
  have hp := List.pairwise_append.1 (by simpa using hl)
  constructor
  ·intro h x hx
   simp only [List.concat_eq_append, List.mem_append, List.mem_singleton] at hx
   rcases hx with hx | rfl
   ·have := hp.2.2 x hx y (by simp)
    omega
   ·exact h
  ·exact fun h => h y (by simp)
theorem nil_all {l : List Int} : decide (l.length = 0) = true ↔ ∀ x ∈ l, (fun _ => false) x = true := by
 rw [decide_eq_true_eq, List.length_eq_zero_iff]
 constructor
 ·rintro rfl x hx
  cases hx
 ·intro h
  cases l with
  | nil => rfl
  | cons a r => exact absurd (h a (by simp)) (by simp)
theorem closed_law {t : Term} (hp : prop t = true) (n : Int) : closedF t n = nodesT n t 0 := by
 rw [Bool.eq_iff_iff]
 unfold closedF
 rw [Bool.and_eq_true, Bool.and_eq_true, nil_all, nil_all, con_all 1 _ hp, con_all 3 _ hp, lastB_all (con_sorted 2 hp),
  show (∀ x ∈ conF 2 t, x < n) ↔ (∀ x ∈ conF 2 t, (fun x => decide (x < n)) x = true) from by simp, con_all 2 _ hp,
  ← Bool.and_eq_true, ← Bool.and_eq_true, ← allT_and, ← allT_and, nodesT_all]
 rw [allT_congr (q := fun t i => !decide (t.k = 4) || nodeOk n t i)]
 intro t i
 unfold hdOk nodeOk
 by_cases h4 : t.k = 4
 ·by_cases h1 : t.l = 1
  ·simp [h4, h1]
   by_cases h : i ≤ t.n
   ·simp [h]
   ·simp [h]; omega
  ·by_cases h3 : t.l = 3
   ·simp [h4, h3]
   ·by_cases h2 : t.l = 2
    ·simp [h4, h2]
    ·simp [h4, h1, h2, h3]
 ·simp [h4]
end Go.Tr
/- The reference: formed, Formed. -/
namespace Go.Tr
open Go.Proofs
def nameIn (l : List Dcl) (s : ByteArray) : Bool := l.any fun e => decide (e.s = s)
theorem nameIn_no {l : List Dcl} {s : ByteArray} (h : ∀ (i : Nat) e, l[i]? = some e → ¬ e.s = s) : nameIn l s = false := by
 unfold nameIn
 rw [List.any_eq_false]
 intro e he
 obtain ⟨i, hi⟩ := List.mem_iff_getElem?.1 he
 simpa using h i e hi
theorem nameIn_yes {l : List Dcl} {s : ByteArray} {i : Nat} {e : Dcl} (hi : l[i]? = some e) (h : e.s = s) : nameIn l s = true := by
 unfold nameIn
 rw [List.any_eq_true]
 exact ⟨e, List.mem_of_getElem? hi, by simpa using h⟩
theorem namesOf_in (l : List Dcl) (s : ByteArray) : (namesOf l (.s s)).getD false = nameIn l s := by
 unfold namesOf nameIn
 simp only
 split <;> simp_all
def formedR (B : List Dcl) (d : Dcl) : Bool := !nameIn B d.s && formedF B d
theorem cRFormed1 (B : List Dcl) (hB : ∀ e ∈ B, prop e.c = true) (hBl : B.length ≤ 1000) (d : Dcl) : CallSt Tryz.prog 68 [.c (.sl 6 72 (dcs B)), dv d] [] (fun r H' => r = .c (.bool (formedR B d)) ∧ H' = []) := by
 have h16 := c16 d.c
 rw [← prop_rprop] at h16
 have hnm : CallSt Tryz.prog 96 [.c (.str d.s)] [] (fun r H' => r = .c (.bool (nameF d.s)) ∧ H' = []) := cRIsNameS d.s
 have hbl := len_dcs B
 cases hn : nameF d.s with
 | false =>
  rw [show formedR B d = false by simp [formedR, formedF, hn]]
  rw [hn] at hnm
  obtain ⟨s, ⟨k, l, n, ts⟩, i⟩ := d
  refine call_pure (E := env 0) (fn := Tryz.f68) (c := bodyOf Tryz.f68) (env_ok 0) mixed sK sK sK sK sK sK rfl ?_
  conv => whnf
  try (refine dI sK ?_; conv => whnf)
  first | refine u0 hnm ?_ | refine v0 hnm ?_
  rintro _ _ ⟨rfl, rfl⟩ _
  conv => whnf
  repeat ((first | (refine aI ?_ ?_; focus exact sI) | refine dI sK ?_ | (refine yI ?_ ?_; focus exact sY) | (refine nI ?_ ?_; focus exact sY) | intro _); conv => whnf)
  all_goals exact sR
 | true =>
 rw [hn] at hnm
 cases hp : prop d.c with
 | false =>
  rw [show formedR B d = false by simp [formedR, formedF, hp]]
  rw [hp] at h16
  clear hp
  obtain ⟨s, ⟨k, l, n, ts⟩, i⟩ := d
  rw [tv_mk] at h16
  refine call_pure (E := env 0) (fn := Tryz.f68) (c := bodyOf Tryz.f68) (env_ok 0) mixed sK sK sK sK sK sK rfl ?_
  conv => whnf
  try (refine dI sK ?_; conv => whnf)
  first | refine u0 hnm ?_ | refine v0 hnm ?_
  rintro _ _ ⟨rfl, rfl⟩ _
  conv => whnf
  repeat ((first | (refine aI ?_ ?_; focus exact sI) | refine dI sK ?_ | (refine yI ?_ ?_; focus exact sY) | (refine nI ?_ ?_; focus exact sY)); conv => whnf)
  try (refine dI sK ?_; conv => whnf)
  first | refine u0 h16 ?_ | refine v0 h16 ?_
  rintro _ _ ⟨rfl, rfl⟩ _
  conv => whnf
  repeat ((first | (refine aI ?_ ?_; focus exact sI) | refine dI sK ?_ | (refine yI ?_ ?_; focus exact sY) | (refine nI ?_ ?_; focus exact sY) | intro _); conv => whnf)
  all_goals exact sR
 | true =>
 rw [hp] at h16
 have hcl := cRClosed d.c B.length hp
 rw [closed_law hp] at hcl
 cases hc : nodesT B.length d.c 0 with
 | false =>
  rw [show formedR B d = false by simp [formedR, formedF, hc]]
  rw [hc] at hcl
  clear hc hp
  obtain ⟨s, ⟨k, l, n, ts⟩, i⟩ := d
  rw [tv_mk] at h16 hcl
  rw [← hbl] at hcl
  refine call_pure (E := env 0) (fn := Tryz.f68) (c := bodyOf Tryz.f68) (env_ok 0) mixed sK sK sK sK sK sK rfl ?_
  conv => whnf
  try (refine dI sK ?_; conv => whnf)
  first | refine u0 hnm ?_ | refine v0 hnm ?_
  rintro _ _ ⟨rfl, rfl⟩ _
  conv => whnf
  repeat ((first | (refine aI ?_ ?_; focus exact sI) | refine dI sK ?_ | (refine yI ?_ ?_; focus exact sY) | (refine nI ?_ ?_; focus exact sY)); conv => whnf)
  try (refine dI sK ?_; conv => whnf)
  first | refine u0 h16 ?_ | refine v0 h16 ?_
  rintro _ _ ⟨rfl, rfl⟩ _
  conv => whnf
  repeat ((first | (refine aI ?_ ?_; focus exact sI) | refine dI sK ?_ | (refine yI ?_ ?_; focus exact sY) | (refine nI ?_ ?_; focus exact sY) | intro _); conv => whnf)
  try (refine dI sK ?_; conv => whnf)
  first | refine u0 hcl ?_ | refine v0 hcl ?_
  rintro _ _ ⟨rfl, rfl⟩ _
  conv => whnf
  repeat ((first | (refine aI ?_ ?_; focus exact sI) | refine dI sK ?_ | (refine yI ?_ ?_; focus exact sY) | (refine nI ?_ ?_; focus exact sY) | intro _); conv => whnf)
  all_goals exact sR
 | true =>
 rw [hc] at hcl
 have hs := c33 d.c 1 (prop_fm1 hp) (by omega)
 have hdl := dom_len d.c 1 (prop_fm1 hp)
 have hR : formedR B d = (!nameIn B d.s && (decide (0 ≤ d.i) && decide (d.i ≤ (domT d.c).1.length) && (kindT d.c || (targOk d.c && kindAt B (domT d.c).2.n)))) := by simp [formedR, formedF, hn, hp, hc]
 have hn0 := @targ_pos d.c hp
 have hn1 := @nodes_targ _ _ hc
 have hkat : ∀ e : Dcl, B[(domT d.c).2.n.toNat]? = some e → kindAt B (domT d.c).2.n = kindT e.c := fun e he => by unfold kindAt; rw [he]
 rw [hR]
 clear hR hc
 unfold kindT targOk at *
 generalize kindAt B (domT d.c).2.n = A at *
 generalize domT d.c = p at *
 clear hp hn
 obtain ⟨L, ⟨k2, l2, n2, ts2⟩⟩ := p
 obtain ⟨s, ⟨k, l, n, ts⟩, i⟩ := d
 dsimp only [Term.k, Term.l, Term.n, Term.ts] at *
 have hln := len_tcs L
 rw [tv_mk] at h16 hcl hs
 rw [tv_mk] at hs
 rw [← hbl] at hcl
 refine call_pure (E := env 0) (fn := Tryz.f68) (c := bodyOf Tryz.f68) (env_ok 0) mixed sK sK sK sK sK sK rfl ?_
 conv => whnf
 try (refine dI sK ?_; conv => whnf)
 first | refine u0 hnm ?_ | refine v0 hnm ?_
 rintro _ _ ⟨rfl, rfl⟩ _
 conv => whnf
 repeat ((first | (refine aI ?_ ?_; focus exact sI) | refine dI sK ?_ | (refine yI ?_ ?_; focus exact sY) | (refine nI ?_ ?_; focus exact sY)); conv => whnf)
 try (refine dI sK ?_; conv => whnf)
 first | refine u0 h16 ?_ | refine v0 h16 ?_
 rintro _ _ ⟨rfl, rfl⟩ _
 conv => whnf
 repeat ((first | (refine aI ?_ ?_; focus exact sI) | refine dI sK ?_ | (refine yI ?_ ?_; focus exact sY) | (refine nI ?_ ?_; focus exact sY) | intro _); conv => whnf)
 try (refine dI sK ?_; conv => whnf)
 first | refine u0 hcl ?_ | refine v0 hcl ?_
 rintro _ _ ⟨rfl, rfl⟩ _
 conv => whnf
 repeat ((first | (refine aI ?_ ?_; focus exact sI) | refine dI sK ?_ | (refine yI ?_ ?_; focus exact sY) | (refine nI ?_ ?_; focus exact sY) | intro _); conv => whnf)
 refine loop_intro (fun m tm H => ∃ j : Nat, B.length = m + j ∧ (∀ (q : Nat) e, q < j → B[q]? = some e → ¬ e.s = s) ∧
   tm = [(29, .c (.int .i64 (j))), (28, .c (.int .i64 ((dcs B).length))), (27, .c (.sl 6 72 (dcs B))), (0, .c (.sl 6 72 (dcs B))), (3, .ptr 0 0)] ∧ H = [.box [.c (.str s), .c (.int .i64 (k)), .c (.int .i64 (l)), .c (.int .i64 (n)), .c (.sl 4 48 (tcs ts)), .c (.int .i64 (i))]])
   B.length _ _ ⟨0, by omega, fun q e hq => absurd hq (by omega), rfl, rfl⟩ (Wk.sl [0] rfl ⟨rfl, trivial⟩ ⟨rfl, rfl, rfl, rfl, rfl, trivial⟩ rfl) ?_
 rintro m tm H ⟨j, hj, hall, rfl, rfl⟩
 conv => whnf
 refine ⟨fun hlt => ?_, fun hlt => ?_⟩
 ·replace hlt : (j : Int) < (dcs B).length := of_decide_eq_true hlt
  obtain ⟨e, he⟩ : ∃ e, B[j]? = some e := ⟨B[j]'(by omega), List.getElem?_eq_getElem (by omega)⟩
  have hec := dcs_at he
  have hno : ∀ b, b = decide (e.s = s) → b = false → ∀ (q : Nat) x, q < j + 1 → B[q]? = some x → ¬ x.s = s := fun b hb hf q x hq hx => by
   by_cases hqj : q < j
   ·exact hall q x hqj hx
   ·obtain rfl : q = j := by omega
    rw [he] at hx
    injection hx with hx
    subst hx
    exact of_decide_eq_false (hb ▸ hf)
  have hyes : e.s = s → nameIn B s = true := fun h => nameIn_yes he h
  obtain ⟨s', ⟨k', l', n', us⟩, i'⟩ := e
  conv => whnf
  refine ⟨_, ⟨by omega, hec⟩, ?_⟩
  conv => whnf
  refine ⟨show 6 ≤ 6 by decide, ?_⟩
  conv => whnf
  refine ⟨fun hsq => ?_, fun hsq => ?_⟩
  ·rw [hyes (of_decide_eq_true hsq)]
   repeat ((first | (refine aI ?_ ?_; focus exact sI) | refine dI sK ?_ | (refine yI ?_ ?_; focus exact sY) | (refine nI ?_ ?_; focus exact sY) | intro _); conv => whnf)
   all_goals exact sR
  ·conv => whnf
   refine ⟨⟨by omega, by omega⟩, ?_⟩
   conv => whnf
   exact ⟨m - 1, _, _, by omega, ⟨j + 1, by omega, hno _ rfl hsq, rfl, rfl⟩, Wk.sl [0] rfl ⟨rfl, trivial⟩ ⟨rfl, rfl, rfl, rfl, rfl, trivial⟩ rfl⟩
 ·replace hlt : ¬ (j : Int) < (dcs B).length := of_decide_eq_false hlt
  rw [nameIn_no (fun q e he => hall q e (by have := (List.getElem?_eq_some_iff.1 he).1; omega) he)]
  conv => whnf
  try (refine dI sK ?_; conv => whnf)
  first | refine u0 hs ?_ | refine v0 hs ?_
  rintro _ _ ⟨rfl, rfl⟩ _
  conv => whnf
  refine ⟨fun hg => ?_, fun hg => ?_⟩
  ·have hg' : (decide (k2 = 4) && decide (l2 = 2)) = true := by simpa using hg
   have g0 := hn0 hg'
   have g1 := hn1 hg'
   obtain ⟨e, he⟩ : ∃ e, B[n2.toNat]? = some e := ⟨B[n2.toNat]'(by omega), List.getElem?_eq_getElem (by omega)⟩
   have hf := cRFamily B n2 g0 e he (hB e (List.mem_of_getElem? he))
   have hA : A = kindT e.c := hkat e he
   rw [← hA] at hf
   have h4 : k2 = 4 := by simp at hg'; exact hg'.1
   have h2 : l2 = 2 := by simp at hg'; exact hg'.2
   subst h4 h2
   clear hkat hA hn0 hn1 hg hg' hB
   conv => whnf
   try (refine dI sK ?_; conv => whnf)
   first | refine u0 hf ?_ | refine v0 hf ?_
   rintro _ _ ⟨rfl, rfl⟩ _
   conv => whnf
   cases A with
   | false =>
    repeat ((first | (refine aI ?_ ?_; focus exact sI) | refine dI sK ?_ | (refine yI ?_ ?_; focus exact sY) | (refine nI ?_ ?_; focus exact sY) | intro _); conv => whnf)
    refine ⟨congrArg (fun z => AV.c (.bool z)) ?_, rfl⟩
    simp
   | true =>
    repeat ((first | (refine aI ?_ ?_; focus exact sI) | refine dI sK ?_ | (refine yI ?_ ?_; focus exact sY) | (refine nI ?_ ?_; focus exact sY) | intro _); conv => whnf)
    refine ⟨congrArg (fun z => AV.c (.bool z)) ?_, rfl⟩
    rw [hln]
    simp
  ·have hg' : (decide (k2 = 4) && decide (l2 = 2)) = false := by simpa using hg
   rw [Bool.and_eq_false_iff, decide_eq_false_iff_not, decide_eq_false_iff_not] at hg'
   conv => whnf
   refine ⟨fun hc => ?_, fun hc => ?_⟩
   ·conv => whnf
    simp at hc
    have h2 : ¬ l2 = 2 := hg'.resolve_left (fun h => h hc)
    refine ⟨rfl, rfl, congrArg (fun z => AV.c (.bool z)) ?_, rfl⟩
    simp [hc, h2]
   ·conv => whnf
    simp at hc
    repeat ((first | (refine aI ?_ ?_; focus exact sI) | refine dI sK ?_ | (refine yI ?_ ?_; focus exact sY) | (refine nI ?_ ?_; focus exact sY) | intro _); conv => whnf)
    refine ⟨congrArg (fun z => AV.c (.bool z)) ?_, rfl⟩
    rw [hln]
    by_cases h1 : k2 = 1
    ·simp [h1]
    ·simp [hc, h1]
theorem good_formed (sig : List Dcl) {n : Nat} {d : Dcl} (h : sig[n]? = some d) : goodD sig n = formedR (sig.take n) d := by
 unfold goodD formedR
 rw [h]
 simp only
 rw [namesOf_in]
theorem dcs_take' (sig : List Dcl) (n : Nat) : ((dcs sig).take ((n : Int).toNat)).drop (Int.toNat 0) = dcs (sig.take n) := by
 have h1 : (Int.toNat 0) = 0 := rfl
 rw [Int.toNat_natCast, h1, List.drop_zero]
 simp [dcs]
theorem cRFormed (sig : List Dcl) : CallSt Tryz.prog 33 [.c (.sl 6 72 (dcs sig))] [] (fun r H' => r = .c (.bool (checkB sig)) ∧ H' = []) := by
 have hbl := len_dcs sig
 by_cases hs : sig.length ≤ 100
 ·have hcb : checkB sig = (List.range sig.length).all (goodD sig) := by unfold checkB; rw [decide_eq_true hs, Bool.true_and]
  rw [hcb]
  refine call_pure (E := env 0) (fn := Tryz.f33) (c := bodyOf Tryz.f33) (env_ok 0) mixed sK sK sK sK sK sK rfl ?_
  conv => whnf
  refine loop_intro (fun m tm H => ∃ n : Nat, sig.length = m + n ∧ (∀ i, i < n → goodD sig i = true) ∧ tm = [(3, .c (.int .i64 (n))), (0, .c (.sl 6 72 (dcs sig)))] ∧ H = [])
   sig.length _ _ ⟨0, by omega, fun i hi => absurd hi (by omega), rfl, rfl⟩ (Wk.sl [] rfl trivial ⟨rfl, rfl, trivial⟩ rfl) ?_
  rintro m tm H ⟨n, hm, hall, rfl, rfl⟩
  conv => whnf
  intro _
  conv => whnf
  intro _
  conv => whnf
  refine ⟨fun hlt => ?_, fun hlt => ?_⟩
  ·have hlt' : (n : Int) < (dcs sig).length := by simp at hlt; omega
   obtain ⟨d, hd⟩ : ∃ d, sig[n]? = some d := ⟨sig[n]'(by omega), List.getElem?_eq_getElem (by omega)⟩
   have hdc := dcs_at hd
   have hf := cRFormed1 (sig.take n) (good_prop hall) (by simp; omega) d
   rw [← good_formed sig hd, ← dcs_take'] at hf
   have hno : goodD sig n = false → (List.range sig.length).all (goodD sig) = false := fun h => by
    rw [List.all_eq_false]
    exact ⟨n, by simp; omega, by rw [h]; simp⟩
   have hnx : goodD sig n = true → ∀ i, i < n + 1 → goodD sig i = true := fun h i hi => by
    by_cases hij : i < n
    ·exact hall i hij
    ·obtain rfl : i = n := by omega
     exact h
   obtain ⟨s, ⟨k, l, x, ts⟩, i⟩ := d
   dsimp only [dv, Term.k, Term.l, Term.n, Term.ts] at hf
   conv => whnf
   refine draw_intro true (by kernel_rfl) ?_
   conv => whnf
   refine ⟨⟨by omega, by omega, by omega⟩, ?_⟩
   conv => whnf
   refine ⟨_, ⟨by omega, hdc⟩, ?_⟩
   conv => whnf
   refine ⟨show 6 ≤ 6 by decide, ?_⟩
   conv => whnf
   try (refine dI sK ?_; conv => whnf)
   first | refine u0 hf ?_ | refine v0 hf ?_
   rintro _ _ ⟨rfl, rfl⟩ _
   conv => whnf
   generalize goodD sig n = b at *
   cases b with
   | false =>
    rw [hno rfl]
    repeat ((first | (refine aI ?_ ?_; focus exact sI) | refine dI sK ?_ | (refine yI ?_ ?_; focus exact sY) | (refine nI ?_ ?_; focus exact sY) | intro _); conv => whnf)
    all_goals exact sR
   | true =>
    (refine nI ?_ ?_; (focus exact sY); conv => whnf)
    refine ⟨⟨by omega, by omega⟩, ?_⟩
    conv => whnf
    exact ⟨m - 1, _, _, by omega, ⟨n + 1, by omega, hnx rfl, rfl, rfl⟩, Wk.sl [] rfl trivial ⟨rfl, rfl, trivial⟩ rfl⟩
  ·have hge : ¬ (n : Int) < (dcs sig).length := fun h => by
    rw [decide_eq_true h, decide_eq_true (show ((dcs sig).length : Int) ≤ 100 by omega)] at hlt
    cases hlt
   have hall' : (List.range sig.length).all (goodD sig) = decide (((dcs sig).length : Int) ≤ 100) := by
    rw [decide_eq_true (show ((dcs sig).length : Int) ≤ 100 by omega), List.all_eq_true]
    intro i hi
    exact hall i (by simp at hi; omega)
   rw [hall']
   conv => whnf
   repeat ((first | (refine aI ?_ ?_; focus exact sI) | refine dI sK ?_ | (refine yI ?_ ?_; focus exact sY) | (refine nI ?_ ?_; focus exact sY) | intro _); conv => whnf)
   all_goals exact sR
 ·rw [show checkB sig = false by unfold checkB; rw [decide_eq_false hs]; rfl]
  refine call_pure (E := env 0) (fn := Tryz.f33) (c := bodyOf Tryz.f33) (env_ok 0) mixed sK sK sK sK sK sK rfl ?_
  conv => whnf
  refine loop_intro (fun m tm H => tm = [(3, .c (.int .i64 (0))), (0, .c (.sl 6 72 (dcs sig)))] ∧ H = []) 0 _ _ ⟨rfl, rfl⟩ (Wk.sl [] rfl trivial ⟨rfl, rfl, trivial⟩ rfl) ?_
  rintro m tm H ⟨rfl, rfl⟩
  conv => whnf
  intro _
  conv => whnf
  intro _
  conv => whnf
  refine ⟨fun hlt => ?_, fun hlt => ?_⟩
  ·exfalso
   simp at hlt
   omega
  ·conv => whnf
   intro _
   conv => whnf
   rw [show decide (((dcs sig).length : Int) ≤ 100) = false from decide_eq_false (by omega)]
   repeat ((first | (refine aI ?_ ?_; focus exact sI) | refine dI sK ?_ | (refine yI ?_ ?_; focus exact sY) | (refine nI ?_ ?_; focus exact sY) | intro _); conv => whnf)
   all_goals exact sR
end Go.Tr
/- has, Find, IsFamily, Head, Target of both sides. -/
namespace Go.Tr
open Go.Proofs
theorem check_len {sig : List Dcl} (h : checkB sig = true) : sig.length ≤ 100 := by
 unfold checkB at h
 rw [Bool.and_eq_true] at h
 exact of_decide_eq_true h.1
theorem check_good {sig : List Dcl} (h : checkB sig = true) : ∀ i, i < sig.length → goodD sig i = true := by
 unfold checkB at h
 rw [Bool.and_eq_true, List.all_eq_true] at h
 intro i hi
 exact h.2 i (by simpa using hi)
theorem check_prop {sig : List Dcl} (h : checkB sig = true) : ∀ e ∈ sig, prop e.c = true := by
 have := good_prop (n := sig.length) (check_good h)
 rwa [List.take_length] at this
end Go.Tr
/- IsFamily, Target, Of; the reference's Find, Has, IsFamily, Target, Of. -/
namespace Go.Tr
open Go.Proofs
end Go.Tr
/- The reference's Find, Has, IsFamily, Target, Of. -/
namespace Go.Tr
open Go.Proofs
theorem cRHas (sig : List Dcl) (n : Int) : CallSt Tryz.prog 54 [.c (.sl 6 72 (dcs sig)), .c (.int .i64 (n))] [] (fun r H' => r = .c (.bool (decide (0 ≤ n) && decide (n < sig.length))) ∧ H' = []) := by
 rw [← len_dcs sig]
 refine call_pure (E := env 0) (fn := Tryz.f54) (c := bodyOf Tryz.f54) (env_ok 0) mixed sK sK sK sK sK sK rfl ?_
 conv => whnf
 repeat ((first | (refine aI ?_ ?_; focus exact sI) | refine dI sK ?_ | (refine yI ?_ ?_; focus exact sY) | (refine nI ?_ ?_; focus exact sY) | intro _); conv => whnf)
 all_goals exact sR
theorem cRIsFamily (sig : List Dcl) (n : Int) (h0 : 0 ≤ n) (d : Dcl) (hd : sig[n.toNat]? = some d) (hp : prop d.c = true) : CallSt Tryz.prog 61 [.c (.sl 6 72 (dcs sig)), .c (.int .i64 (n))] [] (fun r H' => r = .c (.bool (kindT d.c)) ∧ H' = []) := by
 have hf := cRFamily sig n h0 d hd hp
 generalize kindT d.c = b at *
 refine call_pure (E := env 0) (fn := Tryz.f61) (c := bodyOf Tryz.f61) (env_ok 0) mixed sK sK sK sK sK sK rfl ?_
 conv => whnf
 try (refine dI sK ?_; conv => whnf)
 first | refine u0 hf ?_ | refine v0 hf ?_
 rintro _ _ ⟨rfl, rfl⟩ _
 conv => whnf
 repeat ((first | (refine aI ?_ ?_; focus exact sI) | refine dI sK ?_ | (refine yI ?_ ?_; focus exact sY) | (refine nI ?_ ?_; focus exact sY) | intro _); conv => whnf)
 all_goals exact sR
end Go.Tr
/- Levels. -/
namespace Go.Tr
open Go.Proofs
theorem fm_k {k l n d : Int} {ts : List Term} (h : fmT (.mk k l n ts) d = true) : k = 1 ∨ k = 2 ∨ k = 3 ∨ k = 4 := by
 rw [fmT, Bool.and_eq_true, Bool.and_eq_true] at h
 have h1 := h.1.2
 unfold fmB at h1
 by_cases e1 : k = 1
 ·exact .inl e1
 by_cases e2 : k = 2
 ·exact .inr (.inl e2)
 by_cases e3 : k = 3
 ·exact .inr (.inr (.inl e3))
 by_cases e4 : k = 4
 ·exact .inr (.inr (.inr e4))
 simp [e1, e2, e3, e4] at h1
theorem fm_lam {l n d : Int} {ts : List Term} (h : fmT (.mk 3 l n ts) d = true) : l = 0 ∧ n = 0 ∧ ∃ a, ts = [a] ∧ fmT a (d + 1) = true := by
 rw [fmT, Bool.and_eq_true, Bool.and_eq_true] at h
 obtain ⟨⟨_, h1⟩, h2⟩ := h
 unfold fmB at h1
 simp at h1
 rcases ts with _ | ⟨a, _ | ⟨b, r⟩⟩
 ·simp at h1
 ·refine ⟨by simp at h1; omega, by simp at h1; omega, a, rfl, ?_⟩
  rw [fmL, Bool.and_eq_true] at h2
  exact h2.1
 ·simp at h1
  omega
theorem fm_app {l n d : Int} {ts : List Term} (h : fmT (.mk 4 l n ts) d = true) : 1 ≤ l ∧ l ≤ 3 ∧ 0 ≤ n ∧ n ≤ 9999 := by
 rw [fmT, Bool.and_eq_true, Bool.and_eq_true] at h
 have h1 := h.1.2
 unfold fmB at h1
 simp at h1
 omega
end Go.Tr
/- The reference's put and apply. -/
namespace Go.Tr
open Go.Proofs
theorem appR_top {f : Int → Term → Term → Smp → SbR} (hf : ∀ s b y m u s', f s b y m = .ok u s' → s' ≤ 20000) : ∀ {r : List Term} {g : Term} {S : List Smp} {s : Int} {u : Term} {s' : Int}, s ≤ 20000 → appR f g r S s = .ok u s' → s' ≤ 20000
 | [], g, S, s, u, s', hs, h => by
  rw [appR] at h
  obtain ⟨_, _, h2⟩ := wholeR_ok h
  omega
 | x :: r, g, S, s, u, s', hs, h => by
  rw [appR_cons] at h
  split at h
  ·split at h
   ·cases h
   ·rename_i v s1 hv
    exact appR_top hf (hf _ _ _ _ _ _ hv) h
  ·cases h
theorem putArgs_top {f : Int → Term → Int → SbR} {k n : Int} (hf : ∀ s t n u s', f s t n = .ok u s' → s' ≤ 20000) : ∀ {ts : List Term} {i s : Int} {us : List Term} {s' : Int}, s ≤ 20000 → putArgs f k n i ts s = .ok us s' → s' ≤ 20000
 | [], i, s, us, s', hs, h => by
  rw [putArgs] at h
  cases h
  exact hs
 | t :: r, i, s, us, s', hs, h => by
  rw [putArgs] at h
  split at h
  ·cases h
  ·rename_i u s1 hu
   split at h
   ·cases h
   ·rename_i us2 s2 hus
    cases h
    exact putArgs_top hf (hf _ _ _ _ _ hu) hus
theorem putT_top : ∀ (g : Nat) {s : Int} {t : Term} {n : Int} {x : Term} {sm : Smp} {u : Term} {s' : Int}, putT g s t n x sm = .ok u s' → s' ≤ 20000
 | 0, s, t, n, x, sm, u, s', h => by
  rw [putT] at h
  cases h
 | g + 1, s, .mk k l m ts, n, x, sm, u, s', h => by
  have ih := @putT_top g
  rw [putT] at h
  split at h
  ·cases h
  ·rename_i hs
   have hs := of_decide_eq_false hs
   split at h
   ·cases h
   ·rename_i us s1 hus
    have h1 := putArgs_top (fun s t n u s' h => ih h) (by omega) hus
    split at h
    ·obtain ⟨_, _, h4⟩ := wholeR_ok h
     omega
    ·split at h
     ·obtain ⟨_, _, h4⟩ := wholeR_ok h
      omega
     ·split at h
      ·cases h
      ·exact appR_top (fun s b y m u s' h => ih h) h1 h
theorem appR_er {f : Int → Term → Term → Smp → SbR} (hf : ∀ s b y m e, f s b y m = .er e → e ≠ 0) : ∀ {r : List Term} {g : Term} {S : List Smp} {s : Int} {e : Int}, appR f g r S s = .er e → e ≠ 0
 | [], g, S, s, e, h => by
  rw [appR] at h
  unfold wholeR at h
  split at h
  ·cases h
  ·cases h; decide
 | x :: r, g, S, s, e, h => by
  rw [appR_cons] at h
  split at h
  ·split at h
   ·rename_i e' he
    cases h
    exact hf _ _ _ _ _ he
   ·exact appR_er hf h
  ·cases h; decide
theorem putArgs_er {f : Int → Term → Int → SbR} {k n : Int} (hf : ∀ s t n e, f s t n = .er e → e ≠ 0) : ∀ {ts : List Term} {i s : Int} {e : Int}, putArgs f k n i ts s = .er e → e ≠ 0
 | [], i, s, e, h => by
  rw [putArgs] at h
  cases h
 | t :: r, i, s, e, h => by
  rw [putArgs] at h
  split at h
  ·rename_i e' he
   cases h
   exact hf _ _ _ _ he
  ·split at h
   ·rename_i e' he
    cases h
    exact putArgs_er hf he
   ·cases h
theorem wholeR_er {t : Term} {s e : Int} (h : wholeR t s = .er e) : e ≠ 0 := by
 unfold wholeR at h
 split at h
 ·cases h
 ·cases h; decide
theorem putT_er : ∀ (g : Nat) {s : Int} {t : Term} {n : Int} {x : Term} {sm : Smp} {e : Int}, putT g s t n x sm = .er e → e ≠ 0
 | 0, s, t, n, x, sm, e, h => by
  rw [putT] at h
  cases h
  decide
 | g + 1, s, .mk k l m ts, n, x, sm, e, h => by
  have ih := @putT_er g
  rw [putT] at h
  split at h
  ·cases h; decide
  ·split at h
   ·rename_i e' he
    cases h
    exact putArgs_er (fun s t n e h => ih h) he
   ·split at h
    ·exact wholeR_er h
    ·split at h
     ·exact wholeR_er h
     ·split at h
      ·cases h; decide
      ·exact appR_er (fun s b y m e h => ih h) h
abbrev cnH (s : Int) : HP := [.box [.c (.int .i64 (s))]]
def PutOk (P : Program) (f : FuncId) (g : Nat) : Prop := ∀ (s : Int) (t : Term) (d n : Int) (x : Term) (sm : Smp), 0 ≤ s → s ≤ 20000 → 20000 < s + g → fmT t d = true → 0 ≤ d → 0 ≤ n → n ≤ 9998 + d → prop x = true →
 CallSt P f [.ptr 0 0, tv t, .c (.int .i64 (n)), tv x, sv sm] (cnH s) (fun r H' => SbP r H' cnH (putT g s t n x sm))
theorem SbP_open {r : AV} {H : HP} {R : SbR} (h : SbP r H cnH R) : ∃ t e s, (r = .tup [tv t, .c (.int .i64 (e))] ∧ H = cnH s) ∧ SbP (.tup [tv t, .c (.int .i64 (e))]) (cnH s) cnH R := by
 cases R with
 | er e =>
  obtain ⟨rfl, s2, rfl⟩ := h
  exact ⟨zT, e, s2, ⟨rfl, rfl⟩, rfl, s2, rfl⟩
 | ok t s2 =>
  obtain ⟨rfl, rfl⟩ := h
  exact ⟨t, 0, s2, ⟨rfl, rfl⟩, rfl, rfl⟩
theorem prop_lam {t : Term} (hp : prop t = true) (hk : t.k = 3) : ∃ b, t.ts = [b] ∧ fmT b 2 = true := by
 obtain ⟨k, l, n, ts⟩ := t
 replace hk : k = 3 := hk
 subst hk
 obtain ⟨_, _, b, rfl, hb⟩ := fm_lam (prop_fm1 hp)
 exact ⟨b, rfl, hb⟩
theorem cRApply (g : Nat) (hput : PutOk Tryz.prog 51 g) : ∀ (l : List Term) (u : Term) (sm : Smp) (s : Int), prop u = true → (∀ y ∈ l, prop y = true) → 0 ≤ s → s ≤ 20000 → 20000 < s + g →
  CallSt Tryz.prog 85 [.ptr 0 0, tv u, .c (.sl 4 48 (tcs l)), sv sm] (cnH s) (fun r H' => SbP r H' cnH (appR (fun s b y sm => putT g s b 0 y sm) u l sm.xs s)) := by
 intro l
 induction l with
 | nil =>
  intro u sm s hu _ _ _ _
  have hw := cRWhole u
  rw [hu] at hw
  rw [appR, wholeR, hu]
  show CallSt _ _ _ _ fun r H' => r = .tup [tv u, .c (.int .i64 (0))] ∧ H' = cnH s
  clear hu
  obtain ⟨k, l, n, ts⟩ := u
  obtain ⟨ys, c⟩ := sm
  rw [tv_mk, sv_mk] at *
  refine call_pure (E := envK 1) (fn := Tryz.f85) (c := bodyOf Tryz.f85) (envK_ok 1) mixed sK sK sK sK sK sK rfl ?_
  conv => whnf
  repeat ((first | (refine aI ?_ ?_; focus exact sI) | refine dI sK ?_ | (refine yI ?_ ?_; focus exact sY) | (refine nI ?_ ?_; focus exact sY) | intro _); conv => whnf)
  try (refine dI sK ?_; conv => whnf)
  first | refine u0 hw ?_ | refine v0 hw ?_
  rintro _ _ ⟨rfl, rfl⟩ _
  conv => whnf
  repeat ((first | (refine aI ?_ ?_; focus exact sI) | refine dI sK ?_ | (refine yI ?_ ?_; focus exact sY) | (refine nI ?_ ?_; focus exact sY) | intro _); conv => whnf)
  all_goals exact sR
 | cons x r ih =>
  intro u sm s hu hl hs0 hs1 hsg
  rw [appR_cons]
  obtain ⟨ys, c⟩ := sm
  rw [show (Smp.mk ys c).xs = ys from rfl]
  have el : decide (((tcs (x :: r)).length : Int) = 0) = false := decide_eq_false (by rw [len_tcs, List.length_cons]; omega)
  by_cases hk : u.k = 3
  ·obtain ⟨b, hb, hfb⟩ := prop_lam hu hk
   rw [decide_eq_true hk, hb]
   cases ys with
   | nil =>
    show CallSt _ _ _ _ fun r H' => r = .tup [tv zT, .c (.int .i64 (23))] ∧ ∃ s, H' = cnH s
    clear hfb hb hu ih
    obtain ⟨k, l, n, ts⟩ := u
    replace hk : k = 3 := hk
    subst hk
    rw [tv_mk, sv_mk]
    refine call_pure (E := envK 1) (fn := Tryz.f85) (c := bodyOf Tryz.f85) (envK_ok 1) mixed sK sK sK sK sK sK rfl ?_
    conv => whnf
    repeat ((first | (refine aI ?_ ?_; focus exact sI) | refine dI sK ?_ | (refine yI ?_ ?_; focus exact sY) | (refine nI ?_ ?_; focus exact sY) | intro _); conv => whnf)
    rw [el]
    (refine nI ?_ ?_; (focus exact sY); conv => whnf)
    repeat ((first | (refine aI ?_ ?_; focus exact sI) | refine dI sK ?_ | (refine yI ?_ ?_; focus exact sY) | (refine nI ?_ ?_; focus exact sY) | intro _); conv => whnf)
    first | exact ⟨rfl, s, rfl⟩ | exact ⟨s, rfl⟩
   | cons m S' =>
    have hpx := hl x (by simp)
    have hpt := hput s b 2 0 x m hs0 hs1 hsg hfb (by omega) (Int.le_refl 0) (by omega) hpx
    have htop := fun v s1 => @putT_top g s b 0 x m v s1
    have hok := fun v s1 => @putT_ok g s b 0 x m v s1
    have ih' := fun v s1 hv h1 h2 => ih v (.mk S' c) s1 hv (fun y hy => hl y (List.mem_cons_of_mem _ hy)) h1 h2
    simp only
    rw [show (Smp.mk S' c).xs = S' from rfl] at ih'
    cases hR : putT g s b 0 x m with
    | er e =>
     rw [hR] at hpt
     have he := putT_er g hR
     have ez : decide (e = 0) = false := decide_eq_false he
     show CallSt _ _ _ _ fun r H' => r = .tup [tv zT, .c (.int .i64 (e))] ∧ ∃ s, H' = cnH s
     replace hpt : CallSt Tryz.prog 51 [.ptr 0 0, tv b, .c (.int .i64 (0)), tv x, sv m] (cnH s) (fun r H' => r = .tup [tv zT, .c (.int .i64 (e))] ∧ ∃ s, H' = cnH s) := hpt
     clear hR htop hok ih' ih hput hpx hfb hu hl
     obtain ⟨k, l, n, ts⟩ := u
     replace hk : k = 3 := hk
     replace hb : ts = [b] := hb
     subst hk hb
     have hln : (1 : Int) ≤ ((tcs (x :: r)).length : Int) := by rw [len_tcs, List.length_cons]; omega
     have hls : (1 : Int) ≤ ((scs (m :: S')).length : Int) := by rw [len_scs, List.length_cons]; omega
     have ed1 : List.drop (Int.toNat 1) (List.take (((tcs (x :: r)).length : Int)).toNat (tcs (x :: r))) = tcs r := by rw [Int.toNat_natCast, List.take_length]; rfl
     have ed2 : List.drop (Int.toNat 1) (List.take (((scs (m :: S')).length : Int)).toNat (scs (m :: S'))) = scs S' := by rw [Int.toNat_natCast, List.take_length]; rfl
     have eS : (!decide ((3 : Int) = 3) || decide (((scs (m :: S')).length : Int) = 0)) = false := by
      rw [decide_eq_true rfl, decide_eq_false (by rw [len_scs, List.length_cons]; omega)]
      rfl
     obtain ⟨b1, b2, b3, b4⟩ := b
     obtain ⟨x1, x2, x3, x4⟩ := x
     obtain ⟨m1, m2⟩ := m
     rw [tv_mk, sv_mk]
     rw [tv_mk, tv_mk, sv_mk] at hpt
     refine call_pure (E := envK 1) (fn := Tryz.f85) (c := bodyOf Tryz.f85) (envK_ok 1) mixed sK sK sK sK sK sK rfl ?_
     conv => whnf
     repeat ((first | (refine aI ?_ ?_; focus exact sI) | refine dI sK ?_ | (refine yI ?_ ?_; focus exact sY) | (refine nI ?_ ?_; focus exact sY) | intro _); conv => whnf)
     rw [el]
     (refine nI ?_ ?_; (focus exact sY); conv => whnf)
     repeat ((first | (refine aI ?_ ?_; focus exact sI) | refine dI sK ?_ | (refine yI ?_ ?_; focus exact sY) | (refine nI ?_ ?_; focus exact sY) | intro _); conv => whnf)
     rw [eS]
     (refine ⟨fun h => absurd h (by simp), fun _ => ?_⟩; conv => whnf)
     repeat ((first | (refine aI ?_ ?_; focus exact sI) | refine dI sK ?_ | (refine yI ?_ ?_; focus exact sY) | (refine nI ?_ ?_; focus exact sY) | intro _); conv => whnf)
     refine ⟨_, ⟨by decide, rfl⟩, ?_⟩
     conv => whnf
     refine ⟨Nat.le_refl 4, ?_⟩
     conv => whnf
     repeat ((first | (refine aI ?_ ?_; focus exact sI) | refine dI sK ?_ | (refine yI ?_ ?_; focus exact sY) | (refine nI ?_ ?_; focus exact sY) | intro _); conv => whnf)
     refine ⟨_, ⟨by decide, rfl⟩, ?_⟩
     conv => whnf
     refine ⟨Nat.le_refl 4, ?_⟩
     conv => whnf
     repeat ((first | (refine aI ?_ ?_; focus exact sI) | refine dI sK ?_ | (refine yI ?_ ?_; focus exact sY) | (refine nI ?_ ?_; focus exact sY) | intro _); conv => whnf)
     refine ⟨_, ⟨by decide, rfl⟩, ?_⟩
     conv => whnf
     refine ⟨Nat.le_refl 2, ?_⟩
     conv => whnf
     (refine And.intro ?_ ?_ <;> conv => whnf)
     all_goals
      try (refine dI sK ?_; conv => whnf)
      first | refine CallSt.use hpt [0] ⟨rfl, trivial⟩ (by decide) rfl ?_ | refine CallPt.useS hpt [0] ⟨rfl, trivial⟩ (by decide) rfl ?_
      rintro _ _ ⟨rfl, s2, rfl⟩ _
      conv => whnf
      repeat ((first | (refine aI ?_ ?_; focus exact sI) | refine dI sK ?_ | (refine yI ?_ ?_; focus exact sY) | (refine nI ?_ ?_; focus exact sY) | intro _); conv => whnf)
      rw [ez]
      (refine yI ?_ ?_; (focus exact sY); conv => whnf)
      repeat ((first | (refine aI ?_ ?_; focus exact sI) | refine dI sK ?_ | (refine yI ?_ ?_; focus exact sY) | (refine nI ?_ ?_; focus exact sY) | intro _); conv => whnf)
      first | exact ⟨rfl, s2, rfl⟩ | exact ⟨s2, rfl⟩
    | ok v s1 =>
     have hv := (hok v s1 hR).1
     have hle := (hok v s1 hR).2
     have hto := htop v s1 hR
     have hnx := ih' v s1 hv (by omega) hto (by omega)
     show CallSt _ _ _ _ fun r0 H' => SbP r0 H' cnH (appR (fun s b y sm => putT g s b 0 y sm) v r S' s1)
     rw [hR] at hpt
     replace hpt : CallSt Tryz.prog 51 [.ptr 0 0, tv b, .c (.int .i64 (0)), tv x, sv m] (cnH s) (fun r H' => r = .tup [tv v, .c (.int .i64 (0))] ∧ H' = cnH s1) := hpt
     obtain ⟨A, hA⟩ : ∃ A, A = appR (fun s b y sm => putT g s b 0 y sm) v r S' s1 := ⟨_, rfl⟩
     rw [← hA] at hnx ⊢
     clear hA
     clear hR htop hok ih' ih hput hpx hfb hu hl hv hle hto
     obtain ⟨k, l, n, ts⟩ := u
     replace hk : k = 3 := hk
     replace hb : ts = [b] := hb
     subst hk hb
     have hln : (1 : Int) ≤ ((tcs (x :: r)).length : Int) := by rw [len_tcs, List.length_cons]; omega
     have hls : (1 : Int) ≤ ((scs (m :: S')).length : Int) := by rw [len_scs, List.length_cons]; omega
     have ed1 : List.drop (Int.toNat 1) (List.take (((tcs (x :: r)).length : Int)).toNat (tcs (x :: r))) = tcs r := by rw [Int.toNat_natCast, List.take_length]; rfl
     have ed2 : List.drop (Int.toNat 1) (List.take (((scs (m :: S')).length : Int)).toNat (scs (m :: S'))) = scs S' := by rw [Int.toNat_natCast, List.take_length]; rfl
     have eS : (!decide ((3 : Int) = 3) || decide (((scs (m :: S')).length : Int) = 0)) = false := by
      rw [decide_eq_true rfl, decide_eq_false (by rw [len_scs, List.length_cons]; omega)]
      rfl
     obtain ⟨b1, b2, b3, b4⟩ := b
     obtain ⟨x1, x2, x3, x4⟩ := x
     obtain ⟨m1, m2⟩ := m
     obtain ⟨v1, v2, v3, v4⟩ := v
     rw [tv_mk, sv_mk]
     rw [tv_mk, tv_mk, sv_mk, tv_mk] at hpt
     rw [tv_mk, sv_mk] at hnx
     refine call_pure (E := envK 1) (fn := Tryz.f85) (c := bodyOf Tryz.f85) (envK_ok 1) mixed sK sK sK sK sK sK rfl ?_
     conv => whnf
     repeat ((first | (refine aI ?_ ?_; focus exact sI) | refine dI sK ?_ | (refine yI ?_ ?_; focus exact sY) | (refine nI ?_ ?_; focus exact sY) | intro _); conv => whnf)
     rw [el]
     (refine nI ?_ ?_; (focus exact sY); conv => whnf)
     repeat ((first | (refine aI ?_ ?_; focus exact sI) | refine dI sK ?_ | (refine yI ?_ ?_; focus exact sY) | (refine nI ?_ ?_; focus exact sY) | intro _); conv => whnf)
     rw [eS]
     (refine ⟨fun h => absurd h (by simp), fun _ => ?_⟩; conv => whnf)
     repeat ((first | (refine aI ?_ ?_; focus exact sI) | refine dI sK ?_ | (refine yI ?_ ?_; focus exact sY) | (refine nI ?_ ?_; focus exact sY) | intro _); conv => whnf)
     refine ⟨_, ⟨by decide, rfl⟩, ?_⟩
     conv => whnf
     refine ⟨Nat.le_refl 4, ?_⟩
     conv => whnf
     repeat ((first | (refine aI ?_ ?_; focus exact sI) | refine dI sK ?_ | (refine yI ?_ ?_; focus exact sY) | (refine nI ?_ ?_; focus exact sY) | intro _); conv => whnf)
     refine ⟨_, ⟨by decide, rfl⟩, ?_⟩
     conv => whnf
     refine ⟨Nat.le_refl 4, ?_⟩
     conv => whnf
     repeat ((first | (refine aI ?_ ?_; focus exact sI) | refine dI sK ?_ | (refine yI ?_ ?_; focus exact sY) | (refine nI ?_ ?_; focus exact sY) | intro _); conv => whnf)
     refine ⟨_, ⟨by decide, rfl⟩, ?_⟩
     conv => whnf
     refine ⟨Nat.le_refl 2, ?_⟩
     conv => whnf
     (refine And.intro ?_ ?_ <;> conv => whnf)
     all_goals
      try (refine dI sK ?_; conv => whnf)
      first | refine CallSt.use hpt [0] ⟨rfl, trivial⟩ (by decide) rfl ?_ | refine CallPt.useS hpt [0] ⟨rfl, trivial⟩ (by decide) rfl ?_
      rintro _ _ ⟨rfl, rfl⟩ _
      conv => whnf
      repeat ((first | (refine aI ?_ ?_; focus exact sI) | refine dI sK ?_ | (refine yI ?_ ?_; focus exact sY) | (refine nI ?_ ?_; focus exact sY) | intro _); conv => whnf)
      rw [ed1, ed2]
      try (refine dI sK ?_; conv => whnf)
      first | refine CallSt.use hnx [0] ⟨rfl, trivial⟩ (by decide) rfl ?_ | refine CallPt.useS hnx [0] ⟨rfl, trivial⟩ (by decide) rfl ?_
      rintro _ _ hq _
      obtain ⟨t', e', s2, ⟨rfl, rfl⟩, hq⟩ := SbP_open hq
      obtain ⟨k4, l4, n4, us4⟩ := t'
      conv => whnf
      repeat ((first | (refine aI ?_ ?_; focus exact sI) | refine dI sK ?_ | (refine yI ?_ ?_; focus exact sY) | (refine nI ?_ ?_; focus exact sY) | intro _); conv => whnf)
      exact hq
  ·rw [decide_eq_false hk]
   show CallSt _ _ _ _ fun r H' => r = .tup [tv zT, .c (.int .i64 (23))] ∧ ∃ s, H' = cnH s
   clear hu ih
   obtain ⟨k, l, n, ts⟩ := u
   replace hk : ¬ k = 3 := hk
   have ek : decide (k = 3) = false := decide_eq_false hk
   rw [tv_mk, sv_mk]
   refine call_pure (E := envK 1) (fn := Tryz.f85) (c := bodyOf Tryz.f85) (envK_ok 1) mixed sK sK sK sK sK sK rfl ?_
   conv => whnf
   repeat ((first | (refine aI ?_ ?_; focus exact sI) | refine dI sK ?_ | (refine yI ?_ ?_; focus exact sY) | (refine nI ?_ ?_; focus exact sY) | intro _); conv => whnf)
   rw [el]
   (refine nI ?_ ?_; (focus exact sY); conv => whnf)
   repeat ((first | (refine aI ?_ ?_; focus exact sI) | refine dI sK ?_ | (refine yI ?_ ?_; focus exact sY) | (refine nI ?_ ?_; focus exact sY) | intro _); conv => whnf)
   rw [ek]
   (refine yI ?_ ?_; (focus exact sY); conv => whnf)
   repeat ((first | (refine aI ?_ ?_; focus exact sI) | refine dI sK ?_ | (refine yI ?_ ?_; focus exact sY) | (refine nI ?_ ?_; focus exact sY) | intro _); conv => whnf)
   first | exact ⟨rfl, s, rfl⟩ | exact ⟨s, rfl⟩
end Go.Tr
/- The reference's put. -/
namespace Go.Tr
open Go.Proofs
def tab4 : List (Nat × TyD) := (93, ⟨1, 8, .struct [(0, 3)], [.int .i64 0], [3]⟩) :: tab
def env4 (n : Nat) : Env := ⟨lkT tab4, keep, n, false, false, none, fun _ _ => none⟩
theorem env4_ok (n : Nat) : EnvOk Tryz.prog (env4 n) := EnvOk.of (l := tab4) rfl (by kernel_rfl)
theorem fmL_mem4 : ∀ (ts : List Term) (d : Int), fmL ts d = true → ∀ u ∈ ts, fmT u (d + 1) = true
 | t :: r, d, h, u, hu => by
  rw [fmL, Bool.and_eq_true] at h
  rcases List.mem_cons.1 hu with rfl | hu
  ·exact h.1
  ·exact fmL_mem4 r d h.2 u hu
def putEnd (g : Nat) (k l m n : Int) (x : Term) (sm : Smp) (us : List Term) (s1 : Int) : SbR := match decide (k = 4) && decide (l = 1) && decide (n ≤ m) with
 | false => wholeR (.mk k l m us) s1
 | true => (match decide (n < m) with
  | true => wholeR (.mk k l (m - 1) us) s1
  | false => (match prop (raisedT x n) with
   | false => .er 5
   | true => appR (fun s b y sm => putT g s b 0 y sm) (raisedT x n) us sm.xs s1))
theorem putT_succ (g : Nat) (s k l m : Int) (ts : List Term) (n : Int) (x : Term) (sm : Smp) : putT (g + 1) s (.mk k l m ts) n x sm = match decide (20000 < s + 1) with
 | true => .er 5
 | false => (match putArgs (fun s u n => putT g s u n x sm) k n 0 ts (s + 1) with
  | .er e => .er e
  | .ok us s1 => putEnd g k l m n x sm us s1) := by
 rw [putT]
 rfl
def consL (us : List Term) : SbL → SbL
 | .er e => .er e
 | .ok r s => .ok (us ++ r) s
theorem consL_nil (L : SbL) : consL [] L = L := by cases L <;> rfl
theorem whole2 (t : Term) (s : Int) : ∃ t' e', CallSt Tryz.prog 83 [tv t] [] (fun r H' => r = .tup [tv t', .c (.int .i64 (e'))] ∧ H' = []) ∧ SbP (.tup [tv t', .c (.int .i64 (e'))]) (cnH s) cnH (wholeR t s) := by
 have h := cRWhole t
 unfold wholeR
 cases hp : prop t with
 | true => rw [hp] at h; exact ⟨t, 0, h, rfl, rfl⟩
 | false => rw [hp] at h; exact ⟨zT, 5, h, rfl, s, rfl⟩
theorem consL_snoc (us : List Term) (v : Term) (L : SbL) : consL us (match L with | .er e => .er e | .ok r s => .ok (v :: r) s) = consL (us ++ [v]) L := by
 cases L with
 | er e => rfl
 | ok r s => simp [consL]
set_option maxHeartbeats 2000000 in
theorem cRPut : ∀ g, PutOk Tryz.prog 51 g
 | 0 => fun s t d n x sm hs0 hs1 hsg => absurd hsg (by omega)
 | g + 1 => by
  have hput := cRPut g
  have happ := cRApply g hput
  intro s t d n x sm hs0 hs1 hsg hft hd hn0 hn1 hpx
  obtain ⟨k, l, m, ts⟩ := t
  rw [putT_succ]
  cases hb : decide (20000 < s + 1) with
  | true =>
   show CallSt _ _ _ _ fun r H' => r = .tup [tv zT, .c (.int .i64 (5))] ∧ ∃ s, H' = cnH s
   obtain ⟨x1, x2, x3, x4⟩ := x
   obtain ⟨ys, c⟩ := sm
   rw [tv_mk, tv_mk, sv_mk]
   refine call_pure (E := env4 1) (fn := Tryz.f51) (c := bodyOf Tryz.f51) (env4_ok 1) mixed sK sK sK sK sK sK rfl ?_
   conv => whnf
   repeat ((first | (refine aI ?_ ?_; focus exact sI) | refine dI sK ?_ | (refine yI ?_ ?_; focus exact sY) | (refine nI ?_ ?_; focus exact sY) | intro _); conv => whnf)
   rw [hb]
   (refine yI ?_ ?_; (focus exact sY); conv => whnf)
   repeat ((first | (refine aI ?_ ?_; focus exact sI) | refine dI sK ?_ | (refine yI ?_ ?_; focus exact sY) | (refine nI ?_ ?_; focus exact sY) | intro _); conv => whnf)
   first | exact ⟨rfl, s + 1, rfl⟩ | exact ⟨s + 1, rfl⟩
  | false =>
   have hs2 := of_decide_eq_false hb
   simp only
   have hdd := fm_d hft
   have hmb : k = 4 → 0 ≤ m ∧ m ≤ 9999 := fun h => by subst h; exact ⟨(fm_app hft).2.2.1, (fm_app hft).2.2.2⟩
   have hfl : fmL ts d = true := by
    simp only [fmT, Bool.and_eq_true] at hft
    exact hft.2
   have hkid := fmL_mem4 ts d hfl
   have hraw := cRRaised x hpx n ⟨hn0, by omega⟩
   have hcw := cRWhole
   obtain ⟨A, hA⟩ : ∃ A, A = putArgs (fun s u n => putT g s u n x sm) k n 0 ts (s + 1) := ⟨_, rfl⟩
   rw [← hA]
   obtain ⟨x1, x2, x3, x4⟩ := x
   obtain ⟨ys, c⟩ := sm
   rw [tv_mk, tv_mk, sv_mk]
   refine call_pure (E := env4 1) (fn := Tryz.f51) (c := bodyOf Tryz.f51) (env4_ok 1) mixed sK sK sK sK sK sK rfl ?_
   conv => whnf
   repeat ((first | (refine aI ?_ ?_; focus exact sI) | refine dI sK ?_ | (refine yI ?_ ?_; focus exact sY) | (refine nI ?_ ?_; focus exact sY) | intro _); conv => whnf)
   rw [hb]
   (refine nI ?_ ?_; (focus exact sY); conv => whnf)
   repeat ((first | (refine aI ?_ ?_; focus exact sI) | refine dI sK ?_ | (refine yI ?_ ?_; focus exact sY) | (refine nI ?_ ?_; focus exact sY) | intro _); conv => whnf)
   refine loop_intro (fun mm tm H => ∃ (j : Nat) (us : List Term) (s' : Int), ts.length = mm + j ∧ us.length = j ∧ A = consL us (putArgs (fun s u n => putT g s u n (.mk x1 x2 x3 x4) (.mk ys c)) k n j (ts.drop j) s') ∧ s < s' ∧ s' ≤ 20000 ∧ (∀ u ∈ us, prop u = true) ∧
     tm = [(13, .c (.int .i64 (j))), (12, .ptr 5 0), (10, .ptr 4 0), (9, .ptr 3 0), (8, .ptr 2 0), (6, .ptr 1 0), (0, .ptr 0 0), (2, .c (.int .i64 (n)))] ∧
     H = [.box [.c (.int .i64 (s'))], .box [.c (.int .i64 (k)), .c (.int .i64 (l)), .c (.int .i64 (m)), .c (.sl 4 48 (tcs ts))], .box [.c (.int .i64 (x1)), .c (.int .i64 (x2)), .c (.int .i64 (x3)), .c (.sl 4 48 (tcs x4))], .box [.c (.sl 2 32 (scs ys)), .c (.int .i64 (c))], .box [.c (.int .i64 (0)), .c (.int .i64 (0)), .c (.int .i64 (0)), .nil], .box [.c (.int .i64 (k)), .c (.int .i64 (l)), .c (.int .i64 (m)), .own 6], .row 28 4 48 (tcs us)])
    ts.length _ _ ⟨0, [], s + 1, by omega, rfl, by rw [hA]; exact (consL_nil _).symm, by omega, by omega, (fun u hu => nomatch hu), rfl, rfl⟩ ?_ ?_
   ·refine Wk.trans (H1 := [.box [.c (.int .i64 (s + 1))], .box [.c (.int .i64 (k)), .c (.int .i64 (l)), .c (.int .i64 (m)), .c (.sl 4 48 (tcs ts))], .box [.c (.int .i64 (x1)), .c (.int .i64 (x2)), .c (.int .i64 (x3)), .c (.sl 4 48 (tcs x4))], .box [.c (.sl 2 32 (scs ys)), .c (.int .i64 (c))], .box [.c (.int .i64 (0)), .c (.int .i64 (0)), .c (.int .i64 (0)), .nil], .box [.c (.int .i64 (k)), .c (.int .i64 (l)), .c (.int .i64 (m)), .nil]]) ?_ (Wk.nilrow' 5 3 28 4 48 rfl rfl rfl rfl)
    exact Wk.sl [0, 1, 2, 3, 4, 5] rfl ⟨rfl, rfl, rfl, rfl, rfl, rfl, trivial⟩ ⟨rfl, rfl, rfl, rfl, rfl, rfl, rfl, rfl, trivial⟩ rfl
   rintro mm tm H ⟨j, us, s', hj, hus, hR, hs3, hs4, hpu, rfl, rfl⟩
   conv => whnf
   intro hlen
   replace hlen : (tcs ts).length * 48 ≤ 140737488355328 := hlen
   rw [len_tcs] at hlen
   conv => whnf
   refine ⟨fun hc => ?_, fun hc => ?_⟩
   ·replace hc : (j : Int) < (tcs ts).length := of_decide_eq_true hc
    rw [len_tcs] at hc
    have hlt : j < ts.length := by omega
    obtain ⟨u, hu⟩ : ∃ u, ts[j]? = some u := ⟨ts[j], List.getElem?_eq_getElem hlt⟩
    have hm := List.mem_of_getElem? hu
    have huc := tcs_at ts j u hu
    have hub := unT_bd k j
    have hpt := hput s' u (d + 1) (n + unT k j) (.mk x1 x2 x3 x4) (.mk ys c) (by omega) hs4 (by omega) (hkid u hm) (by omega) (by omega) (by omega) hpx
    have hok := fun v s1 => @putT_ok g s' u (n + unT k j) (.mk x1 x2 x3 x4) (.mk ys c) v s1
    have htp := fun v s1 => @putT_top g s' u (n + unT k j) (.mk x1 x2 x3 x4) (.mk ys c) v s1
    have her := fun e => @putT_er g s' u (n + unT k j) (.mk x1 x2 x3 x4) (.mk ys c) e
    rw [drop_at hu, putArgs] at hR
    have hl1 : (tcs us).length = j := by rw [len_tcs, hus]
    have hl2 : ((tcs us).length + 1) * 48 ≤ 140737488355328 := by omega
    have hl3 : (tcs us).length + 1 ≤ 9223372036854775807 := by omega
    obtain ⟨Z, hZ⟩ : ∃ Z, Z = putT g s' u (n + unT k j) (.mk x1 x2 x3 x4) (.mk ys c) := ⟨_, rfl⟩
    rw [← hZ] at hR hpt hok htp her
    clear hZ
    cases Z with
    | er e =>
     have he := her e rfl
     have ez : decide (e = 0) = false := decide_eq_false he
     have hAe : A = .er e := hR
     subst hAe
     replace hpt : CallSt Tryz.prog 51 [.ptr 0 0, tv u, .c (.int .i64 (n + unT k j)), tv (.mk x1 x2 x3 x4), sv (.mk ys c)] (cnH s') (fun r H' => r = .tup [tv zT, .c (.int .i64 (e))] ∧ ∃ s, H' = cnH s) := hpt
     cases hU : (decide (k = 3) || (decide (k = 2) && decide ((j : Int) = 1))) with
     | true =>
      rw [un_yes hU] at hpt
      obtain ⟨k', l', n', us'⟩ := u
      rw [tv_mk, tv_mk, sv_mk] at hpt
      conv => whnf
      repeat ((first | (refine aI ?_ ?_; focus exact sI) | refine dI sK ?_ | (refine yI ?_ ?_; focus exact sY) | (refine nI ?_ ?_; focus exact sY) | intro _); conv => whnf)
      rw [hU]
      (refine ⟨fun _ => ?_, fun h => absurd h (by simp)⟩; conv => whnf)
      repeat ((first | (refine aI ?_ ?_; focus exact sI) | refine dI sK ?_ | (refine yI ?_ ?_; focus exact sY) | (refine nI ?_ ?_; focus exact sY) | intro _); conv => whnf)
      refine ⟨_, ⟨by omega, by simpa using huc⟩, ?_⟩
      conv => whnf
      refine ⟨Nat.le_refl 4, ?_⟩
      conv => whnf
      repeat ((first | (refine aI ?_ ?_; focus exact sI) | refine dI sK ?_ | (refine yI ?_ ?_; focus exact sY) | (refine nI ?_ ?_; focus exact sY) | intro _); conv => whnf)
      (refine And.intro ?_ ?_ <;> conv => whnf)
      all_goals
       try (refine dI sK ?_; conv => whnf)
       first | refine CallSt.use hpt [0] ⟨rfl, trivial⟩ (by decide) rfl ?_ | refine CallPt.useS hpt [0] ⟨rfl, trivial⟩ (by decide) rfl ?_
       rintro _ _ ⟨rfl, s2, rfl⟩ _
       conv => whnf
       repeat ((first | (refine aI ?_ ?_; focus exact sI) | refine dI sK ?_ | (refine yI ?_ ?_; focus exact sY) | (refine nI ?_ ?_; focus exact sY) | intro _); conv => whnf)
       rw [ez]
       (refine yI ?_ ?_; (focus exact sY); conv => whnf)
       repeat ((first | (refine aI ?_ ?_; focus exact sI) | refine dI sK ?_ | (refine yI ?_ ?_; focus exact sY) | (refine nI ?_ ?_; focus exact sY) | intro _); conv => whnf)
       first | exact ⟨rfl, s2, rfl⟩ | exact ⟨s2, rfl⟩
     | false =>
      rw [un_no hU] at hpt
      obtain ⟨k', l', n', us'⟩ := u
      rw [tv_mk, tv_mk, sv_mk] at hpt
      conv => whnf
      repeat ((first | (refine aI ?_ ?_; focus exact sI) | refine dI sK ?_ | (refine yI ?_ ?_; focus exact sY) | (refine nI ?_ ?_; focus exact sY) | intro _); conv => whnf)
      rw [hU]
      (refine ⟨fun h => absurd h (by simp), fun _ => ?_⟩; conv => whnf)
      repeat ((first | (refine aI ?_ ?_; focus exact sI) | refine dI sK ?_ | (refine yI ?_ ?_; focus exact sY) | (refine nI ?_ ?_; focus exact sY) | intro _); conv => whnf)
      refine ⟨_, ⟨by omega, by simpa using huc⟩, ?_⟩
      conv => whnf
      refine ⟨Nat.le_refl 4, ?_⟩
      conv => whnf
      repeat ((first | (refine aI ?_ ?_; focus exact sI) | refine dI sK ?_ | (refine yI ?_ ?_; focus exact sY) | (refine nI ?_ ?_; focus exact sY) | intro _); conv => whnf)
      (refine And.intro ?_ ?_ <;> conv => whnf)
      all_goals
       try (refine dI sK ?_; conv => whnf)
       first | refine CallSt.use hpt [0] ⟨rfl, trivial⟩ (by decide) rfl ?_ | refine CallPt.useS hpt [0] ⟨rfl, trivial⟩ (by decide) rfl ?_
       rintro _ _ ⟨rfl, s2, rfl⟩ _
       conv => whnf
       repeat ((first | (refine aI ?_ ?_; focus exact sI) | refine dI sK ?_ | (refine yI ?_ ?_; focus exact sY) | (refine nI ?_ ?_; focus exact sY) | intro _); conv => whnf)
       rw [ez]
       (refine yI ?_ ?_; (focus exact sY); conv => whnf)
       repeat ((first | (refine aI ?_ ?_; focus exact sI) | refine dI sK ?_ | (refine yI ?_ ?_; focus exact sY) | (refine nI ?_ ?_; focus exact sY) | intro _); conv => whnf)
       first | exact ⟨rfl, s2, rfl⟩ | exact ⟨s2, rfl⟩
    | ok v s1 =>
     obtain ⟨hv1, hv2⟩ := hok v s1 rfl
     have hv3 := htp v s1 rfl
     have hR' : A = consL (us ++ [v]) (putArgs (fun s u n => putT g s u n (.mk x1 x2 x3 x4) (.mk ys c)) k n (j + 1) (ts.drop (j + 1)) s1) := by
      rw [hR]
      exact consL_snoc us v _
     replace hpt : CallSt Tryz.prog 51 [.ptr 0 0, tv u, .c (.int .i64 (n + unT k j)), tv (.mk x1 x2 x3 x4), sv (.mk ys c)] (cnH s') (fun r H' => r = .tup [tv v, .c (.int .i64 (0))] ∧ H' = cnH s1) := hpt
     cases hU : (decide (k = 3) || (decide (k = 2) && decide ((j : Int) = 1))) with
     | true =>
      rw [un_yes hU] at hpt
      obtain ⟨k', l', n', us'⟩ := u
      obtain ⟨k3, l3, n3, us3⟩ := v
      rw [tv_mk, tv_mk, sv_mk, tv_mk] at hpt
      conv => whnf
      repeat ((first | (refine aI ?_ ?_; focus exact sI) | refine dI sK ?_ | (refine yI ?_ ?_; focus exact sY) | (refine nI ?_ ?_; focus exact sY) | intro _); conv => whnf)
      rw [hU]
      (refine ⟨fun _ => ?_, fun h => absurd h (by simp)⟩; conv => whnf)
      repeat ((first | (refine aI ?_ ?_; focus exact sI) | refine dI sK ?_ | (refine yI ?_ ?_; focus exact sY) | (refine nI ?_ ?_; focus exact sY) | intro _); conv => whnf)
      refine ⟨_, ⟨by omega, by simpa using huc⟩, ?_⟩
      conv => whnf
      refine ⟨Nat.le_refl 4, ?_⟩
      conv => whnf
      repeat ((first | (refine aI ?_ ?_; focus exact sI) | refine dI sK ?_ | (refine yI ?_ ?_; focus exact sY) | (refine nI ?_ ?_; focus exact sY) | intro _); conv => whnf)
      (refine And.intro ?_ ?_ <;> conv => whnf)
      all_goals
       try (refine dI sK ?_; conv => whnf)
       first | refine CallSt.use hpt [0] ⟨rfl, trivial⟩ (by decide) rfl ?_ | refine CallPt.useS hpt [0] ⟨rfl, trivial⟩ (by decide) rfl ?_
       rintro _ _ ⟨rfl, rfl⟩ _
       conv => whnf
       repeat ((first | (refine aI ?_ ?_; focus exact sI) | refine dI sK ?_ | (refine yI ?_ ?_; focus exact sY) | (refine nI ?_ ?_; focus exact sY) | intro _); conv => whnf)
       refine ⟨mm - 1, _, _, by omega, ⟨j + 1, us ++ [.mk k3 l3 n3 us3], s1, by omega, by simp [hus], hR', by omega, hv3, fun y hy => ?_, rfl, rfl⟩, Wk.sl [0, 1, 2, 3, 4, 5, 9] rfl ⟨rfl, rfl, rfl, rfl, rfl, rfl, ?_, trivial⟩ ⟨rfl, rfl, rfl, rfl, rfl, rfl, rfl, rfl, trivial⟩ rfl⟩
       ·rcases List.mem_append.1 hy with hy | hy
        ·exact hpu y hy
        ·rw [List.mem_singleton] at hy
         exact hy ▸ hv1
       ·rw [← tcs_snoc]
        rfl
     | false =>
      rw [un_no hU] at hpt
      obtain ⟨k', l', n', us'⟩ := u
      obtain ⟨k3, l3, n3, us3⟩ := v
      rw [tv_mk, tv_mk, sv_mk, tv_mk] at hpt
      conv => whnf
      repeat ((first | (refine aI ?_ ?_; focus exact sI) | refine dI sK ?_ | (refine yI ?_ ?_; focus exact sY) | (refine nI ?_ ?_; focus exact sY) | intro _); conv => whnf)
      rw [hU]
      (refine ⟨fun h => absurd h (by simp), fun _ => ?_⟩; conv => whnf)
      repeat ((first | (refine aI ?_ ?_; focus exact sI) | refine dI sK ?_ | (refine yI ?_ ?_; focus exact sY) | (refine nI ?_ ?_; focus exact sY) | intro _); conv => whnf)
      refine ⟨_, ⟨by omega, by simpa using huc⟩, ?_⟩
      conv => whnf
      refine ⟨Nat.le_refl 4, ?_⟩
      conv => whnf
      repeat ((first | (refine aI ?_ ?_; focus exact sI) | refine dI sK ?_ | (refine yI ?_ ?_; focus exact sY) | (refine nI ?_ ?_; focus exact sY) | intro _); conv => whnf)
      (refine And.intro ?_ ?_ <;> conv => whnf)
      all_goals
       try (refine dI sK ?_; conv => whnf)
       first | refine CallSt.use hpt [0] ⟨rfl, trivial⟩ (by decide) rfl ?_ | refine CallPt.useS hpt [0] ⟨rfl, trivial⟩ (by decide) rfl ?_
       rintro _ _ ⟨rfl, rfl⟩ _
       conv => whnf
       repeat ((first | (refine aI ?_ ?_; focus exact sI) | refine dI sK ?_ | (refine yI ?_ ?_; focus exact sY) | (refine nI ?_ ?_; focus exact sY) | intro _); conv => whnf)
       refine ⟨mm - 1, _, _, by omega, ⟨j + 1, us ++ [.mk k3 l3 n3 us3], s1, by omega, by simp [hus], hR', by omega, hv3, fun y hy => ?_, rfl, rfl⟩, Wk.sl [0, 1, 2, 3, 4, 5, 9] rfl ⟨rfl, rfl, rfl, rfl, rfl, rfl, ?_, trivial⟩ ⟨rfl, rfl, rfl, rfl, rfl, rfl, rfl, rfl, trivial⟩ rfl⟩
       ·rcases List.mem_append.1 hy with hy | hy
        ·exact hpu y hy
        ·rw [List.mem_singleton] at hy
         exact hy ▸ hv1
       ·rw [← tcs_snoc]
        rfl
   ·replace hc : ¬ (j : Int) < (tcs ts).length := of_decide_eq_false hc
    rw [len_tcs] at hc
    rw [List.drop_eq_nil_of_le (by omega), putArgs, consL, List.append_nil] at hR
    subst hR
    have eC : (!decide (k = 4) || !decide (l = 1) || decide (m < n)) = !(decide (k = 4) && decide (l = 1) && decide (n ≤ m)) := by
     rw [Bool.not_and, Bool.not_and]
     congr 1
     rw [Bool.eq_iff_iff]
     simp
    cases hB : (decide (k = 4) && decide (l = 1) && decide (n ≤ m)) with
    | false =>
     have e : putEnd g k l m n (.mk x1 x2 x3 x4) (.mk ys c) us s' = wholeR (.mk k l m us) s' := by unfold putEnd; rw [hB]
     obtain ⟨t', e', hw, hq⟩ := whole2 (.mk k l m us) s'
     rw [hB, Bool.not_false] at eC
     rw [tv_mk] at hw
     obtain ⟨k3, l3, n3, us3⟩ := t'
     rw [tv_mk] at hw
     conv => whnf
     repeat ((first | (refine aI ?_ ?_; focus exact sI) | refine dI sK ?_ | (refine yI ?_ ?_; focus exact sY) | (refine nI ?_ ?_; focus exact sY) | intro _); conv => whnf)
     rw [eC]
     (refine yI ?_ ?_; (focus exact sY); conv => whnf)
     repeat ((first | (refine aI ?_ ?_; focus exact sI) | refine dI sK ?_ | (refine yI ?_ ?_; focus exact sY) | (refine nI ?_ ?_; focus exact sY) | intro _); conv => whnf)
     try (refine dI sK ?_; conv => whnf)
     first | refine u0 hw ?_ | refine v0 hw ?_
     rintro _ _ ⟨rfl, rfl⟩ _
     conv => whnf
     repeat ((first | (refine aI ?_ ?_; focus exact sI) | refine dI sK ?_ | (refine yI ?_ ?_; focus exact sY) | (refine nI ?_ ?_; focus exact sY) | intro _); conv => whnf)
     show SbP _ _ cnH (putEnd g k l m n (.mk x1 x2 x3 x4) (.mk ys c) us s')
     rw [e]
     exact hq
    | true =>
     rw [hB, Bool.not_true] at eC
     rw [Bool.and_eq_true, Bool.and_eq_true, decide_eq_true_eq, decide_eq_true_eq, decide_eq_true_eq] at hB
     obtain ⟨⟨rfl, rfl⟩, hnm⟩ := hB
     have hm2 := hmb rfl
     cases hlt : decide (n < m) with
     | true =>
      have e : putEnd g 4 1 m n (.mk x1 x2 x3 x4) (.mk ys c) us s' = wholeR (.mk 4 1 (m - 1) us) s' := by
       unfold putEnd
       rw [decide_eq_true hnm, hlt]
       rfl
      obtain ⟨t', e', hw, hq⟩ := whole2 (.mk 4 1 (m - 1) us) s'
      rw [tv_mk] at hw
      obtain ⟨k3, l3, n3, us3⟩ := t'
      rw [tv_mk] at hw
      conv => whnf
      repeat ((first | (refine aI ?_ ?_; focus exact sI) | refine dI sK ?_ | (refine yI ?_ ?_; focus exact sY) | (refine nI ?_ ?_; focus exact sY) | intro _); conv => whnf)
      rw [eC]
      (refine nI ?_ ?_; (focus exact sY); conv => whnf)
      repeat ((first | (refine aI ?_ ?_; focus exact sI) | refine dI sK ?_ | (refine yI ?_ ?_; focus exact sY) | (refine nI ?_ ?_; focus exact sY) | intro _); conv => whnf)
      rw [hlt]
      (refine yI ?_ ?_; (focus exact sY); conv => whnf)
      repeat ((first | (refine aI ?_ ?_; focus exact sI) | refine dI sK ?_ | (refine yI ?_ ?_; focus exact sY) | (refine nI ?_ ?_; focus exact sY) | intro _); conv => whnf)
      try (refine dI sK ?_; conv => whnf)
      first | refine u0 hw ?_ | refine v0 hw ?_
      rintro _ _ ⟨rfl, rfl⟩ _
      conv => whnf
      repeat ((first | (refine aI ?_ ?_; focus exact sI) | refine dI sK ?_ | (refine yI ?_ ?_; focus exact sY) | (refine nI ?_ ?_; focus exact sY) | intro _); conv => whnf)
      show SbP _ _ cnH (putEnd g 4 1 m n (.mk x1 x2 x3 x4) (.mk ys c) us s')
      rw [e]
      exact hq
     | false =>
      obtain ⟨Rt, hRt⟩ : ∃ Rt, Rt = raisedT (.mk x1 x2 x3 x4) n := ⟨_, rfl⟩
      have e0 : putEnd g 4 1 m n (.mk x1 x2 x3 x4) (.mk ys c) us s' = (match prop Rt with | false => .er 5 | true => appR (fun s b y sm => putT g s b 0 y sm) Rt us ys s') := by
       unfold putEnd
       rw [decide_eq_true hnm, hlt, hRt]
       rfl
      have hw := hcw Rt
      rw [← hRt] at hraw
      cases hP : prop Rt with
      | false =>
       rw [hP] at hw e0
       simp only at e0 hw
       obtain ⟨k3, l3, n3, us3⟩ := Rt
       rw [tv_mk] at hw
       rw [tv_mk, tv_mk] at hraw
       conv => whnf
       repeat ((first | (refine aI ?_ ?_; focus exact sI) | refine dI sK ?_ | (refine yI ?_ ?_; focus exact sY) | (refine nI ?_ ?_; focus exact sY) | intro _); conv => whnf)
       rw [eC]
       (refine nI ?_ ?_; (focus exact sY); conv => whnf)
       repeat ((first | (refine aI ?_ ?_; focus exact sI) | refine dI sK ?_ | (refine yI ?_ ?_; focus exact sY) | (refine nI ?_ ?_; focus exact sY) | intro _); conv => whnf)
       rw [hlt]
       (refine nI ?_ ?_; (focus exact sY); conv => whnf)
       repeat ((first | (refine aI ?_ ?_; focus exact sI) | refine dI sK ?_ | (refine yI ?_ ?_; focus exact sY) | (refine nI ?_ ?_; focus exact sY) | intro _); conv => whnf)
       try (refine dI sK ?_; conv => whnf)
       first | refine u0 hraw ?_ | refine v0 hraw ?_
       rintro _ _ ⟨rfl, rfl⟩ _
       conv => whnf
       repeat ((first | (refine aI ?_ ?_; focus exact sI) | refine dI sK ?_ | (refine yI ?_ ?_; focus exact sY) | (refine nI ?_ ?_; focus exact sY) | intro _); conv => whnf)
       try (refine dI sK ?_; conv => whnf)
       first | refine u0 hw ?_ | refine v0 hw ?_
       rintro _ _ ⟨rfl, rfl⟩ _
       conv => whnf
       repeat ((first | (refine aI ?_ ?_; focus exact sI) | refine dI sK ?_ | (refine yI ?_ ?_; focus exact sY) | (refine nI ?_ ?_; focus exact sY) | intro _); conv => whnf)
       show SbP _ _ cnH (putEnd g 4 1 m n (.mk x1 x2 x3 x4) (.mk ys c) us s')
       rw [e0]
       exact ⟨rfl, s', rfl⟩
      | true =>
       have hap := happ us Rt (.mk ys c) s' hP hpu (by omega) hs4 (by omega)
       rw [show (Smp.mk ys c).xs = ys from rfl] at hap
       rw [hP] at hw e0
       simp only at e0 hw
       obtain ⟨k3, l3, n3, us3⟩ := Rt
       rw [tv_mk] at hw
       rw [tv_mk, tv_mk] at hraw
       rw [tv_mk, sv_mk] at hap
       conv => whnf
       repeat ((first | (refine aI ?_ ?_; focus exact sI) | refine dI sK ?_ | (refine yI ?_ ?_; focus exact sY) | (refine nI ?_ ?_; focus exact sY) | intro _); conv => whnf)
       rw [eC]
       (refine nI ?_ ?_; (focus exact sY); conv => whnf)
       repeat ((first | (refine aI ?_ ?_; focus exact sI) | refine dI sK ?_ | (refine yI ?_ ?_; focus exact sY) | (refine nI ?_ ?_; focus exact sY) | intro _); conv => whnf)
       rw [hlt]
       (refine nI ?_ ?_; (focus exact sY); conv => whnf)
       repeat ((first | (refine aI ?_ ?_; focus exact sI) | refine dI sK ?_ | (refine yI ?_ ?_; focus exact sY) | (refine nI ?_ ?_; focus exact sY) | intro _); conv => whnf)
       try (refine dI sK ?_; conv => whnf)
       first | refine u0 hraw ?_ | refine v0 hraw ?_
       rintro _ _ ⟨rfl, rfl⟩ _
       conv => whnf
       repeat ((first | (refine aI ?_ ?_; focus exact sI) | refine dI sK ?_ | (refine yI ?_ ?_; focus exact sY) | (refine nI ?_ ?_; focus exact sY) | intro _); conv => whnf)
       try (refine dI sK ?_; conv => whnf)
       first | refine u0 hw ?_ | refine v0 hw ?_
       rintro _ _ ⟨rfl, rfl⟩ _
       conv => whnf
       repeat ((first | (refine aI ?_ ?_; focus exact sI) | refine dI sK ?_ | (refine yI ?_ ?_; focus exact sY) | (refine nI ?_ ?_; focus exact sY) | intro _); conv => whnf)
       try (refine dI sK ?_; conv => whnf)
       first | refine CallSt.use hap [0] ⟨rfl, trivial⟩ (by decide) rfl ?_ | refine CallPt.useS hap [0] ⟨rfl, trivial⟩ (by decide) rfl ?_
       rintro _ _ hq _
       obtain ⟨t', e', s2, ⟨rfl, rfl⟩, hq⟩ := SbP_open hq
       obtain ⟨k4, l4, n4, us4⟩ := t'
       conv => whnf
       repeat ((first | (refine aI ?_ ?_; focus exact sI) | refine dI sK ?_ | (refine yI ?_ ?_; focus exact sY) | (refine nI ?_ ?_; focus exact sY) | intro _); conv => whnf)
       show SbP _ _ cnH (putEnd g 4 1 m n (.mk x1 x2 x3 x4) (.mk ys c) us s')
       rw [e0]
       exact hq
end Go.Tr
/- The reference's constants, Small, step, Instance. -/
namespace Go.Tr
open Go.Proofs
mutual
def smN : Smp → Int
 | .mk ys _ => 1 + smNL ys
def smNL : List Smp → Int
 | [] => 0
 | y :: r => smN y + smNL r
end
mutual
def smOk : Smp → Bool
 | .mk ys c => decide (0 ≤ c) && decide (c ≤ 9999) && smOkL ys
def smOkL : List Smp → Bool
 | [] => true
 | y :: r => smOk y && smOkL r
end
mutual
theorem smN_pos : ∀ s : Smp, 1 ≤ smN s
 | .mk ys c => by rw [smN]; have := smNL_pos ys; omega
theorem smNL_pos : ∀ l : List Smp, 0 ≤ smNL l
 | [] => by rw [smNL]; exact Int.le_refl _
 | y :: r => by rw [smNL]; have := smN_pos y; have := smNL_pos r; omega
end
theorem smNL_app (a b : List Smp) : smNL (a ++ b) = smNL a + smNL b := by
 induction a with
 | nil => rw [List.nil_append, smNL]; omega
 | cons y r ih => rw [List.cons_append, smNL, smNL, ih]; omega
theorem smOkL_mem : ∀ {l : List Smp} {y : Smp}, smOkL l = true → y ∈ l → smOk y = true
 | a :: r, y, h, hy => by
  rw [smOkL, Bool.and_eq_true] at h
  rcases List.mem_cons.1 hy with rfl | hy
  ·exact h.1
  ·exact smOkL_mem h.2 hy
theorem smNL_len : ∀ l : List Smp, (l.length : Int) ≤ smNL l
 | [] => by rw [smNL]; simp
 | y :: r => by rw [smNL]; have := smN_pos y; have := smNL_len r; simp; omega
theorem cRConst (s : Smp) : ∀ most : Int, smOk s = true → smN s ≤ most → most ≤ 1000000 → CallSt Tryz.prog 49 [sv s, .c (.int .i64 (most))] [] (fun r H' => r = .c (.int .i64 (smN s)) ∧ H' = []) := by
 induction s using Smp.ind with
 | _ s ih =>
 intro most hok hn hm
 obtain ⟨ys, c⟩ := s
 replace ih : ∀ u, u ∈ ys → _ := ih
 rw [smOk, Bool.and_eq_true, Bool.and_eq_true, decide_eq_true_eq, decide_eq_true_eq] at hok
 obtain ⟨⟨hc0, hc1⟩, hoks⟩ := hok
 rw [smN] at hn ⊢
 have e1 : decide (c < 0) = false := decide_eq_false (by omega)
 have e2 : decide (9999 < c) = false := decide_eq_false (by omega)
 have hls := len_scs ys
 have hyl := smNL_len ys
 rw [sv_mk]
 refine call_pure (E := env 0) (fn := Tryz.f49) (c := bodyOf Tryz.f49) (env_ok 0) mixed sK sK sK sK sK sK rfl ?_
 conv => whnf
 repeat ((first | (refine aI ?_ ?_; focus exact sI) | refine dI sK ?_ | (refine yI ?_ ?_; focus exact sY) | (refine nI ?_ ?_; focus exact sY) | intro _); conv => whnf)
 rw [e1, e2]
 (refine nI ?_ ?_; (focus exact sY); conv => whnf)
 repeat ((first | (refine aI ?_ ?_; focus exact sI) | refine dI sK ?_ | (refine yI ?_ ?_; focus exact sY) | (refine nI ?_ ?_; focus exact sY) | intro _); conv => whnf)
 refine loop_intro (fun m tm H => ∃ j : Nat, ys.length = m + j ∧ tm = [(6, .c (.int .i64 (j))), (5, .c (.int .i64 (1 + smNL (ys.take j)))), (1, .c (.int .i64 (most))), (2, .ptr 0 0)] ∧ H = [.box [.c (.sl 2 32 (scs ys)), .c (.int .i64 (c))]])
  ys.length _ _ ⟨0, by omega, rfl, rfl⟩ (Wk.sl [0] rfl ⟨rfl, trivial⟩ ⟨rfl, rfl, rfl, rfl, trivial⟩ rfl) ?_
 rintro m tm H ⟨j, hj, rfl, rfl⟩
 have hp0 := smNL_pos (ys.take j)
 have hp1 := smNL_pos (ys.drop j)
 have hsp : smNL ys = smNL (ys.take j) + smNL (ys.drop j) := by rw [← smNL_app, List.take_append_drop]
 have e3 : decide (1 + smNL (ys.take j) ≤ most) = true := decide_eq_true (by omega)
 conv => whnf
 repeat ((first | (refine aI ?_ ?_; focus exact sI) | refine dI sK ?_ | (refine yI ?_ ?_; focus exact sY) | (refine nI ?_ ?_; focus exact sY) | intro _); conv => whnf)
 rw [e3, Bool.and_true]
 refine ⟨fun hc => ?_, fun hc => ?_⟩
 ·replace hc : (j : Int) < (scs ys).length := of_decide_eq_true hc
  obtain ⟨u, hu⟩ : ∃ u, ys[j]? = some u := ⟨ys[j]'(by omega), List.getElem?_eq_getElem (by omega)⟩
  have huc := scs_at ys j u hu
  have hdr : ys.drop j = u :: ys.drop (j + 1) := drop_at hu
  have hsu : smNL (ys.drop j) = smN u + smNL (ys.drop (j + 1)) := by rw [hdr, smNL]
  have hp2 := smNL_pos (ys.drop (j + 1))
  have hpu := smN_pos u
  have hnx : 1 + smNL (ys.take j) + smN u = 1 + smNL (ys.take (j + 1)) := by
   rw [List.take_add_one, hu, smNL_app]
   show _ = 1 + (smNL (ys.take j) + smNL [u])
   rw [smNL, smNL]
   omega
  have hcu := ih u (List.mem_of_getElem? hu) (most - (1 + smNL (ys.take j))) (smOkL_mem hoks (List.mem_of_getElem? hu)) (by omega) (by omega)
  have e4 : decide (smN u < 0) = false := decide_eq_false (by omega)
  generalize smN u = z at *
  generalize smNL (ys.take j) = a at *
  obtain ⟨us, uc⟩ := u
  rw [sv_mk] at hcu
  conv => whnf
  repeat ((first | (refine aI ?_ ?_; focus exact sI) | refine dI sK ?_ | (refine yI ?_ ?_; focus exact sY) | (refine nI ?_ ?_; focus exact sY) | intro _); conv => whnf)
  refine ⟨_, ⟨by omega, huc⟩, ?_⟩
  conv => whnf
  refine ⟨show 2 ≤ 2 by decide, ?_⟩
  conv => whnf
  repeat ((first | (refine aI ?_ ?_; focus exact sI) | refine dI sK ?_ | (refine yI ?_ ?_; focus exact sY) | (refine nI ?_ ?_; focus exact sY) | intro _); conv => whnf)
  try (refine dI sK ?_; conv => whnf)
  first | refine u0 hcu ?_ | refine v0 hcu ?_
  rintro _ _ ⟨rfl, rfl⟩ _
  conv => whnf
  repeat ((first | (refine aI ?_ ?_; focus exact sI) | refine dI sK ?_ | (refine yI ?_ ?_; focus exact sY) | (refine nI ?_ ?_; focus exact sY) | intro _); conv => whnf)
  rw [e4]
  (refine nI ?_ ?_; (focus exact sY); conv => whnf)
  repeat ((first | (refine aI ?_ ?_; focus exact sI) | refine dI sK ?_ | (refine yI ?_ ?_; focus exact sY) | (refine nI ?_ ?_; focus exact sY) | intro _); conv => whnf)
  refine ⟨m - 1, _, _, by omega, ⟨j + 1, by omega, rfl, rfl⟩, Wk.sl [0] rfl ⟨rfl, trivial⟩ ⟨rfl, ?_, rfl, rfl, trivial⟩ rfl⟩
  exact congrArg (fun z => AV.c (CV.int .i64 z)) hnx
 ·replace hc : ¬ (j : Int) < (scs ys).length := of_decide_eq_false hc
  rw [List.take_of_length_le (by omega)] at hsp ⊢
  conv => whnf
  repeat ((first | (refine aI ?_ ?_; focus exact sI) | refine dI sK ?_ | (refine yI ?_ ?_; focus exact sY) | (refine nI ?_ ?_; focus exact sY) | intro _); conv => whnf)
  exact ⟨congrArg (fun z => AV.c (.int .i64 z)) (if_neg (by omega)), rfl⟩
theorem cRSmall4 (s : Smp) (hok : smOk s = true) (hn : smN s ≤ 600) : CallSt Tryz.prog 18 [sv s] [] (fun r H' => r = .c (.bool true) ∧ H' = []) := by
 have h := cRConst s 600 hok hn (by omega)
 have hp := smN_pos s
 have e1 : decide (1 ≤ smN s) = true := decide_eq_true hp
 have e2 : decide (smN s ≤ 600) = true := decide_eq_true hn
 generalize smN s = z at *
 obtain ⟨ys, c⟩ := s
 rw [sv_mk] at *
 refine call_pure (E := env 0) (fn := Tryz.f18) (c := bodyOf Tryz.f18) (env_ok 0) mixed sK sK sK sK sK sK rfl ?_
 conv => whnf
 try (refine dI sK ?_; conv => whnf)
 first | refine u0 h ?_ | refine v0 h ?_
 rintro _ _ ⟨rfl, rfl⟩ _
 conv => whnf
 repeat ((first | (refine aI ?_ ?_; focus exact sI) | refine dI sK ?_ | (refine yI ?_ ?_; focus exact sY) | (refine nI ?_ ?_; focus exact sY) | intro _); conv => whnf)
 exact ⟨congrArg (fun z => AV.c (.bool z)) (by rw [e1, e2]; rfl), rfl⟩
theorem smp_small : ∀ (N : Nat) (t : Term) (d : Int) (s : Smp), SizeOf.sizeOf t ≤ N → fmT t d = true → smpT t = some s → smOk s = true ∧ smN s ≤ szT t
 | 0, t, d, s, hN, _, _ => by cases t; simp at hN
 | N + 1, t, d, s, hN, h, hs => by
  by_cases hk : t.k = 2
  ·obtain ⟨k, l, n, ts⟩ := t
   replace hk : k = 2 := hk
   subst hk
   obtain ⟨rfl, rfl, a, b, rfl, ha, hb⟩ := fm_pi h
   rw [smpT_pi] at hs
   cases hx : smpT a with
   | none => rw [hx] at hs; cases hs
   | some x =>
    cases hy : smpT b with
    | none => rw [hx, hy] at hs; cases hs
    | some y =>
     rw [hx, hy] at hs
     simp only [Option.some.injEq] at hs
     obtain ⟨h1, h2⟩ := smp_small N a (d + 1) x (by simp at hN; omega) ha hx
     obtain ⟨h3, h4⟩ := smp_small N b (d + 1) y (by simp at hN; omega) hb hy
     obtain ⟨ys, c⟩ := y
     subst hs
     rw [smOk, Bool.and_eq_true] at h3
     rw [smN] at h4
     refine ⟨?_, ?_⟩
     ·rw [smOk, smOkL, h1, Bool.true_and, Bool.and_eq_true]
      exact h3
     ·rw [smN, smNL, szT, szL, szL, szL]
      simp only [Smp.xs]
      omega
  ·rw [smpT_no hk] at hs
   split at hs
   ·rename_i h4
    cases hs
    obtain ⟨k, l, n, ts⟩ := t
    obtain ⟨h4, _⟩ := h4
    replace h4 : k = 4 := h4
    subst h4
    obtain ⟨_, _, h0, h1⟩ := fm_app h
    have := szT_pos (.mk 4 l n ts)
    refine ⟨?_, ?_⟩
    ·rw [smOk, smOkL, show (Term.mk 4 l n ts).n = n from rfl, decide_eq_true h0, decide_eq_true h1]
     rfl
    ·rw [smN, smNL]
     omega
   ·cases hs
def stepR (s : Int) (c m : Term) : SbR := match decide (c.k = 2), c.ts with
 | true, a :: b :: _ => (match smpT a with
  | none => .er 22
  | some sm => putT 20001 s b 0 m sm)
 | _, _ => .er 23
def instL : Term → List Term → Int → SbR
 | c, [], s => .ok c s
 | c, x :: r, s => match stepR s c x with
  | .er e => .er e
  | .ok u s1 => instL u r s1
def instR (c : Term) (l : List Term) : Term × Int := match prop c && (decide (l.length ≤ 600) && l.all prop) with
 | false => (zT, 2)
 | true => (match instL c l 0 with
  | .er e => (zT, e)
  | .ok u _ => (u, 0))
theorem prop_pi2 {t : Term} (hp : prop t = true) (hk : t.k = 2) : ∃ a b, t = .mk 2 0 0 [a, b] ∧ fmT a 2 = true ∧ fmT b 2 = true ∧ szT a ≤ 600 := by
 obtain ⟨k, l, n, ts⟩ := t
 replace hk : k = 2 := hk
 subst hk
 obtain ⟨rfl, rfl, a, b, rfl, ha, hb⟩ := fm_pi (prop_fm1 hp)
 refine ⟨a, b, rfl, ha, hb, ?_⟩
 rw [prop_rprop, rprop_iff', Bool.and_eq_true, decide_eq_true_eq, szT, szL, szL, szL] at hp
 have := szT_pos b
 omega
set_option maxHeartbeats 1000000 in
theorem cRStep (c m : Term) (hc : prop c = true) (hm : prop m = true) (s : Int) (hs0 : 0 ≤ s) (hs1 : s ≤ 20000) : CallSt Tryz.prog 118 [.ptr 0 0, tv c, tv m] (cnH s) (fun r H' => SbP r H' cnH (stepR s c m)) := by
 by_cases hk : c.k = 2
 ·obtain ⟨a, b, rfl, ha, hb, hsz⟩ := prop_pi2 hc hk
  have hsm := c27 _ a 2 (Nat.le_refl _) ha (by omega)
  unfold stepR
  simp only [Term.k, Term.ts, decide_true]
  cases hs : smpT a with
  | none =>
   rw [hs] at hsm
   show CallSt _ _ _ _ fun r H' => r = .tup [tv zT, .c (.int .i64 (22))] ∧ ∃ s, H' = cnH s
   clear hs hc ha hm
   obtain ⟨a1, a2, a3, a4⟩ := a
   obtain ⟨b1, b2, b3, b4⟩ := b
   obtain ⟨m1, m2, m3, m4⟩ := m
   rw [tv_mk] at hsm
   rw [tv_mk, tv_mk]
   refine call_pure (E := env4 1) (fn := Tryz.f118) (c := bodyOf Tryz.f118) (env4_ok 1) mixed sK sK sK sK sK sK rfl ?_
   conv => whnf
   repeat ((first | (refine aI ?_ ?_; focus exact sI) | refine dI sK ?_ | (refine yI ?_ ?_; focus exact sY) | (refine nI ?_ ?_; focus exact sY) | intro _); conv => whnf)
   refine ⟨_, ⟨by decide, rfl⟩, ?_⟩
   conv => whnf
   refine ⟨Nat.le_refl 4, ?_⟩
   conv => whnf
   try (refine dI sK ?_; conv => whnf)
   first | refine u0 hsm ?_ | refine v0 hsm ?_
   rintro _ _ ⟨rfl, rfl⟩ _
   conv => whnf
   repeat ((first | (refine aI ?_ ?_; focus exact sI) | refine dI sK ?_ | (refine yI ?_ ?_; focus exact sY) | (refine nI ?_ ?_; focus exact sY) | intro _); conv => whnf)
   first | exact ⟨rfl, s, rfl⟩ | exact ⟨s, rfl⟩
  | some sm =>
   obtain ⟨ho, hn⟩ := smp_small _ a 2 sm (Nat.le_refl _) ha hs
   have hsl := cRSmall4 sm ho (by omega)
   have hpt := cRPut 20001 s b 2 0 m sm hs0 hs1 (by omega) hb (by omega) (Int.le_refl 0) (by omega) hm
   rw [hs] at hsm
   simp only
   obtain ⟨A, hA⟩ : ∃ A, A = putT 20001 s b 0 m sm := ⟨_, rfl⟩
   rw [← hA] at hpt ⊢
   clear hA hs hc ha hm hb hsz ho hn
   obtain ⟨a1, a2, a3, a4⟩ := a
   obtain ⟨b1, b2, b3, b4⟩ := b
   obtain ⟨m1, m2, m3, m4⟩ := m
   obtain ⟨ys, yc⟩ := sm
   rw [tv_mk] at hsm
   rw [show smpB (some (.mk ys yc)) = .tup [sv (.mk ys yc), .c (.bool true)] from rfl, sv_mk] at hsm
   rw [sv_mk] at hsl
   rw [tv_mk, tv_mk, sv_mk] at hpt
   rw [tv_mk, tv_mk]
   refine call_pure (E := env4 1) (fn := Tryz.f118) (c := bodyOf Tryz.f118) (env4_ok 1) mixed sK sK sK sK sK sK rfl ?_
   conv => whnf
   repeat ((first | (refine aI ?_ ?_; focus exact sI) | refine dI sK ?_ | (refine yI ?_ ?_; focus exact sY) | (refine nI ?_ ?_; focus exact sY) | intro _); conv => whnf)
   refine ⟨_, ⟨by decide, rfl⟩, ?_⟩
   conv => whnf
   refine ⟨Nat.le_refl 4, ?_⟩
   conv => whnf
   try (refine dI sK ?_; conv => whnf)
   first | refine u0 hsm ?_ | refine v0 hsm ?_
   rintro _ _ ⟨rfl, rfl⟩ _
   conv => whnf
   repeat ((first | (refine aI ?_ ?_; focus exact sI) | refine dI sK ?_ | (refine yI ?_ ?_; focus exact sY) | (refine nI ?_ ?_; focus exact sY) | intro _); conv => whnf)
   try (refine dI sK ?_; conv => whnf)
   first | refine u0 hsl ?_ | refine v0 hsl ?_
   rintro _ _ ⟨rfl, rfl⟩ _
   conv => whnf
   repeat ((first | (refine aI ?_ ?_; focus exact sI) | refine dI sK ?_ | (refine yI ?_ ?_; focus exact sY) | (refine nI ?_ ?_; focus exact sY) | intro _); conv => whnf)
   refine ⟨_, ⟨by decide, rfl⟩, ?_⟩
   conv => whnf
   refine ⟨Nat.le_refl 4, ?_⟩
   conv => whnf
   repeat ((first | (refine aI ?_ ?_; focus exact sI) | refine dI sK ?_ | (refine yI ?_ ?_; focus exact sY) | (refine nI ?_ ?_; focus exact sY) | intro _); conv => whnf)
   try (refine dI sK ?_; conv => whnf)
   first | refine CallSt.use hpt [0] ⟨rfl, trivial⟩ (by decide) rfl ?_ | refine CallPt.useS hpt [0] ⟨rfl, trivial⟩ (by decide) rfl ?_
   rintro _ _ hq _
   obtain ⟨t', e', s2, ⟨rfl, rfl⟩, hq⟩ := SbP_open hq
   obtain ⟨k4, l4, n4, us4⟩ := t'
   conv => whnf
   repeat ((first | (refine aI ?_ ?_; focus exact sI) | refine dI sK ?_ | (refine yI ?_ ?_; focus exact sY) | (refine nI ?_ ?_; focus exact sY) | intro _); conv => whnf)
   exact hq
 ·unfold stepR
  rw [decide_eq_false hk]
  show CallSt _ _ _ _ fun r H' => r = .tup [tv zT, .c (.int .i64 (23))] ∧ ∃ s, H' = cnH s
  obtain ⟨k, l, n, ts⟩ := c
  obtain ⟨m1, m2, m3, m4⟩ := m
  replace hk : ¬ k = 2 := hk
  have ek : decide (k = 2) = false := decide_eq_false hk
  rw [tv_mk, tv_mk]
  refine call_pure (E := env4 1) (fn := Tryz.f118) (c := bodyOf Tryz.f118) (env4_ok 1) mixed sK sK sK sK sK sK rfl ?_
  conv => whnf
  repeat ((first | (refine aI ?_ ?_; focus exact sI) | refine dI sK ?_ | (refine yI ?_ ?_; focus exact sY) | (refine nI ?_ ?_; focus exact sY) | intro _); conv => whnf)
  rw [ek]
  (refine yI ?_ ?_; (focus exact sY); conv => whnf)
  repeat ((first | (refine aI ?_ ?_; focus exact sI) | refine dI sK ?_ | (refine yI ?_ ?_; focus exact sY) | (refine nI ?_ ?_; focus exact sY) | intro _); conv => whnf)
  first | exact ⟨rfl, s, rfl⟩ | exact ⟨s, rfl⟩
end Go.Tr
/- The reference's Instance. -/
namespace Go.Tr
theorem get_some {α : Type} {l : List α} {a : Nat} (h : a < l.length) : ∃ d, l[a]? = some d := ⟨l[a], List.getElem?_eq_getElem h⟩
open Go.Proofs
theorem stepR_ok {s : Int} {c m u : Term} {s1 : Int} (h : stepR s c m = .ok u s1) : prop u = true ∧ s ≤ s1 ∧ s1 ≤ 20000 := by
 unfold stepR at h
 split at h
 ·split at h
  ·cases h
  ·have := putT_ok _ h
   exact ⟨this.1, this.2, putT_top _ h⟩
 ·cases h
theorem stepR_er {s : Int} {c m : Term} {e : Int} (h : stepR s c m = .er e) : e ≠ 0 := by
 unfold stepR at h
 split at h
 ·split at h
  ·cases h; decide
  ·exact putT_er _ h
 ·cases h; decide
set_option maxHeartbeats 1000000 in
theorem cRInstance (c : Term) (l : List Term) : CallSt Tryz.prog 92 [tv c, .c (.sl 4 48 (tcs l))] [] (fun r H' => r = .tup [tv (instR c l).1, .c (.int .i64 ((instR c l).2))] ∧ H' = []) := by
 have h1 := cRProper c
 have h2 := cRList l
 have hll := len_tcs l
 unfold instR
 cases hc : prop c with
 | false =>
  rw [hc] at h1
  show CallSt _ _ _ _ fun r H' => r = .tup [tv zT, .c (.int .i64 (2))] ∧ H' = []
  clear hc
  obtain ⟨k, l', n, ts⟩ := c
  rw [tv_mk] at *
  refine call_pure (E := env4 0) (fn := Tryz.f92) (c := bodyOf Tryz.f92) (env4_ok 0) mixed sK sK sK sK sK sK rfl ?_
  conv => whnf
  repeat ((first | (refine aI ?_ ?_; focus exact sI) | refine dI sK ?_ | (refine yI ?_ ?_; focus exact sY) | (refine nI ?_ ?_; focus exact sY) | intro _); conv => whnf)
  try (refine dI sK ?_; conv => whnf)
  first | refine u0 h1 ?_ | refine v0 h1 ?_
  rintro _ _ ⟨rfl, rfl⟩ _
  conv => whnf
  repeat ((first | (refine aI ?_ ?_; focus exact sI) | refine dI sK ?_ | (refine yI ?_ ?_; focus exact sY) | (refine nI ?_ ?_; focus exact sY) | intro _); conv => whnf)
  all_goals exact sR
 | true =>
  rw [hc] at h1
  cases hl : (decide (l.length ≤ 600) && l.all prop) with
  | false =>
   rw [hl] at h2
   show CallSt _ _ _ _ fun r H' => r = .tup [tv zT, .c (.int .i64 (2))] ∧ H' = []
   clear hc
   obtain ⟨k, l', n, ts⟩ := c
   rw [tv_mk] at *
   refine call_pure (E := env4 0) (fn := Tryz.f92) (c := bodyOf Tryz.f92) (env4_ok 0) mixed sK sK sK sK sK sK rfl ?_
   conv => whnf
   repeat ((first | (refine aI ?_ ?_; focus exact sI) | refine dI sK ?_ | (refine yI ?_ ?_; focus exact sY) | (refine nI ?_ ?_; focus exact sY) | intro _); conv => whnf)
   try (refine dI sK ?_; conv => whnf)
   first | refine u0 h1 ?_ | refine v0 h1 ?_
   rintro _ _ ⟨rfl, rfl⟩ _
   conv => whnf
   repeat ((first | (refine aI ?_ ?_; focus exact sI) | refine dI sK ?_ | (refine yI ?_ ?_; focus exact sY) | (refine nI ?_ ?_; focus exact sY) | intro _); conv => whnf)
   try (refine dI sK ?_; conv => whnf)
   first | refine u0 h2 ?_ | refine v0 h2 ?_
   rintro _ _ ⟨rfl, rfl⟩ _
   conv => whnf
   repeat ((first | (refine aI ?_ ?_; focus exact sI) | refine dI sK ?_ | (refine yI ?_ ?_; focus exact sY) | (refine nI ?_ ?_; focus exact sY) | intro _); conv => whnf)
   all_goals exact sR
  | true =>
   rw [hl] at h2
   rw [Bool.and_eq_true, decide_eq_true_eq, List.all_eq_true] at hl
   obtain ⟨hl6, hlp⟩ := hl
   simp only [Bool.and_self]
   obtain ⟨A, hA⟩ : ∃ A, A = instL c l 0 := ⟨_, rfl⟩
   rw [← hA]
   obtain ⟨c0, hc0⟩ : ∃ c0, c0 = c := ⟨_, rfl⟩
   obtain ⟨k, l', n, ts⟩ := c
   rw [tv_mk] at *
   refine call_pure (E := env4 0) (fn := Tryz.f92) (c := bodyOf Tryz.f92) (env4_ok 0) mixed sK sK sK sK sK sK rfl ?_
   conv => whnf
   repeat ((first | (refine aI ?_ ?_; focus exact sI) | refine dI sK ?_ | (refine yI ?_ ?_; focus exact sY) | (refine nI ?_ ?_; focus exact sY) | intro _); conv => whnf)
   try (refine dI sK ?_; conv => whnf)
   first | refine u0 h1 ?_ | refine v0 h1 ?_
   rintro _ _ ⟨rfl, rfl⟩ _
   conv => whnf
   repeat ((first | (refine aI ?_ ?_; focus exact sI) | refine dI sK ?_ | (refine yI ?_ ?_; focus exact sY) | (refine nI ?_ ?_; focus exact sY) | intro _); conv => whnf)
   try (refine dI sK ?_; conv => whnf)
   first | refine u0 h2 ?_ | refine v0 h2 ?_
   rintro _ _ ⟨rfl, rfl⟩ _
   conv => whnf
   repeat ((first | (refine aI ?_ ?_; focus exact sI) | refine dI sK ?_ | (refine yI ?_ ?_; focus exact sY) | (refine nI ?_ ?_; focus exact sY) | intro _); conv => whnf)
   refine loop_intro (fun m tm H => ∃ (j : Nat) (u1 u2 u3 : Int) (us : List Term) (s : Int), l.length = m + j ∧ A = instL (.mk u1 u2 u3 us) (l.drop j) s ∧ prop (.mk u1 u2 u3 us) = true ∧ 0 ≤ s ∧ s ≤ 20000 ∧
     tm = [(7, .c (.int .i64 (j))), (6, .ptr 2 0), (4, .ptr 1 0), (2, .ptr 0 0), (1, .c (.sl 4 48 (tcs l)))] ∧ H = [.box [.c (.int .i64 (u1)), .c (.int .i64 (u2)), .c (.int .i64 (u3)), .c (.sl 4 48 (tcs us))], .box [.c (.int .i64 (0)), .c (.int .i64 (0)), .c (.int .i64 (0)), .nil], .box [.c (.int .i64 (s))]])
    l.length _ _ ⟨0, k, l', n, ts, 0, by omega, by rw [hA]; rfl, hc, Int.le_refl 0, by omega, rfl, rfl⟩ (Wk.sl [0, 1, 2] rfl ⟨rfl, rfl, rfl, trivial⟩ ⟨rfl, rfl, rfl, rfl, rfl, trivial⟩ rfl) ?_
   rintro m tm H ⟨j, u1, u2, u3, us, s, hj, hR, hpu, hs0, hs1, rfl, rfl⟩
   conv => whnf
   repeat ((first | (refine aI ?_ ?_; focus exact sI) | refine dI sK ?_ | (refine yI ?_ ?_; focus exact sY) | (refine nI ?_ ?_; focus exact sY) | intro _); conv => whnf)
   refine ⟨fun hlt => ?_, fun hlt => ?_⟩
   ·replace hlt : (j : Int) < (tcs l).length := of_decide_eq_true hlt
    obtain ⟨x, hx⟩ := get_some (show j < l.length by omega)
    have hxc := tcs_at l j x hx
    have hst := cRStep (.mk u1 u2 u3 us) x hpu (hlp x (List.mem_of_getElem? hx)) s hs0 hs1
    rw [drop_at hx, instL] at hR
    have hok := fun v s1 => @stepR_ok s (.mk u1 u2 u3 us) x v s1
    have her := fun e => @stepR_er s (.mk u1 u2 u3 us) x e
    obtain ⟨Z, hZ⟩ : ∃ Z, Z = stepR s (.mk u1 u2 u3 us) x := ⟨_, rfl⟩
    rw [← hZ] at hR hst hok her
    clear hZ
    cases Z with
    | er e =>
     have he := her e rfl
     have ez : decide (e = 0) = false := decide_eq_false he
     replace hR : A = .er e := hR
     subst hR
     replace hst : CallSt Tryz.prog 118 [.ptr 0 0, tv (.mk u1 u2 u3 us), tv x] (cnH s) (fun r H' => r = .tup [tv zT, .c (.int .i64 (e))] ∧ ∃ s, H' = cnH s) := hst
     obtain ⟨x1, x2, x3, x4⟩ := x
     rw [tv_mk, tv_mk] at hst
     conv => whnf
     repeat ((first | (refine aI ?_ ?_; focus exact sI) | refine dI sK ?_ | (refine yI ?_ ?_; focus exact sY) | (refine nI ?_ ?_; focus exact sY) | intro _); conv => whnf)
     refine ⟨_, ⟨by omega, by simpa using hxc⟩, ?_⟩
     conv => whnf
     refine ⟨Nat.le_refl 4, ?_⟩
     conv => whnf
     (refine And.intro ?_ ?_ <;> conv => whnf)
     all_goals
      try (refine dI sK ?_; conv => whnf)
      first | refine CallSt.use hst [2] ⟨rfl, trivial⟩ (by decide) rfl ?_ | refine CallPt.useS hst [2] ⟨rfl, trivial⟩ (by decide) rfl ?_
      rintro _ _ ⟨rfl, s2, rfl⟩ _
      conv => whnf
      repeat ((first | (refine aI ?_ ?_; focus exact sI) | refine dI sK ?_ | (refine yI ?_ ?_; focus exact sY) | (refine nI ?_ ?_; focus exact sY) | intro _); conv => whnf)
      rw [ez]
      (refine yI ?_ ?_; (focus exact sY); conv => whnf)
      repeat ((first | (refine aI ?_ ?_; focus exact sI) | refine dI sK ?_ | (refine yI ?_ ?_; focus exact sY) | (refine nI ?_ ?_; focus exact sY) | intro _); conv => whnf)
      all_goals exact sR
    | ok v s1 =>
     obtain ⟨hv1, hv2, hv3⟩ := hok v s1 rfl
     replace hR : A = instL v (l.drop (j + 1)) s1 := hR
     replace hst : CallSt Tryz.prog 118 [.ptr 0 0, tv (.mk u1 u2 u3 us), tv x] (cnH s) (fun r H' => r = .tup [tv v, .c (.int .i64 (0))] ∧ H' = cnH s1) := hst
     obtain ⟨x1, x2, x3, x4⟩ := x
     obtain ⟨v1, v2, v3, v4⟩ := v
     rw [tv_mk, tv_mk, tv_mk] at hst
     conv => whnf
     repeat ((first | (refine aI ?_ ?_; focus exact sI) | refine dI sK ?_ | (refine yI ?_ ?_; focus exact sY) | (refine nI ?_ ?_; focus exact sY) | intro _); conv => whnf)
     refine ⟨_, ⟨by omega, by simpa using hxc⟩, ?_⟩
     conv => whnf
     refine ⟨Nat.le_refl 4, ?_⟩
     conv => whnf
     (refine And.intro ?_ ?_ <;> conv => whnf)
     all_goals
      try (refine dI sK ?_; conv => whnf)
      first | refine CallSt.use hst [2] ⟨rfl, trivial⟩ (by decide) rfl ?_ | refine CallPt.useS hst [2] ⟨rfl, trivial⟩ (by decide) rfl ?_
      rintro _ _ ⟨rfl, rfl⟩ _
      conv => whnf
      repeat ((first | (refine aI ?_ ?_; focus exact sI) | refine dI sK ?_ | (refine yI ?_ ?_; focus exact sY) | (refine nI ?_ ?_; focus exact sY) | intro _); conv => whnf)
      exact ⟨m - 1, _, _, by omega, ⟨j + 1, v1, v2, v3, v4, s1, by omega, hR, hv1, by omega, hv3, rfl, rfl⟩, Wk.sl [0, 1, 2] rfl ⟨rfl, rfl, rfl, trivial⟩ ⟨rfl, rfl, rfl, rfl, rfl, trivial⟩ rfl⟩
   ·replace hlt : ¬ (j : Int) < (tcs l).length := of_decide_eq_false hlt
    rw [List.drop_eq_nil_of_le (by omega), instL] at hR
    subst hR
    conv => whnf
    repeat ((first | (refine aI ?_ ?_; focus exact sI) | refine dI sK ?_ | (refine yI ?_ ?_; focus exact sY) | (refine nI ?_ ?_; focus exact sY) | intro _); conv => whnf)
    all_goals exact sR
end Go.Tr
/- The reference kernel's Proper; the law's helpers. -/
namespace Go.Tr
open Go.Proofs
def con6 (n : Int) (ts : List Term) : Term := .mk 4 2 n ts
def vr6 (n : Int) (ts : List Term) : Term := .mk 4 1 n ts
def lam6 (a : Term) : Term := .mk 3 0 0 [a]
def pi6 (a b : Term) : Term := .mk 2 0 0 [a, b]
theorem cCon6 (n : Int) (ts : List Term) : CallSt Tryz.prog 40 [.c (.int .i64 (n)), .c (.sl 4 48 (tcs ts))] [] (fun r H' => r = tv (con6 n ts) ∧ H' = []) := by
 refine call_pure (E := env 0) (fn := Tryz.f40) (c := bodyOf Tryz.f40) (env_ok 0) mixed sK sK sK sK sK sK rfl ?_
 conv => whnf
 repeat ((first | (refine aI ?_ ?_; focus exact sI) | refine dI sK ?_ | (refine yI ?_ ?_; focus exact sY) | (refine nI ?_ ?_; focus exact sY) | intro _); conv => whnf)
 all_goals exact sR
theorem cVr6 (n : Int) (ts : List Term) : CallSt Tryz.prog 43 [.c (.int .i64 (n)), .c (.sl 4 48 (tcs ts))] [] (fun r H' => r = tv (vr6 n ts) ∧ H' = []) := by
 refine call_pure (E := env 0) (fn := Tryz.f43) (c := bodyOf Tryz.f43) (env_ok 0) mixed sK sK sK sK sK sK rfl ?_
 conv => whnf
 repeat ((first | (refine aI ?_ ?_; focus exact sI) | refine dI sK ?_ | (refine yI ?_ ?_; focus exact sY) | (refine nI ?_ ?_; focus exact sY) | intro _); conv => whnf)
 all_goals exact sR
theorem cLam6 (a : Term) : CallSt Tryz.prog 42 [tv a] [] (fun r H' => r = tv (lam6 a) ∧ H' = []) := by
 obtain ⟨k, l, n, ts⟩ := a
 rw [tv_mk]
 refine call_pure (E := env 0) (fn := Tryz.f42) (c := bodyOf Tryz.f42) (env_ok 0) mixed sK sK sK sK sK sK rfl ?_
 conv => whnf
 repeat ((first | (refine aI ?_ ?_; focus exact sI) | refine dI sK ?_ | (refine yI ?_ ?_; focus exact sY) | (refine nI ?_ ?_; focus exact sY) | intro _); conv => whnf)
 all_goals exact sR
theorem cPi6 (a b : Term) : CallSt Tryz.prog 44 [tv a, tv b] [] (fun r H' => r = tv (pi6 a b) ∧ H' = []) := by
 obtain ⟨k, l, n, ts⟩ := a
 obtain ⟨k2, l2, n2, us⟩ := b
 rw [tv_mk, tv_mk]
 refine call_pure (E := env 0) (fn := Tryz.f44) (c := bodyOf Tryz.f44) (env_ok 0) mixed sK sK sK sK sK sK rfl ?_
 conv => whnf
 repeat ((first | (refine aI ?_ ?_; focus exact sI) | refine dI sK ?_ | (refine yI ?_ ?_; focus exact sY) | (refine nI ?_ ?_; focus exact sY) | intro _); conv => whnf)
 all_goals exact sR
theorem cRProper6 (l : List Term) : CallSt Tryz.prog 59 [.c (.sl 4 48 (tcs l))] [] (fun r H' => r = .c (.bool (l.all prop)) ∧ H' = []) := by
 have hll := len_tcs l
 refine call_pure (E := env 0) (fn := Tryz.f59) (c := bodyOf Tryz.f59) (env_ok 0) mixed sK sK sK sK sK sK rfl ?_
 conv => whnf
 repeat ((first | (refine aI ?_ ?_; focus exact sI) | refine dI sK ?_ | (refine yI ?_ ?_; focus exact sY) | (refine nI ?_ ?_; focus exact sY) | intro _); conv => whnf)
 refine loop_intro (fun m tm H => ∃ j : Nat, l.length = m + j ∧ (∀ (q : Nat) t, q < j → l[q]? = some t → prop t = true) ∧ tm = [(3, .c (.int .i64 (j))), (0, .c (.sl 4 48 (tcs l)))] ∧ H = [])
  l.length _ _ ⟨0, by omega, fun q t h => absurd h (by omega), rfl, rfl⟩ (Wk.sl [] rfl trivial ⟨rfl, rfl, trivial⟩ rfl) ?_
 rintro m tm H ⟨j, hj, hall, rfl, rfl⟩
 conv => whnf
 repeat ((first | (refine aI ?_ ?_; focus exact sI) | refine dI sK ?_ | (refine yI ?_ ?_; focus exact sY) | (refine nI ?_ ?_; focus exact sY) | intro _); conv => whnf)
 refine ⟨fun hc => ?_, fun hc => ?_⟩
 ·replace hc : (j : Int) < (tcs l).length := of_decide_eq_true hc
  obtain ⟨u, hu⟩ : ∃ u, l[j]? = some u := ⟨l[j]'(by omega), List.getElem?_eq_getElem (by omega)⟩
  have huc := tcs_at l j u hu
  have hp := cRProper u
  cases hpu : prop u with
  | true =>
   have hnx : ∀ (q : Nat) t, q < j + 1 → l[q]? = some t → prop t = true := fun q t hq ht => by
    by_cases e : q < j
    ·exact hall q t e ht
    ·obtain rfl : q = j := by omega
     rw [hu] at ht
     injection ht with ht
     exact ht ▸ hpu
   rw [hpu] at hp
   clear hpu
   obtain ⟨k', l', n', us⟩ := u
   rw [tv_mk] at hp
   conv => whnf
   repeat ((first | (refine aI ?_ ?_; focus exact sI) | refine dI sK ?_ | (refine yI ?_ ?_; focus exact sY) | (refine nI ?_ ?_; focus exact sY) | intro _); conv => whnf)
   refine ⟨_, ⟨by omega, by simpa using huc⟩, ?_⟩
   conv => whnf
   refine ⟨Nat.le_refl 4, ?_⟩
   conv => whnf
   repeat ((first | (refine aI ?_ ?_; focus exact sI) | refine dI sK ?_ | (refine yI ?_ ?_; focus exact sY) | (refine nI ?_ ?_; focus exact sY) | intro _); conv => whnf)
   try (refine dI sK ?_; conv => whnf)
   first | refine u0 hp ?_ | refine v0 hp ?_
   rintro _ _ ⟨rfl, rfl⟩ _
   conv => whnf
   repeat ((first | (refine aI ?_ ?_; focus exact sI) | refine dI sK ?_ | (refine yI ?_ ?_; focus exact sY) | (refine nI ?_ ?_; focus exact sY) | intro _); conv => whnf)
   have hlen : (tcs l).length * 48 ≤ 140737488355328 := ‹gd [] true ((tcs l).length * 48 ≤ 140737488355328)›
   refine ⟨show inR _ by unfold inR; omega, ?_⟩
   conv => whnf
   repeat ((first | (refine aI ?_ ?_; focus exact sI) | refine dI sK ?_ | (refine yI ?_ ?_; focus exact sY) | (refine nI ?_ ?_; focus exact sY) | intro _); conv => whnf)
   exact ⟨m - 1, _, _, by omega, ⟨j + 1, by omega, hnx, rfl, rfl⟩, Wk.sl [] rfl trivial ⟨rfl, rfl, trivial⟩ rfl⟩
  | false =>
   have e : l.all prop = false := List.all_eq_false.2 ⟨u, List.mem_of_getElem? hu, by rw [hpu]; decide⟩
   rw [hpu] at hp
   rw [e]
   clear hpu
   obtain ⟨k', l', n', us⟩ := u
   rw [tv_mk] at hp
   conv => whnf
   repeat ((first | (refine aI ?_ ?_; focus exact sI) | refine dI sK ?_ | (refine yI ?_ ?_; focus exact sY) | (refine nI ?_ ?_; focus exact sY) | intro _); conv => whnf)
   refine ⟨_, ⟨by omega, by simpa using huc⟩, ?_⟩
   conv => whnf
   refine ⟨Nat.le_refl 4, ?_⟩
   conv => whnf
   repeat ((first | (refine aI ?_ ?_; focus exact sI) | refine dI sK ?_ | (refine yI ?_ ?_; focus exact sY) | (refine nI ?_ ?_; focus exact sY) | intro _); conv => whnf)
   try (refine dI sK ?_; conv => whnf)
   first | refine u0 hp ?_ | refine v0 hp ?_
   rintro _ _ ⟨rfl, rfl⟩ _
   conv => whnf
   repeat ((first | (refine aI ?_ ?_; focus exact sI) | refine dI sK ?_ | (refine yI ?_ ?_; focus exact sY) | (refine nI ?_ ?_; focus exact sY) | intro _); conv => whnf)
   all_goals exact sR
 ·replace hc : ¬ (j : Int) < (tcs l).length := of_decide_eq_false hc
  have e : l.all prop = true := List.all_eq_true.2 fun t ht => by
   obtain ⟨i, hi⟩ := List.mem_iff_getElem?.1 ht
   exact hall i t (by have := (List.getElem?_eq_some_iff.1 hi).1; omega) hi
  rw [e]
  conv => whnf
  repeat ((first | (refine aI ?_ ?_; focus exact sI) | refine dI sK ?_ | (refine yI ?_ ?_; focus exact sY) | (refine nI ?_ ?_; focus exact sY) | intro _); conv => whnf)
  all_goals exact sR
end Go.Tr
/- Metavariables; the reference kernel's MetasOK. -/
namespace Go.Tr
open Go.Proofs
def tabM6 : List (Nat × TyD) := [
 (110, ⟨10, 120, .struct [(0, 9), (1, 28), (5, 4), (6, 28)], [.string ⟨#[]⟩, .int .i64 0, .int .i64 0, .int .i64 0, .slice none 0 0, .bool false, .int .i64 0, .int .i64 0, .int .i64 0, .slice none 0 0], [9, 3, 3, 3, 24, 4, 3, 3, 3, 24]⟩),
 (23, ⟨1, 24, .slice 110, [.slice none 0 0], [23]⟩),
 (9, ⟨1, 16, .str, [.string ⟨#[]⟩], [9]⟩),
 (28, ⟨4, 48, .struct [(0, 3), (1, 3), (2, 3), (3, 24)], [.int .i64 0, .int .i64 0, .int .i64 0, .slice none 0 0], [3, 3, 3, 24]⟩),
 (4, ⟨1, 1, .bool, [.bool false], [4]⟩),
 (3, ⟨1, 8, .int .i64, [.int .i64 0], [3]⟩),
 (24, ⟨1, 24, .slice 28, [.slice none 0 0], [24]⟩)] ++ tab
def envM6 (n : Nat) : Env := ⟨lkT tabM6, keep, n, false, false, none, fun _ _ => none⟩
theorem envM6_ok (n : Nat) : EnvOk Tryz.prog (envM6 n) := EnvOk.of (l := tabM6) rfl (by kernel_rfl)
structure Mta where
 nm : ByteArray
 cl : Term
 so : Bool
 vl : Term
def mc (d : Mta) : List CV := [.str d.nm, .int .i64 d.cl.k, .int .i64 d.cl.l, .int .i64 d.cl.n, .sl 4 48 (tcs d.cl.ts), .bool d.so, .int .i64 d.vl.k, .int .i64 d.vl.l, .int .i64 d.vl.n, .sl 4 48 (tcs d.vl.ts)]
def mcs (l : List Mta) : List (List CV) := l.map mc
theorem len_mcs (l : List Mta) : (mcs l).length = l.length := by simp [mcs]
theorem mcs_at {l : List Mta} {i : Nat} {d : Mta} (h : l[i]? = some d) : (mcs l)[i]? = some (mc d) := by simp [mcs, h]
def metaOk (d : Mta) : Bool := prop d.cl && decide (conF 1 d.cl = [])
def metasR (l : List Mta) : Bool := decide (l.length ≤ 80) && l.all metaOk
theorem cRMetas6 (l : List Mta) : CallSt Tryz.prog 58 [.c (.sl 10 120 (mcs l))] [] (fun r H' => r = .c (.bool (metasR l)) ∧ H' = []) := by
 have hll := len_mcs l
 unfold metasR
 by_cases hl : l.length ≤ 80
 ·rw [decide_eq_true hl, Bool.true_and]
  have e6 : decide (((mcs l).length : Int) ≤ 80) = true := decide_eq_true (by omega)
  refine call_pure (E := envM6 0) (fn := Tryz.f58) (c := bodyOf Tryz.f58) (envM6_ok 0) mixed sK sK sK sK sK sK rfl ?_
  conv => whnf
  repeat ((first | (refine aI ?_ ?_; focus exact sI) | refine dI sK ?_ | (refine yI ?_ ?_; focus exact sY) | (refine nI ?_ ?_; focus exact sY) | intro _); conv => whnf)
  refine loop_intro (fun m tm H => ∃ j : Nat, l.length = m + j ∧ (∀ (q : Nat) t, q < j → l[q]? = some t → metaOk t = true) ∧ tm = [(3, .c (.int .i64 (j))), (0, .c (.sl 10 120 (mcs l)))] ∧ H = [])
   l.length _ _ ⟨0, by omega, fun q t h => absurd h (by omega), rfl, rfl⟩ (Wk.sl [] rfl trivial ⟨rfl, rfl, trivial⟩ rfl) ?_
  rintro m tm H ⟨j, hj, hall, rfl, rfl⟩
  conv => whnf
  repeat ((first | (refine aI ?_ ?_; focus exact sI) | refine dI sK ?_ | (refine yI ?_ ?_; focus exact sY) | (refine nI ?_ ?_; focus exact sY) | intro _); conv => whnf)
  rw [e6]
  refine ⟨fun hc => ?_, fun hc => ?_⟩
  ·rw [Bool.and_true] at hc
   replace hc : (j : Int) < (mcs l).length := of_decide_eq_true hc
   obtain ⟨u, hu⟩ : ∃ u, l[j]? = some u := ⟨l[j]'(by omega), List.getElem?_eq_getElem (by omega)⟩
   have huc := mcs_at hu
   have hp := cRProper u.cl
   cases hpu : prop u.cl with
   | true =>
    have hfr := cRFree hpu
    have hmk : metaOk u = decide (conF 1 u.cl = []) := by unfold metaOk; rw [hpu, Bool.true_and]
    rw [hpu] at hp
    clear hpu
    obtain ⟨us, ⟨k', l', n', ts⟩, ub, uv⟩ := u
    rw [tv_mk] at hp hfr
    conv => whnf
    repeat ((first | (refine aI ?_ ?_; focus exact sI) | refine dI sK ?_ | (refine yI ?_ ?_; focus exact sY) | (refine nI ?_ ?_; focus exact sY) | intro _); conv => whnf)
    refine ⟨_, ⟨by omega, huc⟩, ?_⟩
    conv => whnf
    refine ⟨show 4 ≤ 9 by decide, ?_⟩
    conv => whnf
    repeat ((first | (refine aI ?_ ?_; focus exact sI) | refine dI sK ?_ | (refine yI ?_ ?_; focus exact sY) | (refine nI ?_ ?_; focus exact sY) | intro _); conv => whnf)
    try (refine dI sK ?_; conv => whnf)
    first | refine u0 hp ?_ | refine v0 hp ?_
    rintro _ _ ⟨rfl, rfl⟩ _
    conv => whnf
    repeat ((first | (refine aI ?_ ?_; focus exact sI) | refine dI sK ?_ | (refine yI ?_ ?_; focus exact sY) | (refine nI ?_ ?_; focus exact sY) | intro _); conv => whnf)
    refine ⟨_, fun _ => ⟨by omega, huc⟩, ?_⟩
    conv => whnf
    repeat ((first | (refine aI ?_ ?_; focus exact sI) | refine dI sK ?_ | (refine yI ?_ ?_; focus exact sY) | (refine nI ?_ ?_; focus exact sY) | intro _); conv => whnf)
    try (refine dI sK ?_; conv => whnf)
    first | refine u0 hfr ?_ | refine v0 hfr ?_
    rintro _ _ ⟨rfl, rfl⟩ _
    conv => whnf
    repeat ((first | (refine aI ?_ ?_; focus exact sI) | refine dI sK ?_ | (refine yI ?_ ?_; focus exact sY) | (refine nI ?_ ?_; focus exact sY) | intro _); conv => whnf)
    cases hF : conF 1 (Mta.cl ⟨us, .mk k' l' n' ts, ub, uv⟩) with
    | nil =>
     rw [hF] at hmk
     have hnx : ∀ (q : Nat) t, q < j + 1 → l[q]? = some t → metaOk t = true := fun q t hq ht => by
      by_cases e : q < j
      ·exact hall q t e ht
      ·obtain rfl : q = j := by omega
       rw [hu] at ht
       injection ht with ht
       rw [← ht, hmk]
       rfl
     rw [show decide ((0 : Int) < ((rowI []).length : Int)) = false from rfl]
     (refine ⟨fun h => absurd h (by simp), fun _ => ?_⟩; conv => whnf)
     repeat ((first | (refine aI ?_ ?_; focus exact sI) | refine dI sK ?_ | (refine yI ?_ ?_; focus exact sY) | (refine nI ?_ ?_; focus exact sY) | intro _); conv => whnf)
     exact ⟨m - 1, _, _, by omega, ⟨j + 1, by omega, hnx, rfl, rfl⟩, Wk.sl [] rfl trivial ⟨rfl, rfl, trivial⟩ rfl⟩
    | cons z zs =>
     rw [hF] at hmk
     have e : l.all metaOk = false := List.all_eq_false.2 ⟨_, List.mem_of_getElem? hu, by rw [hmk]; simp⟩
     rw [e, show decide ((0 : Int) < ((rowI (z :: zs)).length : Int)) = true from decide_eq_true (by simp [rowI])]
     (refine ⟨fun _ => ?_, fun h => absurd h (by simp)⟩; conv => whnf)
     repeat ((first | (refine aI ?_ ?_; focus exact sI) | refine dI sK ?_ | (refine yI ?_ ?_; focus exact sY) | (refine nI ?_ ?_; focus exact sY) | intro _); conv => whnf)
     all_goals exact sR
   | false =>
    have e : l.all metaOk = false := List.all_eq_false.2 ⟨u, List.mem_of_getElem? hu, by unfold metaOk; rw [hpu, Bool.false_and]; decide⟩
    rw [hpu] at hp
    rw [e]
    clear hpu
    obtain ⟨us, ⟨k', l', n', ts⟩, ub, uv⟩ := u
    rw [tv_mk] at hp
    conv => whnf
    repeat ((first | (refine aI ?_ ?_; focus exact sI) | refine dI sK ?_ | (refine yI ?_ ?_; focus exact sY) | (refine nI ?_ ?_; focus exact sY) | intro _); conv => whnf)
    refine ⟨_, ⟨by omega, huc⟩, ?_⟩
    conv => whnf
    refine ⟨show 4 ≤ 9 by decide, ?_⟩
    conv => whnf
    repeat ((first | (refine aI ?_ ?_; focus exact sI) | refine dI sK ?_ | (refine yI ?_ ?_; focus exact sY) | (refine nI ?_ ?_; focus exact sY) | intro _); conv => whnf)
    try (refine dI sK ?_; conv => whnf)
    first | refine u0 hp ?_ | refine v0 hp ?_
    rintro _ _ ⟨rfl, rfl⟩ _
    conv => whnf
    repeat ((first | (refine aI ?_ ?_; focus exact sI) | refine dI sK ?_ | (refine yI ?_ ?_; focus exact sY) | (refine nI ?_ ?_; focus exact sY) | intro _); conv => whnf)
    refine ⟨_, fun _ => ⟨by omega, huc⟩, ?_⟩
    conv => whnf
    refine ⟨show 4 ≤ 9 by decide, ?_⟩
    conv => whnf
    repeat ((first | (refine aI ?_ ?_; focus exact sI) | refine dI sK ?_ | (refine yI ?_ ?_; focus exact sY) | (refine nI ?_ ?_; focus exact sY) | intro _); conv => whnf)
    all_goals exact sR
  ·rw [Bool.and_true] at hc
   replace hc : ¬ (j : Int) < (mcs l).length := of_decide_eq_false hc
   have e : l.all metaOk = true := List.all_eq_true.2 fun t ht => by
    obtain ⟨i, hi⟩ := List.mem_iff_getElem?.1 ht
    exact hall i t (by have := (List.getElem?_eq_some_iff.1 hi).1; omega) hi
   rw [e]
   conv => whnf
   repeat ((first | (refine aI ?_ ?_; focus exact sI) | refine dI sK ?_ | (refine yI ?_ ?_; focus exact sY) | (refine nI ?_ ?_; focus exact sY) | intro _); conv => whnf)
   exact ⟨congrArg (fun z => AV.c (.bool z)) e6, rfl⟩
 ·rw [decide_eq_false hl, Bool.false_and]
  have e6 : decide (((mcs l).length : Int) ≤ 80) = false := decide_eq_false (by omega)
  refine call_pure (E := envM6 0) (fn := Tryz.f58) (c := bodyOf Tryz.f58) (envM6_ok 0) mixed sK sK sK sK sK sK rfl ?_
  conv => whnf
  repeat ((first | (refine aI ?_ ?_; focus exact sI) | refine dI sK ?_ | (refine yI ?_ ?_; focus exact sY) | (refine nI ?_ ?_; focus exact sY) | intro _); conv => whnf)
  refine loop_intro (fun m tm H => tm = [(3, .c (.int .i64 (0))), (0, .c (.sl 10 120 (mcs l)))] ∧ H = []) 0 _ _ ⟨rfl, rfl⟩ (Wk.sl [] rfl trivial ⟨rfl, rfl, trivial⟩ rfl) ?_
  rintro m tm H ⟨rfl, rfl⟩
  conv => whnf
  repeat ((first | (refine aI ?_ ?_; focus exact sI) | refine dI sK ?_ | (refine yI ?_ ?_; focus exact sY) | (refine nI ?_ ?_; focus exact sY) | intro _); conv => whnf)
  rw [e6, Bool.and_false]
  (refine nI ?_ ?_; (focus exact sY); conv => whnf)
  repeat ((first | (refine aI ?_ ?_; focus exact sI) | refine dI sK ?_ | (refine yI ?_ ?_; focus exact sY) | (refine nI ?_ ?_; focus exact sY) | intro _); conv => whnf)
  exact ⟨congrArg (fun z => AV.c (.bool z)) e6, rfl⟩
end Go.Tr
/- The reference kernel's OK. -/
namespace Go.Tr
open Go.Proofs
def okR (sig : List Dcl) (ms : List Mta) (cx l : List Term) : Bool := checkB sig && (metasR ms && (decide (cx.length ≤ 30) && (cx.all prop && l.all prop)))
theorem cROk6 (sig : List Dcl) (ms : List Mta) (cx l : List Term) : CallSt Tryz.prog 23 [.c (.sl 6 72 (dcs sig)), .c (.sl 10 120 (mcs ms)), .c (.sl 4 48 (tcs cx)), .c (.sl 4 48 (tcs l))] [] (fun r H' => r = .c (.bool (okR sig ms cx l)) ∧ H' = []) := by
 have h1 := cRFormed sig
 have h2 := cRMetas6 ms
 have h3 := cRProper6 cx
 have h4 := cRProper6 l
 have hll := len_tcs cx
 unfold okR
 have e3 : decide (((tcs cx).length : Int) ≤ 30) = decide (cx.length ≤ 30) := by by_cases h : cx.length ≤ 30 <;> simp [h] <;> omega
 generalize checkB sig = b1 at *
 generalize metasR ms = b2 at *
 generalize cx.all prop = b4 at *
 generalize l.all prop = b5 at *
 generalize decide (cx.length ≤ 30) = b3 at *
 cases b1 with
 | false =>
  refine call_pure (E := envM6 0) (fn := Tryz.f23) (c := bodyOf Tryz.f23) (envM6_ok 0) mixed sK sK sK sK sK sK rfl ?_
  conv => whnf
  repeat ((first | (refine aI ?_ ?_; focus exact sI) | refine dI sK ?_ | (refine yI ?_ ?_; focus exact sY) | (refine nI ?_ ?_; focus exact sY) | intro _); conv => whnf)
  try (refine dI sK ?_; conv => whnf)
  first | refine u0 h1 ?_ | refine v0 h1 ?_
  rintro _ _ ⟨rfl, rfl⟩ _
  conv => whnf
  (refine ⟨fun h => absurd h (by simp), fun _ => ?_⟩; conv => whnf)
  repeat ((first | (refine aI ?_ ?_; focus exact sI) | refine dI sK ?_ | (refine yI ?_ ?_; focus exact sY) | (refine nI ?_ ?_; focus exact sY) | intro _); conv => whnf)
  first | exact ⟨rfl, rfl⟩ | rfl
 | true =>
  cases b2 with
  | false =>
   refine call_pure (E := envM6 0) (fn := Tryz.f23) (c := bodyOf Tryz.f23) (envM6_ok 0) mixed sK sK sK sK sK sK rfl ?_
   conv => whnf
   repeat ((first | (refine aI ?_ ?_; focus exact sI) | refine dI sK ?_ | (refine yI ?_ ?_; focus exact sY) | (refine nI ?_ ?_; focus exact sY) | intro _); conv => whnf)
   try (refine dI sK ?_; conv => whnf)
   first | refine u0 h1 ?_ | refine v0 h1 ?_
   rintro _ _ ⟨rfl, rfl⟩ _
   conv => whnf
   (refine ⟨fun _ => ?_, fun h => absurd h (by simp)⟩; conv => whnf)
   try (refine dI sK ?_; conv => whnf)
   first | refine u0 h2 ?_ | refine v0 h2 ?_
   rintro _ _ ⟨rfl, rfl⟩ _
   conv => whnf
   try rw [e3]
   repeat ((first | (refine aI ?_ ?_; focus exact sI) | refine dI sK ?_ | (refine yI ?_ ?_; focus exact sY) | (refine nI ?_ ?_; focus exact sY) | intro _); conv => whnf)
   try rw [e3]
   repeat ((first | (refine aI ?_ ?_; focus exact sI) | refine dI sK ?_ | (refine yI ?_ ?_; focus exact sY) | (refine nI ?_ ?_; focus exact sY) | intro _); conv => whnf)
   first | exact ⟨rfl, rfl⟩ | rfl
  | true =>
   cases b3 with
   | false =>
    refine call_pure (E := envM6 0) (fn := Tryz.f23) (c := bodyOf Tryz.f23) (envM6_ok 0) mixed sK sK sK sK sK sK rfl ?_
    conv => whnf
    repeat ((first | (refine aI ?_ ?_; focus exact sI) | refine dI sK ?_ | (refine yI ?_ ?_; focus exact sY) | (refine nI ?_ ?_; focus exact sY) | intro _); conv => whnf)
    try (refine dI sK ?_; conv => whnf)
    first | refine u0 h1 ?_ | refine v0 h1 ?_
    rintro _ _ ⟨rfl, rfl⟩ _
    conv => whnf
    (refine ⟨fun _ => ?_, fun h => absurd h (by simp)⟩; conv => whnf)
    try (refine dI sK ?_; conv => whnf)
    first | refine u0 h2 ?_ | refine v0 h2 ?_
    rintro _ _ ⟨rfl, rfl⟩ _
    conv => whnf
    try rw [e3]
    repeat ((first | (refine aI ?_ ?_; focus exact sI) | refine dI sK ?_ | (refine yI ?_ ?_; focus exact sY) | (refine nI ?_ ?_; focus exact sY) | intro _); conv => whnf)
    try rw [e3]
    repeat ((first | (refine aI ?_ ?_; focus exact sI) | refine dI sK ?_ | (refine yI ?_ ?_; focus exact sY) | (refine nI ?_ ?_; focus exact sY) | intro _); conv => whnf)
    first | exact ⟨rfl, rfl⟩ | rfl
   | true =>
    cases b4 with
    | false =>
     refine call_pure (E := envM6 0) (fn := Tryz.f23) (c := bodyOf Tryz.f23) (envM6_ok 0) mixed sK sK sK sK sK sK rfl ?_
     conv => whnf
     repeat ((first | (refine aI ?_ ?_; focus exact sI) | refine dI sK ?_ | (refine yI ?_ ?_; focus exact sY) | (refine nI ?_ ?_; focus exact sY) | intro _); conv => whnf)
     try (refine dI sK ?_; conv => whnf)
     first | refine u0 h1 ?_ | refine v0 h1 ?_
     rintro _ _ ⟨rfl, rfl⟩ _
     conv => whnf
     (refine ⟨fun _ => ?_, fun h => absurd h (by simp)⟩; conv => whnf)
     try (refine dI sK ?_; conv => whnf)
     first | refine u0 h2 ?_ | refine v0 h2 ?_
     rintro _ _ ⟨rfl, rfl⟩ _
     conv => whnf
     try rw [e3]
     repeat ((first | (refine aI ?_ ?_; focus exact sI) | refine dI sK ?_ | (refine yI ?_ ?_; focus exact sY) | (refine nI ?_ ?_; focus exact sY) | intro _); conv => whnf)
     try rw [e3]
     (refine ⟨fun _ => ?_, fun h => absurd h (by simp)⟩; conv => whnf)
     try (refine dI sK ?_; conv => whnf)
     first | refine u0 h3 ?_ | refine v0 h3 ?_
     rintro _ _ ⟨rfl, rfl⟩ _
     conv => whnf
     repeat ((first | (refine aI ?_ ?_; focus exact sI) | refine dI sK ?_ | (refine yI ?_ ?_; focus exact sY) | (refine nI ?_ ?_; focus exact sY) | intro _); conv => whnf)
     first | exact ⟨rfl, rfl⟩ | rfl
    | true =>
     cases b5 with
     | false =>
      refine call_pure (E := envM6 0) (fn := Tryz.f23) (c := bodyOf Tryz.f23) (envM6_ok 0) mixed sK sK sK sK sK sK rfl ?_
      conv => whnf
      repeat ((first | (refine aI ?_ ?_; focus exact sI) | refine dI sK ?_ | (refine yI ?_ ?_; focus exact sY) | (refine nI ?_ ?_; focus exact sY) | intro _); conv => whnf)
      try (refine dI sK ?_; conv => whnf)
      first | refine u0 h1 ?_ | refine v0 h1 ?_
      rintro _ _ ⟨rfl, rfl⟩ _
      conv => whnf
      (refine ⟨fun _ => ?_, fun h => absurd h (by simp)⟩; conv => whnf)
      try (refine dI sK ?_; conv => whnf)
      first | refine u0 h2 ?_ | refine v0 h2 ?_
      rintro _ _ ⟨rfl, rfl⟩ _
      conv => whnf
      try rw [e3]
      repeat ((first | (refine aI ?_ ?_; focus exact sI) | refine dI sK ?_ | (refine yI ?_ ?_; focus exact sY) | (refine nI ?_ ?_; focus exact sY) | intro _); conv => whnf)
      try rw [e3]
      (refine ⟨fun _ => ?_, fun h => absurd h (by simp)⟩; conv => whnf)
      try (refine dI sK ?_; conv => whnf)
      first | refine u0 h3 ?_ | refine v0 h3 ?_
      rintro _ _ ⟨rfl, rfl⟩ _
      conv => whnf
      repeat ((first | (refine aI ?_ ?_; focus exact sI) | refine dI sK ?_ | (refine yI ?_ ?_; focus exact sY) | (refine nI ?_ ?_; focus exact sY) | intro _); conv => whnf)
      try (refine dI sK ?_; conv => whnf)
      first | refine u0 h4 ?_ | refine v0 h4 ?_
      rintro _ _ ⟨rfl, rfl⟩ _
      conv => whnf
      repeat ((first | (refine aI ?_ ?_; focus exact sI) | refine dI sK ?_ | (refine yI ?_ ?_; focus exact sY) | (refine nI ?_ ?_; focus exact sY) | intro _); conv => whnf)
      first | exact ⟨rfl, rfl⟩ | rfl
     | true =>
      refine call_pure (E := envM6 0) (fn := Tryz.f23) (c := bodyOf Tryz.f23) (envM6_ok 0) mixed sK sK sK sK sK sK rfl ?_
      conv => whnf
      repeat ((first | (refine aI ?_ ?_; focus exact sI) | refine dI sK ?_ | (refine yI ?_ ?_; focus exact sY) | (refine nI ?_ ?_; focus exact sY) | intro _); conv => whnf)
      try (refine dI sK ?_; conv => whnf)
      first | refine u0 h1 ?_ | refine v0 h1 ?_
      rintro _ _ ⟨rfl, rfl⟩ _
      conv => whnf
      (refine ⟨fun _ => ?_, fun h => absurd h (by simp)⟩; conv => whnf)
      try (refine dI sK ?_; conv => whnf)
      first | refine u0 h2 ?_ | refine v0 h2 ?_
      rintro _ _ ⟨rfl, rfl⟩ _
      conv => whnf
      try rw [e3]
      repeat ((first | (refine aI ?_ ?_; focus exact sI) | refine dI sK ?_ | (refine yI ?_ ?_; focus exact sY) | (refine nI ?_ ?_; focus exact sY) | intro _); conv => whnf)
      try rw [e3]
      (refine ⟨fun _ => ?_, fun h => absurd h (by simp)⟩; conv => whnf)
      try (refine dI sK ?_; conv => whnf)
      first | refine u0 h3 ?_ | refine v0 h3 ?_
      rintro _ _ ⟨rfl, rfl⟩ _
      conv => whnf
      repeat ((first | (refine aI ?_ ?_; focus exact sI) | refine dI sK ?_ | (refine yI ?_ ?_; focus exact sY) | (refine nI ?_ ?_; focus exact sY) | intro _); conv => whnf)
      try (refine dI sK ?_; conv => whnf)
      first | refine u0 h4 ?_ | refine v0 h4 ?_
      rintro _ _ ⟨rfl, rfl⟩ _
      conv => whnf
      repeat ((first | (refine aI ?_ ?_; focus exact sI) | refine dI sK ?_ | (refine yI ?_ ?_; focus exact sY) | (refine nI ?_ ?_; focus exact sY) | intro _); conv => whnf)
      first | exact ⟨rfl, rfl⟩ | rfl
end Go.Tr
/- Levels, of the reference; Level. -/
namespace Go.Tr
open Go.Proofs
end Go.Tr
/- uses; Copy of a signature. -/
namespace Go.Tr
open Go.Proofs
end Go.Tr
/- Copy of a signature; Add. -/
namespace Go.Tr
open Go.Proofs
end Go.Tr
/- The judgements, plain: one model of both kernels. -/
namespace Go.Tr
structure Krn where
 sig : List Dcl
 ms : List Mta
def KOk (K : Krn) : Prop := (∀ e ∈ K.sig, prop e.c = true) ∧ (∀ m ∈ K.ms, prop m.cl = true) ∧ K.sig.length ≤ 1000 ∧ K.ms.length ≤ 1000
def COk (cx : List Term) : Prop := (∀ t ∈ cx, prop t = true) ∧ cx.length ≤ 30
def clsF (K : Krn) (cx : List Term) (l n : Int) : Term × Int :=
 if l = 1 then (match cx[cx.length - 1 - n.toNat]? with
  | some t => if n < cx.length then shiftF t (n + 1) 0 else (zT, 27)
  | none => (zT, 27))
 else if l = 2 then (match K.sig[n.toNat]? with
  | some d => if kindT d.c = true then (zT, 22) else (d.c, 0)
  | none => (zT, 27))
 else (match K.ms[n.toNat]? with
  | some d => (d.cl, 0)
  | none => (zT, 27))
def restF (p : Term × Int) : Term × Int := if p.2 ≠ 0 then (zT, p.2) else if p.1.k = 2 then (zT, 23) else (p.1, 0)
def appF (c : Term × Int) (f : Term → Term × Int) : Term × Int := if c.2 ≠ 0 then (zT, c.2) else restF (f c.1)
def eqF (a : Term) (p : Term × Int) : Int := if p.2 ≠ 0 then p.2 else if sameT a p.1 = true then 0 else 24
mutual
def objF (K : Krn) : Term → List Term → Term → Int
 | .mk k l n ts, cx, a =>
  if a.k = 2 then (if k = 4 then 23 else if k = 3 then (if 30 ≤ cx.length then 5 else (match a.ts with
   | A :: B :: _ => objH K ts (cx ++ [A]) B
   | _ => 22)) else 22)
  else if a.k = 4 then (if k = 3 then 23 else if k = 4 then eqF a (appF (clsF K cx l n) fun c => fitF K ts cx c) else 22)
  else 22
def objH (K : Krn) : List Term → List Term → Term → Int
 | [], _, _ => 22
 | m :: _, cx, a => objF K m cx a
def fitF (K : Krn) : List Term → List Term → Term → Term × Int
 | [], _, c => (c, 0)
 | m :: r, cx, c => if c.k = 2 then (match c.ts with
   | A :: _ => if objF K m cx A ≠ 0 then (zT, objF K m cx A) else if (instR c [m]).2 ≠ 0 then (zT, (instR c [m]).2) else fitF K r cx (instR c [m]).1
   | [] => (zT, 23))
  else (zT, 23)
end
def infF (K : Krn) (cx : List Term) (m : Term) : Term × Int := if m.k = 4 then appF (clsF K cx m.l m.n) fun c => fitF K m.ts cx c else (zT, 22)
def famF (K : Krn) (cx : List Term) (n : Int) (ts : List Term) : Int := match K.sig[n.toNat]? with
 | none => 27
 | some d => if kindT d.c = true then (if (fitF K ts cx d.c).2 ≠ 0 then (fitF K ts cx d.c).2 else if (fitF K ts cx d.c).1.k = 1 then 0 else 23) else 22
def typF (K : Krn) : Term → List Term → Int
 | .mk k l n ts, cx => if k = 2 then (match ts with
   | A :: B :: _ => if typF K A cx ≠ 0 then typF K A cx else if 30 ≤ cx.length then 5 else typF K B (cx ++ [A])
   | _ => 22)
  else if k = 4 ∧ l = 2 then famF K cx n ts else 22
def kndF (K : Krn) : Term → List Term → Int
 | .mk k _ _ ts, cx => if k = 1 then 0 else if k = 2 then (match ts with
   | A :: B :: _ => if typF K A cx ≠ 0 then typF K A cx else if 30 ≤ cx.length then 5 else kndF K B (cx ++ [A])
   | _ => 22)
  else 22
def ctxF (K : Krn) : List Term → List Term → Int
 | _, [] => 0
 | cx, a :: r => if typF K a cx ≠ 0 then typF K a cx else ctxF K (cx ++ [a]) r
def claF (K : Krn) (c : Term) : Int := if kindT c = true then kndF K c [] else typF K c []
def sigF (sig : List Dcl) : Nat → List Dcl → Int × Int
 | i, [] => (i, 0)
 | i, d :: r => if claF ⟨sig.take i, []⟩ d.c ≠ 0 then (i, claF ⟨sig.take i, []⟩ d.c) else sigF sig (i + 1) r
theorem objF_pi (K : Krn) (cx : List Term) (A B : Term) (m : Term) : objF K (.mk 3 0 0 [m]) cx (.mk 2 0 0 [A, B]) = if 30 ≤ cx.length then 5 else objF K m (cx ++ [A]) B := by
 rw [objF, if_pos (show (Term.mk 2 0 0 [A, B]).k = 2 from rfl), if_neg (by decide), if_pos rfl]
 simp only [Term.ts, objH]
theorem objF_app (K : Krn) (cx : List Term) (a m : Term) (ha : a.k = 4) (hm : m.k = 4) : objF K m cx a = eqF a (infF K cx m) := by
 obtain ⟨k, l, n, ts⟩ := m
 replace hm : k = 4 := hm
 subst hm
 rw [objF, if_neg (by omega), if_pos ha, if_neg (by decide), if_pos rfl]
 unfold infF
 rw [if_pos (show (Term.mk 4 l n ts).k = 4 from rfl)]
 rfl
theorem fitF_cons (K : Krn) (m : Term) (r cx : List Term) (A B : Term) : fitF K (m :: r) cx (.mk 2 0 0 [A, B]) = if objF K m cx A ≠ 0 then (zT, objF K m cx A) else if (instR (.mk 2 0 0 [A, B]) [m]).2 ≠ 0 then (zT, (instR (.mk 2 0 0 [A, B]) [m]).2) else fitF K r cx (instR (.mk 2 0 0 [A, B]) [m]).1 := by
 rw [fitF, if_pos (show (Term.mk 2 0 0 [A, B]).k = 2 from rfl)]
 rfl
theorem fitF_no (K : Krn) (m : Term) (r cx : List Term) {c : Term} (h : c.k ≠ 2) : fitF K (m :: r) cx c = (zT, 23) := by
 rw [fitF, if_neg h]
theorem typF_pi (K : Krn) (A B : Term) (cx : List Term) : typF K (.mk 2 0 0 [A, B]) cx = if typF K A cx ≠ 0 then typF K A cx else if 30 ≤ cx.length then 5 else typF K B (cx ++ [A]) := by
 rw [typF, if_pos rfl]
theorem kndF_pi (K : Krn) (A B : Term) (cx : List Term) : kndF K (.mk 2 0 0 [A, B]) cx = if typF K A cx ≠ 0 then typF K A cx else if 30 ≤ cx.length then 5 else kndF K B (cx ++ [A]) := by
 rw [kndF, if_neg (by decide), if_pos rfl]
theorem instR_prop {c : Term} {l : List Term} (h : (instR c l).2 = 0) : prop (instR c l).1 = true := by
 unfold instR at *
 cases hc : (prop c && (decide (l.length ≤ 600) && l.all prop)) with
 | false => rw [hc] at h; cases h
 | true =>
  rw [hc] at h
  rw [Bool.and_eq_true] at hc
  simp only at h ⊢
  have key : ∀ (l : List Term) (c : Term) (s : Int) u s1, prop c = true → instL c l s = .ok u s1 → prop u = true := by
   intro l
   induction l with
   | nil => intro c s u s1 hc hi; rw [instL] at hi; cases hi; exact hc
   | cons x r ih =>
    intro c s u s1 hc hi
    rw [instL] at hi
    split at hi
    ·cases hi
    ·rename_i v s2 hv
     exact ih v s2 u s1 (stepR_ok hv).1 hi
  have ker : ∀ (l : List Term) (c : Term) (s e : Int), instL c l s = .er e → e ≠ 0 := by
   intro l
   induction l with
   | nil => intro c s e hi; rw [instL] at hi; cases hi
   | cons x r ih =>
    intro c s e hi
    rw [instL] at hi
    split at hi
    ·rename_i e2 hv
     cases hi
     exact stepR_er hv
    ·exact ih _ _ _ hi
  split at h
  ·rename_i e he
   exact absurd h (ker _ _ _ _ he)
  ·rename_i u s1 hu
   exact key _ _ _ _ _ hc.1 hu
end Go.Tr
/- The law TermSimples. -/
namespace Go.Tr
open Go.Proofs
def simF (t : Term) : Smp × Int := match prop t with
 | true => (match smpT t with | some s => (s, 0) | none => (zS, 22))
 | false => (zS, 2)
theorem c26' (t : Term) : CallSt Tryz.prog 128 [tv t] [] (fun r H' => r = .tup [sv (simF t).1, .c (.int .i64 ((simF t).2))] ∧ H' = []) := by
 have c := c26 t
 unfold simF
 cases h : prop t with
 | false => rw [h] at c; exact c
 | true =>
  rw [h] at c
  cases hs : smpT t with
  | none => rw [hs] at c; exact c
  | some s => rw [hs] at c; exact c
end Go.Tr
/- The program's substitution: fail, kept, moved, small. -/
namespace Go.Tr
open Go.Proofs
def tab6 : List (Nat × TyD) := [
 (176, ⟨1, 8, .struct [(0, 35)], [.int .i64 0], [35]⟩),
 (165, ⟨1, 8, .struct [(0, 3)], [.int .i64 0], [3]⟩),
 (93, ⟨1, 8, .struct [(0, 3)], [.int .i64 0], [3]⟩),
 (144, ⟨1, 8, .other, [.pointer none], [144]⟩),
 (161, ⟨1, 8, .other, [.pointer none], [161]⟩),
 (162, ⟨1, 8, .other, [.pointer none], [162]⟩),
 (38, ⟨1, 24, .slice 40, [.slice none 0 0], [38]⟩),
 (20, ⟨1, 16, .ifc, [.nilIface], [20]⟩),
 (35, ⟨1, 8, .int .i64, [.int .i64 0], [35]⟩),
 (3, ⟨1, 8, .int .i64, [.int .i64 0], [3]⟩),
 (40, ⟨2, 32, .struct [(0, 38), (1, 3)], [.slice none 0 0, .int .i64 0], [38, 3]⟩)] ++ tab
def env6 (n : Nat) : Env := ⟨lkT tab6, keep, n, false, false, none, fun _ _ => none⟩
theorem env6_ok (n : Nat) : EnvOk Tryz.prog (env6 n) := EnvOk.of (l := tab6) rfl (by kernel_rfl)
def envK6 (n : Nat) : Env := ⟨lkT tab6, fun _ => true, n, false, false, none, fun _ _ => none⟩
theorem envK6_ok (n : Nat) : EnvOk Tryz.prog (envK6 n) := EnvOk.of (l := tab6) rfl (by kernel_rfl)
def flV (e : Int) : CV := .ifc 176 [.int .i64 e]
theorem cFail (e : Int) : CallPt Tryz.prog 127 [.c (.int .i64 (e))] [] (fun r H' => False) (fun x H' => x = flV e ∧ H' = []) := by
 refine call_pan (E := env6 0) (fn := Tryz.f127) (c := bodyOf Tryz.f127) (env6_ok 0) mixed sK sK sK sK sK sK rfl .q ?_
 conv => whnf
 repeat ((first | (refine aI ?_ ?_; focus exact sI) | refine dI sK ?_ | (refine yI ?_ ?_; focus exact sY) | (refine nI ?_ ?_; focus exact sY) | intro _); conv => whnf)
 first | exact ⟨rfl, rfl⟩ | rfl
theorem cKept (t : Term) : CallPt Tryz.prog 144 [tv t] [] (fun r H' => prop t = true ∧ r = tv t ∧ H' = []) (fun x H' => (x = flV 5 ∧ prop t = false) ∧ H' = []) := by
 have h := c14 t
 have hf := cFail 5
 cases hp : prop t with
 | true =>
  rw [hp] at h
  clear hp
  obtain ⟨k, l, n, ts⟩ := t
  rw [tv_mk] at *
  refine call_pan (E := env6 0) (fn := Tryz.f144) (c := bodyOf Tryz.f144) (env6_ok 0) mixed sK sK sK sK sK sK rfl .p ?_
  conv => whnf
  try (refine dI sK ?_; conv => whnf)
  first | refine u0 h ?_ | refine v0 h ?_
  rintro _ _ ⟨rfl, rfl⟩ _
  conv => whnf
  repeat ((first | (refine aI ?_ ?_; focus exact sI) | refine dI sK ?_ | (refine yI ?_ ?_; focus exact sY) | (refine nI ?_ ?_; focus exact sY) | intro _); conv => whnf)
  all_goals exact sR
 | false =>
  rw [hp] at h
  clear hp
  obtain ⟨k, l, n, ts⟩ := t
  rw [tv_mk] at *
  refine call_pan (E := env6 0) (fn := Tryz.f144) (c := bodyOf Tryz.f144) (env6_ok 0) mixed sK sK sK sK sK sK rfl .p ?_
  conv => whnf
  try (refine dI sK ?_; conv => whnf)
  first | refine u0 h ?_ | refine v0 h ?_
  rintro _ _ ⟨rfl, rfl⟩ _
  conv => whnf
  repeat ((first | (refine aI ?_ ?_; focus exact sI) | refine dI sK ?_ | (refine yI ?_ ?_; focus exact sY) | (refine nI ?_ ?_; focus exact sY) | intro _); conv => whnf)
  try (refine dI sK ?_; conv => whnf)
  refine CallPt.use hf [] trivial (by decide) rfl ?_ ?_
  (focus (rintro x _ hx _; (conv => whnf); (first | exact ⟨⟨hx.1, rfl⟩, rfl⟩ | exact ⟨hx.1, rfl⟩)))
  rintro _ _ hno _
  conv => whnf
  exact hno.elim
theorem shift_up (t : Term) (hp : prop t = true) (n : Int) (hn : 0 ≤ n ∧ n ≤ 9999) : shiftF t n 0 = match prop (raisedT t n) with | true => (raisedT t n, 0) | false => (zT, 5) := by
 rw [shift_eq]
 have hb : rBad t n 0 = false := by
  unfold rBad
  rw [← prop_rprop, hp, decide_eq_false (show ¬ n < -9999 by omega), decide_eq_false (show ¬ (9999 : Int) < n by omega)]
  rfl
 have hl : rLow t n 0 = false := by
  unfold rLow
  rw [decide_eq_false (show ¬ n < 0 by omega)]
  rfl
 unfold rshiftF
 rw [hb, hl]
 simp only
 rw [show mapT (mvG 0 n) t 0 = raisedT t n from rfl, ← prop_rprop]
 try (cases prop (raisedT t n) <;> rfl)
theorem cMovedS (t : Term) (hp : prop t = true) (n : Int) (hn : 0 ≤ n ∧ n ≤ 9999) : CallPt Tryz.prog 146 [tv t, .c (.int .i64 (n))] [] (fun r H' => prop (raisedT t n) = true ∧ r = tv (raisedT t n) ∧ H' = []) (fun x H' => (x = flV 5 ∧ prop (raisedT t n) = false) ∧ H' = []) := by
 have h := c19 t n 0
 rw [shift_up t hp n hn] at h
 have hf := cFail 5
 obtain ⟨R, hR⟩ : ∃ R, R = raisedT t n := ⟨_, rfl⟩
 rw [← hR] at h ⊢
 clear hR hp
 obtain ⟨k, l, m, ts⟩ := t
 cases hq : prop R with
 | true =>
  rw [hq] at h
  simp only at h
  clear hq
  obtain ⟨k2, l2, m2, us⟩ := R
  rw [tv_mk, tv_mk] at h
  rw [tv_mk, tv_mk]
  refine call_pan (E := env6 0) (fn := Tryz.f146) (c := bodyOf Tryz.f146) (env6_ok 0) mixed sK sK sK sK sK sK rfl .p ?_
  conv => whnf
  try (refine dI sK ?_; conv => whnf)
  first | refine u0 h ?_ | refine v0 h ?_
  rintro _ _ ⟨rfl, rfl⟩ _
  conv => whnf
  repeat ((first | (refine aI ?_ ?_; focus exact sI) | refine dI sK ?_ | (refine yI ?_ ?_; focus exact sY) | (refine nI ?_ ?_; focus exact sY) | intro _); conv => whnf)
  all_goals exact sR
 | false =>
  rw [hq] at h
  simp only at h
  clear hq
  rw [tv_mk] at h
  rw [tv_mk]
  refine call_pan (E := env6 0) (fn := Tryz.f146) (c := bodyOf Tryz.f146) (env6_ok 0) mixed sK sK sK sK sK sK rfl .p ?_
  conv => whnf
  try (refine dI sK ?_; conv => whnf)
  first | refine u0 h ?_ | refine v0 h ?_
  rintro _ _ ⟨rfl, rfl⟩ _
  conv => whnf
  repeat ((first | (refine aI ?_ ?_; focus exact sI) | refine dI sK ?_ | (refine yI ?_ ?_; focus exact sY) | (refine nI ?_ ?_; focus exact sY) | intro _); conv => whnf)
  try (refine dI sK ?_; conv => whnf)
  refine CallPt.use hf [] trivial (by decide) rfl ?_ ?_
  (focus (rintro x _ hx _; (conv => whnf); (first | exact ⟨⟨hx.1, rfl⟩, rfl⟩ | exact ⟨hx.1, rfl⟩)))
  rintro _ _ hno _
  conv => whnf
  exact hno.elim
end Go.Tr
/- The reference kernel: longer, class. -/
namespace Go.Tr
open Go.Proofs
def tabR6 : List (Nat × TyD) := [
 (54, ⟨2, 48, .struct [(0, 22), (1, 23)], [.slice none 0 0, .slice none 0 0], [22, 23]⟩),
 (22, ⟨1, 24, .slice 66, [.slice none 0 0], [22]⟩),
 (23, ⟨1, 24, .slice 110, [.slice none 0 0], [23]⟩),
 (66, ⟨6, 72, .struct [(0, 9), (1, 28), (5, 3)], [.string ⟨#[]⟩, .int .i64 0, .int .i64 0, .int .i64 0, .slice none 0 0, .int .i64 0], [9, 3, 3, 3, 24, 3]⟩),
 (110, ⟨10, 120, .struct [(0, 9), (1, 28), (5, 4), (6, 28)], [.string ⟨#[]⟩, .int .i64 0, .int .i64 0, .int .i64 0, .slice none 0 0, .bool false, .int .i64 0, .int .i64 0, .int .i64 0, .slice none 0 0], [9, 3, 3, 3, 24, 4, 3, 3, 3, 24]⟩),
 (9, ⟨1, 16, .str, [.string ⟨#[]⟩], [9]⟩),
 (28, ⟨4, 48, .struct [(0, 3), (1, 3), (2, 3), (3, 24)], [.int .i64 0, .int .i64 0, .int .i64 0, .slice none 0 0], [3, 3, 3, 24]⟩),
 (3, ⟨1, 8, .int .i64, [.int .i64 0], [3]⟩),
 (4, ⟨1, 1, .bool, [.bool false], [4]⟩),
 (24, ⟨1, 24, .slice 28, [.slice none 0 0], [24]⟩)] ++ tabM6
def envR6 (n : Nat) : Env := ⟨lkT tabR6, keep, n, false, false, none, fun _ _ => none⟩
theorem envR6_ok (n : Nat) : EnvOk Tryz.prog (envR6 n) := EnvOk.of (l := tabR6) rfl (by kernel_rfl)
abbrev kvR (sig : List Dcl) (ms : List Mta) : AV := .agg [.c (.sl 6 72 (dcs sig)), .c (.sl 10 120 (mcs ms))]
def longF (cx : List Term) (a : Term) : List Term := if 30 ≤ cx.length then [] else cx ++ [a]
def longE (cx : List Term) : Int := if 30 ≤ cx.length then 5 else 0
theorem cRLonger (cx : List Term) (a : Term) : CallSt Tryz.prog 66 [.c (.sl 4 48 (tcs cx)), tv a] [] (fun r H' => r = .tup [.c (.sl 4 48 (tcs (longF cx a))), .c (.int .i64 (longE cx))] ∧ H' = []) := by
 have hll := len_tcs cx
 unfold longF longE
 by_cases h : 30 ≤ cx.length
 ·rw [if_pos h, if_pos h]
  have e : decide ((30 : Int) ≤ ((tcs cx).length : Int)) = true := decide_eq_true (by omega)
  obtain ⟨k, l, n, ts⟩ := a
  rw [tv_mk]
  refine call_pure (E := env 0) (fn := Tryz.f66) (c := bodyOf Tryz.f66) (env_ok 0) mixed sK sK sK sK sK sK rfl ?_
  conv => whnf
  repeat ((first | (refine aI ?_ ?_; focus exact sI) | refine dI sK ?_ | (refine yI ?_ ?_; focus exact sY) | (refine nI ?_ ?_; focus exact sY) | intro _); conv => whnf)
  rw [e]
  (refine yI ?_ ?_; (focus exact sY); conv => whnf)
  repeat ((first | (refine aI ?_ ?_; focus exact sI) | refine dI sK ?_ | (refine yI ?_ ?_; focus exact sY) | (refine nI ?_ ?_; focus exact sY) | intro _); conv => whnf)
  all_goals exact sR
 ·rw [if_neg h, if_neg h]
  have e : decide ((30 : Int) ≤ ((tcs cx).length : Int)) = false := decide_eq_false (by omega)
  obtain ⟨k, l, n, ts⟩ := a
  have ht : tcs (cx ++ [.mk k l n ts]) = tcs cx ++ [[.int .i64 k, .int .i64 l, .int .i64 n, .sl 4 48 (tcs ts)]] := by rw [← tcs_snoc]; rfl
  rw [tv_mk, ht]
  refine call_pure (E := env 0) (fn := Tryz.f66) (c := bodyOf Tryz.f66) (env_ok 0) mixed sK sK sK sK sK sK rfl ?_
  conv => whnf
  repeat ((first | (refine aI ?_ ?_; focus exact sI) | refine dI sK ?_ | (refine yI ?_ ?_; focus exact sY) | (refine nI ?_ ?_; focus exact sY) | intro _); conv => whnf)
  rw [e]
  (refine nI ?_ ?_; (focus exact sY); conv => whnf)
  repeat ((first | (refine aI ?_ ?_; focus exact sI) | refine dI sK ?_ | (refine yI ?_ ?_; focus exact sY) | (refine nI ?_ ?_; focus exact sY) | intro _); conv => whnf)
  refine ⟨show (tcs cx).length * 48 ≤ 140737488355328 by omega, by omega, ?_⟩
  conv => whnf
  refine ⟨by decide, ?_⟩
  conv => whnf
  refine ⟨by decide, ?_⟩
  conv => whnf
  refine ⟨show ((tcs cx).length + 1) * 48 ≤ 140737488355328 by omega, show (tcs cx).length + 1 ≤ 9223372036854775807 by omega, ?_⟩
  conv => whnf
  repeat ((first | (refine aI ?_ ?_; focus exact sI) | refine dI sK ?_ | (refine yI ?_ ?_; focus exact sY) | (refine nI ?_ ?_; focus exact sY) | intro _); conv => whnf)
  all_goals exact sR
end Go.Tr
/- slices.Grow of a nil slice, at terms. -/
namespace Go.Proofs
open Go.RowKit Go.Shelf
def Tryz.growA_ren : Ren where
 f := fun x => match x with
  | 4 => 104
  | n => n
 t := fun x => match x with
  | 0 => 0
  | 3 => 3
  | 4 => 4
  | 9 => 9
  | 20 => 20
  | 22 => 24
  | 25 => 28
  | n => n
 g := fun n => n
theorem Tryz.growA : Lays8.n4 Tryz.prog Tryz.growA_ren where
 mixed := rfl
 f4 := ⟨"slices.Grow[[]truss/api.Term,truss/api.Term]", by decide, Tryz.func104.trans (by kernel_rfl)⟩
 t0 := Tryz.underlying0
 a0 := Tryz.isAgg0
 z0 := Tryz.sizeOf0
 v0 := Tryz.zeroValue0
 t3 := Tryz.underlying3
 a3 := Tryz.isAgg3
 z3 := Tryz.sizeOf3
 v3 := Tryz.zeroValue3
 t4 := Tryz.underlying4
 a4 := Tryz.isAgg4
 z4 := Tryz.sizeOf4
 v4 := Tryz.zeroValue4
 t9 := Tryz.underlying9
 a9 := Tryz.isAgg9
 z9 := Tryz.sizeOf9
 v9 := Tryz.zeroValue9
 t20 := Tryz.underlying20
 a20 := Tryz.isAgg20
 z20 := Tryz.sizeOf20
 v20 := Tryz.zeroValue20
 t22 := Tryz.underlying24
 a22 := Tryz.isAgg24
 z22 := Tryz.sizeOf24
 v22 := Tryz.zeroValue24
end Go.Proofs
namespace Go.Tr
open Go.Proofs
theorem cGrow (n : Nat) (h0 : 0 < n) (h1 : n ≤ 1000000) : CallSt Tryz.prog 104 [.nil, .c (.int .i64 (n : Int))] [] (fun r H' => r = .own 0 ∧ H' = [.row 28 4 48 []]) := by
 unfold CallSt
 refine ⟨by kernel_rfl, fun w S κ vs hh hvs => ?_⟩
 simp only [AVRs, AVR, CVR] at hvs
 obtain ⟨v1, r1, rfl, rfl, v2, r2, rfl, rfl, rfl⟩ := hvs
 have hT : TyR Tryz.prog 28 ((envR6 0).ty 28) := envR6_ok 0 28 trivial
 obtain ⟨i, z, hi, hsz, hby, hz, hzc, hzo, hzl⟩ := hT.info
 replace hsz : i.size = 4 := hsz
 replace hby : i.bytes = 48 := hby
 have h := Any8.slices_Grow_grow Tryz.growA i z hi hz (by omega) none 0 0 n [] w (Nat.le_refl 0) (by omega) (by rw [hby]; omega) (by omega) (by simp) (fun _ => rfl) (fun a h => nomatch h)
 refine h.mono ?_
 rintro e w' ⟨rfl, rfl⟩
 have hm := Mem.refl hh
 have e28 : Tryz.growA_ren.t 25 = 28 := rfl
 rw [e28]
 have hge := grownCap_ge w (0 + n) 0 28
 have hcm := grownCap_le_maxLen w (0 + n) 0 28 (by unfold maxLen; omega)
 obtain ⟨G, hG⟩ : ∃ G, G = grownCap w (0 + n) 0 28 := ⟨_, rfl⟩
 rw [← hG] at hge hcm ⊢
 clear hG
 have hzs : z.cells.size = 4 := by rw [← Array.length_toList, hzc, hzl]; rfl
 obtain ⟨C, hC⟩ : ∃ C, C = ([] : List Value).toArray ++ Builtin.zeroCells z.cells (0 + n - 0) ++ Builtin.zeroCells z.cells (G - (0 + n)) := ⟨_, rfl⟩
 have hCs : C.size = G * 4 := by
  rw [hC]
  simp only [Array.size_append, List.size_toArray, List.length_nil, size_zeroCells, hzs]
  omega
 rw [← hC]
 clear hC
 have hp := hm.push (w' := w.drew.alloc (.cells C 28)) none ⟨rfl, rfl, rfl, by simp, fun k hk _ => by first | exact heap_alloc_old w.drew _ k hk | exact heap_alloc_old w.drew _ hk⟩ (fun B h => by cases h) (.row 28 4 48 []) (.slc (.slice (some ⟨w.heap.size, 0, none⟩) 0 G))
  (fun B h => by
   simp only [owns, Option.some.injEq] at h
   subst h
   exact ⟨.inr (Nat.le_refl _), by simp⟩)
  (by
   simp only [EntR, reduceCtorEq, false_or]
   refine ⟨_, [], rfl, ⟨by simp, .inr ⟨w.heap.size, G, C, rfl, Nat.zero_le _, ⟨(0, 0), heap_alloc_new w.drew _, .inl rfl⟩, Nat.zero_le _, hcm, hCs, by simp⟩⟩, by simp, fun e he => (nomatch he), ?_⟩
   simp [CellsV])
 refine ⟨_, .own 0, [.row 28 4 48 []], _, _, rfl, ⟨rfl, rfl⟩, hp.1, ?_⟩
 simp only [AVR]
 exact ⟨by simp [updB], rfl⟩
theorem cGrow0 : CallSt Tryz.prog 104 [.nil, .c (.int .i64 0)] [] (fun r H' => r = .nil ∧ H' = []) := by
 unfold CallSt
 refine ⟨by kernel_rfl, fun w S κ vs hh hvs => ?_⟩
 simp only [AVRs, AVR, CVR] at hvs
 obtain ⟨v1, r1, rfl, rfl, v2, r2, rfl, rfl, rfl⟩ := hvs
 have h := Any8.slices_Grow_room Tryz.growA none 0 0 0 w (Nat.le_refl 0) (by omega) (by omega) (Nat.le_refl 0)
 refine h.mono ?_
 rintro e w' ⟨rfl, rfl⟩
 exact ⟨_, .nil, [], κ, S, rfl, ⟨rfl, rfl⟩, Mem.refl hh, by simp only [AVR]⟩
end Go.Tr
/- The reference kernel: class. -/
namespace Go.Tr
open Go.Proofs
theorem cRClass3 (K : Krn) (hK : KOk K) (cx : List Term) (hc : cx.length ≤ 30) (q : Nat) (ts : List Term) (hn : q ≤ 9999) :
  CallSt Tryz.prog 65 [kvR K.sig K.ms, .c (.sl 4 48 (tcs cx)), tv (.mk 4 3 q ts)] [] (fun r H' => r = .tup [tv (clsF K cx 3 q).1, .c (.int .i64 ((clsF K cx 3 q).2))] ∧ H' = []) := by
 have hll := len_tcs cx
 have hml := len_mcs K.ms
 obtain ⟨hK1, hK2, hK3, hK4⟩ := hK
 unfold clsF
 rw [tv_mk, Int.toNat_natCast, if_neg (by decide), if_neg (by decide)]
 by_cases hq : q < K.ms.length
 ·obtain ⟨d, hd⟩ : ∃ d, K.ms[q]? = some d := ⟨K.ms[q]'(by omega), List.getElem?_eq_getElem (by omega)⟩
  have hdc := mcs_at hd
  rw [hd]
  simp only
  have e : decide (((mcs K.ms).length : Int) ≤ (q : Int)) = false := decide_eq_false (by omega)
  clear hd
  obtain ⟨nm, ⟨c1, c2, c3, c4⟩, so, vl⟩ := d
  refine call_pure (E := envR6 0) (fn := Tryz.f65) (c := bodyOf Tryz.f65) (envR6_ok 0) mixed sK sK sK sK sK sK rfl ?_
  refine aw_cut _ _ rfl fun C hC => ?_
  conv => whnf
  repeat ((first | (refine aI ?_ ?_; focus exact sI) | refine dI sK ?_ | (refine yI ?_ ?_; focus exact sY) | (refine nI ?_ ?_; focus exact sY) | intro _); conv => whnf)
  subst hC
  refine aw_cut _ _ rfl fun C hC => ?_
  conv => whnf
  repeat ((first | (refine aI ?_ ?_; focus exact sI) | refine dI sK ?_ | (refine yI ?_ ?_; focus exact sY) | (refine nI ?_ ?_; focus exact sY) | intro _); conv => whnf)
  subst hC
  refine aw_cut _ _ rfl fun C hC => ?_
  conv => whnf
  repeat ((first | (refine aI ?_ ?_; focus exact sI) | refine dI sK ?_ | (refine yI ?_ ?_; focus exact sY) | (refine nI ?_ ?_; focus exact sY) | intro _); conv => whnf)
  rw [e]
  (refine nI ?_ ?_; (focus exact sY); conv => whnf)
  subst hC
  conv => whnf
  repeat ((first | (refine aI ?_ ?_; focus exact sI) | refine dI sK ?_ | (refine yI ?_ ?_; focus exact sY) | (refine nI ?_ ?_; focus exact sY) | intro _); conv => whnf)
  refine ⟨_, ⟨by omega, hdc⟩, ?_⟩
  conv => whnf
  refine ⟨show 4 ≤ 9 by decide, ?_⟩
  conv => whnf
  repeat ((first | (refine aI ?_ ?_; focus exact sI) | refine dI sK ?_ | (refine yI ?_ ?_; focus exact sY) | (refine nI ?_ ?_; focus exact sY) | intro _); conv => whnf)
  all_goals exact sR
 ·have e : decide (((mcs K.ms).length : Int) ≤ (q : Int)) = true := decide_eq_true (by omega)
  rw [List.getElem?_eq_none (by omega)]
  simp only
  refine call_pure (E := envR6 0) (fn := Tryz.f65) (c := bodyOf Tryz.f65) (envR6_ok 0) mixed sK sK sK sK sK sK rfl ?_
  refine aw_cut _ _ rfl fun C hC => ?_
  conv => whnf
  repeat ((first | (refine aI ?_ ?_; focus exact sI) | refine dI sK ?_ | (refine yI ?_ ?_; focus exact sY) | (refine nI ?_ ?_; focus exact sY) | intro _); conv => whnf)
  subst hC
  refine aw_cut _ _ rfl fun C hC => ?_
  conv => whnf
  repeat ((first | (refine aI ?_ ?_; focus exact sI) | refine dI sK ?_ | (refine yI ?_ ?_; focus exact sY) | (refine nI ?_ ?_; focus exact sY) | intro _); conv => whnf)
  subst hC
  refine aw_cut _ _ rfl fun C hC => ?_
  conv => whnf
  repeat ((first | (refine aI ?_ ?_; focus exact sI) | refine dI sK ?_ | (refine yI ?_ ?_; focus exact sY) | (refine nI ?_ ?_; focus exact sY) | intro _); conv => whnf)
  rw [e]
  (refine yI ?_ ?_; (focus exact sY); conv => whnf)
  subst hC
  repeat ((first | (refine aI ?_ ?_; focus exact sI) | refine dI sK ?_ | (refine yI ?_ ?_; focus exact sY) | (refine nI ?_ ?_; focus exact sY) | intro _); conv => whnf)
  all_goals exact sR
theorem cRClass2 (K : Krn) (hK : KOk K) (cx : List Term) (hc : cx.length ≤ 30) (q : Nat) (ts : List Term) (hn : q ≤ 9999) :
  CallSt Tryz.prog 65 [kvR K.sig K.ms, .c (.sl 4 48 (tcs cx)), tv (.mk 4 2 q ts)] [] (fun r H' => r = .tup [tv (clsF K cx 2 q).1, .c (.int .i64 ((clsF K cx 2 q).2))] ∧ H' = []) := by
 have hsl := len_dcs K.sig
 obtain ⟨hK1, hK2, hK3, hK4⟩ := hK
 unfold clsF
 rw [tv_mk, Int.toNat_natCast, if_neg (by decide), if_pos rfl]
 have hh := cRHas K.sig q
 by_cases hq : q < K.sig.length
 ·obtain ⟨d, hd⟩ : ∃ d, K.sig[q]? = some d := ⟨K.sig[q]'(by omega), List.getElem?_eq_getElem (by omega)⟩
  have hdc := dcs_at hd
  have hp := hK1 d (List.mem_of_getElem? hd)
  have hf := cRIsFamily K.sig q (by omega) d (by rw [Int.toNat_natCast]; exact hd) hp
  rw [show (decide (0 ≤ (q : Int)) && decide ((q : Int) < (K.sig.length : Int))) = true by rw [decide_eq_true (show 0 ≤ (q : Int) by omega), decide_eq_true (show (q : Int) < K.sig.length by omega)]; rfl] at hh
  rw [hd]
  simp only
  clear hd hp
  cases hk : kindT d.c with
  | true =>
   rw [hk] at hf
   rw [if_pos rfl]
   refine call_pure (E := envR6 0) (fn := Tryz.f65) (c := bodyOf Tryz.f65) (envR6_ok 0) mixed sK sK sK sK sK sK rfl ?_
   refine aw_cut _ _ rfl fun C hC => ?_
   conv => whnf
   repeat ((first | (refine aI ?_ ?_; focus exact sI) | refine dI sK ?_ | (refine yI ?_ ?_; focus exact sY) | (refine nI ?_ ?_; focus exact sY) | intro _); conv => whnf)
   subst hC
   refine aw_cut _ _ rfl fun C hC => ?_
   conv => whnf
   repeat ((first | (refine aI ?_ ?_; focus exact sI) | refine dI sK ?_ | (refine yI ?_ ?_; focus exact sY) | (refine nI ?_ ?_; focus exact sY) | intro _); conv => whnf)
   try (refine dI sK ?_; conv => whnf)
   first | refine u0 hh ?_ | refine v0 hh ?_
   rintro _ _ ⟨rfl, rfl⟩ _
   conv => whnf
   repeat ((first | (refine aI ?_ ?_; focus exact sI) | refine dI sK ?_ | (refine yI ?_ ?_; focus exact sY) | (refine nI ?_ ?_; focus exact sY) | intro _); conv => whnf)
   try (refine dI sK ?_; conv => whnf)
   first | refine u0 hf ?_ | refine v0 hf ?_
   rintro _ _ ⟨rfl, rfl⟩ _
   conv => whnf
   repeat ((first | (refine aI ?_ ?_; focus exact sI) | refine dI sK ?_ | (refine yI ?_ ?_; focus exact sY) | (refine nI ?_ ?_; focus exact sY) | intro _); conv => whnf)
   subst hC
   repeat ((first | (refine aI ?_ ?_; focus exact sI) | refine dI sK ?_ | (refine yI ?_ ?_; focus exact sY) | (refine nI ?_ ?_; focus exact sY) | intro _); conv => whnf)
   all_goals exact sR
  | false =>
   rw [hk] at hf
   rw [if_neg (by decide)]
   clear hk
   obtain ⟨nm, ⟨c1, c2, c3, c4⟩, im⟩ := d
   refine call_pure (E := envR6 0) (fn := Tryz.f65) (c := bodyOf Tryz.f65) (envR6_ok 0) mixed sK sK sK sK sK sK rfl ?_
   refine aw_cut _ _ rfl fun C hC => ?_
   conv => whnf
   repeat ((first | (refine aI ?_ ?_; focus exact sI) | refine dI sK ?_ | (refine yI ?_ ?_; focus exact sY) | (refine nI ?_ ?_; focus exact sY) | intro _); conv => whnf)
   subst hC
   refine aw_cut _ _ rfl fun C hC => ?_
   conv => whnf
   repeat ((first | (refine aI ?_ ?_; focus exact sI) | refine dI sK ?_ | (refine yI ?_ ?_; focus exact sY) | (refine nI ?_ ?_; focus exact sY) | intro _); conv => whnf)
   try (refine dI sK ?_; conv => whnf)
   first | refine u0 hh ?_ | refine v0 hh ?_
   rintro _ _ ⟨rfl, rfl⟩ _
   conv => whnf
   repeat ((first | (refine aI ?_ ?_; focus exact sI) | refine dI sK ?_ | (refine yI ?_ ?_; focus exact sY) | (refine nI ?_ ?_; focus exact sY) | intro _); conv => whnf)
   try (refine dI sK ?_; conv => whnf)
   first | refine u0 hf ?_ | refine v0 hf ?_
   rintro _ _ ⟨rfl, rfl⟩ _
   conv => whnf
   repeat ((first | (refine aI ?_ ?_; focus exact sI) | refine dI sK ?_ | (refine yI ?_ ?_; focus exact sY) | (refine nI ?_ ?_; focus exact sY) | intro _); conv => whnf)
   refine ⟨_, ⟨by omega, hdc⟩, ?_⟩
   conv => whnf
   refine ⟨show 4 ≤ 5 by decide, ?_⟩
   conv => whnf
   repeat ((first | (refine aI ?_ ?_; focus exact sI) | refine dI sK ?_ | (refine yI ?_ ?_; focus exact sY) | (refine nI ?_ ?_; focus exact sY) | intro _); conv => whnf)
   subst hC
   repeat ((first | (refine aI ?_ ?_; focus exact sI) | refine dI sK ?_ | (refine yI ?_ ?_; focus exact sY) | (refine nI ?_ ?_; focus exact sY) | intro _); conv => whnf)
   all_goals exact sR
 ·rw [List.getElem?_eq_none (by omega)]
  simp only
  rw [show (decide (0 ≤ (q : Int)) && decide ((q : Int) < (K.sig.length : Int))) = false by rw [decide_eq_false (show ¬ (q : Int) < K.sig.length by omega), Bool.and_false]] at hh
  refine call_pure (E := envR6 0) (fn := Tryz.f65) (c := bodyOf Tryz.f65) (envR6_ok 0) mixed sK sK sK sK sK sK rfl ?_
  refine aw_cut _ _ rfl fun C hC => ?_
  conv => whnf
  repeat ((first | (refine aI ?_ ?_; focus exact sI) | refine dI sK ?_ | (refine yI ?_ ?_; focus exact sY) | (refine nI ?_ ?_; focus exact sY) | intro _); conv => whnf)
  subst hC
  refine aw_cut _ _ rfl fun C hC => ?_
  conv => whnf
  repeat ((first | (refine aI ?_ ?_; focus exact sI) | refine dI sK ?_ | (refine yI ?_ ?_; focus exact sY) | (refine nI ?_ ?_; focus exact sY) | intro _); conv => whnf)
  try (refine dI sK ?_; conv => whnf)
  first | refine u0 hh ?_ | refine v0 hh ?_
  rintro _ _ ⟨rfl, rfl⟩ _
  conv => whnf
  repeat ((first | (refine aI ?_ ?_; focus exact sI) | refine dI sK ?_ | (refine yI ?_ ?_; focus exact sY) | (refine nI ?_ ?_; focus exact sY) | intro _); conv => whnf)
  subst hC
  repeat ((first | (refine aI ?_ ?_; focus exact sI) | refine dI sK ?_ | (refine yI ?_ ?_; focus exact sY) | (refine nI ?_ ?_; focus exact sY) | intro _); conv => whnf)
  all_goals exact sR
theorem cRClass1 (K : Krn) (hK : KOk K) (cx : List Term) (hc : cx.length ≤ 30) (q : Nat) (ts : List Term) (hn : q ≤ 9999) :
  CallSt Tryz.prog 65 [kvR K.sig K.ms, .c (.sl 4 48 (tcs cx)), tv (.mk 4 1 q ts)] [] (fun r H' => r = .tup [tv (clsF K cx 1 q).1, .c (.int .i64 ((clsF K cx 1 q).2))] ∧ H' = []) := by
 have hll := len_tcs cx
 by_cases hq : q < cx.length
 ·obtain ⟨t, ht⟩ : ∃ t, cx[cx.length - 1 - q]? = some t := ⟨cx[cx.length - 1 - q]'(by omega), List.getElem?_eq_getElem (by omega)⟩
  have htc := tcs_at cx _ t ht
  have hs := c20 t ((q : Int) + 1) 0
  rw [← shift_eq] at hs
  have hz : clsF K cx 1 q = shiftF t ((q : Int) + 1) 0 := by
   unfold clsF
   rw [Int.toNat_natCast, if_pos rfl, ht]
   exact if_pos (show (q : Int) < cx.length by omega)
  rw [hz, tv_mk]
  clear hz
  have e : decide (((tcs cx).length : Int) ≤ (q : Int)) = false := decide_eq_false (by omega)
  obtain ⟨U, hU⟩ : ∃ U, U = shiftF t ((q : Int) + 1) 0 := ⟨_, rfl⟩
  rw [← hU] at hs ⊢
  obtain ⟨⟨u1, u2, u3, u4⟩, u5⟩ := U
  clear hU ht
  obtain ⟨t1, t2, t3, t4⟩ := t
  rw [tv_mk] at hs
  simp only at hs ⊢
  rw [tv_mk] at hs ⊢
  refine call_pure (E := envR6 0) (fn := Tryz.f65) (c := bodyOf Tryz.f65) (envR6_ok 0) mixed sK sK sK sK sK sK rfl ?_
  refine aw_cut _ _ rfl fun C hC => ?_
  conv => whnf
  repeat ((first | (refine aI ?_ ?_; focus exact sI) | refine dI sK ?_ | (refine yI ?_ ?_; focus exact sY) | (refine nI ?_ ?_; focus exact sY) | intro _); conv => whnf)
  subst hC
  refine aw_cut _ _ rfl fun C hC => ?_
  conv => whnf
  repeat ((first | (refine aI ?_ ?_; focus exact sI) | refine dI sK ?_ | (refine yI ?_ ?_; focus exact sY) | (refine nI ?_ ?_; focus exact sY) | intro _); conv => whnf)
  rw [e]
  (refine nI ?_ ?_; (focus exact sY); conv => whnf)
  repeat ((first | (refine aI ?_ ?_; focus exact sI) | refine dI sK ?_ | (refine yI ?_ ?_; focus exact sY) | (refine nI ?_ ?_; focus exact sY) | intro _); conv => whnf)
  refine ⟨_, ⟨by omega, by rw [show (((tcs cx).length : Int) - 1 - (q : Int)).toNat = cx.length - 1 - q by omega]; exact htc⟩, ?_⟩
  conv => whnf
  refine ⟨Nat.le_refl 4, ?_⟩
  conv => whnf
  refine ⟨show inR _ by unfold inR; omega, ?_⟩
  conv => whnf
  (refine And.intro ?_ ?_ <;> conv => whnf)
  all_goals
   repeat ((first | (refine aI ?_ ?_; focus exact sI) | refine dI sK ?_ | (refine yI ?_ ?_; focus exact sY) | (refine nI ?_ ?_; focus exact sY) | intro _); conv => whnf)
   try (refine dI sK ?_; conv => whnf)
   first | refine u0 hs ?_ | refine v0 hs ?_
   rintro _ _ ⟨rfl, rfl⟩ _
   conv => whnf
   repeat ((first | (refine aI ?_ ?_; focus exact sI) | refine dI sK ?_ | (refine yI ?_ ?_; focus exact sY) | (refine nI ?_ ?_; focus exact sY) | intro _); conv => whnf)
   subst hC
   repeat ((first | (refine aI ?_ ?_; focus exact sI) | refine dI sK ?_ | (refine yI ?_ ?_; focus exact sY) | (refine nI ?_ ?_; focus exact sY) | intro _); conv => whnf)
   all_goals exact sR
 ·have e : decide (((tcs cx).length : Int) ≤ (q : Int)) = true := decide_eq_true (by omega)
  have hz : clsF K cx 1 q = (zT, 27) := by
   unfold clsF
   rw [Int.toNat_natCast, if_pos rfl]
   cases cx[cx.length - 1 - q]? with
   | none => rfl
   | some t => exact if_neg (by omega)
  rw [hz, tv_mk]
  refine call_pure (E := envR6 0) (fn := Tryz.f65) (c := bodyOf Tryz.f65) (envR6_ok 0) mixed sK sK sK sK sK sK rfl ?_
  refine aw_cut _ _ rfl fun C hC => ?_
  conv => whnf
  repeat ((first | (refine aI ?_ ?_; focus exact sI) | refine dI sK ?_ | (refine yI ?_ ?_; focus exact sY) | (refine nI ?_ ?_; focus exact sY) | intro _); conv => whnf)
  subst hC
  refine aw_cut _ _ rfl fun C hC => ?_
  conv => whnf
  repeat ((first | (refine aI ?_ ?_; focus exact sI) | refine dI sK ?_ | (refine yI ?_ ?_; focus exact sY) | (refine nI ?_ ?_; focus exact sY) | intro _); conv => whnf)
  rw [e]
  (refine yI ?_ ?_; (focus exact sY); conv => whnf)
  repeat ((first | (refine aI ?_ ?_; focus exact sI) | refine dI sK ?_ | (refine yI ?_ ?_; focus exact sY) | (refine nI ?_ ?_; focus exact sY) | intro _); conv => whnf)
  subst hC
  repeat ((first | (refine aI ?_ ?_; focus exact sI) | refine dI sK ?_ | (refine yI ?_ ?_; focus exact sY) | (refine nI ?_ ?_; focus exact sY) | intro _); conv => whnf)
  all_goals exact sR
theorem cRClass (K : Krn) (hK : KOk K) (cx : List Term) (hc : cx.length ≤ 30) (l n : Int) (ts : List Term) (hl : 1 ≤ l ∧ l ≤ 3) (hn : 0 ≤ n ∧ n ≤ 9999) :
  CallSt Tryz.prog 65 [kvR K.sig K.ms, .c (.sl 4 48 (tcs cx)), tv (.mk 4 l n ts)] [] (fun r H' => r = .tup [tv (clsF K cx l n).1, .c (.int .i64 ((clsF K cx l n).2))] ∧ H' = []) := by
 obtain ⟨q, rfl⟩ : ∃ q : Nat, n = q := ⟨n.toNat, by omega⟩
 rcases (show l = 1 ∨ l = 2 ∨ l = 3 by omega) with rfl | rfl | rfl
 ·exact cRClass1 K hK cx hc q ts (by omega)
 ·exact cRClass2 K hK cx hc q ts (by omega)
 ·exact cRClass3 K hK cx hc q ts (by omega)
end Go.Tr
/- Clone, Backward; Pi, kept; Arrow. -/
namespace Go.Tr
open Go.Proofs
def piT (a b : Term) : Term := .mk 2 0 0 [a, b]
theorem c66 (l : List Term) (hl : l.length * 48 ≤ 140737488351232) : CallSt Tryz.prog 106 [.c (.sl 4 48 (tcs l))] [] (fun r H' => (r = .nil ∧ l = [] ∧ H' = []) ∨ (r = .own 1 ∧ H' = [.dead, .row 28 4 48 (tcs l)])) := by
 refine call_intro (E := env 0) (fn := Tryz.f106) (c := bodyOf Tryz.f106) (env_ok 0) mixed sK sK sK sK sK sK rfl ?_
 conv => whnf
 intro e he
 conv => whnf
 refine ⟨fun h => ?_, fun h => ?_⟩
 ·have hl : tcs l = [] := he h
  conv => whnf
  left
  refine ⟨rfl, ?_, rfl⟩
  cases l with
  | nil => rfl
  | cons a r => simp [tcs] at hl
 ·conv => whnf
  repeat ((first | (refine aI ?_ ?_; focus exact sI) | refine dI sK ?_ | (refine yI ?_ ?_; focus exact sY) | (refine nI ?_ ?_; focus exact sY)); conv => whnf)
  have hl1 := len_tcs l
  have hl2 : (0 + (tcs l).length) * 48 ≤ 140737488355328 := by omega
  have hl3 : 0 + (tcs l).length ≤ 9223372036854775807 := by omega
  refine ⟨hl2, hl3, ?_⟩
  conv => whnf
  right
  exact ⟨rfl, rfl⟩
end Go.Tr
/- TermBack: the plain law. -/
namespace Go.Tr
open Go.Proofs
end Go.Tr
/- Arrow, Join: both sides. -/
namespace Go.Tr
open Go.Proofs
mutual
theorem fm_mono : ∀ (t : Term) (d d' : Int), fmT t d = true → d' ≤ d → fmT t d' = true
 | .mk k l n ts, d, d', h, hd => by
  unfold fmT at h ⊢
  simp only [Bool.and_eq_true, Bool.not_eq_true', decide_eq_false_iff_not] at h ⊢
  exact ⟨⟨by omega, h.1.2⟩, fmL_mono ts d d' h.2 hd⟩
theorem fmL_mono : ∀ (ts : List Term) (d d' : Int), fmL ts d = true → d' ≤ d → fmL ts d' = true
 | [], d, d', _, _ => by rw [fmL]
 | t :: r, d, d', h, hd => by
  rw [fmL, Bool.and_eq_true] at h ⊢
  exact ⟨fm_mono t (d + 1) (d' + 1) h.1 (by omega), fmL_mono r d d' h.2 hd⟩
end
theorem prop_pi {a b : Term} (h : prop (piT a b) = true) : prop a = true ∧ prop b = true := by
 rw [prop_rprop, rprop_iff, Bool.and_eq_true, decide_eq_true_eq] at h
 obtain ⟨h1, h2⟩ := h
 obtain ⟨_, _, a', b', he, h3, h4⟩ := fm_pi h2
 injection he with e1 he
 injection he with e2 _
 subst e1 e2
 unfold piT at h1
 simp only [szT, szL] at h1
 have ha := szT_pos a
 have hb := szT_pos b
 rw [prop_rprop, rprop_iff, prop_rprop, rprop_iff, Bool.and_eq_true, decide_eq_true_eq, Bool.and_eq_true, decide_eq_true_eq]
 exact ⟨⟨by omega, fm_mono _ _ _ h3 (by omega)⟩, ⟨by omega, fm_mono _ _ _ h4 (by omega)⟩⟩
end Go.Tr
/- The reference kernel: fits. -/
namespace Go.Tr
open Go.Proofs
def RObjOk (P : Program) (f : FuncId) (K : Krn) (m : Term) : Prop := ∀ (cx : List Term) (a : Term), COk cx → prop a = true → CallSt P f [kvR K.sig K.ms, .c (.sl 4 48 (tcs cx)), tv m, tv a] [] (fun r H' => r = .c (.int .i64 (objF K m cx a)) ∧ H' = [])
theorem prop_pi7 {u1 u2 u3 : Int} {us : List Term} (h : prop (.mk u1 u2 u3 us) = true) (hk : u1 = 2) : ∃ A B, u2 = 0 ∧ u3 = 0 ∧ us = [A, B] ∧ prop A = true ∧ prop B = true := by
 subst hk
 obtain ⟨A, B, he, _, _, _⟩ := prop_pi2 h rfl
 cases he
 exact ⟨A, B, rfl, rfl, rfl, (prop_pi h).1, (prop_pi h).2⟩
set_option maxHeartbeats 1000000 in
theorem cRFits (K : Krn) (l : List Term) (hl : ∀ m ∈ l, prop m = true ∧ RObjOk Tryz.prog 30 K m) (cx : List Term) (hc : COk cx) (c : Term) (hp : prop c = true) :
  CallSt Tryz.prog 62 [kvR K.sig K.ms, .c (.sl 4 48 (tcs cx)), .c (.sl 4 48 (tcs l)), tv c] [] (fun r H' => r = .tup [tv (fitF K l cx c).1, .c (.int .i64 ((fitF K l cx c).2))] ∧ H' = []) := by
 have hll := len_tcs l
 have hcl := len_tcs cx
 obtain ⟨A, hA⟩ : ∃ A, A = fitF K l cx c := ⟨_, rfl⟩
 rw [← hA]
 obtain ⟨k, l', n, ts⟩ := c
 rw [tv_mk]
 refine call_pure (E := envR6 0) (fn := Tryz.f62) (c := bodyOf Tryz.f62) (envR6_ok 0) mixed sK sK sK sK sK sK rfl ?_
 conv => whnf
 repeat ((first | (refine aI ?_ ?_; focus exact sI) | refine dI sK ?_ | (refine yI ?_ ?_; focus exact sY) | (refine nI ?_ ?_; focus exact sY) | intro _); conv => whnf)
 refine loop_intro (fun m tm H => ∃ (j : Nat) (u1 u2 u3 : Int) (us : List Term), l.length = m + j ∧ A = fitF K (l.drop j) cx (.mk u1 u2 u3 us) ∧ prop (.mk u1 u2 u3 us) = true ∧
   tm = [(10, .c (.int .i64 (j))), (8, .ptr 2 0), (7, .ptr 1 0), (4, .ptr 0 0), (2, .c (.sl 4 48 (tcs l))), (1, .c (.sl 4 48 (tcs cx)))] ∧ H = [.box [.c (.sl 6 72 (dcs K.sig)), .c (.sl 10 120 (mcs K.ms))], .box [.c (.int .i64 (u1)), .c (.int .i64 (u2)), .c (.int .i64 (u3)), .c (.sl 4 48 (tcs us))], .box [.c (.int .i64 (0)), .c (.int .i64 (0)), .c (.int .i64 (0)), .nil]])
  l.length _ _ ⟨0, k, l', n, ts, by omega, hA, hp, rfl, rfl⟩ (Wk.sl [0, 1, 2] rfl ⟨rfl, rfl, rfl, trivial⟩ ⟨rfl, rfl, rfl, rfl, rfl, rfl, trivial⟩ rfl) ?_
 rintro m tm H ⟨j, u1, u2, u3, us, hj, hR, hpu, rfl, rfl⟩
 conv => whnf
 repeat ((first | (refine aI ?_ ?_; focus exact sI) | refine dI sK ?_ | (refine yI ?_ ?_; focus exact sY) | (refine nI ?_ ?_; focus exact sY) | intro _); conv => whnf)
 refine ⟨fun hlt => ?_, fun hlt => ?_⟩
 ·replace hlt : (j : Int) < (tcs l).length := of_decide_eq_true hlt
  obtain ⟨x, hx⟩ := get_some (show j < l.length by omega)
  have hxc := tcs_at l j x hx
  obtain ⟨hxp, hxo⟩ := hl x (List.mem_of_getElem? hx)
  rw [drop_at hx] at hR
  by_cases hk : u1 = 2
  ·obtain ⟨A1, B1, rfl, rfl, rfl, hA1, hB1⟩ := prop_pi7 hpu hk
   subst hk
   have ho := hxo cx A1 hc hA1
   rw [fitF_cons] at hR
   by_cases he : objF K x cx A1 ≠ 0
   ·rw [if_pos he] at hR
    have ez : decide (objF K x cx A1 = 0) = false := decide_eq_false he
    generalize objF K x cx A1 = e at *
    subst hR
    obtain ⟨x1, x2, x3, x4⟩ := x
    obtain ⟨a1, a2, a3, a4⟩ := A1
    rw [tv_mk, tv_mk] at ho
    conv => whnf
    repeat ((first | (refine aI ?_ ?_; focus exact sI) | refine dI sK ?_ | (refine yI ?_ ?_; focus exact sY) | (refine nI ?_ ?_; focus exact sY) | intro _); conv => whnf)
    refine ⟨_, ⟨by omega, by simpa using hxc⟩, ?_⟩
    conv => whnf
    refine ⟨Nat.le_refl 4, ?_⟩
    conv => whnf
    repeat ((first | (refine aI ?_ ?_; focus exact sI) | refine dI sK ?_ | (refine yI ?_ ?_; focus exact sY) | (refine nI ?_ ?_; focus exact sY) | intro _); conv => whnf)
    refine ⟨_, ⟨Int.le_refl 0, rfl⟩, ?_⟩
    conv => whnf
    refine ⟨Nat.le_refl 4, ?_⟩
    conv => whnf
    try (refine dI sK ?_; conv => whnf)
    first | refine u0 ho ?_ | refine v0 ho ?_
    rintro _ _ ⟨rfl, rfl⟩ _
    conv => whnf
    repeat ((first | (refine aI ?_ ?_; focus exact sI) | refine dI sK ?_ | (refine yI ?_ ?_; focus exact sY) | (refine nI ?_ ?_; focus exact sY) | intro _); conv => whnf)
    rw [ez]
    (refine yI ?_ ?_; (focus exact sY); conv => whnf)
    repeat ((first | (refine aI ?_ ?_; focus exact sI) | refine dI sK ?_ | (refine yI ?_ ?_; focus exact sY) | (refine nI ?_ ?_; focus exact sY) | intro _); conv => whnf)
    all_goals exact sR
   ·have e0 : objF K x cx A1 = 0 := by omega
    have ez : decide (objF K x cx A1 = 0) = true := decide_eq_true e0
    rw [if_neg he] at hR
    have hin := cRInstance (.mk 2 0 0 [A1, B1]) [x]
    rw [e0] at ho
    have hpn := @instR_prop (.mk 2 0 0 [A1, B1]) [x]
    by_cases he2 : (instR (.mk 2 0 0 [A1, B1]) [x]).2 ≠ 0
    ·rw [if_pos he2] at hR
     have ez2 : decide ((instR (.mk 2 0 0 [A1, B1]) [x]).2 = 0) = false := decide_eq_false he2
     obtain ⟨v, hv⟩ : ∃ v, v = instR (.mk 2 0 0 [A1, B1]) [x] := ⟨_, rfl⟩
     rw [← hv] at hR hin ez2
     clear hv
     obtain ⟨⟨v1, v2, v3, v4⟩, e2⟩ := v
     subst hR
     obtain ⟨x1, x2, x3, x4⟩ := x
     obtain ⟨a1, a2, a3, a4⟩ := A1
     simp only at hin ez2
     rw [tv_mk, tv_mk] at ho
     rw [tv_mk, tv_mk] at hin
     conv => whnf
     repeat ((first | (refine aI ?_ ?_; focus exact sI) | refine dI sK ?_ | (refine yI ?_ ?_; focus exact sY) | (refine nI ?_ ?_; focus exact sY) | intro _); conv => whnf)
     refine ⟨_, ⟨by omega, by simpa using hxc⟩, ?_⟩
     conv => whnf
     refine ⟨Nat.le_refl 4, ?_⟩
     conv => whnf
     repeat ((first | (refine aI ?_ ?_; focus exact sI) | refine dI sK ?_ | (refine yI ?_ ?_; focus exact sY) | (refine nI ?_ ?_; focus exact sY) | intro _); conv => whnf)
     refine ⟨_, ⟨Int.le_refl 0, rfl⟩, ?_⟩
     conv => whnf
     refine ⟨Nat.le_refl 4, ?_⟩
     conv => whnf
     try (refine dI sK ?_; conv => whnf)
     first | refine u0 ho ?_ | refine v0 ho ?_
     rintro _ _ ⟨rfl, rfl⟩ _
     conv => whnf
     repeat ((first | (refine aI ?_ ?_; focus exact sI) | refine dI sK ?_ | (refine yI ?_ ?_; focus exact sY) | (refine nI ?_ ?_; focus exact sY) | intro _); conv => whnf)
     refine ⟨_, ⟨by omega, by simpa using hxc⟩, ?_⟩
     conv => whnf
     refine ⟨Nat.le_refl 4, ?_⟩
     conv => whnf
     (refine And.intro ?_ ?_ <;> conv => whnf)
     ·repeat ((first | (refine aI ?_ ?_; focus exact sI) | refine dI sK ?_ | (refine yI ?_ ?_; focus exact sY) | (refine nI ?_ ?_; focus exact sY) | intro _); conv => whnf)
      (refine And.intro ?_ ?_ <;> conv => whnf)
      all_goals
       repeat ((first | (refine aI ?_ ?_; focus exact sI) | refine dI sK ?_ | (refine yI ?_ ?_; focus exact sY) | (refine nI ?_ ?_; focus exact sY) | intro _); conv => whnf)
       try (refine dI sK ?_; conv => whnf)
       first | refine u0 hin ?_ | refine v0 hin ?_
       rintro _ _ ⟨rfl, rfl⟩ _
       conv => whnf
       repeat ((first | (refine aI ?_ ?_; focus exact sI) | refine dI sK ?_ | (refine yI ?_ ?_; focus exact sY) | (refine nI ?_ ?_; focus exact sY) | intro _); conv => whnf)
       rw [ez2]
       (refine yI ?_ ?_; (focus exact sY); conv => whnf)
       repeat ((first | (refine aI ?_ ?_; focus exact sI) | refine dI sK ?_ | (refine yI ?_ ?_; focus exact sY) | (refine nI ?_ ?_; focus exact sY) | intro _); conv => whnf)
       all_goals exact sR
     ·repeat ((first | (refine aI ?_ ?_; focus exact sI) | refine dI sK ?_ | (refine yI ?_ ?_; focus exact sY) | (refine nI ?_ ?_; focus exact sY) | intro _); conv => whnf)
      try (refine dI sK ?_; conv => whnf)
      first | refine u0 hin ?_ | refine v0 hin ?_
      rintro _ _ ⟨rfl, rfl⟩ _
      conv => whnf
      repeat ((first | (refine aI ?_ ?_; focus exact sI) | refine dI sK ?_ | (refine yI ?_ ?_; focus exact sY) | (refine nI ?_ ?_; focus exact sY) | intro _); conv => whnf)
      rw [ez2]
      (refine yI ?_ ?_; (focus exact sY); conv => whnf)
      repeat ((first | (refine aI ?_ ?_; focus exact sI) | refine dI sK ?_ | (refine yI ?_ ?_; focus exact sY) | (refine nI ?_ ?_; focus exact sY) | intro _); conv => whnf)
      all_goals exact sR
    ·rw [if_neg he2] at hR
     have e20 : (instR (.mk 2 0 0 [A1, B1]) [x]).2 = 0 := by omega
     have hpv := hpn e20
     have ez2 : decide ((instR (.mk 2 0 0 [A1, B1]) [x]).2 = 0) = true := decide_eq_true e20
     obtain ⟨v, hv⟩ : ∃ v, v = instR (.mk 2 0 0 [A1, B1]) [x] := ⟨_, rfl⟩
     rw [← hv] at hR hin ez2 hpv e20
     clear hv hpn
     obtain ⟨⟨v1, v2, v3, v4⟩, e2⟩ := v
     simp only at hin ez2 hpv hR e20
     subst e20
     obtain ⟨x1, x2, x3, x4⟩ := x
     obtain ⟨a1, a2, a3, a4⟩ := A1
     rw [tv_mk, tv_mk] at ho
     rw [tv_mk, tv_mk] at hin
     conv => whnf
     repeat ((first | (refine aI ?_ ?_; focus exact sI) | refine dI sK ?_ | (refine yI ?_ ?_; focus exact sY) | (refine nI ?_ ?_; focus exact sY) | intro _); conv => whnf)
     refine ⟨_, ⟨by omega, by simpa using hxc⟩, ?_⟩
     conv => whnf
     refine ⟨Nat.le_refl 4, ?_⟩
     conv => whnf
     repeat ((first | (refine aI ?_ ?_; focus exact sI) | refine dI sK ?_ | (refine yI ?_ ?_; focus exact sY) | (refine nI ?_ ?_; focus exact sY) | intro _); conv => whnf)
     refine ⟨_, ⟨Int.le_refl 0, rfl⟩, ?_⟩
     conv => whnf
     refine ⟨Nat.le_refl 4, ?_⟩
     conv => whnf
     try (refine dI sK ?_; conv => whnf)
     first | refine u0 ho ?_ | refine v0 ho ?_
     rintro _ _ ⟨rfl, rfl⟩ _
     conv => whnf
     repeat ((first | (refine aI ?_ ?_; focus exact sI) | refine dI sK ?_ | (refine yI ?_ ?_; focus exact sY) | (refine nI ?_ ?_; focus exact sY) | intro _); conv => whnf)
     refine ⟨_, ⟨by omega, by simpa using hxc⟩, ?_⟩
     conv => whnf
     refine ⟨Nat.le_refl 4, ?_⟩
     conv => whnf
     (refine And.intro ?_ ?_ <;> conv => whnf)
     ·repeat ((first | (refine aI ?_ ?_; focus exact sI) | refine dI sK ?_ | (refine yI ?_ ?_; focus exact sY) | (refine nI ?_ ?_; focus exact sY) | intro _); conv => whnf)
      (refine And.intro ?_ ?_ <;> conv => whnf)
      all_goals
       repeat ((first | (refine aI ?_ ?_; focus exact sI) | refine dI sK ?_ | (refine yI ?_ ?_; focus exact sY) | (refine nI ?_ ?_; focus exact sY) | intro _); conv => whnf)
       try (refine dI sK ?_; conv => whnf)
       first | refine u0 hin ?_ | refine v0 hin ?_
       rintro _ _ ⟨rfl, rfl⟩ _
       conv => whnf
       repeat ((first | (refine aI ?_ ?_; focus exact sI) | refine dI sK ?_ | (refine yI ?_ ?_; focus exact sY) | (refine nI ?_ ?_; focus exact sY) | intro _); conv => whnf)
       have hlen : (tcs l).length * 48 ≤ 140737488355328 := ‹gd [] true ((tcs l).length * 48 ≤ 140737488355328)›
       refine ⟨show inR _ by unfold inR; omega, ?_⟩
       conv => whnf
       repeat ((first | (refine aI ?_ ?_; focus exact sI) | refine dI sK ?_ | (refine yI ?_ ?_; focus exact sY) | (refine nI ?_ ?_; focus exact sY) | intro _); conv => whnf)
       exact ⟨m - 1, _, _, by omega, ⟨j + 1, v1, v2, v3, v4, by omega, hR, hpv, rfl, rfl⟩, Wk.sl [0, 1, 2] rfl ⟨rfl, rfl, rfl, trivial⟩ ⟨rfl, rfl, rfl, rfl, rfl, rfl, trivial⟩ rfl⟩
     ·repeat ((first | (refine aI ?_ ?_; focus exact sI) | refine dI sK ?_ | (refine yI ?_ ?_; focus exact sY) | (refine nI ?_ ?_; focus exact sY) | intro _); conv => whnf)
      try (refine dI sK ?_; conv => whnf)
      first | refine u0 hin ?_ | refine v0 hin ?_
      rintro _ _ ⟨rfl, rfl⟩ _
      conv => whnf
      repeat ((first | (refine aI ?_ ?_; focus exact sI) | refine dI sK ?_ | (refine yI ?_ ?_; focus exact sY) | (refine nI ?_ ?_; focus exact sY) | intro _); conv => whnf)
      have hlen : (tcs l).length * 48 ≤ 140737488355328 := ‹gd [] true ((tcs l).length * 48 ≤ 140737488355328)›
      refine ⟨show inR _ by unfold inR; omega, ?_⟩
      conv => whnf
      repeat ((first | (refine aI ?_ ?_; focus exact sI) | refine dI sK ?_ | (refine yI ?_ ?_; focus exact sY) | (refine nI ?_ ?_; focus exact sY) | intro _); conv => whnf)
      exact ⟨m - 1, _, _, by omega, ⟨j + 1, v1, v2, v3, v4, by omega, hR, hpv, rfl, rfl⟩, Wk.sl [0, 1, 2] rfl ⟨rfl, rfl, rfl, trivial⟩ ⟨rfl, rfl, rfl, rfl, rfl, rfl, trivial⟩ rfl⟩
  ·rw [fitF_no K x _ cx (c := .mk u1 u2 u3 us) hk] at hR
   have ek : decide (u1 = 2) = false := decide_eq_false hk
   subst hR
   conv => whnf
   repeat ((first | (refine aI ?_ ?_; focus exact sI) | refine dI sK ?_ | (refine yI ?_ ?_; focus exact sY) | (refine nI ?_ ?_; focus exact sY) | intro _); conv => whnf)
   rw [ek]
   (refine yI ?_ ?_; (focus exact sY); conv => whnf)
   repeat ((first | (refine aI ?_ ?_; focus exact sI) | refine dI sK ?_ | (refine yI ?_ ?_; focus exact sY) | (refine nI ?_ ?_; focus exact sY) | intro _); conv => whnf)
   all_goals exact sR
 ·replace hlt : ¬ (j : Int) < (tcs l).length := of_decide_eq_false hlt
  rw [List.drop_eq_nil_of_le (by omega), fitF] at hR
  subst hR
  conv => whnf
  repeat ((first | (refine aI ?_ ?_; focus exact sI) | refine dI sK ?_ | (refine yI ?_ ?_; focus exact sY) | (refine nI ?_ ?_; focus exact sY) | intro _); conv => whnf)
  all_goals exact sR
end Go.Tr
/- Shifts and hereditary substitution, plain, without bounds. -/
namespace Go.Tr
def shv (b c k l n : Int) : Int := if k = 4 ∧ l = 1 ∧ c ≤ n then n + b else n
mutual
def sh (b : Int) : Int → Term → Term
 | c, .mk k l n ts => .mk k l (shv b c k l n) (shL b k c 0 ts)
def shL (b k c : Int) : Int → List Term → List Term
 | _, [] => []
 | i, t :: r => sh b (c + unT k i) t :: shL b k c (i + 1) r
end
theorem shv_mv (b c k l n : Int) : (mvG 0 b k l n c).2.2 = shv b c k l n := by
 unfold mvG shv shB
 simp only
 by_cases h : k = 4 ∧ l = 1 ∧ c ≤ n
 ·rw [if_pos h, decide_eq_true h.1, decide_eq_true h.2.1, decide_eq_true (show 0 ≤ n - c by omega)]
  rfl
 ·rw [if_neg h]
  split
  ·rename_i h2
   simp only [Bool.and_eq_true, decide_eq_true_eq] at h2
   exact absurd ⟨h2.1.1, h2.1.2, by omega⟩ h
  ·rfl
mutual
theorem sh_map (b : Int) : ∀ (t : Term) (c : Int), mapT (mvG 0 b) t c = sh b c t
 | .mk k l n ts, c => by
  rw [mapT, sh, ← shv_mv, ← shL_map b k ts 0 c]
  rfl
theorem shL_map (b k : Int) : ∀ (ts : List Term) (i c : Int), mapL (mvG 0 b) k c i ts = shL b k c i ts
 | [], i, c => by rw [mapL, shL]
 | t :: r, i, c => by rw [mapL, shL, sh_map b t, shL_map b k r]
end
theorem raised_sh (t : Term) (n : Int) : raisedT t n = sh n 0 t := sh_map n t 0
mutual
theorem sh_sh {a b : Int} (ha : 0 ≤ a) (hb : 0 ≤ b) : ∀ (t : Term) (c d : Int), c ≤ d → sh a c (sh b d t) = sh b (d + a) (sh a c t)
 | .mk k l n ts, c, d, h => by
  rw [sh, sh, sh, sh, shL_shL ha hb k ts 0 c d h]
  congr 1
  unfold shv
  by_cases hv : k = 4 ∧ l = 1
  ·obtain ⟨rfl, rfl⟩ := hv
   simp only [true_and]
   repeat' split
   all_goals omega
  ·simp only [← and_assoc, hv, false_and, if_false]
theorem shL_shL {a b : Int} (ha : 0 ≤ a) (hb : 0 ≤ b) (k : Int) : ∀ (ts : List Term) (i c d : Int), c ≤ d → shL a k c i (shL b k d i ts) = shL b k (d + a) i (shL a k c i ts)
 | [], i, c, d, h => by simp only [shL]
 | t :: r, i, c, d, h => by
  simp only [shL]
  rw [sh_sh ha hb t _ _ (by omega), shL_shL ha hb k r _ _ _ h, show d + unT k i + a = d + a + unT k i by omega]
end
mutual
theorem sh_add {a b : Int} : ∀ (t : Term) (c d : Int), c ≤ d → d ≤ c + b → sh a d (sh b c t) = sh (a + b) c t
 | .mk k l n ts, c, d, h, h2 => by
  rw [sh, sh, sh, shL_add k ts 0 c d h h2]
  congr 1
  unfold shv
  by_cases hv : k = 4 ∧ l = 1
  ·obtain ⟨rfl, rfl⟩ := hv
   simp only [true_and]
   repeat' split
   all_goals omega
  ·simp only [← and_assoc, hv, false_and, if_false]
theorem shL_add {a b : Int} (k : Int) : ∀ (ts : List Term) (i c d : Int), c ≤ d → d ≤ c + b → shL a k d i (shL b k c i ts) = shL (a + b) k c i ts
 | [], i, c, d, h, h2 => by simp only [shL]
 | t :: r, i, c, d, h, h2 => by
  simp only [shL]
  rw [sh_add t _ _ (by omega) (by omega), shL_add k r _ _ _ h h2]
end
theorem sh_k (b c : Int) (t : Term) : (sh b c t).k = t.k := by cases t; rw [sh]; rfl
theorem sh_ts (b c : Int) (t : Term) : (sh b c t).ts = shL b t.k c 0 t.ts := by cases t; rw [sh]; rfl
theorem unT_4 (i : Int) : unT 4 i = 0 := by unfold unT; rw [if_neg (by omega)]
theorem shL_4 (b c : Int) : ∀ (ts : List Term) (i : Int), shL b 4 c i ts = ts.map (sh b c)
 | [], i => by rw [shL]; rfl
 | t :: r, i => by rw [shL, shL_4 b c r, unT_4, Int.add_zero]; rfl
mutual
theorem sh_zero : ∀ (t : Term) (c : Int), sh 0 c t = t
 | .mk k l n ts, c => by
  rw [sh, shL_zero k ts]
  congr 1
  unfold shv
  split <;> omega
theorem shL_zero (k : Int) : ∀ (ts : List Term) (i c : Int), shL 0 k c i ts = ts
 | [], i, c => by rw [shL]
 | t :: r, i, c => by rw [shL, sh_zero t, shL_zero k r]
end
mutual
def hsT (sm : Smp) (x : Term) (n : Int) : Term → Option Term
 | .mk k l m ts => match hsL sm x n k 0 ts with
  | none => none
  | some us => if k = 4 ∧ l = 1 then (if m = n then hsA sm.xs (sh n 0 x) us else if n < m then some (.mk k l (m - 1) us) else some (.mk k l m us)) else some (.mk k l m us)
 termination_by t => (SizeOf.sizeOf sm, SizeOf.sizeOf t)
 decreasing_by
 ·apply Prod.Lex.right; simp; omega
 ·apply Prod.Lex.left; cases sm; simp [Smp.xs]; omega
def hsL (sm : Smp) (x : Term) (n k : Int) : Int → List Term → Option (List Term)
 | _, [] => some []
 | i, t :: r => match hsT sm x (n + unT k i) t with
  | none => none
  | some u => (match hsL sm x n k (i + 1) r with
   | none => none
   | some us => some (u :: us))
 termination_by _ ts => (SizeOf.sizeOf sm, SizeOf.sizeOf ts)
 decreasing_by
 ·apply Prod.Lex.right; simp; omega
 ·apply Prod.Lex.right; simp; omega
def hsA : List Smp → Term → List Term → Option Term
 | _, f, [] => some f
 | [], _, _ :: _ => none
 | m :: S, f, y :: ys => if f.k = 3 then (match f.ts with
   | [] => none
   | b :: _ => (match hsT m y 0 b with
    | none => none
    | some u => hsA S u ys))
  else none
 termination_by S _ _ => (SizeOf.sizeOf S, 0)
 decreasing_by
 ·apply Prod.Lex.left; simp; omega
 ·apply Prod.Lex.left; simp; omega
end
theorem hsT_mk (sm : Smp) (x : Term) (n k l m : Int) (ts : List Term) : hsT sm x n (.mk k l m ts) = match hsL sm x n k 0 ts with
  | none => none
  | some us => if k = 4 ∧ l = 1 then (if m = n then hsA sm.xs (sh n 0 x) us else if n < m then some (.mk k l (m - 1) us) else some (.mk k l m us)) else some (.mk k l m us) := by
 rw [hsT]
theorem hsL_nil (sm : Smp) (x : Term) (n k i : Int) : hsL sm x n k i [] = some [] := by rw [hsL]
theorem hsL_cons (sm : Smp) (x : Term) (n k i : Int) (t : Term) (r : List Term) : hsL sm x n k i (t :: r) = match hsT sm x (n + unT k i) t with
  | none => none
  | some u => (match hsL sm x n k (i + 1) r with
   | none => none
   | some us => some (u :: us)) := by
 rw [hsL]
theorem hsA_nil (S : List Smp) (f : Term) : hsA S f [] = some f := by rw [hsA]
theorem hsA_cons (m : Smp) (S : List Smp) (f y : Term) (ys : List Term) : hsA (m :: S) f (y :: ys) = if f.k = 3 then (match f.ts with
      | [] => none
      | b :: _ => (match hsT m y 0 b with
        | none => none
        | some u => hsA S u ys))
    else none := by
  rw [hsA]
theorem hsA_no (f y : Term) (ys : List Term) : hsA [] f (y :: ys) = none := by rw [hsA]
theorem hsL_some {sm : Smp} {x : Term} {n k i : Int} {t : Term} {r vs : List Term} (h : hsL sm x n k i (t :: r) = some vs) : ∃ u us, vs = u :: us ∧ hsT sm x (n + unT k i) t = some u ∧ hsL sm x n k (i + 1) r = some us := by
 rw [hsL_cons] at h
 cases h1 : hsT sm x (n + unT k i) t with
 | none => rw [h1] at h; cases h
 | some u =>
  rw [h1] at h
  cases h2 : hsL sm x n k (i + 1) r with
  | none => rw [h2] at h; cases h
  | some us => rw [h2] at h; cases h; exact ⟨u, us, rfl, rfl, rfl⟩
theorem hsL_of {sm : Smp} {x : Term} {n k i : Int} {t u : Term} {r us : List Term} (h1 : hsT sm x (n + unT k i) t = some u) (h2 : hsL sm x n k (i + 1) r = some us) : hsL sm x n k i (t :: r) = some (u :: us) := by
 rw [hsL_cons, h1, h2]
theorem hsA_some {S : List Smp} {f y v : Term} {ys : List Term} (h : hsA S f (y :: ys) = some v) : ∃ m S' b r u, S = m :: S' ∧ f.k = 3 ∧ f.ts = b :: r ∧ hsT m y 0 b = some u ∧ hsA S' u ys = some v := by
 cases S with
 | nil => rw [hsA_no] at h; cases h
 | cons m S' =>
  rw [hsA_cons] at h
  split at h
  ·rename_i hk
   cases hts : f.ts with
   | nil => rw [hts] at h; cases h
   | cons b r =>
    rw [hts] at h
    simp only at h
    cases h1 : hsT m y 0 b with
    | none => rw [h1] at h; cases h
    | some u => rw [h1] at h; exact ⟨m, S', b, r, u, rfl, hk, rfl, h1, h⟩
  ·cases h
theorem hsA_of {m : Smp} {S : List Smp} {f y b u : Term} {r ys : List Term} (hk : f.k = 3) (hts : f.ts = b :: r) (hu : hsT m y 0 b = some u) : hsA (m :: S) f (y :: ys) = hsA S u ys := by
 rw [hsA_cons, if_pos hk, hts]
 simp only [hu]
theorem hsT_some {sm : Smp} {x : Term} {n k l m : Int} {ts : List Term} {v : Term} (h : hsT sm x n (.mk k l m ts) = some v) : ∃ us, hsL sm x n k 0 ts = some us ∧
  ((¬ (k = 4 ∧ l = 1) ∧ v = .mk k l m us) ∨ (k = 4 ∧ l = 1 ∧ m < n ∧ v = .mk k l m us) ∨ (k = 4 ∧ l = 1 ∧ n < m ∧ v = .mk k l (m - 1) us) ∨ (k = 4 ∧ l = 1 ∧ m = n ∧ hsA sm.xs (sh n 0 x) us = some v)) := by
 rw [hsT_mk] at h
 cases h1 : hsL sm x n k 0 ts with
 | none => rw [h1] at h; cases h
 | some us =>
  rw [h1] at h
  refine ⟨us, rfl, ?_⟩
  simp only at h
  split at h
  ·rename_i hv
   obtain ⟨hv1, hv2⟩ := hv
   split at h
   ·rename_i hm
    exact .inr (.inr (.inr ⟨hv1, hv2, hm, h⟩))
   ·split at h
    ·rename_i h3
     cases h
     exact .inr (.inr (.inl ⟨hv1, hv2, h3, rfl⟩))
    ·cases h
     exact .inr (.inl ⟨hv1, hv2, by omega, rfl⟩)
  ·rename_i hv
   cases h
   exact .inl ⟨hv, rfl⟩
theorem hsT_rig {sm : Smp} {x : Term} {n k l m : Int} {ts us : List Term} (h : hsL sm x n k 0 ts = some us) (hv : ¬ (k = 4 ∧ l = 1)) : hsT sm x n (.mk k l m ts) = some (.mk k l m us) := by
 rw [hsT_mk, h]
 simp only
 rw [if_neg hv]
theorem hsT_lt {sm : Smp} {x : Term} {n m : Int} {ts us : List Term} (h : hsL sm x n 4 0 ts = some us) (hm : m < n) : hsT sm x n (.mk 4 1 m ts) = some (.mk 4 1 m us) := by
 rw [hsT_mk, h]
 simp only
 rw [if_pos ⟨trivial, trivial⟩, if_neg (by omega), if_neg (by omega)]
theorem hsT_gt {sm : Smp} {x : Term} {n m : Int} {ts us : List Term} (h : hsL sm x n 4 0 ts = some us) (hm : n < m) : hsT sm x n (.mk 4 1 m ts) = some (.mk 4 1 (m - 1) us) := by
 rw [hsT_mk, h]
 simp only
 rw [if_pos ⟨trivial, trivial⟩, if_neg (by omega), if_pos hm]
theorem hsT_hd {sm : Smp} {x : Term} {n : Int} {ts us : List Term} (h : hsL sm x n 4 0 ts = some us) : hsT sm x n (.mk 4 1 n ts) = hsA sm.xs (sh n 0 x) us := by
 rw [hsT_mk, h]
 simp only
 rw [if_pos ⟨trivial, trivial⟩]
 simp
theorem unT_nn (k i : Int) : 0 ≤ unT k i := by have := unT_bd k i; omega
mutual
theorem hs_vac (sm : Smp) (x : Term) : ∀ (t : Term) (n : Int), hsT sm x n (sh 1 n t) = some t
 | .mk k l m ts, n => by
  rw [sh, hsT_mk, hsL_vac sm x k ts 0 n]
  simp only
  unfold shv
  by_cases hv : k = 4 ∧ l = 1
  ·obtain ⟨rfl, rfl⟩ := hv
   simp only [true_and, and_self, if_true]
   by_cases h : n ≤ m
   ·rw [if_pos h, if_neg (by omega), if_pos (by omega)]
    simp
   ·rw [if_neg h, if_neg (by omega), if_neg (by omega)]
  ·rw [if_neg hv]
   simp only [← and_assoc, hv, false_and, if_false]
theorem hsL_vac (sm : Smp) (x : Term) (k : Int) : ∀ (ts : List Term) (i n : Int), hsL sm x n k i (shL 1 k n i ts) = some ts
 | [], i, n => by rw [shL, hsL_nil]
 | t :: r, i, n => by rw [shL, hsL_cons, hs_vac sm x t, hsL_vac sm x k r]
end
def OutOk (b : Int) (m : Smp) : Prop := ∀ (t y : Term) (n c : Int), 0 ≤ n → n ≤ c → hsT m (sh b (c - n) y) n (sh b (c + 1) t) = (hsT m y n t).map (sh b c)
theorem hsA_sh_of {b : Int} : ∀ {S : List Smp}, (∀ m ∈ S, OutOk b m) → ∀ (ys : List Term) (f : Term) (c : Int), 0 ≤ c → hsA S (sh b c f) (ys.map (sh b c)) = (hsA S f ys).map (sh b c)
 | S, h, [], f, c, hc => by rw [List.map_nil, hsA_nil, hsA_nil]; rfl
 | [], h, y :: ys, f, c, hc => by rw [List.map_cons, hsA_no, hsA_no]; rfl
 | m :: S, h, y :: ys, f, c, hc => by
  rw [List.map_cons, hsA_cons, hsA_cons, sh_k, sh_ts]
  by_cases hk : f.k = 3
  ·rw [if_pos hk, if_pos hk, hk]
   cases hts : f.ts with
   | nil => rw [shL]; rfl
   | cons g r =>
    rw [shL, show unT 3 0 = 1 from rfl]
    simp only
    have h1 := h m (List.mem_cons_self ..) g y 0 c (Int.le_refl 0) hc
    rw [Int.sub_zero] at h1
    rw [h1]
    cases hsT m y 0 g with
    | none => rfl
    | some u => exact hsA_sh_of (fun m hm => h m (List.mem_cons_of_mem _ hm)) ys u c hc
  ·rw [if_neg hk, if_neg hk]; rfl
mutual
theorem hs_out_T {b : Int} (hb : 0 ≤ b) (sm : Smp) (hA : ∀ (ys : List Term) (f : Term) (c : Int), 0 ≤ c → hsA sm.xs (sh b c f) (ys.map (sh b c)) = (hsA sm.xs f ys).map (sh b c)) : ∀ (t x : Term) (n c : Int), 0 ≤ n → n ≤ c → hsT sm (sh b (c - n) x) n (sh b (c + 1) t) = (hsT sm x n t).map (sh b c)
 | .mk k l m ts, x, n, c, h0, h1 => by
  rw [sh, hsT_mk, hsT_mk, hs_out_L hb sm hA k ts 0 x n c h0 h1]
  cases hsL sm x n k 0 ts with
  | none => rfl
  | some us =>
   simp only [Option.map]
   unfold shv
   by_cases hv : k = 4 ∧ l = 1
   ·obtain ⟨rfl, rfl⟩ := hv
    simp only [true_and, and_self, if_true]
    by_cases hm : m = n
    ·subst hm
     rw [if_neg (show ¬ c + 1 ≤ m by omega), if_pos rfl, if_pos rfl, shL_4, sh_sh h0 hb x 0 (c - m) (by omega), show c - m + m = c by omega, hA us (sh m 0 x) c (by omega)]
     rfl
    ·by_cases hn : n < m
     ·rw [if_neg hm, if_pos hn]
      by_cases hcm : c + 1 ≤ m
      ·rw [if_pos hcm, if_neg (by omega), if_pos (by omega)]
       simp only [sh, shv]
       rw [if_pos ⟨trivial, trivial, by omega⟩]
       congr 2
       omega
      ·rw [if_neg hcm, if_neg hm, if_pos hn]
       simp only [sh, shv]
       rw [if_neg (by omega)]
     ·rw [if_neg hm, if_neg hn, if_neg (show ¬ c + 1 ≤ m by omega), if_neg hm, if_neg hn]
      simp only [sh, shv]
      rw [if_neg (by omega)]
   ·rw [if_neg hv, if_neg hv]
    simp only [sh, shv, ← and_assoc, hv, false_and, if_false]
theorem hs_out_L {b : Int} (hb : 0 ≤ b) (sm : Smp) (hA : ∀ (ys : List Term) (f : Term) (c : Int), 0 ≤ c → hsA sm.xs (sh b c f) (ys.map (sh b c)) = (hsA sm.xs f ys).map (sh b c)) (k : Int) : ∀ (ts : List Term) (i : Int) (x : Term) (n c : Int), 0 ≤ n → n ≤ c → hsL sm (sh b (c - n) x) n k i (shL b k (c + 1) i ts) = (hsL sm x n k i ts).map (shL b k c i)
 | [], i, x, n, c, h0, h1 => by rw [shL, hsL_nil, hsL_nil]; simp [shL]
 | t :: r, i, x, n, c, h0, h1 => by
  have hu := unT_nn k i
  have h2 := hs_out_T hb sm hA t x (n + unT k i) (c + unT k i) (by omega) (by omega)
  rw [show c + unT k i - (n + unT k i) = c - n by omega, show c + unT k i + 1 = c + 1 + unT k i by omega] at h2
  rw [shL, hsL_cons, hsL_cons, h2, hs_out_L hb sm hA k r (i + 1) x n c h0 h1]
  cases hsT sm x (n + unT k i) t with
  | none => rfl
  | some u =>
   cases hsL sm x n k (i + 1) r with
   | none => rfl
   | some us => simp [shL]
end
theorem hs_out {b : Int} (hb : 0 ≤ b) : ∀ (N : Nat) (sm : Smp), SizeOf.sizeOf sm ≤ N → OutOk b sm
 | 0, sm, h => by cases sm; simp at h
 | N + 1, sm, h => by
  have hA := hsA_sh_of (b := b) (S := sm.xs) fun m hm => hs_out hb N m (by
   obtain ⟨xs, c⟩ := sm
   have := List.sizeOf_lt_of_mem hm
   simp [Smp.xs] at this h
   omega)
  intro t y n c h0 h1
  exact hs_out_T hb sm hA t y n c h0 h1
theorem hsA_sh {b : Int} (hb : 0 ≤ b) (S : List Smp) (ys : List Term) (f : Term) (c : Int) (hc : 0 ≤ c) : hsA S (sh b c f) (ys.map (sh b c)) = (hsA S f ys).map (sh b c) :=
 hsA_sh_of (fun m _ => hs_out hb _ m (Nat.le_refl _)) ys f c hc
mutual
theorem hs_in {b : Int} (hb : 0 ≤ b) (sm : Smp) (x : Term) : ∀ (t : Term) (n c : Int), 0 ≤ c → c ≤ n → hsT sm x (n + b) (sh b c t) = (hsT sm x n t).map (sh b c)
 | .mk k l m ts, n, c, h0, h1 => by
  rw [sh, hsT_mk, hsT_mk, hsL_in hb sm x k ts 0 n c h0 h1]
  cases hsL sm x n k 0 ts with
  | none => rfl
  | some us =>
   simp only [Option.map]
   unfold shv
   by_cases hv : k = 4 ∧ l = 1
   ·obtain ⟨rfl, rfl⟩ := hv
    simp only [true_and, and_self, if_true]
    by_cases hm : m = n
    ·subst hm
     rw [if_pos h1, if_pos rfl, if_pos rfl, shL_4]
     have h2 := sh_add (a := b) (b := m) x 0 c h0 (by omega)
     rw [show m + b = b + m by omega, ← h2, hsA_sh hb sm.xs us (sh m 0 x) c h0]
     rfl
    ·by_cases hn : n < m
     ·rw [if_pos (show c ≤ m by omega), if_neg hm, if_pos hn, if_neg (by omega), if_pos (by omega)]
      simp only [sh, shv]
      rw [if_pos ⟨trivial, trivial, by omega⟩]
      congr 2
      omega
     ·rw [if_neg hm, if_neg hn]
      simp only [sh, shv]
      by_cases hc : c ≤ m
      ·rw [if_pos hc, if_neg (by omega), if_neg (by omega), if_pos ⟨trivial, trivial, hc⟩]
      ·rw [if_neg hc, if_neg (by omega), if_neg (by omega), if_neg (by omega)]
   ·rw [if_neg hv, if_neg hv]
    simp only [sh, shv, ← and_assoc, hv, false_and, if_false]
theorem hsL_in {b : Int} (hb : 0 ≤ b) (sm : Smp) (x : Term) (k : Int) : ∀ (ts : List Term) (i n c : Int), 0 ≤ c → c ≤ n → hsL sm x (n + b) k i (shL b k c i ts) = (hsL sm x n k i ts).map (shL b k c i)
 | [], i, n, c, h0, h1 => by rw [shL, hsL_nil, hsL_nil]; simp [shL]
 | t :: r, i, n, c, h0, h1 => by
  have hu := unT_nn k i
  have h2 := hs_in hb sm x t (n + unT k i) (c + unT k i) (by omega) (by omega)
  rw [show n + unT k i + b = n + b + unT k i by omega] at h2
  rw [shL, hsL_cons, hsL_cons, h2, hsL_in hb sm x k r (i + 1) n c h0 h1]
  cases hsT sm x (n + unT k i) t with
  | none => rfl
  | some u =>
   cases hsL sm x n k (i + 1) r with
   | none => rfl
   | some us => simp [shL]
end
end Go.Tr
/- Substitutions behind each other. -/
namespace Go.Tr
def Comp (τ σ : Smp) : Prop := ∀ (t m s B C m' : Term) (n j : Int), 0 ≤ n → 0 ≤ j → hsT σ s (n + 1 + j) t = some B → hsT τ m j t = some C → hsT σ s n m = some m' → ∃ v, hsT τ m' j B = some v ∧ hsT σ s (n + j) C = some v
theorem comp_app {σ : Smp} {s : Term} {q : Int} (hq : 0 ≤ q) : ∀ {S : List Smp}, (∀ m ∈ S, Comp m σ) → ∀ {ys vs : List Term} {f f' r : Term} {i : Int}, hsA S f ys = some r → hsT σ s q f = some f' → hsL σ s q 4 i ys = some vs → ∃ v, hsA S f' vs = some v ∧ hsT σ s q r = some v
 | S, h, [], vs, f, f', r, i, h1, h2, h3 => by
  rw [hsA_nil] at h1
  rw [hsL_nil] at h3
  cases h1
  cases h3
  exact ⟨f', hsA_nil _ _, h2⟩
 | S, h, y :: ys, vs, f, f', r, i, h1, h2, h3 => by
  obtain ⟨m, S', b, bs, u, rfl, hk, hts, hu, h1r⟩ := hsA_some h1
  obtain ⟨y', ys', rfl, hy, hys⟩ := hsL_some h3
  rw [unT_4, Int.add_zero] at hy
  obtain ⟨k, l, n, ts⟩ := f
  replace hk : k = 3 := hk
  replace hts : ts = b :: bs := hts
  subst hk
  subst hts
  obtain ⟨us, hus, h4⟩ := hsT_some h2
  obtain ⟨b', bs', rfl, hb, hbs⟩ := hsL_some hus
  have h5 : f' = .mk 3 l n (b' :: bs') := by
   rcases h4 with ⟨_, h4⟩ | ⟨h4, _⟩ | ⟨h4, _⟩ | ⟨h4, _⟩
   ·exact h4
   ·cases h4
   ·cases h4
   ·cases h4
  subst h5
  rw [show unT 3 0 = 1 from rfl] at hb
  obtain ⟨u', hu1, hu2⟩ := h m (List.mem_cons_self ..) b y s b' u y' q 0 hq (Int.le_refl 0) (by rw [Int.add_zero]; exact hb) hu hy
  rw [Int.add_zero] at hu2
  obtain ⟨v, hv1, hv2⟩ := comp_app hq (fun m hm => h m (List.mem_cons_of_mem _ hm)) h1r hu2 hys
  refine ⟨v, ?_, hv2⟩
  rw [hsA_of rfl rfl hu1]
  exact hv1
mutual
theorem comp_T (τ σ : Smp) (hτ : ∀ m ∈ τ.xs, Comp m σ) (hσ : ∀ m ∈ σ.xs, Comp m τ) : ∀ (t m s B C m' : Term) (n j : Int), 0 ≤ n → 0 ≤ j → hsT σ s (n + 1 + j) t = some B → hsT τ m j t = some C → hsT σ s n m = some m' → ∃ v, hsT τ m' j B = some v ∧ hsT σ s (n + j) C = some v
 | .mk k l i ts, m, s, B, C, m', n, j, hn, hj, hB, hC, hm => by
  obtain ⟨bs, hbs, hB⟩ := hsT_some hB
  obtain ⟨cs, hcs, hC⟩ := hsT_some hC
  obtain ⟨vs, hv1, hv2⟩ := comp_L τ σ hτ hσ k ts 0 m s bs cs m' n j hn hj hbs hcs hm
  by_cases hv : k = 4 ∧ l = 1
  ·obtain ⟨rfl, rfl⟩ := hv
   rcases hB with ⟨hB, _⟩ | ⟨_, _, hB1, rfl⟩ | ⟨_, _, hB1, rfl⟩ | ⟨_, _, hB1, hB2⟩
   ·exact absurd ⟨rfl, rfl⟩ hB
   ·rcases hC with ⟨hC, _⟩ | ⟨_, _, hC1, rfl⟩ | ⟨_, _, hC1, rfl⟩ | ⟨_, _, hC1, hC2⟩
    ·exact absurd ⟨rfl, rfl⟩ hC
    ·exact ⟨_, hsT_lt hv1 hC1, hsT_lt hv2 (by omega)⟩
    ·exact ⟨_, hsT_gt hv1 hC1, hsT_lt hv2 (by omega)⟩
    ·subst hC1
     have h1 : hsT σ s (n + i) (sh i 0 m) = some (sh i 0 m') := by rw [hs_in hj σ s m n 0 (Int.le_refl 0) hn, hm]; rfl
     obtain ⟨v, h2, h3⟩ := comp_app (show 0 ≤ n + i by omega) hτ hC2 h1 hv2
     exact ⟨v, by rw [hsT_hd hv1]; exact h2, h3⟩
   ·rcases hC with ⟨hC, _⟩ | ⟨_, _, hC1, rfl⟩ | ⟨_, _, hC1, rfl⟩ | ⟨_, _, hC1, hC2⟩
    ·exact absurd ⟨rfl, rfl⟩ hC
    ·omega
    ·exact ⟨_, hsT_gt hv1 (by omega), hsT_gt hv2 (by omega)⟩
    ·omega
   ·rcases hC with ⟨hC, _⟩ | ⟨_, _, hC1, rfl⟩ | ⟨_, _, hC1, rfl⟩ | ⟨_, _, hC1, hC2⟩
    ·exact absurd ⟨rfl, rfl⟩ hC
    ·omega
    ·subst hB1
     have h1 : hsT τ m' j (sh (n + 1 + j) 0 s) = some (sh (n + j) 0 s) := by
      have h5 := sh_add (a := 1) (b := n + j) s 0 j hj (by omega)
      rw [show n + 1 + j = 1 + (n + j) by omega, ← h5]
      exact hs_vac τ m' _ j
     obtain ⟨v, h2, h3⟩ := comp_app hj hσ hB2 h1 hv1
     refine ⟨v, h3, ?_⟩
     rw [show n + 1 + j - 1 = n + j by omega, hsT_hd hv2]
     exact h2
    ·omega
  ·rcases hB with ⟨_, rfl⟩ | ⟨h1, h2, _⟩ | ⟨h1, h2, _⟩ | ⟨h1, h2, _⟩
   ·rcases hC with ⟨_, rfl⟩ | ⟨h1, h2, _⟩ | ⟨h1, h2, _⟩ | ⟨h1, h2, _⟩
    ·exact ⟨_, hsT_rig hv1 hv, hsT_rig hv2 hv⟩
    ·exact absurd ⟨h1, h2⟩ hv
    ·exact absurd ⟨h1, h2⟩ hv
    ·exact absurd ⟨h1, h2⟩ hv
   ·exact absurd ⟨h1, h2⟩ hv
   ·exact absurd ⟨h1, h2⟩ hv
   ·exact absurd ⟨h1, h2⟩ hv
theorem comp_L (τ σ : Smp) (hτ : ∀ m ∈ τ.xs, Comp m σ) (hσ : ∀ m ∈ σ.xs, Comp m τ) (k : Int) : ∀ (ts : List Term) (i : Int) (m s : Term) (B C : List Term) (m' : Term) (n j : Int), 0 ≤ n → 0 ≤ j → hsL σ s (n + 1 + j) k i ts = some B → hsL τ m j k i ts = some C → hsT σ s n m = some m' → ∃ v, hsL τ m' j k i B = some v ∧ hsL σ s (n + j) k i C = some v
 | [], i, m, s, B, C, m', n, j, hn, hj, hB, hC, hm => by
  rw [hsL_nil] at hB hC
  cases hB
  cases hC
  exact ⟨[], hsL_nil _ _ _ _ _, hsL_nil _ _ _ _ _⟩
 | t :: r, i, m, s, B, C, m', n, j, hn, hj, hB, hC, hm => by
  have hu := unT_nn k i
  obtain ⟨b, bs, rfl, hb, hbs⟩ := hsL_some hB
  obtain ⟨c, cs, rfl, hc, hcs⟩ := hsL_some hC
  obtain ⟨v, h1, h2⟩ := comp_T τ σ hτ hσ t m s b c m' n (j + unT k i) hn (by omega) (by rw [← Int.add_assoc]; exact hb) hc hm
  obtain ⟨vs, h3, h4⟩ := comp_L τ σ hτ hσ k r (i + 1) m s bs cs m' n j hn hj hbs hcs hm
  exact ⟨v :: vs, hsL_of h1 h3, hsL_of (by rw [Int.add_assoc]; exact h2) h4⟩
end
theorem comp_N : ∀ (N : Nat) (τ σ : Smp), SizeOf.sizeOf τ + SizeOf.sizeOf σ ≤ N → Comp τ σ
 | 0, τ, σ, h => by cases τ; simp at h
 | N + 1, τ, σ, h => by
  have hτ : ∀ m ∈ τ.xs, Comp m σ := fun m hm => comp_N N m σ (by
   obtain ⟨xs, c⟩ := τ
   have := List.sizeOf_lt_of_mem hm
   simp [Smp.xs] at this h
   omega)
  have hσ : ∀ m ∈ σ.xs, Comp m τ := fun m hm => comp_N N m τ (by
   obtain ⟨xs, c⟩ := σ
   have := List.sizeOf_lt_of_mem hm
   simp [Smp.xs] at this h
   omega)
  exact comp_T τ σ hτ hσ
theorem comp (τ σ : Smp) : Comp τ σ := comp_N _ τ σ (Nat.le_refl _)
theorem smpT_2 (l m : Int) (a b : Term) (r : List Term) : smpT (.mk 2 l m (a :: b :: r)) = match smpT a, smpT b with
  | some x, some y => some (.mk (x :: y.xs) y.c)
  | _, _ => none := by
 rw [smpT.eq_def]
 simp only
 rw [if_neg (by omega), if_pos trivial]
 rfl
theorem smpT_42 (m : Int) (ts : List Term) : smpT (.mk 4 2 m ts) = some (.mk [] m) := by
 rw [smpT_no (t := .mk 4 2 m ts) (show (4 : Int) ≠ 2 by decide)]
 rfl
theorem smpT_some {k l m : Int} {ts : List Term} {σ : Smp} (h : smpT (.mk k l m ts) = some σ) : (k = 4 ∧ l = 2 ∧ σ = .mk [] m) ∨ (k = 2 ∧ ∃ a b r x y, ts = a :: b :: r ∧ smpT a = some x ∧ smpT b = some y ∧ σ = .mk (x :: y.xs) y.c) := by
 by_cases hk : k = 2
 ·subst hk
  match ts, h with
  | [], h => rw [smpT.eq_def] at h; simp at h
  | [a], h => rw [smpT.eq_def] at h; simp at h
  | a :: b :: r, h =>
   rw [smpT_2] at h
   cases hx : smpT a with
   | none => rw [hx] at h; cases h
   | some x =>
    cases hy : smpT b with
    | none => rw [hx, hy] at h; cases h
    | some y => rw [hx, hy] at h; cases h; exact .inr ⟨rfl, a, b, r, x, y, rfl, hx, hy, rfl⟩
 ·rw [smpT_no (t := .mk k l m ts) hk] at h
  split at h
  ·rename_i h2
   cases h
   exact .inl ⟨h2.1, h2.2, rfl⟩
  ·cases h
theorem hs_smp_N {sm : Smp} {x : Term} : ∀ (N : Nat) {A A' : Term} {n : Int} {σ : Smp}, SizeOf.sizeOf A ≤ N → smpT A = some σ → hsT sm x n A = some A' → smpT A' = some σ
 | 0, A, _, _, _, hN, _, _ => by cases A; simp at hN
 | N + 1, .mk k l m ts, A', n, σ, hN, h, h1 => by
  obtain ⟨us, hus, h2⟩ := hsT_some h1
  rcases smpT_some h with ⟨rfl, rfl, rfl⟩ | ⟨rfl, a, b, r, x1, y1, rfl, hx, hy, rfl⟩
  ·rcases h2 with ⟨_, rfl⟩ | ⟨_, h2, _⟩ | ⟨_, h2, _⟩ | ⟨_, h2, _⟩
   ·exact smpT_42 m us
   ·cases h2
   ·cases h2
   ·cases h2
  ·obtain ⟨a', us1, rfl, ha, hus⟩ := hsL_some hus
   obtain ⟨b', us2, rfl, hb, hus⟩ := hsL_some hus
   simp at hN
   have e1 := hs_smp_N N (by omega) hx ha
   have e2 := hs_smp_N N (by omega) hy hb
   rcases h2 with ⟨_, rfl⟩ | ⟨h2, _⟩ | ⟨h2, _⟩ | ⟨h2, _⟩
   ·rw [smpT_2, e1, e2]
   ·cases h2
   ·cases h2
   ·cases h2
theorem hs_smp {sm : Smp} {x : Term} {A A' : Term} {n : Int} {σ : Smp} (h : smpT A = some σ) (h1 : hsT sm x n A = some A') : smpT A' = some σ := hs_smp_N _ (Nat.le_refl _) h h1
theorem smpT_nil (k l m : Int) : smpT (.mk k l m []) = if k = 4 ∧ l = 2 then some (.mk [] m) else none := by rw [smpT.eq_def]
theorem smpT_one (k l m : Int) (a : Term) : smpT (.mk k l m [a]) = if k = 4 ∧ l = 2 then some (.mk [] m) else none := by rw [smpT.eq_def]
theorem smpT_two (k l m : Int) (a b : Term) (r : List Term) : smpT (.mk k l m (a :: b :: r)) = if k = 4 ∧ l = 2 then some (.mk [] m) else if k = 2 then (match smpT a, smpT b with
  | some x, some y => some (.mk (x :: y.xs) y.c)
  | _, _ => none) else none := by
 rw [smpT.eq_def]
 rfl
theorem shv_42 (b c m : Int) (k l : Int) (h : ¬ (k = 4 ∧ l = 1)) : shv b c k l m = m := by
 unfold shv
 rw [if_neg (by omega)]
theorem sh_smp (b : Int) : ∀ (A : Term) (c : Int), smpT (sh b c A) = smpT A
 | .mk k l m [], c => by
  rw [sh, shL, smpT_nil, smpT_nil]
  split
  ·rw [shv_42 _ _ _ _ _ (by omega)]
  ·rfl
 | .mk k l m [a], c => by
  rw [sh, shL, shL, smpT_one, smpT_one]
  split
  ·rw [shv_42 _ _ _ _ _ (by omega)]
  ·rfl
 | .mk k l m (a :: x :: r), c => by
  rw [sh, shL, shL, smpT_two, smpT_two, sh_smp b a, sh_smp b x]
  split
  ·rw [shv_42 _ _ _ _ _ (by omega)]
  ·rfl
 termination_by A => SizeOf.sizeOf A
 decreasing_by all_goals (simp; omega)
end Go.Tr
/- renumbered, Chosen. -/
namespace Go.Tr
open Go.Proofs
end Go.Tr
/- Swap. -/
namespace Go.Tr
open Go.Proofs
end Go.Tr
/- Without, Rename. -/
namespace Go.Tr
open Go.Proofs
end Go.Tr
/- Renumbered terms: the plain laws. -/
namespace Go.Tr
open Go.Proofs
mutual
def rnT (f : Int → Int) : Term → Term
 | .mk k l n ts => .mk k l (match decide (k = 4) && decide (l = 2) with | true => f n | false => n) (rnL f ts)
def rnL (f : Int → Int) : List Term → List Term
 | [] => []
 | t :: r => rnT f t :: rnL f r
end
mutual
def cnT : Term → List Int
 | .mk k l n ts => (match decide (k = 4) && decide (l = 2) with | true => [n] | false => []) ++ cnL ts
def cnL : List Term → List Int
 | [] => []
 | t :: r => cnT t ++ cnL r
end
theorem rnL_len (f : Int → Int) : ∀ ts : List Term, (rnL f ts).length = ts.length
 | [] => rfl
 | t :: r => by rw [rnL, List.length_cons, List.length_cons, rnL_len f r]
theorem rnT_k (f : Int → Int) (t : Term) : (rnT f t).k = t.k := by cases t; rw [rnT]; rfl
mutual
theorem rn_id {f : Int → Int} : ∀ (t : Term), (∀ x ∈ cnT t, f x = x) → rnT f t = t
 | .mk k l n ts, h => by
  rw [rnT, rnL_id ts (fun x hx => h x (by rw [cnT]; exact List.mem_append.2 (.inr hx)))]
  cases hb : decide (k = 4) && decide (l = 2) with
  | false => rfl
  | true => rw [h n (by rw [cnT, hb]; simp)]
theorem rnL_id {f : Int → Int} : ∀ (ts : List Term), (∀ x ∈ cnL ts, f x = x) → rnL f ts = ts
 | [], _ => by rw [rnL]
 | t :: r, h => by
  rw [rnL, rn_id t (fun x hx => h x (by rw [cnL]; exact List.mem_append.2 (.inl hx))), rnL_id r (fun x hx => h x (by rw [cnL]; exact List.mem_append.2 (.inr hx)))]
end
mutual
theorem rn_rn (f g : Int → Int) : ∀ (t : Term), rnT g (rnT f t) = rnT (fun x => g (f x)) t
 | .mk k l n ts => by
  rw [rnT, rnT, rnT, rnL_rn f g ts]
  cases decide (k = 4) && decide (l = 2) <;> rfl
theorem rnL_rn (f g : Int → Int) : ∀ (ts : List Term), rnL g (rnL f ts) = rnL (fun x => g (f x)) ts
 | [] => by rw [rnL, rnL, rnL]
 | t :: r => by rw [rnL, rnL, rnL, rn_rn f g t, rnL_rn f g r]
end
mutual
theorem rn_sz (f : Int → Int) : ∀ (t : Term), szT (rnT f t) = szT t
 | .mk k l n ts => by rw [rnT, szT, szT, rnL_sz f ts]
theorem rnL_sz (f : Int → Int) : ∀ (ts : List Term), szL (rnL f ts) = szL ts
 | [] => by rw [rnL]
 | t :: r => by rw [rnL, szL, szL, rn_sz f t, rnL_sz f r]
end
mutual
theorem rn_fm {f : Int → Int} : ∀ (t : Term) (d : Int), (∀ x ∈ cnT t, 0 ≤ f x ∧ f x ≤ 9999) → fmT t d = true → fmT (rnT f t) d = true
 | .mk k l n ts, d, h, hf => by
  rw [fmT, Bool.and_eq_true, Bool.and_eq_true] at hf
  rw [rnT, fmT, Bool.and_eq_true, Bool.and_eq_true, rnL_len]
  refine ⟨⟨hf.1.1, ?_⟩, rnL_fm ts d (fun x hx => h x (by rw [cnT]; exact List.mem_append.2 (.inr hx))) hf.2⟩
  have h1 := hf.1.2
  cases hb : decide (k = 4) && decide (l = 2) with
  | false => exact h1
  | true =>
   have hn := h n (by rw [cnT, hb]; simp)
   rw [Bool.and_eq_true] at hb
   have h4 : k = 4 := of_decide_eq_true hb.1
   have h2 : l = 2 := of_decide_eq_true hb.2
   subst h4 h2
   unfold fmB
   simp
   omega
theorem rnL_fm {f : Int → Int} : ∀ (ts : List Term) (d : Int), (∀ x ∈ cnL ts, 0 ≤ f x ∧ f x ≤ 9999) → fmL ts d = true → fmL (rnL f ts) d = true
 | [], d, _, _ => by rw [rnL, fmL]
 | t :: r, d, h, hf => by
  rw [fmL, Bool.and_eq_true] at hf
  rw [rnL, fmL, Bool.and_eq_true]
  exact ⟨rn_fm t (d + 1) (fun x hx => h x (by rw [cnL]; exact List.mem_append.2 (.inl hx))) hf.1, rnL_fm r d (fun x hx => h x (by rw [cnL]; exact List.mem_append.2 (.inr hx))) hf.2⟩
end
theorem prop_iff (t : Term) : prop t = true ↔ szT t ≤ 600 ∧ fmT t 1 = true := by
 rw [prop_rprop, rprop_iff', Bool.and_eq_true, decide_eq_true_eq]
theorem rn_prop {f : Int → Int} {t : Term} (h : ∀ x ∈ cnT t, 0 ≤ f x ∧ f x ≤ 9999) (hp : prop t = true) : prop (rnT f t) = true := by
 rw [prop_iff] at hp ⊢
 rw [rn_sz]
 exact ⟨hp.1, rn_fm t 1 h hp.2⟩
theorem nodeOk_mk (m k l n i : Int) (ts : List Term) : nodeOk m (.mk k l n ts) i = ((!decide (l = 3)) && (!decide (l = 1) || decide (n < i)) && (!decide (l = 2) || decide (n < m))) := rfl
mutual
theorem nodes_cn {m : Int} : ∀ (t : Term) (i : Int), nodesT m t i = true → ∀ x ∈ cnT t, x < m
 | .mk k l n ts, i, h, x, hx => by
  rw [nodesT, Bool.and_eq_true] at h
  rw [cnT] at hx
  rcases List.mem_append.1 hx with hx | hx
  ·cases hb : decide (k = 4) && decide (l = 2) with
   | false => rw [hb] at hx; cases hx
   | true =>
    rw [hb] at hx
    simp only [List.mem_singleton] at hx
    subst hx
    rw [Bool.and_eq_true] at hb
    have h1 := h.1
    rw [nodeOk_mk, hb.1, hb.2] at h1
    simp at h1
    exact h1.2
  ·exact nodesL_cn k i ts 0 h.2 x hx
theorem nodesL_cn {m : Int} (k i : Int) : ∀ (ts : List Term) (j : Int), nodesL m k i j ts = true → ∀ x ∈ cnL ts, x < m
 | [], j, _, x, hx => by rw [cnL] at hx; cases hx
 | t :: r, j, h, x, hx => by
  rw [nodesL, Bool.and_eq_true] at h
  rw [cnL] at hx
  rcases List.mem_append.1 hx with hx | hx
  ·exact nodes_cn t _ h.1 x hx
  ·exact nodesL_cn k i r (j + 1) h.2 x hx
end
theorem rn_dom (f : Int → Int) : ∀ (c : Nat) (t : Term), SizeOf.sizeOf t ≤ c → (domT (rnT f t)).1.length = (domT t).1.length ∧ (domT (rnT f t)).2 = rnT f (domT t).2
 | 0, t, hc => by cases t; simp at hc
 | c + 1, t, hc => by
  by_cases hk : t.k = 2
  ·obtain ⟨k, l, n, ts⟩ := t
   replace hk : k = 2 := hk
   subst hk
   rcases ts with _ | ⟨a, _ | ⟨b, r⟩⟩
   ·rw [rnT, rnL, show domT (.mk 2 l n []) = ([], .mk 2 l n []) by rw [domT]; try simp]
    rw [show domT (.mk 2 l _ []) = ([], .mk 2 l _ []) by rw [domT]; try simp]
    exact ⟨rfl, by rw [rnT, rnL]⟩
   ·rw [rnT, rnL, rnL, show domT (.mk 2 l n [a]) = ([], .mk 2 l n [a]) by rw [domT]; try simp]
    rw [show domT (.mk 2 l _ [rnT f a]) = ([], .mk 2 l _ [rnT f a]) by rw [domT]; try simp]
    exact ⟨rfl, by rw [rnT, rnL, rnL]⟩
   ·rw [rnT, rnL, rnL, domT_pi, domT_pi]
    have ih := rn_dom f c b (by simp at hc; omega)
    exact ⟨by simp [ih.1], ih.2⟩
  ·rw [domT_no hk, domT_no (by rw [rnT_k]; exact hk)]
   exact ⟨rfl, rfl⟩
theorem rn_kind (f : Int → Int) (t : Term) : kindT (rnT f t) = kindT t := by
 unfold kindT
 rw [(rn_dom f _ t (Nat.le_refl _)).2, rnT_k]
mutual
theorem fm_cn : ∀ (t : Term) (d : Int), fmT t d = true → ∀ x ∈ cnT t, 0 ≤ x ∧ x ≤ 9999
 | .mk k l n ts, d, h, x, hx => by
  rw [fmT, Bool.and_eq_true, Bool.and_eq_true] at h
  rw [cnT] at hx
  rcases List.mem_append.1 hx with hx | hx
  ·cases hb : decide (k = 4) && decide (l = 2) with
   | false => rw [hb] at hx; cases hx
   | true =>
    rw [hb] at hx
    simp only [List.mem_singleton] at hx
    subst hx
    rw [Bool.and_eq_true] at hb
    have h4 : k = 4 := of_decide_eq_true hb.1
    have h1 := h.1.2
    subst h4
    unfold fmB at h1
    simp at h1
    omega
  ·exact fmL_cn ts d h.2 x hx
theorem fmL_cn : ∀ (ts : List Term) (d : Int), fmL ts d = true → ∀ x ∈ cnL ts, 0 ≤ x ∧ x ≤ 9999
 | [], d, _, x, hx => by rw [cnL] at hx; cases hx
 | t :: r, d, h, x, hx => by
  rw [fmL, Bool.and_eq_true] at h
  rw [cnL] at hx
  rcases List.mem_append.1 hx with hx | hx
  ·exact fm_cn t _ h.1 x hx
  ·exact fmL_cn r d h.2 x hx
end
theorem prop_cn {t : Term} (h : prop t = true) : ∀ x ∈ cnT t, 0 ≤ x ∧ x ≤ 9999 := fm_cn t 1 (prop_fm1 h)
end Go.Tr
/- What the bounded substitution computes; the judgements without bounds. -/
namespace Go.Tr
def SbRel (r : SbR) (o : Option Term) : Prop := r = .er 5 ∨ (match o with | some u => ∃ s', r = .ok u s' | none => r = .er 23)
def SlRel (r : SbL) (o : Option (List Term)) : Prop := r = .er 5 ∨ (match o with | some u => ∃ s', r = .ok u s' | none => r = .er 23)
theorem whole_rel (t : Term) (s : Int) : SbRel (wholeR t s) (some t) := by
 unfold wholeR
 cases prop t with
 | true => exact .inr ⟨s, rfl⟩
 | false => exact .inl rfl
theorem putArgs_rel {f : Int → Term → Int → SbR} {sm : Smp} {x : Term} {k n : Int} (hf : ∀ s u n, SbRel (f s u n) (hsT sm x n u)) : ∀ (ts : List Term) (i s : Int), SlRel (putArgs f k n i ts s) (hsL sm x n k i ts)
 | [], i, s => by rw [putArgs, hsL_nil]; exact .inr ⟨s, rfl⟩
 | t :: r, i, s => by
  rw [putArgs, hsL_cons]
  rcases hf s t (n + unT k i) with h | h
  ·rw [h]; exact .inl rfl
  ·cases h1 : hsT sm x (n + unT k i) t with
   | none =>
    rw [h1] at h
    replace h : f s t (n + unT k i) = .er 23 := h
    rw [h]
    exact .inr rfl
   | some u =>
    rw [h1] at h
    obtain ⟨s1, h⟩ := h
    rw [h]
    simp only
    rcases putArgs_rel hf r (i + 1) s1 with h2 | h2
    ·rw [h2]; exact .inl rfl
    ·cases h3 : hsL sm x n k (i + 1) r with
     | none =>
      rw [h3] at h2
      replace h2 : putArgs f k n (i + 1) r s1 = .er 23 := h2
      rw [h2]
      exact .inr rfl
     | some us =>
      rw [h3] at h2
      obtain ⟨s2, h2⟩ := h2
      rw [h2]
      exact .inr ⟨s2, rfl⟩
theorem appR_rel {f : Int → Term → Term → Smp → SbR} (hf : ∀ s b y m, SbRel (f s b y m) (hsT m y 0 b)) : ∀ (ys : List Term) (g : Term) (S : List Smp) (s : Int), SbRel (appR f g ys S s) (hsA S g ys)
 | [], g, S, s => by rw [appR, hsA_nil]; exact whole_rel g s
 | y :: ys, g, S, s => by
  rw [appR_cons]
  cases S with
  | nil =>
   rw [hsA_no]
   cases decide (g.k = 3) with
   | false => exact .inr rfl
   | true => cases g.ts <;> exact .inr rfl
  | cons m S' =>
   rw [hsA_cons]
   by_cases hk : g.k = 3
   ·rw [decide_eq_true hk, if_pos hk]
    cases hts : g.ts with
    | nil => exact .inr rfl
    | cons b r =>
     simp only
     rcases hf s b y m with h | h
     ·rw [h]; exact .inl rfl
     ·cases h1 : hsT m y 0 b with
      | none =>
       rw [h1] at h
       replace h : f s b y m = .er 23 := h
       rw [h]
       exact .inr rfl
      | some u =>
       rw [h1] at h
       obtain ⟨s1, h⟩ := h
       rw [h]
       exact appR_rel hf ys u S' s1
   ·rw [decide_eq_false hk, if_neg hk]
    exact .inr rfl
theorem put_rel : ∀ (g : Nat) (s : Int) (t : Term) (n : Int) (x : Term) (sm : Smp), SbRel (putT g s t n x sm) (hsT sm x n t)
 | 0, s, t, n, x, sm => by rw [putT]; exact .inl rfl
 | g + 1, s, .mk k l m ts, n, x, sm => by
  rw [putT, hsT_mk]
  cases decide (20000 < s + 1) with
  | true => exact .inl rfl
  | false =>
   simp only
   rcases putArgs_rel (k := k) (n := n) (fun s u n => put_rel g s u n x sm) ts 0 (s + 1) with h | h
   ·rw [h]; exact .inl rfl
   ·cases h1 : hsL sm x n k 0 ts with
    | none =>
     rw [h1] at h
     replace h : putArgs (fun s u n => putT g s u n x sm) k n 0 ts (s + 1) = .er 23 := h
     rw [h]
     exact .inr rfl
    | some us =>
     rw [h1] at h
     obtain ⟨s1, h⟩ := h
     rw [h]
     simp only
     by_cases hv : k = 4 ∧ l = 1
     ·obtain ⟨rfl, rfl⟩ := hv
      simp only [decide_true, Bool.true_and, and_self, if_true]
      by_cases hm : m = n
      ·subst hm
       rw [decide_eq_true (Int.le_refl m), if_pos rfl, decide_eq_false (show ¬ m < m by omega)]
       simp only
       cases prop (raisedT x m) with
       | false => exact .inl rfl
       | true =>
        rw [raised_sh]
        exact appR_rel (fun s b y sm => put_rel g s b 0 y sm) us _ sm.xs s1
      ·rw [if_neg hm]
       by_cases hn : n < m
       ·rw [decide_eq_true (show n ≤ m by omega), if_pos hn, decide_eq_true hn]
        exact whole_rel _ _
       ·rw [decide_eq_false (show ¬ n ≤ m by omega), if_neg hn]
        exact whole_rel _ _
     ·rw [if_neg hv]
      have : (decide (k = 4) && decide (l = 1) && decide (n ≤ m)) = false := by
       by_cases h4 : k = 4
       ·by_cases h5 : l = 1
        ·exact absurd ⟨h4, h5⟩ hv
        ·simp [h5]
       ·simp [h4]
      rw [this]
      exact whole_rel _ _
def instE (A B m : Term) : Term × Int := match smpT A with
 | none => (zT, 22)
 | some sm => (match hsT sm m 0 B with
  | none => (zT, 23)
  | some u => (u, 0))
theorem prop_pi6 {l n : Int} {ts : List Term} (h : prop (.mk 2 l n ts) = true) : ∃ A B, l = 0 ∧ n = 0 ∧ ts = [A, B] ∧ prop A = true ∧ prop B = true := by
 obtain ⟨a, b, he, _, _, _⟩ := prop_pi2 h rfl
 cases he
 exact ⟨a, b, rfl, rfl, rfl, (prop_pi h).1, (prop_pi h).2⟩
theorem inst_rel {A B m : Term} (hc : prop (.mk 2 0 0 [A, B]) = true) (hm : prop m = true) : instR (.mk 2 0 0 [A, B]) [m] = (zT, 5) ∨ instR (.mk 2 0 0 [A, B]) [m] = instE A B m := by
 unfold instR instE
 rw [hc]
 simp only [List.all_cons, hm, List.all_nil, List.length_cons, List.length_nil, Bool.true_and, Bool.and_true, show decide ((0 + 1 : Nat) ≤ 600) = true from rfl, instL]
 unfold stepR
 simp only [Term.k, Term.ts, decide_true]
 cases smpT A with
 | none => exact .inr rfl
 | some sm =>
  simp only
  rcases put_rel 20001 0 B 0 m sm with h | h
  ·rw [h]; exact .inl rfl
  ·cases h1 : hsT sm m 0 B with
   | none =>
    rw [h1] at h
    replace h : putT 20001 0 B 0 m sm = .er 23 := h
    rw [h]
    exact .inr rfl
   | some u =>
    rw [h1] at h
    obtain ⟨s1, h⟩ := h
    rw [h]
    exact .inr rfl
def lkC (cx : List Term) (n : Int) : Option Term := if 0 ≤ n then cx.reverse[n.toNat]? else none
def clsE (K : Krn) (cx : List Term) (l n : Int) : Term × Int :=
 if l = 1 then (match lkC cx n with
  | some t => (sh (n + 1) 0 t, 0)
  | none => (zT, 27))
 else if l = 2 then (match K.sig[n.toNat]? with
  | some d => if kindT d.c = true then (zT, 22) else (d.c, 0)
  | none => (zT, 27))
 else (match K.ms[n.toNat]? with
  | some d => (d.cl, 0)
  | none => (zT, 27))
mutual
def objE (K : Krn) : Term → List Term → Term → Int
 | .mk k l n ts, cx, a =>
  if a.k = 2 then (if k = 4 then 23 else if k = 3 then (match a.ts with
   | A :: B :: _ => objEH K ts (cx ++ [A]) B
   | _ => 22) else 22)
  else if a.k = 4 then (if k = 3 then 23 else if k = 4 then eqF a (appF (clsE K cx l n) fun c => fitE K ts cx c) else 22)
  else 22
def objEH (K : Krn) : List Term → List Term → Term → Int
 | [], _, _ => 22
 | m :: _, cx, a => objE K m cx a
def fitE (K : Krn) : List Term → List Term → Term → Term × Int
 | [], _, c => (c, 0)
 | m :: r, cx, c => if c.k = 2 then (match c.ts with
   | A :: B :: _ => if objE K m cx A ≠ 0 then (zT, objE K m cx A) else if (instE A B m).2 ≠ 0 then (zT, (instE A B m).2) else fitE K r cx (instE A B m).1
   | _ => (zT, 23))
  else (zT, 23)
end
def famE6 (K : Krn) (cx : List Term) (n : Int) (ts : List Term) : Int := match K.sig[n.toNat]? with
 | none => 27
 | some d => if kindT d.c = true then (if (fitE K ts cx d.c).2 ≠ 0 then (fitE K ts cx d.c).2 else if (fitE K ts cx d.c).1.k = 1 then 0 else 23) else 22
def typE (K : Krn) : Term → List Term → Int
 | .mk k l n ts, cx => if k = 2 then (match ts with
   | A :: B :: _ => if typE K A cx ≠ 0 then typE K A cx else typE K B (cx ++ [A])
   | _ => 22)
  else if k = 4 ∧ l = 2 then famE6 K cx n ts else 22
theorem COk.snoc {cx : List Term} (h : COk cx) {A : Term} (hA : prop A = true) (hl : ¬ 30 ≤ cx.length) : COk (cx ++ [A]) :=
 ⟨fun t ht => by rcases List.mem_append.1 ht with ht | ht; exact h.1 t ht; rw [List.mem_singleton.1 ht]; exact hA, by simp; omega⟩
theorem szL_in : ∀ {ts : List Term} {u : Term}, u ∈ ts → szT u ≤ szL ts
 | t :: r, u, h => by
  rw [szL]
  rcases List.mem_cons.1 h with rfl | h
  ·have := szL_pos r
   omega
  ·have := szL_in h
   have := szT_pos t
   omega
theorem prop_app {l n : Int} {ts : List Term} (h : prop (.mk 4 l n ts) = true) : 1 ≤ l ∧ l ≤ 3 ∧ 0 ≤ n ∧ n ≤ 9999 ∧ ∀ t ∈ ts, prop t = true := by
 have h1 := fm_app (prop_fm1 h)
 refine ⟨h1.1, h1.2.1, h1.2.2.1, h1.2.2.2, fun t ht => ?_⟩
 have hs := prop_sz h
 rw [prop_iff] at h ⊢
 have h2 := h.2
 unfold fmT at h2
 simp only [Bool.and_eq_true] at h2
 have h3 := fm_mono t 2 1 (fmL_mem4 ts 1 h2.2 t ht) (by omega)
 refine ⟨?_, h3⟩
 rw [szT] at hs
 have := szL_in ht
 omega
theorem prop_lam6 {l n : Int} {ts : List Term} (h : prop (.mk 3 l n ts) = true) : ∃ b, l = 0 ∧ n = 0 ∧ ts = [b] ∧ prop b = true := by
 obtain ⟨h1, h2, b, rfl, hb⟩ := fm_lam (prop_fm1 h)
 have hs := prop_sz h
 refine ⟨b, h1, h2, rfl, ?_⟩
 rw [prop_iff]
 rw [szT, szL, szL] at hs
 exact ⟨by omega, fm_mono b 2 1 hb (by omega)⟩
theorem lkC_at {cx : List Term} {n : Int} (h0 : 0 ≤ n) (h1 : n < cx.length) : lkC cx n = cx[cx.length - 1 - n.toNat]? := by
 unfold lkC
 rw [if_pos h0, List.getElem?_reverse (by omega)]
theorem cls_rel {K : Krn} (hK : KOk K) {cx : List Term} (hc : COk cx) {l n : Int} (h0 : 0 ≤ n) (h1 : n ≤ 9999) : clsF K cx l n = (zT, 5) ∨ (clsF K cx l n = clsE K cx l n ∧ ((clsE K cx l n).2 = 0 → prop (clsE K cx l n).1 = true)) := by
 unfold clsF clsE
 by_cases hl : l = 1
 ·rw [if_pos hl, if_pos hl]
  by_cases hn : n < cx.length
  ·rw [lkC_at h0 hn]
   cases ht : cx[cx.length - 1 - n.toNat]? with
   | none => exact .inr ⟨rfl, fun h => by cases h⟩
   | some t =>
    simp only
    rw [if_pos hn]
    have hp := hc.1 t (List.mem_of_getElem? ht)
    have hcl := hc.2
    rw [shift_up t hp (n + 1) (by omega), ← raised_sh]
    cases hr : prop (raisedT t (n + 1)) with
    | true => exact .inr ⟨rfl, fun _ => by first | exact hr | rfl⟩
    | false => exact .inl rfl
  ·have e : lkC cx n = none := by
    unfold lkC
    rw [if_pos h0, List.getElem?_eq_none (by rw [List.length_reverse]; omega)]
   rw [e]
   refine .inr ⟨?_, fun h => by cases h⟩
   split
   ·rw [if_neg hn]
   ·rfl
 ·rw [if_neg hl, if_neg hl]
  by_cases hl2 : l = 2
  ·rw [if_pos hl2]
   try rw [if_pos hl2]
   cases hd : K.sig[n.toNat]? with
   | none => exact .inr ⟨rfl, fun h => by cases h⟩
   | some d =>
    have hp := hK.1 d (List.mem_of_getElem? hd)
    simp only
    split
    ·exact .inr ⟨trivial, fun h => by cases h⟩
    ·exact .inr ⟨trivial, fun _ => hp⟩
  ·rw [if_neg hl2]
   try rw [if_neg hl2]
   cases hd : K.ms[n.toNat]? with
   | none => exact .inr ⟨rfl, fun h => by cases h⟩
   | some d => exact .inr ⟨rfl, fun _ => hK.2.1 d (List.mem_of_getElem? hd)⟩
theorem appF_ok (c : Term) (f : Term → Term × Int) : appF (c, 0) f = restF (f c) := rfl
theorem nz0 : ¬ ((0 : Int) ≠ 0) := fun h => h rfl
theorem restF_ok {p : Term} (h : p.k ≠ 2) : restF (p, 0) = (p, 0) := by
 unfold restF
 rw [if_neg nz0, if_neg h]
mutual
theorem obj_rel {K : Krn} (hK : KOk K) : ∀ (m : Term) (cx : List Term) (a : Term), COk cx → prop m = true → prop a = true → objF K m cx a = 5 ∨ objF K m cx a = objE K m cx a
 | .mk k l n ts, cx, a, hc, hm, ha => by
  rw [objF, objE]
  by_cases ha2 : a.k = 2
  ·rw [if_pos ha2, if_pos ha2]
   by_cases hk4 : k = 4
   ·rw [if_pos hk4, if_pos hk4]; exact .inr rfl
   ·rw [if_neg hk4, if_neg hk4]
    by_cases hk3 : k = 3
    ·rw [if_pos hk3, if_pos hk3]
     subst hk3
     obtain ⟨b, rfl, rfl, rfl, hb⟩ := prop_lam6 hm
     obtain ⟨k2, l2, n2, us⟩ := a
     replace ha2 : k2 = 2 := ha2
     subst ha2
     obtain ⟨A, B, rfl, rfl, rfl, hA, hB⟩ := prop_pi6 ha
     by_cases h30 : 30 ≤ cx.length
     ·rw [if_pos h30]; exact .inl rfl
     ·rw [if_neg h30]
      simp only [Term.ts, objH, objEH]
      exact obj_rel hK b _ B (hc.snoc hA h30) hb hB
    ·rw [if_neg hk3, if_neg hk3]; exact .inr rfl
  ·rw [if_neg ha2, if_neg ha2]
   by_cases ha4 : a.k = 4
   ·rw [if_pos ha4, if_pos ha4]
    by_cases hk3 : k = 3
    ·rw [if_pos hk3, if_pos hk3]; exact .inr rfl
    ·rw [if_neg hk3, if_neg hk3]
     by_cases hk4 : k = 4
     ·rw [if_pos hk4, if_pos hk4]
      subst hk4
      obtain ⟨_, _, h0, h1, hts⟩ := prop_app hm
      rcases cls_rel hK hc (l := l) h0 h1 with h | ⟨h, hp⟩
      ·rw [h]; exact .inl rfl
      ·rw [h]
       unfold appF
       by_cases he : (clsE K cx l n).2 ≠ 0
       ·rw [if_pos he, if_pos he]; exact .inr rfl
       ·rw [if_neg he, if_neg he]
        simp only
        rcases fit_rel hK ts cx _ hc hts (hp (by omega)) with h | h
        ·rw [h]; exact .inl rfl
        ·rw [h]; exact .inr rfl
     ·rw [if_neg hk4, if_neg hk4]; exact .inr rfl
   ·rw [if_neg ha4, if_neg ha4]; exact .inr rfl
theorem fit_rel {K : Krn} (hK : KOk K) : ∀ (ts cx : List Term) (c : Term), COk cx → (∀ t ∈ ts, prop t = true) → prop c = true → fitF K ts cx c = (zT, 5) ∨ fitF K ts cx c = fitE K ts cx c
 | [], cx, c, hc, hts, hcl => by rw [fitF, fitE]; exact .inr rfl
 | m :: r, cx, c, hc, hts, hcl => by
  rw [fitF, fitE]
  by_cases hc2 : c.k = 2
  ·rw [if_pos hc2, if_pos hc2]
   obtain ⟨k2, l2, n2, us⟩ := c
   replace hc2 : k2 = 2 := hc2
   subst hc2
   obtain ⟨A, B, rfl, rfl, rfl, hA, hB⟩ := prop_pi6 hcl
   have hm := hts m (List.mem_cons_self ..)
   simp only [Term.ts]
   rcases obj_rel hK m cx A hc hm hA with h | h
   ·rw [h]; exact .inl rfl
   ·rw [h]
    by_cases he : objE K m cx A ≠ 0
    ·rw [if_pos he, if_pos he]; exact .inr rfl
    ·rw [if_neg he, if_neg he]
     rcases inst_rel hcl hm with h2 | h2
     ·rw [h2]; exact .inl rfl
     ·by_cases he2 : (instE A B m).2 ≠ 0
      ·rw [h2, if_pos he2, if_pos he2]; exact .inr rfl
      ·have hp := instR_prop (c := .mk 2 0 0 [A, B]) (l := [m]) (by rw [h2]; omega)
       rw [h2] at hp ⊢
       rw [if_neg he2, if_neg he2]
       exact fit_rel hK r cx _ hc (fun t ht => hts t (List.mem_cons_of_mem _ ht)) hp
  ·rw [if_neg hc2, if_neg hc2]; exact .inr rfl
end
theorem fam_rel {K : Krn} (hK : KOk K) {cx : List Term} (hc : COk cx) {n : Int} {ts : List Term} (hts : ∀ t ∈ ts, prop t = true) : famF K cx n ts = 5 ∨ famF K cx n ts = famE6 K cx n ts := by
 unfold famF famE6
 cases hd : K.sig[n.toNat]? with
 | none => exact .inr rfl
 | some d =>
  simp only
  split
  ·rcases fit_rel hK ts cx d.c hc hts (hK.1 d (List.mem_of_getElem? hd)) with h | h
   ·rw [h]; exact .inl rfl
   ·rw [h]; exact .inr rfl
  ·exact .inr rfl
theorem typ_rel {K : Krn} (hK : KOk K) : ∀ (a : Term) (cx : List Term), COk cx → prop a = true → typF K a cx = 5 ∨ typF K a cx = typE K a cx
 | .mk k l n ts, cx, hc, ha => by
  rw [typF.eq_def, typE.eq_def]
  simp only
  by_cases hk : k = 2
  ·rw [if_pos hk, if_pos hk]
   subst hk
   obtain ⟨A, B, rfl, rfl, rfl, hA, hB⟩ := prop_pi6 ha
   simp only
   rcases typ_rel hK A cx hc hA with h | h
   ·rw [h]; exact .inl rfl
   ·rw [h]
    by_cases he : typE K A cx ≠ 0
    ·rw [if_pos he, if_pos he]; exact .inr rfl
    ·rw [if_neg he, if_neg he]
     by_cases h30 : 30 ≤ cx.length
     ·rw [if_pos h30]; exact .inl rfl
     ·rw [if_neg h30]
      exact typ_rel hK B _ (hc.snoc hA h30) hB
  ·rw [if_neg hk, if_neg hk]
   split
   ·rename_i h4
    obtain ⟨rfl, rfl⟩ := h4
    exact fam_rel hK hc (prop_app ha).2.2.2.2
   ·exact .inr rfl
end Go.Tr
