/- What each function computes, and the plain laws of it. -/
import Derived.Test.YtbdomphfbpapdaaGreatTrX0f8640bf
set_option linter.unusedVariables false
set_option linter.unusedSimpArgs false
set_option linter.unnecessarySimpa false
set_option autoImplicit false
/- sign.Check. -/
namespace Go.Tr
open Go.Proofs
def namesOf (l : List Dcl) : KV → Option Bool := fun q => match q with | .s b => if l.any (fun e => decide (e.s = b)) then some true else none | _ => none
theorem namesOf_snoc {l : List Dcl} {d : Dcl} : mput (namesOf l) (.s d.s) true = namesOf (l ++ [d]) := by
  funext q
  cases q with
  | i n => simp [mput, namesOf]
  | s b =>
    unfold mput namesOf
    by_cases h : b = d.s
    · subst h; simp
    · rw [if_neg (by intro h2; injection h2 with h2; exact h h2)]
      have h3 : ¬ d.s = b := fun e => h e.symm
      simp [h3]
/-- The map before round n. -/
def namesAt (sig : List Dcl) : Nat → KV → Option Bool
  | 0 => fun _ => none
  | n + 1 => namesOf (sig.take (n + 1))
theorem namesAt_eq (sig : List Dcl) : ∀ n, namesAt sig n = namesOf (sig.take n)
  | 0 => by funext q; cases q <;> simp [namesAt, namesOf]
  | n + 1 => rfl
/-- Whether a declaration can stand at its place. -/
def goodD (sig : List Dcl) (n : Nat) : Bool := match sig[n]? with
  | some d => !((namesOf (sig.take n) (.s d.s)).getD false) && formedF (sig.take n) d
  | none => true
theorem good_prop {sig : List Dcl} {n : Nat} (h : ∀ i, i < n → goodD sig i = true) : ∀ e ∈ sig.take n, prop e.c = true := by
  intro e he
  obtain ⟨i, hi⟩ := List.mem_iff_getElem?.1 he
  rw [List.getElem?_take] at hi
  split at hi
  · rename_i hin
    have hg := h i hin
    unfold goodD at hg
    rw [hi] at hg
    simp only [Bool.and_eq_true] at hg
    have := hg.2
    unfold formedF at this
    simp only [Bool.and_eq_true] at this
    exact this.1.1.1.1
  · cases hi
def checkB (sig : List Dcl) : Bool := decide (sig.length ≤ 100) && (List.range sig.length).all (goodD sig)
theorem cCheck (sig : List Dcl) : CallSt Tryz.prog 31 [.c (.sl 6 72 (dcs sig))] [] (fun r H' => r = .c (.int .i64 ((if checkB sig then 0 else 2))) ∧ H' = []) := by
  have hbl := len_dcs sig
  by_cases hs : sig.length ≤ 100
  · have hIt := fun {ps} {asg} {body} => @cSEach1 ps asg body sig (by omega) (namesAt sig) (goodD sig) 0 2
    refine call_pure (E := env 0) (fn := Tryz.f31) (c := bodyOf Tryz.f31) (env_ok 0) mixed (by kernel_rfl) (by kernel_rfl) (by kernel_rfl) (by kernel_rfl) (by kernel_rfl) (by kernel_rfl) rfl ?_
    conv => whnf
    intro _
    conv => whnf
    (refine ⟨fun h => absurd (of_decide_eq_true h) (by omega), fun _ => ?_⟩; conv => whnf)
    try (refine draw_intro true (by kernel_rfl) ?_; conv => whnf)
    refine CallSt.use ((cSEach sig)) [] trivial (by decide) rfl ?_
    rintro _ _ ⟨rfl, rfl⟩ _
    conv => whnf
    refine CallSt.wkl 4 [(3, .ptr 2 0), (2, .ptr 0 0)] rfl (subTM_lk ⟨rfl, rfl, trivial⟩) ?_
    refine CallSt.use (hIt ?_) [3, 0, 1, 2, 4] ⟨rfl, rfl, rfl, rfl, rfl, trivial⟩ (by decide) rfl ?_
    · intro n d hd hall
      have hfm := cFormed (sig.take n) (good_prop hall) (by simp; omega) d
      have hg : goodD sig n = (!((namesAt sig n (.s d.s)).getD false) && formedF (sig.take n) d) := by unfold goodD; rw [hd, namesAt_eq]
      have hnx : namesAt sig (n + 1) = mput (namesAt sig n) (.s d.s) true := by rw [namesAt_eq, namesAt_eq, namesOf_snoc, List.take_add_one, hd]; rfl
      rw [hg, hnx]
      clear hg hnx hIt
      generalize namesAt sig n = F at *
      generalize formedF (sig.take n) d = b at *
      obtain ⟨s', ⟨k', l', n', us⟩, i'⟩ := d
      dsimp only [Term.k, Term.l, Term.n, Term.ts]
      refine y_intro (E := envY 6) (envY_ok 6) mixed rfl rfl (i := 4) rfl rfl rfl ?_
      conv => whnf
      generalize (F (.s s')).getD false = c at *
      cases c with
      | true =>
        repeat (first | (refine And.intro rfl ?_; conv => whnf) | (refine And.intro (by decide) ?_; conv => whnf) | (refine draw_intro true (by kernel_rfl) ?_; conv => whnf) | (refine And.intro ⟨by omega, by omega⟩ ?_; conv => whnf) | (refine And.intro (by omega) ?_; conv => whnf) | (refine And.intro (fun _ => ⟨by omega, by omega⟩) ?_; conv => whnf) | (refine And.intro (fun _ => ?_) (fun h => absurd h ?_); rotate_left; (focus (first | decide | (simp; done) | (simp [tcs]; done))); conv => whnf) | (refine And.intro (fun h => absurd h ?_) (fun _ => ?_); (focus (first | decide | (simp; done) | (simp [tcs]; done))); conv => whnf))
        first | exact ⟨rfl, .inr ⟨rfl, rfl, rfl⟩⟩ | exact .inr ⟨rfl, rfl, rfl⟩
      | false =>
        (refine ⟨fun _ => ?_, fun h => absurd h ?_⟩; rotate_left; (focus (first | decide | (simp; done) | (simp [tcs]; done))); conv => whnf)
        try (refine draw_intro true (by kernel_rfl) ?_; conv => whnf)
        refine CallSt.use hfm [] trivial (by decide) rfl ?_
        rintro _ _ ⟨rfl, rfl⟩ _
        conv => whnf
        cases b with
        | true =>
          repeat (first | (refine And.intro rfl ?_; conv => whnf) | (refine And.intro (by decide) ?_; conv => whnf) | (refine draw_intro true (by kernel_rfl) ?_; conv => whnf) | (refine And.intro ⟨by omega, by omega⟩ ?_; conv => whnf) | (refine And.intro (by omega) ?_; conv => whnf) | (refine And.intro (fun _ => ⟨by omega, by omega⟩) ?_; conv => whnf) | (refine And.intro (fun _ => ?_) (fun h => absurd h ?_); rotate_left; (focus (first | decide | (simp; done) | (simp [tcs]; done))); conv => whnf) | (refine And.intro (fun h => absurd h ?_) (fun _ => ?_); (focus (first | decide | (simp; done) | (simp [tcs]; done))); conv => whnf))
          first | exact ⟨rfl, .inl ⟨rfl, rfl, rfl⟩⟩ | exact .inl ⟨rfl, rfl, rfl⟩
        | false =>
          repeat (first | (refine And.intro rfl ?_; conv => whnf) | (refine And.intro (by decide) ?_; conv => whnf) | (refine draw_intro true (by kernel_rfl) ?_; conv => whnf) | (refine And.intro ⟨by omega, by omega⟩ ?_; conv => whnf) | (refine And.intro (by omega) ?_; conv => whnf) | (refine And.intro (fun _ => ⟨by omega, by omega⟩) ?_; conv => whnf) | (refine And.intro (fun _ => ?_) (fun h => absurd h ?_); rotate_left; (focus (first | decide | (simp; done) | (simp [tcs]; done))); conv => whnf) | (refine And.intro (fun h => absurd h ?_) (fun _ => ?_); (focus (first | decide | (simp; done) | (simp [tcs]; done))); conv => whnf))
          first | exact ⟨rfl, .inr ⟨rfl, rfl, rfl⟩⟩ | exact .inr ⟨rfl, rfl, rfl⟩
    rintro _ _ ⟨rfl, (⟨hall, rfl⟩ | ⟨⟨n, hn, hg⟩, n', rfl⟩)⟩ _
    · have hcb : checkB sig = true := by
        unfold checkB
        rw [decide_eq_true hs, Bool.true_and, List.all_eq_true]
        intro i hi
        exact hall i (by simpa using hi)
      rw [hcb]
      conv => whnf
      repeat (first | (refine And.intro rfl ?_; conv => whnf) | (refine And.intro (by decide) ?_; conv => whnf) | (refine draw_intro true (by kernel_rfl) ?_; conv => whnf) | (refine And.intro ⟨by omega, by omega⟩ ?_; conv => whnf) | (refine And.intro (by omega) ?_; conv => whnf) | (refine And.intro (fun _ => ⟨by omega, by omega⟩) ?_; conv => whnf) | (refine And.intro (fun _ => ?_) (fun h => absurd h ?_); rotate_left; (focus (first | decide | (simp; done) | (simp [tcs]; done))); conv => whnf) | (refine And.intro (fun h => absurd h ?_) (fun _ => ?_); (focus (first | decide | (simp; done) | (simp [tcs]; done))); conv => whnf))
      all_goals (first | rfl | exact ⟨rfl, rfl⟩ | exact ⟨rfl, rfl, rfl⟩)
    · have hcb : checkB sig = false := by
        unfold checkB
        rw [decide_eq_true hs, Bool.true_and, List.all_eq_false]
        exact ⟨n, by simpa using hn, by rw [hg]; simp⟩
      rw [hcb]
      conv => whnf
      repeat (first | (refine And.intro rfl ?_; conv => whnf) | (refine And.intro (by decide) ?_; conv => whnf) | (refine draw_intro true (by kernel_rfl) ?_; conv => whnf) | (refine And.intro ⟨by omega, by omega⟩ ?_; conv => whnf) | (refine And.intro (by omega) ?_; conv => whnf) | (refine And.intro (fun _ => ⟨by omega, by omega⟩) ?_; conv => whnf) | (refine And.intro (fun _ => ?_) (fun h => absurd h ?_); rotate_left; (focus (first | decide | (simp; done) | (simp [tcs]; done))); conv => whnf) | (refine And.intro (fun h => absurd h ?_) (fun _ => ?_); (focus (first | decide | (simp; done) | (simp [tcs]; done))); conv => whnf))
      all_goals (first | rfl | exact ⟨rfl, rfl⟩ | exact ⟨rfl, rfl, rfl⟩)
  · rw [show checkB sig = false by unfold checkB; rw [decide_eq_false hs]; rfl]
    refine call_pure (E := env 0) (fn := Tryz.f31) (c := bodyOf Tryz.f31) (env_ok 0) mixed (by kernel_rfl) (by kernel_rfl) (by kernel_rfl) (by kernel_rfl) (by kernel_rfl) (by kernel_rfl) rfl ?_
    conv => whnf
    intro _
    conv => whnf
    (refine ⟨fun _ => ?_, fun h => absurd (of_decide_eq_false h) (by omega)⟩; conv => whnf)
    repeat (first | (refine And.intro rfl ?_; conv => whnf) | (refine And.intro (by decide) ?_; conv => whnf) | (refine draw_intro true (by kernel_rfl) ?_; conv => whnf) | (refine And.intro ⟨by omega, by omega⟩ ?_; conv => whnf) | (refine And.intro (by omega) ?_; conv => whnf) | (refine And.intro (fun _ => ⟨by omega, by omega⟩) ?_; conv => whnf) | (refine And.intro (fun _ => ?_) (fun h => absurd h ?_); rotate_left; (focus (first | decide | (simp; done) | (simp [tcs]; done))); conv => whnf) | (refine And.intro (fun h => absurd h ?_) (fun _ => ?_); (focus (first | decide | (simp; done) | (simp [tcs]; done))); conv => whnf))
    all_goals (first | rfl | exact ⟨rfl, rfl⟩ | exact ⟨rfl, rfl, rfl⟩)
end Go.Tr
/- Occurs of the reference. -/
namespace Go.Tr
open Go.Proofs
mutual
/-- Whether a variable occurs; numbers wrap. -/
def lowW : Term → Int → Bool
  | .mk k l n ts, a => lowB k l n a a || lowWL k 0 ts a
def lowWL (k : Int) : Int → List Term → Int → Bool
  | _, [], _ => false
  | j, t :: r, a => lowW t (IntKind.i64.wrap (a + unT k j)) || lowWL k (j + 1) r a
end
theorem wrap_add (y u : Int) : IntKind.i64.wrap (IntKind.i64.wrap y + u) = IntKind.i64.wrap (y + u) := by
  simp only [IntKind.wrap_i64]
  omega
theorem lowB_wrap {k l n a : Int} (hn : -1000000 ≤ n ∧ n ≤ 1000000) (ha : 0 ≤ a ∧ a ≤ 9223372036854775807 + 2000000000) : lowB k l n (IntKind.i64.wrap a) (IntKind.i64.wrap a) = lowB k l n a a := by
  have h : (IntKind.i64.wrap a ≤ n ∧ n ≤ IntKind.i64.wrap a) ↔ (a ≤ n ∧ n ≤ a) := by
    rw [IntKind.wrap_i64]
    omega
  unfold lowB
  rw [Bool.and_assoc, Bool.and_assoc (decide (k = 4) && decide (l = 1))]
  congr 1
  rw [← Bool.decide_and, ← Bool.decide_and]
  exact decide_eq_decide.2 h
mutual
theorem lowW_eq : ∀ (t : Term) (a b : Int), okT t b → b ≤ a → a ≤ 9223372036854775807 + b → lowW t (IntKind.i64.wrap a) = lowT t a a
  | .mk k l n ts, a, b, ho, h1, h2 => by
    have hn := bnT_n ho.1
    obtain ⟨hi, hc⟩ := okT_step _ b ho
    simp only [Term.n] at hn
    rw [lowW, lowT, lowB_wrap hn ⟨by omega, by omega⟩]
    congr 1
    exact lowWL_eq k ts 0 a b (fun j u hu => by have := hc j u hu; simpa [Term.k] using this) h1 h2
theorem lowWL_eq (k : Int) : ∀ (ts : List Term) (q : Nat) (a b : Int), (∀ (j : Nat) u, ts[j]? = some u → okT u (b + unT k ((q + j : Nat) : Int))) → b ≤ a → a ≤ 9223372036854775807 + b → lowWL k q ts (IntKind.i64.wrap a) = lowL k q ts a a
  | [], q, a, b, _, _, _ => by rw [lowWL, lowL]
  | t :: r, q, a, b, ho, h1, h2 => by
    rw [lowWL, lowL, wrap_add, lowW_eq t (a + unT k q) (b + unT k q) (by have := ho 0 t rfl; simpa using this) (by omega) (by omega)]
    congr 1
    exact lowWL_eq k r (q + 1) a b (fun j u hu => by
      have := ho (j + 1) u (by simpa using hu)
      rwa [show q + 1 + j = q + (j + 1) by omega]) h1 h2
end
mutual
theorem heads_mem : ∀ (t : Term) (b : Int) (L : List Int) (x : Int), x ∈ headsT 1 t b L ↔ x ∈ L ∨ (0 ≤ x ∧ lowT t (x + b) (x + b) = true)
  | .mk k l n ts, b, L, x => by
    have e : headsT 1 (.mk k l n ts) b L = headsL 1 k b 0 ts (hdStep 1 L (.mk k l n ts) b) := by rw [headsT]; rfl
    rw [e, lowT, headsL_mem k b ts 0 _ x, Bool.or_eq_true]
    have h : x ∈ hdStep 1 L (.mk k l n ts) b ↔ x ∈ L ∨ (0 ≤ x ∧ lowB k l n (x + b) (x + b) = true) := by
      unfold hdStep
      simp only [Term.k, Term.l, Term.n]
      unfold lowB
      by_cases h1 : k = 4
      · by_cases h2 : l = 1
        · by_cases h3 : b ≤ n
          · simp only [h1, h2, h3, decide_true, Bool.and_self, Bool.not_true, Bool.true_and, putI_mem, Bool.and_eq_true, decide_eq_true_eq]
            constructor
            · rintro (h | h)
              · exact .inr ⟨by omega, by omega, by omega⟩
              · exact .inl h
            · rintro (h | ⟨h4, h5, h6⟩)
              · exact .inr h
              · exact .inl (by omega)
          · simp only [h1, h2, h3, decide_true, decide_false, Bool.and_self, Bool.not_true, Bool.true_and, Bool.and_eq_true, decide_eq_true_eq]
            constructor
            · exact .inl
            · rintro (h | ⟨h4, h5, h6⟩)
              · exact h
              · exact absurd h3 (by omega)
        · simp [h2]
      · simp [h1]
    rw [h]
    constructor
    · rintro ((h | h) | h)
      · exact .inl h
      · exact .inr ⟨h.1, .inl h.2⟩
      · exact .inr ⟨h.1, .inr h.2⟩
    · rintro (h | ⟨h1, h | h⟩)
      · exact .inl (.inl h)
      · exact .inl (.inr ⟨h1, h⟩)
      · exact .inr ⟨h1, h⟩
theorem headsL_mem (k b : Int) : ∀ (ts : List Term) (j : Int) (L : List Int) (x : Int), x ∈ headsL 1 k b j ts L ↔ x ∈ L ∨ (0 ≤ x ∧ lowL k j ts (x + b) (x + b) = true)
  | [], j, L, x => by rw [headsL, lowL]; simp
  | t :: r, j, L, x => by
    rw [headsL, lowL, headsL_mem k b r (j + 1) _ x, heads_mem t (b + unT k j) L x, Bool.or_eq_true, Int.add_assoc]
    constructor
    · rintro ((h | h) | h)
      · exact .inl h
      · exact .inr ⟨h.1, .inl h.2⟩
      · exact .inr ⟨h.1, .inr h.2⟩
    · rintro (h | ⟨h1, h | h⟩)
      · exact .inl (.inl h)
      · exact .inl (.inr ⟨h1, h⟩)
      · exact .inr ⟨h1, h⟩
end
/-- A free variable occurs. -/
theorem occurs_law {t : Term} (h : prop t = true) {n : Int} (hn : inR n) : (decide (0 ≤ n) && lowW t n) = decide (n ∈ conF 1 t) := by
  have h1 : n ∈ conF 1 t ↔ 0 ≤ n ∧ lowT t n n = true := by
    unfold conF
    rw [h]
    simp only [heads_mem, Int.add_zero]
    simp
  obtain ⟨a, b⟩ := hn
  by_cases h0 : 0 ≤ n
  · have h2 := lowW_eq t n 0 (prop_ok h) h0 (by omega)
    rw [wrap_in ⟨a, b⟩] at h2
    rw [h2]
    simp only [h0, decide_true, Bool.true_and]
    cases hl : lowT t n n
    · exact (decide_eq_false (fun hm => by rw [h1, hl] at hm; simp at hm)).symm
    · exact (decide_eq_true (h1.2 ⟨h0, hl⟩)).symm
  · simp only [h0, decide_false, Bool.false_and]
    exact (decide_eq_false (fun hm => h0 (h1.1 hm).1)).symm
end Go.Tr
/- Free, Constants, Metas, Occurs of both sides; lists of numbers. -/
namespace Go.Tr
open Go.Proofs
theorem cConsP (t : Term) : CallSt Tryz.prog 47 [tv t] [] (fun r H' => r = .tup [.c (.sl 1 8 (rowI (conF 2 t))), .c (.int .i64 ((if prop t then 0 else 2)))] ∧ H' = []) := by
  have hh := numbers_of 67 2 (fun t i _ => cCons1 t i) t
  generalize conF 2 t = L at *
  generalize (if prop t then (0 : Int) else 2) = e at *
  obtain ⟨k, l, n, ts⟩ := t
  rw [tv_mk] at *
  refine call_pure (E := env 0) (fn := Tryz.f47) (c := bodyOf Tryz.f47) (env_ok 0) mixed (by kernel_rfl) (by kernel_rfl) (by kernel_rfl) (by kernel_rfl) (by kernel_rfl) (by kernel_rfl) rfl ?_
  conv => whnf
  try (refine draw_intro true (by kernel_rfl) ?_; conv => whnf)
  refine CallSt.use hh [] trivial (by decide) rfl ?_
  rintro _ _ ⟨rfl, rfl⟩ _
  conv => whnf
  repeat (first | (refine And.intro rfl ?_; conv => whnf) | (refine And.intro (by decide) ?_; conv => whnf) | (refine draw_intro true (by kernel_rfl) ?_; conv => whnf) | (refine And.intro ⟨by omega, by omega⟩ ?_; conv => whnf) | (refine And.intro (by omega) ?_; conv => whnf) | (refine And.intro (fun _ => ⟨by omega, by omega⟩) ?_; conv => whnf) | (refine And.intro (fun _ => ?_) (fun h => absurd h ?_); rotate_left; (focus (first | decide | (simp; done) | (simp [tcs]; done))); conv => whnf) | (refine And.intro (fun h => absurd h ?_) (fun _ => ?_); (focus (first | decide | (simp; done) | (simp [tcs]; done))); conv => whnf))
  all_goals (first | rfl | exact ⟨rfl, rfl⟩ | exact ⟨rfl, rfl, rfl⟩)
theorem heads_con (hd : Int) {t : Term} (h : prop t = true) : CallSt Tryz.prog 70 [tv t, .c (.int .i64 (hd)), .c (.int .i64 (0)), .c (.sl 1 8 (rowI []))] [] (fun r H' => r = .c (.sl 1 8 (rowI (conF hd t))) ∧ H' = []) := by
  have hz := prop_sz h
  have hh := cHeads hd t 0 [] (prop_ok h) (by simp; omega)
  have e : conF hd t = headsT hd t 0 [] := by unfold conF; rw [h]
  rw [e]
  exact hh
theorem cRFree {t : Term} (h : prop t = true) : CallSt Tryz.prog 61 [tv t] [] (fun r H' => r = .c (.sl 1 8 (rowI (conF 1 t))) ∧ H' = []) := by
  have hh := heads_con 1 h
  generalize conF 1 t = L at *
  clear h
  obtain ⟨k, l, n, ts⟩ := t
  rw [tv_mk] at *
  refine call_pure (E := env 0) (fn := Tryz.f61) (c := bodyOf Tryz.f61) (env_ok 0) mixed (by kernel_rfl) (by kernel_rfl) (by kernel_rfl) (by kernel_rfl) (by kernel_rfl) (by kernel_rfl) rfl ?_
  conv => whnf
  try (refine draw_intro true (by kernel_rfl) ?_; conv => whnf)
  refine CallSt.use hh [] trivial (by decide) rfl ?_
  rintro _ _ ⟨rfl, rfl⟩ _
  conv => whnf
  repeat (first | (refine And.intro rfl ?_; conv => whnf) | (refine And.intro (by decide) ?_; conv => whnf) | (refine draw_intro true (by kernel_rfl) ?_; conv => whnf) | (refine And.intro ⟨by omega, by omega⟩ ?_; conv => whnf) | (refine And.intro (by omega) ?_; conv => whnf) | (refine And.intro (fun _ => ⟨by omega, by omega⟩) ?_; conv => whnf) | (refine And.intro (fun _ => ?_) (fun h => absurd h ?_); rotate_left; (focus (first | decide | (simp; done) | (simp [tcs]; done))); conv => whnf) | (refine And.intro (fun h => absurd h ?_) (fun _ => ?_); (focus (first | decide | (simp; done) | (simp [tcs]; done))); conv => whnf))
  all_goals (first | rfl | exact ⟨rfl, rfl⟩ | exact ⟨rfl, rfl, rfl⟩)
theorem cRCons {t : Term} (h : prop t = true) : CallSt Tryz.prog 50 [tv t] [] (fun r H' => r = .c (.sl 1 8 (rowI (conF 2 t))) ∧ H' = []) := by
  have hh := heads_con 2 h
  generalize conF 2 t = L at *
  clear h
  obtain ⟨k, l, n, ts⟩ := t
  rw [tv_mk] at *
  refine call_pure (E := env 0) (fn := Tryz.f50) (c := bodyOf Tryz.f50) (env_ok 0) mixed (by kernel_rfl) (by kernel_rfl) (by kernel_rfl) (by kernel_rfl) (by kernel_rfl) (by kernel_rfl) rfl ?_
  conv => whnf
  try (refine draw_intro true (by kernel_rfl) ?_; conv => whnf)
  refine CallSt.use hh [] trivial (by decide) rfl ?_
  rintro _ _ ⟨rfl, rfl⟩ _
  conv => whnf
  repeat (first | (refine And.intro rfl ?_; conv => whnf) | (refine And.intro (by decide) ?_; conv => whnf) | (refine draw_intro true (by kernel_rfl) ?_; conv => whnf) | (refine And.intro ⟨by omega, by omega⟩ ?_; conv => whnf) | (refine And.intro (by omega) ?_; conv => whnf) | (refine And.intro (fun _ => ⟨by omega, by omega⟩) ?_; conv => whnf) | (refine And.intro (fun _ => ?_) (fun h => absurd h ?_); rotate_left; (focus (first | decide | (simp; done) | (simp [tcs]; done))); conv => whnf) | (refine And.intro (fun h => absurd h ?_) (fun _ => ?_); (focus (first | decide | (simp; done) | (simp [tcs]; done))); conv => whnf))
  all_goals (first | rfl | exact ⟨rfl, rfl⟩ | exact ⟨rfl, rfl, rfl⟩)
theorem cRMetas {t : Term} (h : prop t = true) : CallSt Tryz.prog 62 [tv t] [] (fun r H' => r = .c (.sl 1 8 (rowI (conF 3 t))) ∧ H' = []) := by
  have hh := heads_con 3 h
  generalize conF 3 t = L at *
  clear h
  obtain ⟨k, l, n, ts⟩ := t
  rw [tv_mk] at *
  refine call_pure (E := env 0) (fn := Tryz.f62) (c := bodyOf Tryz.f62) (env_ok 0) mixed (by kernel_rfl) (by kernel_rfl) (by kernel_rfl) (by kernel_rfl) (by kernel_rfl) (by kernel_rfl) rfl ?_
  conv => whnf
  try (refine draw_intro true (by kernel_rfl) ?_; conv => whnf)
  refine CallSt.use hh [] trivial (by decide) rfl ?_
  rintro _ _ ⟨rfl, rfl⟩ _
  conv => whnf
  repeat (first | (refine And.intro rfl ?_; conv => whnf) | (refine And.intro (by decide) ?_; conv => whnf) | (refine draw_intro true (by kernel_rfl) ?_; conv => whnf) | (refine And.intro ⟨by omega, by omega⟩ ?_; conv => whnf) | (refine And.intro (by omega) ?_; conv => whnf) | (refine And.intro (fun _ => ⟨by omega, by omega⟩) ?_; conv => whnf) | (refine And.intro (fun _ => ?_) (fun h => absurd h ?_); rotate_left; (focus (first | decide | (simp; done) | (simp [tcs]; done))); conv => whnf) | (refine And.intro (fun h => absurd h ?_) (fun _ => ?_); (focus (first | decide | (simp; done) | (simp [tcs]; done))); conv => whnf))
  all_goals (first | rfl | exact ⟨rfl, rfl⟩ | exact ⟨rfl, rfl, rfl⟩)
theorem cNumsEq (L M : List Int) (hL : L.length ≤ 1000000) (hM : M.length ≤ 1000000) : CallSt Tryz.prog 25 [.c (.sl 1 8 (rowI L)), .c (.sl 1 8 (rowI M))] [] (fun r H' => r = .c (.bool (decide (L = M))) ∧ H' = []) := by
  have hrl := len_rowI L
  have hrm := len_rowI M
  refine call_pure (E := env 0) (fn := Tryz.f25) (c := bodyOf Tryz.f25) (env_ok 0) mixed (by kernel_rfl) (by kernel_rfl) (by kernel_rfl) (by kernel_rfl) (by kernel_rfl) (by kernel_rfl) rfl ?_
  conv => whnf
  intro hl1
  conv => whnf
  intro hl2
  conv => whnf
  have key : (!decide (((rowI L).length : Int) = (rowI M).length)) = !decide (L.length = M.length) := by
    rw [hrl, hrm]; simp only [Int.natCast_inj]
  refine ⟨fun h => ?_, fun h => ?_⟩
  · replace h := key.symm.trans h
    rw [Bool.not_eq_true', decide_eq_false_iff_not] at h
    rw [show decide (L = M) = false from decide_eq_false (fun e => h (by rw [e]))]
    conv => whnf
    repeat (first | (refine And.intro rfl ?_; conv => whnf) | (refine And.intro (by decide) ?_; conv => whnf) | (refine draw_intro true (by kernel_rfl) ?_; conv => whnf) | (refine And.intro ⟨by omega, by omega⟩ ?_; conv => whnf) | (refine And.intro (by omega) ?_; conv => whnf) | (refine And.intro (fun _ => ⟨by omega, by omega⟩) ?_; conv => whnf) | (refine And.intro (fun _ => ?_) (fun h => absurd h ?_); rotate_left; (focus (first | decide | (simp; done) | (simp [tcs]; done))); conv => whnf) | (refine And.intro (fun h => absurd h ?_) (fun _ => ?_); (focus (first | decide | (simp; done) | (simp [tcs]; done))); conv => whnf))
    all_goals (first | rfl | exact ⟨rfl, rfl⟩ | exact ⟨rfl, rfl, rfl⟩)
  · replace h := key.symm.trans h
    rw [Bool.not_eq_false', decide_eq_true_eq] at h
    conv => whnf
    intro hl3
    conv => whnf
    refine loop_intro (fun m tm H => ∃ j : Nat, L.length = m + j ∧ (∀ i, i < j → L[i]? = M[i]?) ∧
        tm = [(13, .c (.int .i64 (j))), (12, .c (.int .i64 ((rowI L).length))), (0, .c (.sl 1 8 (rowI L))), (1, .c (.sl 1 8 (rowI M)))] ∧ H = []) L.length _ _ ⟨0, by omega, fun i hi => absurd hi (by omega), rfl, rfl⟩ (Wk.sel [] (by decide) (by decide) (by decide) trivial ⟨rfl, rfl, rfl, rfl, trivial⟩ rfl) ?_
    rintro m tm H ⟨j, hj, hno, rfl, rfl⟩
    conv => whnf
    refine ⟨fun hc => ?_, fun hc => ?_⟩
    · replace hc : (j : Int) < (rowI L).length := of_decide_eq_true hc
      have hlt : j < L.length := by omega
      have hltm : j < M.length := by omega
      obtain ⟨x, hx⟩ : ∃ x, L[j]? = some x := ⟨L[j], List.getElem?_eq_getElem hlt⟩
      obtain ⟨y, hy⟩ : ∃ y, M[j]? = some y := ⟨M[j], List.getElem?_eq_getElem hltm⟩
      have hxr := rowI_at hx
      have hyr := rowI_at hy
      conv => whnf
      refine draw_intro true (by kernel_rfl) ?_
      conv => whnf
      refine ⟨_, ⟨by omega, by simpa using hxr⟩, ?_⟩
      conv => whnf
      refine ⟨Nat.le_refl 1, ?_⟩
      conv => whnf
      refine ⟨_, ⟨by omega, by simpa using hyr⟩, ?_⟩
      conv => whnf
      refine ⟨Nat.le_refl 1, ?_⟩
      conv => whnf
      refine ⟨fun he => ?_, fun he => ?_⟩
      · replace he : ¬ x = y := by simpa using he
        rw [show decide (L = M) = false from decide_eq_false (fun e => he (by rw [e] at hx; rw [hx] at hy; injection hy))]
        conv => whnf
        repeat (first | (refine And.intro rfl ?_; conv => whnf) | (refine And.intro (by decide) ?_; conv => whnf) | (refine draw_intro true (by kernel_rfl) ?_; conv => whnf) | (refine And.intro ⟨by omega, by omega⟩ ?_; conv => whnf) | (refine And.intro (by omega) ?_; conv => whnf) | (refine And.intro (fun _ => ⟨by omega, by omega⟩) ?_; conv => whnf) | (refine And.intro (fun _ => ?_) (fun h => absurd h ?_); rotate_left; (focus (first | decide | (simp; done) | (simp [tcs]; done))); conv => whnf) | (refine And.intro (fun h => absurd h ?_) (fun _ => ?_); (focus (first | decide | (simp; done) | (simp [tcs]; done))); conv => whnf))
        all_goals (first | rfl | exact ⟨rfl, rfl⟩ | exact ⟨rfl, rfl, rfl⟩)
      · replace he : x = y := by simpa using he
        conv => whnf
        refine ⟨⟨by omega, by omega⟩, ?_⟩
        conv => whnf
        refine ⟨m - 1, _, _, by omega, ⟨j + 1, by omega, fun i hi => ?_, rfl, rfl⟩, Wk.sel [] (by decide) (by decide) (by decide) trivial ⟨rfl, rfl, rfl, rfl, trivial⟩ rfl⟩
        by_cases hij : i < j
        · exact hno i hij
        · obtain rfl : i = j := by omega
          rw [hx, hy, he]
    · replace hc : ¬ (j : Int) < (rowI L).length := of_decide_eq_false hc
      have e : L = M := List.ext_getElem? fun i => by
        by_cases hi : i < j
        · exact hno i hi
        · rw [List.getElem?_eq_none (by omega), List.getElem?_eq_none (by omega)]
      rw [decide_eq_true e]
      conv => whnf
      repeat (first | (refine And.intro rfl ?_; conv => whnf) | (refine And.intro (by decide) ?_; conv => whnf) | (refine draw_intro true (by kernel_rfl) ?_; conv => whnf) | (refine And.intro ⟨by omega, by omega⟩ ?_; conv => whnf) | (refine And.intro (by omega) ?_; conv => whnf) | (refine And.intro (fun _ => ⟨by omega, by omega⟩) ?_; conv => whnf) | (refine And.intro (fun _ => ?_) (fun h => absurd h ?_); rotate_left; (focus (first | decide | (simp; done) | (simp [tcs]; done))); conv => whnf) | (refine And.intro (fun h => absurd h ?_) (fun _ => ?_); (focus (first | decide | (simp; done) | (simp [tcs]; done))); conv => whnf))
      all_goals (first | rfl | exact ⟨rfl, rfl⟩ | exact ⟨rfl, rfl, rfl⟩)
end Go.Tr
/- The reference's Split. -/
namespace Go.Tr
open Go.Proofs
theorem c33 (t : Term) (d : Int) (h : fmT t d = true) (hd : 0 ≤ d) : CallSt Tryz.prog 40 [tv t] [] (fun r H' => r = .tup [.c (.sl 4 48 (tcs (domT t).1)), tv (domT t).2] ∧ H' = []) := by
  have hlen := dom_len t d h
  have hz := SizeOf.sizeOf t
  generalize hT : t = T at *
  subst hT
  obtain ⟨k, l, n, ts⟩ := t
  rw [tv_mk]
  refine call_pure (E := env 0) (fn := Tryz.f40) (c := bodyOf Tryz.f40) (env_ok 0) mixed (by kernel_rfl) (by kernel_rfl) (by kernel_rfl) (by kernel_rfl) (by kernel_rfl) (by kernel_rfl) rfl ?_
  conv => whnf
  refine loop_intro (fun m tm H => ∃ (k' l' n' : Int) (ts' pre : List Term) (d' : Int), SizeOf.sizeOf (Term.mk k' l' n' ts') ≤ m ∧ fmT (.mk k' l' n' ts') d' = true ∧ pre ++ (domT (.mk k' l' n' ts')).1 = (domT (.mk k l n ts)).1 ∧ (domT (.mk k' l' n' ts')).2 = (domT (.mk k l n ts)).2 ∧
      tm = [(4, .own 2), (1, .ptr 0 0), (3, .ptr 1 0)] ∧ H = [.box [.c (.int .i64 (k')), .c (.int .i64 (l')), .c (.int .i64 (n')), .c (.sl 4 48 (tcs ts'))], .box [.c (.int .i64 (0)), .c (.int .i64 (0)), .c (.int .i64 (0)), .nil], .row 37 4 48 (tcs pre)])
      (SizeOf.sizeOf (Term.mk k l n ts)) _ _ ⟨k, l, n, ts, [], d, Nat.le_refl _, h, rfl, rfl, rfl, rfl⟩ ?_ ?_
  · refine Wk.trans (tm1 := [(1, .ptr 0 0), (3, .ptr 1 0), (4, .nil)]) (H1 := [.box [.c (.int .i64 (k)), .c (.int .i64 (l)), .c (.int .i64 (n)), .c (.sl 4 48 (tcs ts))], .box [.c (.int .i64 (0)), .c (.int .i64 (0)), .c (.int .i64 (0)), .nil]]) ?_ (Wk.trans (Wk.niltmp 4 37 4 48 rfl rfl) ?_)
    · exact Wk.sel [0, 1] (by decide) (by decide) (by decide) ⟨rfl, rfl, trivial⟩ ⟨rfl, rfl, rfl, trivial⟩ rfl
    · exact Wk.sel [0, 1, 2] (by decide) (by decide) (by decide) ⟨rfl, rfl, rfl, trivial⟩ ⟨rfl, rfl, rfl, trivial⟩ rfl
  rintro m tm H ⟨k', l', n', ts', pre, d', hm, hf, hpre, hrest, rfl, rfl⟩
  conv => whnf
  refine ⟨fun hc => ?_, fun hc => ?_⟩
  · replace hc : k' = 2 := of_decide_eq_true hc
    subst hc
    obtain ⟨rfl, rfl, a, b, rfl, ha, hb⟩ := fm_pi hf
    rw [domT_pi] at hpre hrest
    have hl1 : (tcs pre).length ≤ 41 := by
      rw [len_tcs]
      have := congrArg List.length hpre
      simp at this
      omega
    obtain ⟨a1, a2, a3, a4⟩ := a
    obtain ⟨b1, b2, b3, b4⟩ := b
    conv => whnf
    refine ⟨_, ⟨by decide, rfl⟩, ?_⟩
    conv => whnf
    refine ⟨Nat.le_refl 4, ?_⟩
    conv => whnf
    refine ⟨by decide, ?_⟩
    conv => whnf
    refine ⟨by decide, ?_⟩
    conv => whnf
    have hl2 : ((tcs pre).length + 1) * 48 ≤ 140737488355328 := by omega
    have hl3 : (tcs pre).length + 1 ≤ 9223372036854775807 := by omega
    refine ⟨hl2, hl3, ?_⟩
    conv => whnf
    refine ⟨_, ⟨by decide, rfl⟩, ?_⟩
    conv => whnf
    refine ⟨Nat.le_refl 4, ?_⟩
    conv => whnf
    refine ⟨SizeOf.sizeOf (Term.mk b1 b2 b3 b4), _, _, ?_, ⟨b1, b2, b3, b4, pre ++ [.mk a1 a2 a3 a4], d' + 1, Nat.le_refl _, hb, ?_, hrest, rfl, rfl⟩, Wk.sel [0, 1, 4] (by decide) (by decide) (by decide) ⟨rfl, rfl, ?_, trivial⟩ ⟨rfl, rfl, rfl, trivial⟩ rfl⟩
    · simp at hm ⊢; omega
    · rw [← hpre, List.append_assoc]; rfl
    · rw [← tcs_snoc]; rfl
  · replace hc : ¬ k' = 2 := of_decide_eq_false hc
    rw [domT_no (t := .mk k' l' n' ts') hc] at hpre hrest
    simp only [List.append_nil] at hpre
    rw [← hpre, ← hrest]
    conv => whnf
    repeat (first | (refine And.intro rfl ?_; conv => whnf) | (refine And.intro (by decide) ?_; conv => whnf) | (refine draw_intro true (by kernel_rfl) ?_; conv => whnf) | (refine And.intro ⟨by omega, by omega⟩ ?_; conv => whnf) | (refine And.intro (by omega) ?_; conv => whnf) | (refine And.intro (fun _ => ⟨by omega, by omega⟩) ?_; conv => whnf) | (refine And.intro (fun _ => ?_) (fun h => absurd h ?_); rotate_left; (focus (first | decide | (simp; done) | (simp [tcs]; done))); conv => whnf) | (refine And.intro (fun h => absurd h ?_) (fun _ => ?_); (focus (first | decide | (simp; done) | (simp [tcs]; done))); conv => whnf))
    all_goals (first | rfl | exact ⟨rfl, rfl⟩ | exact ⟨rfl, rfl, rfl⟩)
end Go.Tr
/- The reference: closed. -/
namespace Go.Tr
open Go.Proofs
/-- The last of a list is below a number, or there is none. -/
def lastB (l : List Int) (n : Int) : Bool := match l.getLast? with | some x => decide (x < n) | none => true
def closedF (t : Term) (n : Int) : Bool := decide ((conF 1 t).length = 0) && decide ((conF 3 t).length = 0) && lastB (conF 2 t) n
theorem last_row (C : List Int) : (C = [] ∧ ∀ n, lastB C n = true) ∨ ∃ x, C ≠ [] ∧ (rowI C)[C.length - 1]? = some [.int .i64 x] ∧ ∀ n, lastB C n = decide (x < n) := by
  rcases List.eq_nil_or_concat C with rfl | ⟨D, x, rfl⟩
  · exact .inl ⟨rfl, fun n => rfl⟩
  · refine .inr ⟨x, by simp, ?_, fun n => by simp [lastB]⟩
    exact rowI_at (by simp)
theorem cRClosed (t : Term) (n : Int) (hp : prop t = true) : CallSt Tryz.prog 39 [tv t, .c (.int .i64 (n))] [] (fun r H' => r = .c (.bool (closedF t n)) ∧ H' = []) := by
  have h1 := cRFree hp
  have h2 := cRCons hp
  have h3 := cRMetas hp
  have l1 := len_rowI (conF 1 t)
  have l2 := len_rowI (conF 2 t)
  have l3 := len_rowI (conF 3 t)
  have hb := conF_len 2 t
  unfold closedF
  generalize conF 1 t = A at *
  generalize conF 2 t = C at *
  generalize conF 3 t = B at *
  clear hp
  obtain ⟨k, l, m, ts⟩ := t
  rw [tv_mk] at *
  have eA : decide (A.length = 0) = decide (((rowI A).length : Int) = 0) := by rw [l1]; exact decide_eq_decide.2 (by omega)
  have eB : decide (B.length = 0) = decide (((rowI B).length : Int) = 0) := by rw [l3]; exact decide_eq_decide.2 (by omega)
  rw [eA, eB]
  refine call_pure (E := env 0) (fn := Tryz.f39) (c := bodyOf Tryz.f39) (env_ok 0) mixed (by kernel_rfl) (by kernel_rfl) (by kernel_rfl) (by kernel_rfl) (by kernel_rfl) (by kernel_rfl) rfl ?_
  conv => whnf
  try (refine draw_intro true (by kernel_rfl) ?_; conv => whnf)
  refine CallSt.use h2 [] trivial (by decide) rfl ?_
  rintro _ _ ⟨rfl, rfl⟩ _
  conv => whnf
  try (refine draw_intro true (by kernel_rfl) ?_; conv => whnf)
  refine CallSt.use h1 [] trivial (by decide) rfl ?_
  rintro _ _ ⟨rfl, rfl⟩ _
  conv => whnf
  intro _
  conv => whnf
  generalize decide (((rowI A).length : Int) = 0) = a
  cases a with
  | true =>
    (refine ⟨fun _ => ?_, fun h => absurd h ?_⟩; rotate_left; (focus (first | decide | (simp; done) | (simp [tcs]; done))); conv => whnf)
    try (refine draw_intro true (by kernel_rfl) ?_; conv => whnf)
    refine CallSt.use h3 [] trivial (by decide) rfl ?_
    rintro _ _ ⟨rfl, rfl⟩ _
    conv => whnf
    intro _
    conv => whnf
    generalize decide (((rowI B).length : Int) = 0) = b
    intro _
    conv => whnf
    intro _
    conv => whnf
    refine ⟨fun _ => ⟨by omega, by omega⟩, ?_⟩
    conv => whnf
    rcases last_row C with ⟨rfl, hL⟩ | ⟨x, hC, hx, hL⟩
    · refine ⟨[.int .i64 0], fun h => absurd h (by rw [show (rowI []).length = 0 from rfl]; simp), ?_⟩
      conv => whnf
      refine ⟨show 1 ≤ 1 by decide, ?_⟩
      conv => whnf
      rw [hL]
      refine ⟨rfl, rfl, ?_, rfl⟩
      cases b <;> rfl
    · have hl : C.length ≠ 0 := fun h => hC (List.eq_nil_of_length_eq_zero h)
      refine ⟨[.int .i64 x], fun _ => ⟨by omega, ?_⟩, ?_⟩
      · rw [show ((((rowI C).length : Int) - 1)).toNat = C.length - 1 by omega]; exact hx
      · conv => whnf
        refine ⟨show 1 ≤ 1 by decide, ?_⟩
        conv => whnf
        rw [hL]
        refine ⟨rfl, rfl, ?_, rfl⟩
        rw [show decide (((rowI C).length : Int) = 0) = false from decide_eq_false (by omega)]
        cases b <;> rfl
  | false =>
    (refine ⟨fun h => absurd h ?_, fun _ => ?_⟩; (focus (first | decide | (simp; done) | (simp [tcs]; done))); conv => whnf)
    intro _
    conv => whnf
    intro _
    conv => whnf
    refine ⟨fun _ => ⟨by omega, by omega⟩, ?_⟩
    conv => whnf
    refine ⟨[.int .i64 0], fun h => absurd h (by simp), ?_⟩
    conv => whnf
    refine ⟨show 1 ≤ 1 by decide, ?_⟩
    conv => whnf
    repeat (first | (refine And.intro rfl ?_; conv => whnf) | (refine And.intro (by decide) ?_; conv => whnf) | (refine draw_intro true (by kernel_rfl) ?_; conv => whnf) | (refine And.intro ⟨by omega, by omega⟩ ?_; conv => whnf) | (refine And.intro (by omega) ?_; conv => whnf) | (refine And.intro (fun _ => ⟨by omega, by omega⟩) ?_; conv => whnf) | (refine And.intro (fun _ => ?_) (fun h => absurd h ?_); rotate_left; (focus (first | decide | (simp; done) | (simp [tcs]; done))); conv => whnf) | (refine And.intro (fun h => absurd h ?_) (fun _ => ?_); (focus (first | decide | (simp; done) | (simp [tcs]; done))); conv => whnf))
    all_goals (first | rfl | exact ⟨rfl, rfl⟩ | exact ⟨rfl, rfl, rfl⟩)
/-- The constant's class is proper. -/
theorem cRFamily (l : List Dcl) (n : Int) (h0 : 0 ≤ n) (d : Dcl) (hd : l[n.toNat]? = some d) (hp : prop d.c = true) : CallSt Tryz.prog 41 [.c (.sl 6 72 (dcs l)), .c (.int .i64 (n))] [] (fun r H' => r = .c (.bool (kindT d.c)) ∧ H' = []) := by
  have hs := c33 d.c 1 (prop_fm1 hp) (by omega)
  have hc := dcs_at hd
  unfold kindT
  generalize domT d.c = p at *
  clear hp
  obtain ⟨L, ⟨k2, l2, n2, ts2⟩⟩ := p
  obtain ⟨s, ⟨k, m, x, ts⟩, i⟩ := d
  rw [tv_mk] at *
  dsimp only at *
  rw [tv_mk] at hs
  refine call_pure (E := env 0) (fn := Tryz.f41) (c := bodyOf Tryz.f41) (env_ok 0) mixed (by kernel_rfl) (by kernel_rfl) (by kernel_rfl) (by kernel_rfl) (by kernel_rfl) (by kernel_rfl) rfl ?_
  conv => whnf
  refine ⟨_, ⟨h0, hc⟩, ?_⟩
  conv => whnf
  refine ⟨show 4 ≤ 5 by decide, ?_⟩
  conv => whnf
  try (refine draw_intro true (by kernel_rfl) ?_; conv => whnf)
  refine CallSt.use hs [] trivial (by decide) rfl ?_
  rintro _ _ ⟨rfl, rfl⟩ _
  conv => whnf
  repeat (first | (refine And.intro rfl ?_; conv => whnf) | (refine And.intro (by decide) ?_; conv => whnf) | (refine draw_intro true (by kernel_rfl) ?_; conv => whnf) | (refine And.intro ⟨by omega, by omega⟩ ?_; conv => whnf) | (refine And.intro (by omega) ?_; conv => whnf) | (refine And.intro (fun _ => ⟨by omega, by omega⟩) ?_; conv => whnf) | (refine And.intro (fun _ => ?_) (fun h => absurd h ?_); rotate_left; (focus (first | decide | (simp; done) | (simp [tcs]; done))); conv => whnf) | (refine And.intro (fun h => absurd h ?_) (fun _ => ?_); (focus (first | decide | (simp; done) | (simp [tcs]; done))); conv => whnf))
  all_goals (first | rfl | exact ⟨rfl, rfl⟩ | exact ⟨rfl, rfl, rfl⟩)
end Go.Tr
/- closed is what the program asks of the nodes. -/
namespace Go.Tr
open Go.Proofs
mutual
/-- All nodes are so. -/
def allT (p : Term → Int → Bool) : Term → Int → Bool
  | .mk k l n ts, i => p (.mk k l n ts) i && allL p k i 0 ts
def allL (p : Term → Int → Bool) (k i : Int) : Int → List Term → Bool
  | _, [] => true
  | j, t :: r => allT p t (i + unT k j) && allL p k i (j + 1) r
end
mutual
theorem allT_each (p : Term → Int → Bool) : ∀ (t : Term) (i : Int) (b : Bool), eachT (fun b t i => b && p t i) t i b = (b && allT p t i)
  | .mk k l n ts, i, b => by rw [eachT, allT, allL_each p k i ts 0, ← Bool.and_assoc]
theorem allL_each (p : Term → Int → Bool) (k i : Int) : ∀ (ts : List Term) (j : Int) (b : Bool), eachL (fun b t i => b && p t i) k i j ts b = (b && allL p k i j ts)
  | [], j, b => by rw [eachL, allL, Bool.and_true]
  | t :: r, j, b => by rw [eachL, allL, allT_each p t, allL_each p k i r, Bool.and_assoc]
end
mutual
theorem allT_and (p q : Term → Int → Bool) : ∀ (t : Term) (i : Int), allT (fun t i => p t i && q t i) t i = (allT p t i && allT q t i)
  | .mk k l n ts, i => by
    rw [allT, allT, allT, allL_and p q k i ts 0]
    generalize p _ i = a
    generalize q _ i = b
    generalize allL p k i 0 ts = c
    generalize allL q k i 0 ts = d
    cases a <;> cases b <;> cases c <;> cases d <;> rfl
theorem allL_and (p q : Term → Int → Bool) (k i : Int) : ∀ (ts : List Term) (j : Int), allL (fun t i => p t i && q t i) k i j ts = (allL p k i j ts && allL q k i j ts)
  | [], j => by rw [allL, allL, allL, Bool.and_true]
  | t :: r, j => by
    rw [allL, allL, allL, allT_and p q t, allL_and p q k i r]
    generalize allT p t _ = a
    generalize allT q t _ = b
    generalize allL p k i (j + 1) r = c
    generalize allL q k i (j + 1) r = d
    cases a <;> cases b <;> cases c <;> cases d <;> rfl
end
mutual
theorem allT_congr {p q : Term → Int → Bool} (h : ∀ t i, p t i = q t i) : ∀ (t : Term) (i : Int), allT p t i = allT q t i
  | .mk k l n ts, i => by rw [allT, allT, h, allL_congr h k i ts 0]
theorem allL_congr {p q : Term → Int → Bool} (h : ∀ t i, p t i = q t i) (k i : Int) : ∀ (ts : List Term) (j : Int), allL p k i j ts = allL q k i j ts
  | [], j => by rw [allL, allL]
  | t :: r, j => by rw [allL, allL, allT_congr h t, allL_congr h k i r]
end
mutual
theorem allT_imp {p q : Term → Int → Bool} (h : ∀ t i, p t i = true → q t i = true) : ∀ (t : Term) (i : Int), allT p t i = true → allT q t i = true
  | .mk k l n ts, i, ha => by
    rw [allT, Bool.and_eq_true] at ha ⊢
    exact ⟨h _ _ ha.1, allL_imp h k i ts 0 ha.2⟩
theorem allL_imp {p q : Term → Int → Bool} (h : ∀ t i, p t i = true → q t i = true) (k i : Int) : ∀ (ts : List Term) (j : Int), allL p k i j ts = true → allL q k i j ts = true
  | [], j, _ => by rw [allL]
  | t :: r, j, ha => by
    rw [allL, Bool.and_eq_true] at ha ⊢
    exact ⟨allT_imp h t _ ha.1, allL_imp h k i r (j + 1) ha.2⟩
end
mutual
theorem nodesT_all (m : Int) : ∀ (t : Term) (i : Int), nodesT m t i = allT (fun t i => !decide (t.k = 4) || nodeOk m t i) t i
  | .mk k l n ts, i => by rw [nodesT, allT, nodesL_all m k i ts 0]; rfl
theorem nodesL_all (m k i : Int) : ∀ (ts : List Term) (j : Int), nodesL m k i j ts = allL (fun t i => !decide (t.k = 4) || nodeOk m t i) k i j ts
  | [], j => by rw [nodesL, allL]
  | t :: r, j => by rw [nodesL, allL, nodesT_all m t, nodesL_all m k i r]
end
/-- What a node's number must be, if it is of a kind of heads. -/
def hdOk (hd : Int) (P : Int → Bool) (t : Term) (i : Int) : Bool := match decide (t.k = 4) && decide (t.l = hd) with
  | true => (match !decide (hd = 1) with | true => P t.n | false => (match decide (i ≤ t.n) with | true => P (t.n - i) | false => true))
  | false => true
theorem heads_all (hd : Int) (P : Int → Bool) (t : Term) : (∀ x ∈ headsT hd t 0 [], P x = true) ↔ allT (hdOk hd P) t 0 = true := by
  have h := eachT_rel (fun (L : List Int) (b : Bool) => (∀ x ∈ L, P x = true) ↔ b = true) (hdStep hd) (fun b t i => b && hdOk hd P t i) (fun _ _ => True) (fun _ _ _ _ _ _ => trivial)
    (fun L b t i _ hr => by
      unfold hdStep hdOk
      have put : ∀ y, (∀ x ∈ putI L y, P x = true) ↔ (b && P y) = true := fun y => by
        rw [Bool.and_eq_true, ← hr]
        constructor
        · exact fun h => ⟨fun x hx => h x ((putI_mem L y x).2 (.inr hx)), h y ((putI_mem L y y).2 (.inl rfl))⟩
        · rintro ⟨h1, h2⟩ x hx
          rcases (putI_mem L y x).1 hx with rfl | hx
          · exact h2
          · exact h1 x hx
      have stay : (∀ x ∈ L, P x = true) ↔ (b && true) = true := by rw [Bool.and_true]; exact hr
      cases decide (t.k = 4) && decide (t.l = hd) with
      | false => exact stay
      | true =>
        cases !decide (hd = 1) with
        | true => exact put _
        | false =>
          cases decide (i ≤ t.n) with
          | true => exact put _
          | false => exact stay) t 0 [] true trivial (by simp)
  rw [headsT_each, h, allT_each, Bool.true_and]
theorem con_all (hd : Int) (P : Int → Bool) {t : Term} (hp : prop t = true) : (∀ x ∈ conF hd t, P x = true) ↔ allT (hdOk hd P) t 0 = true := by
  unfold conF
  rw [hp]
  exact heads_all hd P t
theorem con_sorted (hd : Int) {t : Term} (hp : prop t = true) : (conF hd t).Pairwise (· < ·) := by
  unfold conF
  rw [hp]
  exact (rel_all hd t (prop_ok hp)).1
theorem lastB_all : ∀ {l : List Int}, l.Pairwise (· < ·) → ∀ n, lastB l n = true ↔ ∀ x ∈ l, x < n := by
  intro l hl n
  rcases List.eq_nil_or_concat l with rfl | ⟨D, y, rfl⟩
  · simp [lastB]
  · have e : lastB (D.concat y) n = decide (y < n) := by simp [lastB]
    rw [e, decide_eq_true_eq]
    have hp := List.pairwise_append.1 (by simpa using hl)
    constructor
    · intro h x hx
      simp only [List.concat_eq_append, List.mem_append, List.mem_singleton] at hx
      rcases hx with hx | rfl
      · have := hp.2.2 x hx y (by simp)
        omega
      · exact h
    · exact fun h => h y (by simp)
theorem nil_all {l : List Int} : decide (l.length = 0) = true ↔ ∀ x ∈ l, (fun _ => false) x = true := by
  rw [decide_eq_true_eq, List.length_eq_zero_iff]
  constructor
  · rintro rfl x hx
    cases hx
  · intro h
    cases l with
    | nil => rfl
    | cons a r => exact absurd (h a (by simp)) (by simp)
/-- closed: no free variables, no metavariables, constants below the number. -/
theorem closed_law {t : Term} (hp : prop t = true) (n : Int) : closedF t n = nodesT n t 0 := by
  rw [Bool.eq_iff_iff]
  unfold closedF
  rw [Bool.and_eq_true, Bool.and_eq_true, nil_all, nil_all, con_all 1 _ hp, con_all 3 _ hp, lastB_all (con_sorted 2 hp),
    show (∀ x ∈ conF 2 t, x < n) ↔ (∀ x ∈ conF 2 t, (fun x => decide (x < n)) x = true) from by simp, con_all 2 _ hp,
    ← Bool.and_eq_true, ← Bool.and_eq_true, ← allT_and, ← allT_and, nodesT_all]
  rw [allT_congr (q := fun t i => !decide (t.k = 4) || nodeOk n t i)]
  intro t i
  unfold hdOk nodeOk
  by_cases h4 : t.k = 4
  · by_cases h1 : t.l = 1
    · simp [h4, h1]
      by_cases h : i ≤ t.n
      · simp [h]
      · simp [h]; omega
    · by_cases h3 : t.l = 3
      · simp [h4, h3]
      · by_cases h2 : t.l = 2
        · simp [h4, h2]
        · simp [h4, h1, h2, h3]
  · simp [h4]
end Go.Tr
/- The reference: formed, Formed. -/
namespace Go.Tr
open Go.Proofs
/-- A name stands among the constants. -/
def nameIn (l : List Dcl) (s : ByteArray) : Bool := l.any fun e => decide (e.s = s)
theorem nameIn_no {l : List Dcl} {s : ByteArray} (h : ∀ (i : Nat) e, l[i]? = some e → ¬ e.s = s) : nameIn l s = false := by
  unfold nameIn
  rw [List.any_eq_false]
  intro e he
  obtain ⟨i, hi⟩ := List.mem_iff_getElem?.1 he
  simpa using h i e hi
theorem nameIn_yes {l : List Dcl} {s : ByteArray} {i : Nat} {e : Dcl} (hi : l[i]? = some e) (h : e.s = s) : nameIn l s = true := by
  unfold nameIn
  rw [List.any_eq_true]
  exact ⟨e, List.mem_of_getElem? hi, by simpa using h⟩
theorem namesOf_in (l : List Dcl) (s : ByteArray) : (namesOf l (.s s)).getD false = nameIn l s := by
  unfold namesOf nameIn
  simp only
  split <;> simp_all
def formedR (B : List Dcl) (d : Dcl) : Bool := !nameIn B d.s && formedF B d
theorem cRFormed1 (B : List Dcl) (hB : ∀ e ∈ B, prop e.c = true) (hBl : B.length ≤ 1000) (d : Dcl) : CallSt Tryz.prog 18 [.c (.sl 6 72 (dcs B)), dv d] [] (fun r H' => r = .c (.bool (formedR B d)) ∧ H' = []) := by
  have h16 := c16 d.c
  rw [← prop_rprop] at h16
  have hnm : CallSt Tryz.prog 28 [.c (.str d.s)] [] (fun r H' => r = .c (.bool (nameF d.s)) ∧ H' = []) := cRIsNameS d.s
  have hbl := len_dcs B
  cases hn : nameF d.s with
  | false =>
    rw [show formedR B d = false by simp [formedR, formedF, hn]]
    rw [hn] at hnm
    obtain ⟨s, ⟨k, l, n, ts⟩, i⟩ := d
    refine call_pure (E := env 0) (fn := Tryz.f18) (c := bodyOf Tryz.f18) (env_ok 0) mixed (by kernel_rfl) (by kernel_rfl) (by kernel_rfl) (by kernel_rfl) (by kernel_rfl) (by kernel_rfl) rfl ?_
    conv => whnf
    try (refine draw_intro true (by kernel_rfl) ?_; conv => whnf)
    refine CallSt.use hnm [] trivial (by decide) rfl ?_
    rintro _ _ ⟨rfl, rfl⟩ _
    conv => whnf
    repeat (first | (refine And.intro rfl ?_; conv => whnf) | (refine And.intro (by decide) ?_; conv => whnf) | (refine draw_intro true (by kernel_rfl) ?_; conv => whnf) | (refine And.intro ⟨by omega, by omega⟩ ?_; conv => whnf) | (refine And.intro (by omega) ?_; conv => whnf) | (refine And.intro (fun _ => ⟨by omega, by omega⟩) ?_; conv => whnf) | (refine And.intro (fun _ => ?_) (fun h => absurd h ?_); rotate_left; (focus (first | decide | (simp; done) | (simp [tcs]; done))); conv => whnf) | (refine And.intro (fun h => absurd h ?_) (fun _ => ?_); (focus (first | decide | (simp; done) | (simp [tcs]; done))); conv => whnf) | (intro _; conv => whnf))
    all_goals (first | rfl | exact ⟨rfl, rfl⟩ | exact ⟨rfl, rfl, rfl⟩)
  | true =>
  rw [hn] at hnm
  cases hp : prop d.c with
  | false =>
    rw [show formedR B d = false by simp [formedR, formedF, hp]]
    rw [hp] at h16
    clear hp
    obtain ⟨s, ⟨k, l, n, ts⟩, i⟩ := d
    rw [tv_mk] at h16
    refine call_pure (E := env 0) (fn := Tryz.f18) (c := bodyOf Tryz.f18) (env_ok 0) mixed (by kernel_rfl) (by kernel_rfl) (by kernel_rfl) (by kernel_rfl) (by kernel_rfl) (by kernel_rfl) rfl ?_
    conv => whnf
    try (refine draw_intro true (by kernel_rfl) ?_; conv => whnf)
    refine CallSt.use hnm [] trivial (by decide) rfl ?_
    rintro _ _ ⟨rfl, rfl⟩ _
    conv => whnf
    repeat (first | (refine And.intro rfl ?_; conv => whnf) | (refine And.intro (by decide) ?_; conv => whnf) | (refine draw_intro true (by kernel_rfl) ?_; conv => whnf) | (refine And.intro ⟨by omega, by omega⟩ ?_; conv => whnf) | (refine And.intro (by omega) ?_; conv => whnf) | (refine And.intro (fun _ => ⟨by omega, by omega⟩) ?_; conv => whnf) | (refine And.intro (fun _ => ?_) (fun h => absurd h ?_); rotate_left; (focus (first | decide | (simp; done) | (simp [tcs]; done))); conv => whnf) | (refine And.intro (fun h => absurd h ?_) (fun _ => ?_); (focus (first | decide | (simp; done) | (simp [tcs]; done))); conv => whnf))
    try (refine draw_intro true (by kernel_rfl) ?_; conv => whnf)
    refine CallSt.use h16 [] trivial (by decide) rfl ?_
    rintro _ _ ⟨rfl, rfl⟩ _
    conv => whnf
    repeat (first | (refine And.intro rfl ?_; conv => whnf) | (refine And.intro (by decide) ?_; conv => whnf) | (refine draw_intro true (by kernel_rfl) ?_; conv => whnf) | (refine And.intro ⟨by omega, by omega⟩ ?_; conv => whnf) | (refine And.intro (by omega) ?_; conv => whnf) | (refine And.intro (fun _ => ⟨by omega, by omega⟩) ?_; conv => whnf) | (refine And.intro (fun _ => ?_) (fun h => absurd h ?_); rotate_left; (focus (first | decide | (simp; done) | (simp [tcs]; done))); conv => whnf) | (refine And.intro (fun h => absurd h ?_) (fun _ => ?_); (focus (first | decide | (simp; done) | (simp [tcs]; done))); conv => whnf) | (intro _; conv => whnf))
    all_goals (first | rfl | exact ⟨rfl, rfl⟩ | exact ⟨rfl, rfl, rfl⟩)
  | true =>
  rw [hp] at h16
  have hcl := cRClosed d.c B.length hp
  rw [closed_law hp] at hcl
  cases hc : nodesT B.length d.c 0 with
  | false =>
    rw [show formedR B d = false by simp [formedR, formedF, hc]]
    rw [hc] at hcl
    clear hc hp
    obtain ⟨s, ⟨k, l, n, ts⟩, i⟩ := d
    rw [tv_mk] at h16 hcl
    rw [← hbl] at hcl
    refine call_pure (E := env 0) (fn := Tryz.f18) (c := bodyOf Tryz.f18) (env_ok 0) mixed (by kernel_rfl) (by kernel_rfl) (by kernel_rfl) (by kernel_rfl) (by kernel_rfl) (by kernel_rfl) rfl ?_
    conv => whnf
    try (refine draw_intro true (by kernel_rfl) ?_; conv => whnf)
    refine CallSt.use hnm [] trivial (by decide) rfl ?_
    rintro _ _ ⟨rfl, rfl⟩ _
    conv => whnf
    repeat (first | (refine And.intro rfl ?_; conv => whnf) | (refine And.intro (by decide) ?_; conv => whnf) | (refine draw_intro true (by kernel_rfl) ?_; conv => whnf) | (refine And.intro ⟨by omega, by omega⟩ ?_; conv => whnf) | (refine And.intro (by omega) ?_; conv => whnf) | (refine And.intro (fun _ => ⟨by omega, by omega⟩) ?_; conv => whnf) | (refine And.intro (fun _ => ?_) (fun h => absurd h ?_); rotate_left; (focus (first | decide | (simp; done) | (simp [tcs]; done))); conv => whnf) | (refine And.intro (fun h => absurd h ?_) (fun _ => ?_); (focus (first | decide | (simp; done) | (simp [tcs]; done))); conv => whnf))
    try (refine draw_intro true (by kernel_rfl) ?_; conv => whnf)
    refine CallSt.use h16 [] trivial (by decide) rfl ?_
    rintro _ _ ⟨rfl, rfl⟩ _
    conv => whnf
    repeat (first | (refine And.intro rfl ?_; conv => whnf) | (refine And.intro (by decide) ?_; conv => whnf) | (refine draw_intro true (by kernel_rfl) ?_; conv => whnf) | (refine And.intro ⟨by omega, by omega⟩ ?_; conv => whnf) | (refine And.intro (by omega) ?_; conv => whnf) | (refine And.intro (fun _ => ⟨by omega, by omega⟩) ?_; conv => whnf) | (refine And.intro (fun _ => ?_) (fun h => absurd h ?_); rotate_left; (focus (first | decide | (simp; done) | (simp [tcs]; done))); conv => whnf) | (refine And.intro (fun h => absurd h ?_) (fun _ => ?_); (focus (first | decide | (simp; done) | (simp [tcs]; done))); conv => whnf) | (intro _; conv => whnf))
    try (refine draw_intro true (by kernel_rfl) ?_; conv => whnf)
    refine CallSt.use hcl [] trivial (by decide) rfl ?_
    rintro _ _ ⟨rfl, rfl⟩ _
    conv => whnf
    repeat (first | (refine And.intro rfl ?_; conv => whnf) | (refine And.intro (by decide) ?_; conv => whnf) | (refine draw_intro true (by kernel_rfl) ?_; conv => whnf) | (refine And.intro ⟨by omega, by omega⟩ ?_; conv => whnf) | (refine And.intro (by omega) ?_; conv => whnf) | (refine And.intro (fun _ => ⟨by omega, by omega⟩) ?_; conv => whnf) | (refine And.intro (fun _ => ?_) (fun h => absurd h ?_); rotate_left; (focus (first | decide | (simp; done) | (simp [tcs]; done))); conv => whnf) | (refine And.intro (fun h => absurd h ?_) (fun _ => ?_); (focus (first | decide | (simp; done) | (simp [tcs]; done))); conv => whnf) | (intro _; conv => whnf))
    all_goals (first | rfl | exact ⟨rfl, rfl⟩ | exact ⟨rfl, rfl, rfl⟩)
  | true =>
  rw [hc] at hcl
  have hs := c33 d.c 1 (prop_fm1 hp) (by omega)
  have hdl := dom_len d.c 1 (prop_fm1 hp)
  have hR : formedR B d = (!nameIn B d.s && (decide (0 ≤ d.i) && decide (d.i ≤ (domT d.c).1.length) && (kindT d.c || (targOk d.c && kindAt B (domT d.c).2.n)))) := by simp [formedR, formedF, hn, hp, hc]
  have hn0 := @targ_pos d.c hp
  have hn1 := @nodes_targ _ _ hc
  have hkat : ∀ e : Dcl, B[(domT d.c).2.n.toNat]? = some e → kindAt B (domT d.c).2.n = kindT e.c := fun e he => by unfold kindAt; rw [he]
  rw [hR]
  clear hR hc
  unfold kindT targOk at *
  generalize kindAt B (domT d.c).2.n = A at *
  generalize domT d.c = p at *
  clear hp hn
  obtain ⟨L, ⟨k2, l2, n2, ts2⟩⟩ := p
  obtain ⟨s, ⟨k, l, n, ts⟩, i⟩ := d
  dsimp only [Term.k, Term.l, Term.n, Term.ts] at *
  have hln := len_tcs L
  rw [tv_mk] at h16 hcl hs
  rw [tv_mk] at hs
  rw [← hbl] at hcl
  refine call_pure (E := env 0) (fn := Tryz.f18) (c := bodyOf Tryz.f18) (env_ok 0) mixed (by kernel_rfl) (by kernel_rfl) (by kernel_rfl) (by kernel_rfl) (by kernel_rfl) (by kernel_rfl) rfl ?_
  conv => whnf
  try (refine draw_intro true (by kernel_rfl) ?_; conv => whnf)
  refine CallSt.use hnm [] trivial (by decide) rfl ?_
  rintro _ _ ⟨rfl, rfl⟩ _
  conv => whnf
  repeat (first | (refine And.intro rfl ?_; conv => whnf) | (refine And.intro (by decide) ?_; conv => whnf) | (refine draw_intro true (by kernel_rfl) ?_; conv => whnf) | (refine And.intro ⟨by omega, by omega⟩ ?_; conv => whnf) | (refine And.intro (by omega) ?_; conv => whnf) | (refine And.intro (fun _ => ⟨by omega, by omega⟩) ?_; conv => whnf) | (refine And.intro (fun _ => ?_) (fun h => absurd h ?_); rotate_left; (focus (first | decide | (simp; done) | (simp [tcs]; done))); conv => whnf) | (refine And.intro (fun h => absurd h ?_) (fun _ => ?_); (focus (first | decide | (simp; done) | (simp [tcs]; done))); conv => whnf))
  try (refine draw_intro true (by kernel_rfl) ?_; conv => whnf)
  refine CallSt.use h16 [] trivial (by decide) rfl ?_
  rintro _ _ ⟨rfl, rfl⟩ _
  conv => whnf
  repeat (first | (refine And.intro rfl ?_; conv => whnf) | (refine And.intro (by decide) ?_; conv => whnf) | (refine draw_intro true (by kernel_rfl) ?_; conv => whnf) | (refine And.intro ⟨by omega, by omega⟩ ?_; conv => whnf) | (refine And.intro (by omega) ?_; conv => whnf) | (refine And.intro (fun _ => ⟨by omega, by omega⟩) ?_; conv => whnf) | (refine And.intro (fun _ => ?_) (fun h => absurd h ?_); rotate_left; (focus (first | decide | (simp; done) | (simp [tcs]; done))); conv => whnf) | (refine And.intro (fun h => absurd h ?_) (fun _ => ?_); (focus (first | decide | (simp; done) | (simp [tcs]; done))); conv => whnf) | (intro _; conv => whnf))
  try (refine draw_intro true (by kernel_rfl) ?_; conv => whnf)
  refine CallSt.use hcl [] trivial (by decide) rfl ?_
  rintro _ _ ⟨rfl, rfl⟩ _
  conv => whnf
  repeat (first | (refine And.intro rfl ?_; conv => whnf) | (refine And.intro (by decide) ?_; conv => whnf) | (refine draw_intro true (by kernel_rfl) ?_; conv => whnf) | (refine And.intro ⟨by omega, by omega⟩ ?_; conv => whnf) | (refine And.intro (by omega) ?_; conv => whnf) | (refine And.intro (fun _ => ⟨by omega, by omega⟩) ?_; conv => whnf) | (refine And.intro (fun _ => ?_) (fun h => absurd h ?_); rotate_left; (focus (first | decide | (simp; done) | (simp [tcs]; done))); conv => whnf) | (refine And.intro (fun h => absurd h ?_) (fun _ => ?_); (focus (first | decide | (simp; done) | (simp [tcs]; done))); conv => whnf) | (intro _; conv => whnf))
  refine loop_intro (fun m tm H => ∃ j : Nat, B.length = m + j ∧ (∀ (q : Nat) e, q < j → B[q]? = some e → ¬ e.s = s) ∧
      tm = [(29, .c (.int .i64 (j))), (28, .c (.int .i64 ((dcs B).length))), (27, .c (.sl 6 72 (dcs B))), (0, .c (.sl 6 72 (dcs B))), (3, .ptr 0 0)] ∧ H = [.box [.c (.str s), .c (.int .i64 (k)), .c (.int .i64 (l)), .c (.int .i64 (n)), .c (.sl 4 48 (tcs ts)), .c (.int .i64 (i))]])
      B.length _ _ ⟨0, by omega, fun q e hq => absurd hq (by omega), rfl, rfl⟩ (Wk.sel [0] (by decide) (by decide) (by decide) ⟨rfl, trivial⟩ ⟨rfl, rfl, rfl, rfl, rfl, trivial⟩ rfl) ?_
  rintro m tm H ⟨j, hj, hall, rfl, rfl⟩
  conv => whnf
  refine ⟨fun hlt => ?_, fun hlt => ?_⟩
  · replace hlt : (j : Int) < (dcs B).length := of_decide_eq_true hlt
    obtain ⟨e, he⟩ : ∃ e, B[j]? = some e := ⟨B[j]'(by omega), List.getElem?_eq_getElem (by omega)⟩
    have hec := dcs_at he
    have hno : ∀ b, b = decide (e.s = s) → b = false → ∀ (q : Nat) x, q < j + 1 → B[q]? = some x → ¬ x.s = s := fun b hb hf q x hq hx => by
      by_cases hqj : q < j
      · exact hall q x hqj hx
      · obtain rfl : q = j := by omega
        rw [he] at hx
        injection hx with hx
        subst hx
        exact of_decide_eq_false (hb ▸ hf)
    have hyes : e.s = s → nameIn B s = true := fun h => nameIn_yes he h
    obtain ⟨s', ⟨k', l', n', us⟩, i'⟩ := e
    conv => whnf
    refine ⟨_, ⟨by omega, hec⟩, ?_⟩
    conv => whnf
    refine ⟨show 6 ≤ 6 by decide, ?_⟩
    conv => whnf
    refine ⟨fun hsq => ?_, fun hsq => ?_⟩
    · rw [hyes (of_decide_eq_true hsq)]
      repeat (first | (refine And.intro rfl ?_; conv => whnf) | (refine And.intro (by decide) ?_; conv => whnf) | (refine draw_intro true (by kernel_rfl) ?_; conv => whnf) | (refine And.intro ⟨by omega, by omega⟩ ?_; conv => whnf) | (refine And.intro (by omega) ?_; conv => whnf) | (refine And.intro (fun _ => ⟨by omega, by omega⟩) ?_; conv => whnf) | (refine And.intro (fun _ => ?_) (fun h => absurd h ?_); rotate_left; (focus (first | decide | (simp; done) | (simp [tcs]; done))); conv => whnf) | (refine And.intro (fun h => absurd h ?_) (fun _ => ?_); (focus (first | decide | (simp; done) | (simp [tcs]; done))); conv => whnf) | (intro _; conv => whnf))
      all_goals (first | rfl | exact ⟨rfl, rfl⟩ | exact ⟨rfl, rfl, rfl⟩)
    · conv => whnf
      refine ⟨⟨by omega, by omega⟩, ?_⟩
      conv => whnf
      exact ⟨m - 1, _, _, by omega, ⟨j + 1, by omega, hno _ rfl hsq, rfl, rfl⟩, Wk.sel [0] (by decide) (by decide) (by decide) ⟨rfl, trivial⟩ ⟨rfl, rfl, rfl, rfl, rfl, trivial⟩ rfl⟩
  · replace hlt : ¬ (j : Int) < (dcs B).length := of_decide_eq_false hlt
    rw [nameIn_no (fun q e he => hall q e (by have := (List.getElem?_eq_some_iff.1 he).1; omega) he)]
    conv => whnf
    try (refine draw_intro true (by kernel_rfl) ?_; conv => whnf)
    refine CallSt.use hs [] trivial (by decide) rfl ?_
    rintro _ _ ⟨rfl, rfl⟩ _
    conv => whnf
    refine ⟨fun hg => ?_, fun hg => ?_⟩
    · have hg' : (decide (k2 = 4) && decide (l2 = 2)) = true := by simpa using hg
      have g0 := hn0 hg'
      have g1 := hn1 hg'
      obtain ⟨e, he⟩ : ∃ e, B[n2.toNat]? = some e := ⟨B[n2.toNat]'(by omega), List.getElem?_eq_getElem (by omega)⟩
      have hf := cRFamily B n2 g0 e he (hB e (List.mem_of_getElem? he))
      have hA : A = kindT e.c := hkat e he
      rw [← hA] at hf
      have h4 : k2 = 4 := by simp at hg'; exact hg'.1
      have h2 : l2 = 2 := by simp at hg'; exact hg'.2
      subst h4 h2
      clear hkat hA hn0 hn1 hg hg' hB
      conv => whnf
      try (refine draw_intro true (by kernel_rfl) ?_; conv => whnf)
      refine CallSt.use hf [] trivial (by decide) rfl ?_
      rintro _ _ ⟨rfl, rfl⟩ _
      conv => whnf
      cases A with
      | false =>
        repeat (first | (refine And.intro rfl ?_; conv => whnf) | (refine And.intro (by decide) ?_; conv => whnf) | (refine draw_intro true (by kernel_rfl) ?_; conv => whnf) | (refine And.intro ⟨by omega, by omega⟩ ?_; conv => whnf) | (refine And.intro (by omega) ?_; conv => whnf) | (refine And.intro (fun _ => ⟨by omega, by omega⟩) ?_; conv => whnf) | (refine And.intro (fun _ => ?_) (fun h => absurd h ?_); rotate_left; (focus (first | decide | (simp; done) | (simp [tcs]; done))); conv => whnf) | (refine And.intro (fun h => absurd h ?_) (fun _ => ?_); (focus (first | decide | (simp; done) | (simp [tcs]; done))); conv => whnf) | (intro _; conv => whnf))
        refine ⟨congrArg (fun z => AV.c (.bool z)) ?_, rfl⟩
        simp
      | true =>
        repeat (first | (refine And.intro rfl ?_; conv => whnf) | (refine And.intro (by decide) ?_; conv => whnf) | (refine draw_intro true (by kernel_rfl) ?_; conv => whnf) | (refine And.intro ⟨by omega, by omega⟩ ?_; conv => whnf) | (refine And.intro (by omega) ?_; conv => whnf) | (refine And.intro (fun _ => ⟨by omega, by omega⟩) ?_; conv => whnf) | (refine And.intro (fun _ => ?_) (fun h => absurd h ?_); rotate_left; (focus (first | decide | (simp; done) | (simp [tcs]; done))); conv => whnf) | (refine And.intro (fun h => absurd h ?_) (fun _ => ?_); (focus (first | decide | (simp; done) | (simp [tcs]; done))); conv => whnf) | (intro _; conv => whnf))
        refine ⟨congrArg (fun z => AV.c (.bool z)) ?_, rfl⟩
        rw [hln]
        simp
    · have hg' : (decide (k2 = 4) && decide (l2 = 2)) = false := by simpa using hg
      rw [Bool.and_eq_false_iff, decide_eq_false_iff_not, decide_eq_false_iff_not] at hg'
      conv => whnf
      refine ⟨fun hc => ?_, fun hc => ?_⟩
      · conv => whnf
        simp at hc
        have h2 : ¬ l2 = 2 := hg'.resolve_left (fun h => h hc)
        refine ⟨rfl, rfl, congrArg (fun z => AV.c (.bool z)) ?_, rfl⟩
        simp [hc, h2]
      · conv => whnf
        simp at hc
        repeat (first | (refine And.intro rfl ?_; conv => whnf) | (refine And.intro (by decide) ?_; conv => whnf) | (refine draw_intro true (by kernel_rfl) ?_; conv => whnf) | (refine And.intro ⟨by omega, by omega⟩ ?_; conv => whnf) | (refine And.intro (by omega) ?_; conv => whnf) | (refine And.intro (fun _ => ⟨by omega, by omega⟩) ?_; conv => whnf) | (refine And.intro (fun _ => ?_) (fun h => absurd h ?_); rotate_left; (focus (first | decide | (simp; done) | (simp [tcs]; done))); conv => whnf) | (refine And.intro (fun h => absurd h ?_) (fun _ => ?_); (focus (first | decide | (simp; done) | (simp [tcs]; done))); conv => whnf) | (intro _; conv => whnf))
        refine ⟨congrArg (fun z => AV.c (.bool z)) ?_, rfl⟩
        rw [hln]
        by_cases h1 : k2 = 1
        · simp [h1]
        · simp [hc, h1]
/-- The reference's Formed is the program's Check. -/
theorem good_formed (sig : List Dcl) {n : Nat} {d : Dcl} (h : sig[n]? = some d) : goodD sig n = formedR (sig.take n) d := by
  unfold goodD formedR
  rw [h]
  simp only
  rw [namesOf_in]
theorem dcs_take' (sig : List Dcl) (n : Nat) : ((dcs sig).take ((n : Int).toNat)).drop (Int.toNat 0) = dcs (sig.take n) := by
  have h1 : (Int.toNat 0) = 0 := rfl
  rw [Int.toNat_natCast, h1, List.drop_zero]
  simp [dcs]
theorem cRFormed (sig : List Dcl) : CallSt Tryz.prog 7 [.c (.sl 6 72 (dcs sig))] [] (fun r H' => r = .c (.bool (checkB sig)) ∧ H' = []) := by
  have hbl := len_dcs sig
  by_cases hs : sig.length ≤ 100
  · have hcb : checkB sig = (List.range sig.length).all (goodD sig) := by unfold checkB; rw [decide_eq_true hs, Bool.true_and]
    rw [hcb]
    refine call_pure (E := env 0) (fn := Tryz.f7) (c := bodyOf Tryz.f7) (env_ok 0) mixed (by kernel_rfl) (by kernel_rfl) (by kernel_rfl) (by kernel_rfl) (by kernel_rfl) (by kernel_rfl) rfl ?_
    conv => whnf
    refine loop_intro (fun m tm H => ∃ n : Nat, sig.length = m + n ∧ (∀ i, i < n → goodD sig i = true) ∧ tm = [(3, .c (.int .i64 (n))), (0, .c (.sl 6 72 (dcs sig)))] ∧ H = [])
      sig.length _ _ ⟨0, by omega, fun i hi => absurd hi (by omega), rfl, rfl⟩ (Wk.sel [] (by decide) (by decide) (by decide) trivial ⟨rfl, rfl, trivial⟩ rfl) ?_
    rintro m tm H ⟨n, hm, hall, rfl, rfl⟩
    conv => whnf
    intro _
    conv => whnf
    intro _
    conv => whnf
    refine ⟨fun hlt => ?_, fun hlt => ?_⟩
    · have hlt' : (n : Int) < (dcs sig).length := by simp at hlt; omega
      obtain ⟨d, hd⟩ : ∃ d, sig[n]? = some d := ⟨sig[n]'(by omega), List.getElem?_eq_getElem (by omega)⟩
      have hdc := dcs_at hd
      have hf := cRFormed1 (sig.take n) (good_prop hall) (by simp; omega) d
      rw [← good_formed sig hd, ← dcs_take'] at hf
      have hno : goodD sig n = false → (List.range sig.length).all (goodD sig) = false := fun h => by
        rw [List.all_eq_false]
        exact ⟨n, by simp; omega, by rw [h]; simp⟩
      have hnx : goodD sig n = true → ∀ i, i < n + 1 → goodD sig i = true := fun h i hi => by
        by_cases hij : i < n
        · exact hall i hij
        · obtain rfl : i = n := by omega
          exact h
      obtain ⟨s, ⟨k, l, x, ts⟩, i⟩ := d
      dsimp only [dv, Term.k, Term.l, Term.n, Term.ts] at hf
      conv => whnf
      refine draw_intro true (by kernel_rfl) ?_
      conv => whnf
      refine ⟨⟨by omega, by omega, by omega⟩, ?_⟩
      conv => whnf
      refine ⟨_, ⟨by omega, hdc⟩, ?_⟩
      conv => whnf
      refine ⟨show 6 ≤ 6 by decide, ?_⟩
      conv => whnf
      try (refine draw_intro true (by kernel_rfl) ?_; conv => whnf)
      refine CallSt.use hf [] trivial (by decide) rfl ?_
      rintro _ _ ⟨rfl, rfl⟩ _
      conv => whnf
      generalize goodD sig n = b at *
      cases b with
      | false =>
        rw [hno rfl]
        repeat (first | (refine And.intro rfl ?_; conv => whnf) | (refine And.intro (by decide) ?_; conv => whnf) | (refine draw_intro true (by kernel_rfl) ?_; conv => whnf) | (refine And.intro ⟨by omega, by omega⟩ ?_; conv => whnf) | (refine And.intro (by omega) ?_; conv => whnf) | (refine And.intro (fun _ => ⟨by omega, by omega⟩) ?_; conv => whnf) | (refine And.intro (fun _ => ?_) (fun h => absurd h ?_); rotate_left; (focus (first | decide | (simp; done) | (simp [tcs]; done))); conv => whnf) | (refine And.intro (fun h => absurd h ?_) (fun _ => ?_); (focus (first | decide | (simp; done) | (simp [tcs]; done))); conv => whnf) | (intro _; conv => whnf))
        all_goals (first | rfl | exact ⟨rfl, rfl⟩ | exact ⟨rfl, rfl, rfl⟩)
      | true =>
        (refine ⟨fun h => absurd h ?_, fun _ => ?_⟩; (focus (first | decide | (simp; done) | (simp [tcs]; done))); conv => whnf)
        refine ⟨⟨by omega, by omega⟩, ?_⟩
        conv => whnf
        exact ⟨m - 1, _, _, by omega, ⟨n + 1, by omega, hnx rfl, rfl, rfl⟩, Wk.sel [] (by decide) (by decide) (by decide) trivial ⟨rfl, rfl, trivial⟩ rfl⟩
    · have hge : ¬ (n : Int) < (dcs sig).length := fun h => by
        rw [decide_eq_true h, decide_eq_true (show ((dcs sig).length : Int) ≤ 100 by omega)] at hlt
        cases hlt
      have hall' : (List.range sig.length).all (goodD sig) = decide (((dcs sig).length : Int) ≤ 100) := by
        rw [decide_eq_true (show ((dcs sig).length : Int) ≤ 100 by omega), List.all_eq_true]
        intro i hi
        exact hall i (by simp at hi; omega)
      rw [hall']
      conv => whnf
      repeat (first | (refine And.intro rfl ?_; conv => whnf) | (refine And.intro (by decide) ?_; conv => whnf) | (refine draw_intro true (by kernel_rfl) ?_; conv => whnf) | (refine And.intro ⟨by omega, by omega⟩ ?_; conv => whnf) | (refine And.intro (by omega) ?_; conv => whnf) | (refine And.intro (fun _ => ⟨by omega, by omega⟩) ?_; conv => whnf) | (refine And.intro (fun _ => ?_) (fun h => absurd h ?_); rotate_left; (focus (first | decide | (simp; done) | (simp [tcs]; done))); conv => whnf) | (refine And.intro (fun h => absurd h ?_) (fun _ => ?_); (focus (first | decide | (simp; done) | (simp [tcs]; done))); conv => whnf) | (intro _; conv => whnf))
      all_goals (first | rfl | exact ⟨rfl, rfl⟩ | exact ⟨rfl, rfl, rfl⟩)
  · rw [show checkB sig = false by unfold checkB; rw [decide_eq_false hs]; rfl]
    refine call_pure (E := env 0) (fn := Tryz.f7) (c := bodyOf Tryz.f7) (env_ok 0) mixed (by kernel_rfl) (by kernel_rfl) (by kernel_rfl) (by kernel_rfl) (by kernel_rfl) (by kernel_rfl) rfl ?_
    conv => whnf
    refine loop_intro (fun m tm H => tm = [(3, .c (.int .i64 (0))), (0, .c (.sl 6 72 (dcs sig)))] ∧ H = []) 0 _ _ ⟨rfl, rfl⟩ (Wk.sel [] (by decide) (by decide) (by decide) trivial ⟨rfl, rfl, trivial⟩ rfl) ?_
    rintro m tm H ⟨rfl, rfl⟩
    conv => whnf
    intro _
    conv => whnf
    intro _
    conv => whnf
    refine ⟨fun hlt => ?_, fun hlt => ?_⟩
    · exfalso
      simp at hlt
      omega
    · conv => whnf
      intro _
      conv => whnf
      rw [show decide (((dcs sig).length : Int) ≤ 100) = false from decide_eq_false (by omega)]
      repeat (first | (refine And.intro rfl ?_; conv => whnf) | (refine And.intro (by decide) ?_; conv => whnf) | (refine draw_intro true (by kernel_rfl) ?_; conv => whnf) | (refine And.intro ⟨by omega, by omega⟩ ?_; conv => whnf) | (refine And.intro (by omega) ?_; conv => whnf) | (refine And.intro (fun _ => ⟨by omega, by omega⟩) ?_; conv => whnf) | (refine And.intro (fun _ => ?_) (fun h => absurd h ?_); rotate_left; (focus (first | decide | (simp; done) | (simp [tcs]; done))); conv => whnf) | (refine And.intro (fun h => absurd h ?_) (fun _ => ?_); (focus (first | decide | (simp; done) | (simp [tcs]; done))); conv => whnf) | (intro _; conv => whnf))
      all_goals (first | rfl | exact ⟨rfl, rfl⟩ | exact ⟨rfl, rfl, rfl⟩)
end Go.Tr
/- has, Find, IsFamily, Head, Target of both sides. -/
namespace Go.Tr
open Go.Proofs
theorem check_len {sig : List Dcl} (h : checkB sig = true) : sig.length ≤ 100 := by
  unfold checkB at h
  rw [Bool.and_eq_true] at h
  exact of_decide_eq_true h.1
theorem check_good {sig : List Dcl} (h : checkB sig = true) : ∀ i, i < sig.length → goodD sig i = true := by
  unfold checkB at h
  rw [Bool.and_eq_true, List.all_eq_true] at h
  intro i hi
  exact h.2 i (by simpa using hi)
theorem check_prop {sig : List Dcl} (h : checkB sig = true) : ∀ e ∈ sig, prop e.c = true := by
  have := good_prop (n := sig.length) (check_good h)
  rwa [List.take_length] at this
def hasE (sig : List Dcl) (n : Int) : Int := match checkB sig with
  | false => 2
  | true => (match decide (n < 0) || decide ((sig.length : Int) ≤ n) with | true => 6 | false => 0)
theorem hasE_ok {sig : List Dcl} {n : Int} (h : hasE sig n = 0) : checkB sig = true ∧ 0 ≤ n ∧ n < sig.length := by
  unfold hasE at h
  cases hc : checkB sig with
  | false => rw [hc] at h; cases h
  | true =>
    rw [hc] at h
    simp only at h
    split at h
    · cases h
    · rename_i h2
      simp at h2
      exact ⟨rfl, by omega, by omega⟩
theorem hasE_cases (sig : List Dcl) (n : Int) : (hasE sig n = 2 ∧ checkB sig = false) ∨ (hasE sig n = 6 ∧ checkB sig = true ∧ ¬ (0 ≤ n ∧ n < sig.length)) ∨ (hasE sig n = 0 ∧ checkB sig = true ∧ 0 ≤ n ∧ n < sig.length) := by
  unfold hasE
  cases hc : checkB sig with
  | false => exact .inl ⟨rfl, rfl⟩
  | true =>
    simp only
    split
    · rename_i h2
      simp at h2
      exact .inr (.inl ⟨rfl, trivial, by omega⟩)
    · rename_i h2
      simp at h2
      exact .inr (.inr ⟨rfl, trivial, by omega⟩)
theorem cHas (sig : List Dcl) (n : Int) : CallSt Tryz.prog 13 [.c (.sl 6 72 (dcs sig)), .c (.int .i64 (n))] [] (fun r H' => r = .c (.int .i64 (hasE sig n)) ∧ H' = []) := by
  have hck := cCheck sig
  have hbl := len_dcs sig
  unfold hasE
  rw [← hbl]
  generalize checkB sig = b at *
  cases b with
  | false =>
    refine call_pure (E := env 0) (fn := Tryz.f13) (c := bodyOf Tryz.f13) (env_ok 0) mixed (by kernel_rfl) (by kernel_rfl) (by kernel_rfl) (by kernel_rfl) (by kernel_rfl) (by kernel_rfl) rfl ?_
    conv => whnf
    try (refine draw_intro true (by kernel_rfl) ?_; conv => whnf)
    refine CallSt.use hck [] trivial (by decide) rfl ?_
    rintro _ _ ⟨rfl, rfl⟩ _
    conv => whnf
    repeat (first | (refine And.intro rfl ?_; conv => whnf) | (refine And.intro (by decide) ?_; conv => whnf) | (refine draw_intro true (by kernel_rfl) ?_; conv => whnf) | (refine And.intro ⟨by omega, by omega⟩ ?_; conv => whnf) | (refine And.intro (by omega) ?_; conv => whnf) | (refine And.intro (fun _ => ⟨by omega, by omega⟩) ?_; conv => whnf) | (refine And.intro (fun _ => ?_) (fun h => absurd h ?_); rotate_left; (focus (first | decide | (simp; done) | (simp [tcs]; done))); conv => whnf) | (refine And.intro (fun h => absurd h ?_) (fun _ => ?_); (focus (first | decide | (simp; done) | (simp [tcs]; done))); conv => whnf) | (intro _; conv => whnf))
    all_goals (first | rfl | exact ⟨rfl, rfl⟩ | exact ⟨rfl, rfl, rfl⟩)
  | true =>
    refine call_pure (E := env 0) (fn := Tryz.f13) (c := bodyOf Tryz.f13) (env_ok 0) mixed (by kernel_rfl) (by kernel_rfl) (by kernel_rfl) (by kernel_rfl) (by kernel_rfl) (by kernel_rfl) rfl ?_
    conv => whnf
    try (refine draw_intro true (by kernel_rfl) ?_; conv => whnf)
    refine CallSt.use hck [] trivial (by decide) rfl ?_
    rintro _ _ ⟨rfl, rfl⟩ _
    conv => whnf
    repeat (first | (refine And.intro rfl ?_; conv => whnf) | (refine And.intro (by decide) ?_; conv => whnf) | (refine draw_intro true (by kernel_rfl) ?_; conv => whnf) | (refine And.intro ⟨by omega, by omega⟩ ?_; conv => whnf) | (refine And.intro (by omega) ?_; conv => whnf) | (refine And.intro (fun _ => ⟨by omega, by omega⟩) ?_; conv => whnf) | (refine And.intro (fun _ => ?_) (fun h => absurd h ?_); rotate_left; (focus (first | decide | (simp; done) | (simp [tcs]; done))); conv => whnf) | (refine And.intro (fun h => absurd h ?_) (fun _ => ?_); (focus (first | decide | (simp; done) | (simp [tcs]; done))); conv => whnf) | (intro _; conv => whnf))
    refine ⟨fun hc => ?_, fun hc => ?_⟩
    · rw [hc]
      repeat (first | (refine And.intro rfl ?_; conv => whnf) | (refine And.intro (by decide) ?_; conv => whnf) | (refine draw_intro true (by kernel_rfl) ?_; conv => whnf) | (refine And.intro ⟨by omega, by omega⟩ ?_; conv => whnf) | (refine And.intro (by omega) ?_; conv => whnf) | (refine And.intro (fun _ => ⟨by omega, by omega⟩) ?_; conv => whnf) | (refine And.intro (fun _ => ?_) (fun h => absurd h ?_); rotate_left; (focus (first | decide | (simp; done) | (simp [tcs]; done))); conv => whnf) | (refine And.intro (fun h => absurd h ?_) (fun _ => ?_); (focus (first | decide | (simp; done) | (simp [tcs]; done))); conv => whnf) | (intro _; conv => whnf))
      all_goals (first | rfl | exact ⟨rfl, rfl⟩ | exact ⟨rfl, rfl, rfl⟩)
    · rw [hc]
      repeat (first | (refine And.intro rfl ?_; conv => whnf) | (refine And.intro (by decide) ?_; conv => whnf) | (refine draw_intro true (by kernel_rfl) ?_; conv => whnf) | (refine And.intro ⟨by omega, by omega⟩ ?_; conv => whnf) | (refine And.intro (by omega) ?_; conv => whnf) | (refine And.intro (fun _ => ⟨by omega, by omega⟩) ?_; conv => whnf) | (refine And.intro (fun _ => ?_) (fun h => absurd h ?_); rotate_left; (focus (first | decide | (simp; done) | (simp [tcs]; done))); conv => whnf) | (refine And.intro (fun h => absurd h ?_) (fun _ => ?_); (focus (first | decide | (simp; done) | (simp [tcs]; done))); conv => whnf) | (intro _; conv => whnf))
      all_goals (first | rfl | exact ⟨rfl, rfl⟩ | exact ⟨rfl, rfl, rfl⟩)
theorem find_at {sig : List Dcl} {s : ByteArray} {j : Nat} {d : Dcl} (hd : sig[j]? = some d) (hs : d.s = s) (hno : ∀ (q : Nat) e, q < j → sig[q]? = some e → ¬ e.s = s) : sig.findIdx (fun e => decide (e.s = s)) = j := by
  obtain ⟨hlt, he⟩ := List.getElem?_eq_some_iff.1 hd
  rw [List.findIdx_eq hlt]
  refine ⟨by rw [he]; simpa using hs, fun q hq => ?_⟩
  simpa using hno q _ hq (List.getElem?_eq_getElem (by omega))
def findI (sig : List Dcl) (s : ByteArray) : Int := (sig.findIdx (fun e => decide (e.s = s)) : Nat)
/-- The target of a constant. -/
def headT (d : Dcl) (n : Int) : Int := match kindT d.c with | true => n | false => (domT d.c).2.n
theorem cHead (sig : List Dcl) (hp : ∀ e ∈ sig, prop e.c = true) (n : Nat) (d : Dcl) (hd : sig[n]? = some d) : CallSt Tryz.prog 44 [.c (.sl 6 72 (dcs sig)), .c (.int .i64 (n))] [] (fun r H' => r = .c (.int .i64 (headT d n)) ∧ H' = []) := by
  have hpd := hp d (List.mem_of_getElem? hd)
  have hf := cFamily sig n d hd hpd
  have ht := cTarget d.c hpd
  have hdc := dcs_at hd
  unfold headT
  generalize kindT d.c = b at *
  generalize (domT d.c).2.n = x at *
  generalize targOk d.c = y at *
  clear hpd
  cases b with
  | true =>
    refine call_pure (E := env 0) (fn := Tryz.f44) (c := bodyOf Tryz.f44) (env_ok 0) mixed (by kernel_rfl) (by kernel_rfl) (by kernel_rfl) (by kernel_rfl) (by kernel_rfl) (by kernel_rfl) rfl ?_
    conv => whnf
    try (refine draw_intro true (by kernel_rfl) ?_; conv => whnf)
    refine CallSt.use hf [] trivial (by decide) rfl ?_
    rintro _ _ ⟨rfl, rfl⟩ _
    conv => whnf
    repeat (first | (refine And.intro rfl ?_; conv => whnf) | (refine And.intro (by decide) ?_; conv => whnf) | (refine draw_intro true (by kernel_rfl) ?_; conv => whnf) | (refine And.intro ⟨by omega, by omega⟩ ?_; conv => whnf) | (refine And.intro (by omega) ?_; conv => whnf) | (refine And.intro (fun _ => ⟨by omega, by omega⟩) ?_; conv => whnf) | (refine And.intro (fun _ => ?_) (fun h => absurd h ?_); rotate_left; (focus (first | decide | (simp; done) | (simp [tcs]; done))); conv => whnf) | (refine And.intro (fun h => absurd h ?_) (fun _ => ?_); (focus (first | decide | (simp; done) | (simp [tcs]; done))); conv => whnf) | (intro _; conv => whnf))
    all_goals (first | rfl | exact ⟨rfl, rfl⟩ | exact ⟨rfl, rfl, rfl⟩)
  | false =>
    obtain ⟨s, ⟨k, l, m, ts⟩, i⟩ := d
    rw [tv_mk] at *
    refine call_pure (E := env 0) (fn := Tryz.f44) (c := bodyOf Tryz.f44) (env_ok 0) mixed (by kernel_rfl) (by kernel_rfl) (by kernel_rfl) (by kernel_rfl) (by kernel_rfl) (by kernel_rfl) rfl ?_
    conv => whnf
    try (refine draw_intro true (by kernel_rfl) ?_; conv => whnf)
    refine CallSt.use hf [] trivial (by decide) rfl ?_
    rintro _ _ ⟨rfl, rfl⟩ _
    conv => whnf
    (refine ⟨fun h => absurd h ?_, fun _ => ?_⟩; (focus (first | decide | (simp; done) | (simp [tcs]; done))); conv => whnf)
    refine ⟨_, ⟨by omega, hdc⟩, ?_⟩
    conv => whnf
    refine ⟨show 4 ≤ 5 by decide, ?_⟩
    conv => whnf
    try (refine draw_intro true (by kernel_rfl) ?_; conv => whnf)
    refine CallSt.use ht [] trivial (by decide) rfl ?_
    rintro _ _ ⟨rfl, rfl⟩ _
    conv => whnf
    repeat (first | (refine And.intro rfl ?_; conv => whnf) | (refine And.intro (by decide) ?_; conv => whnf) | (refine draw_intro true (by kernel_rfl) ?_; conv => whnf) | (refine And.intro ⟨by omega, by omega⟩ ?_; conv => whnf) | (refine And.intro (by omega) ?_; conv => whnf) | (refine And.intro (fun _ => ⟨by omega, by omega⟩) ?_; conv => whnf) | (refine And.intro (fun _ => ?_) (fun h => absurd h ?_); rotate_left; (focus (first | decide | (simp; done) | (simp [tcs]; done))); conv => whnf) | (refine And.intro (fun h => absurd h ?_) (fun _ => ?_); (focus (first | decide | (simp; done) | (simp [tcs]; done))); conv => whnf) | (intro _; conv => whnf))
    all_goals (first | rfl | exact ⟨rfl, rfl⟩ | exact ⟨rfl, rfl, rfl⟩)
end Go.Tr
/- IsFamily, Target, Of; the reference's Find, Has, IsFamily, Target, Of. -/
namespace Go.Tr
open Go.Proofs
theorem get_nat {sig : List Dcl} {n : Int} (h : 0 ≤ n ∧ n < sig.length) : ∃ (q : Nat) (d : Dcl), n = q ∧ q < sig.length ∧ sig[q]? = some d := by
  obtain ⟨q, rfl⟩ := Int.eq_ofNat_of_zero_le h.1
  have hq : q < sig.length := by omega
  exact ⟨q, sig[q], rfl, hq, List.getElem?_eq_getElem hq⟩
def headAt (sig : List Dcl) (n : Int) : Int := match sig[n.toNat]? with | some d => headT d n | none => 0
theorem kindAt_at {sig : List Dcl} {q : Nat} {d : Dcl} (h : sig[q]? = some d) : kindAt sig q = kindT d.c := by
  unfold kindAt
  rw [Int.toNat_natCast, h]
theorem headAt_at {sig : List Dcl} {q : Nat} {d : Dcl} (h : sig[q]? = some d) : headAt sig q = headT d q := by
  unfold headAt
  rw [Int.toNat_natCast, h]
theorem cTargetS (sig : List Dcl) (n : Int) : CallSt Tryz.prog 22 [.c (.sl 6 72 (dcs sig)), .c (.int .i64 (n))] [] (fun r H' => r = .tup [.c (.int .i64 (match decide (hasE sig n = 0) with | true => headAt sig n | false => 0)), .c (.int .i64 (hasE sig n))] ∧ H' = []) := by
  have hh := cHas sig n
  rcases hasE_cases sig n with ⟨he, _⟩ | ⟨he, _⟩ | ⟨he, hc, hn⟩
  · rw [he] at hh ⊢
    refine call_pure (E := env 0) (fn := Tryz.f22) (c := bodyOf Tryz.f22) (env_ok 0) mixed (by kernel_rfl) (by kernel_rfl) (by kernel_rfl) (by kernel_rfl) (by kernel_rfl) (by kernel_rfl) rfl ?_
    conv => whnf
    try (refine draw_intro true (by kernel_rfl) ?_; conv => whnf)
    refine CallSt.use hh [] trivial (by decide) rfl ?_
    rintro _ _ ⟨rfl, rfl⟩ _
    conv => whnf
    repeat (first | (refine And.intro rfl ?_; conv => whnf) | (refine And.intro (by decide) ?_; conv => whnf) | (refine draw_intro true (by kernel_rfl) ?_; conv => whnf) | (refine And.intro ⟨by omega, by omega⟩ ?_; conv => whnf) | (refine And.intro (by omega) ?_; conv => whnf) | (refine And.intro (fun _ => ⟨by omega, by omega⟩) ?_; conv => whnf) | (refine And.intro (fun _ => ?_) (fun h => absurd h ?_); rotate_left; (focus (first | decide | (simp; done) | (simp [tcs]; done))); conv => whnf) | (refine And.intro (fun h => absurd h ?_) (fun _ => ?_); (focus (first | decide | (simp; done) | (simp [tcs]; done))); conv => whnf) | (intro _; conv => whnf))
    all_goals (first | rfl | exact ⟨rfl, rfl⟩ | exact ⟨rfl, rfl, rfl⟩)
  · rw [he] at hh ⊢
    refine call_pure (E := env 0) (fn := Tryz.f22) (c := bodyOf Tryz.f22) (env_ok 0) mixed (by kernel_rfl) (by kernel_rfl) (by kernel_rfl) (by kernel_rfl) (by kernel_rfl) (by kernel_rfl) rfl ?_
    conv => whnf
    try (refine draw_intro true (by kernel_rfl) ?_; conv => whnf)
    refine CallSt.use hh [] trivial (by decide) rfl ?_
    rintro _ _ ⟨rfl, rfl⟩ _
    conv => whnf
    repeat (first | (refine And.intro rfl ?_; conv => whnf) | (refine And.intro (by decide) ?_; conv => whnf) | (refine draw_intro true (by kernel_rfl) ?_; conv => whnf) | (refine And.intro ⟨by omega, by omega⟩ ?_; conv => whnf) | (refine And.intro (by omega) ?_; conv => whnf) | (refine And.intro (fun _ => ⟨by omega, by omega⟩) ?_; conv => whnf) | (refine And.intro (fun _ => ?_) (fun h => absurd h ?_); rotate_left; (focus (first | decide | (simp; done) | (simp [tcs]; done))); conv => whnf) | (refine And.intro (fun h => absurd h ?_) (fun _ => ?_); (focus (first | decide | (simp; done) | (simp [tcs]; done))); conv => whnf) | (intro _; conv => whnf))
    all_goals (first | rfl | exact ⟨rfl, rfl⟩ | exact ⟨rfl, rfl, rfl⟩)
  · obtain ⟨q, d, rfl, hq, hd⟩ := get_nat hn
    have hf := cHead sig (check_prop hc) q d hd
    rw [headAt_at hd]
    rw [he] at hh ⊢
    generalize headT d q = b at *
    refine call_pure (E := env 0) (fn := Tryz.f22) (c := bodyOf Tryz.f22) (env_ok 0) mixed (by kernel_rfl) (by kernel_rfl) (by kernel_rfl) (by kernel_rfl) (by kernel_rfl) (by kernel_rfl) rfl ?_
    conv => whnf
    try (refine draw_intro true (by kernel_rfl) ?_; conv => whnf)
    refine CallSt.use hh [] trivial (by decide) rfl ?_
    rintro _ _ ⟨rfl, rfl⟩ _
    conv => whnf
    repeat (first | (refine And.intro rfl ?_; conv => whnf) | (refine And.intro (by decide) ?_; conv => whnf) | (refine draw_intro true (by kernel_rfl) ?_; conv => whnf) | (refine And.intro ⟨by omega, by omega⟩ ?_; conv => whnf) | (refine And.intro (by omega) ?_; conv => whnf) | (refine And.intro (fun _ => ⟨by omega, by omega⟩) ?_; conv => whnf) | (refine And.intro (fun _ => ?_) (fun h => absurd h ?_); rotate_left; (focus (first | decide | (simp; done) | (simp [tcs]; done))); conv => whnf) | (refine And.intro (fun h => absurd h ?_) (fun _ => ?_); (focus (first | decide | (simp; done) | (simp [tcs]; done))); conv => whnf) | (intro _; conv => whnf))
    try (refine draw_intro true (by kernel_rfl) ?_; conv => whnf)
    refine CallSt.use hf [] trivial (by decide) rfl ?_
    rintro _ _ ⟨rfl, rfl⟩ _
    conv => whnf
    repeat (first | (refine And.intro rfl ?_; conv => whnf) | (refine And.intro (by decide) ?_; conv => whnf) | (refine draw_intro true (by kernel_rfl) ?_; conv => whnf) | (refine And.intro ⟨by omega, by omega⟩ ?_; conv => whnf) | (refine And.intro (by omega) ?_; conv => whnf) | (refine And.intro (fun _ => ⟨by omega, by omega⟩) ?_; conv => whnf) | (refine And.intro (fun _ => ?_) (fun h => absurd h ?_); rotate_left; (focus (first | decide | (simp; done) | (simp [tcs]; done))); conv => whnf) | (refine And.intro (fun h => absurd h ?_) (fun _ => ?_); (focus (first | decide | (simp; done) | (simp [tcs]; done))); conv => whnf) | (intro _; conv => whnf))
    all_goals (first | rfl | exact ⟨rfl, rfl⟩ | exact ⟨rfl, rfl, rfl⟩)
def ofP (sig : List Dcl) (f : Int) (n : Nat) : Bool := !decide ((n : Int) = f) && decide (headAt sig n = f)
def ofR (sig : List Dcl) (f : Int) (n : Nat) : Bool := !kindAt sig n && decide (headAt sig n = f)
/-- The first ones that are so. -/
def upTo (p : Nat → Bool) (j : Nat) : List Int := ((List.range j).filter p).map (fun n : Nat => (n : Int))
theorem upTo_yes {p : Nat → Bool} {j : Nat} (h : p j = true) : upTo p (j + 1) = upTo p j ++ [(j : Int)] := by
  unfold upTo
  rw [List.range_succ, List.filter_append, List.map_append]
  simp [h]
theorem upTo_no {p : Nat → Bool} {j : Nat} (h : p j = false) : upTo p (j + 1) = upTo p j := by
  unfold upTo
  rw [List.range_succ, List.filter_append, List.map_append]
  simp [h]
theorem upTo_len (p : Nat → Bool) (j : Nat) : (upTo p j).length ≤ j := by
  unfold upTo
  rw [List.length_map]
  have := List.length_filter_le p (List.range j)
  simpa using this
theorem upTo_congr {p q : Nat → Bool} {j : Nat} (h : ∀ i, i < j → p i = q i) : upTo p j = upTo q j := by
  unfold upTo
  rw [List.filter_congr (fun x hx => h x (by simpa using hx))]
theorem ofP_R {sig : List Dcl} {f : Int} (hf : kindAt sig f = true) : ∀ i, i < sig.length → ofP sig f i = ofR sig f i := by
  intro i hi
  have hd : sig[i]? = some sig[i] := List.getElem?_eq_getElem hi
  unfold ofP ofR
  rw [headAt_at hd, kindAt_at hd]
  unfold headT
  by_cases e : (i : Int) = f
  · subst e
    rw [kindAt_at hd] at hf
    simp [hf]
  · cases hk : kindT sig[i].c <;> simp [e]
theorem rowI_snoc (l : List Int) (x : Int) : rowI l ++ [[.int .i64 x]] = rowI (l ++ [x]) := by simp [rowI]
def ofE (sig : List Dcl) (f : Int) : Int := match decide (hasE sig f = 0) with | false => hasE sig f | true => (match kindAt sig f with | true => 0 | false => 22)
def ofF (sig : List Dcl) (f : Int) : List Int := match decide (ofE sig f = 0) with | true => upTo (ofP sig f) sig.length | false => []
theorem cOf (sig : List Dcl) (f : Int) : CallSt Tryz.prog 20 [.c (.sl 6 72 (dcs sig)), .c (.int .i64 (f))] [] (fun r H' => r = .tup [.c (.sl 1 8 (rowI (ofF sig f))), .c (.int .i64 (ofE sig f))] ∧ H' = []) := by
  have hh := cHas sig f
  have hbl := len_dcs sig
  unfold ofF ofE
  rcases hasE_cases sig f with ⟨he, _⟩ | ⟨he, _⟩ | ⟨he, hc, hn⟩
  · rw [he] at hh ⊢
    refine call_pure (E := env 0) (fn := Tryz.f20) (c := bodyOf Tryz.f20) (env_ok 0) mixed (by kernel_rfl) (by kernel_rfl) (by kernel_rfl) (by kernel_rfl) (by kernel_rfl) (by kernel_rfl) rfl ?_
    conv => whnf
    try (refine draw_intro true (by kernel_rfl) ?_; conv => whnf)
    refine CallSt.use hh [] trivial (by decide) rfl ?_
    rintro _ _ ⟨rfl, rfl⟩ _
    conv => whnf
    repeat (first | (refine And.intro rfl ?_; conv => whnf) | (refine And.intro (by decide) ?_; conv => whnf) | (refine draw_intro true (by kernel_rfl) ?_; conv => whnf) | (refine And.intro ⟨by omega, by omega⟩ ?_; conv => whnf) | (refine And.intro (by omega) ?_; conv => whnf) | (refine And.intro (fun _ => ⟨by omega, by omega⟩) ?_; conv => whnf) | (refine And.intro (fun _ => ?_) (fun h => absurd h ?_); rotate_left; (focus (first | decide | (simp; done) | (simp [tcs]; done))); conv => whnf) | (refine And.intro (fun h => absurd h ?_) (fun _ => ?_); (focus (first | decide | (simp; done) | (simp [tcs]; done))); conv => whnf) | (intro _; conv => whnf))
    all_goals (first | rfl | exact ⟨rfl, rfl⟩ | exact ⟨rfl, rfl, rfl⟩)
  · rw [he] at hh ⊢
    refine call_pure (E := env 0) (fn := Tryz.f20) (c := bodyOf Tryz.f20) (env_ok 0) mixed (by kernel_rfl) (by kernel_rfl) (by kernel_rfl) (by kernel_rfl) (by kernel_rfl) (by kernel_rfl) rfl ?_
    conv => whnf
    try (refine draw_intro true (by kernel_rfl) ?_; conv => whnf)
    refine CallSt.use hh [] trivial (by decide) rfl ?_
    rintro _ _ ⟨rfl, rfl⟩ _
    conv => whnf
    repeat (first | (refine And.intro rfl ?_; conv => whnf) | (refine And.intro (by decide) ?_; conv => whnf) | (refine draw_intro true (by kernel_rfl) ?_; conv => whnf) | (refine And.intro ⟨by omega, by omega⟩ ?_; conv => whnf) | (refine And.intro (by omega) ?_; conv => whnf) | (refine And.intro (fun _ => ⟨by omega, by omega⟩) ?_; conv => whnf) | (refine And.intro (fun _ => ?_) (fun h => absurd h ?_); rotate_left; (focus (first | decide | (simp; done) | (simp [tcs]; done))); conv => whnf) | (refine And.intro (fun h => absurd h ?_) (fun _ => ?_); (focus (first | decide | (simp; done) | (simp [tcs]; done))); conv => whnf) | (intro _; conv => whnf))
    all_goals (first | rfl | exact ⟨rfl, rfl⟩ | exact ⟨rfl, rfl, rfl⟩)
  · obtain ⟨q, d, rfl, hq, hd⟩ := get_nat hn
    have hf := cFamily sig q d hd (check_prop hc d (List.mem_of_getElem? hd))
    have hl := check_len hc
    rw [he] at hh ⊢
    rw [← kindAt_at hd] at hf
    cases hk : kindAt sig q with
    | false =>
      rw [hk] at hf
      refine call_pure (E := env 0) (fn := Tryz.f20) (c := bodyOf Tryz.f20) (env_ok 0) mixed (by kernel_rfl) (by kernel_rfl) (by kernel_rfl) (by kernel_rfl) (by kernel_rfl) (by kernel_rfl) rfl ?_
      conv => whnf
      try (refine draw_intro true (by kernel_rfl) ?_; conv => whnf)
      refine CallSt.use hh [] trivial (by decide) rfl ?_
      rintro _ _ ⟨rfl, rfl⟩ _
      conv => whnf
      repeat (first | (refine And.intro rfl ?_; conv => whnf) | (refine And.intro (by decide) ?_; conv => whnf) | (refine draw_intro true (by kernel_rfl) ?_; conv => whnf) | (refine And.intro ⟨by omega, by omega⟩ ?_; conv => whnf) | (refine And.intro (by omega) ?_; conv => whnf) | (refine And.intro (fun _ => ⟨by omega, by omega⟩) ?_; conv => whnf) | (refine And.intro (fun _ => ?_) (fun h => absurd h ?_); rotate_left; (focus (first | decide | (simp; done) | (simp [tcs]; done))); conv => whnf) | (refine And.intro (fun h => absurd h ?_) (fun _ => ?_); (focus (first | decide | (simp; done) | (simp [tcs]; done))); conv => whnf) | (intro _; conv => whnf))
      try (refine draw_intro true (by kernel_rfl) ?_; conv => whnf)
      refine CallSt.use hf [] trivial (by decide) rfl ?_
      rintro _ _ ⟨rfl, rfl⟩ _
      conv => whnf
      repeat (first | (refine And.intro rfl ?_; conv => whnf) | (refine And.intro (by decide) ?_; conv => whnf) | (refine draw_intro true (by kernel_rfl) ?_; conv => whnf) | (refine And.intro ⟨by omega, by omega⟩ ?_; conv => whnf) | (refine And.intro (by omega) ?_; conv => whnf) | (refine And.intro (fun _ => ⟨by omega, by omega⟩) ?_; conv => whnf) | (refine And.intro (fun _ => ?_) (fun h => absurd h ?_); rotate_left; (focus (first | decide | (simp; done) | (simp [tcs]; done))); conv => whnf) | (refine And.intro (fun h => absurd h ?_) (fun _ => ?_); (focus (first | decide | (simp; done) | (simp [tcs]; done))); conv => whnf) | (intro _; conv => whnf))
      all_goals (first | rfl | exact ⟨rfl, rfl⟩ | exact ⟨rfl, rfl, rfl⟩)
    | true =>
      rw [hk] at hf
      refine call_pure (E := env 0) (fn := Tryz.f20) (c := bodyOf Tryz.f20) (env_ok 0) mixed (by kernel_rfl) (by kernel_rfl) (by kernel_rfl) (by kernel_rfl) (by kernel_rfl) (by kernel_rfl) rfl ?_
      conv => whnf
      try (refine draw_intro true (by kernel_rfl) ?_; conv => whnf)
      refine CallSt.use hh [] trivial (by decide) rfl ?_
      rintro _ _ ⟨rfl, rfl⟩ _
      conv => whnf
      repeat (first | (refine And.intro rfl ?_; conv => whnf) | (refine And.intro (by decide) ?_; conv => whnf) | (refine draw_intro true (by kernel_rfl) ?_; conv => whnf) | (refine And.intro ⟨by omega, by omega⟩ ?_; conv => whnf) | (refine And.intro (by omega) ?_; conv => whnf) | (refine And.intro (fun _ => ⟨by omega, by omega⟩) ?_; conv => whnf) | (refine And.intro (fun _ => ?_) (fun h => absurd h ?_); rotate_left; (focus (first | decide | (simp; done) | (simp [tcs]; done))); conv => whnf) | (refine And.intro (fun h => absurd h ?_) (fun _ => ?_); (focus (first | decide | (simp; done) | (simp [tcs]; done))); conv => whnf) | (intro _; conv => whnf))
      try (refine draw_intro true (by kernel_rfl) ?_; conv => whnf)
      refine CallSt.use hf [] trivial (by decide) rfl ?_
      rintro _ _ ⟨rfl, rfl⟩ _
      conv => whnf
      repeat (first | (refine And.intro rfl ?_; conv => whnf) | (refine And.intro (by decide) ?_; conv => whnf) | (refine draw_intro true (by kernel_rfl) ?_; conv => whnf) | (refine And.intro ⟨by omega, by omega⟩ ?_; conv => whnf) | (refine And.intro (by omega) ?_; conv => whnf) | (refine And.intro (fun _ => ⟨by omega, by omega⟩) ?_; conv => whnf) | (refine And.intro (fun _ => ?_) (fun h => absurd h ?_); rotate_left; (focus (first | decide | (simp; done) | (simp [tcs]; done))); conv => whnf) | (refine And.intro (fun h => absurd h ?_) (fun _ => ?_); (focus (first | decide | (simp; done) | (simp [tcs]; done))); conv => whnf) | (intro _; conv => whnf))
      refine loop_intro (fun m tm H => ∃ j : Nat, sig.length = m + j ∧
        tm = [(21, .c (.int .i64 (j))), (20, .c (.int .i64 ((dcs sig).length))), (19, .c (.sl 6 72 (dcs sig))), (0, .c (.sl 6 72 (dcs sig))), (1, .c (.int .i64 (q))), (7, .own 0)] ∧ H = [.row 3 1 8 (rowI (upTo (ofP sig q) j))])
        sig.length _ _ ⟨0, by omega, rfl, rfl⟩ ?_ ?_
      · refine Wk.trans (tm1 := [(21, .c (.int .i64 (0))), (20, .c (.int .i64 ((dcs sig).length))), (19, .c (.sl 6 72 (dcs sig))), (0, .c (.sl 6 72 (dcs sig))), (1, .c (.int .i64 (q))), (7, .nil)]) (H1 := []) ?_ (Wk.trans (Wk.niltmp 7 3 1 8 rfl rfl) ?_)
        · exact Wk.sel [] (by decide) (by decide) (by decide) trivial ⟨rfl, rfl, rfl, rfl, rfl, rfl, trivial⟩ rfl
        · exact Wk.sel [0] (by decide) (by decide) (by decide) ⟨rfl, trivial⟩ ⟨rfl, rfl, rfl, rfl, rfl, rfl, trivial⟩ rfl
      rintro m tm H ⟨j, hj, rfl, rfl⟩
      conv => whnf
      refine ⟨fun hlt => ?_, fun hlt => ?_⟩
      · replace hlt : (j : Int) < (dcs sig).length := of_decide_eq_true hlt
        obtain ⟨e, he⟩ : ∃ e, sig[j]? = some e := ⟨sig[j]'(by omega), List.getElem?_eq_getElem (by omega)⟩
        have hhd := cHead sig (check_prop hc) j e he
        have hrl := len_rowI (upTo (ofP sig q) j)
        have hul := upTo_len (ofP sig q) j
        have hup : ofP sig q j = (!decide ((j : Int) = q) && decide (headT e j = q)) := by unfold ofP; rw [headAt_at he]
        have hl2 : ((rowI (upTo (ofP sig q) j)).length + 1) * 8 ≤ 140737488355328 := by omega
        have hl3 : (rowI (upTo (ofP sig q) j)).length + 1 ≤ 9223372036854775807 := by omega
        conv => whnf
        refine ⟨fun hne => ?_, fun hne => ?_⟩
        · rw [hne, Bool.true_and] at hup
          conv => whnf
          try (refine draw_intro true (by kernel_rfl) ?_; conv => whnf)
          refine CallSt.use hhd [] trivial (by decide) rfl ?_
          rintro _ _ ⟨rfl, rfl⟩ _
          conv => whnf
          refine ⟨fun h2 => ?_, fun h2 => ?_⟩
          · conv => whnf
            refine ⟨by decide, ?_⟩
            conv => whnf
            refine ⟨by decide, ?_⟩
            conv => whnf
            refine ⟨hl2, hl3, ?_⟩
            conv => whnf
            refine ⟨⟨by omega, by omega⟩, ?_⟩
            conv => whnf
            refine ⟨m - 1, _, _, by omega, ⟨j + 1, by omega, rfl, rfl⟩, Wk.sel [2] (by decide) (by decide) (by decide) ⟨?_, trivial⟩ ⟨rfl, rfl, rfl, rfl, rfl, rfl, trivial⟩ rfl⟩
            rw [upTo_yes (hup.trans h2), ← rowI_snoc]
            rfl
          · conv => whnf
            refine ⟨⟨by omega, by omega⟩, ?_⟩
            conv => whnf
            refine ⟨m - 1, _, _, by omega, ⟨j + 1, by omega, rfl, rfl⟩, Wk.sel [0] (by decide) (by decide) (by decide) ⟨?_, trivial⟩ ⟨rfl, rfl, rfl, rfl, rfl, rfl, trivial⟩ rfl⟩
            rw [upTo_no (hup.trans h2)]
            rfl
        · rw [hne, Bool.false_and] at hup
          conv => whnf
          repeat (first | (refine And.intro rfl ?_; conv => whnf) | (refine And.intro (by decide) ?_; conv => whnf) | (refine draw_intro true (by kernel_rfl) ?_; conv => whnf) | (refine And.intro ⟨by omega, by omega⟩ ?_; conv => whnf) | (refine And.intro (by omega) ?_; conv => whnf) | (refine And.intro (fun _ => ⟨by omega, by omega⟩) ?_; conv => whnf) | (refine And.intro (fun _ => ?_) (fun h => absurd h ?_); rotate_left; (focus (first | decide | (simp; done) | (simp [tcs]; done))); conv => whnf) | (refine And.intro (fun h => absurd h ?_) (fun _ => ?_); (focus (first | decide | (simp; done) | (simp [tcs]; done))); conv => whnf) | (intro _; conv => whnf))
          refine ⟨m - 1, _, _, by omega, ⟨j + 1, by omega, rfl, rfl⟩, Wk.sel [0] (by decide) (by decide) (by decide) ⟨?_, trivial⟩ ⟨rfl, rfl, rfl, rfl, rfl, rfl, trivial⟩ rfl⟩
          rw [upTo_no hup]
          rfl
      · replace hlt : ¬ (j : Int) < (dcs sig).length := of_decide_eq_false hlt
        obtain rfl : j = sig.length := by omega
        conv => whnf
        repeat (first | (refine And.intro rfl ?_; conv => whnf) | (refine And.intro (by decide) ?_; conv => whnf) | (refine draw_intro true (by kernel_rfl) ?_; conv => whnf) | (refine And.intro ⟨by omega, by omega⟩ ?_; conv => whnf) | (refine And.intro (by omega) ?_; conv => whnf) | (refine And.intro (fun _ => ⟨by omega, by omega⟩) ?_; conv => whnf) | (refine And.intro (fun _ => ?_) (fun h => absurd h ?_); rotate_left; (focus (first | decide | (simp; done) | (simp [tcs]; done))); conv => whnf) | (refine And.intro (fun h => absurd h ?_) (fun _ => ?_); (focus (first | decide | (simp; done) | (simp [tcs]; done))); conv => whnf) | (intro _; conv => whnf))
        all_goals (first | rfl | exact ⟨rfl, rfl⟩ | exact ⟨rfl, rfl, rfl⟩)
end Go.Tr
/- The reference's Find, Has, IsFamily, Target, Of. -/
namespace Go.Tr
open Go.Proofs
theorem cRFind (sig : List Dcl) (hl : sig.length ≤ 100000) (s : ByteArray) : CallSt Tryz.prog 26 [.c (.sl 6 72 (dcs sig)), .c (.str s)] [] (fun r H' => r = .c (.int .i64 ((match nameIn sig s with | true => findI sig s | false => -1))) ∧ H' = []) := by
  have hbl := len_dcs sig
  refine call_pure (E := env 0) (fn := Tryz.f26) (c := bodyOf Tryz.f26) (env_ok 0) mixed (by kernel_rfl) (by kernel_rfl) (by kernel_rfl) (by kernel_rfl) (by kernel_rfl) (by kernel_rfl) rfl ?_
  conv => whnf
  repeat (first | (refine And.intro rfl ?_; conv => whnf) | (refine And.intro (by decide) ?_; conv => whnf) | (refine draw_intro true (by kernel_rfl) ?_; conv => whnf) | (refine And.intro ⟨by omega, by omega⟩ ?_; conv => whnf) | (refine And.intro (by omega) ?_; conv => whnf) | (refine And.intro (fun _ => ⟨by omega, by omega⟩) ?_; conv => whnf) | (refine And.intro (fun _ => ?_) (fun h => absurd h ?_); rotate_left; (focus (first | decide | (simp; done) | (simp [tcs]; done))); conv => whnf) | (refine And.intro (fun h => absurd h ?_) (fun _ => ?_); (focus (first | decide | (simp; done) | (simp [tcs]; done))); conv => whnf) | (intro _; conv => whnf))
  refine loop_intro (fun m tm H => ∃ j : Nat, sig.length = m + j ∧ (∀ (q : Nat) e, q < j → sig[q]? = some e → ¬ e.s = s) ∧
    tm = [(9, .c (.int .i64 (j))), (8, .c (.int .i64 ((dcs sig).length))), (7, .c (.sl 6 72 (dcs sig))), (1, .c (.str s))] ∧ H = [])
    sig.length _ _ ⟨0, by omega, fun q e hq => absurd hq (by omega), rfl, rfl⟩ (Wk.sel [] (by decide) (by decide) (by decide) trivial ⟨rfl, rfl, rfl, rfl, trivial⟩ rfl) ?_
  rintro m tm H ⟨j, hj, hall, rfl, rfl⟩
  conv => whnf
  refine ⟨fun hlt => ?_, fun hlt => ?_⟩
  · replace hlt : (j : Int) < (dcs sig).length := of_decide_eq_true hlt
    obtain ⟨e, he⟩ : ∃ e, sig[j]? = some e := ⟨sig[j]'(by omega), List.getElem?_eq_getElem (by omega)⟩
    have hec := dcs_at he
    have hno : ∀ b, b = decide (e.s = s) → b = false → ∀ (q : Nat) x, q < j + 1 → sig[q]? = some x → ¬ x.s = s := fun b hb hf q x hq hx => by
      by_cases hqj : q < j
      · exact hall q x hqj hx
      · obtain rfl : q = j := by omega
        rw [he] at hx
        injection hx with hx
        subst hx
        exact of_decide_eq_false (hb ▸ hf)
    have hyes : e.s = s → nameIn sig s = true := fun h => nameIn_yes he h
    have hat : e.s = s → findI sig s = j := fun h => by unfold findI; rw [find_at he h hall]
    obtain ⟨s', ⟨k', l', n', us⟩, i'⟩ := e
    conv => whnf
    refine ⟨_, ⟨by omega, hec⟩, ?_⟩
    conv => whnf
    refine ⟨show 6 ≤ 6 by decide, ?_⟩
    conv => whnf
    refine ⟨fun hsq => ?_, fun hsq => ?_⟩
    · rw [hyes (of_decide_eq_true hsq), hat (of_decide_eq_true hsq)]
      repeat (first | (refine And.intro rfl ?_; conv => whnf) | (refine And.intro (by decide) ?_; conv => whnf) | (refine draw_intro true (by kernel_rfl) ?_; conv => whnf) | (refine And.intro ⟨by omega, by omega⟩ ?_; conv => whnf) | (refine And.intro (by omega) ?_; conv => whnf) | (refine And.intro (fun _ => ⟨by omega, by omega⟩) ?_; conv => whnf) | (refine And.intro (fun _ => ?_) (fun h => absurd h ?_); rotate_left; (focus (first | decide | (simp; done) | (simp [tcs]; done))); conv => whnf) | (refine And.intro (fun h => absurd h ?_) (fun _ => ?_); (focus (first | decide | (simp; done) | (simp [tcs]; done))); conv => whnf) | (intro _; conv => whnf))
      all_goals (first | rfl | exact ⟨rfl, rfl⟩ | exact ⟨rfl, rfl, rfl⟩)
    · conv => whnf
      refine ⟨⟨by omega, by omega⟩, ?_⟩
      conv => whnf
      exact ⟨m - 1, _, _, by omega, ⟨j + 1, by omega, hno _ rfl hsq, rfl, rfl⟩, Wk.sel [] (by decide) (by decide) (by decide) trivial ⟨rfl, rfl, rfl, rfl, trivial⟩ rfl⟩
  · replace hlt : ¬ (j : Int) < (dcs sig).length := of_decide_eq_false hlt
    rw [nameIn_no (fun q e he => hall q e (by have := (List.getElem?_eq_some_iff.1 he).1; omega) he)]
    conv => whnf
    repeat (first | (refine And.intro rfl ?_; conv => whnf) | (refine And.intro (by decide) ?_; conv => whnf) | (refine draw_intro true (by kernel_rfl) ?_; conv => whnf) | (refine And.intro ⟨by omega, by omega⟩ ?_; conv => whnf) | (refine And.intro (by omega) ?_; conv => whnf) | (refine And.intro (fun _ => ⟨by omega, by omega⟩) ?_; conv => whnf) | (refine And.intro (fun _ => ?_) (fun h => absurd h ?_); rotate_left; (focus (first | decide | (simp; done) | (simp [tcs]; done))); conv => whnf) | (refine And.intro (fun h => absurd h ?_) (fun _ => ?_); (focus (first | decide | (simp; done) | (simp [tcs]; done))); conv => whnf) | (intro _; conv => whnf))
    all_goals (first | rfl | exact ⟨rfl, rfl⟩ | exact ⟨rfl, rfl, rfl⟩)
theorem cRHas (sig : List Dcl) (n : Int) : CallSt Tryz.prog 27 [.c (.sl 6 72 (dcs sig)), .c (.int .i64 (n))] [] (fun r H' => r = .c (.bool (decide (0 ≤ n) && decide (n < sig.length))) ∧ H' = []) := by
  rw [← len_dcs sig]
  refine call_pure (E := env 0) (fn := Tryz.f27) (c := bodyOf Tryz.f27) (env_ok 0) mixed (by kernel_rfl) (by kernel_rfl) (by kernel_rfl) (by kernel_rfl) (by kernel_rfl) (by kernel_rfl) rfl ?_
  conv => whnf
  repeat (first | (refine And.intro rfl ?_; conv => whnf) | (refine And.intro (by decide) ?_; conv => whnf) | (refine draw_intro true (by kernel_rfl) ?_; conv => whnf) | (refine And.intro ⟨by omega, by omega⟩ ?_; conv => whnf) | (refine And.intro (by omega) ?_; conv => whnf) | (refine And.intro (fun _ => ⟨by omega, by omega⟩) ?_; conv => whnf) | (refine And.intro (fun _ => ?_) (fun h => absurd h ?_); rotate_left; (focus (first | decide | (simp; done) | (simp [tcs]; done))); conv => whnf) | (refine And.intro (fun h => absurd h ?_) (fun _ => ?_); (focus (first | decide | (simp; done) | (simp [tcs]; done))); conv => whnf) | (intro _; conv => whnf))
  all_goals (first | rfl | exact ⟨rfl, rfl⟩ | exact ⟨rfl, rfl, rfl⟩)
end Go.Tr
/- Levels. -/
namespace Go.Tr
open Go.Proofs
theorem fm_k {k l n d : Int} {ts : List Term} (h : fmT (.mk k l n ts) d = true) : k = 1 ∨ k = 2 ∨ k = 3 ∨ k = 4 := by
  rw [fmT, Bool.and_eq_true, Bool.and_eq_true] at h
  have h1 := h.1.2
  unfold fmB at h1
  by_cases e1 : k = 1
  · exact .inl e1
  by_cases e2 : k = 2
  · exact .inr (.inl e2)
  by_cases e3 : k = 3
  · exact .inr (.inr (.inl e3))
  by_cases e4 : k = 4
  · exact .inr (.inr (.inr e4))
  simp [e1, e2, e3, e4] at h1
theorem fm_lam {l n d : Int} {ts : List Term} (h : fmT (.mk 3 l n ts) d = true) : l = 0 ∧ n = 0 ∧ ∃ a, ts = [a] ∧ fmT a (d + 1) = true := by
  rw [fmT, Bool.and_eq_true, Bool.and_eq_true] at h
  obtain ⟨⟨_, h1⟩, h2⟩ := h
  unfold fmB at h1
  simp at h1
  rcases ts with _ | ⟨a, _ | ⟨b, r⟩⟩
  · simp at h1
  · refine ⟨by simp at h1; omega, by simp at h1; omega, a, rfl, ?_⟩
    rw [fmL, Bool.and_eq_true] at h2
    exact h2.1
  · simp at h1
    omega
theorem fm_app {l n d : Int} {ts : List Term} (h : fmT (.mk 4 l n ts) d = true) : 1 ≤ l ∧ l ≤ 3 ∧ 0 ≤ n ∧ n ≤ 9999 := by
  rw [fmT, Bool.and_eq_true, Bool.and_eq_true] at h
  have h1 := h.1.2
  unfold fmB at h1
  simp at h1
  omega
theorem allL_at {p : Term → Int → Bool} {k i : Int} : ∀ {ts : List Term} {q : Nat}, allL p k i q ts = true → ∀ (j : Nat) u, ts[j]? = some u → allT p u (i + unT k ((q + j : Nat) : Int)) = true
  | [], _, _, j, u, hu => by simp at hu
  | t :: r, q, h, 0, u, hu => by
    rw [allL, Bool.and_eq_true] at h
    simp at hu
    subst hu
    simpa using h.1
  | t :: r, q, h, j + 1, u, hu => by
    rw [allL, Bool.and_eq_true] at h
    have h2 := allL_at (q := q + 1) (by simpa using h.2) j u (by simpa using hu)
    rwa [show q + 1 + j = q + (j + 1) by omega] at h2
theorem allT_at {p : Term → Int → Bool} {k l n i : Int} {ts : List Term} (h : allT p (.mk k l n ts) i = true) (j : Nat) (u : Term) (hu : ts[j]? = some u) : allT p u (i + unT k j) = true := by
  rw [allT, Bool.and_eq_true] at h
  have := allL_at (q := 0) (by simpa using h.2) j u hu
  simpa using this
theorem allT_here {p : Term → Int → Bool} {t : Term} {i : Int} (h : allT p t i = true) : p t i = true := by
  cases t
  rw [allT, Bool.and_eq_true] at h
  exact h.1
/-- The constants in a term are below a number. -/
def conB (m : Int) : Term → Int → Bool := hdOk 2 (fun x => decide (x < m))
def levH (B : List Dcl) (k l n : Int) (xs : List Int) : Int := match decide (k = 1) with
  | true => 1
  | false => match decide (k = 2) with
    | true => (match decide (xs.getD 1 0 = 3) with | true => 0 | false => xs.getD 1 0)
    | false => match decide (k = 3) with
      | true => (match decide (xs.getD 0 0 = 3) with | true => 3 | false => 0)
      | false => match decide (l = 2) && kindAt B n with | true => 2 | false => 3
def lev2 (x : Int) : Int := match decide (x = 3) with | true => 0 | false => x
def lev3 (x : Int) : Int := match decide (x = 3) with | true => 3 | false => 0
def lev4 (b : Bool) : Int := match b with | true => 2 | false => 3
mutual
def levT (B : List Dcl) : Term → Int
  | .mk k l n ts => levH B k l n (levL B ts)
def levL (B : List Dcl) : List Term → List Int
  | [] => []
  | t :: r => levT B t :: levL B r
end
theorem levT_1 (B : List Dcl) (l n : Int) (ts : List Term) : levT B (.mk 1 l n ts) = 1 := by rw [levT]; rfl
theorem levT_2 (B : List Dcl) (l n : Int) (a b : Term) : levT B (.mk 2 l n [a, b]) = lev2 (levT B b) := by rw [levT, levL, levL, levL]; rfl
theorem levT_3 (B : List Dcl) (l n : Int) (a : Term) : levT B (.mk 3 l n [a]) = lev3 (levT B a) := by rw [levT, levL, levL]; rfl
theorem levT_4 (B : List Dcl) (l n : Int) (ts : List Term) : levT B (.mk 4 l n ts) = lev4 (decide (l = 2) && kindAt B n) := by rw [levT]; rfl
theorem lev_in (B : List Dcl) (t : Term) : ∀ d, fmT t d = true → levT B t = 0 ∨ levT B t = 1 ∨ levT B t = 2 ∨ levT B t = 3 := by
  induction t using Term.ind with
  | _ t ih =>
  intro d hf
  obtain ⟨k, l, n, ts⟩ := t
  replace ih : ∀ u, u ∈ ts → _ := ih
  rcases fm_k hf with rfl | rfl | rfl | rfl
  · rw [levT_1]; simp
  · obtain ⟨rfl, rfl, a, b, rfl, ha, hb⟩ := fm_pi hf
    rw [levT_2]
    have := ih b (by simp) (d + 1) hb
    unfold lev2
    split
    · simp
    · exact this
  · obtain ⟨rfl, rfl, a, rfl, ha⟩ := fm_lam hf
    rw [levT_3]
    unfold lev3
    split <;> simp
  · rw [levT_4]
    unfold lev4
    split <;> simp
theorem cLevel1 (B : List Dcl) (hB : ∀ e ∈ B, prop e.c = true) (t : Term) : ∀ (d i : Int), fmT t d = true → allT (conB B.length) t i = true → CallSt Tryz.prog 48 [.c (.sl 6 72 (dcs B)), tv t] [] (fun r H' => r = .c (.int .i64 (levT B t)) ∧ H' = []) := by
  induction t using Term.ind with
  | _ t ih =>
  intro d i hf hc
  obtain ⟨k, l, n, ts⟩ := t
  replace ih : ∀ u, u ∈ ts → _ := ih
  rcases fm_k hf with rfl | rfl | rfl | rfl
  · rw [levT_1, tv_mk]
    refine call_pure (E := env 0) (fn := Tryz.f48) (c := bodyOf Tryz.f48) (env_ok 0) mixed (by kernel_rfl) (by kernel_rfl) (by kernel_rfl) (by kernel_rfl) (by kernel_rfl) (by kernel_rfl) rfl ?_
    conv => whnf
    repeat (first | (refine And.intro rfl ?_; conv => whnf) | (refine And.intro (by decide) ?_; conv => whnf) | (refine draw_intro true (by kernel_rfl) ?_; conv => whnf) | (refine And.intro ⟨by omega, by omega⟩ ?_; conv => whnf) | (refine And.intro (by omega) ?_; conv => whnf) | (refine And.intro (fun _ => ⟨by omega, by omega⟩) ?_; conv => whnf) | (refine And.intro (fun _ => ?_) (fun h => absurd h ?_); rotate_left; (focus (first | decide | (simp; done) | (simp [tcs]; done))); conv => whnf) | (refine And.intro (fun h => absurd h ?_) (fun _ => ?_); (focus (first | decide | (simp; done) | (simp [tcs]; done))); conv => whnf) | (intro _; conv => whnf))
    all_goals (first | rfl | exact ⟨rfl, rfl⟩ | exact ⟨rfl, rfl, rfl⟩)
  · obtain ⟨rfl, rfl, a, b, rfl, ha, hb⟩ := fm_pi hf
    have hh := ih b (by simp) (d + 1) _ hb (allT_at hc 1 b rfl)
    rw [levT_2, tv_mk]
    generalize levT B b = x at *
    clear hf hc ha hb ih
    obtain ⟨a1, a2, a3, a4⟩ := a
    obtain ⟨b1, b2, b3, b4⟩ := b
    rw [tv_mk] at hh
    generalize hv : lev2 x = v
    refine call_pure (E := env 0) (fn := Tryz.f48) (c := bodyOf Tryz.f48) (env_ok 0) mixed (by kernel_rfl) (by kernel_rfl) (by kernel_rfl) (by kernel_rfl) (by kernel_rfl) (by kernel_rfl) rfl ?_
    conv => whnf
    repeat (first | (refine And.intro rfl ?_; conv => whnf) | (refine And.intro (by decide) ?_; conv => whnf) | (refine draw_intro true (by kernel_rfl) ?_; conv => whnf) | (refine And.intro ⟨by omega, by omega⟩ ?_; conv => whnf) | (refine And.intro (by omega) ?_; conv => whnf) | (refine And.intro (fun _ => ⟨by omega, by omega⟩) ?_; conv => whnf) | (refine And.intro (fun _ => ?_) (fun h => absurd h ?_); rotate_left; (focus (first | decide | (simp; done) | (simp [tcs]; done))); conv => whnf) | (refine And.intro (fun h => absurd h ?_) (fun _ => ?_); (focus (first | decide | (simp; done) | (simp [tcs]; done))); conv => whnf) | (intro _; conv => whnf))
    refine ⟨_, ⟨by decide, rfl⟩, ?_⟩
    conv => whnf
    refine ⟨Nat.le_refl 4, ?_⟩
    conv => whnf
    try (refine draw_intro true (by kernel_rfl) ?_; conv => whnf)
    refine CallSt.use hh [] trivial (by decide) rfl ?_
    rintro _ _ ⟨rfl, rfl⟩ _
    conv => whnf
    refine ⟨fun hx => ?_, fun hx => ?_⟩
    · have h3 : ¬ x = 3 := by simpa using hx
      obtain rfl : x = v := by rw [← hv]; simp [lev2, lev3, h3]
      conv => whnf
      repeat (first | (refine And.intro rfl ?_; conv => whnf) | (refine And.intro (by decide) ?_; conv => whnf) | (refine draw_intro true (by kernel_rfl) ?_; conv => whnf) | (refine And.intro ⟨by omega, by omega⟩ ?_; conv => whnf) | (refine And.intro (by omega) ?_; conv => whnf) | (refine And.intro (fun _ => ⟨by omega, by omega⟩) ?_; conv => whnf) | (refine And.intro (fun _ => ?_) (fun h => absurd h ?_); rotate_left; (focus (first | decide | (simp; done) | (simp [tcs]; done))); conv => whnf) | (refine And.intro (fun h => absurd h ?_) (fun _ => ?_); (focus (first | decide | (simp; done) | (simp [tcs]; done))); conv => whnf) | (intro _; conv => whnf))
      all_goals (first | rfl | exact ⟨rfl, rfl⟩ | exact ⟨rfl, rfl, rfl⟩)
    · have h3 : x = 3 := by simpa using hx
      obtain rfl : 0 = v := by rw [← hv]; simp [lev2, lev3, h3]
      conv => whnf
      repeat (first | (refine And.intro rfl ?_; conv => whnf) | (refine And.intro (by decide) ?_; conv => whnf) | (refine draw_intro true (by kernel_rfl) ?_; conv => whnf) | (refine And.intro ⟨by omega, by omega⟩ ?_; conv => whnf) | (refine And.intro (by omega) ?_; conv => whnf) | (refine And.intro (fun _ => ⟨by omega, by omega⟩) ?_; conv => whnf) | (refine And.intro (fun _ => ?_) (fun h => absurd h ?_); rotate_left; (focus (first | decide | (simp; done) | (simp [tcs]; done))); conv => whnf) | (refine And.intro (fun h => absurd h ?_) (fun _ => ?_); (focus (first | decide | (simp; done) | (simp [tcs]; done))); conv => whnf) | (intro _; conv => whnf))
      all_goals (first | rfl | exact ⟨rfl, rfl⟩ | exact ⟨rfl, rfl, rfl⟩)
  · obtain ⟨rfl, rfl, a, rfl, ha⟩ := fm_lam hf
    have hh := ih a (by simp) (d + 1) _ ha (allT_at hc 0 a rfl)
    rw [levT_3, tv_mk]
    generalize levT B a = x at *
    clear hf hc ha ih
    obtain ⟨a1, a2, a3, a4⟩ := a
    rw [tv_mk] at hh
    generalize hv : lev3 x = v
    refine call_pure (E := env 0) (fn := Tryz.f48) (c := bodyOf Tryz.f48) (env_ok 0) mixed (by kernel_rfl) (by kernel_rfl) (by kernel_rfl) (by kernel_rfl) (by kernel_rfl) (by kernel_rfl) rfl ?_
    conv => whnf
    repeat (first | (refine And.intro rfl ?_; conv => whnf) | (refine And.intro (by decide) ?_; conv => whnf) | (refine draw_intro true (by kernel_rfl) ?_; conv => whnf) | (refine And.intro ⟨by omega, by omega⟩ ?_; conv => whnf) | (refine And.intro (by omega) ?_; conv => whnf) | (refine And.intro (fun _ => ⟨by omega, by omega⟩) ?_; conv => whnf) | (refine And.intro (fun _ => ?_) (fun h => absurd h ?_); rotate_left; (focus (first | decide | (simp; done) | (simp [tcs]; done))); conv => whnf) | (refine And.intro (fun h => absurd h ?_) (fun _ => ?_); (focus (first | decide | (simp; done) | (simp [tcs]; done))); conv => whnf) | (intro _; conv => whnf))
    refine ⟨_, ⟨by decide, rfl⟩, ?_⟩
    conv => whnf
    refine ⟨Nat.le_refl 4, ?_⟩
    conv => whnf
    try (refine draw_intro true (by kernel_rfl) ?_; conv => whnf)
    refine CallSt.use hh [] trivial (by decide) rfl ?_
    rintro _ _ ⟨rfl, rfl⟩ _
    conv => whnf
    refine ⟨fun hx => ?_, fun hx => ?_⟩
    · have h3 : x = 3 := by simpa using hx
      obtain rfl : 3 = v := by rw [← hv]; simp [lev2, lev3, h3]
      conv => whnf
      repeat (first | (refine And.intro rfl ?_; conv => whnf) | (refine And.intro (by decide) ?_; conv => whnf) | (refine draw_intro true (by kernel_rfl) ?_; conv => whnf) | (refine And.intro ⟨by omega, by omega⟩ ?_; conv => whnf) | (refine And.intro (by omega) ?_; conv => whnf) | (refine And.intro (fun _ => ⟨by omega, by omega⟩) ?_; conv => whnf) | (refine And.intro (fun _ => ?_) (fun h => absurd h ?_); rotate_left; (focus (first | decide | (simp; done) | (simp [tcs]; done))); conv => whnf) | (refine And.intro (fun h => absurd h ?_) (fun _ => ?_); (focus (first | decide | (simp; done) | (simp [tcs]; done))); conv => whnf) | (intro _; conv => whnf))
      all_goals (first | rfl | exact ⟨rfl, rfl⟩ | exact ⟨rfl, rfl, rfl⟩)
    · have h3 : ¬ x = 3 := by simpa using hx
      obtain rfl : 0 = v := by rw [← hv]; simp [lev2, lev3, h3]
      conv => whnf
      repeat (first | (refine And.intro rfl ?_; conv => whnf) | (refine And.intro (by decide) ?_; conv => whnf) | (refine draw_intro true (by kernel_rfl) ?_; conv => whnf) | (refine And.intro ⟨by omega, by omega⟩ ?_; conv => whnf) | (refine And.intro (by omega) ?_; conv => whnf) | (refine And.intro (fun _ => ⟨by omega, by omega⟩) ?_; conv => whnf) | (refine And.intro (fun _ => ?_) (fun h => absurd h ?_); rotate_left; (focus (first | decide | (simp; done) | (simp [tcs]; done))); conv => whnf) | (refine And.intro (fun h => absurd h ?_) (fun _ => ?_); (focus (first | decide | (simp; done) | (simp [tcs]; done))); conv => whnf) | (intro _; conv => whnf))
      all_goals (first | rfl | exact ⟨rfl, rfl⟩ | exact ⟨rfl, rfl, rfl⟩)
  · obtain ⟨l1, l2, n1, n2⟩ := fm_app hf
    have hcn := allT_here hc
    rw [levT_4, tv_mk]
    clear hf hc ih
    by_cases hl : l = 2
    · subst hl
      have hn : n < B.length := by
        unfold conB hdOk at hcn
        simp [Term.k, Term.l, Term.n] at hcn
        exact of_decide_eq_true hcn
      obtain ⟨q, e, rfl, hq, he⟩ := get_nat ⟨n1, hn⟩
      have hfd := cFamily B q e he (hB e (List.mem_of_getElem? he))
      rw [kindAt_at he]
      generalize kindT e.c = b at *
      cases b with
      | true =>
        refine call_pure (E := env 0) (fn := Tryz.f48) (c := bodyOf Tryz.f48) (env_ok 0) mixed (by kernel_rfl) (by kernel_rfl) (by kernel_rfl) (by kernel_rfl) (by kernel_rfl) (by kernel_rfl) rfl ?_
        conv => whnf
        repeat (first | (refine And.intro rfl ?_; conv => whnf) | (refine And.intro (by decide) ?_; conv => whnf) | (refine draw_intro true (by kernel_rfl) ?_; conv => whnf) | (refine And.intro ⟨by omega, by omega⟩ ?_; conv => whnf) | (refine And.intro (by omega) ?_; conv => whnf) | (refine And.intro (fun _ => ⟨by omega, by omega⟩) ?_; conv => whnf) | (refine And.intro (fun _ => ?_) (fun h => absurd h ?_); rotate_left; (focus (first | decide | (simp; done) | (simp [tcs]; done))); conv => whnf) | (refine And.intro (fun h => absurd h ?_) (fun _ => ?_); (focus (first | decide | (simp; done) | (simp [tcs]; done))); conv => whnf) | (intro _; conv => whnf))
        try (refine draw_intro true (by kernel_rfl) ?_; conv => whnf)
        refine CallSt.use hfd [] trivial (by decide) rfl ?_
        rintro _ _ ⟨rfl, rfl⟩ _
        conv => whnf
        repeat (first | (refine And.intro rfl ?_; conv => whnf) | (refine And.intro (by decide) ?_; conv => whnf) | (refine draw_intro true (by kernel_rfl) ?_; conv => whnf) | (refine And.intro ⟨by omega, by omega⟩ ?_; conv => whnf) | (refine And.intro (by omega) ?_; conv => whnf) | (refine And.intro (fun _ => ⟨by omega, by omega⟩) ?_; conv => whnf) | (refine And.intro (fun _ => ?_) (fun h => absurd h ?_); rotate_left; (focus (first | decide | (simp; done) | (simp [tcs]; done))); conv => whnf) | (refine And.intro (fun h => absurd h ?_) (fun _ => ?_); (focus (first | decide | (simp; done) | (simp [tcs]; done))); conv => whnf) | (intro _; conv => whnf))
        all_goals (first | rfl | exact ⟨rfl, rfl⟩ | exact ⟨rfl, rfl, rfl⟩)
      | false =>
        refine call_pure (E := env 0) (fn := Tryz.f48) (c := bodyOf Tryz.f48) (env_ok 0) mixed (by kernel_rfl) (by kernel_rfl) (by kernel_rfl) (by kernel_rfl) (by kernel_rfl) (by kernel_rfl) rfl ?_
        conv => whnf
        repeat (first | (refine And.intro rfl ?_; conv => whnf) | (refine And.intro (by decide) ?_; conv => whnf) | (refine draw_intro true (by kernel_rfl) ?_; conv => whnf) | (refine And.intro ⟨by omega, by omega⟩ ?_; conv => whnf) | (refine And.intro (by omega) ?_; conv => whnf) | (refine And.intro (fun _ => ⟨by omega, by omega⟩) ?_; conv => whnf) | (refine And.intro (fun _ => ?_) (fun h => absurd h ?_); rotate_left; (focus (first | decide | (simp; done) | (simp [tcs]; done))); conv => whnf) | (refine And.intro (fun h => absurd h ?_) (fun _ => ?_); (focus (first | decide | (simp; done) | (simp [tcs]; done))); conv => whnf) | (intro _; conv => whnf))
        try (refine draw_intro true (by kernel_rfl) ?_; conv => whnf)
        refine CallSt.use hfd [] trivial (by decide) rfl ?_
        rintro _ _ ⟨rfl, rfl⟩ _
        conv => whnf
        repeat (first | (refine And.intro rfl ?_; conv => whnf) | (refine And.intro (by decide) ?_; conv => whnf) | (refine draw_intro true (by kernel_rfl) ?_; conv => whnf) | (refine And.intro ⟨by omega, by omega⟩ ?_; conv => whnf) | (refine And.intro (by omega) ?_; conv => whnf) | (refine And.intro (fun _ => ⟨by omega, by omega⟩) ?_; conv => whnf) | (refine And.intro (fun _ => ?_) (fun h => absurd h ?_); rotate_left; (focus (first | decide | (simp; done) | (simp [tcs]; done))); conv => whnf) | (refine And.intro (fun h => absurd h ?_) (fun _ => ?_); (focus (first | decide | (simp; done) | (simp [tcs]; done))); conv => whnf) | (intro _; conv => whnf))
        all_goals (first | rfl | exact ⟨rfl, rfl⟩ | exact ⟨rfl, rfl, rfl⟩)
    · rw [show (decide (l = 2) && kindAt B n) = false by simp [hl]]
      refine call_pure (E := env 0) (fn := Tryz.f48) (c := bodyOf Tryz.f48) (env_ok 0) mixed (by kernel_rfl) (by kernel_rfl) (by kernel_rfl) (by kernel_rfl) (by kernel_rfl) (by kernel_rfl) rfl ?_
      conv => whnf
      repeat (first | (refine And.intro rfl ?_; conv => whnf) | (refine And.intro (by decide) ?_; conv => whnf) | (refine draw_intro true (by kernel_rfl) ?_; conv => whnf) | (refine And.intro ⟨by omega, by omega⟩ ?_; conv => whnf) | (refine And.intro (by omega) ?_; conv => whnf) | (refine And.intro (fun _ => ⟨by omega, by omega⟩) ?_; conv => whnf) | (refine And.intro (fun _ => ?_) (fun h => absurd h ?_); rotate_left; (focus (first | decide | (simp; done) | (simp [tcs]; done))); conv => whnf) | (refine And.intro (fun h => absurd h ?_) (fun _ => ?_); (focus (first | decide | (simp; done) | (simp [tcs]; done))); conv => whnf) | (intro _; conv => whnf))
      (refine ⟨fun h => absurd (of_decide_eq_true h) hl, fun _ => ?_⟩; conv => whnf)
      repeat (first | (refine And.intro rfl ?_; conv => whnf) | (refine And.intro (by decide) ?_; conv => whnf) | (refine draw_intro true (by kernel_rfl) ?_; conv => whnf) | (refine And.intro ⟨by omega, by omega⟩ ?_; conv => whnf) | (refine And.intro (by omega) ?_; conv => whnf) | (refine And.intro (fun _ => ⟨by omega, by omega⟩) ?_; conv => whnf) | (refine And.intro (fun _ => ?_) (fun h => absurd h ?_); rotate_left; (focus (first | decide | (simp; done) | (simp [tcs]; done))); conv => whnf) | (refine And.intro (fun h => absurd h ?_) (fun _ => ?_); (focus (first | decide | (simp; done) | (simp [tcs]; done))); conv => whnf) | (intro _; conv => whnf))
      all_goals (first | rfl | exact ⟨rfl, rfl⟩ | exact ⟨rfl, rfl, rfl⟩)
end Go.Tr
/- Levels, of the reference; Level. -/
namespace Go.Tr
open Go.Proofs
/-- Level's answer for a formed signature and a proper term. -/
def levE1 (b : Bool) (x : Int) : Int := match b with
  | false => 27
  | true => (match decide (x = 0) with | true => 22 | false => 0)
def levE2 (b : Bool) (x : Int) : Int := match b with
  | false => 0
  | true => x
def levelE (B : List Dcl) (t : Term) : Int := levE1 (lastB (conF 2 t) B.length) (levT B t)
def levelF (B : List Dcl) (t : Term) : Int := levE2 (lastB (conF 2 t) B.length) (levT B t)
theorem last_con {t : Term} (hp : prop t = true) {m : Int} (h : lastB (conF 2 t) m = true) : allT (conB m) t 0 = true := by
  have h1 := (lastB_all (con_sorted 2 hp) m).1 h
  have h2 := (con_all 2 (fun x => decide (x < m)) hp).1 (fun x hx => by simpa using h1 x hx)
  exact h2
theorem cLevel (sig : List Dcl) (t : Term) : CallSt Tryz.prog 23 [.c (.sl 6 72 (dcs sig)), tv t] []
    (fun r H' => r = .tup [.c (.int .i64 (match checkB sig && prop t with | true => levelF sig t | false => 0)), .c (.int .i64 (match checkB sig && prop t with | true => levelE sig t | false => 2))] ∧ H' = []) := by
  have hck := cCheck sig
  have h14 := c14 t
  have hbl := len_dcs sig
  cases hc : checkB sig with
  | false =>
    rw [hc] at hck
    obtain ⟨k, l, n, ts⟩ := t
    rw [tv_mk] at *
    refine call_pure (E := env 0) (fn := Tryz.f23) (c := bodyOf Tryz.f23) (env_ok 0) mixed (by kernel_rfl) (by kernel_rfl) (by kernel_rfl) (by kernel_rfl) (by kernel_rfl) (by kernel_rfl) rfl ?_
    conv => whnf
    try (refine draw_intro true (by kernel_rfl) ?_; conv => whnf)
    refine CallSt.use hck [] trivial (by decide) rfl ?_
    rintro _ _ ⟨rfl, rfl⟩ _
    conv => whnf
    repeat (first | (refine And.intro rfl ?_; conv => whnf) | (refine And.intro (by decide) ?_; conv => whnf) | (refine draw_intro true (by kernel_rfl) ?_; conv => whnf) | (refine And.intro ⟨by omega, by omega⟩ ?_; conv => whnf) | (refine And.intro (by omega) ?_; conv => whnf) | (refine And.intro (fun _ => ⟨by omega, by omega⟩) ?_; conv => whnf) | (refine And.intro (fun _ => ?_) (fun h => absurd h ?_); rotate_left; (focus (first | decide | (simp; done) | (simp [tcs]; done))); conv => whnf) | (refine And.intro (fun h => absurd h ?_) (fun _ => ?_); (focus (first | decide | (simp; done) | (simp [tcs]; done))); conv => whnf) | (intro _; conv => whnf))
    all_goals (first | rfl | exact ⟨rfl, rfl⟩ | exact ⟨rfl, rfl, rfl⟩)
  | true =>
    cases hp : prop t with
    | false =>
      rw [hc] at hck
      simp only [hp, Bool.false_eq_true, if_false] at h14
      clear hp
      obtain ⟨k, l, n, ts⟩ := t
      rw [tv_mk] at *
      refine call_pure (E := env 0) (fn := Tryz.f23) (c := bodyOf Tryz.f23) (env_ok 0) mixed (by kernel_rfl) (by kernel_rfl) (by kernel_rfl) (by kernel_rfl) (by kernel_rfl) (by kernel_rfl) rfl ?_
      conv => whnf
      try (refine draw_intro true (by kernel_rfl) ?_; conv => whnf)
      refine CallSt.use hck [] trivial (by decide) rfl ?_
      rintro _ _ ⟨rfl, rfl⟩ _
      conv => whnf
      repeat (first | (refine And.intro rfl ?_; conv => whnf) | (refine And.intro (by decide) ?_; conv => whnf) | (refine draw_intro true (by kernel_rfl) ?_; conv => whnf) | (refine And.intro ⟨by omega, by omega⟩ ?_; conv => whnf) | (refine And.intro (by omega) ?_; conv => whnf) | (refine And.intro (fun _ => ⟨by omega, by omega⟩) ?_; conv => whnf) | (refine And.intro (fun _ => ?_) (fun h => absurd h ?_); rotate_left; (focus (first | decide | (simp; done) | (simp [tcs]; done))); conv => whnf) | (refine And.intro (fun h => absurd h ?_) (fun _ => ?_); (focus (first | decide | (simp; done) | (simp [tcs]; done))); conv => whnf) | (intro _; conv => whnf))
      try (refine draw_intro true (by kernel_rfl) ?_; conv => whnf)
      refine CallSt.use h14 [] trivial (by decide) rfl ?_
      rintro _ _ ⟨rfl, rfl⟩ _
      conv => whnf
      repeat (first | (refine And.intro rfl ?_; conv => whnf) | (refine And.intro (by decide) ?_; conv => whnf) | (refine draw_intro true (by kernel_rfl) ?_; conv => whnf) | (refine And.intro ⟨by omega, by omega⟩ ?_; conv => whnf) | (refine And.intro (by omega) ?_; conv => whnf) | (refine And.intro (fun _ => ⟨by omega, by omega⟩) ?_; conv => whnf) | (refine And.intro (fun _ => ?_) (fun h => absurd h ?_); rotate_left; (focus (first | decide | (simp; done) | (simp [tcs]; done))); conv => whnf) | (refine And.intro (fun h => absurd h ?_) (fun _ => ?_); (focus (first | decide | (simp; done) | (simp [tcs]; done))); conv => whnf) | (intro _; conv => whnf))
      all_goals (first | rfl | exact ⟨rfl, rfl⟩ | exact ⟨rfl, rfl, rfl⟩)
    | true =>
      have hcs := cConsP t
      have hln := len_rowI (conF 2 t)
      have hcl := conF_len 2 t
      have hlv : lastB (conF 2 t) sig.length = true → CallSt Tryz.prog 48 [.c (.sl 6 72 (dcs sig)), tv t] [] (fun r H' => r = .c (.int .i64 (levT sig t)) ∧ H' = []) := fun h =>
        cLevel1 sig (check_prop hc) t 1 0 (prop_fm1 hp) (last_con hp h)
      rw [hc] at hck
      simp only [hp, if_true] at h14 hcs
      simp only [Bool.and_self]
      unfold levelF levelE
      rw [← hbl] at hlv ⊢
      clear hp
      generalize levT sig t = x at *
      rcases last_row (conF 2 t) with ⟨hC, hL⟩ | ⟨y, hC, hy, hL⟩
      · rw [hL] at hlv ⊢
        have hlv := hlv rfl
        rw [hC] at hcs
        clear hC hL hln hcl
        obtain ⟨k, l, n, ts⟩ := t
        rw [tv_mk] at *
        refine call_pure (E := env 0) (fn := Tryz.f23) (c := bodyOf Tryz.f23) (env_ok 0) mixed (by kernel_rfl) (by kernel_rfl) (by kernel_rfl) (by kernel_rfl) (by kernel_rfl) (by kernel_rfl) rfl ?_
        conv => whnf
        try (refine draw_intro true (by kernel_rfl) ?_; conv => whnf)
        refine CallSt.use hck [] trivial (by decide) rfl ?_
        rintro _ _ ⟨rfl, rfl⟩ _
        conv => whnf
        repeat (first | (refine And.intro rfl ?_; conv => whnf) | (refine And.intro (by decide) ?_; conv => whnf) | (refine draw_intro true (by kernel_rfl) ?_; conv => whnf) | (refine And.intro ⟨by omega, by omega⟩ ?_; conv => whnf) | (refine And.intro (by omega) ?_; conv => whnf) | (refine And.intro (fun _ => ⟨by omega, by omega⟩) ?_; conv => whnf) | (refine And.intro (fun _ => ?_) (fun h => absurd h ?_); rotate_left; (focus (first | decide | (simp; done) | (simp [tcs]; done))); conv => whnf) | (refine And.intro (fun h => absurd h ?_) (fun _ => ?_); (focus (first | decide | (simp; done) | (simp [tcs]; done))); conv => whnf) | (intro _; conv => whnf))
        try (refine draw_intro true (by kernel_rfl) ?_; conv => whnf)
        refine CallSt.use h14 [] trivial (by decide) rfl ?_
        rintro _ _ ⟨rfl, rfl⟩ _
        conv => whnf
        repeat (first | (refine And.intro rfl ?_; conv => whnf) | (refine And.intro (by decide) ?_; conv => whnf) | (refine draw_intro true (by kernel_rfl) ?_; conv => whnf) | (refine And.intro ⟨by omega, by omega⟩ ?_; conv => whnf) | (refine And.intro (by omega) ?_; conv => whnf) | (refine And.intro (fun _ => ⟨by omega, by omega⟩) ?_; conv => whnf) | (refine And.intro (fun _ => ?_) (fun h => absurd h ?_); rotate_left; (focus (first | decide | (simp; done) | (simp [tcs]; done))); conv => whnf) | (refine And.intro (fun h => absurd h ?_) (fun _ => ?_); (focus (first | decide | (simp; done) | (simp [tcs]; done))); conv => whnf) | (intro _; conv => whnf))
        try (refine draw_intro true (by kernel_rfl) ?_; conv => whnf)
        refine CallSt.use hcs [] trivial (by decide) rfl ?_
        rintro _ _ ⟨rfl, rfl⟩ _
        conv => whnf
        repeat (first | (refine And.intro rfl ?_; conv => whnf) | (refine And.intro (by decide) ?_; conv => whnf) | (refine draw_intro true (by kernel_rfl) ?_; conv => whnf) | (refine And.intro ⟨by omega, by omega⟩ ?_; conv => whnf) | (refine And.intro (by omega) ?_; conv => whnf) | (refine And.intro (fun _ => ⟨by omega, by omega⟩) ?_; conv => whnf) | (refine And.intro (fun _ => ?_) (fun h => absurd h ?_); rotate_left; (focus (first | decide | (simp; done) | (simp [tcs]; done))); conv => whnf) | (refine And.intro (fun h => absurd h ?_) (fun _ => ?_); (focus (first | decide | (simp; done) | (simp [tcs]; done))); conv => whnf) | (intro _; conv => whnf))
        refine ⟨fun _ => by rw [show (rowI []).length = 0 from rfl]; exact ⟨by omega, by omega⟩, ?_⟩
        conv => whnf
        refine ⟨[.int .i64 0], fun h => absurd h (by rw [show (rowI []).length = 0 from rfl]; simp), ?_⟩
        conv => whnf
        refine ⟨show 1 ≤ 1 by decide, ?_⟩
        conv => whnf
        intro _
        conv => whnf
        (refine ⟨fun h => absurd h (by rw [show (rowI []).length = 0 from rfl]; simp), fun _ => ?_⟩; conv => whnf)
        try (refine draw_intro true (by kernel_rfl) ?_; conv => whnf)
        refine CallSt.use hlv [] trivial (by decide) rfl ?_
        rintro _ _ ⟨rfl, rfl⟩ _
        conv => whnf
        refine ⟨fun hx => ?_, fun hx => ?_⟩
        · obtain rfl : x = 0 := of_decide_eq_true hx
          conv => whnf
          repeat (first | (refine And.intro rfl ?_; conv => whnf) | (refine And.intro (by decide) ?_; conv => whnf) | (refine draw_intro true (by kernel_rfl) ?_; conv => whnf) | (refine And.intro ⟨by omega, by omega⟩ ?_; conv => whnf) | (refine And.intro (by omega) ?_; conv => whnf) | (refine And.intro (fun _ => ⟨by omega, by omega⟩) ?_; conv => whnf) | (refine And.intro (fun _ => ?_) (fun h => absurd h ?_); rotate_left; (focus (first | decide | (simp; done) | (simp [tcs]; done))); conv => whnf) | (refine And.intro (fun h => absurd h ?_) (fun _ => ?_); (focus (first | decide | (simp; done) | (simp [tcs]; done))); conv => whnf) | (intro _; conv => whnf))
          all_goals (first | rfl | exact ⟨rfl, rfl⟩ | exact ⟨rfl, rfl, rfl⟩)
        · have h0 : ¬ x = 0 := of_decide_eq_false hx
          have e1 : levE1 true x = 0 := by unfold levE1; simp [h0]
          rw [e1]
          conv => whnf
          repeat (first | (refine And.intro rfl ?_; conv => whnf) | (refine And.intro (by decide) ?_; conv => whnf) | (refine draw_intro true (by kernel_rfl) ?_; conv => whnf) | (refine And.intro ⟨by omega, by omega⟩ ?_; conv => whnf) | (refine And.intro (by omega) ?_; conv => whnf) | (refine And.intro (fun _ => ⟨by omega, by omega⟩) ?_; conv => whnf) | (refine And.intro (fun _ => ?_) (fun h => absurd h ?_); rotate_left; (focus (first | decide | (simp; done) | (simp [tcs]; done))); conv => whnf) | (refine And.intro (fun h => absurd h ?_) (fun _ => ?_); (focus (first | decide | (simp; done) | (simp [tcs]; done))); conv => whnf) | (intro _; conv => whnf))
          all_goals (first | rfl | exact ⟨rfl, rfl⟩ | exact ⟨rfl, rfl, rfl⟩)
      · rw [hL] at hlv ⊢
        generalize conF 2 t = C at *
        have hl : C.length ≠ 0 := fun h => hC (List.eq_nil_of_length_eq_zero h)
        obtain ⟨k, l, n, ts⟩ := t
        rw [tv_mk] at *
        refine call_pure (E := env 0) (fn := Tryz.f23) (c := bodyOf Tryz.f23) (env_ok 0) mixed (by kernel_rfl) (by kernel_rfl) (by kernel_rfl) (by kernel_rfl) (by kernel_rfl) (by kernel_rfl) rfl ?_
        conv => whnf
        try (refine draw_intro true (by kernel_rfl) ?_; conv => whnf)
        refine CallSt.use hck [] trivial (by decide) rfl ?_
        rintro _ _ ⟨rfl, rfl⟩ _
        conv => whnf
        repeat (first | (refine And.intro rfl ?_; conv => whnf) | (refine And.intro (by decide) ?_; conv => whnf) | (refine draw_intro true (by kernel_rfl) ?_; conv => whnf) | (refine And.intro ⟨by omega, by omega⟩ ?_; conv => whnf) | (refine And.intro (by omega) ?_; conv => whnf) | (refine And.intro (fun _ => ⟨by omega, by omega⟩) ?_; conv => whnf) | (refine And.intro (fun _ => ?_) (fun h => absurd h ?_); rotate_left; (focus (first | decide | (simp; done) | (simp [tcs]; done))); conv => whnf) | (refine And.intro (fun h => absurd h ?_) (fun _ => ?_); (focus (first | decide | (simp; done) | (simp [tcs]; done))); conv => whnf) | (intro _; conv => whnf))
        try (refine draw_intro true (by kernel_rfl) ?_; conv => whnf)
        refine CallSt.use h14 [] trivial (by decide) rfl ?_
        rintro _ _ ⟨rfl, rfl⟩ _
        conv => whnf
        repeat (first | (refine And.intro rfl ?_; conv => whnf) | (refine And.intro (by decide) ?_; conv => whnf) | (refine draw_intro true (by kernel_rfl) ?_; conv => whnf) | (refine And.intro ⟨by omega, by omega⟩ ?_; conv => whnf) | (refine And.intro (by omega) ?_; conv => whnf) | (refine And.intro (fun _ => ⟨by omega, by omega⟩) ?_; conv => whnf) | (refine And.intro (fun _ => ?_) (fun h => absurd h ?_); rotate_left; (focus (first | decide | (simp; done) | (simp [tcs]; done))); conv => whnf) | (refine And.intro (fun h => absurd h ?_) (fun _ => ?_); (focus (first | decide | (simp; done) | (simp [tcs]; done))); conv => whnf) | (intro _; conv => whnf))
        try (refine draw_intro true (by kernel_rfl) ?_; conv => whnf)
        refine CallSt.use hcs [] trivial (by decide) rfl ?_
        rintro _ _ ⟨rfl, rfl⟩ _
        conv => whnf
        repeat (first | (refine And.intro rfl ?_; conv => whnf) | (refine And.intro (by decide) ?_; conv => whnf) | (refine draw_intro true (by kernel_rfl) ?_; conv => whnf) | (refine And.intro ⟨by omega, by omega⟩ ?_; conv => whnf) | (refine And.intro (by omega) ?_; conv => whnf) | (refine And.intro (fun _ => ⟨by omega, by omega⟩) ?_; conv => whnf) | (refine And.intro (fun _ => ?_) (fun h => absurd h ?_); rotate_left; (focus (first | decide | (simp; done) | (simp [tcs]; done))); conv => whnf) | (refine And.intro (fun h => absurd h ?_) (fun _ => ?_); (focus (first | decide | (simp; done) | (simp [tcs]; done))); conv => whnf) | (intro _; conv => whnf))
        refine ⟨[.int .i64 y], fun _ => ⟨by omega, ?_⟩, ?_⟩
        · rw [show ((((rowI C).length : Int) - 1)).toNat = C.length - 1 by omega]; exact hy
        conv => whnf
        refine ⟨show 1 ≤ 1 by decide, ?_⟩
        conv => whnf
        intro _
        conv => whnf
        refine ⟨fun hg => ?_, fun hg => ?_⟩
        · have h2 : ¬ y < ((dcs sig).length : Int) := by simp at hg; omega
          rw [decide_eq_false h2]
          conv => whnf
          repeat (first | (refine And.intro rfl ?_; conv => whnf) | (refine And.intro (by decide) ?_; conv => whnf) | (refine draw_intro true (by kernel_rfl) ?_; conv => whnf) | (refine And.intro ⟨by omega, by omega⟩ ?_; conv => whnf) | (refine And.intro (by omega) ?_; conv => whnf) | (refine And.intro (fun _ => ⟨by omega, by omega⟩) ?_; conv => whnf) | (refine And.intro (fun _ => ?_) (fun h => absurd h ?_); rotate_left; (focus (first | decide | (simp; done) | (simp [tcs]; done))); conv => whnf) | (refine And.intro (fun h => absurd h ?_) (fun _ => ?_); (focus (first | decide | (simp; done) | (simp [tcs]; done))); conv => whnf) | (intro _; conv => whnf))
          all_goals (first | rfl | exact ⟨rfl, rfl⟩ | exact ⟨rfl, rfl, rfl⟩)
        · have h2 : y < ((dcs sig).length : Int) := by
            rw [decide_eq_true (show (0 : Int) < (rowI C).length by omega), Bool.true_and, decide_eq_false_iff_not] at hg
            omega
          rw [decide_eq_true h2] at hlv ⊢
          have hlv := hlv rfl
          conv => whnf
          try (refine draw_intro true (by kernel_rfl) ?_; conv => whnf)
          refine CallSt.use hlv [] trivial (by decide) rfl ?_
          rintro _ _ ⟨rfl, rfl⟩ _
          conv => whnf
          refine ⟨fun hx => ?_, fun hx => ?_⟩
          · obtain rfl : x = 0 := of_decide_eq_true hx
            conv => whnf
            repeat (first | (refine And.intro rfl ?_; conv => whnf) | (refine And.intro (by decide) ?_; conv => whnf) | (refine draw_intro true (by kernel_rfl) ?_; conv => whnf) | (refine And.intro ⟨by omega, by omega⟩ ?_; conv => whnf) | (refine And.intro (by omega) ?_; conv => whnf) | (refine And.intro (fun _ => ⟨by omega, by omega⟩) ?_; conv => whnf) | (refine And.intro (fun _ => ?_) (fun h => absurd h ?_); rotate_left; (focus (first | decide | (simp; done) | (simp [tcs]; done))); conv => whnf) | (refine And.intro (fun h => absurd h ?_) (fun _ => ?_); (focus (first | decide | (simp; done) | (simp [tcs]; done))); conv => whnf) | (intro _; conv => whnf))
            all_goals (first | rfl | exact ⟨rfl, rfl⟩ | exact ⟨rfl, rfl, rfl⟩)
          · have h0 : ¬ x = 0 := of_decide_eq_false hx
            have e1 : levE1 true x = 0 := by unfold levE1; simp [h0]
            rw [e1]
            conv => whnf
            repeat (first | (refine And.intro rfl ?_; conv => whnf) | (refine And.intro (by decide) ?_; conv => whnf) | (refine draw_intro true (by kernel_rfl) ?_; conv => whnf) | (refine And.intro ⟨by omega, by omega⟩ ?_; conv => whnf) | (refine And.intro (by omega) ?_; conv => whnf) | (refine And.intro (fun _ => ⟨by omega, by omega⟩) ?_; conv => whnf) | (refine And.intro (fun _ => ?_) (fun h => absurd h ?_); rotate_left; (focus (first | decide | (simp; done) | (simp [tcs]; done))); conv => whnf) | (refine And.intro (fun h => absurd h ?_) (fun _ => ?_); (focus (first | decide | (simp; done) | (simp [tcs]; done))); conv => whnf) | (intro _; conv => whnf))
            all_goals (first | rfl | exact ⟨rfl, rfl⟩ | exact ⟨rfl, rfl, rfl⟩)
end Go.Tr
/- uses; Copy of a signature. -/
namespace Go.Tr
open Go.Proofs
def usB (n : Int) (b : Bool) (t : Term) (_i : Int) : Bool := b || (decide (t.k = 4) && decide (t.l = 2) && decide (t.n = n))
theorem cUses1 (b : Bool) (t : Term) (i n : Int) : CallSt Tryz.prog 35 [tv t, .c (.int .i64 (i)), .ptr 0 0, .ptr 1 0] [.box [.c (.bool b)], .box [.c (.int .i64 (n))]]
    (fun r H' => r = .tup [] ∧ H' = [.box [.c (.bool (usB n b t i))], .box [.c (.int .i64 (n))]]) := by
  obtain ⟨k, l, x, ts⟩ := t
  rw [tv_mk]
  unfold usB
  simp only [Term.k, Term.l, Term.n]
  cases b with
  | true =>
    refine call_pure (E := env 2) (fn := Tryz.f35) (c := bodyOf Tryz.f35) (env_ok 2) mixed (by kernel_rfl) (by kernel_rfl) (by kernel_rfl) (by kernel_rfl) (by kernel_rfl) (by kernel_rfl) rfl ?_
    conv => whnf
    repeat (first | (refine And.intro rfl ?_; conv => whnf) | (refine And.intro (by decide) ?_; conv => whnf) | (refine draw_intro true (by kernel_rfl) ?_; conv => whnf) | (refine And.intro ⟨by omega, by omega⟩ ?_; conv => whnf) | (refine And.intro (by omega) ?_; conv => whnf) | (refine And.intro (fun _ => ⟨by omega, by omega⟩) ?_; conv => whnf) | (refine And.intro (fun _ => ?_) (fun h => absurd h ?_); rotate_left; (focus (first | decide | (simp; done) | (simp [tcs]; done))); conv => whnf) | (refine And.intro (fun h => absurd h ?_) (fun _ => ?_); (focus (first | decide | (simp; done) | (simp [tcs]; done))); conv => whnf) | (intro _; conv => whnf))
    all_goals (first | rfl | exact ⟨rfl, rfl⟩ | exact ⟨rfl, rfl, rfl⟩)
  | false =>
    refine call_pure (E := env 2) (fn := Tryz.f35) (c := bodyOf Tryz.f35) (env_ok 2) mixed (by kernel_rfl) (by kernel_rfl) (by kernel_rfl) (by kernel_rfl) (by kernel_rfl) (by kernel_rfl) rfl ?_
    conv => whnf
    repeat (first | (refine And.intro rfl ?_; conv => whnf) | (refine And.intro (by decide) ?_; conv => whnf) | (refine draw_intro true (by kernel_rfl) ?_; conv => whnf) | (refine And.intro ⟨by omega, by omega⟩ ?_; conv => whnf) | (refine And.intro (by omega) ?_; conv => whnf) | (refine And.intro (fun _ => ⟨by omega, by omega⟩) ?_; conv => whnf) | (refine And.intro (fun _ => ?_) (fun h => absurd h ?_); rotate_left; (focus (first | decide | (simp; done) | (simp [tcs]; done))); conv => whnf) | (refine And.intro (fun h => absurd h ?_) (fun _ => ?_); (focus (first | decide | (simp; done) | (simp [tcs]; done))); conv => whnf) | (intro _; conv => whnf))
    refine congrArg (fun z => [Ent.box [.c (.bool z)], Ent.box [.c (.int .i64 (n))]]) ?_
    rfl
/-- A constant occurs in a term. -/
def usesT (n : Int) (t : Term) : Bool := !allT (hdOk 2 (fun x => !decide (x = n))) t 0
theorem uses_each (n : Int) (t : Term) : eachT (usB n) t 0 false = usesT n t := by
  have h := eachT_rel (fun (a b : Bool) => a = !b) (usB n) (fun b t i => b && hdOk 2 (fun x => !decide (x = n)) t i) (fun _ _ => True) (fun _ _ _ _ _ _ => trivial)
    (fun a b t i _ hr => by
      subst hr
      unfold usB hdOk
      by_cases h4 : t.k = 4
      · by_cases h2 : t.l = 2
        · simp [h4, h2]
        · simp [h4, h2]
      · simp [h4]) t 0 false true trivial rfl
  rw [h, allT_each, Bool.true_and]
  rfl
theorem cUses (t : Term) (n : Int) (hp : prop t = true) : CallSt Tryz.prog 16 [tv t, .c (.int .i64 (n))] [] (fun r H' => r = .c (.bool (usesT n t)) ∧ H' = []) := by
  have hE := cEach2 35 (.int .i64 n) (fun b : Bool => b) (usB n) okT okT_step (fun s u j _ => cUses1 s u j n) t 0 false (prop_ok hp)
  rw [uses_each] at hE
  generalize usesT n t = b at *
  clear hp
  obtain ⟨k, l, x, ts⟩ := t
  rw [tv_mk] at *
  refine call_pure (E := env 0) (fn := Tryz.f16) (c := bodyOf Tryz.f16) (env_ok 0) mixed (by kernel_rfl) (by kernel_rfl) (by kernel_rfl) (by kernel_rfl) (by kernel_rfl) (by kernel_rfl) rfl ?_
  conv => whnf
  try (refine draw_intro true (by kernel_rfl) ?_; conv => whnf)
  refine CallSt.use hE [2, 1] ⟨rfl, rfl, trivial⟩ (by decide) rfl ?_
  rintro _ _ ⟨rfl, rfl⟩ _
  conv => whnf
  repeat (first | (refine And.intro rfl ?_; conv => whnf) | (refine And.intro (by decide) ?_; conv => whnf) | (refine draw_intro true (by kernel_rfl) ?_; conv => whnf) | (refine And.intro ⟨by omega, by omega⟩ ?_; conv => whnf) | (refine And.intro (by omega) ?_; conv => whnf) | (refine And.intro (fun _ => ⟨by omega, by omega⟩) ?_; conv => whnf) | (refine And.intro (fun _ => ?_) (fun h => absurd h ?_); rotate_left; (focus (first | decide | (simp; done) | (simp [tcs]; done))); conv => whnf) | (refine And.intro (fun h => absurd h ?_) (fun _ => ?_); (focus (first | decide | (simp; done) | (simp [tcs]; done))); conv => whnf) | (intro _; conv => whnf))
  all_goals (first | rfl | exact ⟨rfl, rfl⟩ | exact ⟨rfl, rfl, rfl⟩)
end Go.Tr
/- Copy of a signature; Add. -/
namespace Go.Tr
open Go.Proofs
theorem dcs_snoc (l : List Dcl) (d : Dcl) : dcs l ++ [dc d] = dcs (l ++ [d]) := by simp [dcs]
theorem take_snoc {sig : List Dcl} {j : Nat} {d : Dcl} (h : sig[j]? = some d) : sig.take j ++ [d] = sig.take (j + 1) := by
  rw [List.take_add_one, h]
  rfl
/-- A copy is one's own. -/
theorem cCopyS (sig : List Dcl) (hp : ∀ e ∈ sig, prop e.c = true) (hl : sig.length ≤ 1000) : CallSt Tryz.prog 15 [.c (.sl 6 72 (dcs sig))] [] (fun r H' => r = .own 0 ∧ H' = [.row 39 6 72 (dcs sig)]) := by
  have hbl := len_dcs sig
  refine call_intro (E := env 0) (fn := Tryz.f15) (c := bodyOf Tryz.f15) (env_ok 0) mixed (by kernel_rfl) (by kernel_rfl) (by kernel_rfl) (by kernel_rfl) (by kernel_rfl) (by kernel_rfl) rfl ?_
  conv => whnf
  repeat (first | (refine And.intro rfl ?_; conv => whnf) | (refine And.intro (by decide) ?_; conv => whnf) | (refine draw_intro true (by kernel_rfl) ?_; conv => whnf) | (refine And.intro ⟨by omega, by omega⟩ ?_; conv => whnf) | (refine And.intro (by omega) ?_; conv => whnf) | (refine And.intro (fun _ => ⟨by omega, by omega⟩) ?_; conv => whnf) | (refine And.intro (fun _ => ?_) (fun h => absurd h ?_); rotate_left; (focus (first | decide | (simp; done) | (simp [tcs]; done))); conv => whnf) | (refine And.intro (fun h => absurd h ?_) (fun _ => ?_); (focus (first | decide | (simp; done) | (simp [tcs]; done))); conv => whnf) | (intro _; conv => whnf))
  refine loop_intro (fun m tm H => ∃ j : Nat, sig.length = m + j ∧
    tm = [(8, .c (.int .i64 (j))), (7, .c (.int .i64 ((dcs sig).length))), (6, .c (.sl 6 72 (dcs sig))), (3, .own 0)] ∧ H = [.row 39 6 72 (dcs (sig.take j))])
    sig.length _ _ ⟨0, by omega, rfl, rfl⟩ ?_ ?_
  · refine Wk.trans (tm1 := [(8, .c (.int .i64 (0))), (7, .c (.int .i64 ((dcs sig).length))), (6, .c (.sl 6 72 (dcs sig))), (3, .nil)]) (H1 := []) ?_ (Wk.trans (Wk.niltmp 3 39 6 72 rfl rfl) ?_)
    · exact Wk.sel [] (by decide) (by decide) (by decide) trivial ⟨rfl, rfl, rfl, rfl, trivial⟩ rfl
    · exact Wk.sel [0] (by decide) (by decide) (by decide) ⟨rfl, trivial⟩ ⟨rfl, rfl, rfl, rfl, trivial⟩ rfl
  rintro m tm H ⟨j, hj, rfl, rfl⟩
  conv => whnf
  refine ⟨fun hlt => ?_, fun hlt => ?_⟩
  · replace hlt : (j : Int) < (dcs sig).length := of_decide_eq_true hlt
    obtain ⟨e, he⟩ : ∃ e, sig[j]? = some e := ⟨sig[j]'(by omega), List.getElem?_eq_getElem (by omega)⟩
    have hec := dcs_at he
    have hcp := c64 e.c (prop_ok (hp e (List.mem_of_getElem? he)))
    have htk := take_snoc he
    have hrl := len_dcs (sig.take j)
    have hul : (sig.take j).length ≤ j := by simp; omega
    have hl2 : ((dcs (sig.take j)).length + 1) * 72 ≤ 140737488355328 := by omega
    have hl3 : (dcs (sig.take j)).length + 1 ≤ 9223372036854775807 := by omega
    obtain ⟨s', ⟨k', l', n', us⟩, i'⟩ := e
    rw [tv_mk] at hcp
    conv => whnf
    refine ⟨_, ⟨by omega, hec⟩, ?_⟩
    conv => whnf
    refine ⟨show 6 ≤ 6 by decide, ?_⟩
    conv => whnf
    try (refine draw_intro true (by kernel_rfl) ?_; conv => whnf)
    refine CallSt.use hcp [] trivial (by decide) rfl ?_
    rintro _ _ ⟨rfl, rfl⟩ _
    conv => whnf
    repeat (first | (refine And.intro rfl ?_; conv => whnf) | (refine And.intro (by decide) ?_; conv => whnf) | (refine draw_intro true (by kernel_rfl) ?_; conv => whnf) | (refine And.intro ⟨by omega, by omega⟩ ?_; conv => whnf) | (refine And.intro (by omega) ?_; conv => whnf) | (refine And.intro (fun _ => ⟨by omega, by omega⟩) ?_; conv => whnf) | (refine And.intro (fun _ => ?_) (fun h => absurd h ?_); rotate_left; (focus (first | decide | (simp; done) | (simp [tcs]; done))); conv => whnf) | (refine And.intro (fun h => absurd h ?_) (fun _ => ?_); (focus (first | decide | (simp; done) | (simp [tcs]; done))); conv => whnf) | (intro _; conv => whnf))
    refine ⟨m - 1, _, _, by omega, ⟨j + 1, by omega, rfl, rfl⟩, Wk.sel [3] (by decide) (by decide) (by decide) ⟨?_, trivial⟩ ⟨rfl, rfl, rfl, rfl, trivial⟩ rfl⟩
    rw [← htk, ← dcs_snoc]
    rfl
  · replace hlt : ¬ (j : Int) < (dcs sig).length := of_decide_eq_false hlt
    obtain rfl : j = sig.length := by omega
    conv => whnf
    rw [List.take_length]
    repeat (first | (refine And.intro rfl ?_; conv => whnf) | (refine And.intro (by decide) ?_; conv => whnf) | (refine draw_intro true (by kernel_rfl) ?_; conv => whnf) | (refine And.intro ⟨by omega, by omega⟩ ?_; conv => whnf) | (refine And.intro (by omega) ?_; conv => whnf) | (refine And.intro (fun _ => ⟨by omega, by omega⟩) ?_; conv => whnf) | (refine And.intro (fun _ => ?_) (fun h => absurd h ?_); rotate_left; (focus (first | decide | (simp; done) | (simp [tcs]; done))); conv => whnf) | (refine And.intro (fun h => absurd h ?_) (fun _ => ?_); (focus (first | decide | (simp; done) | (simp [tcs]; done))); conv => whnf) | (intro _; conv => whnf))
    all_goals (first | rfl | exact ⟨rfl, rfl⟩ | exact ⟨rfl, rfl, rfl⟩)
/-- Add's error, and what it returns. -/
def addE (sig : List Dcl) (d : Dcl) : Int := match checkB sig with
  | false => 2
  | true => (match nameIn sig d.s with
    | true => 21
    | false => (match decide (100 ≤ sig.length) with | true => 5 | false => (match formedF sig d with | true => 0 | false => 2)))
def addL (sig : List Dcl) (d : Dcl) : List Dcl := match decide (addE sig d = 0) with | true => sig ++ [d] | false => []
end Go.Tr
/- renumbered, Chosen. -/
namespace Go.Tr
open Go.Proofs
theorem cMapRn (F : KV → Option Int) (g : Int → Int → Int → Int → Int × Int × Int) (ok : Term → Int → Prop) (hok : ∀ t i, ok t i → (0 ≤ i ∧ i ≤ 1000000000) ∧ ∀ (j : Nat) u, t.ts[j]? = some u → ok u (i + unT t.k j))
    (hf : ∀ t i, ok t i → CallSt Tryz.prog 58 ([.agg [.c (.int .i64 (t.k)), .c (.int .i64 (t.l)), .c (.int .i64 (t.n)), .nil], .c (.int .i64 (i))] ++ [.ptr 0 0]) [.box [.fn 37 [.ptr 1 0]], .box [.mpv 2], .mp false (.n F)]
      (fun r H' => r = .agg [.c (.int .i64 ((g t.k t.l t.n i).1)), .c (.int .i64 ((g t.k t.l t.n i).2.1)), .c (.int .i64 ((g t.k t.l t.n i).2.2)), .nil] ∧ H' = [.box [.fn 37 [.ptr 1 0]], .box [.mpv 2], .mp false (.n F)])) (t : Term) :
    ∀ (i : Int), ok t i → CallSt Tryz.prog 55 [tv t, .c (.int .i64 (i)), .fn 58 [.ptr 0 0]] [.box [.fn 37 [.ptr 1 0]], .box [.mpv 2], .mp false (.n F)]
      (fun r H' => r = tv (mapT g t i) ∧ H' = [.box [.fn 37 [.ptr 1 0]], .box [.mpv 2], .mp false (.n F)]) := by
  induction t using Term.ind with
  | _ t ih =>
  intro i hti
  have hff := hf t i hti
  obtain ⟨hib, hch⟩ := hok t i hti
  obtain ⟨k, l, n, ts⟩ := t
  replace ih : ∀ u, u ∈ ts → _ := ih
  rw [tv_mk]
  refine call_pure (E := envK 3) (fn := Tryz.f55) (c := bodyOf Tryz.f55) (envK_ok 3) mixed (by kernel_rfl) (by kernel_rfl) (by kernel_rfl) (by kernel_rfl) (by kernel_rfl) (by kernel_rfl) rfl ?_
  conv => whnf
  try (refine draw_intro true (by kernel_rfl) ?_; conv => whnf)
  refine CallSt.use hff [0, 1, 2] ⟨rfl, rfl, rfl, trivial⟩ (by decide) rfl ?_
  rintro _ _ ⟨rfl, rfl⟩ _
  conv => whnf
  simp only [Term.k, Term.l, Term.n]
  generalize hg : g k l n i = y
  obtain ⟨y1, y2, y3⟩ := y
  conv => whnf
  intro hlen
  replace hlen : (tcs ts).length * 48 ≤ 140737488355328 := hlen
  rw [len_tcs] at hlen
  conv => whnf
  refine loop_intro (fun m tm H => ∃ (j : Nat) (us : List Term), ts.length = m + j ∧ us.length = j ∧ us ++ mapL g k i j (ts.drop j) = mapL g k i 0 ts ∧
      tm = [(23, .c (.int .i64 (j))), (21, .c (.sl 4 48 (tcs ts))), (22, .c (.int .i64 ((tcs ts).length))), (1, .c (.int .i64 (i))), (2, .fn 58 [.ptr 0 0]), (3, .ptr 3 0), (6, .ptr 4 0), (7, .ptr 5 0)] ∧
      H = [.box [.fn 37 [.ptr 1 0]], .box [.mpv 2], .mp false (.n F), .box [.c (.int .i64 (k)), .c (.int .i64 (l)), .c (.int .i64 (n)), .c (.sl 4 48 (tcs ts))], .box [.c (.int .i64 (0)), .c (.int .i64 (0)), .c (.int .i64 (0)), .nil],
        .box [.c (.int .i64 (y1)), .c (.int .i64 (y2)), .c (.int .i64 (y3)), .own 6], .row 37 4 48 (tcs us)])
      ts.length _ _ ⟨0, [], by omega, rfl, rfl, rfl, rfl⟩ ?_ ?_
  · refine Wk.trans (H1 := [.box [.fn 37 [.ptr 1 0]], .box [.mpv 2], .mp false (.n F), .box [.c (.int .i64 (k)), .c (.int .i64 (l)), .c (.int .i64 (n)), .c (.sl 4 48 (tcs ts))], .box [.c (.int .i64 (0)), .c (.int .i64 (0)), .c (.int .i64 (0)), .nil],
        .box [.c (.int .i64 (y1)), .c (.int .i64 (y2)), .c (.int .i64 (y3)), .nil]]) ?_ (Wk.nilrow' 5 3 37 4 48 rfl rfl rfl rfl)
    exact Wk.sel [0, 1, 2, 3, 4, 5] (by decide) (by decide) (by decide) ⟨rfl, rfl, rfl, rfl, rfl, rfl, trivial⟩ ⟨rfl, rfl, rfl, rfl, rfl, rfl, rfl, rfl, trivial⟩ rfl
  rintro m tm H ⟨j, us, hj, hus, hR, rfl, rfl⟩
  conv => whnf
  refine ⟨fun hc => ?_, fun hc => ?_⟩
  · replace hc : (j : Int) < (tcs ts).length := of_decide_eq_true hc
    rw [len_tcs] at hc
    have hlt : j < ts.length := by omega
    obtain ⟨u, hu⟩ : ∃ u, ts[j]? = some u := ⟨ts[j], List.getElem?_eq_getElem hlt⟩
    have hm := List.mem_of_getElem? hu
    have huc := tcs_at ts j u hu
    have hcc := ih u hm (i + unT k j) (hch j u hu)
    have hun := c77 (.mk k l n ts) j
    have hub := unT_bd k j
    rw [drop_at hu, mapL] at hR
    obtain ⟨k', l', n', us'⟩ := u
    conv => whnf
    refine ⟨_, ⟨by omega, by simpa using huc⟩, ?_⟩
    conv => whnf
    refine ⟨Nat.le_refl 4, ?_⟩
    conv => whnf
    try (refine draw_intro true (by kernel_rfl) ?_; conv => whnf)
    refine CallSt.use hun [] trivial (by decide) rfl ?_
    rintro _ _ ⟨rfl, rfl⟩ _
    conv => whnf
    refine ⟨⟨by simp only [Term.k]; omega, by simp only [Term.k]; omega⟩, ?_⟩
    conv => whnf
    try (refine draw_intro true (by kernel_rfl) ?_; conv => whnf)
    refine CallSt.use hcc [0, 1, 2] ⟨rfl, rfl, rfl, trivial⟩ (by decide) rfl ?_
    rintro _ _ ⟨rfl, rfl⟩ _
    generalize hv : mapT g (.mk k' l' n' us') (i + unT k j) = v at *
    obtain ⟨k3, l3, n3, us3⟩ := v
    conv => whnf
    refine ⟨by decide, ?_⟩
    conv => whnf
    refine ⟨by decide, ?_⟩
    conv => whnf
    have hl1 : (tcs us).length = j := by rw [len_tcs, hus]
    have hl2 : ((tcs us).length + 1) * 48 ≤ 140737488355328 := by omega
    have hl3 : (tcs us).length + 1 ≤ 9223372036854775807 := by omega
    refine ⟨hl2, hl3, ?_⟩
    conv => whnf
    refine ⟨⟨by omega, by omega⟩, ?_⟩
    conv => whnf
    refine ⟨m - 1, _, _, by omega, ⟨j + 1, us ++ [.mk k3 l3 n3 us3], by omega, by simp [hus], ?_, rfl, rfl⟩, Wk.sel [0, 1, 2, 3, 4, 5, 9] (by decide) (by decide) (by decide) ⟨rfl, rfl, rfl, rfl, rfl, rfl, ?_, trivial⟩ ⟨rfl, rfl, rfl, rfl, rfl, rfl, rfl, rfl, trivial⟩ rfl⟩
    · rw [← hR, List.append_assoc]
      rfl
    · rw [← tcs_snoc]
      rfl
  · replace hc : ¬ (j : Int) < (tcs ts).length := of_decide_eq_false hc
    rw [len_tcs] at hc
    conv => whnf
    refine ⟨rfl, ?_⟩
    conv => whnf
    refine ⟨rfl, ?_⟩
    rw [List.drop_eq_nil_of_le (by omega), mapL, List.append_nil] at hR
    rw [mapT, hg, ← hR]
    exact ⟨rfl, rfl⟩
theorem cChosen1 (F : KV → Option Int) (n : Int) : CallSt Tryz.prog 37 [.c (.int .i64 (n)), .ptr 0 0] [.box [.mpv 1], .mp false (.n F)] (fun r H' => r = .c (.int .i64 ((F (.i n)).getD 0)) ∧ H' = [.box [.mpv 1], .mp false (.n F)]) := by
  refine call_pure (E := env 2) (fn := Tryz.f37) (c := bodyOf Tryz.f37) (env_ok 2) mixed (by kernel_rfl) (by kernel_rfl) (by kernel_rfl) (by kernel_rfl) (by kernel_rfl) (by kernel_rfl) rfl ?_
  conv => whnf
  repeat (first | (refine And.intro rfl ?_; conv => whnf) | (refine And.intro (by decide) ?_; conv => whnf) | (refine draw_intro true (by kernel_rfl) ?_; conv => whnf) | (refine And.intro ⟨by omega, by omega⟩ ?_; conv => whnf) | (refine And.intro (by omega) ?_; conv => whnf) | (refine And.intro (fun _ => ⟨by omega, by omega⟩) ?_; conv => whnf) | (refine And.intro (fun _ => ?_) (fun h => absurd h ?_); rotate_left; (focus (first | decide | (simp; done) | (simp [tcs]; done))); conv => whnf) | (refine And.intro (fun h => absurd h ?_) (fun _ => ?_); (focus (first | decide | (simp; done) | (simp [tcs]; done))); conv => whnf) | (intro _; conv => whnf))
  all_goals (first | rfl | exact ⟨rfl, rfl⟩ | exact ⟨rfl, rfl, rfl⟩)
/-- A node's new number. -/
def rnG (f : Int → Int) (k l n _i : Int) : Int × Int × Int := match decide (k = 4) && decide (l = 2) with | true => (k, l, f n) | false => (k, l, n)
def mget (F : KV → Option Int) (n : Int) : Int := (F (.i n)).getD 0
theorem cRenum1 (F : KV → Option Int) (k l n i : Int) : CallSt Tryz.prog 58 [.agg [.c (.int .i64 (k)), .c (.int .i64 (l)), .c (.int .i64 (n)), .nil], .c (.int .i64 (i)), .ptr 0 0] [.box [.fn 37 [.ptr 1 0]], .box [.mpv 2], .mp false (.n F)]
    (fun r H' => r = .agg [.c (.int .i64 ((rnG (mget F) k l n i).1)), .c (.int .i64 ((rnG (mget F) k l n i).2.1)), .c (.int .i64 ((rnG (mget F) k l n i).2.2)), .nil] ∧ H' = [.box [.fn 37 [.ptr 1 0]], .box [.mpv 2], .mp false (.n F)]) := by
  have hc := cChosen1 F n
  by_cases hg : k = 4 ∧ l = 2
  · obtain ⟨rfl, rfl⟩ := hg
    refine call_trim (E := env 3) (fn := Tryz.f58) (c := bodyOf Tryz.f58) (env_ok 3) mixed (by kernel_rfl) (by kernel_rfl) (by kernel_rfl) (by kernel_rfl) (by kernel_rfl) (by kernel_rfl) rfl ?_
    conv => whnf
    repeat (first | (refine And.intro rfl ?_; conv => whnf) | (refine And.intro (by decide) ?_; conv => whnf) | (refine draw_intro true (by kernel_rfl) ?_; conv => whnf) | (refine And.intro ⟨by omega, by omega⟩ ?_; conv => whnf) | (refine And.intro (by omega) ?_; conv => whnf) | (refine And.intro (fun _ => ⟨by omega, by omega⟩) ?_; conv => whnf) | (refine And.intro (fun _ => ?_) (fun h => absurd h ?_); rotate_left; (focus (first | decide | (simp; done) | (simp [tcs]; done))); conv => whnf) | (refine And.intro (fun h => absurd h ?_) (fun _ => ?_); (focus (first | decide | (simp; done) | (simp [tcs]; done))); conv => whnf) | (intro _; conv => whnf))
    try (refine draw_intro true (by kernel_rfl) ?_; conv => whnf)
    refine CallSt.use hc [1, 2] ⟨rfl, rfl, trivial⟩ (by decide) rfl ?_
    rintro _ _ ⟨rfl, rfl⟩ _
    conv => whnf
    repeat (first | (refine And.intro rfl ?_; conv => whnf) | (refine And.intro (by decide) ?_; conv => whnf) | (refine draw_intro true (by kernel_rfl) ?_; conv => whnf) | (refine And.intro ⟨by omega, by omega⟩ ?_; conv => whnf) | (refine And.intro (by omega) ?_; conv => whnf) | (refine And.intro (fun _ => ⟨by omega, by omega⟩) ?_; conv => whnf) | (refine And.intro (fun _ => ?_) (fun h => absurd h ?_); rotate_left; (focus (first | decide | (simp; done) | (simp [tcs]; done))); conv => whnf) | (refine And.intro (fun h => absurd h ?_) (fun _ => ?_); (focus (first | decide | (simp; done) | (simp [tcs]; done))); conv => whnf) | (intro _; conv => whnf))
    all_goals (first | rfl | exact ⟨rfl, rfl⟩ | exact ⟨rfl, rfl, rfl⟩)
  · have hb : (decide (k = 4) && decide (l = 2)) = false := by
      rw [Bool.and_eq_false_iff, decide_eq_false_iff_not, decide_eq_false_iff_not]
      omega
    rw [show rnG (mget F) k l n i = (k, l, n) by unfold rnG; rw [hb]]
    refine call_trim (E := env 3) (fn := Tryz.f58) (c := bodyOf Tryz.f58) (env_ok 3) mixed (by kernel_rfl) (by kernel_rfl) (by kernel_rfl) (by kernel_rfl) (by kernel_rfl) (by kernel_rfl) rfl ?_
    conv => whnf
    refine ⟨fun hc => ?_, fun hc => ?_⟩
    · exact absurd (hb.symm.trans hc) (by decide)
    · conv => whnf
      repeat (first | (refine And.intro rfl ?_; conv => whnf) | (refine And.intro (by decide) ?_; conv => whnf) | (refine draw_intro true (by kernel_rfl) ?_; conv => whnf) | (refine And.intro ⟨by omega, by omega⟩ ?_; conv => whnf) | (refine And.intro (by omega) ?_; conv => whnf) | (refine And.intro (fun _ => ⟨by omega, by omega⟩) ?_; conv => whnf) | (refine And.intro (fun _ => ?_) (fun h => absurd h ?_); rotate_left; (focus (first | decide | (simp; done) | (simp [tcs]; done))); conv => whnf) | (refine And.intro (fun h => absurd h ?_) (fun _ => ?_); (focus (first | decide | (simp; done) | (simp [tcs]; done))); conv => whnf) | (intro _; conv => whnf))
      all_goals (first | rfl | exact ⟨rfl, rfl⟩ | exact ⟨rfl, rfl, rfl⟩)
theorem cRenum (F : KV → Option Int) (t : Term) (hp : prop t = true) : CallSt Tryz.prog 36 [tv t, .fn 37 [.ptr 0 0]] [.box [.mpv 1], .mp false (.n F)]
    (fun r H' => r = tv (mapT (rnG (mget F)) t 0) ∧ H' = [.box [.mpv 1], .mp false (.n F)]) := by
  have hm := cMapRn F (rnG (mget F)) okT okT_step (fun t i _ => cRenum1 F t.k t.l t.n i) t 0 (prop_ok hp)
  generalize mapT (rnG (mget F)) t 0 = u at *
  clear hp
  obtain ⟨k, l, n, ts⟩ := t
  obtain ⟨k2, l2, n2, us⟩ := u
  rw [tv_mk] at *
  rw [tv_mk] at *
  refine call_pure (E := env 2) (fn := Tryz.f36) (c := bodyOf Tryz.f36) (env_ok 2) mixed (by kernel_rfl) (by kernel_rfl) (by kernel_rfl) (by kernel_rfl) (by kernel_rfl) (by kernel_rfl) rfl ?_
  conv => whnf
  try (refine draw_intro true (by kernel_rfl) ?_; conv => whnf)
  refine CallSt.use hm [3, 0, 1] ⟨rfl, rfl, rfl, trivial⟩ (by decide) rfl ?_
  rintro _ _ ⟨rfl, rfl⟩ _
  conv => whnf
  repeat (first | (refine And.intro rfl ?_; conv => whnf) | (refine And.intro (by decide) ?_; conv => whnf) | (refine draw_intro true (by kernel_rfl) ?_; conv => whnf) | (refine And.intro ⟨by omega, by omega⟩ ?_; conv => whnf) | (refine And.intro (by omega) ?_; conv => whnf) | (refine And.intro (fun _ => ⟨by omega, by omega⟩) ?_; conv => whnf) | (refine And.intro (fun _ => ?_) (fun h => absurd h ?_); rotate_left; (focus (first | decide | (simp; done) | (simp [tcs]; done))); conv => whnf) | (refine And.intro (fun h => absurd h ?_) (fun _ => ?_); (focus (first | decide | (simp; done) | (simp [tcs]; done))); conv => whnf) | (intro _; conv => whnf))
  all_goals (first | rfl | exact ⟨rfl, rfl⟩ | exact ⟨rfl, rfl, rfl⟩)
/-- The numbers that a list gives. -/
def chMap (l : List Int) : Nat → KV → Option Int
  | 0 => fun _ => none
  | j + 1 => match l[j]? with | some n => mput (chMap l j) (.i n) (j : Int) | none => chMap l j
/-- The constants of some positions. -/
def pickD (sig : List Dcl) (f : Int → Int) (n : Int) : Dcl := match sig[n.toNat]? with | some d => ⟨d.s, mapT (rnG f) d.c 0, d.i⟩ | none => ⟨⟨#[]⟩, zT, 0⟩
def chosenF (sig : List Dcl) (l : List Int) : List Dcl := l.map (pickD sig (mget (chMap l l.length)))
theorem cChosen (sig : List Dcl) (hp : ∀ e ∈ sig, prop e.c = true) (l : List Int) (hl : l.length ≤ 1000) (hi : ∀ n ∈ l, 0 ≤ n ∧ n < sig.length) :
    CallSt Tryz.prog 17 [.c (.sl 6 72 (dcs sig)), .c (.sl 1 8 (rowI l))] [] (fun r H' => r = .c (.sl 6 72 (dcs (chosenF sig l))) ∧ H' = []) := by
  have hbl := len_dcs sig
  have hrl := len_rowI l
  refine call_pure (E := env 0) (fn := Tryz.f17) (c := bodyOf Tryz.f17) (env_ok 0) mixed (by kernel_rfl) (by kernel_rfl) (by kernel_rfl) (by kernel_rfl) (by kernel_rfl) (by kernel_rfl) rfl ?_
  conv => whnf
  repeat (first | (refine And.intro rfl ?_; conv => whnf) | (refine And.intro (by decide) ?_; conv => whnf) | (refine draw_intro true (by kernel_rfl) ?_; conv => whnf) | (refine And.intro ⟨by omega, by omega⟩ ?_; conv => whnf) | (refine And.intro (by omega) ?_; conv => whnf) | (refine And.intro (fun _ => ⟨by omega, by omega⟩) ?_; conv => whnf) | (refine And.intro (fun _ => ?_) (fun h => absurd h ?_); rotate_left; (focus (first | decide | (simp; done) | (simp [tcs]; done))); conv => whnf) | (refine And.intro (fun h => absurd h ?_) (fun _ => ?_); (focus (first | decide | (simp; done) | (simp [tcs]; done))); conv => whnf) | (intro _; conv => whnf))
  refine loop_intro (fun m tm H => ∃ j : Nat, l.length = m + j ∧
    tm = [(15, .c (.int .i64 (j))), (14, .c (.int .i64 ((rowI l).length))), (13, .c (.sl 1 8 (rowI l))), (0, .c (.sl 6 72 (dcs sig))), (1, .c (.sl 1 8 (rowI l))), (5, .ptr 0 0)] ∧ H = [.box [.mpv 1], .mp false (.n (chMap l j))])
    l.length _ _ ⟨0, by omega, rfl, rfl⟩ (Wk.sel [1, 0] (by decide) (by decide) (by decide) ⟨rfl, rfl, trivial⟩ ⟨rfl, rfl, rfl, rfl, rfl, rfl, trivial⟩ rfl) ?_
  rintro m tm H ⟨j, hj, rfl, rfl⟩
  conv => whnf
  refine ⟨fun hlt => ?_, fun hlt => ?_⟩
  · replace hlt : (j : Int) < (rowI l).length := of_decide_eq_true hlt
    obtain ⟨n, hn⟩ : ∃ n, l[j]? = some n := ⟨l[j]'(by omega), List.getElem?_eq_getElem (by omega)⟩
    have hnr := rowI_at hn
    have hnx : chMap l (j + 1) = mput (chMap l j) (.i n) (j : Int) := by rw [chMap, hn]
    conv => whnf
    refine ⟨_, ⟨by omega, by simpa using hnr⟩, ?_⟩
    conv => whnf
    refine ⟨Nat.le_refl 1, ?_⟩
    conv => whnf
    repeat (first | (refine And.intro rfl ?_; conv => whnf) | (refine And.intro (by decide) ?_; conv => whnf) | (refine draw_intro true (by kernel_rfl) ?_; conv => whnf) | (refine And.intro ⟨by omega, by omega⟩ ?_; conv => whnf) | (refine And.intro (by omega) ?_; conv => whnf) | (refine And.intro (fun _ => ⟨by omega, by omega⟩) ?_; conv => whnf) | (refine And.intro (fun _ => ?_) (fun h => absurd h ?_); rotate_left; (focus (first | decide | (simp; done) | (simp [tcs]; done))); conv => whnf) | (refine And.intro (fun h => absurd h ?_) (fun _ => ?_); (focus (first | decide | (simp; done) | (simp [tcs]; done))); conv => whnf) | (intro _; conv => whnf))
    refine ⟨m - 1, _, _, by omega, ⟨j + 1, by omega, rfl, rfl⟩, Wk.sel [0, 1] (by decide) (by decide) (by decide) ⟨rfl, ?_, trivial⟩ ⟨rfl, rfl, rfl, rfl, rfl, rfl, trivial⟩ rfl⟩
    rw [hnx]
    rfl
  · replace hlt : ¬ (j : Int) < (rowI l).length := of_decide_eq_false hlt
    obtain rfl : j = l.length := by omega
    have hcf : chosenF sig l = (l.take l.length).map (pickD sig (mget (chMap l l.length))) := by rw [List.take_length]; rfl
    rw [hcf]
    generalize chMap l l.length = F at *
    clear hcf
    conv => whnf
    repeat (first | (refine And.intro rfl ?_; conv => whnf) | (refine And.intro (by decide) ?_; conv => whnf) | (refine draw_intro true (by kernel_rfl) ?_; conv => whnf) | (refine And.intro ⟨by omega, by omega⟩ ?_; conv => whnf) | (refine And.intro (by omega) ?_; conv => whnf) | (refine And.intro (fun _ => ⟨by omega, by omega⟩) ?_; conv => whnf) | (refine And.intro (fun _ => ?_) (fun h => absurd h ?_); rotate_left; (focus (first | decide | (simp; done) | (simp [tcs]; done))); conv => whnf) | (refine And.intro (fun h => absurd h ?_) (fun _ => ?_); (focus (first | decide | (simp; done) | (simp [tcs]; done))); conv => whnf) | (intro _; conv => whnf))
    refine loop_intro (fun m tm H => ∃ j : Nat, l.length = m + j ∧
      tm = [(26, .c (.int .i64 (j))), (25, .c (.int .i64 ((rowI l).length))), (24, .c (.sl 1 8 (rowI l))), (0, .c (.sl 6 72 (dcs sig))), (5, .ptr 0 0), (8, .own 2)] ∧
      H = [.box [.mpv 1], .mp false (.n F), .row 39 6 72 (dcs ((l.take j).map (pickD sig (mget F))))])
      l.length _ _ ⟨0, by omega, rfl, rfl⟩ ?_ ?_
    · refine Wk.trans (tm1 := [(26, .c (.int .i64 (0))), (25, .c (.int .i64 ((rowI l).length))), (24, .c (.sl 1 8 (rowI l))), (0, .c (.sl 6 72 (dcs sig))), (5, .ptr 0 0), (8, .nil)]) (H1 := [.box [.mpv 1], .mp false (.n F)]) ?_ (Wk.trans (Wk.niltmp 8 39 6 72 rfl rfl) ?_)
      · exact Wk.sel [0, 1] (by decide) (by decide) (by decide) ⟨rfl, rfl, trivial⟩ ⟨rfl, rfl, rfl, rfl, rfl, rfl, trivial⟩ rfl
      · exact Wk.sel [0, 1, 2] (by decide) (by decide) (by decide) ⟨rfl, rfl, rfl, trivial⟩ ⟨rfl, rfl, rfl, rfl, rfl, rfl, trivial⟩ rfl
    rintro m2 tm H ⟨j, hj, rfl, rfl⟩
    conv => whnf
    refine ⟨fun hlt => ?_, fun hlt => ?_⟩
    · replace hlt : (j : Int) < (rowI l).length := of_decide_eq_true hlt
      obtain ⟨n, hn⟩ : ∃ n, l[j]? = some n := ⟨l[j]'(by omega), List.getElem?_eq_getElem (by omega)⟩
      have hnr := rowI_at hn
      have hin := hi n (List.mem_of_getElem? hn)
      obtain ⟨q, e, rfl, hq, he⟩ := get_nat hin
      have hec := dcs_at he
      have hcr := cRenum F e.c (hp e (List.mem_of_getElem? he))
      have hpk : pickD sig (mget F) q = ⟨e.s, mapT (rnG (mget F)) e.c 0, e.i⟩ := by unfold pickD; rw [Int.toNat_natCast, he]
      have htk : (l.take (j + 1)).map (pickD sig (mget F)) = (l.take j).map (pickD sig (mget F)) ++ [⟨e.s, mapT (rnG (mget F)) e.c 0, e.i⟩] := by
        rw [List.take_add_one, hn, List.map_append]
        simp [hpk]
      have hml := len_dcs ((l.take j).map (pickD sig (mget F)))
      have hul : ((l.take j).map (pickD sig (mget F))).length ≤ j := by simp; omega
      have hl2 : ((dcs ((l.take j).map (pickD sig (mget F)))).length + 1) * 72 ≤ 140737488355328 := by omega
      have hl3 : (dcs ((l.take j).map (pickD sig (mget F)))).length + 1 ≤ 9223372036854775807 := by omega
      generalize mapT (rnG (mget F)) e.c 0 = u at *
      obtain ⟨s', ⟨k', l', n', us⟩, i'⟩ := e
      obtain ⟨k2, l2, n2, us2⟩ := u
      rw [tv_mk] at hcr
      rw [tv_mk] at hcr
      conv => whnf
      refine ⟨_, ⟨by omega, by simpa using hnr⟩, ?_⟩
      conv => whnf
      refine ⟨Nat.le_refl 1, ?_⟩
      conv => whnf
      refine ⟨_, ⟨by omega, by simpa using hec⟩, ?_⟩
      conv => whnf
      refine ⟨show 6 ≤ 6 by decide, ?_⟩
      conv => whnf
      try (refine draw_intro true (by kernel_rfl) ?_; conv => whnf)
      refine CallSt.use hcr [0, 1] ⟨rfl, rfl, trivial⟩ (by decide) rfl ?_
      rintro _ _ ⟨rfl, rfl⟩ _
      conv => whnf
      repeat (first | (refine And.intro rfl ?_; conv => whnf) | (refine And.intro (by decide) ?_; conv => whnf) | (refine draw_intro true (by kernel_rfl) ?_; conv => whnf) | (refine And.intro ⟨by omega, by omega⟩ ?_; conv => whnf) | (refine And.intro (by omega) ?_; conv => whnf) | (refine And.intro (fun _ => ⟨by omega, by omega⟩) ?_; conv => whnf) | (refine And.intro (fun _ => ?_) (fun h => absurd h ?_); rotate_left; (focus (first | decide | (simp; done) | (simp [tcs]; done))); conv => whnf) | (refine And.intro (fun h => absurd h ?_) (fun _ => ?_); (focus (first | decide | (simp; done) | (simp [tcs]; done))); conv => whnf) | (intro _; conv => whnf))
      refine ⟨m2 - 1, _, _, by omega, ⟨j + 1, by omega, rfl, rfl⟩, Wk.sel [0, 1, 5] (by decide) (by decide) (by decide) ⟨rfl, rfl, ?_, trivial⟩ ⟨rfl, rfl, rfl, rfl, rfl, rfl, trivial⟩ rfl⟩
      rw [htk, ← dcs_snoc]
      rfl
    · replace hlt : ¬ (j : Int) < (rowI l).length := of_decide_eq_false hlt
      obtain rfl : j = l.length := by omega
      conv => whnf
      repeat (first | (refine And.intro rfl ?_; conv => whnf) | (refine And.intro (by decide) ?_; conv => whnf) | (refine draw_intro true (by kernel_rfl) ?_; conv => whnf) | (refine And.intro ⟨by omega, by omega⟩ ?_; conv => whnf) | (refine And.intro (by omega) ?_; conv => whnf) | (refine And.intro (fun _ => ⟨by omega, by omega⟩) ?_; conv => whnf) | (refine And.intro (fun _ => ?_) (fun h => absurd h ?_); rotate_left; (focus (first | decide | (simp; done) | (simp [tcs]; done))); conv => whnf) | (refine And.intro (fun h => absurd h ?_) (fun _ => ?_); (focus (first | decide | (simp; done) | (simp [tcs]; done))); conv => whnf) | (intro _; conv => whnf))
      all_goals (first | rfl | exact ⟨rfl, rfl⟩ | exact ⟨rfl, rfl, rfl⟩)
end Go.Tr
/- Swap. -/
namespace Go.Tr
open Go.Proofs
theorem rowI_set (l : List Int) (i : Nat) (x : Int) : (rowI l).set i [.int .i64 x] = rowI (l.set i x) := by simp [rowI, List.map_set]
/-- The numbers below one. -/
def nums (n : Nat) : List Int := (List.range n).map fun i : Nat => (i : Int)
theorem nums_succ (n : Nat) : nums (n + 1) = nums n ++ [(n : Int)] := by simp [nums, List.range_succ]
theorem nums_len (n : Nat) : (nums n).length = n := by simp [nums]
theorem nums_at {n i : Nat} (h : i < n) : (nums n)[i]? = some (i : Int) := by simp [nums, h]
theorem nums_mem {n : Nat} {x : Int} : x ∈ nums n ↔ 0 ≤ x ∧ x < n := by
  unfold nums
  rw [List.mem_map]
  constructor
  · rintro ⟨i, hi, rfl⟩
    have := List.mem_range.1 hi
    omega
  · rintro ⟨h1, h2⟩
    exact ⟨x.toNat, List.mem_range.2 (by omega), by omega⟩
def swL (len n : Nat) : List Int := ((nums len).set n ((n : Int) + 1)).set (n + 1) (n : Int)
theorem swL_len (len n : Nat) : (swL len n).length = len := by simp [swL, nums_len]
theorem swL_mem {len n : Nat} (h : n + 1 < len) : ∀ x ∈ swL len n, 0 ≤ x ∧ x < len := by
  intro x hx
  unfold swL at hx
  rcases List.mem_or_eq_of_mem_set hx with hx | rfl
  · rcases List.mem_or_eq_of_mem_set hx with hx | rfl
    · exact nums_mem.1 hx
    · omega
  · omega
def swapE (sig : List Dcl) (n : Int) : Int := match decide (hasE sig n = 0) with
  | false => hasE sig n
  | true => (match decide ((sig.length : Int) ≤ n + 1) with
    | true => 6
    | false => (match (match sig[n.toNat + 1]? with | some d => usesT n d.c | none => false) with | true => 27 | false => 0))
def swapF (sig : List Dcl) (n : Int) : List Dcl := match decide (swapE sig n = 0) with | true => chosenF sig (swL sig.length n.toNat) | false => []
theorem cSwap (sig : List Dcl) (n : Int) : CallSt Tryz.prog 5 [.c (.sl 6 72 (dcs sig)), .c (.int .i64 (n))] [] (fun r H' => r = .tup [.c (.sl 6 72 (dcs (swapF sig n))), .c (.int .i64 (swapE sig n))] ∧ H' = []) := by
  have hh := cHas sig n
  have hbl := len_dcs sig
  rcases hasE_cases sig n with ⟨he, _⟩ | ⟨he, _⟩ | ⟨he, hc, hn⟩
  · rw [show swapF sig n = [] by simp [swapF, swapE, he], show swapE sig n = 2 by simp [swapE, he]]
    rw [he] at hh
    refine call_pure (E := env 0) (fn := Tryz.f5) (c := bodyOf Tryz.f5) (env_ok 0) mixed (by kernel_rfl) (by kernel_rfl) (by kernel_rfl) (by kernel_rfl) (by kernel_rfl) (by kernel_rfl) rfl ?_
    conv => whnf
    try (refine draw_intro true (by kernel_rfl) ?_; conv => whnf)
    refine CallSt.use hh [] trivial (by decide) rfl ?_
    rintro _ _ ⟨rfl, rfl⟩ _
    conv => whnf
    repeat (first | (refine And.intro rfl ?_; conv => whnf) | (refine And.intro (by decide) ?_; conv => whnf) | (refine draw_intro true (by kernel_rfl) ?_; conv => whnf) | (refine And.intro ⟨by omega, by omega⟩ ?_; conv => whnf) | (refine And.intro (by omega) ?_; conv => whnf) | (refine And.intro (fun _ => ⟨by omega, by omega⟩) ?_; conv => whnf) | (refine And.intro (fun _ => ?_) (fun h => absurd h ?_); rotate_left; (focus (first | decide | (simp; done) | (simp [tcs]; done))); conv => whnf) | (refine And.intro (fun h => absurd h ?_) (fun _ => ?_); (focus (first | decide | (simp; done) | (simp [tcs]; done))); conv => whnf) | (intro _; conv => whnf))
    all_goals (first | rfl | exact ⟨rfl, rfl⟩ | exact ⟨rfl, rfl, rfl⟩)
  · rw [show swapF sig n = [] by simp [swapF, swapE, he], show swapE sig n = 6 by simp [swapE, he]]
    rw [he] at hh
    refine call_pure (E := env 0) (fn := Tryz.f5) (c := bodyOf Tryz.f5) (env_ok 0) mixed (by kernel_rfl) (by kernel_rfl) (by kernel_rfl) (by kernel_rfl) (by kernel_rfl) (by kernel_rfl) rfl ?_
    conv => whnf
    try (refine draw_intro true (by kernel_rfl) ?_; conv => whnf)
    refine CallSt.use hh [] trivial (by decide) rfl ?_
    rintro _ _ ⟨rfl, rfl⟩ _
    conv => whnf
    repeat (first | (refine And.intro rfl ?_; conv => whnf) | (refine And.intro (by decide) ?_; conv => whnf) | (refine draw_intro true (by kernel_rfl) ?_; conv => whnf) | (refine And.intro ⟨by omega, by omega⟩ ?_; conv => whnf) | (refine And.intro (by omega) ?_; conv => whnf) | (refine And.intro (fun _ => ⟨by omega, by omega⟩) ?_; conv => whnf) | (refine And.intro (fun _ => ?_) (fun h => absurd h ?_); rotate_left; (focus (first | decide | (simp; done) | (simp [tcs]; done))); conv => whnf) | (refine And.intro (fun h => absurd h ?_) (fun _ => ?_); (focus (first | decide | (simp; done) | (simp [tcs]; done))); conv => whnf) | (intro _; conv => whnf))
    all_goals (first | rfl | exact ⟨rfl, rfl⟩ | exact ⟨rfl, rfl, rfl⟩)
  · obtain ⟨q, d, rfl, hq, hd⟩ := get_nat hn
    have hsl := check_len hc
    rw [he] at hh
    by_cases hq1 : q + 1 < sig.length
    · obtain ⟨e, hee⟩ : ∃ e, sig[q + 1]? = some e := ⟨sig[q + 1]'hq1, List.getElem?_eq_getElem hq1⟩
      have hus := cUses e.c q (check_prop hc e (List.mem_of_getElem? hee))
      have hec : (dcs sig)[((q : Int) + 1).toNat]? = some (dc e) := by
        rw [show ((q : Int) + 1).toNat = q + 1 by omega]
        exact dcs_at hee
      have hE : swapE sig q = match usesT q e.c with | true => 27 | false => 0 := by
        unfold swapE
        rw [he, Int.toNat_natCast, hee, decide_eq_false (show ¬ ((sig.length : Int) ≤ (q : Int) + 1) by omega)]
        rfl
      cases hu : usesT q e.c with
      | true =>
        rw [hu] at hE
        rw [show swapF sig q = [] by simp [swapF, hE], hE]
        rw [hu] at hus
        clear hu hE
        obtain ⟨s', ⟨k', l', n', us⟩, i'⟩ := e
        rw [tv_mk] at hus
        refine call_pure (E := env 0) (fn := Tryz.f5) (c := bodyOf Tryz.f5) (env_ok 0) mixed (by kernel_rfl) (by kernel_rfl) (by kernel_rfl) (by kernel_rfl) (by kernel_rfl) (by kernel_rfl) rfl ?_
        conv => whnf
        try (refine draw_intro true (by kernel_rfl) ?_; conv => whnf)
        refine CallSt.use hh [] trivial (by decide) rfl ?_
        rintro _ _ ⟨rfl, rfl⟩ _
        conv => whnf
        repeat (first | (refine And.intro rfl ?_; conv => whnf) | (refine And.intro (by decide) ?_; conv => whnf) | (refine draw_intro true (by kernel_rfl) ?_; conv => whnf) | (refine And.intro ⟨by omega, by omega⟩ ?_; conv => whnf) | (refine And.intro (by omega) ?_; conv => whnf) | (refine And.intro (fun _ => ⟨by omega, by omega⟩) ?_; conv => whnf) | (refine And.intro (fun _ => ?_) (fun h => absurd h ?_); rotate_left; (focus (first | decide | (simp; done) | (simp [tcs]; done))); conv => whnf) | (refine And.intro (fun h => absurd h ?_) (fun _ => ?_); (focus (first | decide | (simp; done) | (simp [tcs]; done))); conv => whnf) | (intro _; conv => whnf))
        (refine ⟨fun h => absurd (of_decide_eq_true h) (by omega), fun _ => ?_⟩; conv => whnf)
        repeat (first | (refine And.intro rfl ?_; conv => whnf) | (refine And.intro (by decide) ?_; conv => whnf) | (refine draw_intro true (by kernel_rfl) ?_; conv => whnf) | (refine And.intro ⟨by omega, by omega⟩ ?_; conv => whnf) | (refine And.intro (by omega) ?_; conv => whnf) | (refine And.intro (fun _ => ⟨by omega, by omega⟩) ?_; conv => whnf) | (refine And.intro (fun _ => ?_) (fun h => absurd h ?_); rotate_left; (focus (first | decide | (simp; done) | (simp [tcs]; done))); conv => whnf) | (refine And.intro (fun h => absurd h ?_) (fun _ => ?_); (focus (first | decide | (simp; done) | (simp [tcs]; done))); conv => whnf) | (intro _; conv => whnf))
        refine ⟨_, ⟨by omega, hec⟩, ?_⟩
        conv => whnf
        refine ⟨show 4 ≤ 5 by decide, ?_⟩
        conv => whnf
        try (refine draw_intro true (by kernel_rfl) ?_; conv => whnf)
        refine CallSt.use hus [] trivial (by decide) rfl ?_
        rintro _ _ ⟨rfl, rfl⟩ _
        conv => whnf
        repeat (first | (refine And.intro rfl ?_; conv => whnf) | (refine And.intro (by decide) ?_; conv => whnf) | (refine draw_intro true (by kernel_rfl) ?_; conv => whnf) | (refine And.intro ⟨by omega, by omega⟩ ?_; conv => whnf) | (refine And.intro (by omega) ?_; conv => whnf) | (refine And.intro (fun _ => ⟨by omega, by omega⟩) ?_; conv => whnf) | (refine And.intro (fun _ => ?_) (fun h => absurd h ?_); rotate_left; (focus (first | decide | (simp; done) | (simp [tcs]; done))); conv => whnf) | (refine And.intro (fun h => absurd h ?_) (fun _ => ?_); (focus (first | decide | (simp; done) | (simp [tcs]; done))); conv => whnf) | (intro _; conv => whnf))
        all_goals (first | rfl | exact ⟨rfl, rfl⟩ | exact ⟨rfl, rfl, rfl⟩)
      | false =>
        rw [hu] at hE
        have hF : swapF sig q = chosenF sig (swL sig.length q) := by simp [swapF, hE]
        rw [hF, hE]
        rw [hu] at hus
        clear hu hE hF
        have hch := cChosen sig (check_prop hc) (swL sig.length q) (by rw [swL_len]; omega) (swL_mem hq1)
        have h1 : (rowI (nums sig.length))[q]? = some [.int .i64 q] := rowI_at (nums_at hq)
        have h2 : ((rowI (nums sig.length)).set q [.int .i64 ((q : Int) + 1)])[((q : Int) + 1).toNat]? = some [.int .i64 ((q : Int) + 1)] := by
          rw [show ((q : Int) + 1).toNat = q + 1 by omega, rowI_set]
          refine rowI_at ?_
          rw [List.getElem?_set_ne (by omega)]
          exact nums_at hq1
        have h3 : ((rowI (nums sig.length)).set q [.int .i64 ((q : Int) + 1)]).set ((q : Int) + 1).toNat [.int .i64 q] = rowI (swL sig.length q) := by
          rw [show ((q : Int) + 1).toNat = q + 1 by omega, rowI_set, rowI_set]
          rfl
        have hnl := len_rowI (nums sig.length)
        have hnl2 := nums_len sig.length
        obtain ⟨s', ⟨k', l', n', us⟩, i'⟩ := e
        rw [tv_mk] at hus
        generalize chosenF sig (swL sig.length q) = X at *
        rw [← h3] at hch
        refine call_pure (E := env 0) (fn := Tryz.f5) (c := bodyOf Tryz.f5) (env_ok 0) mixed (by kernel_rfl) (by kernel_rfl) (by kernel_rfl) (by kernel_rfl) (by kernel_rfl) (by kernel_rfl) rfl ?_
        conv => whnf
        try (refine draw_intro true (by kernel_rfl) ?_; conv => whnf)
        refine CallSt.use hh [] trivial (by decide) rfl ?_
        rintro _ _ ⟨rfl, rfl⟩ _
        conv => whnf
        repeat (first | (refine And.intro rfl ?_; conv => whnf) | (refine And.intro (by decide) ?_; conv => whnf) | (refine draw_intro true (by kernel_rfl) ?_; conv => whnf) | (refine And.intro ⟨by omega, by omega⟩ ?_; conv => whnf) | (refine And.intro (by omega) ?_; conv => whnf) | (refine And.intro (fun _ => ⟨by omega, by omega⟩) ?_; conv => whnf) | (refine And.intro (fun _ => ?_) (fun h => absurd h ?_); rotate_left; (focus (first | decide | (simp; done) | (simp [tcs]; done))); conv => whnf) | (refine And.intro (fun h => absurd h ?_) (fun _ => ?_); (focus (first | decide | (simp; done) | (simp [tcs]; done))); conv => whnf) | (intro _; conv => whnf))
        (refine ⟨fun h => absurd (of_decide_eq_true h) (by omega), fun _ => ?_⟩; conv => whnf)
        repeat (first | (refine And.intro rfl ?_; conv => whnf) | (refine And.intro (by decide) ?_; conv => whnf) | (refine draw_intro true (by kernel_rfl) ?_; conv => whnf) | (refine And.intro ⟨by omega, by omega⟩ ?_; conv => whnf) | (refine And.intro (by omega) ?_; conv => whnf) | (refine And.intro (fun _ => ⟨by omega, by omega⟩) ?_; conv => whnf) | (refine And.intro (fun _ => ?_) (fun h => absurd h ?_); rotate_left; (focus (first | decide | (simp; done) | (simp [tcs]; done))); conv => whnf) | (refine And.intro (fun h => absurd h ?_) (fun _ => ?_); (focus (first | decide | (simp; done) | (simp [tcs]; done))); conv => whnf) | (intro _; conv => whnf))
        refine ⟨_, ⟨by omega, hec⟩, ?_⟩
        conv => whnf
        refine ⟨show 4 ≤ 5 by decide, ?_⟩
        conv => whnf
        try (refine draw_intro true (by kernel_rfl) ?_; conv => whnf)
        refine CallSt.use hus [] trivial (by decide) rfl ?_
        rintro _ _ ⟨rfl, rfl⟩ _
        conv => whnf
        repeat (first | (refine And.intro rfl ?_; conv => whnf) | (refine And.intro (by decide) ?_; conv => whnf) | (refine draw_intro true (by kernel_rfl) ?_; conv => whnf) | (refine And.intro ⟨by omega, by omega⟩ ?_; conv => whnf) | (refine And.intro (by omega) ?_; conv => whnf) | (refine And.intro (fun _ => ⟨by omega, by omega⟩) ?_; conv => whnf) | (refine And.intro (fun _ => ?_) (fun h => absurd h ?_); rotate_left; (focus (first | decide | (simp; done) | (simp [tcs]; done))); conv => whnf) | (refine And.intro (fun h => absurd h ?_) (fun _ => ?_); (focus (first | decide | (simp; done) | (simp [tcs]; done))); conv => whnf) | (intro _; conv => whnf))
        refine loop_intro (fun m tm H => ∃ j : Nat, sig.length = m + j ∧
          tm = [(32, .c (.int .i64 (j))), (31, .c (.int .i64 ((dcs sig).length))), (0, .c (.sl 6 72 (dcs sig))), (1, .c (.int .i64 (q))), (7, .own 0)] ∧ H = [.row 3 1 8 (rowI (nums j))])
          sig.length _ _ ⟨0, by omega, rfl, rfl⟩ ?_ ?_
        · refine Wk.trans (tm1 := [(32, .c (.int .i64 (0))), (31, .c (.int .i64 ((dcs sig).length))), (0, .c (.sl 6 72 (dcs sig))), (1, .c (.int .i64 (q))), (7, .nil)]) (H1 := []) ?_ (Wk.trans (Wk.niltmp 7 3 1 8 rfl rfl) ?_)
          · exact Wk.sel [] (by decide) (by decide) (by decide) trivial ⟨rfl, rfl, rfl, rfl, rfl, trivial⟩ rfl
          · exact Wk.sel [0] (by decide) (by decide) (by decide) ⟨rfl, trivial⟩ ⟨rfl, rfl, rfl, rfl, rfl, trivial⟩ rfl
        rintro m tm H ⟨j, hj, rfl, rfl⟩
        conv => whnf
        refine ⟨fun hlt => ?_, fun hlt => ?_⟩
        · replace hlt : (j : Int) < (dcs sig).length := of_decide_eq_true hlt
          have hrl := len_rowI (nums j)
          have hnj := nums_len j
          have hl2 : ((rowI (nums j)).length + 1) * 8 ≤ 140737488355328 := by omega
          have hl3 : (rowI (nums j)).length + 1 ≤ 9223372036854775807 := by omega
          conv => whnf
          refine ⟨by decide, ?_⟩
          conv => whnf
          refine ⟨by decide, ?_⟩
          conv => whnf
          refine ⟨hl2, hl3, ?_⟩
          conv => whnf
          refine ⟨⟨by omega, by omega⟩, ?_⟩
          conv => whnf
          refine ⟨m - 1, _, _, by omega, ⟨j + 1, by omega, rfl, rfl⟩, Wk.sel [2] (by decide) (by decide) (by decide) ⟨?_, trivial⟩ ⟨rfl, rfl, rfl, rfl, rfl, trivial⟩ rfl⟩
          rw [nums_succ, ← rowI_snoc]
          rfl
        · replace hlt : ¬ (j : Int) < (dcs sig).length := of_decide_eq_false hlt
          obtain rfl : j = sig.length := by omega
          conv => whnf
          repeat (first | (refine And.intro rfl ?_; conv => whnf) | (refine And.intro (by decide) ?_; conv => whnf) | (refine draw_intro true (by kernel_rfl) ?_; conv => whnf) | (refine And.intro ⟨by omega, by omega⟩ ?_; conv => whnf) | (refine And.intro (by omega) ?_; conv => whnf) | (refine And.intro (fun _ => ⟨by omega, by omega⟩) ?_; conv => whnf) | (refine And.intro (fun _ => ?_) (fun h => absurd h ?_); rotate_left; (focus (first | decide | (simp; done) | (simp [tcs]; done))); conv => whnf) | (refine And.intro (fun h => absurd h ?_) (fun _ => ?_); (focus (first | decide | (simp; done) | (simp [tcs]; done))); conv => whnf) | (intro _; conv => whnf))
          refine ⟨[.int .i64 q], by simpa using h1, Nat.le_refl 1, ?_⟩
          conv => whnf
          refine ⟨⟨by omega, by rw [List.length_set]; omega⟩, ?_⟩
          conv => whnf
          refine ⟨[.int .i64 ((q : Int) + 1)], h2, Nat.le_refl 1, ?_⟩
          conv => whnf
          try (refine draw_intro true (by kernel_rfl) ?_; conv => whnf)
          refine CallSt.use hch [] trivial (by decide) rfl ?_
          rintro _ _ ⟨rfl, rfl⟩ _
          conv => whnf
          repeat (first | (refine And.intro rfl ?_; conv => whnf) | (refine And.intro (by decide) ?_; conv => whnf) | (refine draw_intro true (by kernel_rfl) ?_; conv => whnf) | (refine And.intro ⟨by omega, by omega⟩ ?_; conv => whnf) | (refine And.intro (by omega) ?_; conv => whnf) | (refine And.intro (fun _ => ⟨by omega, by omega⟩) ?_; conv => whnf) | (refine And.intro (fun _ => ?_) (fun h => absurd h ?_); rotate_left; (focus (first | decide | (simp; done) | (simp [tcs]; done))); conv => whnf) | (refine And.intro (fun h => absurd h ?_) (fun _ => ?_); (focus (first | decide | (simp; done) | (simp [tcs]; done))); conv => whnf) | (intro _; conv => whnf))
          all_goals (first | rfl | exact ⟨rfl, rfl⟩ | exact ⟨rfl, rfl, rfl⟩)
    · have hE : swapE sig q = 6 := by
        unfold swapE
        rw [he, decide_eq_true (show ((sig.length : Int) ≤ (q : Int) + 1) by omega)]
        rfl
      rw [show swapF sig q = [] by simp [swapF, hE], hE]
      refine call_pure (E := env 0) (fn := Tryz.f5) (c := bodyOf Tryz.f5) (env_ok 0) mixed (by kernel_rfl) (by kernel_rfl) (by kernel_rfl) (by kernel_rfl) (by kernel_rfl) (by kernel_rfl) rfl ?_
      conv => whnf
      try (refine draw_intro true (by kernel_rfl) ?_; conv => whnf)
      refine CallSt.use hh [] trivial (by decide) rfl ?_
      rintro _ _ ⟨rfl, rfl⟩ _
      conv => whnf
      repeat (first | (refine And.intro rfl ?_; conv => whnf) | (refine And.intro (by decide) ?_; conv => whnf) | (refine draw_intro true (by kernel_rfl) ?_; conv => whnf) | (refine And.intro ⟨by omega, by omega⟩ ?_; conv => whnf) | (refine And.intro (by omega) ?_; conv => whnf) | (refine And.intro (fun _ => ⟨by omega, by omega⟩) ?_; conv => whnf) | (refine And.intro (fun _ => ?_) (fun h => absurd h ?_); rotate_left; (focus (first | decide | (simp; done) | (simp [tcs]; done))); conv => whnf) | (refine And.intro (fun h => absurd h ?_) (fun _ => ?_); (focus (first | decide | (simp; done) | (simp [tcs]; done))); conv => whnf) | (intro _; conv => whnf))
      (refine ⟨fun _ => ?_, fun h => absurd (of_decide_eq_false h) (by omega)⟩; conv => whnf)
      repeat (first | (refine And.intro rfl ?_; conv => whnf) | (refine And.intro (by decide) ?_; conv => whnf) | (refine draw_intro true (by kernel_rfl) ?_; conv => whnf) | (refine And.intro ⟨by omega, by omega⟩ ?_; conv => whnf) | (refine And.intro (by omega) ?_; conv => whnf) | (refine And.intro (fun _ => ⟨by omega, by omega⟩) ?_; conv => whnf) | (refine And.intro (fun _ => ?_) (fun h => absurd h ?_); rotate_left; (focus (first | decide | (simp; done) | (simp [tcs]; done))); conv => whnf) | (refine And.intro (fun h => absurd h ?_) (fun _ => ?_); (focus (first | decide | (simp; done) | (simp [tcs]; done))); conv => whnf) | (intro _; conv => whnf))
      all_goals (first | rfl | exact ⟨rfl, rfl⟩ | exact ⟨rfl, rfl, rfl⟩)
end Go.Tr
/- Without, Rename. -/
namespace Go.Tr
open Go.Proofs
/-- The first numbers are there. -/
def lfMap : Nat → KV → Option Bool
  | 0 => fun _ => none
  | j + 1 => mput (lfMap j) (.i (j : Int)) true
theorem lfMap_at : ∀ {m j : Nat}, j < m → lfMap m (.i (j : Int)) = some true
  | m + 1, j, h => by
    rw [lfMap]
    unfold mput
    by_cases e : j = m
    · subst e; rw [if_pos rfl]
    · rw [if_neg (by intro h2; injection h2 with h2; omega)]
      exact lfMap_at (by omega)
def useAny (sig : List Dcl) (n : Int) : Bool := sig.any fun d => usesT n d.c
def withoutE (sig : List Dcl) (n : Int) : Int := match decide (hasE sig n = 0) with
  | false => hasE sig n
  | true => (match useAny sig n with | true => 27 | false => 0)
def woL (len : Nat) (n : Int) : List Int := upTo (fun j => !decide ((j : Int) = n)) len
def withoutF (sig : List Dcl) (n : Int) : List Dcl := match decide (withoutE sig n = 0) with | true => chosenF sig (woL sig.length n) | false => []
theorem upTo_mem {p : Nat → Bool} {j : Nat} {x : Int} : x ∈ upTo p j ↔ ∃ i : Nat, x = i ∧ i < j ∧ p i = true := by
  unfold upTo
  simp only [List.mem_map, List.mem_filter, List.mem_range]
  constructor
  · rintro ⟨i, ⟨h1, h2⟩, rfl⟩
    exact ⟨i, rfl, h1, h2⟩
  · rintro ⟨i, rfl, h1, h2⟩
    exact ⟨i, ⟨h1, h2⟩, rfl⟩
theorem cWithout (sig : List Dcl) (n : Int) : CallSt Tryz.prog 6 [.c (.sl 6 72 (dcs sig)), .c (.int .i64 (n))] [] (fun r H' => r = .tup [.c (.sl 6 72 (dcs (withoutF sig n))), .c (.int .i64 (withoutE sig n))] ∧ H' = []) := by
  have hh := cHas sig n
  have hbl := len_dcs sig
  rcases hasE_cases sig n with ⟨he, _⟩ | ⟨he, _⟩ | ⟨he, hc, hn⟩
  · rw [show withoutF sig n = [] by simp [withoutF, withoutE, he], show withoutE sig n = 2 by simp [withoutE, he]]
    rw [he] at hh
    refine call_pure (E := env 0) (fn := Tryz.f6) (c := bodyOf Tryz.f6) (env_ok 0) mixed (by kernel_rfl) (by kernel_rfl) (by kernel_rfl) (by kernel_rfl) (by kernel_rfl) (by kernel_rfl) rfl ?_
    conv => whnf
    try (refine draw_intro true (by kernel_rfl) ?_; conv => whnf)
    refine CallSt.use hh [] trivial (by decide) rfl ?_
    rintro _ _ ⟨rfl, rfl⟩ _
    conv => whnf
    repeat (first | (refine And.intro rfl ?_; conv => whnf) | (refine And.intro (by decide) ?_; conv => whnf) | (refine draw_intro true (by kernel_rfl) ?_; conv => whnf) | (refine And.intro ⟨by omega, by omega⟩ ?_; conv => whnf) | (refine And.intro (by omega) ?_; conv => whnf) | (refine And.intro (fun _ => ⟨by omega, by omega⟩) ?_; conv => whnf) | (refine And.intro (fun _ => ?_) (fun h => absurd h ?_); rotate_left; (focus (first | decide | (simp; done) | (simp [tcs]; done))); conv => whnf) | (refine And.intro (fun h => absurd h ?_) (fun _ => ?_); (focus (first | decide | (simp; done) | (simp [tcs]; done))); conv => whnf) | (intro _; conv => whnf))
    all_goals (first | rfl | exact ⟨rfl, rfl⟩ | exact ⟨rfl, rfl, rfl⟩)
  · rw [show withoutF sig n = [] by simp [withoutF, withoutE, he], show withoutE sig n = 6 by simp [withoutE, he]]
    rw [he] at hh
    refine call_pure (E := env 0) (fn := Tryz.f6) (c := bodyOf Tryz.f6) (env_ok 0) mixed (by kernel_rfl) (by kernel_rfl) (by kernel_rfl) (by kernel_rfl) (by kernel_rfl) (by kernel_rfl) rfl ?_
    conv => whnf
    try (refine draw_intro true (by kernel_rfl) ?_; conv => whnf)
    refine CallSt.use hh [] trivial (by decide) rfl ?_
    rintro _ _ ⟨rfl, rfl⟩ _
    conv => whnf
    repeat (first | (refine And.intro rfl ?_; conv => whnf) | (refine And.intro (by decide) ?_; conv => whnf) | (refine draw_intro true (by kernel_rfl) ?_; conv => whnf) | (refine And.intro ⟨by omega, by omega⟩ ?_; conv => whnf) | (refine And.intro (by omega) ?_; conv => whnf) | (refine And.intro (fun _ => ⟨by omega, by omega⟩) ?_; conv => whnf) | (refine And.intro (fun _ => ?_) (fun h => absurd h ?_); rotate_left; (focus (first | decide | (simp; done) | (simp [tcs]; done))); conv => whnf) | (refine And.intro (fun h => absurd h ?_) (fun _ => ?_); (focus (first | decide | (simp; done) | (simp [tcs]; done))); conv => whnf) | (intro _; conv => whnf))
    all_goals (first | rfl | exact ⟨rfl, rfl⟩ | exact ⟨rfl, rfl, rfl⟩)
  · have hsl := check_len hc
    have hE : withoutE sig n = match useAny sig n with | true => 27 | false => 0 := by
      unfold withoutE
      rw [he]
      rfl
    have e1 : useAny sig n = true → withoutF sig n = [] ∧ withoutE sig n = 27 := fun h => by
      have : withoutE sig n = 27 := by rw [hE, h]
      exact ⟨by simp [withoutF, this], this⟩
    have e2 : useAny sig n = false → withoutF sig n = chosenF sig (woL sig.length n) ∧ withoutE sig n = 0 := fun h => by
      have : withoutE sig n = 0 := by rw [hE, h]
      exact ⟨by simp [withoutF, this], this⟩
    clear hE
    generalize withoutF sig n = X at *
    generalize withoutE sig n = E at *
    have hch := cChosen sig (check_prop hc) (woL sig.length n) (by have := upTo_len (fun j => !decide ((j : Int) = n)) sig.length; unfold woL; omega) (fun x hx => by
      obtain ⟨i, rfl, h1, _⟩ := upTo_mem.1 hx
      omega)
    rw [he] at hh
    refine call_pure (E := env 0) (fn := Tryz.f6) (c := bodyOf Tryz.f6) (env_ok 0) mixed (by kernel_rfl) (by kernel_rfl) (by kernel_rfl) (by kernel_rfl) (by kernel_rfl) (by kernel_rfl) rfl ?_
    conv => whnf
    try (refine draw_intro true (by kernel_rfl) ?_; conv => whnf)
    refine CallSt.use hh [] trivial (by decide) rfl ?_
    rintro _ _ ⟨rfl, rfl⟩ _
    conv => whnf
    repeat (first | (refine And.intro rfl ?_; conv => whnf) | (refine And.intro (by decide) ?_; conv => whnf) | (refine draw_intro true (by kernel_rfl) ?_; conv => whnf) | (refine And.intro ⟨by omega, by omega⟩ ?_; conv => whnf) | (refine And.intro (by omega) ?_; conv => whnf) | (refine And.intro (fun _ => ⟨by omega, by omega⟩) ?_; conv => whnf) | (refine And.intro (fun _ => ?_) (fun h => absurd h ?_); rotate_left; (focus (first | decide | (simp; done) | (simp [tcs]; done))); conv => whnf) | (refine And.intro (fun h => absurd h ?_) (fun _ => ?_); (focus (first | decide | (simp; done) | (simp [tcs]; done))); conv => whnf) | (intro _; conv => whnf))
    refine loop_intro (fun m tm H => ∃ j : Nat, sig.length = m + j ∧ (∀ (q : Nat) e, q < j → sig[q]? = some e → usesT n e.c = false) ∧
      tm = [(21, .c (.int .i64 (j))), (20, .c (.int .i64 ((dcs sig).length))), (19, .c (.sl 6 72 (dcs sig))), (0, .c (.sl 6 72 (dcs sig))), (1, .c (.int .i64 (n))), (7, .mpv 0)] ∧ H = [.mp false (.b (lfMap j))])
      sig.length _ _ ⟨0, by omega, fun q e hq => absurd hq (by omega), rfl, rfl⟩ (Wk.sel [0] (by decide) (by decide) (by decide) ⟨rfl, trivial⟩ ⟨rfl, rfl, rfl, rfl, rfl, rfl, trivial⟩ rfl) ?_
    rintro m tm H ⟨j, hj, hall, rfl, rfl⟩
    conv => whnf
    refine ⟨fun hlt => ?_, fun hlt => ?_⟩
    · replace hlt : (j : Int) < (dcs sig).length := of_decide_eq_true hlt
      obtain ⟨e, hee⟩ : ∃ e, sig[j]? = some e := ⟨sig[j]'(by omega), List.getElem?_eq_getElem (by omega)⟩
      have hec := dcs_at hee
      have hus := cUses e.c n (check_prop hc e (List.mem_of_getElem? hee))
      have hyes : usesT n e.c = true → useAny sig n = true := fun h => List.any_eq_true.2 ⟨e, List.mem_of_getElem? hee, h⟩
      have hno : usesT n e.c = false → ∀ (q : Nat) x, q < j + 1 → sig[q]? = some x → usesT n x.c = false := fun hf q x hq hx => by
        by_cases hqj : q < j
        · exact hall q x hqj hx
        · obtain rfl : q = j := by omega
          rw [hee] at hx
          injection hx with hx
          subst hx
          exact hf
      generalize usesT n e.c = b at *
      obtain ⟨s', ⟨k', l', n', us⟩, i'⟩ := e
      rw [tv_mk] at hus
      conv => whnf
      refine ⟨_, ⟨by omega, hec⟩, ?_⟩
      conv => whnf
      refine ⟨show 6 ≤ 6 by decide, ?_⟩
      conv => whnf
      try (refine draw_intro true (by kernel_rfl) ?_; conv => whnf)
      refine CallSt.use hus [] trivial (by decide) rfl ?_
      rintro _ _ ⟨rfl, rfl⟩ _
      conv => whnf
      cases b with
      | true =>
        obtain ⟨rfl, rfl⟩ := e1 (hyes rfl)
        repeat (first | (refine And.intro rfl ?_; conv => whnf) | (refine And.intro (by decide) ?_; conv => whnf) | (refine draw_intro true (by kernel_rfl) ?_; conv => whnf) | (refine And.intro ⟨by omega, by omega⟩ ?_; conv => whnf) | (refine And.intro (by omega) ?_; conv => whnf) | (refine And.intro (fun _ => ⟨by omega, by omega⟩) ?_; conv => whnf) | (refine And.intro (fun _ => ?_) (fun h => absurd h ?_); rotate_left; (focus (first | decide | (simp; done) | (simp [tcs]; done))); conv => whnf) | (refine And.intro (fun h => absurd h ?_) (fun _ => ?_); (focus (first | decide | (simp; done) | (simp [tcs]; done))); conv => whnf) | (intro _; conv => whnf))
        all_goals (first | rfl | exact ⟨rfl, rfl⟩ | exact ⟨rfl, rfl, rfl⟩)
      | false =>
        (refine ⟨fun h => absurd h ?_, fun _ => ?_⟩; (focus (first | decide | (simp; done) | (simp [tcs]; done))); conv => whnf)
        repeat (first | (refine And.intro rfl ?_; conv => whnf) | (refine And.intro (by decide) ?_; conv => whnf) | (refine draw_intro true (by kernel_rfl) ?_; conv => whnf) | (refine And.intro ⟨by omega, by omega⟩ ?_; conv => whnf) | (refine And.intro (by omega) ?_; conv => whnf) | (refine And.intro (fun _ => ⟨by omega, by omega⟩) ?_; conv => whnf) | (refine And.intro (fun _ => ?_) (fun h => absurd h ?_); rotate_left; (focus (first | decide | (simp; done) | (simp [tcs]; done))); conv => whnf) | (refine And.intro (fun h => absurd h ?_) (fun _ => ?_); (focus (first | decide | (simp; done) | (simp [tcs]; done))); conv => whnf) | (intro _; conv => whnf))
        exact ⟨m - 1, _, _, by omega, ⟨j + 1, by omega, hno rfl, rfl, rfl⟩, Wk.sel [0] (by decide) (by decide) (by decide) ⟨rfl, trivial⟩ ⟨rfl, rfl, rfl, rfl, rfl, rfl, trivial⟩ rfl⟩
    · replace hlt : ¬ (j : Int) < (dcs sig).length := of_decide_eq_false hlt
      obtain rfl : j = sig.length := by omega
      obtain ⟨rfl, rfl⟩ := e2 (by
        unfold useAny
        rw [List.any_eq_false]
        intro e he'
        obtain ⟨q, hq⟩ := List.mem_iff_getElem?.1 he'
        rw [hall q e (List.getElem?_eq_some_iff.1 hq).1 hq]
        simp)
      have hF : ∀ j : Nat, j < sig.length → (mdel (lfMap sig.length) (.i n) (.i (j : Int))).getD false = !decide ((j : Int) = n) := fun j hjl => by
        unfold mdel
        by_cases h : (j : Int) = n
        · rw [if_pos (by rw [h]), decide_eq_true h]; rfl
        · rw [if_neg (by intro h2; injection h2 with h2; exact h h2), decide_eq_false h, lfMap_at hjl]; rfl
      conv => whnf
      repeat (first | (refine And.intro rfl ?_; conv => whnf) | (refine And.intro (by decide) ?_; conv => whnf) | (refine draw_intro true (by kernel_rfl) ?_; conv => whnf) | (refine And.intro ⟨by omega, by omega⟩ ?_; conv => whnf) | (refine And.intro (by omega) ?_; conv => whnf) | (refine And.intro (fun _ => ⟨by omega, by omega⟩) ?_; conv => whnf) | (refine And.intro (fun _ => ?_) (fun h => absurd h ?_); rotate_left; (focus (first | decide | (simp; done) | (simp [tcs]; done))); conv => whnf) | (refine And.intro (fun h => absurd h ?_) (fun _ => ?_); (focus (first | decide | (simp; done) | (simp [tcs]; done))); conv => whnf) | (intro _; conv => whnf))
      generalize chosenF sig (woL sig.length n) = Y at *
      refine loop_intro (fun m tm H => ∃ j : Nat, sig.length = m + j ∧
        tm = [(37, .c (.int .i64 (j))), (36, .c (.int .i64 ((dcs sig).length))), (0, .c (.sl 6 72 (dcs sig))), (7, .mpv 0), (10, .own 1)] ∧
        H = [.mp false (.b (mdel (lfMap sig.length) (.i n))), .row 3 1 8 (rowI (upTo (fun j => !decide ((j : Int) = n)) j))])
        sig.length _ _ ⟨0, by omega, rfl, rfl⟩ ?_ ?_
      · refine Wk.trans (tm1 := [(37, .c (.int .i64 (0))), (36, .c (.int .i64 ((dcs sig).length))), (0, .c (.sl 6 72 (dcs sig))), (7, .mpv 0), (10, .nil)]) (H1 := [.mp false (.b (mdel (lfMap sig.length) (.i n)))]) ?_ (Wk.trans (Wk.niltmp 10 3 1 8 rfl rfl) ?_)
        · exact Wk.sel [0] (by decide) (by decide) (by decide) ⟨rfl, trivial⟩ ⟨rfl, rfl, rfl, rfl, rfl, trivial⟩ rfl
        · exact Wk.sel [0, 1] (by decide) (by decide) (by decide) ⟨rfl, rfl, trivial⟩ ⟨rfl, rfl, rfl, rfl, rfl, trivial⟩ rfl
      rintro m2 tm H ⟨j, hj, rfl, rfl⟩
      conv => whnf
      refine ⟨fun hlt => ?_, fun hlt => ?_⟩
      · replace hlt : (j : Int) < (dcs sig).length := of_decide_eq_true hlt
        have hFj := hF j (by omega)
        have hrl := len_rowI (upTo (fun j => !decide ((j : Int) = n)) j)
        have hul := upTo_len (fun j => !decide ((j : Int) = n)) j
        have hl2 : ((rowI (upTo (fun j => !decide ((j : Int) = n)) j)).length + 1) * 8 ≤ 140737488355328 := by omega
        have hl3 : (rowI (upTo (fun j => !decide ((j : Int) = n)) j)).length + 1 ≤ 9223372036854775807 := by omega
        conv => whnf
        refine ⟨fun h2 => ?_, fun h2 => ?_⟩
        · have hp : (fun j : Nat => !decide ((j : Int) = n)) j = true := hFj.symm.trans h2
          conv => whnf
          refine ⟨by decide, ?_⟩
          conv => whnf
          refine ⟨by decide, ?_⟩
          conv => whnf
          refine ⟨hl2, hl3, ?_⟩
          conv => whnf
          refine ⟨⟨by omega, by omega⟩, ?_⟩
          conv => whnf
          refine ⟨m2 - 1, _, _, by omega, ⟨j + 1, by omega, rfl, rfl⟩, Wk.sel [0, 3] (by decide) (by decide) (by decide) ⟨rfl, ?_, trivial⟩ ⟨rfl, rfl, rfl, rfl, rfl, trivial⟩ rfl⟩
          rw [upTo_yes hp, ← rowI_snoc]
          rfl
        · have hp : (fun j : Nat => !decide ((j : Int) = n)) j = false := hFj.symm.trans h2
          conv => whnf
          refine ⟨⟨by omega, by omega⟩, ?_⟩
          conv => whnf
          refine ⟨m2 - 1, _, _, by omega, ⟨j + 1, by omega, rfl, rfl⟩, Wk.sel [0, 1] (by decide) (by decide) (by decide) ⟨rfl, ?_, trivial⟩ ⟨rfl, rfl, rfl, rfl, rfl, trivial⟩ rfl⟩
          rw [upTo_no hp]
          rfl
      · replace hlt : ¬ (j : Int) < (dcs sig).length := of_decide_eq_false hlt
        obtain rfl : j = sig.length := by omega
        unfold woL at hch
        conv => whnf
        try (refine draw_intro true (by kernel_rfl) ?_; conv => whnf)
        refine CallSt.use hch [] trivial (by decide) rfl ?_
        rintro _ _ ⟨rfl, rfl⟩ _
        conv => whnf
        repeat (first | (refine And.intro rfl ?_; conv => whnf) | (refine And.intro (by decide) ?_; conv => whnf) | (refine draw_intro true (by kernel_rfl) ?_; conv => whnf) | (refine And.intro ⟨by omega, by omega⟩ ?_; conv => whnf) | (refine And.intro (by omega) ?_; conv => whnf) | (refine And.intro (fun _ => ⟨by omega, by omega⟩) ?_; conv => whnf) | (refine And.intro (fun _ => ?_) (fun h => absurd h ?_); rotate_left; (focus (first | decide | (simp; done) | (simp [tcs]; done))); conv => whnf) | (refine And.intro (fun h => absurd h ?_) (fun _ => ?_); (focus (first | decide | (simp; done) | (simp [tcs]; done))); conv => whnf) | (intro _; conv => whnf))
        all_goals (first | rfl | exact ⟨rfl, rfl⟩ | exact ⟨rfl, rfl, rfl⟩)
def nameOk (s : ByteArray) : Bool := nameF s
/-- Another constant has the name. -/
def nameElse (sig : List Dcl) (n : Int) (s : ByteArray) : Bool := (List.range sig.length).any fun k => !decide ((k : Int) = n) && (match sig[k]? with | some d => decide (d.s = s) | none => false)
def renameE (sig : List Dcl) (n : Int) (s : ByteArray) : Int := match decide (hasE sig n = 0) with
  | false => hasE sig n
  | true => (match nameElse sig n s with
    | true => 21
    | false => (match nameF s with | true => 0 | false => 2))
def setName (sig : List Dcl) (n : Nat) (s : ByteArray) : List Dcl := match sig[n]? with | some d => sig.set n ⟨s, d.c, d.i⟩ | none => sig
def renameF (sig : List Dcl) (n : Int) (s : ByteArray) : List Dcl := match decide (renameE sig n s = 0) with | true => setName sig n.toNat s | false => []
theorem cRename (sig : List Dcl) (n : Int) (s : ByteArray) : CallSt Tryz.prog 4 [.c (.sl 6 72 (dcs sig)), .c (.int .i64 (n)), .c (.str s)] [] (fun r H' => r = .tup [.c (.sl 6 72 (dcs (renameF sig n s))), .c (.int .i64 (renameE sig n s))] ∧ H' = []) := by
  have hh := cHas sig n
  have hbl := len_dcs sig
  rcases hasE_cases sig n with ⟨he, _⟩ | ⟨he, _⟩ | ⟨he, hc, hn⟩
  · rw [show renameF sig n s = [] by simp [renameF, renameE, he], show renameE sig n s = 2 by simp [renameE, he]]
    rw [he] at hh
    refine call_pure (E := env 0) (fn := Tryz.f4) (c := bodyOf Tryz.f4) (env_ok 0) mixed (by kernel_rfl) (by kernel_rfl) (by kernel_rfl) (by kernel_rfl) (by kernel_rfl) (by kernel_rfl) rfl ?_
    conv => whnf
    try (refine draw_intro true (by kernel_rfl) ?_; conv => whnf)
    refine CallSt.use hh [] trivial (by decide) rfl ?_
    rintro _ _ ⟨rfl, rfl⟩ _
    conv => whnf
    repeat (first | (refine And.intro rfl ?_; conv => whnf) | (refine And.intro (by decide) ?_; conv => whnf) | (refine draw_intro true (by kernel_rfl) ?_; conv => whnf) | (refine And.intro ⟨by omega, by omega⟩ ?_; conv => whnf) | (refine And.intro (by omega) ?_; conv => whnf) | (refine And.intro (fun _ => ⟨by omega, by omega⟩) ?_; conv => whnf) | (refine And.intro (fun _ => ?_) (fun h => absurd h ?_); rotate_left; (focus (first | decide | (simp; done) | (simp [tcs]; done))); conv => whnf) | (refine And.intro (fun h => absurd h ?_) (fun _ => ?_); (focus (first | decide | (simp; done) | (simp [tcs]; done))); conv => whnf) | (intro _; conv => whnf))
    all_goals (first | rfl | exact ⟨rfl, rfl⟩ | exact ⟨rfl, rfl, rfl⟩)
  · rw [show renameF sig n s = [] by simp [renameF, renameE, he], show renameE sig n s = 6 by simp [renameE, he]]
    rw [he] at hh
    refine call_pure (E := env 0) (fn := Tryz.f4) (c := bodyOf Tryz.f4) (env_ok 0) mixed (by kernel_rfl) (by kernel_rfl) (by kernel_rfl) (by kernel_rfl) (by kernel_rfl) (by kernel_rfl) rfl ?_
    conv => whnf
    try (refine draw_intro true (by kernel_rfl) ?_; conv => whnf)
    refine CallSt.use hh [] trivial (by decide) rfl ?_
    rintro _ _ ⟨rfl, rfl⟩ _
    conv => whnf
    repeat (first | (refine And.intro rfl ?_; conv => whnf) | (refine And.intro (by decide) ?_; conv => whnf) | (refine draw_intro true (by kernel_rfl) ?_; conv => whnf) | (refine And.intro ⟨by omega, by omega⟩ ?_; conv => whnf) | (refine And.intro (by omega) ?_; conv => whnf) | (refine And.intro (fun _ => ⟨by omega, by omega⟩) ?_; conv => whnf) | (refine And.intro (fun _ => ?_) (fun h => absurd h ?_); rotate_left; (focus (first | decide | (simp; done) | (simp [tcs]; done))); conv => whnf) | (refine And.intro (fun h => absurd h ?_) (fun _ => ?_); (focus (first | decide | (simp; done) | (simp [tcs]; done))); conv => whnf) | (intro _; conv => whnf))
    all_goals (first | rfl | exact ⟨rfl, rfl⟩ | exact ⟨rfl, rfl, rfl⟩)
  · have hsl := check_len hc
    have hE : renameE sig n s = match nameElse sig n s with | true => 21 | false => (match nameF s with | true => 0 | false => 2) := by
      unfold renameE
      rw [he]
      rfl
    have e1 : nameElse sig n s = true → renameF sig n s = [] ∧ renameE sig n s = 21 := fun h => by
      have : renameE sig n s = 21 := by rw [hE, h]
      exact ⟨by simp [renameF, this], this⟩
    have e2 : nameElse sig n s = false → nameF s = false → renameF sig n s = [] ∧ renameE sig n s = 2 := fun h h2 => by
      have : renameE sig n s = 2 := by rw [hE, h, h2]
      exact ⟨by simp [renameF, this], this⟩
    have e3 : nameElse sig n s = false → nameF s = true → renameF sig n s = setName sig n.toNat s ∧ renameE sig n s = 0 := fun h h2 => by
      have : renameE sig n s = 0 := by rw [hE, h, h2]
      exact ⟨by simp [renameF, this], this⟩
    clear hE
    generalize renameF sig n s = X at *
    generalize renameE sig n s = E at *
    have hcs := cCopyS sig (check_prop hc) (by omega)
    have hnm : CallSt Tryz.prog 14 [.c (.str s)] [] (fun r H' => r = .c (.bool (nameF s)) ∧ H' = []) := cSignName s
    generalize nameF s = nb at *
    rw [he] at hh
    refine call_pure (E := env 0) (fn := Tryz.f4) (c := bodyOf Tryz.f4) (env_ok 0) mixed (by kernel_rfl) (by kernel_rfl) (by kernel_rfl) (by kernel_rfl) (by kernel_rfl) (by kernel_rfl) rfl ?_
    conv => whnf
    try (refine draw_intro true (by kernel_rfl) ?_; conv => whnf)
    refine CallSt.use hh [] trivial (by decide) rfl ?_
    rintro _ _ ⟨rfl, rfl⟩ _
    conv => whnf
    repeat (first | (refine And.intro rfl ?_; conv => whnf) | (refine And.intro (by decide) ?_; conv => whnf) | (refine draw_intro true (by kernel_rfl) ?_; conv => whnf) | (refine And.intro ⟨by omega, by omega⟩ ?_; conv => whnf) | (refine And.intro (by omega) ?_; conv => whnf) | (refine And.intro (fun _ => ⟨by omega, by omega⟩) ?_; conv => whnf) | (refine And.intro (fun _ => ?_) (fun h => absurd h ?_); rotate_left; (focus (first | decide | (simp; done) | (simp [tcs]; done))); conv => whnf) | (refine And.intro (fun h => absurd h ?_) (fun _ => ?_); (focus (first | decide | (simp; done) | (simp [tcs]; done))); conv => whnf) | (intro _; conv => whnf))
    refine loop_intro (fun m tm H => ∃ j : Nat, sig.length = m + j ∧ (∀ (q : Nat) e, q < j → ¬ (q : Int) = n → sig[q]? = some e → ¬ e.s = s) ∧
      tm = [(20, .c (.int .i64 (j))), (19, .c (.int .i64 ((dcs sig).length))), (18, .c (.sl 6 72 (dcs sig))), (0, .c (.sl 6 72 (dcs sig))), (1, .c (.int .i64 (n))), (2, .c (.str s))] ∧ H = [])
      sig.length _ _ ⟨0, by omega, fun q e hq => absurd hq (by omega), rfl, rfl⟩ (Wk.sel [] (by decide) (by decide) (by decide) trivial ⟨rfl, rfl, rfl, rfl, rfl, rfl, trivial⟩ rfl) ?_
    rintro m tm H ⟨j, hj, hall, rfl, rfl⟩
    conv => whnf
    refine ⟨fun hlt => ?_, fun hlt => ?_⟩
    · replace hlt : (j : Int) < (dcs sig).length := of_decide_eq_true hlt
      obtain ⟨e, hee⟩ : ∃ e, sig[j]? = some e := ⟨sig[j]'(by omega), List.getElem?_eq_getElem (by omega)⟩
      have hec := dcs_at hee
      have hyes : ¬ (j : Int) = n → e.s = s → nameElse sig n s = true := fun h h2 => by
        unfold nameElse
        rw [List.any_eq_true]
        exact ⟨j, List.mem_range.2 (by omega), by rw [hee]; simp [h, h2]⟩
      have hno : (¬ (j : Int) = n → ¬ e.s = s) → ∀ (q : Nat) x, q < j + 1 → ¬ (q : Int) = n → sig[q]? = some x → ¬ x.s = s := fun hf q x hq hqn hx => by
        by_cases hqj : q < j
        · exact hall q x hqj hqn hx
        · obtain rfl : q = j := by omega
          rw [hee] at hx
          injection hx with hx
          subst hx
          exact hf hqn
      obtain ⟨s', ⟨k', l', n', us⟩, i'⟩ := e
      conv => whnf
      refine ⟨_, ⟨by omega, hec⟩, ?_⟩
      conv => whnf
      refine ⟨show 6 ≤ 6 by decide, ?_⟩
      conv => whnf
      refine ⟨fun hsq => ?_, fun hsq => ?_⟩
      · rw [Bool.and_eq_true] at hsq
        obtain ⟨rfl, rfl⟩ := e1 (hyes (by have := hsq.1; simpa using this) (of_decide_eq_true hsq.2))
        conv => whnf
        repeat (first | (refine And.intro rfl ?_; conv => whnf) | (refine And.intro (by decide) ?_; conv => whnf) | (refine draw_intro true (by kernel_rfl) ?_; conv => whnf) | (refine And.intro ⟨by omega, by omega⟩ ?_; conv => whnf) | (refine And.intro (by omega) ?_; conv => whnf) | (refine And.intro (fun _ => ⟨by omega, by omega⟩) ?_; conv => whnf) | (refine And.intro (fun _ => ?_) (fun h => absurd h ?_); rotate_left; (focus (first | decide | (simp; done) | (simp [tcs]; done))); conv => whnf) | (refine And.intro (fun h => absurd h ?_) (fun _ => ?_); (focus (first | decide | (simp; done) | (simp [tcs]; done))); conv => whnf) | (intro _; conv => whnf))
        all_goals (first | rfl | exact ⟨rfl, rfl⟩ | exact ⟨rfl, rfl, rfl⟩)
      · conv => whnf
        refine ⟨⟨by omega, by omega⟩, ?_⟩
        conv => whnf
        refine ⟨m - 1, _, _, by omega, ⟨j + 1, by omega, hno fun h h2 => ?_, rfl, rfl⟩, Wk.sel [] (by decide) (by decide) (by decide) trivial ⟨rfl, rfl, rfl, rfl, rfl, rfl, trivial⟩ rfl⟩
        rw [Bool.and_eq_false_iff] at hsq
        rcases hsq with h3 | h3
        · simp at h3
          exact h h3
        · exact of_decide_eq_false h3 h2
    · replace hlt : ¬ (j : Int) < (dcs sig).length := of_decide_eq_false hlt
      obtain rfl : j = sig.length := by omega
      have hne : nameElse sig n s = false := by
        unfold nameElse
        rw [List.any_eq_false]
        intro k hk
        have hk := List.mem_range.1 hk
        rw [List.getElem?_eq_getElem hk]
        by_cases h : (k : Int) = n
        · simp [h]
        · have := hall k _ hk h (List.getElem?_eq_getElem hk)
          simp [h, this]
      conv => whnf
      try (refine draw_intro true (by kernel_rfl) ?_; conv => whnf)
      refine CallSt.use hnm [] trivial (by decide) rfl ?_
      rintro _ _ ⟨rfl, rfl⟩ _
      conv => whnf
      cases nb with
      | false =>
        obtain ⟨rfl, rfl⟩ := e2 hne rfl
        repeat (first | (refine And.intro rfl ?_; conv => whnf) | (refine And.intro (by decide) ?_; conv => whnf) | (refine draw_intro true (by kernel_rfl) ?_; conv => whnf) | (refine And.intro ⟨by omega, by omega⟩ ?_; conv => whnf) | (refine And.intro (by omega) ?_; conv => whnf) | (refine And.intro (fun _ => ⟨by omega, by omega⟩) ?_; conv => whnf) | (refine And.intro (fun _ => ?_) (fun h => absurd h ?_); rotate_left; (focus (first | decide | (simp; done) | (simp [tcs]; done))); conv => whnf) | (refine And.intro (fun h => absurd h ?_) (fun _ => ?_); (focus (first | decide | (simp; done) | (simp [tcs]; done))); conv => whnf) | (intro _; conv => whnf))
        all_goals (first | rfl | exact ⟨rfl, rfl⟩ | exact ⟨rfl, rfl, rfl⟩)
      | true =>
        obtain ⟨rfl, rfl⟩ := e3 hne rfl
        repeat (first | (refine And.intro rfl ?_; conv => whnf) | (refine And.intro (by decide) ?_; conv => whnf) | (refine draw_intro true (by kernel_rfl) ?_; conv => whnf) | (refine And.intro ⟨by omega, by omega⟩ ?_; conv => whnf) | (refine And.intro (by omega) ?_; conv => whnf) | (refine And.intro (fun _ => ⟨by omega, by omega⟩) ?_; conv => whnf) | (refine And.intro (fun _ => ?_) (fun h => absurd h ?_); rotate_left; (focus (first | decide | (simp; done) | (simp [tcs]; done))); conv => whnf) | (refine And.intro (fun h => absurd h ?_) (fun _ => ?_); (focus (first | decide | (simp; done) | (simp [tcs]; done))); conv => whnf) | (intro _; conv => whnf))
        try (refine draw_intro true (by kernel_rfl) ?_; conv => whnf)
        refine CallSt.use hcs [] trivial (by decide) rfl ?_
        rintro _ _ ⟨rfl, rfl⟩ _
        conv => whnf
        obtain ⟨q, d, rfl, hq, hd⟩ := get_nat hn
        have hds : dcs (setName sig ((q : Int)).toNat s) = (dcs sig).set ((q : Int)).toNat (List.take 0 (dc d) ++ [CV.str s] ++ List.drop (0 + [CV.str s].length) (dc d)) := by
          unfold setName
          rw [Int.toNat_natCast, hd]
          simp only [dcs, List.map_set]
          rfl
        refine ⟨⟨by omega, by rw [Int.toNat_natCast]; omega⟩, ?_⟩
        conv => whnf
        refine ⟨dc d, by rw [Int.toNat_natCast]; exact dcs_at hd, show 0 + 1 ≤ 6 by decide, ?_⟩
        conv => whnf
        rw [hds]
        repeat (first | (refine And.intro rfl ?_; conv => whnf) | (refine And.intro (by decide) ?_; conv => whnf) | (refine draw_intro true (by kernel_rfl) ?_; conv => whnf) | (refine And.intro ⟨by omega, by omega⟩ ?_; conv => whnf) | (refine And.intro (by omega) ?_; conv => whnf) | (refine And.intro (fun _ => ⟨by omega, by omega⟩) ?_; conv => whnf) | (refine And.intro (fun _ => ?_) (fun h => absurd h ?_); rotate_left; (focus (first | decide | (simp; done) | (simp [tcs]; done))); conv => whnf) | (refine And.intro (fun h => absurd h ?_) (fun _ => ?_); (focus (first | decide | (simp; done) | (simp [tcs]; done))); conv => whnf) | (intro _; conv => whnf))
        all_goals (first | rfl | exact ⟨rfl, rfl⟩ | exact ⟨rfl, rfl, rfl⟩)
end Go.Tr
/- Renumbered terms: the plain laws. -/
namespace Go.Tr
open Go.Proofs
mutual
/-- A term whose constants have other numbers. -/
def rnT (f : Int → Int) : Term → Term
  | .mk k l n ts => .mk k l (match decide (k = 4) && decide (l = 2) with | true => f n | false => n) (rnL f ts)
def rnL (f : Int → Int) : List Term → List Term
  | [] => []
  | t :: r => rnT f t :: rnL f r
end
mutual
theorem mapT_rn (f : Int → Int) : ∀ (t : Term) (i : Int), mapT (rnG f) t i = rnT f t
  | .mk k l n ts, i => by
    rw [mapT, rnT, ← mapL_rn f _ i ts 0]
    unfold rnG
    cases decide (k = 4) && decide (l = 2) <;> rfl
theorem mapL_rn (f : Int → Int) (k i : Int) : ∀ (ts : List Term) (j : Int), mapL (rnG f) k i j ts = rnL f ts
  | [], j => by rw [mapL, rnL]
  | t :: r, j => by rw [mapL, rnL, mapT_rn f t, mapL_rn f k i r]
end
mutual
/-- The constants in a term. -/
def cnT : Term → List Int
  | .mk k l n ts => (match decide (k = 4) && decide (l = 2) with | true => [n] | false => []) ++ cnL ts
def cnL : List Term → List Int
  | [] => []
  | t :: r => cnT t ++ cnL r
end
theorem rnL_len (f : Int → Int) : ∀ ts : List Term, (rnL f ts).length = ts.length
  | [] => rfl
  | t :: r => by rw [rnL, List.length_cons, List.length_cons, rnL_len f r]
theorem rnT_k (f : Int → Int) (t : Term) : (rnT f t).k = t.k := by cases t; rw [rnT]; rfl
theorem rnT_l (f : Int → Int) (t : Term) : (rnT f t).l = t.l := by cases t; rw [rnT]; rfl
theorem rnT_n (f : Int → Int) (t : Term) : (rnT f t).n = match decide (t.k = 4) && decide (t.l = 2) with | true => f t.n | false => t.n := by cases t; rw [rnT]; rfl
mutual
theorem rn_id {f : Int → Int} : ∀ (t : Term), (∀ x ∈ cnT t, f x = x) → rnT f t = t
  | .mk k l n ts, h => by
    rw [rnT, rnL_id ts (fun x hx => h x (by rw [cnT]; exact List.mem_append.2 (.inr hx)))]
    cases hb : decide (k = 4) && decide (l = 2) with
    | false => rfl
    | true => rw [h n (by rw [cnT, hb]; simp)]
theorem rnL_id {f : Int → Int} : ∀ (ts : List Term), (∀ x ∈ cnL ts, f x = x) → rnL f ts = ts
  | [], _ => by rw [rnL]
  | t :: r, h => by
    rw [rnL, rn_id t (fun x hx => h x (by rw [cnL]; exact List.mem_append.2 (.inl hx))), rnL_id r (fun x hx => h x (by rw [cnL]; exact List.mem_append.2 (.inr hx)))]
end
mutual
theorem rn_congr {f g : Int → Int} : ∀ (t : Term), (∀ x ∈ cnT t, f x = g x) → rnT f t = rnT g t
  | .mk k l n ts, h => by
    rw [rnT, rnT, rnL_congr ts (fun x hx => h x (by rw [cnT]; exact List.mem_append.2 (.inr hx)))]
    cases hb : decide (k = 4) && decide (l = 2) with
    | false => rfl
    | true => rw [h n (by rw [cnT, hb]; simp)]
theorem rnL_congr {f g : Int → Int} : ∀ (ts : List Term), (∀ x ∈ cnL ts, f x = g x) → rnL f ts = rnL g ts
  | [], _ => by rw [rnL, rnL]
  | t :: r, h => by
    rw [rnL, rnL, rn_congr t (fun x hx => h x (by rw [cnL]; exact List.mem_append.2 (.inl hx))), rnL_congr r (fun x hx => h x (by rw [cnL]; exact List.mem_append.2 (.inr hx)))]
end
mutual
theorem rn_rn (f g : Int → Int) : ∀ (t : Term), rnT g (rnT f t) = rnT (fun x => g (f x)) t
  | .mk k l n ts => by
    rw [rnT, rnT, rnT, rnL_rn f g ts]
    cases decide (k = 4) && decide (l = 2) <;> rfl
theorem rnL_rn (f g : Int → Int) : ∀ (ts : List Term), rnL g (rnL f ts) = rnL (fun x => g (f x)) ts
  | [] => by rw [rnL, rnL, rnL]
  | t :: r => by rw [rnL, rnL, rnL, rn_rn f g t, rnL_rn f g r]
end
mutual
theorem rn_cn (f : Int → Int) : ∀ (t : Term), cnT (rnT f t) = (cnT t).map f
  | .mk k l n ts => by
    rw [rnT, cnT, cnT, rnL_cn f ts, List.map_append]
    cases decide (k = 4) && decide (l = 2) <;> rfl
theorem rnL_cn (f : Int → Int) : ∀ (ts : List Term), cnL (rnL f ts) = (cnL ts).map f
  | [] => by rw [rnL, cnL]; rfl
  | t :: r => by rw [rnL, cnL, cnL, rn_cn f t, rnL_cn f r, List.map_append]
end
mutual
theorem rn_sz (f : Int → Int) : ∀ (t : Term), szT (rnT f t) = szT t
  | .mk k l n ts => by rw [rnT, szT, szT, rnL_sz f ts]
theorem rnL_sz (f : Int → Int) : ∀ (ts : List Term), szL (rnL f ts) = szL ts
  | [] => by rw [rnL]
  | t :: r => by rw [rnL, szL, szL, rn_sz f t, rnL_sz f r]
end
mutual
theorem rn_fm {f : Int → Int} : ∀ (t : Term) (d : Int), (∀ x ∈ cnT t, 0 ≤ f x ∧ f x ≤ 9999) → fmT t d = true → fmT (rnT f t) d = true
  | .mk k l n ts, d, h, hf => by
    rw [fmT, Bool.and_eq_true, Bool.and_eq_true] at hf
    rw [rnT, fmT, Bool.and_eq_true, Bool.and_eq_true, rnL_len]
    refine ⟨⟨hf.1.1, ?_⟩, rnL_fm ts d (fun x hx => h x (by rw [cnT]; exact List.mem_append.2 (.inr hx))) hf.2⟩
    have h1 := hf.1.2
    cases hb : decide (k = 4) && decide (l = 2) with
    | false => exact h1
    | true =>
      have hn := h n (by rw [cnT, hb]; simp)
      rw [Bool.and_eq_true] at hb
      have h4 : k = 4 := of_decide_eq_true hb.1
      have h2 : l = 2 := of_decide_eq_true hb.2
      subst h4 h2
      unfold fmB
      simp
      omega
theorem rnL_fm {f : Int → Int} : ∀ (ts : List Term) (d : Int), (∀ x ∈ cnL ts, 0 ≤ f x ∧ f x ≤ 9999) → fmL ts d = true → fmL (rnL f ts) d = true
  | [], d, _, _ => by rw [rnL, fmL]
  | t :: r, d, h, hf => by
    rw [fmL, Bool.and_eq_true] at hf
    rw [rnL, fmL, Bool.and_eq_true]
    exact ⟨rn_fm t (d + 1) (fun x hx => h x (by rw [cnL]; exact List.mem_append.2 (.inl hx))) hf.1, rnL_fm r d (fun x hx => h x (by rw [cnL]; exact List.mem_append.2 (.inr hx))) hf.2⟩
end
theorem prop_iff (t : Term) : prop t = true ↔ szT t ≤ 600 ∧ fmT t 1 = true := by
  rw [prop_rprop, rprop_iff', Bool.and_eq_true, decide_eq_true_eq]
theorem rn_prop {f : Int → Int} {t : Term} (h : ∀ x ∈ cnT t, 0 ≤ f x ∧ f x ≤ 9999) (hp : prop t = true) : prop (rnT f t) = true := by
  rw [prop_iff] at hp ⊢
  rw [rn_sz]
  exact ⟨hp.1, rn_fm t 1 h hp.2⟩
theorem hdOk_mk (P : Int → Bool) (k l n i : Int) (ts : List Term) : hdOk 2 P (.mk k l n ts) i = match decide (k = 4) && decide (l = 2) with | true => P n | false => true := by
  show (match decide (k = 4) && decide (l = 2) with | true => (match !decide ((2 : Int) = 1) with | true => P n | false => (match decide (i ≤ n) with | true => P (n - i) | false => true)) | false => true) = _
  cases decide (k = 4) && decide (l = 2) <;> rfl
theorem nodeOk_mk (m k l n i : Int) (ts : List Term) : nodeOk m (.mk k l n ts) i = ((!decide (l = 3)) && (!decide (l = 1) || decide (n < i)) && (!decide (l = 2) || decide (n < m))) := rfl
mutual
/-- What all nodes must be is what all constants must be. -/
theorem all_cn (P : Int → Bool) : ∀ (t : Term) (i : Int), allT (hdOk 2 P) t i = true ↔ ∀ x ∈ cnT t, P x = true
  | .mk k l n ts, i => by
    rw [allT, Bool.and_eq_true, allL_cn P k i ts 0, cnT, hdOk_mk]
    cases decide (k = 4) && decide (l = 2) with
    | false => simp
    | true =>
      simp only
      constructor
      · rintro ⟨h1, h2⟩ x hx
        rcases List.mem_append.1 hx with hx | hx
        · rw [List.mem_singleton] at hx
          rw [hx]
          exact h1
        · exact h2 x hx
      · exact fun h => ⟨h n (by simp), fun x hx => h x (List.mem_append.2 (.inr hx))⟩
theorem allL_cn (P : Int → Bool) (k i : Int) : ∀ (ts : List Term) (j : Int), allL (hdOk 2 P) k i j ts = true ↔ ∀ x ∈ cnL ts, P x = true
  | [], j => by rw [allL, cnL]; simp
  | t :: r, j => by
    rw [allL, Bool.and_eq_true, all_cn P t, allL_cn P k i r, cnL]
    constructor
    · rintro ⟨h1, h2⟩ x hx
      rcases List.mem_append.1 hx with hx | hx
      · exact h1 x hx
      · exact h2 x hx
    · exact fun h => ⟨fun x hx => h x (List.mem_append.2 (.inl hx)), fun x hx => h x (List.mem_append.2 (.inr hx))⟩
end
theorem uses_cn (n : Int) (t : Term) : usesT n t = true ↔ n ∈ cnT t := by
  unfold usesT
  rw [Bool.not_eq_true', ← Bool.not_eq_true, all_cn]
  constructor
  · intro h
    refine Decidable.byContradiction fun hn => h fun x hx => ?_
    simp only [Bool.not_eq_true', decide_eq_false_iff_not]
    exact fun e => hn (e ▸ hx)
  · intro h h2
    have := h2 n h
    simp at this
mutual
theorem nodes_cn {m : Int} : ∀ (t : Term) (i : Int), nodesT m t i = true → ∀ x ∈ cnT t, x < m
  | .mk k l n ts, i, h, x, hx => by
    rw [nodesT, Bool.and_eq_true] at h
    rw [cnT] at hx
    rcases List.mem_append.1 hx with hx | hx
    · cases hb : decide (k = 4) && decide (l = 2) with
      | false => rw [hb] at hx; cases hx
      | true =>
        rw [hb] at hx
        simp only [List.mem_singleton] at hx
        subst hx
        rw [Bool.and_eq_true] at hb
        have h1 := h.1
        rw [nodeOk_mk, hb.1, hb.2] at h1
        simp at h1
        exact h1.2
    · exact nodesL_cn k i ts 0 h.2 x hx
theorem nodesL_cn {m : Int} (k i : Int) : ∀ (ts : List Term) (j : Int), nodesL m k i j ts = true → ∀ x ∈ cnL ts, x < m
  | [], j, _, x, hx => by rw [cnL] at hx; cases hx
  | t :: r, j, h, x, hx => by
    rw [nodesL, Bool.and_eq_true] at h
    rw [cnL] at hx
    rcases List.mem_append.1 hx with hx | hx
    · exact nodes_cn t _ h.1 x hx
    · exact nodesL_cn k i r (j + 1) h.2 x hx
end
mutual
theorem rn_nodes {f : Int → Int} {m m' : Int} : ∀ (t : Term) (i : Int), (∀ x ∈ cnT t, f x < m') → nodesT m t i = true → nodesT m' (rnT f t) i = true
  | .mk k l n ts, i, hf, h => by
    rw [nodesT, Bool.and_eq_true] at h
    rw [rnT, nodesT, Bool.and_eq_true]
    refine ⟨?_, rnL_nodes k i ts 0 (fun x hx => hf x (by rw [cnT]; exact List.mem_append.2 (.inr hx))) h.2⟩
    have h1 := h.1
    rw [nodeOk_mk] at h1 ⊢
    cases hb : decide (k = 4) && decide (l = 2) with
    | false =>
      simp only
      rw [Bool.and_eq_false_iff] at hb
      rcases hb with hb | hb
      · rw [hb]; rfl
      · rw [hb] at h1 ⊢
        simpa using h1
    | true =>
      have hn := hf n (by rw [cnT, hb]; simp)
      rw [Bool.and_eq_true] at hb
      rw [hb.2] at h1 ⊢
      have e2 : l = 2 := of_decide_eq_true hb.2
      subst e2
      simp [hn]
theorem rnL_nodes {f : Int → Int} {m m' : Int} (k i : Int) : ∀ (ts : List Term) (j : Int), (∀ x ∈ cnL ts, f x < m') → nodesL m k i j ts = true → nodesL m' k i j (rnL f ts) = true
  | [], j, _, _ => by rw [rnL, nodesL]
  | t :: r, j, hf, h => by
    rw [nodesL, Bool.and_eq_true] at h
    rw [rnL, nodesL, Bool.and_eq_true]
    exact ⟨rn_nodes t _ (fun x hx => hf x (by rw [cnL]; exact List.mem_append.2 (.inl hx))) h.1, rnL_nodes k i r (j + 1) (fun x hx => hf x (by rw [cnL]; exact List.mem_append.2 (.inr hx))) h.2⟩
end
theorem rn_dom (f : Int → Int) : ∀ (c : Nat) (t : Term), SizeOf.sizeOf t ≤ c → (domT (rnT f t)).1.length = (domT t).1.length ∧ (domT (rnT f t)).2 = rnT f (domT t).2
  | 0, t, hc => by cases t; simp at hc
  | c + 1, t, hc => by
    by_cases hk : t.k = 2
    · obtain ⟨k, l, n, ts⟩ := t
      replace hk : k = 2 := hk
      subst hk
      rcases ts with _ | ⟨a, _ | ⟨b, r⟩⟩
      · rw [rnT, rnL, show domT (.mk 2 l n []) = ([], .mk 2 l n []) by rw [domT]; try simp]
        rw [show domT (.mk 2 l _ []) = ([], .mk 2 l _ []) by rw [domT]; try simp]
        exact ⟨rfl, by rw [rnT, rnL]⟩
      · rw [rnT, rnL, rnL, show domT (.mk 2 l n [a]) = ([], .mk 2 l n [a]) by rw [domT]; try simp]
        rw [show domT (.mk 2 l _ [rnT f a]) = ([], .mk 2 l _ [rnT f a]) by rw [domT]; try simp]
        exact ⟨rfl, by rw [rnT, rnL, rnL]⟩
      · rw [rnT, rnL, rnL, domT_pi, domT_pi]
        have ih := rn_dom f c b (by simp at hc; omega)
        exact ⟨by simp [ih.1], ih.2⟩
    · rw [domT_no hk, domT_no (by rw [rnT_k]; exact hk)]
      exact ⟨rfl, rfl⟩
theorem rn_kind (f : Int → Int) (t : Term) : kindT (rnT f t) = kindT t := by
  unfold kindT
  rw [(rn_dom f _ t (Nat.le_refl _)).2, rnT_k]
theorem rn_targ (f : Int → Int) (t : Term) : targOk (rnT f t) = targOk t := by
  unfold targOk
  rw [(rn_dom f _ t (Nat.le_refl _)).2, rnT_k, rnT_l]
theorem rn_targN (f : Int → Int) {t : Term} (h : targOk t = true) : (domT (rnT f t)).2.n = f (domT t).2.n := by
  unfold targOk at h
  rw [(rn_dom f _ t (Nat.le_refl _)).2, rnT_n, h]
theorem dom_cn : ∀ (c : Nat) (t : Term), SizeOf.sizeOf t ≤ c → ∀ x ∈ cnT (domT t).2, x ∈ cnT t
  | 0, t, hc, _, _ => by cases t; simp at hc
  | c + 1, t, hc, x, hx => by
    by_cases hk : t.k = 2
    · obtain ⟨k, l, n, ts⟩ := t
      replace hk : k = 2 := hk
      subst hk
      rcases ts with _ | ⟨a, _ | ⟨b, r⟩⟩
      · rwa [show domT (.mk 2 l n []) = ([], .mk 2 l n []) by rw [domT]; try simp] at hx
      · rwa [show domT (.mk 2 l n [a]) = ([], .mk 2 l n [a]) by rw [domT]; try simp] at hx
      · rw [domT_pi] at hx
        have ih := dom_cn c b (by simp at hc; omega) x hx
        rw [cnT, cnL, cnL]
        simp [ih]
    · rwa [domT_no hk] at hx
theorem targ_cn {t : Term} (h : targOk t = true) : (domT t).2.n ∈ cnT t := by
  refine dom_cn _ t (Nat.le_refl _) _ ?_
  unfold targOk at h
  generalize (domT t).2 = u at *
  obtain ⟨k, l, n, ts⟩ := u
  replace h : (decide (k = 4) && decide (l = 2)) = true := h
  show n ∈ cnT (.mk k l n ts)
  rw [cnT, h]
  simp
mutual
theorem fm_cn : ∀ (t : Term) (d : Int), fmT t d = true → ∀ x ∈ cnT t, 0 ≤ x ∧ x ≤ 9999
  | .mk k l n ts, d, h, x, hx => by
    rw [fmT, Bool.and_eq_true, Bool.and_eq_true] at h
    rw [cnT] at hx
    rcases List.mem_append.1 hx with hx | hx
    · cases hb : decide (k = 4) && decide (l = 2) with
      | false => rw [hb] at hx; cases hx
      | true =>
        rw [hb] at hx
        simp only [List.mem_singleton] at hx
        subst hx
        rw [Bool.and_eq_true] at hb
        have h4 : k = 4 := of_decide_eq_true hb.1
        have h1 := h.1.2
        subst h4
        unfold fmB at h1
        simp at h1
        omega
    · exact fmL_cn ts d h.2 x hx
theorem fmL_cn : ∀ (ts : List Term) (d : Int), fmL ts d = true → ∀ x ∈ cnL ts, 0 ≤ x ∧ x ≤ 9999
  | [], d, _, x, hx => by rw [cnL] at hx; cases hx
  | t :: r, d, h, x, hx => by
    rw [fmL, Bool.and_eq_true] at h
    rw [cnL] at hx
    rcases List.mem_append.1 hx with hx | hx
    · exact fm_cn t _ h.1 x hx
    · exact fmL_cn r d h.2 x hx
end
theorem prop_cn {t : Term} (h : prop t = true) : ∀ x ∈ cnT t, 0 ≤ x ∧ x ≤ 9999 := fm_cn t 1 (prop_fm1 h)
end Go.Tr
/- Signatures: what is formed, told by positions; chosen constants. -/
namespace Go.Tr
open Go.Proofs
/-- What is asked of a constant at its place, but for its name's being new. -/
def okAt (sig : List Dcl) (n : Nat) (d : Dcl) : Prop :=
  prop d.c = true ∧ nameF d.s = true ∧ 0 ≤ d.i ∧ d.i ≤ (domT d.c).1.length ∧ nodesT n d.c 0 = true ∧ (kindT d.c = true ∨ (targOk d.c = true ∧ kindAt sig (domT d.c).2.n = true))
theorem kindAt_take {sig : List Dcl} {n : Nat} {x : Int} (h0 : 0 ≤ x) (h : x < n) : kindAt (sig.take n) x = kindAt sig x := by
  unfold kindAt
  rw [List.getElem?_take, if_pos (by omega)]
theorem formed_iff {sig : List Dcl} {n : Nat} {d : Dcl} (hd : sig[n]? = some d) : formedF (sig.take n) d = true ↔ okAt sig n d := by
  have hlt := (List.getElem?_eq_some_iff.1 hd).1
  have hlen : (sig.take n).length = n := by rw [List.length_take]; omega
  unfold formedF okAt
  rw [hlen]
  simp only [Bool.and_eq_true, Bool.or_eq_true, decide_eq_true_eq]
  constructor
  · rintro ⟨⟨⟨⟨h1, h2⟩, h3⟩, h4, h5⟩, h6⟩
    refine ⟨h1, h2, h3, h4, h5, h6.imp id fun h => ⟨h.1, ?_⟩⟩
    rw [← kindAt_take (targ_pos h1 h.1) (nodes_targ h5 h.1)]
    exact h.2
  · rintro ⟨h1, h2, h3, h4, h5, h6⟩
    refine ⟨⟨⟨⟨h1, h2⟩, h3⟩, h4, h5⟩, h6.imp id fun h => ⟨h.1, ?_⟩⟩
    rw [kindAt_take (targ_pos h1 h.1) (nodes_targ h5 h.1)]
    exact h.2
theorem nameIn_iff (l : List Dcl) (s : ByteArray) : nameIn l s = true ↔ ∃ e ∈ l, e.s = s := by
  unfold nameIn
  rw [List.any_eq_true]
  simp
theorem check_iff (sig : List Dcl) : checkB sig = true ↔ sig.length ≤ 100 ∧ (∀ (i j : Nat) d e, i < j → sig[i]? = some d → sig[j]? = some e → d.s ≠ e.s) ∧ ∀ (n : Nat) d, sig[n]? = some d → okAt sig n d := by
  constructor
  · intro h
    refine ⟨check_len h, fun i j d e hij hi hj he => ?_, fun n d hd => ?_⟩
    · have hg := check_good h j (List.getElem?_eq_some_iff.1 hj).1
      rw [good_formed sig hj] at hg
      unfold formedR at hg
      rw [Bool.and_eq_true, Bool.not_eq_true'] at hg
      have : nameIn (sig.take j) e.s = true := (nameIn_iff _ _).2 ⟨d, List.mem_of_getElem? (i := i) (by rw [List.getElem?_take, if_pos hij]; exact hi), he⟩
      rw [this] at hg
      cases hg.1
    · have hg := check_good h n (List.getElem?_eq_some_iff.1 hd).1
      rw [good_formed sig hd] at hg
      unfold formedR at hg
      rw [Bool.and_eq_true] at hg
      exact (formed_iff hd).1 hg.2
  · rintro ⟨h1, h2, h3⟩
    unfold checkB
    rw [decide_eq_true h1, Bool.true_and, List.all_eq_true]
    intro n hn
    have hn := List.mem_range.1 hn
    have hd : sig[n]? = some sig[n] := List.getElem?_eq_getElem hn
    rw [good_formed sig hd]
    unfold formedR
    rw [Bool.and_eq_true, Bool.not_eq_true', ← Bool.not_eq_true, nameIn_iff]
    refine ⟨?_, (formed_iff hd).2 (h3 n _ hd)⟩
    rintro ⟨e, he, hs⟩
    obtain ⟨i, hi⟩ := List.mem_iff_getElem?.1 he
    rw [List.getElem?_take] at hi
    split at hi
    · exact h2 i n e _ (by assumption) hi hd hs
    · cases hi
theorem pickD_at {sig : List Dcl} {f : Int → Int} {n : Int} {d : Dcl} (h : sig[n.toNat]? = some d) : pickD sig f n = ⟨d.s, rnT f d.c, d.i⟩ := by
  unfold pickD
  rw [h]
  simp only [mapT_rn]
theorem chosen_ok {sig : List Dcl} {l : List Int} {f : Int → Int} (hc : checkB sig = true) (hl : l.length ≤ 100) (hnd : ∀ (i j : Nat) a, i < j → l[i]? = some a → l[j]? = some a → False) (hin : ∀ n ∈ l, 0 ≤ n ∧ n < sig.length)
    (hf : ∀ (j : Nat) n d, l[j]? = some n → sig[n.toNat]? = some d → ∀ x ∈ cnT d.c, 0 ≤ f x ∧ f x < j ∧ l[(f x).toNat]? = some x) : checkB (l.map (pickD sig f)) = true := by
  rw [check_iff] at hc ⊢
  obtain ⟨c1, c2, c3⟩ := hc
  have get : ∀ (j : Nat) e, (l.map (pickD sig f))[j]? = some e → ∃ n d, l[j]? = some n ∧ sig[n.toNat]? = some d ∧ e = ⟨d.s, rnT f d.c, d.i⟩ := fun j e he => by
    rw [List.getElem?_map] at he
    cases hn : l[j]? with
    | none => rw [hn] at he; cases he
    | some n =>
      rw [hn] at he
      have hb := hin n (List.mem_of_getElem? hn)
      have hd : sig[n.toNat]? = some (sig[n.toNat]'(by omega)) := List.getElem?_eq_getElem (by omega)
      simp only [Option.map_some, Option.some.injEq] at he
      exact ⟨n, _, rfl, hd, by rw [← he, pickD_at hd]⟩
  refine ⟨by rw [List.length_map]; exact hl, fun i j d e hij hi hj he => ?_, fun j e he => ?_⟩
  · obtain ⟨a, d', h1, h2, rfl⟩ := get i d hi
    obtain ⟨b, e', h3, h4, rfl⟩ := get j e hj
    simp only at he
    have hab : a.toNat ≠ b.toNat := fun h => by
      have ha := hin a (List.mem_of_getElem? h1)
      have hb := hin b (List.mem_of_getElem? h3)
      have : a = b := by omega
      subst this
      exact hnd i j a hij h1 h3
    rcases Nat.lt_or_gt_of_ne hab with h | h
    · exact c2 _ _ _ _ h h2 h4 he
    · exact c2 _ _ _ _ h h4 h2 he.symm
  · obtain ⟨n, d, h1, h2, rfl⟩ := get j e he
    have hjl := (List.getElem?_eq_some_iff.1 h1).1
    obtain ⟨o1, o2, o3, o4, o5, o6⟩ := c3 _ _ h2
    have hfx := hf j n d h1 h2
    refine ⟨rn_prop (fun x hx => by have := hfx x hx; omega) o1, o2, o3, ?_, rn_nodes d.c 0 (fun x hx => (hfx x hx).2.1) o5, ?_⟩
    · simp only
      rw [(rn_dom f _ d.c (Nat.le_refl _)).1]
      exact o4
    · simp only
      rw [rn_kind, rn_targ]
      refine o6.imp id fun h => ⟨h.1, ?_⟩
      rw [rn_targN f h.1]
      have ht := hfx _ (targ_cn h.1)
      have hx := hin _ (List.mem_of_getElem? ht.2.2)
      have hd : sig[((domT d.c).2.n).toNat]? = some (sig[((domT d.c).2.n).toNat]'(by omega)) := List.getElem?_eq_getElem (by omega)
      have hk := h.2
      unfold kindAt at hk ⊢
      rw [List.getElem?_map, ht.2.2]
      rw [hd] at hk
      simp only [Option.map_some]
      rw [pickD_at hd]
      simp only
      rw [rn_kind]
      exact hk
theorem mput_same {α : Type} (F : KV → Option α) (q : KV) (x : α) : mput F q x q = some x := by unfold mput; rw [if_pos rfl]
theorem mput_other {α : Type} (F : KV → Option α) {q r : KV} (x : α) (h : r ≠ q) : mput F q x r = F r := by unfold mput; rw [if_neg h]
theorem chMap_at {l : List Int} (hnd : ∀ (i j : Nat) a, i < j → l[i]? = some a → l[j]? = some a → False) : ∀ {m j : Nat} {n : Int}, j < m → l[j]? = some n → chMap l m (.i n) = some (j : Int)
  | m + 1, j, n, h, hn => by
    rw [chMap]
    by_cases e : j = m
    · subst e
      rw [hn]
      simp only
      rw [mput_same]
    · have ih := chMap_at hnd (show j < m by omega) hn
      cases hm : l[m]? with
      | none => exact ih
      | some b =>
        simp only
        rw [mput_other]
        · exact ih
        · intro h2
          injection h2 with h2
          subst h2
          exact hnd j m n (by omega) hn hm
theorem mget_at {l : List Int} (hnd : ∀ (i j : Nat) a, i < j → l[i]? = some a → l[j]? = some a → False) {j : Nat} {n : Int} (hn : l[j]? = some n) : mget (chMap l l.length) n = j := by
  unfold mget
  rw [chMap_at hnd (List.getElem?_eq_some_iff.1 hn).1 hn]
  rfl
theorem pickD_congr {sig : List Dcl} {f g : Int → Int} {n : Int} (h : ∀ d, sig[n.toNat]? = some d → ∀ x ∈ cnT d.c, f x = g x) : pickD sig f n = pickD sig g n := by
  cases hd : sig[n.toNat]? with
  | none => unfold pickD; rw [hd]
  | some d => rw [pickD_at hd, pickD_at hd, rn_congr d.c (h d hd)]
/-- The constants of a class stand before it. -/
theorem check_cn {sig : List Dcl} (h : checkB sig = true) {n : Nat} {d : Dcl} (hd : sig[n]? = some d) : ∀ x ∈ cnT d.c, 0 ≤ x ∧ x < n := by
  obtain ⟨_, _, c3⟩ := (check_iff sig).1 h
  obtain ⟨o1, _, _, _, o5, _⟩ := c3 n d hd
  exact fun x hx => ⟨(prop_cn o1 x hx).1, nodes_cn d.c 0 o5 x hx⟩
end Go.Tr
/- Swap, Without and Rename of formed signatures: the plain laws. -/
namespace Go.Tr
open Go.Proofs
/-- The exchange of two neighbours. -/
def swF (n : Nat) (x : Int) : Int := if x = n then n + 1 else if x = n + 1 then n else x
theorem swF_swF (n : Nat) (x : Int) : swF n (swF n x) = x := by
  unfold swF
  by_cases h1 : x = n
  · subst h1
    rw [if_pos rfl, if_neg (by omega), if_pos rfl]
  · by_cases h2 : x = n + 1
    · subst h2
      rw [if_neg h1, if_pos rfl, if_pos rfl]
    · rw [if_neg h1, if_neg h2, if_neg h1, if_neg h2]
theorem swF_in {n len : Nat} (h : n + 1 < len) {x : Int} (hx : 0 ≤ x ∧ x < len) : 0 ≤ swF n x ∧ swF n x < len := by
  unfold swF
  split
  · omega
  · split <;> omega
theorem swL_at {len n : Nat} (h : n + 1 < len) {k : Nat} (hk : k < len) : (swL len n)[k]? = some (swF n k) := by
  unfold swL swF
  by_cases h1 : k = n
  · subst h1
    rw [List.getElem?_set_ne (by omega), List.getElem?_set_self (by rw [nums_len]; omega), if_pos rfl]
  · by_cases h2 : k = n + 1
    · subst h2
      rw [List.getElem?_set_self (by rw [List.length_set, nums_len]; omega), if_neg (by omega), if_pos (by omega)]
    · rw [List.getElem?_set_ne (by omega), List.getElem?_set_ne (by omega), nums_at hk, if_neg (by omega), if_neg (by omega)]
theorem swL_nd {len n : Nat} (h : n + 1 < len) : ∀ (i j : Nat) a, i < j → (swL len n)[i]? = some a → (swL len n)[j]? = some a → False := by
  intro i j a hij hi hj
  have hi' := (List.getElem?_eq_some_iff.1 hi).1
  have hj' := (List.getElem?_eq_some_iff.1 hj).1
  rw [swL_len] at hi' hj'
  rw [swL_at h hi'] at hi
  rw [swL_at h hj'] at hj
  injection hi with hi
  injection hj with hj
  have h1 := congrArg (swF n) (hi.trans hj.symm)
  rw [swF_swF, swF_swF] at h1
  omega
theorem swG_at {len n : Nat} (h : n + 1 < len) {x : Int} (hx : 0 ≤ x ∧ x < len) : mget (chMap (swL len n) (swL len n).length) x = swF n x := by
  have hs := swF_in h hx
  have h1 : (swL len n)[(swF n x).toNat]? = some x := by
    rw [swL_at h (by omega), show (((swF n x).toNat : Nat) : Int) = swF n x by omega, swF_swF]
  have := mget_at (swL_nd h) h1
  omega
theorem pick_all {sig : List Dcl} (hc : checkB sig = true) {l : List Int} {f g : Int → Int} (h : ∀ x : Int, 0 ≤ x ∧ x < sig.length → f x = g x) : l.map (pickD sig f) = l.map (pickD sig g) := by
  refine List.map_congr_left fun n _ => pickD_congr fun d hd x hx => h x ?_
  have := check_cn hc hd x hx
  have := (List.getElem?_eq_some_iff.1 hd).1
  omega
theorem swap_eq {sig : List Dcl} (hc : checkB sig = true) {n : Nat} (h : n + 1 < sig.length) : chosenF sig (swL sig.length n) = (swL sig.length n).map (pickD sig (swF n)) := by
  unfold chosenF
  exact pick_all hc fun x hx => swG_at h hx
def swX (sig : List Dcl) (n : Nat) : List Dcl := (swL sig.length n).map (pickD sig (swF n))
theorem swX_len (sig : List Dcl) (n : Nat) : (swX sig n).length = sig.length := by unfold swX; rw [List.length_map, swL_len]
theorem swX_at {sig : List Dcl} {n : Nat} (h : n + 1 < sig.length) {k : Nat} (hk : k < sig.length) : ∃ d, sig[(swF n k).toNat]? = some d ∧ (swX sig n)[k]? = some ⟨d.s, rnT (swF n) d.c, d.i⟩ := by
  have hs := swF_in h (x := (k : Int)) ⟨by omega, by omega⟩
  have hd : sig[(swF n k).toNat]? = some (sig[(swF n k).toNat]'(by omega)) := List.getElem?_eq_getElem (by omega)
  refine ⟨_, hd, ?_⟩
  unfold swX
  rw [List.getElem?_map, swL_at h hk]
  simp only [Option.map_some]
  rw [pickD_at hd]
theorem swX_ok {sig : List Dcl} (hc : checkB sig = true) {n : Nat} (h : n + 1 < sig.length) (hu : ∀ d, sig[n + 1]? = some d → usesT n d.c = false) : checkB (swX sig n) = true := by
  refine chosen_ok hc (by rw [swL_len]; exact check_len hc) (swL_nd h) (swL_mem h) fun j m d hj hd x hx => ?_
  have hjl := (List.getElem?_eq_some_iff.1 hj).1
  rw [swL_len] at hjl
  rw [swL_at h hjl] at hj
  injection hj with hj
  subst hj
  have hb := check_cn hc hd x hx
  have hxn : swF n j = n + 1 → x ≠ n := fun e hxe => by
    subst hxe
    rw [e] at hd
    have := hu d (by rwa [show ((n : Int) + 1).toNat = n + 1 by omega] at hd)
    rw [← Bool.not_eq_true, uses_cn] at this
    exact this hx
  have hlt : swF n x < j := by
    by_cases j1 : j = n
    · subst j1
      have e : swF j (j : Int) = j + 1 := by unfold swF; rw [if_pos rfl]
      have := hxn e
      rw [e] at hb
      have e2 : swF j x = x := by unfold swF; rw [if_neg (by omega), if_neg (by omega)]
      omega
    · by_cases j2 : j = n + 1
      · subst j2
        have e : swF n ((n + 1 : Nat) : Int) = n := by unfold swF; rw [if_neg (by omega), if_pos (by omega)]
        rw [e] at hb
        have e2 : swF n x = x := by unfold swF; rw [if_neg (by omega), if_neg (by omega)]
        omega
      · have e : swF n (j : Int) = j := by unfold swF; rw [if_neg (by omega), if_neg (by omega)]
        rw [e] at hb
        unfold swF
        split
        · omega
        · split <;> omega
  have hs := swF_in h (x := x) ⟨hb.1, by have := (List.getElem?_eq_some_iff.1 hd).1; omega⟩
  refine ⟨hs.1, hlt, ?_⟩
  rw [swL_at h (by omega), show (((swF n x).toNat : Nat) : Int) = swF n x by omega, swF_swF]
theorem swX_uses {sig : List Dcl} (hc : checkB sig = true) {n : Nat} (h : n + 1 < sig.length) : ∀ d, (swX sig n)[n + 1]? = some d → usesT n d.c = false := by
  intro d hd
  obtain ⟨e, he, hx⟩ := swX_at h (show n + 1 < sig.length from h)
  rw [hx] at hd
  injection hd with hd
  subst hd
  have e1 : swF n ((n + 1 : Nat) : Int) = n := by unfold swF; rw [if_neg (by omega), if_pos (by omega)]
  rw [e1] at he
  rw [← Bool.not_eq_true, uses_cn]
  simp only
  rw [rn_cn, List.mem_map]
  rintro ⟨x, hx, hxe⟩
  have hb := check_cn hc he x hx
  have : swF n x = x := by unfold swF; rw [if_neg (by omega), if_neg (by omega)]
  omega
theorem swX_swX {sig : List Dcl} {n : Nat} (h : n + 1 < sig.length) : swX (swX sig n) n = sig := by
  refine List.ext_getElem? fun k => ?_
  by_cases hk : k < sig.length
  · obtain ⟨d, hd, hx⟩ := swX_at (sig := swX sig n) (n := n) (by rw [swX_len]; exact h) (k := k) (by rw [swX_len]; exact hk)
    have hs := swF_in h (x := (k : Int)) ⟨by omega, by omega⟩
    obtain ⟨e, he, hy⟩ := swX_at h (k := (swF n k).toNat) (by omega)
    rw [hy] at hd
    injection hd with hd
    subst hd
    rw [show (((swF n (k : Int)).toNat : Nat) : Int) = swF n k by omega, swF_swF, Int.toNat_natCast] at he
    rw [hx, he]
    simp only
    rw [rn_rn, rn_id e.c (fun x _ => swF_swF n x)]
  · rw [List.getElem?_eq_none (by rw [swX_len, swX_len]; omega), List.getElem?_eq_none (by omega)]
/-- A constant is added. -/
theorem add_ok {sig : List Dcl} {d : Dcl} (h : addE sig d = 0) : checkB (sig ++ [d]) = true ∧ checkB sig = true := by
  unfold addE at h
  cases hc : checkB sig with
  | false => rw [hc] at h; cases h
  | true =>
    rw [hc] at h
    simp only at h
    cases hn : nameIn sig d.s with
    | true => rw [hn] at h; cases h
    | false =>
      rw [hn] at h
      simp only at h
      split at h
      · cases h
      · rename_i hl
        have hl := of_decide_eq_false hl
        split at h
        · rename_i hf
          refine ⟨?_, rfl⟩
          obtain ⟨c1, c2, c3⟩ := (check_iff sig).1 hc
          have old : ∀ (i : Nat) e, (sig ++ [d])[i]? = some e → i < sig.length ∧ sig[i]? = some e ∨ i = sig.length ∧ e = d := fun i e he => by
            rw [List.getElem?_append] at he
            split at he
            · exact .inl ⟨by assumption, he⟩
            · right
              have : i - sig.length = 0 := by
                have := (List.getElem?_eq_some_iff.1 he).1
                simp at this
                omega
              rw [this] at he
              simp at he
              exact ⟨by omega, he.symm⟩
          rw [check_iff]
          refine ⟨by simp; omega, fun i j a b hij ha hb hs => ?_, fun i e he => ?_⟩
          · rcases old i a ha with ⟨h1, ha2⟩ | ⟨h1, _⟩ <;> rcases old j b hb with ⟨h2, hb2⟩ | ⟨h2, hb2⟩
            · exact c2 i j a b hij ha2 hb2 hs
            · subst hb2
              have : nameIn sig b.s = true := (nameIn_iff _ _).2 ⟨a, List.mem_of_getElem? ha2, hs⟩
              rw [hn] at this
              cases this
            · omega
            · omega
          · rcases old i e he with ⟨h1, he'⟩ | ⟨h1, rfl⟩
            · obtain ⟨o1, o2, o3, o4, o5, o6⟩ := c3 i e he'
              refine ⟨o1, o2, o3, o4, o5, o6.imp id fun h => ⟨h.1, ?_⟩⟩
              have ht := nodes_targ o5 h.1
              have ht0 := targ_pos o1 h.1
              have := h.2
              unfold kindAt at this ⊢
              rwa [List.getElem?_append_left (by omega)]
            · subst h1
              rw [← formed_iff he, List.take_left]
              exact hf
        · cases h
theorem nums_eq (n : Nat) : woL (n + 1) (n : Int) = nums n := by
  unfold woL nums
  rw [upTo_no (by simp)]
  unfold upTo
  congr 1
  rw [List.filter_eq_self]
  intro i hi
  have := List.mem_range.1 hi
  simp
  omega
/-- Without what was added. -/
theorem add_without {sig : List Dcl} {d : Dcl} (h : addE sig d = 0) : withoutE (sig ++ [d]) sig.length = 0 ∧ withoutF (sig ++ [d]) sig.length = sig := by
  obtain ⟨hc, hc0⟩ := add_ok h
  have hh : hasE (sig ++ [d]) (sig.length : Int) = 0 := by
    unfold hasE
    rw [hc]
    simp only
    rw [decide_eq_false (by omega), decide_eq_false (by simp; omega)]
    rfl
  have hu : useAny (sig ++ [d]) (sig.length : Int) = false := by
    unfold useAny
    rw [List.any_eq_false]
    intro e he
    obtain ⟨i, hi⟩ := List.mem_iff_getElem?.1 he
    rw [uses_cn]
    intro hx
    have := check_cn hc hi _ hx
    have := (List.getElem?_eq_some_iff.1 hi).1
    simp at this
    omega
  have hE : withoutE (sig ++ [d]) (sig.length : Int) = 0 := by
    unfold withoutE
    rw [hh, hu]
    rfl
  refine ⟨hE, ?_⟩
  unfold withoutF
  rw [hE]
  simp only [decide_true]
  rw [show (sig ++ [d]).length = sig.length + 1 by simp, nums_eq]
  unfold chosenF
  have hnd : ∀ (i j : Nat) a, i < j → (nums sig.length)[i]? = some a → (nums sig.length)[j]? = some a → False := fun i j a hij hi hj => by
    have h1 := (List.getElem?_eq_some_iff.1 hi).1
    have h2 := (List.getElem?_eq_some_iff.1 hj).1
    rw [nums_len] at h1 h2
    rw [nums_at h1] at hi
    rw [nums_at h2] at hj
    rw [← hi] at hj
    injection hj with hj
    omega
  refine List.ext_getElem? fun k => ?_
  rw [List.getElem?_map]
  by_cases hk : k < sig.length
  · rw [nums_at hk]
    simp only [Option.map_some]
    have hd : (sig ++ [d])[((k : Int)).toNat]? = some sig[k] := by rw [Int.toNat_natCast, List.getElem?_append_left hk, List.getElem?_eq_getElem hk]
    rw [pickD_at hd, rn_id _ (fun x hx => ?_), List.getElem?_eq_getElem hk]
    have hb := check_cn hc0 (List.getElem?_eq_getElem hk) x hx
    have hx0 : (nums sig.length)[x.toNat]? = some x := by rw [nums_at (by omega)]; congr 1; omega
    rw [mget_at hnd hx0]
    omega
  · rw [List.getElem?_eq_none (by rw [nums_len]; omega), List.getElem?_eq_none (by omega)]
    rfl
theorem rename_ok {sig : List Dcl} {n : Nat} {d : Dcl} (hd : sig[n]? = some d) {s : ByteArray} (h : renameE sig n s = 0) :
    checkB sig = true ∧ renameF sig n s = sig.set n ⟨s, d.c, d.i⟩ ∧ nameElse sig n s = false ∧ nameF s = true ∧ checkB (sig.set n ⟨s, d.c, d.i⟩) = true := by
  have hF : renameF sig n s = sig.set n ⟨s, d.c, d.i⟩ := by
    unfold renameF setName
    rw [h]
    simp only [decide_true]
    rw [Int.toNat_natCast, hd]
  unfold renameE at h
  split at h
  · rename_i h0
    exact absurd h (of_decide_eq_false h0)
  · rename_i h0
    obtain ⟨hc, h1, h2⟩ := hasE_ok (of_decide_eq_true h0)
    cases hn : nameElse sig n s with
    | true => rw [hn] at h; cases h
    | false =>
      rw [hn] at h
      simp only at h
      split at h
      · rename_i hnm
        refine ⟨hc, hF, rfl, hnm, ?_⟩
        have hlt : n < sig.length := by omega
        have els : ∀ (k : Nat) e, k ≠ n → sig[k]? = some e → e.s ≠ s := fun k e hk he hs => by
          unfold nameElse at hn
          rw [List.any_eq_false] at hn
          have := hn k (List.mem_range.2 (List.getElem?_eq_some_iff.1 he).1)
          rw [he] at this
          simp only [hs, decide_true, Bool.and_true, Bool.not_eq_true', decide_eq_false_iff_not] at this
          exact this (by omega)
        obtain ⟨c1, c2, c3⟩ := (check_iff sig).1 hc
        have old : ∀ (i : Nat) e, (sig.set n ⟨s, d.c, d.i⟩)[i]? = some e → i ≠ n ∧ sig[i]? = some e ∨ i = n ∧ e = ⟨s, d.c, d.i⟩ := fun i e he => by
          by_cases hi : i = n
          · subst hi
            rw [List.getElem?_set_self hlt] at he
            injection he with he
            exact .inr ⟨rfl, he.symm⟩
          · rw [List.getElem?_set_ne (by omega)] at he
            exact .inl ⟨hi, he⟩
        have kin : ∀ x, kindAt (sig.set n ⟨s, d.c, d.i⟩) x = kindAt sig x := fun x => by
          unfold kindAt
          by_cases hx : x.toNat = n
          · rw [hx, List.getElem?_set_self hlt, hd]
          · rw [List.getElem?_set_ne (by omega)]
        rw [check_iff]
        refine ⟨by rw [List.length_set]; exact c1, fun i j a b hij ha hb hs => ?_, fun i e he => ?_⟩
        · rcases old i a ha with ⟨h3, ha⟩ | ⟨h3, rfl⟩ <;> rcases old j b hb with ⟨h4, hb⟩ | ⟨h4, rfl⟩
          · exact c2 i j a b hij ha hb hs
          · exact els i a h3 ha hs
          · exact els j b h4 hb hs.symm
          · omega
        · rcases old i e he with ⟨h3, he⟩ | ⟨rfl, rfl⟩
          · obtain ⟨o1, o2, o3, o4, o5, o6⟩ := c3 i e he
            exact ⟨o1, o2, o3, o4, o5, by rw [kin]; exact o6⟩
          · obtain ⟨o1, o2, o3, o4, o5, o6⟩ := c3 i d hd
            exact ⟨o1, hnm, o3, o4, o5, by rw [kin]; exact o6⟩
      · cases h
/-- Renamed, and renamed back. -/
theorem rename_back {sig : List Dcl} {n : Nat} {d : Dcl} (hd : sig[n]? = some d) {s : ByteArray} (h : renameE sig n s = 0) :
    renameE (sig.set n ⟨s, d.c, d.i⟩) n d.s = 0 ∧ renameF (sig.set n ⟨s, d.c, d.i⟩) n d.s = sig := by
  obtain ⟨hc, hF, hne, hnm, hcu⟩ := rename_ok hd h
  have hlt := (List.getElem?_eq_some_iff.1 hd).1
  obtain ⟨c1, c2, c3⟩ := (check_iff sig).1 hc
  have hh : hasE (sig.set n ⟨s, d.c, d.i⟩) n = 0 := by
    unfold hasE
    rw [hcu]
    simp only
    rw [decide_eq_false (by omega), decide_eq_false (by rw [List.length_set]; omega)]
    rfl
  have hn2 : nameElse (sig.set n ⟨s, d.c, d.i⟩) n d.s = false := by
    unfold nameElse
    rw [List.any_eq_false]
    intro k hk
    have hk := List.mem_range.1 hk
    rw [List.length_set] at hk
    by_cases hkn : k = n
    · subst hkn; simp
    · rw [List.getElem?_set_ne (by omega), List.getElem?_eq_getElem hk]
      have he : sig[k]? = some sig[k] := List.getElem?_eq_getElem hk
      have hs : sig[k].s ≠ d.s := by
        rcases Nat.lt_or_gt_of_ne hkn with h1 | h1
        · exact c2 k n _ _ h1 he hd
        · exact fun h => c2 n k _ _ h1 hd he h.symm
      simp [hs]
  have hE : renameE (sig.set n ⟨s, d.c, d.i⟩) n d.s = 0 := by
    unfold renameE
    rw [hh, hn2, (c3 n d hd).2.1]
    rfl
  refine ⟨hE, ?_⟩
  unfold renameF setName
  rw [hE]
  simp only [decide_true]
  rw [Int.toNat_natCast, List.getElem?_set_self hlt]
  simp only
  rw [List.set_set]
  refine List.ext_getElem? fun k => ?_
  by_cases hk : k = n
  · subst hk
    rw [List.getElem?_set_self hlt, hd]
  · rw [List.getElem?_set_ne (by omega)]
theorem rename_find {sig : List Dcl} {n : Nat} {d : Dcl} (hd : sig[n]? = some d) {s : ByteArray} (h : renameE sig n s = 0) :
    nameIn (sig.set n ⟨s, d.c, d.i⟩) s = true ∧ findI (sig.set n ⟨s, d.c, d.i⟩) s = n := by
  obtain ⟨hc, hF, hne, hnm, hcu⟩ := rename_ok hd h
  have hlt := (List.getElem?_eq_some_iff.1 hd).1
  have hat : (sig.set n ⟨s, d.c, d.i⟩)[n]? = some ⟨s, d.c, d.i⟩ := List.getElem?_set_self hlt
  refine ⟨nameIn_yes hat rfl, ?_⟩
  unfold findI
  rw [find_at hat rfl fun q e hq he hs => ?_]
  obtain ⟨_, c2, _⟩ := (check_iff _).1 hcu
  exact c2 q n e _ hq he hat hs
end Go.Tr
