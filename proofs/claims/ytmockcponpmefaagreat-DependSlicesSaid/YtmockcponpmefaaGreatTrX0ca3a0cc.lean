/- What each function computes, and the plain laws of it. -/
import Derived.Test.YtmockcponpmefaaGreatRows
import Derived.Test.YtmockcponpmefaaGreatTrX4b899ee9
set_option linter.unusedVariables false
set_option linter.unusedSimpArgs false
set_option linter.unnecessarySimpa false
set_option linter.constructorNameAsVariable false
set_option autoImplicit false
/- depend.Slice. -/
namespace Go.Tr
open Go.Proofs
theorem drow_setv (d : Nat → Bool) (v : Bool) {a : Nat} (ha : a < 100) : 0 + (a : Int).toNat * 1 + 1 ≤ (drow d).length ∧ (drow d).set (0 + (a : Int).toNat * 1) (.bool v) = drow (fun x => if x = a then v else d x) := by
  rw [Int.toNat_natCast, Nat.zero_add, Nat.mul_one, drow_len]
  refine ⟨by omega, List.ext_getElem? fun k => ?_⟩
  rw [List.getElem?_set]
  unfold drow
  by_cases hk : a = k
  · subst hk
    rw [if_pos rfl, if_pos (by simp; omega), List.getElem?_map, List.getElem?_range (by omega)]
    simp
  · rw [if_neg hk, List.getElem?_map, List.getElem?_map]
    by_cases hl : k < 100
    · rw [List.getElem?_range hl]
      have : ¬ k = a := fun e => hk e.symm
      simp [this]
    · rw [List.getElem?_eq_none (by simp; omega)]
      rfl
theorem drow_ext {d e : Nat → Bool} (h : ∀ x, x < 100 → d x = e x) : drow d = drow e := by
  unfold drow
  refine List.map_congr_left fun j hj => ?_
  rw [h j (by simpa using hj)]
def inR2 (n : Nat) (x : Int) : Bool := decide (0 ≤ x) && decide (x < n)
def slcE (sig : List Dcl) (l : List Int) : Int := match checkB sig with | false => 2 | true => (match l.all (inR2 sig.length) with | true => 0 | false => 6)
def slcO (sig : List Dcl) (l : List Int) : List Int := match decide (slcE sig l = 0) with | true => upTo (rowF (needM sig) l) sig.length | false => []
def slcF (sig : List Dcl) (l : List Int) : List Dcl := match decide (slcE sig l = 0) with | true => chosenF sig (slcO sig l) | false => []
theorem upTo_bd {p : Nat → Bool} {n : Nat} : ∀ x ∈ upTo p n, 0 ≤ x ∧ x < n := by
  intro x hx
  unfold upTo at hx
  rw [List.mem_map] at hx
  obtain ⟨y, hy, rfl⟩ := hx
  have := (List.mem_filter.1 hy).1
  rw [List.mem_range] at this
  omega
theorem rowF_snoc (M : Nat → Nat → Bool) (L : List Int) (q b : Nat) : rowF M (L ++ [(q : Int)]) b = (rowF M L b || (decide (b = q) || M q b)) := by
  unfold rowF
  rw [List.any_append]
  have : decide ((b : Int) = (q : Int)) = decide (b = q) := decide_eq_decide.2 (by omega)
  simp [this]
section
set_option maxHeartbeats 1000000 in
theorem cSlice (sig : List Dcl) (l : List Int) : CallSt Tryz.prog 16 [.c (.sl 6 72 (dcs sig)), .c (.sl 1 8 (rowI l))] [] (fun r H' => r = .tup [.c (.sl 6 72 (dcs (slcF sig l))), .c (.sl 1 8 (rowI (slcO sig l))), .c (.int .i64 (slcE sig l))] ∧ H' = []) := by
  have hck := cCheck sig
  have hbl := len_dcs sig
  have hrl := len_rowI l
  cases hc : checkB sig with
  | false =>
    have e0 : slcE sig l = 2 := by unfold slcE; rw [hc]
    have e1 : slcO sig l = [] := by unfold slcO; rw [e0]; rfl
    have e2 : slcF sig l = [] := by unfold slcF; rw [e0]; rfl
    rw [e0, e1, e2]
    rw [hc] at hck
    refine call_pure (E := envB 0) (fn := Tryz.f16) (c := bodyOf Tryz.f16) (envB_ok 0) mixed (by kernel_rfl) (by kernel_rfl) (by kernel_rfl) (by kernel_rfl) (by kernel_rfl) (by kernel_rfl) rfl ?_
    conv => whnf
    try (refine dI (by kernel_rfl) ?_; conv => whnf)
    first | refine CallSt.use hck [] trivial (by decide) rfl ?_ | refine CallPt.useS hck [] trivial (by decide) rfl ?_
    rintro _ _ ⟨rfl, rfl⟩ _
    conv => whnf
    repeat ((first | refine aI rfl ?_ | refine aI (by decide) ?_ | refine dI (by kernel_rfl) ?_ | refine aI ⟨by omega, by omega⟩ ?_ | refine aI (by omega) ?_ | refine aI (fun _ => ⟨by omega, by omega⟩) ?_ | refine aI (of_decide_eq_true rfl) ?_ | (refine yI ?_ ?_; focus (first | decide | (simp; done) | (simp [tcs]; done))) | (refine nI ?_ ?_; focus (first | decide | (simp; done) | (simp [tcs]; done))) | intro _); conv => whnf)
    all_goals (first | rfl | exact ⟨rfl, rfl⟩ | exact ⟨rfl, rfl, rfl⟩)
  | true =>
    have hnd := cNeeds sig hc
    have hl := check_len hc
    have hch := cChosen sig (check_prop hc) (upTo (rowF (needM sig) l) sig.length) (by have := upTo_len (rowF (needM sig) l) sig.length; omega) upTo_bd
    rw [hc] at hck
    have hE : l.all (inR2 sig.length) = true → slcE sig l = 0 ∧ slcO sig l = upTo (rowF (needM sig) l) sig.length ∧ slcF sig l = chosenF sig (upTo (rowF (needM sig) l) sig.length) := fun h => by
      have e0 : slcE sig l = 0 := by unfold slcE; rw [hc, h]
      have e1 : slcO sig l = upTo (rowF (needM sig) l) sig.length := by unfold slcO; rw [e0]; rfl
      refine ⟨e0, e1, ?_⟩
      unfold slcF
      rw [e0, e1]
      rfl
    have hB : l.all (inR2 sig.length) = false → slcE sig l = 6 ∧ slcO sig l = [] ∧ slcF sig l = [] := fun h => by
      have e0 : slcE sig l = 6 := by unfold slcE; rw [hc, h]
      exact ⟨e0, by unfold slcO; rw [e0]; rfl, by unfold slcF; rw [e0]; rfl⟩
    generalize needM sig = fm at *
    generalize chosenF sig (upTo (rowF fm l) sig.length) = X at *
    generalize slcE sig l = E0 at *
    generalize slcO sig l = O0 at *
    generalize slcF sig l = F0 at *
    refine call_pure (E := envB 0) (fn := Tryz.f16) (c := bodyOf Tryz.f16) (envB_ok 0) mixed (by kernel_rfl) (by kernel_rfl) (by kernel_rfl) (by kernel_rfl) (by kernel_rfl) (by kernel_rfl) rfl ?_
    conv => whnf
    try (refine dI (by kernel_rfl) ?_; conv => whnf)
    first | refine CallSt.use hck [] trivial (by decide) rfl ?_ | refine CallPt.useS hck [] trivial (by decide) rfl ?_
    rintro _ _ ⟨rfl, rfl⟩ _
    conv => whnf
    repeat ((first | refine aI rfl ?_ | refine aI (by decide) ?_ | refine dI (by kernel_rfl) ?_ | refine aI ⟨by omega, by omega⟩ ?_ | refine aI (by omega) ?_ | refine aI (fun _ => ⟨by omega, by omega⟩) ?_ | refine aI (of_decide_eq_true rfl) ?_ | (refine yI ?_ ?_; focus (first | decide | (simp; done) | (simp [tcs]; done))) | (refine nI ?_ ?_; focus (first | decide | (simp; done) | (simp [tcs]; done))) | intro _); conv => whnf)
    try (refine dI (by kernel_rfl) ?_; conv => whnf)
    first | refine CallSt.use hnd [] trivial (by decide) rfl ?_ | refine CallPt.useS hnd [] trivial (by decide) rfl ?_
    rintro _ _ ⟨rfl, rfl⟩ _
    conv => whnf
    repeat ((first | refine aI rfl ?_ | refine aI (by decide) ?_ | refine dI (by kernel_rfl) ?_ | refine aI ⟨by omega, by omega⟩ ?_ | refine aI (by omega) ?_ | refine aI (fun _ => ⟨by omega, by omega⟩) ?_ | refine aI (of_decide_eq_true rfl) ?_ | (refine yI ?_ ?_; focus (first | decide | (simp; done) | (simp [tcs]; done))) | (refine nI ?_ ?_; focus (first | decide | (simp; done) | (simp [tcs]; done))) | intro _); conv => whnf)
    refine ⟨drow (fun _ => false), big100, drow_len _, ?_⟩
    conv => whnf
    repeat ((first | refine aI rfl ?_ | refine aI (by decide) ?_ | refine dI (by kernel_rfl) ?_ | refine aI ⟨by omega, by omega⟩ ?_ | refine aI (by omega) ?_ | refine aI (fun _ => ⟨by omega, by omega⟩) ?_ | refine aI (of_decide_eq_true rfl) ?_ | (refine yI ?_ ?_; focus (first | decide | (simp; done) | (simp [tcs]; done))) | (refine nI ?_ ?_; focus (first | decide | (simp; done) | (simp [tcs]; done))) | intro _); conv => whnf)
    have hlb : (rowI l).length * 8 ≤ 140737488355328 := ‹gd [] true ((rowI l).length * 8 ≤ 140737488355328)›
    refine loop_intro (fun m tm H => ∃ (i : Nat), l.length = m + i ∧ (∀ (q : Nat) x, q < i → l[q]? = some x → inR2 sig.length x = true) ∧
      tm = [(25, .c (.int .i64 (i))), (24, .c (.int .i64 ((rowI l).length))), (23, .c (.sl 1 8 (rowI l))), (0, .c (.sl 6 72 (dcs sig))), (8, .elt 0 10000 0 0), (9, .elt 1 100 0 0)] ∧ H = [.row 106 10000 1 [mrow fm], .row 82 100 1 [drow (rowF fm (l.take i))]])
      l.length _ _ ⟨0, by omega, fun q x h => absurd h (by omega), rfl, rfl⟩ (Wk.sl [0, 1] rfl ⟨rfl, rfl, trivial⟩ ⟨rfl, rfl, rfl, rfl, rfl, rfl, trivial⟩ rfl) ?_
    rintro m tm H ⟨i, hi, hall, rfl, rfl⟩
    conv => whnf
    refine ⟨fun hlt => ?_, fun hlt => ?_⟩
    · replace hlt : (i : Int) < (rowI l).length := of_decide_eq_true hlt
      obtain ⟨x, hx⟩ : ∃ x, l[i]? = some x := ⟨l[i]'(by omega), List.getElem?_eq_getElem (by omega)⟩
      have hxr := rowI_at hx
      cases hb : inR2 sig.length x with
      | false =>
        obtain ⟨rfl, rfl, rfl⟩ := hB (List.all_eq_false.2 ⟨x, List.mem_of_getElem? hx, by rw [hb]; decide⟩)
        have eC : (decide (x < 0) || decide (((dcs sig).length : Int) ≤ x)) = true := by
          unfold inR2 at hb
          rw [Bool.and_eq_false_iff, decide_eq_false_iff_not, decide_eq_false_iff_not] at hb
          rw [Bool.or_eq_true, decide_eq_true_eq, decide_eq_true_eq]
          omega
        conv => whnf
        repeat ((first | refine aI rfl ?_ | refine aI (by decide) ?_ | refine dI (by kernel_rfl) ?_ | refine aI ⟨by omega, by omega⟩ ?_ | refine aI (by omega) ?_ | refine aI (fun _ => ⟨by omega, by omega⟩) ?_ | refine aI (of_decide_eq_true rfl) ?_ | (refine yI ?_ ?_; focus (first | decide | (simp; done) | (simp [tcs]; done))) | (refine nI ?_ ?_; focus (first | decide | (simp; done) | (simp [tcs]; done))) | intro _); conv => whnf)
        refine ⟨_, ⟨by omega, by simpa using hxr⟩, ?_⟩
        conv => whnf
        refine ⟨Nat.le_refl 1, ?_⟩
        conv => whnf
        repeat ((first | refine aI rfl ?_ | refine aI (by decide) ?_ | refine dI (by kernel_rfl) ?_ | refine aI ⟨by omega, by omega⟩ ?_ | refine aI (by omega) ?_ | refine aI (fun _ => ⟨by omega, by omega⟩) ?_ | refine aI (of_decide_eq_true rfl) ?_ | (refine yI ?_ ?_; focus (first | decide | (simp; done) | (simp [tcs]; done))) | (refine nI ?_ ?_; focus (first | decide | (simp; done) | (simp [tcs]; done))) | intro _); conv => whnf)
        rw [eC]
        (refine ⟨fun _ => ?_, fun h => absurd h ?_⟩; rotate_left; (focus (first | decide | (simp; done) | (simp [tcs]; done))); conv => whnf)
        repeat ((first | refine aI rfl ?_ | refine aI (by decide) ?_ | refine dI (by kernel_rfl) ?_ | refine aI ⟨by omega, by omega⟩ ?_ | refine aI (by omega) ?_ | refine aI (fun _ => ⟨by omega, by omega⟩) ?_ | refine aI (of_decide_eq_true rfl) ?_ | (refine yI ?_ ?_; focus (first | decide | (simp; done) | (simp [tcs]; done))) | (refine nI ?_ ?_; focus (first | decide | (simp; done) | (simp [tcs]; done))) | intro _); conv => whnf)
        all_goals (first | rfl | exact ⟨rfl, rfl⟩ | exact ⟨rfl, rfl, rfl⟩)
      | true =>
        have hb' := hb
        unfold inR2 at hb'
        rw [Bool.and_eq_true, decide_eq_true_eq, decide_eq_true_eq] at hb'
        obtain ⟨q, rfl⟩ : ∃ q : Nat, x = q := ⟨x.toNat, by omega⟩
        have eC : (decide ((q : Int) < 0) || decide (((dcs sig).length : Int) ≤ (q : Int))) = false := by
          rw [decide_eq_false (by omega), decide_eq_false (by omega)]
          rfl
        have hnx : ∀ (p : Nat) y, p < i + 1 → l[p]? = some y → inR2 sig.length y = true := fun p y hp hy => by
          by_cases e : p < i
          · exact hall p y e hy
          · obtain rfl : p = i := by omega
            rw [hx] at hy
            injection hy with hy
            rw [← hy]
            exact hb
        have hst : ∀ b, rowF fm (l.take (i + 1)) b = (rowF fm (l.take i) b || (decide (b = q) || fm q b)) := fun b => by
          rw [← rowF_snoc, List.take_add_one, hx]
          rfl
        generalize hfq : rowF fm (l.take i) = fq at *
        conv => whnf
        repeat ((first | refine aI rfl ?_ | refine aI (by decide) ?_ | refine dI (by kernel_rfl) ?_ | refine aI ⟨by omega, by omega⟩ ?_ | refine aI (by omega) ?_ | refine aI (fun _ => ⟨by omega, by omega⟩) ?_ | refine aI (of_decide_eq_true rfl) ?_ | (refine yI ?_ ?_; focus (first | decide | (simp; done) | (simp [tcs]; done))) | (refine nI ?_ ?_; focus (first | decide | (simp; done) | (simp [tcs]; done))) | intro _); conv => whnf)
        refine ⟨_, ⟨by omega, by simpa using hxr⟩, ?_⟩
        conv => whnf
        refine ⟨Nat.le_refl 1, ?_⟩
        conv => whnf
        repeat ((first | refine aI rfl ?_ | refine aI (by decide) ?_ | refine dI (by kernel_rfl) ?_ | refine aI ⟨by omega, by omega⟩ ?_ | refine aI (by omega) ?_ | refine aI (fun _ => ⟨by omega, by omega⟩) ?_ | refine aI (of_decide_eq_true rfl) ?_ | (refine yI ?_ ?_; focus (first | decide | (simp; done) | (simp [tcs]; done))) | (refine nI ?_ ?_; focus (first | decide | (simp; done) | (simp [tcs]; done))) | intro _); conv => whnf)
        rw [eC]
        (refine ⟨fun h => absurd h ?_, fun _ => ?_⟩; (focus (first | decide | (simp; done) | (simp [tcs]; done))); conv => whnf)
        repeat ((first | refine aI rfl ?_ | refine aI (by decide) ?_ | refine dI (by kernel_rfl) ?_ | refine aI ⟨by omega, by omega⟩ ?_ | refine aI (by omega) ?_ | refine aI (fun _ => ⟨by omega, by omega⟩) ?_ | refine aI (of_decide_eq_true rfl) ?_ | (refine yI ?_ ?_; focus (first | decide | (simp; done) | (simp [tcs]; done))) | (refine nI ?_ ?_; focus (first | decide | (simp; done) | (simp [tcs]; done))) | intro _); conv => whnf)
        refine ⟨_, _, rfl, drow_set fq (by omega), ?_⟩
        conv => whnf
        repeat ((first | refine aI rfl ?_ | refine aI (by decide) ?_ | refine dI (by kernel_rfl) ?_ | refine aI ⟨by omega, by omega⟩ ?_ | refine aI (by omega) ?_ | refine aI (fun _ => ⟨by omega, by omega⟩) ?_ | refine aI (of_decide_eq_true rfl) ?_ | (refine yI ?_ ?_; focus (first | decide | (simp; done) | (simp [tcs]; done))) | (refine nI ?_ ?_; focus (first | decide | (simp; done) | (simp [tcs]; done))) | intro _); conv => whnf)
        refine ⟨_, rfl, load_row rfl (by omega) ?_⟩
        conv => whnf
        repeat ((first | refine aI rfl ?_ | refine aI (by decide) ?_ | refine dI (by kernel_rfl) ?_ | refine aI ⟨by omega, by omega⟩ ?_ | refine aI (by omega) ?_ | refine aI (fun _ => ⟨by omega, by omega⟩) ?_ | refine aI (of_decide_eq_true rfl) ?_ | (refine yI ?_ ?_; focus (first | decide | (simp; done) | (simp [tcs]; done))) | (refine nI ?_ ?_; focus (first | decide | (simp; done) | (simp [tcs]; done))) | intro _); conv => whnf)
        refine loop_intro (fun m tm H => ∃ (s : Nat) (fs : Nat → Bool), 100 = m + s ∧ (∀ b, fs b = ((fq b || decide (b = q)) || (decide (b < s) && fm q b))) ∧
          tm = [(44, .c (.int .i64 (s))), (43, .agg (lrow fm q)), (25, .c (.int .i64 (i))), (24, .c (.int .i64 ((rowI l).length))), (23, .c (.sl 1 8 (rowI l))), (0, .c (.sl 6 72 (dcs sig))), (8, .elt 0 10000 0 0), (9, .elt 1 100 0 0)] ∧ H = [.row 106 10000 1 [mrow fm], .row 82 100 1 [drow fs]])
          100 _ _ ⟨0, updD fq q, by omega, fun b => by simp [updD], rfl, rfl⟩ (Wk.sl [0, 1] rfl ⟨rfl, rfl, trivial⟩ ⟨rfl, ren_lrow _ fm q, rfl, rfl, rfl, rfl, rfl, rfl, trivial⟩ rfl) ?_
        rintro m2 tm H ⟨s, fs, hs, hfs, rfl, rfl⟩
        conv => whnf
        refine ⟨fun hc3 => ?_, fun hc3 => ?_⟩
        · replace hc3 : (s : Int) < 100 := of_decide_eq_true hc3
          obtain ⟨f2, hf2⟩ : ∃ f2 : Nat → Bool, ∀ b, f2 b = (if b = s then (fs s || fm q s) else fs b) := ⟨_, fun _ => rfl⟩
          have hds : (drow fs)[0 + (s : Int).toNat * 1]? = some (.bool (fs s)) := drow_at fs (by omega)
          have hdv := drow_setv fs (fs s || fm q s) (show s < 100 by omega)
          rw [show (fun x => if x = s then (fs s || fm q s) else fs x) = f2 from funext fun b => (hf2 b).symm] at hdv
          have hf3 : ∀ b, f2 b = ((fq b || decide (b = q)) || (decide (b < s + 1) && fm q b)) := fun b => by
            rw [hf2]
            by_cases e : b = s
            · rw [if_pos e, hfs, e, decide_eq_false (show ¬ s < s by omega), decide_eq_true (show s < s + 1 by omega)]
              simp
            · rw [if_neg e, hfs]
              have : decide (b < s + 1) = decide (b < s) := decide_eq_decide.2 (by omega)
              rw [this]
          conv => whnf
          repeat ((first | refine aI rfl ?_ | refine aI (by decide) ?_ | refine dI (by kernel_rfl) ?_ | refine aI ⟨by omega, by omega⟩ ?_ | refine aI (by omega) ?_ | refine aI (fun _ => ⟨by omega, by omega⟩) ?_ | refine aI (of_decide_eq_true rfl) ?_ | (refine yI ?_ ?_; focus (first | decide | (simp; done) | (simp [tcs]; done))) | (refine nI ?_ ?_; focus (first | decide | (simp; done) | (simp [tcs]; done))) | intro _); conv => whnf)
          refine ⟨fm q s, lrow_at fm q (by omega), ?_⟩
          conv => whnf
          repeat ((first | refine aI rfl ?_ | refine aI (by decide) ?_ | refine dI (by kernel_rfl) ?_ | refine aI ⟨by omega, by omega⟩ ?_ | refine aI (by omega) ?_ | refine aI (fun _ => ⟨by omega, by omega⟩) ?_ | refine aI (of_decide_eq_true rfl) ?_ | (refine yI ?_ ?_; focus (first | decide | (simp; done) | (simp [tcs]; done))) | (refine nI ?_ ?_; focus (first | decide | (simp; done) | (simp [tcs]; done))) | intro _); conv => whnf)
          refine ⟨fs s, ⟨_, rfl, hds⟩, ?_⟩
          conv => whnf
          repeat ((first | refine aI rfl ?_ | refine aI (by decide) ?_ | refine dI (by kernel_rfl) ?_ | refine aI ⟨by omega, by omega⟩ ?_ | refine aI (by omega) ?_ | refine aI (fun _ => ⟨by omega, by omega⟩) ?_ | refine aI (of_decide_eq_true rfl) ?_ | (refine yI ?_ ?_; focus (first | decide | (simp; done) | (simp [tcs]; done))) | (refine nI ?_ ?_; focus (first | decide | (simp; done) | (simp [tcs]; done))) | intro _); conv => whnf)
          refine ⟨_, _, rfl, hdv, ?_⟩
          conv => whnf
          repeat ((first | refine aI rfl ?_ | refine aI (by decide) ?_ | refine dI (by kernel_rfl) ?_ | refine aI ⟨by omega, by omega⟩ ?_ | refine aI (by omega) ?_ | refine aI (fun _ => ⟨by omega, by omega⟩) ?_ | refine aI (of_decide_eq_true rfl) ?_ | (refine yI ?_ ?_; focus (first | decide | (simp; done) | (simp [tcs]; done))) | (refine nI ?_ ?_; focus (first | decide | (simp; done) | (simp [tcs]; done))) | intro _); conv => whnf)
          exact ⟨m2 - 1, _, _, by omega, ⟨s + 1, f2, by omega, hf3, rfl, rfl⟩, Wk.sl [0, 1] rfl ⟨rfl, rfl, trivial⟩ ⟨rfl, ren_lrow _ fm q, rfl, rfl, rfl, rfl, rfl, rfl, trivial⟩ rfl⟩
        · replace hc3 : ¬ (s : Int) < 100 := of_decide_eq_false hc3
          obtain rfl : s = 100 := by omega
          have hend : drow fs = drow (rowF fm (l.take (i + 1))) := drow_ext fun b hb => by
            rw [hst, hfs, decide_eq_true hb, Bool.true_and, Bool.or_assoc]
          rw [hend]
          conv => whnf
          repeat ((first | refine aI rfl ?_ | refine aI (by decide) ?_ | refine dI (by kernel_rfl) ?_ | refine aI ⟨by omega, by omega⟩ ?_ | refine aI (by omega) ?_ | refine aI (fun _ => ⟨by omega, by omega⟩) ?_ | refine aI (of_decide_eq_true rfl) ?_ | (refine yI ?_ ?_; focus (first | decide | (simp; done) | (simp [tcs]; done))) | (refine nI ?_ ?_; focus (first | decide | (simp; done) | (simp [tcs]; done))) | intro _); conv => whnf)
          exact ⟨m - 1, _, _, by omega, ⟨i + 1, by omega, hnx, rfl, rfl⟩, Wk.sl [0, 1] rfl ⟨rfl, rfl, trivial⟩ ⟨rfl, rfl, rfl, rfl, rfl, rfl, trivial⟩ rfl⟩
    · replace hlt : ¬ (i : Int) < (rowI l).length := of_decide_eq_false hlt
      obtain rfl : i = l.length := by omega
      obtain ⟨rfl, rfl, rfl⟩ := hE (List.all_eq_true.2 fun x hx => by
        obtain ⟨p, hp⟩ := List.mem_iff_getElem?.1 hx
        exact hall p x (List.getElem?_eq_some_iff.1 hp).1 hp)
      rw [List.take_length]
      generalize rowF fm l = fl at *
      conv => whnf
      repeat ((first | refine aI rfl ?_ | refine aI (by decide) ?_ | refine dI (by kernel_rfl) ?_ | refine aI ⟨by omega, by omega⟩ ?_ | refine aI (by omega) ?_ | refine aI (fun _ => ⟨by omega, by omega⟩) ?_ | refine aI (of_decide_eq_true rfl) ?_ | (refine yI ?_ ?_; focus (first | decide | (simp; done) | (simp [tcs]; done))) | (refine nI ?_ ?_; focus (first | decide | (simp; done) | (simp [tcs]; done))) | intro _); conv => whnf)
      refine loop_intro (fun m tm H => ∃ j : Nat, sig.length = m + j ∧
        tm = [(60, .c (.int .i64 (j))), (59, .c (.int .i64 ((dcs sig).length))), (0, .c (.sl 6 72 (dcs sig))), (9, .elt 0 100 0 0), (14, .own 1)] ∧ H = [.row 82 100 1 [drow fl], .row 3 1 8 (rowI (upTo fl j))])
        sig.length _ _ ⟨0, by omega, rfl, rfl⟩ ?_ ?_
      · refine Wk.trans (tm1 := [(60, .c (.int .i64 (0))), (59, .c (.int .i64 ((dcs sig).length))), (0, .c (.sl 6 72 (dcs sig))), (9, .elt 0 100 0 0), (14, .nil)]) (H1 := [.row 82 100 1 [drow fl]]) ?_ (Wk.trans (Wk.niltmp 14 3 1 8 rfl rfl) ?_)
        · exact Wk.sl [1] rfl ⟨rfl, trivial⟩ ⟨rfl, rfl, rfl, rfl, rfl, trivial⟩ rfl
        · exact Wk.sl [0, 1] rfl ⟨rfl, rfl, trivial⟩ ⟨rfl, rfl, rfl, rfl, rfl, trivial⟩ rfl
      rintro m tm H ⟨j, hj, rfl, rfl⟩
      conv => whnf
      refine ⟨fun hlt2 => ?_, fun hlt2 => ?_⟩
      · replace hlt2 : (j : Int) < (dcs sig).length := of_decide_eq_true hlt2
        have hrl2 := len_rowI (upTo fl j)
        have hul := upTo_len fl j
        have hl2 : ((rowI (upTo fl j)).length + 1) * 8 ≤ 140737488355328 := by omega
        have hl3 : (rowI (upTo fl j)).length + 1 ≤ 9223372036854775807 := by omega
        have hdj : (drow fl)[0 + (j : Int).toNat * 1]? = some (.bool (fl j)) := drow_at fl (by omega)
        conv => whnf
        repeat ((first | refine aI rfl ?_ | refine aI (by decide) ?_ | refine dI (by kernel_rfl) ?_ | refine aI ⟨by omega, by omega⟩ ?_ | refine aI (by omega) ?_ | refine aI (fun _ => ⟨by omega, by omega⟩) ?_ | refine aI (of_decide_eq_true rfl) ?_ | (refine yI ?_ ?_; focus (first | decide | (simp; done) | (simp [tcs]; done))) | (refine nI ?_ ?_; focus (first | decide | (simp; done) | (simp [tcs]; done))) | intro _); conv => whnf)
        refine ⟨fl j, ⟨_, rfl, hdj⟩, ?_⟩
        conv => whnf
        refine ⟨fun h2 => ?_, fun h2 => ?_⟩
        · conv => whnf
          refine ⟨by decide, ?_⟩
          conv => whnf
          refine ⟨by decide, ?_⟩
          conv => whnf
          refine ⟨hl2, hl3, ?_⟩
          conv => whnf
          repeat ((first | refine aI rfl ?_ | refine aI (by decide) ?_ | refine dI (by kernel_rfl) ?_ | refine aI ⟨by omega, by omega⟩ ?_ | refine aI (by omega) ?_ | refine aI (fun _ => ⟨by omega, by omega⟩) ?_ | refine aI (of_decide_eq_true rfl) ?_ | (refine yI ?_ ?_; focus (first | decide | (simp; done) | (simp [tcs]; done))) | (refine nI ?_ ?_; focus (first | decide | (simp; done) | (simp [tcs]; done))) | intro _); conv => whnf)
          refine ⟨m - 1, _, _, by omega, ⟨j + 1, by omega, rfl, rfl⟩, Wk.sl [0, 3] rfl ⟨rfl, ?_, trivial⟩ ⟨rfl, rfl, rfl, rfl, rfl, trivial⟩ rfl⟩
          rw [upTo_yes (p := fl) h2, ← rowI_snoc]
          rfl
        · conv => whnf
          repeat ((first | refine aI rfl ?_ | refine aI (by decide) ?_ | refine dI (by kernel_rfl) ?_ | refine aI ⟨by omega, by omega⟩ ?_ | refine aI (by omega) ?_ | refine aI (fun _ => ⟨by omega, by omega⟩) ?_ | refine aI (of_decide_eq_true rfl) ?_ | (refine yI ?_ ?_; focus (first | decide | (simp; done) | (simp [tcs]; done))) | (refine nI ?_ ?_; focus (first | decide | (simp; done) | (simp [tcs]; done))) | intro _); conv => whnf)
          refine ⟨m - 1, _, _, by omega, ⟨j + 1, by omega, rfl, rfl⟩, Wk.sl [0, 1] rfl ⟨rfl, ?_, trivial⟩ ⟨rfl, rfl, rfl, rfl, rfl, trivial⟩ rfl⟩
          rw [upTo_no (p := fl) h2]
          rfl
      · replace hlt2 : ¬ (j : Int) < (dcs sig).length := of_decide_eq_false hlt2
        obtain rfl : j = sig.length := by omega
        conv => whnf
        repeat ((first | refine aI rfl ?_ | refine aI (by decide) ?_ | refine dI (by kernel_rfl) ?_ | refine aI ⟨by omega, by omega⟩ ?_ | refine aI (by omega) ?_ | refine aI (fun _ => ⟨by omega, by omega⟩) ?_ | refine aI (of_decide_eq_true rfl) ?_ | (refine yI ?_ ?_; focus (first | decide | (simp; done) | (simp [tcs]; done))) | (refine nI ?_ ?_; focus (first | decide | (simp; done) | (simp [tcs]; done))) | intro _); conv => whnf)
        try (refine dI (by kernel_rfl) ?_; conv => whnf)
        first | refine CallSt.use hch [] trivial (by decide) rfl ?_ | refine CallPt.useS hch [] trivial (by decide) rfl ?_
        rintro _ _ ⟨rfl, rfl⟩ _
        conv => whnf
        repeat ((first | refine aI rfl ?_ | refine aI (by decide) ?_ | refine dI (by kernel_rfl) ?_ | refine aI ⟨by omega, by omega⟩ ?_ | refine aI (by omega) ?_ | refine aI (fun _ => ⟨by omega, by omega⟩) ?_ | refine aI (of_decide_eq_true rfl) ?_ | (refine yI ?_ ?_; focus (first | decide | (simp; done) | (simp [tcs]; done))) | (refine nI ?_ ?_; focus (first | decide | (simp; done) | (simp [tcs]; done))) | intro _); conv => whnf)
        all_goals (first | rfl | exact ⟨rfl, rfl⟩ | exact ⟨rfl, rfl, rfl⟩)
end
end Go.Tr
/- Swap. -/
namespace Go.Tr
open Go.Proofs
theorem rowI_set (l : List Int) (i : Nat) (x : Int) : (rowI l).set i [.int .i64 x] = rowI (l.set i x) := by simp [rowI, List.map_set]
end Go.Tr
/- Without, Rename. -/
namespace Go.Tr
open Go.Proofs
end Go.Tr
/- Renumbered terms: the plain laws. -/
namespace Go.Tr
open Go.Proofs
mutual
def rnT (f : Int → Int) : Term → Term
  | .mk k l n ts => .mk k l (match decide (k = 4) && decide (l = 2) with | true => f n | false => n) (rnL f ts)
def rnL (f : Int → Int) : List Term → List Term
  | [] => []
  | t :: r => rnT f t :: rnL f r
end
mutual
theorem mapT_rn (f : Int → Int) : ∀ (t : Term) (i : Int), mapT (rnG f) t i = rnT f t
  | .mk k l n ts, i => by
    rw [mapT, rnT, ← mapL_rn f _ i ts 0]
    unfold rnG
    cases decide (k = 4) && decide (l = 2) <;> rfl
theorem mapL_rn (f : Int → Int) (k i : Int) : ∀ (ts : List Term) (j : Int), mapL (rnG f) k i j ts = rnL f ts
  | [], j => by rw [mapL, rnL]
  | t :: r, j => by rw [mapL, rnL, mapT_rn f t, mapL_rn f k i r]
end
mutual
def cnT : Term → List Int
  | .mk k l n ts => (match decide (k = 4) && decide (l = 2) with | true => [n] | false => []) ++ cnL ts
def cnL : List Term → List Int
  | [] => []
  | t :: r => cnT t ++ cnL r
end
mutual
theorem rn_congr {f g : Int → Int} : ∀ (t : Term), (∀ x ∈ cnT t, f x = g x) → rnT f t = rnT g t
  | .mk k l n ts, h => by
    rw [rnT, rnT, rnL_congr ts (fun x hx => h x (by rw [cnT]; exact List.mem_append.2 (.inr hx)))]
    cases hb : decide (k = 4) && decide (l = 2) with
    | false => rfl
    | true => rw [h n (by rw [cnT, hb]; simp)]
theorem rnL_congr {f g : Int → Int} : ∀ (ts : List Term), (∀ x ∈ cnL ts, f x = g x) → rnL f ts = rnL g ts
  | [], _ => by rw [rnL, rnL]
  | t :: r, h => by
    rw [rnL, rnL, rn_congr t (fun x hx => h x (by rw [cnL]; exact List.mem_append.2 (.inl hx))), rnL_congr r (fun x hx => h x (by rw [cnL]; exact List.mem_append.2 (.inr hx)))]
end
theorem hdOk_mk (P : Int → Bool) (k l n i : Int) (ts : List Term) : hdOk 2 P (.mk k l n ts) i = match decide (k = 4) && decide (l = 2) with | true => P n | false => true := by
  show (match decide (k = 4) && decide (l = 2) with | true => (match !decide ((2 : Int) = 1) with | true => P n | false => (match decide (i ≤ n) with | true => P (n - i) | false => true)) | false => true) = _
  cases decide (k = 4) && decide (l = 2) <;> rfl
theorem nodeOk_mk (m k l n i : Int) (ts : List Term) : nodeOk m (.mk k l n ts) i = ((!decide (l = 3)) && (!decide (l = 1) || decide (n < i)) && (!decide (l = 2) || decide (n < m))) := rfl
mutual
theorem all_cn (P : Int → Bool) : ∀ (t : Term) (i : Int), allT (hdOk 2 P) t i = true ↔ ∀ x ∈ cnT t, P x = true
  | .mk k l n ts, i => by
    rw [allT, Bool.and_eq_true, allL_cn P k i ts 0, cnT, hdOk_mk]
    cases decide (k = 4) && decide (l = 2) with
    | false => simp
    | true =>
      simp only
      constructor
      · rintro ⟨h1, h2⟩ x hx
        rcases List.mem_append.1 hx with hx | hx
        · rw [List.mem_singleton] at hx
          rw [hx]
          exact h1
        · exact h2 x hx
      · exact fun h => ⟨h n (by simp), fun x hx => h x (List.mem_append.2 (.inr hx))⟩
theorem allL_cn (P : Int → Bool) (k i : Int) : ∀ (ts : List Term) (j : Int), allL (hdOk 2 P) k i j ts = true ↔ ∀ x ∈ cnL ts, P x = true
  | [], j => by rw [allL, cnL]; simp
  | t :: r, j => by
    rw [allL, Bool.and_eq_true, all_cn P t, allL_cn P k i r, cnL]
    constructor
    · rintro ⟨h1, h2⟩ x hx
      rcases List.mem_append.1 hx with hx | hx
      · exact h1 x hx
      · exact h2 x hx
    · exact fun h => ⟨fun x hx => h x (List.mem_append.2 (.inl hx)), fun x hx => h x (List.mem_append.2 (.inr hx))⟩
end
theorem uses_cn (n : Int) (t : Term) : usesT n t = true ↔ n ∈ cnT t := by
  unfold usesT
  rw [Bool.not_eq_true', ← Bool.not_eq_true, all_cn]
  constructor
  · intro h
    refine Decidable.byContradiction fun hn => h fun x hx => ?_
    simp only [Bool.not_eq_true', decide_eq_false_iff_not]
    exact fun e => hn (e ▸ hx)
  · intro h h2
    have := h2 n h
    simp at this
mutual
theorem nodes_cn {m : Int} : ∀ (t : Term) (i : Int), nodesT m t i = true → ∀ x ∈ cnT t, x < m
  | .mk k l n ts, i, h, x, hx => by
    rw [nodesT, Bool.and_eq_true] at h
    rw [cnT] at hx
    rcases List.mem_append.1 hx with hx | hx
    · cases hb : decide (k = 4) && decide (l = 2) with
      | false => rw [hb] at hx; cases hx
      | true =>
        rw [hb] at hx
        simp only [List.mem_singleton] at hx
        subst hx
        rw [Bool.and_eq_true] at hb
        have h1 := h.1
        rw [nodeOk_mk, hb.1, hb.2] at h1
        simp at h1
        exact h1.2
    · exact nodesL_cn k i ts 0 h.2 x hx
theorem nodesL_cn {m : Int} (k i : Int) : ∀ (ts : List Term) (j : Int), nodesL m k i j ts = true → ∀ x ∈ cnL ts, x < m
  | [], j, _, x, hx => by rw [cnL] at hx; cases hx
  | t :: r, j, h, x, hx => by
    rw [nodesL, Bool.and_eq_true] at h
    rw [cnL] at hx
    rcases List.mem_append.1 hx with hx | hx
    · exact nodes_cn t _ h.1 x hx
    · exact nodesL_cn k i r (j + 1) h.2 x hx
end
mutual
theorem fm_cn : ∀ (t : Term) (d : Int), fmT t d = true → ∀ x ∈ cnT t, 0 ≤ x ∧ x ≤ 9999
  | .mk k l n ts, d, h, x, hx => by
    rw [fmT, Bool.and_eq_true, Bool.and_eq_true] at h
    rw [cnT] at hx
    rcases List.mem_append.1 hx with hx | hx
    · cases hb : decide (k = 4) && decide (l = 2) with
      | false => rw [hb] at hx; cases hx
      | true =>
        rw [hb] at hx
        simp only [List.mem_singleton] at hx
        subst hx
        rw [Bool.and_eq_true] at hb
        have h4 : k = 4 := of_decide_eq_true hb.1
        have h1 := h.1.2
        subst h4
        unfold fmB at h1
        simp at h1
        omega
    · exact fmL_cn ts d h.2 x hx
theorem fmL_cn : ∀ (ts : List Term) (d : Int), fmL ts d = true → ∀ x ∈ cnL ts, 0 ≤ x ∧ x ≤ 9999
  | [], d, _, x, hx => by rw [cnL] at hx; cases hx
  | t :: r, d, h, x, hx => by
    rw [fmL, Bool.and_eq_true] at h
    rw [cnL] at hx
    rcases List.mem_append.1 hx with hx | hx
    · exact fm_cn t _ h.1 x hx
    · exact fmL_cn r d h.2 x hx
end
theorem prop_cn {t : Term} (h : prop t = true) : ∀ x ∈ cnT t, 0 ≤ x ∧ x ≤ 9999 := fm_cn t 1 (prop_fm1 h)
end Go.Tr
/- Signatures: what is formed, told by positions; chosen constants. -/
namespace Go.Tr
open Go.Proofs
def okAt (sig : List Dcl) (n : Nat) (d : Dcl) : Prop :=
  prop d.c = true ∧ nameF d.s = true ∧ 0 ≤ d.i ∧ d.i ≤ (domT d.c).1.length ∧ nodesT n d.c 0 = true ∧ (kindT d.c = true ∨ (targOk d.c = true ∧ kindAt sig (domT d.c).2.n = true))
theorem kindAt_take {sig : List Dcl} {n : Nat} {x : Int} (h0 : 0 ≤ x) (h : x < n) : kindAt (sig.take n) x = kindAt sig x := by
  unfold kindAt
  rw [List.getElem?_take, if_pos (by omega)]
theorem formed_iff {sig : List Dcl} {n : Nat} {d : Dcl} (hd : sig[n]? = some d) : formedF (sig.take n) d = true ↔ okAt sig n d := by
  have hlt := (List.getElem?_eq_some_iff.1 hd).1
  have hlen : (sig.take n).length = n := by rw [List.length_take]; omega
  unfold formedF okAt
  rw [hlen]
  simp only [Bool.and_eq_true, Bool.or_eq_true, decide_eq_true_eq]
  constructor
  · rintro ⟨⟨⟨⟨h1, h2⟩, h3⟩, h4, h5⟩, h6⟩
    refine ⟨h1, h2, h3, h4, h5, h6.imp id fun h => ⟨h.1, ?_⟩⟩
    rw [← kindAt_take (targ_pos h1 h.1) (nodes_targ h5 h.1)]
    exact h.2
  · rintro ⟨h1, h2, h3, h4, h5, h6⟩
    refine ⟨⟨⟨⟨h1, h2⟩, h3⟩, h4, h5⟩, h6.imp id fun h => ⟨h.1, ?_⟩⟩
    rw [kindAt_take (targ_pos h1 h.1) (nodes_targ h5 h.1)]
    exact h.2
theorem nameIn_iff (l : List Dcl) (s : ByteArray) : nameIn l s = true ↔ ∃ e ∈ l, e.s = s := by
  unfold nameIn
  rw [List.any_eq_true]
  simp
theorem check_iff (sig : List Dcl) : checkB sig = true ↔ sig.length ≤ 100 ∧ (∀ (i j : Nat) d e, i < j → sig[i]? = some d → sig[j]? = some e → d.s ≠ e.s) ∧ ∀ (n : Nat) d, sig[n]? = some d → okAt sig n d := by
  constructor
  · intro h
    refine ⟨check_len h, fun i j d e hij hi hj he => ?_, fun n d hd => ?_⟩
    · have hg := check_good h j (List.getElem?_eq_some_iff.1 hj).1
      rw [good_formed sig hj] at hg
      unfold formedR at hg
      rw [Bool.and_eq_true, Bool.not_eq_true'] at hg
      have : nameIn (sig.take j) e.s = true := (nameIn_iff _ _).2 ⟨d, List.mem_of_getElem? (i := i) (by rw [List.getElem?_take, if_pos hij]; exact hi), he⟩
      rw [this] at hg
      cases hg.1
    · have hg := check_good h n (List.getElem?_eq_some_iff.1 hd).1
      rw [good_formed sig hd] at hg
      unfold formedR at hg
      rw [Bool.and_eq_true] at hg
      exact (formed_iff hd).1 hg.2
  · rintro ⟨h1, h2, h3⟩
    unfold checkB
    rw [decide_eq_true h1, Bool.true_and, List.all_eq_true]
    intro n hn
    have hn := List.mem_range.1 hn
    have hd : sig[n]? = some sig[n] := List.getElem?_eq_getElem hn
    rw [good_formed sig hd]
    unfold formedR
    rw [Bool.and_eq_true, Bool.not_eq_true', ← Bool.not_eq_true, nameIn_iff]
    refine ⟨?_, (formed_iff hd).2 (h3 n _ hd)⟩
    rintro ⟨e, he, hs⟩
    obtain ⟨i, hi⟩ := List.mem_iff_getElem?.1 he
    rw [List.getElem?_take] at hi
    split at hi
    · exact h2 i n e _ (by assumption) hi hd hs
    · cases hi
theorem pickD_at {sig : List Dcl} {f : Int → Int} {n : Int} {d : Dcl} (h : sig[n.toNat]? = some d) : pickD sig f n = ⟨d.s, rnT f d.c, d.i⟩ := by
  unfold pickD
  rw [h]
  simp only [mapT_rn]
theorem mput_same {α : Type} (F : KV → Option α) (q : KV) (x : α) : mput F q x q = some x := by unfold mput; rw [if_pos rfl]
theorem mput_other {α : Type} (F : KV → Option α) {q r : KV} (x : α) (h : r ≠ q) : mput F q x r = F r := by unfold mput; rw [if_neg h]
theorem chMap_at {l : List Int} (hnd : ∀ (i j : Nat) a, i < j → l[i]? = some a → l[j]? = some a → False) : ∀ {m j : Nat} {n : Int}, j < m → l[j]? = some n → chMap l m (.i n) = some (j : Int)
  | m + 1, j, n, h, hn => by
    rw [chMap]
    by_cases e : j = m
    · subst e
      rw [hn]
      simp only
      rw [mput_same]
    · have ih := chMap_at hnd (show j < m by omega) hn
      cases hm : l[m]? with
      | none => exact ih
      | some b =>
        simp only
        rw [mput_other]
        · exact ih
        · intro h2
          injection h2 with h2
          subst h2
          exact hnd j m n (by omega) hn hm
theorem check_cn {sig : List Dcl} (h : checkB sig = true) {n : Nat} {d : Dcl} (hd : sig[n]? = some d) : ∀ x ∈ cnT d.c, 0 ≤ x ∧ x < n := by
  obtain ⟨_, _, c3⟩ := (check_iff sig).1 h
  obtain ⟨o1, _, _, _, o5, _⟩ := c3 n d hd
  exact fun x hx => ⟨(prop_cn o1 x hx).1, nodes_cn d.c 0 o5 x hx⟩
end Go.Tr
/- Swap, Without and Rename of formed signatures: the plain laws. -/
namespace Go.Tr
open Go.Proofs
end Go.Tr
/- The reference's renumbered and uses. -/
namespace Go.Tr
open Go.Proofs
def getL (L : List Int) (x : Int) : Int := (L[x.toNat]?).getD 0
theorem getL_at {L : List Int} {x : Int} (h : 0 ≤ x ∧ x < L.length) : (rowI L)[x.toNat]? = some [.int .i64 (getL L x)] := by
  refine rowI_at ?_
  unfold getL
  rw [List.getElem?_eq_getElem (by omega)]
  rfl
theorem cnL_mem : ∀ {ts : List Term} {u : Term}, u ∈ ts → ∀ {x : Int}, x ∈ cnT u → x ∈ cnL ts
  | t :: r, u, hu, x, hx => by
    rw [cnL]
    rcases List.mem_cons.1 hu with rfl | hu
    · exact List.mem_append.2 (.inl hx)
    · exact List.mem_append.2 (.inr (cnL_mem hu hx))
theorem uses_con (n : Int) {t : Term} (hp : prop t = true) : usesT n t = decide (n ∈ conF 2 t) := by
  rw [Bool.eq_iff_iff, decide_eq_true_eq]
  unfold usesT
  rw [Bool.not_eq_true', ← Bool.not_eq_true, ← con_all 2 _ hp]
  constructor
  · intro h
    refine Decidable.byContradiction fun hn => h fun x hx => ?_
    simp only [Bool.not_eq_true', decide_eq_false_iff_not]
    exact fun e => hn (e ▸ hx)
  · intro h h2
    have := h2 n h
    simp at this
end Go.Tr
/- The reference's renumbered, over one's own row. -/
namespace Go.Tr
open Go.Proofs
theorem cRRenum12 (L : List Int) (t : Term) : (∀ x ∈ cnT t, 0 ≤ x ∧ x < L.length) → CallSt Tryz.prog 47 [tv t, .own 0] [.row 3 1 8 (rowI L)] (fun r H' => r = tv (rnT (getL L) t) ∧ H' = [.row 3 1 8 (rowI L)]) := by
  induction t using Term.ind with
  | _ t ih =>
  intro hcn
  obtain ⟨k, l, n, ts⟩ := t
  replace ih : ∀ u, u ∈ ts → _ := ih
  have hcn0 := hcn
  have hrL := len_rowI L
  replace hcn : ∀ x ∈ cnL ts, 0 ≤ x ∧ x < (L.length : Int) := fun x hx => hcn0 x (by rw [cnT]; exact List.mem_append.2 (.inr hx))
  rw [rnT, tv_mk, tv_mk]
  by_cases hg : k = 4 ∧ l = 2
  · obtain ⟨rfl, rfl⟩ := hg
    have hnb := hcn0 n (by rw [cnT]; simp)
    have hn := getL_at hnb
    simp only [decide_true, Bool.and_self]
    refine call_pure (E := envK 1) (fn := Tryz.f47) (c := bodyOf Tryz.f47) (envK_ok 1) mixed (by kernel_rfl) (by kernel_rfl) (by kernel_rfl) (by kernel_rfl) (by kernel_rfl) (by kernel_rfl) rfl ?_
    conv => whnf
    repeat ((first | refine aI rfl ?_ | refine aI (by decide) ?_ | refine dI (by kernel_rfl) ?_ | refine aI ⟨by omega, by omega⟩ ?_ | refine aI (by omega) ?_ | refine aI (fun _ => ⟨by omega, by omega⟩) ?_ | refine aI (of_decide_eq_true rfl) ?_ | (refine yI ?_ ?_; focus (first | decide | (simp; done) | (simp [tcs]; done))) | (refine nI ?_ ?_; focus (first | decide | (simp; done) | (simp [tcs]; done))) | intro _); conv => whnf)
    refine ⟨_, hn, Nat.le_refl 1, ?_⟩
    conv => whnf
    repeat ((first | refine aI rfl ?_ | refine aI (by decide) ?_ | refine dI (by kernel_rfl) ?_ | refine aI ⟨by omega, by omega⟩ ?_ | refine aI (by omega) ?_ | refine aI (fun _ => ⟨by omega, by omega⟩) ?_ | refine aI (of_decide_eq_true rfl) ?_ | (refine yI ?_ ?_; focus (first | decide | (simp; done) | (simp [tcs]; done))) | (refine nI ?_ ?_; focus (first | decide | (simp; done) | (simp [tcs]; done))) | intro _); conv => whnf)
    refine loop_intro (fun m tm H => ∃ (j : Nat) (us : List Term), ts.length = m + j ∧ us.length = j ∧ us ++ rnL (getL L) (ts.drop j) = rnL (getL L) ts ∧
        tm = [(26, .c (.int .i64 (j))), (25, .c (.int .i64 ((tcs ts).length))), (2, .ptr 1 0), (4, .ptr 2 0), (5, .ptr 3 0), (1, .own 0)] ∧
        H = [.row 3 1 8 (rowI L), .box [.c (.int .i64 (4)), .c (.int .i64 (2)), .c (.int .i64 (n)), .c (.sl 4 48 (tcs ts))], .box [.c (.int .i64 (0)), .c (.int .i64 (0)), .c (.int .i64 (0)), .nil], .box [.c (.int .i64 (4)), .c (.int .i64 (2)), .c (.int .i64 (getL L n)), .own 4], .row 25 4 48 (tcs us)])
      ts.length _ _ ⟨0, [], by omega, rfl, rfl, rfl, rfl⟩ ?_ ?_
    · refine Wk.trans (H1 := [.row 3 1 8 (rowI L), .box [.c (.int .i64 (4)), .c (.int .i64 (2)), .c (.int .i64 (n)), .c (.sl 4 48 (tcs ts))], .box [.c (.int .i64 (0)), .c (.int .i64 (0)), .c (.int .i64 (0)), .nil], .box [.c (.int .i64 (4)), .c (.int .i64 (2)), .c (.int .i64 (getL L n)), .nil]]) ?_ (Wk.nilrow' 3 3 25 4 48 rfl rfl rfl rfl)
      exact Wk.sl [0, 1, 2, 3] rfl ⟨rfl, rfl, rfl, rfl, trivial⟩ ⟨rfl, rfl, rfl, rfl, rfl, rfl, trivial⟩ rfl
    have hlen : (tcs ts).length * 48 ≤ 140737488355328 := ‹gd [] true ((tcs ts).length * 48 ≤ 140737488355328)›
    have hlt0 := len_tcs ts
    rintro m tm H ⟨j, us, hj, hus, hR, rfl, rfl⟩
    conv => whnf
    refine ⟨fun hc => ?_, fun hc => ?_⟩
    · replace hc : (j : Int) < (tcs ts).length := of_decide_eq_true hc
      obtain ⟨u, hu⟩ : ∃ u, ts[j]? = some u := ⟨ts[j]'(by omega), List.getElem?_eq_getElem (by omega)⟩
      have hm := List.mem_of_getElem? hu
      have huc := tcs_at ts j u hu
      have hcc := ih u hm (fun x hx => hcn x (cnL_mem hm hx))
      rw [drop_at hu, rnL] at hR
      generalize hv : rnT (getL L) u = v at *
      obtain ⟨k', l', n', us'⟩ := u
      obtain ⟨k3, l3, n3, us3⟩ := v
      rw [tv_mk] at hcc
      rw [tv_mk] at hcc
      have hl1 : (tcs us).length = j := by rw [len_tcs, hus]
      have hl2 : ((tcs us).length + 1) * 48 ≤ 140737488355328 := by omega
      have hl3 : (tcs us).length + 1 ≤ 9223372036854775807 := by omega
      conv => whnf
      repeat ((first | refine aI rfl ?_ | refine aI (by decide) ?_ | refine dI (by kernel_rfl) ?_ | refine aI ⟨by omega, by omega⟩ ?_ | refine aI (by omega) ?_ | refine aI (fun _ => ⟨by omega, by omega⟩) ?_ | refine aI (of_decide_eq_true rfl) ?_ | (refine yI ?_ ?_; focus (first | decide | (simp; done) | (simp [tcs]; done))) | (refine nI ?_ ?_; focus (first | decide | (simp; done) | (simp [tcs]; done))) | intro _); conv => whnf)
      refine ⟨_, ⟨by omega, by simpa using huc⟩, ?_⟩
      conv => whnf
      refine ⟨Nat.le_refl 4, ?_⟩
      conv => whnf
      try (refine dI (by kernel_rfl) ?_; conv => whnf)
      first | refine CallSt.use hcc [0] ⟨rfl, trivial⟩ (by decide) rfl ?_ | refine CallPt.useS hcc [0] ⟨rfl, trivial⟩ (by decide) rfl ?_
      rintro _ _ ⟨rfl, rfl⟩ _
      conv => whnf
      repeat ((first | refine aI rfl ?_ | refine aI (by decide) ?_ | refine dI (by kernel_rfl) ?_ | refine aI ⟨by omega, by omega⟩ ?_ | refine aI (by omega) ?_ | refine aI (fun _ => ⟨by omega, by omega⟩) ?_ | refine aI (of_decide_eq_true rfl) ?_ | (refine yI ?_ ?_; focus (first | decide | (simp; done) | (simp [tcs]; done))) | (refine nI ?_ ?_; focus (first | decide | (simp; done) | (simp [tcs]; done))) | intro _); conv => whnf)
      refine ⟨m - 1, _, _, by omega, ⟨j + 1, us ++ [.mk k3 l3 n3 us3], by omega, by simp [hus], ?_, rfl, rfl⟩, Wk.sl [0, 1, 2, 3, 6] rfl ⟨rfl, rfl, rfl, rfl, ?_, trivial⟩ ⟨rfl, rfl, rfl, rfl, rfl, rfl, trivial⟩ rfl⟩
      · rw [← hR, List.append_assoc]
        rfl
      · rw [← tcs_snoc]
        rfl
    · replace hc : ¬ (j : Int) < (tcs ts).length := of_decide_eq_false hc
      rw [List.drop_eq_nil_of_le (by omega), rnL, List.append_nil] at hR
      rw [← hR]
      conv => whnf
      repeat ((first | refine aI rfl ?_ | refine aI (by decide) ?_ | refine dI (by kernel_rfl) ?_ | refine aI ⟨by omega, by omega⟩ ?_ | refine aI (by omega) ?_ | refine aI (fun _ => ⟨by omega, by omega⟩) ?_ | refine aI (of_decide_eq_true rfl) ?_ | (refine yI ?_ ?_; focus (first | decide | (simp; done) | (simp [tcs]; done))) | (refine nI ?_ ?_; focus (first | decide | (simp; done) | (simp [tcs]; done))) | intro _); conv => whnf)
      all_goals (first | rfl | exact ⟨rfl, rfl⟩ | exact ⟨rfl, rfl, rfl⟩)
  · have hb : (decide (k = 4) && decide (l = 2)) = false := by
      rw [Bool.and_eq_false_iff, decide_eq_false_iff_not, decide_eq_false_iff_not]
      omega
    rw [hb]
    simp only
    refine call_pure (E := envK 1) (fn := Tryz.f47) (c := bodyOf Tryz.f47) (envK_ok 1) mixed (by kernel_rfl) (by kernel_rfl) (by kernel_rfl) (by kernel_rfl) (by kernel_rfl) (by kernel_rfl) rfl ?_
    conv => whnf
    repeat ((first | refine aI rfl ?_ | refine aI (by decide) ?_ | refine dI (by kernel_rfl) ?_ | refine aI ⟨by omega, by omega⟩ ?_ | refine aI (by omega) ?_ | refine aI (fun _ => ⟨by omega, by omega⟩) ?_ | refine aI (of_decide_eq_true rfl) ?_ | (refine yI ?_ ?_; focus (first | decide | (simp; done) | (simp [tcs]; done))) | (refine nI ?_ ?_; focus (first | decide | (simp; done) | (simp [tcs]; done))) | intro _); conv => whnf)
    rw [hb]
    (refine ⟨fun h => absurd h (by simp), fun _ => ?_⟩; conv => whnf)
    repeat ((first | refine aI rfl ?_ | refine aI (by decide) ?_ | refine dI (by kernel_rfl) ?_ | refine aI ⟨by omega, by omega⟩ ?_ | refine aI (by omega) ?_ | refine aI (fun _ => ⟨by omega, by omega⟩) ?_ | refine aI (of_decide_eq_true rfl) ?_ | (refine yI ?_ ?_; focus (first | decide | (simp; done) | (simp [tcs]; done))) | (refine nI ?_ ?_; focus (first | decide | (simp; done) | (simp [tcs]; done))) | intro _); conv => whnf)
    refine loop_intro (fun m tm H => ∃ (j : Nat) (us : List Term), ts.length = m + j ∧ us.length = j ∧ us ++ rnL (getL L) (ts.drop j) = rnL (getL L) ts ∧
        tm = [(26, .c (.int .i64 (j))), (25, .c (.int .i64 ((tcs ts).length))), (2, .ptr 1 0), (4, .ptr 2 0), (5, .ptr 3 0), (1, .own 0)] ∧
        H = [.row 3 1 8 (rowI L), .box [.c (.int .i64 (k)), .c (.int .i64 (l)), .c (.int .i64 (n)), .c (.sl 4 48 (tcs ts))], .box [.c (.int .i64 (0)), .c (.int .i64 (0)), .c (.int .i64 (0)), .nil], .box [.c (.int .i64 (k)), .c (.int .i64 (l)), .c (.int .i64 (n)), .own 4], .row 25 4 48 (tcs us)])
      ts.length _ _ ⟨0, [], by omega, rfl, rfl, rfl, rfl⟩ ?_ ?_
    · refine Wk.trans (H1 := [.row 3 1 8 (rowI L), .box [.c (.int .i64 (k)), .c (.int .i64 (l)), .c (.int .i64 (n)), .c (.sl 4 48 (tcs ts))], .box [.c (.int .i64 (0)), .c (.int .i64 (0)), .c (.int .i64 (0)), .nil], .box [.c (.int .i64 (k)), .c (.int .i64 (l)), .c (.int .i64 (n)), .nil]]) ?_ (Wk.nilrow' 3 3 25 4 48 rfl rfl rfl rfl)
      exact Wk.sl [0, 1, 2, 3] rfl ⟨rfl, rfl, rfl, rfl, trivial⟩ ⟨rfl, rfl, rfl, rfl, rfl, rfl, trivial⟩ rfl
    have hlen : (tcs ts).length * 48 ≤ 140737488355328 := ‹gd [] true ((tcs ts).length * 48 ≤ 140737488355328)›
    have hlt0 := len_tcs ts
    rintro m tm H ⟨j, us, hj, hus, hR, rfl, rfl⟩
    conv => whnf
    refine ⟨fun hc => ?_, fun hc => ?_⟩
    · replace hc : (j : Int) < (tcs ts).length := of_decide_eq_true hc
      obtain ⟨u, hu⟩ : ∃ u, ts[j]? = some u := ⟨ts[j]'(by omega), List.getElem?_eq_getElem (by omega)⟩
      have hm := List.mem_of_getElem? hu
      have huc := tcs_at ts j u hu
      have hcc := ih u hm (fun x hx => hcn x (cnL_mem hm hx))
      rw [drop_at hu, rnL] at hR
      generalize hv : rnT (getL L) u = v at *
      obtain ⟨k', l', n', us'⟩ := u
      obtain ⟨k3, l3, n3, us3⟩ := v
      rw [tv_mk] at hcc
      rw [tv_mk] at hcc
      have hl1 : (tcs us).length = j := by rw [len_tcs, hus]
      have hl2 : ((tcs us).length + 1) * 48 ≤ 140737488355328 := by omega
      have hl3 : (tcs us).length + 1 ≤ 9223372036854775807 := by omega
      conv => whnf
      repeat ((first | refine aI rfl ?_ | refine aI (by decide) ?_ | refine dI (by kernel_rfl) ?_ | refine aI ⟨by omega, by omega⟩ ?_ | refine aI (by omega) ?_ | refine aI (fun _ => ⟨by omega, by omega⟩) ?_ | refine aI (of_decide_eq_true rfl) ?_ | (refine yI ?_ ?_; focus (first | decide | (simp; done) | (simp [tcs]; done))) | (refine nI ?_ ?_; focus (first | decide | (simp; done) | (simp [tcs]; done))) | intro _); conv => whnf)
      refine ⟨_, ⟨by omega, by simpa using huc⟩, ?_⟩
      conv => whnf
      refine ⟨Nat.le_refl 4, ?_⟩
      conv => whnf
      try (refine dI (by kernel_rfl) ?_; conv => whnf)
      first | refine CallSt.use hcc [0] ⟨rfl, trivial⟩ (by decide) rfl ?_ | refine CallPt.useS hcc [0] ⟨rfl, trivial⟩ (by decide) rfl ?_
      rintro _ _ ⟨rfl, rfl⟩ _
      conv => whnf
      repeat ((first | refine aI rfl ?_ | refine aI (by decide) ?_ | refine dI (by kernel_rfl) ?_ | refine aI ⟨by omega, by omega⟩ ?_ | refine aI (by omega) ?_ | refine aI (fun _ => ⟨by omega, by omega⟩) ?_ | refine aI (of_decide_eq_true rfl) ?_ | (refine yI ?_ ?_; focus (first | decide | (simp; done) | (simp [tcs]; done))) | (refine nI ?_ ?_; focus (first | decide | (simp; done) | (simp [tcs]; done))) | intro _); conv => whnf)
      refine ⟨m - 1, _, _, by omega, ⟨j + 1, us ++ [.mk k3 l3 n3 us3], by omega, by simp [hus], ?_, rfl, rfl⟩, Wk.sl [0, 1, 2, 3, 6] rfl ⟨rfl, rfl, rfl, rfl, ?_, trivial⟩ ⟨rfl, rfl, rfl, rfl, rfl, rfl, trivial⟩ rfl⟩
      · rw [← hR, List.append_assoc]
        rfl
      · rw [← tcs_snoc]
        rfl
    · replace hc : ¬ (j : Int) < (tcs ts).length := of_decide_eq_false hc
      rw [List.drop_eq_nil_of_le (by omega), rnL, List.append_nil] at hR
      rw [← hR]
      conv => whnf
      repeat ((first | refine aI rfl ?_ | refine aI (by decide) ?_ | refine dI (by kernel_rfl) ?_ | refine aI ⟨by omega, by omega⟩ ?_ | refine aI (by omega) ?_ | refine aI (fun _ => ⟨by omega, by omega⟩) ?_ | refine aI (of_decide_eq_true rfl) ?_ | (refine yI ?_ ?_; focus (first | decide | (simp; done) | (simp [tcs]; done))) | (refine nI ?_ ?_; focus (first | decide | (simp; done) | (simp [tcs]; done))) | intro _); conv => whnf)
      all_goals (first | rfl | exact ⟨rfl, rfl⟩ | exact ⟨rfl, rfl, rfl⟩)
end Go.Tr
/- The reference's Needs and Users; a number in a list. -/
namespace Go.Tr
open Go.Proofs
end Go.Tr
/- Needs: the plain law. -/
namespace Go.Tr
open Go.Proofs
theorem mxP_stab (sig : List Dcl) : ∀ (j a : Nat), a < j → mxP sig j a = mxP sig (a + 1) a
  | 0, _, h => absurd h (Nat.not_lt_zero _)
  | j + 1, a, h => by
    by_cases e : a = j
    · rw [e]
    · rw [mxP_old e, mxP_stab sig j a (by omega)]
theorem mx_eq {sig : List Dcl} (hc : checkB sig = true) {a : Nat} {d : Dcl} (hd : sig[a]? = some d) (b : Nat) : mxF sig a b = (conF 2 d.c).any fun k => decide ((b : Int) = k) || mxF sig k.toNat b := by
  have ha := (List.getElem?_eq_some_iff.1 hd).1
  unfold mxF
  rw [mxP_stab sig _ a ha, mxP_last hd]
  unfold rowF
  have : ∀ k ∈ conF 2 d.c, (decide ((b : Int) = k) || mxP sig a k.toNat b) = (decide ((b : Int) = k) || mxP sig sig.length k.toNat b) := fun k hk => by
    obtain ⟨h0, h1⟩ := check_con hc hd k hk
    rw [mxP_stab sig a k.toNat (by omega), mxP_stab sig sig.length k.toNat (by omega)]
  generalize conF 2 d.c = L at *
  clear hd
  induction L with
  | nil => rfl
  | cons x r ih =>
    rw [List.any_cons, List.any_cons, this x (by simp), ih fun k hk => this k (List.mem_cons_of_mem _ hk)]
theorem mx_iff {sig : List Dcl} (hc : checkB sig = true) {a : Nat} {d : Dcl} (hd : sig[a]? = some d) (b : Nat) : mxF sig a b = true ↔ ∃ k : Nat, (k : Int) ∈ conF 2 d.c ∧ k < a ∧ (b = k ∨ mxF sig k b = true) := by
  rw [mx_eq hc hd, List.any_eq_true]
  constructor
  · rintro ⟨x, hx, h⟩
    obtain ⟨h0, h1⟩ := check_con hc hd x hx
    refine ⟨x.toNat, by rw [Int.toNat_of_nonneg h0]; exact hx, by omega, ?_⟩
    rw [Bool.or_eq_true, decide_eq_true_eq] at h
    rcases h with h | h
    · exact .inl (by omega)
    · exact .inr h
  · rintro ⟨k, hk, _, h⟩
    refine ⟨k, hk, ?_⟩
    rw [Bool.or_eq_true, decide_eq_true_eq, Int.toNat_natCast]
    rcases h with h | h
    · exact .inl (by omega)
    · exact .inr h
theorem get_lt {α : Type} {l : List α} {a : Nat} (h : a < l.length) : ∃ d, l[a]? = some d := ⟨l[a], List.getElem?_eq_getElem h⟩
theorem mx_trans {sig : List Dcl} (hc : checkB sig = true) : ∀ (a b c : Nat), a < sig.length → mxF sig a b = true → mxF sig b c = true → mxF sig a c = true := by
  intro a
  induction a using Nat.strongRecOn with
  | _ a ih =>
    intro b c ha h1 h2
    obtain ⟨d, hd⟩ := get_lt ha
    obtain ⟨k, hk, hka, h | h⟩ := (mx_iff hc hd b).1 h1
    · subst h
      exact (mx_iff hc hd c).2 ⟨b, hk, hka, .inr h2⟩
    · exact (mx_iff hc hd c).2 ⟨k, hk, hka, .inr (ih k hka b c (by omega) h h2)⟩
theorem need_mx {sig : List Dcl} (hc : checkB sig = true) {a b : Nat} (ha : a < sig.length) (hb : b < sig.length) : needM sig a b = mxF sig a b := by
  rw [Bool.eq_iff_iff]
  constructor
  · refine fun h => close_min (T := fun a b => mxF sig a b = true) (fun a b ha hb h => ?_) (fun a b c ha hb hc' h1 h2 => mx_trans hc a b c ha h1 h2) ha hb h
    obtain ⟨d, hd⟩ := get_lt ha
    unfold needF at h
    rw [hd] at h
    replace h := of_decide_eq_true h
    exact (mx_iff hc hd b).2 ⟨b, h, by have := (check_con hc hd b h).2; omega, .inl rfl⟩
  · revert b
    induction a using Nat.strongRecOn with
    | _ a ih =>
      intro b hb h
      obtain ⟨d, hd⟩ := get_lt ha
      obtain ⟨k, hk, hka, h | h⟩ := (mx_iff hc hd b).1 h
      all_goals have hak : needM sig a k = true := close_mono ha (by omega) (by unfold needF; rw [hd]; exact decide_eq_true hk)
      · rw [h]; exact hak
      · exact close_trans ha (by omega) hb hak (ih k hka (by omega) hb h)
end Go.Tr
/- The reference's Slice. -/
namespace Go.Tr
open Go.Proofs
theorem upTo_pos {p : Nat → Bool} {x : Nat} (hp : p x = true) : ∀ (n : Nat), x < n → (upTo p n)[(upTo p x).length]? = some (x : Int)
  | 0, h => absurd h (Nat.not_lt_zero _)
  | n + 1, h => by
    by_cases e : x = n
    · subst e
      rw [upTo_yes hp]
      simp
    · have ih := upTo_pos hp n (by omega)
      cases hn : p n with
      | true =>
        rw [upTo_yes hn, List.getElem?_append_left (List.getElem?_eq_some_iff.1 ih).1]
        exact ih
      | false =>
        rw [upTo_no hn]
        exact ih
theorem upTo_nd {p : Nat → Bool} : ∀ (n : Nat) (i j : Nat) (a : Int), i < j → (upTo p n)[i]? = some a → (upTo p n)[j]? = some a → False
  | 0, i, j, a, _, h, _ => by simp [upTo] at h
  | n + 1, i, j, a, hij, h1, h2 => by
    cases hn : p n with
    | false =>
      rw [upTo_no hn] at h1 h2
      exact upTo_nd n i j a hij h1 h2
    | true =>
      rw [upTo_yes hn] at h1 h2
      have hj := (List.getElem?_eq_some_iff.1 h2).1
      rw [List.length_append, List.length_singleton] at hj
      rw [List.getElem?_append_left (by omega)] at h1
      by_cases e : j < (upTo p n).length
      · rw [List.getElem?_append_left e] at h2
        exact upTo_nd n i j a hij h1 h2
      · have hje : j = (upTo p n).length := by omega
        rw [hje, List.getElem?_append_right (Nat.le_refl _)] at h2
        simp at h2
        have := (upTo_bd a (List.mem_of_getElem? h1)).2
        omega
def toL (p : Nat → Bool) (n j : Nat) : List Int := (List.range n).map fun x => if x < j ∧ p x = true then ((upTo p x).length : Int) else 0
theorem toL_len (p : Nat → Bool) (n j : Nat) : (toL p n j).length = n := by simp [toL]
theorem toL_zero (p : Nat → Bool) (n : Nat) : toL p n 0 = List.replicate n 0 := by
  unfold toL
  refine List.ext_getElem? fun i => ?_
  rw [List.getElem?_map]
  by_cases h : i < n
  · rw [List.getElem?_range h, List.getElem?_replicate, if_pos h]
    simp
  · rw [List.getElem?_eq_none (by simp; omega), List.getElem?_eq_none (by simp; omega)]
    rfl
theorem toL_no {p : Nat → Bool} {n j : Nat} (h : p j = false) : toL p n (j + 1) = toL p n j := by
  unfold toL
  refine List.map_congr_left fun x _ => ?_
  by_cases e : x = j
  · rw [e, h]
    simp
  · have : (x < j + 1) = (x < j) := propext (by omega)
    simp only [this]
theorem toL_yes {p : Nat → Bool} {n j : Nat} (h : p j = true) (hj : j < n) : (toL p n j).set j ((upTo p j).length : Int) = toL p n (j + 1) := by
  refine List.ext_getElem? fun i => ?_
  rw [List.getElem?_set]
  unfold toL
  by_cases e : j = i
  · subst e
    rw [if_pos rfl, if_pos (by simpa using hj), List.getElem?_map, List.getElem?_range hj]
    simp [h]
  · rw [if_neg e, List.getElem?_map, List.getElem?_map]
    by_cases hl : i < n
    · rw [List.getElem?_range hl]
      have : (i < j + 1) = (i < j) := propext (by omega)
      simp only [this, Option.map_some]
    · rw [List.getElem?_eq_none (by simp; omega)]
      rfl
theorem toL_at {p : Nat → Bool} {n j x : Nat} (hx : x < n) (hj : x < j) (hp : p x = true) : getL (toL p n j) x = (upTo p x).length := by
  unfold getL toL
  rw [Int.toNat_natCast, List.getElem?_map, List.getElem?_range hx]
  simp [hj, hp]
def closedP (sig : List Dcl) (p : Nat → Bool) : Prop := ∀ (j : Nat) d, sig[j]? = some d → p j = true → ∀ x ∈ cnT d.c, 0 ≤ x ∧ x < j ∧ p x.toNat = true
theorem chosen_row {sig : List Dcl} {p : Nat → Bool} (hcl : closedP sig p) {j : Nat} {d : Dcl} (hd : sig[j]? = some d) (hp : p j = true) {k : Nat} (hk : j < k) :
    rnT (getL (toL p sig.length k)) d.c = rnT (mget (chMap (upTo p sig.length) (upTo p sig.length).length)) d.c := by
  have hj := (List.getElem?_eq_some_iff.1 hd).1
  refine rn_congr d.c fun x hx => ?_
  obtain ⟨h0, h1, h2⟩ := hcl j d hd hp x hx
  obtain ⟨y, rfl⟩ : ∃ y : Nat, x = y := ⟨x.toNat, by omega⟩
  rw [Int.toNat_natCast] at h2
  rw [toL_at (by omega) (by omega) h2]
  have hat := upTo_pos h2 sig.length (by omega)
  unfold mget
  rw [chMap_at (fun i j a h h3 h4 => upTo_nd sig.length i j a h h3 h4) (List.getElem?_eq_some_iff.1 hat).1 hat]
  rfl
theorem cn_con {t : Term} (hp : prop t = true) (x : Int) : x ∈ cnT t ↔ x ∈ conF 2 t := by
  rw [← uses_cn, uses_con x hp, decide_eq_true_eq]
theorem closed_row {sig : List Dcl} (hc : checkB sig = true) {l : List Int} (hl : l.all (inR2 sig.length) = true) : closedP sig (rowF (mxF sig) l) := by
  intro j d hd hj x hx
  obtain ⟨h0, h1⟩ := check_cn hc hd x hx
  refine ⟨h0, h1, ?_⟩
  obtain ⟨y, rfl⟩ : ∃ y : Nat, x = y := ⟨x.toNat, by omega⟩
  have hjl := (List.getElem?_eq_some_iff.1 hd).1
  have hpr := check_prop hc d (List.mem_of_getElem? hd)
  rw [cn_con hpr] at hx
  have hm : mxF sig j y = true := (mx_iff hc hd y).2 ⟨y, hx, by omega, .inl rfl⟩
  rw [Int.toNat_natCast]
  unfold rowF at hj ⊢
  rw [List.any_eq_true] at hj ⊢
  obtain ⟨k, hk, h⟩ := hj
  refine ⟨k, hk, ?_⟩
  have hkr := List.all_eq_true.1 hl k hk
  unfold inR2 at hkr
  rw [Bool.and_eq_true, decide_eq_true_eq, decide_eq_true_eq] at hkr
  rw [Bool.or_eq_true, decide_eq_true_eq] at h ⊢
  right
  rcases h with h | h
  · rw [show k.toNat = j by omega]; exact hm
  · exact mx_trans hc k.toNat j y (by omega) h hm
def slcL (sig : List Dcl) (p : Nat → Bool) (j : Nat) : List Dcl := (upTo p j).map (pickD sig (mget (chMap (upTo p sig.length) (upTo p sig.length).length)))
theorem slcL_no {sig : List Dcl} {p : Nat → Bool} {j : Nat} (h : p j = false) : slcL sig p (j + 1) = slcL sig p j := by unfold slcL; rw [upTo_no h]
theorem slcL_yes {sig : List Dcl} {p : Nat → Bool} {j : Nat} {d : Dcl} (hd : sig[j]? = some d) (h : p j = true) : slcL sig p (j + 1) = slcL sig p j ++ [⟨d.s, rnT (mget (chMap (upTo p sig.length) (upTo p sig.length).length)) d.c, d.i⟩] := by
  unfold slcL
  rw [upTo_yes h, List.map_append]
  congr 1
  show [pickD sig _ (j : Int)] = _
  rw [pickD_at (by rw [Int.toNat_natCast]; exact hd)]
theorem slcL_len (sig : List Dcl) (p : Nat → Bool) (j : Nat) : (slcL sig p j).length = (upTo p j).length := by unfold slcL; rw [List.length_map]
theorem slcL_zero (sig : List Dcl) (p : Nat → Bool) : slcL sig p 0 = [] := rfl
attribute [irreducible] toL slcL
section
set_option maxHeartbeats 2000000 in
theorem cRSlice (sig : List Dcl) (hc : checkB sig = true) (l : List Int) (hlr : l.all (inR2 sig.length) = true) : CallSt Tryz.prog 19 [.c (.sl 6 72 (dcs sig)), .c (.sl 1 8 (rowI l))] []
    (fun r H' => r = .tup [.c (.sl 6 72 (dcs (slcL sig (rowF (mxF sig) l) sig.length))), .c (.sl 1 8 (rowI (upTo (rowF (mxF sig) l) sig.length)))] ∧ H' = []) := by
  have hmx := cRMatrix sig hc
  have hbl := len_dcs sig
  have hrl := len_rowI l
  have hsl := check_len hc
  have hpr := check_prop hc
  have hcl := closed_row hc hlr
  have hcn := fun n d hd => @check_cn sig hc n d hd
  have hml := rowM_len sig.length (mxF sig) sig.length
  have hat := fun a (ha : a < sig.length) => rowM_at sig.length (mxF sig) ha
  have hrb := fun a => rowB_len sig.length (mxF sig a)
  generalize mxF sig = M at *
  refine call_pure (E := envK 0) (fn := Tryz.f19) (c := bodyOf Tryz.f19) (envK_ok 0) mixed (by kernel_rfl) (by kernel_rfl) (by kernel_rfl) (by kernel_rfl) (by kernel_rfl) (by kernel_rfl) rfl ?_
  conv => whnf
  repeat ((first | refine aI rfl ?_ | refine aI (by decide) ?_ | refine dI (by kernel_rfl) ?_ | refine aI ⟨by omega, by omega⟩ ?_ | refine aI (by omega) ?_ | refine aI (fun _ => ⟨by omega, by omega⟩) ?_ | refine aI (of_decide_eq_true rfl) ?_ | (refine yI ?_ ?_; focus (first | decide | (simp; done) | (simp [tcs]; done))) | (refine nI ?_ ?_; focus (first | decide | (simp; done) | (simp [tcs]; done))) | intro _); conv => whnf)
  try (refine dI (by kernel_rfl) ?_; conv => whnf)
  first | refine CallSt.use hmx [] trivial (by decide) rfl ?_ | refine CallPt.useS hmx [] trivial (by decide) rfl ?_
  rintro _ _ ⟨rfl, rfl⟩ _
  conv => whnf
  repeat ((first | refine aI rfl ?_ | refine aI (by decide) ?_ | refine dI (by kernel_rfl) ?_ | refine aI ⟨by omega, by omega⟩ ?_ | refine aI (by omega) ?_ | refine aI (fun _ => ⟨by omega, by omega⟩) ?_ | refine aI (of_decide_eq_true rfl) ?_ | (refine yI ?_ ?_; focus (first | decide | (simp; done) | (simp [tcs]; done))) | (refine nI ?_ ?_; focus (first | decide | (simp; done) | (simp [tcs]; done))) | intro _); conv => whnf)
  refine ⟨show (dcs sig).length * 1 ≤ 16777216 by omega, show (dcs sig).length * 1 ≤ 140737488355328 by omega, ?_⟩
  conv => whnf
  repeat ((first | refine aI rfl ?_ | refine aI (by decide) ?_ | refine dI (by kernel_rfl) ?_ | refine aI ⟨by omega, by omega⟩ ?_ | refine aI (by omega) ?_ | refine aI (fun _ => ⟨by omega, by omega⟩) ?_ | refine aI (of_decide_eq_true rfl) ?_ | (refine yI ?_ ?_; focus (first | decide | (simp; done) | (simp [tcs]; done))) | (refine nI ?_ ?_; focus (first | decide | (simp; done) | (simp [tcs]; done))) | intro _); conv => whnf)
  have hlb : (rowI l).length * 8 ≤ 140737488355328 := ‹gd [] true ((rowI l).length * 8 ≤ 140737488355328)›
  refine loop_intro (fun m tm H => ∃ i : Nat, l.length = m + i ∧ tm = [(25, .c (.int .i64 (i))), (24, .c (.int .i64 ((rowI l).length))), (23, .c (.sl 1 8 (rowI l))), (0, .c (.sl 6 72 (dcs sig))), (6, .c (.sl 1 24 (rowM sig.length M sig.length))), (7, .own 0)] ∧
      H = [.row 4 1 1 (rowB sig.length (rowF M (l.take i)))])
    l.length _ _ ⟨0, by omega, rfl, rfl⟩ ?_ ?_
  · refine Wk.sl [0] rfl ⟨?_, trivial⟩ ⟨rfl, rfl, rfl, rfl, rfl, rfl, trivial⟩ rfl
    rw [show rowF M (l.take 0) = fun _ => false from rfl, ← rowB_zero, ← hbl]
    rfl
  rintro m tm H ⟨i, hi, rfl, rfl⟩
  conv => whnf
  refine ⟨fun hlt => ?_, fun hlt => ?_⟩
  · replace hlt : (i : Int) < (rowI l).length := of_decide_eq_true hlt
    obtain ⟨x, hx⟩ : ∃ x, l[i]? = some x := ⟨l[i]'(by omega), List.getElem?_eq_getElem (by omega)⟩
    have hxr := rowI_at hx
    have hxb := List.all_eq_true.1 hlr x (List.mem_of_getElem? hx)
    unfold inR2 at hxb
    rw [Bool.and_eq_true, decide_eq_true_eq, decide_eq_true_eq] at hxb
    obtain ⟨k, rfl⟩ : ∃ k : Nat, x = k := ⟨x.toNat, by omega⟩
    have hst : ∀ b, rowF M (l.take (i + 1)) b = (rowF M (l.take i) b || (decide (b = k) || M k b)) := fun b => by
      rw [← rowF_snoc, List.take_add_one, hx]
      rfl
    generalize rowF M (l.take i) = fq at *
    have hmk := hat k (by omega)
    have hbl1 := rowB_len sig.length fq
    obtain ⟨f1, hf1⟩ : ∃ f1 : Nat → Bool, ∀ b, f1 b = (fq b || decide (b = k)) := ⟨_, fun _ => rfl⟩
    have hbs : (rowB sig.length fq).set (k : Int).toNat (List.take 0 [CV.bool (fq k)] ++ [CV.bool true] ++ List.drop (0 + [CV.bool true].length) [CV.bool (fq k)]) = rowB sig.length f1 := by
      rw [Int.toNat_natCast]
      refine (rowB_set sig.length fq true (show k < sig.length by omega)).trans (rowB_congr fun b hb => ?_)
      rw [hf1]
      by_cases e : b = k
      · rw [if_pos e, decide_eq_true e, Bool.or_true]
      · rw [if_neg e, decide_eq_false e, Bool.or_false]
    have hba : (rowB sig.length fq)[(k : Int).toNat]? = some [.bool (fq k)] := rowB_at sig.length fq (by omega)
    have hbl2 := hrb k
    conv => whnf
    repeat ((first | refine aI rfl ?_ | refine aI (by decide) ?_ | refine dI (by kernel_rfl) ?_ | refine aI ⟨by omega, by omega⟩ ?_ | refine aI (by omega) ?_ | refine aI (fun _ => ⟨by omega, by omega⟩) ?_ | refine aI (of_decide_eq_true rfl) ?_ | (refine yI ?_ ?_; focus (first | decide | (simp; done) | (simp [tcs]; done))) | (refine nI ?_ ?_; focus (first | decide | (simp; done) | (simp [tcs]; done))) | intro _); conv => whnf)
    refine ⟨_, ⟨by omega, by simpa using hxr⟩, ?_⟩
    conv => whnf
    refine ⟨Nat.le_refl 1, ?_⟩
    conv => whnf
    repeat ((first | refine aI rfl ?_ | refine aI (by decide) ?_ | refine dI (by kernel_rfl) ?_ | refine aI ⟨by omega, by omega⟩ ?_ | refine aI (by omega) ?_ | refine aI (fun _ => ⟨by omega, by omega⟩) ?_ | refine aI (of_decide_eq_true rfl) ?_ | (refine yI ?_ ?_; focus (first | decide | (simp; done) | (simp [tcs]; done))) | (refine nI ?_ ?_; focus (first | decide | (simp; done) | (simp [tcs]; done))) | intro _); conv => whnf)
    refine ⟨_, hba, Nat.le_refl 1, ?_⟩
    rw [hbs]
    conv => whnf
    repeat ((first | refine aI rfl ?_ | refine aI (by decide) ?_ | refine dI (by kernel_rfl) ?_ | refine aI ⟨by omega, by omega⟩ ?_ | refine aI (by omega) ?_ | refine aI (fun _ => ⟨by omega, by omega⟩) ?_ | refine aI (of_decide_eq_true rfl) ?_ | (refine yI ?_ ?_; focus (first | decide | (simp; done) | (simp [tcs]; done))) | (refine nI ?_ ?_; focus (first | decide | (simp; done) | (simp [tcs]; done))) | intro _); conv => whnf)
    refine ⟨_, ⟨by omega, hmk⟩, ?_⟩
    conv => whnf
    refine ⟨Nat.le_refl 1, ?_⟩
    conv => whnf
    repeat ((first | refine aI rfl ?_ | refine aI (by decide) ?_ | refine dI (by kernel_rfl) ?_ | refine aI ⟨by omega, by omega⟩ ?_ | refine aI (by omega) ?_ | refine aI (fun _ => ⟨by omega, by omega⟩) ?_ | refine aI (of_decide_eq_true rfl) ?_ | (refine yI ?_ ?_; focus (first | decide | (simp; done) | (simp [tcs]; done))) | (refine nI ?_ ?_; focus (first | decide | (simp; done) | (simp [tcs]; done))) | intro _); conv => whnf)
    refine loop_intro (fun m tm H => ∃ (s : Nat) (fs : Nat → Bool), sig.length = m + s ∧ (∀ b, fs b = (f1 b || (decide (b < s) && M k b))) ∧ tm = [(37, .c (.int .i64 (s))), (36, .c (.int .i64 ((rowB sig.length (M k)).length))), (35, .c (.sl 1 1 (rowB sig.length (M k)))), (25, .c (.int .i64 (i))), (24, .c (.int .i64 ((rowI l).length))), (23, .c (.sl 1 8 (rowI l))), (0, .c (.sl 6 72 (dcs sig))), (6, .c (.sl 1 24 (rowM sig.length M sig.length))), (7, .own 0)] ∧
        H = [.row 4 1 1 (rowB sig.length fs)])
      sig.length _ _ ⟨0, f1, by omega, fun b => by simp, rfl, rfl⟩ (Wk.sl [0] rfl ⟨rfl, trivial⟩ ⟨rfl, rfl, rfl, rfl, rfl, rfl, rfl, rfl, rfl, trivial⟩ rfl) ?_
    rintro m3 tm H ⟨s, fs, hs, hfs, rfl, rfl⟩
    conv => whnf
    refine ⟨fun hc3 => ?_, fun hc3 => ?_⟩
    · replace hc3 : (s : Int) < (rowB sig.length (M k)).length := of_decide_eq_true hc3
      obtain ⟨f2, hf2⟩ : ∃ f2 : Nat → Bool, ∀ b, f2 b = (f1 b || (decide (b < s + 1) && M k b)) := ⟨_, fun _ => rfl⟩
      have hbs3 : (rowB sig.length fs).set (s : Int).toNat (List.take 0 [CV.bool (fs s)] ++ [CV.bool (fs s || M k s)] ++ List.drop (0 + [CV.bool (fs s || M k s)].length) [CV.bool (fs s)]) = rowB sig.length f2 := by
        rw [Int.toNat_natCast]
        refine (rowB_set sig.length fs (fs s || M k s) (show s < sig.length by omega)).trans (rowB_congr fun b hb => ?_)
        rw [hfs, hf2]
        by_cases e : b = s
        · rw [if_pos e, e, decide_eq_false (show ¬ s < s by omega), decide_eq_true (show s < s + 1 by omega)]
          simp
        · rw [if_neg e, hfs]
          have : decide (b < s + 1) = decide (b < s) := decide_eq_decide.2 (by omega)
          rw [this]
      have hba3 : (rowB sig.length fs)[(s : Int).toNat]? = some [.bool (fs s)] := rowB_at sig.length fs (by omega)
      have hbk : (rowB sig.length (M k))[(s : Int).toNat]? = some [.bool (M k s)] := rowB_at sig.length (M k) (by omega)
      have hbl3 := rowB_len sig.length fs
      conv => whnf
      repeat ((first | refine aI rfl ?_ | refine aI (by decide) ?_ | refine dI (by kernel_rfl) ?_ | refine aI ⟨by omega, by omega⟩ ?_ | refine aI (by omega) ?_ | refine aI (fun _ => ⟨by omega, by omega⟩) ?_ | refine aI (of_decide_eq_true rfl) ?_ | (refine yI ?_ ?_; focus (first | decide | (simp; done) | (simp [tcs]; done))) | (refine nI ?_ ?_; focus (first | decide | (simp; done) | (simp [tcs]; done))) | intro _); conv => whnf)
      refine ⟨_, ⟨by omega, hbk⟩, ?_⟩
      conv => whnf
      refine ⟨Nat.le_refl 1, ?_⟩
      conv => whnf
      repeat ((first | refine aI rfl ?_ | refine aI (by decide) ?_ | refine dI (by kernel_rfl) ?_ | refine aI ⟨by omega, by omega⟩ ?_ | refine aI (by omega) ?_ | refine aI (fun _ => ⟨by omega, by omega⟩) ?_ | refine aI (of_decide_eq_true rfl) ?_ | (refine yI ?_ ?_; focus (first | decide | (simp; done) | (simp [tcs]; done))) | (refine nI ?_ ?_; focus (first | decide | (simp; done) | (simp [tcs]; done))) | intro _); conv => whnf)
      refine ⟨_, hba3, Nat.le_refl 1, ?_⟩
      conv => whnf
      repeat ((first | refine aI rfl ?_ | refine aI (by decide) ?_ | refine dI (by kernel_rfl) ?_ | refine aI ⟨by omega, by omega⟩ ?_ | refine aI (by omega) ?_ | refine aI (fun _ => ⟨by omega, by omega⟩) ?_ | refine aI (of_decide_eq_true rfl) ?_ | (refine yI ?_ ?_; focus (first | decide | (simp; done) | (simp [tcs]; done))) | (refine nI ?_ ?_; focus (first | decide | (simp; done) | (simp [tcs]; done))) | intro _); conv => whnf)
      refine ⟨_, hba3, Nat.le_refl 1, ?_⟩
      rw [hbs3]
      conv => whnf
      repeat ((first | refine aI rfl ?_ | refine aI (by decide) ?_ | refine dI (by kernel_rfl) ?_ | refine aI ⟨by omega, by omega⟩ ?_ | refine aI (by omega) ?_ | refine aI (fun _ => ⟨by omega, by omega⟩) ?_ | refine aI (of_decide_eq_true rfl) ?_ | (refine yI ?_ ?_; focus (first | decide | (simp; done) | (simp [tcs]; done))) | (refine nI ?_ ?_; focus (first | decide | (simp; done) | (simp [tcs]; done))) | intro _); conv => whnf)
      refine ⟨m3 - 1, _, _, by omega, ⟨s + 1, f2, by omega, hf2, rfl, rfl⟩, Wk.sl [0] rfl ⟨rfl, trivial⟩ ⟨rfl, rfl, rfl, rfl, rfl, rfl, rfl, rfl, rfl, trivial⟩ rfl⟩
    · replace hc3 : ¬ (s : Int) < (rowB sig.length (M k)).length := of_decide_eq_false hc3
      obtain rfl : s = sig.length := by omega
      have hend : rowB sig.length fs = rowB sig.length (rowF M (l.take (i + 1))) := rowB_congr fun b hb => by
        rw [hst, hfs, hf1, decide_eq_true hb, Bool.true_and, Bool.or_assoc]
      rw [hend]
      conv => whnf
      repeat ((first | refine aI rfl ?_ | refine aI (by decide) ?_ | refine dI (by kernel_rfl) ?_ | refine aI ⟨by omega, by omega⟩ ?_ | refine aI (by omega) ?_ | refine aI (fun _ => ⟨by omega, by omega⟩) ?_ | refine aI (of_decide_eq_true rfl) ?_ | (refine yI ?_ ?_; focus (first | decide | (simp; done) | (simp [tcs]; done))) | (refine nI ?_ ?_; focus (first | decide | (simp; done) | (simp [tcs]; done))) | intro _); conv => whnf)
      refine ⟨m - 1, _, _, by omega, ⟨i + 1, by omega, rfl, rfl⟩, Wk.sl [0] rfl ⟨rfl, trivial⟩ ⟨rfl, rfl, rfl, rfl, rfl, rfl, trivial⟩ rfl⟩
  · replace hlt : ¬ (i : Int) < (rowI l).length := of_decide_eq_false hlt
    obtain rfl : i = l.length := by omega
    rw [List.take_length]
    generalize rowF M l = p at *
    have hpl := rowB_len sig.length p
    conv => whnf
    repeat ((first | refine aI rfl ?_ | refine aI (by decide) ?_ | refine dI (by kernel_rfl) ?_ | refine aI ⟨by omega, by omega⟩ ?_ | refine aI (by omega) ?_ | refine aI (fun _ => ⟨by omega, by omega⟩) ?_ | refine aI (of_decide_eq_true rfl) ?_ | (refine yI ?_ ?_; focus (first | decide | (simp; done) | (simp [tcs]; done))) | (refine nI ?_ ?_; focus (first | decide | (simp; done) | (simp [tcs]; done))) | intro _); conv => whnf)
    refine ⟨show (dcs sig).length * 1 ≤ 16777216 by omega, show (dcs sig).length * 8 ≤ 140737488355328 by omega, ?_⟩
    conv => whnf
    repeat ((first | refine aI rfl ?_ | refine aI (by decide) ?_ | refine dI (by kernel_rfl) ?_ | refine aI ⟨by omega, by omega⟩ ?_ | refine aI (by omega) ?_ | refine aI (fun _ => ⟨by omega, by omega⟩) ?_ | refine aI (of_decide_eq_true rfl) ?_ | (refine yI ?_ ?_; focus (first | decide | (simp; done) | (simp [tcs]; done))) | (refine nI ?_ ?_; focus (first | decide | (simp; done) | (simp [tcs]; done))) | intro _); conv => whnf)
    refine loop_intro (fun m tm H => ∃ j : Nat, sig.length = m + j ∧
      tm = [(59, .c (.int .i64 (j))), (58, .c (.int .i64 ((dcs sig).length))), (57, .c (.sl 6 72 (dcs sig))), (7, .own 0), (14, .own 1), (12, .own 2), (13, .own 3)] ∧
      H = [.row 4 1 1 (rowB sig.length p), .row 3 1 8 (rowI (toL p sig.length j)), .row 56 6 72 (dcs (slcL sig p j)), .row 3 1 8 (rowI (upTo p j))])
      sig.length _ _ ⟨0, by omega, rfl, rfl⟩ ?_ ?_
    · refine Wk.trans (tm1 := [(59, .c (.int .i64 (0))), (58, .c (.int .i64 ((dcs sig).length))), (57, .c (.sl 6 72 (dcs sig))), (7, .own 0), (14, .own 1), (12, .nil), (13, .nil)]) (H1 := [.row 4 1 1 (rowB sig.length p), .row 3 1 8 (rowI (toL p sig.length 0))]) ?_
        (Wk.trans (Wk.niltmp 12 56 6 72 rfl rfl) (Wk.trans (Wk.niltmp 13 3 1 8 rfl rfl) ?_))
      · refine Wk.sl [0, 1] rfl ⟨rfl, ?_, trivial⟩ ⟨rfl, rfl, rfl, rfl, rfl, rfl, rfl, trivial⟩ rfl
        rw [toL_zero]
        refine congrArg (fun z => some (Ent.row 3 1 8 z)) ?_
        show List.replicate (dcs sig).length [CV.int .i64 0] = rowI (List.replicate sig.length 0)
        rw [hbl]
        simp [rowI]
      · refine Wk.sl [0, 1, 2, 3] rfl ⟨rfl, rfl, ?_, rfl, trivial⟩ ⟨rfl, rfl, rfl, rfl, rfl, rfl, rfl, trivial⟩ rfl
        rw [slcL_zero]
        rfl
    rintro m tm H ⟨j, hj, rfl, rfl⟩
    conv => whnf
    refine ⟨fun hlt2 => ?_, fun hlt2 => ?_⟩
    · replace hlt2 : (j : Int) < (dcs sig).length := of_decide_eq_true hlt2
      obtain ⟨d, hd⟩ := get_lt (show j < sig.length by omega)
      have hdc := dcs_at hd
      have hbj : (rowB sig.length p)[(j : Int).toNat]? = some [.bool (p j)] := rowB_at sig.length p (by omega)
      cases hpj : p j with
      | false =>
        rw [hpj] at hbj
        have e1 := toL_no (n := sig.length) hpj
        have e2 := slcL_no (sig := sig) hpj
        have e3 := upTo_no hpj
        obtain ⟨s', ⟨k', l', n', us'⟩, i'⟩ := d
        conv => whnf
        repeat ((first | refine aI rfl ?_ | refine aI (by decide) ?_ | refine dI (by kernel_rfl) ?_ | refine aI ⟨by omega, by omega⟩ ?_ | refine aI (by omega) ?_ | refine aI (fun _ => ⟨by omega, by omega⟩) ?_ | refine aI (of_decide_eq_true rfl) ?_ | (refine yI ?_ ?_; focus (first | decide | (simp; done) | (simp [tcs]; done))) | (refine nI ?_ ?_; focus (first | decide | (simp; done) | (simp [tcs]; done))) | intro _); conv => whnf)
        refine ⟨_, ⟨by omega, hdc⟩, ?_⟩
        conv => whnf
        refine ⟨show 6 ≤ 6 by decide, ?_⟩
        conv => whnf
        repeat ((first | refine aI rfl ?_ | refine aI (by decide) ?_ | refine dI (by kernel_rfl) ?_ | refine aI ⟨by omega, by omega⟩ ?_ | refine aI (by omega) ?_ | refine aI (fun _ => ⟨by omega, by omega⟩) ?_ | refine aI (of_decide_eq_true rfl) ?_ | (refine yI ?_ ?_; focus (first | decide | (simp; done) | (simp [tcs]; done))) | (refine nI ?_ ?_; focus (first | decide | (simp; done) | (simp [tcs]; done))) | intro _); conv => whnf)
        refine ⟨_, hbj, Nat.le_refl 1, ?_⟩
        conv => whnf
        repeat ((first | refine aI rfl ?_ | refine aI (by decide) ?_ | refine dI (by kernel_rfl) ?_ | refine aI ⟨by omega, by omega⟩ ?_ | refine aI (by omega) ?_ | refine aI (fun _ => ⟨by omega, by omega⟩) ?_ | refine aI (of_decide_eq_true rfl) ?_ | (refine yI ?_ ?_; focus (first | decide | (simp; done) | (simp [tcs]; done))) | (refine nI ?_ ?_; focus (first | decide | (simp; done) | (simp [tcs]; done))) | intro _); conv => whnf)
        refine ⟨m - 1, _, _, by omega, ⟨j + 1, by omega, rfl, rfl⟩, Wk.sl [0, 1, 2, 3] rfl ⟨rfl, ?_, ?_, ?_, trivial⟩ ⟨rfl, rfl, rfl, rfl, rfl, rfl, rfl, trivial⟩ rfl⟩
        · rw [e1]; rfl
        · rw [e2]; rfl
        · rw [e3]; rfl
      | true =>
        rw [hpj] at hbj
        have htl := toL_len p sig.length j
        have hrt := len_rowI (toL p sig.length j)
        have hsl1 := slcL_len sig p j
        have hds := len_dcs (slcL sig p j)
        have hru := len_rowI (upTo p j)
        have hul := upTo_len p j
        have e2 := slcL_yes hd hpj
        have e3 := upTo_yes hpj
        have hrn := cRRenum12 (toL p sig.length (j + 1)) d.c (fun x hx => by rw [toL_len]; have := hcn j d hd x hx; omega)
        rw [chosen_row hcl hd hpj (Nat.lt_succ_self j)] at hrn
        have hidx : (j : Int).toNat < (rowI (toL p sig.length j)).length := by rw [hrt, htl, Int.toNat_natCast]; omega
        obtain ⟨z, hz⟩ : ∃ z, (rowI (toL p sig.length j))[j]? = some [.int .i64 z] := by
          obtain ⟨z, hz⟩ := get_lt (show j < (toL p sig.length j).length by omega)
          exact ⟨z, rowI_at hz⟩
        have hz' : (rowI (toL p sig.length j))[(j : Int).toNat]? = some [.int .i64 z] := hz
        have hset : (rowI (toL p sig.length j)).set (j : Int).toNat (List.take 0 [CV.int .i64 z] ++ [CV.int .i64 ((dcs (slcL sig p j)).length : Int)] ++ List.drop (0 + [CV.int .i64 ((dcs (slcL sig p j)).length : Int)].length) [CV.int .i64 z]) = rowI (toL p sig.length (j + 1)) := by
          rw [Int.toNat_natCast, ← toL_yes hpj (by omega), hds, hsl1]
          exact rowI_set _ _ _
        have hl2 : ((dcs (slcL sig p j)).length + 1) * 72 ≤ 140737488355328 := by omega
        have hl3 : (dcs (slcL sig p j)).length + 1 ≤ 9223372036854775807 := by omega
        have hl4 : ((rowI (upTo p j)).length + 1) * 8 ≤ 140737488355328 := by omega
        have hl5 : (rowI (upTo p j)).length + 1 ≤ 9223372036854775807 := by omega
        obtain ⟨v, hv⟩ : ∃ v, v = rnT (mget (chMap (upTo p sig.length) (upTo p sig.length).length)) d.c := ⟨_, rfl⟩
        obtain ⟨TL, hTL⟩ : ∃ TL, TL = toL p sig.length (j + 1) := ⟨_, rfl⟩
        rw [← hv, ← hTL] at hrn
        rw [← hv] at e2
        rw [← hTL] at hset
        clear hv
        obtain ⟨s', ⟨k', l', n', us'⟩, i'⟩ := d
        obtain ⟨k2, l2, n2, us2⟩ := v
        dsimp only at hrn e2
        rw [tv_mk] at hrn
        rw [tv_mk] at hrn
        conv => whnf
        repeat ((first | refine aI rfl ?_ | refine aI (by decide) ?_ | refine dI (by kernel_rfl) ?_ | refine aI ⟨by omega, by omega⟩ ?_ | refine aI (by omega) ?_ | refine aI (fun _ => ⟨by omega, by omega⟩) ?_ | refine aI (of_decide_eq_true rfl) ?_ | (refine yI ?_ ?_; focus (first | decide | (simp; done) | (simp [tcs]; done))) | (refine nI ?_ ?_; focus (first | decide | (simp; done) | (simp [tcs]; done))) | intro _); conv => whnf)
        refine ⟨_, ⟨by omega, hdc⟩, ?_⟩
        conv => whnf
        refine ⟨show 6 ≤ 6 by decide, ?_⟩
        conv => whnf
        repeat ((first | refine aI rfl ?_ | refine aI (by decide) ?_ | refine dI (by kernel_rfl) ?_ | refine aI ⟨by omega, by omega⟩ ?_ | refine aI (by omega) ?_ | refine aI (fun _ => ⟨by omega, by omega⟩) ?_ | refine aI (of_decide_eq_true rfl) ?_ | (refine yI ?_ ?_; focus (first | decide | (simp; done) | (simp [tcs]; done))) | (refine nI ?_ ?_; focus (first | decide | (simp; done) | (simp [tcs]; done))) | intro _); conv => whnf)
        refine ⟨_, hbj, Nat.le_refl 1, ?_⟩
        conv => whnf
        repeat ((first | refine aI rfl ?_ | refine aI (by decide) ?_ | refine aI ⟨by omega, by omega⟩ ?_ | refine aI (by omega) ?_ | refine aI (fun _ => ⟨by omega, by omega⟩) ?_ | refine aI (of_decide_eq_true rfl) ?_ | (refine yI ?_ ?_; focus (first | decide | (simp; done) | (simp [tcs]; done))) | (refine nI ?_ ?_; focus (first | decide | (simp; done) | (simp [tcs]; done)))); conv => whnf)
        intro _
        conv => whnf
        refine ⟨⟨Int.natCast_nonneg j, hidx⟩, ?_⟩
        dsimp only [dstK, awOps, awOp, aop, gOf, evK, lkK, storeK, storeK0, purK, purCell, tyK, cellsK, cvsK]
        conv => whnf
        refine ⟨_, hz', Nat.le_refl 1, ?_⟩
        rw [hset]
        conv => whnf
        repeat ((first | refine aI rfl ?_ | refine aI (by decide) ?_ | refine dI (by kernel_rfl) ?_ | refine aI ⟨by omega, by omega⟩ ?_ | refine aI (by omega) ?_ | refine aI (fun _ => ⟨by omega, by omega⟩) ?_ | refine aI (of_decide_eq_true rfl) ?_ | (refine yI ?_ ?_; focus (first | decide | (simp; done) | (simp [tcs]; done))) | (refine nI ?_ ?_; focus (first | decide | (simp; done) | (simp [tcs]; done))) | intro _); conv => whnf)
        try (refine dI (by kernel_rfl) ?_; conv => whnf)
        first | refine CallSt.use hrn [1] ⟨rfl, trivial⟩ (by decide) rfl ?_ | refine CallPt.useS hrn [1] ⟨rfl, trivial⟩ (by decide) rfl ?_
        rintro _ _ ⟨rfl, rfl⟩ _
        conv => whnf
        repeat ((first | refine aI rfl ?_ | refine aI (by decide) ?_ | refine dI (by kernel_rfl) ?_ | refine aI ⟨by omega, by omega⟩ ?_ | refine aI (by omega) ?_ | refine aI (fun _ => ⟨by omega, by omega⟩) ?_ | refine aI (of_decide_eq_true rfl) ?_ | (refine yI ?_ ?_; focus (first | decide | (simp; done) | (simp [tcs]; done))) | (refine nI ?_ ?_; focus (first | decide | (simp; done) | (simp [tcs]; done))) | intro _); conv => whnf)
        refine ⟨m - 1, _, _, by omega, ⟨j + 1, by omega, rfl, rfl⟩, Wk.sl [0, 1, 7, 9] rfl ⟨rfl, ?_, ?_, ?_, trivial⟩ ⟨rfl, rfl, rfl, rfl, rfl, rfl, rfl, trivial⟩ rfl⟩
        · rw [← hTL]; rfl
        · rw [e2, ← dcs_snoc]; rfl
        · rw [e3, ← rowI_snoc]; rfl
    · replace hlt2 : ¬ (j : Int) < (dcs sig).length := of_decide_eq_false hlt2
      obtain rfl : j = sig.length := by omega
      conv => whnf
      repeat ((first | refine aI rfl ?_ | refine aI (by decide) ?_ | refine dI (by kernel_rfl) ?_ | refine aI ⟨by omega, by omega⟩ ?_ | refine aI (by omega) ?_ | refine aI (fun _ => ⟨by omega, by omega⟩) ?_ | refine aI (of_decide_eq_true rfl) ?_ | (refine yI ?_ ?_; focus (first | decide | (simp; done) | (simp [tcs]; done))) | (refine nI ?_ ?_; focus (first | decide | (simp; done) | (simp [tcs]; done))) | intro _); conv => whnf)
      all_goals (first | rfl | exact ⟨rfl, rfl⟩ | exact ⟨rfl, rfl, rfl⟩)
end
end Go.Tr
/- The reference's Same and Add; the law's helpers; awake. -/
namespace Go.Tr
open Go.Proofs
theorem cRSame (l : List Dcl) : CallSt Tryz.prog 20 [.c (.sl 6 72 (dcs l)), .c (.sl 6 72 (dcs l))] [] (fun r H' => r = .c (.bool true) ∧ H' = []) := by
  have hbl := len_dcs l
  refine call_pure (E := env 0) (fn := Tryz.f20) (c := bodyOf Tryz.f20) (env_ok 0) mixed (by kernel_rfl) (by kernel_rfl) (by kernel_rfl) (by kernel_rfl) (by kernel_rfl) (by kernel_rfl) rfl ?_
  conv => whnf
  intro hlen
  replace hlen : (dcs l).length * 72 ≤ 140737488355328 := hlen
  conv => whnf
  intro _
  conv => whnf
  (refine ⟨fun h => absurd h (by simp), fun _ => ?_⟩; conv => whnf)
  repeat ((first | refine aI rfl ?_ | refine aI (by decide) ?_ | refine dI (by kernel_rfl) ?_ | refine aI ⟨by omega, by omega⟩ ?_ | refine aI (by omega) ?_ | refine aI (fun _ => ⟨by omega, by omega⟩) ?_ | refine aI (of_decide_eq_true rfl) ?_ | (refine yI ?_ ?_; focus (first | decide | (simp; done) | (simp [tcs]; done))) | (refine nI ?_ ?_; focus (first | decide | (simp; done) | (simp [tcs]; done))) | intro _); conv => whnf)
  refine loop_intro (fun m tm H => ∃ j : Nat, l.length = m + j ∧
    tm = [(14, .c (.int .i64 (j))), (13, .c (.int .i64 ((dcs l).length))), (12, .c (.sl 6 72 (dcs l))), (1, .c (.sl 6 72 (dcs l)))] ∧ H = [])
    l.length _ _ ⟨0, by omega, rfl, rfl⟩ (Wk.sl [] rfl trivial ⟨rfl, rfl, rfl, rfl, trivial⟩ rfl) ?_
  rintro m tm H ⟨j, hj, rfl, rfl⟩
  conv => whnf
  refine ⟨fun hlt => ?_, fun hlt => ?_⟩
  · replace hlt : (j : Int) < (dcs l).length := of_decide_eq_true hlt
    obtain ⟨e, hee⟩ : ∃ e, l[j]? = some e := ⟨l[j]'(by omega), List.getElem?_eq_getElem (by omega)⟩
    have hec := dcs_at hee
    have hsm := c23 e.c e.c
    rw [sameT_self] at hsm
    obtain ⟨s', ⟨k', l', n', us⟩, i'⟩ := e
    rw [tv_mk] at hsm
    conv => whnf
    refine ⟨_, ⟨by omega, hec⟩, ?_⟩
    conv => whnf
    refine ⟨show 6 ≤ 6 by decide, ?_⟩
    conv => whnf
    refine draw_intro true (by kernel_rfl) ?_
    conv => whnf
    refine ⟨_, ⟨by omega, hec⟩, ?_⟩
    conv => whnf
    refine ⟨show 1 ≤ 6 by decide, ?_⟩
    conv => whnf
    refine ⟨_, fun _ => ⟨by omega, hec⟩, ?_⟩
    conv => whnf
    refine ⟨show 1 ≤ 1 by decide, ?_⟩
    conv => whnf
    refine ⟨_, fun _ => ⟨by omega, hec⟩, ?_⟩
    conv => whnf
    refine ⟨show 4 ≤ 5 by decide, ?_⟩
    conv => whnf
    (refine ⟨fun _ => ?_, fun h => absurd h (by simp)⟩; conv => whnf)
    try (refine dI (by kernel_rfl) ?_; conv => whnf)
    first | refine CallSt.use hsm [] trivial (by decide) rfl ?_ | refine CallPt.useS hsm [] trivial (by decide) rfl ?_
    rintro _ _ ⟨rfl, rfl⟩ _
    conv => whnf
    (refine ⟨fun h => absurd h (by simp), fun _ => ?_⟩; conv => whnf)
    refine ⟨⟨by omega, by omega⟩, ?_⟩
    conv => whnf
    exact ⟨m - 1, _, _, by omega, ⟨j + 1, by omega, rfl, rfl⟩, Wk.sl [] rfl trivial ⟨rfl, rfl, rfl, rfl, trivial⟩ rfl⟩
  · replace hlt : ¬ (j : Int) < (dcs l).length := of_decide_eq_false hlt
    conv => whnf
    repeat ((first | refine aI rfl ?_ | refine aI (by decide) ?_ | refine dI (by kernel_rfl) ?_ | refine aI ⟨by omega, by omega⟩ ?_ | refine aI (by omega) ?_ | refine aI (fun _ => ⟨by omega, by omega⟩) ?_ | refine aI (of_decide_eq_true rfl) ?_ | (refine yI ?_ ?_; focus (first | decide | (simp; done) | (simp [tcs]; done))) | (refine nI ?_ ?_; focus (first | decide | (simp; done) | (simp [tcs]; done))) | intro _); conv => whnf)
    all_goals (first | rfl | exact ⟨rfl, rfl⟩ | exact ⟨rfl, rfl, rfl⟩)
def con0 (n : Int) (ts : List Term) : Term := .mk 4 2 n ts
theorem cConL (n : Int) (ts : List Term) : CallSt Tryz.prog 25 [.c (.int .i64 (n)), .c (.sl 4 48 (tcs ts))] [] (fun r H' => r = tv (con0 n ts) ∧ H' = []) := by
  refine call_pure (E := env 0) (fn := Tryz.f25) (c := bodyOf Tryz.f25) (env_ok 0) mixed (by kernel_rfl) (by kernel_rfl) (by kernel_rfl) (by kernel_rfl) (by kernel_rfl) (by kernel_rfl) rfl ?_
  conv => whnf
  repeat ((first | refine aI rfl ?_ | refine aI (by decide) ?_ | refine dI (by kernel_rfl) ?_ | refine aI ⟨by omega, by omega⟩ ?_ | refine aI (by omega) ?_ | refine aI (fun _ => ⟨by omega, by omega⟩) ?_ | refine aI (of_decide_eq_true rfl) ?_ | (refine yI ?_ ?_; focus (first | decide | (simp; done) | (simp [tcs]; done))) | (refine nI ?_ ?_; focus (first | decide | (simp; done) | (simp [tcs]; done))) | intro _); conv => whnf)
  all_goals (first | rfl | exact ⟨rfl, rfl⟩ | exact ⟨rfl, rfl, rfl⟩)
end Go.Tr
/- awake of trusslaw12. -/
namespace Go.Tr
open Go.Proofs
theorem cPiL (a b : Term) : CallSt Tryz.prog 24 [tv a, tv b] [] (fun r H' => r = tv (.mk 2 0 0 [a, b]) ∧ H' = []) := by
  obtain ⟨k, l, n, ts⟩ := a
  obtain ⟨k2, l2, n2, us⟩ := b
  rw [tv_mk, tv_mk]
  refine call_pure (E := env 0) (fn := Tryz.f24) (c := bodyOf Tryz.f24) (env_ok 0) mixed (by kernel_rfl) (by kernel_rfl) (by kernel_rfl) (by kernel_rfl) (by kernel_rfl) (by kernel_rfl) rfl ?_
  conv => whnf
  repeat ((first | refine aI rfl ?_ | refine aI (by decide) ?_ | refine dI (by kernel_rfl) ?_ | refine aI ⟨by omega, by omega⟩ ?_ | refine aI (by omega) ?_ | refine aI (fun _ => ⟨by omega, by omega⟩) ?_ | refine aI (of_decide_eq_true rfl) ?_ | (refine yI ?_ ?_; focus (first | decide | (simp; done) | (simp [tcs]; done))) | (refine nI ?_ ?_; focus (first | decide | (simp; done) | (simp [tcs]; done))) | intro _); conv => whnf)
  all_goals (first | rfl | exact ⟨rfl, rfl⟩ | exact ⟨rfl, rfl, rfl⟩)
def depS : List Dcl := [⟨⟨#[116, 109]⟩, .mk 1 0 0 [], 0⟩, ⟨⟨#[108, 97, 109]⟩, .mk 2 0 0 [.mk 2 0 0 [con0 0 [], con0 0 []], con0 0 []], 0⟩, ⟨⟨#[115, 116, 101, 112]⟩, .mk 2 0 0 [con0 0 [], .mk 1 0 0 []], 0⟩]
theorem dep_ok : checkB depS = true := by kernel_rfl
theorem dep_fam : famE depS 0 = 0 := by kernel_rfl
theorem dep_hig : higB depS 0 = true := by kernel_rfl
theorem dep_be : belE depS 0 2 = 0 := by kernel_rfl
theorem dep_be2 : belE depS 2 0 = 0 := by kernel_rfl
theorem dep_bel : belM depS 0 2 = true := by kernel_rfl
theorem dep_bel2 : belM depS 2 0 = false := by kernel_rfl
theorem dep_grp : groupsF depS = [[0], [2]] := by kernel_rfl
set_option maxRecDepth 100000 in
theorem cAwake12 : CallSt Tryz.prog 7 [] [] (fun r H' => r = .c (.bool true) ∧ H' = []) := by
  have h0 := cConL 0 []
  have h1 := cPiL (con0 0 []) (con0 0 [])
  have h2 := cPiL (.mk 2 0 0 [con0 0 [], con0 0 []]) (con0 0 [])
  have h3 := cPiL (con0 0 []) (.mk 1 0 0 [])
  have h4 := cHigher depS 0
  rw [dep_fam, dep_hig] at h4
  have h5 := cBelowD depS 0 2
  rw [dep_be, show belM depS (0 : Int).toNat (2 : Int).toNat = true from dep_bel] at h5
  have h6 := cBelowD depS 2 0
  rw [dep_be2, show belM depS (2 : Int).toNat (0 : Int).toNat = false from dep_bel2] at h6
  have h7 := cGroupsD depS
  rw [dep_grp, dep_ok] at h7
  have h8 := cNumsEq [0] [0] (by decide) (by decide)
  have h9 := cNumsEq [2] [2] (by decide) (by decide)
  rw [decide_eq_true rfl] at h8 h9
  refine call_pure (E := env 0) (fn := Tryz.f7) (c := bodyOf Tryz.f7) (env_ok 0) mixed (by kernel_rfl) (by kernel_rfl) (by kernel_rfl) (by kernel_rfl) (by kernel_rfl) (by kernel_rfl) rfl ?_
  conv => whnf
  try (refine dI (by kernel_rfl) ?_; conv => whnf)
  first | refine CallSt.use h0 [] trivial (by decide) rfl ?_ | refine CallPt.useS h0 [] trivial (by decide) rfl ?_
  rintro _ _ ⟨rfl, rfl⟩ _
  conv => whnf
  try (refine dI (by kernel_rfl) ?_; conv => whnf)
  first | refine CallSt.use h0 [] trivial (by decide) rfl ?_ | refine CallPt.useS h0 [] trivial (by decide) rfl ?_
  rintro _ _ ⟨rfl, rfl⟩ _
  conv => whnf
  try (refine dI (by kernel_rfl) ?_; conv => whnf)
  first | refine CallSt.use h1 [] trivial (by decide) rfl ?_ | refine CallPt.useS h1 [] trivial (by decide) rfl ?_
  rintro _ _ ⟨rfl, rfl⟩ _
  conv => whnf
  try (refine dI (by kernel_rfl) ?_; conv => whnf)
  first | refine CallSt.use h0 [] trivial (by decide) rfl ?_ | refine CallPt.useS h0 [] trivial (by decide) rfl ?_
  rintro _ _ ⟨rfl, rfl⟩ _
  conv => whnf
  try (refine dI (by kernel_rfl) ?_; conv => whnf)
  first | refine CallSt.use h2 [] trivial (by decide) rfl ?_ | refine CallPt.useS h2 [] trivial (by decide) rfl ?_
  rintro _ _ ⟨rfl, rfl⟩ _
  conv => whnf
  try (refine dI (by kernel_rfl) ?_; conv => whnf)
  first | refine CallSt.use h0 [] trivial (by decide) rfl ?_ | refine CallPt.useS h0 [] trivial (by decide) rfl ?_
  rintro _ _ ⟨rfl, rfl⟩ _
  conv => whnf
  try (refine dI (by kernel_rfl) ?_; conv => whnf)
  first | refine CallSt.use h3 [] trivial (by decide) rfl ?_ | refine CallPt.useS h3 [] trivial (by decide) rfl ?_
  rintro _ _ ⟨rfl, rfl⟩ _
  conv => whnf
  repeat ((first | refine aI rfl ?_ | refine aI (by decide) ?_ | refine dI (by kernel_rfl) ?_ | refine aI ⟨by omega, by omega⟩ ?_ | refine aI (by omega) ?_ | refine aI (fun _ => ⟨by omega, by omega⟩) ?_ | refine aI (of_decide_eq_true rfl) ?_ | (refine yI ?_ ?_; focus (first | decide | (simp; done) | (simp [tcs]; done))) | (refine nI ?_ ?_; focus (first | decide | (simp; done) | (simp [tcs]; done))) | intro _); conv => whnf)
  try (refine dI (by kernel_rfl) ?_; conv => whnf)
  first | refine CallSt.use h4 [] trivial (by decide) rfl ?_ | refine CallPt.useS h4 [] trivial (by decide) rfl ?_
  rintro _ _ ⟨rfl, rfl⟩ _
  conv => whnf
  repeat ((first | refine aI rfl ?_ | refine aI (by decide) ?_ | refine dI (by kernel_rfl) ?_ | refine aI ⟨by omega, by omega⟩ ?_ | refine aI (by omega) ?_ | refine aI (fun _ => ⟨by omega, by omega⟩) ?_ | refine aI (of_decide_eq_true rfl) ?_ | (refine yI ?_ ?_; focus (first | decide | (simp; done) | (simp [tcs]; done))) | (refine nI ?_ ?_; focus (first | decide | (simp; done) | (simp [tcs]; done))) | intro _); conv => whnf)
  try (refine dI (by kernel_rfl) ?_; conv => whnf)
  first | refine CallSt.use h5 [] trivial (by decide) rfl ?_ | refine CallPt.useS h5 [] trivial (by decide) rfl ?_
  rintro _ _ ⟨rfl, rfl⟩ _
  conv => whnf
  repeat ((first | refine aI rfl ?_ | refine aI (by decide) ?_ | refine dI (by kernel_rfl) ?_ | refine aI ⟨by omega, by omega⟩ ?_ | refine aI (by omega) ?_ | refine aI (fun _ => ⟨by omega, by omega⟩) ?_ | refine aI (of_decide_eq_true rfl) ?_ | (refine yI ?_ ?_; focus (first | decide | (simp; done) | (simp [tcs]; done))) | (refine nI ?_ ?_; focus (first | decide | (simp; done) | (simp [tcs]; done))) | intro _); conv => whnf)
  try (refine dI (by kernel_rfl) ?_; conv => whnf)
  first | refine CallSt.use h6 [] trivial (by decide) rfl ?_ | refine CallPt.useS h6 [] trivial (by decide) rfl ?_
  rintro _ _ ⟨rfl, rfl⟩ _
  conv => whnf
  repeat ((first | refine aI rfl ?_ | refine aI (by decide) ?_ | refine dI (by kernel_rfl) ?_ | refine aI ⟨by omega, by omega⟩ ?_ | refine aI (by omega) ?_ | refine aI (fun _ => ⟨by omega, by omega⟩) ?_ | refine aI (of_decide_eq_true rfl) ?_ | (refine yI ?_ ?_; focus (first | decide | (simp; done) | (simp [tcs]; done))) | (refine nI ?_ ?_; focus (first | decide | (simp; done) | (simp [tcs]; done))) | intro _); conv => whnf)
  try (refine dI (by kernel_rfl) ?_; conv => whnf)
  first | refine CallSt.use h7 [] trivial (by decide) rfl ?_ | refine CallPt.useS h7 [] trivial (by decide) rfl ?_
  rintro _ _ ⟨rfl, rfl⟩ _
  conv => whnf
  repeat ((first | refine aI rfl ?_ | refine aI (by decide) ?_ | refine dI (by kernel_rfl) ?_ | refine aI ⟨by omega, by omega⟩ ?_ | refine aI (by omega) ?_ | refine aI (fun _ => ⟨by omega, by omega⟩) ?_ | refine aI (of_decide_eq_true rfl) ?_ | (refine yI ?_ ?_; focus (first | decide | (simp; done) | (simp [tcs]; done))) | (refine nI ?_ ?_; focus (first | decide | (simp; done) | (simp [tcs]; done))) | intro _); conv => whnf)
  refine ⟨[.sl 1 8 (rowI [0])], fun _ => ⟨by decide, rfl⟩, ?_⟩
  conv => whnf
  refine ⟨show 1 ≤ 1 by decide, ?_⟩
  conv => whnf
  repeat ((first | refine aI rfl ?_ | refine aI (by decide) ?_ | refine dI (by kernel_rfl) ?_ | refine aI ⟨by omega, by omega⟩ ?_ | refine aI (by omega) ?_ | refine aI (fun _ => ⟨by omega, by omega⟩) ?_ | refine aI (of_decide_eq_true rfl) ?_ | (refine yI ?_ ?_; focus (first | decide | (simp; done) | (simp [tcs]; done))) | (refine nI ?_ ?_; focus (first | decide | (simp; done) | (simp [tcs]; done))) | intro _); conv => whnf)
  try (refine dI (by kernel_rfl) ?_; conv => whnf)
  first | refine CallSt.use h8 [] trivial (by decide) rfl ?_ | refine CallPt.useS h8 [] trivial (by decide) rfl ?_
  rintro _ _ ⟨rfl, rfl⟩ _
  conv => whnf
  repeat ((first | refine aI rfl ?_ | refine aI (by decide) ?_ | refine dI (by kernel_rfl) ?_ | refine aI ⟨by omega, by omega⟩ ?_ | refine aI (by omega) ?_ | refine aI (fun _ => ⟨by omega, by omega⟩) ?_ | refine aI (of_decide_eq_true rfl) ?_ | (refine yI ?_ ?_; focus (first | decide | (simp; done) | (simp [tcs]; done))) | (refine nI ?_ ?_; focus (first | decide | (simp; done) | (simp [tcs]; done))) | intro _); conv => whnf)
  refine ⟨[.sl 1 8 (rowI [2])], fun _ => ⟨by decide, rfl⟩, ?_⟩
  conv => whnf
  refine ⟨show 1 ≤ 1 by decide, ?_⟩
  conv => whnf
  repeat ((first | refine aI rfl ?_ | refine aI (by decide) ?_ | refine dI (by kernel_rfl) ?_ | refine aI ⟨by omega, by omega⟩ ?_ | refine aI (by omega) ?_ | refine aI (fun _ => ⟨by omega, by omega⟩) ?_ | refine aI (of_decide_eq_true rfl) ?_ | (refine yI ?_ ?_; focus (first | decide | (simp; done) | (simp [tcs]; done))) | (refine nI ?_ ?_; focus (first | decide | (simp; done) | (simp [tcs]; done))) | intro _); conv => whnf)
  try (refine dI (by kernel_rfl) ?_; conv => whnf)
  first | refine CallSt.use h9 [] trivial (by decide) rfl ?_ | refine CallPt.useS h9 [] trivial (by decide) rfl ?_
  rintro _ _ ⟨rfl, rfl⟩ _
  conv => whnf
  repeat ((first | refine aI rfl ?_ | refine aI (by decide) ?_ | refine dI (by kernel_rfl) ?_ | refine aI ⟨by omega, by omega⟩ ?_ | refine aI (by omega) ?_ | refine aI (fun _ => ⟨by omega, by omega⟩) ?_ | refine aI (of_decide_eq_true rfl) ?_ | (refine yI ?_ ?_; focus (first | decide | (simp; done) | (simp [tcs]; done))) | (refine nI ?_ ?_; focus (first | decide | (simp; done) | (simp [tcs]; done))) | intro _); conv => whnf)
  all_goals (first | rfl | exact congrArg (fun z => AV.c (.bool z)) (by decide))
end Go.Tr
/- The law DependSlices. -/
namespace Go.Tr
open Go.Proofs
theorem slc_ok {sig : List Dcl} (hc : checkB sig = true) {l : List Int} (hl : l.all (inR2 sig.length) = true) : slcE sig l = 0 ∧ slcO sig l = upTo (rowF (mxF sig) l) sig.length ∧ slcF sig l = slcL sig (rowF (mxF sig) l) sig.length := by
  have e0 : slcE sig l = 0 := by unfold slcE; rw [hc, hl]
  have e1 : slcO sig l = upTo (rowF (mxF sig) l) sig.length := by
    unfold slcO
    rw [e0]
    refine upTo_congr fun i hi => ?_
    unfold rowF
    rw [Bool.eq_iff_iff, List.any_eq_true, List.any_eq_true]
    have key : ∀ k ∈ l, needM sig k.toNat i = mxF sig k.toNat i := fun k hk => by
      have hkr := List.all_eq_true.1 hl k hk
      unfold inR2 at hkr
      rw [Bool.and_eq_true, decide_eq_true_eq, decide_eq_true_eq] at hkr
      exact need_mx hc (by omega) hi
    exact ⟨fun ⟨k, h1, h2⟩ => ⟨k, h1, by rw [← key k h1]; exact h2⟩, fun ⟨k, h1, h2⟩ => ⟨k, h1, by rw [key k h1]; exact h2⟩⟩
  refine ⟨e0, e1, ?_⟩
  unfold slcF slcL
  rw [e0, e1]
  rfl
set_option maxRecDepth 100000 in
theorem cDependSlices (sig : List Dcl) (l : List Int) (hlb : l.length * 8 ≤ 140737488351232) : CallSt Tryz.prog 4 [.c (.sl 6 72 (dcs sig)), .c (.sl 1 8 (rowI l))] [] (fun r H' => r = .c (.bool true) ∧ H' = []) := by
  have h1 := cSlice sig l
  have h3 := cRFormed sig
  have h4 := cRHas sig
  have haw := cAwake12
  have hrl := len_rowI l
  have hbl := len_dcs sig
  have hb1 : ([] : List (List CV)).length + (rowI l).length ≤ 9223372036854775807 := by rw [hrl, List.length_nil]; omega
  have hb2 : (([] : List (List CV)).length + (rowI l).length) * 8 ≤ 140737488355328 := by rw [hrl, List.length_nil]; omega
  cases hc : checkB sig with
  | false =>
    have e0 : slcE sig l = 2 := by unfold slcE; rw [hc]
    have e1 : slcO sig l = [] := by unfold slcO; rw [e0]; rfl
    have e2 : slcF sig l = [] := by unfold slcF; rw [e0]; rfl
    rw [e0, e1, e2] at h1
    rw [hc] at h3
    refine call_pure (E := env 0) (fn := Tryz.f4) (c := bodyOf Tryz.f4) (env_ok 0) mixed (by kernel_rfl) (by kernel_rfl) (by kernel_rfl) (by kernel_rfl) (by kernel_rfl) (by kernel_rfl) rfl ?_
    conv => whnf
    repeat ((first | refine aI rfl ?_ | refine aI (by decide) ?_ | refine dI (by kernel_rfl) ?_ | refine aI ⟨by omega, by omega⟩ ?_ | refine aI (by omega) ?_ | refine aI (fun _ => ⟨by omega, by omega⟩) ?_ | refine aI (of_decide_eq_true rfl) ?_ | (refine yI ?_ ?_; focus (first | decide | (simp; done) | (simp [tcs]; done))) | (refine nI ?_ ?_; focus (first | decide | (simp; done) | (simp [tcs]; done))) | intro _); conv => whnf)
    refine ⟨hb2, hb1, ?_⟩
    conv => whnf
    repeat ((first | refine aI rfl ?_ | refine aI (by decide) ?_ | refine dI (by kernel_rfl) ?_ | refine aI ⟨by omega, by omega⟩ ?_ | refine aI (by omega) ?_ | refine aI (fun _ => ⟨by omega, by omega⟩) ?_ | refine aI (of_decide_eq_true rfl) ?_ | (refine yI ?_ ?_; focus (first | decide | (simp; done) | (simp [tcs]; done))) | (refine nI ?_ ?_; focus (first | decide | (simp; done) | (simp [tcs]; done))) | intro _); conv => whnf)
    try (refine dI (by kernel_rfl) ?_; conv => whnf)
    first | refine CallSt.use h1 [] trivial (by decide) rfl ?_ | refine CallPt.useS h1 [] trivial (by decide) rfl ?_
    rintro _ _ ⟨rfl, rfl⟩ _
    conv => whnf
    repeat ((first | refine aI rfl ?_ | refine aI (by decide) ?_ | refine dI (by kernel_rfl) ?_ | refine aI ⟨by omega, by omega⟩ ?_ | refine aI (by omega) ?_ | refine aI (fun _ => ⟨by omega, by omega⟩) ?_ | refine aI (of_decide_eq_true rfl) ?_ | (refine yI ?_ ?_; focus (first | decide | (simp; done) | (simp [tcs]; done))) | (refine nI ?_ ?_; focus (first | decide | (simp; done) | (simp [tcs]; done))) | intro _); conv => whnf)
    try (refine dI (by kernel_rfl) ?_; conv => whnf)
    first | refine CallSt.use h3 [] trivial (by decide) rfl ?_ | refine CallPt.useS h3 [] trivial (by decide) rfl ?_
    rintro _ _ ⟨rfl, rfl⟩ _
    conv => whnf
    repeat ((first | refine aI rfl ?_ | refine aI (by decide) ?_ | refine dI (by kernel_rfl) ?_ | refine aI ⟨by omega, by omega⟩ ?_ | refine aI (by omega) ?_ | refine aI (fun _ => ⟨by omega, by omega⟩) ?_ | refine aI (of_decide_eq_true rfl) ?_ | (refine yI ?_ ?_; focus (first | decide | (simp; done) | (simp [tcs]; done))) | (refine nI ?_ ?_; focus (first | decide | (simp; done) | (simp [tcs]; done))) | intro _); conv => whnf)
    refine ⟨fun _ => ⟨by decide, by decide⟩, ?_⟩
    conv => whnf
    repeat ((first | refine aI rfl ?_ | refine aI (by decide) ?_ | refine dI (by kernel_rfl) ?_ | refine aI ⟨by omega, by omega⟩ ?_ | refine aI (by omega) ?_ | refine aI (fun _ => ⟨by omega, by omega⟩) ?_ | refine aI (of_decide_eq_true rfl) ?_ | (refine yI ?_ ?_; focus (first | decide | (simp; done) | (simp [tcs]; done))) | (refine nI ?_ ?_; focus (first | decide | (simp; done) | (simp [tcs]; done))) | intro _); conv => whnf)
    try (refine dI (by kernel_rfl) ?_; conv => whnf)
    first | refine CallSt.use haw [] trivial (by decide) rfl ?_ | refine CallPt.useS haw [] trivial (by decide) rfl ?_
    rintro _ _ ⟨rfl, rfl⟩ _
    conv => whnf
    repeat ((first | refine aI rfl ?_ | refine aI (by decide) ?_ | refine dI (by kernel_rfl) ?_ | refine aI ⟨by omega, by omega⟩ ?_ | refine aI (by omega) ?_ | refine aI (fun _ => ⟨by omega, by omega⟩) ?_ | refine aI (of_decide_eq_true rfl) ?_ | (refine yI ?_ ?_; focus (first | decide | (simp; done) | (simp [tcs]; done))) | (refine nI ?_ ?_; focus (first | decide | (simp; done) | (simp [tcs]; done))) | intro _); conv => whnf)
    all_goals (first | rfl | exact ⟨rfl, rfl⟩ | exact ⟨rfl, rfl, rfl⟩ | exact ⟨congrArg (fun z => AV.c (.bool z)) (by simp), rfl⟩)
  | true =>
    rw [hc] at h3
    cases hr : l.all (inR2 sig.length) with
    | false =>
      have e0 : slcE sig l = 6 := by unfold slcE; rw [hc, hr]
      have e1 : slcO sig l = [] := by unfold slcO; rw [e0]; rfl
      have e2 : slcF sig l = [] := by unfold slcF; rw [e0]; rfl
      rw [e0, e1, e2] at h1
      refine call_pure (E := env 0) (fn := Tryz.f4) (c := bodyOf Tryz.f4) (env_ok 0) mixed (by kernel_rfl) (by kernel_rfl) (by kernel_rfl) (by kernel_rfl) (by kernel_rfl) (by kernel_rfl) rfl ?_
      conv => whnf
      repeat ((first | refine aI rfl ?_ | refine aI (by decide) ?_ | refine dI (by kernel_rfl) ?_ | refine aI ⟨by omega, by omega⟩ ?_ | refine aI (by omega) ?_ | refine aI (fun _ => ⟨by omega, by omega⟩) ?_ | refine aI (of_decide_eq_true rfl) ?_ | (refine yI ?_ ?_; focus (first | decide | (simp; done) | (simp [tcs]; done))) | (refine nI ?_ ?_; focus (first | decide | (simp; done) | (simp [tcs]; done))) | intro _); conv => whnf)
      refine ⟨hb2, hb1, ?_⟩
      conv => whnf
      repeat ((first | refine aI rfl ?_ | refine aI (by decide) ?_ | refine dI (by kernel_rfl) ?_ | refine aI ⟨by omega, by omega⟩ ?_ | refine aI (by omega) ?_ | refine aI (fun _ => ⟨by omega, by omega⟩) ?_ | refine aI (of_decide_eq_true rfl) ?_ | (refine yI ?_ ?_; focus (first | decide | (simp; done) | (simp [tcs]; done))) | (refine nI ?_ ?_; focus (first | decide | (simp; done) | (simp [tcs]; done))) | intro _); conv => whnf)
      try (refine dI (by kernel_rfl) ?_; conv => whnf)
      first | refine CallSt.use h1 [] trivial (by decide) rfl ?_ | refine CallPt.useS h1 [] trivial (by decide) rfl ?_
      rintro _ _ ⟨rfl, rfl⟩ _
      conv => whnf
      repeat ((first | refine aI rfl ?_ | refine aI (by decide) ?_ | refine dI (by kernel_rfl) ?_ | refine aI ⟨by omega, by omega⟩ ?_ | refine aI (by omega) ?_ | refine aI (fun _ => ⟨by omega, by omega⟩) ?_ | refine aI (of_decide_eq_true rfl) ?_ | (refine yI ?_ ?_; focus (first | decide | (simp; done) | (simp [tcs]; done))) | (refine nI ?_ ?_; focus (first | decide | (simp; done) | (simp [tcs]; done))) | intro _); conv => whnf)
      try (refine dI (by kernel_rfl) ?_; conv => whnf)
      first | refine CallSt.use h3 [] trivial (by decide) rfl ?_ | refine CallPt.useS h3 [] trivial (by decide) rfl ?_
      rintro _ _ ⟨rfl, rfl⟩ _
      conv => whnf
      repeat ((first | refine aI rfl ?_ | refine aI (by decide) ?_ | refine dI (by kernel_rfl) ?_ | refine aI ⟨by omega, by omega⟩ ?_ | refine aI (by omega) ?_ | refine aI (fun _ => ⟨by omega, by omega⟩) ?_ | refine aI (of_decide_eq_true rfl) ?_ | (refine yI ?_ ?_; focus (first | decide | (simp; done) | (simp [tcs]; done))) | (refine nI ?_ ?_; focus (first | decide | (simp; done) | (simp [tcs]; done))) | intro _); conv => whnf)
      refine loop_intro (fun m tm H => ∃ j : Nat, l.length = m + j ∧ (∀ (q : Nat) x, q < j → l[q]? = some x → inR2 sig.length x = true) ∧
        tm = [(39, .c (.int .i64 (j))), (38, .c (.int .i64 ((rowI l).length))), (37, .c (.sl 1 8 (rowI l))), (0, .c (.sl 6 72 (dcs sig))), (1, .c (.sl 1 8 (rowI l))), (5, .c (.sl 6 72 (dcs []))), (6, .c (.sl 1 8 (rowI []))), (7, .c (.int .i64 (6)))] ∧ H = [])
        l.length _ _ ⟨0, by omega, fun q x h => absurd h (by omega), rfl, rfl⟩ (Wk.sl [] rfl trivial ⟨rfl, rfl, rfl, rfl, rfl, rfl, rfl, rfl, trivial⟩ rfl) ?_
      rintro m tm H ⟨j, hj, hall, rfl, rfl⟩
      conv => whnf
      refine ⟨fun hlt => ?_, fun hlt => ?_⟩
      · replace hlt : (j : Int) < (rowI l).length := of_decide_eq_true hlt
        obtain ⟨x, hx⟩ : ∃ x, l[j]? = some x := ⟨l[j]'(by omega), List.getElem?_eq_getElem (by omega)⟩
        have hxr := rowI_at hx
        have h5 := h4 x
        rw [show (decide (0 ≤ x) && decide (x < sig.length)) = inR2 sig.length x from rfl] at h5
        cases hb : inR2 sig.length x with
        | false =>
          rw [hb] at h5
          conv => whnf
          repeat ((first | refine aI rfl ?_ | refine aI (by decide) ?_ | refine dI (by kernel_rfl) ?_ | refine aI ⟨by omega, by omega⟩ ?_ | refine aI (by omega) ?_ | refine aI (fun _ => ⟨by omega, by omega⟩) ?_ | refine aI (of_decide_eq_true rfl) ?_ | (refine yI ?_ ?_; focus (first | decide | (simp; done) | (simp [tcs]; done))) | (refine nI ?_ ?_; focus (first | decide | (simp; done) | (simp [tcs]; done))) | intro _); conv => whnf)
          refine ⟨_, ⟨by omega, by simpa using hxr⟩, ?_⟩
          conv => whnf
          refine ⟨Nat.le_refl 1, ?_⟩
          conv => whnf
          repeat ((first | refine aI rfl ?_ | refine aI (by decide) ?_ | refine dI (by kernel_rfl) ?_ | refine aI ⟨by omega, by omega⟩ ?_ | refine aI (by omega) ?_ | refine aI (fun _ => ⟨by omega, by omega⟩) ?_ | refine aI (of_decide_eq_true rfl) ?_ | (refine yI ?_ ?_; focus (first | decide | (simp; done) | (simp [tcs]; done))) | (refine nI ?_ ?_; focus (first | decide | (simp; done) | (simp [tcs]; done))) | intro _); conv => whnf)
          try (refine dI (by kernel_rfl) ?_; conv => whnf)
          first | refine CallSt.use h5 [] trivial (by decide) rfl ?_ | refine CallPt.useS h5 [] trivial (by decide) rfl ?_
          rintro _ _ ⟨rfl, rfl⟩ _
          conv => whnf
          repeat ((first | refine aI rfl ?_ | refine aI (by decide) ?_ | refine dI (by kernel_rfl) ?_ | refine aI ⟨by omega, by omega⟩ ?_ | refine aI (by omega) ?_ | refine aI (fun _ => ⟨by omega, by omega⟩) ?_ | refine aI (of_decide_eq_true rfl) ?_ | (refine yI ?_ ?_; focus (first | decide | (simp; done) | (simp [tcs]; done))) | (refine nI ?_ ?_; focus (first | decide | (simp; done) | (simp [tcs]; done))) | intro _); conv => whnf)
          refine ⟨fun _ => ⟨by decide, by decide⟩, ?_⟩
          conv => whnf
          repeat ((first | refine aI rfl ?_ | refine aI (by decide) ?_ | refine dI (by kernel_rfl) ?_ | refine aI ⟨by omega, by omega⟩ ?_ | refine aI (by omega) ?_ | refine aI (fun _ => ⟨by omega, by omega⟩) ?_ | refine aI (of_decide_eq_true rfl) ?_ | (refine yI ?_ ?_; focus (first | decide | (simp; done) | (simp [tcs]; done))) | (refine nI ?_ ?_; focus (first | decide | (simp; done) | (simp [tcs]; done))) | intro _); conv => whnf)
          try (refine dI (by kernel_rfl) ?_; conv => whnf)
          first | refine CallSt.use haw [] trivial (by decide) rfl ?_ | refine CallPt.useS haw [] trivial (by decide) rfl ?_
          rintro _ _ ⟨rfl, rfl⟩ _
          conv => whnf
          repeat ((first | refine aI rfl ?_ | refine aI (by decide) ?_ | refine dI (by kernel_rfl) ?_ | refine aI ⟨by omega, by omega⟩ ?_ | refine aI (by omega) ?_ | refine aI (fun _ => ⟨by omega, by omega⟩) ?_ | refine aI (of_decide_eq_true rfl) ?_ | (refine yI ?_ ?_; focus (first | decide | (simp; done) | (simp [tcs]; done))) | (refine nI ?_ ?_; focus (first | decide | (simp; done) | (simp [tcs]; done))) | intro _); conv => whnf)
          all_goals (first | rfl | exact ⟨rfl, rfl⟩ | exact ⟨rfl, rfl, rfl⟩ | exact ⟨congrArg (fun z => AV.c (.bool z)) (by simp), rfl⟩)
        | true =>
          rw [hb] at h5
          have hnx : ∀ (p : Nat) y, p < j + 1 → l[p]? = some y → inR2 sig.length y = true := fun p y hp hy => by
            by_cases e : p < j
            · exact hall p y e hy
            · obtain rfl : p = j := by omega
              rw [hx] at hy
              injection hy with hy
              rw [← hy]
              exact hb
          conv => whnf
          repeat ((first | refine aI rfl ?_ | refine aI (by decide) ?_ | refine dI (by kernel_rfl) ?_ | refine aI ⟨by omega, by omega⟩ ?_ | refine aI (by omega) ?_ | refine aI (fun _ => ⟨by omega, by omega⟩) ?_ | refine aI (of_decide_eq_true rfl) ?_ | (refine yI ?_ ?_; focus (first | decide | (simp; done) | (simp [tcs]; done))) | (refine nI ?_ ?_; focus (first | decide | (simp; done) | (simp [tcs]; done))) | intro _); conv => whnf)
          refine ⟨_, ⟨by omega, by simpa using hxr⟩, ?_⟩
          conv => whnf
          refine ⟨Nat.le_refl 1, ?_⟩
          conv => whnf
          repeat ((first | refine aI rfl ?_ | refine aI (by decide) ?_ | refine dI (by kernel_rfl) ?_ | refine aI ⟨by omega, by omega⟩ ?_ | refine aI (by omega) ?_ | refine aI (fun _ => ⟨by omega, by omega⟩) ?_ | refine aI (of_decide_eq_true rfl) ?_ | (refine yI ?_ ?_; focus (first | decide | (simp; done) | (simp [tcs]; done))) | (refine nI ?_ ?_; focus (first | decide | (simp; done) | (simp [tcs]; done))) | intro _); conv => whnf)
          try (refine dI (by kernel_rfl) ?_; conv => whnf)
          first | refine CallSt.use h5 [] trivial (by decide) rfl ?_ | refine CallPt.useS h5 [] trivial (by decide) rfl ?_
          rintro _ _ ⟨rfl, rfl⟩ _
          conv => whnf
          repeat ((first | refine aI rfl ?_ | refine aI (by decide) ?_ | refine dI (by kernel_rfl) ?_ | refine aI ⟨by omega, by omega⟩ ?_ | refine aI (by omega) ?_ | refine aI (fun _ => ⟨by omega, by omega⟩) ?_ | refine aI (of_decide_eq_true rfl) ?_ | (refine yI ?_ ?_; focus (first | decide | (simp; done) | (simp [tcs]; done))) | (refine nI ?_ ?_; focus (first | decide | (simp; done) | (simp [tcs]; done))) | intro _); conv => whnf)
          exact ⟨m - 1, _, _, by omega, ⟨j + 1, by omega, hnx, rfl, rfl⟩, Wk.sl [] rfl trivial ⟨rfl, rfl, rfl, rfl, rfl, rfl, rfl, rfl, trivial⟩ rfl⟩
      · replace hlt : ¬ (j : Int) < (rowI l).length := of_decide_eq_false hlt
        have : l.all (inR2 sig.length) = true := List.all_eq_true.2 fun x hx => by
          obtain ⟨p, hp⟩ := List.mem_iff_getElem?.1 hx
          exact hall p x (by have := (List.getElem?_eq_some_iff.1 hp).1; omega) hp
        rw [hr] at this
        cases this
    | true =>
      obtain ⟨e0, e1, e2⟩ := slc_ok hc hr
      rw [e0, e1, e2] at h1
      have h6 := cRSlice sig hc l hr
      have h7 := cRSame (slcL sig (rowF (mxF sig) l) sig.length)
      have h8 := cNumsEq (upTo (rowF (mxF sig) l) sig.length) (upTo (rowF (mxF sig) l) sig.length) (by have := upTo_len (rowF (mxF sig) l) sig.length; have := check_len hc; omega) (by have := upTo_len (rowF (mxF sig) l) sig.length; have := check_len hc; omega)
      rw [decide_eq_true rfl] at h8
      generalize slcL sig (rowF (mxF sig) l) sig.length = X at *
      generalize upTo (rowF (mxF sig) l) sig.length = O at *
      refine call_pure (E := env 0) (fn := Tryz.f4) (c := bodyOf Tryz.f4) (env_ok 0) mixed (by kernel_rfl) (by kernel_rfl) (by kernel_rfl) (by kernel_rfl) (by kernel_rfl) (by kernel_rfl) rfl ?_
      conv => whnf
      repeat ((first | refine aI rfl ?_ | refine aI (by decide) ?_ | refine dI (by kernel_rfl) ?_ | refine aI ⟨by omega, by omega⟩ ?_ | refine aI (by omega) ?_ | refine aI (fun _ => ⟨by omega, by omega⟩) ?_ | refine aI (of_decide_eq_true rfl) ?_ | (refine yI ?_ ?_; focus (first | decide | (simp; done) | (simp [tcs]; done))) | (refine nI ?_ ?_; focus (first | decide | (simp; done) | (simp [tcs]; done))) | intro _); conv => whnf)
      refine ⟨hb2, hb1, ?_⟩
      conv => whnf
      repeat ((first | refine aI rfl ?_ | refine aI (by decide) ?_ | refine dI (by kernel_rfl) ?_ | refine aI ⟨by omega, by omega⟩ ?_ | refine aI (by omega) ?_ | refine aI (fun _ => ⟨by omega, by omega⟩) ?_ | refine aI (of_decide_eq_true rfl) ?_ | (refine yI ?_ ?_; focus (first | decide | (simp; done) | (simp [tcs]; done))) | (refine nI ?_ ?_; focus (first | decide | (simp; done) | (simp [tcs]; done))) | intro _); conv => whnf)
      try (refine dI (by kernel_rfl) ?_; conv => whnf)
      first | refine CallSt.use h1 [] trivial (by decide) rfl ?_ | refine CallPt.useS h1 [] trivial (by decide) rfl ?_
      rintro _ _ ⟨rfl, rfl⟩ _
      conv => whnf
      repeat ((first | refine aI rfl ?_ | refine aI (by decide) ?_ | refine dI (by kernel_rfl) ?_ | refine aI ⟨by omega, by omega⟩ ?_ | refine aI (by omega) ?_ | refine aI (fun _ => ⟨by omega, by omega⟩) ?_ | refine aI (of_decide_eq_true rfl) ?_ | (refine yI ?_ ?_; focus (first | decide | (simp; done) | (simp [tcs]; done))) | (refine nI ?_ ?_; focus (first | decide | (simp; done) | (simp [tcs]; done))) | intro _); conv => whnf)
      try (refine dI (by kernel_rfl) ?_; conv => whnf)
      first | refine CallSt.use h3 [] trivial (by decide) rfl ?_ | refine CallPt.useS h3 [] trivial (by decide) rfl ?_
      rintro _ _ ⟨rfl, rfl⟩ _
      conv => whnf
      repeat ((first | refine aI rfl ?_ | refine aI (by decide) ?_ | refine dI (by kernel_rfl) ?_ | refine aI ⟨by omega, by omega⟩ ?_ | refine aI (by omega) ?_ | refine aI (fun _ => ⟨by omega, by omega⟩) ?_ | refine aI (of_decide_eq_true rfl) ?_ | (refine yI ?_ ?_; focus (first | decide | (simp; done) | (simp [tcs]; done))) | (refine nI ?_ ?_; focus (first | decide | (simp; done) | (simp [tcs]; done))) | intro _); conv => whnf)
      refine loop_intro (fun m tm H => ∃ j : Nat, l.length = m + j ∧
        tm = [(39, .c (.int .i64 (j))), (38, .c (.int .i64 ((rowI l).length))), (37, .c (.sl 1 8 (rowI l))), (0, .c (.sl 6 72 (dcs sig))), (1, .c (.sl 1 8 (rowI l))), (5, .c (.sl 6 72 (dcs X))), (6, .c (.sl 1 8 (rowI O))), (7, .c (.int .i64 (0)))] ∧ H = [])
        l.length _ _ ⟨0, by omega, rfl, rfl⟩ (Wk.sl [] rfl trivial ⟨rfl, rfl, rfl, rfl, rfl, rfl, rfl, rfl, trivial⟩ rfl) ?_
      rintro m tm H ⟨j, hj, rfl, rfl⟩
      conv => whnf
      refine ⟨fun hlt => ?_, fun hlt => ?_⟩
      · replace hlt : (j : Int) < (rowI l).length := of_decide_eq_true hlt
        obtain ⟨x, hx⟩ : ∃ x, l[j]? = some x := ⟨l[j]'(by omega), List.getElem?_eq_getElem (by omega)⟩
        have hxr := rowI_at hx
        have h5 := h4 x
        rw [show (decide (0 ≤ x) && decide (x < sig.length)) = inR2 sig.length x from rfl, List.all_eq_true.1 hr x (List.mem_of_getElem? hx)] at h5
        conv => whnf
        repeat ((first | refine aI rfl ?_ | refine aI (by decide) ?_ | refine dI (by kernel_rfl) ?_ | refine aI ⟨by omega, by omega⟩ ?_ | refine aI (by omega) ?_ | refine aI (fun _ => ⟨by omega, by omega⟩) ?_ | refine aI (of_decide_eq_true rfl) ?_ | (refine yI ?_ ?_; focus (first | decide | (simp; done) | (simp [tcs]; done))) | (refine nI ?_ ?_; focus (first | decide | (simp; done) | (simp [tcs]; done))) | intro _); conv => whnf)
        refine ⟨_, ⟨by omega, by simpa using hxr⟩, ?_⟩
        conv => whnf
        refine ⟨Nat.le_refl 1, ?_⟩
        conv => whnf
        repeat ((first | refine aI rfl ?_ | refine aI (by decide) ?_ | refine dI (by kernel_rfl) ?_ | refine aI ⟨by omega, by omega⟩ ?_ | refine aI (by omega) ?_ | refine aI (fun _ => ⟨by omega, by omega⟩) ?_ | refine aI (of_decide_eq_true rfl) ?_ | (refine yI ?_ ?_; focus (first | decide | (simp; done) | (simp [tcs]; done))) | (refine nI ?_ ?_; focus (first | decide | (simp; done) | (simp [tcs]; done))) | intro _); conv => whnf)
        try (refine dI (by kernel_rfl) ?_; conv => whnf)
        first | refine CallSt.use h5 [] trivial (by decide) rfl ?_ | refine CallPt.useS h5 [] trivial (by decide) rfl ?_
        rintro _ _ ⟨rfl, rfl⟩ _
        conv => whnf
        repeat ((first | refine aI rfl ?_ | refine aI (by decide) ?_ | refine dI (by kernel_rfl) ?_ | refine aI ⟨by omega, by omega⟩ ?_ | refine aI (by omega) ?_ | refine aI (fun _ => ⟨by omega, by omega⟩) ?_ | refine aI (of_decide_eq_true rfl) ?_ | (refine yI ?_ ?_; focus (first | decide | (simp; done) | (simp [tcs]; done))) | (refine nI ?_ ?_; focus (first | decide | (simp; done) | (simp [tcs]; done))) | intro _); conv => whnf)
        exact ⟨m - 1, _, _, by omega, ⟨j + 1, by omega, rfl, rfl⟩, Wk.sl [] rfl trivial ⟨rfl, rfl, rfl, rfl, rfl, rfl, rfl, rfl, trivial⟩ rfl⟩
      · replace hlt : ¬ (j : Int) < (rowI l).length := of_decide_eq_false hlt
        conv => whnf
        repeat ((first | refine aI rfl ?_ | refine aI (by decide) ?_ | refine dI (by kernel_rfl) ?_ | refine aI ⟨by omega, by omega⟩ ?_ | refine aI (by omega) ?_ | refine aI (fun _ => ⟨by omega, by omega⟩) ?_ | refine aI (of_decide_eq_true rfl) ?_ | (refine yI ?_ ?_; focus (first | decide | (simp; done) | (simp [tcs]; done))) | (refine nI ?_ ?_; focus (first | decide | (simp; done) | (simp [tcs]; done))) | intro _); conv => whnf)
        try (refine dI (by kernel_rfl) ?_; conv => whnf)
        first | refine CallSt.use h6 [] trivial (by decide) rfl ?_ | refine CallPt.useS h6 [] trivial (by decide) rfl ?_
        rintro _ _ ⟨rfl, rfl⟩ _
        conv => whnf
        repeat ((first | refine aI rfl ?_ | refine aI (by decide) ?_ | refine dI (by kernel_rfl) ?_ | refine aI ⟨by omega, by omega⟩ ?_ | refine aI (by omega) ?_ | refine aI (fun _ => ⟨by omega, by omega⟩) ?_ | refine aI (of_decide_eq_true rfl) ?_ | (refine yI ?_ ?_; focus (first | decide | (simp; done) | (simp [tcs]; done))) | (refine nI ?_ ?_; focus (first | decide | (simp; done) | (simp [tcs]; done))) | intro _); conv => whnf)
        try (refine dI (by kernel_rfl) ?_; conv => whnf)
        first | refine CallSt.use h7 [] trivial (by decide) rfl ?_ | refine CallPt.useS h7 [] trivial (by decide) rfl ?_
        rintro _ _ ⟨rfl, rfl⟩ _
        conv => whnf
        repeat ((first | refine aI rfl ?_ | refine aI (by decide) ?_ | refine dI (by kernel_rfl) ?_ | refine aI ⟨by omega, by omega⟩ ?_ | refine aI (by omega) ?_ | refine aI (fun _ => ⟨by omega, by omega⟩) ?_ | refine aI (of_decide_eq_true rfl) ?_ | (refine yI ?_ ?_; focus (first | decide | (simp; done) | (simp [tcs]; done))) | (refine nI ?_ ?_; focus (first | decide | (simp; done) | (simp [tcs]; done))) | intro _); conv => whnf)
        try (refine dI (by kernel_rfl) ?_; conv => whnf)
        first | refine CallSt.use h8 [] trivial (by decide) rfl ?_ | refine CallPt.useS h8 [] trivial (by decide) rfl ?_
        rintro _ _ ⟨rfl, rfl⟩ _
        conv => whnf
        repeat ((first | refine aI rfl ?_ | refine aI (by decide) ?_ | refine dI (by kernel_rfl) ?_ | refine aI ⟨by omega, by omega⟩ ?_ | refine aI (by omega) ?_ | refine aI (fun _ => ⟨by omega, by omega⟩) ?_ | refine aI (of_decide_eq_true rfl) ?_ | (refine yI ?_ ?_; focus (first | decide | (simp; done) | (simp [tcs]; done))) | (refine nI ?_ ?_; focus (first | decide | (simp; done) | (simp [tcs]; done))) | intro _); conv => whnf)
        try (refine dI (by kernel_rfl) ?_; conv => whnf)
        first | refine CallSt.use haw [] trivial (by decide) rfl ?_ | refine CallPt.useS haw [] trivial (by decide) rfl ?_
        rintro _ _ ⟨rfl, rfl⟩ _
        conv => whnf
        repeat ((first | refine aI rfl ?_ | refine aI (by decide) ?_ | refine dI (by kernel_rfl) ?_ | refine aI ⟨by omega, by omega⟩ ?_ | refine aI (by omega) ?_ | refine aI (fun _ => ⟨by omega, by omega⟩) ?_ | refine aI (of_decide_eq_true rfl) ?_ | (refine yI ?_ ?_; focus (first | decide | (simp; done) | (simp [tcs]; done))) | (refine nI ?_ ?_; focus (first | decide | (simp; done) | (simp [tcs]; done))) | intro _); conv => whnf)
        all_goals (first | rfl | exact ⟨rfl, rfl⟩ | exact ⟨rfl, rfl, rfl⟩ | exact ⟨congrArg (fun z => AV.c (.bool z)) (by simp), rfl⟩)
end Go.Tr
/- What is handed in, as terms. -/
namespace Go.Tr
open Go.Proofs
theorem tcs_map : ∀ ts : List Term, tcs ts = ts.map tc
  | [] => rfl
  | t :: r => by rw [tcs, tcs_map r]; rfl
theorem sh_term : ∀ (n : Nat) {xs : List CV}, Sh (lkT tab) n 25 xs → ∃ t, xs = tc t := by
  intro n
  induction n using Nat.strongRecOn with
  | _ n ih =>
  intro xs h
  obtain ⟨m, rfl, a, b, rfl, h0, c, d, rfl, h1, e, f, rfl, h2, g, i, rfl, h3, rfl⟩ := sh_struct (fs := [(0, 3), (1, 3), (2, 3), (3, 23)]) rfl h
  obtain ⟨k, rfl, _⟩ := sh_int (k := .i64) rfl h0
  obtain ⟨l, rfl, _⟩ := sh_int (k := .i64) rfl h1
  obtain ⟨n, rfl, _⟩ := sh_int (k := .i64) rfl h2
  obtain ⟨m2, es, rfl, rfl, _, h4⟩ := sh_slice (e := 25) rfl h3
  obtain ⟨ts, rfl⟩ := map_choose (f := tc) es fun r hr => ih m2 (by omega) (h4 r hr)
  exact ⟨.mk k l n ts, by rw [← tcs_map]; rfl⟩
def argTypes : List TypeId := [3, 23, 25]
theorem own : ownKnob Tryz.prog.godebug = none := by kernel_rfl
theorem laidOut : laidOutB Tryz.prog = true := by kernel_rfl
section
variable {H : Type} {enc : TypeId × Value → H} {W : World} {base : Nat} {v : Value} {d : DataW H} {ps : List MemPlace}
end
end Go.Tr
/- What is handed in: declarations. -/
namespace Go.Tr
open Go.Proofs
theorem sh_decl : ∀ (n : Nat) {xs : List CV}, Sh (lkT tab) n 56 xs → ∃ d, xs = dc d := by
  intro n xs h
  obtain ⟨m, rfl, a, b, rfl, h0, c, d, rfl, h1, e, f, rfl, h2, rfl⟩ := sh_struct (fs := [(0, 9), (1, 25), (5, 3)]) rfl h
  obtain ⟨s, rfl, _⟩ := sh_str rfl h0
  obtain ⟨t, rfl⟩ := sh_term m h1
  obtain ⟨i, rfl, _⟩ := sh_int (k := .i64) rfl h2
  obtain ⟨k, l, x, ts⟩ := t
  exact ⟨⟨s, ⟨k, l, x, ts⟩, i⟩, rfl⟩
theorem sh_sig {n : Nat} {xs : List CV} (h : Sh (lkT tab) n 22 xs) : ∃ l : List Dcl, xs = [.sl 6 72 (dcs l)] ∧ l.length * 72 ≤ 140737488351232 := by
  obtain ⟨m2, es, rfl, rfl, h5, h4⟩ := sh_slice (e := 56) rfl h
  obtain ⟨l, rfl⟩ := map_choose (f := dc) es fun r hr => sh_decl m2 (h4 r hr)
  refine ⟨l, rfl, ?_⟩
  rw [List.length_map] at h5
  exact h5
def argTypesD : List TypeId := [3, 9, 23, 25, 56, 22]
theorem arg_okD : argTypesD.all (cl1 (lkT tab) argTypesD) = true := by decide
section
variable {H : Type} {enc : TypeId × Value → H} {W : World} {base : Nat} {v : Value} {d : DataW H} {ps : List MemPlace}
set_option maxRecDepth 100000 in
theorem arg_sig (hval : Value.okWide Tryz.prog W .any base 22 v) (h : DataW.Trod enc Tryz.prog W 0 (fun _ => true) true 22 v d ps)
    (hw : ∀ n ∈ d.weights Tryz.prog 22, n ≤ reachBytes) : ∃ l : List Dcl, AVR W.heap noS (fun _ => .none) (.c (.sl 6 72 (dcs l))) v := by
  obtain ⟨fuel, xs, hs, a⟩ := open_arg (env_ok 0) arg_okD (by decide) hval h hw
  obtain ⟨l, rfl, hl⟩ := sh_sig hs
  exact ⟨l, a⟩
end
end Go.Tr
/- What is handed in: a list of numbers. -/
namespace Go.Tr
open Go.Proofs
def argTypesN : List TypeId := [3, 39]
theorem arg_okN : argTypesN.all (cl1 (lkT tab) argTypesN) = true := by decide
section
variable {H : Type} {enc : TypeId × Value → H} {W : World} {base : Nat} {v : Value} {d : DataW H} {ps : List MemPlace}
set_option maxRecDepth 100000 in
theorem arg_nums (hval : Value.okWide Tryz.prog W .any base 39 v) (h : DataW.Trod enc Tryz.prog W 0 (fun _ => true) true 39 v d ps)
    (hw : ∀ n ∈ d.weights Tryz.prog 39, n ≤ reachBytes) : ∃ l : List Int, AVR W.heap noS (fun _ => .none) (.c (.sl 1 8 (rowI l))) v ∧ l.length * 8 ≤ 140737488351232 := by
  obtain ⟨fuel, xs, hs, a⟩ := open_arg (env_ok 0) arg_okN (by decide) hval h hw
  obtain ⟨m2, es, rfl, rfl, h5, h4⟩ := sh_slice (e := 3) rfl hs
  obtain ⟨l, rfl⟩ := map_choose (f := fun n : Int => [CV.int .i64 n]) es fun r hr => by
    obtain ⟨z, hz, _⟩ := sh_int (k := .i64) rfl (h4 r hr)
    exact ⟨z, hz⟩
  refine ⟨l, a, ?_⟩
  rw [List.length_map] at h5
  exact h5
end
end Go.Tr
