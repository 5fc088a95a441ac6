/- What each function computes, and the plain laws of it. -/
import Derived.Test.YtmockcponpmefaaRows
import Derived.OpenShut
import Derived.Test.YtmockcponpmefaaTrX14b33838
set_option linter.unusedVariables false
set_option linter.unusedSimpArgs false
set_option linter.unnecessarySimpa false
set_option linter.constructorNameAsVariable false
set_option autoImplicit false
/- depend.Table. -/
namespace Go.Tr
open Go.Proofs
def rowL (L : List (List Int)) : List (List CV) := L.map fun l => [.sl 1 8 (rowI l)]
theorem len_rowL (L : List (List Int)) : (rowL L).length = L.length := by simp [rowL]
theorem rowL_snoc (L : List (List Int)) (l : List Int) : rowL L ++ [[.sl 1 8 (rowI l)]] = rowL (L ++ [l]) := by simp [rowL]
theorem rowL_at {L : List (List Int)} {i : Nat} {l : List Int} (h : L[i]? = some l) : (rowL L)[i]? = some [.sl 1 8 (rowI l)] := by simp [rowL, h]
def tabP (f : Nat → Nat → Bool) (n j : Nat) : List (List Int) := (List.range j).map fun a => upTo (fun b => f b a) n
theorem tabP_succ (f : Nat → Nat → Bool) (n j : Nat) : tabP f n (j + 1) = tabP f n j ++ [upTo (fun b => f b j) n] := by
  unfold tabP
  rw [List.range_succ, List.map_append]
  rfl
theorem tabP_len (f : Nat → Nat → Bool) (n j : Nat) : (tabP f n j).length = j := by simp [tabP]
noncomputable def tableF (sig : List Dcl) : List (List Int) := match checkB sig with | true => tabP (belM sig) sig.length sig.length | false => []
theorem cTableD (sig : List Dcl) : CallSt Try.prog 9 [.c (.sl 6 72 (dcs sig))] [] (fun r H' => r = .tup [.c (.sl 1 24 (rowL (tableF sig))), .c (.int .i64 ((if checkB sig then 0 else 2)))] ∧ H' = []) := by
  have hck := cCheck sig
  have hM := cBelowM sig
  have hbl := len_dcs sig
  unfold tableF
  cases hc : checkB sig with
  | false =>
    rw [hc] at hck
    refine call_pure (E := envB 0) (fn := Try.f9) (c := bodyOf Try.f9) (envB_ok 0) mixed (by kernel_rfl) (by kernel_rfl) (by kernel_rfl) (by kernel_rfl) (by kernel_rfl) (by kernel_rfl) rfl ?_
    conv => whnf
    try (refine dI (by kernel_rfl) ?_; conv => whnf)
    first | refine CallSt.use hck [] trivial (by decide) rfl ?_ | refine CallPt.useS hck [] trivial (by decide) rfl ?_
    rintro _ _ ⟨rfl, rfl⟩ _
    conv => whnf
    repeat ((first | refine aI rfl ?_ | refine aI (by decide) ?_ | refine dI (by kernel_rfl) ?_ | refine aI ⟨by omega, by omega⟩ ?_ | refine aI (by omega) ?_ | refine aI (fun _ => ⟨by omega, by omega⟩) ?_ | refine aI (of_decide_eq_true rfl) ?_ | (refine yI ?_ ?_; focus (first | decide | (simp; done) | (simp [tcs]; done))) | (refine nI ?_ ?_; focus (first | decide | (simp; done) | (simp [tcs]; done))) | intro _); conv => whnf)
    all_goals (first | rfl | exact ⟨rfl, rfl⟩ | exact ⟨rfl, rfl, rfl⟩)
  | true =>
    rw [hc] at hck
    replace hM := hM hc
    have hl := check_len hc
    show CallSt _ _ _ _ fun r H' => r = .tup [.c (.sl 1 24 (rowL (tabP (belM sig) sig.length sig.length))), .c (.int .i64 (0))] ∧ H' = []
    generalize belM sig = fm at *
    refine call_pure (E := envB 0) (fn := Try.f9) (c := bodyOf Try.f9) (envB_ok 0) mixed (by kernel_rfl) (by kernel_rfl) (by kernel_rfl) (by kernel_rfl) (by kernel_rfl) (by kernel_rfl) rfl ?_
    conv => whnf
    try (refine dI (by kernel_rfl) ?_; conv => whnf)
    first | refine CallSt.use hck [] trivial (by decide) rfl ?_ | refine CallPt.useS hck [] trivial (by decide) rfl ?_
    rintro _ _ ⟨rfl, rfl⟩ _
    conv => whnf
    repeat ((first | refine aI rfl ?_ | refine aI (by decide) ?_ | refine dI (by kernel_rfl) ?_ | refine aI ⟨by omega, by omega⟩ ?_ | refine aI (by omega) ?_ | refine aI (fun _ => ⟨by omega, by omega⟩) ?_ | refine aI (of_decide_eq_true rfl) ?_ | (refine yI ?_ ?_; focus (first | decide | (simp; done) | (simp [tcs]; done))) | (refine nI ?_ ?_; focus (first | decide | (simp; done) | (simp [tcs]; done))) | intro _); conv => whnf)
    try (refine dI (by kernel_rfl) ?_; conv => whnf)
    first | refine CallSt.use hM [] trivial (by decide) rfl ?_ | refine CallPt.useS hM [] trivial (by decide) rfl ?_
    rintro _ _ ⟨rfl, rfl⟩ _
    conv => whnf
    repeat ((first | refine aI rfl ?_ | refine aI (by decide) ?_ | refine dI (by kernel_rfl) ?_ | refine aI ⟨by omega, by omega⟩ ?_ | refine aI (by omega) ?_ | refine aI (fun _ => ⟨by omega, by omega⟩) ?_ | refine aI (of_decide_eq_true rfl) ?_ | (refine yI ?_ ?_; focus (first | decide | (simp; done) | (simp [tcs]; done))) | (refine nI ?_ ?_; focus (first | decide | (simp; done) | (simp [tcs]; done))) | intro _); conv => whnf)
    refine loop_intro (fun m tm H => ∃ j : Nat, sig.length = m + j ∧
      tm = [(19, .c (.int .i64 (j))), (18, .c (.int .i64 ((dcs sig).length))), (0, .c (.sl 6 72 (dcs sig))), (5, .elt 0 10000 0 0), (6, .own 1)] ∧ H = [.row 80 10000 1 [mrow fm], .row 39 1 24 (rowL (tabP fm sig.length j))])
      sig.length _ _ ⟨0, by omega, rfl, rfl⟩ ?_ ?_
    · refine Wk.trans (tm1 := [(19, .c (.int .i64 (0))), (18, .c (.int .i64 ((dcs sig).length))), (0, .c (.sl 6 72 (dcs sig))), (5, .elt 0 10000 0 0), (6, .nil)]) (H1 := [.row 80 10000 1 [mrow fm]]) ?_ (Wk.trans (Wk.niltmp 6 39 1 24 rfl rfl) ?_)
      · exact Wk.sl [0] rfl ⟨rfl, trivial⟩ ⟨rfl, rfl, rfl, rfl, rfl, trivial⟩ rfl
      · exact Wk.sl [0, 1] rfl ⟨rfl, rfl, trivial⟩ ⟨rfl, rfl, rfl, rfl, rfl, trivial⟩ rfl
    rintro m tm H ⟨j, hj, rfl, rfl⟩
    conv => whnf
    refine ⟨fun hlt => ?_, fun hlt => ?_⟩
    · replace hlt : (j : Int) < (dcs sig).length := of_decide_eq_true hlt
      have hsu := tabP_succ fm sig.length j
      have htl := tabP_len fm sig.length j
      generalize tabP fm sig.length j = T at *
      have hrT := len_rowL T
      conv => whnf
      repeat ((first | refine aI rfl ?_ | refine aI (by decide) ?_ | refine dI (by kernel_rfl) ?_ | refine aI ⟨by omega, by omega⟩ ?_ | refine aI (by omega) ?_ | refine aI (fun _ => ⟨by omega, by omega⟩) ?_ | refine aI (of_decide_eq_true rfl) ?_ | (refine yI ?_ ?_; focus (first | decide | (simp; done) | (simp [tcs]; done))) | (refine nI ?_ ?_; focus (first | decide | (simp; done) | (simp [tcs]; done))) | intro _); conv => whnf)
      refine loop_intro (fun m tm H => ∃ i : Nat, sig.length = m + i ∧
        tm = [(24, .c (.int .i64 (i))), (23, .c (.int .i64 ((dcs sig).length))), (7, .c (.int .i64 (j))), (8, .own 2), (19, .c (.int .i64 (j))), (18, .c (.int .i64 ((dcs sig).length))), (0, .c (.sl 6 72 (dcs sig))), (5, .elt 0 10000 0 0), (6, .own 1)] ∧ H = [.row 80 10000 1 [mrow fm], .row 39 1 24 (rowL T), .row 3 1 8 (rowI (upTo (fun b => fm b j) i))])
        sig.length _ _ ⟨0, by omega, rfl, rfl⟩ ?_ ?_
      · refine Wk.trans (tm1 := [(24, .c (.int .i64 (0))), (23, .c (.int .i64 ((dcs sig).length))), (7, .c (.int .i64 (j))), (8, .nil), (19, .c (.int .i64 (j))), (18, .c (.int .i64 ((dcs sig).length))), (0, .c (.sl 6 72 (dcs sig))), (5, .elt 0 10000 0 0), (6, .own 1)]) (H1 := [.row 80 10000 1 [mrow fm], .row 39 1 24 (rowL T)]) ?_ (Wk.trans (Wk.niltmp 8 3 1 8 rfl rfl) ?_)
        · exact Wk.sl [0, 1] rfl ⟨rfl, rfl, trivial⟩ ⟨rfl, rfl, rfl, rfl, rfl, rfl, rfl, rfl, rfl, trivial⟩ rfl
        · exact Wk.sl [0, 1, 2] rfl ⟨rfl, rfl, rfl, trivial⟩ ⟨rfl, rfl, rfl, rfl, rfl, rfl, rfl, rfl, rfl, trivial⟩ rfl
      rintro m2 tm H ⟨i, hi, rfl, rfl⟩
      conv => whnf
      refine ⟨fun hlt2 => ?_, fun hlt2 => ?_⟩
      · replace hlt2 : (i : Int) < (dcs sig).length := of_decide_eq_true hlt2
        have hrl := len_rowI (upTo (fun b => fm b j) i)
        have hul := upTo_len (fun b => fm b j) i
        have hl2 : ((rowI (upTo (fun b => fm b j) i)).length + 1) * 8 ≤ 140737488355328 := by omega
        have hl3 : (rowI (upTo (fun b => fm b j) i)).length + 1 ≤ 9223372036854775807 := by omega
        conv => whnf
        repeat ((first | refine aI rfl ?_ | refine aI (by decide) ?_ | refine dI (by kernel_rfl) ?_ | refine aI ⟨by omega, by omega⟩ ?_ | refine aI (by omega) ?_ | refine aI (fun _ => ⟨by omega, by omega⟩) ?_ | refine aI (of_decide_eq_true rfl) ?_ | (refine yI ?_ ?_; focus (first | decide | (simp; done) | (simp [tcs]; done))) | (refine nI ?_ ?_; focus (first | decide | (simp; done) | (simp [tcs]; done))) | intro _); conv => whnf)
        refine ⟨fm i j, ⟨_, rfl, mrow_at2 fm (by omega) (by omega)⟩, ?_⟩
        conv => whnf
        refine ⟨fun h2 => ?_, fun h2 => ?_⟩
        · conv => whnf
          refine ⟨by decide, ?_⟩
          conv => whnf
          refine ⟨by decide, ?_⟩
          conv => whnf
          refine ⟨hl2, hl3, ?_⟩
          conv => whnf
          repeat ((first | refine aI rfl ?_ | refine aI (by decide) ?_ | refine dI (by kernel_rfl) ?_ | refine aI ⟨by omega, by omega⟩ ?_ | refine aI (by omega) ?_ | refine aI (fun _ => ⟨by omega, by omega⟩) ?_ | refine aI (of_decide_eq_true rfl) ?_ | (refine yI ?_ ?_; focus (first | decide | (simp; done) | (simp [tcs]; done))) | (refine nI ?_ ?_; focus (first | decide | (simp; done) | (simp [tcs]; done))) | intro _); conv => whnf)
          refine ⟨m2 - 1, _, _, by omega, ⟨i + 1, by omega, rfl, rfl⟩, Wk.sl [0, 1, 4] rfl ⟨rfl, rfl, ?_, trivial⟩ ⟨rfl, rfl, rfl, rfl, rfl, rfl, rfl, rfl, rfl, trivial⟩ rfl⟩
          rw [upTo_yes (p := fun b => fm b j) h2, ← rowI_snoc]
          rfl
        · conv => whnf
          repeat ((first | refine aI rfl ?_ | refine aI (by decide) ?_ | refine dI (by kernel_rfl) ?_ | refine aI ⟨by omega, by omega⟩ ?_ | refine aI (by omega) ?_ | refine aI (fun _ => ⟨by omega, by omega⟩) ?_ | refine aI (of_decide_eq_true rfl) ?_ | (refine yI ?_ ?_; focus (first | decide | (simp; done) | (simp [tcs]; done))) | (refine nI ?_ ?_; focus (first | decide | (simp; done) | (simp [tcs]; done))) | intro _); conv => whnf)
          refine ⟨m2 - 1, _, _, by omega, ⟨i + 1, by omega, rfl, rfl⟩, Wk.sl [0, 1, 2] rfl ⟨rfl, rfl, ?_, trivial⟩ ⟨rfl, rfl, rfl, rfl, rfl, rfl, rfl, rfl, rfl, trivial⟩ rfl⟩
          rw [upTo_no (p := fun b => fm b j) h2]
          rfl
      · replace hlt2 : ¬ (i : Int) < (dcs sig).length := of_decide_eq_false hlt2
        obtain rfl : i = sig.length := by omega
        have hl2 : ((rowL T).length + 1) * 24 ≤ 140737488355328 := by omega
        have hl3 : (rowL T).length + 1 ≤ 9223372036854775807 := by omega
        conv => whnf
        repeat ((first | refine aI rfl ?_ | refine aI (by decide) ?_ | refine dI (by kernel_rfl) ?_ | refine aI ⟨by omega, by omega⟩ ?_ | refine aI (by omega) ?_ | refine aI (fun _ => ⟨by omega, by omega⟩) ?_ | refine aI (of_decide_eq_true rfl) ?_ | (refine yI ?_ ?_; focus (first | decide | (simp; done) | (simp [tcs]; done))) | (refine nI ?_ ?_; focus (first | decide | (simp; done) | (simp [tcs]; done))) | intro _); conv => whnf)
        refine ⟨m - 1, _, _, by omega, ⟨j + 1, by omega, rfl, rfl⟩, Wk.sl [0, 4] rfl ⟨rfl, ?_, trivial⟩ ⟨rfl, rfl, rfl, rfl, rfl, trivial⟩ rfl⟩
        rw [hsu, ← rowL_snoc]
        rfl
    · replace hlt : ¬ (j : Int) < (dcs sig).length := of_decide_eq_false hlt
      obtain rfl : j = sig.length := by omega
      conv => whnf
      repeat ((first | refine aI rfl ?_ | refine aI (by decide) ?_ | refine dI (by kernel_rfl) ?_ | refine aI ⟨by omega, by omega⟩ ?_ | refine aI (by omega) ?_ | refine aI (fun _ => ⟨by omega, by omega⟩) ?_ | refine aI (of_decide_eq_true rfl) ?_ | (refine yI ?_ ?_; focus (first | decide | (simp; done) | (simp [tcs]; done))) | (refine nI ?_ ?_; focus (first | decide | (simp; done) | (simp [tcs]; done))) | intro _); conv => whnf)
      all_goals (first | rfl | exact ⟨rfl, rfl⟩ | exact ⟨rfl, rfl, rfl⟩)
end Go.Tr
/- depend.Groups: the next group. -/
namespace Go.Tr
open Go.Proofs
def drow (d : Nat → Bool) : List CV := (List.range 100).map fun k => .bool (d k)
theorem drow_len (d : Nat → Bool) : (drow d).length = 100 := by simp [drow]
theorem drow_at (d : Nat → Bool) {a : Nat} (ha : a < 100) : (drow d)[0 + (a : Int).toNat * 1]? = some (.bool (d a)) := by
  rw [Int.toNat_natCast, Nat.zero_add, Nat.mul_one]
  unfold drow
  rw [List.getElem?_map, List.getElem?_range ha]
  rfl
def updD (d : Nat → Bool) (a : Nat) : Nat → Bool := fun x => d x || decide (x = a)
theorem drow_set (d : Nat → Bool) {a : Nat} (ha : a < 100) : 0 + (a : Int).toNat * 1 + 1 ≤ (drow d).length ∧ (drow d).set (0 + (a : Int).toNat * 1) (.bool true) = drow (updD d a) := by
  rw [Int.toNat_natCast, Nat.zero_add, Nat.mul_one, drow_len]
  refine ⟨by omega, List.ext_getElem? fun k => ?_⟩
  rw [List.getElem?_set]
  unfold drow
  by_cases hk : a = k
  · subst hk
    rw [if_pos rfl, if_pos (by simp; omega), List.getElem?_map, List.getElem?_range (by omega)]
    simp [updD]
  · rw [if_neg hk, List.getElem?_map, List.getElem?_map]
    by_cases hl : k < 100
    · rw [List.getElem?_range hl]
      have : ¬ k = a := fun e => hk e.symm
      simp [updD, this]
    · rw [List.getElem?_eq_none (by simp; omega)]
      rfl
theorem drow_zero : (List.replicate 100 (CV.bool false)) = drow (fun _ => false) := by
  unfold drow
  rw [List.map_const', List.length_range]
attribute [irreducible] drow
def okB (f : Nat → Nat → Bool) (d : Nat → Bool) (a b : Nat) : Bool := (f b a && f a b) || !(f b a && !d b)
def okG (f : Nat → Nat → Bool) (kd d : Nat → Bool) (n a : Nat) : Bool := !d a && kd a && (List.range n).all fun b => okB f d a b
def grp (f : Nat → Nat → Bool) (n a : Nat) : List Int := upTo (fun b => f b a && f a b) n
def nxG (ok : Nat → Bool) (n : Nat) : Option Nat := (List.range n).find? ok
theorem nxG_some {ok : Nat → Bool} {n a : Nat} (ha : a < n) (h : ok a = true) (hn : ∀ i, i < a → ok i = false) : nxG ok n = some a := by
  unfold nxG
  rw [List.find?_range_eq_some]
  exact ⟨h, by simpa using ha, fun j hj => by simp [hn j hj]⟩
theorem nxG_none {ok : Nat → Bool} {n : Nat} (hn : ∀ i, i < n → ok i = false) : nxG ok n = none := by
  unfold nxG
  rw [List.find?_eq_none]
  intro x hx
  rw [hn x (by simpa using hx)]
  simp
theorem nxG_of {ok : Nat → Bool} {n a : Nat} (h : nxG ok n = some a) : a < n ∧ ok a = true := by
  unfold nxG at h
  rw [List.find?_range_eq_some] at h
  exact ⟨by simpa using h.2.1, h.1⟩
def nxW (f : Nat → Nat → Bool) (n : Nat) : Option Nat → AV
  | some a => .c (.sl 1 8 (rowI (grp f n a)))
  | none => .nil
abbrev gpH (sig : List Dcl) (d : Nat → Bool) (f : Nat → Nat → Bool) : HP := [.box [.c (.sl 6 72 (dcs sig))], .row 59 100 1 [drow d], .box [.elt 3 10000 0 0], .row 80 10000 1 [mrow f]]
theorem cGrpS (sig : List Dcl) (hp : ∀ e ∈ sig, prop e.c = true) (hl : sig.length ≤ 100) (d : Nat → Bool) (f : Nat → Nat → Bool) {g : Nat} (ho : nxG (okG f (fun n => kindAt sig n) d sig.length) sig.length = some g) :
    CallSt Try.prog 35 [.ptr 0 0, .elt 1 100 0 0, .ptr 2 0] (gpH sig d f) (fun r H' => r = .c (.sl 1 8 (rowI (grp f sig.length g))) ∧ H' = gpH sig d f) := by
  have hbl := len_dcs sig
  have hfm := fun (n : Int) h0 h1 => cFam2 hp (n := n) h0 h1
  have hnone := fun h => @nxG_none (okG f (fun n => kindAt sig n) d sig.length) sig.length h
  have hsome := fun a h1 h2 h3 => @nxG_some (okG f (fun n => kindAt sig n) d sig.length) sig.length a h1 h2 h3
  have hok : ∀ a, okG f (fun n => kindAt sig n) d sig.length a = (!d a && kindAt sig a && (List.range sig.length).all fun b => okB f d a b) := fun a => rfl
  generalize okG f (fun n => kindAt sig n) d sig.length = ok at *
  refine call_pure (E := envB 4) (fn := Try.f35) (c := bodyOf Try.f35) (envB_ok 4) mixed (by kernel_rfl) (by kernel_rfl) (by kernel_rfl) (by kernel_rfl) (by kernel_rfl) (by kernel_rfl) rfl ?_
  conv => whnf
  repeat ((first | refine aI rfl ?_ | refine aI (by decide) ?_ | refine dI (by kernel_rfl) ?_ | refine aI ⟨by omega, by omega⟩ ?_ | refine aI (by omega) ?_ | refine aI (fun _ => ⟨by omega, by omega⟩) ?_ | refine aI (of_decide_eq_true rfl) ?_ | (refine yI ?_ ?_; focus (first | decide | (simp; done) | (simp [tcs]; done))) | (refine nI ?_ ?_; focus (first | decide | (simp; done) | (simp [tcs]; done))) | intro _); conv => whnf)
  refine loop_intro (fun m tm H => ∃ j : Nat, sig.length = m + j ∧ (∀ i, i < j → ok i = false) ∧
    tm = [(9, .c (.int .i64 (j))), (8, .c (.int .i64 ((dcs sig).length))), (0, .ptr 0 0), (1, .elt 1 100 0 0), (2, .ptr 2 0)] ∧ H = gpH sig d f)
    sig.length _ _ ⟨0, by omega, fun i hi => absurd hi (by omega), rfl, rfl⟩ ?_ ?_
  · exact Wk.sl [0, 1, 2, 3] rfl ⟨rfl, rfl, rfl, rfl, trivial⟩ ⟨rfl, rfl, rfl, rfl, rfl, trivial⟩ rfl
  rintro m tm H ⟨j, hj, hlow, rfl, rfl⟩
  conv => whnf
  refine ⟨fun hlt => ?_, fun hlt => ?_⟩
  · replace hlt : (j : Int) < (dcs sig).length := of_decide_eq_true hlt
    have hfj := hfm j (by omega) (by omega)
    have hoj := hok j
    generalize kindAt sig j = kj at *
    have hda : (drow d)[0 + (j : Int).toNat * 1]? = some (.bool (d j)) := drow_at d (by omega)
    have hskip : ok j = false → ∀ i, i < j + 1 → ok i = false := fun h i hi => (by
      by_cases e : i = j
      · rw [e]; exact h
      · exact hlow i (by omega))
    cases hdj : d j with
    | true =>
      rw [hdj] at hda hoj
      have hoF := hskip hoj
      conv => whnf
      repeat ((first | refine aI rfl ?_ | refine aI (by decide) ?_ | refine dI (by kernel_rfl) ?_ | refine aI ⟨by omega, by omega⟩ ?_ | refine aI (by omega) ?_ | refine aI (fun _ => ⟨by omega, by omega⟩) ?_ | refine aI (of_decide_eq_true rfl) ?_ | (refine yI ?_ ?_; focus (first | decide | (simp; done) | (simp [tcs]; done))) | (refine nI ?_ ?_; focus (first | decide | (simp; done) | (simp [tcs]; done))) | intro _); conv => whnf)
      refine ⟨true, ⟨_, rfl, hda⟩, ?_⟩
      conv => whnf
      repeat ((first | refine aI rfl ?_ | refine aI (by decide) ?_ | refine dI (by kernel_rfl) ?_ | refine aI ⟨by omega, by omega⟩ ?_ | refine aI (by omega) ?_ | refine aI (fun _ => ⟨by omega, by omega⟩) ?_ | refine aI (of_decide_eq_true rfl) ?_ | (refine yI ?_ ?_; focus (first | decide | (simp; done) | (simp [tcs]; done))) | (refine nI ?_ ?_; focus (first | decide | (simp; done) | (simp [tcs]; done))) | intro _); conv => whnf)
      exact ⟨m - 1, _, _, by omega, ⟨j + 1, by omega, hoF, rfl, rfl⟩, Wk.sl [0, 1, 2, 3] rfl ⟨rfl, rfl, rfl, rfl, trivial⟩ ⟨rfl, rfl, rfl, rfl, rfl, trivial⟩ rfl⟩
    | false =>
      rw [hdj] at hda hoj
      cases kj with
      | false =>
        have hoF := hskip hoj
        conv => whnf
        repeat ((first | refine aI rfl ?_ | refine aI (by decide) ?_ | refine dI (by kernel_rfl) ?_ | refine aI ⟨by omega, by omega⟩ ?_ | refine aI (by omega) ?_ | refine aI (fun _ => ⟨by omega, by omega⟩) ?_ | refine aI (of_decide_eq_true rfl) ?_ | (refine yI ?_ ?_; focus (first | decide | (simp; done) | (simp [tcs]; done))) | (refine nI ?_ ?_; focus (first | decide | (simp; done) | (simp [tcs]; done))) | intro _); conv => whnf)
        refine ⟨false, ⟨_, rfl, hda⟩, ?_⟩
        conv => whnf
        repeat ((first | refine aI rfl ?_ | refine aI (by decide) ?_ | refine dI (by kernel_rfl) ?_ | refine aI ⟨by omega, by omega⟩ ?_ | refine aI (by omega) ?_ | refine aI (fun _ => ⟨by omega, by omega⟩) ?_ | refine aI (of_decide_eq_true rfl) ?_ | (refine yI ?_ ?_; focus (first | decide | (simp; done) | (simp [tcs]; done))) | (refine nI ?_ ?_; focus (first | decide | (simp; done) | (simp [tcs]; done))) | intro _); conv => whnf)
        try (refine dI (by kernel_rfl) ?_; conv => whnf)
        first | refine CallSt.use hfj [] trivial (by decide) rfl ?_ | refine CallPt.useS hfj [] trivial (by decide) rfl ?_
        rintro _ _ ⟨rfl, rfl⟩ _
        conv => whnf
        repeat ((first | refine aI rfl ?_ | refine aI (by decide) ?_ | refine dI (by kernel_rfl) ?_ | refine aI ⟨by omega, by omega⟩ ?_ | refine aI (by omega) ?_ | refine aI (fun _ => ⟨by omega, by omega⟩) ?_ | refine aI (of_decide_eq_true rfl) ?_ | (refine yI ?_ ?_; focus (first | decide | (simp; done) | (simp [tcs]; done))) | (refine nI ?_ ?_; focus (first | decide | (simp; done) | (simp [tcs]; done))) | intro _); conv => whnf)
        exact ⟨m - 1, _, _, by omega, ⟨j + 1, by omega, hoF, rfl, rfl⟩, Wk.sl [0, 1, 2, 3] rfl ⟨rfl, rfl, rfl, rfl, trivial⟩ ⟨rfl, rfl, rfl, rfl, rfl, trivial⟩ rfl⟩
      | true =>
        rw [Bool.not_false, Bool.true_and, Bool.true_and] at hoj
        conv => whnf
        repeat ((first | refine aI rfl ?_ | refine aI (by decide) ?_ | refine dI (by kernel_rfl) ?_ | refine aI ⟨by omega, by omega⟩ ?_ | refine aI (by omega) ?_ | refine aI (fun _ => ⟨by omega, by omega⟩) ?_ | refine aI (of_decide_eq_true rfl) ?_ | (refine yI ?_ ?_; focus (first | decide | (simp; done) | (simp [tcs]; done))) | (refine nI ?_ ?_; focus (first | decide | (simp; done) | (simp [tcs]; done))) | intro _); conv => whnf)
        refine ⟨false, ⟨_, rfl, hda⟩, ?_⟩
        conv => whnf
        repeat ((first | refine aI rfl ?_ | refine aI (by decide) ?_ | refine dI (by kernel_rfl) ?_ | refine aI ⟨by omega, by omega⟩ ?_ | refine aI (by omega) ?_ | refine aI (fun _ => ⟨by omega, by omega⟩) ?_ | refine aI (of_decide_eq_true rfl) ?_ | (refine yI ?_ ?_; focus (first | decide | (simp; done) | (simp [tcs]; done))) | (refine nI ?_ ?_; focus (first | decide | (simp; done) | (simp [tcs]; done))) | intro _); conv => whnf)
        try (refine dI (by kernel_rfl) ?_; conv => whnf)
        first | refine CallSt.use hfj [] trivial (by decide) rfl ?_ | refine CallPt.useS hfj [] trivial (by decide) rfl ?_
        rintro _ _ ⟨rfl, rfl⟩ _
        conv => whnf
        repeat ((first | refine aI rfl ?_ | refine aI (by decide) ?_ | refine dI (by kernel_rfl) ?_ | refine aI ⟨by omega, by omega⟩ ?_ | refine aI (by omega) ?_ | refine aI (fun _ => ⟨by omega, by omega⟩) ?_ | refine aI (of_decide_eq_true rfl) ?_ | (refine yI ?_ ?_; focus (first | decide | (simp; done) | (simp [tcs]; done))) | (refine nI ?_ ?_; focus (first | decide | (simp; done) | (simp [tcs]; done))) | intro _); conv => whnf)
        refine loop_intro (fun m tm H => ∃ i : Nat, sig.length = m + i ∧ (∀ b, b < i → okB f d j b = true) ∧
          tm = [(23, .c (.int .i64 (i))), (22, .c (.int .i64 ((dcs sig).length))), (5, .own 4), (4, .c (.int .i64 (j))), (9, .c (.int .i64 (j))), (8, .c (.int .i64 ((dcs sig).length))), (0, .ptr 0 0), (1, .elt 1 100 0 0), (2, .ptr 2 0)] ∧ H = gpH sig d f ++ [.row 3 1 8 (rowI (upTo (fun b => f b j && f j b) i))])
          sig.length _ _ ⟨0, by omega, fun i hi => absurd hi (by omega), rfl, rfl⟩ ?_ ?_
        · refine Wk.trans (tm1 := [(23, .c (.int .i64 (0))), (22, .c (.int .i64 ((dcs sig).length))), (5, .nil), (4, .c (.int .i64 (j))), (9, .c (.int .i64 (j))), (8, .c (.int .i64 ((dcs sig).length))), (0, .ptr 0 0), (1, .elt 1 100 0 0), (2, .ptr 2 0)]) (H1 := gpH sig d f) ?_ (Wk.trans (Wk.niltmp 5 3 1 8 rfl rfl) ?_)
          · exact Wk.sl [0, 1, 2, 3] rfl ⟨rfl, rfl, rfl, rfl, trivial⟩ ⟨rfl, rfl, rfl, rfl, rfl, rfl, rfl, rfl, rfl, trivial⟩ rfl
          · exact Wk.sl [0, 1, 2, 3, 4] rfl ⟨rfl, rfl, rfl, rfl, rfl, trivial⟩ ⟨rfl, rfl, rfl, rfl, rfl, rfl, rfl, rfl, rfl, trivial⟩ rfl
        rintro m2 tm H ⟨i, hi, hall, rfl, rfl⟩
        conv => whnf
        refine ⟨fun hlt2 => ?_, fun hlt2 => ?_⟩
        · replace hlt2 : (i : Int) < (dcs sig).length := of_decide_eq_true hlt2
          have hrl := len_rowI (upTo (fun b => f b j && f j b) i)
          have hul := upTo_len (fun b => f b j && f j b) i
          have hl2 : ((rowI (upTo (fun b => f b j && f j b) i)).length + 1) * 8 ≤ 140737488355328 := by omega
          have hl3 : (rowI (upTo (fun b => f b j && f j b) i)).length + 1 ≤ 9223372036854775807 := by omega
          have hm1 : (mrow f)[0 + (i : Int).toNat * 100 + (j : Int).toNat * 1]? = some (.bool (f i j)) := mrow_at2 f (by omega) (by omega)
          have hm2 : (mrow f)[0 + (j : Int).toNat * 100 + (i : Int).toNat * 1]? = some (.bool (f j i)) := mrow_at2 f (by omega) (by omega)
          have hd2 : (drow d)[0 + (i : Int).toNat * 1]? = some (.bool (d i)) := drow_at d (by omega)
          have hob : okB f d j i = ((f i j && f j i) || !(f i j && !d i)) := rfl
          have hpp : ∀ x : Bool, x = (f i j && f j i) → (fun b => f b j && f j b) i = x := fun x h => h.symm
          have hnext : okB f d j i = true → ∀ b, b < i + 1 → okB f d j b = true := fun h b hb => (by
            by_cases e : b = i
            · rw [e]; exact h
            · exact hall b (by omega))
          have hstop : okB f d j i = false → ok j = false := fun h => (by
            rw [hoj, List.all_eq_false]
            exact ⟨i, by simp; omega, by rw [h]; simp⟩)
          cases h1 : f i j with
          | false =>
            rw [h1] at hm1 hob hpp
            have hnx := hnext hob
            conv => whnf
            repeat ((first | refine aI rfl ?_ | refine aI (by decide) ?_ | refine dI (by kernel_rfl) ?_ | refine aI ⟨by omega, by omega⟩ ?_ | refine aI (by omega) ?_ | refine aI (fun _ => ⟨by omega, by omega⟩) ?_ | refine aI (of_decide_eq_true rfl) ?_ | (refine yI ?_ ?_; focus (first | decide | (simp; done) | (simp [tcs]; done))) | (refine nI ?_ ?_; focus (first | decide | (simp; done) | (simp [tcs]; done))) | intro _); conv => whnf)
            refine ⟨false, ⟨_, rfl, hm1⟩, ?_⟩
            conv => whnf
            repeat ((first | refine aI rfl ?_ | refine aI (by decide) ?_ | refine dI (by kernel_rfl) ?_ | refine aI ⟨by omega, by omega⟩ ?_ | refine aI (by omega) ?_ | refine aI (fun _ => ⟨by omega, by omega⟩) ?_ | refine aI (of_decide_eq_true rfl) ?_ | (refine yI ?_ ?_; focus (first | decide | (simp; done) | (simp [tcs]; done))) | (refine nI ?_ ?_; focus (first | decide | (simp; done) | (simp [tcs]; done))) | intro _); conv => whnf)
            refine ⟨f j i, ⟨_, rfl, hm2⟩, ?_⟩
            conv => whnf
            repeat ((first | refine aI rfl ?_ | refine aI (by decide) ?_ | refine dI (by kernel_rfl) ?_ | refine aI ⟨by omega, by omega⟩ ?_ | refine aI (by omega) ?_ | refine aI (fun _ => ⟨by omega, by omega⟩) ?_ | refine aI (of_decide_eq_true rfl) ?_ | (refine yI ?_ ?_; focus (first | decide | (simp; done) | (simp [tcs]; done))) | (refine nI ?_ ?_; focus (first | decide | (simp; done) | (simp [tcs]; done))) | intro _); conv => whnf)
            refine ⟨false, ⟨_, rfl, hm1⟩, ?_⟩
            conv => whnf
            repeat ((first | refine aI rfl ?_ | refine aI (by decide) ?_ | refine dI (by kernel_rfl) ?_ | refine aI ⟨by omega, by omega⟩ ?_ | refine aI (by omega) ?_ | refine aI (fun _ => ⟨by omega, by omega⟩) ?_ | refine aI (of_decide_eq_true rfl) ?_ | (refine yI ?_ ?_; focus (first | decide | (simp; done) | (simp [tcs]; done))) | (refine nI ?_ ?_; focus (first | decide | (simp; done) | (simp [tcs]; done))) | intro _); conv => whnf)
            refine ⟨d i, ⟨_, rfl, hd2⟩, ?_⟩
            conv => whnf
            repeat ((first | refine aI rfl ?_ | refine aI (by decide) ?_ | refine dI (by kernel_rfl) ?_ | refine aI ⟨by omega, by omega⟩ ?_ | refine aI (by omega) ?_ | refine aI (fun _ => ⟨by omega, by omega⟩) ?_ | refine aI (of_decide_eq_true rfl) ?_ | (refine yI ?_ ?_; focus (first | decide | (simp; done) | (simp [tcs]; done))) | (refine nI ?_ ?_; focus (first | decide | (simp; done) | (simp [tcs]; done))) | intro _); conv => whnf)
            refine ⟨m2 - 1, _, _, by omega, ⟨i + 1, by omega, hnx, rfl, rfl⟩, Wk.sl [0, 1, 2, 3, 4] rfl ⟨rfl, rfl, rfl, rfl, ?_, trivial⟩ ⟨rfl, rfl, rfl, rfl, rfl, rfl, rfl, rfl, rfl, trivial⟩ rfl⟩
            rw [upTo_no (hpp false rfl)]
            rfl
          | true =>
            rw [h1] at hm1 hob hpp
            cases h2 : f j i with
            | true =>
              rw [h2] at hm2 hob hpp
              have hnx := hnext hob
              conv => whnf
              repeat ((first | refine aI rfl ?_ | refine aI (by decide) ?_ | refine dI (by kernel_rfl) ?_ | refine aI ⟨by omega, by omega⟩ ?_ | refine aI (by omega) ?_ | refine aI (fun _ => ⟨by omega, by omega⟩) ?_ | refine aI (of_decide_eq_true rfl) ?_ | (refine yI ?_ ?_; focus (first | decide | (simp; done) | (simp [tcs]; done))) | (refine nI ?_ ?_; focus (first | decide | (simp; done) | (simp [tcs]; done))) | intro _); conv => whnf)
              refine ⟨true, ⟨_, rfl, hm1⟩, ?_⟩
              conv => whnf
              repeat ((first | refine aI rfl ?_ | refine aI (by decide) ?_ | refine dI (by kernel_rfl) ?_ | refine aI ⟨by omega, by omega⟩ ?_ | refine aI (by omega) ?_ | refine aI (fun _ => ⟨by omega, by omega⟩) ?_ | refine aI (of_decide_eq_true rfl) ?_ | (refine yI ?_ ?_; focus (first | decide | (simp; done) | (simp [tcs]; done))) | (refine nI ?_ ?_; focus (first | decide | (simp; done) | (simp [tcs]; done))) | intro _); conv => whnf)
              refine ⟨true, ⟨_, rfl, hm2⟩, ?_⟩
              conv => whnf
              repeat ((first | refine aI rfl ?_ | refine aI (by decide) ?_ | refine dI (by kernel_rfl) ?_ | refine aI ⟨by omega, by omega⟩ ?_ | refine aI (by omega) ?_ | refine aI (fun _ => ⟨by omega, by omega⟩) ?_ | refine aI (of_decide_eq_true rfl) ?_ | (refine yI ?_ ?_; focus (first | decide | (simp; done) | (simp [tcs]; done))) | (refine nI ?_ ?_; focus (first | decide | (simp; done) | (simp [tcs]; done))) | intro _); conv => whnf)
              refine ⟨m2 - 1, _, _, by omega, ⟨i + 1, by omega, hnx, rfl, rfl⟩, Wk.sl [0, 1, 2, 3, 6] rfl ⟨rfl, rfl, rfl, rfl, ?_, trivial⟩ ⟨rfl, rfl, rfl, rfl, rfl, rfl, rfl, rfl, rfl, trivial⟩ rfl⟩
              rw [upTo_yes (hpp true rfl), ← rowI_snoc]
              rfl
            | false =>
              rw [h2] at hm2 hob hpp
              cases h3 : d i with
              | true =>
                rw [h3] at hd2 hob
                have hnx := hnext hob
                conv => whnf
                repeat ((first | refine aI rfl ?_ | refine aI (by decide) ?_ | refine dI (by kernel_rfl) ?_ | refine aI ⟨by omega, by omega⟩ ?_ | refine aI (by omega) ?_ | refine aI (fun _ => ⟨by omega, by omega⟩) ?_ | refine aI (of_decide_eq_true rfl) ?_ | (refine yI ?_ ?_; focus (first | decide | (simp; done) | (simp [tcs]; done))) | (refine nI ?_ ?_; focus (first | decide | (simp; done) | (simp [tcs]; done))) | intro _); conv => whnf)
                refine ⟨true, ⟨_, rfl, hm1⟩, ?_⟩
                conv => whnf
                repeat ((first | refine aI rfl ?_ | refine aI (by decide) ?_ | refine dI (by kernel_rfl) ?_ | refine aI ⟨by omega, by omega⟩ ?_ | refine aI (by omega) ?_ | refine aI (fun _ => ⟨by omega, by omega⟩) ?_ | refine aI (of_decide_eq_true rfl) ?_ | (refine yI ?_ ?_; focus (first | decide | (simp; done) | (simp [tcs]; done))) | (refine nI ?_ ?_; focus (first | decide | (simp; done) | (simp [tcs]; done))) | intro _); conv => whnf)
                refine ⟨false, ⟨_, rfl, hm2⟩, ?_⟩
                conv => whnf
                repeat ((first | refine aI rfl ?_ | refine aI (by decide) ?_ | refine dI (by kernel_rfl) ?_ | refine aI ⟨by omega, by omega⟩ ?_ | refine aI (by omega) ?_ | refine aI (fun _ => ⟨by omega, by omega⟩) ?_ | refine aI (of_decide_eq_true rfl) ?_ | (refine yI ?_ ?_; focus (first | decide | (simp; done) | (simp [tcs]; done))) | (refine nI ?_ ?_; focus (first | decide | (simp; done) | (simp [tcs]; done))) | intro _); conv => whnf)
                refine ⟨true, ⟨_, rfl, hm1⟩, ?_⟩
                conv => whnf
                repeat ((first | refine aI rfl ?_ | refine aI (by decide) ?_ | refine dI (by kernel_rfl) ?_ | refine aI ⟨by omega, by omega⟩ ?_ | refine aI (by omega) ?_ | refine aI (fun _ => ⟨by omega, by omega⟩) ?_ | refine aI (of_decide_eq_true rfl) ?_ | (refine yI ?_ ?_; focus (first | decide | (simp; done) | (simp [tcs]; done))) | (refine nI ?_ ?_; focus (first | decide | (simp; done) | (simp [tcs]; done))) | intro _); conv => whnf)
                refine ⟨true, ⟨_, rfl, hd2⟩, ?_⟩
                conv => whnf
                repeat ((first | refine aI rfl ?_ | refine aI (by decide) ?_ | refine dI (by kernel_rfl) ?_ | refine aI ⟨by omega, by omega⟩ ?_ | refine aI (by omega) ?_ | refine aI (fun _ => ⟨by omega, by omega⟩) ?_ | refine aI (of_decide_eq_true rfl) ?_ | (refine yI ?_ ?_; focus (first | decide | (simp; done) | (simp [tcs]; done))) | (refine nI ?_ ?_; focus (first | decide | (simp; done) | (simp [tcs]; done))) | intro _); conv => whnf)
                refine ⟨m2 - 1, _, _, by omega, ⟨i + 1, by omega, hnx, rfl, rfl⟩, Wk.sl [0, 1, 2, 3, 4] rfl ⟨rfl, rfl, rfl, rfl, ?_, trivial⟩ ⟨rfl, rfl, rfl, rfl, rfl, rfl, rfl, rfl, rfl, trivial⟩ rfl⟩
                rw [upTo_no (hpp false rfl)]
                rfl
              | false =>
                rw [h3] at hd2 hob
                have hoF := hskip (hstop hob)
                conv => whnf
                repeat ((first | refine aI rfl ?_ | refine aI (by decide) ?_ | refine dI (by kernel_rfl) ?_ | refine aI ⟨by omega, by omega⟩ ?_ | refine aI (by omega) ?_ | refine aI (fun _ => ⟨by omega, by omega⟩) ?_ | refine aI (of_decide_eq_true rfl) ?_ | (refine yI ?_ ?_; focus (first | decide | (simp; done) | (simp [tcs]; done))) | (refine nI ?_ ?_; focus (first | decide | (simp; done) | (simp [tcs]; done))) | intro _); conv => whnf)
                refine ⟨true, ⟨_, rfl, hm1⟩, ?_⟩
                conv => whnf
                repeat ((first | refine aI rfl ?_ | refine aI (by decide) ?_ | refine dI (by kernel_rfl) ?_ | refine aI ⟨by omega, by omega⟩ ?_ | refine aI (by omega) ?_ | refine aI (fun _ => ⟨by omega, by omega⟩) ?_ | refine aI (of_decide_eq_true rfl) ?_ | (refine yI ?_ ?_; focus (first | decide | (simp; done) | (simp [tcs]; done))) | (refine nI ?_ ?_; focus (first | decide | (simp; done) | (simp [tcs]; done))) | intro _); conv => whnf)
                refine ⟨false, ⟨_, rfl, hm2⟩, ?_⟩
                conv => whnf
                repeat ((first | refine aI rfl ?_ | refine aI (by decide) ?_ | refine dI (by kernel_rfl) ?_ | refine aI ⟨by omega, by omega⟩ ?_ | refine aI (by omega) ?_ | refine aI (fun _ => ⟨by omega, by omega⟩) ?_ | refine aI (of_decide_eq_true rfl) ?_ | (refine yI ?_ ?_; focus (first | decide | (simp; done) | (simp [tcs]; done))) | (refine nI ?_ ?_; focus (first | decide | (simp; done) | (simp [tcs]; done))) | intro _); conv => whnf)
                refine ⟨true, ⟨_, rfl, hm1⟩, ?_⟩
                conv => whnf
                repeat ((first | refine aI rfl ?_ | refine aI (by decide) ?_ | refine dI (by kernel_rfl) ?_ | refine aI ⟨by omega, by omega⟩ ?_ | refine aI (by omega) ?_ | refine aI (fun _ => ⟨by omega, by omega⟩) ?_ | refine aI (of_decide_eq_true rfl) ?_ | (refine yI ?_ ?_; focus (first | decide | (simp; done) | (simp [tcs]; done))) | (refine nI ?_ ?_; focus (first | decide | (simp; done) | (simp [tcs]; done))) | intro _); conv => whnf)
                refine ⟨false, ⟨_, rfl, hd2⟩, ?_⟩
                conv => whnf
                repeat ((first | refine aI rfl ?_ | refine aI (by decide) ?_ | refine dI (by kernel_rfl) ?_ | refine aI ⟨by omega, by omega⟩ ?_ | refine aI (by omega) ?_ | refine aI (fun _ => ⟨by omega, by omega⟩) ?_ | refine aI (of_decide_eq_true rfl) ?_ | (refine yI ?_ ?_; focus (first | decide | (simp; done) | (simp [tcs]; done))) | (refine nI ?_ ?_; focus (first | decide | (simp; done) | (simp [tcs]; done))) | intro _); conv => whnf)
                exact ⟨m - 1, _, _, by omega, ⟨j + 1, by omega, hoF, rfl, rfl⟩, Wk.sl [0, 1, 2, 3] rfl ⟨rfl, rfl, rfl, rfl, trivial⟩ ⟨rfl, rfl, rfl, rfl, rfl, trivial⟩ rfl⟩
        · replace hlt2 : ¬ (i : Int) < (dcs sig).length := of_decide_eq_false hlt2
          obtain rfl : i = sig.length := by omega
          have hoT : ok j = true := by
            rw [hoj, List.all_eq_true]
            intro x hx
            exact hall x (by simpa using hx)
          rw [hsome j (by omega) hoT hlow] at ho
          cases ho
          conv => whnf
          repeat ((first | refine aI rfl ?_ | refine aI (by decide) ?_ | refine dI (by kernel_rfl) ?_ | refine aI ⟨by omega, by omega⟩ ?_ | refine aI (by omega) ?_ | refine aI (fun _ => ⟨by omega, by omega⟩) ?_ | refine aI (of_decide_eq_true rfl) ?_ | (refine yI ?_ ?_; focus (first | decide | (simp; done) | (simp [tcs]; done))) | (refine nI ?_ ?_; focus (first | decide | (simp; done) | (simp [tcs]; done))) | intro _); conv => whnf)
          all_goals (first | rfl | exact ⟨rfl, rfl⟩ | exact ⟨rfl, rfl, rfl⟩)
  · replace hlt : ¬ (j : Int) < (dcs sig).length := of_decide_eq_false hlt
    obtain rfl : j = sig.length := by omega
    rw [hnone hlow] at ho
    cases ho
theorem cGrpN (sig : List Dcl) (hp : ∀ e ∈ sig, prop e.c = true) (hl : sig.length ≤ 100) (d : Nat → Bool) (f : Nat → Nat → Bool) (ho : nxG (okG f (fun n => kindAt sig n) d sig.length) sig.length = none) :
    CallSt Try.prog 35 [.ptr 0 0, .elt 1 100 0 0, .ptr 2 0] (gpH sig d f) (fun r H' => r = .nil ∧ H' = gpH sig d f) := by
  have hbl := len_dcs sig
  have hfm := fun (n : Int) h0 h1 => cFam2 hp (n := n) h0 h1
  have hnone := fun h => @nxG_none (okG f (fun n => kindAt sig n) d sig.length) sig.length h
  have hsome := fun a h1 h2 h3 => @nxG_some (okG f (fun n => kindAt sig n) d sig.length) sig.length a h1 h2 h3
  have hok : ∀ a, okG f (fun n => kindAt sig n) d sig.length a = (!d a && kindAt sig a && (List.range sig.length).all fun b => okB f d a b) := fun a => rfl
  generalize okG f (fun n => kindAt sig n) d sig.length = ok at *
  refine call_intro (E := envB 4) (fn := Try.f35) (c := bodyOf Try.f35) (envB_ok 4) mixed (by kernel_rfl) (by kernel_rfl) (by kernel_rfl) (by kernel_rfl) (by kernel_rfl) (by kernel_rfl) rfl ?_
  conv => whnf
  repeat ((first | refine aI rfl ?_ | refine aI (by decide) ?_ | refine dI (by kernel_rfl) ?_ | refine aI ⟨by omega, by omega⟩ ?_ | refine aI (by omega) ?_ | refine aI (fun _ => ⟨by omega, by omega⟩) ?_ | refine aI (of_decide_eq_true rfl) ?_ | (refine yI ?_ ?_; focus (first | decide | (simp; done) | (simp [tcs]; done))) | (refine nI ?_ ?_; focus (first | decide | (simp; done) | (simp [tcs]; done))) | intro _); conv => whnf)
  refine loop_intro (fun m tm H => ∃ j : Nat, sig.length = m + j ∧ (∀ i, i < j → ok i = false) ∧
    tm = [(9, .c (.int .i64 (j))), (8, .c (.int .i64 ((dcs sig).length))), (0, .ptr 0 0), (1, .elt 1 100 0 0), (2, .ptr 2 0)] ∧ H = gpH sig d f)
    sig.length _ _ ⟨0, by omega, fun i hi => absurd hi (by omega), rfl, rfl⟩ ?_ ?_
  · exact Wk.sl [0, 1, 2, 3] rfl ⟨rfl, rfl, rfl, rfl, trivial⟩ ⟨rfl, rfl, rfl, rfl, rfl, trivial⟩ rfl
  rintro m tm H ⟨j, hj, hlow, rfl, rfl⟩
  conv => whnf
  refine ⟨fun hlt => ?_, fun hlt => ?_⟩
  · replace hlt : (j : Int) < (dcs sig).length := of_decide_eq_true hlt
    have hfj := hfm j (by omega) (by omega)
    have hoj := hok j
    generalize kindAt sig j = kj at *
    have hda : (drow d)[0 + (j : Int).toNat * 1]? = some (.bool (d j)) := drow_at d (by omega)
    have hskip : ok j = false → ∀ i, i < j + 1 → ok i = false := fun h i hi => (by
      by_cases e : i = j
      · rw [e]; exact h
      · exact hlow i (by omega))
    cases hdj : d j with
    | true =>
      rw [hdj] at hda hoj
      have hoF := hskip hoj
      conv => whnf
      repeat ((first | refine aI rfl ?_ | refine aI (by decide) ?_ | refine dI (by kernel_rfl) ?_ | refine aI ⟨by omega, by omega⟩ ?_ | refine aI (by omega) ?_ | refine aI (fun _ => ⟨by omega, by omega⟩) ?_ | refine aI (of_decide_eq_true rfl) ?_ | (refine yI ?_ ?_; focus (first | decide | (simp; done) | (simp [tcs]; done))) | (refine nI ?_ ?_; focus (first | decide | (simp; done) | (simp [tcs]; done))) | intro _); conv => whnf)
      refine ⟨true, ⟨_, rfl, hda⟩, ?_⟩
      conv => whnf
      repeat ((first | refine aI rfl ?_ | refine aI (by decide) ?_ | refine dI (by kernel_rfl) ?_ | refine aI ⟨by omega, by omega⟩ ?_ | refine aI (by omega) ?_ | refine aI (fun _ => ⟨by omega, by omega⟩) ?_ | refine aI (of_decide_eq_true rfl) ?_ | (refine yI ?_ ?_; focus (first | decide | (simp; done) | (simp [tcs]; done))) | (refine nI ?_ ?_; focus (first | decide | (simp; done) | (simp [tcs]; done))) | intro _); conv => whnf)
      exact ⟨m - 1, _, _, by omega, ⟨j + 1, by omega, hoF, rfl, rfl⟩, Wk.sl [0, 1, 2, 3] rfl ⟨rfl, rfl, rfl, rfl, trivial⟩ ⟨rfl, rfl, rfl, rfl, rfl, trivial⟩ rfl⟩
    | false =>
      rw [hdj] at hda hoj
      cases kj with
      | false =>
        have hoF := hskip hoj
        conv => whnf
        repeat ((first | refine aI rfl ?_ | refine aI (by decide) ?_ | refine dI (by kernel_rfl) ?_ | refine aI ⟨by omega, by omega⟩ ?_ | refine aI (by omega) ?_ | refine aI (fun _ => ⟨by omega, by omega⟩) ?_ | refine aI (of_decide_eq_true rfl) ?_ | (refine yI ?_ ?_; focus (first | decide | (simp; done) | (simp [tcs]; done))) | (refine nI ?_ ?_; focus (first | decide | (simp; done) | (simp [tcs]; done))) | intro _); conv => whnf)
        refine ⟨false, ⟨_, rfl, hda⟩, ?_⟩
        conv => whnf
        repeat ((first | refine aI rfl ?_ | refine aI (by decide) ?_ | refine dI (by kernel_rfl) ?_ | refine aI ⟨by omega, by omega⟩ ?_ | refine aI (by omega) ?_ | refine aI (fun _ => ⟨by omega, by omega⟩) ?_ | refine aI (of_decide_eq_true rfl) ?_ | (refine yI ?_ ?_; focus (first | decide | (simp; done) | (simp [tcs]; done))) | (refine nI ?_ ?_; focus (first | decide | (simp; done) | (simp [tcs]; done))) | intro _); conv => whnf)
        try (refine dI (by kernel_rfl) ?_; conv => whnf)
        first | refine CallSt.use hfj [] trivial (by decide) rfl ?_ | refine CallPt.useS hfj [] trivial (by decide) rfl ?_
        rintro _ _ ⟨rfl, rfl⟩ _
        conv => whnf
        repeat ((first | refine aI rfl ?_ | refine aI (by decide) ?_ | refine dI (by kernel_rfl) ?_ | refine aI ⟨by omega, by omega⟩ ?_ | refine aI (by omega) ?_ | refine aI (fun _ => ⟨by omega, by omega⟩) ?_ | refine aI (of_decide_eq_true rfl) ?_ | (refine yI ?_ ?_; focus (first | decide | (simp; done) | (simp [tcs]; done))) | (refine nI ?_ ?_; focus (first | decide | (simp; done) | (simp [tcs]; done))) | intro _); conv => whnf)
        exact ⟨m - 1, _, _, by omega, ⟨j + 1, by omega, hoF, rfl, rfl⟩, Wk.sl [0, 1, 2, 3] rfl ⟨rfl, rfl, rfl, rfl, trivial⟩ ⟨rfl, rfl, rfl, rfl, rfl, trivial⟩ rfl⟩
      | true =>
        rw [Bool.not_false, Bool.true_and, Bool.true_and] at hoj
        conv => whnf
        repeat ((first | refine aI rfl ?_ | refine aI (by decide) ?_ | refine dI (by kernel_rfl) ?_ | refine aI ⟨by omega, by omega⟩ ?_ | refine aI (by omega) ?_ | refine aI (fun _ => ⟨by omega, by omega⟩) ?_ | refine aI (of_decide_eq_true rfl) ?_ | (refine yI ?_ ?_; focus (first | decide | (simp; done) | (simp [tcs]; done))) | (refine nI ?_ ?_; focus (first | decide | (simp; done) | (simp [tcs]; done))) | intro _); conv => whnf)
        refine ⟨false, ⟨_, rfl, hda⟩, ?_⟩
        conv => whnf
        repeat ((first | refine aI rfl ?_ | refine aI (by decide) ?_ | refine dI (by kernel_rfl) ?_ | refine aI ⟨by omega, by omega⟩ ?_ | refine aI (by omega) ?_ | refine aI (fun _ => ⟨by omega, by omega⟩) ?_ | refine aI (of_decide_eq_true rfl) ?_ | (refine yI ?_ ?_; focus (first | decide | (simp; done) | (simp [tcs]; done))) | (refine nI ?_ ?_; focus (first | decide | (simp; done) | (simp [tcs]; done))) | intro _); conv => whnf)
        try (refine dI (by kernel_rfl) ?_; conv => whnf)
        first | refine CallSt.use hfj [] trivial (by decide) rfl ?_ | refine CallPt.useS hfj [] trivial (by decide) rfl ?_
        rintro _ _ ⟨rfl, rfl⟩ _
        conv => whnf
        repeat ((first | refine aI rfl ?_ | refine aI (by decide) ?_ | refine dI (by kernel_rfl) ?_ | refine aI ⟨by omega, by omega⟩ ?_ | refine aI (by omega) ?_ | refine aI (fun _ => ⟨by omega, by omega⟩) ?_ | refine aI (of_decide_eq_true rfl) ?_ | (refine yI ?_ ?_; focus (first | decide | (simp; done) | (simp [tcs]; done))) | (refine nI ?_ ?_; focus (first | decide | (simp; done) | (simp [tcs]; done))) | intro _); conv => whnf)
        refine loop_intro (fun m tm H => ∃ i : Nat, sig.length = m + i ∧ (∀ b, b < i → okB f d j b = true) ∧
          tm = [(23, .c (.int .i64 (i))), (22, .c (.int .i64 ((dcs sig).length))), (5, .own 4), (4, .c (.int .i64 (j))), (9, .c (.int .i64 (j))), (8, .c (.int .i64 ((dcs sig).length))), (0, .ptr 0 0), (1, .elt 1 100 0 0), (2, .ptr 2 0)] ∧ H = gpH sig d f ++ [.row 3 1 8 (rowI (upTo (fun b => f b j && f j b) i))])
          sig.length _ _ ⟨0, by omega, fun i hi => absurd hi (by omega), rfl, rfl⟩ ?_ ?_
        · refine Wk.trans (tm1 := [(23, .c (.int .i64 (0))), (22, .c (.int .i64 ((dcs sig).length))), (5, .nil), (4, .c (.int .i64 (j))), (9, .c (.int .i64 (j))), (8, .c (.int .i64 ((dcs sig).length))), (0, .ptr 0 0), (1, .elt 1 100 0 0), (2, .ptr 2 0)]) (H1 := gpH sig d f) ?_ (Wk.trans (Wk.niltmp 5 3 1 8 rfl rfl) ?_)
          · exact Wk.sl [0, 1, 2, 3] rfl ⟨rfl, rfl, rfl, rfl, trivial⟩ ⟨rfl, rfl, rfl, rfl, rfl, rfl, rfl, rfl, rfl, trivial⟩ rfl
          · exact Wk.sl [0, 1, 2, 3, 4] rfl ⟨rfl, rfl, rfl, rfl, rfl, trivial⟩ ⟨rfl, rfl, rfl, rfl, rfl, rfl, rfl, rfl, rfl, trivial⟩ rfl
        rintro m2 tm H ⟨i, hi, hall, rfl, rfl⟩
        conv => whnf
        refine ⟨fun hlt2 => ?_, fun hlt2 => ?_⟩
        · replace hlt2 : (i : Int) < (dcs sig).length := of_decide_eq_true hlt2
          have hrl := len_rowI (upTo (fun b => f b j && f j b) i)
          have hul := upTo_len (fun b => f b j && f j b) i
          have hl2 : ((rowI (upTo (fun b => f b j && f j b) i)).length + 1) * 8 ≤ 140737488355328 := by omega
          have hl3 : (rowI (upTo (fun b => f b j && f j b) i)).length + 1 ≤ 9223372036854775807 := by omega
          have hm1 : (mrow f)[0 + (i : Int).toNat * 100 + (j : Int).toNat * 1]? = some (.bool (f i j)) := mrow_at2 f (by omega) (by omega)
          have hm2 : (mrow f)[0 + (j : Int).toNat * 100 + (i : Int).toNat * 1]? = some (.bool (f j i)) := mrow_at2 f (by omega) (by omega)
          have hd2 : (drow d)[0 + (i : Int).toNat * 1]? = some (.bool (d i)) := drow_at d (by omega)
          have hob : okB f d j i = ((f i j && f j i) || !(f i j && !d i)) := rfl
          have hpp : ∀ x : Bool, x = (f i j && f j i) → (fun b => f b j && f j b) i = x := fun x h => h.symm
          have hnext : okB f d j i = true → ∀ b, b < i + 1 → okB f d j b = true := fun h b hb => (by
            by_cases e : b = i
            · rw [e]; exact h
            · exact hall b (by omega))
          have hstop : okB f d j i = false → ok j = false := fun h => (by
            rw [hoj, List.all_eq_false]
            exact ⟨i, by simp; omega, by rw [h]; simp⟩)
          cases h1 : f i j with
          | false =>
            rw [h1] at hm1 hob hpp
            have hnx := hnext hob
            conv => whnf
            repeat ((first | refine aI rfl ?_ | refine aI (by decide) ?_ | refine dI (by kernel_rfl) ?_ | refine aI ⟨by omega, by omega⟩ ?_ | refine aI (by omega) ?_ | refine aI (fun _ => ⟨by omega, by omega⟩) ?_ | refine aI (of_decide_eq_true rfl) ?_ | (refine yI ?_ ?_; focus (first | decide | (simp; done) | (simp [tcs]; done))) | (refine nI ?_ ?_; focus (first | decide | (simp; done) | (simp [tcs]; done))) | intro _); conv => whnf)
            refine ⟨false, ⟨_, rfl, hm1⟩, ?_⟩
            conv => whnf
            repeat ((first | refine aI rfl ?_ | refine aI (by decide) ?_ | refine dI (by kernel_rfl) ?_ | refine aI ⟨by omega, by omega⟩ ?_ | refine aI (by omega) ?_ | refine aI (fun _ => ⟨by omega, by omega⟩) ?_ | refine aI (of_decide_eq_true rfl) ?_ | (refine yI ?_ ?_; focus (first | decide | (simp; done) | (simp [tcs]; done))) | (refine nI ?_ ?_; focus (first | decide | (simp; done) | (simp [tcs]; done))) | intro _); conv => whnf)
            refine ⟨f j i, ⟨_, rfl, hm2⟩, ?_⟩
            conv => whnf
            repeat ((first | refine aI rfl ?_ | refine aI (by decide) ?_ | refine dI (by kernel_rfl) ?_ | refine aI ⟨by omega, by omega⟩ ?_ | refine aI (by omega) ?_ | refine aI (fun _ => ⟨by omega, by omega⟩) ?_ | refine aI (of_decide_eq_true rfl) ?_ | (refine yI ?_ ?_; focus (first | decide | (simp; done) | (simp [tcs]; done))) | (refine nI ?_ ?_; focus (first | decide | (simp; done) | (simp [tcs]; done))) | intro _); conv => whnf)
            refine ⟨false, ⟨_, rfl, hm1⟩, ?_⟩
            conv => whnf
            repeat ((first | refine aI rfl ?_ | refine aI (by decide) ?_ | refine dI (by kernel_rfl) ?_ | refine aI ⟨by omega, by omega⟩ ?_ | refine aI (by omega) ?_ | refine aI (fun _ => ⟨by omega, by omega⟩) ?_ | refine aI (of_decide_eq_true rfl) ?_ | (refine yI ?_ ?_; focus (first | decide | (simp; done) | (simp [tcs]; done))) | (refine nI ?_ ?_; focus (first | decide | (simp; done) | (simp [tcs]; done))) | intro _); conv => whnf)
            refine ⟨d i, ⟨_, rfl, hd2⟩, ?_⟩
            conv => whnf
            repeat ((first | refine aI rfl ?_ | refine aI (by decide) ?_ | refine dI (by kernel_rfl) ?_ | refine aI ⟨by omega, by omega⟩ ?_ | refine aI (by omega) ?_ | refine aI (fun _ => ⟨by omega, by omega⟩) ?_ | refine aI (of_decide_eq_true rfl) ?_ | (refine yI ?_ ?_; focus (first | decide | (simp; done) | (simp [tcs]; done))) | (refine nI ?_ ?_; focus (first | decide | (simp; done) | (simp [tcs]; done))) | intro _); conv => whnf)
            refine ⟨m2 - 1, _, _, by omega, ⟨i + 1, by omega, hnx, rfl, rfl⟩, Wk.sl [0, 1, 2, 3, 4] rfl ⟨rfl, rfl, rfl, rfl, ?_, trivial⟩ ⟨rfl, rfl, rfl, rfl, rfl, rfl, rfl, rfl, rfl, trivial⟩ rfl⟩
            rw [upTo_no (hpp false rfl)]
            rfl
          | true =>
            rw [h1] at hm1 hob hpp
            cases h2 : f j i with
            | true =>
              rw [h2] at hm2 hob hpp
              have hnx := hnext hob
              conv => whnf
              repeat ((first | refine aI rfl ?_ | refine aI (by decide) ?_ | refine dI (by kernel_rfl) ?_ | refine aI ⟨by omega, by omega⟩ ?_ | refine aI (by omega) ?_ | refine aI (fun _ => ⟨by omega, by omega⟩) ?_ | refine aI (of_decide_eq_true rfl) ?_ | (refine yI ?_ ?_; focus (first | decide | (simp; done) | (simp [tcs]; done))) | (refine nI ?_ ?_; focus (first | decide | (simp; done) | (simp [tcs]; done))) | intro _); conv => whnf)
              refine ⟨true, ⟨_, rfl, hm1⟩, ?_⟩
              conv => whnf
              repeat ((first | refine aI rfl ?_ | refine aI (by decide) ?_ | refine dI (by kernel_rfl) ?_ | refine aI ⟨by omega, by omega⟩ ?_ | refine aI (by omega) ?_ | refine aI (fun _ => ⟨by omega, by omega⟩) ?_ | refine aI (of_decide_eq_true rfl) ?_ | (refine yI ?_ ?_; focus (first | decide | (simp; done) | (simp [tcs]; done))) | (refine nI ?_ ?_; focus (first | decide | (simp; done) | (simp [tcs]; done))) | intro _); conv => whnf)
              refine ⟨true, ⟨_, rfl, hm2⟩, ?_⟩
              conv => whnf
              repeat ((first | refine aI rfl ?_ | refine aI (by decide) ?_ | refine dI (by kernel_rfl) ?_ | refine aI ⟨by omega, by omega⟩ ?_ | refine aI (by omega) ?_ | refine aI (fun _ => ⟨by omega, by omega⟩) ?_ | refine aI (of_decide_eq_true rfl) ?_ | (refine yI ?_ ?_; focus (first | decide | (simp; done) | (simp [tcs]; done))) | (refine nI ?_ ?_; focus (first | decide | (simp; done) | (simp [tcs]; done))) | intro _); conv => whnf)
              refine ⟨m2 - 1, _, _, by omega, ⟨i + 1, by omega, hnx, rfl, rfl⟩, Wk.sl [0, 1, 2, 3, 6] rfl ⟨rfl, rfl, rfl, rfl, ?_, trivial⟩ ⟨rfl, rfl, rfl, rfl, rfl, rfl, rfl, rfl, rfl, trivial⟩ rfl⟩
              rw [upTo_yes (hpp true rfl), ← rowI_snoc]
              rfl
            | false =>
              rw [h2] at hm2 hob hpp
              cases h3 : d i with
              | true =>
                rw [h3] at hd2 hob
                have hnx := hnext hob
                conv => whnf
                repeat ((first | refine aI rfl ?_ | refine aI (by decide) ?_ | refine dI (by kernel_rfl) ?_ | refine aI ⟨by omega, by omega⟩ ?_ | refine aI (by omega) ?_ | refine aI (fun _ => ⟨by omega, by omega⟩) ?_ | refine aI (of_decide_eq_true rfl) ?_ | (refine yI ?_ ?_; focus (first | decide | (simp; done) | (simp [tcs]; done))) | (refine nI ?_ ?_; focus (first | decide | (simp; done) | (simp [tcs]; done))) | intro _); conv => whnf)
                refine ⟨true, ⟨_, rfl, hm1⟩, ?_⟩
                conv => whnf
                repeat ((first | refine aI rfl ?_ | refine aI (by decide) ?_ | refine dI (by kernel_rfl) ?_ | refine aI ⟨by omega, by omega⟩ ?_ | refine aI (by omega) ?_ | refine aI (fun _ => ⟨by omega, by omega⟩) ?_ | refine aI (of_decide_eq_true rfl) ?_ | (refine yI ?_ ?_; focus (first | decide | (simp; done) | (simp [tcs]; done))) | (refine nI ?_ ?_; focus (first | decide | (simp; done) | (simp [tcs]; done))) | intro _); conv => whnf)
                refine ⟨false, ⟨_, rfl, hm2⟩, ?_⟩
                conv => whnf
                repeat ((first | refine aI rfl ?_ | refine aI (by decide) ?_ | refine dI (by kernel_rfl) ?_ | refine aI ⟨by omega, by omega⟩ ?_ | refine aI (by omega) ?_ | refine aI (fun _ => ⟨by omega, by omega⟩) ?_ | refine aI (of_decide_eq_true rfl) ?_ | (refine yI ?_ ?_; focus (first | decide | (simp; done) | (simp [tcs]; done))) | (refine nI ?_ ?_; focus (first | decide | (simp; done) | (simp [tcs]; done))) | intro _); conv => whnf)
                refine ⟨true, ⟨_, rfl, hm1⟩, ?_⟩
                conv => whnf
                repeat ((first | refine aI rfl ?_ | refine aI (by decide) ?_ | refine dI (by kernel_rfl) ?_ | refine aI ⟨by omega, by omega⟩ ?_ | refine aI (by omega) ?_ | refine aI (fun _ => ⟨by omega, by omega⟩) ?_ | refine aI (of_decide_eq_true rfl) ?_ | (refine yI ?_ ?_; focus (first | decide | (simp; done) | (simp [tcs]; done))) | (refine nI ?_ ?_; focus (first | decide | (simp; done) | (simp [tcs]; done))) | intro _); conv => whnf)
                refine ⟨true, ⟨_, rfl, hd2⟩, ?_⟩
                conv => whnf
                repeat ((first | refine aI rfl ?_ | refine aI (by decide) ?_ | refine dI (by kernel_rfl) ?_ | refine aI ⟨by omega, by omega⟩ ?_ | refine aI (by omega) ?_ | refine aI (fun _ => ⟨by omega, by omega⟩) ?_ | refine aI (of_decide_eq_true rfl) ?_ | (refine yI ?_ ?_; focus (first | decide | (simp; done) | (simp [tcs]; done))) | (refine nI ?_ ?_; focus (first | decide | (simp; done) | (simp [tcs]; done))) | intro _); conv => whnf)
                refine ⟨m2 - 1, _, _, by omega, ⟨i + 1, by omega, hnx, rfl, rfl⟩, Wk.sl [0, 1, 2, 3, 4] rfl ⟨rfl, rfl, rfl, rfl, ?_, trivial⟩ ⟨rfl, rfl, rfl, rfl, rfl, rfl, rfl, rfl, rfl, trivial⟩ rfl⟩
                rw [upTo_no (hpp false rfl)]
                rfl
              | false =>
                rw [h3] at hd2 hob
                have hoF := hskip (hstop hob)
                conv => whnf
                repeat ((first | refine aI rfl ?_ | refine aI (by decide) ?_ | refine dI (by kernel_rfl) ?_ | refine aI ⟨by omega, by omega⟩ ?_ | refine aI (by omega) ?_ | refine aI (fun _ => ⟨by omega, by omega⟩) ?_ | refine aI (of_decide_eq_true rfl) ?_ | (refine yI ?_ ?_; focus (first | decide | (simp; done) | (simp [tcs]; done))) | (refine nI ?_ ?_; focus (first | decide | (simp; done) | (simp [tcs]; done))) | intro _); conv => whnf)
                refine ⟨true, ⟨_, rfl, hm1⟩, ?_⟩
                conv => whnf
                repeat ((first | refine aI rfl ?_ | refine aI (by decide) ?_ | refine dI (by kernel_rfl) ?_ | refine aI ⟨by omega, by omega⟩ ?_ | refine aI (by omega) ?_ | refine aI (fun _ => ⟨by omega, by omega⟩) ?_ | refine aI (of_decide_eq_true rfl) ?_ | (refine yI ?_ ?_; focus (first | decide | (simp; done) | (simp [tcs]; done))) | (refine nI ?_ ?_; focus (first | decide | (simp; done) | (simp [tcs]; done))) | intro _); conv => whnf)
                refine ⟨false, ⟨_, rfl, hm2⟩, ?_⟩
                conv => whnf
                repeat ((first | refine aI rfl ?_ | refine aI (by decide) ?_ | refine dI (by kernel_rfl) ?_ | refine aI ⟨by omega, by omega⟩ ?_ | refine aI (by omega) ?_ | refine aI (fun _ => ⟨by omega, by omega⟩) ?_ | refine aI (of_decide_eq_true rfl) ?_ | (refine yI ?_ ?_; focus (first | decide | (simp; done) | (simp [tcs]; done))) | (refine nI ?_ ?_; focus (first | decide | (simp; done) | (simp [tcs]; done))) | intro _); conv => whnf)
                refine ⟨true, ⟨_, rfl, hm1⟩, ?_⟩
                conv => whnf
                repeat ((first | refine aI rfl ?_ | refine aI (by decide) ?_ | refine dI (by kernel_rfl) ?_ | refine aI ⟨by omega, by omega⟩ ?_ | refine aI (by omega) ?_ | refine aI (fun _ => ⟨by omega, by omega⟩) ?_ | refine aI (of_decide_eq_true rfl) ?_ | (refine yI ?_ ?_; focus (first | decide | (simp; done) | (simp [tcs]; done))) | (refine nI ?_ ?_; focus (first | decide | (simp; done) | (simp [tcs]; done))) | intro _); conv => whnf)
                refine ⟨false, ⟨_, rfl, hd2⟩, ?_⟩
                conv => whnf
                repeat ((first | refine aI rfl ?_ | refine aI (by decide) ?_ | refine dI (by kernel_rfl) ?_ | refine aI ⟨by omega, by omega⟩ ?_ | refine aI (by omega) ?_ | refine aI (fun _ => ⟨by omega, by omega⟩) ?_ | refine aI (of_decide_eq_true rfl) ?_ | (refine yI ?_ ?_; focus (first | decide | (simp; done) | (simp [tcs]; done))) | (refine nI ?_ ?_; focus (first | decide | (simp; done) | (simp [tcs]; done))) | intro _); conv => whnf)
                exact ⟨m - 1, _, _, by omega, ⟨j + 1, by omega, hoF, rfl, rfl⟩, Wk.sl [0, 1, 2, 3] rfl ⟨rfl, rfl, rfl, rfl, trivial⟩ ⟨rfl, rfl, rfl, rfl, rfl, trivial⟩ rfl⟩
        · replace hlt2 : ¬ (i : Int) < (dcs sig).length := of_decide_eq_false hlt2
          obtain rfl : i = sig.length := by omega
          have hoT : ok j = true := by
            rw [hoj, List.all_eq_true]
            intro x hx
            exact hall x (by simpa using hx)
          rw [hsome j (by omega) hoT hlow] at ho
          cases ho
  · replace hlt : ¬ (j : Int) < (dcs sig).length := of_decide_eq_false hlt
    obtain rfl : j = sig.length := by omega
    conv => whnf
    repeat ((first | refine aI rfl ?_ | refine aI (by decide) ?_ | refine dI (by kernel_rfl) ?_ | refine aI ⟨by omega, by omega⟩ ?_ | refine aI (by omega) ?_ | refine aI (fun _ => ⟨by omega, by omega⟩) ?_ | refine aI (of_decide_eq_true rfl) ?_ | (refine yI ?_ ?_; focus (first | decide | (simp; done) | (simp [tcs]; done))) | (refine nI ?_ ?_; focus (first | decide | (simp; done) | (simp [tcs]; done))) | intro _); conv => whnf)
    all_goals (first | rfl | exact ⟨rfl, rfl⟩ | exact ⟨rfl, rfl, rfl⟩)
theorem cGrpW (sig : List Dcl) (hp : ∀ e ∈ sig, prop e.c = true) (hl : sig.length ≤ 100) (d : Nat → Bool) (f : Nat → Nat → Bool) :
    CallSt Try.prog 35 [.ptr 0 0, .elt 1 100 0 0, .ptr 2 0] (gpH sig d f) (fun r H' => r = nxW f sig.length (nxG (okG f (fun n => kindAt sig n) d sig.length) sig.length) ∧ H' = gpH sig d f) := by
  cases ho : nxG (okG f (fun n => kindAt sig n) d sig.length) sig.length with
  | none => exact cGrpN sig hp hl d f ho
  | some g => exact cGrpS sig hp hl d f ho
end Go.Tr
/- depend.Groups. -/
namespace Go.Tr
open Go.Proofs
theorem bwP_diag (sig : List Dcl) {a : Nat} {d : Dcl} (hd : sig[a]? = some d) (hk : kindT d.c = true) : ∀ j, a < j → bwP sig j a a = true
  | 0, h => absurd h (Nat.not_lt_zero a)
  | j + 1, h => by
    have hor : ∀ (f : Nat → Nat → Bool) (L : List (Nat × Nat)), f a a = true → orE f L a a = true := fun f L h => by unfold orE; rw [h]; rfl
    rw [bwP]
    by_cases e : a = j
    · subst e
      rw [hd]
      simp only
      exact hor _ _ (by unfold updM; rw [if_pos ⟨rfl, rfl⟩]; exact hk)
    · have ih := bwP_diag sig hd hk j (by omega)
      cases hj : sig[j]? with
      | none => exact ih
      | some d2 =>
        simp only
        exact hor _ _ (by unfold updM; rw [if_neg (fun h => e h.1)]; exact ih)
theorem belM_diag (sig : List Dcl) {a : Nat} (ha : a < sig.length) (hk : kindAt sig a = true) : belM sig a a = true := by
  have hd : sig[a]? = some sig[a] := List.getElem?_eq_getElem ha
  rw [kindAt_at hd] at hk
  exact close_mono ha ha (bwP_diag sig hd hk _ ha)
def markD (d : Nat → Bool) (L : List Int) : Nat → Bool := fun x => d x || decide ((x : Int) ∈ L)
theorem markD_nil (d : Nat → Bool) : markD d [] = d := by funext x; simp [markD]
theorem markD_snoc (d : Nat → Bool) (L : List Int) (x : Nat) : markD d (L ++ [(x : Int)]) = updD (markD d L) x := by
  funext y
  unfold markD updD
  by_cases h : y = x
  · subst h; simp
  · have : ¬ (y : Int) = x := by omega
    simp [h, this]
def cntD (d : Nat → Bool) (n : Nat) : Nat := ((List.range n).filter fun x => !d x).length
theorem cnt_lt {d : Nat → Bool} {L : List Int} {n a : Nat} (ha : a < n) (hd : d a = false) (hL : (a : Int) ∈ L) : cntD (markD d L) n < cntD d n := by
  unfold cntD
  have e : (List.range n).filter (fun x => !markD d L x) = ((List.range n).filter fun x => !d x).filter fun x : Nat => !decide ((x : Int) ∈ L) := by
    rw [List.filter_filter]
    refine List.filter_congr fun x _ => ?_
    unfold markD
    cases d x <;> simp
  rw [e, List.length_filter_lt_length_iff_exists]
  exact ⟨a, List.mem_filter.2 ⟨by simpa using ha, by rw [hd]; rfl⟩, by simp [hL]⟩
def grpsP (f : Nat → Nat → Bool) (kd : Nat → Bool) (n : Nat) : Nat → (Nat → Bool) → List (List Int)
  | 0, _ => []
  | k + 1, d => match nxG (okG f kd d n) n with | none => [] | some a => grp f n a :: grpsP f kd n k (markD d (grp f n a))
theorem grpsP_none {f : Nat → Nat → Bool} {kd : Nat → Bool} {n : Nat} {d : Nat → Bool} (h : nxG (okG f kd d n) n = none) : ∀ k, grpsP f kd n k d = []
  | 0 => rfl
  | k + 1 => by rw [grpsP, h]
theorem grpsP_some {f : Nat → Nat → Bool} {kd : Nat → Bool} {n a : Nat} {d : Nat → Bool} (h : nxG (okG f kd d n) n = some a) (k : Nat) : grpsP f kd n (k + 1) d = grp f n a :: grpsP f kd n k (markD d (grp f n a)) := by rw [grpsP, h]
theorem grp_mem {f : Nat → Nat → Bool} {kd d : Nat → Bool} {n a : Nat} (hf : ∀ a, a < n → kd a = true → f a a = true) (h : nxG (okG f kd d n) n = some a) : a < n ∧ d a = false ∧ (a : Int) ∈ grp f n a := by
  obtain ⟨h1, h2⟩ := nxG_of h
  unfold okG at h2
  rw [Bool.and_eq_true, Bool.and_eq_true] at h2
  have hfa := hf a h1 h2.1.2
  refine ⟨h1, by simpa using h2.1.1, ?_⟩
  unfold grp upTo
  rw [List.mem_map]
  exact ⟨a, List.mem_filter.2 ⟨by simpa using h1, by simp [hfa]⟩, rfl⟩
theorem grp_bd {f : Nat → Nat → Bool} {n a : Nat} : ∀ x ∈ grp f n a, 0 ≤ x ∧ x < n := by
  intro x hx
  unfold grp upTo at hx
  rw [List.mem_map] at hx
  obtain ⟨y, hy, rfl⟩ := hx
  have := (List.mem_filter.1 hy).1
  rw [List.mem_range] at this
  omega
noncomputable def groupsF (sig : List Dcl) : List (List Int) := match checkB sig with | true => grpsP (belM sig) (fun n => kindAt sig n) sig.length sig.length (fun _ => false) | false => []
end Go.Tr
/- depend.Groups: the walk. -/
namespace Go.Tr
open Go.Proofs
theorem big100 : List.map ofConst (List.replicate 100 (.bool false)) = (drow (fun _ => false)).map AV.c := by
  rw [← drow_zero, List.map_replicate, List.map_replicate]
  rfl
theorem cGroupsD (sig : List Dcl) : CallSt Try.prog 10 [.c (.sl 6 72 (dcs sig))] [] (fun r H' => r = .tup [.c (.sl 1 24 (rowL (groupsF sig))), .c (.int .i64 ((if checkB sig then 0 else 2)))] ∧ H' = []) := by
  have hck := cCheck sig
  have hM := cBelowM sig
  have hbl := len_dcs sig
  unfold groupsF
  cases hc : checkB sig with
  | false =>
    rw [hc] at hck
    refine call_pure (E := envB 0) (fn := Try.f10) (c := bodyOf Try.f10) (envB_ok 0) mixed (by kernel_rfl) (by kernel_rfl) (by kernel_rfl) (by kernel_rfl) (by kernel_rfl) (by kernel_rfl) rfl ?_
    conv => whnf
    try (refine dI (by kernel_rfl) ?_; conv => whnf)
    first | refine CallSt.use hck [] trivial (by decide) rfl ?_ | refine CallPt.useS hck [] trivial (by decide) rfl ?_
    rintro _ _ ⟨rfl, rfl⟩ _
    conv => whnf
    repeat ((first | refine aI rfl ?_ | refine aI (by decide) ?_ | refine dI (by kernel_rfl) ?_ | refine aI ⟨by omega, by omega⟩ ?_ | refine aI (by omega) ?_ | refine aI (fun _ => ⟨by omega, by omega⟩) ?_ | refine aI (of_decide_eq_true rfl) ?_ | (refine yI ?_ ?_; focus (first | decide | (simp; done) | (simp [tcs]; done))) | (refine nI ?_ ?_; focus (first | decide | (simp; done) | (simp [tcs]; done))) | intro _); conv => whnf)
    all_goals (first | rfl | exact ⟨rfl, rfl⟩ | exact ⟨rfl, rfl, rfl⟩)
  | true =>
    rw [hc] at hck
    replace hM := hM hc
    have hl := check_len hc
    have hp := check_prop hc
    have hdg := fun a ha => @belM_diag sig a ha
    show CallSt _ _ _ _ fun r H' => r = .tup [.c (.sl 1 24 (rowL (grpsP (belM sig) (fun n => kindAt sig n) sig.length sig.length (fun _ => false)))), .c (.int .i64 (0))] ∧ H' = []
    generalize belM sig = fm at *
    have hg := fun d => cGrpW sig hp hl d fm
    have hdiag : ∀ a, a < sig.length → kindAt sig a = true → fm a a = true := fun a ha hk => hdg a ha hk
    generalize hn : sig.length = n at *
    have hgm := fun (d : Nat → Bool) a h => @grp_mem fm (fun n => kindAt sig n) d n a hdiag h
    have hnone := fun d h => @grpsP_none fm (fun n => kindAt sig n) n d h
    have hsome := fun d a h k => @grpsP_some fm (fun n => kindAt sig n) n a d h k
    have hcnt0 : cntD (fun _ => false) n ≤ n := by
      unfold cntD
      exact Nat.le_trans (List.length_filter_le _ _) (by simp)
    generalize (fun n : Nat => kindAt sig n) = kd at *
    have hgl : ∀ a, (grp fm n a).length ≤ n := fun a => upTo_len _ n
    generalize hG : grpsP fm kd n n (fun _ => false) = G at *
    refine call_pure (E := envB 0) (fn := Try.f10) (c := bodyOf Try.f10) (envB_ok 0) mixed (by kernel_rfl) (by kernel_rfl) (by kernel_rfl) (by kernel_rfl) (by kernel_rfl) (by kernel_rfl) rfl ?_
    refine aw_cut _ _ rfl fun C hC => ?_
    conv => whnf
    subst hC
    refine aw_cut _ _ rfl fun C hC => ?_
    conv => whnf
    try (refine dI (by kernel_rfl) ?_; conv => whnf)
    first | refine CallSt.use hck [] trivial (by decide) rfl ?_ | refine CallPt.useS hck [] trivial (by decide) rfl ?_
    rintro _ _ ⟨rfl, rfl⟩ _
    conv => whnf
    repeat ((first | refine aI rfl ?_ | refine aI (by decide) ?_ | refine dI (by kernel_rfl) ?_ | refine aI ⟨by omega, by omega⟩ ?_ | refine aI (by omega) ?_ | refine aI (fun _ => ⟨by omega, by omega⟩) ?_ | refine aI (of_decide_eq_true rfl) ?_ | (refine yI ?_ ?_; focus (first | decide | (simp; done) | (simp [tcs]; done))) | (refine nI ?_ ?_; focus (first | decide | (simp; done) | (simp [tcs]; done))) | intro _); conv => whnf)
    subst hC
    refine aw_cut _ _ rfl fun C hC => ?_
    conv => whnf
    repeat ((first | refine aI rfl ?_ | refine aI (by decide) ?_ | refine dI (by kernel_rfl) ?_ | refine aI ⟨by omega, by omega⟩ ?_ | refine aI (by omega) ?_ | refine aI (fun _ => ⟨by omega, by omega⟩) ?_ | refine aI (of_decide_eq_true rfl) ?_ | (refine yI ?_ ?_; focus (first | decide | (simp; done) | (simp [tcs]; done))) | (refine nI ?_ ?_; focus (first | decide | (simp; done) | (simp [tcs]; done))) | intro _); conv => whnf)
    try (refine dI (by kernel_rfl) ?_; conv => whnf)
    first | refine CallSt.use hM [] trivial (by decide) rfl ?_ | refine CallPt.useS hM [] trivial (by decide) rfl ?_
    rintro _ _ ⟨rfl, rfl⟩ _
    conv => whnf
    show aw Try.prog (envB 0) C [(5, .ptr 2 0), (18, .elt 1 10000 0 0), (17, .c (.sl 6 72 (dcs sig))), (15, .c (.bool false)), (14, .c (.int .i64 (0))), (4, .c (.int .i64 (0))), (13, .c (.int .i64 (0))), (12, .c (.sl 6 72 (dcs sig))), (3, .c (.int .i64 (0))), (2, .nil), (1, .ptr 0 0), (0, .c (.sl 6 72 (dcs sig)))]
      [.box [.c (.sl 6 72 (dcs sig))], matE fm, .box [.elt 1 10000 0 0]] _
    subst hC
    refine aw_cut _ _ rfl fun C hC => ?_
    conv => whnf
    refine ⟨drow (fun _ => false), big100, drow_len _, ?_⟩
    conv => whnf
    subst hC
    refine aw_cut _ _ rfl fun C hC => ?_
    conv => whnf
    subst hC
    refine aw_cut _ _ rfl fun C hC => ?_
    conv => whnf
    show aw Try.prog (envB 0) C [(8, .fn 35 [.ptr 0 0, .elt 3 100 0 0, .ptr 2 0]), (19, .fn 35 [.ptr 0 0, .elt 3 100 0 0, .ptr 2 0]), (7, .nil), (6, .elt 3 100 0 0), (5, .ptr 2 0), (18, .elt 1 10000 0 0), (17, .c (.sl 6 72 (dcs sig))), (15, .c (.bool false)), (14, .c (.int .i64 (0))), (4, .c (.int .i64 (0))), (13, .c (.int .i64 (0))), (12, .c (.sl 6 72 (dcs sig))), (3, .c (.int .i64 (0))), (2, .nil), (1, .ptr 0 0), (0, .c (.sl 6 72 (dcs sig)))]
      [.box [.c (.sl 6 72 (dcs sig))], matE fm, .box [.elt 1 10000 0 0], .row 59 100 1 [drow fun _ => false]] _
    subst hC
    refine aw_cut2 _ _ _ rfl fun C D hC hD => ?_
    conv => whnf
    suffices key : ∀ o, nxG (okG fm kd (fun _ => false) n) n = o → aw Try.prog (envB 0) C [(9, nxW fm n o), (21, nxW fm n o), (20, .fn 35 [.ptr 0 0, .elt 3 100 0 0, .ptr 2 0]), (8, .fn 35 [.ptr 0 0, .elt 3 100 0 0, .ptr 2 0]), (19, .fn 35 [.ptr 0 0, .elt 3 100 0 0, .ptr 2 0]), (7, .nil), (6, .elt 3 100 0 0), (5, .ptr 2 0), (18, .elt 1 10000 0 0), (17, .c (.sl 6 72 (dcs sig))), (15, .c (.bool false)), (14, .c (.int .i64 (0))), (4, .c (.int .i64 (0))), (13, .c (.int .i64 (0))), (12, .c (.sl 6 72 (dcs sig))), (3, .c (.int .i64 (0))), (2, .nil), (1, .ptr 0 0), (0, .c (.sl 6 72 (dcs sig)))]
        [.box [.c (.sl 6 72 (dcs sig))], matE fm, .box [.elt 1 10000 0 0], .row 59 100 1 [drow fun _ => false]] (thenQ Try.prog (envB 0) D (finP (envB 0) Try.f10 (fun r H' => r = .tup [.c (.sl 1 24 (rowL G)), .c (.int .i64 (0))] ∧ H' = []))) by
      have h0 := hg fun _ => false
      rcases ho : nxG (okG fm kd (fun _ => false) n) n with _ | a
      · rw [ho] at h0
        try (refine dI (by kernel_rfl) ?_; conv => whnf)
        first | refine CallSt.use h0 [0, 3, 2, 1] ⟨rfl, rfl, rfl, rfl, trivial⟩ (by decide) rfl ?_ | refine CallPt.useS h0 [0, 3, 2, 1] ⟨rfl, rfl, rfl, rfl, trivial⟩ (by decide) rfl ?_
        rintro _ _ ⟨rfl, rfl⟩ _
        conv => whnf
        exact key none ho
      · rw [ho] at h0
        try (refine dI (by kernel_rfl) ?_; conv => whnf)
        first | refine CallSt.use h0 [0, 3, 2, 1] ⟨rfl, rfl, rfl, rfl, trivial⟩ (by decide) rfl ?_ | refine CallPt.useS h0 [0, 3, 2, 1] ⟨rfl, rfl, rfl, rfl, trivial⟩ (by decide) rfl ?_
        rintro _ _ ⟨rfl, rfl⟩ _
        conv => whnf
        exact key (some a) ho
    intro o0 ho0
    subst hC
    conv => whnf
    refine loop_intro (fun m tm H => ∃ d T o, cntD d n ≤ m ∧ G = T ++ grpsP fm kd n m d ∧ nxG (okG fm kd d n) n = o ∧ T.length + m ≤ 200 ∧ tm = [(9, nxW fm n o), (8, .fn 35 [.ptr 0 0, .elt 3 100 0 0, .ptr 2 0]), (7, .own 4), (6, .elt 3 100 0 0), (3, .c (.int .i64 (0))), (2, .nil)] ∧
        H = [.box [.c (.sl 6 72 (dcs sig))], matE fm, .box [.elt 1 10000 0 0], .row 59 100 1 [drow d], .row 39 1 24 (rowL T)]) n _ _ ⟨fun _ => false, [], o0, hcnt0, hG.symm, ho0, by simp; omega, rfl, rfl⟩ ?_ ?_
    · refine Wk.trans (tm1 := [(9, nxW fm n o0), (8, .fn 35 [.ptr 0 0, .elt 3 100 0 0, .ptr 2 0]), (7, .nil), (6, .elt 3 100 0 0), (3, .c (.int .i64 (0))), (2, .nil)]) (H1 := [.box [.c (.sl 6 72 (dcs sig))], matE fm, .box [.elt 1 10000 0 0], .row 59 100 1 [drow fun _ => false]]) ?_ (Wk.trans (Wk.niltmp 7 39 1 24 (by cases o0 <;> rfl) (by cases o0 <;> rfl)) ?_)
      · exact Wk.sl [0, 1, 2, 3] rfl ⟨rfl, rfl, rfl, rfl, trivial⟩ ⟨by cases o0 <;> rfl, rfl, rfl, rfl, rfl, rfl, trivial⟩ (by cases o0 <;> rfl)
      · exact Wk.sl [0, 1, 2, 3, 4] rfl ⟨rfl, rfl, rfl, rfl, rfl, trivial⟩ ⟨by cases o0 <;> rfl, rfl, rfl, rfl, rfl, rfl, trivial⟩ (by cases o0 <;> rfl)
    rintro m tm H ⟨d, T, o, hcn, hGe, hoe, hTl, rfl, rfl⟩
    rcases o with _ | a
    · rw [hnone d hoe m, List.append_nil] at hGe
      subst hGe
      conv => whnf
      repeat ((first | refine aI rfl ?_ | refine aI (by decide) ?_ | refine dI (by kernel_rfl) ?_ | refine aI ⟨by omega, by omega⟩ ?_ | refine aI (by omega) ?_ | refine aI (fun _ => ⟨by omega, by omega⟩) ?_ | refine aI (of_decide_eq_true rfl) ?_ | (refine yI ?_ ?_; focus (first | decide | (simp; done) | (simp [tcs]; done))) | (refine nI ?_ ?_; focus (first | decide | (simp; done) | (simp [tcs]; done))) | intro _); conv => whnf)
      subst hD
      conv => whnf
      repeat ((first | refine aI rfl ?_ | refine aI (by decide) ?_ | refine dI (by kernel_rfl) ?_ | refine aI ⟨by omega, by omega⟩ ?_ | refine aI (by omega) ?_ | refine aI (fun _ => ⟨by omega, by omega⟩) ?_ | refine aI (of_decide_eq_true rfl) ?_ | (refine yI ?_ ?_; focus (first | decide | (simp; done) | (simp [tcs]; done))) | (refine nI ?_ ?_; focus (first | decide | (simp; done) | (simp [tcs]; done))) | intro _); conv => whnf)
      all_goals (first | rfl | exact ⟨rfl, rfl⟩ | exact ⟨rfl, rfl, rfl⟩)
    · obtain ⟨hga, hgd, hgi⟩ := hgm d a hoe
      have hcl := @cnt_lt d _ n a hga hgd hgi
      obtain ⟨m, rfl⟩ : ∃ q, m = q + 1 := ⟨m - 1, by omega⟩
      rw [hsome d a hoe m] at hGe
      have hgb : ∀ x ∈ grp fm n a, 0 ≤ x ∧ x < n := grp_bd
      have hgL := hgl a
      have hgne : rowI (grp fm n a) ≠ [] := fun h => by
        have := congrArg List.length h
        rw [len_rowI] at this
        have h2 := List.length_pos_of_mem hgi
        simp at this
        rw [this] at h2
        exact absurd h2 (by simp)
      rw [show nxW fm n (some a) = .c (.sl 1 8 (rowI (grp fm n a))) from rfl]
      generalize grp fm n a = L at *
      have hrl := len_rowI L
      conv => whnf
      intro e he
      obtain rfl : e = true := by cases e with | true => rfl | false => exact absurd (he rfl) hgne
      conv => whnf
      repeat ((first | refine aI rfl ?_ | refine aI (by decide) ?_ | refine dI (by kernel_rfl) ?_ | refine aI ⟨by omega, by omega⟩ ?_ | refine aI (by omega) ?_ | refine aI (fun _ => ⟨by omega, by omega⟩) ?_ | refine aI (of_decide_eq_true rfl) ?_ | (refine yI ?_ ?_; focus (first | decide | (simp; done) | (simp [tcs]; done))) | (refine nI ?_ ?_; focus (first | decide | (simp; done) | (simp [tcs]; done))) | intro _); conv => whnf)
      refine loop_intro (fun mm tm H => ∃ i : Nat, L.length = mm + i ∧ tm = [(28, .c (.int .i64 (i))), (27, .c (.int .i64 ((rowI L).length))), (26, .c (.sl 1 8 (rowI L))), (9, .c (.sl 1 8 (rowI L))), (8, .fn 35 [.ptr 0 0, .elt 3 100 0 0, .ptr 2 0]), (7, .own 4), (6, .elt 3 100 0 0), (3, .c (.int .i64 (0))), (2, .nil)] ∧
        H = [.box [.c (.sl 6 72 (dcs sig))], matE fm, .box [.elt 1 10000 0 0], .row 59 100 1 [drow (markD d (L.take i))], .row 39 1 24 (rowL T)])
        L.length _ _ ⟨0, by omega, rfl, rfl⟩ ?_ ?_
      · refine Wk.sl [0, 1, 2, 3, 4] rfl ⟨rfl, rfl, rfl, ?_, rfl, trivial⟩ ⟨rfl, rfl, rfl, rfl, rfl, rfl, rfl, rfl, rfl, trivial⟩ rfl
        rw [show L.take 0 = [] from rfl, markD_nil]
        rfl
      rintro mm tm H ⟨i, hi, rfl, rfl⟩
      conv => whnf
      refine ⟨fun hc2 => ?_, fun hc2 => ?_⟩
      · replace hc2 : (i : Int) < (rowI L).length := of_decide_eq_true hc2
        obtain ⟨x, hx⟩ : ∃ x, L[i]? = some x := ⟨L[i]'(by omega), List.getElem?_eq_getElem (by omega)⟩
        have hxb := hgb x (List.mem_of_getElem? hx)
        obtain ⟨k, rfl⟩ : ∃ k : Nat, x = k := ⟨x.toNat, by omega⟩
        have hxr := rowI_at hx
        have hst : markD d (L.take (i + 1)) = updD (markD d (L.take i)) k := by
          rw [← markD_snoc, List.take_add_one, hx]
          rfl
        generalize hfq : markD d (L.take i) = fq at *
        conv => whnf
        repeat ((first | refine aI rfl ?_ | refine aI (by decide) ?_ | refine dI (by kernel_rfl) ?_ | refine aI ⟨by omega, by omega⟩ ?_ | refine aI (by omega) ?_ | refine aI (fun _ => ⟨by omega, by omega⟩) ?_ | refine aI (of_decide_eq_true rfl) ?_ | (refine yI ?_ ?_; focus (first | decide | (simp; done) | (simp [tcs]; done))) | (refine nI ?_ ?_; focus (first | decide | (simp; done) | (simp [tcs]; done))) | intro _); conv => whnf)
        refine ⟨_, ⟨by omega, by simpa using hxr⟩, ?_⟩
        conv => whnf
        refine ⟨Nat.le_refl 1, ?_⟩
        conv => whnf
        repeat ((first | refine aI rfl ?_ | refine aI (by decide) ?_ | refine dI (by kernel_rfl) ?_ | refine aI ⟨by omega, by omega⟩ ?_ | refine aI (by omega) ?_ | refine aI (fun _ => ⟨by omega, by omega⟩) ?_ | refine aI (of_decide_eq_true rfl) ?_ | (refine yI ?_ ?_; focus (first | decide | (simp; done) | (simp [tcs]; done))) | (refine nI ?_ ?_; focus (first | decide | (simp; done) | (simp [tcs]; done))) | intro _); conv => whnf)
        refine ⟨_, _, rfl, drow_set fq (by omega), ?_⟩
        conv => whnf
        repeat ((first | refine aI rfl ?_ | refine aI (by decide) ?_ | refine dI (by kernel_rfl) ?_ | refine aI ⟨by omega, by omega⟩ ?_ | refine aI (by omega) ?_ | refine aI (fun _ => ⟨by omega, by omega⟩) ?_ | refine aI (of_decide_eq_true rfl) ?_ | (refine yI ?_ ?_; focus (first | decide | (simp; done) | (simp [tcs]; done))) | (refine nI ?_ ?_; focus (first | decide | (simp; done) | (simp [tcs]; done))) | intro _); conv => whnf)
        refine ⟨mm - 1, _, _, by omega, ⟨i + 1, by omega, rfl, rfl⟩, Wk.sl [0, 1, 2, 3, 4] rfl ⟨rfl, rfl, rfl, ?_, rfl, trivial⟩ ⟨rfl, rfl, rfl, rfl, rfl, rfl, rfl, rfl, rfl, trivial⟩ rfl⟩
        rw [hst]
        rfl
      · replace hc2 : ¬ (i : Int) < (rowI L).length := of_decide_eq_false hc2
        obtain rfl : i = L.length := by omega
        rw [List.take_length]
        have hrT := len_rowL T
        have hl2 : ((rowL T).length + 1) * 24 ≤ 140737488355328 := by omega
        have hl3 : (rowL T).length + 1 ≤ 9223372036854775807 := by omega
        have h0 := hg (markD d L)
        have hGe' : G = (T ++ [L]) ++ grpsP fm kd n m (markD d L) := by rw [hGe, List.append_assoc]; rfl
        rcases ho : nxG (okG fm kd (markD d L) n) n with _ | b
        · rw [ho] at h0
          conv => whnf
          repeat ((first | refine aI rfl ?_ | refine aI (by decide) ?_ | refine dI (by kernel_rfl) ?_ | refine aI ⟨by omega, by omega⟩ ?_ | refine aI (by omega) ?_ | refine aI (fun _ => ⟨by omega, by omega⟩) ?_ | refine aI (of_decide_eq_true rfl) ?_ | (refine yI ?_ ?_; focus (first | decide | (simp; done) | (simp [tcs]; done))) | (refine nI ?_ ?_; focus (first | decide | (simp; done) | (simp [tcs]; done))) | intro _); conv => whnf)
          try (refine dI (by kernel_rfl) ?_; conv => whnf)
          first | refine CallSt.use h0 [0, 3, 2, 1] ⟨rfl, rfl, rfl, rfl, trivial⟩ (by decide) rfl ?_ | refine CallPt.useS h0 [0, 3, 2, 1] ⟨rfl, rfl, rfl, rfl, trivial⟩ (by decide) rfl ?_
          rintro _ _ ⟨rfl, rfl⟩ _
          conv => whnf
          refine ⟨m, _, _, by omega, ⟨markD d L, T ++ [L], none, by omega, hGe', ho, by rw [List.length_append, List.length_singleton]; omega, rfl, rfl⟩, Wk.sl [0, 1, 2, 3, 6] rfl ⟨rfl, rfl, rfl, rfl, ?_, trivial⟩ ⟨rfl, rfl, rfl, rfl, rfl, rfl, trivial⟩ rfl⟩
          rw [← rowL_snoc]
          rfl
        · rw [ho] at h0
          conv => whnf
          repeat ((first | refine aI rfl ?_ | refine aI (by decide) ?_ | refine dI (by kernel_rfl) ?_ | refine aI ⟨by omega, by omega⟩ ?_ | refine aI (by omega) ?_ | refine aI (fun _ => ⟨by omega, by omega⟩) ?_ | refine aI (of_decide_eq_true rfl) ?_ | (refine yI ?_ ?_; focus (first | decide | (simp; done) | (simp [tcs]; done))) | (refine nI ?_ ?_; focus (first | decide | (simp; done) | (simp [tcs]; done))) | intro _); conv => whnf)
          try (refine dI (by kernel_rfl) ?_; conv => whnf)
          first | refine CallSt.use h0 [0, 3, 2, 1] ⟨rfl, rfl, rfl, rfl, trivial⟩ (by decide) rfl ?_ | refine CallPt.useS h0 [0, 3, 2, 1] ⟨rfl, rfl, rfl, rfl, trivial⟩ (by decide) rfl ?_
          rintro _ _ ⟨rfl, rfl⟩ _
          conv => whnf
          refine ⟨m, _, _, by omega, ⟨markD d L, T ++ [L], some b, by omega, hGe', ho, by rw [List.length_append, List.length_singleton]; omega, rfl, rfl⟩, Wk.sl [0, 1, 2, 3, 6] rfl ⟨rfl, rfl, rfl, rfl, ?_, trivial⟩ ⟨rfl, rfl, rfl, rfl, rfl, rfl, trivial⟩ rfl⟩
          rw [← rowL_snoc]
          rfl
end Go.Tr
/- depend.Strengthen. -/
namespace Go.Tr
open Go.Proofs
end Go.Tr
/- The reference's matrix. -/
namespace Go.Tr
open Go.Proofs
def rowB (n : Nat) (f : Nat → Bool) : List (List CV) := (List.range n).map fun j => [.bool (f j)]
def rowM (n : Nat) (M : Nat → Nat → Bool) (i : Nat) : List (List CV) := (List.range i).map fun a => [.sl 1 1 (rowB n (M a))]
attribute [irreducible] rowB rowM
end Go.Tr
/- The reference's Needs and Users; a number in a list. -/
namespace Go.Tr
open Go.Proofs
theorem cHasL (L : List Int) (x : Int) (hL : L.length ≤ 1000000) : CallSt Try.prog 19 [.c (.sl 1 8 (rowI L)), .c (.int .i64 (x))] [] (fun r H' => r = .c (.bool (decide (x ∈ L))) ∧ H' = []) := by
  have hrl := len_rowI L
  refine call_pure (E := env 0) (fn := Try.f19) (c := bodyOf Try.f19) (env_ok 0) mixed (by kernel_rfl) (by kernel_rfl) (by kernel_rfl) (by kernel_rfl) (by kernel_rfl) (by kernel_rfl) rfl ?_
  conv => whnf
  repeat ((first | refine aI rfl ?_ | refine aI (by decide) ?_ | refine dI (by kernel_rfl) ?_ | refine aI ⟨by omega, by omega⟩ ?_ | refine aI (by omega) ?_ | refine aI (fun _ => ⟨by omega, by omega⟩) ?_ | refine aI (of_decide_eq_true rfl) ?_ | (refine yI ?_ ?_; focus (first | decide | (simp; done) | (simp [tcs]; done))) | (refine nI ?_ ?_; focus (first | decide | (simp; done) | (simp [tcs]; done))) | intro _); conv => whnf)
  refine loop_intro (fun m tm H => ∃ j : Nat, L.length = m + j ∧ (∀ (i : Nat) y, i < j → L[i]? = some y → y ≠ x) ∧
    tm = [(9, .c (.int .i64 (j))), (8, .c (.int .i64 ((rowI L).length))), (7, .c (.sl 1 8 (rowI L))), (1, .c (.int .i64 (x)))] ∧ H = [])
    L.length _ _ ⟨0, by omega, fun i y hi => absurd hi (by omega), rfl, rfl⟩ (Wk.sl [] rfl trivial ⟨rfl, rfl, rfl, rfl, trivial⟩ rfl) ?_
  rintro m tm H ⟨j, hj, hno, rfl, rfl⟩
  conv => whnf
  refine ⟨fun hc => ?_, fun hc => ?_⟩
  · replace hc : (j : Int) < (rowI L).length := of_decide_eq_true hc
    obtain ⟨y, hy⟩ : ∃ y, L[j]? = some y := ⟨L[j]'(by omega), List.getElem?_eq_getElem (by omega)⟩
    have hyr := rowI_at hy
    conv => whnf
    repeat ((first | refine aI rfl ?_ | refine aI (by decide) ?_ | refine dI (by kernel_rfl) ?_ | refine aI ⟨by omega, by omega⟩ ?_ | refine aI (by omega) ?_ | refine aI (fun _ => ⟨by omega, by omega⟩) ?_ | refine aI (of_decide_eq_true rfl) ?_ | (refine yI ?_ ?_; focus (first | decide | (simp; done) | (simp [tcs]; done))) | (refine nI ?_ ?_; focus (first | decide | (simp; done) | (simp [tcs]; done))) | intro _); conv => whnf)
    refine ⟨_, ⟨by omega, by simpa using hyr⟩, ?_⟩
    conv => whnf
    refine ⟨Nat.le_refl 1, ?_⟩
    conv => whnf
    repeat ((first | refine aI rfl ?_ | refine aI (by decide) ?_ | refine dI (by kernel_rfl) ?_ | refine aI ⟨by omega, by omega⟩ ?_ | refine aI (by omega) ?_ | refine aI (fun _ => ⟨by omega, by omega⟩) ?_ | refine aI (of_decide_eq_true rfl) ?_ | (refine yI ?_ ?_; focus (first | decide | (simp; done) | (simp [tcs]; done))) | (refine nI ?_ ?_; focus (first | decide | (simp; done) | (simp [tcs]; done))) | intro _); conv => whnf)
    refine ⟨fun he => ?_, fun he => ?_⟩
    · replace he : y = x := by simpa using he
      have e : decide (x ∈ L) = true := decide_eq_true (he ▸ List.mem_of_getElem? hy)
      rw [e]
      conv => whnf
      repeat ((first | refine aI rfl ?_ | refine aI (by decide) ?_ | refine dI (by kernel_rfl) ?_ | refine aI ⟨by omega, by omega⟩ ?_ | refine aI (by omega) ?_ | refine aI (fun _ => ⟨by omega, by omega⟩) ?_ | refine aI (of_decide_eq_true rfl) ?_ | (refine yI ?_ ?_; focus (first | decide | (simp; done) | (simp [tcs]; done))) | (refine nI ?_ ?_; focus (first | decide | (simp; done) | (simp [tcs]; done))) | intro _); conv => whnf)
      all_goals (first | rfl | exact ⟨rfl, rfl⟩ | exact ⟨rfl, rfl, rfl⟩)
    · replace he : ¬ y = x := by simpa using he
      conv => whnf
      repeat ((first | refine aI rfl ?_ | refine aI (by decide) ?_ | refine dI (by kernel_rfl) ?_ | refine aI ⟨by omega, by omega⟩ ?_ | refine aI (by omega) ?_ | refine aI (fun _ => ⟨by omega, by omega⟩) ?_ | refine aI (of_decide_eq_true rfl) ?_ | (refine yI ?_ ?_; focus (first | decide | (simp; done) | (simp [tcs]; done))) | (refine nI ?_ ?_; focus (first | decide | (simp; done) | (simp [tcs]; done))) | intro _); conv => whnf)
      refine ⟨m - 1, _, _, by omega, ⟨j + 1, by omega, fun i z hi hz => ?_, rfl, rfl⟩, Wk.sl [] rfl trivial ⟨rfl, rfl, rfl, rfl, trivial⟩ rfl⟩
      by_cases hij : i < j
      · exact hno i z hij hz
      · obtain rfl : i = j := by omega
        rw [hy] at hz
        injection hz with hz
        exact hz ▸ he
  · replace hc : ¬ (j : Int) < (rowI L).length := of_decide_eq_false hc
    have e : decide (x ∈ L) = false := decide_eq_false (fun h => by
      obtain ⟨i, hi⟩ := List.mem_iff_getElem?.1 h
      exact hno i x (by have := (List.getElem?_eq_some_iff.1 hi).1; omega) hi rfl)
    rw [e]
    conv => whnf
    repeat ((first | refine aI rfl ?_ | refine aI (by decide) ?_ | refine dI (by kernel_rfl) ?_ | refine aI ⟨by omega, by omega⟩ ?_ | refine aI (by omega) ?_ | refine aI (fun _ => ⟨by omega, by omega⟩) ?_ | refine aI (of_decide_eq_true rfl) ?_ | (refine yI ?_ ?_; focus (first | decide | (simp; done) | (simp [tcs]; done))) | (refine nI ?_ ?_; focus (first | decide | (simp; done) | (simp [tcs]; done))) | intro _); conv => whnf)
    all_goals (first | rfl | exact ⟨rfl, rfl⟩ | exact ⟨rfl, rfl, rfl⟩)
end Go.Tr
/- Needs: the plain law. -/
namespace Go.Tr
open Go.Proofs
theorem get_lt {α : Type} {l : List α} {a : Nat} (h : a < l.length) : ∃ d, l[a]? = some d := ⟨l[a], List.getElem?_eq_getElem h⟩
end Go.Tr
/- Levels. -/
namespace Go.Tr
open Go.Proofs
end Go.Tr
/- Levels, of the reference; Level. -/
namespace Go.Tr
open Go.Proofs
end Go.Tr
/- uses; Copy of a signature. -/
namespace Go.Tr
open Go.Proofs
end Go.Tr
/- Copy of a signature; Add. -/
namespace Go.Tr
open Go.Proofs
end Go.Tr
/- renumbered, Chosen. -/
namespace Go.Tr
open Go.Proofs
end Go.Tr
/- Swap. -/
namespace Go.Tr
open Go.Proofs
end Go.Tr
/- Without, Rename. -/
namespace Go.Tr
open Go.Proofs
theorem upTo_mem {p : Nat → Bool} {j : Nat} {x : Int} : x ∈ upTo p j ↔ ∃ i : Nat, x = i ∧ i < j ∧ p i = true := by
  unfold upTo
  simp only [List.mem_map, List.mem_filter, List.mem_range]
  constructor
  · rintro ⟨i, ⟨h1, h2⟩, rfl⟩
    exact ⟨i, rfl, h1, h2⟩
  · rintro ⟨i, rfl, h1, h2⟩
    exact ⟨i, ⟨h1, h2⟩, rfl⟩
end Go.Tr
/- The reference's Same and Add; the law's helpers; awake. -/
namespace Go.Tr
open Go.Proofs
def con0 (n : Int) (ts : List Term) : Term := .mk 4 2 n ts
theorem cConL (n : Int) (ts : List Term) : CallSt Try.prog 39 [.c (.int .i64 (n)), .c (.sl 4 48 (tcs ts))] [] (fun r H' => r = tv (con0 n ts) ∧ H' = []) := by
  refine call_pure (E := env 0) (fn := Try.f39) (c := bodyOf Try.f39) (env_ok 0) mixed (by kernel_rfl) (by kernel_rfl) (by kernel_rfl) (by kernel_rfl) (by kernel_rfl) (by kernel_rfl) rfl ?_
  conv => whnf
  repeat ((first | refine aI rfl ?_ | refine aI (by decide) ?_ | refine dI (by kernel_rfl) ?_ | refine aI ⟨by omega, by omega⟩ ?_ | refine aI (by omega) ?_ | refine aI (fun _ => ⟨by omega, by omega⟩) ?_ | refine aI (of_decide_eq_true rfl) ?_ | (refine yI ?_ ?_; focus (first | decide | (simp; done) | (simp [tcs]; done))) | (refine nI ?_ ?_; focus (first | decide | (simp; done) | (simp [tcs]; done))) | intro _); conv => whnf)
  all_goals (first | rfl | exact ⟨rfl, rfl⟩ | exact ⟨rfl, rfl, rfl⟩)
end Go.Tr
/- awake of trusslaw12. -/
namespace Go.Tr
open Go.Proofs
theorem cPiL (a b : Term) : CallSt Try.prog 38 [tv a, tv b] [] (fun r H' => r = tv (.mk 2 0 0 [a, b]) ∧ H' = []) := by
  obtain ⟨k, l, n, ts⟩ := a
  obtain ⟨k2, l2, n2, us⟩ := b
  rw [tv_mk, tv_mk]
  refine call_pure (E := env 0) (fn := Try.f38) (c := bodyOf Try.f38) (env_ok 0) mixed (by kernel_rfl) (by kernel_rfl) (by kernel_rfl) (by kernel_rfl) (by kernel_rfl) (by kernel_rfl) rfl ?_
  conv => whnf
  repeat ((first | refine aI rfl ?_ | refine aI (by decide) ?_ | refine dI (by kernel_rfl) ?_ | refine aI ⟨by omega, by omega⟩ ?_ | refine aI (by omega) ?_ | refine aI (fun _ => ⟨by omega, by omega⟩) ?_ | refine aI (of_decide_eq_true rfl) ?_ | (refine yI ?_ ?_; focus (first | decide | (simp; done) | (simp [tcs]; done))) | (refine nI ?_ ?_; focus (first | decide | (simp; done) | (simp [tcs]; done))) | intro _); conv => whnf)
  all_goals (first | rfl | exact ⟨rfl, rfl⟩ | exact ⟨rfl, rfl, rfl⟩)
def depS : List Dcl := [⟨⟨#[116, 109]⟩, .mk 1 0 0 [], 0⟩, ⟨⟨#[108, 97, 109]⟩, .mk 2 0 0 [.mk 2 0 0 [con0 0 [], con0 0 []], con0 0 []], 0⟩, ⟨⟨#[115, 116, 101, 112]⟩, .mk 2 0 0 [con0 0 [], .mk 1 0 0 []], 0⟩]
theorem dep_ok : checkB depS = true := by kernel_rfl
theorem dep_fam : famE depS 0 = 0 := by kernel_rfl
theorem dep_hig : higB depS 0 = true := by kernel_rfl
theorem dep_be : belE depS 0 2 = 0 := by kernel_rfl
theorem dep_be2 : belE depS 2 0 = 0 := by kernel_rfl
theorem dep_bel : belM depS 0 2 = true := by kernel_rfl
theorem dep_bel2 : belM depS 2 0 = false := by kernel_rfl
theorem dep_grp : groupsF depS = [[0], [2]] := by kernel_rfl
set_option maxRecDepth 100000 in
theorem cAwake12 : CallSt Try.prog 12 [] [] (fun r H' => r = .c (.bool true) ∧ H' = []) := by
  have h0 := cConL 0 []
  have h1 := cPiL (con0 0 []) (con0 0 [])
  have h2 := cPiL (.mk 2 0 0 [con0 0 [], con0 0 []]) (con0 0 [])
  have h3 := cPiL (con0 0 []) (.mk 1 0 0 [])
  have h4 := cHigher depS 0
  rw [dep_fam, dep_hig] at h4
  have h5 := cBelowD depS 0 2
  rw [dep_be, show belM depS (0 : Int).toNat (2 : Int).toNat = true from dep_bel] at h5
  have h6 := cBelowD depS 2 0
  rw [dep_be2, show belM depS (2 : Int).toNat (0 : Int).toNat = false from dep_bel2] at h6
  have h7 := cGroupsD depS
  rw [dep_grp, dep_ok] at h7
  have h8 := cNumsEq [0] [0] (by decide) (by decide)
  have h9 := cNumsEq [2] [2] (by decide) (by decide)
  rw [decide_eq_true rfl] at h8 h9
  refine call_pure (E := env 0) (fn := Try.f12) (c := bodyOf Try.f12) (env_ok 0) mixed (by kernel_rfl) (by kernel_rfl) (by kernel_rfl) (by kernel_rfl) (by kernel_rfl) (by kernel_rfl) rfl ?_
  conv => whnf
  try (refine dI (by kernel_rfl) ?_; conv => whnf)
  first | refine CallSt.use h0 [] trivial (by decide) rfl ?_ | refine CallPt.useS h0 [] trivial (by decide) rfl ?_
  rintro _ _ ⟨rfl, rfl⟩ _
  conv => whnf
  try (refine dI (by kernel_rfl) ?_; conv => whnf)
  first | refine CallSt.use h0 [] trivial (by decide) rfl ?_ | refine CallPt.useS h0 [] trivial (by decide) rfl ?_
  rintro _ _ ⟨rfl, rfl⟩ _
  conv => whnf
  try (refine dI (by kernel_rfl) ?_; conv => whnf)
  first | refine CallSt.use h1 [] trivial (by decide) rfl ?_ | refine CallPt.useS h1 [] trivial (by decide) rfl ?_
  rintro _ _ ⟨rfl, rfl⟩ _
  conv => whnf
  try (refine dI (by kernel_rfl) ?_; conv => whnf)
  first | refine CallSt.use h0 [] trivial (by decide) rfl ?_ | refine CallPt.useS h0 [] trivial (by decide) rfl ?_
  rintro _ _ ⟨rfl, rfl⟩ _
  conv => whnf
  try (refine dI (by kernel_rfl) ?_; conv => whnf)
  first | refine CallSt.use h2 [] trivial (by decide) rfl ?_ | refine CallPt.useS h2 [] trivial (by decide) rfl ?_
  rintro _ _ ⟨rfl, rfl⟩ _
  conv => whnf
  try (refine dI (by kernel_rfl) ?_; conv => whnf)
  first | refine CallSt.use h0 [] trivial (by decide) rfl ?_ | refine CallPt.useS h0 [] trivial (by decide) rfl ?_
  rintro _ _ ⟨rfl, rfl⟩ _
  conv => whnf
  try (refine dI (by kernel_rfl) ?_; conv => whnf)
  first | refine CallSt.use h3 [] trivial (by decide) rfl ?_ | refine CallPt.useS h3 [] trivial (by decide) rfl ?_
  rintro _ _ ⟨rfl, rfl⟩ _
  conv => whnf
  repeat ((first | refine aI rfl ?_ | refine aI (by decide) ?_ | refine dI (by kernel_rfl) ?_ | refine aI ⟨by omega, by omega⟩ ?_ | refine aI (by omega) ?_ | refine aI (fun _ => ⟨by omega, by omega⟩) ?_ | refine aI (of_decide_eq_true rfl) ?_ | (refine yI ?_ ?_; focus (first | decide | (simp; done) | (simp [tcs]; done))) | (refine nI ?_ ?_; focus (first | decide | (simp; done) | (simp [tcs]; done))) | intro _); conv => whnf)
  try (refine dI (by kernel_rfl) ?_; conv => whnf)
  first | refine CallSt.use h4 [] trivial (by decide) rfl ?_ | refine CallPt.useS h4 [] trivial (by decide) rfl ?_
  rintro _ _ ⟨rfl, rfl⟩ _
  conv => whnf
  repeat ((first | refine aI rfl ?_ | refine aI (by decide) ?_ | refine dI (by kernel_rfl) ?_ | refine aI ⟨by omega, by omega⟩ ?_ | refine aI (by omega) ?_ | refine aI (fun _ => ⟨by omega, by omega⟩) ?_ | refine aI (of_decide_eq_true rfl) ?_ | (refine yI ?_ ?_; focus (first | decide | (simp; done) | (simp [tcs]; done))) | (refine nI ?_ ?_; focus (first | decide | (simp; done) | (simp [tcs]; done))) | intro _); conv => whnf)
  try (refine dI (by kernel_rfl) ?_; conv => whnf)
  first | refine CallSt.use h5 [] trivial (by decide) rfl ?_ | refine CallPt.useS h5 [] trivial (by decide) rfl ?_
  rintro _ _ ⟨rfl, rfl⟩ _
  conv => whnf
  repeat ((first | refine aI rfl ?_ | refine aI (by decide) ?_ | refine dI (by kernel_rfl) ?_ | refine aI ⟨by omega, by omega⟩ ?_ | refine aI (by omega) ?_ | refine aI (fun _ => ⟨by omega, by omega⟩) ?_ | refine aI (of_decide_eq_true rfl) ?_ | (refine yI ?_ ?_; focus (first | decide | (simp; done) | (simp [tcs]; done))) | (refine nI ?_ ?_; focus (first | decide | (simp; done) | (simp [tcs]; done))) | intro _); conv => whnf)
  try (refine dI (by kernel_rfl) ?_; conv => whnf)
  first | refine CallSt.use h6 [] trivial (by decide) rfl ?_ | refine CallPt.useS h6 [] trivial (by decide) rfl ?_
  rintro _ _ ⟨rfl, rfl⟩ _
  conv => whnf
  repeat ((first | refine aI rfl ?_ | refine aI (by decide) ?_ | refine dI (by kernel_rfl) ?_ | refine aI ⟨by omega, by omega⟩ ?_ | refine aI (by omega) ?_ | refine aI (fun _ => ⟨by omega, by omega⟩) ?_ | refine aI (of_decide_eq_true rfl) ?_ | (refine yI ?_ ?_; focus (first | decide | (simp; done) | (simp [tcs]; done))) | (refine nI ?_ ?_; focus (first | decide | (simp; done) | (simp [tcs]; done))) | intro _); conv => whnf)
  try (refine dI (by kernel_rfl) ?_; conv => whnf)
  first | refine CallSt.use h7 [] trivial (by decide) rfl ?_ | refine CallPt.useS h7 [] trivial (by decide) rfl ?_
  rintro _ _ ⟨rfl, rfl⟩ _
  conv => whnf
  repeat ((first | refine aI rfl ?_ | refine aI (by decide) ?_ | refine dI (by kernel_rfl) ?_ | refine aI ⟨by omega, by omega⟩ ?_ | refine aI (by omega) ?_ | refine aI (fun _ => ⟨by omega, by omega⟩) ?_ | refine aI (of_decide_eq_true rfl) ?_ | (refine yI ?_ ?_; focus (first | decide | (simp; done) | (simp [tcs]; done))) | (refine nI ?_ ?_; focus (first | decide | (simp; done) | (simp [tcs]; done))) | intro _); conv => whnf)
  refine ⟨[.sl 1 8 (rowI [0])], fun _ => ⟨by decide, rfl⟩, ?_⟩
  conv => whnf
  refine ⟨show 1 ≤ 1 by decide, ?_⟩
  conv => whnf
  repeat ((first | refine aI rfl ?_ | refine aI (by decide) ?_ | refine dI (by kernel_rfl) ?_ | refine aI ⟨by omega, by omega⟩ ?_ | refine aI (by omega) ?_ | refine aI (fun _ => ⟨by omega, by omega⟩) ?_ | refine aI (of_decide_eq_true rfl) ?_ | (refine yI ?_ ?_; focus (first | decide | (simp; done) | (simp [tcs]; done))) | (refine nI ?_ ?_; focus (first | decide | (simp; done) | (simp [tcs]; done))) | intro _); conv => whnf)
  try (refine dI (by kernel_rfl) ?_; conv => whnf)
  first | refine CallSt.use h8 [] trivial (by decide) rfl ?_ | refine CallPt.useS h8 [] trivial (by decide) rfl ?_
  rintro _ _ ⟨rfl, rfl⟩ _
  conv => whnf
  repeat ((first | refine aI rfl ?_ | refine aI (by decide) ?_ | refine dI (by kernel_rfl) ?_ | refine aI ⟨by omega, by omega⟩ ?_ | refine aI (by omega) ?_ | refine aI (fun _ => ⟨by omega, by omega⟩) ?_ | refine aI (of_decide_eq_true rfl) ?_ | (refine yI ?_ ?_; focus (first | decide | (simp; done) | (simp [tcs]; done))) | (refine nI ?_ ?_; focus (first | decide | (simp; done) | (simp [tcs]; done))) | intro _); conv => whnf)
  refine ⟨[.sl 1 8 (rowI [2])], fun _ => ⟨by decide, rfl⟩, ?_⟩
  conv => whnf
  refine ⟨show 1 ≤ 1 by decide, ?_⟩
  conv => whnf
  repeat ((first | refine aI rfl ?_ | refine aI (by decide) ?_ | refine dI (by kernel_rfl) ?_ | refine aI ⟨by omega, by omega⟩ ?_ | refine aI (by omega) ?_ | refine aI (fun _ => ⟨by omega, by omega⟩) ?_ | refine aI (of_decide_eq_true rfl) ?_ | (refine yI ?_ ?_; focus (first | decide | (simp; done) | (simp [tcs]; done))) | (refine nI ?_ ?_; focus (first | decide | (simp; done) | (simp [tcs]; done))) | intro _); conv => whnf)
  try (refine dI (by kernel_rfl) ?_; conv => whnf)
  first | refine CallSt.use h9 [] trivial (by decide) rfl ?_ | refine CallPt.useS h9 [] trivial (by decide) rfl ?_
  rintro _ _ ⟨rfl, rfl⟩ _
  conv => whnf
  repeat ((first | refine aI rfl ?_ | refine aI (by decide) ?_ | refine dI (by kernel_rfl) ?_ | refine aI ⟨by omega, by omega⟩ ?_ | refine aI (by omega) ?_ | refine aI (fun _ => ⟨by omega, by omega⟩) ?_ | refine aI (of_decide_eq_true rfl) ?_ | (refine yI ?_ ?_; focus (first | decide | (simp; done) | (simp [tcs]; done))) | (refine nI ?_ ?_; focus (first | decide | (simp; done) | (simp [tcs]; done))) | intro _); conv => whnf)
  all_goals (first | rfl | exact congrArg (fun z => AV.c (.bool z)) (by decide))
end Go.Tr
/- The law DependNeeds. -/
namespace Go.Tr
open Go.Proofs
end Go.Tr
/- TermBack: the plain law. -/
namespace Go.Tr
open Go.Proofs
end Go.Tr
/- The law TermBack. -/
namespace Go.Tr
open Go.Proofs
end Go.Tr
/- The law DependTransitive. -/
namespace Go.Tr
open Go.Proofs
theorem mem_upTo {p : Nat → Bool} {n x : Nat} (h : x < n) : decide ((x : Int) ∈ upTo p n) = p x := by
  cases hp : p x with
  | true => exact decide_eq_true (upTo_mem.2 ⟨x, rfl, h, hp⟩)
  | false =>
    refine decide_eq_false fun hm => ?_
    obtain ⟨y, hy, _, hpy⟩ := upTo_mem.1 hm
    obtain rfl : x = y := by omega
    rw [hp] at hpy
    cases hpy
theorem has_at12 {sig : List Dcl} (hc : checkB sig = true) {n : Nat} (h : n < sig.length) : hasE sig n = 0 := by
  rcases hasE_cases sig n with ⟨e, h2⟩ | ⟨e, h2, h3⟩ | ⟨e, h2, h3⟩
  · rw [hc] at h2; cases h2
  · exact absurd ⟨by omega, by omega⟩ h3
  · exact e
end Go.Tr
/- The groups: the plain law. -/
namespace Go.Tr
open Go.Proofs
theorem mem_grp {f : Nat → Nat → Bool} {n a x : Nat} : (x : Int) ∈ grp f n a ↔ x < n ∧ f x a = true ∧ f a x = true := by
  unfold grp
  rw [upTo_mem]
  constructor
  · rintro ⟨i, hi, h1, h2⟩
    obtain rfl : x = i := by omega
    rw [Bool.and_eq_true] at h2
    exact ⟨h1, h2.1, h2.2⟩
  · rintro ⟨h1, h2, h3⟩
    exact ⟨x, rfl, h1, by rw [h2, h3]; rfl⟩
section
variable {f : Nat → Nat → Bool} {kd : Nat → Bool} {n : Nat}
theorem ex_least (hr : ∀ a, a < n → kd a = true → f a a = true) (ht : ∀ a b c, a < n → b < n → c < n → f a b = true → f b c = true → f a c = true) (hk : ∀ a b, a < n → b < n → f a b = true → kd a = true) (d : Nat → Bool) :
    ∀ (m a : Nat), a < n → kd a = true → d a = false → ((List.range n).filter fun y => f y a && !d y).length ≤ m → ∃ b, b < n ∧ okG f kd d n b = true := by
  intro m
  induction m with
  | zero =>
    intro a ha hka hda hm
    have : a ∈ (List.range n).filter fun y => f y a && !d y := List.mem_filter.2 ⟨by simpa using ha, by rw [hr a ha hka, hda]; rfl⟩
    have := List.length_pos_of_mem this
    omega
  | succ m ih =>
    intro a ha hka hda hm
    by_cases h : ∃ y, y < n ∧ f y a = true ∧ d y = false ∧ f a y = false
    · obtain ⟨y, hy, h1, h2, h3⟩ := h
      refine ih y hy (hk y a hy ha h1) h2 ?_
      have e : (List.range n).filter (fun z => f z y && !d z) = ((List.range n).filter fun z => f z a && !d z).filter fun z => f z y := by
        rw [List.filter_filter]
        refine List.filter_congr fun z hz => ?_
        have hz : z < n := by simpa using hz
        cases hzy : f z y with
        | false => simp
        | true => rw [ht z y a hz hy ha hzy h1]; simp
      have : (((List.range n).filter fun z => f z a && !d z).filter fun z => f z y).length < ((List.range n).filter fun z => f z a && !d z).length := by
        rw [List.length_filter_lt_length_iff_exists]
        exact ⟨a, List.mem_filter.2 ⟨by simpa using ha, by rw [hr a ha hka, hda]; rfl⟩, by rw [h3]; simp⟩
      rw [e]
      omega
    · refine ⟨a, ha, ?_⟩
      unfold okG
      rw [hda, hka, Bool.not_false, Bool.true_and, Bool.true_and, List.all_eq_true]
      intro y hy
      have hy : y < n := by simpa using hy
      unfold okB
      cases h1 : f y a with
      | false => simp
      | true =>
        cases h2 : d y with
        | true => simp
        | false =>
          cases h3 : f a y with
          | true => simp
          | false => exact absurd ⟨y, hy, h1, h2, h3⟩ h
structure GrpOk (f : Nat → Nat → Bool) (kd : Nat → Bool) (n : Nat) (d : Nat → Bool) (G : List (List Int)) : Prop where
  one : ∀ a : Nat, a < n → kd a = true → d a = false → ∃ (p : Nat) (L : List Int), G[p]? = some L ∧ (a : Int) ∈ L
  old : ∀ (a p : Nat) (L : List Int), G[p]? = some L → (a : Int) ∈ L → a < n ∧ kd a = true ∧ d a = false
  up : ∀ (a b p q : Nat) (L M : List Int), G[p]? = some L → G[q]? = some M → (b : Int) ∈ L → (a : Int) ∈ M → f b a = true → p ≤ q
  same : ∀ (a b p q : Nat) (L M : List Int), G[p]? = some L → G[q]? = some M → (b : Int) ∈ L → (a : Int) ∈ M → (p = q ↔ f a b = true ∧ f b a = true)
theorem grps_ok (hr : ∀ a, a < n → kd a = true → f a a = true) (ht : ∀ a b c, a < n → b < n → c < n → f a b = true → f b c = true → f a c = true) (hk : ∀ a b, a < n → b < n → f a b = true → kd a = true) :
    ∀ (k : Nat) (d : Nat → Bool), cntD d n ≤ k → (∀ x y, x < n → y < n → f x y = true → d y = true → d x = true) → GrpOk f kd n d (grpsP f kd n k d) := by
  intro k
  induction k with
  | zero =>
    intro d hc hdn
    have hno : ∀ a, a < n → d a = false → False := fun a ha hd => by
      have : a ∈ (List.range n).filter fun x => !d x := List.mem_filter.2 ⟨by simpa using ha, by rw [hd]; rfl⟩
      have := List.length_pos_of_mem this
      unfold cntD at hc
      omega
    rw [show grpsP f kd n 0 d = [] from rfl]
    exact ⟨fun a ha _ hd => (hno a ha hd).elim, fun a p L h => by simp at h, fun a b p q L M h => by simp at h, fun a b p q L M h => by simp at h⟩
  | succ k ih =>
    intro d hc hdn
    cases hx : nxG (okG f kd d n) n with
    | none =>
      rw [grpsP_none hx]
      refine ⟨fun a ha hka hd => ?_, fun a p L h => by simp at h, fun a b p q L M h => by simp at h, fun a b p q L M h => by simp at h⟩
      obtain ⟨b, hb, hok⟩ := ex_least hr ht hk d _ a ha hka hd (Nat.le_refl _)
      unfold nxG at hx
      rw [List.find?_eq_none] at hx
      exact absurd hok (hx b (by simpa using hb))
    | some g =>
      rw [grpsP_some hx]
      obtain ⟨hg, hdg, hgg⟩ := grp_mem hr hx
      have hok := (nxG_of hx).2
      unfold okG at hok
      rw [Bool.and_eq_true, Bool.and_eq_true, List.all_eq_true] at hok
      have hkg := hok.1.2
      have hall : ∀ b, b < n → f b g = true → f g b = true ∨ d b = true := fun b hb h => by
        have := hok.2 b (by simpa using hb)
        unfold okB at this
        rw [h] at this
        cases h1 : f g b with
        | true => exact .inl rfl
        | false =>
          rw [h1] at this
          cases h2 : d b with
          | true => exact .inr rfl
          | false => rw [h2] at this; cases this
      have hcl := @cnt_lt d _ n g hg hdg hgg
      have hm : ∀ a : Nat, markD d (grp f n g) a = true ↔ d a = true ∨ (a : Int) ∈ grp f n g := fun a => by
        unfold markD
        rw [Bool.or_eq_true, decide_eq_true_eq]
      have h0 : ∀ a : Nat, (a : Int) ∈ grp f n g → a < n ∧ kd a = true ∧ d a = false := fun a ha => by
        obtain ⟨h1, h2, h3⟩ := mem_grp.1 ha
        refine ⟨h1, hk a g h1 hg h2, ?_⟩
        cases hd : d a with
        | false => rfl
        | true => rw [hdn g a hg h1 h3 hd] at hdg; cases hdg
      have I := ih (markD d (grp f n g)) (by omega) fun x y hx hy hxy hmy => (by
        rw [hm] at hmy ⊢
        rcases hmy with h | h
        · exact .inl (hdn x y hx hy hxy h)
        · obtain ⟨_, h2, h3⟩ := mem_grp.1 h
          have hxg := ht x y g hx hy hg hxy h2
          rcases hall x hx hxg with h4 | h4
          · exact .inr (mem_grp.2 ⟨hx, hxg, h4⟩)
          · exact .inl h4)
      generalize grpsP f kd n k (markD d (grp f n g)) = T at *
      have hT : ∀ (a p : Nat) (L : List Int), T[p]? = some L → (a : Int) ∈ L → a < n ∧ kd a = true ∧ d a = false ∧ ¬ (a : Int) ∈ grp f n g := fun a p L h1 h2 => by
        obtain ⟨h3, h4, h5⟩ := I.old a p L h1 h2
        have h6 : ¬ (d a = true ∨ (a : Int) ∈ grp f n g) := fun h => by rw [(hm a).2 h] at h5; cases h5
        exact ⟨h3, h4, by cases h7 : d a with | true => exact absurd (.inl h7) h6 | false => rfl, fun h => h6 (.inr h)⟩
      refine ⟨fun a ha hka hda => ?_, fun a p L h1 h2 => ?_, fun a b p q L M h1 h2 h3 h4 h5 => ?_, fun a b p q L M h1 h2 h3 h4 => ?_⟩
      · by_cases h : (a : Int) ∈ grp f n g
        · exact ⟨0, _, rfl, h⟩
        · have hmf : markD d (grp f n g) a = false := by
            cases h1 : markD d (grp f n g) a with
            | false => rfl
            | true =>
              rcases (hm a).1 h1 with h2 | h2
              · rw [hda] at h2; cases h2
              · exact absurd h2 h
          obtain ⟨p, L, h1, h2⟩ := I.one a ha hka hmf
          exact ⟨p + 1, L, by simpa using h1, h2⟩
      · cases p with
        | zero =>
          simp at h1
          exact h0 a (h1 ▸ h2)
        | succ p =>
          obtain ⟨h3, h4, h5, _⟩ := hT a p L (by simpa using h1) h2
          exact ⟨h3, h4, h5⟩
      · cases p with
        | zero => exact Nat.zero_le _
        | succ p =>
          cases q with
          | zero =>
            simp at h2
            subst h2
            obtain ⟨k1, k2, k3, k4⟩ := hT b p L (by simpa using h1) h3
            obtain ⟨j1, j2, j3⟩ := mem_grp.1 h4
            have hbg := ht b a g k1 j1 hg h5 j2
            rcases hall b k1 hbg with h6 | h6
            · exact absurd (mem_grp.2 ⟨k1, hbg, h6⟩) k4
            · rw [k3] at h6; cases h6
          | succ q =>
            have := I.up a b p q L M (by simpa using h1) (by simpa using h2) h3 h4 h5
            omega
      · cases p with
        | zero =>
          simp at h1
          subst h1
          obtain ⟨k1, k2, k3⟩ := mem_grp.1 h3
          cases q with
          | zero =>
            simp at h2
            subst h2
            obtain ⟨j1, j2, j3⟩ := mem_grp.1 h4
            exact ⟨fun _ => ⟨ht a g b j1 hg k1 j2 k3, ht b g a k1 hg j1 k2 j3⟩, fun _ => rfl⟩
          | succ q =>
            obtain ⟨j1, j2, j3, j4⟩ := hT a q M (by simpa using h2) h4
            refine ⟨fun h => (by cases h), fun ⟨h5, h6⟩ => absurd (mem_grp.2 ⟨j1, ht a b g j1 k1 hg h5 k2, ht g b a hg k1 j1 k3 h6⟩) j4⟩
        | succ p =>
          obtain ⟨k1, k2, k3, k4⟩ := hT b p L (by simpa using h1) h3
          cases q with
          | zero =>
            simp at h2
            subst h2
            obtain ⟨j1, j2, j3⟩ := mem_grp.1 h4
            refine ⟨fun h => (by cases h), fun ⟨h5, h6⟩ => absurd (mem_grp.2 ⟨k1, ht b a g k1 j1 hg h6 j2, ht g a b hg j1 k1 j3 h5⟩) k4⟩
          | succ q =>
            have := I.same a b p q L M (by simpa using h1) (by simpa using h2) h3 h4
            rw [← this]
            omega
end
theorem edF_fam {sig : List Dcl} : ∀ (m : Nat) (a : Term) (fam : Nat) (ok : Bool) (d : Int), fmT a d = true → 0 ≤ d → (ok = true → fam < sig.length ∧ kindAt sig fam = true) →
    ∀ x ∈ edF sig m a fam ok, (x.1 < sig.length ∧ kindAt sig x.1 = true) ∧ (x.2 < sig.length ∧ kindAt sig x.2 = true)
  | 0, _, _, _, _, _, _, _, x, hx => by rw [edF] at hx; cases hx
  | m + 1, a, fam, ok, d, hf, hd, hok, x, hx => by
    rw [edF_succ, List.mem_flatMap] at hx
    obtain ⟨u, hu, hx⟩ := hx
    obtain ⟨_, d', h2, h3⟩ := dom_mem a d hf u hu
    have htg : tgB sig u = true → tg u < sig.length ∧ kindAt sig (tg u) = true := fun h => by
      obtain ⟨_, _, d2, hd2, _⟩ := dom_rest u d' h2
      have hn := fm_n hd2
      unfold tgB at h
      rw [Bool.and_eq_true, Bool.and_eq_true] at h
      have hlt := of_decide_eq_true h.1.2
      have e : ((tg u : Nat) : Int) = (domT u).2.n := by unfold tg; omega
      refine ⟨by omega, ?_⟩
      rw [e]
      exact h.2
    unfold stepE at hx
    rw [List.mem_append] at hx
    rcases hx with hx | hx
    · split at hx
      · rename_i h
        rw [Bool.and_eq_true] at h
        rw [List.mem_singleton] at hx
        subst hx
        exact ⟨htg h.2, hok h.1⟩
      · cases hx
    · exact edF_fam m u (tg u) (tgB sig u) d' h2 (by omega) htg x hx
end Go.Tr
/- Renumbered terms: the plain laws. -/
namespace Go.Tr
open Go.Proofs
end Go.Tr
/- Signatures: what is formed, told by positions; chosen constants. -/
namespace Go.Tr
open Go.Proofs
def okAt (sig : List Dcl) (n : Nat) (d : Dcl) : Prop :=
  prop d.c = true ∧ nameF d.s = true ∧ 0 ≤ d.i ∧ d.i ≤ (domT d.c).1.length ∧ nodesT n d.c 0 = true ∧ (kindT d.c = true ∨ (targOk d.c = true ∧ kindAt sig (domT d.c).2.n = true))
theorem kindAt_take {sig : List Dcl} {n : Nat} {x : Int} (h0 : 0 ≤ x) (h : x < n) : kindAt (sig.take n) x = kindAt sig x := by
  unfold kindAt
  rw [List.getElem?_take, if_pos (by omega)]
theorem formed_iff {sig : List Dcl} {n : Nat} {d : Dcl} (hd : sig[n]? = some d) : formedF (sig.take n) d = true ↔ okAt sig n d := by
  have hlt := (List.getElem?_eq_some_iff.1 hd).1
  have hlen : (sig.take n).length = n := by rw [List.length_take]; omega
  unfold formedF okAt
  rw [hlen]
  simp only [Bool.and_eq_true, Bool.or_eq_true, decide_eq_true_eq]
  constructor
  · rintro ⟨⟨⟨⟨h1, h2⟩, h3⟩, h4, h5⟩, h6⟩
    refine ⟨h1, h2, h3, h4, h5, h6.imp id fun h => ⟨h.1, ?_⟩⟩
    rw [← kindAt_take (targ_pos h1 h.1) (nodes_targ h5 h.1)]
    exact h.2
  · rintro ⟨h1, h2, h3, h4, h5, h6⟩
    refine ⟨⟨⟨⟨h1, h2⟩, h3⟩, h4, h5⟩, h6.imp id fun h => ⟨h.1, ?_⟩⟩
    rw [kindAt_take (targ_pos h1 h.1) (nodes_targ h5 h.1)]
    exact h.2
theorem nameIn_iff (l : List Dcl) (s : ByteArray) : nameIn l s = true ↔ ∃ e ∈ l, e.s = s := by
  unfold nameIn
  rw [List.any_eq_true]
  simp
theorem check_iff (sig : List Dcl) : checkB sig = true ↔ sig.length ≤ 100 ∧ (∀ (i j : Nat) d e, i < j → sig[i]? = some d → sig[j]? = some e → d.s ≠ e.s) ∧ ∀ (n : Nat) d, sig[n]? = some d → okAt sig n d := by
  constructor
  · intro h
    refine ⟨check_len h, fun i j d e hij hi hj he => ?_, fun n d hd => ?_⟩
    · have hg := check_good h j (List.getElem?_eq_some_iff.1 hj).1
      rw [good_formed sig hj] at hg
      unfold formedR at hg
      rw [Bool.and_eq_true, Bool.not_eq_true'] at hg
      have : nameIn (sig.take j) e.s = true := (nameIn_iff _ _).2 ⟨d, List.mem_of_getElem? (i := i) (by rw [List.getElem?_take, if_pos hij]; exact hi), he⟩
      rw [this] at hg
      cases hg.1
    · have hg := check_good h n (List.getElem?_eq_some_iff.1 hd).1
      rw [good_formed sig hd] at hg
      unfold formedR at hg
      rw [Bool.and_eq_true] at hg
      exact (formed_iff hd).1 hg.2
  · rintro ⟨h1, h2, h3⟩
    unfold checkB
    rw [decide_eq_true h1, Bool.true_and, List.all_eq_true]
    intro n hn
    have hn := List.mem_range.1 hn
    have hd : sig[n]? = some sig[n] := List.getElem?_eq_getElem hn
    rw [good_formed sig hd]
    unfold formedR
    rw [Bool.and_eq_true, Bool.not_eq_true', ← Bool.not_eq_true, nameIn_iff]
    refine ⟨?_, (formed_iff hd).2 (h3 n _ hd)⟩
    rintro ⟨e, he, hs⟩
    obtain ⟨i, hi⟩ := List.mem_iff_getElem?.1 he
    rw [List.getElem?_take] at hi
    split at hi
    · exact h2 i n e _ (by assumption) hi hd hs
    · cases hi
end Go.Tr
/- Swap, Without and Rename of formed signatures: the plain laws. -/
namespace Go.Tr
open Go.Proofs
end Go.Tr
/- Only families stand above or below. -/
namespace Go.Tr
open Go.Proofs
theorem head_fam {sig : List Dcl} (hc : checkB sig = true) {n : Nat} {d : Dcl} (hd : sig[n]? = some d) : (headT d n).toNat < sig.length ∧ kindAt sig (headT d n).toNat = true := by
  obtain ⟨_, _, c3⟩ := (check_iff sig).1 hc
  obtain ⟨o1, _, _, _, o5, o6⟩ := c3 n d hd
  have hlt := (List.getElem?_eq_some_iff.1 hd).1
  unfold headT
  cases hk : kindT d.c with
  | true =>
    simp only [Int.toNat_natCast]
    exact ⟨hlt, by rw [kindAt_of hd]; exact hk⟩
  | false =>
    rw [hk] at o6
    have o6 := o6.resolve_left (by simp)
    have h1 := targ_pos o1 o6.1
    have h2 := nodes_targ o5 o6.1
    simp only
    refine ⟨by omega, ?_⟩
    rw [Int.toNat_of_nonneg h1]
    exact o6.2
theorem bwP_fam {sig : List Dcl} (hc : checkB sig = true) : ∀ (j a b : Nat), j ≤ sig.length → bwP sig j a b = true → (a < sig.length ∧ kindAt sig a = true) ∧ (b < sig.length ∧ kindAt sig b = true)
  | 0, a, b, _, h => by rw [bwP] at h; cases h
  | j + 1, a, b, hj, h => by
    have hpr := check_prop hc
    obtain ⟨d, hd⟩ := get_lt (show j < sig.length by omega)
    rw [bwP, hd] at h
    simp only at h
    unfold orE at h
    rw [Bool.or_eq_true] at h
    rcases h with h | h
    · unfold updM at h
      split at h
      · rename_i e
        obtain ⟨rfl, rfl⟩ := e
        rw [kindAt_of hd]
        exact ⟨⟨by omega, h⟩, ⟨by omega, h⟩⟩
      · exact bwP_fam hc j a b (by omega) h
    · have hm := of_decide_eq_true h
      unfold edC at hm
      exact edF_fam _ d.c _ true 1 (prop_fm1 (hpr d (List.mem_of_getElem? hd))) (by omega) (fun _ => head_fam hc hd) _ hm
theorem belM_fam {sig : List Dcl} (hc : checkB sig = true) {a b : Nat} (h : belM sig a b = true) : (a < sig.length ∧ kindAt sig a = true) ∧ (b < sig.length ∧ kindAt sig b = true) := by
  unfold belM at h
  by_cases hab : a < sig.length ∧ b < sig.length
  · exact close_min (T := fun a b => (a < sig.length ∧ kindAt sig a = true) ∧ (b < sig.length ∧ kindAt sig b = true)) (fun a b _ _ h => bwP_fam hc _ a b (Nat.le_refl _) h) (fun a b c _ _ _ h1 h2 => ⟨h1.1, h2.2⟩) hab.1 hab.2 h
  · rw [close_out (by omega)] at h
    exact bwP_fam hc _ a b (Nat.le_refl _) h
theorem belM_trans {sig : List Dcl} {a b c : Nat} (ha : a < sig.length) (hb : b < sig.length) (hc : c < sig.length) (h1 : belM sig a b = true) (h2 : belM sig b c = true) : belM sig a c = true := close_trans ha hb hc h1 h2
theorem groups_ok {sig : List Dcl} (hc : checkB sig = true) : GrpOk (belM sig) (fun n => kindAt sig n) sig.length (fun _ => false) (groupsF sig) := by
  unfold groupsF
  rw [hc]
  refine grps_ok (fun a ha hk => belM_diag sig ha hk) (fun a b c ha hb hc h1 h2 => belM_trans ha hb hc h1 h2) (fun a b _ _ h => (belM_fam hc h).1.2) _ _ ?_ (fun _ _ _ _ _ h => by cases h)
  unfold cntD
  exact Nat.le_trans (List.length_filter_le _ _) (by simp)
theorem groups_bd {f : Nat → Nat → Bool} {kd : Nat → Bool} {n : Nat} : ∀ (k : Nat) (d : Nat → Bool), (grpsP f kd n k d).length ≤ k ∧ ∀ L ∈ grpsP f kd n k d, L.length ≤ n
  | 0, d => by rw [show grpsP f kd n 0 d = [] from rfl]; simp
  | k + 1, d => by
    cases hx : nxG (okG f kd d n) n with
    | none => rw [grpsP_none hx]; simp
    | some g =>
      rw [grpsP_some hx]
      have ih := @groups_bd f kd n k (markD d (grp f n g))
      refine ⟨by simp; exact ih.1, fun L hL => ?_⟩
      rcases List.mem_cons.1 hL with rfl | hL
      · exact upTo_len _ n
      · exact ih.2 L hL
end Go.Tr
/- The law DependGrouped. -/
namespace Go.Tr
open Go.Proofs
def tabG : List (Nat × TyD) := (38, ⟨3, 24, .array 3 3, [.int .i64 0, .int .i64 0, .int .i64 0], [3, 3, 3]⟩) :: tab
def envG (n : Nat) : Env := ⟨lkT tabG, keep, n, false, false, none, fun _ _ => none⟩
theorem envG_ok (n : Nat) : EnvOk Try.prog (envG n) := EnvOk.of (l := tabG) rfl (by kernel_rfl)
theorem fam_ok {sig : List Dcl} (hc : checkB sig = true) {a : Nat} (ha : a < sig.length) (hk : kindAt sig a = true) : famE sig a = 0 := famE_yes (has_at12 hc ha) hk
theorem bel_ok {sig : List Dcl} (hc : checkB sig = true) {a b : Nat} (ha : a < sig.length) (hka : kindAt sig a = true) (hb : b < sig.length) (hkb : kindAt sig b = true) : belE sig a b = 0 := by
  unfold belE belL
  rw [has_at12 hc ha, has_at12 hc hb, fam_ok hc ha hka, fam_ok hc hb hkb]
  rfl
theorem nofam_groups {sig : List Dcl} (hc : checkB sig = true) (h : upTo (fun n => kindAt sig n) sig.length = []) : groupsF sig = [] := by
  unfold groupsF
  rw [hc]
  refine grpsP_none (nxG_none fun i hi => ?_) _
  unfold okG
  cases hk : kindAt sig i with
  | false => simp only [hk, Bool.and_false, Bool.false_and]
  | true =>
    have : (i : Int) ∈ upTo (fun n => kindAt sig n) sig.length := upTo_mem.2 ⟨i, rfl, hi, hk⟩
    rw [h] at this
    cases this
theorem modQ (n : Int) (k : Nat) (hk : 0 < k ∧ k ≤ 1000) : ∃ q : Nat, (IntKind.u64.wrap n).tmod (IntKind.u64.wrap (k : Int)) = q ∧ q < k := by
  have hw : IntKind.u64.wrap (k : Int) = k := by
    simp [IntKind.wrap, IntKind.signed, IntKind.bits]
    omega
  have h0 : 0 ≤ IntKind.u64.wrap n := by
    simp [IntKind.wrap, IntKind.signed, IntKind.bits]
    omega
  rw [hw]
  generalize IntKind.u64.wrap n = x at *
  rw [Int.tmod_eq_emod_of_nonneg h0]
  have h1 := Int.emod_nonneg x (show (k : Int) ≠ 0 by omega)
  have h2 := Int.emod_lt_of_pos x (show (0 : Int) < k by omega)
  exact ⟨(x % k).toNat, by omega, by omega⟩
section
set_option maxRecDepth 100000
set_option maxHeartbeats 2000000 in
theorem cDependGrouped (sig : List Dcl) (abc : Int × Int × Int) : CallSt Try.prog 4 [.c (.sl 6 72 (dcs sig)), .agg [.c (.int .i64 (abc.1)), .c (.int .i64 (abc.2.1)), .c (.int .i64 (abc.2.2))]] [] (fun r H' => r = .c (.bool true) ∧ H' = []) := by
  obtain ⟨a0, b0, c0⟩ := abc
  have haw := cAwake12
  have hbl := len_dcs sig
  have h1 := cTableD sig
  have h2 := cGroupsD sig
  dsimp only
  cases hc : checkB sig with
  | false =>
    have e1 : tableF sig = [] := by unfold tableF; rw [hc]
    have e2 : groupsF sig = [] := by unfold groupsF; rw [hc]
    rw [e1, hc] at h1
    rw [e2, hc] at h2
    refine call_pure (E := envG 0) (fn := Try.f4) (c := bodyOf Try.f4) (envG_ok 0) mixed (by kernel_rfl) (by kernel_rfl) (by kernel_rfl) (by kernel_rfl) (by kernel_rfl) (by kernel_rfl) rfl ?_
    conv => whnf
    repeat ((first | refine aI rfl ?_ | refine aI (by decide) ?_ | refine dI (by kernel_rfl) ?_ | refine aI ⟨by omega, by omega⟩ ?_ | refine aI (by omega) ?_ | refine aI (fun _ => ⟨by omega, by omega⟩) ?_ | refine aI (of_decide_eq_true rfl) ?_ | (refine yI ?_ ?_; focus (first | decide | (simp; done) | (simp [tcs]; done))) | (refine nI ?_ ?_; focus (first | decide | (simp; done) | (simp [tcs]; done))) | intro _); conv => whnf)
    try (refine dI (by kernel_rfl) ?_; conv => whnf)
    first | refine CallSt.use h1 [] trivial (by decide) rfl ?_ | refine CallPt.useS h1 [] trivial (by decide) rfl ?_
    rintro _ _ ⟨rfl, rfl⟩ _
    conv => whnf
    repeat ((first | refine aI rfl ?_ | refine aI (by decide) ?_ | refine dI (by kernel_rfl) ?_ | refine aI ⟨by omega, by omega⟩ ?_ | refine aI (by omega) ?_ | refine aI (fun _ => ⟨by omega, by omega⟩) ?_ | refine aI (of_decide_eq_true rfl) ?_ | (refine yI ?_ ?_; focus (first | decide | (simp; done) | (simp [tcs]; done))) | (refine nI ?_ ?_; focus (first | decide | (simp; done) | (simp [tcs]; done))) | intro _); conv => whnf)
    try (refine dI (by kernel_rfl) ?_; conv => whnf)
    first | refine CallSt.use h2 [] trivial (by decide) rfl ?_ | refine CallPt.useS h2 [] trivial (by decide) rfl ?_
    rintro _ _ ⟨rfl, rfl⟩ _
    conv => whnf
    repeat ((first | refine aI rfl ?_ | refine aI (by decide) ?_ | refine dI (by kernel_rfl) ?_ | refine aI ⟨by omega, by omega⟩ ?_ | refine aI (by omega) ?_ | refine aI (fun _ => ⟨by omega, by omega⟩) ?_ | refine aI (of_decide_eq_true rfl) ?_ | (refine yI ?_ ?_; focus (first | decide | (simp; done) | (simp [tcs]; done))) | (refine nI ?_ ?_; focus (first | decide | (simp; done) | (simp [tcs]; done))) | intro _); conv => whnf)
    try (refine dI (by kernel_rfl) ?_; conv => whnf)
    first | refine CallSt.use haw [] trivial (by decide) rfl ?_ | refine CallPt.useS haw [] trivial (by decide) rfl ?_
    rintro _ _ ⟨rfl, rfl⟩ _
    conv => whnf
    repeat ((first | refine aI rfl ?_ | refine aI (by decide) ?_ | refine dI (by kernel_rfl) ?_ | refine aI ⟨by omega, by omega⟩ ?_ | refine aI (by omega) ?_ | refine aI (fun _ => ⟨by omega, by omega⟩) ?_ | refine aI (of_decide_eq_true rfl) ?_ | (refine yI ?_ ?_; focus (first | decide | (simp; done) | (simp [tcs]; done))) | (refine nI ?_ ?_; focus (first | decide | (simp; done) | (simp [tcs]; done))) | intro _); conv => whnf)
    all_goals (first | rfl | exact ⟨rfl, rfl⟩ | exact ⟨rfl, rfl, rfl⟩ | exact ⟨congrArg (fun z => AV.c (.bool z)) (by simp), rfl⟩)
  | true =>
    have hpr := check_prop hc
    have hsl := check_len hc
    rw [hc] at h1 h2
    by_cases hz : sig.length = 0
    · have ez : decide (((dcs sig).length : Int) = 0) = true := decide_eq_true (by omega)
      generalize tableF sig = T at *
      generalize groupsF sig = G at *
      refine call_pure (E := envG 0) (fn := Try.f4) (c := bodyOf Try.f4) (envG_ok 0) mixed (by kernel_rfl) (by kernel_rfl) (by kernel_rfl) (by kernel_rfl) (by kernel_rfl) (by kernel_rfl) rfl ?_
      conv => whnf
      repeat ((first | refine aI rfl ?_ | refine aI (by decide) ?_ | refine dI (by kernel_rfl) ?_ | refine aI ⟨by omega, by omega⟩ ?_ | refine aI (by omega) ?_ | refine aI (fun _ => ⟨by omega, by omega⟩) ?_ | refine aI (of_decide_eq_true rfl) ?_ | (refine yI ?_ ?_; focus (first | decide | (simp; done) | (simp [tcs]; done))) | (refine nI ?_ ?_; focus (first | decide | (simp; done) | (simp [tcs]; done))) | intro _); conv => whnf)
      try (refine dI (by kernel_rfl) ?_; conv => whnf)
      first | refine CallSt.use h1 [] trivial (by decide) rfl ?_ | refine CallPt.useS h1 [] trivial (by decide) rfl ?_
      rintro _ _ ⟨rfl, rfl⟩ _
      conv => whnf
      repeat ((first | refine aI rfl ?_ | refine aI (by decide) ?_ | refine dI (by kernel_rfl) ?_ | refine aI ⟨by omega, by omega⟩ ?_ | refine aI (by omega) ?_ | refine aI (fun _ => ⟨by omega, by omega⟩) ?_ | refine aI (of_decide_eq_true rfl) ?_ | (refine yI ?_ ?_; focus (first | decide | (simp; done) | (simp [tcs]; done))) | (refine nI ?_ ?_; focus (first | decide | (simp; done) | (simp [tcs]; done))) | intro _); conv => whnf)
      try (refine dI (by kernel_rfl) ?_; conv => whnf)
      first | refine CallSt.use h2 [] trivial (by decide) rfl ?_ | refine CallPt.useS h2 [] trivial (by decide) rfl ?_
      rintro _ _ ⟨rfl, rfl⟩ _
      conv => whnf
      repeat ((first | refine aI rfl ?_ | refine aI (by decide) ?_ | refine dI (by kernel_rfl) ?_ | refine aI ⟨by omega, by omega⟩ ?_ | refine aI (by omega) ?_ | refine aI (fun _ => ⟨by omega, by omega⟩) ?_ | refine aI (of_decide_eq_true rfl) ?_ | (refine yI ?_ ?_; focus (first | decide | (simp; done) | (simp [tcs]; done))) | (refine nI ?_ ?_; focus (first | decide | (simp; done) | (simp [tcs]; done))) | intro _); conv => whnf)
      rw [ez]
      (refine ⟨fun _ => ?_, fun h => absurd h (by simp)⟩; conv => whnf)
      repeat ((first | refine aI rfl ?_ | refine aI (by decide) ?_ | refine dI (by kernel_rfl) ?_ | refine aI ⟨by omega, by omega⟩ ?_ | refine aI (by omega) ?_ | refine aI (fun _ => ⟨by omega, by omega⟩) ?_ | refine aI (of_decide_eq_true rfl) ?_ | (refine yI ?_ ?_; focus (first | decide | (simp; done) | (simp [tcs]; done))) | (refine nI ?_ ?_; focus (first | decide | (simp; done) | (simp [tcs]; done))) | intro _); conv => whnf)
      try (refine dI (by kernel_rfl) ?_; conv => whnf)
      first | refine CallSt.use haw [] trivial (by decide) rfl ?_ | refine CallPt.useS haw [] trivial (by decide) rfl ?_
      rintro _ _ ⟨rfl, rfl⟩ _
      conv => whnf
      repeat ((first | refine aI rfl ?_ | refine aI (by decide) ?_ | refine dI (by kernel_rfl) ?_ | refine aI ⟨by omega, by omega⟩ ?_ | refine aI (by omega) ?_ | refine aI (fun _ => ⟨by omega, by omega⟩) ?_ | refine aI (of_decide_eq_true rfl) ?_ | (refine yI ?_ ?_; focus (first | decide | (simp; done) | (simp [tcs]; done))) | (refine nI ?_ ?_; focus (first | decide | (simp; done) | (simp [tcs]; done))) | intro _); conv => whnf)
      all_goals (first | rfl | exact ⟨rfl, rfl⟩ | exact ⟨rfl, rfl, rfl⟩ | exact ⟨congrArg (fun z => AV.c (.bool z)) (by simp), rfl⟩)
    · have ez : decide (((dcs sig).length : Int) = 0) = false := decide_eq_false (by omega)
      have eT : tableF sig = tabP (belM sig) sig.length sig.length := by unfold tableF; rw [hc]
      have hTl : (tableF sig).length = sig.length := by rw [eT]; exact tabP_len _ _ _
      have hrT := len_rowL (tableF sig)
      have hT : ∀ b, b < sig.length → (rowL (tableF sig))[b]? = some [.sl 1 8 (rowI (upTo (fun a => belM sig a b) sig.length))] := fun b hb => by
        refine rowL_at ?_
        rw [eT]
        unfold tabP
        rw [List.getElem?_map, List.getElem?_range hb]
        rfl
      have hG := groups_ok hc
      have hGl : (groupsF sig).length ≤ sig.length ∧ ∀ L ∈ groupsF sig, L.length ≤ sig.length := by
        unfold groupsF
        rw [hc]
        exact groups_bd _ _
      have hrG := len_rowL (groupsF sig)
      have hno := nofam_groups hc
      have hfams : ∀ x ∈ upTo (fun n => kindAt sig n) sig.length, ∃ i : Nat, x = i ∧ i < sig.length ∧ kindAt sig i = true := fun x hx => upTo_mem.1 hx
      have hdiag := fun a ha hk => @belM_diag sig a ha hk
      have htr := fun a b c ha hb hc => @belM_trans sig a b c ha hb hc
      have hB := fun a b => cBelowD sig a b
      generalize tableF sig = T at *
      generalize groupsF sig = G at *
      generalize belM sig = fm at *
      clear eT
      have eC : (!decide (((rowL T).length : Int) = ((dcs sig).length : Int))) = false := by
        rw [decide_eq_true (by omega)]
        rfl
      refine call_pure (E := envG 0) (fn := Try.f4) (c := bodyOf Try.f4) (envG_ok 0) mixed (by kernel_rfl) (by kernel_rfl) (by kernel_rfl) (by kernel_rfl) (by kernel_rfl) (by kernel_rfl) rfl ?_
      conv => whnf
      repeat ((first | refine aI rfl ?_ | refine aI (by decide) ?_ | refine dI (by kernel_rfl) ?_ | refine aI ⟨by omega, by omega⟩ ?_ | refine aI (by omega) ?_ | refine aI (fun _ => ⟨by omega, by omega⟩) ?_ | refine aI (of_decide_eq_true rfl) ?_ | (refine yI ?_ ?_; focus (first | decide | (simp; done) | (simp [tcs]; done))) | (refine nI ?_ ?_; focus (first | decide | (simp; done) | (simp [tcs]; done))) | intro _); conv => whnf)
      try (refine dI (by kernel_rfl) ?_; conv => whnf)
      first | refine CallSt.use h1 [] trivial (by decide) rfl ?_ | refine CallPt.useS h1 [] trivial (by decide) rfl ?_
      rintro _ _ ⟨rfl, rfl⟩ _
      conv => whnf
      repeat ((first | refine aI rfl ?_ | refine aI (by decide) ?_ | refine dI (by kernel_rfl) ?_ | refine aI ⟨by omega, by omega⟩ ?_ | refine aI (by omega) ?_ | refine aI (fun _ => ⟨by omega, by omega⟩) ?_ | refine aI (of_decide_eq_true rfl) ?_ | (refine yI ?_ ?_; focus (first | decide | (simp; done) | (simp [tcs]; done))) | (refine nI ?_ ?_; focus (first | decide | (simp; done) | (simp [tcs]; done))) | intro _); conv => whnf)
      try (refine dI (by kernel_rfl) ?_; conv => whnf)
      first | refine CallSt.use h2 [] trivial (by decide) rfl ?_ | refine CallPt.useS h2 [] trivial (by decide) rfl ?_
      rintro _ _ ⟨rfl, rfl⟩ _
      conv => whnf
      repeat ((first | refine aI rfl ?_ | refine aI (by decide) ?_ | refine dI (by kernel_rfl) ?_ | refine aI ⟨by omega, by omega⟩ ?_ | refine aI (by omega) ?_ | refine aI (fun _ => ⟨by omega, by omega⟩) ?_ | refine aI (of_decide_eq_true rfl) ?_ | (refine yI ?_ ?_; focus (first | decide | (simp; done) | (simp [tcs]; done))) | (refine nI ?_ ?_; focus (first | decide | (simp; done) | (simp [tcs]; done))) | intro _); conv => whnf)
      rw [ez]
      (refine ⟨fun h => absurd h (by simp), fun _ => ?_⟩; conv => whnf)
      repeat ((first | refine aI rfl ?_ | refine aI (by decide) ?_ | refine dI (by kernel_rfl) ?_ | refine aI ⟨by omega, by omega⟩ ?_ | refine aI (by omega) ?_ | refine aI (fun _ => ⟨by omega, by omega⟩) ?_ | refine aI (of_decide_eq_true rfl) ?_ | (refine yI ?_ ?_; focus (first | decide | (simp; done) | (simp [tcs]; done))) | (refine nI ?_ ?_; focus (first | decide | (simp; done) | (simp [tcs]; done))) | intro _); conv => whnf)
      rw [eC]
      (refine ⟨fun h => absurd h ?_, fun _ => ?_⟩; (focus (first | decide | (simp; done) | (simp [tcs]; done))); conv => whnf)
      repeat ((first | refine aI rfl ?_ | refine aI (by decide) ?_ | refine dI (by kernel_rfl) ?_ | refine aI ⟨by omega, by omega⟩ ?_ | refine aI (by omega) ?_ | refine aI (fun _ => ⟨by omega, by omega⟩) ?_ | refine aI (of_decide_eq_true rfl) ?_ | (refine yI ?_ ?_; focus (first | decide | (simp; done) | (simp [tcs]; done))) | (refine nI ?_ ?_; focus (first | decide | (simp; done) | (simp [tcs]; done))) | intro _); conv => whnf)
      refine loop_intro (fun m tm H => ∃ j : Nat, sig.length = m + j ∧
        tm = [(71, .c (.int .i64 (j))), (70, .c (.int .i64 ((dcs sig).length))), (0, .c (.sl 6 72 (dcs sig))), (5, .c (.int .i64 (a0))), (6, .c (.int .i64 (b0))), (7, .c (.int .i64 (c0))), (8, .c (.sl 1 24 (rowL T))), (10, .c (.sl 1 24 (rowL G))), (12, .own 0)] ∧ H = [.row 3 1 8 (rowI (upTo (fun n => kindAt sig n) j))])
        sig.length _ _ ⟨0, by omega, rfl, rfl⟩ ?_ ?_
      · refine Wk.trans (tm1 := [(71, .c (.int .i64 (0))), (70, .c (.int .i64 ((dcs sig).length))), (0, .c (.sl 6 72 (dcs sig))), (5, .c (.int .i64 (a0))), (6, .c (.int .i64 (b0))), (7, .c (.int .i64 (c0))), (8, .c (.sl 1 24 (rowL T))), (10, .c (.sl 1 24 (rowL G))), (12, .nil)]) (H1 := []) ?_ (Wk.trans (Wk.niltmp 12 3 1 8 rfl rfl) ?_)
        · exact Wk.sl [] rfl trivial ⟨rfl, rfl, rfl, rfl, rfl, rfl, rfl, rfl, rfl, trivial⟩ rfl
        · exact Wk.sl [0] rfl ⟨rfl, trivial⟩ ⟨rfl, rfl, rfl, rfl, rfl, rfl, rfl, rfl, rfl, trivial⟩ rfl
      rintro m tm H ⟨j, hj, rfl, rfl⟩
      conv => whnf
      refine ⟨fun hlt => ?_, fun hlt => ?_⟩
      · replace hlt : (j : Int) < (dcs sig).length := of_decide_eq_true hlt
        obtain ⟨d, hd⟩ := get_lt (show j < sig.length by omega)
        have hf := cRIsFamily sig j (by omega) d (by rw [Int.toNat_natCast]; exact hd) (hpr d (List.mem_of_getElem? hd))
        have hkd : kindAt sig j = kindT d.c := kindAt_of hd
        have hrl := len_rowI (upTo (fun n => kindAt sig n) j)
        have hul := upTo_len (fun n => kindAt sig n) j
        have hl2 : ((rowI (upTo (fun n => kindAt sig n) j)).length + 1) * 8 ≤ 140737488355328 := by omega
        have hl3 : (rowI (upTo (fun n => kindAt sig n) j)).length + 1 ≤ 9223372036854775807 := by omega
        generalize kindT d.c = kd at *
        cases kd with
        | true =>
          conv => whnf
          repeat ((first | refine aI rfl ?_ | refine aI (by decide) ?_ | refine dI (by kernel_rfl) ?_ | refine aI ⟨by omega, by omega⟩ ?_ | refine aI (by omega) ?_ | refine aI (fun _ => ⟨by omega, by omega⟩) ?_ | refine aI (of_decide_eq_true rfl) ?_ | (refine yI ?_ ?_; focus (first | decide | (simp; done) | (simp [tcs]; done))) | (refine nI ?_ ?_; focus (first | decide | (simp; done) | (simp [tcs]; done))) | intro _); conv => whnf)
          try (refine dI (by kernel_rfl) ?_; conv => whnf)
          first | refine CallSt.use hf [] trivial (by decide) rfl ?_ | refine CallPt.useS hf [] trivial (by decide) rfl ?_
          rintro _ _ ⟨rfl, rfl⟩ _
          conv => whnf
          repeat ((first | refine aI rfl ?_ | refine aI (by decide) ?_ | refine dI (by kernel_rfl) ?_ | refine aI ⟨by omega, by omega⟩ ?_ | refine aI (by omega) ?_ | refine aI (fun _ => ⟨by omega, by omega⟩) ?_ | refine aI (of_decide_eq_true rfl) ?_ | (refine yI ?_ ?_; focus (first | decide | (simp; done) | (simp [tcs]; done))) | (refine nI ?_ ?_; focus (first | decide | (simp; done) | (simp [tcs]; done))) | intro _); conv => whnf)
          refine ⟨m - 1, _, _, by omega, ⟨j + 1, by omega, rfl, rfl⟩, Wk.sl [2] rfl ⟨?_, trivial⟩ ⟨rfl, rfl, rfl, rfl, rfl, rfl, rfl, rfl, rfl, trivial⟩ rfl⟩
          rw [upTo_yes (p := fun n => kindAt sig n) hkd, ← rowI_snoc]
          rfl
        | false =>
          conv => whnf
          repeat ((first | refine aI rfl ?_ | refine aI (by decide) ?_ | refine dI (by kernel_rfl) ?_ | refine aI ⟨by omega, by omega⟩ ?_ | refine aI (by omega) ?_ | refine aI (fun _ => ⟨by omega, by omega⟩) ?_ | refine aI (of_decide_eq_true rfl) ?_ | (refine yI ?_ ?_; focus (first | decide | (simp; done) | (simp [tcs]; done))) | (refine nI ?_ ?_; focus (first | decide | (simp; done) | (simp [tcs]; done))) | intro _); conv => whnf)
          try (refine dI (by kernel_rfl) ?_; conv => whnf)
          first | refine CallSt.use hf [] trivial (by decide) rfl ?_ | refine CallPt.useS hf [] trivial (by decide) rfl ?_
          rintro _ _ ⟨rfl, rfl⟩ _
          conv => whnf
          repeat ((first | refine aI rfl ?_ | refine aI (by decide) ?_ | refine dI (by kernel_rfl) ?_ | refine aI ⟨by omega, by omega⟩ ?_ | refine aI (by omega) ?_ | refine aI (fun _ => ⟨by omega, by omega⟩) ?_ | refine aI (of_decide_eq_true rfl) ?_ | (refine yI ?_ ?_; focus (first | decide | (simp; done) | (simp [tcs]; done))) | (refine nI ?_ ?_; focus (first | decide | (simp; done) | (simp [tcs]; done))) | intro _); conv => whnf)
          refine ⟨m - 1, _, _, by omega, ⟨j + 1, by omega, rfl, rfl⟩, Wk.sl [0] rfl ⟨?_, trivial⟩ ⟨rfl, rfl, rfl, rfl, rfl, rfl, rfl, rfl, rfl, trivial⟩ rfl⟩
          rw [upTo_no (p := fun n => kindAt sig n) hkd]
          rfl
      · replace hlt : ¬ (j : Int) < (dcs sig).length := of_decide_eq_false hlt
        obtain rfl : j = sig.length := by omega
        by_cases hF0 : upTo (fun n => kindAt sig n) sig.length = []
        · have hG0 := hno hF0
          subst hG0
          rw [hF0]
          conv => whnf
          repeat ((first | refine aI rfl ?_ | refine aI (by decide) ?_ | refine dI (by kernel_rfl) ?_ | refine aI ⟨by omega, by omega⟩ ?_ | refine aI (by omega) ?_ | refine aI (fun _ => ⟨by omega, by omega⟩) ?_ | refine aI (of_decide_eq_true rfl) ?_ | (refine yI ?_ ?_; focus (first | decide | (simp; done) | (simp [tcs]; done))) | (refine nI ?_ ?_; focus (first | decide | (simp; done) | (simp [tcs]; done))) | intro _); conv => whnf)
          try (refine dI (by kernel_rfl) ?_; conv => whnf)
          first | refine CallSt.use haw [] trivial (by decide) rfl ?_ | refine CallPt.useS haw [] trivial (by decide) rfl ?_
          rintro _ _ ⟨rfl, rfl⟩ _
          conv => whnf
          repeat ((first | refine aI rfl ?_ | refine aI (by decide) ?_ | refine dI (by kernel_rfl) ?_ | refine aI ⟨by omega, by omega⟩ ?_ | refine aI (by omega) ?_ | refine aI (fun _ => ⟨by omega, by omega⟩) ?_ | refine aI (of_decide_eq_true rfl) ?_ | (refine yI ?_ ?_; focus (first | decide | (simp; done) | (simp [tcs]; done))) | (refine nI ?_ ?_; focus (first | decide | (simp; done) | (simp [tcs]; done))) | intro _); conv => whnf)
          all_goals (first | rfl | exact ⟨rfl, rfl⟩ | exact ⟨rfl, rfl, rfl⟩ | exact ⟨congrArg (fun z => AV.c (.bool z)) (by simp), rfl⟩)
        · have hFp := List.length_pos_iff.2 hF0
          have hFl := upTo_len (fun n => kindAt sig n) sig.length
          generalize upTo (fun n => kindAt sig n) sig.length = F at *
          have hrF := len_rowI F
          have eF : decide (((rowI F).length : Int) = 0) = false := decide_eq_false (by omega)
          obtain ⟨qa, hqa, hqa1⟩ := modQ a0 F.length ⟨hFp, by omega⟩
          obtain ⟨qb, hqb, hqb1⟩ := modQ b0 F.length ⟨hFp, by omega⟩
          obtain ⟨qc, hqc, hqc1⟩ := modQ c0 F.length ⟨hFp, by omega⟩
          rw [← hrF] at hqa hqb hqc
          obtain ⟨xa, hxa⟩ := get_lt hqa1
          obtain ⟨xb, hxb⟩ := get_lt hqb1
          obtain ⟨xc, hxc⟩ := get_lt hqc1
          obtain ⟨a, rfl, ha1, ha2⟩ := hfams xa (List.mem_of_getElem? hxa)
          obtain ⟨b, rfl, hb1, hb2⟩ := hfams xb (List.mem_of_getElem? hxb)
          obtain ⟨c, rfl, hc1, hc2⟩ := hfams xc (List.mem_of_getElem? hxc)
          have hwF : IntKind.u64.wrap ((rowI F).length : Int) ≠ 0 := by
            simp [IntKind.wrap, IntKind.signed, IntKind.bits]
            omega
          conv => whnf
          repeat ((first | refine aI rfl ?_ | refine aI (by decide) ?_ | refine dI (by kernel_rfl) ?_ | refine aI ⟨by omega, by omega⟩ ?_ | refine aI (by omega) ?_ | refine aI (fun _ => ⟨by omega, by omega⟩) ?_ | refine aI (of_decide_eq_true rfl) ?_ | (refine yI ?_ ?_; focus (first | decide | (simp; done) | (simp [tcs]; done))) | (refine nI ?_ ?_; focus (first | decide | (simp; done) | (simp [tcs]; done))) | intro _); conv => whnf)
          rw [eF]
          (refine ⟨fun h => absurd h ?_, fun _ => ?_⟩; (focus (first | decide | (simp; done) | (simp [tcs]; done))); conv => whnf)
          repeat ((first | refine aI rfl ?_ | refine aI (by decide) ?_ | refine dI (by kernel_rfl) ?_ | refine aI ⟨by omega, by omega⟩ ?_ | refine aI (by omega) ?_ | refine aI (fun _ => ⟨by omega, by omega⟩) ?_ | refine aI (of_decide_eq_true rfl) ?_ | (refine yI ?_ ?_; focus (first | decide | (simp; done) | (simp [tcs]; done))) | (refine nI ?_ ?_; focus (first | decide | (simp; done) | (simp [tcs]; done))) | intro _); conv => whnf)
          refine ⟨hwF, ?_⟩
          conv => whnf
          rw [hqa]
          have hra : (rowI F)[(qa : Int).toNat]? = some [.int .i64 (a : Int)] := rowI_at hxa
          have hrb : (rowI F)[(qb : Int).toNat]? = some [.int .i64 (b : Int)] := rowI_at hxb
          have hrc : (rowI F)[(qc : Int).toNat]? = some [.int .i64 (c : Int)] := rowI_at hxc
          repeat ((first | refine aI rfl ?_ | refine aI (by decide) ?_ | refine dI (by kernel_rfl) ?_ | refine aI ⟨by omega, by omega⟩ ?_ | refine aI (by omega) ?_ | refine aI (fun _ => ⟨by omega, by omega⟩) ?_ | refine aI (of_decide_eq_true rfl) ?_ | (refine yI ?_ ?_; focus (first | decide | (simp; done) | (simp [tcs]; done))) | (refine nI ?_ ?_; focus (first | decide | (simp; done) | (simp [tcs]; done))) | intro _); conv => whnf)
          refine ⟨_, hra, Nat.le_refl 1, ?_⟩
          conv => whnf
          repeat ((first | refine aI rfl ?_ | refine aI (by decide) ?_ | refine dI (by kernel_rfl) ?_ | refine aI ⟨by omega, by omega⟩ ?_ | refine aI (by omega) ?_ | refine aI (fun _ => ⟨by omega, by omega⟩) ?_ | refine aI (of_decide_eq_true rfl) ?_ | (refine yI ?_ ?_; focus (first | decide | (simp; done) | (simp [tcs]; done))) | (refine nI ?_ ?_; focus (first | decide | (simp; done) | (simp [tcs]; done))) | intro _); conv => whnf)
          refine ⟨hwF, ?_⟩
          conv => whnf
          rw [hqb]
          repeat ((first | refine aI rfl ?_ | refine aI (by decide) ?_ | refine dI (by kernel_rfl) ?_ | refine aI ⟨by omega, by omega⟩ ?_ | refine aI (by omega) ?_ | refine aI (fun _ => ⟨by omega, by omega⟩) ?_ | refine aI (of_decide_eq_true rfl) ?_ | (refine yI ?_ ?_; focus (first | decide | (simp; done) | (simp [tcs]; done))) | (refine nI ?_ ?_; focus (first | decide | (simp; done) | (simp [tcs]; done))) | intro _); conv => whnf)
          refine ⟨_, hrb, Nat.le_refl 1, ?_⟩
          conv => whnf
          repeat ((first | refine aI rfl ?_ | refine aI (by decide) ?_ | refine dI (by kernel_rfl) ?_ | refine aI ⟨by omega, by omega⟩ ?_ | refine aI (by omega) ?_ | refine aI (fun _ => ⟨by omega, by omega⟩) ?_ | refine aI (of_decide_eq_true rfl) ?_ | (refine yI ?_ ?_; focus (first | decide | (simp; done) | (simp [tcs]; done))) | (refine nI ?_ ?_; focus (first | decide | (simp; done) | (simp [tcs]; done))) | intro _); conv => whnf)
          refine ⟨hwF, ?_⟩
          conv => whnf
          rw [hqc]
          repeat ((first | refine aI rfl ?_ | refine aI (by decide) ?_ | refine dI (by kernel_rfl) ?_ | refine aI ⟨by omega, by omega⟩ ?_ | refine aI (by omega) ?_ | refine aI (fun _ => ⟨by omega, by omega⟩) ?_ | refine aI (of_decide_eq_true rfl) ?_ | (refine yI ?_ ?_; focus (first | decide | (simp; done) | (simp [tcs]; done))) | (refine nI ?_ ?_; focus (first | decide | (simp; done) | (simp [tcs]; done))) | intro _); conv => whnf)
          refine ⟨_, hrc, Nat.le_refl 1, ?_⟩
          conv => whnf
          repeat ((first | refine aI rfl ?_ | refine aI (by decide) ?_ | refine dI (by kernel_rfl) ?_ | refine aI ⟨by omega, by omega⟩ ?_ | refine aI (by omega) ?_ | refine aI (fun _ => ⟨by omega, by omega⟩) ?_ | refine aI (of_decide_eq_true rfl) ?_ | (refine yI ?_ ?_; focus (first | decide | (simp; done) | (simp [tcs]; done))) | (refine nI ?_ ?_; focus (first | decide | (simp; done) | (simp [tcs]; done))) | intro _); conv => whnf)
          have hab := hB a b
          rw [bel_ok hc ha1 ha2 hb1 hb2, Int.toNat_natCast, Int.toNat_natCast] at hab
          have hbc := hB b c
          rw [bel_ok hc hb1 hb2 hc1 hc2, Int.toNat_natCast, Int.toNat_natCast] at hbc
          have hac := hB a c
          rw [bel_ok hc ha1 ha2 hc1 hc2, Int.toNat_natCast, Int.toNat_natCast] at hac
          have haa := hB a a
          rw [bel_ok hc ha1 ha2 ha1 ha2, Int.toNat_natCast, hdiag a ha1 ha2] at haa
          have hba := hB b a
          rw [bel_ok hc hb1 hb2 ha1 ha2, Int.toNat_natCast, Int.toNat_natCast] at hba
          have hxyz : (fm a b && fm b c && !fm a c) = false := by
            have := htr a b c ha1 hb1 hc1
            revert this
            generalize fm a b = p
            generalize fm b c = q
            generalize fm a c = r
            cases p <;> cases q <;> cases r <;> decide
          have hTb := hT b hb1
          have hTm := cHasL (upTo (fun a => fm a b) sig.length) a (by have := upTo_len (fun a => fm a b) sig.length; omega)
          rw [mem_upTo (p := fun a => fm a b) ha1] at hTm
          generalize upTo (fun a => fm a b) sig.length = Tb at *
          generalize hx : fm a b = x at *
          generalize fm b c = y at *
          generalize fm a c = z at *
          try (refine dI (by kernel_rfl) ?_; conv => whnf)
          first | refine CallSt.use hab [] trivial (by decide) rfl ?_ | refine CallPt.useS hab [] trivial (by decide) rfl ?_
          rintro _ _ ⟨rfl, rfl⟩ _
          conv => whnf
          repeat ((first | refine aI rfl ?_ | refine aI (by decide) ?_ | refine dI (by kernel_rfl) ?_ | refine aI ⟨by omega, by omega⟩ ?_ | refine aI (by omega) ?_ | refine aI (fun _ => ⟨by omega, by omega⟩) ?_ | refine aI (of_decide_eq_true rfl) ?_ | (refine yI ?_ ?_; focus (first | decide | (simp; done) | (simp [tcs]; done))) | (refine nI ?_ ?_; focus (first | decide | (simp; done) | (simp [tcs]; done))) | intro _); conv => whnf)
          try (refine dI (by kernel_rfl) ?_; conv => whnf)
          first | refine CallSt.use hbc [] trivial (by decide) rfl ?_ | refine CallPt.useS hbc [] trivial (by decide) rfl ?_
          rintro _ _ ⟨rfl, rfl⟩ _
          conv => whnf
          repeat ((first | refine aI rfl ?_ | refine aI (by decide) ?_ | refine dI (by kernel_rfl) ?_ | refine aI ⟨by omega, by omega⟩ ?_ | refine aI (by omega) ?_ | refine aI (fun _ => ⟨by omega, by omega⟩) ?_ | refine aI (of_decide_eq_true rfl) ?_ | (refine yI ?_ ?_; focus (first | decide | (simp; done) | (simp [tcs]; done))) | (refine nI ?_ ?_; focus (first | decide | (simp; done) | (simp [tcs]; done))) | intro _); conv => whnf)
          try (refine dI (by kernel_rfl) ?_; conv => whnf)
          first | refine CallSt.use hac [] trivial (by decide) rfl ?_ | refine CallPt.useS hac [] trivial (by decide) rfl ?_
          rintro _ _ ⟨rfl, rfl⟩ _
          conv => whnf
          repeat ((first | refine aI rfl ?_ | refine aI (by decide) ?_ | refine dI (by kernel_rfl) ?_ | refine aI ⟨by omega, by omega⟩ ?_ | refine aI (by omega) ?_ | refine aI (fun _ => ⟨by omega, by omega⟩) ?_ | refine aI (of_decide_eq_true rfl) ?_ | (refine yI ?_ ?_; focus (first | decide | (simp; done) | (simp [tcs]; done))) | (refine nI ?_ ?_; focus (first | decide | (simp; done) | (simp [tcs]; done))) | intro _); conv => whnf)
          try (refine dI (by kernel_rfl) ?_; conv => whnf)
          first | refine CallSt.use haa [] trivial (by decide) rfl ?_ | refine CallPt.useS haa [] trivial (by decide) rfl ?_
          rintro _ _ ⟨rfl, rfl⟩ _
          conv => whnf
          repeat ((first | refine aI rfl ?_ | refine aI (by decide) ?_ | refine dI (by kernel_rfl) ?_ | refine aI ⟨by omega, by omega⟩ ?_ | refine aI (by omega) ?_ | refine aI (fun _ => ⟨by omega, by omega⟩) ?_ | refine aI (of_decide_eq_true rfl) ?_ | (refine yI ?_ ?_; focus (first | decide | (simp; done) | (simp [tcs]; done))) | (refine nI ?_ ?_; focus (first | decide | (simp; done) | (simp [tcs]; done))) | intro _); conv => whnf)
          have eX : (decide ((0 : Int) = 0) && x && (decide ((0 : Int) = 0) && y) && !(decide ((0 : Int) = 0) && z)) = false := by
            rw [decide_eq_true (show (0 : Int) = 0 from rfl), Bool.true_and, Bool.true_and, Bool.true_and]
            exact hxyz
          rw [eX]
          refine ⟨_, fun _ => ⟨by omega, hTb⟩, ?_⟩
          conv => whnf
          refine ⟨Nat.le_refl 1, ?_⟩
          conv => whnf
          repeat ((first | refine aI rfl ?_ | refine aI (by decide) ?_ | refine dI (by kernel_rfl) ?_ | refine aI ⟨by omega, by omega⟩ ?_ | refine aI (by omega) ?_ | refine aI (fun _ => ⟨by omega, by omega⟩) ?_ | refine aI (of_decide_eq_true rfl) ?_ | (refine yI ?_ ?_; focus (first | decide | (simp; done) | (simp [tcs]; done))) | (refine nI ?_ ?_; focus (first | decide | (simp; done) | (simp [tcs]; done))) | intro _); conv => whnf)
          try (refine dI (by kernel_rfl) ?_; conv => whnf)
          first | refine CallSt.use hTm [] trivial (by decide) rfl ?_ | refine CallPt.useS hTm [] trivial (by decide) rfl ?_
          rintro _ _ ⟨rfl, rfl⟩ _
          conv => whnf
          repeat ((first | refine aI rfl ?_ | refine aI (by decide) ?_ | refine dI (by kernel_rfl) ?_ | refine aI ⟨by omega, by omega⟩ ?_ | refine aI (by omega) ?_ | refine aI (fun _ => ⟨by omega, by omega⟩) ?_ | refine aI (of_decide_eq_true rfl) ?_ | (refine yI ?_ ?_; focus (first | decide | (simp; done) | (simp [tcs]; done))) | (refine nI ?_ ?_; focus (first | decide | (simp; done) | (simp [tcs]; done))) | intro _); conv => whnf)
          obtain ⟨p0, L0, hp0, hL0⟩ := hG.one a ha1 ha2 rfl
          have huniq : ∀ (p : Nat) (L : List Int), G[p]? = some L → ((a : Int) ∈ L ↔ p = p0) := fun p L h => by
            constructor
            · intro h2
              exact (hG.same a a p p0 L L0 h hp0 h2 hL0).2 ⟨hdiag a ha1 ha2, hdiag a ha1 ha2⟩
            · intro h2
              rw [h2, hp0] at h
              injection h with h
              rw [← h]
              exact hL0
          have hp0l := (List.getElem?_eq_some_iff.1 hp0).1
          have hfin : ∀ (p : Nat) (L : List Int), G[p]? = some L → (b : Int) ∈ L → (fm b a = true → p ≤ p0) ∧ (p = p0 ↔ x = true ∧ fm b a = true) := fun p L h h2 => by
            refine ⟨fun h3 => hG.up a b p p0 L L0 h hp0 h2 hL0 h3, ?_⟩
            rw [← hx]
            exact hG.same a b p p0 L L0 h hp0 h2 hL0
          generalize fm b a = yb at *
          refine loop_intro (fun m tm H => ∃ (j : Nat) (at' inn : Int), G.length = m + j ∧ (p0 < j → at' = p0 ∧ inn = 1) ∧ (j ≤ p0 → at' = -1 ∧ inn = 0) ∧
            tm = [(183, .c (.int .i64 (j))), (182, .c (.int .i64 ((rowL G).length))), (181, .c (.sl 1 24 (rowL G))), (0, .c (.sl 6 72 (dcs sig))), (5, .c (.int .i64 (a))), (6, .c (.int .i64 (b))), (10, .c (.sl 1 24 (rowL G))), (15, .c (.bool x)), (23, .c (.int .i64 (at'))), (24, .c (.int .i64 (inn)))] ∧ H = [])
            G.length _ _ ⟨0, -1, 0, by omega, fun h => by omega, fun _ => ⟨rfl, rfl⟩, rfl, rfl⟩ (Wk.sl [] rfl trivial ⟨rfl, rfl, rfl, rfl, rfl, rfl, rfl, rfl, rfl, rfl, trivial⟩ rfl) ?_
          rintro m2 tm H ⟨j, at', inn, hj2, hin1, hin2, rfl, rfl⟩
          conv => whnf
          refine ⟨fun hlt2 => ?_, fun hlt2 => ?_⟩
          · replace hlt2 : (j : Int) < (rowL G).length := of_decide_eq_true hlt2
            obtain ⟨L, hL⟩ := get_lt (show j < G.length by omega)
            have hLr := rowL_at hL
            have hLl := hGl.2 L (List.mem_of_getElem? hL)
            have hm := cHasL L a (by omega)
            have hu := huniq j L hL
            by_cases e : j = p0
            · rw [decide_eq_true (hu.2 e)] at hm
              obtain ⟨rfl, rfl⟩ := hin2 (by omega)
              conv => whnf
              repeat ((first | refine aI rfl ?_ | refine aI (by decide) ?_ | refine dI (by kernel_rfl) ?_ | refine aI ⟨by omega, by omega⟩ ?_ | refine aI (by omega) ?_ | refine aI (fun _ => ⟨by omega, by omega⟩) ?_ | refine aI (of_decide_eq_true rfl) ?_ | (refine yI ?_ ?_; focus (first | decide | (simp; done) | (simp [tcs]; done))) | (refine nI ?_ ?_; focus (first | decide | (simp; done) | (simp [tcs]; done))) | intro _); conv => whnf)
              refine ⟨_, ⟨by omega, hLr⟩, ?_⟩
              conv => whnf
              refine ⟨Nat.le_refl 1, ?_⟩
              conv => whnf
              repeat ((first | refine aI rfl ?_ | refine aI (by decide) ?_ | refine dI (by kernel_rfl) ?_ | refine aI ⟨by omega, by omega⟩ ?_ | refine aI (by omega) ?_ | refine aI (fun _ => ⟨by omega, by omega⟩) ?_ | refine aI (of_decide_eq_true rfl) ?_ | (refine yI ?_ ?_; focus (first | decide | (simp; done) | (simp [tcs]; done))) | (refine nI ?_ ?_; focus (first | decide | (simp; done) | (simp [tcs]; done))) | intro _); conv => whnf)
              try (refine dI (by kernel_rfl) ?_; conv => whnf)
              first | refine CallSt.use hm [] trivial (by decide) rfl ?_ | refine CallPt.useS hm [] trivial (by decide) rfl ?_
              rintro _ _ ⟨rfl, rfl⟩ _
              conv => whnf
              repeat ((first | refine aI rfl ?_ | refine aI (by decide) ?_ | refine dI (by kernel_rfl) ?_ | refine aI ⟨by omega, by omega⟩ ?_ | refine aI (by omega) ?_ | refine aI (fun _ => ⟨by omega, by omega⟩) ?_ | refine aI (of_decide_eq_true rfl) ?_ | (refine yI ?_ ?_; focus (first | decide | (simp; done) | (simp [tcs]; done))) | (refine nI ?_ ?_; focus (first | decide | (simp; done) | (simp [tcs]; done))) | intro _); conv => whnf)
              exact ⟨m2 - 1, _, _, by omega, ⟨j + 1, j, 1, by omega, fun _ => ⟨by omega, rfl⟩, fun h => by omega, rfl, rfl⟩, Wk.sl [] rfl trivial ⟨rfl, rfl, rfl, rfl, rfl, rfl, rfl, rfl, rfl, rfl, trivial⟩ rfl⟩
            · rw [decide_eq_false (fun h => e (hu.1 h))] at hm
              conv => whnf
              repeat ((first | refine aI rfl ?_ | refine aI (by decide) ?_ | refine dI (by kernel_rfl) ?_ | refine aI ⟨by omega, by omega⟩ ?_ | refine aI (by omega) ?_ | refine aI (fun _ => ⟨by omega, by omega⟩) ?_ | refine aI (of_decide_eq_true rfl) ?_ | (refine yI ?_ ?_; focus (first | decide | (simp; done) | (simp [tcs]; done))) | (refine nI ?_ ?_; focus (first | decide | (simp; done) | (simp [tcs]; done))) | intro _); conv => whnf)
              refine ⟨_, ⟨by omega, hLr⟩, ?_⟩
              conv => whnf
              refine ⟨Nat.le_refl 1, ?_⟩
              conv => whnf
              repeat ((first | refine aI rfl ?_ | refine aI (by decide) ?_ | refine dI (by kernel_rfl) ?_ | refine aI ⟨by omega, by omega⟩ ?_ | refine aI (by omega) ?_ | refine aI (fun _ => ⟨by omega, by omega⟩) ?_ | refine aI (of_decide_eq_true rfl) ?_ | (refine yI ?_ ?_; focus (first | decide | (simp; done) | (simp [tcs]; done))) | (refine nI ?_ ?_; focus (first | decide | (simp; done) | (simp [tcs]; done))) | intro _); conv => whnf)
              try (refine dI (by kernel_rfl) ?_; conv => whnf)
              first | refine CallSt.use hm [] trivial (by decide) rfl ?_ | refine CallPt.useS hm [] trivial (by decide) rfl ?_
              rintro _ _ ⟨rfl, rfl⟩ _
              conv => whnf
              repeat ((first | refine aI rfl ?_ | refine aI (by decide) ?_ | refine dI (by kernel_rfl) ?_ | refine aI ⟨by omega, by omega⟩ ?_ | refine aI (by omega) ?_ | refine aI (fun _ => ⟨by omega, by omega⟩) ?_ | refine aI (of_decide_eq_true rfl) ?_ | (refine yI ?_ ?_; focus (first | decide | (simp; done) | (simp [tcs]; done))) | (refine nI ?_ ?_; focus (first | decide | (simp; done) | (simp [tcs]; done))) | intro _); conv => whnf)
              exact ⟨m2 - 1, _, _, by omega, ⟨j + 1, at', inn, by omega, fun h => hin1 (by omega), fun h => hin2 (by omega), rfl, rfl⟩, Wk.sl [] rfl trivial ⟨rfl, rfl, rfl, rfl, rfl, rfl, rfl, rfl, rfl, rfl, trivial⟩ rfl⟩
          · replace hlt2 : ¬ (j : Int) < (rowL G).length := of_decide_eq_false hlt2
            obtain rfl : j = G.length := by omega
            obtain ⟨rfl, rfl⟩ := hin1 (by omega)
            conv => whnf
            repeat ((first | refine aI rfl ?_ | refine aI (by decide) ?_ | refine dI (by kernel_rfl) ?_ | refine aI ⟨by omega, by omega⟩ ?_ | refine aI (by omega) ?_ | refine aI (fun _ => ⟨by omega, by omega⟩) ?_ | refine aI (of_decide_eq_true rfl) ?_ | (refine yI ?_ ?_; focus (first | decide | (simp; done) | (simp [tcs]; done))) | (refine nI ?_ ?_; focus (first | decide | (simp; done) | (simp [tcs]; done))) | intro _); conv => whnf)
            try (refine dI (by kernel_rfl) ?_; conv => whnf)
            first | refine CallSt.use hba [] trivial (by decide) rfl ?_ | refine CallPt.useS hba [] trivial (by decide) rfl ?_
            rintro _ _ ⟨rfl, rfl⟩ _
            conv => whnf
            repeat ((first | refine aI rfl ?_ | refine aI (by decide) ?_ | refine dI (by kernel_rfl) ?_ | refine aI ⟨by omega, by omega⟩ ?_ | refine aI (by omega) ?_ | refine aI (fun _ => ⟨by omega, by omega⟩) ?_ | refine aI (of_decide_eq_true rfl) ?_ | (refine yI ?_ ?_; focus (first | decide | (simp; done) | (simp [tcs]; done))) | (refine nI ?_ ?_; focus (first | decide | (simp; done) | (simp [tcs]; done))) | intro _); conv => whnf)
            refine loop_intro (fun m tm H => ∃ j : Nat, G.length = m + j ∧
              tm = [(206, .c (.int .i64 (j))), (205, .c (.int .i64 ((rowL G).length))), (204, .c (.sl 1 24 (rowL G))), (6, .c (.int .i64 (b))), (15, .c (.bool x)), (23, .c (.int .i64 (p0))), (27, .c (.bool yb)), (28, .c (.int .i64 (0)))] ∧ H = [])
              G.length _ _ ⟨0, by omega, rfl, rfl⟩ (Wk.sl [] rfl trivial ⟨rfl, rfl, rfl, rfl, rfl, rfl, rfl, rfl, trivial⟩ rfl) ?_
            rintro m3 tm H ⟨j, hj3, rfl, rfl⟩
            conv => whnf
            refine ⟨fun hlt3 => ?_, fun hlt3 => ?_⟩
            · replace hlt3 : (j : Int) < (rowL G).length := of_decide_eq_true hlt3
              obtain ⟨L, hL⟩ := get_lt (show j < G.length by omega)
              have hLr := rowL_at hL
              have hLl := hGl.2 L (List.mem_of_getElem? hL)
              have hm := cHasL L b (by omega)
              have hu := hfin j L hL
              by_cases e : (b : Int) ∈ L
              · obtain ⟨u1, u2⟩ := hu e
                have eD : (yb && decide ((p0 : Int) < (j : Int)) || !(decide ((j : Int) = (p0 : Int)) == (x && yb))) = false := by
                  have e1 : yb = true → decide ((p0 : Int) < (j : Int)) = false := fun h => decide_eq_false (by have := u1 h; omega)
                  have e2 : decide ((j : Int) = (p0 : Int)) = (x && yb) := by
                    rw [Bool.eq_iff_iff, decide_eq_true_eq, Bool.and_eq_true, ← u2]
                    omega
                  rw [e2]
                  cases yb with
                  | false => simp
                  | true => rw [e1 rfl]; simp
                rw [decide_eq_true e] at hm
                conv => whnf
                repeat ((first | refine aI rfl ?_ | refine aI (by decide) ?_ | refine dI (by kernel_rfl) ?_ | refine aI ⟨by omega, by omega⟩ ?_ | refine aI (by omega) ?_ | refine aI (fun _ => ⟨by omega, by omega⟩) ?_ | refine aI (of_decide_eq_true rfl) ?_ | (refine yI ?_ ?_; focus (first | decide | (simp; done) | (simp [tcs]; done))) | (refine nI ?_ ?_; focus (first | decide | (simp; done) | (simp [tcs]; done))) | intro _); conv => whnf)
                refine ⟨_, ⟨by omega, hLr⟩, ?_⟩
                conv => whnf
                refine ⟨Nat.le_refl 1, ?_⟩
                conv => whnf
                repeat ((first | refine aI rfl ?_ | refine aI (by decide) ?_ | refine dI (by kernel_rfl) ?_ | refine aI ⟨by omega, by omega⟩ ?_ | refine aI (by omega) ?_ | refine aI (fun _ => ⟨by omega, by omega⟩) ?_ | refine aI (of_decide_eq_true rfl) ?_ | (refine yI ?_ ?_; focus (first | decide | (simp; done) | (simp [tcs]; done))) | (refine nI ?_ ?_; focus (first | decide | (simp; done) | (simp [tcs]; done))) | intro _); conv => whnf)
                try (refine dI (by kernel_rfl) ?_; conv => whnf)
                first | refine CallSt.use hm [] trivial (by decide) rfl ?_ | refine CallPt.useS hm [] trivial (by decide) rfl ?_
                rintro _ _ ⟨rfl, rfl⟩ _
                conv => whnf
                repeat ((first | refine aI rfl ?_ | refine aI (by decide) ?_ | refine dI (by kernel_rfl) ?_ | refine aI ⟨by omega, by omega⟩ ?_ | refine aI (by omega) ?_ | refine aI (fun _ => ⟨by omega, by omega⟩) ?_ | refine aI (of_decide_eq_true rfl) ?_ | (refine yI ?_ ?_; focus (first | decide | (simp; done) | (simp [tcs]; done))) | (refine nI ?_ ?_; focus (first | decide | (simp; done) | (simp [tcs]; done))) | intro _); conv => whnf)
                rw [eD]
                (refine ⟨fun h => absurd h (by simp), fun _ => ?_⟩; conv => whnf)
                repeat ((first | refine aI rfl ?_ | refine aI (by decide) ?_ | refine dI (by kernel_rfl) ?_ | refine aI ⟨by omega, by omega⟩ ?_ | refine aI (by omega) ?_ | refine aI (fun _ => ⟨by omega, by omega⟩) ?_ | refine aI (of_decide_eq_true rfl) ?_ | (refine yI ?_ ?_; focus (first | decide | (simp; done) | (simp [tcs]; done))) | (refine nI ?_ ?_; focus (first | decide | (simp; done) | (simp [tcs]; done))) | intro _); conv => whnf)
                exact ⟨m3 - 1, _, _, by omega, ⟨j + 1, by omega, rfl, rfl⟩, Wk.sl [] rfl trivial ⟨rfl, rfl, rfl, rfl, rfl, rfl, rfl, rfl, trivial⟩ rfl⟩
              · rw [decide_eq_false e] at hm
                conv => whnf
                repeat ((first | refine aI rfl ?_ | refine aI (by decide) ?_ | refine dI (by kernel_rfl) ?_ | refine aI ⟨by omega, by omega⟩ ?_ | refine aI (by omega) ?_ | refine aI (fun _ => ⟨by omega, by omega⟩) ?_ | refine aI (of_decide_eq_true rfl) ?_ | (refine yI ?_ ?_; focus (first | decide | (simp; done) | (simp [tcs]; done))) | (refine nI ?_ ?_; focus (first | decide | (simp; done) | (simp [tcs]; done))) | intro _); conv => whnf)
                refine ⟨_, ⟨by omega, hLr⟩, ?_⟩
                conv => whnf
                refine ⟨Nat.le_refl 1, ?_⟩
                conv => whnf
                repeat ((first | refine aI rfl ?_ | refine aI (by decide) ?_ | refine dI (by kernel_rfl) ?_ | refine aI ⟨by omega, by omega⟩ ?_ | refine aI (by omega) ?_ | refine aI (fun _ => ⟨by omega, by omega⟩) ?_ | refine aI (of_decide_eq_true rfl) ?_ | (refine yI ?_ ?_; focus (first | decide | (simp; done) | (simp [tcs]; done))) | (refine nI ?_ ?_; focus (first | decide | (simp; done) | (simp [tcs]; done))) | intro _); conv => whnf)
                try (refine dI (by kernel_rfl) ?_; conv => whnf)
                first | refine CallSt.use hm [] trivial (by decide) rfl ?_ | refine CallPt.useS hm [] trivial (by decide) rfl ?_
                rintro _ _ ⟨rfl, rfl⟩ _
                conv => whnf
                repeat ((first | refine aI rfl ?_ | refine aI (by decide) ?_ | refine dI (by kernel_rfl) ?_ | refine aI ⟨by omega, by omega⟩ ?_ | refine aI (by omega) ?_ | refine aI (fun _ => ⟨by omega, by omega⟩) ?_ | refine aI (of_decide_eq_true rfl) ?_ | (refine yI ?_ ?_; focus (first | decide | (simp; done) | (simp [tcs]; done))) | (refine nI ?_ ?_; focus (first | decide | (simp; done) | (simp [tcs]; done))) | intro _); conv => whnf)
                exact ⟨m3 - 1, _, _, by omega, ⟨j + 1, by omega, rfl, rfl⟩, Wk.sl [] rfl trivial ⟨rfl, rfl, rfl, rfl, rfl, rfl, rfl, rfl, trivial⟩ rfl⟩
            · replace hlt3 : ¬ (j : Int) < (rowL G).length := of_decide_eq_false hlt3
              conv => whnf
              repeat ((first | refine aI rfl ?_ | refine aI (by decide) ?_ | refine dI (by kernel_rfl) ?_ | refine aI ⟨by omega, by omega⟩ ?_ | refine aI (by omega) ?_ | refine aI (fun _ => ⟨by omega, by omega⟩) ?_ | refine aI (of_decide_eq_true rfl) ?_ | (refine yI ?_ ?_; focus (first | decide | (simp; done) | (simp [tcs]; done))) | (refine nI ?_ ?_; focus (first | decide | (simp; done) | (simp [tcs]; done))) | intro _); conv => whnf)
              try (refine dI (by kernel_rfl) ?_; conv => whnf)
              first | refine CallSt.use haw [] trivial (by decide) rfl ?_ | refine CallPt.useS haw [] trivial (by decide) rfl ?_
              rintro _ _ ⟨rfl, rfl⟩ _
              conv => whnf
              repeat ((first | refine aI rfl ?_ | refine aI (by decide) ?_ | refine dI (by kernel_rfl) ?_ | refine aI ⟨by omega, by omega⟩ ?_ | refine aI (by omega) ?_ | refine aI (fun _ => ⟨by omega, by omega⟩) ?_ | refine aI (of_decide_eq_true rfl) ?_ | (refine yI ?_ ?_; focus (first | decide | (simp; done) | (simp [tcs]; done))) | (refine nI ?_ ?_; focus (first | decide | (simp; done) | (simp [tcs]; done))) | intro _); conv => whnf)
              all_goals (first | rfl | exact ⟨rfl, rfl⟩ | exact ⟨rfl, rfl, rfl⟩ | exact ⟨congrArg (fun z => AV.c (.bool z)) (by simp), rfl⟩)
end
end Go.Tr
/- What is handed in, as terms. -/
namespace Go.Tr
open Go.Proofs
theorem tcs_map : ∀ ts : List Term, tcs ts = ts.map tc
  | [] => rfl
  | t :: r => by rw [tcs, tcs_map r]; rfl
theorem sh_term : ∀ (n : Nat) {xs : List CV}, Sh (lkT tab) n 49 xs → ∃ t, xs = tc t := by
  intro n
  induction n using Nat.strongRecOn with
  | _ n ih =>
  intro xs h
  obtain ⟨m, rfl, a, b, rfl, h0, c, d, rfl, h1, e, f, rfl, h2, g, i, rfl, h3, rfl⟩ := sh_struct (fs := [(0, 3), (1, 3), (2, 3), (3, 43)]) rfl h
  obtain ⟨k, rfl, _⟩ := sh_int (k := .i64) rfl h0
  obtain ⟨l, rfl, _⟩ := sh_int (k := .i64) rfl h1
  obtain ⟨n, rfl, _⟩ := sh_int (k := .i64) rfl h2
  obtain ⟨m2, es, rfl, rfl, _, h4⟩ := sh_slice (e := 49) rfl h3
  obtain ⟨ts, rfl⟩ := map_choose (f := tc) es fun r hr => ih m2 (by omega) (h4 r hr)
  exact ⟨.mk k l n ts, by rw [← tcs_map]; rfl⟩
def argTypes : List TypeId := [3, 43, 49]
theorem own : ownKnob Try.prog.godebug = none := by kernel_rfl
theorem laidOut : laidOutB Try.prog = true := by kernel_rfl
section
variable {H : Type} {enc : TypeId × Value → H} {W : World} {base : Nat} {v : Value} {d : DataW H} {ps : List MemPlace}
end
end Go.Tr
/- What is handed in: declarations. -/
namespace Go.Tr
open Go.Proofs
theorem sh_decl : ∀ (n : Nat) {xs : List CV}, Sh (lkT tab) n 66 xs → ∃ d, xs = dc d := by
  intro n xs h
  obtain ⟨m, rfl, a, b, rfl, h0, c, d, rfl, h1, e, f, rfl, h2, rfl⟩ := sh_struct (fs := [(0, 9), (1, 49), (5, 3)]) rfl h
  obtain ⟨s, rfl, _⟩ := sh_str rfl h0
  obtain ⟨t, rfl⟩ := sh_term m h1
  obtain ⟨i, rfl, _⟩ := sh_int (k := .i64) rfl h2
  obtain ⟨k, l, x, ts⟩ := t
  exact ⟨⟨s, ⟨k, l, x, ts⟩, i⟩, rfl⟩
theorem sh_sig {n : Nat} {xs : List CV} (h : Sh (lkT tab) n 22 xs) : ∃ l : List Dcl, xs = [.sl 6 72 (dcs l)] ∧ l.length * 72 ≤ 140737488351232 := by
  obtain ⟨m2, es, rfl, rfl, h5, h4⟩ := sh_slice (e := 66) rfl h
  obtain ⟨l, rfl⟩ := map_choose (f := dc) es fun r hr => sh_decl m2 (h4 r hr)
  refine ⟨l, rfl, ?_⟩
  rw [List.length_map] at h5
  exact h5
def argTypesD : List TypeId := [3, 9, 43, 49, 66, 22]
theorem arg_okD : argTypesD.all (cl1 (lkT tab) argTypesD) = true := by decide
section
variable {H : Type} {enc : TypeId × Value → H} {W : World} {base : Nat} {v : Value} {d : DataW H} {ps : List MemPlace}
set_option maxRecDepth 100000 in
theorem arg_sig (hval : Value.okWide Try.prog W .any base 22 v) (h : DataW.Trod enc Try.prog W 0 (fun _ => true) true 22 v d ps)
    (hw : ∀ n ∈ d.weights Try.prog 22, n ≤ reachBytes) : ∃ l : List Dcl, AVR W.heap noS (fun _ => .none) (.c (.sl 6 72 (dcs l))) v := by
  obtain ⟨fuel, xs, hs, a⟩ := open_arg (env_ok 0) arg_okD (by decide) hval h hw
  obtain ⟨l, rfl, hl⟩ := sh_sig hs
  exact ⟨l, a⟩
end
end Go.Tr
/- What is handed in: three numbers. -/
namespace Go.Tr
open Go.Proofs
section
variable {H : Type} {enc : TypeId × Value → H} {W : World} {base : Nat} {v : Value} {d : DataW H} {ps : List MemPlace}
theorem arg_three (hval : Value.okWide Try.prog W .any base 38 v) (h : DataW.Trod enc Try.prog W 0 (fun _ => true) true 38 v d ps)
    (hw : ∀ n ∈ d.weights Try.prog 38, n ≤ reachBytes) : ∃ x : Int × Int × Int, AVR W.heap noS (fun _ => .none) (.agg [.c (.int .i64 (x.1)), .c (.int .i64 (x.2.1)), .c (.int .i64 (x.2.2))]) v := by
  have hu : Try.prog.underlying 38 = some (.array 3 3) := by kernel_rfl
  have hi : Try.prog.underlying 3 = some (.int .i64) := by kernel_rfl
  have hc : Try.prog.cellsOf 3 = 1 := by kernel_rfl
  have hc3 : Try.prog.cellsOf 38 = 3 := by kernel_rfl
  unfold Value.okWide at hval
  rw [hu] at hval
  obtain ⟨cs, rfl, _⟩ := hval
  obtain ⟨fuel, hf⟩ := h
  obtain ⟨xs, m, _, _, hl, hn, hel⟩ := DataW.trod_array hu hf
  rw [hc3] at hl
  have e : (Value.agg cs).cells.toList = cs.toList := rfl
  rw [e] at hl hel
  have key : ∀ i, i < 3 → ∃ z : Int, cs.toList[i]? = some (.int .i64 z) := fun i hi3 => by
    have h1 := hel i hi3
    rw [hc, Nat.mul_one, List.getElem?_eq_getElem (by omega)] at h1
    obtain ⟨z, h2, _⟩ := DataW.trod_int hi h1
    refine ⟨z, ?_⟩
    have h3 := congrArg (fun l => l[0]?) h2
    simpa [List.getElem?_take, List.getElem?_drop] using h3
  obtain ⟨a, ha⟩ := key 0 (by omega)
  obtain ⟨b, hb⟩ := key 1 (by omega)
  obtain ⟨c, hc'⟩ := key 2 (by omega)
  have hcs : cs.toList = [.int .i64 a, .int .i64 b, .int .i64 c] := by
    refine List.ext_getElem? fun i => ?_
    match i with
    | 0 => rw [ha]; rfl
    | 1 => rw [hb]; rfl
    | 2 => rw [hc']; rfl
    | i + 3 => rw [List.getElem?_eq_none (by omega)]; rfl
  refine ⟨(a, b, c), ?_⟩
  simp only [AVR]
  refine ⟨cs, rfl, ?_⟩
  rw [hcs]
  simp only [AVRs, AVR, CVR]
  exact ⟨_, _, rfl, rfl, _, _, rfl, rfl, _, _, rfl, rfl, rfl⟩
end
end Go.Tr
