/- What each function computes, and the plain laws of it. -/
import Derived.Test.YtkkbapgekkhlhaaGreatTrX5aa02169
set_option linter.unusedVariables false
set_option linter.unusedSimpArgs false
set_option linter.unnecessarySimpa false
set_option linter.constructorNameAsVariable false
set_option autoImplicit false
/- Signatures: what is formed, told by positions; chosen constants. -/
namespace Go.Tr
open Go.Proofs
def okAt (sig : List Dcl) (n : Nat) (d : Dcl) : Prop :=
 prop d.c = true ∧ nameF d.s = true ∧ 0 ≤ d.i ∧ d.i ≤ (domT d.c).1.length ∧ nodesT n d.c 0 = true ∧ (kindT d.c = true ∨ (targOk d.c = true ∧ kindAt sig (domT d.c).2.n = true))
theorem kindAt_take {sig : List Dcl} {n : Nat} {x : Int} (h0 : 0 ≤ x) (h : x < n) : kindAt (sig.take n) x = kindAt sig x := by
 unfold kindAt
 rw [List.getElem?_take, if_pos (by omega)]
theorem formed_iff {sig : List Dcl} {n : Nat} {d : Dcl} (hd : sig[n]? = some d) : formedF (sig.take n) d = true ↔ okAt sig n d := by
 have hlt := (List.getElem?_eq_some_iff.1 hd).1
 have hlen : (sig.take n).length = n := by rw [List.length_take]; omega
 unfold formedF okAt
 rw [hlen]
 simp only [Bool.and_eq_true, Bool.or_eq_true, decide_eq_true_eq]
 constructor
 ·rintro ⟨⟨⟨⟨h1, h2⟩, h3⟩, h4, h5⟩, h6⟩
  refine ⟨h1, h2, h3, h4, h5, h6.imp id fun h => ⟨h.1, ?_⟩⟩
  rw [← kindAt_take (targ_pos h1 h.1) (nodes_targ h5 h.1)]
  exact h.2
 ·rintro ⟨h1, h2, h3, h4, h5, h6⟩
  refine ⟨⟨⟨⟨h1, h2⟩, h3⟩, h4, h5⟩, h6.imp id fun h => ⟨h.1, ?_⟩⟩
  rw [kindAt_take (targ_pos h1 h.1) (nodes_targ h5 h.1)]
  exact h.2
theorem nameIn_iff (l : List Dcl) (s : ByteArray) : nameIn l s = true ↔ ∃ e ∈ l, e.s = s := by
 unfold nameIn
 rw [List.any_eq_true]
 simp
theorem check_iff (sig : List Dcl) : checkB sig = true ↔ sig.length ≤ 100 ∧ (∀ (i j : Nat) d e, i < j → sig[i]? = some d → sig[j]? = some e → d.s ≠ e.s) ∧ ∀ (n : Nat) d, sig[n]? = some d → okAt sig n d := by
 constructor
 ·intro h
  refine ⟨check_len h, fun i j d e hij hi hj he => ?_, fun n d hd => ?_⟩
  ·have hg := check_good h j (List.getElem?_eq_some_iff.1 hj).1
   rw [good_formed sig hj] at hg
   unfold formedR at hg
   rw [Bool.and_eq_true, Bool.not_eq_true'] at hg
   have : nameIn (sig.take j) e.s = true := (nameIn_iff _ _).2 ⟨d, List.mem_of_getElem? (i := i) (by rw [List.getElem?_take, if_pos hij]; exact hi), he⟩
   rw [this] at hg
   cases hg.1
  ·have hg := check_good h n (List.getElem?_eq_some_iff.1 hd).1
   rw [good_formed sig hd] at hg
   unfold formedR at hg
   rw [Bool.and_eq_true] at hg
   exact (formed_iff hd).1 hg.2
 ·rintro ⟨h1, h2, h3⟩
  unfold checkB
  rw [decide_eq_true h1, Bool.true_and, List.all_eq_true]
  intro n hn
  have hn := List.mem_range.1 hn
  have hd : sig[n]? = some sig[n] := List.getElem?_eq_getElem hn
  rw [good_formed sig hd]
  unfold formedR
  rw [Bool.and_eq_true, Bool.not_eq_true', ← Bool.not_eq_true, nameIn_iff]
  refine ⟨?_, (formed_iff hd).2 (h3 n _ hd)⟩
  rintro ⟨e, he, hs⟩
  obtain ⟨i, hi⟩ := List.mem_iff_getElem?.1 he
  rw [List.getElem?_take] at hi
  split at hi
  ·exact h2 i n e _ (by assumption) hi hd hs
  ·cases hi
theorem pickD_at {sig : List Dcl} {f : Int → Int} {n : Int} {d : Dcl} (h : sig[n.toNat]? = some d) : pickD sig f n = ⟨d.s, rnT f d.c, d.i⟩ := by
 unfold pickD
 rw [h]
 simp only [mapT_rn]
theorem chosen_ok {sig : List Dcl} {l : List Int} {f : Int → Int} (hc : checkB sig = true) (hl : l.length ≤ 100) (hnd : ∀ (i j : Nat) a, i < j → l[i]? = some a → l[j]? = some a → False) (hin : ∀ n ∈ l, 0 ≤ n ∧ n < sig.length)
  (hf : ∀ (j : Nat) n d, l[j]? = some n → sig[n.toNat]? = some d → ∀ x ∈ cnT d.c, 0 ≤ f x ∧ f x < j ∧ l[(f x).toNat]? = some x) : checkB (l.map (pickD sig f)) = true := by
 rw [check_iff] at hc ⊢
 obtain ⟨c1, c2, c3⟩ := hc
 have get : ∀ (j : Nat) e, (l.map (pickD sig f))[j]? = some e → ∃ n d, l[j]? = some n ∧ sig[n.toNat]? = some d ∧ e = ⟨d.s, rnT f d.c, d.i⟩ := fun j e he => by
  rw [List.getElem?_map] at he
  cases hn : l[j]? with
  | none => rw [hn] at he; cases he
  | some n =>
   rw [hn] at he
   have hb := hin n (List.mem_of_getElem? hn)
   have hd : sig[n.toNat]? = some (sig[n.toNat]'(by omega)) := List.getElem?_eq_getElem (by omega)
   simp only [Option.map_some, Option.some.injEq] at he
   exact ⟨n, _, rfl, hd, by rw [← he, pickD_at hd]⟩
 refine ⟨by rw [List.length_map]; exact hl, fun i j d e hij hi hj he => ?_, fun j e he => ?_⟩
 ·obtain ⟨a, d', h1, h2, rfl⟩ := get i d hi
  obtain ⟨b, e', h3, h4, rfl⟩ := get j e hj
  simp only at he
  have hab : a.toNat ≠ b.toNat := fun h => by
   have ha := hin a (List.mem_of_getElem? h1)
   have hb := hin b (List.mem_of_getElem? h3)
   have : a = b := by omega
   subst this
   exact hnd i j a hij h1 h3
  rcases Nat.lt_or_gt_of_ne hab with h | h
  ·exact c2 _ _ _ _ h h2 h4 he
  ·exact c2 _ _ _ _ h h4 h2 he.symm
 ·obtain ⟨n, d, h1, h2, rfl⟩ := get j e he
  have hjl := (List.getElem?_eq_some_iff.1 h1).1
  obtain ⟨o1, o2, o3, o4, o5, o6⟩ := c3 _ _ h2
  have hfx := hf j n d h1 h2
  refine ⟨rn_prop (fun x hx => by have := hfx x hx; omega) o1, o2, o3, ?_, rn_nodes d.c 0 (fun x hx => (hfx x hx).2.1) o5, ?_⟩
  ·simp only
   rw [(rn_dom f _ d.c (Nat.le_refl _)).1]
   exact o4
  ·simp only
   rw [rn_kind, rn_targ]
   refine o6.imp id fun h => ⟨h.1, ?_⟩
   rw [rn_targN f h.1]
   have ht := hfx _ (targ_cn h.1)
   have hx := hin _ (List.mem_of_getElem? ht.2.2)
   have hd : sig[((domT d.c).2.n).toNat]? = some (sig[((domT d.c).2.n).toNat]'(by omega)) := List.getElem?_eq_getElem (by omega)
   have hk := h.2
   unfold kindAt at hk ⊢
   rw [List.getElem?_map, ht.2.2]
   rw [hd] at hk
   simp only [Option.map_some]
   rw [pickD_at hd]
   simp only
   rw [rn_kind]
   exact hk
theorem mput_same {α : Type} (F : KV → Option α) (q : KV) (x : α) : mput F q x q = some x := by unfold mput; rw [if_pos rfl]
theorem mput_other {α : Type} (F : KV → Option α) {q r : KV} (x : α) (h : r ≠ q) : mput F q x r = F r := by unfold mput; rw [if_neg h]
theorem chMap_at {l : List Int} (hnd : ∀ (i j : Nat) a, i < j → l[i]? = some a → l[j]? = some a → False) : ∀ {m j : Nat} {n : Int}, j < m → l[j]? = some n → chMap l m (.i n) = some (j : Int)
 | m + 1, j, n, h, hn => by
  rw [chMap]
  by_cases e : j = m
  ·subst e
   rw [hn]
   simp only
   rw [mput_same]
  ·have ih := chMap_at hnd (show j < m by omega) hn
   cases hm : l[m]? with
   | none => exact ih
   | some b =>
    simp only
    rw [mput_other]
    ·exact ih
    ·intro h2
     injection h2 with h2
     subst h2
     exact hnd j m n (by omega) hn hm
theorem mget_at {l : List Int} (hnd : ∀ (i j : Nat) a, i < j → l[i]? = some a → l[j]? = some a → False) {j : Nat} {n : Int} (hn : l[j]? = some n) : mget (chMap l l.length) n = j := by
 unfold mget
 rw [chMap_at hnd (List.getElem?_eq_some_iff.1 hn).1 hn]
 rfl
theorem pickD_congr {sig : List Dcl} {f g : Int → Int} {n : Int} (h : ∀ d, sig[n.toNat]? = some d → ∀ x ∈ cnT d.c, f x = g x) : pickD sig f n = pickD sig g n := by
 cases hd : sig[n.toNat]? with
 | none => unfold pickD; rw [hd]
 | some d => rw [pickD_at hd, pickD_at hd, rn_congr d.c (h d hd)]
theorem check_cn {sig : List Dcl} (h : checkB sig = true) {n : Nat} {d : Dcl} (hd : sig[n]? = some d) : ∀ x ∈ cnT d.c, 0 ≤ x ∧ x < n := by
 obtain ⟨_, _, c3⟩ := (check_iff sig).1 h
 obtain ⟨o1, _, _, _, o5, _⟩ := c3 n d hd
 exact fun x hx => ⟨(prop_cn o1 x hx).1, nodes_cn d.c 0 o5 x hx⟩
end Go.Tr
/- Closed terms; the judgements in a longer context. -/
namespace Go.Tr
def cloB : Term → Int → Bool := hdOk 1 (fun _ => false)
def Clo (t : Term) (i : Int) : Prop := allT cloB t i = true
def KClo (K : Krn) : Prop := (∀ d ∈ K.sig, Clo d.c 0) ∧ ∀ m ∈ K.ms, Clo m.cl 0
end Go.Tr
/- An object that is put for a variable of its type keeps what is typed. -/
namespace Go.Tr
end Go.Tr
/- Simple types: what is put in simply typed terms is there. -/
namespace Go.Tr
end Go.Tr
/- The kernel never says ErrArg; the beginnings of a signature. -/
namespace Go.Tr
theorem KOk.take6 {sig : List Dcl} (h : checkB sig = true) (j : Nat) : KOk ⟨sig.take j, []⟩ := by
 have h1 := check_prop h
 have h2 := check_len h
 exact ⟨fun e he => h1 e (List.mem_of_mem_take he), fun m hm => (nomatch hm), by simp only [List.length_take]; omega, by simp⟩
end Go.Tr
/- The kernel under other numbers of constants. -/
namespace Go.Tr
mutual
def rnS (f : Int → Int) : Smp → Smp
 | .mk xs c => .mk (rnSL f xs) (f c)
def rnSL (f : Int → Int) : List Smp → List Smp
 | [] => []
 | a :: r => rnS f a :: rnSL f r
end
theorem rnS_xs (f : Int → Int) (s : Smp) : (rnS f s).xs = rnSL f s.xs := by cases s; rw [rnS]; rfl
theorem rnT_mk (f : Int → Int) (k l n : Int) (ts : List Term) (h : ¬ (k = 4 ∧ l = 2)) : rnT f (.mk k l n ts) = .mk k l n (rnL f ts) := by
 rw [rnT]
 have : (decide (k = 4) && decide (l = 2)) = false := by
  by_cases h4 : k = 4
  ·have : ¬ l = 2 := fun e => h ⟨h4, e⟩
   simp [this]
  ·simp [h4]
 rw [this]
theorem rnT_42 (f : Int → Int) (n : Int) (ts : List Term) : rnT f (.mk 4 2 n ts) = .mk 4 2 (f n) (rnL f ts) := by
 rw [rnT]
 rfl
theorem rnT_ts (f : Int → Int) (t : Term) : (rnT f t).ts = rnL f t.ts := by cases t; rw [rnT]; rfl
theorem cnT_mk (k l n : Int) (ts : List Term) {z : Int} (h : z ∈ cnL ts) : z ∈ cnT (.mk k l n ts) := by
 rw [cnT]
 exact List.mem_append.2 (.inr h)
theorem cnT_no {k l n : Int} {ts : List Term} (h : ¬ (k = 4 ∧ l = 2)) : cnT (.mk k l n ts) = cnL ts := by
 rw [cnT]
 have : (decide (k = 4) && decide (l = 2)) = false := by
  by_cases h4 : k = 4
  ·have : ¬ l = 2 := fun e => h ⟨h4, e⟩
   simp [this]
  ·simp [h4]
 rw [this]
 rfl
mutual
theorem rn_sh (f : Int → Int) (b : Int) : ∀ (t : Term) (c : Int), rnT f (sh b c t) = sh b c (rnT f t)
 | .mk k l n ts, c => by
  by_cases h : k = 4 ∧ l = 2
  ·obtain ⟨rfl, rfl⟩ := h
   rw [sh, rnT_42, rnT_42, sh, rnL_sh f b 4 ts 0 c, shv_42 _ _ _ _ _ (by omega), shv_42 _ _ _ _ _ (by omega)]
  ·rw [sh, rnT_mk f k l _ _ h, rnT_mk f k l _ _ h, sh, rnL_sh f b k ts 0 c]
theorem rnL_sh (f : Int → Int) (b k : Int) : ∀ (ts : List Term) (i c : Int), rnL f (shL b k c i ts) = shL b k c i (rnL f ts)
 | [], i, c => by rw [shL, rnL, shL]
 | t :: r, i, c => by rw [shL, rnL, rnL, shL, rn_sh f b t, rnL_sh f b k r]
end
mutual
theorem sh_cn (b : Int) : ∀ (t : Term) (c : Int), cnT (sh b c t) = cnT t
 | .mk k l n ts, c => by
  by_cases h : k = 4 ∧ l = 2
  ·rw [sh, cnT, cnT, shL_cn b k ts 0 c, shv_42 _ _ _ _ _ (by omega)]
  ·rw [sh, cnT_no h, cnT_no h, shL_cn b k ts 0 c]
theorem shL_cn (b k : Int) : ∀ (ts : List Term) (i c : Int), cnL (shL b k c i ts) = cnL ts
 | [], i, c => by rw [shL]
 | t :: r, i, c => by rw [shL, cnL, cnL, sh_cn b t, shL_cn b k r]
end
theorem smp_rn (f : Int → Int) : ∀ (t : Term), smpT (rnT f t) = (smpT t).map (rnS f)
 | .mk k l n [] => by
  by_cases h : k = 4 ∧ l = 2
  ·obtain ⟨rfl, rfl⟩ := h
   rw [rnT_42, smpT_42, smpT_42]
   rfl
  ·rw [rnT_mk f k l n _ h, rnL, smpT_nil, if_neg h]
   rfl
 | .mk k l n [a] => by
  by_cases h : k = 4 ∧ l = 2
  ·obtain ⟨rfl, rfl⟩ := h
   rw [rnT_42, smpT_42, smpT_42]
   rfl
  ·rw [rnT_mk f k l n _ h, rnL, rnL, smpT_one, smpT_one, if_neg h]
   rfl
 | .mk k l n (a :: x :: r) => by
  by_cases h : k = 4 ∧ l = 2
  ·obtain ⟨rfl, rfl⟩ := h
   rw [rnT_42, smpT_42, smpT_42]
   rfl
  ·rw [rnT_mk f k l n _ h, rnL, rnL, smpT_two, smpT_two, if_neg h, if_neg h, smp_rn f a, smp_rn f x]
   split
   ·cases smpT a with
    | none => rfl
    | some p =>
     cases smpT x with
     | none => rfl
     | some q =>
      obtain ⟨q1, q2⟩ := q
      simp only [Option.map, rnS, rnSL, Smp.xs, Smp.c]
   ·rfl
 termination_by t => SizeOf.sizeOf t
 decreasing_by all_goals (simp; omega)
section
variable {f : Int → Int} (hf : ∀ x, 0 ≤ x → x ≤ 9999 → 0 ≤ f x ∧ f x ≤ 9999)
include hf
theorem rn_prop' {t : Term} (hp : prop t = true) : prop (rnT f t) = true :=
 rn_prop (fun x hx => hf x (prop_cn hp x hx).1 (prop_cn hp x hx).2) hp
theorem whole_rn {t u : Term} {s s' : Int} (h : wholeR t s = .ok u s') : wholeR (rnT f t) s = .ok (rnT f u) s' := by
 obtain ⟨h1, rfl, rfl⟩ := wholeR_ok h
 unfold wholeR
 rw [rn_prop' hf h1]
omit hf in
theorem putArgs_rn {F F' : Int → Term → Int → SbR} {x : Term} {k n : Int} (hF : ∀ s t n u s', F s t n = .ok u s' → F' s (rnT f t) n = .ok (rnT f u) s' ∧ ∀ z ∈ cnT u, z ∈ cnT t ∨ z ∈ cnT x) : ∀ {ts : List Term} {i s : Int} {us : List Term} {s' : Int}, putArgs F k n i ts s = .ok us s' → putArgs F' k n i (rnL f ts) s = .ok (rnL f us) s' ∧ ∀ z ∈ cnL us, z ∈ cnL ts ∨ z ∈ cnT x
 | [], i, s, us, s', h => by
  rw [putArgs] at h
  cases h
  rw [rnL, putArgs]
  exact ⟨rfl, fun z hz => .inl hz⟩
 | t :: r, i, s, us, s', h => by
  rw [putArgs] at h
  split at h
  ·cases h
  ·rename_i u s1 hu
   split at h
   ·cases h
   ·rename_i us2 s2 hus
    cases h
    obtain ⟨h1, h2⟩ := hF _ _ _ _ _ hu
    obtain ⟨h3, h4⟩ := putArgs_rn hF hus
    rw [rnL, putArgs, h1]
    simp only
    rw [h3]
    refine ⟨by rw [rnL], fun z hz => ?_⟩
    rw [cnL] at hz ⊢
    rcases List.mem_append.1 hz with hz | hz
    ·exact (h2 z hz).imp (fun h => List.mem_append.2 (.inl h)) id
    ·exact (h4 z hz).imp (fun h => List.mem_append.2 (.inr h)) id
theorem appR_rn {F F' : Int → Term → Term → Smp → SbR} (hF : ∀ s b y m u s', F s b y m = .ok u s' → F' s (rnT f b) (rnT f y) (rnS f m) = .ok (rnT f u) s' ∧ ∀ z ∈ cnT u, z ∈ cnT b ∨ z ∈ cnT y) : ∀ {ys : List Term} {g : Term} {S : List Smp} {s : Int} {u : Term} {s' : Int}, appR F g ys S s = .ok u s' → appR F' (rnT f g) (rnL f ys) (rnSL f S) s = .ok (rnT f u) s' ∧ ∀ z ∈ cnT u, z ∈ cnT g ∨ z ∈ cnL ys
 | [], g, S, s, u, s', h => by
  rw [appR] at h
  rw [rnL, appR]
  obtain ⟨_, h1, _⟩ := wholeR_ok h
  exact ⟨whole_rn hf h, fun z hz => .inl (by rw [← h1]; exact hz)⟩
 | y :: ys, g, S, s, u, s', h => by
  rw [appR_cons] at h
  split at h
  ·rename_i b r m S' hk hts
   split at h
   ·cases h
   ·rename_i v s1 hv
    obtain ⟨h1, h2⟩ := hF _ _ _ _ _ _ hv
    obtain ⟨h3, h4⟩ := appR_rn hF h
    rw [rnL, appR_cons, rnT_k, hk, rnT_ts, hts, rnL, rnSL]
    simp only
    rw [h1]
    refine ⟨h3, fun z hz => ?_⟩
    rw [cnL]
    rcases h4 z hz with hz | hz
    ·rcases h2 z hz with hz | hz
     ·left
      obtain ⟨k, l, n, ts⟩ := g
      replace hts : ts = b :: r := hts
      subst hts
      exact cnT_mk k l n _ (by rw [cnL]; exact List.mem_append.2 (.inl hz))
     ·exact .inr (List.mem_append.2 (.inl hz))
    ·exact .inr (List.mem_append.2 (.inr hz))
  ·cases h
theorem put_rn : ∀ (g : Nat) {s : Int} {t : Term} {n : Int} {x : Term} {sm : Smp} {u : Term} {s' : Int}, putT g s t n x sm = .ok u s' → putT g s (rnT f t) n (rnT f x) (rnS f sm) = .ok (rnT f u) s' ∧ ∀ z ∈ cnT u, z ∈ cnT t ∨ z ∈ cnT x
 | 0, s, t, n, x, sm, u, s', h => by
  rw [putT] at h
  cases h
 | g + 1, s, .mk k l m ts, n, x, sm, u, s', h => by
  rw [putT] at h
  split at h
  ·cases h
  ·rename_i hs
   split at h
   ·cases h
   ·rename_i us s1 hus
    obtain ⟨h1, h2⟩ := putArgs_rn (f := f) (F' := fun s u n => putT g s u n (rnT f x) (rnS f sm)) (x := x) (fun s t n u s' h => put_rn g h) hus
    have hlift : ∀ z ∈ cnL us, z ∈ cnT (.mk k l m ts) ∨ z ∈ cnT x := fun z hz => (h2 z hz).imp (cnT_mk k l m ts) id
    by_cases h42 : k = 4 ∧ l = 2
    ·obtain ⟨rfl, rfl⟩ := h42
     rw [rnT_42, putT, hs]
     simp only
     rw [h1]
     simp only at h ⊢
     have hw : wholeR (.mk 4 2 m us) s1 = .ok u s' := h
     have := whole_rn hf hw
     rw [rnT_42] at this
     refine ⟨this, fun z hz => ?_⟩
     obtain ⟨_, hu, _⟩ := wholeR_ok hw
     rw [hu, cnT] at hz
     rcases List.mem_append.1 hz with hz | hz
     ·left
      rw [cnT]
      exact List.mem_append.2 (.inl hz)
     ·exact hlift z hz
    ·rw [rnT_mk f k l m ts h42, putT, hs]
     simp only
     rw [h1]
     simp only at h ⊢
     split at h
     ·rename_i hc
      try rw [hc]
      have := whole_rn hf h
      rw [rnT_mk f k l m us h42] at this
      refine ⟨this, fun z hz => ?_⟩
      obtain ⟨_, hu, _⟩ := wholeR_ok h
      rw [hu, cnT_no h42] at hz
      exact hlift z hz
     ·rename_i hc
      try rw [hc]
      try simp only
      split at h
      ·rename_i hd
       try rw [hd]
       have := whole_rn hf h
       rw [rnT_mk f k l (m - 1) us h42] at this
       refine ⟨this, fun z hz => ?_⟩
       obtain ⟨_, hu, _⟩ := wholeR_ok h
       rw [hu, cnT_no h42] at hz
       exact hlift z hz
      ·rename_i hd
       try rw [hd]
       try simp only
       split at h
       ·cases h
       ·rename_i hp
        have e : raisedT (rnT f x) n = rnT f (raisedT x n) := by rw [raised_sh, raised_sh, rn_sh]
        rw [e, rn_prop' hf hp]
        simp only
        rw [rnS_xs]
        obtain ⟨h3, h4⟩ := appR_rn hf (F' := fun s b y sm => putT g s b 0 y sm) (fun s b y m u s' h => put_rn g h) h
        refine ⟨h3, fun z hz => ?_⟩
        rcases h4 z hz with hz | hz
        ·rw [raised_sh, sh_cn] at hz
         exact .inr hz
        ·exact hlift z hz
end
end Go.Tr
/- What the kernel accepts, it accepts under other numbers of constants. -/
namespace Go.Tr
set_option linter.unusedSectionVars false
def cnP (P : Int → Prop) (t : Term) : Prop := ∀ z ∈ cnT t, P z
def RnK (f : Int → Int) (P : Int → Prop) (K K' : Krn) : Prop := (∀ x d, P x → 0 ≤ x → K.sig[x.toNat]? = some d → ∃ d', K'.sig[(f x).toNat]? = some d' ∧ d'.c = rnT f d.c ∧ cnP P d.c) ∧ K.ms = []
section
variable {f : Int → Int} (hf : ∀ x, 0 ≤ x → x ≤ 9999 → 0 ≤ f x ∧ f x ≤ 9999) {P : Int → Prop} {K K' : Krn}
include hf
theorem inst_rn {A B m : Term} (hc : prop (.mk 2 0 0 [A, B]) = true) (hm : prop m = true) (h : (instR (.mk 2 0 0 [A, B]) [m]).2 = 0) (hP : cnP P (.mk 2 0 0 [A, B])) (hPm : cnP P m) :
  instR (.mk 2 0 0 [rnT f A, rnT f B]) [rnT f m] = (rnT f (instR (.mk 2 0 0 [A, B]) [m]).1, 0) ∧ cnP P (instR (.mk 2 0 0 [A, B]) [m]).1 := by
 have e : rnT f (.mk 2 0 0 [A, B]) = .mk 2 0 0 [rnT f A, rnT f B] := by rw [rnT_mk f 2 0 0 _ (by decide), rnL, rnL, rnL]
 have hc' := rn_prop' hf hc
 have hm' := rn_prop' hf hm
 rw [e] at hc'
 unfold instR at h ⊢
 rw [hc] at h
 rw [hc', hc]
 simp only [List.all_cons, hm, hm', List.all_nil, List.length_cons, List.length_nil, Bool.true_and, Bool.and_true, show decide ((0 + 1 : Nat) ≤ 600) = true from rfl, instL] at h ⊢
 unfold stepR at h ⊢
 simp only [Term.k, Term.ts, decide_true] at h ⊢
 rw [smp_rn]
 cases hA : smpT A with
 | none => rw [hA] at h; simp at h
 | some sm =>
  rw [hA] at h
  simp only [Option.map] at h ⊢
  cases hp : putT 20001 0 B 0 m sm with
  | er e =>
   rw [hp] at h
   exact absurd h (putT_er _ hp)
  | ok u s1 =>
   obtain ⟨h1, h2⟩ := put_rn hf _ hp
   rw [h1]
   refine ⟨rfl, fun z hz => ?_⟩
   rcases h2 z hz with hz | hz
   ·exact hP z (cnT_mk 2 0 0 _ (by rw [cnL, cnL]; exact List.mem_append.2 (.inr (List.mem_append.2 (.inl hz)))))
   ·exact hPm z hz
theorem cls_rn (hK : RnK f P K K') (hKO : KOk K) {cx : List Term} (hc : COk cx) (hP : ∀ t ∈ cx, cnP P t) {l n : Int} (h0 : 0 ≤ n) (h1 : n ≤ 9999) (hn : l = 2 → P n) (h : (clsF K cx l n).2 = 0) :
  clsF K' (cx.map (rnT f)) l (if l = 2 then f n else n) = (rnT f (clsF K cx l n).1, 0) ∧ cnP P (clsF K cx l n).1 := by
 unfold clsF at h ⊢
 by_cases hl : l = 1
 ·rw [if_pos hl] at h
  rw [if_pos hl, if_pos hl, if_neg (by omega), List.length_map, List.getElem?_map]
  cases ht : cx[cx.length - 1 - n.toNat]? with
  | none => rw [ht] at h; cases h
  | some t =>
   rw [ht] at h
   simp only [Option.map] at h ⊢
   by_cases hlt : n < cx.length
   ·rw [if_pos hlt] at h
    rw [if_pos hlt, if_pos hlt]
    have hp := hc.1 t (List.mem_of_getElem? ht)
    have hcl := hc.2
    rw [shift_up t hp (n + 1) (by omega)] at h ⊢
    rw [shift_up (rnT f t) (rn_prop' hf hp) (n + 1) (by omega)]
    have e : raisedT (rnT f t) (n + 1) = rnT f (raisedT t (n + 1)) := by rw [raised_sh, raised_sh, rn_sh]
    cases hr : prop (raisedT t (n + 1)) with
    | true =>
     rw [e, rn_prop' hf hr]
     refine ⟨rfl, fun z hz => ?_⟩
     simp only at hz
     rw [raised_sh, sh_cn] at hz
     exact hP t (List.mem_of_getElem? ht) z hz
    | false => rw [hr] at h; cases h
   ·rw [if_neg hlt] at h
    cases h
 ·rw [if_neg hl] at h
  rw [if_neg hl, if_neg hl]
  by_cases hl2 : l = 2
  ·rw [if_pos hl2] at h
   rw [if_pos hl2, if_pos hl2, if_pos hl2]
   cases hd : K.sig[n.toNat]? with
   | none => rw [hd] at h; cases h
   | some d =>
    rw [hd] at h
    simp only at h ⊢
    obtain ⟨d', h2, h3, h4⟩ := hK.1 n d (hn hl2) h0 hd
    rw [h2]
    simp only
    rw [h3, rn_kind]
    by_cases hk : kindT d.c = true
    ·rw [if_pos hk] at h
     cases h
    ·rw [if_neg hk, if_neg hk]
     exact ⟨rfl, h4⟩
  ·rw [if_neg hl2, hK.2] at h
   simp at h
theorem cnP_mk {k l n : Int} {ts : List Term} (h : cnP P (.mk k l n ts)) : ∀ t ∈ ts, cnP P t := by
 intro t ht z hz
 refine h z (cnT_mk k l n ts ?_)
 clear h
 induction ts with
 | nil => cases ht
 | cons a r ih =>
  rw [cnL]
  rcases List.mem_cons.1 ht with rfl | ht
  ·exact List.mem_append.2 (.inl hz)
  ·exact List.mem_append.2 (.inr (ih ht))
theorem rest_z {p : Term × Int} (h : (restF p).2 = 0) : p.2 = 0 ∧ p.1.k ≠ 2 ∧ restF p = p := by
 unfold restF at h ⊢
 by_cases h1 : p.2 ≠ 0
 ·rw [if_pos h1] at h
  exact absurd h h1
 ·rw [if_neg h1] at h ⊢
  by_cases h2 : p.1.k = 2
  ·rw [if_pos h2] at h
   cases h
  ·rw [if_neg h2]
   exact ⟨by omega, h2, Prod.ext rfl (show 0 = p.2 by omega)⟩
theorem app_z {c : Term × Int} {g : Term → Term × Int} (h : (appF c g).2 = 0) : c.2 = 0 ∧ (g c.1).2 = 0 ∧ (g c.1).1.k ≠ 2 ∧ appF c g = g c.1 := by
 unfold appF at h ⊢
 by_cases h1 : c.2 ≠ 0
 ·rw [if_pos h1] at h
  exact absurd h h1
 ·rw [if_neg h1] at h ⊢
  obtain ⟨h2, h3, h4⟩ := rest_z hf h
  exact ⟨by omega, h2, h3, h4⟩
theorem eq_z {a : Term} {p : Term × Int} (h : eqF a p = 0) : p.2 = 0 ∧ a = p.1 := by
 unfold eqF at h
 by_cases h1 : p.2 ≠ 0
 ·rw [if_pos h1] at h
  exact absurd h h1
 ·rw [if_neg h1] at h
  by_cases h2 : sameT a p.1 = true
  ·exact ⟨by omega, (sameT_iff _ _).1 h2⟩
  ·rw [if_neg h2] at h
   cases h
mutual
theorem obj_rn (hK : RnK f P K K') (hKO : KOk K) : ∀ (m : Term) (cx : List Term) (a : Term), COk cx → (∀ t ∈ cx, cnP P t) → prop m = true → prop a = true → cnP P m → cnP P a → objF K m cx a = 0 → objF K' (rnT f m) (cx.map (rnT f)) (rnT f a) = 0
 | .mk k l n ts, cx, a, hc, hPc, hm, ha, hPm, hPa, h => by
  rw [objF] at h
  by_cases ha2 : a.k = 2
  ·rw [if_pos ha2] at h
   split at h
   ·cases h
   ·split at h
    ·rename_i hk3
     subst hk3
     obtain ⟨b, rfl, rfl, rfl, hb⟩ := prop_lam6 hm
     obtain ⟨k2, l2, n2, us⟩ := a
     replace ha2 : k2 = 2 := ha2
     subst ha2
     obtain ⟨A, B, rfl, rfl, rfl, hA, hB⟩ := prop_pi6 ha
     split at h
     ·cases h
     ·rename_i h30
      simp only [Term.ts, objH] at h
      have ih := obj_rn hK hKO b (cx ++ [A]) B (hc.snoc hA h30) (fun t ht => by
       rcases List.mem_append.1 ht with ht | ht
       ·exact hPc t ht
       ·rw [List.mem_singleton.1 ht]; exact cnP_mk hf hPa A (by simp)) hb hB (cnP_mk hf hPm b (by simp)) (cnP_mk hf hPa B (by simp)) h
      rw [rnT_mk f 3 0 0 _ (by decide), rnT_mk f 2 0 0 _ (by decide), rnL, rnL, rnL, rnL, rnL, objF_pi, List.length_map, if_neg h30]
      rw [List.map_append] at ih
      exact ih
    ·cases h
  ·rw [if_neg ha2] at h
   by_cases ha4 : a.k = 4
   ·rw [if_pos ha4] at h
    split at h
    ·cases h
    ·split at h
     ·rename_i hk4
      subst hk4
      obtain ⟨h1, h2, h3, h4, h5⟩ := prop_app hm
      obtain ⟨hp, hq⟩ := eq_z hf h
      obtain ⟨hc0, hf0, hk2, he⟩ := app_z hf hp
      rw [he] at hq
      have hcl := cls_rn hf hK hKO hc hPc (l := l) h3 h4 (fun e => hPm n (by rw [e, cnT]; simp)) hc0
      have hft := fit_rn hK hKO ts cx _ hc hPc h5 (clsF_prop hKO hc h3 h4 hc0) (cnP_mk hf hPm) hcl.2 hf0
      have hobj : objF K' (.mk 4 l (if l = 2 then f n else n) (rnL f ts)) (cx.map (rnT f)) (rnT f a) = 0 := by
       rw [objF_app K' _ _ _ (by rw [rnT_k]; exact ha4) rfl, infF_app, hcl.1, appF_ok, hft.1, restF_ok (by rw [rnT_k]; exact hk2), ← hq]
       unfold eqF
       rw [if_neg nz0, if_pos ((sameT_iff _ _).2 rfl)]
      by_cases hl2 : l = 2
      ·subst hl2
       rw [rnT_42]
       rw [if_pos rfl] at hobj
       exact hobj
      ·rw [rnT_mk f 4 l n ts (by omega)]
       rw [if_neg hl2] at hobj
       exact hobj
     ·cases h
   ·rw [if_neg ha4] at h
    cases h
theorem fit_rn (hK : RnK f P K K') (hKO : KOk K) : ∀ (ts cx : List Term) (c : Term), COk cx → (∀ t ∈ cx, cnP P t) → (∀ t ∈ ts, prop t = true) → prop c = true → (∀ t ∈ ts, cnP P t) → cnP P c → (fitF K ts cx c).2 = 0 → fitF K' (rnL f ts) (cx.map (rnT f)) (rnT f c) = (rnT f (fitF K ts cx c).1, 0) ∧ cnP P (fitF K ts cx c).1
 | [], cx, c, hc, hPc, hts, hcl, hPt, hP, h => by rw [rnL, fitF, fitF]; exact ⟨rfl, hP⟩
 | m :: r, cx, c, hc, hPc, hts, hcl, hPt, hP, h => by
  by_cases hk : c.k = 2
  ·obtain ⟨k2, l2, n2, us⟩ := c
   replace hk : k2 = 2 := hk
   subst hk
   obtain ⟨A, B, rfl, rfl, rfl, hA, hB⟩ := prop_pi6 hcl
   rw [fitF_cons] at h ⊢
   by_cases he : objF K m cx A ≠ 0
   ·rw [if_pos he] at h
    exact absurd h he
   ·rw [if_neg he] at h ⊢
    by_cases he2 : (instR (.mk 2 0 0 [A, B]) [m]).2 ≠ 0
    ·rw [if_pos he2] at h
     exact absurd h he2
    ·rw [if_neg he2] at h ⊢
     have hm := hts m (List.mem_cons_self ..)
     have hPm := hPt m (List.mem_cons_self ..)
     have ih := obj_rn hK hKO m cx A hc hPc hm hA hPm (cnP_mk hf hP A (by simp)) (by omega)
     obtain ⟨h1, h2⟩ := inst_rn hf hcl hm (by omega) hP hPm
     rw [rnL, rnT_mk f 2 0 0 _ (by decide), rnL, rnL, rnL, fitF_cons, if_neg (by omega), h1, if_neg nz0]
     exact fit_rn hK hKO r cx _ hc hPc (fun t ht => hts t (List.mem_cons_of_mem _ ht)) (instR_prop (by omega)) (fun t ht => hPt t (List.mem_cons_of_mem _ ht)) h2 h
  ·rw [fitF_no K m r cx hk] at h
   cases h
end
theorem typ_rn (hK : RnK f P K K') (hKO : KOk K) : ∀ (a : Term) (cx : List Term), COk cx → (∀ t ∈ cx, cnP P t) → prop a = true → cnP P a → typF K a cx = 0 → typF K' (rnT f a) (cx.map (rnT f)) = 0
 | .mk k l n ts, cx, hc, hPc, ha, hPa, h => by
  by_cases hk : k = 2
  ·subst hk
   obtain ⟨A, B, rfl, rfl, rfl, hA, hB⟩ := prop_pi6 ha
   rw [typF_pi] at h
   by_cases he : typF K A cx ≠ 0
   ·rw [if_pos he] at h
    exact absurd h he
   ·rw [if_neg he] at h
    by_cases h30 : 30 ≤ cx.length
    ·rw [if_pos h30] at h
     cases h
    ·rw [if_neg h30] at h
     have h1 := typ_rn hK hKO A cx hc hPc hA (cnP_mk hf hPa A (by simp)) (by omega)
     have h2 := typ_rn hK hKO B (cx ++ [A]) (hc.snoc hA h30) (fun t ht => by
       rcases List.mem_append.1 ht with ht | ht
       ·exact hPc t ht
       ·rw [List.mem_singleton.1 ht]; exact cnP_mk hf hPa A (by simp)) hB (cnP_mk hf hPa B (by simp)) h
     rw [rnT_mk f 2 0 0 _ (by decide), rnL, rnL, rnL, typF_pi, if_neg (by omega), List.length_map, if_neg h30]
     rw [List.map_append] at h2
     exact h2
  ·rw [typF.eq_def] at h
   simp only at h
   rw [if_neg hk] at h
   split at h
   ·rename_i h4
    obtain ⟨rfl, rfl⟩ := h4
    obtain ⟨h1, h2, h3, h4, h5⟩ := prop_app ha
    rw [rnT_42, typF.eq_def]
    simp only
    rw [if_neg (by decide), if_pos ⟨trivial, trivial⟩]
    unfold famF at h ⊢
    cases hd : K.sig[n.toNat]? with
    | none => rw [hd] at h; cases h
    | some d =>
     rw [hd] at h
     obtain ⟨d', h6, h7, h8⟩ := hK.1 n d (hPa n (by rw [cnT]; simp)) h3 hd
     rw [h6]
     simp only at h ⊢
     rw [h7, rn_kind]
     by_cases hkd : kindT d.c = true
     ·rw [if_pos hkd] at h ⊢
      by_cases he : (fitF K ts cx d.c).2 ≠ 0
      ·rw [if_pos he] at h
       exact absurd h he
      ·rw [if_neg he] at h
       have hft := fit_rn hf hK hKO ts cx d.c hc hPc h5 (hKO.1 d (List.mem_of_getElem? hd)) (cnP_mk hf hPa) h8 (by omega)
       rw [hft.1, if_neg nz0]
       split at h
       ·rename_i h9
        rw [if_pos (by rw [rnT_k]; exact h9)]
       ·cases h
     ·rw [if_neg hkd] at h
      cases h
   ·cases h
theorem knd_rn (hK : RnK f P K K') (hKO : KOk K) : ∀ (a : Term) (cx : List Term), COk cx → (∀ t ∈ cx, cnP P t) → prop a = true → cnP P a → kndF K a cx = 0 → kndF K' (rnT f a) (cx.map (rnT f)) = 0
 | .mk k l n ts, cx, hc, hPc, ha, hPa, h => by
  by_cases hk : k = 2
  ·subst hk
   obtain ⟨A, B, rfl, rfl, rfl, hA, hB⟩ := prop_pi6 ha
   rw [kndF_pi] at h
   by_cases he : typF K A cx ≠ 0
   ·rw [if_pos he] at h
    exact absurd h he
   ·rw [if_neg he] at h
    by_cases h30 : 30 ≤ cx.length
    ·rw [if_pos h30] at h
     cases h
    ·rw [if_neg h30] at h
     have h1 := typ_rn hf hK hKO A cx hc hPc hA (cnP_mk hf hPa A (by simp)) (by omega)
     have h2 := knd_rn hK hKO B (cx ++ [A]) (hc.snoc hA h30) (fun t ht => by
       rcases List.mem_append.1 ht with ht | ht
       ·exact hPc t ht
       ·rw [List.mem_singleton.1 ht]; exact cnP_mk hf hPa A (by simp)) hB (cnP_mk hf hPa B (by simp)) h
     rw [rnT_mk f 2 0 0 _ (by decide), rnL, rnL, rnL, kndF_pi, if_neg (by omega), List.length_map, if_neg h30]
     rw [List.map_append] at h2
     exact h2
  ·rw [kndF.eq_def] at h
   simp only at h
   by_cases hk1 : k = 1
   ·subst hk1
    rw [rnT_mk f 1 l n ts (by omega), kndF.eq_def]
    rfl
   ·rw [if_neg hk1, if_neg hk] at h
    cases h
theorem cla_rn (hK : RnK f P K K') (hKO : KOk K) {c : Term} (hc : prop c = true) (hP : cnP P c) (h : claF K c = 0) : claF K' (rnT f c) = 0 := by
 unfold claF at h ⊢
 rw [rn_kind]
 have hn : COk [] := ⟨fun t ht => (nomatch ht), Nat.zero_le 30⟩
 split
 ·rename_i h1
  rw [if_pos h1] at h
  exact knd_rn hf hK hKO c [] hn (fun t ht => (nomatch ht)) hc hP h
 ·rename_i h1
  rw [if_neg h1] at h
  exact typ_rn hf hK hKO c [] hn (fun t ht => (nomatch ht)) hc hP h
end
end Go.Tr
/- Swap, Without and Rename of formed signatures: the plain laws. -/
namespace Go.Tr
open Go.Proofs
def swF (n : Nat) (x : Int) : Int := if x = n then n + 1 else if x = n + 1 then n else x
theorem swF_swF (n : Nat) (x : Int) : swF n (swF n x) = x := by
 unfold swF
 by_cases h1 : x = n
 ·subst h1
  rw [if_pos rfl, if_neg (by omega), if_pos rfl]
 ·by_cases h2 : x = n + 1
  ·subst h2
   rw [if_neg h1, if_pos rfl, if_pos rfl]
  ·rw [if_neg h1, if_neg h2, if_neg h1, if_neg h2]
theorem swF_in {n len : Nat} (h : n + 1 < len) {x : Int} (hx : 0 ≤ x ∧ x < len) : 0 ≤ swF n x ∧ swF n x < len := by
 unfold swF
 split
 ·omega
 ·split <;> omega
theorem swL_at {len n : Nat} (h : n + 1 < len) {k : Nat} (hk : k < len) : (swL len n)[k]? = some (swF n k) := by
 unfold swL swF
 by_cases h1 : k = n
 ·subst h1
  rw [List.getElem?_set_ne (by omega), List.getElem?_set_self (by rw [nums_len]; omega), if_pos rfl]
 ·by_cases h2 : k = n + 1
  ·subst h2
   rw [List.getElem?_set_self (by rw [List.length_set, nums_len]; omega), if_neg (by omega), if_pos (by omega)]
  ·rw [List.getElem?_set_ne (by omega), List.getElem?_set_ne (by omega), nums_at hk, if_neg (by omega), if_neg (by omega)]
theorem swL_nd {len n : Nat} (h : n + 1 < len) : ∀ (i j : Nat) a, i < j → (swL len n)[i]? = some a → (swL len n)[j]? = some a → False := by
 intro i j a hij hi hj
 have hi' := (List.getElem?_eq_some_iff.1 hi).1
 have hj' := (List.getElem?_eq_some_iff.1 hj).1
 rw [swL_len] at hi' hj'
 rw [swL_at h hi'] at hi
 rw [swL_at h hj'] at hj
 injection hi with hi
 injection hj with hj
 have h1 := congrArg (swF n) (hi.trans hj.symm)
 rw [swF_swF, swF_swF] at h1
 omega
theorem swG_at {len n : Nat} (h : n + 1 < len) {x : Int} (hx : 0 ≤ x ∧ x < len) : mget (chMap (swL len n) (swL len n).length) x = swF n x := by
 have hs := swF_in h hx
 have h1 : (swL len n)[(swF n x).toNat]? = some x := by
  rw [swL_at h (by omega), show (((swF n x).toNat : Nat) : Int) = swF n x by omega, swF_swF]
 have := mget_at (swL_nd h) h1
 omega
theorem pick_all {sig : List Dcl} (hc : checkB sig = true) {l : List Int} {f g : Int → Int} (h : ∀ x : Int, 0 ≤ x ∧ x < sig.length → f x = g x) : l.map (pickD sig f) = l.map (pickD sig g) := by
 refine List.map_congr_left fun n _ => pickD_congr fun d hd x hx => h x ?_
 have := check_cn hc hd x hx
 have := (List.getElem?_eq_some_iff.1 hd).1
 omega
theorem swap_eq {sig : List Dcl} (hc : checkB sig = true) {n : Nat} (h : n + 1 < sig.length) : chosenF sig (swL sig.length n) = (swL sig.length n).map (pickD sig (swF n)) := by
 unfold chosenF
 exact pick_all hc fun x hx => swG_at h hx
def swX (sig : List Dcl) (n : Nat) : List Dcl := (swL sig.length n).map (pickD sig (swF n))
theorem swX_len (sig : List Dcl) (n : Nat) : (swX sig n).length = sig.length := by unfold swX; rw [List.length_map, swL_len]
theorem swX_at {sig : List Dcl} {n : Nat} (h : n + 1 < sig.length) {k : Nat} (hk : k < sig.length) : ∃ d, sig[(swF n k).toNat]? = some d ∧ (swX sig n)[k]? = some ⟨d.s, rnT (swF n) d.c, d.i⟩ := by
 have hs := swF_in h (x := (k : Int)) ⟨by omega, by omega⟩
 have hd : sig[(swF n k).toNat]? = some (sig[(swF n k).toNat]'(by omega)) := List.getElem?_eq_getElem (by omega)
 refine ⟨_, hd, ?_⟩
 unfold swX
 rw [List.getElem?_map, swL_at h hk]
 simp only [Option.map_some]
 rw [pickD_at hd]
theorem swX_ok {sig : List Dcl} (hc : checkB sig = true) {n : Nat} (h : n + 1 < sig.length) (hu : ∀ d, sig[n + 1]? = some d → usesT n d.c = false) : checkB (swX sig n) = true := by
 refine chosen_ok hc (by rw [swL_len]; exact check_len hc) (swL_nd h) (swL_mem h) fun j m d hj hd x hx => ?_
 have hjl := (List.getElem?_eq_some_iff.1 hj).1
 rw [swL_len] at hjl
 rw [swL_at h hjl] at hj
 injection hj with hj
 subst hj
 have hb := check_cn hc hd x hx
 have hxn : swF n j = n + 1 → x ≠ n := fun e hxe => by
  subst hxe
  rw [e] at hd
  have := hu d (by rwa [show ((n : Int) + 1).toNat = n + 1 by omega] at hd)
  rw [← Bool.not_eq_true, uses_cn] at this
  exact this hx
 have hlt : swF n x < j := by
  by_cases j1 : j = n
  ·subst j1
   have e : swF j (j : Int) = j + 1 := by unfold swF; rw [if_pos rfl]
   have := hxn e
   rw [e] at hb
   have e2 : swF j x = x := by unfold swF; rw [if_neg (by omega), if_neg (by omega)]
   omega
  ·by_cases j2 : j = n + 1
   ·subst j2
    have e : swF n ((n + 1 : Nat) : Int) = n := by unfold swF; rw [if_neg (by omega), if_pos (by omega)]
    rw [e] at hb
    have e2 : swF n x = x := by unfold swF; rw [if_neg (by omega), if_neg (by omega)]
    omega
   ·have e : swF n (j : Int) = j := by unfold swF; rw [if_neg (by omega), if_neg (by omega)]
    rw [e] at hb
    unfold swF
    split
    ·omega
    ·split <;> omega
 have hs := swF_in h (x := x) ⟨hb.1, by have := (List.getElem?_eq_some_iff.1 hd).1; omega⟩
 refine ⟨hs.1, hlt, ?_⟩
 rw [swL_at h (by omega), show (((swF n x).toNat : Nat) : Int) = swF n x by omega, swF_swF]
end Go.Tr
/- awake. -/
namespace Go.Tr
open Go.Proofs
end Go.Tr
/- The laws SignLooks, SignLevels, SignAdds. -/
namespace Go.Tr
open Go.Proofs
end Go.Tr
/- The laws SignSwapped, SignUndone. -/
namespace Go.Tr
open Go.Proofs
theorem swap_of {sig : List Dcl} (hc : checkB sig = true) {q : Nat} (h : q + 1 < sig.length) (hu : ∀ d, sig[q + 1]? = some d → usesT q d.c = false) : swapE sig q = 0 ∧ swapF sig q = swX sig q := by
 have hh : hasE sig (q : Int) = 0 := by
  unfold hasE
  rw [hc]
  simp only
  rw [decide_eq_false (by omega), decide_eq_false (by omega)]
  rfl
 have hd : sig[q + 1]? = some (sig[q + 1]'h) := List.getElem?_eq_getElem h
 have hE : swapE sig q = 0 := by
  unfold swapE
  rw [hh, Int.toNat_natCast, hd, decide_eq_false (show ¬ ((sig.length : Int) ≤ (q : Int) + 1) by omega)]
  simp only [decide_true]
  rw [hu _ hd]
 refine ⟨hE, ?_⟩
 unfold swapF
 rw [hE]
 simp only [decide_true]
 rw [Int.toNat_natCast, swap_eq hc h]
 rfl
theorem swap_cases (sig : List Dcl) (n : Int) : ((swapE sig n = 2 ∨ swapE sig n = 6 ∨ swapE sig n = 27) ∧ swapF sig n = []) ∨
  ∃ q : Nat, n = q ∧ checkB sig = true ∧ q + 1 < sig.length ∧ (∀ d, sig[q + 1]? = some d → usesT q d.c = false) ∧ swapE sig n = 0 ∧ swapF sig n = swX sig q := by
 rcases hasE_cases sig n with ⟨he, _⟩ | ⟨he, _⟩ | ⟨he, hc, hn⟩
 ·exact .inl ⟨.inl (by simp [swapE, he]), by simp [swapF, swapE, he]⟩
 ·exact .inl ⟨.inr (.inl (by simp [swapE, he])), by simp [swapF, swapE, he]⟩
 ·obtain ⟨q, d, rfl, hq, hd⟩ := get_nat hn
  by_cases hq1 : q + 1 < sig.length
  ·have hd1 : sig[q + 1]? = some (sig[q + 1]'hq1) := List.getElem?_eq_getElem hq1
   cases hu : usesT q (sig[q + 1]'hq1).c with
   | true =>
    have hE : swapE sig q = 27 := by
     unfold swapE
     rw [he, Int.toNat_natCast, hd1, decide_eq_false (show ¬ ((sig.length : Int) ≤ (q : Int) + 1) by omega)]
     simp only [decide_true]
     rw [hu]
    exact .inl ⟨.inr (.inr hE), by simp [swapF, hE]⟩
   | false =>
    have hu2 : ∀ d, sig[q + 1]? = some d → usesT q d.c = false := fun d hd2 => by
     rw [hd1] at hd2
     injection hd2 with hd2
     subst hd2
     exact hu
    obtain ⟨h1, h2⟩ := swap_of hc hq1 hu2
    exact .inr ⟨q, rfl, hc, hq1, hu2, h1, h2⟩
  ·have hE : swapE sig q = 6 := by
    unfold swapE
    rw [he, decide_eq_true (show ((sig.length : Int) ≤ (q : Int) + 1) by omega)]
    rfl
   exact .inl ⟨.inr (.inl hE), by simp [swapF, hE]⟩
end Go.Tr
/- Exchanged constants keep a signature valid. -/
namespace Go.Tr
theorem sigF_iff (sig : List Dcl) : ∀ (l : List Dcl) (i : Nat), ((sigF sig i l).2 = 0 ↔ ∀ (j : Nat) d, l[j]? = some d → claF ⟨sig.take (i + j), []⟩ d.c = 0) ∧ ((sigF sig i l).2 = 0 → (sigF sig i l).1 = ((i + l.length : Nat) : Int))
 | [], i => by
  rw [sigF]
  exact ⟨⟨fun _ j d h => (nomatch h), fun _ => rfl⟩, fun _ => rfl⟩
 | d :: r, i => by
  obtain ⟨h1, h2⟩ := sigF_iff sig r (i + 1)
  rw [sigF]
  by_cases he : claF ⟨sig.take i, []⟩ d.c ≠ 0
  ·rw [if_pos he]
   refine ⟨⟨fun h => absurd h he, fun h => absurd (h 0 d rfl) he⟩, fun h => absurd h he⟩
  ·rw [if_neg he]
   refine ⟨⟨fun h j e hj => ?_, fun h => h1.2 fun j e hj => ?_⟩, fun h => ?_⟩
   ·cases j with
    | zero =>
     cases hj
     rw [Nat.add_zero]
     omega
    | succ j =>
     have := h1.1 h j e hj
     rw [show i + (j + 1) = i + 1 + j by omega]
     exact this
   ·have := h (j + 1) e hj
    rw [show i + (j + 1) = i + 1 + j by omega] at this
    exact this
   ·rw [h2 h, List.length_cons]
    omega
theorem swF_99 {n : Nat} (hn : n + 1 ≤ 9999) : ∀ x : Int, 0 ≤ x → x ≤ 9999 → 0 ≤ swF n x ∧ swF n x ≤ 9999 := by
 intro x h0 h1
 unfold swF
 split
 ·omega
 ·split <;> omega
theorem swap_valid {sig : List Dcl} (hc : checkB sig = true) {n : Nat} (h : n + 1 < sig.length) (hu : ∀ d, sig[n + 1]? = some d → usesT n d.c = false) (hv : (sigF sig 0 sig).2 = 0) : (sigF (swX sig n) 0 (swX sig n)).2 = 0 := by
 have hle := check_len hc
 have hcla := (sigF_iff sig sig 0).1.1 hv
 refine (sigF_iff _ _ 0).1.2 fun j d' hd' => ?_
 have hjl := (List.getElem?_eq_some_iff.1 hd').1
 rw [swX_len] at hjl
 obtain ⟨d, hd, hx⟩ := swX_at h hjl
 rw [hx] at hd'
 cases hd'
 have hin := swF_in h (x := (j : Int)) ⟨by omega, by omega⟩
 obtain ⟨i, hi⟩ : ∃ i : Nat, swF n j = i := ⟨(swF n j).toNat, by omega⟩
 rw [hi, Int.toNat_natCast] at hd
 have hdc := hcla i d hd
 have hcn := check_cn hc hd
 rw [Nat.zero_add] at hdc ⊢
 refine cla_rn (P := fun x => 0 ≤ x ∧ x < i ∧ swF n x < j) (swF_99 (n := n) (by omega)) (K := ⟨sig.take i, []⟩) ⟨fun x e hP h0 he => ?_, rfl⟩ (KOk.take6 hc i) (check_prop hc d (List.mem_of_getElem? hd)) ?_ hdc
 ·obtain ⟨_, hxi, hxj⟩ := hP
  simp only at he
  rw [List.getElem?_take, if_pos (by omega)] at he
  have hin2 := swF_in h (x := x) ⟨by omega, by omega⟩
  obtain ⟨d2, hd2, hx2⟩ := swX_at h (k := (swF n x).toNat) (by omega)
  rw [show (((swF n x).toNat : Nat) : Int) = swF n x by omega, swF_swF] at hd2
  rw [he] at hd2
  cases hd2
  refine ⟨_, by rw [List.getElem?_take, if_pos (by omega)]; exact hx2, rfl, fun z hz => ?_⟩
  have hz2 := check_cn hc he z hz
  refine ⟨hz2.1, by omega, ?_⟩
  -- z < x, and swF n x < j
  by_cases hne : swF n z < swF n x
  ·omega
  ·-- then z = n and x = n + 1
   have h5 : z = n ∧ x = n + 1 := by
    unfold swF at hne
    split at hne <;> split at hne <;> (try split at hne) <;> omega
   obtain ⟨h6, h7⟩ := h5
   have h8 := hu e (by rw [← he]; congr 1; omega)
   have h9 := (uses_cn n e.c).2 (by rw [← h6]; exact hz)
   rw [h8] at h9
   cases h9
 ·intro z hz
  have hz2 := hcn z hz
  refine ⟨hz2.1, hz2.2, ?_⟩
  have hij : (j : Int) = swF n i := by rw [← hi, swF_swF]
  by_cases hne : swF n z < swF n i
  ·omega
  ·have h5 : z = n ∧ (i : Int) = n + 1 := by
    unfold swF at hne
    split at hne <;> split at hne <;> (try split at hne) <;> omega
   obtain ⟨h6, h7⟩ := h5
   have h8 := hu d (by rw [← hd]; congr 1; omega)
   have h9 := (uses_cn n d.c).2 (by rw [← h6]; exact hz)
   rw [h8] at h9
   cases h9
end Go.Tr
/- Valid signatures and contexts; what is found is a type. -/
namespace Go.Tr
structure KVal (K : Krn) : Prop where
 ok : KOk K
 clo : KClo K
 ms : K.ms = []
 cls : ∀ d ∈ K.sig, kindT d.c = false → typE K d.c [] = 0
def CVal (K : Krn) (cx : List Term) : Prop := ∀ (i : Nat) t, cx[i]? = some t → typE K t (cx.take i) = 0
end Go.Tr
/- CheckObjects, CheckSignatures. -/
namespace Go.Tr
open Go.Proofs
end Go.Tr
/- CheckPrefix. -/
namespace Go.Tr
open Go.Proofs
end Go.Tr
/- The reference's renumbered and uses. -/
namespace Go.Tr
open Go.Proofs
def getL (L : List Int) (x : Int) : Int := (L[x.toNat]?).getD 0
theorem getL_at {L : List Int} {x : Int} (h : 0 ≤ x ∧ x < L.length) : (rowI L)[x.toNat]? = some [.int .i64 (getL L x)] := by
 refine rowI_at ?_
 unfold getL
 rw [List.getElem?_eq_getElem (by omega)]
 rfl
theorem cnL_mem : ∀ {ts : List Term} {u : Term}, u ∈ ts → ∀ {x : Int}, x ∈ cnT u → x ∈ cnL ts
 | t :: r, u, hu, x, hx => by
  rw [cnL]
  rcases List.mem_cons.1 hu with rfl | hu
  ·exact List.mem_append.2 (.inl hx)
  ·exact List.mem_append.2 (.inr (cnL_mem hu hx))
theorem cRRenum (L : List Int) (t : Term) : (∀ x ∈ cnT t, 0 ≤ x ∧ x < L.length) → CallSt Tryz.prog 56 [tv t, .c (.sl 1 8 (rowI L))] [] (fun r H' => r = tv (rnT (getL L) t) ∧ H' = []) := by
 induction t using Term.ind with
 | _ t ih =>
 intro hcn
 obtain ⟨k, l, n, ts⟩ := t
 replace ih : ∀ u, u ∈ ts → _ := ih
 have hcn0 := hcn
 replace hcn : ∀ x ∈ cnL ts, 0 ≤ x ∧ x < (L.length : Int) := fun x hx => hcn0 x (by rw [cnT]; exact List.mem_append.2 (.inr hx))
 rw [rnT, tv_mk, tv_mk]
 by_cases hg : k = 4 ∧ l = 2
 ·obtain ⟨rfl, rfl⟩ := hg
  have hn := getL_at (hcn0 n (by rw [cnT]; simp))
  simp only [decide_true, Bool.and_self]
  refine call_pure (E := env 0) (fn := Tryz.f56) (c := bodyOf Tryz.f56) (env_ok 0) mixed sK sK sK sK sK sK rfl ?_
  conv => whnf
  repeat ((first | (refine aI ?_ ?_; focus exact sI) | refine dI sK ?_ | (refine yI ?_ ?_; focus exact sY) | (refine nI ?_ ?_; focus exact sY) | intro _); conv => whnf)
  refine ⟨_, ⟨(hcn0 n (by rw [cnT]; simp)).1, hn⟩, ?_⟩
  conv => whnf
  refine ⟨show 1 ≤ 1 by decide, ?_⟩
  conv => whnf
  refine loop_intro (fun m tm H => ∃ (j : Nat) (us : List Term), ts.length = m + j ∧ us.length = j ∧ us ++ rnL (getL L) (ts.drop j) = rnL (getL L) ts ∧
    tm = [(6, .c (.int .i64 (j))), (2, .ptr 0 0), (4, .ptr 1 0), (5, .ptr 2 0), (1, .c (.sl 1 8 (rowI L)))] ∧
    H = [.box [.c (.int .i64 (4)), .c (.int .i64 (2)), .c (.int .i64 (n)), .c (.sl 4 48 (tcs ts))], .box [.c (.int .i64 (0)), .c (.int .i64 (0)), .c (.int .i64 (0)), .nil], .box [.c (.int .i64 (4)), .c (.int .i64 (2)), .c (.int .i64 (getL L n)), .own 3], .row 28 4 48 (tcs us)])
   ts.length _ _ ⟨0, [], by omega, rfl, rfl, rfl, rfl⟩ ?_ ?_
  ·refine Wk.trans (H1 := [.box [.c (.int .i64 (4)), .c (.int .i64 (2)), .c (.int .i64 (n)), .c (.sl 4 48 (tcs ts))], .box [.c (.int .i64 (0)), .c (.int .i64 (0)), .c (.int .i64 (0)), .nil], .box [.c (.int .i64 (4)), .c (.int .i64 (2)), .c (.int .i64 (getL L n)), .nil]]) ?_ (Wk.nilrow' 2 3 28 4 48 rfl rfl rfl rfl)
   exact Wk.sl [0, 1, 2] rfl ⟨rfl, rfl, rfl, trivial⟩ ⟨rfl, rfl, rfl, rfl, rfl, trivial⟩ rfl
  rintro m tm H ⟨j, us, hj, hus, hR, rfl, rfl⟩
  conv => whnf
  intro hlen
  replace hlen : (tcs ts).length * 48 ≤ 140737488355328 := hlen
  rw [len_tcs] at hlen
  conv => whnf
  refine ⟨fun hc => ?_, fun hc => ?_⟩
  ·replace hc : (j : Int) < (tcs ts).length := of_decide_eq_true hc
   rw [len_tcs] at hc
   have hlt : j < ts.length := by omega
   obtain ⟨u, hu⟩ : ∃ u, ts[j]? = some u := ⟨ts[j], List.getElem?_eq_getElem hlt⟩
   have hm := List.mem_of_getElem? hu
   have huc := tcs_at ts j u hu
   have hcc := ih u hm (fun x hx => hcn x (cnL_mem hm hx))
   rw [drop_at hu, rnL] at hR
   generalize hv : rnT (getL L) u = v at *
   obtain ⟨k', l', n', us'⟩ := u
   obtain ⟨k3, l3, n3, us3⟩ := v
   rw [tv_mk] at hcc
   rw [tv_mk] at hcc
   have hl1 : (tcs us).length = j := by rw [len_tcs, hus]
   have hl2 : ((tcs us).length + 1) * 48 ≤ 140737488355328 := by omega
   have hl3 : (tcs us).length + 1 ≤ 9223372036854775807 := by omega
   conv => whnf
   refine draw_intro true (by kernel_rfl) ?_
   conv => whnf
   refine ⟨_, ⟨by omega, by simpa using huc⟩, ?_⟩
   conv => whnf
   refine ⟨Nat.le_refl 4, ?_⟩
   conv => whnf
   try (refine dI sK ?_; conv => whnf)
   first | refine u0 hcc ?_ | refine v0 hcc ?_
   rintro _ _ ⟨rfl, rfl⟩ _
   conv => whnf
   refine ⟨by decide, ?_⟩
   conv => whnf
   refine ⟨by decide, ?_⟩
   conv => whnf
   refine ⟨hl2, hl3, ?_⟩
   conv => whnf
   refine ⟨⟨by omega, by omega⟩, ?_⟩
   conv => whnf
   refine ⟨m - 1, _, _, by omega, ⟨j + 1, us ++ [.mk k3 l3 n3 us3], by omega, by simp [hus], ?_, rfl, rfl⟩, Wk.sl [0, 1, 2, 5] rfl ⟨rfl, rfl, rfl, ?_, trivial⟩ ⟨rfl, rfl, rfl, rfl, rfl, trivial⟩ rfl⟩
   ·rw [← hR, List.append_assoc]
    rfl
   ·rw [← tcs_snoc]
    rfl
  ·replace hc : ¬ (j : Int) < (tcs ts).length := of_decide_eq_false hc
   rw [len_tcs] at hc
   rw [List.drop_eq_nil_of_le (by omega), rnL, List.append_nil] at hR
   rw [← hR]
   conv => whnf
   repeat ((first | (refine aI ?_ ?_; focus exact sI) | refine dI sK ?_ | (refine yI ?_ ?_; focus exact sY) | (refine nI ?_ ?_; focus exact sY) | intro _); conv => whnf)
   all_goals exact sR
 ·have hb : (decide (k = 4) && decide (l = 2)) = false := by
   rw [Bool.and_eq_false_iff, decide_eq_false_iff_not, decide_eq_false_iff_not]
   omega
  rw [hb]
  simp only
  refine call_pure (E := env 0) (fn := Tryz.f56) (c := bodyOf Tryz.f56) (env_ok 0) mixed sK sK sK sK sK sK rfl ?_
  conv => whnf
  refine ⟨fun hq => ?_, fun hq => ?_⟩
  ·exact absurd (hb.symm.trans hq) (by decide)
  conv => whnf
  refine loop_intro (fun m tm H => ∃ (j : Nat) (us : List Term), ts.length = m + j ∧ us.length = j ∧ us ++ rnL (getL L) (ts.drop j) = rnL (getL L) ts ∧
    tm = [(6, .c (.int .i64 (j))), (2, .ptr 0 0), (4, .ptr 1 0), (5, .ptr 2 0), (1, .c (.sl 1 8 (rowI L)))] ∧
    H = [.box [.c (.int .i64 (k)), .c (.int .i64 (l)), .c (.int .i64 (n)), .c (.sl 4 48 (tcs ts))], .box [.c (.int .i64 (0)), .c (.int .i64 (0)), .c (.int .i64 (0)), .nil], .box [.c (.int .i64 (k)), .c (.int .i64 (l)), .c (.int .i64 (n)), .own 3], .row 28 4 48 (tcs us)])
   ts.length _ _ ⟨0, [], by omega, rfl, rfl, rfl, rfl⟩ ?_ ?_
  ·refine Wk.trans (H1 := [.box [.c (.int .i64 (k)), .c (.int .i64 (l)), .c (.int .i64 (n)), .c (.sl 4 48 (tcs ts))], .box [.c (.int .i64 (0)), .c (.int .i64 (0)), .c (.int .i64 (0)), .nil], .box [.c (.int .i64 (k)), .c (.int .i64 (l)), .c (.int .i64 (n)), .nil]]) ?_ (Wk.nilrow' 2 3 28 4 48 rfl rfl rfl rfl)
   exact Wk.sl [0, 1, 2] rfl ⟨rfl, rfl, rfl, trivial⟩ ⟨rfl, rfl, rfl, rfl, rfl, trivial⟩ rfl
  rintro m tm H ⟨j, us, hj, hus, hR, rfl, rfl⟩
  conv => whnf
  intro hlen
  replace hlen : (tcs ts).length * 48 ≤ 140737488355328 := hlen
  rw [len_tcs] at hlen
  conv => whnf
  refine ⟨fun hc => ?_, fun hc => ?_⟩
  ·replace hc : (j : Int) < (tcs ts).length := of_decide_eq_true hc
   rw [len_tcs] at hc
   have hlt : j < ts.length := by omega
   obtain ⟨u, hu⟩ : ∃ u, ts[j]? = some u := ⟨ts[j], List.getElem?_eq_getElem hlt⟩
   have hm := List.mem_of_getElem? hu
   have huc := tcs_at ts j u hu
   have hcc := ih u hm (fun x hx => hcn x (cnL_mem hm hx))
   rw [drop_at hu, rnL] at hR
   generalize hv : rnT (getL L) u = v at *
   obtain ⟨k', l', n', us'⟩ := u
   obtain ⟨k3, l3, n3, us3⟩ := v
   rw [tv_mk] at hcc
   rw [tv_mk] at hcc
   have hl1 : (tcs us).length = j := by rw [len_tcs, hus]
   have hl2 : ((tcs us).length + 1) * 48 ≤ 140737488355328 := by omega
   have hl3 : (tcs us).length + 1 ≤ 9223372036854775807 := by omega
   conv => whnf
   refine draw_intro true (by kernel_rfl) ?_
   conv => whnf
   refine ⟨_, ⟨by omega, by simpa using huc⟩, ?_⟩
   conv => whnf
   refine ⟨Nat.le_refl 4, ?_⟩
   conv => whnf
   try (refine dI sK ?_; conv => whnf)
   first | refine u0 hcc ?_ | refine v0 hcc ?_
   rintro _ _ ⟨rfl, rfl⟩ _
   conv => whnf
   refine ⟨by decide, ?_⟩
   conv => whnf
   refine ⟨by decide, ?_⟩
   conv => whnf
   refine ⟨hl2, hl3, ?_⟩
   conv => whnf
   refine ⟨⟨by omega, by omega⟩, ?_⟩
   conv => whnf
   refine ⟨m - 1, _, _, by omega, ⟨j + 1, us ++ [.mk k3 l3 n3 us3], by omega, by simp [hus], ?_, rfl, rfl⟩, Wk.sl [0, 1, 2, 5] rfl ⟨rfl, rfl, rfl, ?_, trivial⟩ ⟨rfl, rfl, rfl, rfl, rfl, trivial⟩ rfl⟩
   ·rw [← hR, List.append_assoc]
    rfl
   ·rw [← tcs_snoc]
    rfl
  ·replace hc : ¬ (j : Int) < (tcs ts).length := of_decide_eq_false hc
   rw [len_tcs] at hc
   rw [List.drop_eq_nil_of_le (by omega), rnL, List.append_nil] at hR
   rw [← hR]
   conv => whnf
   repeat ((first | (refine aI ?_ ?_; focus exact sI) | refine dI sK ?_ | (refine yI ?_ ?_; focus exact sY) | (refine nI ?_ ?_; focus exact sY) | intro _); conv => whnf)
   all_goals exact sR
theorem uses_con (n : Int) {t : Term} (hp : prop t = true) : usesT n t = decide (n ∈ conF 2 t) := by
 rw [Bool.eq_iff_iff, decide_eq_true_eq]
 unfold usesT
 rw [Bool.not_eq_true', ← Bool.not_eq_true, ← con_all 2 _ hp]
 constructor
 ·intro h
  refine Decidable.byContradiction fun hn => h fun x hx => ?_
  simp only [Bool.not_eq_true', decide_eq_false_iff_not]
  exact fun e => hn (e ▸ hx)
 ·intro h h2
  have := h2 n h
  simp at this
theorem cRUses (sig : List Dcl) (n k : Int) (h0 : 0 ≤ n) (d : Dcl) (hd : sig[n.toNat]? = some d) (hp : prop d.c = true) : CallSt Tryz.prog 55 [.c (.sl 6 72 (dcs sig)), .c (.int .i64 (n)), .c (.int .i64 (k))] [] (fun r H' => r = .c (.bool (usesT k d.c)) ∧ H' = []) := by
 have hcs := cRCons hp
 have hdc := dcs_at hd
 have hcl := conF_len 2 d.c
 rw [uses_con k hp]
 have hrl := len_rowI (conF 2 d.c)
 clear hp
 generalize conF 2 d.c = C at *
 obtain ⟨s, ⟨k2, l, x, ts⟩, i⟩ := d
 rw [tv_mk] at hcs
 refine call_pure (E := env 0) (fn := Tryz.f55) (c := bodyOf Tryz.f55) (env_ok 0) mixed sK sK sK sK sK sK rfl ?_
 conv => whnf
 refine ⟨_, ⟨h0, hdc⟩, ?_⟩
 conv => whnf
 refine ⟨show 4 ≤ 5 by decide, ?_⟩
 conv => whnf
 try (refine dI sK ?_; conv => whnf)
 first | refine u0 hcs ?_ | refine v0 hcs ?_
 rintro _ _ ⟨rfl, rfl⟩ _
 conv => whnf
 repeat ((first | (refine aI ?_ ?_; focus exact sI) | refine dI sK ?_ | (refine yI ?_ ?_; focus exact sY) | (refine nI ?_ ?_; focus exact sY) | intro _); conv => whnf)
 refine loop_intro (fun m tm H => ∃ j : Nat, C.length = m + j ∧ (∀ (q : Nat) y, q < j → C[q]? = some y → y ≠ k) ∧
  tm = [(16, .c (.int .i64 (j))), (15, .c (.int .i64 ((rowI C).length))), (14, .c (.sl 1 8 (rowI C))), (2, .c (.int .i64 (k)))] ∧ H = [])
  C.length _ _ ⟨0, by omega, fun q y hq => absurd hq (by omega), rfl, rfl⟩ (Wk.sl [] rfl trivial ⟨rfl, rfl, rfl, rfl, trivial⟩ rfl) ?_
 rintro m tm H ⟨j, hj, hall, rfl, rfl⟩
 conv => whnf
 refine ⟨fun hlt => ?_, fun hlt => ?_⟩
 ·replace hlt : (j : Int) < (rowI C).length := of_decide_eq_true hlt
  obtain ⟨y, hy⟩ : ∃ y, C[j]? = some y := ⟨C[j]'(by omega), List.getElem?_eq_getElem (by omega)⟩
  have hyr := rowI_at hy
  conv => whnf
  refine ⟨_, ⟨by omega, by simpa using hyr⟩, ?_⟩
  conv => whnf
  refine ⟨Nat.le_refl 1, ?_⟩
  conv => whnf
  refine ⟨fun he => ?_, fun he => ?_⟩
  ·rw [decide_eq_true (show k ∈ C by rw [← (of_decide_eq_true he : y = k)]; exact List.mem_of_getElem? hy)]
   conv => whnf
   repeat ((first | (refine aI ?_ ?_; focus exact sI) | refine dI sK ?_ | (refine yI ?_ ?_; focus exact sY) | (refine nI ?_ ?_; focus exact sY) | intro _); conv => whnf)
   all_goals exact sR
  ·conv => whnf
   refine ⟨⟨by omega, by omega⟩, ?_⟩
   conv => whnf
   refine ⟨m - 1, _, _, by omega, ⟨j + 1, by omega, fun q z hq hz => ?_, rfl, rfl⟩, Wk.sl [] rfl trivial ⟨rfl, rfl, rfl, rfl, trivial⟩ rfl⟩
   by_cases hqj : q < j
   ·exact hall q z hqj hz
   ·obtain rfl : q = j := by omega
    rw [hy] at hz
    injection hz with hz
    subst hz
    exact of_decide_eq_false he
 ·replace hlt : ¬ (j : Int) < (rowI C).length := of_decide_eq_false hlt
  rw [decide_eq_false (show k ∉ C from fun h => by
   obtain ⟨q, hq⟩ := List.mem_iff_getElem?.1 h
   exact hall q k (by have := (List.getElem?_eq_some_iff.1 hq).1; omega) hq rfl)]
  conv => whnf
  repeat ((first | (refine aI ?_ ?_; focus exact sI) | refine dI sK ?_ | (refine yI ?_ ?_; focus exact sY) | (refine nI ?_ ?_; focus exact sY) | intro _); conv => whnf)
  all_goals exact sR
end Go.Tr
/- The law SignUndone. -/
namespace Go.Tr
open Go.Proofs
end Go.Tr
/- The reference's Rename, Swap. -/
namespace Go.Tr
open Go.Proofs
theorem swG_eq {sig : List Dcl} (hc : checkB sig = true) {q : Nat} (hq1 : q + 1 < sig.length) : (swL sig.length q).map (pickD sig (getL (swL sig.length q))) = swX sig q := by
 refine pick_all hc fun x hx => ?_
 unfold getL
 rw [swL_at hq1 (by omega), show ((x.toNat : Nat) : Int) = x by omega]
 rfl
theorem cRSwap (sig : List Dcl) (hc : checkB sig = true) (n : Int) : CallSt Tryz.prog 21 [.c (.sl 6 72 (dcs sig)), .c (.int .i64 (n))] [] (fun r H' => r = .tup [.c (.sl 6 72 (dcs (swapF sig n))), .c (.int .i64 (swapE sig n))] ∧ H' = []) := by
 have hsl := check_len hc
 have hbl := len_dcs sig
 have hhs := cRHas sig n
 rcases hasE_cases sig n with ⟨_, hc0⟩ | ⟨he, _, hn⟩ | ⟨he, _, hn⟩
 ·rw [hc] at hc0; cases hc0
 ·rw [show swapF sig n = [] by simp [swapF, swapE, he], show swapE sig n = 6 by simp [swapE, he]]
  rw [show (decide (0 ≤ n) && decide (n < (sig.length : Int))) = false by
   rw [Bool.and_eq_false_iff, decide_eq_false_iff_not, decide_eq_false_iff_not]; omega] at hhs
  refine call_pure (E := env 0) (fn := Tryz.f21) (c := bodyOf Tryz.f21) (env_ok 0) mixed sK sK sK sK sK sK rfl ?_
  conv => whnf
  try (refine dI sK ?_; conv => whnf)
  first | refine u0 hhs ?_ | refine v0 hhs ?_
  rintro _ _ ⟨rfl, rfl⟩ _
  conv => whnf
  repeat ((first | (refine aI ?_ ?_; focus exact sI) | refine dI sK ?_ | (refine yI ?_ ?_; focus exact sY) | (refine nI ?_ ?_; focus exact sY) | intro _); conv => whnf)
  all_goals exact sR
 ·rw [show (decide (0 ≤ n) && decide (n < (sig.length : Int))) = true by
   rw [Bool.and_eq_true, decide_eq_true_eq, decide_eq_true_eq]; omega] at hhs
  obtain ⟨q, d, rfl, hq, hd⟩ := get_nat hn
  by_cases hq1 : q + 1 < sig.length
  ·obtain ⟨e1, he1⟩ : ∃ e, sig[q + 1]? = some e := ⟨sig[q + 1]'hq1, List.getElem?_eq_getElem hq1⟩
   have hus := cRUses sig (q + 1) q (by omega) e1 (by rw [show ((q : Int) + 1).toNat = q + 1 by omega]; exact he1) (check_prop hc e1 (List.mem_of_getElem? he1))
   cases hu : usesT q e1.c with
   | true =>
    have hE : swapE sig q = 27 := by
     unfold swapE
     rw [he, Int.toNat_natCast, he1, decide_eq_false (show ¬ ((sig.length : Int) ≤ (q : Int) + 1) by omega)]
     simp only [decide_true]
     rw [hu]
    rw [show swapF sig q = [] by simp [swapF, hE], hE]
    rw [hu] at hus
    refine call_pure (E := env 0) (fn := Tryz.f21) (c := bodyOf Tryz.f21) (env_ok 0) mixed sK sK sK sK sK sK rfl ?_
    conv => whnf
    try (refine dI sK ?_; conv => whnf)
    first | refine u0 hhs ?_ | refine v0 hhs ?_
    rintro _ _ ⟨rfl, rfl⟩ _
    conv => whnf
    repeat ((first | (refine aI ?_ ?_; focus exact sI) | refine dI sK ?_ | (refine yI ?_ ?_; focus exact sY) | (refine nI ?_ ?_; focus exact sY) | intro _); conv => whnf)
    (refine ⟨fun h => absurd h (by simp; omega), fun _ => ?_⟩; conv => whnf)
    repeat ((first | (refine aI ?_ ?_; focus exact sI) | refine dI sK ?_ | (refine yI ?_ ?_; focus exact sY) | (refine nI ?_ ?_; focus exact sY) | intro _); conv => whnf)
    try (refine dI sK ?_; conv => whnf)
    first | refine u0 hus ?_ | refine v0 hus ?_
    rintro _ _ ⟨rfl, rfl⟩ _
    conv => whnf
    repeat ((first | (refine aI ?_ ?_; focus exact sI) | refine dI sK ?_ | (refine yI ?_ ?_; focus exact sY) | (refine nI ?_ ?_; focus exact sY) | intro _); conv => whnf)
    all_goals exact sR
   | false =>
    obtain ⟨hE, hF⟩ := swap_of hc hq1 (fun d hd2 => by rw [he1] at hd2; injection hd2 with hd2; rw [← hd2]; exact hu)
    rw [hF, hE]
    rw [hu] at hus
    have hX := (swG_eq hc hq1).symm
    have h1 : (rowI (nums sig.length))[q]? = some [.int .i64 q] := rowI_at (nums_at hq)
    have h2 : ((rowI (nums sig.length)).set q [.int .i64 ((q : Int) + 1)])[((q : Int) + 1).toNat]? = some [.int .i64 ((q : Int) + 1)] := by
     rw [show ((q : Int) + 1).toNat = q + 1 by omega, rowI_set]
     refine rowI_at ?_
     rw [List.getElem?_set_ne (by omega)]
     exact nums_at hq1
    have h3 : ((rowI (nums sig.length)).set q [.int .i64 ((q : Int) + 1)]).set ((q : Int) + 1).toNat [.int .i64 q] = rowI (swL sig.length q) := by
     rw [show ((q : Int) + 1).toNat = q + 1 by omega, rowI_set, rowI_set]
     rfl
    have hnl := len_rowI (nums sig.length)
    have hnl2 := nums_len sig.length
    refine call_pure (E := env 0) (fn := Tryz.f21) (c := bodyOf Tryz.f21) (env_ok 0) mixed sK sK sK sK sK sK rfl ?_
    conv => whnf
    try (refine dI sK ?_; conv => whnf)
    first | refine u0 hhs ?_ | refine v0 hhs ?_
    rintro _ _ ⟨rfl, rfl⟩ _
    conv => whnf
    repeat ((first | (refine aI ?_ ?_; focus exact sI) | refine dI sK ?_ | (refine yI ?_ ?_; focus exact sY) | (refine nI ?_ ?_; focus exact sY) | intro _); conv => whnf)
    (refine ⟨fun h => absurd h (by simp; omega), fun _ => ?_⟩; conv => whnf)
    repeat ((first | (refine aI ?_ ?_; focus exact sI) | refine dI sK ?_ | (refine yI ?_ ?_; focus exact sY) | (refine nI ?_ ?_; focus exact sY) | intro _); conv => whnf)
    try (refine dI sK ?_; conv => whnf)
    first | refine u0 hus ?_ | refine v0 hus ?_
    rintro _ _ ⟨rfl, rfl⟩ _
    conv => whnf
    repeat ((first | (refine aI ?_ ?_; focus exact sI) | refine dI sK ?_ | (refine yI ?_ ?_; focus exact sY) | (refine nI ?_ ?_; focus exact sY) | intro _); conv => whnf)
    refine loop_intro (fun m tm H => ∃ j : Nat, sig.length = m + j ∧
     tm = [(29, .c (.int .i64 (j))), (28, .c (.int .i64 ((dcs sig).length))), (0, .c (.sl 6 72 (dcs sig))), (1, .c (.int .i64 (q))), (6, .own 0)] ∧ H = [.row 3 1 8 (rowI (nums j))])
     sig.length _ _ ⟨0, by omega, rfl, rfl⟩ ?_ ?_
    ·refine Wk.trans (tm1 := [(29, .c (.int .i64 (0))), (28, .c (.int .i64 ((dcs sig).length))), (0, .c (.sl 6 72 (dcs sig))), (1, .c (.int .i64 (q))), (6, .nil)]) (H1 := []) ?_ (Wk.trans (Wk.niltmp 6 3 1 8 rfl rfl) ?_)
     ·exact Wk.sl [] rfl trivial ⟨rfl, rfl, rfl, rfl, rfl, trivial⟩ rfl
     ·exact Wk.sl [0] rfl ⟨rfl, trivial⟩ ⟨rfl, rfl, rfl, rfl, rfl, trivial⟩ rfl
    rintro m tm H ⟨j, hj, rfl, rfl⟩
    conv => whnf
    refine ⟨fun hlt => ?_, fun hlt => ?_⟩
    ·replace hlt : (j : Int) < (dcs sig).length := of_decide_eq_true hlt
     have hrl := len_rowI (nums j)
     have hnj := nums_len j
     have hl2 : ((rowI (nums j)).length + 1) * 8 ≤ 140737488355328 := by omega
     have hl3 : (rowI (nums j)).length + 1 ≤ 9223372036854775807 := by omega
     conv => whnf
     refine ⟨by decide, ?_⟩
     conv => whnf
     refine ⟨by decide, ?_⟩
     conv => whnf
     refine ⟨hl2, hl3, ?_⟩
     conv => whnf
     refine ⟨⟨by omega, by omega⟩, ?_⟩
     conv => whnf
     refine ⟨m - 1, _, _, by omega, ⟨j + 1, by omega, rfl, rfl⟩, Wk.sl [2] rfl ⟨?_, trivial⟩ ⟨rfl, rfl, rfl, rfl, rfl, trivial⟩ rfl⟩
     rw [nums_succ, ← rowI_snoc]
     rfl
    ·replace hlt : ¬ (j : Int) < (dcs sig).length := of_decide_eq_false hlt
     obtain rfl : j = sig.length := by omega
     conv => whnf
     repeat ((first | (refine aI ?_ ?_; focus exact sI) | refine dI sK ?_ | (refine yI ?_ ?_; focus exact sY) | (refine nI ?_ ?_; focus exact sY) | intro _); conv => whnf)
     refine ⟨[.int .i64 q], by simpa using h1, Nat.le_refl 1, ?_⟩
     conv => whnf
     refine ⟨⟨by omega, by omega⟩, ?_⟩
     conv => whnf
     refine ⟨⟨by omega, by rw [List.length_set]; omega⟩, ?_⟩
     conv => whnf
     refine ⟨[.int .i64 ((q : Int) + 1)], h2, Nat.le_refl 1, ?_⟩
     conv => whnf
     repeat ((first | (refine aI ?_ ?_; focus exact sI) | refine dI sK ?_ | (refine yI ?_ ?_; focus exact sY) | (refine nI ?_ ?_; focus exact sY) | intro _); conv => whnf)
     have hrl := len_rowI (swL sig.length q)
     refine loop_intro (fun m tm H => ∃ j : Nat, sig.length = m + j ∧
      tm = [(49, .c (.int .i64 (j))), (48, .c (.int .i64 ((dcs sig).length))), (0, .c (.sl 6 72 (dcs sig))), (6, .own 0), (8, .own 1)] ∧
      (H = [.row 3 1 8 (rowI (swL sig.length q)), .row 66 6 72 (dcs (((swL sig.length q).take j).map (pickD sig (getL (swL sig.length q)))))] ∨
       H = [.frz (.sl 1 8 (rowI (swL sig.length q))), .row 66 6 72 (dcs (((swL sig.length q).take j).map (pickD sig (getL (swL sig.length q)))))]))
      sig.length _ _ ⟨0, by omega, rfl, .inl rfl⟩ ?_ ?_
     ·refine Wk.trans (tm1 := [(49, .c (.int .i64 (0))), (48, .c (.int .i64 ((dcs sig).length))), (0, .c (.sl 6 72 (dcs sig))), (6, .own 0), (8, .nil)]) (H1 := [.row 3 1 8 (rowI (swL sig.length q))]) ?_ (Wk.trans (Wk.niltmp 8 66 6 72 rfl rfl) ?_)
      ·refine Wk.sl [0] rfl ⟨?_, trivial⟩ ⟨rfl, rfl, rfl, rfl, rfl, trivial⟩ rfl
       rw [← h3]
       rfl
      ·exact Wk.sl [0, 1] rfl ⟨rfl, rfl, trivial⟩ ⟨rfl, rfl, rfl, rfl, rfl, trivial⟩ rfl
     rintro m tm H ⟨j, hj, rfl, (rfl | rfl)⟩
     ·have hX : swX sig q = ((swL sig.length q).take sig.length).map (pickD sig (getL (swL sig.length q))) := by rw [hX, List.take_of_length_le (by rw [swL_len]; omega)]
      conv => whnf
      refine ⟨fun hlt => ?_, fun hlt => ?_⟩
      ·replace hlt : (j : Int) < (dcs sig).length := of_decide_eq_true hlt
       obtain ⟨y, hy, hy0⟩ : ∃ y, (swL sig.length q)[j]? = some y ∧ 0 ≤ y ∧ y < sig.length := ⟨swF q j, swL_at hq1 (by omega), swF_in hq1 ⟨by omega, by omega⟩⟩
       have hyr := rowI_at hy
       obtain ⟨e, he⟩ : ∃ e, sig[y.toNat]? = some e := ⟨sig[y.toNat]'(by omega), List.getElem?_eq_getElem (by omega)⟩
       have hec := dcs_at he
       have hcr := cRRenum (swL sig.length q) e.c (fun x hx => by have := check_cn hc he x hx; rw [swL_len]; have := (List.getElem?_eq_some_iff.1 he).1; omega)
       have htk : ((swL sig.length q).take (j + 1)).map (pickD sig (getL (swL sig.length q))) = ((swL sig.length q).take j).map (pickD sig (getL (swL sig.length q))) ++ [⟨e.s, rnT (getL (swL sig.length q)) e.c, e.i⟩] := by
        rw [List.take_add_one, hy, List.map_append]
        simp [pickD_at he]
       have hml := len_dcs (((swL sig.length q).take j).map (pickD sig (getL (swL sig.length q))))
       have hul : (((swL sig.length q).take j).map (pickD sig (getL (swL sig.length q)))).length ≤ j := by simp; omega
       have hl2 : ((dcs (((swL sig.length q).take j).map (pickD sig (getL (swL sig.length q))))).length + 1) * 72 ≤ 140737488355328 := by omega
       have hl3 : (dcs (((swL sig.length q).take j).map (pickD sig (getL (swL sig.length q))))).length + 1 ≤ 9223372036854775807 := by omega
       generalize rnT (getL (swL sig.length q)) e.c = u at *
       obtain ⟨s', ⟨k', l', n', us⟩, i'⟩ := e
       obtain ⟨k2, l2, n2, us2⟩ := u
       rw [tv_mk] at hcr
       rw [tv_mk] at hcr
       conv => whnf
       refine ⟨⟨by omega, by rw [Int.toNat_natCast, hrl, swL_len]; omega⟩, ?_⟩
       conv => whnf
       refine ⟨[.int .i64 y], by rw [Int.toNat_natCast]; exact hyr, show 0 + 1 ≤ 1 by decide, ?_⟩
       conv => whnf
       refine ⟨_, ⟨hy0.1, hec⟩, ?_⟩
       conv => whnf
       refine ⟨show 6 ≤ 6 by decide, ?_⟩
       conv => whnf
       try (refine dI sK ?_; conv => whnf)
       first | refine u0 hcr ?_ | refine v0 hcr ?_
       rintro _ _ ⟨rfl, rfl⟩ _
       conv => whnf
       repeat ((first | (refine aI ?_ ?_; focus exact sI) | refine dI sK ?_ | (refine yI ?_ ?_; focus exact sY) | (refine nI ?_ ?_; focus exact sY) | intro _); conv => whnf)
       refine ⟨m - 1, _, _, by omega, ⟨j + 1, by omega, rfl, .inr rfl⟩, Wk.sl [0, 4] rfl ⟨rfl, ?_, trivial⟩ ⟨rfl, rfl, rfl, rfl, rfl, trivial⟩ rfl⟩
       rw [htk, ← dcs_snoc]
       rfl
      ·replace hlt : ¬ (j : Int) < (dcs sig).length := of_decide_eq_false hlt
       obtain rfl : j = sig.length := by omega
       rw [hX]
       conv => whnf
       repeat ((first | (refine aI ?_ ?_; focus exact sI) | refine dI sK ?_ | (refine yI ?_ ?_; focus exact sY) | (refine nI ?_ ?_; focus exact sY) | intro _); conv => whnf)
       all_goals exact sR
     ·have hX : swX sig q = ((swL sig.length q).take sig.length).map (pickD sig (getL (swL sig.length q))) := by rw [hX, List.take_of_length_le (by rw [swL_len]; omega)]
      conv => whnf
      refine ⟨fun hlt => ?_, fun hlt => ?_⟩
      ·replace hlt : (j : Int) < (dcs sig).length := of_decide_eq_true hlt
       obtain ⟨y, hy, hy0⟩ : ∃ y, (swL sig.length q)[j]? = some y ∧ 0 ≤ y ∧ y < sig.length := ⟨swF q j, swL_at hq1 (by omega), swF_in hq1 ⟨by omega, by omega⟩⟩
       have hyr := rowI_at hy
       obtain ⟨e, he⟩ : ∃ e, sig[y.toNat]? = some e := ⟨sig[y.toNat]'(by omega), List.getElem?_eq_getElem (by omega)⟩
       have hec := dcs_at he
       have hcr := cRRenum (swL sig.length q) e.c (fun x hx => by have := check_cn hc he x hx; rw [swL_len]; have := (List.getElem?_eq_some_iff.1 he).1; omega)
       have htk : ((swL sig.length q).take (j + 1)).map (pickD sig (getL (swL sig.length q))) = ((swL sig.length q).take j).map (pickD sig (getL (swL sig.length q))) ++ [⟨e.s, rnT (getL (swL sig.length q)) e.c, e.i⟩] := by
        rw [List.take_add_one, hy, List.map_append]
        simp [pickD_at he]
       have hml := len_dcs (((swL sig.length q).take j).map (pickD sig (getL (swL sig.length q))))
       have hul : (((swL sig.length q).take j).map (pickD sig (getL (swL sig.length q)))).length ≤ j := by simp; omega
       have hl2 : ((dcs (((swL sig.length q).take j).map (pickD sig (getL (swL sig.length q))))).length + 1) * 72 ≤ 140737488355328 := by omega
       have hl3 : (dcs (((swL sig.length q).take j).map (pickD sig (getL (swL sig.length q))))).length + 1 ≤ 9223372036854775807 := by omega
       generalize rnT (getL (swL sig.length q)) e.c = u at *
       obtain ⟨s', ⟨k', l', n', us⟩, i'⟩ := e
       obtain ⟨k2, l2, n2, us2⟩ := u
       rw [tv_mk] at hcr
       rw [tv_mk] at hcr
       conv => whnf
       refine ⟨_, ⟨by omega, by rw [Int.toNat_natCast]; exact hyr⟩, ?_⟩
       conv => whnf
       refine ⟨show 1 ≤ 1 by decide, ?_⟩
       conv => whnf
       refine ⟨_, ⟨hy0.1, hec⟩, ?_⟩
       conv => whnf
       refine ⟨show 6 ≤ 6 by decide, ?_⟩
       conv => whnf
       try (refine dI sK ?_; conv => whnf)
       first | refine u0 hcr ?_ | refine v0 hcr ?_
       rintro _ _ ⟨rfl, rfl⟩ _
       conv => whnf
       repeat ((first | (refine aI ?_ ?_; focus exact sI) | refine dI sK ?_ | (refine yI ?_ ?_; focus exact sY) | (refine nI ?_ ?_; focus exact sY) | intro _); conv => whnf)
       refine ⟨m - 1, _, _, by omega, ⟨j + 1, by omega, rfl, .inr rfl⟩, Wk.sl [0, 4] rfl ⟨rfl, ?_, trivial⟩ ⟨rfl, rfl, rfl, rfl, rfl, trivial⟩ rfl⟩
       rw [htk, ← dcs_snoc]
       rfl
      ·replace hlt : ¬ (j : Int) < (dcs sig).length := of_decide_eq_false hlt
       obtain rfl : j = sig.length := by omega
       rw [hX]
       conv => whnf
       repeat ((first | (refine aI ?_ ?_; focus exact sI) | refine dI sK ?_ | (refine yI ?_ ?_; focus exact sY) | (refine nI ?_ ?_; focus exact sY) | intro _); conv => whnf)
       all_goals exact sR
  ·have hE : swapE sig q = 6 := by
    unfold swapE
    rw [he, decide_eq_true (show ((sig.length : Int) ≤ (q : Int) + 1) by omega)]
    rfl
   rw [show swapF sig q = [] by simp [swapF, hE], hE]
   refine call_pure (E := env 0) (fn := Tryz.f21) (c := bodyOf Tryz.f21) (env_ok 0) mixed sK sK sK sK sK sK rfl ?_
   conv => whnf
   try (refine dI sK ?_; conv => whnf)
   first | refine u0 hhs ?_ | refine v0 hhs ?_
   rintro _ _ ⟨rfl, rfl⟩ _
   conv => whnf
   repeat ((first | (refine aI ?_ ?_; focus exact sI) | refine dI sK ?_ | (refine yI ?_ ?_; focus exact sY) | (refine nI ?_ ?_; focus exact sY) | intro _); conv => whnf)
   (refine ⟨fun _ => ?_, fun h => absurd h (by simp; omega)⟩; conv => whnf)
   repeat ((first | (refine aI ?_ ?_; focus exact sI) | refine dI sK ?_ | (refine yI ?_ ?_; focus exact sY) | (refine nI ?_ ?_; focus exact sY) | intro _); conv => whnf)
   all_goals exact sR
end Go.Tr
/- CheckSwaps. -/
namespace Go.Tr
open Go.Proofs
theorem cCheckSwaps (sig : List Dcl) (n : Int) : CallSt Tryz.prog 4 [.c (.sl 6 72 (dcs sig)), .c (.int .i64 (n))] [] (fun r H' => r = .c (.bool true) ∧ H' = []) := by
 have h1 := cKSignature sig
 have hw := cAwake6
 have hsl := len_dcs sig
 unfold ksigF at h1
 cases hs : checkB sig with
 | false =>
  rw [hs] at h1
  simp only at h1
  refine call_pure (E := envW6 0) (fn := Tryz.f4) (c := bodyOf Tryz.f4) (envW6_ok 0) mixed sK sK sK sK sK sK rfl ?_
  refine aw_cut _ _ rfl fun C hC => ?_
  conv => whnf
  repeat ((first | (refine aI ?_ ?_; focus exact sI) | refine dI sK ?_ | (refine yI ?_ ?_; focus exact sY) | (refine nI ?_ ?_; focus exact sY) | intro _); conv => whnf)
  subst hC
  refine aw_cut _ _ rfl fun C hC => ?_
  conv => whnf
  repeat ((first | (refine aI ?_ ?_; focus exact sI) | refine dI sK ?_ | (refine yI ?_ ?_; focus exact sY) | (refine nI ?_ ?_; focus exact sY) | intro _); conv => whnf)
  try (refine dI sK ?_; conv => whnf)
  first | refine u0 h1 ?_ | refine v0 h1 ?_
  rintro _ _ ⟨rfl, rfl⟩ _
  conv => whnf
  repeat ((first | (refine aI ?_ ?_; focus exact sI) | refine dI sK ?_ | (refine yI ?_ ?_; focus exact sY) | (refine nI ?_ ?_; focus exact sY) | intro _); conv => whnf)
  subst hC
  refine aw_cut _ _ rfl fun C hC => ?_
  conv => whnf
  repeat ((first | (refine aI ?_ ?_; focus exact sI) | refine dI sK ?_ | (refine yI ?_ ?_; focus exact sY) | (refine nI ?_ ?_; focus exact sY) | intro _); conv => whnf)
  try (refine dI sK ?_; conv => whnf)
  first | refine u0 hw ?_ | refine v0 hw ?_
  rintro _ _ ⟨rfl, rfl⟩ _
  conv => whnf
  subst hC
  repeat ((first | (refine aI ?_ ?_; focus exact sI) | refine dI sK ?_ | (refine yI ?_ ?_; focus exact sY) | (refine nI ?_ ?_; focus exact sY) | intro _); conv => whnf)
  all_goals exact sR
 | true =>
  rw [hs] at h1
  simp only at h1
  by_cases hv : (sigF sig 0 sig).2 = 0
  ·have h2 := cRSwap sig hs n
   have hv1 := (sigF_iff sig sig 0).2 hv
   rw [hv, hv1] at h1
   rcases swap_cases sig n with ⟨hE, hF⟩ | ⟨q, rfl, _, hq, hu, hE, hF⟩
   ·have hE0 : swapE sig n ≠ 0 := by rcases hE with h | h | h <;> rw [h] <;> decide
    have ez : decide (swapE sig n = 0) = false := decide_eq_false hE0
    rw [hF, show dcs [] = [] from rfl] at h2
    generalize swapE sig n = e at *
    generalize (sigF sig 0 sig) = X at *
    refine call_pure (E := envW6 0) (fn := Tryz.f4) (c := bodyOf Tryz.f4) (envW6_ok 0) mixed sK sK sK sK sK sK rfl ?_
    refine aw_cut _ _ rfl fun C hC => ?_
    conv => whnf
    repeat ((first | (refine aI ?_ ?_; focus exact sI) | refine dI sK ?_ | (refine yI ?_ ?_; focus exact sY) | (refine nI ?_ ?_; focus exact sY) | intro _); conv => whnf)
    subst hC
    refine aw_cut _ _ rfl fun C hC => ?_
    conv => whnf
    repeat ((first | (refine aI ?_ ?_; focus exact sI) | refine dI sK ?_ | (refine yI ?_ ?_; focus exact sY) | (refine nI ?_ ?_; focus exact sY) | intro _); conv => whnf)
    try (refine dI sK ?_; conv => whnf)
    first | refine u0 h1 ?_ | refine v0 h1 ?_
    rintro _ _ ⟨rfl, rfl⟩ _
    conv => whnf
    repeat ((first | (refine aI ?_ ?_; focus exact sI) | refine dI sK ?_ | (refine yI ?_ ?_; focus exact sY) | (refine nI ?_ ?_; focus exact sY) | intro _); conv => whnf)
    subst hC
    refine aw_cut _ _ rfl fun C hC => ?_
    conv => whnf
    repeat ((first | (refine aI ?_ ?_; focus exact sI) | refine dI sK ?_ | (refine yI ?_ ?_; focus exact sY) | (refine nI ?_ ?_; focus exact sY) | intro _); conv => whnf)
    subst hC
    refine aw_cut _ _ rfl fun C hC => ?_
    conv => whnf
    repeat ((first | (refine aI ?_ ?_; focus exact sI) | refine dI sK ?_ | (refine yI ?_ ?_; focus exact sY) | (refine nI ?_ ?_; focus exact sY) | intro _); conv => whnf)
    try (refine dI sK ?_; conv => whnf)
    first | refine u0 h2 ?_ | refine v0 h2 ?_
    rintro _ _ ⟨rfl, rfl⟩ _
    conv => whnf
    repeat ((first | (refine aI ?_ ?_; focus exact sI) | refine dI sK ?_ | (refine yI ?_ ?_; focus exact sY) | (refine nI ?_ ?_; focus exact sY) | intro _); conv => whnf)
    subst hC
    refine aw_cut _ _ rfl fun C hC => ?_
    conv => whnf
    repeat ((first | (refine aI ?_ ?_; focus exact sI) | refine dI sK ?_ | (refine yI ?_ ?_; focus exact sY) | (refine nI ?_ ?_; focus exact sY) | intro _); conv => whnf)
    rw [ez]
    (refine yI ?_ ?_; (focus exact sY); conv => whnf)
    try (refine dI sK ?_; conv => whnf)
    first | refine u0 hw ?_ | refine v0 hw ?_
    rintro _ _ ⟨rfl, rfl⟩ _
    conv => whnf
    subst hC
    repeat ((first | (refine aI ?_ ?_; focus exact sI) | refine dI sK ?_ | (refine yI ?_ ?_; focus exact sY) | (refine nI ?_ ?_; focus exact sY) | intro _); conv => whnf)
    all_goals exact sR
   ·have h3 := cKSignature (swX sig q)
    have hok := swX_ok hs hq hu
    have hva := swap_valid hs hq hu hv
    have hvb := (sigF_iff (swX sig q) (swX sig q) 0).2 hva
    unfold ksigF at h3
    rw [hok] at h3
    simp only at h3
    rw [hva, hvb, swX_len, Nat.zero_add, ← hsl] at h3
    rw [hE, hF] at h2
    refine call_pure (E := envW6 0) (fn := Tryz.f4) (c := bodyOf Tryz.f4) (envW6_ok 0) mixed sK sK sK sK sK sK rfl ?_
    refine aw_cut _ _ rfl fun C hC => ?_
    conv => whnf
    repeat ((first | (refine aI ?_ ?_; focus exact sI) | refine dI sK ?_ | (refine yI ?_ ?_; focus exact sY) | (refine nI ?_ ?_; focus exact sY) | intro _); conv => whnf)
    subst hC
    refine aw_cut _ _ rfl fun C hC => ?_
    conv => whnf
    repeat ((first | (refine aI ?_ ?_; focus exact sI) | refine dI sK ?_ | (refine yI ?_ ?_; focus exact sY) | (refine nI ?_ ?_; focus exact sY) | intro _); conv => whnf)
    try (refine dI sK ?_; conv => whnf)
    first | refine u0 h1 ?_ | refine v0 h1 ?_
    rintro _ _ ⟨rfl, rfl⟩ _
    conv => whnf
    repeat ((first | (refine aI ?_ ?_; focus exact sI) | refine dI sK ?_ | (refine yI ?_ ?_; focus exact sY) | (refine nI ?_ ?_; focus exact sY) | intro _); conv => whnf)
    subst hC
    refine aw_cut _ _ rfl fun C hC => ?_
    conv => whnf
    repeat ((first | (refine aI ?_ ?_; focus exact sI) | refine dI sK ?_ | (refine yI ?_ ?_; focus exact sY) | (refine nI ?_ ?_; focus exact sY) | intro _); conv => whnf)
    subst hC
    refine aw_cut _ _ rfl fun C hC => ?_
    conv => whnf
    repeat ((first | (refine aI ?_ ?_; focus exact sI) | refine dI sK ?_ | (refine yI ?_ ?_; focus exact sY) | (refine nI ?_ ?_; focus exact sY) | intro _); conv => whnf)
    try (refine dI sK ?_; conv => whnf)
    first | refine u0 h2 ?_ | refine v0 h2 ?_
    rintro _ _ ⟨rfl, rfl⟩ _
    conv => whnf
    repeat ((first | (refine aI ?_ ?_; focus exact sI) | refine dI sK ?_ | (refine yI ?_ ?_; focus exact sY) | (refine nI ?_ ?_; focus exact sY) | intro _); conv => whnf)
    subst hC
    conv => whnf
    repeat ((first | (refine aI ?_ ?_; focus exact sI) | refine dI sK ?_ | (refine yI ?_ ?_; focus exact sY) | (refine nI ?_ ?_; focus exact sY) | intro _); conv => whnf)
    try (refine dI sK ?_; conv => whnf)
    first | refine u0 h3 ?_ | refine v0 h3 ?_
    rintro _ _ ⟨rfl, rfl⟩ _
    conv => whnf
    repeat ((first | (refine aI ?_ ?_; focus exact sI) | refine dI sK ?_ | (refine yI ?_ ?_; focus exact sY) | (refine nI ?_ ?_; focus exact sY) | intro _); conv => whnf)
    try (refine dI sK ?_; conv => whnf)
    first | refine u0 hw ?_ | refine v0 hw ?_
    rintro _ _ ⟨rfl, rfl⟩ _
    conv => whnf
    repeat ((first | (refine aI ?_ ?_; focus exact sI) | refine dI sK ?_ | (refine yI ?_ ?_; focus exact sY) | (refine nI ?_ ?_; focus exact sY) | intro _); conv => whnf)
    all_goals exact sR
  ·have ez : decide ((sigF sig 0 sig).2 = 0) = false := decide_eq_false hv
   generalize (sigF sig 0 sig) = X at *
   obtain ⟨x, e⟩ := X
   simp only at h1 ez
   refine call_pure (E := envW6 0) (fn := Tryz.f4) (c := bodyOf Tryz.f4) (envW6_ok 0) mixed sK sK sK sK sK sK rfl ?_
   refine aw_cut _ _ rfl fun C hC => ?_
   conv => whnf
   repeat ((first | (refine aI ?_ ?_; focus exact sI) | refine dI sK ?_ | (refine yI ?_ ?_; focus exact sY) | (refine nI ?_ ?_; focus exact sY) | intro _); conv => whnf)
   subst hC
   refine aw_cut _ _ rfl fun C hC => ?_
   conv => whnf
   repeat ((first | (refine aI ?_ ?_; focus exact sI) | refine dI sK ?_ | (refine yI ?_ ?_; focus exact sY) | (refine nI ?_ ?_; focus exact sY) | intro _); conv => whnf)
   try (refine dI sK ?_; conv => whnf)
   first | refine u0 h1 ?_ | refine v0 h1 ?_
   rintro _ _ ⟨rfl, rfl⟩ _
   conv => whnf
   repeat ((first | (refine aI ?_ ?_; focus exact sI) | refine dI sK ?_ | (refine yI ?_ ?_; focus exact sY) | (refine nI ?_ ?_; focus exact sY) | intro _); conv => whnf)
   subst hC
   refine aw_cut _ _ rfl fun C hC => ?_
   conv => whnf
   repeat ((first | (refine aI ?_ ?_; focus exact sI) | refine dI sK ?_ | (refine yI ?_ ?_; focus exact sY) | (refine nI ?_ ?_; focus exact sY) | intro _); conv => whnf)
   rw [ez]
   (refine yI ?_ ?_; (focus exact sY); conv => whnf)
   try (refine dI sK ?_; conv => whnf)
   first | refine u0 hw ?_ | refine v0 hw ?_
   rintro _ _ ⟨rfl, rfl⟩ _
   conv => whnf
   subst hC
   repeat ((first | (refine aI ?_ ?_; focus exact sI) | refine dI sK ?_ | (refine yI ?_ ?_; focus exact sY) | (refine nI ?_ ?_; focus exact sY) | intro _); conv => whnf)
   all_goals exact sR
end Go.Tr
/- right; CheckUnique. -/
namespace Go.Tr
open Go.Proofs
structure RightP (sig : List Dcl) (cx : List Term) : Prop where
 kv : KVal ⟨sig, []⟩
 co : COk cx
 cv : CVal ⟨sig, []⟩ cx
 ck : checkB sig = true
end Go.Tr
/- The laws, for what is handed in. -/
namespace Go.Tr
open Go.Proofs
end Go.Tr
