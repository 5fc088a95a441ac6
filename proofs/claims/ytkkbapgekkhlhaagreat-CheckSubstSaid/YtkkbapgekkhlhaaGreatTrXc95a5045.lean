/- What each function computes, and the plain laws of it. -/
import Derived.WalkKit
import Derived.ProofKit
import Derived.OpenShut
import Derived.ShutString
import Derived.ChangeOld
import Derived.ChangeMaps5
import Derived.Below
import Derived.SizedLaws
import Derived.Test.YtkkbapgekkhlhaaGreatChecked
import Derived.Test.YtkkbapgekkhlhaaGreatRows
import Derived.Shelf.SlIterI.Nil
import Derived.Shelf.SortM.Plain
import Derived.Shelf.SortM.SortNone
import Derived.Test.YtkkbapgekkhlhaaGreatTrX34e6a9fd
set_option linter.unusedVariables false
set_option linter.unusedSimpArgs false
set_option linter.unnecessarySimpa false
set_option linter.constructorNameAsVariable false
set_option autoImplicit false
/- What is handed in, read as cells: generic. -/
namespace Go.Tr
open Go.ChangeShapes Go.WideShapes Go.ChangeAt Go.RowKit
def noS : Nat → Prop := fun _ => False
theorem choose_list {α : Type} {R : Nat → α → Prop} : ∀ (n : Nat), (∀ i, i < n → ∃ t, R i t) → ∃ ts : List α, ts.length = n ∧ ∀ (i : Nat) t, ts[i]? = some t → R i t
 | 0, _ => ⟨[], rfl, fun i t h => by simp at h⟩
 | n + 1, h => by
  obtain ⟨ts, h1, h2⟩ := choose_list n fun i hi => h i (by omega)
  obtain ⟨t, ht⟩ := h n (by omega)
  refine ⟨ts ++ [t], by simp [h1], fun i u hu => ?_⟩
  rcases Nat.lt_or_ge i ts.length with hi | hi
  ·rw [List.getElem?_append_left hi] at hu
   exact h2 i u hu
  ·rw [List.getElem?_append_right hi] at hu
   have : i - ts.length = 0 := by
    have := (List.getElem?_eq_some_iff.1 hu).1
    simp at this
    omega
   rw [this] at hu
   simp at hu
   subst hu
   have : i = n := by omega
   subst this
   exact ht
theorem spot_of {w : World} {a : Addr} {v : Value} (h : w.cell? a = some v) : a.spot = none ∧ cellAt w.heap a.block a.off = some v := by
 obtain ⟨B, off, sp⟩ := a
 unfold World.cell? at h
 cases sp with
 | none =>
  refine ⟨rfl, ?_⟩
  simp only [Option.isSome_none, Bool.false_eq_true, if_false] at h
  unfold cellAt
  simp only
  split at h <;> simp_all
 | some q =>
  simp only [Option.isSome_some, if_true] at h
  split at h <;> cases h
theorem add_spot {a : Addr} (h : a.spot = none) (i : Nat) : a.add i = ⟨a.block, a.off + i, none⟩ := by
 obtain ⟨B, off, sp⟩ := a
 simp only at h
 subst h
 exact Addr.add_lit ..
theorem rows_of' {h : Array Obj} {B sz : Nat} : ∀ (es : List (List CV)) (off : Nat), (∀ e ∈ es, e.length = sz) → (∀ (i : Nat) e, es[i]? = some e → ∃ cs, CellsV h noS e cs ∧ ∀ j v, cs[j]? = some v → cellAt h B (off + i * sz + j) = some v) → RowsR h noS es B off
 | [], off, _, _ => by simp [RowsR]
 | t :: r, off, hl, hx => by
  simp only [RowsR]
  obtain ⟨cs, h1, h2⟩ := hx 0 t (by simp)
  refine ⟨CellsR_of h1 (fun h => h) (fun j v hv => by simpa using h2 j v hv), ?_⟩
  rw [hl t (by simp)]
  refine rows_of' r (off + sz) (fun e he => hl e (List.mem_cons_of_mem _ he)) fun i u hu => ?_
  obtain ⟨cs, h1, h2⟩ := hx (i + 1) u (by simpa using hu)
  exact ⟨cs, h1, fun j v hv => by rw [show off + sz + i * sz + j = off + (i + 1) * sz + j by rw [Nat.add_mul]; omega]; exact h2 j v hv⟩
theorem weights_mem {H : Type} {P : Program} {e : TypeId} : ∀ {l : List (DataW H)} {d : DataW H}, d ∈ l → ∀ n ∈ d.weights P e, n ∈ DataW.weightsAll P e l
 | [], d, h, _, _ => by cases h
 | x :: r, d, h, n, hn => by
  simp only [DataW.weightsAll, List.mem_append]
  rcases List.mem_cons.1 h with rfl | h
  ·exact .inl hn
  ·exact .inr (weights_mem h n hn)
theorem weightsEach_mem {H : Type} {P : Program} : ∀ {ts : List TypeId} {l : List (DataW H)} {i : Nat} {t : TypeId} {d : DataW H}, ts[i]? = some t → l[i]? = some d → ∀ n ∈ d.weights P t, n ∈ DataW.weightsEach P ts l
 | [], _, i, t, d, h, _, _, _ => by simp at h
 | _ :: _, [], i, t, d, _, h, _, _ => by simp at h
 | t' :: ts, d' :: l, 0, t, d, h1, h2, n, hn => by
  simp at h1 h2
  subst h1 h2
  simp only [DataW.weightsEach, List.mem_append]
  exact .inl hn
 | t' :: ts, d' :: l, i + 1, t, d, h1, h2, n, hn => by
  simp only [DataW.weightsEach, List.mem_append]
  exact .inr (weightsEach_mem (i := i) (by simpa using h1) (by simpa using h2) n hn)
theorem weights_slice {H : Type} {P : Program} {t e : TypeId} (ht : P.underlying t = some (.slice e)) (el sp : List (DataW H)) : (DataW.slice el sp).weights P t = (el.length + sp.length) * P.bytesOf e :: (DataW.weightsAll P e el ++ DataW.weightsAll P e sp) := by
 rw [DataW.weights, ht]
theorem weights_struct {H : Type} {P : Program} {t : TypeId} {fs : Array Field} (ht : P.underlying t = some (.struct fs)) (ps : List (DataW H)) : (DataW.agg ps).weights P t = DataW.weightsEach P (fs.toList.map (·.type)) ps := by
 rw [DataW.weights, ht]
theorem cvr_int {h : Array Obj} {S : Nat → Prop} {k : IntKind} {n : Int} : CVR h S (.int k n) (.int k n) := by unfold CVR; rfl
theorem cvr_bool {h : Array Obj} {S : Nat → Prop} {b : Bool} : CVR h S (.bool b) (.bool b) := by unfold CVR; rfl
theorem cvr_str {h : Array Obj} {S : Nat → Prop} {s : ByteArray} : CVR h S (.str s) (.string s) := by unfold CVR; rfl
theorem cv_nil {h : Array Obj} {S : Nat → Prop} : CellsV h S [] [] := by unfold CellsV; rfl
theorem cv_one {h : Array Obj} {S : Nat → Prop} {x : CV} {v : Value} (hx : CVR h S x v) : CellsV h S [x] [v] := by unfold CellsV; exact ⟨v, [], rfl, hx, cv_nil⟩
theorem cv_app {h : Array Obj} {S : Nat → Prop} : ∀ {xs ys : List CV} {vs us : List Value}, CellsV h S xs vs → CellsV h S ys us → CellsV h S (xs ++ ys) (vs ++ us)
 | [], ys, vs, us, h1, h2 => by simp only [CellsV] at h1; subst h1; exact h2
 | x :: xs, ys, vs, us, h1, h2 => by
  simp only [CellsV] at h1
  obtain ⟨v, r, rfl, h3, h4⟩ := h1
  simp only [List.cons_append, CellsV]
  exact ⟨v, _, rfl, h3, cv_app h4 h2⟩
def ShL (R : TypeId → List CV → Prop) : List TypeId → List CV → Prop
 | [], xs => xs = []
 | T :: Ts, xs => ∃ ys zs, xs = ys ++ zs ∧ R T ys ∧ ShL R Ts zs
def Sh (ty : TypeId → TyD) : Nat → TypeId → List CV → Prop
 | 0, _, _ => False
 | n + 1, T, xs => match (ty T).k with
  | .int k => ∃ z, xs = [.int k z] ∧ (Lit.int k z).wf = true
  | .bool => ∃ b, xs = [.bool b]
  | .str => ∃ s : ByteArray, xs = [.str s] ∧ s.size ≤ maxLen
  | .slice e => ∃ es, xs = [.sl (ty e).size (ty e).bytes es] ∧ es.length * (ty e).bytes ≤ 140737488351232 ∧ ∀ r ∈ es, Sh ty n e r
  | .struct fs => ShL (Sh ty n) (fs.map (·.2)) xs
  | _ => False
def contB (ty : TypeId → TyD) : Nat → List (Nat × TypeId) → Nat → Bool
 | o, [], n => decide (o = n)
 | o, (o', T) :: r, n => decide (o = o') && contB ty (o + (ty T).size) r n
def cl1 (ty : TypeId → TyD) (L : List TypeId) (T : TypeId) : Bool :=
 match (ty T).k with
  | .int _ => decide ((ty T).size = 1)
  | .bool => decide ((ty T).size = 1)
  | .str => decide ((ty T).size = 1)
  | .slice e => decide ((ty T).size = 1) && L.contains e && decide ((ty e).size ≠ 0)
  | .struct fs => contB ty 0 fs (ty T).size && fs.all (fun f => L.contains f.2)
  | _ => false
theorem cellsOf_ty {P : Program} {T : TypeId} {d : TyD} (h : TyR P T d) : P.cellsOf T = d.size := by
 obtain ⟨i, z, h1, h2, _⟩ := h.info
 unfold Program.cellsOf
 rw [h1]
 exact h2
theorem bytesOf_ty {P : Program} {T : TypeId} {d : TyD} (h : TyR P T d) : P.bytesOf T = d.bytes := by
 obtain ⟨i, z, h1, _, h3, _⟩ := h.info
 unfold Program.bytesOf
 rw [h1]
 exact h3
section
variable {H : Type} {enc : TypeId × Value → H} {P : Program} {E : Env} {W : World} {L : List TypeId}
theorem open_flds (he : EnvOk P E) {W : World} {n : Nat} {ys : List (DataW H × List MemPlace)} {R : TypeId → List CV → Prop} : ∀ (fs : List (Nat × TypeId)) (i o tot : Nat) (cs : List Value), contB E.ty o fs tot = true → cs.length = tot →
  (∀ (j : Nat) f, fs[j]? = some f → (match (E.ty f.2).k with | .unknown => False | _ => True) ∧ ∃ y, ys[i + j]? = some y ∧ DataW.trod enc P W 0 (fun _ => true) true n f.2 ((cs.drop f.1).take (P.cellsOf f.2)) = some y ∧
   ∀ us, DataW.trod enc P W 0 (fun _ => true) true n f.2 us = some y → ∃ xs, R f.2 xs ∧ CellsV W.heap noS xs us) →
  ∃ xs, ShL R (fs.map (·.2)) xs ∧ CellsV W.heap noS xs (cs.drop o)
 | [], i, o, tot, cs, hc, hl, _ => by
  simp only [contB, decide_eq_true_eq] at hc
  exact ⟨[], rfl, by rw [List.drop_eq_nil_of_le (by omega)]; exact cv_nil⟩
 | f :: r, i, o, tot, cs, hc, hl, hx => by
  obtain ⟨o', T⟩ := f
  simp only [contB, Bool.and_eq_true, decide_eq_true_eq] at hc
  obtain ⟨rfl, hc⟩ := hc
  obtain ⟨hk, y, h1, h2, h3⟩ := hx 0 (o, T) (by simp)
  obtain ⟨xs, h4, h5⟩ := h3 _ h2
  obtain ⟨zs, h6, h7⟩ := open_flds he (R := R) r (i + 1) (o + (E.ty T).size) tot cs hc hl fun j f hf => by
   have := hx (j + 1) f (by simpa using hf)
   rwa [show i + 1 + j = i + (j + 1) by omega]
  refine ⟨xs ++ zs, ⟨xs, zs, rfl, h4, h6⟩, ?_⟩
  have hs : cs.drop o = (cs.drop o).take (E.ty T).size ++ cs.drop (o + (E.ty T).size) := by
   rw [← List.drop_drop, List.take_append_drop]
  rw [hs]
  rw [cellsOf_ty (he T hk)] at h5
  exact cv_app h5 h7
theorem open_cv (he : EnvOk P E) (hcl : L.all (cl1 E.ty L) = true) : ∀ (fuel : Nat) {T : TypeId} {cs : List Value} {x : DataW H × List MemPlace}, T ∈ L → DataW.trod enc P W 0 (fun _ => true) true fuel T cs = some x →
  (∀ n ∈ x.1.weights P T, n ≤ reachBytes) → ∃ xs, Sh E.ty fuel T xs ∧ CellsV W.heap noS xs cs ∧ cs.length = (E.ty T).size := by
 intro fuel
 induction fuel using Nat.strongRecOn with
 | _ fuel ih =>
 intro T cs x hT h hw
 have hc := List.all_eq_true.1 hcl T hT
 unfold cl1 at hc
 have hty := he T
 obtain ⟨m, rfl⟩ : ∃ m, fuel = m + 1 := by
  cases fuel with
  | zero => simp [DataW.trod] at h
  | succ m => exact ⟨m, rfl⟩
 simp only [Sh]
 have hund := fun q => (hty q).und
 cases hk : (E.ty T).k with
 | int k =>
  simp only [hk, decide_eq_true_eq] at hc hund
  obtain ⟨z, rfl, rfl, hz⟩ := DataW.trod_int (hund trivial) h
  exact ⟨[.int k z], ⟨z, rfl, hz⟩, cv_one cvr_int, by rw [hc]; rfl⟩
 | bool =>
  simp only [hk, decide_eq_true_eq] at hc hund
  obtain ⟨z, rfl, rfl⟩ := DataW.trod_bool (hund trivial) h
  exact ⟨[.bool z], ⟨z, rfl⟩, cv_one cvr_bool, by rw [hc]; rfl⟩
 | str =>
  simp only [hk, decide_eq_true_eq] at hc hund
  obtain ⟨z, rfl, rfl, hz⟩ := DataW.trod_string (hund trivial) h
  exact ⟨[.str z], ⟨z, rfl, hz⟩, cv_one cvr_str, by rw [hc]; rfl⟩
 | slice e =>
  simp only [hk, Bool.and_eq_true, decide_eq_true_eq] at hc hund
  obtain ⟨⟨hsz, hLe⟩, hez⟩ := hc
  have hLe' : e ∈ L := by simpa using hLe
  have hce := List.all_eq_true.1 hcl e hLe'
  have htye : TyR P e (E.ty e) := he e (by
   unfold cl1 at hce
   split <;> simp_all)
  have ce := cellsOf_ty htye
  have be := bytesOf_ty htye
  have fin : ∀ (es : List (List CV)) v, CVR W.heap noS (.sl (E.ty e).size (E.ty e).bytes es) v → es.length * (E.ty e).bytes ≤ 140737488351232 → (∀ r ∈ es, Sh E.ty m e r) →
    ∃ xs, (∃ es, xs = [.sl (E.ty e).size (E.ty e).bytes es] ∧ es.length * (E.ty e).bytes ≤ 140737488351232 ∧ ∀ r ∈ es, Sh E.ty m e r) ∧ CellsV W.heap noS xs [v] ∧ [v].length = (E.ty T).size :=
   fun es v h1 h2 h3 => ⟨_, ⟨es, rfl, h2, h3⟩, cv_one h1, by rw [hsz]; rfl⟩
  rcases DataW.trod_slice (hund trivial) h with ⟨rfl, rfl⟩ | ⟨a, len, cap, elems, rest, n', hn, rfl, rfl, _, hlc, _, hel, hat2, _, _⟩
  ·refine fin [] _ ?_ (by simp) (fun r hr => by cases hr)
   unfold CVR
   exact ⟨none, 0, 0, rfl, rfl, Nat.le_refl _, (by simp), fun e he => absurd he List.not_mem_nil, fun _ => ⟨rfl, rfl⟩, fun ad h => (by cases h)⟩
  ·obtain rfl : m = n' := by omega
   rw [weights_slice (hund trivial)] at hw
   have hb : ((elems.map (·.1)).length + (rest.map (·.1)).length) * P.bytesOf e ≤ reachBytes := hw _ (List.mem_cons.2 (.inl rfl))
   rw [be, List.length_map, List.length_map, hel] at hb
   have hb2 : len * (E.ty e).bytes ≤ 140737488351232 := by
    have h9 : reachBytes = 140737488351232 := by decide
    have : len * (E.ty e).bytes ≤ (len + rest.length) * (E.ty e).bytes := Nat.mul_le_mul_right _ (by omega)
    omega
   obtain ⟨es, ht1, ht2⟩ := choose_list (R := fun i r => ∃ cs, W.cells? 0 (a.add (i * (E.ty e).size)) (E.ty e).size = some cs ∧ CellsV W.heap noS r cs ∧ Sh E.ty m e r ∧ r.length = (E.ty e).size) len fun i hi => by
    have h4 := hat2 i hi
    rw [ce] at h4
    have hil : i < elems.length := by omega
    rw [List.getElem?_eq_getElem hil, Option.bind_eq_some_iff] at h4
    obtain ⟨cs, h5, h6⟩ := h4
    obtain ⟨r, hr1, hr2, hr3⟩ := ih m (by omega) hLe' h6 (fun q hq => hw q (List.mem_cons_of_mem _ (List.mem_append.2 (.inl (weights_mem (d := elems[i].1) (List.mem_map.2 ⟨_, List.getElem_mem hil, rfl⟩) q hq)))))
    exact ⟨r, cs, h5, hr2, hr1, by rw [← hr2.len, hr3]⟩
   have hsizes : ∀ r ∈ es, r.length = (E.ty e).size := fun r hr => by
    obtain ⟨i, hi⟩ := List.mem_iff_getElem?.1 hr
    obtain ⟨_, _, _, _, h⟩ := ht2 i r hi
    exact h
   refine fin es _ ?_ (by rw [ht1]; exact hb2) (fun r hr => ?_)
   ·unfold CVR
    refine ⟨some a, len, cap, rfl, ht1.symm, hlc, by rw [ht1]; omega, hsizes, fun h => (by cases h), fun ad had => ?_⟩
    injection had with had
    subst had
    by_cases hz2 : es = []
    ·exact .inl hz2
    ·right
     have key : ∀ (i : Nat) t, es[i]? = some t → ∃ cs, CellsV W.heap noS t cs ∧ ∀ j v, cs[j]? = some v → W.cell? ((a.add (i * (E.ty e).size)).add j) = some v := fun i t hi => by
      obtain ⟨cs, h5, h6, _⟩ := ht2 i t hi
      obtain ⟨_, h7, h8⟩ := World.cells?_some h5
      exact ⟨cs, h6, fun j v hv => by rw [h8 j (by have := (List.getElem?_eq_some_iff.1 hv).1; omega)]; exact hv⟩
     have hsp : a.spot = none := by
      have h0 : 0 < es.length := List.length_pos_iff.2 hz2
      obtain ⟨cs, h5, h6⟩ := key 0 es[0] (by simp)
      have h7 := h5.len
      rw [hsizes _ (List.getElem_mem h0)] at h7
      have h8 := h6 0 (cs[0]'(by omega)) (List.getElem?_eq_getElem (by omega))
      simpa [Addr.add] using (spot_of h8).1
     refine ⟨hsp, rows_of' es a.off hsizes fun i t hi => ?_⟩
     obtain ⟨cs, h5, h6⟩ := key i t hi
     refine ⟨cs, h5, fun j v hv => ?_⟩
     have h7 := h6 j v hv
     rw [add_spot hsp, Addr.add_lit] at h7
     exact (spot_of h7).2
   ·obtain ⟨i, hi⟩ := List.mem_iff_getElem?.1 hr
    obtain ⟨_, _, _, h, _⟩ := ht2 i r hi
    exact h
 | struct fs =>
  simp only [hk, Bool.and_eq_true] at hc hund
  obtain ⟨F, hF, hfs, hF2⟩ := hund trivial
  obtain ⟨ys, n, hn, rfl, hcl2, hyl, hat⟩ := DataW.trod_struct hF h
  obtain rfl : m = n := by omega
  have hsz := cellsOf_ty (hty (by rw [hk]; trivial))
  rw [weights_struct hF] at hw
  obtain ⟨xs, h1, h2⟩ := open_flds (enc := enc) (n := m) (ys := ys) (R := Sh E.ty m) he (W := W) fs 0 0 (E.ty T).size cs hc.1 (by rw [hcl2, hsz]) fun j f hf => by
   have hfL : f.2 ∈ L := by
    have := List.all_eq_true.1 hc.2 f (List.mem_of_getElem? hf)
    simpa using this
   have hcf := List.all_eq_true.1 hcl f.2 hfL
   have hkf : (match (E.ty f.2).k with | .unknown => False | _ => True) := by
    unfold cl1 at hcf
    split <;> simp_all
   rw [hfs, List.getElem?_map, Option.map_eq_some_iff] at hf
   obtain ⟨g, hg, rfl⟩ := hf
   have hg' : F[j]? = some g := by simpa using hg
   have hj : j < ys.length := by rw [hyl]; exact (Array.getElem?_eq_some_iff.1 hg').1
   refine ⟨hkf, ys[j], by simp, by rw [hat j g hg']; simp [hj], fun us hus => ?_⟩
   obtain ⟨xs, h1, h2, _⟩ := ih m (by omega) hfL hus fun q hq => hw q (weightsEach_mem (i := j) (t := g.type) (d := ys[j].1) (by rw [List.getElem?_map, hg]; rfl) (by rw [List.getElem?_map, List.getElem?_eq_getElem hj]; rfl) q hq)
   exact ⟨xs, h1, h2⟩
  exact ⟨xs, h1, by simpa using h2, by rw [hcl2, hsz]⟩
 | _ => simp [hk] at hc
def avOf (k : TK) (xs : List CV) : AV :=
 match k with
 | .struct _ => .agg (xs.map .c)
 | _ => match xs with | [x] => .c x | _ => .top
theorem avrs_cv {h : Array Obj} {S : Nat → Prop} {κ : Nat → Bind} : ∀ (xs : List CV) (vs : List Value), CellsV h S xs vs → AVRs h S κ (xs.map .c) vs
 | [], vs, hv => by simp only [CellsV] at hv; simpa only [List.map_nil, AVRs] using hv
 | x :: r, vs, hv => by
  simp only [CellsV] at hv
  obtain ⟨v, q, rfl, h1, h2⟩ := hv
  simp only [List.map_cons, AVRs, AVR]
  exact ⟨v, q, rfl, h1, avrs_cv r q h2⟩
theorem open_arg (he : EnvOk P E) (hcl : L.all (cl1 E.ty L) = true) {T : TypeId} {v : Value} {d : DataW H} {ps : List MemPlace} {base : Nat} (hT : T ∈ L) (hval : Value.okWide P W .any base T v) (h : DataW.Trod enc P W 0 (fun _ => true) true T v d ps)
  (hw : ∀ n ∈ d.weights P T, n ≤ reachBytes) : ∃ fuel xs, Sh E.ty fuel T xs ∧ AVR W.heap noS (fun _ => .none) (avOf (E.ty T).k xs) v := by
 obtain ⟨fuel, hf⟩ := h
 obtain ⟨xs, h1, h2, _⟩ := open_cv he hcl fuel hT hf hw
 refine ⟨fuel, xs, h1, ?_⟩
 have hc := List.all_eq_true.1 hcl T hT
 unfold cl1 at hc
 have hund := fun q => (he T q).und
 have one : ∀ u, v = u → v.cells.toList = [v] → ∀ y, xs = [y] → AVR W.heap noS (fun _ => .none) (.c y) v := by
  intro u hu hv y hy
  rw [hv, hy] at h2
  simp only [CellsV] at h2
  obtain ⟨v', r, h3, h4, h5⟩ := h2
  obtain rfl := (List.cons.inj h3).1
  simpa only [AVR] using h4
 cases fuel with
 | zero => simp only [Sh] at h1
 | succ m =>
 simp only [Sh] at h1
 cases hk : (E.ty T).k with
 | int k =>
  simp only [hk] at hund h1
  obtain ⟨n, rfl⟩ := okWide_int (hund trivial) hval
  obtain ⟨z, rfl, _⟩ := h1
  exact one _ rfl rfl _ rfl
 | bool =>
  simp only [hk] at hund h1
  obtain ⟨n, rfl⟩ := okWide_bool (hund trivial) hval
  obtain ⟨z, rfl⟩ := h1
  exact one _ rfl rfl _ rfl
 | str =>
  simp only [hk] at hund h1
  obtain ⟨n, rfl⟩ := okWide_string (hund trivial) hval
  obtain ⟨z, rfl, _⟩ := h1
  exact one _ rfl rfl _ rfl
 | slice e =>
  simp only [hk] at hund h1
  obtain ⟨a, b, c, rfl⟩ := okWide_slice (hund trivial) hval
  obtain ⟨z, rfl, _⟩ := h1
  exact one _ rfl rfl _ rfl
 | struct fs =>
  simp only [hk] at hund
  obtain ⟨F, hF, _, _⟩ := hund trivial
  unfold Value.okWide at hval
  rw [hF] at hval
  obtain ⟨cs, rfl, _⟩ := hval
  simp only [avOf, AVR]
  exact ⟨cs, rfl, avrs_cv xs _ h2⟩
 | _ => simp [hk] at hc
theorem below_of {w w' : World} {S S' O : Nat → Prop} (h : FrameR w S O w' S') (hO : ∀ B, ¬ O B) : Below w.heap.size w w' :=
 ⟨h.os, h.tape, h.output, h.size, fun k hk => h.keep k hk (hO k)⟩
theorem law_calls {f : FuncId} {args : List AV} {W : World} {vs : List Value} (h : CallSt P f args [] (fun r H' => r = .c (.bool true) ∧ H' = [])) (hv : AVRs W.heap noS (fun _ => .none) args vs) :
  Calls P f vs.toArray W fun e W' => e = .returned (.bool true) ∧ Below W.heap.size W W' := by
 unfold CallSt at h
 have hh : HR W.heap noS (fun _ => .none) [] := ⟨fun i e hi => by simp at hi, fun _ _ => rfl, fun i B hi => by simp [ownAt] at hi, fun i j B hi => by simp [ownAt] at hi, fun B hB => hB.elim⟩
 refine (h.2 W noS _ vs hh hv).mono ?_
 rintro e w' ⟨v, r, H', κ', S', rfl, ⟨rfl, rfl⟩, m, hr⟩
 simp only [AVR, CVR] at hr
 subst hr
 exact ⟨rfl, below_of m.fr fun B ⟨i, hi⟩ => by simp [ownAt] at hi⟩
end
section
variable {ty : TypeId → TyD} {n : Nat} {T : TypeId} {xs : List CV}
theorem sh_int {k : IntKind} (hk : (ty T).k = .int k) (h : Sh ty n T xs) : ∃ z, xs = [.int k z] ∧ (Lit.int k z).wf = true := by
 cases n with
 | zero => simp only [Sh] at h
 | succ m => simpa only [Sh, hk] using h
theorem sh_bool (hk : (ty T).k = .bool) (h : Sh ty n T xs) : ∃ b, xs = [.bool b] := by
 cases n with
 | zero => simp only [Sh] at h
 | succ m => simpa only [Sh, hk] using h
theorem sh_str (hk : (ty T).k = .str) (h : Sh ty n T xs) : ∃ s : ByteArray, xs = [.str s] ∧ s.size ≤ maxLen := by
 cases n with
 | zero => simp only [Sh] at h
 | succ m => simpa only [Sh, hk] using h
theorem sh_slice {e : TypeId} (hk : (ty T).k = .slice e) (h : Sh ty n T xs) : ∃ m es, n = m + 1 ∧ xs = [.sl (ty e).size (ty e).bytes es] ∧ es.length * (ty e).bytes ≤ 140737488351232 ∧ ∀ r ∈ es, Sh ty m e r := by
 cases n with
 | zero => simp only [Sh] at h
 | succ m =>
  simp only [Sh, hk] at h
  obtain ⟨es, h1, h2⟩ := h
  exact ⟨m, es, rfl, h1, h2⟩
theorem sh_struct {fs : List (Nat × TypeId)} (hk : (ty T).k = .struct fs) (h : Sh ty n T xs) : ∃ m, n = m + 1 ∧ ShL (Sh ty m) (fs.map (·.2)) xs := by
 cases n with
 | zero => simp only [Sh] at h
 | succ m =>
  simp only [Sh, hk] at h
  exact ⟨m, rfl, h⟩
theorem map_choose {α β : Type} {f : α → β} : ∀ (es : List β), (∀ r ∈ es, ∃ t, r = f t) → ∃ ts : List α, es = ts.map f
 | [], _ => ⟨[], rfl⟩
 | e :: r, h => by
  obtain ⟨t, rfl⟩ := h e (by simp)
  obtain ⟨ts, rfl⟩ := map_choose r fun x hx => h x (List.mem_cons_of_mem _ hx)
  exact ⟨t :: ts, rfl⟩
end
end Go.Tr
/- The seat's types; terms. -/
namespace Go.Tr
open Go.Proofs
def tab : List (Nat × TyD) := [
 (3, ⟨1, 8, .int .i64, [.int .i64 0], [3]⟩),
 (4, ⟨1, 1, .bool, [.bool false], [4]⟩),
 (28, ⟨4, 48, .struct [(0, 3), (1, 3), (2, 3), (3, 24)], [.int .i64 0, .int .i64 0, .int .i64 0, .slice none 0 0], [3, 3, 3, 24]⟩),
 (35, ⟨1, 8, .int .i64, [.int .i64 0], [35]⟩),
 (34, ⟨1, 8, .int .u64, [.int .u64 0], [34]⟩),
 (40, ⟨2, 32, .struct [(0, 38), (1, 3)], [.slice none 0 0, .int .i64 0], [38, 3]⟩),
 (97, ⟨1, 24, .slice 3, [.slice none 0 0], [97]⟩),
 (66, ⟨6, 72, .struct [(0, 9), (1, 28), (5, 3)], [.string ⟨#[]⟩, .int .i64 0, .int .i64 0, .int .i64 0, .slice none 0 0, .int .i64 0], [9, 3, 3, 3, 24, 3]⟩),
 (22, ⟨1, 24, .slice 66, [.slice none 0 0], [22]⟩),
 (9, ⟨1, 16, .str, [.string ⟨#[]⟩], [9]⟩),
 (5, ⟨1, 1, .int .u8, [.int .u8 0], [5]⟩),
 (125, ⟨1, 8, .map 9 4, [.map none], [125]⟩),
 (154, ⟨1, 8, .map 3 4, [.map none], [154]⟩),
 (139, ⟨1, 8, .other, [.nilFunc], [139]⟩),
 (149, ⟨1, 8, .other, [.nilFunc], [149]⟩),
 (20, ⟨1, 16, .ifc, [.nilIface], [20]⟩),
 (24, ⟨1, 24, .slice 28, [.slice none 0 0], [24]⟩),
 (38, ⟨1, 24, .slice 40, [.slice none 0 0], [38]⟩)]
def keep (f : FuncId) : Bool := false
def env (n : Nat) : Env := ⟨lkT tab, keep, n, false, false, none, fun _ _ => none⟩
theorem env_ok (n : Nat) : EnvOk Tryz.prog (env n) := EnvOk.of (l := tab) rfl (by kernel_rfl)
def envK (n : Nat) : Env := ⟨lkT tab, fun _ => true, n, false, false, none, fun _ _ => none⟩
theorem envK_ok (n : Nat) : EnvOk Tryz.prog (envK n) := EnvOk.of (l := tab) rfl (by kernel_rfl)
theorem mixed : Tryz.prog.follows .mixedOrders = true := by kernel_rfl
inductive Term where
 | mk (k l n : Int) (ts : List Term)
namespace Term
def k : Term → Int | mk a _ _ _ => a
def l : Term → Int | mk _ a _ _ => a
def n : Term → Int | mk _ _ a _ => a
def ts : Term → List Term | mk _ _ _ a => a
end Term
mutual
def tc : Term → List CV
 | .mk k l n ts => [.int .i64 k, .int .i64 l, .int .i64 n, .sl 4 48 (tcs ts)]
def tcs : List Term → List (List CV)
 | [] => []
 | t :: r => tc t :: tcs r
end
def tv (t : Term) : AV := .agg [.c (.int .i64 t.k), .c (.int .i64 t.l), .c (.int .i64 t.n), .c (.sl 4 48 (tcs t.ts))]
def bodyOf (f : Func) : Code := f.body.getD .skip
end Go.Tr
/- term.proper. -/
namespace Go.Tr
open Go.Proofs
theorem Term.ind {C : Term → Prop} (h : ∀ t : Term, (∀ u ∈ t.ts, C u) → C t) : ∀ t, C t
 | .mk k l n ts => h _ fun u hu => Term.ind h u
 termination_by t => SizeOf.sizeOf t
 decreasing_by
 have := List.sizeOf_lt_of_mem (show u ∈ ts from hu)
 simp; omega
def headOk (k l n : Int) (m : Nat) : Bool :=
 (decide (k = 1) && (decide (l = 0) && decide (n = 0) && decide ((m : Int) = 0))) ||
 (decide (k = 2) && (decide (l = 0) && decide (n = 0) && decide ((m : Int) = 2))) ||
 (decide (k = 3) && (decide (l = 0) && decide (n = 0) && decide ((m : Int) = 1))) ||
 (decide (k = 4) && (decide (1 ≤ l) && decide (l ≤ 3) && decide (0 ≤ n) && decide (n ≤ 9999)))
mutual
def propT : Term → Int → Int → Bool × Int
 | .mk k l n ts, d, c => if 600 < c + 1 ∨ 40 < d then (false, c + 1) else
  match headOk k l n ts.length with
  | true => propL ts d (c + 1)
  | false => (false, c + 1)
def propL : List Term → Int → Int → Bool × Int
 | [], _, c => (true, c)
 | t :: r, d, c => match propT t (d + 1) c with
  | (true, c') => propL r d c'
  | (false, c') => (false, c')
end
theorem len_tcs : ∀ ts : List Term, (tcs ts).length = ts.length
 | [] => rfl
 | t :: r => by simp [tcs, len_tcs r]
theorem tcs_at : ∀ (ts : List Term) (i : Nat) (u : Term), ts[i]? = some u → (tcs ts)[i]? = some (tc u)
 | [], _, _, h => by simp at h
 | t :: r, 0, u, h => by simp at h; subst h; simp [tcs]
 | t :: r, i + 1, u, h => by simp only [tcs, List.getElem?_cons_succ]; exact tcs_at r i u (by simpa using h)
theorem propL_drop (ts : List Term) (i : Nat) (u : Term) (d c : Int) (h : ts[i]? = some u) : propL (ts.drop i) d c = match propT u (d + 1) c with
 | (true, c') => propL (ts.drop (i + 1)) d c'
 | (false, c') => (false, c') := by
 have hi := (List.getElem?_eq_some_iff.1 h).1
 have : ts.drop i = u :: ts.drop (i + 1) := by
  rw [List.drop_eq_getElem_cons hi]
  congr 1
  rw [List.getElem?_eq_getElem hi] at h
  injection h
 rw [this, propL]
mutual
theorem propT_bd : ∀ (t : Term) (d c : Int), 0 ≤ c ∧ c ≤ 600 → 0 ≤ (propT t d c).2 ∧ ((propT t d c).1 = true → (propT t d c).2 ≤ 600)
 | .mk k l n ts, d, c, hc => by
  unfold propT
  split
  ·simp; omega
  ·rename_i h
   split
   ·exact propL_bd ts d (c + 1) (by omega)
   ·simp; omega
theorem propL_bd : ∀ (ts : List Term) (d c : Int), 0 ≤ c ∧ c ≤ 600 → 0 ≤ (propL ts d c).2 ∧ ((propL ts d c).1 = true → (propL ts d c).2 ≤ 600)
 | [], d, c, hc => by simp [propL]; omega
 | t :: r, d, c, hc => by
  have h := propT_bd t (d + 1) c hc
  unfold propL
  generalize propT t (d + 1) c = x at *
  obtain ⟨b, c'⟩ := x
  cases b
  ·simpa using h
  ·exact propL_bd r d c' ⟨h.1, h.2 rfl⟩
end
theorem c47 (t : Term) : ∀ (d c : Int), 0 ≤ d ∧ d ≤ 41 → 0 ≤ c ∧ c ≤ 600 → CallSt Tryz.prog 105 [tv t, .c (.int .i64 d), .ptr 0 0] [.box [.c (.int .i64 c)]] (fun r H' => r = .c (.bool (propT t d c).1) ∧ H' = [.box [.c (.int .i64 (propT t d c).2)]]) := by
 induction t using Term.ind with
 | _ t ih =>
 intro d c hd hc
 obtain ⟨k, l, n, ts⟩ := t
 replace ih : ∀ u, u ∈ ts → _ := ih
 refine call_pure (E := env 1) (fn := Tryz.f105) (c := bodyOf Tryz.f105) (env_ok 1) mixed sK sK sK sK sK sK rfl ?_
 conv => whnf
 refine ⟨?_, ?_⟩
 ·exact ⟨by omega, by omega⟩
 conv => whnf
 refine ⟨fun h1 => ?_, fun h1 => ?_⟩
 ·conv => whnf
  refine ⟨rfl, ?_⟩
  conv => whnf
  refine ⟨rfl, ?_⟩
  simp only [Bool.or_eq_true, decide_eq_true_eq] at h1
  unfold propT
  rw [if_pos h1]
  exact ⟨rfl, rfl⟩
 simp only [Bool.or_eq_false_iff, decide_eq_false_iff_not] at h1
 conv => whnf
 intro hlen
 replace hlen : (tcs ts).length * 48 ≤ 140737488355328 := hlen
 rw [len_tcs] at hlen
 conv => whnf
 refine ⟨fun h2 => ?_, fun h2 => ?_⟩
 replace h2 : k = 1 := of_decide_eq_true h2
 rotate_left
 replace h2 : ¬ k = 1 := of_decide_eq_false h2
 conv => whnf
 refine ⟨fun h3 => ?_, fun h3 => ?_⟩
 replace h3 : k = 2 := of_decide_eq_true h3
 rotate_left
 replace h3 : ¬ k = 2 := of_decide_eq_false h3
 conv => whnf
 refine ⟨fun h4 => ?_, fun h4 => ?_⟩
 replace h4 : k = 3 := of_decide_eq_true h4
 rotate_left
 replace h4 : ¬ k = 3 := of_decide_eq_false h4
 conv => whnf
 refine ⟨fun h5 => ?_, fun h5 => ?_⟩
 replace h5 : k = 4 := of_decide_eq_true h5
 rotate_left
 replace h5 : ¬ k = 4 := of_decide_eq_false h5
 conv => whnf
 ·refine ⟨rfl, ?_⟩
  conv => whnf
  refine ⟨rfl, ?_⟩
  unfold propT
  rw [if_neg (by omega), show headOk k l n ts.length = false by simp [headOk, h2, h3, h4, h5]]
  exact ⟨rfl, rfl⟩
 all_goals conv => whnf
 all_goals
  refine loop_intro (fun m tm H => ∃ (i : Nat) (b : Bool) (c' : Int), ts.length = m + i ∧ (0 ≤ c' ∧ (b = true → c' ≤ 600)) ∧ (match b with | true => propL (ts.drop i) d c' | false => (false, c')) = propT (.mk k l n ts) d c ∧
   tm = [(9, .c (.int .i64 i)), (8, .c (.bool b)), (7, .c (.int .i64 (tcs ts).length)), (3, .ptr 1 0), (1, .c (.int .i64 d)), (2, .ptr 0 0), (6, .c (.bool false))] ∧ H = [.box [.c (.int .i64 c')], .box [.c (.int .i64 k), .c (.int .i64 l), .c (.int .i64 n), .c (.sl 4 48 (tcs ts))]])
   ts.length _ _ ⟨0, _, _, by omega, ?_, ?_, rfl, rfl⟩ (Wk.sl [0, 1] rfl ⟨rfl, rfl, trivial⟩ ⟨rfl, rfl, rfl, rfl, rfl, rfl, rfl, trivial⟩ rfl) ?_
  ·exact ⟨by omega, fun _ => by omega⟩
  ·unfold propT
   rw [if_neg (by omega)]
   simp only [len_tcs, Term.l, Term.n, Term.ts, List.drop_zero, headOk]
   simp [*]
   rfl
  ·rintro m tm H ⟨i, b, c', hi, hc', hR, rfl, rfl⟩
   conv => whnf
   refine ⟨fun hb => ?_, fun hb => ?_⟩
   ·simp only [len_tcs, Bool.and_eq_true, decide_eq_true_eq] at hb
    obtain ⟨hb, rfl⟩ := hb
    have hlt : i < ts.length := by omega
    obtain ⟨u, hu⟩ : ∃ u, ts[i]? = some u := ⟨ts[i], List.getElem?_eq_getElem hlt⟩
    have hm := List.mem_of_getElem? hu
    have hd' := propL_drop ts i u d c' hu
    have hcd := propT_bd u (d + 1) c' ⟨hc'.1, hc'.2 rfl⟩
    have huc := tcs_at ts i u hu
    obtain ⟨k', l', n', us⟩ := u
    conv => whnf
    refine ⟨_, ⟨by omega, by simpa using huc⟩, ?_⟩
    conv => whnf
    refine ⟨Nat.le_refl 4, ?_⟩
    conv => whnf
    refine ⟨⟨by omega, by omega⟩, ?_⟩
    conv => whnf
    refine CallSt.use (ih _ hm (d + 1) c' ⟨by omega, by omega⟩ ⟨hc'.1, hc'.2 rfl⟩) [0] ⟨rfl, trivial⟩ (by decide) rfl ?_
    rintro _ _ ⟨rfl, rfl⟩ _
    conv => whnf
    refine ⟨⟨by omega, by omega⟩, ?_⟩
    conv => whnf
    refine ⟨m - 1, _, _, by omega, ⟨i + 1, _, _, by omega, hcd, ?_, rfl, rfl⟩, Wk.sl [0, 1] rfl ⟨rfl, rfl, trivial⟩ ⟨rfl, rfl, rfl, rfl, rfl, rfl, rfl, trivial⟩ rfl⟩
    rw [← hR]
    simp only
    rw [hd']
    generalize propT (Term.mk k' l' n' us) (d + 1) c' = x at *
    obtain ⟨y, z⟩ := x
    cases y <;> rfl
   ·conv => whnf
    refine ⟨rfl, ?_⟩
    conv => whnf
    refine ⟨rfl, ?_⟩
    simp only [len_tcs, Bool.and_eq_false_iff, decide_eq_false_iff_not] at hb
    cases b with
    | false =>
     simp only at hR
     rw [← hR]
     exact ⟨rfl, rfl⟩
    | true =>
     have : ts.length ≤ i := by
      rcases hb with hb | hb
      ·omega
      ·cases hb
     rw [List.drop_eq_nil_of_le this] at hR
     simp only [propL] at hR
     rw [← hR]
     exact ⟨rfl, rfl⟩
end Go.Tr
/- What is handed in, as terms. -/
namespace Go.Tr
open Go.Proofs
def argTypes : List TypeId := [3, 24, 28]
theorem own : ownKnob Tryz.prog.godebug = none := by kernel_rfl
theorem laidOut : laidOutB Tryz.prog = true := by kernel_rfl
theorem wf_in {n : Int} (h : (Lit.int .i64 n).wf = true) : inR n := by
 simp only [Lit.wf, Bool.and_eq_true, decide_eq_true_eq] at h
 rw [show IntKind.i64.min = -9223372036854775808 by decide, show IntKind.i64.max = 9223372036854775807 by decide] at h
 exact h
section
variable {H : Type} {enc : TypeId × Value → H} {W : World} {base : Nat} {v : Value} {d : DataW H} {ps : List MemPlace}
end
end Go.Tr
/- Names: bytes. -/
namespace Go.Tr
open Go.Proofs
def smB (c : Int) : Bool := decide (97 ≤ c) && decide (c ≤ 122)
def cpB (c : Int) : Bool := decide (65 ≤ c) && decide (c ≤ 90)
def dgB (c : Int) : Bool := decide (48 ≤ c) && decide (c ≤ 57)
def nmB (c : Int) : Bool := smB c || cpB c || dgB c || decide (c = 95) || decide (c = 39)
theorem cSmall (c : Int) : CallSt Tryz.prog 148 [.c (.int .u8 c)] [] (fun r H' => r = .c (.bool (smB c)) ∧ H' = []) := by
 refine call_pure (E := env 0) (fn := Tryz.f148) (c := bodyOf Tryz.f148) (env_ok 0) mixed sK sK sK sK sK sK rfl ?_
 conv => whnf
 repeat ((first | (refine aI ?_ ?_; focus exact sI) | refine dI sK ?_ | (refine yI ?_ ?_; focus exact sY) | (refine nI ?_ ?_; focus exact sY)); conv => whnf)
 all_goals exact sR
theorem cCapital (c : Int) : CallSt Tryz.prog 173 [.c (.int .u8 c)] [] (fun r H' => r = .c (.bool (cpB c)) ∧ H' = []) := by
 refine call_pure (E := env 0) (fn := Tryz.f173) (c := bodyOf Tryz.f173) (env_ok 0) mixed sK sK sK sK sK sK rfl ?_
 conv => whnf
 repeat ((first | (refine aI ?_ ?_; focus exact sI) | refine dI sK ?_ | (refine yI ?_ ?_; focus exact sY) | (refine nI ?_ ?_; focus exact sY)); conv => whnf)
 all_goals exact sR
theorem cDigit (c : Int) : CallSt Tryz.prog 174 [.c (.int .u8 c)] [] (fun r H' => r = .c (.bool (dgB c)) ∧ H' = []) := by
 refine call_pure (E := env 0) (fn := Tryz.f174) (c := bodyOf Tryz.f174) (env_ok 0) mixed sK sK sK sK sK sK rfl ?_
 conv => whnf
 repeat ((first | (refine aI ?_ ?_; focus exact sI) | refine dI sK ?_ | (refine yI ?_ ?_; focus exact sY) | (refine nI ?_ ?_; focus exact sY)); conv => whnf)
 all_goals exact sR
theorem cRSmall (c : Int) : CallSt Tryz.prog 134 [.c (.int .u8 c)] [] (fun r H' => r = .c (.bool (smB c)) ∧ H' = []) := by
 refine call_pure (E := env 0) (fn := Tryz.f134) (c := bodyOf Tryz.f134) (env_ok 0) mixed sK sK sK sK sK sK rfl ?_
 conv => whnf
 repeat ((first | (refine aI ?_ ?_; focus exact sI) | refine dI sK ?_ | (refine yI ?_ ?_; focus exact sY) | (refine nI ?_ ?_; focus exact sY)); conv => whnf)
 all_goals exact sR
theorem cRLetter (c : Int) : CallSt Tryz.prog 149 [.c (.int .u8 c)] [] (fun r H' => r = .c (.bool (smB c || cpB c)) ∧ H' = []) := by
 have h := cRSmall c
 generalize smB c = b at *
 cases b with
 | true =>
  refine call_pure (E := env 0) (fn := Tryz.f149) (c := bodyOf Tryz.f149) (env_ok 0) mixed sK sK sK sK sK sK rfl ?_
  conv => whnf
  try (refine dI sK ?_; conv => whnf)
  first | refine u0 h ?_ | refine v0 h ?_
  rintro _ _ ⟨rfl, rfl⟩ _
  conv => whnf
  repeat ((first | (refine aI ?_ ?_; focus exact sI) | refine dI sK ?_ | (refine yI ?_ ?_; focus exact sY) | (refine nI ?_ ?_; focus exact sY)); conv => whnf)
  all_goals exact sR
 | false =>
  refine call_pure (E := env 0) (fn := Tryz.f149) (c := bodyOf Tryz.f149) (env_ok 0) mixed sK sK sK sK sK sK rfl ?_
  conv => whnf
  try (refine dI sK ?_; conv => whnf)
  first | refine u0 h ?_ | refine v0 h ?_
  rintro _ _ ⟨rfl, rfl⟩ _
  conv => whnf
  repeat ((first | (refine aI ?_ ?_; focus exact sI) | refine dI sK ?_ | (refine yI ?_ ?_; focus exact sY) | (refine nI ?_ ?_; focus exact sY)); conv => whnf)
  all_goals exact sR
theorem cNameByte (c : Int) : CallSt Tryz.prog 158 [.c (.int .u8 c)] [] (fun r H' => r = .c (.bool (nmB c)) ∧ H' = []) := by
 have h1 := cSmall c
 have h2 := cCapital c
 have h3 := cDigit c
 unfold nmB
 generalize smB c = a at *
 generalize cpB c = b at *
 generalize dgB c = d at *
 cases a with
 | true =>
  refine call_pure (E := env 0) (fn := Tryz.f158) (c := bodyOf Tryz.f158) (env_ok 0) mixed sK sK sK sK sK sK rfl ?_
  conv => whnf
  try (refine dI sK ?_; conv => whnf)
  first | refine u0 h1 ?_ | refine v0 h1 ?_
  rintro _ _ ⟨rfl, rfl⟩ _
  conv => whnf
  repeat ((first | (refine aI ?_ ?_; focus exact sI) | refine dI sK ?_ | (refine yI ?_ ?_; focus exact sY) | (refine nI ?_ ?_; focus exact sY)); conv => whnf)
  all_goals exact sR
 | false =>
  cases b with
  | true =>
   refine call_pure (E := env 0) (fn := Tryz.f158) (c := bodyOf Tryz.f158) (env_ok 0) mixed sK sK sK sK sK sK rfl ?_
   conv => whnf
   try (refine dI sK ?_; conv => whnf)
   first | refine u0 h1 ?_ | refine v0 h1 ?_
   rintro _ _ ⟨rfl, rfl⟩ _
   conv => whnf
   repeat ((first | (refine aI ?_ ?_; focus exact sI) | refine dI sK ?_ | (refine yI ?_ ?_; focus exact sY) | (refine nI ?_ ?_; focus exact sY)); conv => whnf)
   try (refine dI sK ?_; conv => whnf)
   first | refine u0 h2 ?_ | refine v0 h2 ?_
   rintro _ _ ⟨rfl, rfl⟩ _
   conv => whnf
   repeat ((first | (refine aI ?_ ?_; focus exact sI) | refine dI sK ?_ | (refine yI ?_ ?_; focus exact sY) | (refine nI ?_ ?_; focus exact sY)); conv => whnf)
   all_goals exact sR
  | false =>
   cases d with
   | true =>
    refine call_pure (E := env 0) (fn := Tryz.f158) (c := bodyOf Tryz.f158) (env_ok 0) mixed sK sK sK sK sK sK rfl ?_
    conv => whnf
    try (refine dI sK ?_; conv => whnf)
    first | refine u0 h1 ?_ | refine v0 h1 ?_
    rintro _ _ ⟨rfl, rfl⟩ _
    conv => whnf
    repeat ((first | (refine aI ?_ ?_; focus exact sI) | refine dI sK ?_ | (refine yI ?_ ?_; focus exact sY) | (refine nI ?_ ?_; focus exact sY)); conv => whnf)
    try (refine dI sK ?_; conv => whnf)
    first | refine u0 h2 ?_ | refine v0 h2 ?_
    rintro _ _ ⟨rfl, rfl⟩ _
    conv => whnf
    repeat ((first | (refine aI ?_ ?_; focus exact sI) | refine dI sK ?_ | (refine yI ?_ ?_; focus exact sY) | (refine nI ?_ ?_; focus exact sY)); conv => whnf)
    try (refine dI sK ?_; conv => whnf)
    first | refine u0 h3 ?_ | refine v0 h3 ?_
    rintro _ _ ⟨rfl, rfl⟩ _
    conv => whnf
    repeat ((first | (refine aI ?_ ?_; focus exact sI) | refine dI sK ?_ | (refine yI ?_ ?_; focus exact sY) | (refine nI ?_ ?_; focus exact sY)); conv => whnf)
    all_goals exact sR
   | false =>
    refine call_pure (E := env 0) (fn := Tryz.f158) (c := bodyOf Tryz.f158) (env_ok 0) mixed sK sK sK sK sK sK rfl ?_
    conv => whnf
    try (refine dI sK ?_; conv => whnf)
    first | refine u0 h1 ?_ | refine v0 h1 ?_
    rintro _ _ ⟨rfl, rfl⟩ _
    conv => whnf
    repeat ((first | (refine aI ?_ ?_; focus exact sI) | refine dI sK ?_ | (refine yI ?_ ?_; focus exact sY) | (refine nI ?_ ?_; focus exact sY)); conv => whnf)
    try (refine dI sK ?_; conv => whnf)
    first | refine u0 h2 ?_ | refine v0 h2 ?_
    rintro _ _ ⟨rfl, rfl⟩ _
    conv => whnf
    repeat ((first | (refine aI ?_ ?_; focus exact sI) | refine dI sK ?_ | (refine yI ?_ ?_; focus exact sY) | (refine nI ?_ ?_; focus exact sY)); conv => whnf)
    try (refine dI sK ?_; conv => whnf)
    first | refine u0 h3 ?_ | refine v0 h3 ?_
    rintro _ _ ⟨rfl, rfl⟩ _
    conv => whnf
    repeat ((first | (refine aI ?_ ?_; focus exact sI) | refine dI sK ?_ | (refine yI ?_ ?_; focus exact sY) | (refine nI ?_ ?_; focus exact sY)); conv => whnf)
    all_goals exact sR
theorem cRByteOf (c : Int) : CallSt Tryz.prog 159 [.c (.int .u8 c)] [] (fun r H' => r = .c (.bool (nmB c)) ∧ H' = []) := by
 have h1 := cRLetter c
 unfold nmB dgB
 generalize (smB c || cpB c) = a at *
 cases a with
 | true =>
  refine call_pure (E := env 0) (fn := Tryz.f159) (c := bodyOf Tryz.f159) (env_ok 0) mixed sK sK sK sK sK sK rfl ?_
  conv => whnf
  try (refine dI sK ?_; conv => whnf)
  first | refine u0 h1 ?_ | refine v0 h1 ?_
  rintro _ _ ⟨rfl, rfl⟩ _
  conv => whnf
  repeat ((first | (refine aI ?_ ?_; focus exact sI) | refine dI sK ?_ | (refine yI ?_ ?_; focus exact sY) | (refine nI ?_ ?_; focus exact sY)); conv => whnf)
  all_goals exact sR
 | false =>
  refine call_pure (E := env 0) (fn := Tryz.f159) (c := bodyOf Tryz.f159) (env_ok 0) mixed sK sK sK sK sK sK rfl ?_
  conv => whnf
  try (refine dI sK ?_; conv => whnf)
  first | refine u0 h1 ?_ | refine v0 h1 ?_
  rintro _ _ ⟨rfl, rfl⟩ _
  conv => whnf
  repeat ((first | (refine aI ?_ ?_; focus exact sI) | refine dI sK ?_ | (refine yI ?_ ?_; focus exact sY) | (refine nI ?_ ?_; focus exact sY)); conv => whnf)
  all_goals exact sR
end Go.Tr
/- Names. -/
namespace Go.Tr
open Go.Proofs
def bAt (s : ByteArray) (i : Nat) : Int := ((s.data.toList.getD i 0).toNat : Int)
def allN (s : ByteArray) : Bool := (List.range s.size).all fun i => nmB (bAt s i)
def isSmallF (s : ByteArray) : Bool := decide (1 ≤ s.size) && decide (s.size ≤ 16) && smB (bAt s 0) && allN s
theorem allN_no {s : ByteArray} {j : Nat} (h : j < s.size) (hb : nmB (bAt s j) = false) : allN s = false := by
 unfold allN
 rw [List.all_eq_false]
 exact ⟨j, by simpa using h, by rw [hb]; simp⟩
theorem allN_yes {s : ByteArray} (h : ∀ i, i < s.size → nmB (bAt s i) = true) : allN s = true := by
 unfold allN
 rw [List.all_eq_true]
 intro i hi
 exact h i (by simpa using hi)
theorem cLexName (s : ByteArray) : CallSt Tryz.prog 147 [.c (.str s), .fn 148 []] [] (fun r H' => r = .c (.bool (isSmallF s)) ∧ H' = []) := by
 have hf := cSmall (bAt s 0)
 refine call_pure (E := env 0) (fn := Tryz.f147) (c := bodyOf Tryz.f147) (env_ok 0) mixed sK sK sK sK sK sK rfl ?_
 conv => whnf
 refine ⟨fun h => ⟨by omega, by simp at h; omega⟩, ?_⟩
 conv => whnf
 refine ⟨fun hg => ?_, fun hg => ?_⟩
 ·have hs : 1 ≤ s.size ∧ s.size ≤ 16 := by simp at hg; omega
  conv => whnf
  try (refine dI sK ?_; conv => whnf)
  first | refine u0 hf ?_ | refine v0 hf ?_
  rintro _ _ ⟨rfl, rfl⟩ _
  conv => whnf
  refine ⟨fun hc => ?_, fun hc => ?_⟩
  ·have hb : smB (bAt s 0) = false := by simpa using hc
   rw [show isSmallF s = false by simp [isSmallF, hb]]
   conv => whnf
   repeat ((first | (refine aI ?_ ?_; focus exact sI) | refine dI sK ?_ | (refine yI ?_ ?_; focus exact sY) | (refine nI ?_ ?_; focus exact sY)); conv => whnf)
   all_goals exact sR
  ·have hb : smB (bAt s 0) = true := by simpa using hc
   have hR : isSmallF s = allN s := by simp [isSmallF, hb, hs.1, hs.2]
   rw [hR]
   conv => whnf
   refine loop_intro (fun m tm H => ∃ j : Nat, s.size = m + j ∧ (∀ i, i < j → nmB (bAt s i) = true) ∧
     tm = [(23, .c (.int .i64 (j))), (22, .c (.int .i64 (s.size))), (0, .c (.str s))] ∧ H = []) s.size _ _ ⟨0, by omega, fun i hi => absurd hi (by omega), rfl, rfl⟩ (Wk.sl [] rfl trivial ⟨rfl, rfl, rfl, trivial⟩ rfl) ?_
   rintro m tm H ⟨j, hj, hall, rfl, rfl⟩
   conv => whnf
   refine ⟨fun hl => ?_, fun hl => ?_⟩
   ·replace hl : (j : Int) < s.size := of_decide_eq_true hl
    have hn := cNameByte (bAt s j)
    conv => whnf
    refine ⟨⟨by omega, by omega⟩, ?_⟩
    conv => whnf
    try (refine dI sK ?_; conv => whnf)
    first | refine u0 hn ?_ | refine v0 hn ?_
    rintro _ _ ⟨rfl, rfl⟩ _
    conv => whnf
    refine ⟨fun hc2 => ?_, fun hc2 => ?_⟩
    ·have hb2 : nmB (bAt s j) = false := by simpa using hc2
     rw [allN_no (by omega) hb2]
     conv => whnf
     repeat ((first | (refine aI ?_ ?_; focus exact sI) | refine dI sK ?_ | (refine yI ?_ ?_; focus exact sY) | (refine nI ?_ ?_; focus exact sY)); conv => whnf)
     all_goals exact sR
    ·have hb2 : nmB (bAt s j) = true := by simpa using hc2
     conv => whnf
     refine ⟨⟨by omega, by omega⟩, ?_⟩
     conv => whnf
     refine ⟨m - 1, _, _, by omega, ⟨j + 1, by omega, fun i hi => ?_, rfl, rfl⟩, Wk.sl [] rfl trivial ⟨rfl, rfl, rfl, trivial⟩ rfl⟩
     by_cases hij : i < j
     ·exact hall i hij
     ·obtain rfl : i = j := by omega
      exact hb2
   ·replace hl : ¬ (j : Int) < s.size := of_decide_eq_false hl
    rw [allN_yes (fun i hi => hall i (by omega))]
    conv => whnf
    repeat ((first | (refine aI ?_ ?_; focus exact sI) | refine dI sK ?_ | (refine yI ?_ ?_; focus exact sY) | (refine nI ?_ ?_; focus exact sY)); conv => whnf)
    all_goals exact sR
 ·have hs : ¬ (1 ≤ s.size ∧ s.size ≤ 16) := by simp at hg; omega
  have hR : isSmallF s = false := by
   unfold isSmallF
   rw [← Bool.decide_and, decide_eq_false hs]
   rfl
  rw [hR]
  conv => whnf
  refine ⟨fun hc => ?_, fun hc => ?_⟩
  ·conv => whnf
   repeat ((first | (refine aI ?_ ?_; focus exact sI) | refine dI sK ?_ | (refine yI ?_ ?_; focus exact sY) | (refine nI ?_ ?_; focus exact sY)); conv => whnf)
   all_goals exact sR
  ·exfalso
   simp at hc
   try omega
theorem cIsSmall (s : ByteArray) : CallSt Tryz.prog 131 [.c (.str s)] [] (fun r H' => r = .c (.bool (isSmallF s)) ∧ H' = []) := by
 have h := cLexName s
 refine call_pure (E := env 0) (fn := Tryz.f131) (c := bodyOf Tryz.f131) (env_ok 0) mixed sK sK sK sK sK sK rfl ?_
 conv => whnf
 try (refine dI sK ?_; conv => whnf)
 first | refine u0 h ?_ | refine v0 h ?_
 rintro _ _ ⟨rfl, rfl⟩ _
 conv => whnf
 repeat ((first | (refine aI ?_ ?_; focus exact sI) | refine dI sK ?_ | (refine yI ?_ ?_; focus exact sY) | (refine nI ?_ ?_; focus exact sY)); conv => whnf)
 all_goals exact sR
theorem cSignName (s : ByteArray) : CallSt Tryz.prog 112 [.c (.str s)] [] (fun r H' => r = .c (.bool (isSmallF s && !decide (s = ⟨#[116, 121, 112, 101]⟩))) ∧ H' = []) := by
 have h := cIsSmall s
 generalize isSmallF s = b at *
 cases b with
 | true =>
  refine call_pure (E := env 0) (fn := Tryz.f112) (c := bodyOf Tryz.f112) (env_ok 0) mixed sK sK sK sK sK sK rfl ?_
  conv => whnf
  try (refine dI sK ?_; conv => whnf)
  first | refine u0 h ?_ | refine v0 h ?_
  rintro _ _ ⟨rfl, rfl⟩ _
  conv => whnf
  repeat ((first | (refine aI ?_ ?_; focus exact sI) | refine dI sK ?_ | (refine yI ?_ ?_; focus exact sY) | (refine nI ?_ ?_; focus exact sY)); conv => whnf)
  all_goals exact sR
 | false =>
  refine call_pure (E := env 0) (fn := Tryz.f112) (c := bodyOf Tryz.f112) (env_ok 0) mixed sK sK sK sK sK sK rfl ?_
  conv => whnf
  try (refine dI sK ?_; conv => whnf)
  first | refine u0 h ?_ | refine v0 h ?_
  rintro _ _ ⟨rfl, rfl⟩ _
  conv => whnf
  repeat ((first | (refine aI ?_ ?_; focus exact sI) | refine dI sK ?_ | (refine yI ?_ ?_; focus exact sY) | (refine nI ?_ ?_; focus exact sY)); conv => whnf)
  all_goals exact sR
theorem cRRun (s : ByteArray) (hs : s.size ≤ 1000000) : CallSt Tryz.prog 150 [.c (.str s), .c (.int .i64 (0))] [] (fun r H' => ∃ n : Nat, r = .c (.int .i64 (n)) ∧ n ≤ s.size ∧ (n = s.size ↔ allN s = true) ∧ H' = []) := by
 refine call_pure (E := env 0) (fn := Tryz.f150) (c := bodyOf Tryz.f150) (env_ok 0) mixed sK sK sK sK sK sK rfl ?_
 conv => whnf
 refine loop_intro (fun m tm H => ∃ j : Nat, s.size = m + j ∧ (∀ i, i < j → nmB (bAt s i) = true) ∧
   tm = [(1, .c (.int .i64 (j))), (0, .c (.str s))] ∧ H = []) s.size _ _ ⟨0, by omega, fun i hi => absurd hi (by omega), rfl, rfl⟩ (Wk.sl [] rfl trivial ⟨rfl, rfl, trivial⟩ rfl) ?_
 rintro m tm H ⟨j, hj, hall, rfl, rfl⟩
 have hn := cRByteOf (bAt s j)
 conv => whnf
 refine ⟨fun h => ⟨by omega, by have := of_decide_eq_true h; omega⟩, ?_⟩
 conv => whnf
 refine ⟨fun hg => ?_, fun hg => ?_⟩
 ·have hlt : (j : Int) < s.size := of_decide_eq_true hg
  conv => whnf
  try (refine dI sK ?_; conv => whnf)
  first | refine u0 hn ?_ | refine v0 hn ?_
  rintro _ _ ⟨rfl, rfl⟩ _
  conv => whnf
  refine ⟨fun hc => ?_, fun hc => ?_⟩
  ·conv => whnf
   refine ⟨⟨by omega, by omega⟩, ?_⟩
   conv => whnf
   refine ⟨m - 1, _, _, by omega, ⟨j + 1, by omega, fun i hi => ?_, rfl, rfl⟩, Wk.sl [] rfl trivial ⟨rfl, rfl, trivial⟩ rfl⟩
   by_cases hij : i < j
   ·exact hall i hij
   ·obtain rfl : i = j := by omega
    exact hc
  ·conv => whnf
   exact ⟨rfl, rfl, j, rfl, by omega, ⟨fun h => by omega, fun h => by rw [allN_no (by omega) hc] at h; cases h⟩, rfl⟩
 ·have hlt : ¬ (j : Int) < s.size := of_decide_eq_false hg
  conv => whnf
  refine ⟨fun hc => ?_, fun hc => ?_⟩
  ·simp at hc
  ·conv => whnf
   exact ⟨rfl, rfl, j, rfl, by omega, ⟨fun _ => allN_yes (fun i hi => hall i (by omega)), fun _ => by omega⟩, rfl⟩
end Go.Tr
/- Names: the reference. -/
namespace Go.Tr
open Go.Proofs
def isNameF (s : ByteArray) : Bool := decide (1 ≤ s.size) && decide (s.size ≤ 16) && (smB (bAt s 0) || cpB (bAt s 0)) && allN s
theorem cRIsName (s : ByteArray) : CallSt Tryz.prog 133 [.c (.str s)] [] (fun r H' => r = .c (.bool (isNameF s)) ∧ H' = []) := by
 have hf := cRLetter (bAt s 0)
 by_cases hs : 1 ≤ s.size ∧ s.size ≤ 16
 ·have hr := cRRun s (by omega)
  have hR : isNameF s = ((smB (bAt s 0) || cpB (bAt s 0)) && allN s) := by simp [isNameF, hs.1, hs.2]
  rw [hR]
  generalize (smB (bAt s 0) || cpB (bAt s 0)) = b at *
  cases b with
  | false =>
   rw [Bool.false_and]
   refine call_pure (E := env 0) (fn := Tryz.f133) (c := bodyOf Tryz.f133) (env_ok 0) mixed sK sK sK sK sK sK rfl ?_
   conv => whnf
   refine ⟨fun h => ⟨by omega, by omega⟩, ?_⟩
   conv => whnf
   refine ⟨fun hg => ?_, fun hg => absurd hg (by simp; omega)⟩
   conv => whnf
   try (refine dI sK ?_; conv => whnf)
   first | refine u0 hf ?_ | refine v0 hf ?_
   rintro _ _ ⟨rfl, rfl⟩ _
   conv => whnf
   repeat ((first | (refine aI ?_ ?_; focus exact sI) | refine dI sK ?_ | (refine yI ?_ ?_; focus exact sY) | (refine nI ?_ ?_; focus exact sY)); conv => whnf)
   all_goals exact sR
  | true =>
   rw [Bool.true_and]
   refine call_pure (E := env 0) (fn := Tryz.f133) (c := bodyOf Tryz.f133) (env_ok 0) mixed sK sK sK sK sK sK rfl ?_
   conv => whnf
   refine ⟨fun h => ⟨by omega, by omega⟩, ?_⟩
   conv => whnf
   refine ⟨fun hg => ?_, fun hg => absurd hg (by simp; omega)⟩
   conv => whnf
   try (refine dI sK ?_; conv => whnf)
   first | refine u0 hf ?_ | refine v0 hf ?_
   rintro _ _ ⟨rfl, rfl⟩ _
   conv => whnf
   (refine yI ?_ ?_; (focus exact sY); conv => whnf)
   try (refine dI sK ?_; conv => whnf)
   first | refine u0 hr ?_ | refine v0 hr ?_
   rintro _ _ ⟨n, rfl, hn1, hn2, rfl⟩ _
   conv => whnf
   have e : allN s = decide ((n : Int) = s.size) := by
    cases hA : allN s
    ·exact (decide_eq_false (fun h => by rw [hn2.1 (by omega)] at hA; cases hA)).symm
    ·exact (decide_eq_true (by have := hn2.2 hA; omega)).symm
   rw [e]
   repeat ((first | (refine aI ?_ ?_; focus exact sI) | refine dI sK ?_ | (refine yI ?_ ?_; focus exact sY) | (refine nI ?_ ?_; focus exact sY)); conv => whnf)
   all_goals exact sR
 ·have hR : isNameF s = false := by
   unfold isNameF
   rw [← Bool.decide_and, decide_eq_false hs]
   rfl
  rw [hR]
  refine call_pure (E := env 0) (fn := Tryz.f133) (c := bodyOf Tryz.f133) (env_ok 0) mixed sK sK sK sK sK sK rfl ?_
  conv => whnf
  refine ⟨fun h => absurd h (by simp; omega), ?_⟩
  conv => whnf
  refine ⟨fun hg => absurd hg (by simp; omega), fun hg => ?_⟩
  conv => whnf
  repeat ((first | (refine aI ?_ ?_; focus exact sI) | refine dI sK ?_ | (refine yI ?_ ?_; focus exact sY) | (refine nI ?_ ?_; focus exact sY)); conv => whnf)
  all_goals exact sR
theorem small_name (s : ByteArray) : isSmallF s = (isNameF s && smB (bAt s 0)) := by
 unfold isSmallF isNameF
 generalize decide (1 ≤ s.size) = a
 generalize decide (s.size ≤ 16) = b
 generalize smB (bAt s 0) = c
 generalize cpB (bAt s 0) = d
 generalize allN s = e
 cases a <;> cases b <;> cases c <;> cases d <;> cases e <;> rfl
theorem name_size {s : ByteArray} (h : isNameF s = true) : 1 ≤ s.size := by
 unfold isNameF at h
 simp only [Bool.and_eq_true, decide_eq_true_eq] at h
 exact h.1.1.1
theorem cRIsSmall (s : ByteArray) : CallSt Tryz.prog 120 [.c (.str s)] [] (fun r H' => r = .c (.bool (isSmallF s)) ∧ H' = []) := by
 have h1 := cRIsName s
 have h2 := cRSmall (bAt s 0)
 have hz := @name_size s
 rw [small_name]
 generalize isNameF s = a at *
 cases a with
 | true =>
  have hz := hz rfl
  rw [Bool.true_and]
  refine call_pure (E := env 0) (fn := Tryz.f120) (c := bodyOf Tryz.f120) (env_ok 0) mixed sK sK sK sK sK sK rfl ?_
  conv => whnf
  try (refine dI sK ?_; conv => whnf)
  first | refine u0 h1 ?_ | refine v0 h1 ?_
  rintro _ _ ⟨rfl, rfl⟩ _
  conv => whnf
  refine ⟨fun _ => ⟨by omega, by omega⟩, ?_⟩
  conv => whnf
  (refine yI ?_ ?_; (focus exact sY); conv => whnf)
  try (refine dI sK ?_; conv => whnf)
  first | refine u0 h2 ?_ | refine v0 h2 ?_
  rintro _ _ ⟨rfl, rfl⟩ _
  conv => whnf
  repeat ((first | (refine aI ?_ ?_; focus exact sI) | refine dI sK ?_ | (refine yI ?_ ?_; focus exact sY) | (refine nI ?_ ?_; focus exact sY)); conv => whnf)
  all_goals exact sR
 | false =>
  rw [Bool.false_and]
  refine call_pure (E := env 0) (fn := Tryz.f120) (c := bodyOf Tryz.f120) (env_ok 0) mixed sK sK sK sK sK sK rfl ?_
  conv => whnf
  try (refine dI sK ?_; conv => whnf)
  first | refine u0 h1 ?_ | refine v0 h1 ?_
  rintro _ _ ⟨rfl, rfl⟩ _
  conv => whnf
  refine ⟨fun h => absurd h (by simp), ?_⟩
  conv => whnf
  (refine nI ?_ ?_; (focus exact sY); conv => whnf)
  repeat ((first | (refine aI ?_ ?_; focus exact sI) | refine dI sK ?_ | (refine yI ?_ ?_; focus exact sY) | (refine nI ?_ ?_; focus exact sY)); conv => whnf)
  all_goals exact sR
theorem cRIsNameS (s : ByteArray) : CallSt Tryz.prog 96 [.c (.str s)] [] (fun r H' => r = .c (.bool (isSmallF s && !decide (s = ⟨#[116, 121, 112, 101]⟩))) ∧ H' = []) := by
 have h := cRIsSmall s
 generalize isSmallF s = b at *
 cases b with
 | true =>
  refine call_pure (E := env 0) (fn := Tryz.f96) (c := bodyOf Tryz.f96) (env_ok 0) mixed sK sK sK sK sK sK rfl ?_
  conv => whnf
  try (refine dI sK ?_; conv => whnf)
  first | refine u0 h ?_ | refine v0 h ?_
  rintro _ _ ⟨rfl, rfl⟩ _
  conv => whnf
  repeat ((first | (refine aI ?_ ?_; focus exact sI) | refine dI sK ?_ | (refine yI ?_ ?_; focus exact sY) | (refine nI ?_ ?_; focus exact sY)); conv => whnf)
  all_goals exact sR
 | false =>
  refine call_pure (E := env 0) (fn := Tryz.f96) (c := bodyOf Tryz.f96) (env_ok 0) mixed sK sK sK sK sK sK rfl ?_
  conv => whnf
  try (refine dI sK ?_; conv => whnf)
  first | refine u0 h ?_ | refine v0 h ?_
  rintro _ _ ⟨rfl, rfl⟩ _
  conv => whnf
  repeat ((first | (refine aI ?_ ?_; focus exact sI) | refine dI sK ?_ | (refine yI ?_ ?_; focus exact sY) | (refine nI ?_ ?_; focus exact sY)); conv => whnf)
  all_goals exact sR
end Go.Tr
/- Depths, nodes. -/
namespace Go.Tr
open Go.Proofs
def mx (a b : Int) : Int := if a < b then b else a
def mn (a b : Int) : Int := if b < a then b else a
mutual
def dpT : Term → Int
 | .mk _ _ _ ts => 1 + dpL ts
def dpL : List Term → Int
 | [] => 0
 | t :: r => mx (dpT t) (dpL r)
end
mutual
theorem dpT_pos : ∀ t : Term, 1 ≤ dpT t
 | .mk _ _ _ ts => by
  have := dpL_pos ts
  unfold dpT
  omega
theorem dpL_pos : ∀ ts : List Term, 0 ≤ dpL ts
 | [] => by simp [dpL]
 | t :: r => by
  have h1 := dpT_pos t
  have h2 := dpL_pos r
  unfold dpL mx
  split <;> omega
end
theorem drop_at {α : Type} {ts : List α} {i : Nat} {u : α} (h : ts[i]? = some u) : ts.drop i = u :: ts.drop (i + 1) := by
 have hi := (List.getElem?_eq_some_iff.1 h).1
 rw [List.drop_eq_getElem_cons hi]
 congr 1
 rw [List.getElem?_eq_getElem hi] at h
 injection h
theorem dpL_mem : ∀ (ts : List Term) (u : Term), u ∈ ts → dpT u ≤ dpL ts
 | [], u, h => by cases h
 | t :: r, u, h => by
  rcases List.mem_cons.1 h with rfl | h
  ·unfold dpL mx; split <;> omega
  ·have := dpL_mem r u h
   unfold dpL mx; split <;> omega
mutual
def ndT : Term → Int → Int
 | .mk _ _ _ ts, b => mn (ndL ts b 1) (b + 1)
def ndL : List Term → Int → Int → Int
 | [], _, n => n
 | t :: r, b, n => if n ≤ b then ndL r b (n + ndT t (b - n)) else n
end
mutual
theorem ndT_bd : ∀ (t : Term) (b : Int), 0 ≤ b → 1 ≤ ndT t b ∧ ndT t b ≤ b + 1
 | .mk _ _ _ ts, b, hb => by
  have := ndL_bd ts b 1 (by omega)
  unfold ndT mn
  split <;> omega
theorem ndL_bd : ∀ (ts : List Term) (b n : Int), 1 ≤ n ∧ n ≤ b + 1 → 1 ≤ ndL ts b n ∧ ndL ts b n ≤ b + 1
 | [], b, n, h => by simp only [ndL]; omega
 | t :: r, b, n, h => by
  unfold ndL
  split
  ·have := ndT_bd t (b - n) (by omega)
   exact ndL_bd r b _ (by omega)
  ·omega
end
theorem c49 (t : Term) : ∀ b, 0 ≤ b ∧ b ≤ 1000 → CallSt Tryz.prog 38 [tv t, .c (.int .i64 b)] [] (fun r H' => r = .c (.int .i64 (ndT t b)) ∧ H' = []) := by
 induction t using Term.ind with
 | _ t ih =>
 intro b hb
 obtain ⟨k, l, n, ts⟩ := t
 replace ih : ∀ u, u ∈ ts → _ := ih
 refine call_pure (E := env 0) (fn := Tryz.f38) (c := bodyOf Tryz.f38) (env_ok 0) mixed sK sK sK sK sK sK rfl ?_
 conv => whnf
 refine loop_intro (fun m tm H => ∃ (i : Nat) (a : Int), ts.length = m + i ∧ (1 ≤ a ∧ a ≤ b + 1) ∧ ndL (ts.drop i) b a = ndL ts b 1 ∧
   tm = [(6, .c (.int .i64 i)), (5, .c (.int .i64 a)), (2, .ptr 0 0), (1, .c (.int .i64 b))] ∧ H = [.box [.c (.int .i64 k), .c (.int .i64 l), .c (.int .i64 n), .c (.sl 4 48 (tcs ts))]])
   ts.length _ _ ⟨0, _, by omega, ⟨Int.le_refl 1, by omega⟩, rfl, rfl, rfl⟩ (Wk.sl [0] rfl ⟨rfl, trivial⟩ ⟨rfl, rfl, rfl, rfl, trivial⟩ rfl) ?_
 rintro m tm H ⟨i, a, hi, ha, hR, rfl, rfl⟩
 conv => whnf
 intro hlen
 replace hlen : (tcs ts).length * 48 ≤ 140737488355328 := hlen
 rw [len_tcs] at hlen
 conv => whnf
 refine ⟨fun hc => ?_, fun hc => ?_⟩
 ·simp only [len_tcs, Bool.and_eq_true, decide_eq_true_eq] at hc
  obtain ⟨hc, hab⟩ := hc
  have hlt : i < ts.length := by omega
  obtain ⟨u, hu⟩ : ∃ u, ts[i]? = some u := ⟨ts[i], List.getElem?_eq_getElem hlt⟩
  have hm := List.mem_of_getElem? hu
  have huc := tcs_at ts i u hu
  have hdr := drop_at hu
  have hub := ndT_bd u (b - a) (by omega)
  have hcc := ih u hm (b - a) ⟨by omega, by omega⟩
  obtain ⟨k', l', n', us⟩ := u
  conv => whnf
  refine ⟨_, ⟨by omega, by simpa using huc⟩, ?_⟩
  conv => whnf
  refine ⟨Nat.le_refl 4, ?_⟩
  conv => whnf
  refine ⟨⟨by omega, by omega⟩, ?_⟩
  conv => whnf
  refine CallSt.use hcc [] trivial (by decide) rfl ?_
  rintro _ _ ⟨rfl, rfl⟩ _
  conv => whnf
  refine ⟨⟨by omega, by omega⟩, ?_⟩
  conv => whnf
  refine ⟨⟨by omega, by omega⟩, ?_⟩
  conv => whnf
  refine ⟨m - 1, _, _, by omega, ⟨i + 1, a + ndT (.mk k' l' n' us) (b - a), by omega, by omega, ?_, rfl, rfl⟩, Wk.sl [0] rfl ⟨rfl, trivial⟩ ⟨rfl, rfl, rfl, rfl, trivial⟩ rfl⟩
  rw [← hR, hdr, ndL, if_pos hab]
 ·conv => whnf
  refine ⟨⟨by omega, by omega⟩, ?_⟩
  conv => whnf
  refine ⟨rfl, ?_⟩
  conv => whnf
  refine ⟨rfl, ?_⟩
  have hae : ndL ts b 1 = a := by
   rw [← hR]
   rcases Nat.lt_or_ge i ts.length with h | h
   ·have : ¬ a ≤ b := by
     intro h2
     have h3 : (i : Int) < (tcs ts).length := by rw [len_tcs]; omega
     simp [h2, h3] at hc
    rw [List.drop_eq_getElem_cons h, ndL, if_neg this]
   ·rw [List.drop_eq_nil_of_le h, ndL]
  rw [ndT, hae]
  exact ⟨rfl, rfl⟩
def fmB (k l n : Int) (m : Nat) : Bool :=
 if k = 1 then !(!decide ((m : Int) = 0) || !decide (l = 0) || !decide (n = 0))
 else if k = 2 then !(!decide ((m : Int) = 2) || !decide (l = 0) || !decide (n = 0))
 else if k = 3 then !(!decide ((m : Int) = 1) || !decide (l = 0) || !decide (n = 0))
 else if k = 4 then !(decide (l < 1) || decide (3 < l) || decide (n < 0) || decide (9999 < n))
 else false
mutual
def fmT : Term → Int → Bool
 | .mk k l n ts, d => !decide (40 < d) && fmB k l n ts.length && fmL ts d
def fmL : List Term → Int → Bool
 | [], _ => true
 | t :: r, d => fmT t (d + 1) && fmL r d
end
theorem c50 (t : Term) : ∀ d, 0 ≤ d ∧ d ≤ 41 → CallSt Tryz.prog 39 [tv t, .c (.int .i64 d)] [] (fun r H' => r = .c (.bool (fmT t d)) ∧ H' = []) := by
 induction t using Term.ind with
 | _ t ih =>
 intro d hd
 obtain ⟨k, l, n, ts⟩ := t
 replace ih : ∀ u, u ∈ ts → _ := ih
 refine call_pure (E := env 0) (fn := Tryz.f39) (c := bodyOf Tryz.f39) (env_ok 0) mixed sK sK sK sK sK sK rfl ?_
 conv => whnf
 refine ⟨fun h1 => ?_, fun h1 => ?_⟩
 ·conv => whnf
  refine ⟨rfl, ?_⟩
  conv => whnf
  refine ⟨rfl, ?_⟩
  simp only [fmT]
  rw [h1]
  exact ⟨rfl, rfl⟩
 replace h1' := of_decide_eq_false h1
 have noB : ∀ v, fmB k l n ts.length = v → fmT (.mk k l n ts) d = (v && fmL ts d) := fun v hv => by rw [fmT, hv, h1]; rfl
 conv => whnf
 refine ⟨fun h2 => ?_, fun h2 => ?_⟩
 replace h2 : k = 1 := of_decide_eq_true h2
 rotate_left
 replace h2 : ¬ k = 1 := of_decide_eq_false h2
 conv => whnf
 refine ⟨fun h3 => ?_, fun h3 => ?_⟩
 replace h3 : k = 2 := of_decide_eq_true h3
 rotate_left
 replace h3 : ¬ k = 2 := of_decide_eq_false h3
 conv => whnf
 refine ⟨fun h4 => ?_, fun h4 => ?_⟩
 replace h4 : k = 3 := of_decide_eq_true h4
 rotate_left
 replace h4 : ¬ k = 3 := of_decide_eq_false h4
 conv => whnf
 refine ⟨fun h5 => ?_, fun h5 => ?_⟩
 replace h5 : k = 4 := of_decide_eq_true h5
 rotate_left
 replace h5 : ¬ k = 4 := of_decide_eq_false h5
 conv => whnf
 ·refine ⟨rfl, ?_⟩
  conv => whnf
  refine ⟨rfl, ?_⟩
  rw [noB false (by simp [fmB, *])]
  exact ⟨rfl, rfl⟩
 all_goals conv => whnf
 ·intro hlen
  clear hlen
  conv => whnf
  refine ⟨fun h6 => ?_, fun h6 => ?_⟩
  all_goals simp only [Term.k, Term.l, Term.n, Term.ts, len_tcs] at h6
  ·conv => whnf
   refine ⟨rfl, ?_⟩
   conv => whnf
   refine ⟨rfl, ?_⟩
   rw [noB false (by rw [fmB, if_pos h2]; exact congrArg not h6)]
   exact ⟨rfl, rfl⟩
  conv => whnf
  refine loop_intro (fun m tm H => ∃ (i : Nat), ts.length = m + i ∧ fmL (ts.drop i) d = fmT (.mk k l n ts) d ∧
   tm = [(5, .c (.int .i64 i)), (2, .ptr 0 0), (1, .c (.int .i64 d)), (4, .c (.bool false))] ∧ H = [.box [.c (.int .i64 k), .c (.int .i64 l), .c (.int .i64 n), .c (.sl 4 48 (tcs ts))]])
   ts.length _ _ ⟨0, by omega, ?_, rfl, rfl⟩ (Wk.sl [0] rfl ⟨rfl, trivial⟩ ⟨rfl, rfl, rfl, rfl, trivial⟩ rfl) ?_
  ·rw [noB true (by rw [fmB, if_pos h2]; exact congrArg not h6), Bool.true_and]; rfl
  ·rintro m tm H ⟨i, hi, hR, rfl, rfl⟩
   conv => whnf
   intro hlen
   replace hlen : (tcs ts).length * 48 ≤ 140737488355328 := hlen
   rw [len_tcs] at hlen
   conv => whnf
   refine ⟨fun hc => ?_, fun hc => ?_⟩
   ·replace hc : (i : Int) < (tcs ts).length := of_decide_eq_true hc
    rw [len_tcs] at hc
    have hlt : i < ts.length := by omega
    obtain ⟨u, hu⟩ : ∃ u, ts[i]? = some u := ⟨ts[i], List.getElem?_eq_getElem hlt⟩
    have hm := List.mem_of_getElem? hu
    have huc := tcs_at ts i u hu
    have hdr := drop_at hu
    have hcc := ih u hm (d + 1) ⟨by omega, by omega⟩
    obtain ⟨k', l', n', us⟩ := u
    rw [hdr, fmL] at hR
    conv => whnf
    refine ⟨_, ⟨by omega, by simpa using huc⟩, ?_⟩
    conv => whnf
    refine ⟨Nat.le_refl 4, ?_⟩
    conv => whnf
    refine ⟨⟨by omega, by omega⟩, ?_⟩
    conv => whnf
    refine CallSt.use hcc [] trivial (by decide) rfl ?_
    rintro _ _ ⟨rfl, rfl⟩ _
    conv => whnf
    refine ⟨fun hf => ?_, fun hf => ?_⟩
    ·conv => whnf
     refine ⟨rfl, ?_⟩
     conv => whnf
     refine ⟨rfl, ?_⟩
     rw [← hR, show fmT (.mk k' l' n' us) (d + 1) = false by simpa using hf]
     exact ⟨rfl, rfl⟩
    ·conv => whnf
     refine ⟨⟨by omega, by omega⟩, ?_⟩
     conv => whnf
     refine ⟨m - 1, _, _, by omega, ⟨i + 1, by omega, ?_, rfl, rfl⟩, Wk.sl [0] rfl ⟨rfl, trivial⟩ ⟨rfl, rfl, rfl, rfl, trivial⟩ rfl⟩
     rw [← hR, show fmT (.mk k' l' n' us) (d + 1) = true by simpa using hf, Bool.true_and]
   ·replace hc : ¬ (i : Int) < (tcs ts).length := of_decide_eq_false hc
    rw [len_tcs] at hc
    conv => whnf
    refine ⟨rfl, ?_⟩
    conv => whnf
    refine ⟨rfl, ?_⟩
    rw [← hR, List.drop_eq_nil_of_le (by omega)]
    exact ⟨rfl, rfl⟩
 ·intro hlen
  clear hlen
  conv => whnf
  refine ⟨fun h6 => ?_, fun h6 => ?_⟩
  all_goals simp only [Term.k, Term.l, Term.n, Term.ts, len_tcs] at h6
  ·conv => whnf
   refine ⟨rfl, ?_⟩
   conv => whnf
   refine ⟨rfl, ?_⟩
   rw [noB false (by rw [fmB, if_neg h2, if_pos h3]; exact congrArg not h6)]
   exact ⟨rfl, rfl⟩
  conv => whnf
  refine loop_intro (fun m tm H => ∃ (i : Nat), ts.length = m + i ∧ fmL (ts.drop i) d = fmT (.mk k l n ts) d ∧
   tm = [(5, .c (.int .i64 i)), (2, .ptr 0 0), (1, .c (.int .i64 d)), (4, .c (.bool false))] ∧ H = [.box [.c (.int .i64 k), .c (.int .i64 l), .c (.int .i64 n), .c (.sl 4 48 (tcs ts))]])
   ts.length _ _ ⟨0, by omega, ?_, rfl, rfl⟩ (Wk.sl [0] rfl ⟨rfl, trivial⟩ ⟨rfl, rfl, rfl, rfl, trivial⟩ rfl) ?_
  ·rw [noB true (by rw [fmB, if_neg h2, if_pos h3]; exact congrArg not h6), Bool.true_and]; rfl
  ·rintro m tm H ⟨i, hi, hR, rfl, rfl⟩
   conv => whnf
   intro hlen
   replace hlen : (tcs ts).length * 48 ≤ 140737488355328 := hlen
   rw [len_tcs] at hlen
   conv => whnf
   refine ⟨fun hc => ?_, fun hc => ?_⟩
   ·replace hc : (i : Int) < (tcs ts).length := of_decide_eq_true hc
    rw [len_tcs] at hc
    have hlt : i < ts.length := by omega
    obtain ⟨u, hu⟩ : ∃ u, ts[i]? = some u := ⟨ts[i], List.getElem?_eq_getElem hlt⟩
    have hm := List.mem_of_getElem? hu
    have huc := tcs_at ts i u hu
    have hdr := drop_at hu
    have hcc := ih u hm (d + 1) ⟨by omega, by omega⟩
    obtain ⟨k', l', n', us⟩ := u
    rw [hdr, fmL] at hR
    conv => whnf
    refine ⟨_, ⟨by omega, by simpa using huc⟩, ?_⟩
    conv => whnf
    refine ⟨Nat.le_refl 4, ?_⟩
    conv => whnf
    refine ⟨⟨by omega, by omega⟩, ?_⟩
    conv => whnf
    refine CallSt.use hcc [] trivial (by decide) rfl ?_
    rintro _ _ ⟨rfl, rfl⟩ _
    conv => whnf
    refine ⟨fun hf => ?_, fun hf => ?_⟩
    ·conv => whnf
     refine ⟨rfl, ?_⟩
     conv => whnf
     refine ⟨rfl, ?_⟩
     rw [← hR, show fmT (.mk k' l' n' us) (d + 1) = false by simpa using hf]
     exact ⟨rfl, rfl⟩
    ·conv => whnf
     refine ⟨⟨by omega, by omega⟩, ?_⟩
     conv => whnf
     refine ⟨m - 1, _, _, by omega, ⟨i + 1, by omega, ?_, rfl, rfl⟩, Wk.sl [0] rfl ⟨rfl, trivial⟩ ⟨rfl, rfl, rfl, rfl, trivial⟩ rfl⟩
     rw [← hR, show fmT (.mk k' l' n' us) (d + 1) = true by simpa using hf, Bool.true_and]
   ·replace hc : ¬ (i : Int) < (tcs ts).length := of_decide_eq_false hc
    rw [len_tcs] at hc
    conv => whnf
    refine ⟨rfl, ?_⟩
    conv => whnf
    refine ⟨rfl, ?_⟩
    rw [← hR, List.drop_eq_nil_of_le (by omega)]
    exact ⟨rfl, rfl⟩
 ·intro hlen
  clear hlen
  conv => whnf
  refine ⟨fun h6 => ?_, fun h6 => ?_⟩
  all_goals simp only [Term.k, Term.l, Term.n, Term.ts, len_tcs] at h6
  ·conv => whnf
   refine ⟨rfl, ?_⟩
   conv => whnf
   refine ⟨rfl, ?_⟩
   rw [noB false (by rw [fmB, if_neg h2, if_neg h3, if_pos h4]; exact congrArg not h6)]
   exact ⟨rfl, rfl⟩
  conv => whnf
  refine loop_intro (fun m tm H => ∃ (i : Nat), ts.length = m + i ∧ fmL (ts.drop i) d = fmT (.mk k l n ts) d ∧
   tm = [(5, .c (.int .i64 i)), (2, .ptr 0 0), (1, .c (.int .i64 d)), (4, .c (.bool false))] ∧ H = [.box [.c (.int .i64 k), .c (.int .i64 l), .c (.int .i64 n), .c (.sl 4 48 (tcs ts))]])
   ts.length _ _ ⟨0, by omega, ?_, rfl, rfl⟩ (Wk.sl [0] rfl ⟨rfl, trivial⟩ ⟨rfl, rfl, rfl, rfl, trivial⟩ rfl) ?_
  ·rw [noB true (by rw [fmB, if_neg h2, if_neg h3, if_pos h4]; exact congrArg not h6), Bool.true_and]; rfl
  ·rintro m tm H ⟨i, hi, hR, rfl, rfl⟩
   conv => whnf
   intro hlen
   replace hlen : (tcs ts).length * 48 ≤ 140737488355328 := hlen
   rw [len_tcs] at hlen
   conv => whnf
   refine ⟨fun hc => ?_, fun hc => ?_⟩
   ·replace hc : (i : Int) < (tcs ts).length := of_decide_eq_true hc
    rw [len_tcs] at hc
    have hlt : i < ts.length := by omega
    obtain ⟨u, hu⟩ : ∃ u, ts[i]? = some u := ⟨ts[i], List.getElem?_eq_getElem hlt⟩
    have hm := List.mem_of_getElem? hu
    have huc := tcs_at ts i u hu
    have hdr := drop_at hu
    have hcc := ih u hm (d + 1) ⟨by omega, by omega⟩
    obtain ⟨k', l', n', us⟩ := u
    rw [hdr, fmL] at hR
    conv => whnf
    refine ⟨_, ⟨by omega, by simpa using huc⟩, ?_⟩
    conv => whnf
    refine ⟨Nat.le_refl 4, ?_⟩
    conv => whnf
    refine ⟨⟨by omega, by omega⟩, ?_⟩
    conv => whnf
    refine CallSt.use hcc [] trivial (by decide) rfl ?_
    rintro _ _ ⟨rfl, rfl⟩ _
    conv => whnf
    refine ⟨fun hf => ?_, fun hf => ?_⟩
    ·conv => whnf
     refine ⟨rfl, ?_⟩
     conv => whnf
     refine ⟨rfl, ?_⟩
     rw [← hR, show fmT (.mk k' l' n' us) (d + 1) = false by simpa using hf]
     exact ⟨rfl, rfl⟩
    ·conv => whnf
     refine ⟨⟨by omega, by omega⟩, ?_⟩
     conv => whnf
     refine ⟨m - 1, _, _, by omega, ⟨i + 1, by omega, ?_, rfl, rfl⟩, Wk.sl [0] rfl ⟨rfl, trivial⟩ ⟨rfl, rfl, rfl, rfl, trivial⟩ rfl⟩
     rw [← hR, show fmT (.mk k' l' n' us) (d + 1) = true by simpa using hf, Bool.true_and]
   ·replace hc : ¬ (i : Int) < (tcs ts).length := of_decide_eq_false hc
    rw [len_tcs] at hc
    conv => whnf
    refine ⟨rfl, ?_⟩
    conv => whnf
    refine ⟨rfl, ?_⟩
    rw [← hR, List.drop_eq_nil_of_le (by omega)]
    exact ⟨rfl, rfl⟩
 ·refine ⟨fun h6 => ?_, fun h6 => ?_⟩
  all_goals simp only [Term.k, Term.l, Term.n, Term.ts, len_tcs] at h6
  ·conv => whnf
   refine ⟨rfl, ?_⟩
   conv => whnf
   refine ⟨rfl, ?_⟩
   rw [noB false (by rw [fmB, if_neg h2, if_neg h3, if_neg h4, if_pos h5]; exact congrArg not h6)]
   exact ⟨rfl, rfl⟩
  conv => whnf
  refine loop_intro (fun m tm H => ∃ (i : Nat), ts.length = m + i ∧ fmL (ts.drop i) d = fmT (.mk k l n ts) d ∧
   tm = [(5, .c (.int .i64 i)), (2, .ptr 0 0), (1, .c (.int .i64 d)), (4, .c (.bool false))] ∧ H = [.box [.c (.int .i64 k), .c (.int .i64 l), .c (.int .i64 n), .c (.sl 4 48 (tcs ts))]])
   ts.length _ _ ⟨0, by omega, ?_, rfl, rfl⟩ (Wk.sl [0] rfl ⟨rfl, trivial⟩ ⟨rfl, rfl, rfl, rfl, trivial⟩ rfl) ?_
  ·rw [noB true (by rw [fmB, if_neg h2, if_neg h3, if_neg h4, if_pos h5]; exact congrArg not h6), Bool.true_and]; rfl
  ·rintro m tm H ⟨i, hi, hR, rfl, rfl⟩
   conv => whnf
   intro hlen
   replace hlen : (tcs ts).length * 48 ≤ 140737488355328 := hlen
   rw [len_tcs] at hlen
   conv => whnf
   refine ⟨fun hc => ?_, fun hc => ?_⟩
   ·replace hc : (i : Int) < (tcs ts).length := of_decide_eq_true hc
    rw [len_tcs] at hc
    have hlt : i < ts.length := by omega
    obtain ⟨u, hu⟩ : ∃ u, ts[i]? = some u := ⟨ts[i], List.getElem?_eq_getElem hlt⟩
    have hm := List.mem_of_getElem? hu
    have huc := tcs_at ts i u hu
    have hdr := drop_at hu
    have hcc := ih u hm (d + 1) ⟨by omega, by omega⟩
    obtain ⟨k', l', n', us⟩ := u
    rw [hdr, fmL] at hR
    conv => whnf
    refine ⟨_, ⟨by omega, by simpa using huc⟩, ?_⟩
    conv => whnf
    refine ⟨Nat.le_refl 4, ?_⟩
    conv => whnf
    refine ⟨⟨by omega, by omega⟩, ?_⟩
    conv => whnf
    refine CallSt.use hcc [] trivial (by decide) rfl ?_
    rintro _ _ ⟨rfl, rfl⟩ _
    conv => whnf
    refine ⟨fun hf => ?_, fun hf => ?_⟩
    ·conv => whnf
     refine ⟨rfl, ?_⟩
     conv => whnf
     refine ⟨rfl, ?_⟩
     rw [← hR, show fmT (.mk k' l' n' us) (d + 1) = false by simpa using hf]
     exact ⟨rfl, rfl⟩
    ·conv => whnf
     refine ⟨⟨by omega, by omega⟩, ?_⟩
     conv => whnf
     refine ⟨m - 1, _, _, by omega, ⟨i + 1, by omega, ?_, rfl, rfl⟩, Wk.sl [0] rfl ⟨rfl, trivial⟩ ⟨rfl, rfl, rfl, rfl, trivial⟩ rfl⟩
     rw [← hR, show fmT (.mk k' l' n' us) (d + 1) = true by simpa using hf, Bool.true_and]
   ·replace hc : ¬ (i : Int) < (tcs ts).length := of_decide_eq_false hc
    rw [len_tcs] at hc
    conv => whnf
    refine ⟨rfl, ?_⟩
    conv => whnf
    refine ⟨rfl, ?_⟩
    rw [← hR, List.drop_eq_nil_of_le (by omega)]
    exact ⟨rfl, rfl⟩
end Go.Tr
/- Check, Size, Proper. -/
namespace Go.Tr
open Go.Proofs
def prop (t : Term) : Bool := (propT t 1 0).1
theorem c14 (t : Term) : CallSt Tryz.prog 77 [tv t] [] (fun r H' => r = .c (.int .i64 (if prop t then 0 else 2)) ∧ H' = []) := by
 obtain ⟨k, l, n, ts⟩ := t
 refine call_pure (E := env 0) (fn := Tryz.f77) (c := bodyOf Tryz.f77) (env_ok 0) mixed sK sK sK sK sK sK rfl ?_
 conv => whnf
 refine CallSt.use (c47 (.mk k l n ts) 1 0 (by omega) (by omega)) [1] ⟨rfl, trivial⟩ (by decide) rfl ?_
 rintro _ _ ⟨rfl, rfl⟩ _
 conv => whnf
 refine ⟨fun h => ?_, fun h => ?_⟩
 ·conv => whnf
  refine ⟨rfl, ?_⟩
  conv => whnf
  refine ⟨rfl, ?_⟩
  rw [if_neg (by unfold prop; simpa using h)]
  exact ⟨rfl, rfl⟩
 ·conv => whnf
  refine ⟨rfl, ?_⟩
  conv => whnf
  refine ⟨rfl, ?_⟩
  rw [if_pos (by unfold prop; simpa using h)]
  exact ⟨rfl, rfl⟩
mutual
theorem propT_dp : ∀ (t : Term) (d c : Int), (propT t d c).1 = true → dpT t ≤ 41 - d
 | .mk k l n ts, d, c, h => by
  unfold propT at h
  split at h
  ·cases h
  ·split at h
   ·have := propL_dp ts d (c + 1) h (by omega)
    unfold dpT
    omega
   ·cases h
theorem propL_dp : ∀ (ts : List Term) (d c : Int), (propL ts d c).1 = true → d ≤ 40 → dpL ts ≤ 40 - d
 | [], d, c, h, hd => by simp only [dpL]; omega
 | t :: r, d, c, h, hd => by
  have h1 := propT_dp t (d + 1) c
  unfold propL at h
  generalize propT t (d + 1) c = x at *
  obtain ⟨b, c'⟩ := x
  cases b
  ·cases h
  ·have h2 := propL_dp r d c' h hd
   have := h1 rfl
   unfold dpL mx
   split <;> omega
end
def rprop (t : Term) : Bool := decide (ndT t 600 ≤ 600) && fmT t 1
theorem c16 (t : Term) : CallSt Tryz.prog 13 [tv t] [] (fun r H' => r = .c (.bool (rprop t)) ∧ H' = []) := by
 obtain ⟨k, l, n, ts⟩ := t
 refine call_pure (E := env 0) (fn := Tryz.f13) (c := bodyOf Tryz.f13) (env_ok 0) mixed sK sK sK sK sK sK rfl ?_
 conv => whnf
 refine CallSt.use (c49 (.mk k l n ts) 600 (by omega)) [] trivial (by decide) rfl ?_
 rintro _ _ ⟨rfl, rfl⟩ _
 conv => whnf
 refine ⟨fun h => ?_, fun h => ?_⟩
 ·conv => whnf
  refine CallSt.use (c50 (.mk k l n ts) 1 (by omega)) [] trivial (by decide) rfl ?_
  rintro _ _ ⟨rfl, rfl⟩ _
  conv => whnf
  refine ⟨rfl, ?_⟩
  conv => whnf
  refine ⟨rfl, ?_⟩
  have h' := of_decide_eq_true h
  rw [rprop, decide_eq_true h']
  exact ⟨rfl, rfl⟩
 ·conv => whnf
  refine ⟨rfl, ?_⟩
  conv => whnf
  refine ⟨rfl, ?_⟩
  have h' := of_decide_eq_false h
  rw [rprop, decide_eq_false h']
  exact ⟨rfl, rfl⟩
end Go.Tr
/- App, Lam, Under, Same, gives. -/
namespace Go.Tr
open Go.Proofs
theorem tv_mk (k l n : Int) (ts : List Term) : tv (.mk k l n ts) = .agg [.c (.int .i64 k), .c (.int .i64 l), .c (.int .i64 n), .c (.sl 4 48 (tcs ts))] := rfl
def unT (k i : Int) : Int := if k = 3 ∨ (k = 2 ∧ i = 1) then 1 else 0
theorem unT_bd (k i : Int) : 0 ≤ unT k i ∧ unT k i ≤ 1 := by unfold unT; split <;> omega
theorem c77 (t : Term) (i : Int) : CallSt Tryz.prog 119 [tv t, .c (.int .i64 i)] [] (fun r H' => r = .c (.int .i64 (unT t.k i)) ∧ H' = []) := by
 obtain ⟨k, l, n, ts⟩ := t
 rw [tv_mk]
 refine call_pure (E := env 0) (fn := Tryz.f119) (c := bodyOf Tryz.f119) (env_ok 0) mixed sK sK sK sK sK sK rfl ?_
 have key : (decide (k = 3) || (decide (k = 2) && decide (i = 1))) = decide (unT k i = 1) := by
  unfold unT
  by_cases h1 : k = 3 <;> by_cases h2 : k = 2 <;> by_cases h3 : i = 1 <;> simp [h1, h2, h3]
 conv => whnf
 refine ⟨fun h => ?_, fun h => ?_⟩
 ·conv => whnf
  refine ⟨rfl, ?_⟩
  conv => whnf
  refine ⟨rfl, ?_⟩
  have h2 := of_decide_eq_true (key.symm.trans h)
  simp only [Term.k]
  rw [h2]
  exact ⟨rfl, rfl⟩
 ·conv => whnf
  refine ⟨rfl, ?_⟩
  conv => whnf
  refine ⟨rfl, ?_⟩
  have h2 := of_decide_eq_false (key.symm.trans h)
  simp only [Term.k]
  rw [show unT k i = 0 by have := unT_bd k i; omega]
  exact ⟨rfl, rfl⟩
mutual
def sameT : Term → Term → Bool
 | .mk k l n ts, .mk k' l' n' us => decide (k = k') && decide (l = l') && decide (n = n') && decide (ts.length = us.length) && sameL ts us
def sameL : List Term → List Term → Bool
 | t :: r, u :: s => sameT t u && sameL r s
 | _, _ => true
end
mutual
theorem sameT_iff : ∀ (t u : Term), sameT t u = true ↔ t = u
 | .mk k l n ts, .mk k' l' n' us => by
  unfold sameT
  simp only [Bool.and_eq_true, decide_eq_true_eq, Term.mk.injEq]
  constructor
  ·rintro ⟨⟨⟨⟨h1, h2⟩, h3⟩, h4⟩, h5⟩
   exact ⟨h1, h2, h3, (sameL_iff ts us h4).1 h5⟩
  ·rintro ⟨h1, h2, h3, h4⟩
   exact ⟨⟨⟨⟨h1, h2⟩, h3⟩, by rw [h4]⟩, (sameL_iff ts us (by rw [h4])).2 h4⟩
theorem sameL_iff : ∀ (ts us : List Term), ts.length = us.length → (sameL ts us = true ↔ ts = us)
 | [], [], _ => by simp [sameL]
 | t :: r, u :: s, h => by
  unfold sameL
  simp only [Bool.and_eq_true, List.cons.injEq]
  rw [sameT_iff t u, sameL_iff r s (by simpa using h)]
 | [], _ :: _, h => by simp at h
 | _ :: _, [], h => by simp at h
end
theorem c23 (t : Term) : ∀ u : Term, CallSt Tryz.prog 31 [tv t, tv u] [] (fun r H' => r = .c (.bool (sameT t u)) ∧ H' = []) := by
 induction t using Term.ind with
 | _ t ih =>
 intro u
 obtain ⟨k, l, n, ts⟩ := t
 obtain ⟨k2, l2, n2, us⟩ := u
 replace ih : ∀ u, u ∈ ts → _ := ih
 rw [tv_mk, tv_mk]
 refine call_pure (E := env 0) (fn := Tryz.f31) (c := bodyOf Tryz.f31) (env_ok 0) mixed sK sK sK sK sK sK rfl ?_
 conv => whnf
 intro hl1
 conv => whnf
 intro hl2
 clear hl1 hl2
 conv => whnf
 have key : (!decide (k = k2) || !decide (l = l2) || !decide (n = n2) || !decide (((tcs ts).length : Int) = (tcs us).length)) = !(decide (k = k2) && decide (l = l2) && decide (n = n2) && decide (ts.length = us.length)) := by
  rw [len_tcs, len_tcs, show decide ((ts.length : Int) = us.length) = decide (ts.length = us.length) by simp only [Int.natCast_inj]]
  simp only [Bool.not_and]
 refine ⟨fun h => ?_, fun h => ?_⟩
 ·conv => whnf
  refine ⟨rfl, ?_⟩
  conv => whnf
  refine ⟨rfl, ?_⟩
  have h2 := key.symm.trans h
  rw [Bool.not_eq_true'] at h2
  unfold sameT
  rw [h2]
  exact ⟨rfl, rfl⟩
 ·have h2 := key.symm.trans h
  rw [Bool.not_eq_false'] at h2
  have hle : ts.length = us.length := by
   simp only [Bool.and_eq_true, decide_eq_true_eq] at h2
   exact h2.2
  have hs : sameT (.mk k l n ts) (.mk k2 l2 n2 us) = sameL ts us := by rw [sameT, h2, Bool.true_and]
  conv => whnf
  refine loop_intro (fun m tm H => ∃ (i : Nat), ts.length = m + i ∧ sameL (ts.drop i) (us.drop i) = sameL ts us ∧
   tm = [(5, .c (.int .i64 i)), (2, .ptr 0 0), (3, .ptr 1 0), (4, .c (.bool false))] ∧ H = [.box [.c (.int .i64 k), .c (.int .i64 l), .c (.int .i64 n), .c (.sl 4 48 (tcs ts))], .box [.c (.int .i64 k2), .c (.int .i64 l2), .c (.int .i64 n2), .c (.sl 4 48 (tcs us))]])
   ts.length _ _ ⟨0, by omega, rfl, rfl, rfl⟩ (Wk.sl [0, 1] rfl ⟨rfl, rfl, trivial⟩ ⟨rfl, rfl, rfl, rfl, trivial⟩ rfl) ?_
  rintro m tm H ⟨i, hi, hR, rfl, rfl⟩
  conv => whnf
  intro hlen
  replace hlen : (tcs ts).length * 48 ≤ 140737488355328 := hlen
  rw [len_tcs] at hlen
  conv => whnf
  refine ⟨fun hc => ?_, fun hc => ?_⟩
  ·replace hc : (i : Int) < (tcs ts).length := of_decide_eq_true hc
   rw [len_tcs] at hc
   have hlt : i < ts.length := by omega
   obtain ⟨u, hu⟩ : ∃ u, ts[i]? = some u := ⟨ts[i], List.getElem?_eq_getElem hlt⟩
   obtain ⟨v, hv⟩ : ∃ v, us[i]? = some v := ⟨us[i], List.getElem?_eq_getElem (by omega)⟩
   have hm := List.mem_of_getElem? hu
   have huc := tcs_at ts i u hu
   have hvc := tcs_at us i v hv
   rw [drop_at hu, drop_at hv, sameL] at hR
   have hcc := ih u hm v
   obtain ⟨k', l', n', us'⟩ := u
   obtain ⟨k3, l3, n3, us3⟩ := v
   conv => whnf
   refine draw_intro true (by kernel_rfl) ?_
   conv => whnf
   refine ⟨_, ⟨by omega, by simpa using huc⟩, ?_⟩
   conv => whnf
   refine ⟨Nat.le_refl 4, ?_⟩
   conv => whnf
   refine ⟨_, ⟨by omega, by simpa using hvc⟩, ?_⟩
   conv => whnf
   refine ⟨Nat.le_refl 4, ?_⟩
   conv => whnf
   refine CallSt.use hcc [] trivial (by decide) rfl ?_
   rintro _ _ ⟨rfl, rfl⟩ _
   conv => whnf
   refine ⟨fun hf => ?_, fun hf => ?_⟩
   ·conv => whnf
    refine ⟨rfl, ?_⟩
    conv => whnf
    refine ⟨rfl, ?_⟩
    rw [hs, ← hR, show sameT (.mk k' l' n' us') (.mk k3 l3 n3 us3) = false by simpa using hf]
    exact ⟨rfl, rfl⟩
   ·conv => whnf
    refine ⟨⟨by omega, by omega⟩, ?_⟩
    conv => whnf
    refine ⟨m - 1, _, _, by omega, ⟨i + 1, by omega, ?_, rfl, rfl⟩, Wk.sl [0, 1] rfl ⟨rfl, rfl, trivial⟩ ⟨rfl, rfl, rfl, rfl, trivial⟩ rfl⟩
    rw [← hR, show sameT (.mk k' l' n' us') (.mk k3 l3 n3 us3) = true by simpa using hf, Bool.true_and]
  ·replace hc : ¬ (i : Int) < (tcs ts).length := of_decide_eq_false hc
   rw [len_tcs] at hc
   conv => whnf
   refine ⟨rfl, ?_⟩
   conv => whnf
   refine ⟨rfl, ?_⟩
   rw [hs, ← hR, List.drop_eq_nil_of_le (by omega), List.drop_eq_nil_of_le (by omega)]
   exact ⟨rfl, rfl⟩
end Go.Tr
/- Each, Map. -/
namespace Go.Tr
open Go.Proofs
mutual
def eachT {σ : Type} (step : σ → Term → Int → σ) : Term → Int → σ → σ
 | .mk k l n ts, i, s => eachL step k i 0 ts (step s (.mk k l n ts) i)
def eachL {σ : Type} (step : σ → Term → Int → σ) (k i : Int) : Int → List Term → σ → σ
 | _, [], s => s
 | j, t :: r, s => eachL step k i (j + 1) r (eachT step t (i + unT k j) s)
end
theorem c54 {σ : Type} (f : FuncId) (x0 x1 x2 x3 : σ → CV) (step : σ → Term → Int → σ) (ok : Term → Int → Prop) (hok : ∀ t i, ok t i → (0 ≤ i ∧ i ≤ 1000000000) ∧ ∀ (j : Nat) u, t.ts[j]? = some u → ok u (i + unT t.k j))
  (hf : ∀ s t i, ok t i → CallSt Tryz.prog f [tv t, .c (.int .i64 i), .ptr 0 0, .ptr 1 0, .ptr 2 0, .ptr 3 0] [.box [.c (x0 s)], .box [.c (x1 s)], .box [.c (x2 s)], .box [.c (x3 s)]]
   (fun r H' => r = .tup [] ∧ H' = [.box [.c (x0 (step s t i))], .box [.c (x1 (step s t i))], .box [.c (x2 (step s t i))], .box [.c (x3 (step s t i))]])) (t : Term) :
  ∀ (i : Int) (s : σ), ok t i → CallSt Tryz.prog 113 [tv t, .c (.int .i64 i), .fn f [.ptr 0 0, .ptr 1 0, .ptr 2 0, .ptr 3 0]] [.box [.c (x0 s)], .box [.c (x1 s)], .box [.c (x2 s)], .box [.c (x3 s)]]
   (fun r H' => r = .tup [] ∧ H' = [.box [.c (x0 (eachT step t i s))], .box [.c (x1 (eachT step t i s))], .box [.c (x2 (eachT step t i s))], .box [.c (x3 (eachT step t i s))]]) := by
 induction t using Term.ind with
 | _ t ih =>
 intro i s hti
 have hff := hf s t i hti
 obtain ⟨hib, hch⟩ := hok t i hti
 obtain ⟨k, l, n, ts⟩ := t
 replace ih : ∀ u, u ∈ ts → _ := ih
 rw [tv_mk]
 refine call_pure (E := env 4) (fn := Tryz.f113) (c := bodyOf Tryz.f113) (env_ok 4) mixed sK sK sK sK sK sK rfl ?_
 conv => whnf
 refine CallSt.use hff [0, 1, 2, 3] ⟨rfl, rfl, rfl, rfl, trivial⟩ (by decide) rfl ?_
 rintro _ _ ⟨rfl, rfl⟩ _
 conv => whnf
 intro hlen
 replace hlen : (tcs ts).length * 48 ≤ 140737488355328 := hlen
 rw [len_tcs] at hlen
 conv => whnf
 refine loop_intro (fun m tm H => ∃ (j : Nat) (s' : σ), ts.length = m + j ∧ eachL step k i j (ts.drop j) s' = eachT step (.mk k l n ts) i s ∧
   tm = [(15, .c (.int .i64 j)), (13, .c (.sl 4 48 (tcs ts))), (14, .c (.int .i64 (tcs ts).length)), (1, .c (.int .i64 i)), (2, .fn f [.ptr 0 0, .ptr 1 0, .ptr 2 0, .ptr 3 0]), (3, .ptr 4 0)] ∧
   H = [.box [.c (x0 s')], .box [.c (x1 s')], .box [.c (x2 s')], .box [.c (x3 s')], .box [.c (.int .i64 k), .c (.int .i64 l), .c (.int .i64 n), .c (.sl 4 48 (tcs ts))]])
   ts.length _ _ ⟨0, _, by omega, rfl, rfl, rfl⟩ (Wk.sl [0, 1, 2, 3, 4] rfl ⟨rfl, rfl, rfl, rfl, rfl, trivial⟩ ⟨rfl, rfl, rfl, rfl, rfl, rfl, trivial⟩ rfl) ?_
 rintro m tm H ⟨j, s', hj, hR, rfl, rfl⟩
 conv => whnf
 refine ⟨fun hc => ?_, fun hc => ?_⟩
 ·replace hc : (j : Int) < (tcs ts).length := of_decide_eq_true hc
  rw [len_tcs] at hc
  have hlt : j < ts.length := by omega
  obtain ⟨u, hu⟩ : ∃ u, ts[j]? = some u := ⟨ts[j], List.getElem?_eq_getElem hlt⟩
  have hm := List.mem_of_getElem? hu
  have huc := tcs_at ts j u hu
  have hcc := ih u hm (i + unT k j) s' (hch j u hu)
  have hun := c77 (.mk k l n ts) j
  have hub := unT_bd k j
  rw [drop_at hu, eachL] at hR
  obtain ⟨k', l', n', us⟩ := u
  conv => whnf
  refine ⟨_, ⟨by omega, by simpa using huc⟩, ?_⟩
  conv => whnf
  refine ⟨Nat.le_refl 4, ?_⟩
  conv => whnf
  refine draw_intro true (by kernel_rfl) ?_
  conv => whnf
  refine CallSt.use hun [] trivial (by decide) rfl ?_
  rintro _ _ ⟨rfl, rfl⟩ _
  conv => whnf
  refine ⟨⟨by simp only [Term.k]; omega, by simp only [Term.k]; omega⟩, ?_⟩
  conv => whnf
  refine CallSt.use hcc [0, 1, 2, 3] ⟨rfl, rfl, rfl, rfl, trivial⟩ (by decide) rfl ?_
  rintro _ _ ⟨rfl, rfl⟩ _
  conv => whnf
  refine ⟨⟨by omega, by omega⟩, ?_⟩
  conv => whnf
  refine ⟨m - 1, _, _, by omega, ⟨j + 1, _, by omega, hR, rfl, rfl⟩, Wk.sl [0, 1, 2, 3, 4] rfl ⟨rfl, rfl, rfl, rfl, rfl, trivial⟩ ⟨rfl, rfl, rfl, rfl, rfl, rfl, trivial⟩ rfl⟩
 ·replace hc : ¬ (j : Int) < (tcs ts).length := of_decide_eq_false hc
  rw [len_tcs] at hc
  conv => whnf
  refine ⟨rfl, ?_⟩
  conv => whnf
  refine ⟨rfl, ?_⟩
  rw [List.drop_eq_nil_of_le (by omega), eachL] at hR
  rw [← hR]
  exact ⟨rfl, rfl⟩
mutual
def mapT (g : Int → Int → Int → Int → Int × Int × Int) : Term → Int → Term
 | .mk k l n ts, i => .mk (g k l n i).1 (g k l n i).2.1 (g k l n i).2.2 (mapL g k i 0 ts)
def mapL (g : Int → Int → Int → Int → Int × Int × Int) (k i : Int) : Int → List Term → List Term
 | _, [] => []
 | j, t :: r => mapT g t (i + unT k j) :: mapL g k i (j + 1) r
end
theorem tcs_snoc (ts : List Term) (u : Term) : tcs ts ++ [tc u] = tcs (ts ++ [u]) := by
 induction ts with
 | nil => simp [tcs]
 | cons t r ih => simp only [tcs, List.cons_append, ih]
theorem mapL_len (g : Int → Int → Int → Int → Int × Int × Int) (k i : Int) : ∀ (ts : List Term) (j : Int), (mapL g k i j ts).length = ts.length
 | [], j => by simp [mapL]
 | t :: r, j => by simp [mapL, mapL_len g k i r]
theorem c78 (f : FuncId) (x0 x1 : CV) (g : Int → Int → Int → Int → Int × Int × Int) (ok : Term → Int → Prop) (hok : ∀ t i, ok t i → (0 ≤ i ∧ i ≤ 1000000000) ∧ ∀ (j : Nat) u, t.ts[j]? = some u → ok u (i + unT t.k j))
  (hf : ∀ t i, ok t i → CallSt Tryz.prog f [.agg [.c (.int .i64 t.k), .c (.int .i64 t.l), .c (.int .i64 t.n), .nil], .c (.int .i64 i), .ptr 0 0, .ptr 1 0] [.box [.c x0], .box [.c x1]]
   (fun r H' => r = .agg [.c (.int .i64 (g t.k t.l t.n i).1), .c (.int .i64 (g t.k t.l t.n i).2.1), .c (.int .i64 (g t.k t.l t.n i).2.2), .nil] ∧ H' = [.box [.c x0], .box [.c x1]])) (t : Term) :
  ∀ (i : Int), ok t i → CallSt Tryz.prog 93 [tv t, .c (.int .i64 i), .fn f [.ptr 0 0, .ptr 1 0]] [.box [.c x0], .box [.c x1]]
   (fun r H' => r = tv (mapT g t i) ∧ H' = [.box [.c x0], .box [.c x1]]) := by
 induction t using Term.ind with
 | _ t ih =>
 intro i hti
 have hff := hf t i hti
 obtain ⟨hib, hch⟩ := hok t i hti
 obtain ⟨k, l, n, ts⟩ := t
 replace ih : ∀ u, u ∈ ts → _ := ih
 rw [tv_mk]
 refine call_pure (E := envK 2) (fn := Tryz.f93) (c := bodyOf Tryz.f93) (envK_ok 2) mixed sK sK sK sK sK sK rfl ?_
 conv => whnf
 refine CallSt.use hff [0, 1] ⟨rfl, rfl, trivial⟩ (by decide) rfl ?_
 rintro _ _ ⟨rfl, rfl⟩ _
 simp only [Term.k, Term.l, Term.n]
 generalize hg : g k l n i = y
 obtain ⟨y1, y2, y3⟩ := y
 conv => whnf
 intro hlen
 replace hlen : (tcs ts).length * 48 ≤ 140737488355328 := hlen
 rw [len_tcs] at hlen
 conv => whnf
 refine loop_intro (fun m tm H => ∃ (j : Nat) (us : List Term), ts.length = m + j ∧ us.length = j ∧ us ++ mapL g k i j (ts.drop j) = mapL g k i 0 ts ∧
   tm = [(23, .c (.int .i64 j)), (21, .c (.sl 4 48 (tcs ts))), (22, .c (.int .i64 (tcs ts).length)), (1, .c (.int .i64 i)), (2, .fn f [.ptr 0 0, .ptr 1 0]), (3, .ptr 2 0), (6, .ptr 3 0), (7, .ptr 4 0)] ∧
   H = [.box [.c x0], .box [.c x1], .box [.c (.int .i64 k), .c (.int .i64 l), .c (.int .i64 n), .c (.sl 4 48 (tcs ts))], .box [.c (.int .i64 0), .c (.int .i64 0), .c (.int .i64 0), .nil],
    .box [.c (.int .i64 y1), .c (.int .i64 y2), .c (.int .i64 y3), .own 5], .row 28 4 48 (tcs us)])
   ts.length _ _ ⟨0, [], by omega, rfl, rfl, rfl, rfl⟩ ?_ ?_
 ·refine Wk.trans (H1 := [.box [.c x0], .box [.c x1], .box [.c (.int .i64 k), .c (.int .i64 l), .c (.int .i64 n), .c (.sl 4 48 (tcs ts))], .box [.c (.int .i64 0), .c (.int .i64 0), .c (.int .i64 0), .nil],
    .box [.c (.int .i64 y1), .c (.int .i64 y2), .c (.int .i64 y3), .nil]]) ?_ (Wk.nilrow' 4 3 28 4 48 rfl rfl rfl rfl)
  exact Wk.sl [0, 1, 2, 3, 4] rfl ⟨rfl, rfl, rfl, rfl, rfl, trivial⟩ ⟨rfl, rfl, rfl, rfl, rfl, rfl, rfl, rfl, trivial⟩ rfl
 rintro m tm H ⟨j, us, hj, hus, hR, rfl, rfl⟩
 conv => whnf
 refine ⟨fun hc => ?_, fun hc => ?_⟩
 ·replace hc : (j : Int) < (tcs ts).length := of_decide_eq_true hc
  rw [len_tcs] at hc
  have hlt : j < ts.length := by omega
  obtain ⟨u, hu⟩ : ∃ u, ts[j]? = some u := ⟨ts[j], List.getElem?_eq_getElem hlt⟩
  have hm := List.mem_of_getElem? hu
  have huc := tcs_at ts j u hu
  have hcc := ih u hm (i + unT k j) (hch j u hu)
  have hun := c77 (.mk k l n ts) j
  have hub := unT_bd k j
  rw [drop_at hu, mapL] at hR
  obtain ⟨k', l', n', us'⟩ := u
  conv => whnf
  refine ⟨_, ⟨by omega, by simpa using huc⟩, ?_⟩
  conv => whnf
  refine ⟨Nat.le_refl 4, ?_⟩
  conv => whnf
  refine draw_intro true (by kernel_rfl) ?_
  conv => whnf
  refine CallSt.use hun [] trivial (by decide) rfl ?_
  rintro _ _ ⟨rfl, rfl⟩ _
  conv => whnf
  refine ⟨⟨by simp only [Term.k]; omega, by simp only [Term.k]; omega⟩, ?_⟩
  conv => whnf
  refine CallSt.use hcc [0, 1] ⟨rfl, rfl, trivial⟩ (by decide) rfl ?_
  rintro _ _ ⟨rfl, rfl⟩ _
  generalize hv : mapT g (.mk k' l' n' us') (i + unT k j) = v at *
  obtain ⟨k3, l3, n3, us3⟩ := v
  conv => whnf
  refine ⟨by decide, ?_⟩
  conv => whnf
  refine ⟨by decide, ?_⟩
  conv => whnf
  have hl1 : (tcs us).length = j := by rw [len_tcs, hus]
  have hl2 : ((tcs us).length + 1) * 48 ≤ 140737488355328 := by omega
  have hl3 : (tcs us).length + 1 ≤ 9223372036854775807 := by omega
  refine ⟨hl2, hl3, ?_⟩
  conv => whnf
  refine ⟨⟨by omega, by omega⟩, ?_⟩
  conv => whnf
  refine ⟨m - 1, _, _, by omega, ⟨j + 1, us ++ [.mk k3 l3 n3 us3], by omega, by simp [hus], ?_, rfl, rfl⟩, Wk.sl [0, 1, 2, 3, 4, 8] rfl ⟨rfl, rfl, rfl, rfl, rfl, ?_, trivial⟩ ⟨rfl, rfl, rfl, rfl, rfl, rfl, rfl, rfl, trivial⟩ rfl⟩
  ·rw [← hR, List.append_assoc]
   rfl
  ·rw [← tcs_snoc]
   rfl
 ·replace hc : ¬ (j : Int) < (tcs ts).length := of_decide_eq_false hc
  rw [len_tcs] at hc
  conv => whnf
  refine ⟨rfl, ?_⟩
  conv => whnf
  refine ⟨rfl, ?_⟩
  rw [List.drop_eq_nil_of_le (by omega), mapL, List.append_nil] at hR
  rw [mapT, hg, ← hR]
  exact ⟨rfl, rfl⟩
end Go.Tr
/- Shift. -/
namespace Go.Tr
open Go.Proofs
mutual
def bnT : Term → Prop
 | .mk _ _ n ts => (-1000000 ≤ n ∧ n ≤ 1000000) ∧ bnL ts
def bnL : List Term → Prop
 | [] => True
 | t :: r => bnT t ∧ bnL r
end
theorem bnL_mem : ∀ {ts : List Term}, bnL ts → ∀ u ∈ ts, bnT u
 | [], _, u, h => by cases h
 | t :: r, hb, u, h => by
  rw [bnL] at hb
  rcases List.mem_cons.1 h with rfl | h
  ·exact hb.1
  ·exact bnL_mem hb.2 u h
def okT (t : Term) (i : Int) : Prop := bnT t ∧ 0 ≤ i ∧ i + dpT t ≤ 1000000
theorem okT_step (t : Term) (i : Int) (h : okT t i) : (0 ≤ i ∧ i ≤ 1000000000) ∧ ∀ (j : Nat) u, t.ts[j]? = some u → okT u (i + unT t.k j) := by
 obtain ⟨h1, h2, h3⟩ := h
 have hp := dpT_pos t
 refine ⟨by omega, fun j u hu => ?_⟩
 obtain ⟨k, l, n, ts⟩ := t
 have hm := List.mem_of_getElem? hu
 simp only [Term.ts] at hm
 rw [bnT] at h1
 rw [dpT] at h3
 have hub := unT_bd k j
 have hd := dpL_mem ts u hm
 exact ⟨bnL_mem h1.2 u hm, by simp only [Term.k]; omega, by simp only [Term.k]; omega⟩
theorem bnT_n {t : Term} (h : bnT t) : -1000000 ≤ t.n ∧ t.n ≤ 1000000 := by
 obtain ⟨k, l, n, ts⟩ := t
 rw [bnT] at h
 exact h.1
def shB (fr : Int) (k l n i : Int) : Bool := decide (k = 4) && decide (l = 1) && decide (fr ≤ n - i)
def shStep (fr by_ : Int) (s : Bool × Bool) (t : Term) (i : Int) : Bool × Bool :=
 match shB fr t.k t.l t.n i with
 | true => (s.1 || (decide (by_ < 0) && decide (t.n - i < fr - by_)), s.2 || decide (9999 < t.n + by_))
 | false => s
theorem c55 (fr by_ : Int) (hfr : 0 ≤ fr ∧ fr ≤ 9999) (hby : -9999 ≤ by_ ∧ by_ ≤ 9999) (s : Bool × Bool) (t : Term) (i : Int) (h : okT t i) :
  CallSt Tryz.prog 171 [tv t, .c (.int .i64 i), .ptr 0 0, .ptr 1 0, .ptr 2 0, .ptr 3 0] [.box [.c (.int .i64 fr)], .box [.c (.bool s.1)], .box [.c (.int .i64 by_)], .box [.c (.bool s.2)]]
   (fun r H' => r = .tup [] ∧ H' = [.box [.c (.int .i64 fr)], .box [.c (.bool (shStep fr by_ s t i).1)], .box [.c (.int .i64 by_)], .box [.c (.bool (shStep fr by_ s t i).2)]]) := by
 have hn := bnT_n h.1
 have hi := (okT_step t i h).1
 obtain ⟨k, l, n, ts⟩ := t
 simp only [Term.n] at hn
 rw [tv_mk]
 obtain ⟨s1, s2⟩ := s
 refine call_pure (E := env 4) (fn := Tryz.f171) (c := bodyOf Tryz.f171) (env_ok 4) mixed sK sK sK sK sK sK rfl ?_
 conv => whnf
 refine ⟨⟨by omega, by omega⟩, ?_⟩
 conv => whnf
 refine ⟨fun hb => ?_, fun hb => ?_⟩
 ·replace hb : shB fr k l n i = true := hb
  conv => whnf
  refine ⟨fun _ => ⟨by omega, by omega⟩, ?_⟩
  conv => whnf
  refine ⟨fun _ => ⟨by omega, by omega⟩, ?_⟩
  conv => whnf
  refine ⟨rfl, ?_⟩
  conv => whnf
  refine ⟨rfl, ?_⟩
  simp only [shStep, Term.k, Term.l, Term.n, hb]
  exact ⟨trivial, rfl⟩
 ·replace hb : shB fr k l n i = false := hb
  conv => whnf
  refine ⟨rfl, ?_⟩
  conv => whnf
  refine ⟨rfl, ?_⟩
  simp only [shStep, Term.k, Term.l, Term.n, hb]
  exact ⟨trivial, rfl⟩
def mvG (fr by_ : Int) (k l n i : Int) : Int × Int × Int := (k, l, match shB fr k l n i with | true => n + by_ | false => n)
theorem c79 (fr by_ : Int) (hfr : 0 ≤ fr ∧ fr ≤ 9999) (hby : -9999 ≤ by_ ∧ by_ ≤ 9999) (t : Term) (i : Int) (h : okT t i) :
  CallSt Tryz.prog 181 [.agg [.c (.int .i64 t.k), .c (.int .i64 t.l), .c (.int .i64 t.n), .nil], .c (.int .i64 i), .ptr 0 0, .ptr 1 0] [.box [.c (.int .i64 fr)], .box [.c (.int .i64 by_)]]
   (fun r H' => r = .agg [.c (.int .i64 (mvG fr by_ t.k t.l t.n i).1), .c (.int .i64 (mvG fr by_ t.k t.l t.n i).2.1), .c (.int .i64 (mvG fr by_ t.k t.l t.n i).2.2), .nil] ∧ H' = [.box [.c (.int .i64 fr)], .box [.c (.int .i64 by_)]]) := by
 have hn := bnT_n h.1
 have hi := (okT_step t i h).1
 obtain ⟨k, l, n, ts⟩ := t
 simp only [Term.n, Term.k, Term.l] at hn ⊢
 refine call_trim (E := env 2) (fn := Tryz.f181) (c := bodyOf Tryz.f181) (env_ok 2) mixed sK sK sK sK sK sK rfl ?_
 conv => whnf
 refine ⟨fun _ => ⟨by omega, by omega⟩, ?_⟩
 conv => whnf
 refine ⟨fun hb => ?_, fun hb => ?_⟩
 ·replace hb : shB fr k l n i = true := hb
  conv => whnf
  refine ⟨⟨by omega, by omega⟩, ?_⟩
  conv => whnf
  refine ⟨rfl, ?_⟩
  conv => whnf
  refine ⟨rfl, ?_⟩
  simp only [mvG, hb]
  exact ⟨rfl, rfl⟩
 ·replace hb : shB fr k l n i = false := hb
  conv => whnf
  refine ⟨rfl, ?_⟩
  conv => whnf
  refine ⟨rfl, ?_⟩
  simp only [mvG, hb]
  exact ⟨rfl, rfl⟩
theorem c56 (fr by_ : Int) (hfr : 0 ≤ fr ∧ fr ≤ 9999) (hby : -9999 ≤ by_ ∧ by_ ≤ 9999) (t : Term) (h : okT t 0) :
  CallSt Tryz.prog 172 [tv t, .c (.int .i64 by_), .c (.int .i64 fr)] [] (fun r H' => r = tv (mapT (mvG fr by_) t 0) ∧ H' = []) := by
 have hc := c78 181 (.int .i64 fr) (.int .i64 by_) (mvG fr by_) okT okT_step (fun t i hti => c79 fr by_ hfr hby t i hti) t 0 h
 obtain ⟨k, l, n, ts⟩ := t
 refine call_pure (E := env 0) (fn := Tryz.f172) (c := bodyOf Tryz.f172) (env_ok 0) mixed sK sK sK sK sK sK rfl ?_
 conv => whnf
 refine CallSt.use hc [2, 1] ⟨rfl, rfl, trivial⟩ (by decide) rfl ?_
 rintro _ _ ⟨rfl, rfl⟩ _
 conv => whnf
 refine ⟨rfl, ?_⟩
 conv => whnf
 exact ⟨rfl, rfl, rfl⟩
end Go.Tr
/- Shift; awake. -/
namespace Go.Tr
open Go.Proofs
theorem headOk_n {k l n : Int} {m : Nat} (h : headOk k l n m = true) : 0 ≤ n ∧ n ≤ 9999 := by
 simp only [headOk, Bool.or_eq_true, Bool.and_eq_true, decide_eq_true_eq] at h
 omega
mutual
theorem propT_bn : ∀ (t : Term) (d c : Int), (propT t d c).1 = true → bnT t
 | .mk k l n ts, d, c, h => by
  unfold propT at h
  split at h
  ·cases h
  ·split at h
   ·rename_i hh
    have := headOk_n hh
    rw [bnT]
    exact ⟨by omega, propL_bn ts d (c + 1) h⟩
   ·cases h
theorem propL_bn : ∀ (ts : List Term) (d c : Int), (propL ts d c).1 = true → bnL ts
 | [], d, c, h => by rw [bnL]; trivial
 | t :: r, d, c, h => by
  have h1 := propT_bn t (d + 1) c
  unfold propL at h
  generalize propT t (d + 1) c = x at *
  obtain ⟨b, c'⟩ := x
  cases b
  ·cases h
  ·rw [bnL]
   exact ⟨h1 rfl, propL_bn r d c' h⟩
end
theorem prop_ok {t : Term} (h : prop t = true) : okT t 0 := by
 have h1 := propT_bn t 1 0 h
 have h2 := propT_dp t 1 0 h
 exact ⟨h1, by omega, by omega⟩
def zT : Term := .mk 0 0 0 []
def shBad (t : Term) (by_ fr : Int) : Bool := !prop t || decide (by_ < -9999) || decide (9999 < by_) || decide (fr < 0) || decide (9999 < fr)
def shEach (t : Term) (by_ fr : Int) : Bool × Bool := eachT (shStep fr by_) t 0 (false, false)
def shiftF (t : Term) (by_ fr : Int) : Term × Int :=
 match shBad t by_ fr with
 | true => (zT, 2)
 | false => match (shEach t by_ fr).1 with
  | true => (zT, 27)
  | false => match (shEach t by_ fr).2 with
   | true => (zT, 5)
   | false => (mapT (mvG fr by_) t 0, 0)
theorem c19 (t : Term) (by_ fr : Int) : CallSt Tryz.prog 157 [tv t, .c (.int .i64 by_), .c (.int .i64 fr)] [] (fun r H' => r = .tup [tv (shiftF t by_ fr).1, .c (.int .i64 (shiftF t by_ fr).2)] ∧ H' = []) := by
 have h14 := c14 t
 have hmv : ∀ (_ : prop t = true) (_ : 0 ≤ fr ∧ fr ≤ 9999) (_ : -9999 ≤ by_ ∧ by_ ≤ 9999), _ := fun h1 h2 h3 => c56 fr by_ h2 h3 t (prop_ok h1)
 have hea : ∀ (_ : prop t = true) (_ : 0 ≤ fr ∧ fr ≤ 9999) (_ : -9999 ≤ by_ ∧ by_ ≤ 9999), _ := fun h1 h2 h3 =>
  c54 171 (fun _ => .int .i64 fr) (fun s => .bool s.1) (fun _ => .int .i64 by_) (fun s => .bool s.2) (shStep fr by_) okT okT_step (fun s t i hti => c55 fr by_ h2 h3 s t i hti) t 0 (false, false) (prop_ok h1)
 have hbd : (decide (¬ (if prop t then (0 : Int) else 2) = 0) || decide (by_ < -9999) || decide (9999 < by_) || decide (fr < 0) || decide (9999 < fr)) = shBad t by_ fr := by
  unfold shBad
  cases prop t <;> rfl
 have hsh : ∀ b, shBad t by_ fr = b → shiftF t by_ fr = match b with
  | true => (zT, 2)
  | false => match (shEach t by_ fr).1 with
   | true => (zT, 27)
   | false => match (shEach t by_ fr).2 with
    | true => (zT, 5)
    | false => (mapT (mvG fr by_) t 0, 0) := fun b hb => by unfold shiftF; rw [hb]
 have hok : shBad t by_ fr = false → prop t = true ∧ (0 ≤ fr ∧ fr ≤ 9999) ∧ (-9999 ≤ by_ ∧ by_ ≤ 9999) := fun h => by
  unfold shBad at h
  simp only [Bool.or_eq_false_iff, decide_eq_false_iff_not, Bool.not_eq_false'] at h
  exact ⟨h.1.1.1.1, by omega, by omega⟩
 generalize shBad t by_ fr = bad at *
 unfold shEach at hsh
 generalize eachT (shStep fr by_) t 0 (false, false) = es at *
 generalize mapT (mvG fr by_) t 0 = v at *
 generalize shiftF t by_ fr = res at *
 generalize hq : (if prop t then (0 : Int) else 2) = q at *
 obtain ⟨k, l, n, ts⟩ := t
 rw [tv_mk] at *
 refine call_pure (E := env 0) (fn := Tryz.f157) (c := bodyOf Tryz.f157) (env_ok 0) mixed sK sK sK sK sK sK rfl ?_
 conv => whnf
 refine CallSt.use h14 [] trivial (by decide) rfl ?_
 rintro _ _ ⟨rfl, rfl⟩ _
 conv => whnf
 refine ⟨fun hb => ?_, fun hb => ?_⟩
 ·conv => whnf
  refine ⟨rfl, ?_⟩
  conv => whnf
  refine ⟨rfl, ?_⟩
  have h1 : bad = true := by
   rw [← hbd, ← hb]
   simp only [decide_not]
  rw [hsh true h1]
  exact ⟨rfl, rfl⟩
 have h1 : bad = false := by
  rw [← hbd, ← hb]
  simp only [decide_not]
 obtain ⟨g1, g2, g3⟩ := hok h1
 have hsh := hsh false h1
 conv => whnf
 refine CallSt.use (hea g1 g2 g3) [2, 4, 1, 5] ⟨rfl, rfl, rfl, rfl, trivial⟩ (by decide) rfl ?_
 rintro _ _ ⟨rfl, rfl⟩ _
 obtain ⟨e1, e2⟩ := es
 conv => whnf
 refine ⟨fun hb1 => ?_, fun hb1 => ?_⟩
 ·conv => whnf
  refine ⟨rfl, ?_⟩
  conv => whnf
  refine ⟨rfl, ?_⟩
  replace hb1 : e1 = true := hb1
  subst hb1
  rw [hsh]
  exact ⟨rfl, rfl⟩
 replace hb1 : e1 = false := hb1
 subst hb1
 conv => whnf
 refine ⟨fun hb2 => ?_, fun hb2 => ?_⟩
 ·conv => whnf
  refine ⟨rfl, ?_⟩
  conv => whnf
  refine ⟨rfl, ?_⟩
  replace hb2 : e2 = true := hb2
  subst hb2
  rw [hsh]
  exact ⟨rfl, rfl⟩
 replace hb2 : e2 = false := hb2
 subst hb2
 conv => whnf
 refine CallSt.use (hmv g1 g2 g3) [] trivial (by decide) rfl ?_
 rintro _ _ ⟨rfl, rfl⟩ _
 obtain ⟨k2, l2, n2, ts2⟩ := v
 conv => whnf
 refine ⟨rfl, ?_⟩
 conv => whnf
 refine ⟨rfl, ?_⟩
 rw [hsh]
 exact ⟨rfl, rfl⟩

end Go.Tr
/- The law TermChecks. -/
namespace Go.Tr
open Go.Proofs
mutual
def szT : Term → Int
 | .mk _ _ _ ts => 1 + szL ts
def szL : List Term → Int
 | [] => 0
 | t :: r => szT t + szL r
end
mutual
theorem szT_pos : ∀ t : Term, 1 ≤ szT t
 | .mk _ _ _ ts => by have := szL_pos ts; unfold szT; omega
theorem szL_pos : ∀ ts : List Term, 0 ≤ szL ts
 | [] => by simp [szL]
 | t :: r => by have h1 := szT_pos t; have h2 := szL_pos r; unfold szL; omega
end
mutual
theorem ndT_sz : ∀ (t : Term) (b : Int), 0 ≤ b → (szT t ≤ b → ndT t b = szT t) ∧ (b < szT t → ndT t b = b + 1)
 | .mk k l n ts, b, hb => by
  have h := ndL_sz ts b 1 (by omega)
  have h2 := ndL_bd ts b 1 (by omega)
  unfold ndT szT mn
  constructor
  ·intro h3
   rw [h.1 (by omega), if_neg (by omega)]
  ·intro h3
   have := h.2 (by omega)
   split <;> omega
theorem ndL_sz : ∀ (ts : List Term) (b n : Int), 1 ≤ n ∧ n ≤ b + 1 → (n + szL ts ≤ b → ndL ts b n = n + szL ts) ∧ (b < n + szL ts → b < ndL ts b n)
 | [], b, n, hn => by simp only [ndL, szL]; omega
 | t :: r, b, n, hn => by
  have hp := szT_pos t
  have hr := szL_pos r
  unfold ndL szL
  by_cases h : n ≤ b
  ·rw [if_pos h]
   have h1 := ndT_sz t (b - n) (by omega)
   by_cases h2 : szT t ≤ b - n
   ·rw [h1.1 h2]
    have h3 := ndL_sz r b (n + szT t) (by omega)
    constructor
    ·intro h4; rw [h3.1 (by omega)]; omega
    ·intro h4; exact h3.2 (by omega)
   ·rw [h1.2 (by omega)]
    have h3 := ndL_sz r b (n + (b - n + 1)) (by omega)
    constructor
    ·intro h4; omega
    ·intro h4; exact h3.2 (by omega)
  ·rw [if_neg h]
   omega
end
theorem headOk_fmB (k l n : Int) (m : Nat) : headOk k l n m = fmB k l n m := by
 rw [Bool.eq_iff_iff]
 unfold headOk fmB
 simp only [Bool.or_eq_true, Bool.and_eq_true, decide_eq_true_eq]
 by_cases h1 : k = 1
 ·rw [if_pos h1]
  simp only [Bool.not_eq_true', Bool.or_eq_false_iff, Bool.not_eq_false', decide_eq_true_eq]
  omega
 ·rw [if_neg h1]
  by_cases h2 : k = 2
  ·rw [if_pos h2]
   simp only [Bool.not_eq_true', Bool.or_eq_false_iff, Bool.not_eq_false', decide_eq_true_eq]
   omega
  ·rw [if_neg h2]
   by_cases h3 : k = 3
   ·rw [if_pos h3]
    simp only [Bool.not_eq_true', Bool.or_eq_false_iff, Bool.not_eq_false', decide_eq_true_eq]
    omega
   ·rw [if_neg h3]
    by_cases h4 : k = 4
    ·rw [if_pos h4]
     simp only [Bool.not_eq_true', Bool.or_eq_false_iff, decide_eq_false_iff_not]
     omega
    ·rw [if_neg h4]
     simp only [Bool.false_eq_true, iff_false]
     omega
mutual
theorem propT_yes : ∀ (t : Term) (d c : Int), fmT t d = true → c + szT t ≤ 600 → propT t d c = (true, c + szT t)
 | .mk k l n ts, d, c, hf, hs => by
  have hp := szL_pos ts
  rw [szT] at hs ⊢
  unfold fmT at hf
  simp only [Bool.and_eq_true, Bool.not_eq_true', decide_eq_false_iff_not] at hf
  unfold propT
  rw [if_neg (by omega), headOk_fmB, hf.1.2]
  simp only
  rw [propL_yes ts d (c + 1) hf.2 (by omega)]
  congr 1
  omega
theorem propL_yes : ∀ (ts : List Term) (d c : Int), fmL ts d = true → c + szL ts ≤ 600 → propL ts d c = (true, c + szL ts)
 | [], d, c, _, _ => by simp [propL, szL]
 | t :: r, d, c, hf, hs => by
  have hp := szL_pos r
  rw [szL] at hs ⊢
  unfold fmL at hf
  simp only [Bool.and_eq_true] at hf
  unfold propL
  rw [propT_yes t (d + 1) c hf.1 (by omega)]
  simp only
  rw [propL_yes r d _ hf.2 (by omega)]
  congr 1
  omega
end
mutual
theorem propT_no : ∀ (t : Term) (d c : Int), 0 ≤ c → c ≤ 600 → (propT t d c).1 = true → fmT t d = true ∧ c + szT t ≤ 600 ∧ (propT t d c).2 = c + szT t
 | .mk k l n ts, d, c, h0, hc, h => by
  unfold propT at h ⊢
  split at h
  ·cases h
  ·rename_i hn
   rw [if_neg hn]
   split at h
   ·rename_i hh
    have := propL_no ts d (c + 1) (by omega) (by omega) h
    rw [szT, fmT, ← headOk_fmB, hh, this.1]
    refine ⟨by simp; omega, by omega, by omega⟩
   ·cases h
theorem propL_no : ∀ (ts : List Term) (d c : Int), 0 ≤ c → c ≤ 600 → (propL ts d c).1 = true → fmL ts d = true ∧ c + szL ts ≤ 600 ∧ (propL ts d c).2 = c + szL ts
 | [], d, c, h0, hc, h => by simp only [fmL, szL, propL, true_and]; omega
 | t :: r, d, c, h0, hc, h => by
  have h1 := propT_no t (d + 1) c h0 hc
  have hb := propT_bd t (d + 1) c ⟨h0, hc⟩
  unfold propL at h ⊢
  generalize propT t (d + 1) c = x at *
  obtain ⟨b, c'⟩ := x
  cases b
  ·cases h
  ·simp only at h ⊢
   obtain ⟨a1, a2, a3⟩ := h1 rfl
   simp only at a3 hb
   have h2 := propL_no r d c' (by omega) (hb.2 trivial) h
   rw [fmL, szL, a1, h2.1]
   refine ⟨rfl, by omega, by omega⟩
end
theorem prop_rprop (t : Term) : prop t = rprop t := by
 rw [Bool.eq_iff_iff]
 unfold prop rprop
 simp only [Bool.and_eq_true, decide_eq_true_eq]
 have hs := ndT_sz t 600 (by omega)
 constructor
 ·intro h
  obtain ⟨h1, h2, h3⟩ := propT_no t 1 0 (by omega) (by omega) h
  exact ⟨by rw [hs.1 (by omega)]; omega, h1⟩
 ·rintro ⟨h1, h2⟩
  have : szT t ≤ 600 := by
   rcases Int.lt_or_le 600 (szT t) with h | h
   ·have := hs.2 h; omega
   ·exact h
  rw [propT_yes t 1 0 h2 (by omega)]
end Go.Tr
/- The reference's Shift. -/
namespace Go.Tr
open Go.Proofs
theorem c80 (t : Term) (i : Int) : CallSt Tryz.prog 100 [tv t, .c (.int .i64 i)] [] (fun r H' => r = .c (.int .i64 (unT t.k i)) ∧ H' = []) := by
 obtain ⟨k, l, n, ts⟩ := t
 rw [tv_mk]
 refine call_pure (E := env 0) (fn := Tryz.f100) (c := bodyOf Tryz.f100) (env_ok 0) mixed sK sK sK sK sK sK rfl ?_
 have key : (decide (k = 3) || (decide (k = 2) && decide (i = 1))) = decide (unT k i = 1) := by
  unfold unT
  by_cases h1 : k = 3 <;> by_cases h2 : k = 2 <;> by_cases h3 : i = 1 <;> simp [h1, h2, h3]
 conv => whnf
 refine ⟨fun h => ?_, fun h => ?_⟩
 ·conv => whnf
  refine ⟨rfl, ?_⟩
  conv => whnf
  refine ⟨rfl, ?_⟩
  have h2 := of_decide_eq_true (key.symm.trans h)
  simp only [Term.k]
  rw [h2]
  exact ⟨rfl, rfl⟩
 ·conv => whnf
  refine ⟨rfl, ?_⟩
  conv => whnf
  refine ⟨rfl, ?_⟩
  have h2 := of_decide_eq_false (key.symm.trans h)
  simp only [Term.k]
  rw [show unT k i = 0 by have := unT_bd k i; omega]
  exact ⟨rfl, rfl⟩
def lowB (k l n a b : Int) : Bool := decide (k = 4) && decide (l = 1) && decide (a ≤ n) && decide (n ≤ b)
mutual
def lowT : Term → Int → Int → Bool
 | .mk k l n ts, a, b => lowB k l n a b || lowL k 0 ts a b
def lowL (k : Int) : Int → List Term → Int → Int → Bool
 | _, [], _, _ => false
 | j, t :: r, a, b => lowT t (a + unT k j) (b + unT k j) || lowL k (j + 1) r a b
end
theorem c57 (t : Term) : ∀ (a b : Int), (-1000000 ≤ a ∧ a + dpT t ≤ 1000000) → (-1000000 ≤ b ∧ b + dpT t ≤ 1000000) → CallSt Tryz.prog 71 [tv t, .c (.int .i64 a), .c (.int .i64 b)] [] (fun r H' => r = .c (.bool (lowT t a b)) ∧ H' = []) := by
 induction t using Term.ind with
 | _ t ih =>
 intro a b ha hb
 obtain ⟨k, l, n, ts⟩ := t
 replace ih : ∀ u, u ∈ ts → _ := ih
 rw [dpT] at ha hb
 rw [tv_mk]
 refine call_pure (E := env 0) (fn := Tryz.f71) (c := bodyOf Tryz.f71) (env_ok 0) mixed sK sK sK sK sK sK rfl ?_
 conv => whnf
 refine ⟨fun h => ?_, fun h => ?_⟩
 ·replace h : lowB k l n a b = true := h
  conv => whnf
  refine ⟨rfl, ?_⟩
  conv => whnf
  refine ⟨rfl, ?_⟩
  rw [lowT, h]
  exact ⟨rfl, rfl⟩
 replace h : lowB k l n a b = false := h
 have hlo : lowT (.mk k l n ts) a b = lowL k 0 ts a b := by rw [lowT, h, Bool.false_or]
 conv => whnf
 refine loop_intro (fun m tm H => ∃ (j : Nat), ts.length = m + j ∧ lowL k j (ts.drop j) a b = lowL k 0 ts a b ∧
   tm = [(7, .c (.int .i64 j)), (3, .ptr 0 0), (1, .c (.int .i64 a)), (2, .c (.int .i64 b)), (6, .c (.bool false))] ∧ H = [.box [.c (.int .i64 k), .c (.int .i64 l), .c (.int .i64 n), .c (.sl 4 48 (tcs ts))]])
   ts.length _ _ ⟨0, by omega, rfl, rfl, rfl⟩ (Wk.sl [0] rfl ⟨rfl, trivial⟩ ⟨rfl, rfl, rfl, rfl, rfl, trivial⟩ rfl) ?_
 rintro m tm H ⟨j, hj, hR, rfl, rfl⟩
 conv => whnf
 intro hlen
 replace hlen : (tcs ts).length * 48 ≤ 140737488355328 := hlen
 rw [len_tcs] at hlen
 conv => whnf
 refine ⟨fun hc => ?_, fun hc => ?_⟩
 ·replace hc : (j : Int) < (tcs ts).length := of_decide_eq_true hc
  rw [len_tcs] at hc
  have hlt : j < ts.length := by omega
  obtain ⟨u, hu⟩ : ∃ u, ts[j]? = some u := ⟨ts[j], List.getElem?_eq_getElem hlt⟩
  have hm := List.mem_of_getElem? hu
  have huc := tcs_at ts j u hu
  have hub := unT_bd k j
  have hdp := dpL_mem ts u hm
  have hdq := dpT_pos u
  have hcc := ih u hm (a + unT k j) (b + unT k j) ⟨by omega, by omega⟩ ⟨by omega, by omega⟩
  have hun := c80 (.mk k l n ts) j
  rw [drop_at hu, lowL] at hR
  obtain ⟨k', l', n', us⟩ := u
  conv => whnf
  refine CallSt.use hun [] trivial (by decide) rfl ?_
  rintro _ _ ⟨rfl, rfl⟩ _
  conv => whnf
  refine ⟨_, ⟨by omega, by simpa using huc⟩, ?_⟩
  conv => whnf
  refine ⟨Nat.le_refl 4, ?_⟩
  conv => whnf
  refine ⟨⟨by simp only [Term.k]; omega, by simp only [Term.k]; omega⟩, ?_⟩
  conv => whnf
  refine ⟨⟨by simp only [Term.k]; omega, by simp only [Term.k]; omega⟩, ?_⟩
  conv => whnf
  refine CallSt.use hcc [] trivial (by decide) rfl ?_
  rintro _ _ ⟨rfl, rfl⟩ _
  conv => whnf
  refine ⟨fun hf => ?_, fun hf => ?_⟩
  ·conv => whnf
   refine ⟨rfl, ?_⟩
   conv => whnf
   refine ⟨rfl, ?_⟩
   rw [hlo, ← hR, hf]
   exact ⟨rfl, rfl⟩
  ·conv => whnf
   refine ⟨⟨by omega, by omega⟩, ?_⟩
   conv => whnf
   refine ⟨m - 1, _, _, by omega, ⟨j + 1, by omega, ?_, rfl, rfl⟩, Wk.sl [0] rfl ⟨rfl, trivial⟩ ⟨rfl, rfl, rfl, rfl, rfl, trivial⟩ rfl⟩
   rw [← hR, hf, Bool.false_or]
   rfl
 ·replace hc : ¬ (j : Int) < (tcs ts).length := of_decide_eq_false hc
  rw [len_tcs] at hc
  conv => whnf
  refine ⟨rfl, ?_⟩
  conv => whnf
  refine ⟨rfl, ?_⟩
  rw [hlo, ← hR, List.drop_eq_nil_of_le (by omega), lowL]
  exact ⟨rfl, rfl⟩
end Go.Tr
/- The reference's moved. -/
namespace Go.Tr
open Go.Proofs
theorem shB_of (fr k l n i : Int) {b : Bool} (h : (decide (k = 4) && decide (l = 1) && decide (fr + i ≤ n)) = b) : shB fr k l n i = b := by
 rw [← h]
 unfold shB
 congr 1
 exact decide_eq_decide.2 ⟨fun h => by omega, fun h => by omega⟩
theorem c58 (fr by_ : Int) (hfr : 0 ≤ fr ∧ fr ≤ 9999) (hby : -9999 ≤ by_ ∧ by_ ≤ 9999) (t : Term) : ∀ (i : Int), okT t i →
  CallSt Tryz.prog 72 [tv t, .c (.int .i64 by_), .c (.int .i64 (fr + i))] [] (fun r H' => r = tv (mapT (mvG fr by_) t i) ∧ H' = []) := by
 induction t using Term.ind with
 | _ t ih =>
 intro i hti
 have hn := bnT_n hti.1
 obtain ⟨hib, hch⟩ := okT_step t i hti
 have hi2 := hti.2
 have hdp0 := dpT_pos t
 obtain ⟨k, l, n, ts⟩ := t
 replace ih : ∀ u, u ∈ ts → _ := ih
 simp only [Term.n] at hn
 rw [tv_mk]
 refine call_pure (E := env 0) (fn := Tryz.f72) (c := bodyOf Tryz.f72) (env_ok 0) mixed sK sK sK sK sK sK rfl ?_
 have hmap : ∀ b, shB fr k l n i = b → mapT (mvG fr by_) (.mk k l n ts) i = .mk k l (match b with | true => n + by_ | false => n) (mapL (mvG fr by_) k i 0 ts) := fun b hb => by
  rw [mapT]
  simp only [mvG, hb]
  all_goals (cases b <;> rfl)
 conv => whnf
 refine ⟨fun h => ?_, fun h => ?_⟩
 all_goals replace h := hmap _ (shB_of fr k l n i h)
 all_goals conv => whnf
 ·refine ⟨⟨by omega, by omega⟩, ?_⟩
  conv => whnf
  generalize hnn : (n + by_ : Int) = y at *
  refine loop_intro (fun m tm H => ∃ (j : Nat) (us : List Term), ts.length = m + j ∧ us.length = j ∧ us ++ mapL (mvG fr by_) k i j (ts.drop j) = mapL (mvG fr by_) k i 0 ts ∧
    tm = [(8, .c (.int .i64 j)), (3, .ptr 0 0), (6, .ptr 1 0), (7, .ptr 2 0), (1, .c (.int .i64 by_)), (2, .c (.int .i64 (fr + i)))] ∧
    H = [.box [.c (.int .i64 k), .c (.int .i64 l), .c (.int .i64 n), .c (.sl 4 48 (tcs ts))], .box [.c (.int .i64 0), .c (.int .i64 0), .c (.int .i64 0), .nil],
     .box [.c (.int .i64 k), .c (.int .i64 l), .c (.int .i64 y), .own 3], .row 28 4 48 (tcs us)])
   ts.length _ _ ⟨0, [], by omega, rfl, rfl, rfl, rfl⟩ ?_ ?_
  ·refine Wk.trans (H1 := [.box [.c (.int .i64 k), .c (.int .i64 l), .c (.int .i64 n), .c (.sl 4 48 (tcs ts))], .box [.c (.int .i64 0), .c (.int .i64 0), .c (.int .i64 0), .nil],
     .box [.c (.int .i64 k), .c (.int .i64 l), .c (.int .i64 y), .nil]]) ?_ (Wk.nilrow' 2 3 28 4 48 rfl rfl rfl rfl)
   exact Wk.sl [0, 1, 2] rfl ⟨rfl, rfl, by first | rfl | (rw [← hnn]; rfl), trivial⟩ ⟨rfl, rfl, rfl, rfl, rfl, rfl, trivial⟩ rfl
  rintro m tm H ⟨j, us, hj, hus, hR, rfl, rfl⟩
  conv => whnf
  intro hlen
  replace hlen : (tcs ts).length * 48 ≤ 140737488355328 := hlen
  rw [len_tcs] at hlen
  conv => whnf
  refine ⟨fun hc => ?_, fun hc => ?_⟩
  ·replace hc : (j : Int) < (tcs ts).length := of_decide_eq_true hc
   rw [len_tcs] at hc
   have hlt : j < ts.length := by omega
   obtain ⟨u, hu⟩ : ∃ u, ts[j]? = some u := ⟨ts[j], List.getElem?_eq_getElem hlt⟩
   have hm := List.mem_of_getElem? hu
   have huc := tcs_at ts j u hu
   have hub := unT_bd k j
   have hcc := ih u hm (i + unT k j) (hch j u hu)
   rw [← Int.add_assoc] at hcc
   have hun := c80 (.mk k l n ts) j
   rw [drop_at hu, mapL] at hR
   obtain ⟨k', l', n', us'⟩ := u
   conv => whnf
   refine draw_intro true (by kernel_rfl) ?_
   conv => whnf
   refine ⟨_, ⟨by omega, by simpa using huc⟩, ?_⟩
   conv => whnf
   refine ⟨Nat.le_refl 4, ?_⟩
   conv => whnf
   refine CallSt.use hun [] trivial (by decide) rfl ?_
   rintro _ _ ⟨rfl, rfl⟩ _
   conv => whnf
   refine ⟨⟨by simp only [Term.k]; omega, by simp only [Term.k]; omega⟩, ?_⟩
   conv => whnf
   refine CallSt.use hcc [] trivial (by decide) rfl ?_
   rintro _ _ ⟨rfl, rfl⟩ _
   generalize hv : mapT (mvG fr by_) (.mk k' l' n' us') (i + unT k j) = v at *
   obtain ⟨k3, l3, n3, us3⟩ := v
   conv => whnf
   refine ⟨by decide, ?_⟩
   conv => whnf
   refine ⟨by decide, ?_⟩
   conv => whnf
   have hl1 : (tcs us).length = j := by rw [len_tcs, hus]
   have hl2 : ((tcs us).length + 1) * 48 ≤ 140737488355328 := by omega
   have hl3 : (tcs us).length + 1 ≤ 9223372036854775807 := by omega
   refine ⟨hl2, hl3, ?_⟩
   conv => whnf
   refine ⟨⟨by omega, by omega⟩, ?_⟩
   conv => whnf
   refine ⟨m - 1, _, _, by omega, ⟨j + 1, us ++ [.mk k3 l3 n3 us3], by omega, by simp [hus], ?_, rfl, rfl⟩, Wk.sl [0, 1, 2, 5] rfl ⟨rfl, rfl, rfl, ?_, trivial⟩ ⟨rfl, rfl, rfl, rfl, rfl, rfl, trivial⟩ rfl⟩
   ·rw [← hR, List.append_assoc]
    rfl
   ·rw [← tcs_snoc]
    rfl
  ·replace hc : ¬ (j : Int) < (tcs ts).length := of_decide_eq_false hc
   rw [len_tcs] at hc
   conv => whnf
   refine ⟨rfl, ?_⟩
   conv => whnf
   refine ⟨rfl, ?_⟩
   rw [List.drop_eq_nil_of_le (by omega), mapL, List.append_nil] at hR
   rw [h, ← hR]
   exact ⟨rfl, rfl⟩
 ·
  refine loop_intro (fun m tm H => ∃ (j : Nat) (us : List Term), ts.length = m + j ∧ us.length = j ∧ us ++ mapL (mvG fr by_) k i j (ts.drop j) = mapL (mvG fr by_) k i 0 ts ∧
    tm = [(8, .c (.int .i64 j)), (3, .ptr 0 0), (6, .ptr 1 0), (7, .ptr 2 0), (1, .c (.int .i64 by_)), (2, .c (.int .i64 (fr + i)))] ∧
    H = [.box [.c (.int .i64 k), .c (.int .i64 l), .c (.int .i64 n), .c (.sl 4 48 (tcs ts))], .box [.c (.int .i64 0), .c (.int .i64 0), .c (.int .i64 0), .nil],
     .box [.c (.int .i64 k), .c (.int .i64 l), .c (.int .i64 n), .own 3], .row 28 4 48 (tcs us)])
   ts.length _ _ ⟨0, [], by omega, rfl, rfl, rfl, rfl⟩ ?_ ?_
  ·refine Wk.trans (H1 := [.box [.c (.int .i64 k), .c (.int .i64 l), .c (.int .i64 n), .c (.sl 4 48 (tcs ts))], .box [.c (.int .i64 0), .c (.int .i64 0), .c (.int .i64 0), .nil],
     .box [.c (.int .i64 k), .c (.int .i64 l), .c (.int .i64 n), .nil]]) ?_ (Wk.nilrow' 2 3 28 4 48 rfl rfl rfl rfl)
   exact Wk.sl [0, 1, 2] rfl ⟨rfl, rfl, rfl, trivial⟩ ⟨rfl, rfl, rfl, rfl, rfl, rfl, trivial⟩ rfl
  rintro m tm H ⟨j, us, hj, hus, hR, rfl, rfl⟩
  conv => whnf
  intro hlen
  replace hlen : (tcs ts).length * 48 ≤ 140737488355328 := hlen
  rw [len_tcs] at hlen
  conv => whnf
  refine ⟨fun hc => ?_, fun hc => ?_⟩
  ·replace hc : (j : Int) < (tcs ts).length := of_decide_eq_true hc
   rw [len_tcs] at hc
   have hlt : j < ts.length := by omega
   obtain ⟨u, hu⟩ : ∃ u, ts[j]? = some u := ⟨ts[j], List.getElem?_eq_getElem hlt⟩
   have hm := List.mem_of_getElem? hu
   have huc := tcs_at ts j u hu
   have hub := unT_bd k j
   have hcc := ih u hm (i + unT k j) (hch j u hu)
   rw [← Int.add_assoc] at hcc
   have hun := c80 (.mk k l n ts) j
   rw [drop_at hu, mapL] at hR
   obtain ⟨k', l', n', us'⟩ := u
   conv => whnf
   refine draw_intro true (by kernel_rfl) ?_
   conv => whnf
   refine ⟨_, ⟨by omega, by simpa using huc⟩, ?_⟩
   conv => whnf
   refine ⟨Nat.le_refl 4, ?_⟩
   conv => whnf
   refine CallSt.use hun [] trivial (by decide) rfl ?_
   rintro _ _ ⟨rfl, rfl⟩ _
   conv => whnf
   refine ⟨⟨by simp only [Term.k]; omega, by simp only [Term.k]; omega⟩, ?_⟩
   conv => whnf
   refine CallSt.use hcc [] trivial (by decide) rfl ?_
   rintro _ _ ⟨rfl, rfl⟩ _
   generalize hv : mapT (mvG fr by_) (.mk k' l' n' us') (i + unT k j) = v at *
   obtain ⟨k3, l3, n3, us3⟩ := v
   conv => whnf
   refine ⟨by decide, ?_⟩
   conv => whnf
   refine ⟨by decide, ?_⟩
   conv => whnf
   have hl1 : (tcs us).length = j := by rw [len_tcs, hus]
   have hl2 : ((tcs us).length + 1) * 48 ≤ 140737488355328 := by omega
   have hl3 : (tcs us).length + 1 ≤ 9223372036854775807 := by omega
   refine ⟨hl2, hl3, ?_⟩
   conv => whnf
   refine ⟨⟨by omega, by omega⟩, ?_⟩
   conv => whnf
   refine ⟨m - 1, _, _, by omega, ⟨j + 1, us ++ [.mk k3 l3 n3 us3], by omega, by simp [hus], ?_, rfl, rfl⟩, Wk.sl [0, 1, 2, 5] rfl ⟨rfl, rfl, rfl, ?_, trivial⟩ ⟨rfl, rfl, rfl, rfl, rfl, rfl, trivial⟩ rfl⟩
   ·rw [← hR, List.append_assoc]
    rfl
   ·rw [← tcs_snoc]
    rfl
  ·replace hc : ¬ (j : Int) < (tcs ts).length := of_decide_eq_false hc
   rw [len_tcs] at hc
   conv => whnf
   refine ⟨rfl, ?_⟩
   conv => whnf
   refine ⟨rfl, ?_⟩
   rw [List.drop_eq_nil_of_le (by omega), mapL, List.append_nil] at hR
   rw [h, ← hR]
   exact ⟨rfl, rfl⟩
end Go.Tr
/- The reference's Shift; the law TermShifts, but for the plain law. -/
namespace Go.Tr
open Go.Proofs
def rBad (t : Term) (by_ fr : Int) : Bool := !rprop t || decide (by_ < -9999) || decide (9999 < by_) || decide (fr < 0) || decide (9999 < fr)
def rLow (t : Term) (by_ fr : Int) : Bool := decide (by_ < 0) && lowT t fr (fr - by_ - 1)
def rshiftF (t : Term) (by_ fr : Int) : Term × Int :=
 match rBad t by_ fr with
 | true => (zT, 2)
 | false => match rLow t by_ fr with
  | true => (zT, 27)
  | false => match rprop (mapT (mvG fr by_) t 0) with
   | true => (mapT (mvG fr by_) t 0, 0)
   | false => (zT, 5)
theorem c20 (t : Term) (by_ fr : Int) : CallSt Tryz.prog 37 [tv t, .c (.int .i64 by_), .c (.int .i64 fr)] [] (fun r H' => r = .tup [tv (rshiftF t by_ fr).1, .c (.int .i64 (rshiftF t by_ fr).2)] ∧ H' = []) := by
 have h16 := c16 t
 have hsh : ∀ b, rBad t by_ fr = b → rshiftF t by_ fr = match b with
  | true => (zT, 2)
  | false => match rLow t by_ fr with
   | true => (zT, 27)
   | false => match rprop (mapT (mvG fr by_) t 0) with
    | true => (mapT (mvG fr by_) t 0, 0)
    | false => (zT, 5) := fun b hb => by unfold rshiftF; rw [hb]
 have hok : rBad t by_ fr = false → (okT t 0 ∧ dpT t ≤ 40) ∧ (0 ≤ fr ∧ fr ≤ 9999) ∧ (-9999 ≤ by_ ∧ by_ ≤ 9999) := fun h => by
  unfold rBad at h
  simp only [Bool.or_eq_false_iff, decide_eq_false_iff_not, Bool.not_eq_false'] at h
  have hp : prop t = true := by rw [prop_rprop]; exact h.1.1.1.1
  exact ⟨⟨prop_ok hp, by have := propT_dp t 1 0 hp; omega⟩, by omega, by omega⟩
 have hmv : ∀ (_ : okT t 0 ∧ dpT t ≤ 40) (_ : 0 ≤ fr ∧ fr ≤ 9999) (_ : -9999 ≤ by_ ∧ by_ ≤ 9999), _ := fun h1 h2 h3 => c58 fr by_ h2 h3 t 0 h1.1
 rw [Int.add_zero] at hmv
 have hlow : ∀ (_ : okT t 0 ∧ dpT t ≤ 40) (_ : 0 ≤ fr ∧ fr ≤ 9999) (_ : -9999 ≤ by_ ∧ by_ ≤ 9999), _ := fun h1 h2 h3 => c57 t fr (fr - by_ - 1) ⟨by omega, by have := h1.2; omega⟩ ⟨by omega, by have := h1.2; omega⟩
 have hv16 := c16 (mapT (mvG fr by_) t 0)
 have hbd : (!rprop t || decide (by_ < -9999) || decide (9999 < by_) || decide (fr < 0) || decide (9999 < fr)) = rBad t by_ fr := rfl
 have hrl : (decide (by_ < 0) && lowT t fr (fr - by_ - 1)) = rLow t by_ fr := rfl
 generalize rBad t by_ fr = bad at *
 generalize rLow t by_ fr = lo at *
 generalize lowT t fr (fr - by_ - 1) = lw at *
 generalize rprop (mapT (mvG fr by_) t 0) = pv at *
 generalize mapT (mvG fr by_) t 0 = v at *
 generalize rshiftF t by_ fr = res at *
 generalize rprop t = pt at *
 generalize (okT t 0 ∧ dpT t ≤ 40) = okk at *
 obtain ⟨k, l, n, ts⟩ := t
 obtain ⟨k2, l2, n2, ts2⟩ := v
 rw [tv_mk] at *
 refine call_pure (E := env 0) (fn := Tryz.f37) (c := bodyOf Tryz.f37) (env_ok 0) mixed sK sK sK sK sK sK rfl ?_
 conv => whnf
 refine CallSt.use h16 [] trivial (by decide) rfl ?_
 rintro _ _ ⟨rfl, rfl⟩ _
 conv => whnf
 refine ⟨fun hb => ?_, fun hb => ?_⟩
 ·conv => whnf
  refine ⟨rfl, ?_⟩
  conv => whnf
  refine ⟨rfl, ?_⟩
  rw [hsh true (hbd.symm.trans hb)]
  exact ⟨rfl, rfl⟩
 have h1 : bad = false := hbd.symm.trans hb
 obtain ⟨g1, g2, g3⟩ := hok h1
 have hsh := hsh false h1
 conv => whnf
 refine ⟨fun _ => ⟨by omega, by omega⟩, ?_⟩
 conv => whnf
 refine ⟨fun _ => ⟨by omega, by omega⟩, ?_⟩
 conv => whnf
 refine ⟨fun hby => ?_, fun hby => ?_⟩
 ·conv => whnf
  refine CallSt.use (hlow g1 g2 g3) [] trivial (by decide) rfl ?_
  rintro _ _ ⟨rfl, rfl⟩ _
  conv => whnf
  refine ⟨fun hw => ?_, fun hw => ?_⟩
  ·have hl : lo = true := by
    rw [← hrl, hby]
    exact hw
   conv => whnf
   refine ⟨rfl, ?_⟩
   conv => whnf
   refine ⟨rfl, ?_⟩
   rw [hsh, hl]
   exact ⟨rfl, rfl⟩
  have hl : lo = false := by
   rw [← hrl, hby]
   exact hw
  conv => whnf
  refine CallSt.use (hmv g1 g2 g3) [] trivial (by decide) rfl ?_
  rintro _ _ ⟨rfl, rfl⟩ _
  conv => whnf
  refine CallSt.use hv16 [] trivial (by decide) rfl ?_
  rintro _ _ ⟨rfl, rfl⟩ _
  conv => whnf
  refine ⟨fun hp => ?_, fun hp => ?_⟩
  ·conv => whnf
   refine ⟨rfl, ?_⟩
   conv => whnf
   refine ⟨rfl, ?_⟩
   have hp2 : pv = false := by simpa using hp
   rw [hsh, hl, hp2]
   exact ⟨rfl, rfl⟩
  ·conv => whnf
   refine ⟨rfl, ?_⟩
   conv => whnf
   refine ⟨rfl, ?_⟩
   have hp2 : pv = true := by simpa using hp
   rw [hsh, hl, hp2]
   exact ⟨rfl, rfl⟩
 ·have hl : lo = false := by
   rw [← hrl, hby]
   rfl
  conv => whnf
  refine ⟨fun h => absurd h (by decide), fun _ => ?_⟩
  conv => whnf
  refine CallSt.use (hmv g1 g2 g3) [] trivial (by decide) rfl ?_
  rintro _ _ ⟨rfl, rfl⟩ _
  conv => whnf
  refine CallSt.use hv16 [] trivial (by decide) rfl ?_
  rintro _ _ ⟨rfl, rfl⟩ _
  conv => whnf
  refine ⟨fun hp => ?_, fun hp => ?_⟩
  ·conv => whnf
   refine ⟨rfl, ?_⟩
   conv => whnf
   refine ⟨rfl, ?_⟩
   have hp2 : pv = false := by simpa using hp
   rw [hsh, hl, hp2]
   exact ⟨rfl, rfl⟩
  ·conv => whnf
   refine ⟨rfl, ?_⟩
   conv => whnf
   refine ⟨rfl, ?_⟩
   have hp2 : pv = true := by simpa using hp
   rw [hsh, hl, hp2]
   exact ⟨rfl, rfl⟩
end Go.Tr
/- The plain law of TermShifts. -/
namespace Go.Tr
open Go.Proofs
mutual
def ovT (fr by_ : Int) : Term → Int → Bool
 | .mk k l n ts, i => (shB fr k l n i && decide (9999 < n + by_)) || ovL fr by_ k i 0 ts
def ovL (fr by_ : Int) (k i : Int) : Int → List Term → Bool
 | _, [] => false
 | j, t :: r => ovT fr by_ t (i + unT k j) || ovL fr by_ k i (j + 1) r
end
theorem lowB_shB (fr by_ k l n i : Int) : lowB k l n (fr + i) (fr - by_ - 1 + i) = (shB fr k l n i && decide (n - i < fr - by_)) := by
 unfold lowB shB
 rw [Bool.eq_iff_iff]
 simp only [Bool.and_eq_true, decide_eq_true_eq]
 omega
mutual
theorem eachT_sh (fr by_ : Int) : ∀ (t : Term) (i : Int) (s : Bool × Bool), eachT (shStep fr by_) t i s = (s.1 || (decide (by_ < 0) && lowT t (fr + i) (fr - by_ - 1 + i)), s.2 || ovT fr by_ t i)
 | .mk k l n ts, i, s => by
  rw [eachT, eachL_sh fr by_ k i ts 0, lowT, ovT, lowB_shB]
  simp only [shStep, Term.k, Term.l, Term.n]
  cases shB fr k l n i
  ·simp
  ·simp only [Bool.true_and, Bool.and_or_distrib_left, Bool.or_assoc]
   rfl
theorem eachL_sh (fr by_ k i : Int) : ∀ (ts : List Term) (j : Int) (s : Bool × Bool), eachL (shStep fr by_) k i j ts s = (s.1 || (decide (by_ < 0) && lowL k j ts (fr + i) (fr - by_ - 1 + i)), s.2 || ovL fr by_ k i j ts)
 | [], j, s => by simp [eachL, lowL, ovL]
 | t :: r, j, s => by
  rw [eachL, eachL_sh fr by_ k i r, eachT_sh fr by_ t, lowL, ovL]
  simp only [Bool.and_or_distrib_left, Bool.or_assoc, Int.add_assoc]
end
theorem shEach_eq (t : Term) (by_ fr : Int) : shEach t by_ fr = (rLow t by_ fr, ovT fr by_ t 0) := by
 unfold shEach rLow
 rw [eachT_sh]
 simp
mutual
theorem szT_map (g : Int → Int → Int → Int → Int × Int × Int) : ∀ (t : Term) (i : Int), szT (mapT g t i) = szT t
 | .mk k l n ts, i => by rw [mapT, szT, szT, szL_map g k i ts 0]
theorem szL_map (g : Int → Int → Int → Int → Int × Int × Int) (k i : Int) : ∀ (ts : List Term) (j : Int), szL (mapL g k i j ts) = szL ts
 | [], j => by rw [mapL]
 | t :: r, j => by rw [mapL, szL, szL, szT_map g t, szL_map g k i r]
end
theorem fmB_mv {fr by_ k l n i : Int} {m : Nat} (hfr : 0 ≤ fr) (hi : 0 ≤ i) (hf : fmB k l n m = true) (hs : shB fr k l n i = true) (hlo : (decide (by_ < 0) && decide (n - i < fr - by_)) = false) :
  fmB k l (n + by_) m = !decide (9999 < n + by_) := by
 unfold shB at hs
 simp only [Bool.and_eq_true, decide_eq_true_eq] at hs
 obtain ⟨⟨rfl, rfl⟩, h3⟩ := hs
 have h4 : ¬ (n + by_ < 0) := by
  intro h
  simp only [Bool.and_eq_false_iff, decide_eq_false_iff_not] at hlo
  omega
 unfold fmB
 rw [if_neg (by decide), if_neg (by decide), if_neg (by decide), if_pos rfl, decide_eq_false h4]
 rfl
mutual
theorem fmT_mv (fr by_ : Int) (hfr : 0 ≤ fr) : ∀ (t : Term) (i d : Int), 0 ≤ i → fmT t d = true → (decide (by_ < 0) && lowT t (fr + i) (fr - by_ - 1 + i)) = false → fmT (mapT (mvG fr by_) t i) d = !ovT fr by_ t i
 | .mk k l n ts, i, d, hi, hf, hlo => by
  unfold fmT at hf
  simp only [Bool.and_eq_true] at hf
  rw [lowT, lowB_shB, Bool.and_or_distrib_left, Bool.or_eq_false_iff] at hlo
  have hL := fmL_mv fr by_ hfr k i ts 0 d hi hf.2 hlo.2
  rw [mapT, fmT, mapL_len, hf.1.1, Bool.true_and, hL, ovT, Bool.not_or]
  simp only [mvG]
  cases hs : shB fr k l n i with
  | true =>
   rw [hs, Bool.true_and] at hlo
   rw [fmB_mv hfr hi hf.1.2 hs hlo.1]
   rfl
  | false =>
   rw [hf.1.2]
   rfl
theorem fmL_mv (fr by_ : Int) (hfr : 0 ≤ fr) (k i : Int) : ∀ (ts : List Term) (j d : Int), 0 ≤ i → fmL ts d = true → (decide (by_ < 0) && lowL k j ts (fr + i) (fr - by_ - 1 + i)) = false → fmL (mapL (mvG fr by_) k i j ts) d = !ovL fr by_ k i j ts
 | [], j, d, hi, hf, hlo => by rw [mapL, ovL, fmL]; rfl
 | t :: r, j, d, hi, hf, hlo => by
  unfold fmL at hf
  simp only [Bool.and_eq_true] at hf
  rw [lowL, Bool.and_or_distrib_left, Bool.or_eq_false_iff, Int.add_assoc, Int.add_assoc] at hlo
  have hu := unT_bd k j
  have h1 := fmT_mv fr by_ hfr t (i + unT k j) (d + 1) (by omega) hf.1 hlo.1
  have h2 := fmL_mv fr by_ hfr k i r (j + 1) d hi hf.2 hlo.2
  rw [mapL, fmL, h1, h2, ovL, Bool.not_or]
end
theorem rprop_iff (t : Term) : rprop t = (decide (szT t ≤ 600) && fmT t 1) := by
 unfold rprop
 congr 1
 have hs := ndT_sz t 600 (by omega)
 refine decide_eq_decide.2 ⟨fun h => ?_, fun h => by rw [hs.1 h]; exact h⟩
 rcases Int.lt_or_le 600 (szT t) with h2 | h2
 ·have := hs.2 h2; omega
 ·exact h2
theorem shift_eq (t : Term) (by_ fr : Int) : shiftF t by_ fr = rshiftF t by_ fr := by
 unfold shiftF rshiftF
 have hb : shBad t by_ fr = rBad t by_ fr := by unfold shBad rBad; rw [prop_rprop]
 rw [hb, shEach_eq]
 cases hbad : rBad t by_ fr with
 | true => rfl
 | false =>
  simp only
  cases hlo : rLow t by_ fr with
  | true => rfl
  | false =>
   simp only
   unfold rBad at hbad
   simp only [Bool.or_eq_false_iff, decide_eq_false_iff_not, Bool.not_eq_false'] at hbad
   obtain ⟨⟨⟨⟨hp, _⟩, _⟩, hfr⟩, _⟩ := hbad
   rw [rprop_iff, Bool.and_eq_true] at hp
   have h1 := fmT_mv fr by_ (by omega) t 0 1 (by omega) hp.2 (by rw [Int.add_zero, Int.add_zero]; exact hlo)
   rw [rprop_iff, szT_map, hp.1, h1, Bool.true_and]
   cases ovT fr by_ t 0 <;> rfl
end Go.Tr
/- The law TermShifts. -/
namespace Go.Tr
open Go.Proofs
end Go.Tr
/- TermFull. -/
namespace Go.Tr
open Go.Proofs
end Go.Tr
/- Same, SameSimple: both sides. -/
namespace Go.Tr
open Go.Proofs
theorem c59 (ts us : List Term) (hf : ∀ t ∈ ts, ∀ u, CallSt Tryz.prog 79 [tv t, tv u] [] (fun r H' => r = .c (.bool (sameT t u)) ∧ H' = [])) :
  CallSt Tryz.prog 107 [.c (.sl 4 48 (tcs ts)), .c (.sl 4 48 (tcs us)), .fn 79 []] [] (fun r H' => r = .c (.bool (decide (ts.length = us.length) && sameL ts us)) ∧ H' = []) := by
 refine call_pure (E := env 0) (fn := Tryz.f107) (c := bodyOf Tryz.f107) (env_ok 0) mixed sK sK sK sK sK sK rfl ?_
 conv => whnf
 intro hl1
 conv => whnf
 intro hl2
 clear hl2
 replace hl1 : (tcs ts).length * 48 ≤ 140737488355328 := hl1
 rw [len_tcs] at hl1
 conv => whnf
 have key : (!decide (((tcs ts).length : Int) = (tcs us).length)) = !decide (ts.length = us.length) := by
  rw [len_tcs, len_tcs]; simp only [Int.natCast_inj]
 refine ⟨fun h => ?_, fun h => ?_⟩
 ·replace h := key.symm.trans h
  rw [Bool.not_eq_true'] at h
  conv => whnf
  refine ⟨rfl, ?_⟩
  conv => whnf
  refine ⟨rfl, ?_⟩
  rw [h]
  exact ⟨rfl, rfl⟩
 replace h := key.symm.trans h
 rw [Bool.not_eq_false'] at h
 have hle : ts.length = us.length := of_decide_eq_true h
 conv => whnf
 intro _
 conv => whnf
 refine loop_intro (fun m tm H => ∃ (i : Nat), ts.length = m + i ∧ sameL (ts.drop i) (us.drop i) = sameL ts us ∧
   tm = [(17, .c (.int .i64 (i))), (15, .c (.sl 4 48 (tcs ts))), (16, .c (.int .i64 ((tcs ts).length))), (1, .c (.sl 4 48 (tcs us))), (2, .fn 79 []), (6, .c (.bool false))] ∧ H = [])
   ts.length _ _ ⟨0, by omega, rfl, rfl, rfl⟩ (Wk.sl [] rfl trivial ⟨rfl, rfl, rfl, rfl, rfl, rfl, trivial⟩ rfl) ?_
 rintro m tm H ⟨i, hi, hR, rfl, rfl⟩
 conv => whnf
 refine ⟨fun hc => ?_, fun hc => ?_⟩
 ·replace hc : (i : Int) < (tcs ts).length := of_decide_eq_true hc
  rw [len_tcs] at hc
  have hlt : i < ts.length := by omega
  obtain ⟨u, hu⟩ : ∃ u, ts[i]? = some u := ⟨ts[i], List.getElem?_eq_getElem hlt⟩
  obtain ⟨v, hv⟩ : ∃ v, us[i]? = some v := ⟨us[i], List.getElem?_eq_getElem (by omega)⟩
  have hm := List.mem_of_getElem? hu
  have huc := tcs_at ts i u hu
  have hvc := tcs_at us i v hv
  rw [drop_at hu, drop_at hv, sameL] at hR
  have hcc := hf u hm v
  obtain ⟨k', l', n', us'⟩ := u
  obtain ⟨k3, l3, n3, us3⟩ := v
  conv => whnf
  refine ⟨_, ⟨by omega, by simpa using huc⟩, ?_⟩
  conv => whnf
  refine ⟨Nat.le_refl 4, ?_⟩
  conv => whnf
  refine ⟨_, ⟨by omega, by simpa using hvc⟩, ?_⟩
  conv => whnf
  refine ⟨Nat.le_refl 4, ?_⟩
  conv => whnf
  try (refine dI sK ?_; conv => whnf)
  first | refine u0 hcc ?_ | refine v0 hcc ?_
  rintro _ _ ⟨rfl, rfl⟩ _
  conv => whnf
  refine ⟨fun hf => ?_, fun hf => ?_⟩
  ·conv => whnf
   refine ⟨rfl, ?_⟩
   conv => whnf
   refine ⟨rfl, ?_⟩
   rw [← hR, show sameT (.mk k' l' n' us') (.mk k3 l3 n3 us3) = false by simpa using hf, Bool.false_and, Bool.and_false]
   exact ⟨rfl, rfl⟩
  ·conv => whnf
   refine ⟨⟨by omega, by omega⟩, ?_⟩
   conv => whnf
   refine ⟨m - 1, _, _, by omega, ⟨i + 1, by omega, ?_, rfl, rfl⟩, Wk.sl [] rfl trivial ⟨rfl, rfl, rfl, rfl, rfl, rfl, trivial⟩ rfl⟩
   rw [← hR, show sameT (.mk k' l' n' us') (.mk k3 l3 n3 us3) = true by simpa using hf, Bool.true_and]
 ·replace hc : ¬ (i : Int) < (tcs ts).length := of_decide_eq_false hc
  rw [len_tcs] at hc
  conv => whnf
  refine ⟨rfl, ?_⟩
  conv => whnf
  refine ⟨rfl, ?_⟩
  rw [h, ← hR, List.drop_eq_nil_of_le (by omega), sameL]
  exact ⟨rfl, rfl⟩
  all_goals simp
theorem c22 (t : Term) : ∀ u : Term, CallSt Tryz.prog 79 [tv t, tv u] [] (fun r H' => r = .c (.bool (sameT t u)) ∧ H' = []) := by
 induction t using Term.ind with
 | _ t ih =>
 intro u
 obtain ⟨k, l, n, ts⟩ := t
 obtain ⟨k2, l2, n2, us⟩ := u
 replace ih : ∀ u, u ∈ ts → _ := ih
 have hc := c59 ts us ih
 rw [tv_mk, tv_mk]
 refine call_pure (E := env 0) (fn := Tryz.f79) (c := bodyOf Tryz.f79) (env_ok 0) mixed sK sK sK sK sK sK rfl ?_
 conv => whnf
 refine ⟨fun h => ?_, fun h => ?_⟩
 ·conv => whnf
  try (refine dI sK ?_; conv => whnf)
  first | refine u0 hc ?_ | refine v0 hc ?_
  rintro _ _ ⟨rfl, rfl⟩ _
  conv => whnf
  refine ⟨rfl, ?_⟩
  conv => whnf
  refine ⟨rfl, ?_⟩
  rw [sameT, h, Bool.true_and]
  exact ⟨rfl, rfl⟩
 ·conv => whnf
  refine ⟨rfl, ?_⟩
  conv => whnf
  refine ⟨rfl, ?_⟩
  rw [sameT, h]
  exact ⟨rfl, rfl⟩
inductive Smp where
 | mk (ys : List Smp) (c : Int)
namespace Smp
def xs : Smp → List Smp | mk a _ => a
def c : Smp → Int | mk _ a => a
end Smp
theorem Smp.ind {C : Smp → Prop} (h : ∀ t : Smp, (∀ u ∈ t.xs, C u) → C t) : ∀ t, C t
 | .mk ys c => h _ fun u hu => Smp.ind h u
 termination_by t => SizeOf.sizeOf t
 decreasing_by
 have := List.sizeOf_lt_of_mem (show u ∈ ys from hu)
 simp; omega
mutual
def sc : Smp → List CV
 | .mk ys c => [.sl 2 32 (scs ys), .int .i64 c]
def scs : List Smp → List (List CV)
 | [] => []
 | t :: r => sc t :: scs r
end
def sv (t : Smp) : AV := .agg [.c (.sl 2 32 (scs t.xs)), .c (.int .i64 t.c)]
theorem sv_mk (ys : List Smp) (c : Int) : sv (.mk ys c) = .agg [.c (.sl 2 32 (scs ys)), .c (.int .i64 c)] := rfl
theorem len_scs : ∀ ts : List Smp, (scs ts).length = ts.length
 | [] => rfl
 | t :: r => by simp [scs, len_scs r]
theorem scs_at : ∀ (ts : List Smp) (i : Nat) (u : Smp), ts[i]? = some u → (scs ts)[i]? = some (sc u)
 | [], _, _, h => by simp at h
 | t :: r, 0, u, h => by simp at h; subst h; simp [scs]
 | t :: r, i + 1, u, h => by simp only [scs, List.getElem?_cons_succ]; exact scs_at r i u (by simpa using h)
theorem scs_snoc (ts : List Smp) (u : Smp) : scs ts ++ [sc u] = scs (ts ++ [u]) := by
 induction ts with
 | nil => simp [scs]
 | cons t r ih => simp only [scs, List.cons_append, ih]
end Go.Tr
/- Domains. -/
namespace Go.Tr
open Go.Proofs
def domT : Term → List Term × Term
 | .mk k l n ts => match ts with
  | a :: b :: r => if k = 2 then (a :: (domT b).1, (domT b).2) else ([], .mk k l n (a :: b :: r))
  | ts => ([], .mk k l n ts)
 termination_by t => SizeOf.sizeOf t
 decreasing_by all_goals (simp; omega)
theorem domT_pi (l n : Int) (a b : Term) (r : List Term) : domT (.mk 2 l n (a :: b :: r)) = (a :: (domT b).1, (domT b).2) := by rw [domT]; simp
theorem domT_no {t : Term} (h : t.k ≠ 2) : domT t = ([], t) := by
 obtain ⟨k, l, n, ts⟩ := t
 replace h : k ≠ 2 := h
 match ts with
 | [] => rw [domT]; simp
 | [a] => rw [domT]; simp
 | a :: b :: r => rw [domT, if_neg h]
theorem fm_pi {l n d : Int} {ts : List Term} (h : fmT (.mk 2 l n ts) d = true) : l = 0 ∧ n = 0 ∧ ∃ a b, ts = [a, b] ∧ fmT a (d + 1) = true ∧ fmT b (d + 1) = true := by
 unfold fmT at h
 simp only [Bool.and_eq_true] at h
 obtain ⟨⟨h1, h2⟩, h3⟩ := h
 unfold fmB at h2
 have h4 : ts.length = 2 ∧ l = 0 ∧ n = 0 := by
  rw [if_neg (by decide), if_pos rfl] at h2
  simp at h2
  omega
 obtain ⟨h4, h5, h6⟩ := h4
 refine ⟨h5, h6, ?_⟩
 match ts, h4 with
 | [a, b], _ =>
  refine ⟨a, b, rfl, ?_⟩
  simp only [fmL, Bool.and_eq_true] at h3
  exact ⟨h3.1, h3.2.1⟩
theorem fm_d {t : Term} {d : Int} (h : fmT t d = true) : d ≤ 40 := by
 obtain ⟨k, l, n, ts⟩ := t
 unfold fmT at h
 simp only [Bool.and_eq_true, decide_eq_true_eq, Bool.not_eq_true', decide_eq_false_iff_not] at h
 omega
theorem dom_ind {C : Term → Int → Prop} (h1 : ∀ t d, t.k ≠ 2 → fmT t d = true → C t d) (h2 : ∀ a b d, fmT a (d + 1) = true → fmT b (d + 1) = true → d ≤ 40 → C b (d + 1) → C (.mk 2 0 0 [a, b]) d) :
  ∀ (n : Nat) (t : Term) (d : Int), SizeOf.sizeOf t ≤ n → fmT t d = true → C t d := by
 intro n
 induction n with
 | zero => intro t d hn; cases t; simp at hn
 | succ n ih =>
  intro t d hn h
  obtain ⟨k, l, x, ts⟩ := t
  by_cases hk : k = 2
  ·subst hk
   obtain ⟨rfl, rfl, a, b, rfl, ha, hb⟩ := fm_pi h
   exact h2 a b d ha hb (fm_d h) (ih b (d + 1) (by simp at hn; omega) hb)
  ·exact h1 _ d hk h
theorem dom_len (t : Term) (d : Int) (h : fmT t d = true) : (domT t).1.length + d ≤ 41 := by
 refine dom_ind (C := fun t d => (domT t).1.length + d ≤ 41) (fun t d hk h => ?_) (fun a b d ha hb hd ih => ?_) _ t d (Nat.le_refl _) h
 ·rw [domT_no hk]
  have := fm_d h
  simp; omega
 ·rw [domT_pi]
  simp only [List.length_cons]
  omega
theorem dom_mem (t : Term) (d : Int) (h : fmT t d = true) : ∀ u ∈ (domT t).1, SizeOf.sizeOf u < SizeOf.sizeOf t ∧ ∃ d', fmT u d' = true ∧ d ≤ d' := by
 refine dom_ind (C := fun t d => ∀ u ∈ (domT t).1, SizeOf.sizeOf u < SizeOf.sizeOf t ∧ ∃ d', fmT u d' = true ∧ d ≤ d') (fun t d hk h => ?_) (fun a b d ha hb hd ih => ?_) _ t d (Nat.le_refl _) h
 ·rw [domT_no hk]
  simp
 ·rw [domT_pi]
  intro u hu
  rcases List.mem_cons.1 hu with rfl | hu
  ·exact ⟨by simp; omega, d + 1, ha, by omega⟩
  ·obtain ⟨h1, d', h2, h3⟩ := ih u hu
   exact ⟨by simp; omega, d', h2, by omega⟩
theorem dom_rest (t : Term) (d : Int) (h : fmT t d = true) : (domT t).2.k ≠ 2 ∧ SizeOf.sizeOf (domT t).2 ≤ SizeOf.sizeOf t ∧ ∃ d', fmT (domT t).2 d' = true ∧ d ≤ d' := by
 refine dom_ind (C := fun t d => (domT t).2.k ≠ 2 ∧ SizeOf.sizeOf (domT t).2 ≤ SizeOf.sizeOf t ∧ ∃ d', fmT (domT t).2 d' = true ∧ d ≤ d') (fun t d hk h => ?_) (fun a b d ha hb hd ih => ?_) _ t d (Nat.le_refl _) h
 ·rw [domT_no hk]
  exact ⟨hk, Nat.le_refl _, d, h, by omega⟩
 ·rw [domT_pi]
  obtain ⟨h1, h2, d', h3, h4⟩ := ih
  exact ⟨h1, by simp at *; omega, d', h3, by omega⟩
theorem c68 (t : Term) (d : Int) (h : fmT t d = true) (hd : 0 ≤ d) : CallSt Tryz.prog 88 [tv t] [] (fun r H' => r = .tup [.c (.sl 4 48 (tcs (domT t).1)), tv (domT t).2] ∧ H' = []) := by
 have hlen := dom_len t d h
 have hz := SizeOf.sizeOf t
 generalize hT : t = T at *
 subst hT
 obtain ⟨k, l, n, ts⟩ := t
 rw [tv_mk]
 refine call_pure (E := env 0) (fn := Tryz.f88) (c := bodyOf Tryz.f88) (env_ok 0) mixed sK sK sK sK sK sK rfl ?_
 conv => whnf
 refine loop_intro (fun m tm H => ∃ (k' l' n' : Int) (ts' pre : List Term) (d' : Int), SizeOf.sizeOf (Term.mk k' l' n' ts') ≤ m ∧ fmT (.mk k' l' n' ts') d' = true ∧ pre ++ (domT (.mk k' l' n' ts')).1 = (domT (.mk k l n ts)).1 ∧ (domT (.mk k' l' n' ts')).2 = (domT (.mk k l n ts)).2 ∧
   tm = [(4, .own 2), (1, .ptr 0 0), (3, .ptr 1 0)] ∧ H = [.box [.c (.int .i64 (k')), .c (.int .i64 (l')), .c (.int .i64 (n')), .c (.sl 4 48 (tcs ts'))], .box [.c (.int .i64 (0)), .c (.int .i64 (0)), .c (.int .i64 (0)), .nil], .row 28 4 48 (tcs pre)])
   (SizeOf.sizeOf (Term.mk k l n ts)) _ _ ⟨k, l, n, ts, [], d, Nat.le_refl _, h, rfl, rfl, rfl, rfl⟩ ?_ ?_
 ·refine Wk.trans (tm1 := [(1, .ptr 0 0), (3, .ptr 1 0), (4, .nil)]) (H1 := [.box [.c (.int .i64 (k)), .c (.int .i64 (l)), .c (.int .i64 (n)), .c (.sl 4 48 (tcs ts))], .box [.c (.int .i64 (0)), .c (.int .i64 (0)), .c (.int .i64 (0)), .nil]]) ?_ (Wk.trans (Wk.niltmp 4 28 4 48 rfl rfl) ?_)
  ·exact Wk.sl [0, 1] rfl ⟨rfl, rfl, trivial⟩ ⟨rfl, rfl, rfl, trivial⟩ rfl
  ·exact Wk.sl [0, 1, 2] rfl ⟨rfl, rfl, rfl, trivial⟩ ⟨rfl, rfl, rfl, trivial⟩ rfl
 rintro m tm H ⟨k', l', n', ts', pre, d', hm, hf, hpre, hrest, rfl, rfl⟩
 conv => whnf
 refine ⟨fun hc => ?_, fun hc => ?_⟩
 ·replace hc : k' = 2 := of_decide_eq_true hc
  subst hc
  obtain ⟨rfl, rfl, a, b, rfl, ha, hb⟩ := fm_pi hf
  rw [domT_pi] at hpre hrest
  have hl1 : (tcs pre).length ≤ 41 := by
   rw [len_tcs]
   have := congrArg List.length hpre
   simp at this
   omega
  obtain ⟨a1, a2, a3, a4⟩ := a
  obtain ⟨b1, b2, b3, b4⟩ := b
  conv => whnf
  refine ⟨_, ⟨by decide, rfl⟩, ?_⟩
  conv => whnf
  refine ⟨Nat.le_refl 4, ?_⟩
  conv => whnf
  refine ⟨by decide, ?_⟩
  conv => whnf
  refine ⟨by decide, ?_⟩
  conv => whnf
  have hl2 : ((tcs pre).length + 1) * 48 ≤ 140737488355328 := by omega
  have hl3 : (tcs pre).length + 1 ≤ 9223372036854775807 := by omega
  refine ⟨hl2, hl3, ?_⟩
  conv => whnf
  refine ⟨_, ⟨by decide, rfl⟩, ?_⟩
  conv => whnf
  refine ⟨Nat.le_refl 4, ?_⟩
  conv => whnf
  refine ⟨SizeOf.sizeOf (Term.mk b1 b2 b3 b4), _, _, ?_, ⟨b1, b2, b3, b4, pre ++ [.mk a1 a2 a3 a4], d' + 1, Nat.le_refl _, hb, ?_, hrest, rfl, rfl⟩, Wk.sl [0, 1, 4] rfl ⟨rfl, rfl, ?_, trivial⟩ ⟨rfl, rfl, rfl, trivial⟩ rfl⟩
  ·simp at hm ⊢; omega
  ·rw [← hpre, List.append_assoc]; rfl
  ·rw [← tcs_snoc]; rfl
 ·replace hc : ¬ k' = 2 := of_decide_eq_false hc
  rw [domT_no (t := .mk k' l' n' ts') hc] at hpre hrest
  simp only [List.append_nil] at hpre
  rw [← hpre, ← hrest]
  conv => whnf
  repeat ((first | (refine aI ?_ ?_; focus exact sI) | refine dI sK ?_ | (refine yI ?_ ?_; focus exact sY) | (refine nI ?_ ?_; focus exact sY)); conv => whnf)
  all_goals exact sR
end Go.Tr
/- Declarations; kind, target, Family. -/
namespace Go.Tr
open Go.Proofs
structure Dcl where
 s : ByteArray
 c : Term
 i : Int
def dc (d : Dcl) : List CV := [.str d.s, .int .i64 d.c.k, .int .i64 d.c.l, .int .i64 d.c.n, .sl 4 48 (tcs d.c.ts), .int .i64 d.i]
def dv (d : Dcl) : AV := .agg [.c (.str d.s), .c (.int .i64 (d.c.k)), .c (.int .i64 (d.c.l)), .c (.int .i64 (d.c.n)), .c (.sl 4 48 (tcs d.c.ts)), .c (.int .i64 (d.i))]
def dcs (l : List Dcl) : List (List CV) := l.map dc
theorem len_dcs (l : List Dcl) : (dcs l).length = l.length := by simp [dcs]
theorem dcs_at {l : List Dcl} {i : Nat} {d : Dcl} (h : l[i]? = some d) : (dcs l)[i]? = some (dc d) := by simp [dcs, h]
theorem prop_fm1 {t : Term} (h : prop t = true) : fmT t 1 = true := by
 rw [prop_rprop] at h
 simp only [rprop, Bool.and_eq_true] at h
 exact h.2
def kindT (t : Term) : Bool := decide ((domT t).2.k = 1)
def targOk (t : Term) : Bool := decide ((domT t).2.k = 4) && decide ((domT t).2.l = 2)
theorem cKind (t : Term) (h : prop t = true) : CallSt Tryz.prog 108 [tv t] [] (fun r H' => r = .c (.bool (kindT t)) ∧ H' = []) := by
 have hd := c68 t 1 (prop_fm1 h) (by omega)
 unfold kindT
 generalize domT t = p at *
 obtain ⟨L, rest⟩ := p
 obtain ⟨k2, l2, n2, ts2⟩ := rest
 clear h
 obtain ⟨k, l, n, ts⟩ := t
 rw [tv_mk] at *
 dsimp only at *
 refine call_pure (E := env 0) (fn := Tryz.f108) (c := bodyOf Tryz.f108) (env_ok 0) mixed sK sK sK sK sK sK rfl ?_
 conv => whnf
 try (refine dI sK ?_; conv => whnf)
 first | refine u0 hd ?_ | refine v0 hd ?_
 rintro _ _ ⟨rfl, rfl⟩ _
 conv => whnf
 repeat ((first | (refine aI ?_ ?_; focus exact sI) | refine dI sK ?_ | (refine yI ?_ ?_; focus exact sY) | (refine nI ?_ ?_; focus exact sY)); conv => whnf)
 all_goals exact sR
theorem cTarget (t : Term) (h : prop t = true) : CallSt Tryz.prog 115 [tv t] [] (fun r H' => r = .tup [.c (.int .i64 ((domT t).2.n)), .c (.bool (targOk t))] ∧ H' = []) := by
 have hd := c68 t 1 (prop_fm1 h) (by omega)
 unfold targOk
 generalize domT t = p at *
 obtain ⟨L, rest⟩ := p
 obtain ⟨k2, l2, n2, ts2⟩ := rest
 clear h
 obtain ⟨k, l, n, ts⟩ := t
 rw [tv_mk] at *
 dsimp only at *
 refine call_pure (E := env 0) (fn := Tryz.f115) (c := bodyOf Tryz.f115) (env_ok 0) mixed sK sK sK sK sK sK rfl ?_
 conv => whnf
 try (refine dI sK ?_; conv => whnf)
 first | refine u0 hd ?_ | refine v0 hd ?_
 rintro _ _ ⟨rfl, rfl⟩ _
 conv => whnf
 repeat ((first | (refine aI ?_ ?_; focus exact sI) | refine dI sK ?_ | (refine yI ?_ ?_; focus exact sY) | (refine nI ?_ ?_; focus exact sY)); conv => whnf)
 all_goals exact sR
theorem cFamily (l : List Dcl) (n : Nat) (d : Dcl) (hd : l[n]? = some d) (hp : prop d.c = true) : CallSt Tryz.prog 81 [.c (.sl 6 72 (dcs l)), .c (.int .i64 (n))] [] (fun r H' => r = .c (.bool (kindT d.c)) ∧ H' = []) := by
 have hk := cKind d.c hp
 have hc := dcs_at hd
 generalize kindT d.c = b at *
 clear hp
 obtain ⟨s, ⟨k, m, x, ts⟩, i⟩ := d
 rw [tv_mk] at *
 refine call_pure (E := env 0) (fn := Tryz.f81) (c := bodyOf Tryz.f81) (env_ok 0) mixed sK sK sK sK sK sK rfl ?_
 conv => whnf
 refine ⟨_, ⟨by omega, by simpa using hc⟩, ?_⟩
 conv => whnf
 refine ⟨show 4 ≤ 5 by decide, ?_⟩
 conv => whnf
 try (refine dI sK ?_; conv => whnf)
 first | refine u0 hk ?_ | refine v0 hk ?_
 rintro _ _ ⟨rfl, rfl⟩ _
 conv => whnf
 repeat ((first | (refine aI ?_ ?_; focus exact sI) | refine dI sK ?_ | (refine yI ?_ ?_; focus exact sY) | (refine nI ?_ ?_; focus exact sY)); conv => whnf)
 all_goals exact sR
def nodeOk (m : Int) (t : Term) (i : Int) : Bool := (!decide (t.l = 3)) && (!decide (t.l = 1) || decide (t.n < i)) && (!decide (t.l = 2) || decide (t.n < m))
def fmStep (m : Int) (b : Bool) (t : Term) (i : Int) : Bool := match decide (t.k = 4) with | true => b && nodeOk m t i | false => b
theorem cFormed1 (sig : List Dcl) (b : Bool) (t : Term) (i : Int) : CallSt Tryz.prog 114 [tv t, .c (.int .i64 (i)), .ptr 0 0, .ptr 1 0] [.box [.c (.bool b)], .box [.c (.sl 6 72 (dcs sig))]]
  (fun r H' => r = .tup [] ∧ H' = [.box [.c (.bool (fmStep sig.length b t i))], .box [.c (.sl 6 72 (dcs sig))]]) := by
 have e1 : t.k = 4 → fmStep sig.length b t i = (b && nodeOk sig.length t i) := fun h => by simp [fmStep, h]
 have e2 : ¬ t.k = 4 → fmStep sig.length b t i = b := fun h => by simp [fmStep, h]
 have hl := len_dcs sig
 obtain ⟨k, l, n, ts⟩ := t
 simp only [Term.k] at e1 e2
 rw [tv_mk]
 refine call_pure (E := env 2) (fn := Tryz.f114) (c := bodyOf Tryz.f114) (env_ok 2) mixed sK sK sK sK sK sK rfl ?_
 conv => whnf
 refine ⟨fun hc => ?_, fun hc => ?_⟩
 ·replace hc : ¬ k = 4 := by simpa using hc
  rw [e2 hc]
  conv => whnf
  repeat ((first | (refine aI ?_ ?_; focus exact sI) | refine dI sK ?_ | (refine yI ?_ ?_; focus exact sY) | (refine nI ?_ ?_; focus exact sY)); conv => whnf)
  all_goals exact sR
 ·replace hc : k = 4 := by simpa using hc
  rw [e1 hc]
  conv => whnf
  intro _
  conv => whnf
  refine ⟨rfl, rfl, rfl, congrArg (fun z => [Ent.box [.c (.bool z)], Ent.box [.c (.sl 6 72 (dcs sig))]]) ?_⟩
  change _ = (b && ((!decide (l = 3)) && (!decide (l = 1) || decide (n < i)) && (!decide (l = 2) || decide (n < (sig.length : Int)))))
  rw [Bool.eq_iff_iff]
  simp only [hl, Bool.and_eq_true, Bool.or_eq_true, Bool.not_eq_true', decide_eq_true_eq, decide_eq_false_iff_not, and_assoc]
end Go.Tr
/- What is handed in: declarations. -/
namespace Go.Tr
open Go.Proofs
section
variable {H : Type} {enc : TypeId × Value → H} {W : World} {base : Nat} {v : Value} {d : DataW H} {ps : List MemPlace}
end
end Go.Tr
/- Simple types of types. -/
namespace Go.Tr
open Go.Proofs
def smpT : Term → Option Smp
 | .mk k l n ts => if k = 4 ∧ l = 2 then some (.mk [] n) else match ts with
  | a :: b :: r => if k = 2 then (match smpT a, smpT b with
   | some x, some y => some (.mk (x :: y.xs) y.c)
   | _, _ => none) else none
  | _ => none
 termination_by t => SizeOf.sizeOf t
 decreasing_by all_goals (simp; omega)
def smpL : List Term → Option (List Smp)
 | [] => some []
 | a :: r => match smpT a, smpL r with
  | some x, some y => some (x :: y)
  | _, _ => none
theorem smpT_pi (a b : Term) : smpT (.mk 2 0 0 [a, b]) = match smpT a, smpT b with
      | some x, some y => some (.mk (x :: y.xs) y.c)
      | _, _ => none := by
  rw [smpT, if_neg (by decide), if_pos rfl]
theorem smpT_no {t : Term} (h : t.k ≠ 2) : smpT t = if t.k = 4 ∧ t.l = 2 then some (.mk [] t.n) else none := by
 obtain ⟨k, l, n, ts⟩ := t
 replace h : k ≠ 2 := h
 match ts with
 | [] => rw [smpT] <;> first | rfl | simp
 | [a] => rw [smpT] <;> first | rfl | simp
 | a :: b :: r => rw [smpT, if_neg h]; rfl
theorem smp_dom (t : Term) (d : Int) (h : fmT t d = true) : smpT t = if (domT t).2.k = 4 ∧ (domT t).2.l = 2 then (match smpL (domT t).1 with | some as_ => some (.mk as_ (domT t).2.n) | none => none) else none := by
 refine dom_ind (C := fun t d => smpT t = if (domT t).2.k = 4 ∧ (domT t).2.l = 2 then (match smpL (domT t).1 with | some as_ => some (.mk as_ (domT t).2.n) | none => none) else none) (fun t d hk h => ?_) (fun a b d ha hb hd ih => ?_) _ t d (Nat.le_refl _) h
 ·rw [domT_no hk, smpT_no hk]
  rfl
 ·rw [domT_pi, smpT_pi, ih]
  dsimp only
  by_cases hh : (domT b).2.k = 4 ∧ (domT b).2.l = 2
  ·rw [if_pos hh, if_pos hh, smpL]
   cases smpT a <;> cases smpL (domT b).1 <;> rfl
  ·rw [if_neg hh, if_neg hh]
   cases smpT a <;> rfl
theorem smpL_app (l : List Term) (a : Term) : smpL (l ++ [a]) = match smpL l, smpT a with
  | some x, some y => some (x ++ [y])
  | _, _ => none := by
 induction l with
 | nil => simp only [List.nil_append, smpL]; cases smpT a <;> rfl
 | cons b r ih =>
  rw [List.cons_append, smpL, smpL, ih]
  cases smpT b <;> cases smpL r <;> cases smpT a <;> rfl
theorem smpL_none {l r : List Term} (h : smpL l = none) : smpL (l ++ r) = none := by
 induction l with
 | nil => cases h
 | cons b q ih =>
  rw [List.cons_append]
  rw [smpL] at h ⊢
  cases hb : smpT b with
  | none => rfl
  | some x =>
   cases hq : smpL q with
   | none => rw [ih hq]
   | some y => rw [hb, hq] at h; cases h
def zS : Smp := .mk [] 0
def smpR (o : Option Smp) (e : Int) : AV := match o with | some s => .tup [sv s, .c (.int .i64 (0))] | none => .tup [sv zS, .c (.int .i64 (e))]
theorem c61 : ∀ (N : Nat) (t : Term) (d : Int), SizeOf.sizeOf t ≤ N → fmT t d = true → 0 ≤ d → CallSt Tryz.prog 142 [tv t] [] (fun r H' => r = smpR (smpT t) 22 ∧ H' = []) := by
 intro N
 induction N with
 | zero => intro t d hn; cases t; simp at hn
 | succ N ih =>
 intro t d hN h hd
 have c := c68 t d h hd
 have hs := smp_dom t d h
 have hlen := dom_len t d h
 have hmem := dom_mem t d h
 generalize hD : domT t = D at *
 obtain ⟨ds, rest⟩ := D
 generalize smpT t = R at *
 obtain ⟨k, l, n, ts⟩ := t
 obtain ⟨k2, l2, n2, ts2⟩ := rest
 simp only [Term.k, Term.l, Term.n] at hs
 dsimp only at c hlen hmem
 rw [tv_mk]
 refine call_pure (E := env 0) (fn := Tryz.f142) (c := bodyOf Tryz.f142) (env_ok 0) mixed sK sK sK sK sK sK rfl ?_
 conv => whnf
 try (refine dI sK ?_; conv => whnf)
 first | refine u0 c ?_ | refine v0 c ?_
 rintro _ _ ⟨rfl, rfl⟩ _
 conv => whnf
 have key : (!decide (k2 = 4) || !decide (l2 = 2)) = !decide (k2 = 4 ∧ l2 = 2) := by
  by_cases h1 : k2 = 4 <;> by_cases h2 : l2 = 2 <;> simp [h1, h2]
 refine ⟨fun hc => ?_, fun hc => ?_⟩
 ·replace hc := key.symm.trans hc
  simp only [Bool.not_eq_true', decide_eq_false_iff_not] at hc
  replace hs := hs.trans (if_neg hc)
  rw [hs]
  conv => whnf
  repeat ((first | (refine aI ?_ ?_; focus exact sI) | refine dI sK ?_ | (refine yI ?_ ?_; focus exact sY) | (refine nI ?_ ?_; focus exact sY)); conv => whnf)
  all_goals exact sR
 replace hc := key.symm.trans hc
 simp only [Bool.not_eq_false', decide_eq_true_eq] at hc
 replace hs := hs.trans (if_pos hc)
 conv => whnf
 intro _
 conv => whnf
 refine loop_intro (fun m tm H => ∃ (i : Nat) (pre : List Smp), ds.length = m + i ∧ smpL (ds.take i) = some pre ∧ pre.length = i ∧
   tm = [(30, .c (.int .i64 (i))), (28, .c (.sl 4 48 (tcs ds))), (29, .c (.int .i64 ((tcs ds).length))), (2, .ptr 0 0), (3, .c (.int .i64 (0))), (6, .ptr 1 0)] ∧ H = [.box [.nil, .c (.int .i64 (0))], .box [.own 2, .c (.int .i64 (n2))], .row 40 2 32 (scs pre)])
   ds.length _ _ ⟨0, [], by omega, rfl, rfl, rfl, rfl⟩ ?_ ?_
 ·refine Wk.trans (tm1 := [(30, .c (.int .i64 ((0 : Nat)))), (28, .c (.sl 4 48 (tcs ds))), (29, .c (.int .i64 ((tcs ds).length))), (2, .ptr 0 0), (3, .c (.int .i64 (0))), (6, .ptr 1 0)]) (H1 := [.box [.nil, .c (.int .i64 (0))], .box [.nil, .c (.int .i64 (n2))]]) ?_ (Wk.nilrow' 1 0 40 2 32 rfl rfl rfl rfl)
  exact Wk.sl [1, 3] rfl ⟨rfl, rfl, trivial⟩ ⟨rfl, rfl, rfl, rfl, rfl, rfl, trivial⟩ rfl
 rintro m tm H ⟨i, pre, hm, hpre, hpl, rfl, rfl⟩
 conv => whnf
 refine ⟨fun hc => ?_, fun hc => ?_⟩
 ·replace hc : (i : Int) < (tcs ds).length := of_decide_eq_true hc
  rw [len_tcs] at hc
  obtain ⟨u, hu⟩ : ∃ u, ds[i]? = some u := ⟨ds[i]'(by omega), List.getElem?_eq_getElem (by omega)⟩
  have huc := tcs_at ds i u hu
  obtain ⟨h1, d', h2, h3⟩ := hmem u (List.mem_of_getElem? hu)
  have cu := ih u d' (by omega) h2 (by omega)
  have htk : ds.take (i + 1) = ds.take i ++ [u] := by
   rw [List.take_add_one, hu]; rfl
  have happ : smpL (ds.take (i + 1)) = match smpT u with | some y => some (pre ++ [y]) | none => none := by
   rw [htk, smpL_app, hpre]
   cases smpT u <;> rfl
  generalize smpT u = o at *
  obtain ⟨k', l', n', us'⟩ := u
  have hpl2 : (scs pre).length = i := by rw [len_scs, hpl]
  conv => whnf
  refine ⟨_, ⟨by omega, by simpa using huc⟩, ?_⟩
  conv => whnf
  refine ⟨Nat.le_refl 4, ?_⟩
  conv => whnf
  cases o with
  | none =>
   have hs2 : smpL ds = none := by
    rw [← List.take_append_drop (i + 1) ds]
    exact smpL_none happ
   rw [hs2] at hs
   rw [hs]
   try (refine dI sK ?_; conv => whnf)
   first | refine u0 cu ?_ | refine v0 cu ?_
   rintro _ _ ⟨rfl, rfl⟩ _
   conv => whnf
   repeat ((first | (refine aI ?_ ?_; focus exact sI) | refine dI sK ?_ | (refine yI ?_ ?_; focus exact sY) | (refine nI ?_ ?_; focus exact sY)); conv => whnf)
   rfl
  | some x =>
   obtain ⟨xs, xc⟩ := x
   try (refine dI sK ?_; conv => whnf)
   first | refine u0 cu ?_ | refine v0 cu ?_
   rintro _ _ ⟨rfl, rfl⟩ _
   conv => whnf
   first | (refine yI ?_ ?_; (focus exact sY); conv => whnf) | (refine nI ?_ ?_; (focus exact sY); conv => whnf)
   refine ⟨by decide, ?_⟩
   conv => whnf
   refine ⟨by decide, ?_⟩
   conv => whnf
   have hl2 : ((scs pre).length + 1) * 32 ≤ 140737488355328 := by omega
   have hl3 : (scs pre).length + 1 ≤ 9223372036854775807 := by omega
   refine ⟨hl2, hl3, ?_⟩
   conv => whnf
   refine ⟨⟨by omega, by omega⟩, ?_⟩
   conv => whnf
   refine ⟨m - 1, _, _, by omega, ⟨i + 1, pre ++ [.mk xs xc], by omega, happ, by simp [hpl], rfl, rfl⟩, Wk.sl [0, 1, 6] rfl ⟨rfl, rfl, ?_, trivial⟩ ⟨rfl, rfl, rfl, rfl, rfl, rfl, trivial⟩ rfl⟩
   rw [← scs_snoc]; rfl
 ·replace hc : ¬ (i : Int) < (tcs ds).length := of_decide_eq_false hc
  rw [len_tcs] at hc
  rw [List.take_of_length_le (by omega)] at hpre
  rw [hpre] at hs
  rw [hs]
  conv => whnf
  repeat ((first | (refine aI ?_ ?_; focus exact sI) | refine dI sK ?_ | (refine yI ?_ ?_; focus exact sY) | (refine nI ?_ ?_; focus exact sY)); conv => whnf)
  all_goals exact sR
end Go.Tr
/- The reference's Simple; Simple. -/
namespace Go.Tr
open Go.Proofs
def smpB (o : Option Smp) : AV := match o with | some s => .tup [sv s, .c (.bool true)] | none => .tup [sv zS, .c (.bool false)]
theorem smp_args : ∀ (N : Nat) (t : Term) (d : Int) (s : Smp), SizeOf.sizeOf t ≤ N → fmT t d = true → smpT t = some s → s.xs.length + d ≤ 41 := by
 intro N
 induction N with
 | zero => intro t d s hn; cases t; simp at hn
 | succ N ih =>
 intro t d s hN h hs
 have hd := fm_d h
 by_cases hk : t.k = 2
 ·obtain ⟨k, l, n, ts⟩ := t
  replace hk : k = 2 := hk
  subst hk
  obtain ⟨rfl, rfl, a, b, rfl, ha, hb⟩ := fm_pi h
  rw [smpT_pi] at hs
  cases hA : smpT a with
  | none => rw [hA] at hs; cases hs
  | some x =>
   cases hB : smpT b with
   | none => rw [hA, hB] at hs; cases hs
   | some y =>
    rw [hA, hB] at hs
    injection hs with hs
    subst hs
    have := ih b (d + 1) y (by simp at hN; omega) hb hB
    obtain ⟨ys, yc⟩ := y
    simp only [Smp.xs, List.length_cons] at this ⊢
    omega
 ·rw [smpT_no hk] at hs
  split at hs
  ·injection hs with hs
   subst hs
   simp only [Smp.xs, List.length_nil]
   omega
  ·cases hs
theorem c27 : ∀ (N : Nat) (t : Term) (d : Int), SizeOf.sizeOf t ≤ N → fmT t d = true → 0 ≤ d → CallSt Tryz.prog 17 [tv t] [] (fun r H' => r = smpB (smpT t) ∧ H' = []) := by
 intro N
 induction N with
 | zero => intro t d hn; cases t; simp at hn
 | succ N ih =>
 intro t d hN h hd0
 have hd := fm_d h
 by_cases hk : t.k = 2
 ·obtain ⟨k, l, n, ts⟩ := t
  replace hk : k = 2 := hk
  subst hk
  obtain ⟨rfl, rfl, a, b, rfl, ha, hb⟩ := fm_pi h
  have ca := ih a (d + 1) (by simp at hN; omega) ha (by omega)
  have cb := ih b (d + 1) (by simp at hN; omega) hb (by omega)
  have hl := fun s => smp_args _ b (d + 1) s (Nat.le_refl _) hb
  have hpi := smpT_pi a b
  generalize smpT a = oa at *
  generalize smpT b = ob at *
  generalize smpT (.mk 2 0 0 [a, b]) = o at *
  obtain ⟨a1, a2, a3, a4⟩ := a
  obtain ⟨b1, b2, b3, b4⟩ := b
  rw [tv_mk]
  refine call_pure (E := env 0) (fn := Tryz.f17) (c := bodyOf Tryz.f17) (env_ok 0) mixed sK sK sK sK sK sK rfl ?_
  conv => whnf
  (refine nI ?_ ?_; (focus exact sY); conv => whnf)
  (refine yI ?_ ?_; (focus exact sY); conv => whnf)
  refine ⟨_, ⟨by decide, rfl⟩, ?_⟩
  conv => whnf
  refine ⟨Nat.le_refl 4, ?_⟩
  conv => whnf
  cases oa with
  | none =>
   try (refine dI sK ?_; conv => whnf)
   first | refine u0 ca ?_ | refine v0 ca ?_
   rintro _ _ ⟨rfl, rfl⟩ _
   conv => whnf
   refine ⟨_, ⟨by decide, rfl⟩, ?_⟩
   conv => whnf
   refine ⟨Nat.le_refl 4, ?_⟩
   conv => whnf
   cases ob with
   | none =>
    rw [hpi]
    try (refine dI sK ?_; conv => whnf)
    first | refine u0 cb ?_ | refine v0 cb ?_
    rintro _ _ ⟨rfl, rfl⟩ _
    conv => whnf
    repeat ((first | (refine aI ?_ ?_; focus exact sI) | refine dI sK ?_ | (refine yI ?_ ?_; focus exact sY) | (refine nI ?_ ?_; focus exact sY)); conv => whnf)
    all_goals exact sR
   | some y =>
    rw [hpi]
    obtain ⟨ys, yc⟩ := y
    try (refine dI sK ?_; conv => whnf)
    first | refine u0 cb ?_ | refine v0 cb ?_
    rintro _ _ ⟨rfl, rfl⟩ _
    conv => whnf
    repeat ((first | (refine aI ?_ ?_; focus exact sI) | refine dI sK ?_ | (refine yI ?_ ?_; focus exact sY) | (refine nI ?_ ?_; focus exact sY)); conv => whnf)
    all_goals exact sR
  | some x =>
   obtain ⟨xs, xc⟩ := x
   try (refine dI sK ?_; conv => whnf)
   first | refine u0 ca ?_ | refine v0 ca ?_
   rintro _ _ ⟨rfl, rfl⟩ _
   conv => whnf
   refine ⟨_, ⟨by decide, rfl⟩, ?_⟩
   conv => whnf
   refine ⟨Nat.le_refl 4, ?_⟩
   conv => whnf
   cases ob with
   | none =>
    rw [hpi]
    try (refine dI sK ?_; conv => whnf)
    first | refine u0 cb ?_ | refine v0 cb ?_
    rintro _ _ ⟨rfl, rfl⟩ _
    conv => whnf
    repeat ((first | (refine aI ?_ ?_; focus exact sI) | refine dI sK ?_ | (refine yI ?_ ?_; focus exact sY) | (refine nI ?_ ?_; focus exact sY)); conv => whnf)
    all_goals exact sR
   | some y =>
    rw [hpi]
    have hl := hl y rfl
    obtain ⟨ys, yc⟩ := y
    simp only [Smp.xs] at hl
    try (refine dI sK ?_; conv => whnf)
    first | refine u0 cb ?_ | refine v0 cb ?_
    rintro _ _ ⟨rfl, rfl⟩ _
    conv => whnf
    first | (refine yI ?_ ?_; (focus exact sY); conv => whnf) | (refine nI ?_ ?_; (focus exact sY); conv => whnf)
    refine ⟨by decide, ?_⟩
    conv => whnf
    refine ⟨by decide, ?_⟩
    conv => whnf
    have e := len_scs ys
    have hl2 : (1 + (scs ys).length) * 32 ≤ 140737488355328 := by omega
    have hl3 : 1 + (scs ys).length ≤ 9223372036854775807 := by omega
    refine ⟨hl2, hl3, ?_⟩
    conv => whnf
    repeat ((first | (refine aI ?_ ?_; focus exact sI) | refine dI sK ?_ | (refine yI ?_ ?_; focus exact sY) | (refine nI ?_ ?_; focus exact sY)); conv => whnf)
    all_goals exact sR
 ·have hno := smpT_no hk
  generalize smpT t = o at *
  obtain ⟨k, l, n, ts⟩ := t
  replace hk : ¬ k = 2 := hk
  rw [tv_mk]
  refine call_pure (E := env 0) (fn := Tryz.f17) (c := bodyOf Tryz.f17) (env_ok 0) mixed sK sK sK sK sK sK rfl ?_
  conv => whnf
  refine ⟨fun hc => ?_, fun hc => ?_⟩
  ·have hh : k = 4 ∧ l = 2 := by simpa using hc
   rw [hno.trans (if_pos hh)]
   conv => whnf
   repeat ((first | (refine aI ?_ ?_; focus exact sI) | refine dI sK ?_ | (refine yI ?_ ?_; focus exact sY) | (refine nI ?_ ?_; focus exact sY)); conv => whnf)
   all_goals exact sR
  ·have hh : ¬ (k = 4 ∧ l = 2) := by
    intro h
    have : (decide (k = 4) && decide (l = 2)) = false := hc
    simp [h.1, h.2] at this
   rw [hno.trans (if_neg hh)]
   conv => whnf
   refine ⟨fun h => absurd (of_decide_eq_true h) hk, fun _ => ?_⟩
   conv => whnf
   repeat ((first | (refine aI ?_ ?_; focus exact sI) | refine dI sK ?_ | (refine yI ?_ ?_; focus exact sY) | (refine nI ?_ ?_; focus exact sY)); conv => whnf)
   all_goals exact sR
theorem c26 (t : Term) : CallSt Tryz.prog 128 [tv t] [] (fun r H' => r = (if prop t then smpR (smpT t) 22 else .tup [sv zS, .c (.int .i64 (2))]) ∧ H' = []) := by
 have c := c14 t
 have cs := fun h => c61 _ t 1 (Nat.le_refl _) h (by omega)
 have hp : prop t = true → fmT t 1 = true := fun h => by
  rw [prop_rprop, rprop_iff, Bool.and_eq_true] at h
  exact h.2
 generalize prop t = p at *
 obtain ⟨k, l, n, ts⟩ := t
 cases p with
 | false =>
  rw [tv_mk]
  refine call_pure (E := env 0) (fn := Tryz.f128) (c := bodyOf Tryz.f128) (env_ok 0) mixed sK sK sK sK sK sK rfl ?_
  conv => whnf
  try (refine dI sK ?_; conv => whnf)
  first | refine u0 c ?_ | refine v0 c ?_
  rintro _ _ ⟨rfl, rfl⟩ _
  conv => whnf
  repeat ((first | (refine aI ?_ ?_; focus exact sI) | refine dI sK ?_ | (refine yI ?_ ?_; focus exact sY) | (refine nI ?_ ?_; focus exact sY)); conv => whnf)
  rfl
 | true =>
  have cs := cs (hp rfl)
  generalize smpT (.mk k l n ts) = o at *
  rw [tv_mk]
  refine call_pure (E := env 0) (fn := Tryz.f128) (c := bodyOf Tryz.f128) (env_ok 0) mixed sK sK sK sK sK sK rfl ?_
  conv => whnf
  try (refine dI sK ?_; conv => whnf)
  first | refine u0 c ?_ | refine v0 c ?_
  rintro _ _ ⟨rfl, rfl⟩ _
  conv => whnf
  cases o with
  | none =>
   first | (refine yI ?_ ?_; (focus exact sY); conv => whnf) | (refine nI ?_ ?_; (focus exact sY); conv => whnf)
   try (refine dI sK ?_; conv => whnf)
   first | refine u0 cs ?_ | refine v0 cs ?_
   rintro _ _ ⟨rfl, rfl⟩ _
   conv => whnf
   repeat ((first | (refine aI ?_ ?_; focus exact sI) | refine dI sK ?_ | (refine yI ?_ ?_; focus exact sY) | (refine nI ?_ ?_; focus exact sY)); conv => whnf)
   all_goals exact sR
  | some s =>
   obtain ⟨s1, s2⟩ := s
   first | (refine yI ?_ ?_; (focus exact sY); conv => whnf) | (refine nI ?_ ?_; (focus exact sY); conv => whnf)
   try (refine dI sK ?_; conv => whnf)
   first | refine u0 cs ?_ | refine v0 cs ?_
   rintro _ _ ⟨rfl, rfl⟩ _
   conv => whnf
   repeat ((first | (refine aI ?_ ?_; focus exact sI) | refine dI sK ?_ | (refine yI ?_ ?_; focus exact sY) | (refine nI ?_ ?_; focus exact sY)); conv => whnf)
   all_goals exact sR
end Go.Tr
/- Substitution, plain. -/
namespace Go.Tr
inductive SbR where
 | er (e : Int)
 | ok (t : Term) (s : Int)
inductive SbL where
 | er (e : Int)
 | ok (l : List Term) (s : Int)
def wholeR (t : Term) (s : Int) : SbR := match prop t with | true => .ok t s | false => .er 5
def putArgs (f : Int → Term → Int → SbR) (k n : Int) : Int → List Term → Int → SbL
 | _, [], s => .ok [] s
 | i, t :: r, s => match f s t (n + unT k i) with
  | .er e => .er e
  | .ok u s1 => (match putArgs f k n (i + 1) r s1 with
   | .er e => .er e
   | .ok us s2 => .ok (u :: us) s2)
def appR (f : Int → Term → Term → Smp → SbR) : Term → List Term → List Smp → Int → SbR
 | g, [], _, s => wholeR g s
 | g, x :: r, S, s => match decide (g.k = 3), g.ts, S with
  | true, b :: _, m :: S' => (match f s b x m with
   | .er e => .er e
   | .ok u s1 => appR f u r S' s1)
  | _, _, _ => .er 23
def raisedT (t : Term) (n : Int) : Term := mapT (mvG 0 n) t 0
def putT : Nat → Int → Term → Int → Term → Smp → SbR
 | 0, _, _, _, _, _ => .er 5
 | g + 1, s, .mk k l m ts, n, x, sm => match decide (20000 < s + 1) with
  | true => .er 5
  | false => (match putArgs (fun s u n => putT g s u n x sm) k n 0 ts (s + 1) with
   | .er e => .er e
   | .ok us s1 => (match decide (k = 4) && decide (l = 1) && decide (n ≤ m) with
    | false => wholeR (.mk k l m us) s1
    | true => (match decide (n < m) with
     | true => wholeR (.mk k l (m - 1) us) s1
     | false => (match prop (raisedT x n) with
      | false => .er 5
      | true => appR (fun s b y sm => putT g s b 0 y sm) (raisedT x n) us sm.xs s1))))
theorem wholeR_ok {t u : Term} {s s' : Int} (h : wholeR t s = .ok u s') : prop u = true ∧ u = t ∧ s' = s := by
 unfold wholeR at h
 cases hp : prop t with
 | false => rw [hp] at h; cases h
 | true => rw [hp] at h; cases h; exact ⟨hp, rfl, rfl⟩
theorem appR_cons (f : Int → Term → Term → Smp → SbR) (g x : Term) (r : List Term) (S : List Smp) (s : Int) : appR f g (x :: r) S s = match decide (g.k = 3), g.ts, S with
  | true, b :: _, m :: S' => (match f s b x m with
   | .er e => .er e
   | .ok u s1 => appR f u r S' s1)
  | _, _, _ => .er 23 := by
 rw [appR.eq_def]
theorem appR_ok {f : Int → Term → Term → Smp → SbR} (hf : ∀ s b y m u s', f s b y m = .ok u s' → s ≤ s') : ∀ {r : List Term} {g : Term} {S : List Smp} {s : Int} {u : Term} {s' : Int}, appR f g r S s = .ok u s' → prop u = true ∧ s ≤ s'
 | [], g, S, s, u, s', h => by
  rw [appR] at h
  obtain ⟨h1, _, h2⟩ := wholeR_ok h
  exact ⟨h1, by omega⟩
 | x :: r, g, S, s, u, s', h => by
  rw [appR_cons] at h
  split at h
  ·split at h
   ·cases h
   ·rename_i v s1 hv
    obtain ⟨h1, h2⟩ := appR_ok hf h
    have := hf _ _ _ _ _ _ hv
    exact ⟨h1, by omega⟩
  ·cases h
theorem putArgs_le {f : Int → Term → Int → SbR} {k n : Int} (hf : ∀ s t n u s', f s t n = .ok u s' → prop u = true ∧ s ≤ s') : ∀ {ts : List Term} {i s : Int} {us : List Term} {s' : Int}, putArgs f k n i ts s = .ok us s' → s ≤ s' ∧ (∀ u ∈ us, prop u = true) ∧ us.length = ts.length
 | [], i, s, us, s', h => by
  rw [putArgs] at h
  cases h
  exact ⟨Int.le_refl _, (fun u hu => nomatch hu), rfl⟩
 | t :: r, i, s, us, s', h => by
  rw [putArgs] at h
  split at h
  ·cases h
  ·rename_i u s1 hu
   split at h
   ·cases h
   ·rename_i us2 s2 hus
    cases h
    obtain ⟨h1, h2⟩ := hf _ _ _ _ _ hu
    obtain ⟨h3, h4, h5⟩ := putArgs_le hf hus
    exact ⟨by omega, fun v hv => by
     rcases List.mem_cons.1 hv with rfl | hv
     ·exact h1
     ·exact h4 v hv, by rw [List.length_cons, List.length_cons, h5]⟩
theorem putT_ok : ∀ (g : Nat) {s : Int} {t : Term} {n : Int} {x : Term} {sm : Smp} {u : Term} {s' : Int}, putT g s t n x sm = .ok u s' → prop u = true ∧ s ≤ s'
 | 0, s, t, n, x, sm, u, s', h => by
  rw [putT] at h
  cases h
 | g + 1, s, .mk k l m ts, n, x, sm, u, s', h => by
  have ih := @putT_ok g
  rw [putT] at h
  split at h
  ·cases h
  ·split at h
   ·cases h
   ·rename_i us s1 hus
    obtain ⟨h1, _, _⟩ := putArgs_le (fun s t n u s' h => ih h) hus
    split at h
    ·obtain ⟨h3, _, h4⟩ := wholeR_ok h
     exact ⟨h3, by omega⟩
    ·split at h
     ·obtain ⟨h3, _, h4⟩ := wholeR_ok h
      exact ⟨h3, by omega⟩
     ·split at h
      ·cases h
      ·obtain ⟨h3, h4⟩ := appR_ok (fun s b y m u s' h => (ih h).2) h
       exact ⟨h3, by omega⟩
def SbP (r : AV) (H : HP) (F : Int → HP) : SbR → Prop
 | .er e => r = .tup [tv zT, .c (.int .i64 e)] ∧ ∃ s, H = F s
 | .ok t s => r = .tup [tv t, .c (.int .i64 0)] ∧ H = F s
end Go.Tr
/- The reference's whole, list, moved, raised. -/
namespace Go.Tr
open Go.Proofs
theorem cRProper (t : Term) : CallSt Tryz.prog 13 [tv t] [] (fun r H' => r = .c (.bool (prop t)) ∧ H' = []) := by
 rw [prop_rprop]
 exact c16 t
theorem cRWhole (t : Term) : CallSt Tryz.prog 83 [tv t] [] (fun r H' => r = .tup [tv (match prop t with | true => t | false => zT), .c (.int .i64 (match prop t with | true => 0 | false => 5))] ∧ H' = []) := by
 have h := cRProper t
 cases hp : prop t with
 | true =>
  rw [hp] at h
  clear hp
  obtain ⟨k, l, n, ts⟩ := t
  rw [tv_mk] at *
  refine call_pure (E := env 0) (fn := Tryz.f83) (c := bodyOf Tryz.f83) (env_ok 0) mixed sK sK sK sK sK sK rfl ?_
  conv => whnf
  try (refine dI sK ?_; conv => whnf)
  first | refine u0 h ?_ | refine v0 h ?_
  rintro _ _ ⟨rfl, rfl⟩ _
  conv => whnf
  repeat ((first | (refine aI ?_ ?_; focus exact sI) | refine dI sK ?_ | (refine yI ?_ ?_; focus exact sY) | (refine nI ?_ ?_; focus exact sY) | intro _); conv => whnf)
  all_goals exact sR
 | false =>
  rw [hp] at h
  clear hp
  obtain ⟨k, l, n, ts⟩ := t
  rw [tv_mk] at h
  refine call_pure (E := env 0) (fn := Tryz.f83) (c := bodyOf Tryz.f83) (env_ok 0) mixed sK sK sK sK sK sK rfl ?_
  conv => whnf
  try (refine dI sK ?_; conv => whnf)
  first | refine u0 h ?_ | refine v0 h ?_
  rintro _ _ ⟨rfl, rfl⟩ _
  conv => whnf
  repeat ((first | (refine aI ?_ ?_; focus exact sI) | refine dI sK ?_ | (refine yI ?_ ?_; focus exact sY) | (refine nI ?_ ?_; focus exact sY) | intro _); conv => whnf)
  all_goals exact sR
theorem cRList (l : List Term) : CallSt Tryz.prog 117 [.c (.sl 4 48 (tcs l))] [] (fun r H' => r = .c (.bool (decide (l.length ≤ 600) && l.all prop)) ∧ H' = []) := by
 have hll := len_tcs l
 by_cases hl : l.length ≤ 600
 ·rw [decide_eq_true hl, Bool.true_and]
  have e6 : decide (((tcs l).length : Int) ≤ 600) = true := decide_eq_true (by omega)
  refine call_pure (E := env 0) (fn := Tryz.f117) (c := bodyOf Tryz.f117) (env_ok 0) mixed sK sK sK sK sK sK rfl ?_
  conv => whnf
  repeat ((first | (refine aI ?_ ?_; focus exact sI) | refine dI sK ?_ | (refine yI ?_ ?_; focus exact sY) | (refine nI ?_ ?_; focus exact sY) | intro _); conv => whnf)
  refine loop_intro (fun m tm H => ∃ j : Nat, l.length = m + j ∧ (∀ (q : Nat) t, q < j → l[q]? = some t → prop t = true) ∧ tm = [(3, .c (.int .i64 (j))), (0, .c (.sl 4 48 (tcs l)))] ∧ H = [])
   l.length _ _ ⟨0, by omega, fun q t h => absurd h (by omega), rfl, rfl⟩ (Wk.sl [] rfl trivial ⟨rfl, rfl, trivial⟩ rfl) ?_
  rintro m tm H ⟨j, hj, hall, rfl, rfl⟩
  conv => whnf
  repeat ((first | (refine aI ?_ ?_; focus exact sI) | refine dI sK ?_ | (refine yI ?_ ?_; focus exact sY) | (refine nI ?_ ?_; focus exact sY) | intro _); conv => whnf)
  rw [e6]
  refine ⟨fun hc => ?_, fun hc => ?_⟩
  ·rw [Bool.and_true] at hc
   replace hc : (j : Int) < (tcs l).length := of_decide_eq_true hc
   obtain ⟨u, hu⟩ : ∃ u, l[j]? = some u := ⟨l[j]'(by omega), List.getElem?_eq_getElem (by omega)⟩
   have huc := tcs_at l j u hu
   have hp := cRProper u
   cases hpu : prop u with
   | true =>
    have hnx : ∀ (q : Nat) t, q < j + 1 → l[q]? = some t → prop t = true := fun q t hq ht => by
     by_cases e : q < j
     ·exact hall q t e ht
     ·obtain rfl : q = j := by omega
      rw [hu] at ht
      injection ht with ht
      exact ht ▸ hpu
    rw [hpu] at hp
    clear hpu
    obtain ⟨k', l', n', us⟩ := u
    rw [tv_mk] at hp
    conv => whnf
    repeat ((first | (refine aI ?_ ?_; focus exact sI) | refine dI sK ?_ | (refine yI ?_ ?_; focus exact sY) | (refine nI ?_ ?_; focus exact sY) | intro _); conv => whnf)
    refine ⟨_, ⟨by omega, by simpa using huc⟩, ?_⟩
    conv => whnf
    refine ⟨Nat.le_refl 4, ?_⟩
    conv => whnf
    repeat ((first | (refine aI ?_ ?_; focus exact sI) | refine dI sK ?_ | (refine yI ?_ ?_; focus exact sY) | (refine nI ?_ ?_; focus exact sY) | intro _); conv => whnf)
    try (refine dI sK ?_; conv => whnf)
    first | refine u0 hp ?_ | refine v0 hp ?_
    rintro _ _ ⟨rfl, rfl⟩ _
    conv => whnf
    repeat ((first | (refine aI ?_ ?_; focus exact sI) | refine dI sK ?_ | (refine yI ?_ ?_; focus exact sY) | (refine nI ?_ ?_; focus exact sY) | intro _); conv => whnf)
    exact ⟨m - 1, _, _, by omega, ⟨j + 1, by omega, hnx, rfl, rfl⟩, Wk.sl [] rfl trivial ⟨rfl, rfl, trivial⟩ rfl⟩
   | false =>
    have e : l.all prop = false := List.all_eq_false.2 ⟨u, List.mem_of_getElem? hu, by rw [hpu]; decide⟩
    rw [hpu] at hp
    rw [e]
    clear hpu
    obtain ⟨k', l', n', us⟩ := u
    rw [tv_mk] at hp
    conv => whnf
    repeat ((first | (refine aI ?_ ?_; focus exact sI) | refine dI sK ?_ | (refine yI ?_ ?_; focus exact sY) | (refine nI ?_ ?_; focus exact sY) | intro _); conv => whnf)
    refine ⟨_, ⟨by omega, by simpa using huc⟩, ?_⟩
    conv => whnf
    refine ⟨Nat.le_refl 4, ?_⟩
    conv => whnf
    repeat ((first | (refine aI ?_ ?_; focus exact sI) | refine dI sK ?_ | (refine yI ?_ ?_; focus exact sY) | (refine nI ?_ ?_; focus exact sY) | intro _); conv => whnf)
    try (refine dI sK ?_; conv => whnf)
    first | refine u0 hp ?_ | refine v0 hp ?_
    rintro _ _ ⟨rfl, rfl⟩ _
    conv => whnf
    repeat ((first | (refine aI ?_ ?_; focus exact sI) | refine dI sK ?_ | (refine yI ?_ ?_; focus exact sY) | (refine nI ?_ ?_; focus exact sY) | intro _); conv => whnf)
    all_goals exact sR
  ·rw [Bool.and_true] at hc
   replace hc : ¬ (j : Int) < (tcs l).length := of_decide_eq_false hc
   have e : l.all prop = true := List.all_eq_true.2 fun t ht => by
    obtain ⟨i, hi⟩ := List.mem_iff_getElem?.1 ht
    exact hall i t (by have := (List.getElem?_eq_some_iff.1 hi).1; omega) hi
   rw [e]
   conv => whnf
   repeat ((first | (refine aI ?_ ?_; focus exact sI) | refine dI sK ?_ | (refine yI ?_ ?_; focus exact sY) | (refine nI ?_ ?_; focus exact sY) | intro _); conv => whnf)
   exact ⟨congrArg (fun z => AV.c (.bool z)) e6, rfl⟩
 ·rw [decide_eq_false hl, Bool.false_and]
  have e6 : decide (((tcs l).length : Int) ≤ 600) = false := decide_eq_false (by omega)
  refine call_pure (E := env 0) (fn := Tryz.f117) (c := bodyOf Tryz.f117) (env_ok 0) mixed sK sK sK sK sK sK rfl ?_
  conv => whnf
  repeat ((first | (refine aI ?_ ?_; focus exact sI) | refine dI sK ?_ | (refine yI ?_ ?_; focus exact sY) | (refine nI ?_ ?_; focus exact sY) | intro _); conv => whnf)
  refine loop_intro (fun m tm H => tm = [(3, .c (.int .i64 (0))), (0, .c (.sl 4 48 (tcs l)))] ∧ H = []) 0 _ _ ⟨rfl, rfl⟩ (Wk.sl [] rfl trivial ⟨rfl, rfl, trivial⟩ rfl) ?_
  rintro m tm H ⟨rfl, rfl⟩
  conv => whnf
  repeat ((first | (refine aI ?_ ?_; focus exact sI) | refine dI sK ?_ | (refine yI ?_ ?_; focus exact sY) | (refine nI ?_ ?_; focus exact sY) | intro _); conv => whnf)
  rw [e6, Bool.and_false]
  (refine nI ?_ ?_; (focus exact sY); conv => whnf)
  repeat ((first | (refine aI ?_ ?_; focus exact sI) | refine dI sK ?_ | (refine yI ?_ ?_; focus exact sY) | (refine nI ?_ ?_; focus exact sY) | intro _); conv => whnf)
  exact ⟨congrArg (fun z => AV.c (.bool z)) e6, rfl⟩
end Go.Tr
/- The reference's moved and raised (chapter 4). -/
namespace Go.Tr
open Go.Proofs
theorem un_yes {k j : Int} (h : (decide (k = 3) || (decide (k = 2) && decide (j = 1))) = true) : unT k j = 1 := by
 unfold unT
 rw [if_pos (by simpa using h)]
theorem un_no {k j : Int} (h : (decide (k = 3) || (decide (k = 2) && decide (j = 1))) = false) : unT k j = 0 := by
 unfold unT
 rw [if_neg]
 intro hh
 rw [Bool.or_eq_false_iff, decide_eq_false_iff_not, Bool.and_eq_false_iff, decide_eq_false_iff_not, decide_eq_false_iff_not] at h
 omega
theorem cRMoved4 (by_ : Int) (hby : 0 ≤ by_ ∧ by_ ≤ 99999) (t : Term) : ∀ (i : Int), okT t i → CallSt Tryz.prog 110 [tv t, .c (.int .i64 (by_)), .c (.int .i64 (i))] [] (fun r H' => r = tv (mapT (mvG 0 by_) t i) ∧ H' = []) := by
 induction t using Term.ind with
 | _ t ih =>
 intro i hti
 have hn := bnT_n hti.1
 obtain ⟨hib, hch⟩ := okT_step t i hti
 have hi2 := hti.2
 have hdp0 := dpT_pos t
 obtain ⟨k, l, n, ts⟩ := t
 replace ih : ∀ u, u ∈ ts → _ := ih
 simp only [Term.n] at hn
 rw [tv_mk]
 have hmap : ∀ b, (decide (k = 4) && decide (l = 1) && decide (i ≤ n)) = b → mapT (mvG 0 by_) (.mk k l n ts) i = .mk k l (match b with | true => n + by_ | false => n) (mapL (mvG 0 by_) k i 0 ts) := fun b hb => by
  rw [mapT]
  have hb' : shB 0 k l n i = b := shB_of 0 k l n i (by rw [Int.zero_add]; exact hb)
  simp only [mvG, hb']
  all_goals (cases b <;> rfl)
 cases hB : (decide (k = 4) && decide (l = 1) && decide (i ≤ n)) with
 | true =>
  obtain ⟨y, hy⟩ : ∃ y, y = n + by_ := ⟨_, rfl⟩
  have h : mapT (mvG 0 by_) (.mk k l n ts) i = .mk k l y (mapL (mvG 0 by_) k i 0 ts) := by rw [hmap _ hB, hy]
  refine call_pure (E := env 0) (fn := Tryz.f110) (c := bodyOf Tryz.f110) (env_ok 0) mixed sK sK sK sK sK sK rfl ?_
  conv => whnf
  repeat ((first | (refine aI ?_ ?_; focus exact sI) | refine dI sK ?_ | (refine yI ?_ ?_; focus exact sY) | (refine nI ?_ ?_; focus exact sY) | intro _); conv => whnf)
  rw [hB]
  (refine ⟨fun _ => ?_, fun h => absurd h (by simp)⟩; conv => whnf)
  refine ⟨⟨by omega, by omega⟩, ?_⟩
  conv => whnf
  rw [← hy]
  repeat ((first | (refine aI ?_ ?_; focus exact sI) | refine dI sK ?_ | (refine yI ?_ ?_; focus exact sY) | (refine nI ?_ ?_; focus exact sY) | intro _); conv => whnf)
  refine loop_intro (fun m tm H => ∃ (j : Nat) (us : List Term), ts.length = m + j ∧ us.length = j ∧ us ++ mapL (mvG 0 by_) k i j (ts.drop j) = mapL (mvG 0 by_) k i 0 ts ∧
    tm = [(8, .c (.int .i64 (j))), (3, .ptr 0 0), (6, .ptr 1 0), (7, .ptr 2 0), (1, .c (.int .i64 (by_))), (2, .c (.int .i64 (i)))] ∧
    H = [.box [.c (.int .i64 (k)), .c (.int .i64 (l)), .c (.int .i64 (n)), .c (.sl 4 48 (tcs ts))], .box [.c (.int .i64 (0)), .c (.int .i64 (0)), .c (.int .i64 (0)), .nil], .box [.c (.int .i64 (k)), .c (.int .i64 (l)), .c (.int .i64 (y)), .own 3], .row 28 4 48 (tcs us)])
   ts.length _ _ ⟨0, [], by omega, rfl, rfl, rfl, rfl⟩ ?_ ?_
  ·refine Wk.trans (H1 := [.box [.c (.int .i64 (k)), .c (.int .i64 (l)), .c (.int .i64 (n)), .c (.sl 4 48 (tcs ts))], .box [.c (.int .i64 (0)), .c (.int .i64 (0)), .c (.int .i64 (0)), .nil], .box [.c (.int .i64 (k)), .c (.int .i64 (l)), .c (.int .i64 (y)), .nil]]) ?_ (Wk.nilrow' 2 3 28 4 48 rfl rfl rfl rfl)
   exact Wk.sl [0, 1, 2] rfl ⟨rfl, rfl, rfl, trivial⟩ ⟨rfl, rfl, rfl, rfl, rfl, rfl, trivial⟩ rfl
  rintro m tm H ⟨j, us, hj, hus, hR, rfl, rfl⟩
  conv => whnf
  intro hlen
  replace hlen : (tcs ts).length * 48 ≤ 140737488355328 := hlen
  rw [len_tcs] at hlen
  conv => whnf
  refine ⟨fun hc => ?_, fun hc => ?_⟩
  ·replace hc : (j : Int) < (tcs ts).length := of_decide_eq_true hc
   rw [len_tcs] at hc
   have hlt : j < ts.length := by omega
   obtain ⟨u, hu⟩ : ∃ u, ts[j]? = some u := ⟨ts[j], List.getElem?_eq_getElem hlt⟩
   have hm := List.mem_of_getElem? hu
   have huc := tcs_at ts j u hu
   have hub := unT_bd k j
   have hcc := ih u hm (i + unT k j) (hch j u hu)
   rw [drop_at hu, mapL] at hR
   obtain ⟨v, hv⟩ : ∃ v, v = mapT (mvG 0 by_) u (i + unT k j) := ⟨_, rfl⟩
   rw [← hv] at hcc hR
   clear hv
   obtain ⟨k', l', n', us'⟩ := u
   obtain ⟨k3, l3, n3, us3⟩ := v
   rw [tv_mk] at hcc
   rw [tv_mk] at hcc
   have hl1 : (tcs us).length = j := by rw [len_tcs, hus]
   have hl2 : ((tcs us).length + 1) * 48 ≤ 140737488355328 := by omega
   have hl3 : (tcs us).length + 1 ≤ 9223372036854775807 := by omega
   cases hU : (decide (k = 3) || (decide (k = 2) && decide ((j : Int) = 1))) with
   | true =>
    rw [un_yes hU] at hcc
    conv => whnf
    repeat ((first | (refine aI ?_ ?_; focus exact sI) | refine dI sK ?_ | (refine yI ?_ ?_; focus exact sY) | (refine nI ?_ ?_; focus exact sY) | intro _); conv => whnf)
    rw [hU]
    (refine ⟨fun _ => ?_, fun h => absurd h (by simp)⟩; conv => whnf)
    repeat ((first | (refine aI ?_ ?_; focus exact sI) | refine dI sK ?_ | (refine yI ?_ ?_; focus exact sY) | (refine nI ?_ ?_; focus exact sY) | intro _); conv => whnf)
    refine ⟨_, ⟨by omega, by simpa using huc⟩, ?_⟩
    conv => whnf
    refine ⟨Nat.le_refl 4, ?_⟩
    conv => whnf
    repeat ((first | (refine aI ?_ ?_; focus exact sI) | refine dI sK ?_ | (refine yI ?_ ?_; focus exact sY) | (refine nI ?_ ?_; focus exact sY) | intro _); conv => whnf)
    try (refine dI sK ?_; conv => whnf)
    first | refine u0 hcc ?_ | refine v0 hcc ?_
    rintro _ _ ⟨rfl, rfl⟩ _
    conv => whnf
    repeat ((first | (refine aI ?_ ?_; focus exact sI) | refine dI sK ?_ | (refine yI ?_ ?_; focus exact sY) | (refine nI ?_ ?_; focus exact sY) | intro _); conv => whnf)
    refine ⟨m - 1, _, _, by omega, ⟨j + 1, us ++ [.mk k3 l3 n3 us3], by omega, by simp [hus], ?_, rfl, rfl⟩, Wk.sl [0, 1, 2, 5] rfl ⟨rfl, rfl, rfl, ?_, trivial⟩ ⟨rfl, rfl, rfl, rfl, rfl, rfl, trivial⟩ rfl⟩
    ·rw [← hR, List.append_assoc]
     rfl
    ·rw [← tcs_snoc]
     rfl
   | false =>
    rw [un_no hU] at hcc
    conv => whnf
    repeat ((first | (refine aI ?_ ?_; focus exact sI) | refine dI sK ?_ | (refine yI ?_ ?_; focus exact sY) | (refine nI ?_ ?_; focus exact sY) | intro _); conv => whnf)
    rw [hU]
    (refine ⟨fun h => absurd h (by simp), fun _ => ?_⟩; conv => whnf)
    repeat ((first | (refine aI ?_ ?_; focus exact sI) | refine dI sK ?_ | (refine yI ?_ ?_; focus exact sY) | (refine nI ?_ ?_; focus exact sY) | intro _); conv => whnf)
    refine ⟨_, ⟨by omega, by simpa using huc⟩, ?_⟩
    conv => whnf
    refine ⟨Nat.le_refl 4, ?_⟩
    conv => whnf
    repeat ((first | (refine aI ?_ ?_; focus exact sI) | refine dI sK ?_ | (refine yI ?_ ?_; focus exact sY) | (refine nI ?_ ?_; focus exact sY) | intro _); conv => whnf)
    try (refine dI sK ?_; conv => whnf)
    first | refine u0 hcc ?_ | refine v0 hcc ?_
    rintro _ _ ⟨rfl, rfl⟩ _
    conv => whnf
    repeat ((first | (refine aI ?_ ?_; focus exact sI) | refine dI sK ?_ | (refine yI ?_ ?_; focus exact sY) | (refine nI ?_ ?_; focus exact sY) | intro _); conv => whnf)
    refine ⟨m - 1, _, _, by omega, ⟨j + 1, us ++ [.mk k3 l3 n3 us3], by omega, by simp [hus], ?_, rfl, rfl⟩, Wk.sl [0, 1, 2, 5] rfl ⟨rfl, rfl, rfl, ?_, trivial⟩ ⟨rfl, rfl, rfl, rfl, rfl, rfl, trivial⟩ rfl⟩
    ·rw [← hR, List.append_assoc]
     rfl
    ·rw [← tcs_snoc]
     rfl
  ·replace hc : ¬ (j : Int) < (tcs ts).length := of_decide_eq_false hc
   rw [len_tcs] at hc
   rw [List.drop_eq_nil_of_le (by omega), mapL, List.append_nil] at hR
   rw [h, ← hR]
   conv => whnf
   repeat ((first | (refine aI ?_ ?_; focus exact sI) | refine dI sK ?_ | (refine yI ?_ ?_; focus exact sY) | (refine nI ?_ ?_; focus exact sY) | intro _); conv => whnf)
   all_goals exact sR
 | false =>
  have h : mapT (mvG 0 by_) (.mk k l n ts) i = .mk k l n (mapL (mvG 0 by_) k i 0 ts) := hmap _ hB
  refine call_pure (E := env 0) (fn := Tryz.f110) (c := bodyOf Tryz.f110) (env_ok 0) mixed sK sK sK sK sK sK rfl ?_
  conv => whnf
  repeat ((first | (refine aI ?_ ?_; focus exact sI) | refine dI sK ?_ | (refine yI ?_ ?_; focus exact sY) | (refine nI ?_ ?_; focus exact sY) | intro _); conv => whnf)
  rw [hB]
  (refine ⟨fun h => absurd h (by simp), fun _ => ?_⟩; conv => whnf)
  repeat ((first | (refine aI ?_ ?_; focus exact sI) | refine dI sK ?_ | (refine yI ?_ ?_; focus exact sY) | (refine nI ?_ ?_; focus exact sY) | intro _); conv => whnf)
  refine loop_intro (fun m tm H => ∃ (j : Nat) (us : List Term), ts.length = m + j ∧ us.length = j ∧ us ++ mapL (mvG 0 by_) k i j (ts.drop j) = mapL (mvG 0 by_) k i 0 ts ∧
    tm = [(8, .c (.int .i64 (j))), (3, .ptr 0 0), (6, .ptr 1 0), (7, .ptr 2 0), (1, .c (.int .i64 (by_))), (2, .c (.int .i64 (i)))] ∧
    H = [.box [.c (.int .i64 (k)), .c (.int .i64 (l)), .c (.int .i64 (n)), .c (.sl 4 48 (tcs ts))], .box [.c (.int .i64 (0)), .c (.int .i64 (0)), .c (.int .i64 (0)), .nil], .box [.c (.int .i64 (k)), .c (.int .i64 (l)), .c (.int .i64 (n)), .own 3], .row 28 4 48 (tcs us)])
   ts.length _ _ ⟨0, [], by omega, rfl, rfl, rfl, rfl⟩ ?_ ?_
  ·refine Wk.trans (H1 := [.box [.c (.int .i64 (k)), .c (.int .i64 (l)), .c (.int .i64 (n)), .c (.sl 4 48 (tcs ts))], .box [.c (.int .i64 (0)), .c (.int .i64 (0)), .c (.int .i64 (0)), .nil], .box [.c (.int .i64 (k)), .c (.int .i64 (l)), .c (.int .i64 (n)), .nil]]) ?_ (Wk.nilrow' 2 3 28 4 48 rfl rfl rfl rfl)
   exact Wk.sl [0, 1, 2] rfl ⟨rfl, rfl, rfl, trivial⟩ ⟨rfl, rfl, rfl, rfl, rfl, rfl, trivial⟩ rfl
  rintro m tm H ⟨j, us, hj, hus, hR, rfl, rfl⟩
  conv => whnf
  intro hlen
  replace hlen : (tcs ts).length * 48 ≤ 140737488355328 := hlen
  rw [len_tcs] at hlen
  conv => whnf
  refine ⟨fun hc => ?_, fun hc => ?_⟩
  ·replace hc : (j : Int) < (tcs ts).length := of_decide_eq_true hc
   rw [len_tcs] at hc
   have hlt : j < ts.length := by omega
   obtain ⟨u, hu⟩ : ∃ u, ts[j]? = some u := ⟨ts[j], List.getElem?_eq_getElem hlt⟩
   have hm := List.mem_of_getElem? hu
   have huc := tcs_at ts j u hu
   have hub := unT_bd k j
   have hcc := ih u hm (i + unT k j) (hch j u hu)
   rw [drop_at hu, mapL] at hR
   obtain ⟨v, hv⟩ : ∃ v, v = mapT (mvG 0 by_) u (i + unT k j) := ⟨_, rfl⟩
   rw [← hv] at hcc hR
   clear hv
   obtain ⟨k', l', n', us'⟩ := u
   obtain ⟨k3, l3, n3, us3⟩ := v
   rw [tv_mk] at hcc
   rw [tv_mk] at hcc
   have hl1 : (tcs us).length = j := by rw [len_tcs, hus]
   have hl2 : ((tcs us).length + 1) * 48 ≤ 140737488355328 := by omega
   have hl3 : (tcs us).length + 1 ≤ 9223372036854775807 := by omega
   cases hU : (decide (k = 3) || (decide (k = 2) && decide ((j : Int) = 1))) with
   | true =>
    rw [un_yes hU] at hcc
    conv => whnf
    repeat ((first | (refine aI ?_ ?_; focus exact sI) | refine dI sK ?_ | (refine yI ?_ ?_; focus exact sY) | (refine nI ?_ ?_; focus exact sY) | intro _); conv => whnf)
    rw [hU]
    (refine ⟨fun _ => ?_, fun h => absurd h (by simp)⟩; conv => whnf)
    repeat ((first | (refine aI ?_ ?_; focus exact sI) | refine dI sK ?_ | (refine yI ?_ ?_; focus exact sY) | (refine nI ?_ ?_; focus exact sY) | intro _); conv => whnf)
    refine ⟨_, ⟨by omega, by simpa using huc⟩, ?_⟩
    conv => whnf
    refine ⟨Nat.le_refl 4, ?_⟩
    conv => whnf
    repeat ((first | (refine aI ?_ ?_; focus exact sI) | refine dI sK ?_ | (refine yI ?_ ?_; focus exact sY) | (refine nI ?_ ?_; focus exact sY) | intro _); conv => whnf)
    try (refine dI sK ?_; conv => whnf)
    first | refine u0 hcc ?_ | refine v0 hcc ?_
    rintro _ _ ⟨rfl, rfl⟩ _
    conv => whnf
    repeat ((first | (refine aI ?_ ?_; focus exact sI) | refine dI sK ?_ | (refine yI ?_ ?_; focus exact sY) | (refine nI ?_ ?_; focus exact sY) | intro _); conv => whnf)
    refine ⟨m - 1, _, _, by omega, ⟨j + 1, us ++ [.mk k3 l3 n3 us3], by omega, by simp [hus], ?_, rfl, rfl⟩, Wk.sl [0, 1, 2, 5] rfl ⟨rfl, rfl, rfl, ?_, trivial⟩ ⟨rfl, rfl, rfl, rfl, rfl, rfl, trivial⟩ rfl⟩
    ·rw [← hR, List.append_assoc]
     rfl
    ·rw [← tcs_snoc]
     rfl
   | false =>
    rw [un_no hU] at hcc
    conv => whnf
    repeat ((first | (refine aI ?_ ?_; focus exact sI) | refine dI sK ?_ | (refine yI ?_ ?_; focus exact sY) | (refine nI ?_ ?_; focus exact sY) | intro _); conv => whnf)
    rw [hU]
    (refine ⟨fun h => absurd h (by simp), fun _ => ?_⟩; conv => whnf)
    repeat ((first | (refine aI ?_ ?_; focus exact sI) | refine dI sK ?_ | (refine yI ?_ ?_; focus exact sY) | (refine nI ?_ ?_; focus exact sY) | intro _); conv => whnf)
    refine ⟨_, ⟨by omega, by simpa using huc⟩, ?_⟩
    conv => whnf
    refine ⟨Nat.le_refl 4, ?_⟩
    conv => whnf
    repeat ((first | (refine aI ?_ ?_; focus exact sI) | refine dI sK ?_ | (refine yI ?_ ?_; focus exact sY) | (refine nI ?_ ?_; focus exact sY) | intro _); conv => whnf)
    try (refine dI sK ?_; conv => whnf)
    first | refine u0 hcc ?_ | refine v0 hcc ?_
    rintro _ _ ⟨rfl, rfl⟩ _
    conv => whnf
    repeat ((first | (refine aI ?_ ?_; focus exact sI) | refine dI sK ?_ | (refine yI ?_ ?_; focus exact sY) | (refine nI ?_ ?_; focus exact sY) | intro _); conv => whnf)
    refine ⟨m - 1, _, _, by omega, ⟨j + 1, us ++ [.mk k3 l3 n3 us3], by omega, by simp [hus], ?_, rfl, rfl⟩, Wk.sl [0, 1, 2, 5] rfl ⟨rfl, rfl, rfl, ?_, trivial⟩ ⟨rfl, rfl, rfl, rfl, rfl, rfl, trivial⟩ rfl⟩
    ·rw [← hR, List.append_assoc]
     rfl
    ·rw [← tcs_snoc]
     rfl
  ·replace hc : ¬ (j : Int) < (tcs ts).length := of_decide_eq_false hc
   rw [len_tcs] at hc
   rw [List.drop_eq_nil_of_le (by omega), mapL, List.append_nil] at hR
   rw [h, ← hR]
   conv => whnf
   repeat ((first | (refine aI ?_ ?_; focus exact sI) | refine dI sK ?_ | (refine yI ?_ ?_; focus exact sY) | (refine nI ?_ ?_; focus exact sY) | intro _); conv => whnf)
   all_goals exact sR
theorem cRRaised (t : Term) (hp : prop t = true) (n : Int) (hn : 0 ≤ n ∧ n ≤ 99999) : CallSt Tryz.prog 84 [tv t, .c (.int .i64 (n))] [] (fun r H' => r = tv (raisedT t n) ∧ H' = []) := by
 have h := cRMoved4 n hn t 0 (prop_ok hp)
 rw [show mapT (mvG 0 n) t 0 = raisedT t n from rfl] at h
 generalize raisedT t n = u at *
 clear hp
 obtain ⟨k, l, m, ts⟩ := t
 obtain ⟨k2, l2, m2, us⟩ := u
 rw [tv_mk] at *
 rw [tv_mk] at *
 refine call_pure (E := env 0) (fn := Tryz.f84) (c := bodyOf Tryz.f84) (env_ok 0) mixed sK sK sK sK sK sK rfl ?_
 conv => whnf
 try (refine dI sK ?_; conv => whnf)
 first | refine u0 h ?_ | refine v0 h ?_
 rintro _ _ ⟨rfl, rfl⟩ _
 conv => whnf
 repeat ((first | (refine aI ?_ ?_; focus exact sI) | refine dI sK ?_ | (refine yI ?_ ?_; focus exact sY) | (refine nI ?_ ?_; focus exact sY) | intro _); conv => whnf)
 all_goals exact sR
end Go.Tr
/- Each over a map's entry. -/
namespace Go.Tr
open Go.Proofs
theorem cEachM {σ : Type} (f : FuncId) (g : FuncId) (F : σ → KV → Option Bool) (step : σ → Term → Int → σ) (ok : Term → Int → Prop) (hok : ∀ t i, ok t i → (0 ≤ i ∧ i ≤ 1000000000) ∧ ∀ (j : Nat) u, t.ts[j]? = some u → ok u (i + unT t.k j))
  (hf : ∀ s t i, ok t i → CallSt Tryz.prog f [tv t, .c (.int .i64 (i)), .ptr 0 0, .ptr 1 0] [.box [.fn g []], .box [.mpv 2], .mp false (.b (F s))] (fun r H' => r = .tup [] ∧ H' = [.box [.fn g []], .box [.mpv 2], .mp false (.b (F (step s t i)))])) (t : Term) :
  ∀ (i : Int) (s : σ), ok t i → CallSt Tryz.prog 113 [tv t, .c (.int .i64 (i)), .fn f [.ptr 0 0, .ptr 1 0]] [.box [.fn g []], .box [.mpv 2], .mp false (.b (F s))] (fun r H' => r = .tup [] ∧ H' = [.box [.fn g []], .box [.mpv 2], .mp false (.b (F (eachT step t i s)))]) := by
 induction t using Term.ind with
 | _ t ih =>
 intro i s hti
 have hff := hf s t i hti
 obtain ⟨hib, hch⟩ := hok t i hti
 obtain ⟨k, l, n, ts⟩ := t
 replace ih : ∀ u, u ∈ ts → _ := ih
 rw [tv_mk]
 refine call_pure (E := env 3) (fn := Tryz.f113) (c := bodyOf Tryz.f113) (env_ok 3) mixed sK sK sK sK sK sK rfl ?_
 conv => whnf
 try (refine dI sK ?_; conv => whnf)
 first | refine CallSt.use hff [0, 1, 2] ⟨rfl, rfl, rfl, trivial⟩ (by decide) rfl ?_ | refine CallPt.useS hff [0, 1, 2] ⟨rfl, rfl, rfl, trivial⟩ (by decide) rfl ?_
 rintro _ _ ⟨rfl, rfl⟩ _
 conv => whnf
 intro hlen
 replace hlen : (tcs ts).length * 48 ≤ 140737488355328 := hlen
 rw [len_tcs] at hlen
 conv => whnf
 refine loop_intro (fun m tm H => ∃ (j : Nat) (s' : σ), ts.length = m + j ∧ eachL step k i j (ts.drop j) s' = eachT step (.mk k l n ts) i s ∧
   tm = [(15, .c (.int .i64 (j))), (13, .c (.sl 4 48 (tcs ts))), (14, .c (.int .i64 ((tcs ts).length))), (1, .c (.int .i64 (i))), (2, .fn f [.ptr 0 0, .ptr 1 0]), (3, .ptr 3 0)] ∧
   H = [.box [.fn g []], .box [.mpv 2], .mp false (.b (F s')), .box [.c (.int .i64 (k)), .c (.int .i64 (l)), .c (.int .i64 (n)), .c (.sl 4 48 (tcs ts))]])
   ts.length _ _ ⟨0, _, by omega, rfl, rfl, rfl⟩ (Wk.sl [0, 1, 2, 3] rfl ⟨rfl, rfl, rfl, rfl, trivial⟩ ⟨rfl, rfl, rfl, rfl, rfl, rfl, trivial⟩ rfl) ?_
 rintro m tm H ⟨j, s', hj, hR, rfl, rfl⟩
 conv => whnf
 refine ⟨fun hc => ?_, fun hc => ?_⟩
 ·replace hc : (j : Int) < (tcs ts).length := of_decide_eq_true hc
  rw [len_tcs] at hc
  have hlt : j < ts.length := by omega
  obtain ⟨u, hu⟩ : ∃ u, ts[j]? = some u := ⟨ts[j], List.getElem?_eq_getElem hlt⟩
  have hm := List.mem_of_getElem? hu
  have huc := tcs_at ts j u hu
  have hcc := ih u hm (i + unT k j) s' (hch j u hu)
  have hun := c77 (.mk k l n ts) j
  have hub := unT_bd k j
  rw [drop_at hu, eachL] at hR
  obtain ⟨k', l', n', us⟩ := u
  conv => whnf
  refine ⟨_, ⟨by omega, by simpa using huc⟩, ?_⟩
  conv => whnf
  refine ⟨Nat.le_refl 4, ?_⟩
  conv => whnf
  try (refine dI sK ?_; conv => whnf)
  first | refine u0 hun ?_ | refine v0 hun ?_
  rintro _ _ ⟨rfl, rfl⟩ _
  conv => whnf
  refine ⟨⟨by simp only [Term.k]; omega, by simp only [Term.k]; omega⟩, ?_⟩
  conv => whnf
  try (refine dI sK ?_; conv => whnf)
  first | refine CallSt.use hcc [0, 1, 2] ⟨rfl, rfl, rfl, trivial⟩ (by decide) rfl ?_ | refine CallPt.useS hcc [0, 1, 2] ⟨rfl, rfl, rfl, trivial⟩ (by decide) rfl ?_
  rintro _ _ ⟨rfl, rfl⟩ _
  conv => whnf
  refine ⟨⟨by omega, by omega⟩, ?_⟩
  conv => whnf
  refine ⟨m - 1, _, _, by omega, ⟨j + 1, _, by omega, hR, rfl, rfl⟩, Wk.sl [0, 1, 2, 3] rfl ⟨rfl, rfl, rfl, rfl, trivial⟩ ⟨rfl, rfl, rfl, rfl, rfl, rfl, trivial⟩ rfl⟩
 ·replace hc : ¬ (j : Int) < (tcs ts).length := of_decide_eq_false hc
  rw [len_tcs] at hc
  conv => whnf
  refine ⟨rfl, ?_⟩
  conv => whnf
  refine ⟨rfl, ?_⟩
  rw [List.drop_eq_nil_of_le (by omega), eachL] at hR
  rw [← hR]
  exact ⟨rfl, rfl⟩
end Go.Tr
/- The library's functions at the seat: maps.Keys, slices.Sorted, slices.Sort. -/
namespace Go.Proofs
open Go.RowKit Go.Maps Go.Sort Go.Shelf
def Tryz.keysA_ren : Ren where
 f := fun x => match x with
  | 7 => 124
  | 10 => 137
  | n => n
 t := fun x => match x with
  | 23 => 154
  | 26 => 3
  | 3 => 4
  | 28 => 157
  | 0 => 0
  | 27 => 156
  | 33 => 90
  | 4 => 4
  | n => n
 g := fun n => n
theorem Tryz.keysA : SlLaysZI.n7 Tryz.prog Tryz.keysA_ren where
 mixed := rfl
 f7 := ⟨"maps.Keys[map[int]bool,int,bool]", by decide, Tryz.func124.trans (by kernel_rfl)⟩
 f10 := ⟨"maps.Keys[map[int]bool,int,bool]$1", by decide, Tryz.func137.trans (by kernel_rfl)⟩
 t0 := Tryz.underlying0
 a0 := Tryz.isAgg0
 z0 := Tryz.sizeOf0
 v0 := Tryz.zeroValue0
 t4 := Tryz.underlying4
 a4 := Tryz.isAgg4
 z4 := Tryz.sizeOf4
 v4 := Tryz.zeroValue4
 t23 := Tryz.underlying154
 a23 := Tryz.isAgg154
 z23 := Tryz.sizeOf154
 v23 := Tryz.zeroValue154
 t26 := Tryz.underlying3
 a26 := Tryz.isAgg3
 z26 := Tryz.sizeOf3
 v26 := Tryz.zeroValue3
 t27 := Tryz.underlying156
 a27 := Tryz.isAgg156
 z27 := Tryz.sizeOf156
 v27 := Tryz.zeroValue156
 t28 := Tryz.underlying157
 a28 := Tryz.isAgg157
 z28 := Tryz.sizeOf157
 v28 := Tryz.zeroValue157
 t33 := Tryz.underlying90
 a33 := Tryz.isAgg90
 z33 := Tryz.sizeOf90
 v33 := Tryz.zeroValue90
def Tryz.sortedA_ren : Ren where
 f := fun x => match x with
  | 6 => 123
  | 8 => 135
  | 9 => 136
  | 11 => 151
  | 13 => 153
  | 12 => 152
  | 23 => 169
  | 24 => 170
  | 14 => 160
  | 15 => 161
  | 16 => 162
  | 17 => 163
  | 18 => 164
  | 19 => 165
  | 20 => 166
  | 21 => 167
  | 22 => 168
  | 25 => 175
  | 26 => 176
  | 27 => 177
  | 28 => 178
  | 29 => 179
  | 30 => 180
  | 31 => 182
  | n => n
 t := fun x => match x with
  | 26 => 3
  | 28 => 157
  | 24 => 97
  | 0 => 0
  | 3 => 3
  | 37 => 34
  | 48 => 196
  | 50 => 198
  | 4 => 4
  | 40 => 189
  | 39 => 188
  | 45 => 150
  | 5 => 5
  | 9 => 9
  | 51 => 199
  | 55 => 144
  | 57 => 204
  | 58 => 70
  | 33 => 90
  | n => n
 g := fun n => n
def Tryz.sortA_ren : Ren where
 f := fun x => match x with
  | 5 => 136
  | 8 => 153
  | 7 => 152
  | 19 => 169
  | 20 => 170
  | 10 => 160
  | 11 => 161
  | 12 => 162
  | 13 => 163
  | 14 => 164
  | 15 => 165
  | 16 => 166
  | 17 => 167
  | 18 => 168
  | 30 => 175
  | 31 => 176
  | 32 => 177
  | 33 => 178
  | 34 => 179
  | 35 => 180
  | 40 => 182
  | n => n
 t := fun x => match x with
  | 23 => 97
  | 25 => 3
  | 3 => 3
  | 32 => 34
  | 22 => 97
  | 0 => 0
  | 44 => 196
  | 46 => 198
  | 4 => 4
  | 36 => 189
  | 35 => 188
  | 41 => 150
  | 5 => 5
  | 9 => 9
  | 53 => 199
  | 57 => 144
  | 63 => 204
  | 64 => 70
  | n => n
 g := fun n => n
theorem Tryz.sortedA : SlLaysZI.n6 Tryz.prog Tryz.sortedA_ren where
 mixed := rfl
 f6 := ⟨"slices.Sorted[int]", by decide, Tryz.func123.trans (by kernel_rfl)⟩
 f8 := ⟨"slices.Collect[int]", by decide, Tryz.func135.trans (by kernel_rfl)⟩
 f11 := ⟨"slices.AppendSeq[[]int,int]", by decide, Tryz.func151.trans (by kernel_rfl)⟩
 t0 := Tryz.underlying0
 a0 := Tryz.isAgg0
 z0 := Tryz.sizeOf0
 v0 := Tryz.zeroValue0
 t24 := Tryz.underlying97
 a24 := Tryz.isAgg97
 z24 := Tryz.sizeOf97
 v24 := Tryz.zeroValue97
 t26 := Tryz.underlying3
 a26 := Tryz.isAgg3
 z26 := Tryz.sizeOf3
 v26 := Tryz.zeroValue3
 t28 := Tryz.underlying157
 a28 := Tryz.isAgg157
 z28 := Tryz.sizeOf157
 v28 := Tryz.zeroValue157
 i26 := by kernel_rfl
theorem Tryz.sortA : SlLaysM.n5 Tryz.prog Tryz.sortA_ren where
 mixed := rfl
 f5 := ⟨"slices.Sort[[]int,int]", by decide, Tryz.func136.trans (by kernel_rfl)⟩
 f7 := ⟨"slices.pdqsortOrdered[int]", by decide, Tryz.func152.trans (by kernel_rfl)⟩
 f8 := Tryz.func153.trans (by kernel_rfl)
 f10 := ⟨"slices.insertionSortOrdered[int]", by decide, Tryz.func160.trans (by kernel_rfl)⟩
 f11 := ⟨"slices.heapSortOrdered[int]", by decide, Tryz.func161.trans (by kernel_rfl)⟩
 f12 := ⟨"slices.breakPatternsOrdered[int]", by decide, Tryz.func162.trans (by kernel_rfl)⟩
 f13 := ⟨"slices.choosePivotOrdered[int]", by decide, Tryz.func163.trans (by kernel_rfl)⟩
 f14 := ⟨"slices.reverseRangeOrdered[int]", by decide, Tryz.func164.trans (by kernel_rfl)⟩
 f15 := ⟨"slices.partialInsertionSortOrdered[int]", by decide, Tryz.func165.trans (by kernel_rfl)⟩
 f16 := ⟨"cmp.Less[int]", by decide, Tryz.func166.trans (by kernel_rfl)⟩
 f17 := ⟨"slices.partitionEqualOrdered[int]", by decide, Tryz.func167.trans (by kernel_rfl)⟩
 f18 := ⟨"slices.partitionOrdered[int]", by decide, Tryz.func168.trans (by kernel_rfl)⟩
 f19 := Tryz.func169.trans (by kernel_rfl)
 f20 := Tryz.func170.trans (by kernel_rfl)
 f30 := ⟨"slices.siftDownOrdered[int]", by decide, Tryz.func175.trans (by kernel_rfl)⟩
 f31 := Tryz.func176.trans (by kernel_rfl)
 f32 := Tryz.func177.trans (by kernel_rfl)
 f33 := ⟨"slices.medianAdjacentOrdered[int]", by decide, Tryz.func178.trans (by kernel_rfl)⟩
 f34 := ⟨"slices.medianOrdered[int]", by decide, Tryz.func179.trans (by kernel_rfl)⟩
 f35 := ⟨"cmp.isNaN[int]", by decide, Tryz.func180.trans (by kernel_rfl)⟩
 f40 := ⟨"slices.order2Ordered[int]", by decide, Tryz.func182.trans (by kernel_rfl)⟩
 t0 := Tryz.underlying0
 a0 := Tryz.isAgg0
 z0 := Tryz.sizeOf0
 v0 := Tryz.zeroValue0
 t3 := Tryz.underlying3
 a3 := Tryz.isAgg3
 z3 := Tryz.sizeOf3
 v3 := Tryz.zeroValue3
 t4 := Tryz.underlying4
 a4 := Tryz.isAgg4
 z4 := Tryz.sizeOf4
 v4 := Tryz.zeroValue4
 t5 := Tryz.underlying5
 a5 := Tryz.isAgg5
 z5 := Tryz.sizeOf5
 v5 := Tryz.zeroValue5
 t9 := Tryz.underlying9
 a9 := Tryz.isAgg9
 z9 := Tryz.sizeOf9
 v9 := Tryz.zeroValue9
 t22 := Tryz.underlying97
 a22 := Tryz.isAgg97
 z22 := Tryz.sizeOf97
 v22 := Tryz.zeroValue97
 t23 := Tryz.underlying97
 a23 := Tryz.isAgg97
 z23 := Tryz.sizeOf97
 v23 := Tryz.zeroValue97
 t25 := Tryz.underlying3
 a25 := Tryz.isAgg3
 z25 := Tryz.sizeOf3
 v25 := Tryz.zeroValue3
 t32 := Tryz.underlying34
 a32 := Tryz.isAgg34
 z32 := Tryz.sizeOf34
 v32 := Tryz.zeroValue34
 t35 := Tryz.underlying188
 a35 := Tryz.isAgg188
 z35 := Tryz.sizeOf188
 v35 := Tryz.zeroValue188
 t36 := Tryz.underlying189
 a36 := Tryz.isAgg189
 z36 := Tryz.sizeOf189
 v36 := Tryz.zeroValue189
 t41 := Tryz.underlying150
 a41 := Tryz.isAgg150
 z41 := Tryz.sizeOf150
 v41 := Tryz.zeroValue150
 t44 := Tryz.underlying196
 a44 := Tryz.isAgg196
 z44 := Tryz.sizeOf196
 v44 := Tryz.zeroValue196
 t46 := Tryz.underlying198
 a46 := Tryz.isAgg198
 z46 := Tryz.sizeOf198
 v46 := Tryz.zeroValue198
 t53 := Tryz.underlying199
 a53 := Tryz.isAgg199
 z53 := Tryz.sizeOf199
 v53 := Tryz.zeroValue199
 t57 := Tryz.underlying144
 a57 := Tryz.isAgg144
 z57 := Tryz.sizeOf144
 v57 := Tryz.zeroValue144
 t63 := Tryz.underlying204
 a63 := Tryz.isAgg204
 z63 := Tryz.sizeOf204
 v63 := Tryz.zeroValue204
 t64 := Tryz.underlying70
 a64 := Tryz.isAgg70
 z64 := Tryz.sizeOf70
 v64 := Tryz.zeroValue70
end Go.Proofs
/- slices.Sorted of a map's keys. -/
namespace Go.Tr
open Go.Proofs Go.Shelf
def rowI (l : List Int) : List (List CV) := l.map fun x => [.int .i64 x]
def keyInt (e : MapEntry) : Int := match e.key with | .int _ n => n | _ => 0
theorem CellsV_rowI (h : Array Obj) (S : Nat → Prop) : ∀ l : List Int, CellsV h S (rowI l).flatten (l.map encZ)
 | [] => by simp [rowI, CellsV]
 | x :: r => by
  have ih := CellsV_rowI h S r
  simp only [rowI, List.map_cons, List.flatten_cons, List.cons_append, List.nil_append, CellsV] at ih ⊢
  exact ⟨_, _, rfl, by simp [CVR], ih⟩
theorem sort_id {l ss : List Int} (hp : ss.Perm l) (hs : l.Pairwise (· < ·)) : ss.mergeSort (fun x y => decide (x ≤ y)) = l := by
 have h1 : (ss.mergeSort (fun x y => decide (x ≤ y))).Pairwise (fun a b => decide (a ≤ b) = true) :=
  List.pairwise_mergeSort (fun a b c h1 h2 => by simp only [decide_eq_true_eq] at *; omega) (fun a b => by simp only [Bool.or_eq_true, decide_eq_true_eq]; omega) ss
 refine List.Perm.eq_of_pairwise (le := fun a b => decide (a ≤ b) = true) (fun a b _ _ h1 h2 => by simp only [decide_eq_true_eq] at *; omega) h1 (hs.imp (fun h => by simp only [decide_eq_true_eq]; omega)) ?_
 exact (List.mergeSort_perm _ _).trans hp
theorem perm_insert {H : Type} (x : Lit × DataW H) : ∀ l : List (Lit × DataW H), (DataW.insert x l).Perm (x :: l)
 | [] => List.Perm.refl _
 | y :: r => by
  unfold DataW.insert
  split
  ·exact List.Perm.refl _
  ·exact (List.Perm.cons y (perm_insert x r)).trans (List.Perm.swap x y r)
theorem perm_foldr {H : Type} : ∀ l : List (Lit × DataW H), (l.foldr DataW.insert []).Perm l
 | [] => List.Perm.refl _
 | x :: r => (perm_insert x _).trans (List.Perm.cons x (perm_foldr r))
def noneR : Value → Option (DataW Unit × List MemPlace) := fun _ => some (.nil, [])
theorem wf_int {x : Int} (h : inR x) : (Lit.int .i64 x).wf = true := by
 obtain ⟨a, b⟩ := h
 have h1 : IntKind.i64.min = -9223372036854775808 := by decide
 have h2 : IntKind.i64.max = 9223372036854775807 := by decide
 simp only [Lit.wf, h1, h2, Bool.and_eq_true, decide_eq_true_eq]
 omega
theorem keys_perm {f : KV → Option Bool} {es : Array MapEntry} {clock : Nat} (hR : MapR false (.b f) es clock) {l : List Int} (hs : l.Pairwise (· < ·)) (hl : ∀ x, f (.i x) ≠ none ↔ x ∈ l) :
  (es.toList.map keyInt).Perm l ∧ ∀ e ∈ es.toList, e.key = .int .i64 (keyInt e) ∧ keyInt e ∈ l := by
 have hk : ∀ e ∈ es.toList, e.key = .int .i64 (keyInt e) ∧ keyInt e ∈ l := fun e he => by
  obtain ⟨q, h1, h2, h3⟩ := hR.2.1 e he
  cases q with
  | s b => simp [stOf] at h2
  | i n =>
   simp only [KVR] at h1
   have e1 : keyInt e = n := by simp [keyInt, h1]
   refine ⟨by rw [e1]; exact h1, ?_⟩
   rw [e1, ← hl]
   intro h0
   simp [mvAt, h0] at h3
 refine ⟨?_, hk⟩
 have hnd : (es.toList.map keyInt).Nodup := by
  have h0 := hR.1.2.2
  have e0 : es.toList.map (·.key) = (es.toList.map keyInt).map (.int .i64) := by
   rw [List.map_map]
   exact List.map_congr_left fun e he => (hk e he).1
  rw [e0] at h0
  exact List.Pairwise.imp (fun h h2 => h (by rw [h2])) (List.pairwise_map.1 h0)
 refine (List.perm_ext_iff_of_nodup hnd (hs.imp (fun h => by omega))).2 fun x => ?_
 constructor
 ·intro hx
  obtain ⟨e, he, rfl⟩ := List.mem_map.1 hx
  exact (hk e he).2
 ·intro hx
  have h1 := (hl x).2 hx
  cases hv : f (.i x) with
  | none => exact absurd hv h1
  | some b =>
   obtain ⟨e, he, h2⟩ := hR.2.2 (.i x) (.bool b) (by simp [mvAt, hv])
   refine List.mem_map.2 ⟨e, he, ?_⟩
   simp only [KVR] at h2
   simp [keyInt, h2]
theorem sorts (m : Nat) : AnyZI.SortsIn Tryz.prog Tryz.sortedA_ren Fence.wide m :=
  ⟨fun blk off cap ss W hH hblk hsz => callsIn_wide.2 (AnyM.slices_Sort_int Tryz.sortA blk off cap ss W hH hblk hsz),
   fun p cap W => callsIn_wide.2 (AnyM.slices_Sort_int_none Tryz.sortA p cap W)⟩
theorem cSorted (H : HP) (n i : Nat) (f : KV → Option Bool) (l : List Int) (hn : H[n]? = some (.box [.mpv i])) (hi : H[i]? = some (.mp false (.b f))) (hs : l.Pairwise (· < ·)) (hl : ∀ x, f (.i x) ≠ none ↔ x ∈ l)
  (hr : ∀ x ∈ l, inR x) (hlen : l.length ≤ 1000000) :
  CallSt Tryz.prog 123 [.fn 137 [.ptr n 0]] H (fun r H' => r = .c (.sl 1 8 (rowI l)) ∧ H' = H) := by
 unfold CallSt
 refine ⟨by kernel_rfl, fun w S κ vs hh hvs => ?_⟩
 obtain ⟨v, rfl, hv⟩ := hvs.one
 simp only [AVR] at hv
 obtain ⟨cs, rfl, hcs⟩ := hv
 obtain ⟨p, hp, hpv⟩ := hcs.one
 have hcs' : cs = #[p] := by simpa using congrArg List.toArray hp
 subst hcs'
 simp only [AVR] at hpv
 obtain ⟨B, hB, rfl⟩ := hpv
 have he1 := hh.ent n _ hn
 rw [hB] at he1
 simp only [EntR, reduceCtorEq, false_or] at he1
 obtain ⟨B', c, el, hBB, hc, hcv⟩ := he1
 cases hBB
 obtain ⟨mv, hmv, hmr⟩ := hcv.one
 simp only [AVR] at hmr
 obtain ⟨b, hb, rfl⟩ := hmr
 have he2 := hh.ent i _ hi
 rw [hb] at he2
 simp only [EntR, reduceCtorEq, false_or] at he2
 obtain ⟨b', es, clock, hbb, hes, hR⟩ := he2
 cases hbb
 obtain ⟨hperm, hkeys⟩ := keys_perm hR hs hl
 have hkt : Tryz.prog.underlying 3 = some (.int .i64) := Tryz.underlying3
 have hrd : ∀ x ∈ es.toList, Go.WideElems.rd Tryz.prog 3 noneR x = some (.int .i64 (keyInt x), .nil) := fun x hx => by
  obtain ⟨h1, h2⟩ := hkeys x hx
  have h3 : keyOf Tryz.prog 3 x.key = some (.int .i64 (keyInt x)) := by
   rw [h1]
   simp [keyOf, hkt, mapKey, wf_int (hr _ h2)]
  simp [Go.WideElems.rd, h3, noneR]
 have hsize : es.size = l.length := by
  have := hperm.length_eq
  simpa using this
 have hown : w.ownsMap Tryz.prog (Tryz.keysA_ren.t 26) noneR b es.size (.map ((es.toList.map (Go.WideElems.rg Tryz.prog 3 noneR)).foldr DataW.insert [])) :=
  ⟨es, clock, hes, ⟨by rw [hsize]; simp only [maxLen]; omega, hR.1, fun x hx => ⟨_, hrd x hx⟩⟩, Nat.le_refl _, rfl⟩
 generalize hD : DataW.map ((es.toList.map (Go.WideElems.rg Tryz.prog 3 noneR)).foldr DataW.insert []) = D0 at hown
 have hD1 : Go.Maps.size D0 = l.length := by
  rw [← hD]
  simp only [Go.Maps.size]
  rw [(perm_foldr _).length_eq]
  simpa using hsize
 have hD2 : (intKeys D0).Perm l := by
  rw [← hD]
  simp only [intKeys]
  refine ((perm_foldr _).map _).trans ?_
  rw [List.map_map]
  refine List.Perm.trans ?_ hperm
  rw [List.map_congr_left (g := keyInt)]
  intro x hx
  simp [Go.WideElems.rg, hrd x hx, intOf]
 have hBl : B < w.heap.size := (Array.getElem?_eq_some_iff.1 hc).1
 have hcell : w.cell? ⟨B, 0, none⟩ = some (.map (some b)) := by
  have h0 : c[0]? = some (.map (some b)) := by
   have := congrArg (·[0]?) hmv
   simpa using this
  simp [World.cell?, hc, h0]
 have hseq := AnyZI.keys_gives (ρ := Tryz.keysA_ren) { Tryz.keysA with } Fence.wide 3 trivial rfl (by omega) B b es.size D0 w hBl hcell hown
 have cS := AnyZI.sorted_in Tryz.sortedA Fence.wide 6 trivial trivial trivial trivial rfl (by omega) (sorts _) (enters_of Tryz.func136 (by kernel_rfl) rfl) 137 #[.pointer (some ⟨B, 0, none⟩)] trivial
  (enters_of Tryz.func137 (by kernel_rfl) rfl) _ (Go.Maps.size D0) (by rw [hD1]; simp only [maxLen]; omega) (by rw [hD1]; omega) w hseq
 refine Calls.mono (callsIn_wide.1 cS) ?_
 rintro e w' ⟨v, ss, rfl, hS, hrow, _, hbelow⟩
 have hsl := sort_id (hS.trans hD2) hs
 have hssl : ss.length = l.length := (hS.trans hD2).length_eq
 rw [hsl] at hrow
 have hblk : ∀ k, k < w.heap.size → w'.heap[k]? = w.heap[k]? := hbelow.block
 have hmem : ∀ B off v, ¬ S B → cellAt w.heap B off = some v → ¬ S B ∧ cellAt w'.heap B off = some v := fun B off v h1 h2 => ⟨h1, by rw [cellAt_same (hblk B (cellAt_lt h2))]; exact h2⟩
 refine ⟨v, _, H, κ, S, rfl, ⟨rfl, rfl⟩, ⟨⟨fun i e hi => ?_, hh.out, hh.own, hh.excl, fun B hB => Nat.lt_of_lt_of_le (hh.sz B hB) hbelow.size⟩, ⟨hbelow.os, hbelow.tape, hbelow.output, hbelow.size, fun B hB _ => hblk B hB, fun B _ h => h, fun B _ h _ => h⟩, fun _ _ => rfl, Nat.le_refl _, fun i B hi _ => ⟨i, hi⟩⟩, ?_⟩
 ·exact EntR.mono hmem (fun _ _ => rfl) (fun B hB => hblk B (hh.sz B (hh.own i B (by rw [ownAt_of hi]; exact hB)))) (hh.ent i e hi)
 ·simp only [AVR]
  obtain ⟨_, ⟨rfl, h0⟩ | ⟨g, cap, cur, rfl, hg, hcur, k1, k2, k3, k4⟩⟩ := hrow
  ·rw [hssl] at h0
   have : l = [] := List.eq_nil_of_length_eq_zero h0
   subst this
   exact CVR_nil 1 8
  ·simp only [CVR]
   refine ⟨_, _, _, rfl, by rw [hssl]; simp [rowI], k1, by simp only [rowI, List.length_map]; omega, fun e he => ?_, fun h => by (cases h), fun ad had => ?_⟩
   ·simp only [rowI, List.mem_map] at he
    obtain ⟨x, _, rfl⟩ := he
    rfl
   ·injection had with had
    subst had
    refine .inr ⟨rfl, RowsR_of (CellsV_rowI _ _ l) (fun hSg => ?_) (fun j v hj => ?_)⟩
    ·have := hh.sz g hSg
     omega
    ·simp only [cellAt, hcur]
     rw [← k4, List.getElem?_take] at hj
     split at hj
     ·simpa using hj
     ·cases hj
end Go.Tr
/- Free, Constants, Metas: the program's side. -/
namespace Go.Tr
open Go.Proofs
theorem len_rowI (l : List Int) : (rowI l).length = l.length := by simp [rowI]
theorem rowI_at {l : List Int} {i : Nat} {x : Int} (h : l[i]? = some x) : (rowI l)[i]? = some [.int .i64 x] := by simp [rowI, h]
def frNum (t : Term) (i : Int) : Int := t.n - i
def frIs (t : Term) (i : Int) : Bool := decide (t.l = 1) && decide (i ≤ t.n)
def hdNum (t : Term) (_ : Int) : Int := t.n
def hdIs (h : Int) (t : Term) (_ : Int) : Bool := decide (t.l = h)
theorem cFree1 (t : Term) (i : Int) (h : okT t i) : CallSt Tryz.prog 102 [tv t, .c (.int .i64 (i))] [] (fun r H' => r = .tup [.c (.int .i64 (frNum t i)), .c (.bool (frIs t i))] ∧ H' = []) := by
 have hn := bnT_n h.1
 have hi := okT_step t i h
 obtain ⟨k, l, n, ts⟩ := t
 simp only [Term.n] at hn
 rw [tv_mk]
 refine call_pure (E := env 0) (fn := Tryz.f102) (c := bodyOf Tryz.f102) (env_ok 0) mixed sK sK sK sK sK sK rfl ?_
 conv => whnf
 repeat ((first | (refine aI ?_ ?_; focus exact sI) | refine dI sK ?_ | (refine yI ?_ ?_; focus exact sY) | (refine nI ?_ ?_; focus exact sY)); conv => whnf)
 all_goals exact sR
def nmStep (num : Term → Int → Int) (is : Term → Int → Bool) (F : KV → Option Bool) (t : Term) (i : Int) : KV → Option Bool := if t.k = 4 ∧ is t i = true then mput F (.i (num t i)) true else F
theorem cNum1 (g : FuncId) (num : Term → Int → Int) (is : Term → Int → Bool) (hg : ∀ t i, okT t i → CallSt Tryz.prog g [tv t, .c (.int .i64 (i))] [] (fun r H' => r = .tup [.c (.int .i64 (num t i)), .c (.bool (is t i))] ∧ H' = []))
  (F : KV → Option Bool) (t : Term) (i : Int) (h : okT t i) :
  CallSt Tryz.prog 122 [tv t, .c (.int .i64 (i)), .ptr 0 0, .ptr 1 0] [.box [.fn g []], .box [.mpv 2], .mp false (.b F)] (fun r H' => r = .tup [] ∧ H' = [.box [.fn g []], .box [.mpv 2], .mp false (.b (nmStep num is F t i))]) := by
 have hgg := hg t i h
 have e1 : t.k = 4 → is t i = true → nmStep num is F t i = mput F (.i (num t i)) true := fun a b => by simp [nmStep, a, b]
 have e2 : ¬ (t.k = 4 ∧ is t i = true) → nmStep num is F t i = F := fun a => by simp only [nmStep, if_neg a]
 generalize hN : num t i = N at *
 generalize hI : is t i = b at *
 generalize nmStep num is F t i = F' at *
 obtain ⟨k, l, n, ts⟩ := t
 simp only [Term.k] at e1 e2
 rw [tv_mk]
 refine call_pure (E := env 3) (fn := Tryz.f122) (c := bodyOf Tryz.f122) (env_ok 3) mixed sK sK sK sK sK sK rfl ?_
 conv => whnf
 refine ⟨fun hc => ?_, fun hc => ?_⟩
 ·replace hc : k = 4 := of_decide_eq_true hc
  conv => whnf
  try (refine dI sK ?_; conv => whnf)
  first | refine u0 hgg ?_ | refine v0 hgg ?_
  rintro _ _ ⟨rfl, rfl⟩ _
  conv => whnf
  refine ⟨fun h2 => ?_, fun h2 => ?_⟩
  ·subst h2
   obtain rfl := e1 hc rfl
   conv => whnf
   repeat ((first | (refine aI ?_ ?_; focus exact sI) | refine dI sK ?_ | (refine yI ?_ ?_; focus exact sY) | (refine nI ?_ ?_; focus exact sY)); conv => whnf)
   all_goals exact sR
  ·subst h2
   obtain rfl := e2 (by simp)
   conv => whnf
   repeat ((first | (refine aI ?_ ?_; focus exact sI) | refine dI sK ?_ | (refine yI ?_ ?_; focus exact sY) | (refine nI ?_ ?_; focus exact sY)); conv => whnf)
   all_goals exact sR
 ·replace hc : ¬ k = 4 := of_decide_eq_false hc
  obtain rfl := e2 (fun h => hc h.1)
  conv => whnf
  repeat ((first | (refine aI ?_ ?_; focus exact sI) | refine dI sK ?_ | (refine yI ?_ ?_; focus exact sY) | (refine nI ?_ ?_; focus exact sY)); conv => whnf)
  all_goals exact sR
theorem cKeys (F : KV → Option Bool) : CallSt Tryz.prog 124 [.mpv 0] [.mp false (.b F)] (fun r H' => r = .fn 137 [.ptr 1 0] ∧ H' = [.mp false (.b F), .box [.mpv 0]]) := by
 refine call_intro (E := env 1) (fn := Tryz.f124) (c := bodyOf Tryz.f124) (env_ok 1) mixed sK sK sK sK sK sK rfl ?_
 conv => whnf
 repeat ((first | (refine aI ?_ ?_; focus exact sI) | refine dI sK ?_ | (refine yI ?_ ?_; focus exact sY) | (refine nI ?_ ?_; focus exact sY)); conv => whnf)
 all_goals exact sR
def numF (num : Term → Int → Int) (is : Term → Int → Bool) (t : Term) : KV → Option Bool := eachT (nmStep num is) t 0 (fun _ => none)
theorem cNumbers (g : FuncId) (num : Term → Int → Int) (is : Term → Int → Bool) (hg : ∀ t i, okT t i → CallSt Tryz.prog g [tv t, .c (.int .i64 (i))] [] (fun r H' => r = .tup [.c (.int .i64 (num t i)), .c (.bool (is t i))] ∧ H' = []))
  (t : Term) (l : List Int) (hs : l.Pairwise (· < ·)) (hl : prop t = true → ∀ x, numF num is t (.i x) ≠ none ↔ x ∈ l) (hr : ∀ x ∈ l, inR x) (hlen : l.length ≤ 1000000) :
  CallSt Tryz.prog 101 [tv t, .fn g []] [] (fun r H' => r = .tup [.c (.sl 1 8 (rowI (if prop t then l else []))), .c (.int .i64 ((if prop t then 0 else 2)))] ∧ H' = []) := by
 have h14 := c14 t
 have hEach := cEachM 122 g (fun F => F) (nmStep num is) okT okT_step (fun s u j hu => cNum1 g num is hg s u j hu) t 0 (fun _ => none)
 have hpo : prop t = true → okT t 0 := prop_ok
 generalize hp : prop t = p at *
 cases p with
 | false =>
  simp only [Bool.false_eq_true, if_false] at *
  obtain ⟨k, m, n, ts⟩ := t
  rw [tv_mk] at *
  refine call_pure (E := env 0) (fn := Tryz.f101) (c := bodyOf Tryz.f101) (env_ok 0) mixed sK sK sK sK sK sK rfl ?_
  conv => whnf
  try (refine dI sK ?_; conv => whnf)
  first | refine u0 h14 ?_ | refine v0 h14 ?_
  rintro _ _ ⟨rfl, rfl⟩ _
  conv => whnf
  repeat ((first | (refine aI ?_ ?_; focus exact sI) | refine dI sK ?_ | (refine yI ?_ ?_; focus exact sY) | (refine nI ?_ ?_; focus exact sY)); conv => whnf)
  all_goals exact sR
 | true =>
  simp only [if_true] at *
  have hE := hEach (hpo trivial)
  have hSo := cSorted [.box [.mpv 1], .mp false (.b (numF num is t))] 0 1 (numF num is t) l rfl rfl hs (hl trivial) hr hlen
  change CallSt Tryz.prog _ _ _ (fun r H' => r = _ ∧ H' = [_, _, .mp false (.b (numF num is t))]) at hE
  generalize numF num is t = F' at *
  obtain ⟨k, m, n, ts⟩ := t
  rw [tv_mk] at *
  refine call_pure (E := env 0) (fn := Tryz.f101) (c := bodyOf Tryz.f101) (env_ok 0) mixed sK sK sK sK sK sK rfl ?_
  conv => whnf
  try (refine dI sK ?_; conv => whnf)
  first | refine u0 h14 ?_ | refine v0 h14 ?_
  rintro _ _ ⟨rfl, rfl⟩ _
  conv => whnf
  (refine nI ?_ ?_; (focus exact sY); conv => whnf)
  try (refine dI sK ?_; conv => whnf)
  first | refine CallSt.use hE [1, 3, 2] ⟨rfl, rfl, rfl, trivial⟩ (by decide) rfl ?_ | refine CallPt.useS hE [1, 3, 2] ⟨rfl, rfl, rfl, trivial⟩ (by decide) rfl ?_
  rintro _ _ ⟨rfl, rfl⟩ _
  conv => whnf
  try (refine dI sK ?_; conv => whnf)
  first | refine CallSt.use ((cKeys F')) [2] ⟨rfl, trivial⟩ (by decide) rfl ?_ | refine CallPt.useS ((cKeys F')) [2] ⟨rfl, trivial⟩ (by decide) rfl ?_
  rintro _ _ ⟨rfl, rfl⟩ _
  conv => whnf
  try (refine dI sK ?_; conv => whnf)
  first | refine CallSt.use hSo [4, 2] ⟨rfl, rfl, trivial⟩ (by decide) rfl ?_ | refine CallPt.useS hSo [4, 2] ⟨rfl, rfl, trivial⟩ (by decide) rfl ?_
  rintro _ _ ⟨rfl, rfl⟩ _
  conv => whnf
  repeat ((first | (refine aI ?_ ?_; focus exact sI) | refine dI sK ?_ | (refine yI ?_ ?_; focus exact sY) | (refine nI ?_ ?_; focus exact sY)); conv => whnf)
  all_goals exact sR
end Go.Tr
/- The reference's put, heads. -/
namespace Go.Tr
open Go.Proofs
theorem len_rowI' (l : List Int) : (rowI l).length = l.length := by simp [rowI]
theorem rowI_at' {l : List Int} {i : Nat} {x : Int} (h : l[i]? = some x) : (rowI l)[i]? = some [.int .i64 x] := by simp [rowI, h]
def putI : List Int → Int → List Int
 | [], n => [n]
 | x :: r, n => match decide (x < n) with
  | true => x :: putI r n
  | false => match decide (x = n) with | true => x :: r | false => n :: x :: r
theorem putI_len : ∀ (l : List Int) (n : Int), l.length ≤ (putI l n).length ∧ (putI l n).length ≤ l.length + 1
 | [], n => by simp [putI]
 | x :: r, n => by
  have ih := putI_len r n
  unfold putI
  split
  ·simp only [List.length_cons]; omega
  ·split <;> simp only [List.length_cons] <;> omega
theorem putI_at : ∀ (l : List Int) (n : Int) (k : Nat), (∀ i x, i < k → l[i]? = some x → x < n) → k ≤ l.length →
  (l[k]? = some n → putI l n = l) ∧ ((∀ x, l[k]? = some x → n < x) → putI l n = l.take k ++ [n] ++ l.drop k)
 | [], n, k, _, hk => by
  have : k = 0 := by simpa using hk
  subst this
  simp [putI]
 | x :: r, n, 0, _, _ => by
  constructor
  ·intro h
   simp only [List.getElem?_cons_zero, Option.some.injEq] at h
   subst h
   simp [putI]
  ·intro h
   have hx := h x rfl
   have h1 : decide (x < n) = false := decide_eq_false (by omega)
   have h2 : decide (x = n) = false := decide_eq_false (by omega)
   simp only [putI, h1, h2, List.take_zero, List.drop_zero, List.nil_append, List.cons_append]
 | x :: r, n, k + 1, hb, hk => by
  have hx := hb 0 x (by omega) rfl
  have ih := putI_at r n k (fun i y hi hy => hb (i + 1) y (by omega) (by simpa using hy)) (by simpa using hk)
  have h1 : decide (x < n) = true := decide_eq_true hx
  constructor
  ·intro h
   simp only [putI, h1]
   rw [ih.1 (by simpa using h)]
  ·intro h
   simp only [putI, h1, List.take_succ_cons, List.drop_succ_cons, List.cons_append]
   rw [ih.2 (fun y hy => h y (by simpa using hy))]
mutual
def headsT (hd : Int) : Term → Int → List Int → List Int
 | .mk k l n ts, b, L => headsL hd k b 0 ts (match decide (k = 4) && decide (l = hd) with
  | true => (match !decide (hd = 1) with | true => putI L n | false => (match decide (b ≤ n) with | true => putI L (n - b) | false => L))
  | false => L)
def headsL (hd k b : Int) : Int → List Term → List Int → List Int
 | _, [], L => L
 | j, t :: r, L => headsL hd k b (j + 1) r (headsT hd t (b + unT k j) L)
end
theorem pick3_len (c1 c2 c3 : Bool) (L : List Int) (n m : Int) : (match c1 with
  | true => (match c2 with | true => putI L n | false => (match c3 with | true => putI L m | false => L))
  | false => L).length ≤ L.length + 1 := by
 have h1 := putI_len L n
 have h2 := putI_len L m
 cases c1 <;> cases c2 <;> cases c3 <;> simp <;> omega
mutual
theorem headsT_len (hd : Int) : ∀ (t : Term) (b : Int) (L : List Int), ((headsT hd t b L).length : Int) ≤ L.length + szT t
 | .mk k l n ts, b, L => by
  rw [headsT, szT]
  have h1 := headsL_len hd k b ts 0 (match decide (k = 4) && decide (l = hd) with
   | true => (match !decide (hd = 1) with | true => putI L n | false => (match decide (b ≤ n) with | true => putI L (n - b) | false => L))
   | false => L)
  have h2 := pick3_len (decide (k = 4) && decide (l = hd)) (!decide (hd = 1)) (decide (b ≤ n)) L n (n - b)
  omega
theorem headsL_len (hd k b : Int) : ∀ (ts : List Term) (j : Int) (L : List Int), ((headsL hd k b j ts L).length : Int) ≤ L.length + szL ts
 | [], j, L => by rw [headsL, szL]; omega
 | t :: r, j, L => by
  rw [headsL, szL]
  have h1 := headsT_len hd t (b + unT k j) L
  have h2 := headsL_len hd k b r (j + 1) (headsT hd t (b + unT k j) L)
  omega
end
theorem put_rows (l : List Int) (n : Int) (k : Nat) : ((rowI l).take ((k : Int).toNat)).drop (Int.toNat 0) ++ [[CV.int .i64 n]] ++ ((rowI l).take (((rowI l).length : Int).toNat)).drop ((k : Int).toNat) = rowI (l.take k ++ [n] ++ l.drop k) := by
 have h1 : (Int.toNat 0) = 0 := rfl
 rw [Int.toNat_natCast, Int.toNat_natCast, h1, List.drop_zero, List.take_length]
 simp [rowI]
theorem cPut (l : List Int) (n : Int) (hlen : l.length ≤ 1000000) : CallSt Tryz.prog 132 [.c (.sl 1 8 (rowI l)), .c (.int .i64 (n))] [] (fun r H' => r = .c (.sl 1 8 (rowI (putI l n))) ∧ H' = []) := by
 have hrl := len_rowI' l
 have hby : ((env 0).ty 3).bytes = 8 := rfl
 refine call_pure (E := env 0) (fn := Tryz.f132) (c := bodyOf Tryz.f132) (env_ok 0) mixed sK sK sK sK sK sK rfl ?_
 conv => whnf
 refine loop_intro (fun m tm H => ∃ k : Nat, l.length = m + k ∧ (∀ i x, i < k → l[i]? = some x → x < n) ∧
   tm = [(5, .c (.int .i64 (k))), (0, .c (.sl 1 8 (rowI l))), (1, .c (.int .i64 (n)))] ∧ H = []) l.length _ _ ⟨0, by omega, fun i x hi _ => absurd hi (by omega), rfl, rfl⟩ (Wk.sl [] rfl trivial ⟨rfl, rfl, rfl, trivial⟩ rfl) ?_
 rintro m tm H ⟨k, hk, hbel, rfl, rfl⟩
 conv => whnf
 intro hl1
 conv => whnf
 by_cases hkl : k < l.length
 ·obtain ⟨x, hx⟩ : ∃ x, l[k]? = some x := ⟨l[k], List.getElem?_eq_getElem hkl⟩
  have hxr := rowI_at' hx
  have hat := putI_at l n k hbel (by omega)
  refine ⟨[.int .i64 x], fun _ => ⟨by omega, by simpa using hxr⟩, ?_⟩
  conv => whnf
  refine ⟨Nat.le_refl 1, ?_⟩
  conv => whnf
  have hcond : (decide ((k : Int) < (rowI l).length) && decide (x < n)) = decide (x < n) := by
   rw [hrl]
   simp [show (k : Int) < l.length by omega]
  refine ⟨fun hc => ?_, fun hc => ?_⟩
  ·replace hc := hcond.symm.trans hc
   have hc' : x < n := of_decide_eq_true hc
   conv => whnf
   refine ⟨⟨by omega, by omega⟩, ?_⟩
   conv => whnf
   refine ⟨m - 1, _, _, by omega, ⟨k + 1, by omega, fun i y hi hy => ?_, rfl, rfl⟩, Wk.sl [] rfl trivial ⟨rfl, rfl, rfl, trivial⟩ rfl⟩
   by_cases hik : i < k
   ·exact hbel i y hik hy
   ·obtain rfl : i = k := by omega
    rw [hx] at hy
    injection hy with hy
    omega
  ·replace hc := hcond.symm.trans hc
   have hc' : ¬ x < n := of_decide_eq_false hc
   conv => whnf
   intro hl2
   conv => whnf
   refine ⟨[.int .i64 x], fun _ => ⟨by omega, by simpa using hxr⟩, ?_⟩
   conv => whnf
   refine ⟨Nat.le_refl 1, ?_⟩
   conv => whnf
   have hcond2 : (decide ((k : Int) < (rowI l).length) && decide (x = n)) = decide (x = n) := by
    rw [hrl]
    simp [show (k : Int) < l.length by omega]
   refine ⟨fun hd => ?_, fun hd => ?_⟩
   ·replace hd := hcond2.symm.trans hd
    have hd' : x = n := of_decide_eq_true hd
    rw [hat.1 (by rw [hx, hd'])]
    conv => whnf
    repeat ((first | (refine aI ?_ ?_; focus exact sI) | refine dI sK ?_ | (refine yI ?_ ?_; focus exact sY) | (refine nI ?_ ?_; focus exact sY)); conv => whnf)
    all_goals exact sR
   ·replace hd := hcond2.symm.trans hd
    have hd' : ¬ x = n := of_decide_eq_false hd
    rw [hat.2 (fun y hy => by rw [hx] at hy; injection hy with hy; omega)]
    conv => whnf
    refine ⟨⟨by omega, by omega, by omega⟩, ?_⟩
    conv => whnf
    refine ⟨by simp only [hby, List.length_drop, List.length_take, List.length_append, List.length_cons, List.length_nil]; omega, by simp only [hby, List.length_drop, List.length_take, List.length_append, List.length_cons, List.length_nil]; omega, ?_⟩
    conv => whnf
    repeat ((first | (refine aI ?_ ?_; focus exact sI) | (refine yI ?_ ?_; focus exact sY) | (refine nI ?_ ?_; focus exact sY)); conv => whnf)
    refine ⟨by simp only [hby, List.length_drop, List.length_take, List.length_append, List.length_cons, List.length_nil]; omega, by simp only [hby, List.length_drop, List.length_take, List.length_append, List.length_cons, List.length_nil]; omega, ?_⟩
    conv => whnf
    refine ⟨⟨by omega, by omega, by omega⟩, ?_⟩
    conv => whnf
    refine ⟨by simp only [hby, List.length_drop, List.length_take, List.length_append, List.length_cons, List.length_nil]; omega, by simp only [hby, List.length_drop, List.length_take, List.length_append, List.length_cons, List.length_nil]; omega, ?_⟩
    conv => whnf
    exact ⟨rfl, rfl, congrArg (fun z => AV.c (.sl 1 8 z)) (put_rows l n k), rfl⟩
 ·have hat := putI_at l n k hbel (by omega)
  refine ⟨[.int .i64 0], fun h => absurd (of_decide_eq_true h) (by omega), ?_⟩
  conv => whnf
  refine ⟨Nat.le_refl 1, ?_⟩
  conv => whnf
  have hcond : (decide ((k : Int) < (rowI l).length) && decide ((0 : Int) < n)) = false := by
   rw [hrl]
   simp [show ¬ (k : Int) < l.length by omega]
  refine ⟨fun hc => ?_, fun hc => ?_⟩
  ·exact absurd (hcond.symm.trans hc) (by simp)
  ·conv => whnf
   intro hl2
   conv => whnf
   refine ⟨[.int .i64 0], fun h => absurd (of_decide_eq_true h) (by omega), ?_⟩
   conv => whnf
   refine ⟨Nat.le_refl 1, ?_⟩
   conv => whnf
   have hcond2 : (decide ((k : Int) < (rowI l).length) && decide ((0 : Int) = n)) = false := by
    rw [hrl]
    simp [show ¬ (k : Int) < l.length by omega]
   refine ⟨fun hd => ?_, fun hd => ?_⟩
   ·exact absurd (hcond2.symm.trans hd) (by simp)
   ·rw [hat.2 (fun y hy => by rw [List.getElem?_eq_none (by omega)] at hy; cases hy)]
    conv => whnf
    refine ⟨⟨by omega, by omega, by omega⟩, ?_⟩
    conv => whnf
    refine ⟨by simp only [hby, List.length_drop, List.length_take, List.length_append, List.length_cons, List.length_nil]; omega, by simp only [hby, List.length_drop, List.length_take, List.length_append, List.length_cons, List.length_nil]; omega, ?_⟩
    conv => whnf
    repeat ((first | (refine aI ?_ ?_; focus exact sI) | (refine yI ?_ ?_; focus exact sY) | (refine nI ?_ ?_; focus exact sY)); conv => whnf)
    refine ⟨by simp only [hby, List.length_drop, List.length_take, List.length_append, List.length_cons, List.length_nil]; omega, by simp only [hby, List.length_drop, List.length_take, List.length_append, List.length_cons, List.length_nil]; omega, ?_⟩
    conv => whnf
    refine ⟨⟨by omega, by omega, by omega⟩, ?_⟩
    conv => whnf
    refine ⟨by simp only [hby, List.length_drop, List.length_take, List.length_append, List.length_cons, List.length_nil]; omega, by simp only [hby, List.length_drop, List.length_take, List.length_append, List.length_cons, List.length_nil]; omega, ?_⟩
    conv => whnf
    exact ⟨rfl, rfl, congrArg (fun z => AV.c (.sl 1 8 z)) (put_rows l n k), rfl⟩
theorem cHeads (hd : Int) (t : Term) : ∀ (b : Int) (L : List Int), okT t b → L.length + szT t ≤ 1000000 → CallSt Tryz.prog 116 [tv t, .c (.int .i64 (hd)), .c (.int .i64 (b)), .c (.sl 1 8 (rowI L))] [] (fun r H' => r = .c (.sl 1 8 (rowI (headsT hd t b L))) ∧ H' = []) := by
 induction t using Term.ind with
 | _ t ih =>
 intro b L hok hLs
 obtain ⟨hib, hch⟩ := okT_step t b hok
 have hn := bnT_n hok.1
 obtain ⟨k, l, n, ts⟩ := t
 replace ih : ∀ u, u ∈ ts → _ := ih
 simp only [Term.n] at hn
 have hE : headsT hd (.mk k l n ts) b L = headsT hd (.mk k l n ts) b L := rfl
 conv at hE => rhs; rw [headsT]
 generalize headsT hd (.mk k l n ts) b L = R at *
 rw [szT] at hLs
 have hz := szL_pos ts
 rw [tv_mk]
 refine call_pure (E := env 0) (fn := Tryz.f116) (c := bodyOf Tryz.f116) (env_ok 0) mixed sK sK sK sK sK sK rfl ?_
 conv => whnf
 refine ⟨fun h1 => ?_, fun h1 => ?_⟩
 ·rw [h1] at hE
  conv => whnf
  refine ⟨fun h2 => ?_, fun h2 => ?_⟩
  ·rw [h2] at hE
   simp only at hE
   have hp := cPut L n (by omega)
   have hpl := putI_len L n
   have hLB : ((putI L n).length : Int) + szL ts ≤ 1000000 := by omega
   conv => whnf
   try (refine dI sK ?_; conv => whnf)
   first | refine u0 hp ?_ | refine v0 hp ?_
   rintro _ _ ⟨rfl, rfl⟩ _
   conv => whnf
   conv => whnf
   refine loop_intro (fun m tm H => ∃ (j : Nat) (L' : List Int), ts.length = m + j ∧ headsL hd k b j (ts.drop j) L' = R ∧ L'.length + szL (ts.drop j) ≤ 1000000 ∧
     tm = [(9, .c (.int .i64 (j))), (3, .c (.sl 1 8 (rowI L'))), (1, .c (.int .i64 (hd))), (2, .c (.int .i64 (b))), (4, .ptr 0 0)] ∧ H = [.box [.c (.int .i64 (k)), .c (.int .i64 (l)), .c (.int .i64 (n)), .c (.sl 4 48 (tcs ts))]])
     ts.length _ _ ⟨0, _, by omega, hE.symm, by simpa using hLB, rfl, rfl⟩ (Wk.sl [0] rfl ⟨rfl, trivial⟩ ⟨rfl, rfl, rfl, rfl, rfl, trivial⟩ rfl) ?_
   rintro m tm H ⟨j, L', hj, hR, hB, rfl, rfl⟩
   conv => whnf
   intro hlen
   replace hlen : (tcs ts).length * 48 ≤ 140737488355328 := hlen
   rw [len_tcs] at hlen
   conv => whnf
   refine ⟨fun hc => ?_, fun hc => ?_⟩
   ·replace hc : (j : Int) < (tcs ts).length := of_decide_eq_true hc
    rw [len_tcs] at hc
    have hlt : j < ts.length := by omega
    obtain ⟨u, hu⟩ : ∃ u, ts[j]? = some u := ⟨ts[j], List.getElem?_eq_getElem hlt⟩
    have hm := List.mem_of_getElem? hu
    have huc := tcs_at ts j u hu
    rw [drop_at hu, szL] at hB
    have hcc := ih u hm (b + unT k j) L' (hch j u hu) (by have := szL_pos (ts.drop (j + 1)); omega)
    have hLn := headsT_len hd u (b + unT k j) L'
    have hun := c80 (.mk k l n ts) j
    have hub := unT_bd k j
    rw [drop_at hu, headsL] at hR
    obtain ⟨k', l', n', us⟩ := u
    conv => whnf
    try (refine dI sK ?_; conv => whnf)
    refine ⟨_, ⟨by omega, by simpa using huc⟩, ?_⟩
    conv => whnf
    refine ⟨Nat.le_refl 4, ?_⟩
    conv => whnf
    try (refine dI sK ?_; conv => whnf)
    first | refine u0 hun ?_ | refine v0 hun ?_
    rintro _ _ ⟨rfl, rfl⟩ _
    conv => whnf
    refine ⟨⟨by simp only [Term.k]; omega, by simp only [Term.k]; omega⟩, ?_⟩
    conv => whnf
    try (refine dI sK ?_; conv => whnf)
    first | refine u0 hcc ?_ | refine v0 hcc ?_
    rintro _ _ ⟨rfl, rfl⟩ _
    conv => whnf
    refine ⟨⟨by omega, by omega⟩, ?_⟩
    conv => whnf
    refine ⟨m - 1, _, _, by omega, ⟨j + 1, _, by omega, hR, by omega, rfl, rfl⟩, Wk.sl [0] rfl ⟨rfl, trivial⟩ ⟨rfl, rfl, rfl, rfl, rfl, trivial⟩ rfl⟩
   ·replace hc : ¬ (j : Int) < (tcs ts).length := of_decide_eq_false hc
    rw [len_tcs] at hc
    rw [List.drop_eq_nil_of_le (by omega), headsL] at hR
    subst hR
    conv => whnf
    repeat ((first | (refine aI ?_ ?_; focus exact sI) | refine dI sK ?_ | (refine yI ?_ ?_; focus exact sY) | (refine nI ?_ ?_; focus exact sY)); conv => whnf)
    all_goals exact sR
  ·replace h2 : hd = 1 := by simpa using h2
   rw [show (!decide (hd = 1)) = false by simp [h2]] at hE
   simp only at hE
   conv => whnf
   refine ⟨fun h3 => ?_, fun h3 => ?_⟩
   ·rw [h3] at hE
    simp only at hE
    have hp := cPut L (n - b) (by omega)
    have hpl := putI_len L (n - b)
    have hLB : ((putI L (n - b)).length : Int) + szL ts ≤ 1000000 := by omega
    conv => whnf
    refine ⟨⟨by omega, by omega⟩, ?_⟩
    conv => whnf
    try (refine dI sK ?_; conv => whnf)
    first | refine u0 hp ?_ | refine v0 hp ?_
    rintro _ _ ⟨rfl, rfl⟩ _
    conv => whnf
    conv => whnf
    refine loop_intro (fun m tm H => ∃ (j : Nat) (L' : List Int), ts.length = m + j ∧ headsL hd k b j (ts.drop j) L' = R ∧ L'.length + szL (ts.drop j) ≤ 1000000 ∧
      tm = [(9, .c (.int .i64 (j))), (3, .c (.sl 1 8 (rowI L'))), (1, .c (.int .i64 (hd))), (2, .c (.int .i64 (b))), (4, .ptr 0 0)] ∧ H = [.box [.c (.int .i64 (k)), .c (.int .i64 (l)), .c (.int .i64 (n)), .c (.sl 4 48 (tcs ts))]])
      ts.length _ _ ⟨0, _, by omega, hE.symm, by simpa using hLB, rfl, rfl⟩ (Wk.sl [0] rfl ⟨rfl, trivial⟩ ⟨rfl, rfl, rfl, rfl, rfl, trivial⟩ rfl) ?_
    rintro m tm H ⟨j, L', hj, hR, hB, rfl, rfl⟩
    conv => whnf
    intro hlen
    replace hlen : (tcs ts).length * 48 ≤ 140737488355328 := hlen
    rw [len_tcs] at hlen
    conv => whnf
    refine ⟨fun hc => ?_, fun hc => ?_⟩
    ·replace hc : (j : Int) < (tcs ts).length := of_decide_eq_true hc
     rw [len_tcs] at hc
     have hlt : j < ts.length := by omega
     obtain ⟨u, hu⟩ : ∃ u, ts[j]? = some u := ⟨ts[j], List.getElem?_eq_getElem hlt⟩
     have hm := List.mem_of_getElem? hu
     have huc := tcs_at ts j u hu
     rw [drop_at hu, szL] at hB
     have hcc := ih u hm (b + unT k j) L' (hch j u hu) (by have := szL_pos (ts.drop (j + 1)); omega)
     have hLn := headsT_len hd u (b + unT k j) L'
     have hun := c80 (.mk k l n ts) j
     have hub := unT_bd k j
     rw [drop_at hu, headsL] at hR
     obtain ⟨k', l', n', us⟩ := u
     conv => whnf
     try (refine dI sK ?_; conv => whnf)
     refine ⟨_, ⟨by omega, by simpa using huc⟩, ?_⟩
     conv => whnf
     refine ⟨Nat.le_refl 4, ?_⟩
     conv => whnf
     try (refine dI sK ?_; conv => whnf)
     first | refine u0 hun ?_ | refine v0 hun ?_
     rintro _ _ ⟨rfl, rfl⟩ _
     conv => whnf
     refine ⟨⟨by simp only [Term.k]; omega, by simp only [Term.k]; omega⟩, ?_⟩
     conv => whnf
     try (refine dI sK ?_; conv => whnf)
     first | refine u0 hcc ?_ | refine v0 hcc ?_
     rintro _ _ ⟨rfl, rfl⟩ _
     conv => whnf
     refine ⟨⟨by omega, by omega⟩, ?_⟩
     conv => whnf
     refine ⟨m - 1, _, _, by omega, ⟨j + 1, _, by omega, hR, by omega, rfl, rfl⟩, Wk.sl [0] rfl ⟨rfl, trivial⟩ ⟨rfl, rfl, rfl, rfl, rfl, trivial⟩ rfl⟩
    ·replace hc : ¬ (j : Int) < (tcs ts).length := of_decide_eq_false hc
     rw [len_tcs] at hc
     rw [List.drop_eq_nil_of_le (by omega), headsL] at hR
     subst hR
     conv => whnf
     repeat ((first | (refine aI ?_ ?_; focus exact sI) | refine dI sK ?_ | (refine yI ?_ ?_; focus exact sY) | (refine nI ?_ ?_; focus exact sY)); conv => whnf)
     all_goals exact sR
   ·rw [h3] at hE
    simp only at hE
    have hLB : (L.length : Int) + szL ts ≤ 1000000 := by omega
    conv => whnf
    refine loop_intro (fun m tm H => ∃ (j : Nat) (L' : List Int), ts.length = m + j ∧ headsL hd k b j (ts.drop j) L' = R ∧ L'.length + szL (ts.drop j) ≤ 1000000 ∧
      tm = [(9, .c (.int .i64 (j))), (3, .c (.sl 1 8 (rowI L'))), (1, .c (.int .i64 (hd))), (2, .c (.int .i64 (b))), (4, .ptr 0 0)] ∧ H = [.box [.c (.int .i64 (k)), .c (.int .i64 (l)), .c (.int .i64 (n)), .c (.sl 4 48 (tcs ts))]])
      ts.length _ _ ⟨0, _, by omega, hE.symm, by simpa using hLB, rfl, rfl⟩ (Wk.sl [0] rfl ⟨rfl, trivial⟩ ⟨rfl, rfl, rfl, rfl, rfl, trivial⟩ rfl) ?_
    rintro m tm H ⟨j, L', hj, hR, hB, rfl, rfl⟩
    conv => whnf
    intro hlen
    replace hlen : (tcs ts).length * 48 ≤ 140737488355328 := hlen
    rw [len_tcs] at hlen
    conv => whnf
    refine ⟨fun hc => ?_, fun hc => ?_⟩
    ·replace hc : (j : Int) < (tcs ts).length := of_decide_eq_true hc
     rw [len_tcs] at hc
     have hlt : j < ts.length := by omega
     obtain ⟨u, hu⟩ : ∃ u, ts[j]? = some u := ⟨ts[j], List.getElem?_eq_getElem hlt⟩
     have hm := List.mem_of_getElem? hu
     have huc := tcs_at ts j u hu
     rw [drop_at hu, szL] at hB
     have hcc := ih u hm (b + unT k j) L' (hch j u hu) (by have := szL_pos (ts.drop (j + 1)); omega)
     have hLn := headsT_len hd u (b + unT k j) L'
     have hun := c80 (.mk k l n ts) j
     have hub := unT_bd k j
     rw [drop_at hu, headsL] at hR
     obtain ⟨k', l', n', us⟩ := u
     conv => whnf
     try (refine dI sK ?_; conv => whnf)
     refine ⟨_, ⟨by omega, by simpa using huc⟩, ?_⟩
     conv => whnf
     refine ⟨Nat.le_refl 4, ?_⟩
     conv => whnf
     try (refine dI sK ?_; conv => whnf)
     first | refine u0 hun ?_ | refine v0 hun ?_
     rintro _ _ ⟨rfl, rfl⟩ _
     conv => whnf
     refine ⟨⟨by simp only [Term.k]; omega, by simp only [Term.k]; omega⟩, ?_⟩
     conv => whnf
     try (refine dI sK ?_; conv => whnf)
     first | refine u0 hcc ?_ | refine v0 hcc ?_
     rintro _ _ ⟨rfl, rfl⟩ _
     conv => whnf
     refine ⟨⟨by omega, by omega⟩, ?_⟩
     conv => whnf
     refine ⟨m - 1, _, _, by omega, ⟨j + 1, _, by omega, hR, by omega, rfl, rfl⟩, Wk.sl [0] rfl ⟨rfl, trivial⟩ ⟨rfl, rfl, rfl, rfl, rfl, trivial⟩ rfl⟩
    ·replace hc : ¬ (j : Int) < (tcs ts).length := of_decide_eq_false hc
     rw [len_tcs] at hc
     rw [List.drop_eq_nil_of_le (by omega), headsL] at hR
     subst hR
     conv => whnf
     repeat ((first | (refine aI ?_ ?_; focus exact sI) | refine dI sK ?_ | (refine yI ?_ ?_; focus exact sY) | (refine nI ?_ ?_; focus exact sY)); conv => whnf)
     all_goals exact sR
 ·rw [h1] at hE
  simp only at hE
  have hLB : (L.length : Int) + szL ts ≤ 1000000 := by omega
  conv => whnf
  refine loop_intro (fun m tm H => ∃ (j : Nat) (L' : List Int), ts.length = m + j ∧ headsL hd k b j (ts.drop j) L' = R ∧ L'.length + szL (ts.drop j) ≤ 1000000 ∧
    tm = [(9, .c (.int .i64 (j))), (3, .c (.sl 1 8 (rowI L'))), (1, .c (.int .i64 (hd))), (2, .c (.int .i64 (b))), (4, .ptr 0 0)] ∧ H = [.box [.c (.int .i64 (k)), .c (.int .i64 (l)), .c (.int .i64 (n)), .c (.sl 4 48 (tcs ts))]])
    ts.length _ _ ⟨0, _, by omega, hE.symm, by simpa using hLB, rfl, rfl⟩ (Wk.sl [0] rfl ⟨rfl, trivial⟩ ⟨rfl, rfl, rfl, rfl, rfl, trivial⟩ rfl) ?_
  rintro m tm H ⟨j, L', hj, hR, hB, rfl, rfl⟩
  conv => whnf
  intro hlen
  replace hlen : (tcs ts).length * 48 ≤ 140737488355328 := hlen
  rw [len_tcs] at hlen
  conv => whnf
  refine ⟨fun hc => ?_, fun hc => ?_⟩
  ·replace hc : (j : Int) < (tcs ts).length := of_decide_eq_true hc
   rw [len_tcs] at hc
   have hlt : j < ts.length := by omega
   obtain ⟨u, hu⟩ : ∃ u, ts[j]? = some u := ⟨ts[j], List.getElem?_eq_getElem hlt⟩
   have hm := List.mem_of_getElem? hu
   have huc := tcs_at ts j u hu
   rw [drop_at hu, szL] at hB
   have hcc := ih u hm (b + unT k j) L' (hch j u hu) (by have := szL_pos (ts.drop (j + 1)); omega)
   have hLn := headsT_len hd u (b + unT k j) L'
   have hun := c80 (.mk k l n ts) j
   have hub := unT_bd k j
   rw [drop_at hu, headsL] at hR
   obtain ⟨k', l', n', us⟩ := u
   conv => whnf
   try (refine dI sK ?_; conv => whnf)
   refine ⟨_, ⟨by omega, by simpa using huc⟩, ?_⟩
   conv => whnf
   refine ⟨Nat.le_refl 4, ?_⟩
   conv => whnf
   try (refine dI sK ?_; conv => whnf)
   first | refine u0 hun ?_ | refine v0 hun ?_
   rintro _ _ ⟨rfl, rfl⟩ _
   conv => whnf
   refine ⟨⟨by simp only [Term.k]; omega, by simp only [Term.k]; omega⟩, ?_⟩
   conv => whnf
   try (refine dI sK ?_; conv => whnf)
   first | refine u0 hcc ?_ | refine v0 hcc ?_
   rintro _ _ ⟨rfl, rfl⟩ _
   conv => whnf
   refine ⟨⟨by omega, by omega⟩, ?_⟩
   conv => whnf
   refine ⟨m - 1, _, _, by omega, ⟨j + 1, _, by omega, hR, by omega, rfl, rfl⟩, Wk.sl [0] rfl ⟨rfl, trivial⟩ ⟨rfl, rfl, rfl, rfl, rfl, trivial⟩ rfl⟩
  ·replace hc : ¬ (j : Int) < (tcs ts).length := of_decide_eq_false hc
   rw [len_tcs] at hc
   rw [List.drop_eq_nil_of_le (by omega), headsL] at hR
   subst hR
   conv => whnf
   repeat ((first | (refine aI ?_ ?_; focus exact sI) | refine dI sK ?_ | (refine yI ?_ ?_; focus exact sY) | (refine nI ?_ ?_; focus exact sY)); conv => whnf)
   all_goals exact sR
end Go.Tr
/- What the program's map holds is what the reference's list holds. -/
namespace Go.Tr
open Go.Proofs
theorem putI_mem : ∀ (l : List Int) (n x : Int), x ∈ putI l n ↔ x = n ∨ x ∈ l
 | [], n, x => by simp [putI]
 | y :: r, n, x => by
  have ih := putI_mem r n x
  unfold putI
  split
  ·rw [List.mem_cons, ih, List.mem_cons]
   constructor
   ·rintro (h | h | h)
    ·exact .inr (.inl h)
    ·exact .inl h
    ·exact .inr (.inr h)
   ·rintro (h | h | h)
    ·exact .inr (.inl h)
    ·exact .inl h
    ·exact .inr (.inr h)
  ·split
   ·rename_i h
    have h' : y = n := of_decide_eq_true h
    subst h'
    simp
   ·simp
theorem putI_sorted : ∀ (l : List Int) (n : Int), l.Pairwise (· < ·) → (putI l n).Pairwise (· < ·)
 | [], n, _ => by simp [putI]
 | y :: r, n, h => by
  obtain ⟨h1, h2⟩ := List.pairwise_cons.1 h
  have ih := putI_sorted r n h2
  unfold putI
  split
  ·rename_i hd
   have hd' : y < n := of_decide_eq_true hd
   refine List.pairwise_cons.2 ⟨fun x hx => ?_, ih⟩
   rcases (putI_mem r n x).1 hx with rfl | hx
   ·exact hd'
   ·exact h1 x hx
  ·rename_i hd
   have hd' : ¬ y < n := of_decide_eq_false hd
   split
   ·exact h
   ·rename_i he
    have he' : ¬ y = n := of_decide_eq_false he
    refine List.pairwise_cons.2 ⟨fun x hx => ?_, h⟩
    rcases List.mem_cons.1 hx with rfl | hx
    ·omega
    ·have := h1 x hx
     omega
def hdStep (hd : Int) (L : List Int) (t : Term) (i : Int) : List Int := match decide (t.k = 4) && decide (t.l = hd) with
 | true => (match !decide (hd = 1) with | true => putI L t.n | false => (match decide (i ≤ t.n) with | true => putI L (t.n - i) | false => L))
 | false => L
mutual
theorem headsT_each (hd : Int) : ∀ (t : Term) (i : Int) (L : List Int), headsT hd t i L = eachT (hdStep hd) t i L
 | .mk k l n ts, i, L => by
  rw [headsT, eachT]
  exact headsL_each hd k i ts 0 _
theorem headsL_each (hd k i : Int) : ∀ (ts : List Term) (j : Int) (L : List Int), headsL hd k i j ts L = eachL (hdStep hd) k i j ts L
 | [], j, L => by rw [headsL, eachL]
 | t :: r, j, L => by rw [headsL, eachL, headsT_each hd t, headsL_each hd k i r]
end
mutual
theorem eachT_rel {σ τ : Type} (R : σ → τ → Prop) (f : σ → Term → Int → σ) (g : τ → Term → Int → τ) (ok : Term → Int → Prop) (hok : ∀ t i, ok t i → ∀ (j : Nat) u, t.ts[j]? = some u → ok u (i + unT t.k j))
  (h : ∀ s r t i, ok t i → R s r → R (f s t i) (g r t i)) : ∀ (t : Term) (i : Int) (s : σ) (r : τ), ok t i → R s r → R (eachT f t i s) (eachT g t i r)
 | .mk k l n ts, i, s, r, ho, hr => by
  rw [eachT, eachT]
  exact eachL_rel R f g ok hok h k i ts 0 _ _ (fun j u hu => by have := hok _ i ho j u hu; simpa [Term.k] using this) (h s r _ i ho hr)
theorem eachL_rel {σ τ : Type} (R : σ → τ → Prop) (f : σ → Term → Int → σ) (g : τ → Term → Int → τ) (ok : Term → Int → Prop) (hok : ∀ t i, ok t i → ∀ (j : Nat) u, t.ts[j]? = some u → ok u (i + unT t.k j))
  (h : ∀ s r t i, ok t i → R s r → R (f s t i) (g r t i)) (k i : Int) : ∀ (ts : List Term) (q : Nat) (s : σ) (r : τ), (∀ (j : Nat) u, ts[j]? = some u → ok u (i + unT k ((q + j : Nat) : Int))) → R s r → R (eachL f k i q ts s) (eachL g k i q ts r)
 | [], q, s, r, _, hr => by rw [eachL, eachL]; exact hr
 | t :: ts, q, s, r, ho, hr => by
  rw [eachL, eachL]
  have h0 := eachT_rel R f g ok hok h t (i + unT k q) s r (by have := ho 0 t rfl; simpa using this) hr
  exact eachL_rel R f g ok hok h k i ts (q + 1) _ _ (fun j u hu => by
   have := ho (j + 1) u (by simpa using hu)
   rwa [show q + 1 + j = q + (j + 1) by omega]) h0
end
def fbIs (hd : Int) (t : Term) (i : Int) : Bool := bif decide (hd = 1) then frIs t i else hdIs hd t i
def fbNum (hd : Int) (t : Term) (i : Int) : Int := bif decide (hd = 1) then frNum t i else hdNum t i
def RelFL (F : KV → Option Bool) (L : List Int) : Prop := L.Pairwise (· < ·) ∧ (∀ x, F (.i x) ≠ none ↔ x ∈ L) ∧ ∀ x ∈ L, -2000000000 ≤ x ∧ x ≤ 2000000000
theorem rel_put {F : KV → Option Bool} {L : List Int} (h : RelFL F L) {n : Int} (hn : -2000000000 ≤ n ∧ n ≤ 2000000000) : RelFL (mput F (.i n) true) (putI L n) := by
 refine ⟨putI_sorted _ _ h.1, fun x => ?_, fun x hx => ?_⟩
 ·rw [putI_mem, ← h.2.1]
  unfold mput
  by_cases e : x = n
  ·subst e; simp
  ·rw [if_neg (by intro h; injection h with h; exact e h)]
   simp [e]
 ·rcases (putI_mem _ _ _).1 hx with rfl | hx
  ·exact hn
  ·exact h.2.2 x hx
theorem rel_step (hd : Int) (F : KV → Option Bool) (L : List Int) (t : Term) (i : Int) (ho : okT t i) (h : RelFL F L) : RelFL (nmStep (fbNum hd) (fbIs hd) F t i) (hdStep hd L t i) := by
 have hn := bnT_n ho.1
 have hi := (okT_step t i ho).1
 unfold nmStep hdStep fbIs fbNum frIs frNum hdIs hdNum
 by_cases h1 : t.k = 4
 ·by_cases h2 : t.l = hd
  ·by_cases h3 : hd = 1
   ·subst h3
    by_cases h4 : i ≤ t.n
    ·simp only [h1, h2, h4, decide_true, Bool.and_self, Bool.not_true, cond_true, and_self, if_true]
     exact rel_put h (by omega)
    ·simp only [h1, h2, h4, decide_true, decide_false, Bool.and_self, Bool.and_false, Bool.not_true, cond_true, Bool.false_eq_true, and_false, if_false]
     exact h
   ·simp only [h1, h2, h3, decide_true, decide_false, Bool.and_self, Bool.not_false, cond_false, and_self, if_true]
    exact rel_put h (by omega)
  ·by_cases h3 : hd = 1
   ·subst h3
    simp only [h1, h2, decide_true, decide_false, Bool.false_and, Bool.and_false, cond_true, Bool.false_eq_true, and_false, if_false]
    exact h
   ·simp only [h1, h2, h3, decide_true, decide_false, Bool.and_false, cond_false, Bool.false_eq_true, and_false, if_false]
    exact h
 ·simp only [h1, decide_false, Bool.false_and, false_and, if_false]
  exact h
theorem rel_all (hd : Int) (t : Term) (h : okT t 0) : RelFL (numF (fbNum hd) (fbIs hd) t) (headsT hd t 0 []) := by
 rw [headsT_each]
 exact eachT_rel RelFL _ _ okT (fun t i h => (okT_step t i h).2) (fun s r t i ho hr => rel_step hd s r t i ho hr) t 0 _ _ h ⟨List.Pairwise.nil, fun x => by simp, fun x hx => by cases hx⟩
def conF (hd : Int) (t : Term) : List Int := match prop t with | true => headsT hd t 0 [] | false => []
theorem rprop_iff' (t : Term) : rprop t = (decide (szT t ≤ 600) && fmT t 1) := by
 unfold rprop
 congr 1
 have hs := ndT_sz t 600 (by omega)
 refine decide_eq_decide.2 ⟨fun h => ?_, fun h => by rw [hs.1 h]; exact h⟩
 rcases Int.lt_or_le 600 (szT t) with h2 | h2
 ·have := hs.2 h2; omega
 ·exact h2
theorem prop_sz {t : Term} (h : prop t = true) : szT t ≤ 600 := by
 rw [prop_rprop, rprop_iff'] at h
 simp only [Bool.and_eq_true, decide_eq_true_eq] at h
 exact h.1
theorem conF_len (hd : Int) (t : Term) : (conF hd t).length ≤ 1000000 := by
 unfold conF
 split
 ·rename_i h
  have h1 := headsT_len hd t 0 []
  have h2 := prop_sz h
  simp only [List.length_nil] at h1
  omega
 ·simp
theorem numbers_of (g : FuncId) (hd : Int) (hg : ∀ t i, okT t i → CallSt Tryz.prog g [tv t, .c (.int .i64 i)] [] (fun r H' => r = .tup [.c (.int .i64 (fbNum hd t i)), .c (.bool (fbIs hd t i))] ∧ H' = [])) (t : Term) :
  CallSt Tryz.prog 101 [tv t, .fn g []] [] (fun r H' => r = .tup [.c (.sl 1 8 (rowI (conF hd t))), .c (.int .i64 (if prop t then 0 else 2))] ∧ H' = []) := by
 have hlen := conF_len hd t
 have key : (conF hd t).Pairwise (· < ·) ∧ (prop t = true → ∀ x, numF (fbNum hd) (fbIs hd) t (.i x) ≠ none ↔ x ∈ conF hd t) ∧ (∀ x ∈ conF hd t, inR x) ∧ (if prop t then conF hd t else []) = conF hd t := by
  unfold conF
  cases hp : prop t
  ·simp
  ·obtain ⟨h1, h2, h3⟩ := rel_all hd t (prop_ok hp)
   refine ⟨h1, fun _ => h2, fun x hx => ?_, by simp⟩
   have := h3 x hx
   exact ⟨by omega, by omega⟩
 have := cNumbers g (fbNum hd) (fbIs hd) hg t (conF hd t) key.1 key.2.1 key.2.2.1 hlen
 rwa [key.2.2.2] at this
end Go.Tr
/- formed: Each over two boxes; the plain facts. -/
namespace Go.Tr
open Go.Proofs
theorem cEach2 {σ : Type} (f : FuncId) (y : CV) (x : σ → Bool) (step : σ → Term → Int → σ) (ok : Term → Int → Prop) (hok : ∀ t i, ok t i → (0 ≤ i ∧ i ≤ 1000000000) ∧ ∀ (j : Nat) u, t.ts[j]? = some u → ok u (i + unT t.k j))
  (hf : ∀ s t i, ok t i → CallSt Tryz.prog f [tv t, .c (.int .i64 (i)), .ptr 0 0, .ptr 1 0] [.box [.c (.bool (x s))], .box [.c y]] (fun r H' => r = .tup [] ∧ H' = [.box [.c (.bool (x (step s t i)))], .box [.c y]])) (t : Term) :
  ∀ (i : Int) (s : σ), ok t i → CallSt Tryz.prog 113 [tv t, .c (.int .i64 (i)), .fn f [.ptr 0 0, .ptr 1 0]] [.box [.c (.bool (x s))], .box [.c y]] (fun r H' => r = .tup [] ∧ H' = [.box [.c (.bool (x (eachT step t i s)))], .box [.c y]]) := by
 induction t using Term.ind with
 | _ t ih =>
 intro i s hti
 have hff := hf s t i hti
 obtain ⟨hib, hch⟩ := hok t i hti
 obtain ⟨k, l, n, ts⟩ := t
 replace ih : ∀ u, u ∈ ts → _ := ih
 rw [tv_mk]
 refine call_pure (E := env 2) (fn := Tryz.f113) (c := bodyOf Tryz.f113) (env_ok 2) mixed sK sK sK sK sK sK rfl ?_
 conv => whnf
 try (refine dI sK ?_; conv => whnf)
 first | refine CallSt.use hff [0, 1] ⟨rfl, rfl, trivial⟩ (by decide) rfl ?_ | refine CallPt.useS hff [0, 1] ⟨rfl, rfl, trivial⟩ (by decide) rfl ?_
 rintro _ _ ⟨rfl, rfl⟩ _
 conv => whnf
 intro hlen
 replace hlen : (tcs ts).length * 48 ≤ 140737488355328 := hlen
 rw [len_tcs] at hlen
 conv => whnf
 refine loop_intro (fun m tm H => ∃ (j : Nat) (s' : σ), ts.length = m + j ∧ eachL step k i j (ts.drop j) s' = eachT step (.mk k l n ts) i s ∧
   tm = [(15, .c (.int .i64 (j))), (13, .c (.sl 4 48 (tcs ts))), (14, .c (.int .i64 ((tcs ts).length))), (1, .c (.int .i64 (i))), (2, .fn f [.ptr 0 0, .ptr 1 0]), (3, .ptr 2 0)] ∧
   H = [.box [.c (.bool (x s'))], .box [.c y], .box [.c (.int .i64 (k)), .c (.int .i64 (l)), .c (.int .i64 (n)), .c (.sl 4 48 (tcs ts))]])
   ts.length _ _ ⟨0, _, by omega, rfl, rfl, rfl⟩ (Wk.sl [0, 1, 2] rfl ⟨rfl, rfl, rfl, trivial⟩ ⟨rfl, rfl, rfl, rfl, rfl, rfl, trivial⟩ rfl) ?_
 rintro m tm H ⟨j, s', hj, hR, rfl, rfl⟩
 conv => whnf
 refine ⟨fun hc => ?_, fun hc => ?_⟩
 ·replace hc : (j : Int) < (tcs ts).length := of_decide_eq_true hc
  rw [len_tcs] at hc
  have hlt : j < ts.length := by omega
  obtain ⟨u, hu⟩ : ∃ u, ts[j]? = some u := ⟨ts[j], List.getElem?_eq_getElem hlt⟩
  have hm := List.mem_of_getElem? hu
  have huc := tcs_at ts j u hu
  have hcc := ih u hm (i + unT k j) s' (hch j u hu)
  have hun := c77 (.mk k l n ts) j
  have hub := unT_bd k j
  rw [drop_at hu, eachL] at hR
  obtain ⟨k', l', n', us⟩ := u
  conv => whnf
  refine ⟨_, ⟨by omega, by simpa using huc⟩, ?_⟩
  conv => whnf
  refine ⟨Nat.le_refl 4, ?_⟩
  conv => whnf
  try (refine dI sK ?_; conv => whnf)
  first | refine u0 hun ?_ | refine v0 hun ?_
  rintro _ _ ⟨rfl, rfl⟩ _
  conv => whnf
  refine ⟨⟨by simp only [Term.k]; omega, by simp only [Term.k]; omega⟩, ?_⟩
  conv => whnf
  try (refine dI sK ?_; conv => whnf)
  first | refine CallSt.use hcc [0, 1] ⟨rfl, rfl, trivial⟩ (by decide) rfl ?_ | refine CallPt.useS hcc [0, 1] ⟨rfl, rfl, trivial⟩ (by decide) rfl ?_
  rintro _ _ ⟨rfl, rfl⟩ _
  conv => whnf
  refine ⟨⟨by omega, by omega⟩, ?_⟩
  conv => whnf
  refine ⟨m - 1, _, _, by omega, ⟨j + 1, _, by omega, hR, rfl, rfl⟩, Wk.sl [0, 1, 2] rfl ⟨rfl, rfl, rfl, trivial⟩ ⟨rfl, rfl, rfl, rfl, rfl, rfl, trivial⟩ rfl⟩
 ·replace hc : ¬ (j : Int) < (tcs ts).length := of_decide_eq_false hc
  rw [len_tcs] at hc
  conv => whnf
  refine ⟨rfl, ?_⟩
  conv => whnf
  refine ⟨rfl, ?_⟩
  rw [List.drop_eq_nil_of_le (by omega), eachL] at hR
  rw [← hR]
  exact ⟨rfl, rfl⟩
mutual
def nodesT (m : Int) : Term → Int → Bool
 | .mk k l n ts, i => (!decide (k = 4) || nodeOk m (.mk k l n ts) i) && nodesL m k i 0 ts
def nodesL (m k i : Int) : Int → List Term → Bool
 | _, [] => true
 | j, t :: r => nodesT m t (i + unT k j) && nodesL m k i (j + 1) r
end
mutual
theorem nodesT_each (m : Int) : ∀ (t : Term) (i : Int) (b : Bool), eachT (fmStep m) t i b = (b && nodesT m t i)
 | .mk k l n ts, i, b => by
  rw [eachT, nodesT, nodesL_each m k i ts 0, ← Bool.and_assoc]
  congr 1
  by_cases h : k = 4
  ·simp [fmStep, Term.k, h]
  ·simp [fmStep, Term.k, h]
theorem nodesL_each (m k i : Int) : ∀ (ts : List Term) (j : Int) (b : Bool), eachL (fmStep m) k i j ts b = (b && nodesL m k i j ts)
 | [], j, b => by rw [eachL, nodesL, Bool.and_true]
 | t :: r, j, b => by rw [eachL, nodesL, nodesT_each m t, nodesL_each m k i r, Bool.and_assoc]
end
theorem nodesL_mem (m k i : Int) : ∀ (ts : List Term) (j : Int), nodesL m k i j ts = true → ∀ t ∈ ts, ∃ q, nodesT m t q = true
 | [], j, _, t, ht => by cases ht
 | u :: r, j, h, t, ht => by
  rw [nodesL, Bool.and_eq_true] at h
  rcases List.mem_cons.1 ht with rfl | ht
  ·exact ⟨_, h.1⟩
  ·exact nodesL_mem m k i r (j + 1) h.2 t ht
theorem nodes_dom (m : Int) : ∀ (c : Nat) (t : Term) (i : Int), SizeOf.sizeOf t ≤ c → nodesT m t i = true → ∃ q, nodesT m (domT t).2 q = true
 | 0, t, i, hc, _ => by cases t; simp at hc
 | c + 1, t, i, hc, h => by
  by_cases hk : t.k = 2
  ·obtain ⟨k, l, n, ts⟩ := t
   simp only [Term.k] at hk
   subst hk
   rcases ts with _ | ⟨a, _ | ⟨b, r⟩⟩
   ·rw [show domT (.mk 2 l n []) = ([], .mk 2 l n []) by rw [domT]; try simp]
    exact ⟨i, h⟩
   ·rw [show domT (.mk 2 l n [a]) = ([], .mk 2 l n [a]) by rw [domT]; try simp]
    exact ⟨i, h⟩
   ·rw [domT_pi]
    rw [nodesT, Bool.and_eq_true] at h
    obtain ⟨q, hq⟩ := nodesL_mem m 2 i _ 0 h.2 b (by simp)
    exact nodes_dom m c b q (by simp at hc; omega) hq
  ·rw [domT_no hk]
   exact ⟨i, h⟩
theorem nodes_targ {m : Int} {t : Term} (h : nodesT m t 0 = true) (ht : targOk t = true) : (domT t).2.n < m := by
 obtain ⟨q, hq⟩ := nodes_dom m _ t 0 (Nat.le_refl _) h
 unfold targOk at ht
 generalize (domT t).2 = u at *
 obtain ⟨k, l, n, ts⟩ := u
 rw [Bool.and_eq_true] at ht
 have h4 : k = 4 := of_decide_eq_true ht.1
 have h2 : l = 2 := of_decide_eq_true ht.2
 subst h4 h2
 change n < m
 rw [nodesT] at hq
 simp [nodeOk, Term.l, Term.n] at hq
 exact of_decide_eq_true hq.1
end Go.Tr
