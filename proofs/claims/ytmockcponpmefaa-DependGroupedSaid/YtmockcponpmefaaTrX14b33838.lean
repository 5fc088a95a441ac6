/- What each function computes, and the plain laws of it. -/
import Derived.WalkKit
import Derived.ProofKit
import Derived.OpenShut
import Derived.ShutString
import Derived.ChangeOld
import Derived.ChangeMaps5
import Derived.Below
import Derived.SizedLaws
import Derived.Test.YtmockcponpmefaaChecked
import Derived.Test.YtmockcponpmefaaRows
import Derived.Shelf.SlIterI.Nil
import Derived.Shelf.SortM.Plain
import Derived.Shelf.SortM.SortNone
import Derived.Test.YtmockcponpmefaaTrXa7a12ae2
set_option linter.unusedVariables false
set_option linter.unusedSimpArgs false
set_option linter.unnecessarySimpa false
set_option linter.constructorNameAsVariable false
set_option autoImplicit false
/- What is handed in, read as cells: generic. -/
namespace Go.Tr
open Go.ChangeShapes Go.WideShapes Go.ChangeAt Go.RowKit
def noS : Nat → Prop := fun _ => False
theorem choose_list {α : Type} {R : Nat → α → Prop} : ∀ (n : Nat), (∀ i, i < n → ∃ t, R i t) → ∃ ts : List α, ts.length = n ∧ ∀ (i : Nat) t, ts[i]? = some t → R i t
  | 0, _ => ⟨[], rfl, fun i t h => by simp at h⟩
  | n + 1, h => by
    obtain ⟨ts, h1, h2⟩ := choose_list n fun i hi => h i (by omega)
    obtain ⟨t, ht⟩ := h n (by omega)
    refine ⟨ts ++ [t], by simp [h1], fun i u hu => ?_⟩
    rcases Nat.lt_or_ge i ts.length with hi | hi
    · rw [List.getElem?_append_left hi] at hu
      exact h2 i u hu
    · rw [List.getElem?_append_right hi] at hu
      have : i - ts.length = 0 := by
        have := (List.getElem?_eq_some_iff.1 hu).1
        simp at this
        omega
      rw [this] at hu
      simp at hu
      subst hu
      have : i = n := by omega
      subst this
      exact ht
theorem spot_of {w : World} {a : Addr} {v : Value} (h : w.cell? a = some v) : a.spot = none ∧ cellAt w.heap a.block a.off = some v := by
  obtain ⟨B, off, sp⟩ := a
  unfold World.cell? at h
  cases sp with
  | none =>
    refine ⟨rfl, ?_⟩
    simp only [Option.isSome_none, Bool.false_eq_true, if_false] at h
    unfold cellAt
    simp only
    split at h <;> simp_all
  | some q =>
    simp only [Option.isSome_some, if_true] at h
    split at h <;> cases h
theorem add_spot {a : Addr} (h : a.spot = none) (i : Nat) : a.add i = ⟨a.block, a.off + i, none⟩ := by
  obtain ⟨B, off, sp⟩ := a
  simp only at h
  subst h
  exact Addr.add_lit ..
theorem rows_of' {h : Array Obj} {B sz : Nat} : ∀ (es : List (List CV)) (off : Nat), (∀ e ∈ es, e.length = sz) → (∀ (i : Nat) e, es[i]? = some e → ∃ cs, CellsV h noS e cs ∧ ∀ j v, cs[j]? = some v → cellAt h B (off + i * sz + j) = some v) → RowsR h noS es B off
  | [], off, _, _ => by simp [RowsR]
  | t :: r, off, hl, hx => by
    simp only [RowsR]
    obtain ⟨cs, h1, h2⟩ := hx 0 t (by simp)
    refine ⟨CellsR_of h1 (fun h => h) (fun j v hv => by simpa using h2 j v hv), ?_⟩
    rw [hl t (by simp)]
    refine rows_of' r (off + sz) (fun e he => hl e (List.mem_cons_of_mem _ he)) fun i u hu => ?_
    obtain ⟨cs, h1, h2⟩ := hx (i + 1) u (by simpa using hu)
    exact ⟨cs, h1, fun j v hv => by rw [show off + sz + i * sz + j = off + (i + 1) * sz + j by rw [Nat.add_mul]; omega]; exact h2 j v hv⟩
theorem weights_mem {H : Type} {P : Program} {e : TypeId} : ∀ {l : List (DataW H)} {d : DataW H}, d ∈ l → ∀ n ∈ d.weights P e, n ∈ DataW.weightsAll P e l
  | [], d, h, _, _ => by cases h
  | x :: r, d, h, n, hn => by
    simp only [DataW.weightsAll, List.mem_append]
    rcases List.mem_cons.1 h with rfl | h
    · exact .inl hn
    · exact .inr (weights_mem h n hn)
theorem weightsEach_mem {H : Type} {P : Program} : ∀ {ts : List TypeId} {l : List (DataW H)} {i : Nat} {t : TypeId} {d : DataW H}, ts[i]? = some t → l[i]? = some d → ∀ n ∈ d.weights P t, n ∈ DataW.weightsEach P ts l
  | [], _, i, t, d, h, _, _, _ => by simp at h
  | _ :: _, [], i, t, d, _, h, _, _ => by simp at h
  | t' :: ts, d' :: l, 0, t, d, h1, h2, n, hn => by
    simp at h1 h2
    subst h1 h2
    simp only [DataW.weightsEach, List.mem_append]
    exact .inl hn
  | t' :: ts, d' :: l, i + 1, t, d, h1, h2, n, hn => by
    simp only [DataW.weightsEach, List.mem_append]
    exact .inr (weightsEach_mem (i := i) (by simpa using h1) (by simpa using h2) n hn)
theorem weights_slice {H : Type} {P : Program} {t e : TypeId} (ht : P.underlying t = some (.slice e)) (el sp : List (DataW H)) : (DataW.slice el sp).weights P t = (el.length + sp.length) * P.bytesOf e :: (DataW.weightsAll P e el ++ DataW.weightsAll P e sp) := by
  rw [DataW.weights, ht]
theorem weights_struct {H : Type} {P : Program} {t : TypeId} {fs : Array Field} (ht : P.underlying t = some (.struct fs)) (ps : List (DataW H)) : (DataW.agg ps).weights P t = DataW.weightsEach P (fs.toList.map (·.type)) ps := by
  rw [DataW.weights, ht]
theorem cvr_int {h : Array Obj} {S : Nat → Prop} {k : IntKind} {n : Int} : CVR h S (.int k n) (.int k n) := by unfold CVR; rfl
theorem cvr_bool {h : Array Obj} {S : Nat → Prop} {b : Bool} : CVR h S (.bool b) (.bool b) := by unfold CVR; rfl
theorem cvr_str {h : Array Obj} {S : Nat → Prop} {s : ByteArray} : CVR h S (.str s) (.string s) := by unfold CVR; rfl
theorem cv_nil {h : Array Obj} {S : Nat → Prop} : CellsV h S [] [] := by unfold CellsV; rfl
theorem cv_one {h : Array Obj} {S : Nat → Prop} {x : CV} {v : Value} (hx : CVR h S x v) : CellsV h S [x] [v] := by unfold CellsV; exact ⟨v, [], rfl, hx, cv_nil⟩
theorem cv_app {h : Array Obj} {S : Nat → Prop} : ∀ {xs ys : List CV} {vs us : List Value}, CellsV h S xs vs → CellsV h S ys us → CellsV h S (xs ++ ys) (vs ++ us)
  | [], ys, vs, us, h1, h2 => by simp only [CellsV] at h1; subst h1; exact h2
  | x :: xs, ys, vs, us, h1, h2 => by
    simp only [CellsV] at h1
    obtain ⟨v, r, rfl, h3, h4⟩ := h1
    simp only [List.cons_append, CellsV]
    exact ⟨v, _, rfl, h3, cv_app h4 h2⟩
def ShL (R : TypeId → List CV → Prop) : List TypeId → List CV → Prop
  | [], xs => xs = []
  | T :: Ts, xs => ∃ ys zs, xs = ys ++ zs ∧ R T ys ∧ ShL R Ts zs
def Sh (ty : TypeId → TyD) : Nat → TypeId → List CV → Prop
  | 0, _, _ => False
  | n + 1, T, xs => match (ty T).k with
    | .int k => ∃ z, xs = [.int k z] ∧ (Lit.int k z).wf = true
    | .bool => ∃ b, xs = [.bool b]
    | .str => ∃ s : ByteArray, xs = [.str s] ∧ s.size ≤ maxLen
    | .slice e => ∃ es, xs = [.sl (ty e).size (ty e).bytes es] ∧ es.length * (ty e).bytes ≤ 140737488351232 ∧ ∀ r ∈ es, Sh ty n e r
    | .struct fs => ShL (Sh ty n) (fs.map (·.2)) xs
    | _ => False
def contB (ty : TypeId → TyD) : Nat → List (Nat × TypeId) → Nat → Bool
  | o, [], n => decide (o = n)
  | o, (o', T) :: r, n => decide (o = o') && contB ty (o + (ty T).size) r n
def cl1 (ty : TypeId → TyD) (L : List TypeId) (T : TypeId) : Bool :=
  match (ty T).k with
    | .int _ => decide ((ty T).size = 1)
    | .bool => decide ((ty T).size = 1)
    | .str => decide ((ty T).size = 1)
    | .slice e => decide ((ty T).size = 1) && L.contains e && decide ((ty e).size ≠ 0)
    | .struct fs => contB ty 0 fs (ty T).size && fs.all (fun f => L.contains f.2)
    | _ => false
theorem cellsOf_ty {P : Program} {T : TypeId} {d : TyD} (h : TyR P T d) : P.cellsOf T = d.size := by
  obtain ⟨i, z, h1, h2, _⟩ := h.info
  unfold Program.cellsOf
  rw [h1]
  exact h2
theorem bytesOf_ty {P : Program} {T : TypeId} {d : TyD} (h : TyR P T d) : P.bytesOf T = d.bytes := by
  obtain ⟨i, z, h1, _, h3, _⟩ := h.info
  unfold Program.bytesOf
  rw [h1]
  exact h3
section
variable {H : Type} {enc : TypeId × Value → H} {P : Program} {E : Env} {W : World} {L : List TypeId}
theorem open_flds (he : EnvOk P E) {W : World} {n : Nat} {ys : List (DataW H × List MemPlace)} {R : TypeId → List CV → Prop} : ∀ (fs : List (Nat × TypeId)) (i o tot : Nat) (cs : List Value), contB E.ty o fs tot = true → cs.length = tot →
    (∀ (j : Nat) f, fs[j]? = some f → (match (E.ty f.2).k with | .unknown => False | _ => True) ∧ ∃ y, ys[i + j]? = some y ∧ DataW.trod enc P W 0 (fun _ => true) true n f.2 ((cs.drop f.1).take (P.cellsOf f.2)) = some y ∧
      ∀ us, DataW.trod enc P W 0 (fun _ => true) true n f.2 us = some y → ∃ xs, R f.2 xs ∧ CellsV W.heap noS xs us) →
    ∃ xs, ShL R (fs.map (·.2)) xs ∧ CellsV W.heap noS xs (cs.drop o)
  | [], i, o, tot, cs, hc, hl, _ => by
    simp only [contB, decide_eq_true_eq] at hc
    exact ⟨[], rfl, by rw [List.drop_eq_nil_of_le (by omega)]; exact cv_nil⟩
  | f :: r, i, o, tot, cs, hc, hl, hx => by
    obtain ⟨o', T⟩ := f
    simp only [contB, Bool.and_eq_true, decide_eq_true_eq] at hc
    obtain ⟨rfl, hc⟩ := hc
    obtain ⟨hk, y, h1, h2, h3⟩ := hx 0 (o, T) (by simp)
    obtain ⟨xs, h4, h5⟩ := h3 _ h2
    obtain ⟨zs, h6, h7⟩ := open_flds he (R := R) r (i + 1) (o + (E.ty T).size) tot cs hc hl fun j f hf => by
      have := hx (j + 1) f (by simpa using hf)
      rwa [show i + 1 + j = i + (j + 1) by omega]
    refine ⟨xs ++ zs, ⟨xs, zs, rfl, h4, h6⟩, ?_⟩
    have hs : cs.drop o = (cs.drop o).take (E.ty T).size ++ cs.drop (o + (E.ty T).size) := by
      rw [← List.drop_drop, List.take_append_drop]
    rw [hs]
    rw [cellsOf_ty (he T hk)] at h5
    exact cv_app h5 h7
theorem open_cv (he : EnvOk P E) (hcl : L.all (cl1 E.ty L) = true) : ∀ (fuel : Nat) {T : TypeId} {cs : List Value} {x : DataW H × List MemPlace}, T ∈ L → DataW.trod enc P W 0 (fun _ => true) true fuel T cs = some x →
    (∀ n ∈ x.1.weights P T, n ≤ reachBytes) → ∃ xs, Sh E.ty fuel T xs ∧ CellsV W.heap noS xs cs ∧ cs.length = (E.ty T).size := by
  intro fuel
  induction fuel using Nat.strongRecOn with
  | _ fuel ih =>
  intro T cs x hT h hw
  have hc := List.all_eq_true.1 hcl T hT
  unfold cl1 at hc
  have hty := he T
  obtain ⟨m, rfl⟩ : ∃ m, fuel = m + 1 := by
    cases fuel with
    | zero => simp [DataW.trod] at h
    | succ m => exact ⟨m, rfl⟩
  simp only [Sh]
  have hund := fun q => (hty q).und
  cases hk : (E.ty T).k with
  | int k =>
    simp only [hk, decide_eq_true_eq] at hc hund
    obtain ⟨z, rfl, rfl, hz⟩ := DataW.trod_int (hund trivial) h
    exact ⟨[.int k z], ⟨z, rfl, hz⟩, cv_one cvr_int, by rw [hc]; rfl⟩
  | bool =>
    simp only [hk, decide_eq_true_eq] at hc hund
    obtain ⟨z, rfl, rfl⟩ := DataW.trod_bool (hund trivial) h
    exact ⟨[.bool z], ⟨z, rfl⟩, cv_one cvr_bool, by rw [hc]; rfl⟩
  | str =>
    simp only [hk, decide_eq_true_eq] at hc hund
    obtain ⟨z, rfl, rfl, hz⟩ := DataW.trod_string (hund trivial) h
    exact ⟨[.str z], ⟨z, rfl, hz⟩, cv_one cvr_str, by rw [hc]; rfl⟩
  | slice e =>
    simp only [hk, Bool.and_eq_true, decide_eq_true_eq] at hc hund
    obtain ⟨⟨hsz, hLe⟩, hez⟩ := hc
    have hLe' : e ∈ L := by simpa using hLe
    have hce := List.all_eq_true.1 hcl e hLe'
    have htye : TyR P e (E.ty e) := he e (by
      unfold cl1 at hce
      split <;> simp_all)
    have ce := cellsOf_ty htye
    have be := bytesOf_ty htye
    have fin : ∀ (es : List (List CV)) v, CVR W.heap noS (.sl (E.ty e).size (E.ty e).bytes es) v → es.length * (E.ty e).bytes ≤ 140737488351232 → (∀ r ∈ es, Sh E.ty m e r) →
        ∃ xs, (∃ es, xs = [.sl (E.ty e).size (E.ty e).bytes es] ∧ es.length * (E.ty e).bytes ≤ 140737488351232 ∧ ∀ r ∈ es, Sh E.ty m e r) ∧ CellsV W.heap noS xs [v] ∧ [v].length = (E.ty T).size :=
      fun es v h1 h2 h3 => ⟨_, ⟨es, rfl, h2, h3⟩, cv_one h1, by rw [hsz]; rfl⟩
    rcases DataW.trod_slice (hund trivial) h with ⟨rfl, rfl⟩ | ⟨a, len, cap, elems, rest, n', hn, rfl, rfl, _, hlc, _, hel, hat2, _, _⟩
    · refine fin [] _ ?_ (by simp) (fun r hr => by cases hr)
      unfold CVR
      exact ⟨none, 0, 0, rfl, rfl, Nat.le_refl _, (by simp), fun e he => absurd he List.not_mem_nil, fun _ => ⟨rfl, rfl⟩, fun ad h => (by cases h)⟩
    · obtain rfl : m = n' := by omega
      rw [weights_slice (hund trivial)] at hw
      have hb : ((elems.map (·.1)).length + (rest.map (·.1)).length) * P.bytesOf e ≤ reachBytes := hw _ (List.mem_cons.2 (.inl rfl))
      rw [be, List.length_map, List.length_map, hel] at hb
      have hb2 : len * (E.ty e).bytes ≤ 140737488351232 := by
        have h9 : reachBytes = 140737488351232 := by decide
        have : len * (E.ty e).bytes ≤ (len + rest.length) * (E.ty e).bytes := Nat.mul_le_mul_right _ (by omega)
        omega
      obtain ⟨es, ht1, ht2⟩ := choose_list (R := fun i r => ∃ cs, W.cells? 0 (a.add (i * (E.ty e).size)) (E.ty e).size = some cs ∧ CellsV W.heap noS r cs ∧ Sh E.ty m e r ∧ r.length = (E.ty e).size) len fun i hi => by
        have h4 := hat2 i hi
        rw [ce] at h4
        have hil : i < elems.length := by omega
        rw [List.getElem?_eq_getElem hil, Option.bind_eq_some_iff] at h4
        obtain ⟨cs, h5, h6⟩ := h4
        obtain ⟨r, hr1, hr2, hr3⟩ := ih m (by omega) hLe' h6 (fun q hq => hw q (List.mem_cons_of_mem _ (List.mem_append.2 (.inl (weights_mem (d := elems[i].1) (List.mem_map.2 ⟨_, List.getElem_mem hil, rfl⟩) q hq)))))
        exact ⟨r, cs, h5, hr2, hr1, by rw [← hr2.len, hr3]⟩
      have hsizes : ∀ r ∈ es, r.length = (E.ty e).size := fun r hr => by
        obtain ⟨i, hi⟩ := List.mem_iff_getElem?.1 hr
        obtain ⟨_, _, _, _, h⟩ := ht2 i r hi
        exact h
      refine fin es _ ?_ (by rw [ht1]; exact hb2) (fun r hr => ?_)
      · unfold CVR
        refine ⟨some a, len, cap, rfl, ht1.symm, hlc, by rw [ht1]; omega, hsizes, fun h => (by cases h), fun ad had => ?_⟩
        injection had with had
        subst had
        by_cases hz2 : es = []
        · exact .inl hz2
        · right
          have key : ∀ (i : Nat) t, es[i]? = some t → ∃ cs, CellsV W.heap noS t cs ∧ ∀ j v, cs[j]? = some v → W.cell? ((a.add (i * (E.ty e).size)).add j) = some v := fun i t hi => by
            obtain ⟨cs, h5, h6, _⟩ := ht2 i t hi
            obtain ⟨_, h7, h8⟩ := World.cells?_some h5
            exact ⟨cs, h6, fun j v hv => by rw [h8 j (by have := (List.getElem?_eq_some_iff.1 hv).1; omega)]; exact hv⟩
          have hsp : a.spot = none := by
            have h0 : 0 < es.length := List.length_pos_iff.2 hz2
            obtain ⟨cs, h5, h6⟩ := key 0 es[0] (by simp)
            have h7 := h5.len
            rw [hsizes _ (List.getElem_mem h0)] at h7
            have h8 := h6 0 (cs[0]'(by omega)) (List.getElem?_eq_getElem (by omega))
            simpa [Addr.add] using (spot_of h8).1
          refine ⟨hsp, rows_of' es a.off hsizes fun i t hi => ?_⟩
          obtain ⟨cs, h5, h6⟩ := key i t hi
          refine ⟨cs, h5, fun j v hv => ?_⟩
          have h7 := h6 j v hv
          rw [add_spot hsp, Addr.add_lit] at h7
          exact (spot_of h7).2
      · obtain ⟨i, hi⟩ := List.mem_iff_getElem?.1 hr
        obtain ⟨_, _, _, h, _⟩ := ht2 i r hi
        exact h
  | struct fs =>
    simp only [hk, Bool.and_eq_true] at hc hund
    obtain ⟨F, hF, hfs, hF2⟩ := hund trivial
    obtain ⟨ys, n, hn, rfl, hcl2, hyl, hat⟩ := DataW.trod_struct hF h
    obtain rfl : m = n := by omega
    have hsz := cellsOf_ty (hty (by rw [hk]; trivial))
    rw [weights_struct hF] at hw
    obtain ⟨xs, h1, h2⟩ := open_flds (enc := enc) (n := m) (ys := ys) (R := Sh E.ty m) he (W := W) fs 0 0 (E.ty T).size cs hc.1 (by rw [hcl2, hsz]) fun j f hf => by
      have hfL : f.2 ∈ L := by
        have := List.all_eq_true.1 hc.2 f (List.mem_of_getElem? hf)
        simpa using this
      have hcf := List.all_eq_true.1 hcl f.2 hfL
      have hkf : (match (E.ty f.2).k with | .unknown => False | _ => True) := by
        unfold cl1 at hcf
        split <;> simp_all
      rw [hfs, List.getElem?_map, Option.map_eq_some_iff] at hf
      obtain ⟨g, hg, rfl⟩ := hf
      have hg' : F[j]? = some g := by simpa using hg
      have hj : j < ys.length := by rw [hyl]; exact (Array.getElem?_eq_some_iff.1 hg').1
      refine ⟨hkf, ys[j], by simp, by rw [hat j g hg']; simp [hj], fun us hus => ?_⟩
      obtain ⟨xs, h1, h2, _⟩ := ih m (by omega) hfL hus fun q hq => hw q (weightsEach_mem (i := j) (t := g.type) (d := ys[j].1) (by rw [List.getElem?_map, hg]; rfl) (by rw [List.getElem?_map, List.getElem?_eq_getElem hj]; rfl) q hq)
      exact ⟨xs, h1, h2⟩
    exact ⟨xs, h1, by simpa using h2, by rw [hcl2, hsz]⟩
  | _ => simp [hk] at hc
def avOf (k : TK) (xs : List CV) : AV :=
  match k with
  | .struct _ => .agg (xs.map .c)
  | _ => match xs with | [x] => .c x | _ => .top
theorem avrs_cv {h : Array Obj} {S : Nat → Prop} {κ : Nat → Bind} : ∀ (xs : List CV) (vs : List Value), CellsV h S xs vs → AVRs h S κ (xs.map .c) vs
  | [], vs, hv => by simp only [CellsV] at hv; simpa only [List.map_nil, AVRs] using hv
  | x :: r, vs, hv => by
    simp only [CellsV] at hv
    obtain ⟨v, q, rfl, h1, h2⟩ := hv
    simp only [List.map_cons, AVRs, AVR]
    exact ⟨v, q, rfl, h1, avrs_cv r q h2⟩
theorem open_arg (he : EnvOk P E) (hcl : L.all (cl1 E.ty L) = true) {T : TypeId} {v : Value} {d : DataW H} {ps : List MemPlace} {base : Nat} (hT : T ∈ L) (hval : Value.okWide P W .any base T v) (h : DataW.Trod enc P W 0 (fun _ => true) true T v d ps)
    (hw : ∀ n ∈ d.weights P T, n ≤ reachBytes) : ∃ fuel xs, Sh E.ty fuel T xs ∧ AVR W.heap noS (fun _ => .none) (avOf (E.ty T).k xs) v := by
  obtain ⟨fuel, hf⟩ := h
  obtain ⟨xs, h1, h2, _⟩ := open_cv he hcl fuel hT hf hw
  refine ⟨fuel, xs, h1, ?_⟩
  have hc := List.all_eq_true.1 hcl T hT
  unfold cl1 at hc
  have hund := fun q => (he T q).und
  have one : ∀ u, v = u → v.cells.toList = [v] → ∀ y, xs = [y] → AVR W.heap noS (fun _ => .none) (.c y) v := by
    intro u hu hv y hy
    rw [hv, hy] at h2
    simp only [CellsV] at h2
    obtain ⟨v', r, h3, h4, h5⟩ := h2
    obtain rfl := (List.cons.inj h3).1
    simpa only [AVR] using h4
  cases fuel with
  | zero => simp only [Sh] at h1
  | succ m =>
  simp only [Sh] at h1
  cases hk : (E.ty T).k with
  | int k =>
    simp only [hk] at hund h1
    obtain ⟨n, rfl⟩ := okWide_int (hund trivial) hval
    obtain ⟨z, rfl, _⟩ := h1
    exact one _ rfl rfl _ rfl
  | bool =>
    simp only [hk] at hund h1
    obtain ⟨n, rfl⟩ := okWide_bool (hund trivial) hval
    obtain ⟨z, rfl⟩ := h1
    exact one _ rfl rfl _ rfl
  | str =>
    simp only [hk] at hund h1
    obtain ⟨n, rfl⟩ := okWide_string (hund trivial) hval
    obtain ⟨z, rfl, _⟩ := h1
    exact one _ rfl rfl _ rfl
  | slice e =>
    simp only [hk] at hund h1
    obtain ⟨a, b, c, rfl⟩ := okWide_slice (hund trivial) hval
    obtain ⟨z, rfl, _⟩ := h1
    exact one _ rfl rfl _ rfl
  | struct fs =>
    simp only [hk] at hund
    obtain ⟨F, hF, _, _⟩ := hund trivial
    unfold Value.okWide at hval
    rw [hF] at hval
    obtain ⟨cs, rfl, _⟩ := hval
    simp only [avOf, AVR]
    exact ⟨cs, rfl, avrs_cv xs _ h2⟩
  | _ => simp [hk] at hc
theorem below_of {w w' : World} {S S' O : Nat → Prop} (h : FrameR w S O w' S') (hO : ∀ B, ¬ O B) : Below w.heap.size w w' :=
  ⟨h.os, h.tape, h.output, h.size, fun k hk => h.keep k hk (hO k)⟩
theorem law_calls {f : FuncId} {args : List AV} {W : World} {vs : List Value} (h : CallSt P f args [] (fun r H' => r = .c (.bool true) ∧ H' = [])) (hv : AVRs W.heap noS (fun _ => .none) args vs) :
    Calls P f vs.toArray W fun e W' => e = .returned (.bool true) ∧ Below W.heap.size W W' := by
  unfold CallSt at h
  have hh : HR W.heap noS (fun _ => .none) [] := ⟨fun i e hi => by simp at hi, fun _ _ => rfl, fun i B hi => by simp [ownAt] at hi, fun i j B hi => by simp [ownAt] at hi, fun B hB => hB.elim⟩
  refine (h.2 W noS _ vs hh hv).mono ?_
  rintro e w' ⟨v, r, H', κ', S', rfl, ⟨rfl, rfl⟩, m, hr⟩
  simp only [AVR, CVR] at hr
  subst hr
  exact ⟨rfl, below_of m.fr fun B ⟨i, hi⟩ => by simp [ownAt] at hi⟩
end
section
variable {ty : TypeId → TyD} {n : Nat} {T : TypeId} {xs : List CV}
theorem sh_int {k : IntKind} (hk : (ty T).k = .int k) (h : Sh ty n T xs) : ∃ z, xs = [.int k z] ∧ (Lit.int k z).wf = true := by
  cases n with
  | zero => simp only [Sh] at h
  | succ m => simpa only [Sh, hk] using h
theorem sh_str (hk : (ty T).k = .str) (h : Sh ty n T xs) : ∃ s : ByteArray, xs = [.str s] ∧ s.size ≤ maxLen := by
  cases n with
  | zero => simp only [Sh] at h
  | succ m => simpa only [Sh, hk] using h
theorem sh_slice {e : TypeId} (hk : (ty T).k = .slice e) (h : Sh ty n T xs) : ∃ m es, n = m + 1 ∧ xs = [.sl (ty e).size (ty e).bytes es] ∧ es.length * (ty e).bytes ≤ 140737488351232 ∧ ∀ r ∈ es, Sh ty m e r := by
  cases n with
  | zero => simp only [Sh] at h
  | succ m =>
    simp only [Sh, hk] at h
    obtain ⟨es, h1, h2⟩ := h
    exact ⟨m, es, rfl, h1, h2⟩
theorem sh_struct {fs : List (Nat × TypeId)} (hk : (ty T).k = .struct fs) (h : Sh ty n T xs) : ∃ m, n = m + 1 ∧ ShL (Sh ty m) (fs.map (·.2)) xs := by
  cases n with
  | zero => simp only [Sh] at h
  | succ m =>
    simp only [Sh, hk] at h
    exact ⟨m, rfl, h⟩
theorem map_choose {α β : Type} {f : α → β} : ∀ (es : List β), (∀ r ∈ es, ∃ t, r = f t) → ∃ ts : List α, es = ts.map f
  | [], _ => ⟨[], rfl⟩
  | e :: r, h => by
    obtain ⟨t, rfl⟩ := h e (by simp)
    obtain ⟨ts, rfl⟩ := map_choose r fun x hx => h x (List.mem_cons_of_mem _ hx)
    exact ⟨t :: ts, rfl⟩
end
end Go.Tr
/- The seat's types; terms. -/
namespace Go.Tr
open Go.Proofs
def tab : List (Nat × TyD) := [
  (3, ⟨1, 8, .int .i64, [.int .i64 0], [3]⟩),
  (4, ⟨1, 1, .bool, [.bool false], [4]⟩),
  (49, ⟨4, 48, .struct [(0, 3), (1, 3), (2, 3), (3, 43)], [.int .i64 0, .int .i64 0, .int .i64 0, .slice none 0 0], [3, 3, 3, 43]⟩),
  (23, ⟨1, 8, .int .i64, [.int .i64 0], [23]⟩),
  (40, ⟨1, 8, .int .u64, [.int .u64 0], [40]⟩),
  (39, ⟨1, 24, .slice 3, [.slice none 0 0], [39]⟩),
  (66, ⟨6, 72, .struct [(0, 9), (1, 49), (5, 3)], [.string ⟨#[]⟩, .int .i64 0, .int .i64 0, .int .i64 0, .slice none 0 0, .int .i64 0], [9, 3, 3, 3, 43, 3]⟩),
  (22, ⟨1, 24, .slice 66, [.slice none 0 0], [22]⟩),
  (9, ⟨1, 16, .str, [.string ⟨#[]⟩], [9]⟩),
  (5, ⟨1, 1, .int .u8, [.int .u8 0], [5]⟩),
  (84, ⟨1, 8, .map 9 4, [.map none], [84]⟩),
  (101, ⟨1, 8, .map 3 4, [.map none], [101]⟩),
  (26, ⟨1, 24, .slice 39, [.slice none 0 0], [26]⟩),
  (34, ⟨1, 24, .slice 4, [.slice none 0 0], [34]⟩),
  (35, ⟨1, 24, .slice 34, [.slice none 0 0], [35]⟩),
  (98, ⟨1, 8, .other, [.nilFunc], [98]⟩),
  (81, ⟨1, 8, .other, [.nilFunc], [81]⟩),
  (82, ⟨1, 8, .other, [.nilFunc], [82]⟩),
  (60, ⟨1, 8, .other, [.pointer none], [60]⟩),
  (20, ⟨1, 16, .ifc, [.nilIface], [20]⟩),
  (43, ⟨1, 24, .slice 49, [.slice none 0 0], [43]⟩)]
def keep (f : FuncId) : Bool := false
def env (n : Nat) : Env := ⟨lkT tab, keep, n, false, false, none, fun _ _ => none⟩
theorem env_ok (n : Nat) : EnvOk Try.prog (env n) := EnvOk.of (l := tab) rfl (by kernel_rfl)
def envK (n : Nat) : Env := ⟨lkT tab, fun _ => true, n, false, false, none, fun _ _ => none⟩
theorem envK_ok (n : Nat) : EnvOk Try.prog (envK n) := EnvOk.of (l := tab) rfl (by kernel_rfl)
theorem mixed : Try.prog.follows .mixedOrders = true := by kernel_rfl
inductive Term where
  | mk (k l n : Int) (ts : List Term)
namespace Term
def k : Term → Int | mk a _ _ _ => a
def l : Term → Int | mk _ a _ _ => a
def n : Term → Int | mk _ _ a _ => a
def ts : Term → List Term | mk _ _ _ a => a
end Term
mutual
def tc : Term → List CV
  | .mk k l n ts => [.int .i64 k, .int .i64 l, .int .i64 n, .sl 4 48 (tcs ts)]
def tcs : List Term → List (List CV)
  | [] => []
  | t :: r => tc t :: tcs r
end
def tv (t : Term) : AV := .agg [.c (.int .i64 t.k), .c (.int .i64 t.l), .c (.int .i64 t.n), .c (.sl 4 48 (tcs t.ts))]
def bodyOf (f : Func) : Code := f.body.getD .skip
end Go.Tr
/- The matrix: a big array of bools. -/
namespace Go.Tr
open Go.Proofs
def tabM : List (Nat × TyD) := (80, ⟨10000, 10000, .array 100 59, List.replicate 10000 (.bool false), List.replicate 10000 4⟩) :: (59, ⟨100, 100, .array 100 4, List.replicate 100 (.bool false), List.replicate 100 4⟩) :: tab
def envM (n : Nat) : Env := ⟨lkT tabM, keep, n, false, false, none, fun _ _ => none⟩
theorem envM_ok (n : Nat) : EnvOk Try.prog (envM n) := EnvOk.of (l := tabM) rfl (by kernel_rfl)
def mrow (f : Nat → Nat → Bool) : List CV := (List.range 10000).map fun k => .bool (f (k / 100) (k % 100))
theorem mrow_len (f : Nat → Nat → Bool) : (mrow f).length = 10000 := by simp [mrow]
theorem mrow_at (f : Nat → Nat → Bool) {a b : Nat} (ha : a < 100) (hb : b < 100) : (mrow f)[a * 100 + b]? = some (.bool (f a b)) := by
  unfold mrow
  rw [List.getElem?_map, List.getElem?_range (by omega)]
  simp only [Option.map_some, Option.some.injEq, CV.bool.injEq]
  rw [show (a * 100 + b) / 100 = a by omega, show (a * 100 + b) % 100 = b by omega]
def updM (f : Nat → Nat → Bool) (a b : Nat) (v : Bool) : Nat → Nat → Bool := fun x y => if x = a ∧ y = b then v else f x y
theorem mrow_set (f : Nat → Nat → Bool) {a b : Nat} (v : Bool) (ha : a < 100) (hb : b < 100) : (mrow f).set (a * 100 + b) (.bool v) = mrow (updM f a b v) := by
  refine List.ext_getElem? fun k => ?_
  rw [List.getElem?_set]
  unfold mrow
  by_cases hk : a * 100 + b = k
  · subst hk
    rw [if_pos rfl, if_pos (by simp; omega), List.getElem?_map, List.getElem?_range (by omega)]
    simp only [Option.map_some, Option.some.injEq, CV.bool.injEq]
    rw [show (a * 100 + b) / 100 = a by omega, show (a * 100 + b) % 100 = b by omega]
    simp [updM]
  · rw [if_neg hk, List.getElem?_map, List.getElem?_map]
    by_cases hl : k < 10000
    · rw [List.getElem?_range hl]
      simp only [Option.map_some, Option.some.injEq, CV.bool.injEq]
      unfold updM
      rw [if_neg (by omega)]
    · rw [List.getElem?_eq_none (by simp; omega)]
      rfl
theorem mrow_at2 (f : Nat → Nat → Bool) {a b : Nat} (ha : a < 100) (hb : b < 100) : (mrow f)[0 + (a : Int).toNat * 100 + (b : Int).toNat * 1]? = some (.bool (f a b)) := by
  rw [Int.toNat_natCast, Int.toNat_natCast, Nat.zero_add, Nat.mul_one]
  exact mrow_at f ha hb
theorem mrow_set2 (f : Nat → Nat → Bool) {a b : Nat} (v : Bool) (ha : a < 100) (hb : b < 100) : 0 + (a : Int).toNat * 100 + (b : Int).toNat * 1 + 1 ≤ (mrow f).length ∧ (mrow f).set (0 + (a : Int).toNat * 100 + (b : Int).toNat * 1) (.bool v) = mrow (updM f a b v) := by
  rw [Int.toNat_natCast, Int.toNat_natCast, Nat.zero_add, Nat.mul_one, mrow_len]
  exact ⟨by omega, mrow_set f v ha hb⟩
theorem eRowM {f g : Nat → Nat → Bool} (h : g = f) : some (Ent.row 80 10000 1 [mrow f]) = some (Ent.row 80 10000 1 [mrow g]) := by rw [h]
theorem mrow_zero : (List.replicate 10000 (CV.bool false)) = mrow (fun _ _ => false) := by
  unfold mrow
  rw [List.map_const', List.length_range]
attribute [irreducible] mrow
def stM (k a b : Nat) (f : Nat → Nat → Bool) : Nat → Nat → Bool := updM f a b (f a b || (f a k && f k b))
def clB (k a : Nat) : Nat → (Nat → Nat → Bool) → Nat → Nat → Bool
  | 0, f => f
  | b + 1, f => stM k a b (clB k a b f)
def clA (n k : Nat) : Nat → (Nat → Nat → Bool) → Nat → Nat → Bool
  | 0, f => f
  | a + 1, f => clB k a n (clA n k a f)
def clK (n : Nat) : Nat → (Nat → Nat → Bool) → Nat → Nat → Bool
  | 0, f => f
  | k + 1, f => clA n k n (clK n k f)
def closeF (n : Nat) (f : Nat → Nat → Bool) : Nat → Nat → Bool := clK n n f
abbrev matE (f : Nat → Nat → Bool) : Ent := .row 80 10000 1 [mrow f]
theorem cClose (n : Nat) (f : Nat → Nat → Bool) (hn : n ≤ 100) : CallSt Try.prog 60 [.elt 0 10000 0 0, .c (.int .i64 (n))] [.row 80 10000 1 [mrow f]] (fun r H' => r = .tup [] ∧ H' = [.row 80 10000 1 [mrow (closeF n f)]]) := by
  refine call_trim (E := envM 1) (fn := Try.f60) (c := bodyOf Try.f60) (envM_ok 1) mixed (by kernel_rfl) (by kernel_rfl) (by kernel_rfl) (by kernel_rfl) (by kernel_rfl) (by kernel_rfl) rfl ?_
  conv => whnf
  repeat ((first | refine aI rfl ?_ | refine aI (by decide) ?_ | refine dI (by kernel_rfl) ?_ | refine aI ⟨by omega, by omega⟩ ?_ | refine aI (by omega) ?_ | refine aI (fun _ => ⟨by omega, by omega⟩) ?_ | refine aI (of_decide_eq_true rfl) ?_ | (refine yI ?_ ?_; focus (first | decide | (simp; done) | (simp [tcs]; done))) | (refine nI ?_ ?_; focus (first | decide | (simp; done) | (simp [tcs]; done))) | intro _); conv => whnf)
  refine loop_intro (fun m tm H => ∃ k : Nat, n = m + k ∧ tm = [(8, .c (.int .i64 (k))), (7, .c (.int .i64 (n))), (1, .c (.int .i64 (n))), (0, .elt 0 10000 0 0)] ∧ H = [.row 80 10000 1 [mrow (clK n k f)]])
    n _ _ ⟨0, by omega, rfl, rfl⟩ (Wk.sl [0] rfl ⟨rfl, trivial⟩ ⟨rfl, rfl, rfl, rfl, trivial⟩ rfl) ?_
  rintro m tm H ⟨k, hk, rfl, rfl⟩
  generalize hfk : clK n k f = fk at *
  conv => whnf
  refine ⟨fun hc => ?_, fun hc => ?_⟩
  · replace hc : (k : Int) < n := of_decide_eq_true hc
    conv => whnf
    repeat ((first | refine aI rfl ?_ | refine aI (by decide) ?_ | refine dI (by kernel_rfl) ?_ | refine aI ⟨by omega, by omega⟩ ?_ | refine aI (by omega) ?_ | refine aI (fun _ => ⟨by omega, by omega⟩) ?_ | refine aI (of_decide_eq_true rfl) ?_ | (refine yI ?_ ?_; focus (first | decide | (simp; done) | (simp [tcs]; done))) | (refine nI ?_ ?_; focus (first | decide | (simp; done) | (simp [tcs]; done))) | intro _); conv => whnf)
    refine loop_intro (fun m tm H => ∃ a : Nat, n = m + a ∧ tm = [(12, .c (.int .i64 (a))), (11, .c (.int .i64 (n))), (4, .c (.int .i64 (k))), (8, .c (.int .i64 (k))), (7, .c (.int .i64 (n))), (1, .c (.int .i64 (n))), (0, .elt 0 10000 0 0)] ∧ H = [.row 80 10000 1 [mrow (clA n k a fk)]])
      n _ _ ⟨0, by omega, rfl, rfl⟩ (Wk.sl [0] rfl ⟨rfl, trivial⟩ ⟨rfl, rfl, rfl, rfl, rfl, rfl, rfl, trivial⟩ rfl) ?_
    rintro m2 tm H ⟨a, ha, rfl, rfl⟩
    generalize hfa : clA n k a fk = fa at *
    conv => whnf
    refine ⟨fun hc2 => ?_, fun hc2 => ?_⟩
    · replace hc2 : (a : Int) < n := of_decide_eq_true hc2
      conv => whnf
      repeat ((first | refine aI rfl ?_ | refine aI (by decide) ?_ | refine dI (by kernel_rfl) ?_ | refine aI ⟨by omega, by omega⟩ ?_ | refine aI (by omega) ?_ | refine aI (fun _ => ⟨by omega, by omega⟩) ?_ | refine aI (of_decide_eq_true rfl) ?_ | (refine yI ?_ ?_; focus (first | decide | (simp; done) | (simp [tcs]; done))) | (refine nI ?_ ?_; focus (first | decide | (simp; done) | (simp [tcs]; done))) | intro _); conv => whnf)
      refine loop_intro (fun m tm H => ∃ b : Nat, n = m + b ∧ tm = [(16, .c (.int .i64 (b))), (15, .c (.int .i64 (n))), (5, .c (.int .i64 (a))), (12, .c (.int .i64 (a))), (11, .c (.int .i64 (n))), (4, .c (.int .i64 (k))), (8, .c (.int .i64 (k))), (7, .c (.int .i64 (n))), (1, .c (.int .i64 (n))), (0, .elt 0 10000 0 0)] ∧ H = [.row 80 10000 1 [mrow (clB k a b fa)]])
        n _ _ ⟨0, by omega, rfl, rfl⟩ (Wk.sl [0] rfl ⟨rfl, trivial⟩ ⟨rfl, rfl, rfl, rfl, rfl, rfl, rfl, rfl, rfl, rfl, trivial⟩ rfl) ?_
      rintro m3 tm H ⟨b, hb, rfl, rfl⟩
      generalize hfb : clB k a b fa = fb at *
      conv => whnf
      refine ⟨fun hc3 => ?_, fun hc3 => ?_⟩
      · replace hc3 : (b : Int) < n := of_decide_eq_true hc3
        conv => whnf
        repeat ((first | refine aI rfl ?_ | refine aI (by decide) ?_ | refine dI (by kernel_rfl) ?_ | refine aI ⟨by omega, by omega⟩ ?_ | refine aI (by omega) ?_ | refine aI (fun _ => ⟨by omega, by omega⟩) ?_ | refine aI (of_decide_eq_true rfl) ?_ | (refine yI ?_ ?_; focus (first | decide | (simp; done) | (simp [tcs]; done))) | (refine nI ?_ ?_; focus (first | decide | (simp; done) | (simp [tcs]; done))) | intro _); conv => whnf)
        refine ⟨fb a b, ⟨_, rfl, mrow_at2 fb (by omega) (by omega)⟩, ?_⟩
        conv => whnf
        repeat ((first | refine aI rfl ?_ | refine aI (by decide) ?_ | refine dI (by kernel_rfl) ?_ | refine aI ⟨by omega, by omega⟩ ?_ | refine aI (by omega) ?_ | refine aI (fun _ => ⟨by omega, by omega⟩) ?_ | refine aI (of_decide_eq_true rfl) ?_ | (refine yI ?_ ?_; focus (first | decide | (simp; done) | (simp [tcs]; done))) | (refine nI ?_ ?_; focus (first | decide | (simp; done) | (simp [tcs]; done))) | intro _); conv => whnf)
        refine ⟨fb a k, ⟨_, rfl, mrow_at2 fb (by omega) (by omega)⟩, ?_⟩
        conv => whnf
        repeat ((first | refine aI rfl ?_ | refine aI (by decide) ?_ | refine dI (by kernel_rfl) ?_ | refine aI ⟨by omega, by omega⟩ ?_ | refine aI (by omega) ?_ | refine aI (fun _ => ⟨by omega, by omega⟩) ?_ | refine aI (of_decide_eq_true rfl) ?_ | (refine yI ?_ ?_; focus (first | decide | (simp; done) | (simp [tcs]; done))) | (refine nI ?_ ?_; focus (first | decide | (simp; done) | (simp [tcs]; done))) | intro _); conv => whnf)
        refine ⟨fb k b, ⟨_, rfl, mrow_at2 fb (by omega) (by omega)⟩, ?_⟩
        conv => whnf
        repeat ((first | refine aI rfl ?_ | refine aI (by decide) ?_ | refine dI (by kernel_rfl) ?_ | refine aI ⟨by omega, by omega⟩ ?_ | refine aI (by omega) ?_ | refine aI (fun _ => ⟨by omega, by omega⟩) ?_ | refine aI (of_decide_eq_true rfl) ?_ | (refine yI ?_ ?_; focus (first | decide | (simp; done) | (simp [tcs]; done))) | (refine nI ?_ ?_; focus (first | decide | (simp; done) | (simp [tcs]; done))) | intro _); conv => whnf)
        refine ⟨_, _, rfl, mrow_set2 fb _ (by omega) (by omega), ?_⟩
        conv => whnf
        repeat ((first | refine aI rfl ?_ | refine aI (by decide) ?_ | refine dI (by kernel_rfl) ?_ | refine aI ⟨by omega, by omega⟩ ?_ | refine aI (by omega) ?_ | refine aI (fun _ => ⟨by omega, by omega⟩) ?_ | refine aI (of_decide_eq_true rfl) ?_ | (refine yI ?_ ?_; focus (first | decide | (simp; done) | (simp [tcs]; done))) | (refine nI ?_ ?_; focus (first | decide | (simp; done) | (simp [tcs]; done))) | intro _); conv => whnf)
        refine ⟨m3 - 1, _, _, by omega, ⟨b + 1, by omega, rfl, rfl⟩, Wk.sl [0] rfl ⟨eRowM (by rw [clB, hfb]; rfl), trivial⟩ ⟨rfl, rfl, rfl, rfl, rfl, rfl, rfl, rfl, rfl, rfl, trivial⟩ rfl⟩
      · replace hc3 : ¬ (b : Int) < n := of_decide_eq_false hc3
        obtain rfl : b = n := by omega
        conv => whnf
        repeat ((first | refine aI rfl ?_ | refine aI (by decide) ?_ | refine dI (by kernel_rfl) ?_ | refine aI ⟨by omega, by omega⟩ ?_ | refine aI (by omega) ?_ | refine aI (fun _ => ⟨by omega, by omega⟩) ?_ | refine aI (of_decide_eq_true rfl) ?_ | (refine yI ?_ ?_; focus (first | decide | (simp; done) | (simp [tcs]; done))) | (refine nI ?_ ?_; focus (first | decide | (simp; done) | (simp [tcs]; done))) | intro _); conv => whnf)
        refine ⟨m2 - 1, _, _, by omega, ⟨a + 1, by omega, rfl, rfl⟩, Wk.sl [0] rfl ⟨eRowM (by rw [clA, hfa, hfb]), trivial⟩ ⟨rfl, rfl, rfl, rfl, rfl, rfl, rfl, trivial⟩ rfl⟩
    · replace hc2 : ¬ (a : Int) < n := of_decide_eq_false hc2
      obtain rfl : a = n := by omega
      conv => whnf
      repeat ((first | refine aI rfl ?_ | refine aI (by decide) ?_ | refine dI (by kernel_rfl) ?_ | refine aI ⟨by omega, by omega⟩ ?_ | refine aI (by omega) ?_ | refine aI (fun _ => ⟨by omega, by omega⟩) ?_ | refine aI (of_decide_eq_true rfl) ?_ | (refine yI ?_ ?_; focus (first | decide | (simp; done) | (simp [tcs]; done))) | (refine nI ?_ ?_; focus (first | decide | (simp; done) | (simp [tcs]; done))) | intro _); conv => whnf)
      refine ⟨m - 1, _, _, by omega, ⟨k + 1, by omega, rfl, rfl⟩, Wk.sl [0] rfl ⟨eRowM (by rw [clK, hfk, hfa]), trivial⟩ ⟨rfl, rfl, rfl, rfl, trivial⟩ rfl⟩
  · replace hc : ¬ (k : Int) < n := of_decide_eq_false hc
    obtain rfl : k = n := by omega
    conv => whnf
    repeat ((first | refine aI rfl ?_ | refine aI (by decide) ?_ | refine dI (by kernel_rfl) ?_ | refine aI ⟨by omega, by omega⟩ ?_ | refine aI (by omega) ?_ | refine aI (fun _ => ⟨by omega, by omega⟩) ?_ | refine aI (of_decide_eq_true rfl) ?_ | (refine yI ?_ ?_; focus (first | decide | (simp; done) | (simp [tcs]; done))) | (refine nI ?_ ?_; focus (first | decide | (simp; done) | (simp [tcs]; done))) | intro _); conv => whnf)
    rw [show closeF k f = fk from hfk]
    all_goals (first | rfl | exact ⟨rfl, rfl⟩)
end Go.Tr
/- The closure, plain: it is the least transitive matrix above the given one. -/
namespace Go.Tr
open Go.Proofs
theorem updM_eq (f : Nat → Nat → Bool) (a b : Nat) (v : Bool) (x y : Nat) : updM f a b v x y = if x = a ∧ y = b then v else f x y := rfl
theorem clB_spec (k a n : Nat) (f : Nat → Nat → Bool) : ∀ b x y, clB k a b f x y = (if x = a ∧ y < b then f x y || (f x k && f k y) else f x y)
  | 0, x, y => by rw [clB, if_neg (by omega)]
  | b + 1, x, y => by
    have ih := clB_spec k a n f b
    have hak : clB k a b f a k = f a k := by
      rw [ih]
      split
      · cases f a k <;> simp
      · rfl
    have hkb : clB k a b f k b = f k b := by
      rw [ih, if_neg (by omega)]
    rw [clB, stM, updM_eq, hak, hkb, ih, ih]
    by_cases h1 : x = a
    · subst h1
      by_cases h2 : y = b
      · subst h2
        rw [if_pos ⟨rfl, rfl⟩, if_neg (by omega), if_pos (by omega)]
      · rw [if_neg (by omega)]
        by_cases h3 : y < b
        · rw [if_pos (by omega), if_pos (by omega)]
        · rw [if_neg (by omega), if_neg (by omega)]
    · rw [if_neg (by omega), if_neg (by omega), if_neg (by omega)]
theorem clA_spec (n k : Nat) (f : Nat → Nat → Bool) (hk : k < n) : ∀ a x y, clA n k a f x y = (if x < a ∧ y < n then f x y || (f x k && f k y) else f x y)
  | 0, x, y => by rw [clA, if_neg (by omega)]
  | a + 1, x, y => by
    have ih := clA_spec n k f hk a
    have hak : ∀ x, clA n k a f x k = f x k := fun x => by
      rw [ih]
      split
      · cases f x k <;> simp
      · rfl
    have hkb : ∀ y, clA n k a f k y = f k y := fun y => by
      rw [ih]
      split
      · cases f k y <;> cases f k k <;> simp
      · rfl
    rw [clA, clB_spec k a n, hak, hkb]
    by_cases h1 : x = a
    · subst h1
      by_cases h2 : y < n
      · rw [if_pos ⟨rfl, h2⟩, if_pos (by omega), ih, if_neg (by omega)]
      · rw [if_neg (by omega), if_neg (by omega), ih, if_neg (by omega)]
    · rw [if_neg (by omega), ih]
      by_cases h3 : x < a ∧ y < n
      · rw [if_pos h3, if_pos (by omega)]
      · rw [if_neg h3, if_neg (by omega)]
theorem clK_step (n k : Nat) (f : Nat → Nat → Bool) (hk : k < n) {x y : Nat} (hx : x < n) (hy : y < n) : clK n (k + 1) f x y = (clK n k f x y || (clK n k f x k && clK n k f k y)) := by
  rw [clK, clA_spec n k _ hk, if_pos ⟨hx, hy⟩]
theorem clK_trans (n : Nat) (f : Nat → Nat → Bool) : ∀ k, k ≤ n → ∀ a m c, a < n → m < k → c < n → clK n k f a m = true → clK n k f m c = true → clK n k f a c = true
  | 0, _, a, m, c, _, hm, _, _, _ => by omega
  | k + 1, hk, a, m, c, ha, hm, hc, h1, h2 => by
    have ih := clK_trans n f k (by omega)
    rw [clK_step n k f (by omega) ha (by omega)] at h1
    rw [clK_step n k f (by omega) (by omega) hc] at h2
    rw [clK_step n k f (by omega) ha hc]
    simp only [Bool.or_eq_true, Bool.and_eq_true] at h1 h2 ⊢
    by_cases hmk : m = k
    · subst hmk
      have g1 : clK n m f a m = true := by rcases h1 with h | h; exact h; exact h.1
      have g2 : clK n m f m c = true := by rcases h2 with h | h; exact h; exact h.2
      exact .inr ⟨g1, g2⟩
    · rcases h1 with h1 | ⟨h1, h1'⟩
      · rcases h2 with h2 | ⟨h2, h2'⟩
        · exact .inl (ih a m c ha (by omega) hc h1 h2)
        · exact .inr ⟨ih a m k ha (by omega) (by omega) h1 h2, h2'⟩
      · rcases h2 with h2 | ⟨h2, h2'⟩
        · exact .inr ⟨h1, ih k m c (by omega) (by omega) hc h1' h2⟩
        · exact .inr ⟨h1, h2'⟩
theorem clK_mono (n : Nat) (f : Nat → Nat → Bool) : ∀ k, k ≤ n → ∀ a c, a < n → c < n → f a c = true → clK n k f a c = true
  | 0, _, a, c, _, _, h => h
  | k + 1, hk, a, c, ha, hc, h => by
    rw [clK_step n k f (by omega) ha hc, clK_mono n f k (by omega) a c ha hc h]
    rfl
theorem clK_min (n : Nat) (f : Nat → Nat → Bool) (T : Nat → Nat → Prop) (h0 : ∀ a b, a < n → b < n → f a b = true → T a b) (ht : ∀ a b c, a < n → b < n → c < n → T a b → T b c → T a c) :
    ∀ k, k ≤ n → ∀ a c, a < n → c < n → clK n k f a c = true → T a c
  | 0, _, a, c, ha, hc, h => h0 a c ha hc h
  | k + 1, hk, a, c, ha, hc, h => by
    have ih := clK_min n f T h0 ht k (by omega)
    rw [clK_step n k f (by omega) ha hc] at h
    simp only [Bool.or_eq_true, Bool.and_eq_true] at h
    rcases h with h | ⟨h1, h2⟩
    · exact ih a c ha hc h
    · exact ht a k c ha (by omega) hc (ih a k ha (by omega) h1) (ih k c (by omega) hc h2)
theorem close_trans {n : Nat} {f : Nat → Nat → Bool} {a b c : Nat} (ha : a < n) (hb : b < n) (hc : c < n) (h1 : closeF n f a b = true) (h2 : closeF n f b c = true) : closeF n f a c = true := clK_trans n f n (Nat.le_refl n) a b c ha hb hc h1 h2
theorem close_mono {n : Nat} {f : Nat → Nat → Bool} {a b : Nat} (ha : a < n) (hb : b < n) (h : f a b = true) : closeF n f a b = true := clK_mono n f n (Nat.le_refl n) a b ha hb h
theorem close_min {n : Nat} {f : Nat → Nat → Bool} {T : Nat → Nat → Prop} (h0 : ∀ a b, a < n → b < n → f a b = true → T a b) (ht : ∀ a b c, a < n → b < n → c < n → T a b → T b c → T a c) {a b : Nat} (ha : a < n) (hb : b < n) (h : closeF n f a b = true) : T a b :=
  clK_min n f T h0 ht n (Nat.le_refl n) a b ha hb h
theorem close_out {n : Nat} {f : Nat → Nat → Bool} {a b : Nat} (h : n ≤ a ∨ n ≤ b) : closeF n f a b = f a b := by
  have : ∀ k, k ≤ n → clK n k f a b = f a b := fun k => by
    induction k with
    | zero => intro _; rfl
    | succ k ih =>
      intro hk
      rw [clK, clA_spec n k _ (by omega), if_neg (by omega), ih (by omega)]
  exact this n (Nat.le_refl n)
end Go.Tr
/- Names: bytes. -/
namespace Go.Tr
open Go.Proofs
def smB (c : Int) : Bool := decide (97 ≤ c) && decide (c ≤ 122)
def cpB (c : Int) : Bool := decide (65 ≤ c) && decide (c ≤ 90)
def dgB (c : Int) : Bool := decide (48 ≤ c) && decide (c ≤ 57)
def nmB (c : Int) : Bool := smB c || cpB c || dgB c || decide (c = 95) || decide (c = 39)
theorem cSmall (c : Int) : CallSt Try.prog 92 [.c (.int .u8 c)] [] (fun r H' => r = .c (.bool (smB c)) ∧ H' = []) := by
  refine call_pure (E := env 0) (fn := Try.f92) (c := bodyOf Try.f92) (env_ok 0) mixed (by kernel_rfl) (by kernel_rfl) (by kernel_rfl) (by kernel_rfl) (by kernel_rfl) (by kernel_rfl) rfl ?_
  conv => whnf
  repeat ((first | refine aI rfl ?_ | refine aI (by decide) ?_ | refine dI (by kernel_rfl) ?_ | refine aI ⟨by omega, by omega⟩ ?_ | refine aI (by omega) ?_ | refine aI (fun _ => ⟨by omega, by omega⟩) ?_ | refine aI (of_decide_eq_true rfl) ?_ | (refine yI ?_ ?_; focus (first | decide | (simp; done) | (simp [tcs]; done))) | (refine nI ?_ ?_; focus (first | decide | (simp; done) | (simp [tcs]; done)))); conv => whnf)
  all_goals (first | rfl | exact ⟨rfl, rfl⟩ | exact ⟨rfl, rfl, rfl⟩)
theorem cCapital (c : Int) : CallSt Try.prog 103 [.c (.int .u8 c)] [] (fun r H' => r = .c (.bool (cpB c)) ∧ H' = []) := by
  refine call_pure (E := env 0) (fn := Try.f103) (c := bodyOf Try.f103) (env_ok 0) mixed (by kernel_rfl) (by kernel_rfl) (by kernel_rfl) (by kernel_rfl) (by kernel_rfl) (by kernel_rfl) rfl ?_
  conv => whnf
  repeat ((first | refine aI rfl ?_ | refine aI (by decide) ?_ | refine dI (by kernel_rfl) ?_ | refine aI ⟨by omega, by omega⟩ ?_ | refine aI (by omega) ?_ | refine aI (fun _ => ⟨by omega, by omega⟩) ?_ | refine aI (of_decide_eq_true rfl) ?_ | (refine yI ?_ ?_; focus (first | decide | (simp; done) | (simp [tcs]; done))) | (refine nI ?_ ?_; focus (first | decide | (simp; done) | (simp [tcs]; done)))); conv => whnf)
  all_goals (first | rfl | exact ⟨rfl, rfl⟩ | exact ⟨rfl, rfl, rfl⟩)
theorem cDigit (c : Int) : CallSt Try.prog 104 [.c (.int .u8 c)] [] (fun r H' => r = .c (.bool (dgB c)) ∧ H' = []) := by
  refine call_pure (E := env 0) (fn := Try.f104) (c := bodyOf Try.f104) (env_ok 0) mixed (by kernel_rfl) (by kernel_rfl) (by kernel_rfl) (by kernel_rfl) (by kernel_rfl) (by kernel_rfl) rfl ?_
  conv => whnf
  repeat ((first | refine aI rfl ?_ | refine aI (by decide) ?_ | refine dI (by kernel_rfl) ?_ | refine aI ⟨by omega, by omega⟩ ?_ | refine aI (by omega) ?_ | refine aI (fun _ => ⟨by omega, by omega⟩) ?_ | refine aI (of_decide_eq_true rfl) ?_ | (refine yI ?_ ?_; focus (first | decide | (simp; done) | (simp [tcs]; done))) | (refine nI ?_ ?_; focus (first | decide | (simp; done) | (simp [tcs]; done)))); conv => whnf)
  all_goals (first | rfl | exact ⟨rfl, rfl⟩ | exact ⟨rfl, rfl, rfl⟩)
theorem cNameByte (c : Int) : CallSt Try.prog 98 [.c (.int .u8 c)] [] (fun r H' => r = .c (.bool (nmB c)) ∧ H' = []) := by
  have h1 := cSmall c
  have h2 := cCapital c
  have h3 := cDigit c
  unfold nmB
  generalize smB c = a at *
  generalize cpB c = b at *
  generalize dgB c = d at *
  cases a with
  | true =>
    refine call_pure (E := env 0) (fn := Try.f98) (c := bodyOf Try.f98) (env_ok 0) mixed (by kernel_rfl) (by kernel_rfl) (by kernel_rfl) (by kernel_rfl) (by kernel_rfl) (by kernel_rfl) rfl ?_
    conv => whnf
    try (refine dI (by kernel_rfl) ?_; conv => whnf)
    first | refine CallSt.use h1 [] trivial (by decide) rfl ?_ | refine CallPt.useS h1 [] trivial (by decide) rfl ?_
    rintro _ _ ⟨rfl, rfl⟩ _
    conv => whnf
    repeat ((first | refine aI rfl ?_ | refine aI (by decide) ?_ | refine dI (by kernel_rfl) ?_ | refine aI ⟨by omega, by omega⟩ ?_ | refine aI (by omega) ?_ | refine aI (fun _ => ⟨by omega, by omega⟩) ?_ | refine aI (of_decide_eq_true rfl) ?_ | (refine yI ?_ ?_; focus (first | decide | (simp; done) | (simp [tcs]; done))) | (refine nI ?_ ?_; focus (first | decide | (simp; done) | (simp [tcs]; done)))); conv => whnf)
    all_goals (first | rfl | exact ⟨rfl, rfl⟩ | exact ⟨rfl, rfl, rfl⟩)
  | false =>
    cases b with
    | true =>
      refine call_pure (E := env 0) (fn := Try.f98) (c := bodyOf Try.f98) (env_ok 0) mixed (by kernel_rfl) (by kernel_rfl) (by kernel_rfl) (by kernel_rfl) (by kernel_rfl) (by kernel_rfl) rfl ?_
      conv => whnf
      try (refine dI (by kernel_rfl) ?_; conv => whnf)
      first | refine CallSt.use h1 [] trivial (by decide) rfl ?_ | refine CallPt.useS h1 [] trivial (by decide) rfl ?_
      rintro _ _ ⟨rfl, rfl⟩ _
      conv => whnf
      repeat ((first | refine aI rfl ?_ | refine aI (by decide) ?_ | refine dI (by kernel_rfl) ?_ | refine aI ⟨by omega, by omega⟩ ?_ | refine aI (by omega) ?_ | refine aI (fun _ => ⟨by omega, by omega⟩) ?_ | refine aI (of_decide_eq_true rfl) ?_ | (refine yI ?_ ?_; focus (first | decide | (simp; done) | (simp [tcs]; done))) | (refine nI ?_ ?_; focus (first | decide | (simp; done) | (simp [tcs]; done)))); conv => whnf)
      try (refine dI (by kernel_rfl) ?_; conv => whnf)
      first | refine CallSt.use h2 [] trivial (by decide) rfl ?_ | refine CallPt.useS h2 [] trivial (by decide) rfl ?_
      rintro _ _ ⟨rfl, rfl⟩ _
      conv => whnf
      repeat ((first | refine aI rfl ?_ | refine aI (by decide) ?_ | refine dI (by kernel_rfl) ?_ | refine aI ⟨by omega, by omega⟩ ?_ | refine aI (by omega) ?_ | refine aI (fun _ => ⟨by omega, by omega⟩) ?_ | refine aI (of_decide_eq_true rfl) ?_ | (refine yI ?_ ?_; focus (first | decide | (simp; done) | (simp [tcs]; done))) | (refine nI ?_ ?_; focus (first | decide | (simp; done) | (simp [tcs]; done)))); conv => whnf)
      all_goals (first | rfl | exact ⟨rfl, rfl⟩ | exact ⟨rfl, rfl, rfl⟩)
    | false =>
      cases d with
      | true =>
        refine call_pure (E := env 0) (fn := Try.f98) (c := bodyOf Try.f98) (env_ok 0) mixed (by kernel_rfl) (by kernel_rfl) (by kernel_rfl) (by kernel_rfl) (by kernel_rfl) (by kernel_rfl) rfl ?_
        conv => whnf
        try (refine dI (by kernel_rfl) ?_; conv => whnf)
        first | refine CallSt.use h1 [] trivial (by decide) rfl ?_ | refine CallPt.useS h1 [] trivial (by decide) rfl ?_
        rintro _ _ ⟨rfl, rfl⟩ _
        conv => whnf
        repeat ((first | refine aI rfl ?_ | refine aI (by decide) ?_ | refine dI (by kernel_rfl) ?_ | refine aI ⟨by omega, by omega⟩ ?_ | refine aI (by omega) ?_ | refine aI (fun _ => ⟨by omega, by omega⟩) ?_ | refine aI (of_decide_eq_true rfl) ?_ | (refine yI ?_ ?_; focus (first | decide | (simp; done) | (simp [tcs]; done))) | (refine nI ?_ ?_; focus (first | decide | (simp; done) | (simp [tcs]; done)))); conv => whnf)
        try (refine dI (by kernel_rfl) ?_; conv => whnf)
        first | refine CallSt.use h2 [] trivial (by decide) rfl ?_ | refine CallPt.useS h2 [] trivial (by decide) rfl ?_
        rintro _ _ ⟨rfl, rfl⟩ _
        conv => whnf
        repeat ((first | refine aI rfl ?_ | refine aI (by decide) ?_ | refine dI (by kernel_rfl) ?_ | refine aI ⟨by omega, by omega⟩ ?_ | refine aI (by omega) ?_ | refine aI (fun _ => ⟨by omega, by omega⟩) ?_ | refine aI (of_decide_eq_true rfl) ?_ | (refine yI ?_ ?_; focus (first | decide | (simp; done) | (simp [tcs]; done))) | (refine nI ?_ ?_; focus (first | decide | (simp; done) | (simp [tcs]; done)))); conv => whnf)
        try (refine dI (by kernel_rfl) ?_; conv => whnf)
        first | refine CallSt.use h3 [] trivial (by decide) rfl ?_ | refine CallPt.useS h3 [] trivial (by decide) rfl ?_
        rintro _ _ ⟨rfl, rfl⟩ _
        conv => whnf
        repeat ((first | refine aI rfl ?_ | refine aI (by decide) ?_ | refine dI (by kernel_rfl) ?_ | refine aI ⟨by omega, by omega⟩ ?_ | refine aI (by omega) ?_ | refine aI (fun _ => ⟨by omega, by omega⟩) ?_ | refine aI (of_decide_eq_true rfl) ?_ | (refine yI ?_ ?_; focus (first | decide | (simp; done) | (simp [tcs]; done))) | (refine nI ?_ ?_; focus (first | decide | (simp; done) | (simp [tcs]; done)))); conv => whnf)
        all_goals (first | rfl | exact ⟨rfl, rfl⟩ | exact ⟨rfl, rfl, rfl⟩)
      | false =>
        refine call_pure (E := env 0) (fn := Try.f98) (c := bodyOf Try.f98) (env_ok 0) mixed (by kernel_rfl) (by kernel_rfl) (by kernel_rfl) (by kernel_rfl) (by kernel_rfl) (by kernel_rfl) rfl ?_
        conv => whnf
        try (refine dI (by kernel_rfl) ?_; conv => whnf)
        first | refine CallSt.use h1 [] trivial (by decide) rfl ?_ | refine CallPt.useS h1 [] trivial (by decide) rfl ?_
        rintro _ _ ⟨rfl, rfl⟩ _
        conv => whnf
        repeat ((first | refine aI rfl ?_ | refine aI (by decide) ?_ | refine dI (by kernel_rfl) ?_ | refine aI ⟨by omega, by omega⟩ ?_ | refine aI (by omega) ?_ | refine aI (fun _ => ⟨by omega, by omega⟩) ?_ | refine aI (of_decide_eq_true rfl) ?_ | (refine yI ?_ ?_; focus (first | decide | (simp; done) | (simp [tcs]; done))) | (refine nI ?_ ?_; focus (first | decide | (simp; done) | (simp [tcs]; done)))); conv => whnf)
        try (refine dI (by kernel_rfl) ?_; conv => whnf)
        first | refine CallSt.use h2 [] trivial (by decide) rfl ?_ | refine CallPt.useS h2 [] trivial (by decide) rfl ?_
        rintro _ _ ⟨rfl, rfl⟩ _
        conv => whnf
        repeat ((first | refine aI rfl ?_ | refine aI (by decide) ?_ | refine dI (by kernel_rfl) ?_ | refine aI ⟨by omega, by omega⟩ ?_ | refine aI (by omega) ?_ | refine aI (fun _ => ⟨by omega, by omega⟩) ?_ | refine aI (of_decide_eq_true rfl) ?_ | (refine yI ?_ ?_; focus (first | decide | (simp; done) | (simp [tcs]; done))) | (refine nI ?_ ?_; focus (first | decide | (simp; done) | (simp [tcs]; done)))); conv => whnf)
        try (refine dI (by kernel_rfl) ?_; conv => whnf)
        first | refine CallSt.use h3 [] trivial (by decide) rfl ?_ | refine CallPt.useS h3 [] trivial (by decide) rfl ?_
        rintro _ _ ⟨rfl, rfl⟩ _
        conv => whnf
        repeat ((first | refine aI rfl ?_ | refine aI (by decide) ?_ | refine dI (by kernel_rfl) ?_ | refine aI ⟨by omega, by omega⟩ ?_ | refine aI (by omega) ?_ | refine aI (fun _ => ⟨by omega, by omega⟩) ?_ | refine aI (of_decide_eq_true rfl) ?_ | (refine yI ?_ ?_; focus (first | decide | (simp; done) | (simp [tcs]; done))) | (refine nI ?_ ?_; focus (first | decide | (simp; done) | (simp [tcs]; done)))); conv => whnf)
        all_goals (first | rfl | exact ⟨rfl, rfl⟩ | exact ⟨rfl, rfl, rfl⟩)
end Go.Tr
/- Names. -/
namespace Go.Tr
open Go.Proofs
def bAt (s : ByteArray) (i : Nat) : Int := ((s.data.toList.getD i 0).toNat : Int)
def allN (s : ByteArray) : Bool := (List.range s.size).all fun i => nmB (bAt s i)
def isSmallF (s : ByteArray) : Bool := decide (1 ≤ s.size) && decide (s.size ≤ 16) && smB (bAt s 0) && allN s
theorem allN_no {s : ByteArray} {j : Nat} (h : j < s.size) (hb : nmB (bAt s j) = false) : allN s = false := by
  unfold allN
  rw [List.all_eq_false]
  exact ⟨j, by simpa using h, by rw [hb]; simp⟩
theorem allN_yes {s : ByteArray} (h : ∀ i, i < s.size → nmB (bAt s i) = true) : allN s = true := by
  unfold allN
  rw [List.all_eq_true]
  intro i hi
  exact h i (by simpa using hi)
theorem cLexName (s : ByteArray) : CallSt Try.prog 91 [.c (.str s), .fn 92 []] [] (fun r H' => r = .c (.bool (isSmallF s)) ∧ H' = []) := by
  have hf := cSmall (bAt s 0)
  refine call_pure (E := env 0) (fn := Try.f91) (c := bodyOf Try.f91) (env_ok 0) mixed (by kernel_rfl) (by kernel_rfl) (by kernel_rfl) (by kernel_rfl) (by kernel_rfl) (by kernel_rfl) rfl ?_
  conv => whnf
  refine ⟨fun h => ⟨by omega, by simp at h; omega⟩, ?_⟩
  conv => whnf
  refine ⟨fun hg => ?_, fun hg => ?_⟩
  · have hs : 1 ≤ s.size ∧ s.size ≤ 16 := by simp at hg; omega
    conv => whnf
    try (refine dI (by kernel_rfl) ?_; conv => whnf)
    first | refine CallSt.use hf [] trivial (by decide) rfl ?_ | refine CallPt.useS hf [] trivial (by decide) rfl ?_
    rintro _ _ ⟨rfl, rfl⟩ _
    conv => whnf
    refine ⟨fun hc => ?_, fun hc => ?_⟩
    · have hb : smB (bAt s 0) = false := by simpa using hc
      rw [show isSmallF s = false by simp [isSmallF, hb]]
      conv => whnf
      repeat ((first | refine aI rfl ?_ | refine aI (by decide) ?_ | refine dI (by kernel_rfl) ?_ | refine aI ⟨by omega, by omega⟩ ?_ | refine aI (by omega) ?_ | refine aI (fun _ => ⟨by omega, by omega⟩) ?_ | refine aI (of_decide_eq_true rfl) ?_ | (refine yI ?_ ?_; focus (first | decide | (simp; done) | (simp [tcs]; done))) | (refine nI ?_ ?_; focus (first | decide | (simp; done) | (simp [tcs]; done)))); conv => whnf)
      all_goals (first | rfl | exact ⟨rfl, rfl⟩ | exact ⟨rfl, rfl, rfl⟩)
    · have hb : smB (bAt s 0) = true := by simpa using hc
      have hR : isSmallF s = allN s := by simp [isSmallF, hb, hs.1, hs.2]
      rw [hR]
      conv => whnf
      refine loop_intro (fun m tm H => ∃ j : Nat, s.size = m + j ∧ (∀ i, i < j → nmB (bAt s i) = true) ∧
          tm = [(23, .c (.int .i64 (j))), (22, .c (.int .i64 (s.size))), (0, .c (.str s))] ∧ H = []) s.size _ _ ⟨0, by omega, fun i hi => absurd hi (by omega), rfl, rfl⟩ (Wk.sl [] rfl trivial ⟨rfl, rfl, rfl, trivial⟩ rfl) ?_
      rintro m tm H ⟨j, hj, hall, rfl, rfl⟩
      conv => whnf
      refine ⟨fun hl => ?_, fun hl => ?_⟩
      · replace hl : (j : Int) < s.size := of_decide_eq_true hl
        have hn := cNameByte (bAt s j)
        conv => whnf
        refine ⟨⟨by omega, by omega⟩, ?_⟩
        conv => whnf
        try (refine dI (by kernel_rfl) ?_; conv => whnf)
        first | refine CallSt.use hn [] trivial (by decide) rfl ?_ | refine CallPt.useS hn [] trivial (by decide) rfl ?_
        rintro _ _ ⟨rfl, rfl⟩ _
        conv => whnf
        refine ⟨fun hc2 => ?_, fun hc2 => ?_⟩
        · have hb2 : nmB (bAt s j) = false := by simpa using hc2
          rw [allN_no (by omega) hb2]
          conv => whnf
          repeat ((first | refine aI rfl ?_ | refine aI (by decide) ?_ | refine dI (by kernel_rfl) ?_ | refine aI ⟨by omega, by omega⟩ ?_ | refine aI (by omega) ?_ | refine aI (fun _ => ⟨by omega, by omega⟩) ?_ | refine aI (of_decide_eq_true rfl) ?_ | (refine yI ?_ ?_; focus (first | decide | (simp; done) | (simp [tcs]; done))) | (refine nI ?_ ?_; focus (first | decide | (simp; done) | (simp [tcs]; done)))); conv => whnf)
          all_goals (first | rfl | exact ⟨rfl, rfl⟩ | exact ⟨rfl, rfl, rfl⟩)
        · have hb2 : nmB (bAt s j) = true := by simpa using hc2
          conv => whnf
          refine ⟨⟨by omega, by omega⟩, ?_⟩
          conv => whnf
          refine ⟨m - 1, _, _, by omega, ⟨j + 1, by omega, fun i hi => ?_, rfl, rfl⟩, Wk.sl [] rfl trivial ⟨rfl, rfl, rfl, trivial⟩ rfl⟩
          by_cases hij : i < j
          · exact hall i hij
          · obtain rfl : i = j := by omega
            exact hb2
      · replace hl : ¬ (j : Int) < s.size := of_decide_eq_false hl
        rw [allN_yes (fun i hi => hall i (by omega))]
        conv => whnf
        repeat ((first | refine aI rfl ?_ | refine aI (by decide) ?_ | refine dI (by kernel_rfl) ?_ | refine aI ⟨by omega, by omega⟩ ?_ | refine aI (by omega) ?_ | refine aI (fun _ => ⟨by omega, by omega⟩) ?_ | refine aI (of_decide_eq_true rfl) ?_ | (refine yI ?_ ?_; focus (first | decide | (simp; done) | (simp [tcs]; done))) | (refine nI ?_ ?_; focus (first | decide | (simp; done) | (simp [tcs]; done)))); conv => whnf)
        all_goals (first | rfl | exact ⟨rfl, rfl⟩ | exact ⟨rfl, rfl, rfl⟩)
  · have hs : ¬ (1 ≤ s.size ∧ s.size ≤ 16) := by simp at hg; omega
    have hR : isSmallF s = false := by
      unfold isSmallF
      rw [← Bool.decide_and, decide_eq_false hs]
      rfl
    rw [hR]
    conv => whnf
    refine ⟨fun hc => ?_, fun hc => ?_⟩
    · conv => whnf
      repeat ((first | refine aI rfl ?_ | refine aI (by decide) ?_ | refine dI (by kernel_rfl) ?_ | refine aI ⟨by omega, by omega⟩ ?_ | refine aI (by omega) ?_ | refine aI (fun _ => ⟨by omega, by omega⟩) ?_ | refine aI (of_decide_eq_true rfl) ?_ | (refine yI ?_ ?_; focus (first | decide | (simp; done) | (simp [tcs]; done))) | (refine nI ?_ ?_; focus (first | decide | (simp; done) | (simp [tcs]; done)))); conv => whnf)
      all_goals (first | rfl | exact ⟨rfl, rfl⟩ | exact ⟨rfl, rfl, rfl⟩)
    · exfalso
      simp at hc
      try omega
theorem cIsSmall (s : ByteArray) : CallSt Try.prog 82 [.c (.str s)] [] (fun r H' => r = .c (.bool (isSmallF s)) ∧ H' = []) := by
  have h := cLexName s
  refine call_pure (E := env 0) (fn := Try.f82) (c := bodyOf Try.f82) (env_ok 0) mixed (by kernel_rfl) (by kernel_rfl) (by kernel_rfl) (by kernel_rfl) (by kernel_rfl) (by kernel_rfl) rfl ?_
  conv => whnf
  try (refine dI (by kernel_rfl) ?_; conv => whnf)
  first | refine CallSt.use h [] trivial (by decide) rfl ?_ | refine CallPt.useS h [] trivial (by decide) rfl ?_
  rintro _ _ ⟨rfl, rfl⟩ _
  conv => whnf
  repeat ((first | refine aI rfl ?_ | refine aI (by decide) ?_ | refine dI (by kernel_rfl) ?_ | refine aI ⟨by omega, by omega⟩ ?_ | refine aI (by omega) ?_ | refine aI (fun _ => ⟨by omega, by omega⟩) ?_ | refine aI (of_decide_eq_true rfl) ?_ | (refine yI ?_ ?_; focus (first | decide | (simp; done) | (simp [tcs]; done))) | (refine nI ?_ ?_; focus (first | decide | (simp; done) | (simp [tcs]; done)))); conv => whnf)
  all_goals (first | rfl | exact ⟨rfl, rfl⟩ | exact ⟨rfl, rfl, rfl⟩)
theorem cSignName (s : ByteArray) : CallSt Try.prog 73 [.c (.str s)] [] (fun r H' => r = .c (.bool (isSmallF s && !decide (s = ⟨#[116, 121, 112, 101]⟩))) ∧ H' = []) := by
  have h := cIsSmall s
  generalize isSmallF s = b at *
  cases b with
  | true =>
    refine call_pure (E := env 0) (fn := Try.f73) (c := bodyOf Try.f73) (env_ok 0) mixed (by kernel_rfl) (by kernel_rfl) (by kernel_rfl) (by kernel_rfl) (by kernel_rfl) (by kernel_rfl) rfl ?_
    conv => whnf
    try (refine dI (by kernel_rfl) ?_; conv => whnf)
    first | refine CallSt.use h [] trivial (by decide) rfl ?_ | refine CallPt.useS h [] trivial (by decide) rfl ?_
    rintro _ _ ⟨rfl, rfl⟩ _
    conv => whnf
    repeat ((first | refine aI rfl ?_ | refine aI (by decide) ?_ | refine dI (by kernel_rfl) ?_ | refine aI ⟨by omega, by omega⟩ ?_ | refine aI (by omega) ?_ | refine aI (fun _ => ⟨by omega, by omega⟩) ?_ | refine aI (of_decide_eq_true rfl) ?_ | (refine yI ?_ ?_; focus (first | decide | (simp; done) | (simp [tcs]; done))) | (refine nI ?_ ?_; focus (first | decide | (simp; done) | (simp [tcs]; done)))); conv => whnf)
    all_goals (first | rfl | exact ⟨rfl, rfl⟩ | exact ⟨rfl, rfl, rfl⟩)
  | false =>
    refine call_pure (E := env 0) (fn := Try.f73) (c := bodyOf Try.f73) (env_ok 0) mixed (by kernel_rfl) (by kernel_rfl) (by kernel_rfl) (by kernel_rfl) (by kernel_rfl) (by kernel_rfl) rfl ?_
    conv => whnf
    try (refine dI (by kernel_rfl) ?_; conv => whnf)
    first | refine CallSt.use h [] trivial (by decide) rfl ?_ | refine CallPt.useS h [] trivial (by decide) rfl ?_
    rintro _ _ ⟨rfl, rfl⟩ _
    conv => whnf
    repeat ((first | refine aI rfl ?_ | refine aI (by decide) ?_ | refine dI (by kernel_rfl) ?_ | refine aI ⟨by omega, by omega⟩ ?_ | refine aI (by omega) ?_ | refine aI (fun _ => ⟨by omega, by omega⟩) ?_ | refine aI (of_decide_eq_true rfl) ?_ | (refine yI ?_ ?_; focus (first | decide | (simp; done) | (simp [tcs]; done))) | (refine nI ?_ ?_; focus (first | decide | (simp; done) | (simp [tcs]; done)))); conv => whnf)
    all_goals (first | rfl | exact ⟨rfl, rfl⟩ | exact ⟨rfl, rfl, rfl⟩)
end Go.Tr
/- Names: the reference. -/
namespace Go.Tr
open Go.Proofs
end Go.Tr
/- term.proper. -/
namespace Go.Tr
open Go.Proofs
theorem Term.ind {C : Term → Prop} (h : ∀ t : Term, (∀ u ∈ t.ts, C u) → C t) : ∀ t, C t
  | .mk k l n ts => h _ fun u hu => Term.ind h u
  termination_by t => SizeOf.sizeOf t
  decreasing_by
  have := List.sizeOf_lt_of_mem (show u ∈ ts from hu)
  simp; omega
def headOk (k l n : Int) (m : Nat) : Bool :=
  (decide (k = 1) && (decide (l = 0) && decide (n = 0) && decide ((m : Int) = 0))) ||
  (decide (k = 2) && (decide (l = 0) && decide (n = 0) && decide ((m : Int) = 2))) ||
  (decide (k = 3) && (decide (l = 0) && decide (n = 0) && decide ((m : Int) = 1))) ||
  (decide (k = 4) && (decide (1 ≤ l) && decide (l ≤ 3) && decide (0 ≤ n) && decide (n ≤ 9999)))
mutual
def propT : Term → Int → Int → Bool × Int
  | .mk k l n ts, d, c => if 600 < c + 1 ∨ 40 < d then (false, c + 1) else
    match headOk k l n ts.length with
    | true => propL ts d (c + 1)
    | false => (false, c + 1)
def propL : List Term → Int → Int → Bool × Int
  | [], _, c => (true, c)
  | t :: r, d, c => match propT t (d + 1) c with
    | (true, c') => propL r d c'
    | (false, c') => (false, c')
end
theorem len_tcs : ∀ ts : List Term, (tcs ts).length = ts.length
  | [] => rfl
  | t :: r => by simp [tcs, len_tcs r]
theorem tcs_at : ∀ (ts : List Term) (i : Nat) (u : Term), ts[i]? = some u → (tcs ts)[i]? = some (tc u)
  | [], _, _, h => by simp at h
  | t :: r, 0, u, h => by simp at h; subst h; simp [tcs]
  | t :: r, i + 1, u, h => by simp only [tcs, List.getElem?_cons_succ]; exact tcs_at r i u (by simpa using h)
theorem propL_drop (ts : List Term) (i : Nat) (u : Term) (d c : Int) (h : ts[i]? = some u) : propL (ts.drop i) d c = match propT u (d + 1) c with
  | (true, c') => propL (ts.drop (i + 1)) d c'
  | (false, c') => (false, c') := by
  have hi := (List.getElem?_eq_some_iff.1 h).1
  have : ts.drop i = u :: ts.drop (i + 1) := by
    rw [List.drop_eq_getElem_cons hi]
    congr 1
    rw [List.getElem?_eq_getElem hi] at h
    injection h
  rw [this, propL]
mutual
theorem propT_bd : ∀ (t : Term) (d c : Int), 0 ≤ c ∧ c ≤ 600 → 0 ≤ (propT t d c).2 ∧ ((propT t d c).1 = true → (propT t d c).2 ≤ 600)
  | .mk k l n ts, d, c, hc => by
    unfold propT
    split
    · simp; omega
    · rename_i h
      split
      · exact propL_bd ts d (c + 1) (by omega)
      · simp; omega
theorem propL_bd : ∀ (ts : List Term) (d c : Int), 0 ≤ c ∧ c ≤ 600 → 0 ≤ (propL ts d c).2 ∧ ((propL ts d c).1 = true → (propL ts d c).2 ≤ 600)
  | [], d, c, hc => by simp [propL]; omega
  | t :: r, d, c, hc => by
    have h := propT_bd t (d + 1) c hc
    unfold propL
    generalize propT t (d + 1) c = x at *
    obtain ⟨b, c'⟩ := x
    cases b
    · simpa using h
    · exact propL_bd r d c' ⟨h.1, h.2 rfl⟩
end
theorem c47 (t : Term) : ∀ (d c : Int), 0 ≤ d ∧ d ≤ 41 → 0 ≤ c ∧ c ≤ 600 → CallSt Try.prog 66 [tv t, .c (.int .i64 d), .ptr 0 0] [.box [.c (.int .i64 c)]] (fun r H' => r = .c (.bool (propT t d c).1) ∧ H' = [.box [.c (.int .i64 (propT t d c).2)]]) := by
  induction t using Term.ind with
  | _ t ih =>
  intro d c hd hc
  obtain ⟨k, l, n, ts⟩ := t
  replace ih : ∀ u, u ∈ ts → _ := ih
  refine call_pure (E := env 1) (fn := Try.f66) (c := bodyOf Try.f66) (env_ok 1) mixed (by kernel_rfl) (by kernel_rfl) (by kernel_rfl) (by kernel_rfl) (by kernel_rfl) (by kernel_rfl) rfl ?_
  conv => whnf
  refine ⟨?_, ?_⟩
  · exact ⟨by omega, by omega⟩
  conv => whnf
  refine ⟨fun h1 => ?_, fun h1 => ?_⟩
  · conv => whnf
    refine ⟨rfl, ?_⟩
    conv => whnf
    refine ⟨rfl, ?_⟩
    simp only [Bool.or_eq_true, decide_eq_true_eq] at h1
    unfold propT
    rw [if_pos h1]
    exact ⟨rfl, rfl⟩
  simp only [Bool.or_eq_false_iff, decide_eq_false_iff_not] at h1
  conv => whnf
  intro hlen
  replace hlen : (tcs ts).length * 48 ≤ 140737488355328 := hlen
  rw [len_tcs] at hlen
  conv => whnf
  refine ⟨fun h2 => ?_, fun h2 => ?_⟩
  replace h2 : k = 1 := of_decide_eq_true h2
  rotate_left
  replace h2 : ¬ k = 1 := of_decide_eq_false h2
  conv => whnf
  refine ⟨fun h3 => ?_, fun h3 => ?_⟩
  replace h3 : k = 2 := of_decide_eq_true h3
  rotate_left
  replace h3 : ¬ k = 2 := of_decide_eq_false h3
  conv => whnf
  refine ⟨fun h4 => ?_, fun h4 => ?_⟩
  replace h4 : k = 3 := of_decide_eq_true h4
  rotate_left
  replace h4 : ¬ k = 3 := of_decide_eq_false h4
  conv => whnf
  refine ⟨fun h5 => ?_, fun h5 => ?_⟩
  replace h5 : k = 4 := of_decide_eq_true h5
  rotate_left
  replace h5 : ¬ k = 4 := of_decide_eq_false h5
  conv => whnf
  · refine ⟨rfl, ?_⟩
    conv => whnf
    refine ⟨rfl, ?_⟩
    unfold propT
    rw [if_neg (by omega), show headOk k l n ts.length = false by simp [headOk, h2, h3, h4, h5]]
    exact ⟨rfl, rfl⟩
  all_goals conv => whnf
  all_goals
    refine loop_intro (fun m tm H => ∃ (i : Nat) (b : Bool) (c' : Int), ts.length = m + i ∧ (0 ≤ c' ∧ (b = true → c' ≤ 600)) ∧ (match b with | true => propL (ts.drop i) d c' | false => (false, c')) = propT (.mk k l n ts) d c ∧
      tm = [(9, .c (.int .i64 i)), (8, .c (.bool b)), (7, .c (.int .i64 (tcs ts).length)), (3, .ptr 1 0), (1, .c (.int .i64 d)), (2, .ptr 0 0), (6, .c (.bool false))] ∧ H = [.box [.c (.int .i64 c')], .box [.c (.int .i64 k), .c (.int .i64 l), .c (.int .i64 n), .c (.sl 4 48 (tcs ts))]])
      ts.length _ _ ⟨0, _, _, by omega, ?_, ?_, rfl, rfl⟩ (Wk.sl [0, 1] rfl ⟨rfl, rfl, trivial⟩ ⟨rfl, rfl, rfl, rfl, rfl, rfl, rfl, trivial⟩ rfl) ?_
    · exact ⟨by omega, fun _ => by omega⟩
    · unfold propT
      rw [if_neg (by omega)]
      simp only [len_tcs, Term.l, Term.n, Term.ts, List.drop_zero, headOk]
      simp [*]
      rfl
    · rintro m tm H ⟨i, b, c', hi, hc', hR, rfl, rfl⟩
      conv => whnf
      refine ⟨fun hb => ?_, fun hb => ?_⟩
      · simp only [len_tcs, Bool.and_eq_true, decide_eq_true_eq] at hb
        obtain ⟨hb, rfl⟩ := hb
        have hlt : i < ts.length := by omega
        obtain ⟨u, hu⟩ : ∃ u, ts[i]? = some u := ⟨ts[i], List.getElem?_eq_getElem hlt⟩
        have hm := List.mem_of_getElem? hu
        have hd' := propL_drop ts i u d c' hu
        have hcd := propT_bd u (d + 1) c' ⟨hc'.1, hc'.2 rfl⟩
        have huc := tcs_at ts i u hu
        obtain ⟨k', l', n', us⟩ := u
        conv => whnf
        refine ⟨_, ⟨by omega, by simpa using huc⟩, ?_⟩
        conv => whnf
        refine ⟨Nat.le_refl 4, ?_⟩
        conv => whnf
        refine ⟨⟨by omega, by omega⟩, ?_⟩
        conv => whnf
        refine CallSt.use (ih _ hm (d + 1) c' ⟨by omega, by omega⟩ ⟨hc'.1, hc'.2 rfl⟩) [0] ⟨rfl, trivial⟩ (by decide) rfl ?_
        rintro _ _ ⟨rfl, rfl⟩ _
        conv => whnf
        refine ⟨⟨by omega, by omega⟩, ?_⟩
        conv => whnf
        refine ⟨m - 1, _, _, by omega, ⟨i + 1, _, _, by omega, hcd, ?_, rfl, rfl⟩, Wk.sl [0, 1] rfl ⟨rfl, rfl, trivial⟩ ⟨rfl, rfl, rfl, rfl, rfl, rfl, rfl, trivial⟩ rfl⟩
        rw [← hR]
        simp only
        rw [hd']
        generalize propT (Term.mk k' l' n' us) (d + 1) c' = x at *
        obtain ⟨y, z⟩ := x
        cases y <;> rfl
      · conv => whnf
        refine ⟨rfl, ?_⟩
        conv => whnf
        refine ⟨rfl, ?_⟩
        simp only [len_tcs, Bool.and_eq_false_iff, decide_eq_false_iff_not] at hb
        cases b with
        | false =>
          simp only at hR
          rw [← hR]
          exact ⟨rfl, rfl⟩
        | true =>
          have : ts.length ≤ i := by
            rcases hb with hb | hb
            · omega
            · cases hb
          rw [List.drop_eq_nil_of_le this] at hR
          simp only [propL] at hR
          rw [← hR]
          exact ⟨rfl, rfl⟩
end Go.Tr
/- Depths, nodes. -/
namespace Go.Tr
open Go.Proofs
def mx (a b : Int) : Int := if a < b then b else a
def mn (a b : Int) : Int := if b < a then b else a
mutual
def dpT : Term → Int
  | .mk _ _ _ ts => 1 + dpL ts
def dpL : List Term → Int
  | [] => 0
  | t :: r => mx (dpT t) (dpL r)
end
mutual
theorem dpT_pos : ∀ t : Term, 1 ≤ dpT t
  | .mk _ _ _ ts => by
    have := dpL_pos ts
    unfold dpT
    omega
theorem dpL_pos : ∀ ts : List Term, 0 ≤ dpL ts
  | [] => by simp [dpL]
  | t :: r => by
    have h1 := dpT_pos t
    have h2 := dpL_pos r
    unfold dpL mx
    split <;> omega
end
theorem drop_at {α : Type} {ts : List α} {i : Nat} {u : α} (h : ts[i]? = some u) : ts.drop i = u :: ts.drop (i + 1) := by
  have hi := (List.getElem?_eq_some_iff.1 h).1
  rw [List.drop_eq_getElem_cons hi]
  congr 1
  rw [List.getElem?_eq_getElem hi] at h
  injection h
theorem dpL_mem : ∀ (ts : List Term) (u : Term), u ∈ ts → dpT u ≤ dpL ts
  | [], u, h => by cases h
  | t :: r, u, h => by
    rcases List.mem_cons.1 h with rfl | h
    · unfold dpL mx; split <;> omega
    · have := dpL_mem r u h
      unfold dpL mx; split <;> omega
mutual
def ndT : Term → Int → Int
  | .mk _ _ _ ts, b => mn (ndL ts b 1) (b + 1)
def ndL : List Term → Int → Int → Int
  | [], _, n => n
  | t :: r, b, n => if n ≤ b then ndL r b (n + ndT t (b - n)) else n
end
mutual
theorem ndT_bd : ∀ (t : Term) (b : Int), 0 ≤ b → 1 ≤ ndT t b ∧ ndT t b ≤ b + 1
  | .mk _ _ _ ts, b, hb => by
    have := ndL_bd ts b 1 (by omega)
    unfold ndT mn
    split <;> omega
theorem ndL_bd : ∀ (ts : List Term) (b n : Int), 1 ≤ n ∧ n ≤ b + 1 → 1 ≤ ndL ts b n ∧ ndL ts b n ≤ b + 1
  | [], b, n, h => by simp only [ndL]; omega
  | t :: r, b, n, h => by
    unfold ndL
    split
    · have := ndT_bd t (b - n) (by omega)
      exact ndL_bd r b _ (by omega)
    · omega
end
def fmB (k l n : Int) (m : Nat) : Bool :=
  if k = 1 then !(!decide ((m : Int) = 0) || !decide (l = 0) || !decide (n = 0))
  else if k = 2 then !(!decide ((m : Int) = 2) || !decide (l = 0) || !decide (n = 0))
  else if k = 3 then !(!decide ((m : Int) = 1) || !decide (l = 0) || !decide (n = 0))
  else if k = 4 then !(decide (l < 1) || decide (3 < l) || decide (n < 0) || decide (9999 < n))
  else false
mutual
def fmT : Term → Int → Bool
  | .mk k l n ts, d => !decide (40 < d) && fmB k l n ts.length && fmL ts d
def fmL : List Term → Int → Bool
  | [], _ => true
  | t :: r, d => fmT t (d + 1) && fmL r d
end
end Go.Tr
/- Check, Size, Proper. -/
namespace Go.Tr
open Go.Proofs
def prop (t : Term) : Bool := (propT t 1 0).1
theorem c14 (t : Term) : CallSt Try.prog 43 [tv t] [] (fun r H' => r = .c (.int .i64 (if prop t then 0 else 2)) ∧ H' = []) := by
  obtain ⟨k, l, n, ts⟩ := t
  refine call_pure (E := env 0) (fn := Try.f43) (c := bodyOf Try.f43) (env_ok 0) mixed (by kernel_rfl) (by kernel_rfl) (by kernel_rfl) (by kernel_rfl) (by kernel_rfl) (by kernel_rfl) rfl ?_
  conv => whnf
  refine CallSt.use (c47 (.mk k l n ts) 1 0 (by omega) (by omega)) [1] ⟨rfl, trivial⟩ (by decide) rfl ?_
  rintro _ _ ⟨rfl, rfl⟩ _
  conv => whnf
  refine ⟨fun h => ?_, fun h => ?_⟩
  · conv => whnf
    refine ⟨rfl, ?_⟩
    conv => whnf
    refine ⟨rfl, ?_⟩
    rw [if_neg (by unfold prop; simpa using h)]
    exact ⟨rfl, rfl⟩
  · conv => whnf
    refine ⟨rfl, ?_⟩
    conv => whnf
    refine ⟨rfl, ?_⟩
    rw [if_pos (by unfold prop; simpa using h)]
    exact ⟨rfl, rfl⟩
mutual
theorem propT_dp : ∀ (t : Term) (d c : Int), (propT t d c).1 = true → dpT t ≤ 41 - d
  | .mk k l n ts, d, c, h => by
    unfold propT at h
    split at h
    · cases h
    · split at h
      · have := propL_dp ts d (c + 1) h (by omega)
        unfold dpT
        omega
      · cases h
theorem propL_dp : ∀ (ts : List Term) (d c : Int), (propL ts d c).1 = true → d ≤ 40 → dpL ts ≤ 40 - d
  | [], d, c, h, hd => by simp only [dpL]; omega
  | t :: r, d, c, h, hd => by
    have h1 := propT_dp t (d + 1) c
    unfold propL at h
    generalize propT t (d + 1) c = x at *
    obtain ⟨b, c'⟩ := x
    cases b
    · cases h
    · have h2 := propL_dp r d c' h hd
      have := h1 rfl
      unfold dpL mx
      split <;> omega
end
def rprop (t : Term) : Bool := decide (ndT t 600 ≤ 600) && fmT t 1
end Go.Tr
/- App, Lam, Under, Same, gives. -/
namespace Go.Tr
open Go.Proofs
theorem tv_mk (k l n : Int) (ts : List Term) : tv (.mk k l n ts) = .agg [.c (.int .i64 k), .c (.int .i64 l), .c (.int .i64 n), .c (.sl 4 48 (tcs ts))] := rfl
def unT (k i : Int) : Int := if k = 3 ∨ (k = 2 ∧ i = 1) then 1 else 0
theorem unT_bd (k i : Int) : 0 ≤ unT k i ∧ unT k i ≤ 1 := by unfold unT; split <;> omega
theorem c77 (t : Term) (i : Int) : CallSt Try.prog 83 [tv t, .c (.int .i64 i)] [] (fun r H' => r = .c (.int .i64 (unT t.k i)) ∧ H' = []) := by
  obtain ⟨k, l, n, ts⟩ := t
  rw [tv_mk]
  refine call_pure (E := env 0) (fn := Try.f83) (c := bodyOf Try.f83) (env_ok 0) mixed (by kernel_rfl) (by kernel_rfl) (by kernel_rfl) (by kernel_rfl) (by kernel_rfl) (by kernel_rfl) rfl ?_
  have key : (decide (k = 3) || (decide (k = 2) && decide (i = 1))) = decide (unT k i = 1) := by
    unfold unT
    by_cases h1 : k = 3 <;> by_cases h2 : k = 2 <;> by_cases h3 : i = 1 <;> simp [h1, h2, h3]
  conv => whnf
  refine ⟨fun h => ?_, fun h => ?_⟩
  · conv => whnf
    refine ⟨rfl, ?_⟩
    conv => whnf
    refine ⟨rfl, ?_⟩
    have h2 := of_decide_eq_true (key.symm.trans h)
    simp only [Term.k]
    rw [h2]
    exact ⟨rfl, rfl⟩
  · conv => whnf
    refine ⟨rfl, ?_⟩
    conv => whnf
    refine ⟨rfl, ?_⟩
    have h2 := of_decide_eq_false (key.symm.trans h)
    simp only [Term.k]
    rw [show unT k i = 0 by have := unT_bd k i; omega]
    exact ⟨rfl, rfl⟩
end Go.Tr
/- Each, Map. -/
namespace Go.Tr
open Go.Proofs
mutual
def eachT {σ : Type} (step : σ → Term → Int → σ) : Term → Int → σ → σ
  | .mk k l n ts, i, s => eachL step k i 0 ts (step s (.mk k l n ts) i)
def eachL {σ : Type} (step : σ → Term → Int → σ) (k i : Int) : Int → List Term → σ → σ
  | _, [], s => s
  | j, t :: r, s => eachL step k i (j + 1) r (eachT step t (i + unT k j) s)
end
theorem tcs_snoc (ts : List Term) (u : Term) : tcs ts ++ [tc u] = tcs (ts ++ [u]) := by
  induction ts with
  | nil => simp [tcs]
  | cons t r ih => simp only [tcs, List.cons_append, ih]
end Go.Tr
/- Shift. -/
namespace Go.Tr
open Go.Proofs
mutual
def bnT : Term → Prop
  | .mk _ _ n ts => (-1000000 ≤ n ∧ n ≤ 1000000) ∧ bnL ts
def bnL : List Term → Prop
  | [] => True
  | t :: r => bnT t ∧ bnL r
end
theorem bnL_mem : ∀ {ts : List Term}, bnL ts → ∀ u ∈ ts, bnT u
  | [], _, u, h => by cases h
  | t :: r, hb, u, h => by
    rw [bnL] at hb
    rcases List.mem_cons.1 h with rfl | h
    · exact hb.1
    · exact bnL_mem hb.2 u h
def okT (t : Term) (i : Int) : Prop := bnT t ∧ 0 ≤ i ∧ i + dpT t ≤ 1000000
theorem okT_step (t : Term) (i : Int) (h : okT t i) : (0 ≤ i ∧ i ≤ 1000000000) ∧ ∀ (j : Nat) u, t.ts[j]? = some u → okT u (i + unT t.k j) := by
  obtain ⟨h1, h2, h3⟩ := h
  have hp := dpT_pos t
  refine ⟨by omega, fun j u hu => ?_⟩
  obtain ⟨k, l, n, ts⟩ := t
  have hm := List.mem_of_getElem? hu
  simp only [Term.ts] at hm
  rw [bnT] at h1
  rw [dpT] at h3
  have hub := unT_bd k j
  have hd := dpL_mem ts u hm
  exact ⟨bnL_mem h1.2 u hm, by simp only [Term.k]; omega, by simp only [Term.k]; omega⟩
end Go.Tr
/- Shift; awake. -/
namespace Go.Tr
open Go.Proofs
theorem headOk_n {k l n : Int} {m : Nat} (h : headOk k l n m = true) : 0 ≤ n ∧ n ≤ 9999 := by
  simp only [headOk, Bool.or_eq_true, Bool.and_eq_true, decide_eq_true_eq] at h
  omega
mutual
theorem propT_bn : ∀ (t : Term) (d c : Int), (propT t d c).1 = true → bnT t
  | .mk k l n ts, d, c, h => by
    unfold propT at h
    split at h
    · cases h
    · split at h
      · rename_i hh
        have := headOk_n hh
        rw [bnT]
        exact ⟨by omega, propL_bn ts d (c + 1) h⟩
      · cases h
theorem propL_bn : ∀ (ts : List Term) (d c : Int), (propL ts d c).1 = true → bnL ts
  | [], d, c, h => by rw [bnL]; trivial
  | t :: r, d, c, h => by
    have h1 := propT_bn t (d + 1) c
    unfold propL at h
    generalize propT t (d + 1) c = x at *
    obtain ⟨b, c'⟩ := x
    cases b
    · cases h
    · rw [bnL]
      exact ⟨h1 rfl, propL_bn r d c' h⟩
end
theorem prop_ok {t : Term} (h : prop t = true) : okT t 0 := by
  have h1 := propT_bn t 1 0 h
  have h2 := propT_dp t 1 0 h
  exact ⟨h1, by omega, by omega⟩
def zT : Term := .mk 0 0 0 []
end Go.Tr
/- The law TermChecks. -/
namespace Go.Tr
open Go.Proofs
mutual
def szT : Term → Int
  | .mk _ _ _ ts => 1 + szL ts
def szL : List Term → Int
  | [] => 0
  | t :: r => szT t + szL r
end
mutual
theorem szT_pos : ∀ t : Term, 1 ≤ szT t
  | .mk _ _ _ ts => by have := szL_pos ts; unfold szT; omega
theorem szL_pos : ∀ ts : List Term, 0 ≤ szL ts
  | [] => by simp [szL]
  | t :: r => by have h1 := szT_pos t; have h2 := szL_pos r; unfold szL; omega
end
mutual
theorem ndT_sz : ∀ (t : Term) (b : Int), 0 ≤ b → (szT t ≤ b → ndT t b = szT t) ∧ (b < szT t → ndT t b = b + 1)
  | .mk k l n ts, b, hb => by
    have h := ndL_sz ts b 1 (by omega)
    have h2 := ndL_bd ts b 1 (by omega)
    unfold ndT szT mn
    constructor
    · intro h3
      rw [h.1 (by omega), if_neg (by omega)]
    · intro h3
      have := h.2 (by omega)
      split <;> omega
theorem ndL_sz : ∀ (ts : List Term) (b n : Int), 1 ≤ n ∧ n ≤ b + 1 → (n + szL ts ≤ b → ndL ts b n = n + szL ts) ∧ (b < n + szL ts → b < ndL ts b n)
  | [], b, n, hn => by simp only [ndL, szL]; omega
  | t :: r, b, n, hn => by
    have hp := szT_pos t
    have hr := szL_pos r
    unfold ndL szL
    by_cases h : n ≤ b
    · rw [if_pos h]
      have h1 := ndT_sz t (b - n) (by omega)
      by_cases h2 : szT t ≤ b - n
      · rw [h1.1 h2]
        have h3 := ndL_sz r b (n + szT t) (by omega)
        constructor
        · intro h4; rw [h3.1 (by omega)]; omega
        · intro h4; exact h3.2 (by omega)
      · rw [h1.2 (by omega)]
        have h3 := ndL_sz r b (n + (b - n + 1)) (by omega)
        constructor
        · intro h4; omega
        · intro h4; exact h3.2 (by omega)
    · rw [if_neg h]
      omega
end
theorem headOk_fmB (k l n : Int) (m : Nat) : headOk k l n m = fmB k l n m := by
  rw [Bool.eq_iff_iff]
  unfold headOk fmB
  simp only [Bool.or_eq_true, Bool.and_eq_true, decide_eq_true_eq]
  by_cases h1 : k = 1
  · rw [if_pos h1]
    simp only [Bool.not_eq_true', Bool.or_eq_false_iff, Bool.not_eq_false', decide_eq_true_eq]
    omega
  · rw [if_neg h1]
    by_cases h2 : k = 2
    · rw [if_pos h2]
      simp only [Bool.not_eq_true', Bool.or_eq_false_iff, Bool.not_eq_false', decide_eq_true_eq]
      omega
    · rw [if_neg h2]
      by_cases h3 : k = 3
      · rw [if_pos h3]
        simp only [Bool.not_eq_true', Bool.or_eq_false_iff, Bool.not_eq_false', decide_eq_true_eq]
        omega
      · rw [if_neg h3]
        by_cases h4 : k = 4
        · rw [if_pos h4]
          simp only [Bool.not_eq_true', Bool.or_eq_false_iff, decide_eq_false_iff_not]
          omega
        · rw [if_neg h4]
          simp only [Bool.false_eq_true, iff_false]
          omega
mutual
theorem propT_yes : ∀ (t : Term) (d c : Int), fmT t d = true → c + szT t ≤ 600 → propT t d c = (true, c + szT t)
  | .mk k l n ts, d, c, hf, hs => by
    have hp := szL_pos ts
    rw [szT] at hs ⊢
    unfold fmT at hf
    simp only [Bool.and_eq_true, Bool.not_eq_true', decide_eq_false_iff_not] at hf
    unfold propT
    rw [if_neg (by omega), headOk_fmB, hf.1.2]
    simp only
    rw [propL_yes ts d (c + 1) hf.2 (by omega)]
    congr 1
    omega
theorem propL_yes : ∀ (ts : List Term) (d c : Int), fmL ts d = true → c + szL ts ≤ 600 → propL ts d c = (true, c + szL ts)
  | [], d, c, _, _ => by simp [propL, szL]
  | t :: r, d, c, hf, hs => by
    have hp := szL_pos r
    rw [szL] at hs ⊢
    unfold fmL at hf
    simp only [Bool.and_eq_true] at hf
    unfold propL
    rw [propT_yes t (d + 1) c hf.1 (by omega)]
    simp only
    rw [propL_yes r d _ hf.2 (by omega)]
    congr 1
    omega
end
mutual
theorem propT_no : ∀ (t : Term) (d c : Int), 0 ≤ c → c ≤ 600 → (propT t d c).1 = true → fmT t d = true ∧ c + szT t ≤ 600 ∧ (propT t d c).2 = c + szT t
  | .mk k l n ts, d, c, h0, hc, h => by
    unfold propT at h ⊢
    split at h
    · cases h
    · rename_i hn
      rw [if_neg hn]
      split at h
      · rename_i hh
        have := propL_no ts d (c + 1) (by omega) (by omega) h
        rw [szT, fmT, ← headOk_fmB, hh, this.1]
        refine ⟨by simp; omega, by omega, by omega⟩
      · cases h
theorem propL_no : ∀ (ts : List Term) (d c : Int), 0 ≤ c → c ≤ 600 → (propL ts d c).1 = true → fmL ts d = true ∧ c + szL ts ≤ 600 ∧ (propL ts d c).2 = c + szL ts
  | [], d, c, h0, hc, h => by simp only [fmL, szL, propL, true_and]; omega
  | t :: r, d, c, h0, hc, h => by
    have h1 := propT_no t (d + 1) c h0 hc
    have hb := propT_bd t (d + 1) c ⟨h0, hc⟩
    unfold propL at h ⊢
    generalize propT t (d + 1) c = x at *
    obtain ⟨b, c'⟩ := x
    cases b
    · cases h
    · simp only at h ⊢
      obtain ⟨a1, a2, a3⟩ := h1 rfl
      simp only at a3 hb
      have h2 := propL_no r d c' (by omega) (hb.2 trivial) h
      rw [fmL, szL, a1, h2.1]
      refine ⟨rfl, by omega, by omega⟩
end
theorem prop_rprop (t : Term) : prop t = rprop t := by
  rw [Bool.eq_iff_iff]
  unfold prop rprop
  simp only [Bool.and_eq_true, decide_eq_true_eq]
  have hs := ndT_sz t 600 (by omega)
  constructor
  · intro h
    obtain ⟨h1, h2, h3⟩ := propT_no t 1 0 (by omega) (by omega) h
    exact ⟨by rw [hs.1 (by omega)]; omega, h1⟩
  · rintro ⟨h1, h2⟩
    have : szT t ≤ 600 := by
      rcases Int.lt_or_le 600 (szT t) with h | h
      · have := hs.2 h; omega
      · exact h
    rw [propT_yes t 1 0 h2 (by omega)]
end Go.Tr
/- The reference's Shift. -/
namespace Go.Tr
open Go.Proofs
end Go.Tr
/- The reference's moved. -/
namespace Go.Tr
open Go.Proofs
end Go.Tr
/- The reference's Shift; the law TermShifts, but for the plain law. -/
namespace Go.Tr
open Go.Proofs
end Go.Tr
/- The plain law of TermShifts. -/
namespace Go.Tr
open Go.Proofs
end Go.Tr
/- The law TermShifts. -/
namespace Go.Tr
open Go.Proofs
end Go.Tr
/- TermFull. -/
namespace Go.Tr
open Go.Proofs
end Go.Tr
/- Same, SameSimple: both sides. -/
namespace Go.Tr
open Go.Proofs
inductive Smp where
  | mk (ys : List Smp) (c : Int)
namespace Smp
def xs : Smp → List Smp | mk a _ => a
def c : Smp → Int | mk _ a => a
end Smp
theorem Smp.ind {C : Smp → Prop} (h : ∀ t : Smp, (∀ u ∈ t.xs, C u) → C t) : ∀ t, C t
  | .mk ys c => h _ fun u hu => Smp.ind h u
  termination_by t => SizeOf.sizeOf t
  decreasing_by
  have := List.sizeOf_lt_of_mem (show u ∈ ys from hu)
  simp; omega
end Go.Tr
/- Domains. -/
namespace Go.Tr
open Go.Proofs
def domT : Term → List Term × Term
  | .mk k l n ts => match ts with
    | a :: b :: r => if k = 2 then (a :: (domT b).1, (domT b).2) else ([], .mk k l n (a :: b :: r))
    | ts => ([], .mk k l n ts)
  termination_by t => SizeOf.sizeOf t
  decreasing_by all_goals (simp; omega)
theorem domT_pi (l n : Int) (a b : Term) (r : List Term) : domT (.mk 2 l n (a :: b :: r)) = (a :: (domT b).1, (domT b).2) := by rw [domT]; simp
theorem domT_no {t : Term} (h : t.k ≠ 2) : domT t = ([], t) := by
  obtain ⟨k, l, n, ts⟩ := t
  replace h : k ≠ 2 := h
  match ts with
  | [] => rw [domT]; simp
  | [a] => rw [domT]; simp
  | a :: b :: r => rw [domT, if_neg h]
theorem fm_pi {l n d : Int} {ts : List Term} (h : fmT (.mk 2 l n ts) d = true) : l = 0 ∧ n = 0 ∧ ∃ a b, ts = [a, b] ∧ fmT a (d + 1) = true ∧ fmT b (d + 1) = true := by
  unfold fmT at h
  simp only [Bool.and_eq_true] at h
  obtain ⟨⟨h1, h2⟩, h3⟩ := h
  unfold fmB at h2
  have h4 : ts.length = 2 ∧ l = 0 ∧ n = 0 := by
    rw [if_neg (by decide), if_pos rfl] at h2
    simp at h2
    omega
  obtain ⟨h4, h5, h6⟩ := h4
  refine ⟨h5, h6, ?_⟩
  match ts, h4 with
  | [a, b], _ =>
    refine ⟨a, b, rfl, ?_⟩
    simp only [fmL, Bool.and_eq_true] at h3
    exact ⟨h3.1, h3.2.1⟩
theorem fm_d {t : Term} {d : Int} (h : fmT t d = true) : d ≤ 40 := by
  obtain ⟨k, l, n, ts⟩ := t
  unfold fmT at h
  simp only [Bool.and_eq_true, decide_eq_true_eq, Bool.not_eq_true', decide_eq_false_iff_not] at h
  omega
theorem dom_ind {C : Term → Int → Prop} (h1 : ∀ t d, t.k ≠ 2 → fmT t d = true → C t d) (h2 : ∀ a b d, fmT a (d + 1) = true → fmT b (d + 1) = true → d ≤ 40 → C b (d + 1) → C (.mk 2 0 0 [a, b]) d) :
    ∀ (n : Nat) (t : Term) (d : Int), SizeOf.sizeOf t ≤ n → fmT t d = true → C t d := by
  intro n
  induction n with
  | zero => intro t d hn; cases t; simp at hn
  | succ n ih =>
    intro t d hn h
    obtain ⟨k, l, x, ts⟩ := t
    by_cases hk : k = 2
    · subst hk
      obtain ⟨rfl, rfl, a, b, rfl, ha, hb⟩ := fm_pi h
      exact h2 a b d ha hb (fm_d h) (ih b (d + 1) (by simp at hn; omega) hb)
    · exact h1 _ d hk h
theorem dom_len (t : Term) (d : Int) (h : fmT t d = true) : (domT t).1.length + d ≤ 41 := by
  refine dom_ind (C := fun t d => (domT t).1.length + d ≤ 41) (fun t d hk h => ?_) (fun a b d ha hb hd ih => ?_) _ t d (Nat.le_refl _) h
  · rw [domT_no hk]
    have := fm_d h
    simp; omega
  · rw [domT_pi]
    simp only [List.length_cons]
    omega
theorem dom_mem (t : Term) (d : Int) (h : fmT t d = true) : ∀ u ∈ (domT t).1, SizeOf.sizeOf u < SizeOf.sizeOf t ∧ ∃ d', fmT u d' = true ∧ d ≤ d' := by
  refine dom_ind (C := fun t d => ∀ u ∈ (domT t).1, SizeOf.sizeOf u < SizeOf.sizeOf t ∧ ∃ d', fmT u d' = true ∧ d ≤ d') (fun t d hk h => ?_) (fun a b d ha hb hd ih => ?_) _ t d (Nat.le_refl _) h
  · rw [domT_no hk]
    simp
  · rw [domT_pi]
    intro u hu
    rcases List.mem_cons.1 hu with rfl | hu
    · exact ⟨by simp; omega, d + 1, ha, by omega⟩
    · obtain ⟨h1, d', h2, h3⟩ := ih u hu
      exact ⟨by simp; omega, d', h2, by omega⟩
theorem dom_rest (t : Term) (d : Int) (h : fmT t d = true) : (domT t).2.k ≠ 2 ∧ SizeOf.sizeOf (domT t).2 ≤ SizeOf.sizeOf t ∧ ∃ d', fmT (domT t).2 d' = true ∧ d ≤ d' := by
  refine dom_ind (C := fun t d => (domT t).2.k ≠ 2 ∧ SizeOf.sizeOf (domT t).2 ≤ SizeOf.sizeOf t ∧ ∃ d', fmT (domT t).2 d' = true ∧ d ≤ d') (fun t d hk h => ?_) (fun a b d ha hb hd ih => ?_) _ t d (Nat.le_refl _) h
  · rw [domT_no hk]
    exact ⟨hk, Nat.le_refl _, d, h, by omega⟩
  · rw [domT_pi]
    obtain ⟨h1, h2, d', h3, h4⟩ := ih
    exact ⟨h1, by simp at *; omega, d', h3, by omega⟩
theorem c68 (t : Term) (d : Int) (h : fmT t d = true) (hd : 0 ≤ d) : CallSt Try.prog 47 [tv t] [] (fun r H' => r = .tup [.c (.sl 4 48 (tcs (domT t).1)), tv (domT t).2] ∧ H' = []) := by
  have hlen := dom_len t d h
  have hz := SizeOf.sizeOf t
  generalize hT : t = T at *
  subst hT
  obtain ⟨k, l, n, ts⟩ := t
  rw [tv_mk]
  refine call_pure (E := env 0) (fn := Try.f47) (c := bodyOf Try.f47) (env_ok 0) mixed (by kernel_rfl) (by kernel_rfl) (by kernel_rfl) (by kernel_rfl) (by kernel_rfl) (by kernel_rfl) rfl ?_
  conv => whnf
  refine loop_intro (fun m tm H => ∃ (k' l' n' : Int) (ts' pre : List Term) (d' : Int), SizeOf.sizeOf (Term.mk k' l' n' ts') ≤ m ∧ fmT (.mk k' l' n' ts') d' = true ∧ pre ++ (domT (.mk k' l' n' ts')).1 = (domT (.mk k l n ts)).1 ∧ (domT (.mk k' l' n' ts')).2 = (domT (.mk k l n ts)).2 ∧
      tm = [(4, .own 2), (1, .ptr 0 0), (3, .ptr 1 0)] ∧ H = [.box [.c (.int .i64 (k')), .c (.int .i64 (l')), .c (.int .i64 (n')), .c (.sl 4 48 (tcs ts'))], .box [.c (.int .i64 (0)), .c (.int .i64 (0)), .c (.int .i64 (0)), .nil], .row 49 4 48 (tcs pre)])
      (SizeOf.sizeOf (Term.mk k l n ts)) _ _ ⟨k, l, n, ts, [], d, Nat.le_refl _, h, rfl, rfl, rfl, rfl⟩ ?_ ?_
  · refine Wk.trans (tm1 := [(1, .ptr 0 0), (3, .ptr 1 0), (4, .nil)]) (H1 := [.box [.c (.int .i64 (k)), .c (.int .i64 (l)), .c (.int .i64 (n)), .c (.sl 4 48 (tcs ts))], .box [.c (.int .i64 (0)), .c (.int .i64 (0)), .c (.int .i64 (0)), .nil]]) ?_ (Wk.trans (Wk.niltmp 4 49 4 48 rfl rfl) ?_)
    · exact Wk.sl [0, 1] rfl ⟨rfl, rfl, trivial⟩ ⟨rfl, rfl, rfl, trivial⟩ rfl
    · exact Wk.sl [0, 1, 2] rfl ⟨rfl, rfl, rfl, trivial⟩ ⟨rfl, rfl, rfl, trivial⟩ rfl
  rintro m tm H ⟨k', l', n', ts', pre, d', hm, hf, hpre, hrest, rfl, rfl⟩
  conv => whnf
  refine ⟨fun hc => ?_, fun hc => ?_⟩
  · replace hc : k' = 2 := of_decide_eq_true hc
    subst hc
    obtain ⟨rfl, rfl, a, b, rfl, ha, hb⟩ := fm_pi hf
    rw [domT_pi] at hpre hrest
    have hl1 : (tcs pre).length ≤ 41 := by
      rw [len_tcs]
      have := congrArg List.length hpre
      simp at this
      omega
    obtain ⟨a1, a2, a3, a4⟩ := a
    obtain ⟨b1, b2, b3, b4⟩ := b
    conv => whnf
    refine ⟨_, ⟨by decide, rfl⟩, ?_⟩
    conv => whnf
    refine ⟨Nat.le_refl 4, ?_⟩
    conv => whnf
    refine ⟨by decide, ?_⟩
    conv => whnf
    refine ⟨by decide, ?_⟩
    conv => whnf
    have hl2 : ((tcs pre).length + 1) * 48 ≤ 140737488355328 := by omega
    have hl3 : (tcs pre).length + 1 ≤ 9223372036854775807 := by omega
    refine ⟨hl2, hl3, ?_⟩
    conv => whnf
    refine ⟨_, ⟨by decide, rfl⟩, ?_⟩
    conv => whnf
    refine ⟨Nat.le_refl 4, ?_⟩
    conv => whnf
    refine ⟨SizeOf.sizeOf (Term.mk b1 b2 b3 b4), _, _, ?_, ⟨b1, b2, b3, b4, pre ++ [.mk a1 a2 a3 a4], d' + 1, Nat.le_refl _, hb, ?_, hrest, rfl, rfl⟩, Wk.sl [0, 1, 4] rfl ⟨rfl, rfl, ?_, trivial⟩ ⟨rfl, rfl, rfl, trivial⟩ rfl⟩
    · simp at hm ⊢; omega
    · rw [← hpre, List.append_assoc]; rfl
    · rw [← tcs_snoc]; rfl
  · replace hc : ¬ k' = 2 := of_decide_eq_false hc
    rw [domT_no (t := .mk k' l' n' ts') hc] at hpre hrest
    simp only [List.append_nil] at hpre
    rw [← hpre, ← hrest]
    conv => whnf
    repeat ((first | refine aI rfl ?_ | refine aI (by decide) ?_ | refine dI (by kernel_rfl) ?_ | refine aI ⟨by omega, by omega⟩ ?_ | refine aI (by omega) ?_ | refine aI (fun _ => ⟨by omega, by omega⟩) ?_ | refine aI (of_decide_eq_true rfl) ?_ | (refine yI ?_ ?_; focus (first | decide | (simp; done) | (simp [tcs]; done))) | (refine nI ?_ ?_; focus (first | decide | (simp; done) | (simp [tcs]; done)))); conv => whnf)
    all_goals (first | rfl | exact ⟨rfl, rfl⟩ | exact ⟨rfl, rfl, rfl⟩)
end Go.Tr
/- Declarations; kind, target, Family. -/
namespace Go.Tr
open Go.Proofs
structure Dcl where
  s : ByteArray
  c : Term
  i : Int
def dc (d : Dcl) : List CV := [.str d.s, .int .i64 d.c.k, .int .i64 d.c.l, .int .i64 d.c.n, .sl 4 48 (tcs d.c.ts), .int .i64 d.i]
def dv (d : Dcl) : AV := .agg [.c (.str d.s), .c (.int .i64 (d.c.k)), .c (.int .i64 (d.c.l)), .c (.int .i64 (d.c.n)), .c (.sl 4 48 (tcs d.c.ts)), .c (.int .i64 (d.i))]
def dcs (l : List Dcl) : List (List CV) := l.map dc
theorem len_dcs (l : List Dcl) : (dcs l).length = l.length := by simp [dcs]
theorem dcs_at {l : List Dcl} {i : Nat} {d : Dcl} (h : l[i]? = some d) : (dcs l)[i]? = some (dc d) := by simp [dcs, h]
theorem prop_fm1 {t : Term} (h : prop t = true) : fmT t 1 = true := by
  rw [prop_rprop] at h
  simp only [rprop, Bool.and_eq_true] at h
  exact h.2
def kindT (t : Term) : Bool := decide ((domT t).2.k = 1)
def targOk (t : Term) : Bool := decide ((domT t).2.k = 4) && decide ((domT t).2.l = 2)
theorem cKind (t : Term) (h : prop t = true) : CallSt Try.prog 63 [tv t] [] (fun r H' => r = .c (.bool (kindT t)) ∧ H' = []) := by
  have hd := c68 t 1 (prop_fm1 h) (by omega)
  unfold kindT
  generalize domT t = p at *
  obtain ⟨L, rest⟩ := p
  obtain ⟨k2, l2, n2, ts2⟩ := rest
  clear h
  obtain ⟨k, l, n, ts⟩ := t
  rw [tv_mk] at *
  dsimp only at *
  refine call_pure (E := env 0) (fn := Try.f63) (c := bodyOf Try.f63) (env_ok 0) mixed (by kernel_rfl) (by kernel_rfl) (by kernel_rfl) (by kernel_rfl) (by kernel_rfl) (by kernel_rfl) rfl ?_
  conv => whnf
  try (refine dI (by kernel_rfl) ?_; conv => whnf)
  first | refine CallSt.use hd [] trivial (by decide) rfl ?_ | refine CallPt.useS hd [] trivial (by decide) rfl ?_
  rintro _ _ ⟨rfl, rfl⟩ _
  conv => whnf
  repeat ((first | refine aI rfl ?_ | refine aI (by decide) ?_ | refine dI (by kernel_rfl) ?_ | refine aI ⟨by omega, by omega⟩ ?_ | refine aI (by omega) ?_ | refine aI (fun _ => ⟨by omega, by omega⟩) ?_ | refine aI (of_decide_eq_true rfl) ?_ | (refine yI ?_ ?_; focus (first | decide | (simp; done) | (simp [tcs]; done))) | (refine nI ?_ ?_; focus (first | decide | (simp; done) | (simp [tcs]; done)))); conv => whnf)
  all_goals (first | rfl | exact ⟨rfl, rfl⟩ | exact ⟨rfl, rfl, rfl⟩)
theorem cTarget (t : Term) (h : prop t = true) : CallSt Try.prog 71 [tv t] [] (fun r H' => r = .tup [.c (.int .i64 ((domT t).2.n)), .c (.bool (targOk t))] ∧ H' = []) := by
  have hd := c68 t 1 (prop_fm1 h) (by omega)
  unfold targOk
  generalize domT t = p at *
  obtain ⟨L, rest⟩ := p
  obtain ⟨k2, l2, n2, ts2⟩ := rest
  clear h
  obtain ⟨k, l, n, ts⟩ := t
  rw [tv_mk] at *
  dsimp only at *
  refine call_pure (E := env 0) (fn := Try.f71) (c := bodyOf Try.f71) (env_ok 0) mixed (by kernel_rfl) (by kernel_rfl) (by kernel_rfl) (by kernel_rfl) (by kernel_rfl) (by kernel_rfl) rfl ?_
  conv => whnf
  try (refine dI (by kernel_rfl) ?_; conv => whnf)
  first | refine CallSt.use hd [] trivial (by decide) rfl ?_ | refine CallPt.useS hd [] trivial (by decide) rfl ?_
  rintro _ _ ⟨rfl, rfl⟩ _
  conv => whnf
  repeat ((first | refine aI rfl ?_ | refine aI (by decide) ?_ | refine dI (by kernel_rfl) ?_ | refine aI ⟨by omega, by omega⟩ ?_ | refine aI (by omega) ?_ | refine aI (fun _ => ⟨by omega, by omega⟩) ?_ | refine aI (of_decide_eq_true rfl) ?_ | (refine yI ?_ ?_; focus (first | decide | (simp; done) | (simp [tcs]; done))) | (refine nI ?_ ?_; focus (first | decide | (simp; done) | (simp [tcs]; done)))); conv => whnf)
  all_goals (first | rfl | exact ⟨rfl, rfl⟩ | exact ⟨rfl, rfl, rfl⟩)
theorem cFamily (l : List Dcl) (n : Nat) (d : Dcl) (hd : l[n]? = some d) (hp : prop d.c = true) : CallSt Try.prog 36 [.c (.sl 6 72 (dcs l)), .c (.int .i64 (n))] [] (fun r H' => r = .c (.bool (kindT d.c)) ∧ H' = []) := by
  have hk := cKind d.c hp
  have hc := dcs_at hd
  generalize kindT d.c = b at *
  clear hp
  obtain ⟨s, ⟨k, m, x, ts⟩, i⟩ := d
  rw [tv_mk] at *
  refine call_pure (E := env 0) (fn := Try.f36) (c := bodyOf Try.f36) (env_ok 0) mixed (by kernel_rfl) (by kernel_rfl) (by kernel_rfl) (by kernel_rfl) (by kernel_rfl) (by kernel_rfl) rfl ?_
  conv => whnf
  refine ⟨_, ⟨by omega, by simpa using hc⟩, ?_⟩
  conv => whnf
  refine ⟨show 4 ≤ 5 by decide, ?_⟩
  conv => whnf
  try (refine dI (by kernel_rfl) ?_; conv => whnf)
  first | refine CallSt.use hk [] trivial (by decide) rfl ?_ | refine CallPt.useS hk [] trivial (by decide) rfl ?_
  rintro _ _ ⟨rfl, rfl⟩ _
  conv => whnf
  repeat ((first | refine aI rfl ?_ | refine aI (by decide) ?_ | refine dI (by kernel_rfl) ?_ | refine aI ⟨by omega, by omega⟩ ?_ | refine aI (by omega) ?_ | refine aI (fun _ => ⟨by omega, by omega⟩) ?_ | refine aI (of_decide_eq_true rfl) ?_ | (refine yI ?_ ?_; focus (first | decide | (simp; done) | (simp [tcs]; done))) | (refine nI ?_ ?_; focus (first | decide | (simp; done) | (simp [tcs]; done)))); conv => whnf)
  all_goals (first | rfl | exact ⟨rfl, rfl⟩ | exact ⟨rfl, rfl, rfl⟩)
def nodeOk (m : Int) (t : Term) (i : Int) : Bool := (!decide (t.l = 3)) && (!decide (t.l = 1) || decide (t.n < i)) && (!decide (t.l = 2) || decide (t.n < m))
def fmStep (m : Int) (b : Bool) (t : Term) (i : Int) : Bool := match decide (t.k = 4) with | true => b && nodeOk m t i | false => b
theorem cFormed1 (sig : List Dcl) (b : Bool) (t : Term) (i : Int) : CallSt Try.prog 75 [tv t, .c (.int .i64 (i)), .ptr 0 0, .ptr 1 0] [.box [.c (.bool b)], .box [.c (.sl 6 72 (dcs sig))]]
    (fun r H' => r = .tup [] ∧ H' = [.box [.c (.bool (fmStep sig.length b t i))], .box [.c (.sl 6 72 (dcs sig))]]) := by
  have e1 : t.k = 4 → fmStep sig.length b t i = (b && nodeOk sig.length t i) := fun h => by simp [fmStep, h]
  have e2 : ¬ t.k = 4 → fmStep sig.length b t i = b := fun h => by simp [fmStep, h]
  have hl := len_dcs sig
  obtain ⟨k, l, n, ts⟩ := t
  simp only [Term.k] at e1 e2
  rw [tv_mk]
  refine call_pure (E := env 2) (fn := Try.f75) (c := bodyOf Try.f75) (env_ok 2) mixed (by kernel_rfl) (by kernel_rfl) (by kernel_rfl) (by kernel_rfl) (by kernel_rfl) (by kernel_rfl) rfl ?_
  conv => whnf
  refine ⟨fun hc => ?_, fun hc => ?_⟩
  · replace hc : ¬ k = 4 := by simpa using hc
    rw [e2 hc]
    conv => whnf
    repeat ((first | refine aI rfl ?_ | refine aI (by decide) ?_ | refine dI (by kernel_rfl) ?_ | refine aI ⟨by omega, by omega⟩ ?_ | refine aI (by omega) ?_ | refine aI (fun _ => ⟨by omega, by omega⟩) ?_ | refine aI (of_decide_eq_true rfl) ?_ | (refine yI ?_ ?_; focus (first | decide | (simp; done) | (simp [tcs]; done))) | (refine nI ?_ ?_; focus (first | decide | (simp; done) | (simp [tcs]; done)))); conv => whnf)
    all_goals (first | rfl | exact ⟨rfl, rfl⟩ | exact ⟨rfl, rfl, rfl⟩)
  · replace hc : k = 4 := by simpa using hc
    rw [e1 hc]
    conv => whnf
    intro _
    conv => whnf
    refine ⟨rfl, rfl, rfl, congrArg (fun z => [Ent.box [.c (.bool z)], Ent.box [.c (.sl 6 72 (dcs sig))]]) ?_⟩
    change _ = (b && ((!decide (l = 3)) && (!decide (l = 1) || decide (n < i)) && (!decide (l = 2) || decide (n < (sig.length : Int)))))
    rw [Bool.eq_iff_iff]
    simp only [hl, Bool.and_eq_true, Bool.or_eq_true, Bool.not_eq_true', decide_eq_true_eq, decide_eq_false_iff_not, and_assoc]
end Go.Tr
/- Each over a map's entry. -/
namespace Go.Tr
open Go.Proofs
end Go.Tr
/- The library's functions at the seat: maps.Keys, slices.Sorted, slices.Sort. -/
namespace Go.Proofs
open Go.RowKit Go.Maps Go.Sort Go.Shelf
end Go.Proofs
/- slices.Sorted of a map's keys. -/
namespace Go.Tr
open Go.Proofs Go.Shelf
def rowI (l : List Int) : List (List CV) := l.map fun x => [.int .i64 x]
end Go.Tr
/- Free, Constants, Metas: the program's side. -/
namespace Go.Tr
open Go.Proofs
theorem len_rowI (l : List Int) : (rowI l).length = l.length := by simp [rowI]
theorem rowI_at {l : List Int} {i : Nat} {x : Int} (h : l[i]? = some x) : (rowI l)[i]? = some [.int .i64 x] := by simp [rowI, h]
end Go.Tr
/- The reference's put, heads. -/
namespace Go.Tr
open Go.Proofs
end Go.Tr
/- What the program's map holds is what the reference's list holds. -/
namespace Go.Tr
open Go.Proofs
end Go.Tr
/- formed: Each over two boxes; the plain facts. -/
namespace Go.Tr
open Go.Proofs
theorem cEach2 {σ : Type} (f : FuncId) (y : CV) (x : σ → Bool) (step : σ → Term → Int → σ) (ok : Term → Int → Prop) (hok : ∀ t i, ok t i → (0 ≤ i ∧ i ≤ 1000000000) ∧ ∀ (j : Nat) u, t.ts[j]? = some u → ok u (i + unT t.k j))
    (hf : ∀ s t i, ok t i → CallSt Try.prog f [tv t, .c (.int .i64 (i)), .ptr 0 0, .ptr 1 0] [.box [.c (.bool (x s))], .box [.c y]] (fun r H' => r = .tup [] ∧ H' = [.box [.c (.bool (x (step s t i)))], .box [.c y]])) (t : Term) :
    ∀ (i : Int) (s : σ), ok t i → CallSt Try.prog 74 [tv t, .c (.int .i64 (i)), .fn f [.ptr 0 0, .ptr 1 0]] [.box [.c (.bool (x s))], .box [.c y]] (fun r H' => r = .tup [] ∧ H' = [.box [.c (.bool (x (eachT step t i s)))], .box [.c y]]) := by
  induction t using Term.ind with
  | _ t ih =>
  intro i s hti
  have hff := hf s t i hti
  obtain ⟨hib, hch⟩ := hok t i hti
  obtain ⟨k, l, n, ts⟩ := t
  replace ih : ∀ u, u ∈ ts → _ := ih
  rw [tv_mk]
  refine call_pure (E := env 2) (fn := Try.f74) (c := bodyOf Try.f74) (env_ok 2) mixed (by kernel_rfl) (by kernel_rfl) (by kernel_rfl) (by kernel_rfl) (by kernel_rfl) (by kernel_rfl) rfl ?_
  conv => whnf
  try (refine dI (by kernel_rfl) ?_; conv => whnf)
  first | refine CallSt.use hff [0, 1] ⟨rfl, rfl, trivial⟩ (by decide) rfl ?_ | refine CallPt.useS hff [0, 1] ⟨rfl, rfl, trivial⟩ (by decide) rfl ?_
  rintro _ _ ⟨rfl, rfl⟩ _
  conv => whnf
  intro hlen
  replace hlen : (tcs ts).length * 48 ≤ 140737488355328 := hlen
  rw [len_tcs] at hlen
  conv => whnf
  refine loop_intro (fun m tm H => ∃ (j : Nat) (s' : σ), ts.length = m + j ∧ eachL step k i j (ts.drop j) s' = eachT step (.mk k l n ts) i s ∧
      tm = [(15, .c (.int .i64 (j))), (13, .c (.sl 4 48 (tcs ts))), (14, .c (.int .i64 ((tcs ts).length))), (1, .c (.int .i64 (i))), (2, .fn f [.ptr 0 0, .ptr 1 0]), (3, .ptr 2 0)] ∧
      H = [.box [.c (.bool (x s'))], .box [.c y], .box [.c (.int .i64 (k)), .c (.int .i64 (l)), .c (.int .i64 (n)), .c (.sl 4 48 (tcs ts))]])
      ts.length _ _ ⟨0, _, by omega, rfl, rfl, rfl⟩ (Wk.sl [0, 1, 2] rfl ⟨rfl, rfl, rfl, trivial⟩ ⟨rfl, rfl, rfl, rfl, rfl, rfl, trivial⟩ rfl) ?_
  rintro m tm H ⟨j, s', hj, hR, rfl, rfl⟩
  conv => whnf
  refine ⟨fun hc => ?_, fun hc => ?_⟩
  · replace hc : (j : Int) < (tcs ts).length := of_decide_eq_true hc
    rw [len_tcs] at hc
    have hlt : j < ts.length := by omega
    obtain ⟨u, hu⟩ : ∃ u, ts[j]? = some u := ⟨ts[j], List.getElem?_eq_getElem hlt⟩
    have hm := List.mem_of_getElem? hu
    have huc := tcs_at ts j u hu
    have hcc := ih u hm (i + unT k j) s' (hch j u hu)
    have hun := c77 (.mk k l n ts) j
    have hub := unT_bd k j
    rw [drop_at hu, eachL] at hR
    obtain ⟨k', l', n', us⟩ := u
    conv => whnf
    refine ⟨_, ⟨by omega, by simpa using huc⟩, ?_⟩
    conv => whnf
    refine ⟨Nat.le_refl 4, ?_⟩
    conv => whnf
    try (refine dI (by kernel_rfl) ?_; conv => whnf)
    first | refine CallSt.use hun [] trivial (by decide) rfl ?_ | refine CallPt.useS hun [] trivial (by decide) rfl ?_
    rintro _ _ ⟨rfl, rfl⟩ _
    conv => whnf
    refine ⟨⟨by simp only [Term.k]; omega, by simp only [Term.k]; omega⟩, ?_⟩
    conv => whnf
    try (refine dI (by kernel_rfl) ?_; conv => whnf)
    first | refine CallSt.use hcc [0, 1] ⟨rfl, rfl, trivial⟩ (by decide) rfl ?_ | refine CallPt.useS hcc [0, 1] ⟨rfl, rfl, trivial⟩ (by decide) rfl ?_
    rintro _ _ ⟨rfl, rfl⟩ _
    conv => whnf
    refine ⟨⟨by omega, by omega⟩, ?_⟩
    conv => whnf
    refine ⟨m - 1, _, _, by omega, ⟨j + 1, _, by omega, hR, rfl, rfl⟩, Wk.sl [0, 1, 2] rfl ⟨rfl, rfl, rfl, trivial⟩ ⟨rfl, rfl, rfl, rfl, rfl, rfl, trivial⟩ rfl⟩
  · replace hc : ¬ (j : Int) < (tcs ts).length := of_decide_eq_false hc
    rw [len_tcs] at hc
    conv => whnf
    refine ⟨rfl, ?_⟩
    conv => whnf
    refine ⟨rfl, ?_⟩
    rw [List.drop_eq_nil_of_le (by omega), eachL] at hR
    rw [← hR]
    exact ⟨rfl, rfl⟩
mutual
def nodesT (m : Int) : Term → Int → Bool
  | .mk k l n ts, i => (!decide (k = 4) || nodeOk m (.mk k l n ts) i) && nodesL m k i 0 ts
def nodesL (m k i : Int) : Int → List Term → Bool
  | _, [] => true
  | j, t :: r => nodesT m t (i + unT k j) && nodesL m k i (j + 1) r
end
mutual
theorem nodesT_each (m : Int) : ∀ (t : Term) (i : Int) (b : Bool), eachT (fmStep m) t i b = (b && nodesT m t i)
  | .mk k l n ts, i, b => by
    rw [eachT, nodesT, nodesL_each m k i ts 0, ← Bool.and_assoc]
    congr 1
    by_cases h : k = 4
    · simp [fmStep, Term.k, h]
    · simp [fmStep, Term.k, h]
theorem nodesL_each (m k i : Int) : ∀ (ts : List Term) (j : Int) (b : Bool), eachL (fmStep m) k i j ts b = (b && nodesL m k i j ts)
  | [], j, b => by rw [eachL, nodesL, Bool.and_true]
  | t :: r, j, b => by rw [eachL, nodesL, nodesT_each m t, nodesL_each m k i r, Bool.and_assoc]
end
theorem nodesL_mem (m k i : Int) : ∀ (ts : List Term) (j : Int), nodesL m k i j ts = true → ∀ t ∈ ts, ∃ q, nodesT m t q = true
  | [], j, _, t, ht => by cases ht
  | u :: r, j, h, t, ht => by
    rw [nodesL, Bool.and_eq_true] at h
    rcases List.mem_cons.1 ht with rfl | ht
    · exact ⟨_, h.1⟩
    · exact nodesL_mem m k i r (j + 1) h.2 t ht
theorem nodes_dom (m : Int) : ∀ (c : Nat) (t : Term) (i : Int), SizeOf.sizeOf t ≤ c → nodesT m t i = true → ∃ q, nodesT m (domT t).2 q = true
  | 0, t, i, hc, _ => by cases t; simp at hc
  | c + 1, t, i, hc, h => by
    by_cases hk : t.k = 2
    · obtain ⟨k, l, n, ts⟩ := t
      simp only [Term.k] at hk
      subst hk
      rcases ts with _ | ⟨a, _ | ⟨b, r⟩⟩
      · rw [show domT (.mk 2 l n []) = ([], .mk 2 l n []) by rw [domT]; try simp]
        exact ⟨i, h⟩
      · rw [show domT (.mk 2 l n [a]) = ([], .mk 2 l n [a]) by rw [domT]; try simp]
        exact ⟨i, h⟩
      · rw [domT_pi]
        rw [nodesT, Bool.and_eq_true] at h
        obtain ⟨q, hq⟩ := nodesL_mem m 2 i _ 0 h.2 b (by simp)
        exact nodes_dom m c b q (by simp at hc; omega) hq
    · rw [domT_no hk]
      exact ⟨i, h⟩
theorem nodes_targ {m : Int} {t : Term} (h : nodesT m t 0 = true) (ht : targOk t = true) : (domT t).2.n < m := by
  obtain ⟨q, hq⟩ := nodes_dom m _ t 0 (Nat.le_refl _) h
  unfold targOk at ht
  generalize (domT t).2 = u at *
  obtain ⟨k, l, n, ts⟩ := u
  rw [Bool.and_eq_true] at ht
  have h4 : k = 4 := of_decide_eq_true ht.1
  have h2 : l = 2 := of_decide_eq_true ht.2
  subst h4 h2
  change n < m
  rw [nodesT] at hq
  simp [nodeOk, Term.l, Term.n] at hq
  exact of_decide_eq_true hq.1
end Go.Tr
/- sign.formed. -/
namespace Go.Tr
open Go.Proofs
def kindAt (B : List Dcl) (n : Int) : Bool := match B[n.toNat]? with | some e => kindT e.c | none => false
def nameF (s : ByteArray) : Bool := isSmallF s && !decide (s = ⟨#[116, 121, 112, 101]⟩)
def formedF (B : List Dcl) (d : Dcl) : Bool :=
  prop d.c && nameF d.s && decide (0 ≤ d.i) && (decide (d.i ≤ (domT d.c).1.length) && nodesT B.length d.c 0) && (kindT d.c || (targOk d.c && kindAt B (domT d.c).2.n))
theorem targ_pos {t : Term} (h : prop t = true) (ht : targOk t = true) : 0 ≤ (domT t).2.n := by
  obtain ⟨_, _, d', h3, _⟩ := dom_rest t 1 (prop_fm1 h)
  unfold targOk at ht
  rw [Bool.and_eq_true] at ht
  generalize (domT t).2 = u at *
  obtain ⟨k, l, n, ts⟩ := u
  have h4 : k = 4 := of_decide_eq_true ht.1
  subst h4
  change 0 ≤ n
  by_cases hn : 0 ≤ n
  · exact hn
  · have hb : fmB 4 l n ts.length = false := by
      unfold fmB
      simp
      omega
    rw [fmT, hb] at h3
    simp at h3
theorem cFormed (B : List Dcl) (hB : ∀ e ∈ B, prop e.c = true) (hBl : B.length ≤ 1000) (d : Dcl) : CallSt Try.prog 62 [.c (.sl 6 72 (dcs B)), dv d] [] (fun r H' => r = .c (.bool (formedF B d)) ∧ H' = []) := by
  have h14 := c14 d.c
  have hnm : CallSt Try.prog 73 [.c (.str d.s)] [] (fun r H' => r = .c (.bool (nameF d.s)) ∧ H' = []) := cSignName d.s
  have hbl := len_dcs B
  cases hp : prop d.c with
  | false =>
    rw [show formedF B d = false by simp [formedF, hp]]
    simp only [hp, Bool.false_eq_true, if_false] at h14
    clear hp
    obtain ⟨s, ⟨k, l, n, ts⟩, i⟩ := d
    rw [tv_mk] at h14
    refine call_pure (E := env 0) (fn := Try.f62) (c := bodyOf Try.f62) (env_ok 0) mixed (by kernel_rfl) (by kernel_rfl) (by kernel_rfl) (by kernel_rfl) (by kernel_rfl) (by kernel_rfl) rfl ?_
    conv => whnf
    try (refine dI (by kernel_rfl) ?_; conv => whnf)
    first | refine CallSt.use h14 [] trivial (by decide) rfl ?_ | refine CallPt.useS h14 [] trivial (by decide) rfl ?_
    rintro _ _ ⟨rfl, rfl⟩ _
    conv => whnf
    repeat ((first | refine aI rfl ?_ | refine aI (by decide) ?_ | refine dI (by kernel_rfl) ?_ | refine aI ⟨by omega, by omega⟩ ?_ | refine aI (by omega) ?_ | refine aI (fun _ => ⟨by omega, by omega⟩) ?_ | refine aI (of_decide_eq_true rfl) ?_ | (refine yI ?_ ?_; focus (first | decide | (simp; done) | (simp [tcs]; done))) | (refine nI ?_ ?_; focus (first | decide | (simp; done) | (simp [tcs]; done)))); conv => whnf)
    all_goals (first | rfl | exact ⟨rfl, rfl⟩ | exact ⟨rfl, rfl, rfl⟩)
  | true =>
    have hE := cEach2 75 (.sl 6 72 (dcs B)) (fun b : Bool => b) (fmStep B.length) okT okT_step (fun s u j hu => cFormed1 B s u j) d.c 0 (decide (d.i ≤ ((tcs (domT d.c).1).length : Int))) (prop_ok hp)
    have hd := c68 d.c 1 (prop_fm1 hp) (by omega)
    have hk := cKind d.c hp
    have ht := cTarget d.c hp
    have hdl := dom_len d.c 1 (prop_fm1 hp)
    simp only [hp, if_true] at h14
    simp only [nodesT_each] at hE
    have hF : formedF B d = (nameF d.s && decide (0 ≤ d.i) && (decide (d.i ≤ (domT d.c).1.length) && nodesT B.length d.c 0) && (kindT d.c || (targOk d.c && kindAt B (domT d.c).2.n))) := by
      simp [formedF, hp]
    rw [hF]
    cases hn : nameF d.s with
    | false =>
      rw [hn] at hnm
      simp only [Bool.false_and]
      clear hE hd hk ht hF hp
      obtain ⟨s, ⟨k, l, n, ts⟩, i⟩ := d
      rw [tv_mk] at h14
      refine call_pure (E := env 0) (fn := Try.f62) (c := bodyOf Try.f62) (env_ok 0) mixed (by kernel_rfl) (by kernel_rfl) (by kernel_rfl) (by kernel_rfl) (by kernel_rfl) (by kernel_rfl) rfl ?_
      conv => whnf
      try (refine dI (by kernel_rfl) ?_; conv => whnf)
      first | refine CallSt.use h14 [] trivial (by decide) rfl ?_ | refine CallPt.useS h14 [] trivial (by decide) rfl ?_
      rintro _ _ ⟨rfl, rfl⟩ _
      conv => whnf
      repeat ((first | refine aI rfl ?_ | refine aI (by decide) ?_ | refine dI (by kernel_rfl) ?_ | refine aI ⟨by omega, by omega⟩ ?_ | refine aI (by omega) ?_ | refine aI (fun _ => ⟨by omega, by omega⟩) ?_ | refine aI (of_decide_eq_true rfl) ?_ | (refine yI ?_ ?_; focus (first | decide | (simp; done) | (simp [tcs]; done))) | (refine nI ?_ ?_; focus (first | decide | (simp; done) | (simp [tcs]; done)))); conv => whnf)
      try (refine dI (by kernel_rfl) ?_; conv => whnf)
      first | refine CallSt.use hnm [] trivial (by decide) rfl ?_ | refine CallPt.useS hnm [] trivial (by decide) rfl ?_
      rintro _ _ ⟨rfl, rfl⟩ _
      conv => whnf
      repeat ((first | refine aI rfl ?_ | refine aI (by decide) ?_ | refine dI (by kernel_rfl) ?_ | refine aI ⟨by omega, by omega⟩ ?_ | refine aI (by omega) ?_ | refine aI (fun _ => ⟨by omega, by omega⟩) ?_ | refine aI (of_decide_eq_true rfl) ?_ | (refine yI ?_ ?_; focus (first | decide | (simp; done) | (simp [tcs]; done))) | (refine nI ?_ ?_; focus (first | decide | (simp; done) | (simp [tcs]; done)))); conv => whnf)
      all_goals (first | rfl | exact ⟨rfl, rfl⟩ | exact ⟨rfl, rfl, rfl⟩)
    | true =>
      rw [hn] at hnm
      by_cases h0 : 0 ≤ d.i
      · rw [decide_eq_true h0]
        simp only [Bool.true_and]
        have hn1 : nodesT B.length d.c 0 = true → targOk d.c = true → (domT d.c).2.n < B.length := nodes_targ
        have hn0 := @targ_pos d.c hp
        have hkat : ∀ e : Dcl, B[(domT d.c).2.n.toNat]? = some e → kindAt B (domT d.c).2.n = kindT e.c := fun e he => by unfold kindAt; rw [he]
        generalize nodesT B.length d.c 0 = X at *
        generalize kindT d.c = K at *
        generalize targOk d.c = T at *
        generalize kindAt B (domT d.c).2.n = A at *
        clear hF
        generalize domT d.c = p at *
        obtain ⟨L, ⟨k2, l2, n2, ts2⟩⟩ := p
        obtain ⟨s, ⟨k, l, n, ts⟩, i⟩ := d
        dsimp only at *
        rw [tv_mk] at h14 hE hd hk ht
        rw [tv_mk] at hd
        rw [show decide (i ≤ (L.length : Int)) = decide (i ≤ ((tcs L).length : Int)) by rw [len_tcs]]
        refine call_pure (E := env 0) (fn := Try.f62) (c := bodyOf Try.f62) (env_ok 0) mixed (by kernel_rfl) (by kernel_rfl) (by kernel_rfl) (by kernel_rfl) (by kernel_rfl) (by kernel_rfl) rfl ?_
        conv => whnf
        try (refine dI (by kernel_rfl) ?_; conv => whnf)
        first | refine CallSt.use h14 [] trivial (by decide) rfl ?_ | refine CallPt.useS h14 [] trivial (by decide) rfl ?_
        rintro _ _ ⟨rfl, rfl⟩ _
        conv => whnf
        repeat ((first | refine aI rfl ?_ | refine aI (by decide) ?_ | refine dI (by kernel_rfl) ?_ | refine aI ⟨by omega, by omega⟩ ?_ | refine aI (by omega) ?_ | refine aI (fun _ => ⟨by omega, by omega⟩) ?_ | refine aI (of_decide_eq_true rfl) ?_ | (refine yI ?_ ?_; focus (first | decide | (simp; done) | (simp [tcs]; done))) | (refine nI ?_ ?_; focus (first | decide | (simp; done) | (simp [tcs]; done)))); conv => whnf)
        try (refine dI (by kernel_rfl) ?_; conv => whnf)
        first | refine CallSt.use hnm [] trivial (by decide) rfl ?_ | refine CallPt.useS hnm [] trivial (by decide) rfl ?_
        rintro _ _ ⟨rfl, rfl⟩ _
        conv => whnf
        (refine ⟨fun h => absurd (show i < 0 by simpa using h) (by omega), fun _ => ?_⟩; conv => whnf)
        try (refine dI (by kernel_rfl) ?_; conv => whnf)
        first | refine CallSt.use hd [] trivial (by decide) rfl ?_ | refine CallPt.useS hd [] trivial (by decide) rfl ?_
        rintro _ _ ⟨rfl, rfl⟩ _
        conv => whnf
        intro _
        conv => whnf
        try (refine dI (by kernel_rfl) ?_; conv => whnf)
        first | refine CallSt.use hE [3, 0] ⟨rfl, rfl, trivial⟩ (by decide) rfl ?_ | refine CallPt.useS hE [3, 0] ⟨rfl, rfl, trivial⟩ (by decide) rfl ?_
        rintro _ _ ⟨rfl, rfl⟩ _
        conv => whnf
        try (refine dI (by kernel_rfl) ?_; conv => whnf)
        first | refine CallSt.use hk [] trivial (by decide) rfl ?_ | refine CallPt.useS hk [] trivial (by decide) rfl ?_
        rintro _ _ ⟨rfl, rfl⟩ _
        conv => whnf
        cases K with
        | true =>
          simp only [Bool.true_or, Bool.and_true]
          (refine ⟨fun _ => ?_, fun h => absurd h ?_⟩; rotate_left; (focus (first | decide | (simp; done) | (simp [tcs]; done))); conv => whnf)
          repeat ((first | refine aI rfl ?_ | refine aI (by decide) ?_ | refine dI (by kernel_rfl) ?_ | refine aI ⟨by omega, by omega⟩ ?_ | refine aI (by omega) ?_ | refine aI (fun _ => ⟨by omega, by omega⟩) ?_ | refine aI (of_decide_eq_true rfl) ?_ | (refine yI ?_ ?_; focus (first | decide | (simp; done) | (simp [tcs]; done))) | (refine nI ?_ ?_; focus (first | decide | (simp; done) | (simp [tcs]; done)))); conv => whnf)
          all_goals (first | rfl | exact ⟨rfl, rfl⟩ | exact ⟨rfl, rfl, rfl⟩)
        | false =>
          simp only [Bool.false_or]
          (refine ⟨fun h => absurd h ?_, fun _ => ?_⟩; (focus (first | decide | (simp; done) | (simp [tcs]; done))); conv => whnf)
          try (refine dI (by kernel_rfl) ?_; conv => whnf)
          first | refine CallSt.use ht [] trivial (by decide) rfl ?_ | refine CallPt.useS ht [] trivial (by decide) rfl ?_
          rintro _ _ ⟨rfl, rfl⟩ _
          conv => whnf
          have hYX : (decide (i ≤ ((tcs L).length : Int)) && X) = true → X = true := fun h => (Bool.and_eq_true _ _ ▸ h).2
          generalize (decide (i ≤ ((tcs L).length : Int)) && X) = Y at *
          cases Y with
          | false =>
            cases T with
            | false =>
              refine ⟨dc ⟨⟨#[]⟩, zT, 0⟩, fun h => absurd h (by simp), ?_⟩
              conv => whnf
              refine ⟨show 4 ≤ 5 by decide, ?_⟩
              conv => whnf
              refine ⟨fun h => absurd h (by simp), fun _ => ?_⟩
              conv => whnf
              repeat ((first | refine aI rfl ?_ | refine aI (by decide) ?_ | refine dI (by kernel_rfl) ?_ | refine aI ⟨by omega, by omega⟩ ?_ | refine aI (by omega) ?_ | refine aI (fun _ => ⟨by omega, by omega⟩) ?_ | refine aI (of_decide_eq_true rfl) ?_ | (refine yI ?_ ?_; focus (first | decide | (simp; done) | (simp [tcs]; done))) | (refine nI ?_ ?_; focus (first | decide | (simp; done) | (simp [tcs]; done)))); conv => whnf)
              all_goals (first | rfl | exact ⟨rfl, rfl⟩ | exact ⟨rfl, rfl, rfl⟩)
            | true =>
              refine ⟨dc ⟨⟨#[]⟩, zT, 0⟩, fun h => absurd h (by simp), ?_⟩
              conv => whnf
              refine ⟨show 4 ≤ 5 by decide, ?_⟩
              conv => whnf
              refine ⟨fun h => absurd h (by simp), fun _ => ?_⟩
              conv => whnf
              repeat ((first | refine aI rfl ?_ | refine aI (by decide) ?_ | refine dI (by kernel_rfl) ?_ | refine aI ⟨by omega, by omega⟩ ?_ | refine aI (by omega) ?_ | refine aI (fun _ => ⟨by omega, by omega⟩) ?_ | refine aI (of_decide_eq_true rfl) ?_ | (refine yI ?_ ?_; focus (first | decide | (simp; done) | (simp [tcs]; done))) | (refine nI ?_ ?_; focus (first | decide | (simp; done) | (simp [tcs]; done)))); conv => whnf)
              all_goals (first | rfl | exact ⟨rfl, rfl⟩ | exact ⟨rfl, rfl, rfl⟩)
          | true =>
            cases T with
            | false =>
              refine ⟨dc ⟨⟨#[]⟩, zT, 0⟩, fun h => absurd h (by simp), ?_⟩
              conv => whnf
              refine ⟨show 4 ≤ 5 by decide, ?_⟩
              conv => whnf
              refine ⟨fun h => absurd h (by simp), fun _ => ?_⟩
              conv => whnf
              repeat ((first | refine aI rfl ?_ | refine aI (by decide) ?_ | refine dI (by kernel_rfl) ?_ | refine aI ⟨by omega, by omega⟩ ?_ | refine aI (by omega) ?_ | refine aI (fun _ => ⟨by omega, by omega⟩) ?_ | refine aI (of_decide_eq_true rfl) ?_ | (refine yI ?_ ?_; focus (first | decide | (simp; done) | (simp [tcs]; done))) | (refine nI ?_ ?_; focus (first | decide | (simp; done) | (simp [tcs]; done)))); conv => whnf)
              all_goals (first | rfl | exact ⟨rfl, rfl⟩ | exact ⟨rfl, rfl, rfl⟩)
            | true =>
              have hX := hYX rfl
              have hA := hn0 rfl
              have hB2 := hn1 hX rfl
              change 0 ≤ n2 at hA
              change n2 < (B.length : Int) at hB2
              obtain ⟨e, he⟩ : ∃ e, B[n2.toNat]? = some e := ⟨B[n2.toNat]'(by omega), List.getElem?_eq_getElem (by omega)⟩
              have hce := cKind e.c (hB e (List.mem_of_getElem? he))
              have hrow := dcs_at he
              rw [hkat e he]
              generalize kindT e.c = K' at *
              clear hkat hB he
              obtain ⟨s', ⟨k3, l3, n3, ts3⟩, i'⟩ := e
              rw [tv_mk] at hce
              refine ⟨_, fun _ => ⟨hA, hrow⟩, ?_⟩
              conv => whnf
              refine ⟨show 4 ≤ 5 by decide, ?_⟩
              conv => whnf
              (refine ⟨fun _ => ?_, fun h => absurd h ?_⟩; rotate_left; (focus (first | decide | (simp; done) | (simp [tcs]; done))); conv => whnf)
              try (refine dI (by kernel_rfl) ?_; conv => whnf)
              first | refine CallSt.use hce [] trivial (by decide) rfl ?_ | refine CallPt.useS hce [] trivial (by decide) rfl ?_
              rintro _ _ ⟨rfl, rfl⟩ _
              conv => whnf
              repeat ((first | refine aI rfl ?_ | refine aI (by decide) ?_ | refine dI (by kernel_rfl) ?_ | refine aI ⟨by omega, by omega⟩ ?_ | refine aI (by omega) ?_ | refine aI (fun _ => ⟨by omega, by omega⟩) ?_ | refine aI (of_decide_eq_true rfl) ?_ | (refine yI ?_ ?_; focus (first | decide | (simp; done) | (simp [tcs]; done))) | (refine nI ?_ ?_; focus (first | decide | (simp; done) | (simp [tcs]; done)))); conv => whnf)
              all_goals (first | rfl | exact ⟨rfl, rfl⟩ | exact ⟨rfl, rfl, rfl⟩)
      · rw [decide_eq_false h0]
        simp only [Bool.and_false, Bool.false_and]
        clear hE hd hk ht hF hp
        obtain ⟨s, ⟨k, l, n, ts⟩, i⟩ := d
        simp only at h0
        rw [tv_mk] at h14
        refine call_pure (E := env 0) (fn := Try.f62) (c := bodyOf Try.f62) (env_ok 0) mixed (by kernel_rfl) (by kernel_rfl) (by kernel_rfl) (by kernel_rfl) (by kernel_rfl) (by kernel_rfl) rfl ?_
        conv => whnf
        try (refine dI (by kernel_rfl) ?_; conv => whnf)
        first | refine CallSt.use h14 [] trivial (by decide) rfl ?_ | refine CallPt.useS h14 [] trivial (by decide) rfl ?_
        rintro _ _ ⟨rfl, rfl⟩ _
        conv => whnf
        repeat ((first | refine aI rfl ?_ | refine aI (by decide) ?_ | refine dI (by kernel_rfl) ?_ | refine aI ⟨by omega, by omega⟩ ?_ | refine aI (by omega) ?_ | refine aI (fun _ => ⟨by omega, by omega⟩) ?_ | refine aI (of_decide_eq_true rfl) ?_ | (refine yI ?_ ?_; focus (first | decide | (simp; done) | (simp [tcs]; done))) | (refine nI ?_ ?_; focus (first | decide | (simp; done) | (simp [tcs]; done)))); conv => whnf)
        try (refine dI (by kernel_rfl) ?_; conv => whnf)
        first | refine CallSt.use hnm [] trivial (by decide) rfl ?_ | refine CallPt.useS hnm [] trivial (by decide) rfl ?_
        rintro _ _ ⟨rfl, rfl⟩ _
        conv => whnf
        (refine ⟨fun _ => ?_, fun h => absurd (show 0 ≤ i by simpa using h) (by omega)⟩; conv => whnf)
        repeat ((first | refine aI rfl ?_ | refine aI (by decide) ?_ | refine dI (by kernel_rfl) ?_ | refine aI ⟨by omega, by omega⟩ ?_ | refine aI (by omega) ?_ | refine aI (fun _ => ⟨by omega, by omega⟩) ?_ | refine aI (of_decide_eq_true rfl) ?_ | (refine yI ?_ ?_; focus (first | decide | (simp; done) | (simp [tcs]; done))) | (refine nI ?_ ?_; focus (first | decide | (simp; done) | (simp [tcs]; done)))); conv => whnf)
        all_goals (first | rfl | exact ⟨rfl, rfl⟩ | exact ⟨rfl, rfl, rfl⟩)
end Go.Tr
/- sign.each: the rounds. -/
namespace Go.Tr
open Go.Proofs
theorem cSEach (sig : List Dcl) : CallSt Try.prog 61 [.c (.sl 6 72 (dcs sig))] [] (fun r H' => r = .fn 72 [.ptr 0 0] ∧ H' = [.box [.c (.sl 6 72 (dcs sig))]]) := by
  refine call_intro (E := env 0) (fn := Try.f61) (c := bodyOf Try.f61) (env_ok 0) mixed (by kernel_rfl) (by kernel_rfl) (by kernel_rfl) (by kernel_rfl) (by kernel_rfl) (by kernel_rfl) rfl ?_
  conv => whnf
  repeat ((first | refine aI rfl ?_ | refine aI (by decide) ?_ | refine dI (by kernel_rfl) ?_ | refine aI ⟨by omega, by omega⟩ ?_ | refine aI (by omega) ?_ | refine aI (fun _ => ⟨by omega, by omega⟩) ?_ | refine aI (of_decide_eq_true rfl) ?_ | (refine yI ?_ ?_; focus (first | decide | (simp; done) | (simp [tcs]; done))) | (refine nI ?_ ?_; focus (first | decide | (simp; done) | (simp [tcs]; done)))); conv => whnf)
  all_goals (first | rfl | exact ⟨rfl, rfl⟩ | exact ⟨rfl, rfl, rfl⟩)
theorem dcs_take (sig : List Dcl) (n : Nat) : ((dcs sig).take ((n : Int).toNat)).drop (Int.toNat 0) = dcs (sig.take n) := by
  have h1 : (Int.toNat 0) = 0 := rfl
  rw [Int.toNat_natCast, h1, List.drop_zero]
  simp [dcs]
theorem cSEach1 {ps : Array Nat} {asg body : Code} (sig : List Dcl) (hlen : sig.length ≤ 1000) (F : Nat → KV → Option Bool) (good : Nat → Bool) (r0 r1 : Int)
    (hY : ∀ (n : Nat) (d : Dcl), sig[n]? = some d → (∀ i, i < n → good i = true) → YSt Try.prog 4 [.c (.sl 6 72 (dcs (sig.take n))), dv d] [.dead, .box [.c (.int .i64 (r0))], .mp true (.b (F n)), .box [.mpv 2], .lrec .ready [(3, .ptr 3 0), (2, .ptr 1 0)] ps asg body, .box [.c (.str d.s), .c (.int .i64 (d.c.k)), .c (.int .i64 (d.c.l)), .c (.int .i64 (d.c.n)), .c (.sl 4 48 (tcs d.c.ts)), .c (.int .i64 (d.i))]]
      (fun r H' => (good n = true ∧ r = .c (.bool true) ∧ H' = [.dead, .box [.c (.int .i64 (r0))], .mp true (.b (F (n + 1))), .box [.mpv 2], .lrec .ready [(3, .ptr 3 0), (2, .ptr 1 0)] ps asg body, .box [.c (.str d.s), .c (.int .i64 (d.c.k)), .c (.int .i64 (d.c.l)), .c (.int .i64 (d.c.n)), .c (.sl 4 48 (tcs d.c.ts)), .c (.int .i64 (d.i))]]) ∨
        (good n = false ∧ r = .c (.bool false) ∧ H' = [.dead, .box [.c (.int .i64 (r1))], .mp true (.b (F n)), .box [.mpv 2], .lrec .ret [(3, .ptr 3 0), (2, .ptr 1 0)] ps asg body, .box [.c (.str d.s), .c (.int .i64 (d.c.k)), .c (.int .i64 (d.c.l)), .c (.int .i64 (d.c.n)), .c (.sl 4 48 (tcs d.c.ts)), .c (.int .i64 (d.i))]]))) :
    CallSt Try.prog 72 [.yv 4, .ptr 0 0] [.box [.c (.sl 6 72 (dcs sig))], .box [.c (.int .i64 (r0))], .mp true (.b (F 0)), .box [.mpv 2], .lrec .ready [(3, .ptr 3 0), (2, .ptr 1 0)] ps asg body]
      (fun r H' => r = .tup [] ∧ (((∀ n, n < sig.length → good n = true) ∧ H' = [.box [.c (.sl 6 72 (dcs sig))], .box [.c (.int .i64 (r0))], .mp true (.b (F sig.length)), .box [.mpv 2], .lrec .ready [(3, .ptr 3 0), (2, .ptr 1 0)] ps asg body]) ∨
        ((∃ n, n < sig.length ∧ good n = false) ∧ ∃ n, H' = [.box [.c (.sl 6 72 (dcs sig))], .box [.c (.int .i64 (r1))], .mp true (.b (F n)), .box [.mpv 2], .lrec .ret [(3, .ptr 3 0), (2, .ptr 1 0)] ps asg body]))) := by
  have hrl := len_dcs sig
  refine call_pure (E := envK 5) (fn := Try.f72) (c := bodyOf Try.f72) (envK_ok 5) mixed (by kernel_rfl) (by kernel_rfl) (by kernel_rfl) (by kernel_rfl) (by kernel_rfl) (by kernel_rfl) rfl ?_
  conv => whnf
  intro _
  conv => whnf
  refine loop_intro (fun m tm H => ∃ (n : Nat), sig.length = m + n ∧ (∀ i, i < n → good i = true) ∧
      tm = [(7, .c (.int .i64 (n))), (6, .c (.int .i64 ((dcs sig).length))), (5, .c (.sl 6 72 (dcs sig))), (0, .yv 4), (1, .ptr 0 0)] ∧ H = [.box [.c (.sl 6 72 (dcs sig))], .box [.c (.int .i64 (r0))], .mp true (.b (F n)), .box [.mpv 2], .lrec .ready [(3, .ptr 3 0), (2, .ptr 1 0)] ps asg body])
      sig.length _ _ ⟨0, by omega, fun i hi => absurd hi (by omega), rfl, rfl⟩ (Wk.sl [0, 1, 2, 3, 4] rfl ⟨rfl, rfl, rfl, rfl, rfl, trivial⟩ ⟨rfl, rfl, rfl, rfl, rfl, trivial⟩ rfl) ?_
  rintro m tm H ⟨n, hm, hall, rfl, rfl⟩
  conv => whnf
  refine ⟨fun hc => ?_, fun hc => ?_⟩
  · replace hc : (n : Int) < (dcs sig).length := of_decide_eq_true hc
    obtain ⟨d, hd⟩ : ∃ d, sig[n]? = some d := ⟨sig[n]'(by omega), List.getElem?_eq_getElem (by omega)⟩
    have hdc := dcs_at hd
    have hy := hY n d hd hall
    rw [← dcs_take] at hy
    obtain ⟨s', ⟨k', l', n', us⟩, i'⟩ := d
    dsimp only [Term.k, Term.l, Term.n, Term.ts] at hy
    conv => whnf
    refine ⟨_, ⟨by omega, hdc⟩, ?_⟩
    conv => whnf
    refine ⟨show 6 ≤ 6 by decide, ?_⟩
    conv => whnf
    refine draw_intro true (by kernel_rfl) ?_
    conv => whnf
    refine ⟨⟨by omega, by omega, by omega⟩, ?_⟩
    conv => whnf
    try (refine dI (by kernel_rfl) ?_; conv => whnf)
    refine YSt.mono hy ?_
    rintro _ _ (⟨hg, rfl, rfl⟩ | ⟨hg, rfl, rfl⟩)
    conv => whnf
    · (refine ⟨fun h => absurd h ?_, fun _ => ?_⟩; (focus (first | decide | (simp; done) | (simp [tcs]; done))); conv => whnf)
      refine ⟨⟨by omega, by omega⟩, ?_⟩
      conv => whnf
      refine ⟨m - 1, _, _, by omega, ⟨n + 1, by omega, fun i hi => ?_, rfl, rfl⟩, Wk.sl [0, 1, 2, 3, 4] rfl ⟨rfl, rfl, rfl, rfl, rfl, trivial⟩ ⟨rfl, rfl, rfl, rfl, rfl, trivial⟩ rfl⟩
      by_cases hij : i < n
      · exact hall i hij
      · obtain rfl : i = n := by omega
        exact hg
    · (refine ⟨fun _ => ?_, fun h => absurd h ?_⟩; rotate_left; (focus (first | decide | (simp; done) | (simp [tcs]; done))); conv => whnf)
      exact ⟨rfl, rfl, rfl, .inr ⟨⟨n, by omega, hg⟩, n, rfl⟩⟩
  · replace hc : ¬ (n : Int) < (dcs sig).length := of_decide_eq_false hc
    obtain rfl : n = sig.length := by omega
    conv => whnf
    exact ⟨rfl, rfl, rfl, .inl ⟨fun i hi => hall i hi, rfl⟩⟩
end Go.Tr
/- Copy, Pi, kept; Arrow: both sides. -/
namespace Go.Tr
open Go.Proofs
def envY (n : Nat) : Env := ⟨lkT tab, keep, n, true, false, none, fun _ _ => none⟩
theorem envY_ok (n : Nat) : EnvOk Try.prog (envY n) := EnvOk.of (l := tab) rfl (by kernel_rfl)
end Go.Tr
/- sign.Check. -/
namespace Go.Tr
open Go.Proofs
def namesOf (l : List Dcl) : KV → Option Bool := fun q => match q with | .s b => if l.any (fun e => decide (e.s = b)) then some true else none | _ => none
theorem namesOf_snoc {l : List Dcl} {d : Dcl} : mput (namesOf l) (.s d.s) true = namesOf (l ++ [d]) := by
  funext q
  cases q with
  | i n => simp [mput, namesOf]
  | s b =>
    unfold mput namesOf
    by_cases h : b = d.s
    · subst h; simp
    · rw [if_neg (by intro h2; injection h2 with h2; exact h h2)]
      have h3 : ¬ d.s = b := fun e => h e.symm
      simp [h3]
def namesAt (sig : List Dcl) : Nat → KV → Option Bool
  | 0 => fun _ => none
  | n + 1 => namesOf (sig.take (n + 1))
theorem namesAt_eq (sig : List Dcl) : ∀ n, namesAt sig n = namesOf (sig.take n)
  | 0 => by funext q; cases q <;> simp [namesAt, namesOf]
  | n + 1 => rfl
def goodD (sig : List Dcl) (n : Nat) : Bool := match sig[n]? with
  | some d => !((namesOf (sig.take n) (.s d.s)).getD false) && formedF (sig.take n) d
  | none => true
theorem good_prop {sig : List Dcl} {n : Nat} (h : ∀ i, i < n → goodD sig i = true) : ∀ e ∈ sig.take n, prop e.c = true := by
  intro e he
  obtain ⟨i, hi⟩ := List.mem_iff_getElem?.1 he
  rw [List.getElem?_take] at hi
  split at hi
  · rename_i hin
    have hg := h i hin
    unfold goodD at hg
    rw [hi] at hg
    simp only [Bool.and_eq_true] at hg
    have := hg.2
    unfold formedF at this
    simp only [Bool.and_eq_true] at this
    exact this.1.1.1.1
  · cases hi
def checkB (sig : List Dcl) : Bool := decide (sig.length ≤ 100) && (List.range sig.length).all (goodD sig)
theorem cCheck (sig : List Dcl) : CallSt Try.prog 34 [.c (.sl 6 72 (dcs sig))] [] (fun r H' => r = .c (.int .i64 ((if checkB sig then 0 else 2))) ∧ H' = []) := by
  have hbl := len_dcs sig
  by_cases hs : sig.length ≤ 100
  · have hIt := fun {ps} {asg} {body} => @cSEach1 ps asg body sig (by omega) (namesAt sig) (goodD sig) 0 2
    refine call_pure (E := env 0) (fn := Try.f34) (c := bodyOf Try.f34) (env_ok 0) mixed (by kernel_rfl) (by kernel_rfl) (by kernel_rfl) (by kernel_rfl) (by kernel_rfl) (by kernel_rfl) rfl ?_
    conv => whnf
    intro _
    conv => whnf
    (refine ⟨fun h => absurd (of_decide_eq_true h) (by omega), fun _ => ?_⟩; conv => whnf)
    try (refine dI (by kernel_rfl) ?_; conv => whnf)
    first | refine CallSt.use ((cSEach sig)) [] trivial (by decide) rfl ?_ | refine CallPt.useS ((cSEach sig)) [] trivial (by decide) rfl ?_
    rintro _ _ ⟨rfl, rfl⟩ _
    conv => whnf
    refine CallSt.wkl 4 [(3, .ptr 2 0), (2, .ptr 0 0)] rfl (subTM_lk ⟨rfl, rfl, trivial⟩) ?_
    refine CallSt.use (hIt ?_) [3, 0, 1, 2, 4] ⟨rfl, rfl, rfl, rfl, rfl, trivial⟩ (by decide) rfl ?_
    · intro n d hd hall
      have hfm := cFormed (sig.take n) (good_prop hall) (by simp; omega) d
      have hg : goodD sig n = (!((namesAt sig n (.s d.s)).getD false) && formedF (sig.take n) d) := by unfold goodD; rw [hd, namesAt_eq]
      have hnx : namesAt sig (n + 1) = mput (namesAt sig n) (.s d.s) true := by rw [namesAt_eq, namesAt_eq, namesOf_snoc, List.take_add_one, hd]; rfl
      rw [hg, hnx]
      clear hg hnx hIt
      generalize namesAt sig n = F at *
      generalize formedF (sig.take n) d = b at *
      obtain ⟨s', ⟨k', l', n', us⟩, i'⟩ := d
      dsimp only [Term.k, Term.l, Term.n, Term.ts]
      refine y_intro (E := envY 6) (envY_ok 6) mixed rfl rfl (i := 4) rfl rfl rfl ?_
      conv => whnf
      generalize (F (.s s')).getD false = c at *
      cases c with
      | true =>
        repeat ((first | refine aI rfl ?_ | refine aI (by decide) ?_ | refine dI (by kernel_rfl) ?_ | refine aI ⟨by omega, by omega⟩ ?_ | refine aI (by omega) ?_ | refine aI (fun _ => ⟨by omega, by omega⟩) ?_ | refine aI (of_decide_eq_true rfl) ?_ | (refine yI ?_ ?_; focus (first | decide | (simp; done) | (simp [tcs]; done))) | (refine nI ?_ ?_; focus (first | decide | (simp; done) | (simp [tcs]; done)))); conv => whnf)
        first | exact ⟨rfl, .inr ⟨rfl, rfl, rfl⟩⟩ | exact .inr ⟨rfl, rfl, rfl⟩
      | false =>
        (refine ⟨fun _ => ?_, fun h => absurd h ?_⟩; rotate_left; (focus (first | decide | (simp; done) | (simp [tcs]; done))); conv => whnf)
        try (refine dI (by kernel_rfl) ?_; conv => whnf)
        first | refine CallSt.use hfm [] trivial (by decide) rfl ?_ | refine CallPt.useS hfm [] trivial (by decide) rfl ?_
        rintro _ _ ⟨rfl, rfl⟩ _
        conv => whnf
        cases b with
        | true =>
          repeat ((first | refine aI rfl ?_ | refine aI (by decide) ?_ | refine dI (by kernel_rfl) ?_ | refine aI ⟨by omega, by omega⟩ ?_ | refine aI (by omega) ?_ | refine aI (fun _ => ⟨by omega, by omega⟩) ?_ | refine aI (of_decide_eq_true rfl) ?_ | (refine yI ?_ ?_; focus (first | decide | (simp; done) | (simp [tcs]; done))) | (refine nI ?_ ?_; focus (first | decide | (simp; done) | (simp [tcs]; done)))); conv => whnf)
          first | exact ⟨rfl, .inl ⟨rfl, rfl, rfl⟩⟩ | exact .inl ⟨rfl, rfl, rfl⟩
        | false =>
          repeat ((first | refine aI rfl ?_ | refine aI (by decide) ?_ | refine dI (by kernel_rfl) ?_ | refine aI ⟨by omega, by omega⟩ ?_ | refine aI (by omega) ?_ | refine aI (fun _ => ⟨by omega, by omega⟩) ?_ | refine aI (of_decide_eq_true rfl) ?_ | (refine yI ?_ ?_; focus (first | decide | (simp; done) | (simp [tcs]; done))) | (refine nI ?_ ?_; focus (first | decide | (simp; done) | (simp [tcs]; done)))); conv => whnf)
          first | exact ⟨rfl, .inr ⟨rfl, rfl, rfl⟩⟩ | exact .inr ⟨rfl, rfl, rfl⟩
    rintro _ _ ⟨rfl, (⟨hall, rfl⟩ | ⟨⟨n, hn, hg⟩, n', rfl⟩)⟩ _
    · have hcb : checkB sig = true := by
        unfold checkB
        rw [decide_eq_true hs, Bool.true_and, List.all_eq_true]
        intro i hi
        exact hall i (by simpa using hi)
      rw [hcb]
      conv => whnf
      repeat ((first | refine aI rfl ?_ | refine aI (by decide) ?_ | refine dI (by kernel_rfl) ?_ | refine aI ⟨by omega, by omega⟩ ?_ | refine aI (by omega) ?_ | refine aI (fun _ => ⟨by omega, by omega⟩) ?_ | refine aI (of_decide_eq_true rfl) ?_ | (refine yI ?_ ?_; focus (first | decide | (simp; done) | (simp [tcs]; done))) | (refine nI ?_ ?_; focus (first | decide | (simp; done) | (simp [tcs]; done)))); conv => whnf)
      all_goals (first | rfl | exact ⟨rfl, rfl⟩ | exact ⟨rfl, rfl, rfl⟩)
    · have hcb : checkB sig = false := by
        unfold checkB
        rw [decide_eq_true hs, Bool.true_and, List.all_eq_false]
        exact ⟨n, by simpa using hn, by rw [hg]; simp⟩
      rw [hcb]
      conv => whnf
      repeat ((first | refine aI rfl ?_ | refine aI (by decide) ?_ | refine dI (by kernel_rfl) ?_ | refine aI ⟨by omega, by omega⟩ ?_ | refine aI (by omega) ?_ | refine aI (fun _ => ⟨by omega, by omega⟩) ?_ | refine aI (of_decide_eq_true rfl) ?_ | (refine yI ?_ ?_; focus (first | decide | (simp; done) | (simp [tcs]; done))) | (refine nI ?_ ?_; focus (first | decide | (simp; done) | (simp [tcs]; done)))); conv => whnf)
      all_goals (first | rfl | exact ⟨rfl, rfl⟩ | exact ⟨rfl, rfl, rfl⟩)
  · rw [show checkB sig = false by unfold checkB; rw [decide_eq_false hs]; rfl]
    refine call_pure (E := env 0) (fn := Try.f34) (c := bodyOf Try.f34) (env_ok 0) mixed (by kernel_rfl) (by kernel_rfl) (by kernel_rfl) (by kernel_rfl) (by kernel_rfl) (by kernel_rfl) rfl ?_
    conv => whnf
    intro _
    conv => whnf
    (refine ⟨fun _ => ?_, fun h => absurd (of_decide_eq_false h) (by omega)⟩; conv => whnf)
    repeat ((first | refine aI rfl ?_ | refine aI (by decide) ?_ | refine dI (by kernel_rfl) ?_ | refine aI ⟨by omega, by omega⟩ ?_ | refine aI (by omega) ?_ | refine aI (fun _ => ⟨by omega, by omega⟩) ?_ | refine aI (of_decide_eq_true rfl) ?_ | (refine yI ?_ ?_; focus (first | decide | (simp; done) | (simp [tcs]; done))) | (refine nI ?_ ?_; focus (first | decide | (simp; done) | (simp [tcs]; done)))); conv => whnf)
    all_goals (first | rfl | exact ⟨rfl, rfl⟩ | exact ⟨rfl, rfl, rfl⟩)
end Go.Tr
/- Occurs of the reference. -/
namespace Go.Tr
open Go.Proofs
end Go.Tr
/- Free, Constants, Metas, Occurs of both sides; lists of numbers. -/
namespace Go.Tr
open Go.Proofs
theorem cNumsEq (L M : List Int) (hL : L.length ≤ 1000000) (hM : M.length ≤ 1000000) : CallSt Try.prog 26 [.c (.sl 1 8 (rowI L)), .c (.sl 1 8 (rowI M))] [] (fun r H' => r = .c (.bool (decide (L = M))) ∧ H' = []) := by
  have hrl := len_rowI L
  have hrm := len_rowI M
  refine call_pure (E := env 0) (fn := Try.f26) (c := bodyOf Try.f26) (env_ok 0) mixed (by kernel_rfl) (by kernel_rfl) (by kernel_rfl) (by kernel_rfl) (by kernel_rfl) (by kernel_rfl) rfl ?_
  conv => whnf
  intro hl1
  conv => whnf
  intro hl2
  conv => whnf
  have key : (!decide (((rowI L).length : Int) = (rowI M).length)) = !decide (L.length = M.length) := by
    rw [hrl, hrm]; simp only [Int.natCast_inj]
  refine ⟨fun h => ?_, fun h => ?_⟩
  · replace h := key.symm.trans h
    rw [Bool.not_eq_true', decide_eq_false_iff_not] at h
    rw [show decide (L = M) = false from decide_eq_false (fun e => h (by rw [e]))]
    conv => whnf
    repeat ((first | refine aI rfl ?_ | refine aI (by decide) ?_ | refine dI (by kernel_rfl) ?_ | refine aI ⟨by omega, by omega⟩ ?_ | refine aI (by omega) ?_ | refine aI (fun _ => ⟨by omega, by omega⟩) ?_ | refine aI (of_decide_eq_true rfl) ?_ | (refine yI ?_ ?_; focus (first | decide | (simp; done) | (simp [tcs]; done))) | (refine nI ?_ ?_; focus (first | decide | (simp; done) | (simp [tcs]; done)))); conv => whnf)
    all_goals (first | rfl | exact ⟨rfl, rfl⟩ | exact ⟨rfl, rfl, rfl⟩)
  · replace h := key.symm.trans h
    rw [Bool.not_eq_false', decide_eq_true_eq] at h
    conv => whnf
    intro hl3
    conv => whnf
    refine loop_intro (fun m tm H => ∃ j : Nat, L.length = m + j ∧ (∀ i, i < j → L[i]? = M[i]?) ∧
        tm = [(13, .c (.int .i64 (j))), (12, .c (.int .i64 ((rowI L).length))), (0, .c (.sl 1 8 (rowI L))), (1, .c (.sl 1 8 (rowI M)))] ∧ H = []) L.length _ _ ⟨0, by omega, fun i hi => absurd hi (by omega), rfl, rfl⟩ (Wk.sl [] rfl trivial ⟨rfl, rfl, rfl, rfl, trivial⟩ rfl) ?_
    rintro m tm H ⟨j, hj, hno, rfl, rfl⟩
    conv => whnf
    refine ⟨fun hc => ?_, fun hc => ?_⟩
    · replace hc : (j : Int) < (rowI L).length := of_decide_eq_true hc
      have hlt : j < L.length := by omega
      have hltm : j < M.length := by omega
      obtain ⟨x, hx⟩ : ∃ x, L[j]? = some x := ⟨L[j], List.getElem?_eq_getElem hlt⟩
      obtain ⟨y, hy⟩ : ∃ y, M[j]? = some y := ⟨M[j], List.getElem?_eq_getElem hltm⟩
      have hxr := rowI_at hx
      have hyr := rowI_at hy
      conv => whnf
      refine draw_intro true (by kernel_rfl) ?_
      conv => whnf
      refine ⟨_, ⟨by omega, by simpa using hxr⟩, ?_⟩
      conv => whnf
      refine ⟨Nat.le_refl 1, ?_⟩
      conv => whnf
      refine ⟨_, ⟨by omega, by simpa using hyr⟩, ?_⟩
      conv => whnf
      refine ⟨Nat.le_refl 1, ?_⟩
      conv => whnf
      refine ⟨fun he => ?_, fun he => ?_⟩
      · replace he : ¬ x = y := by simpa using he
        rw [show decide (L = M) = false from decide_eq_false (fun e => he (by rw [e] at hx; rw [hx] at hy; injection hy))]
        conv => whnf
        repeat ((first | refine aI rfl ?_ | refine aI (by decide) ?_ | refine dI (by kernel_rfl) ?_ | refine aI ⟨by omega, by omega⟩ ?_ | refine aI (by omega) ?_ | refine aI (fun _ => ⟨by omega, by omega⟩) ?_ | refine aI (of_decide_eq_true rfl) ?_ | (refine yI ?_ ?_; focus (first | decide | (simp; done) | (simp [tcs]; done))) | (refine nI ?_ ?_; focus (first | decide | (simp; done) | (simp [tcs]; done)))); conv => whnf)
        all_goals (first | rfl | exact ⟨rfl, rfl⟩ | exact ⟨rfl, rfl, rfl⟩)
      · replace he : x = y := by simpa using he
        conv => whnf
        refine ⟨⟨by omega, by omega⟩, ?_⟩
        conv => whnf
        refine ⟨m - 1, _, _, by omega, ⟨j + 1, by omega, fun i hi => ?_, rfl, rfl⟩, Wk.sl [] rfl trivial ⟨rfl, rfl, rfl, rfl, trivial⟩ rfl⟩
        by_cases hij : i < j
        · exact hno i hij
        · obtain rfl : i = j := by omega
          rw [hx, hy, he]
    · replace hc : ¬ (j : Int) < (rowI L).length := of_decide_eq_false hc
      have e : L = M := List.ext_getElem? fun i => by
        by_cases hi : i < j
        · exact hno i hi
        · rw [List.getElem?_eq_none (by omega), List.getElem?_eq_none (by omega)]
      rw [decide_eq_true e]
      conv => whnf
      repeat ((first | refine aI rfl ?_ | refine aI (by decide) ?_ | refine dI (by kernel_rfl) ?_ | refine aI ⟨by omega, by omega⟩ ?_ | refine aI (by omega) ?_ | refine aI (fun _ => ⟨by omega, by omega⟩) ?_ | refine aI (of_decide_eq_true rfl) ?_ | (refine yI ?_ ?_; focus (first | decide | (simp; done) | (simp [tcs]; done))) | (refine nI ?_ ?_; focus (first | decide | (simp; done) | (simp [tcs]; done)))); conv => whnf)
      all_goals (first | rfl | exact ⟨rfl, rfl⟩ | exact ⟨rfl, rfl, rfl⟩)
end Go.Tr
/- The reference's Split. -/
namespace Go.Tr
open Go.Proofs
theorem c33 (t : Term) (d : Int) (h : fmT t d = true) (hd : 0 ≤ d) : CallSt Try.prog 54 [tv t] [] (fun r H' => r = .tup [.c (.sl 4 48 (tcs (domT t).1)), tv (domT t).2] ∧ H' = []) := by
  have hlen := dom_len t d h
  have hz := SizeOf.sizeOf t
  generalize hT : t = T at *
  subst hT
  obtain ⟨k, l, n, ts⟩ := t
  rw [tv_mk]
  refine call_pure (E := env 0) (fn := Try.f54) (c := bodyOf Try.f54) (env_ok 0) mixed (by kernel_rfl) (by kernel_rfl) (by kernel_rfl) (by kernel_rfl) (by kernel_rfl) (by kernel_rfl) rfl ?_
  conv => whnf
  refine loop_intro (fun m tm H => ∃ (k' l' n' : Int) (ts' pre : List Term) (d' : Int), SizeOf.sizeOf (Term.mk k' l' n' ts') ≤ m ∧ fmT (.mk k' l' n' ts') d' = true ∧ pre ++ (domT (.mk k' l' n' ts')).1 = (domT (.mk k l n ts)).1 ∧ (domT (.mk k' l' n' ts')).2 = (domT (.mk k l n ts)).2 ∧
      tm = [(4, .own 2), (1, .ptr 0 0), (3, .ptr 1 0)] ∧ H = [.box [.c (.int .i64 (k')), .c (.int .i64 (l')), .c (.int .i64 (n')), .c (.sl 4 48 (tcs ts'))], .box [.c (.int .i64 (0)), .c (.int .i64 (0)), .c (.int .i64 (0)), .nil], .row 49 4 48 (tcs pre)])
      (SizeOf.sizeOf (Term.mk k l n ts)) _ _ ⟨k, l, n, ts, [], d, Nat.le_refl _, h, rfl, rfl, rfl, rfl⟩ ?_ ?_
  · refine Wk.trans (tm1 := [(1, .ptr 0 0), (3, .ptr 1 0), (4, .nil)]) (H1 := [.box [.c (.int .i64 (k)), .c (.int .i64 (l)), .c (.int .i64 (n)), .c (.sl 4 48 (tcs ts))], .box [.c (.int .i64 (0)), .c (.int .i64 (0)), .c (.int .i64 (0)), .nil]]) ?_ (Wk.trans (Wk.niltmp 4 49 4 48 rfl rfl) ?_)
    · exact Wk.sl [0, 1] rfl ⟨rfl, rfl, trivial⟩ ⟨rfl, rfl, rfl, trivial⟩ rfl
    · exact Wk.sl [0, 1, 2] rfl ⟨rfl, rfl, rfl, trivial⟩ ⟨rfl, rfl, rfl, trivial⟩ rfl
  rintro m tm H ⟨k', l', n', ts', pre, d', hm, hf, hpre, hrest, rfl, rfl⟩
  conv => whnf
  refine ⟨fun hc => ?_, fun hc => ?_⟩
  · replace hc : k' = 2 := of_decide_eq_true hc
    subst hc
    obtain ⟨rfl, rfl, a, b, rfl, ha, hb⟩ := fm_pi hf
    rw [domT_pi] at hpre hrest
    have hl1 : (tcs pre).length ≤ 41 := by
      rw [len_tcs]
      have := congrArg List.length hpre
      simp at this
      omega
    obtain ⟨a1, a2, a3, a4⟩ := a
    obtain ⟨b1, b2, b3, b4⟩ := b
    conv => whnf
    refine ⟨_, ⟨by decide, rfl⟩, ?_⟩
    conv => whnf
    refine ⟨Nat.le_refl 4, ?_⟩
    conv => whnf
    refine ⟨by decide, ?_⟩
    conv => whnf
    refine ⟨by decide, ?_⟩
    conv => whnf
    have hl2 : ((tcs pre).length + 1) * 48 ≤ 140737488355328 := by omega
    have hl3 : (tcs pre).length + 1 ≤ 9223372036854775807 := by omega
    refine ⟨hl2, hl3, ?_⟩
    conv => whnf
    refine ⟨_, ⟨by decide, rfl⟩, ?_⟩
    conv => whnf
    refine ⟨Nat.le_refl 4, ?_⟩
    conv => whnf
    refine ⟨SizeOf.sizeOf (Term.mk b1 b2 b3 b4), _, _, ?_, ⟨b1, b2, b3, b4, pre ++ [.mk a1 a2 a3 a4], d' + 1, Nat.le_refl _, hb, ?_, hrest, rfl, rfl⟩, Wk.sl [0, 1, 4] rfl ⟨rfl, rfl, ?_, trivial⟩ ⟨rfl, rfl, rfl, trivial⟩ rfl⟩
    · simp at hm ⊢; omega
    · rw [← hpre, List.append_assoc]; rfl
    · rw [← tcs_snoc]; rfl
  · replace hc : ¬ k' = 2 := of_decide_eq_false hc
    rw [domT_no (t := .mk k' l' n' ts') hc] at hpre hrest
    simp only [List.append_nil] at hpre
    rw [← hpre, ← hrest]
    conv => whnf
    repeat ((first | refine aI rfl ?_ | refine aI (by decide) ?_ | refine dI (by kernel_rfl) ?_ | refine aI ⟨by omega, by omega⟩ ?_ | refine aI (by omega) ?_ | refine aI (fun _ => ⟨by omega, by omega⟩) ?_ | refine aI (of_decide_eq_true rfl) ?_ | (refine yI ?_ ?_; focus (first | decide | (simp; done) | (simp [tcs]; done))) | (refine nI ?_ ?_; focus (first | decide | (simp; done) | (simp [tcs]; done)))); conv => whnf)
    all_goals (first | rfl | exact ⟨rfl, rfl⟩ | exact ⟨rfl, rfl, rfl⟩)
end Go.Tr
/- The reference: closed. -/
namespace Go.Tr
open Go.Proofs
theorem cRFamily (l : List Dcl) (n : Int) (h0 : 0 ≤ n) (d : Dcl) (hd : l[n.toNat]? = some d) (hp : prop d.c = true) : CallSt Try.prog 40 [.c (.sl 6 72 (dcs l)), .c (.int .i64 (n))] [] (fun r H' => r = .c (.bool (kindT d.c)) ∧ H' = []) := by
  have hs := c33 d.c 1 (prop_fm1 hp) (by omega)
  have hc := dcs_at hd
  unfold kindT
  generalize domT d.c = p at *
  clear hp
  obtain ⟨L, ⟨k2, l2, n2, ts2⟩⟩ := p
  obtain ⟨s, ⟨k, m, x, ts⟩, i⟩ := d
  rw [tv_mk] at *
  dsimp only at *
  rw [tv_mk] at hs
  refine call_pure (E := env 0) (fn := Try.f40) (c := bodyOf Try.f40) (env_ok 0) mixed (by kernel_rfl) (by kernel_rfl) (by kernel_rfl) (by kernel_rfl) (by kernel_rfl) (by kernel_rfl) rfl ?_
  conv => whnf
  refine ⟨_, ⟨h0, hc⟩, ?_⟩
  conv => whnf
  refine ⟨show 4 ≤ 5 by decide, ?_⟩
  conv => whnf
  try (refine dI (by kernel_rfl) ?_; conv => whnf)
  first | refine CallSt.use hs [] trivial (by decide) rfl ?_ | refine CallPt.useS hs [] trivial (by decide) rfl ?_
  rintro _ _ ⟨rfl, rfl⟩ _
  conv => whnf
  repeat ((first | refine aI rfl ?_ | refine aI (by decide) ?_ | refine dI (by kernel_rfl) ?_ | refine aI ⟨by omega, by omega⟩ ?_ | refine aI (by omega) ?_ | refine aI (fun _ => ⟨by omega, by omega⟩) ?_ | refine aI (of_decide_eq_true rfl) ?_ | (refine yI ?_ ?_; focus (first | decide | (simp; done) | (simp [tcs]; done))) | (refine nI ?_ ?_; focus (first | decide | (simp; done) | (simp [tcs]; done)))); conv => whnf)
  all_goals (first | rfl | exact ⟨rfl, rfl⟩ | exact ⟨rfl, rfl, rfl⟩)
end Go.Tr
/- closed is what the program asks of the nodes. -/
namespace Go.Tr
open Go.Proofs
mutual
def allT (p : Term → Int → Bool) : Term → Int → Bool
  | .mk k l n ts, i => p (.mk k l n ts) i && allL p k i 0 ts
def allL (p : Term → Int → Bool) (k i : Int) : Int → List Term → Bool
  | _, [] => true
  | j, t :: r => allT p t (i + unT k j) && allL p k i (j + 1) r
end
end Go.Tr
/- The reference: formed, Formed. -/
namespace Go.Tr
open Go.Proofs
def nameIn (l : List Dcl) (s : ByteArray) : Bool := l.any fun e => decide (e.s = s)
theorem namesOf_in (l : List Dcl) (s : ByteArray) : (namesOf l (.s s)).getD false = nameIn l s := by
  unfold namesOf nameIn
  simp only
  split <;> simp_all
def formedR (B : List Dcl) (d : Dcl) : Bool := !nameIn B d.s && formedF B d
theorem good_formed (sig : List Dcl) {n : Nat} {d : Dcl} (h : sig[n]? = some d) : goodD sig n = formedR (sig.take n) d := by
  unfold goodD formedR
  rw [h]
  simp only
  rw [namesOf_in]
end Go.Tr
/- has, Find, IsFamily, Head, Target of both sides. -/
namespace Go.Tr
open Go.Proofs
theorem check_len {sig : List Dcl} (h : checkB sig = true) : sig.length ≤ 100 := by
  unfold checkB at h
  rw [Bool.and_eq_true] at h
  exact of_decide_eq_true h.1
theorem check_good {sig : List Dcl} (h : checkB sig = true) : ∀ i, i < sig.length → goodD sig i = true := by
  unfold checkB at h
  rw [Bool.and_eq_true, List.all_eq_true] at h
  intro i hi
  exact h.2 i (by simpa using hi)
theorem check_prop {sig : List Dcl} (h : checkB sig = true) : ∀ e ∈ sig, prop e.c = true := by
  have := good_prop (n := sig.length) (check_good h)
  rwa [List.take_length] at this
def hasE (sig : List Dcl) (n : Int) : Int := match checkB sig with
  | false => 2
  | true => (match decide (n < 0) || decide ((sig.length : Int) ≤ n) with | true => 6 | false => 0)
theorem hasE_ok {sig : List Dcl} {n : Int} (h : hasE sig n = 0) : checkB sig = true ∧ 0 ≤ n ∧ n < sig.length := by
  unfold hasE at h
  cases hc : checkB sig with
  | false => rw [hc] at h; cases h
  | true =>
    rw [hc] at h
    simp only at h
    split at h
    · cases h
    · rename_i h2
      simp at h2
      exact ⟨rfl, by omega, by omega⟩
theorem hasE_cases (sig : List Dcl) (n : Int) : (hasE sig n = 2 ∧ checkB sig = false) ∨ (hasE sig n = 6 ∧ checkB sig = true ∧ ¬ (0 ≤ n ∧ n < sig.length)) ∨ (hasE sig n = 0 ∧ checkB sig = true ∧ 0 ≤ n ∧ n < sig.length) := by
  unfold hasE
  cases hc : checkB sig with
  | false => exact .inl ⟨rfl, rfl⟩
  | true =>
    simp only
    split
    · rename_i h2
      simp at h2
      exact .inr (.inl ⟨rfl, trivial, by omega⟩)
    · rename_i h2
      simp at h2
      exact .inr (.inr ⟨rfl, trivial, by omega⟩)
def headT (d : Dcl) (n : Int) : Int := match kindT d.c with | true => n | false => (domT d.c).2.n
theorem cHead (sig : List Dcl) (hp : ∀ e ∈ sig, prop e.c = true) (n : Nat) (d : Dcl) (hd : sig[n]? = some d) : CallSt Try.prog 59 [.c (.sl 6 72 (dcs sig)), .c (.int .i64 (n))] [] (fun r H' => r = .c (.int .i64 (headT d n)) ∧ H' = []) := by
  have hpd := hp d (List.mem_of_getElem? hd)
  have hf := cFamily sig n d hd hpd
  have ht := cTarget d.c hpd
  have hdc := dcs_at hd
  unfold headT
  generalize kindT d.c = b at *
  generalize (domT d.c).2.n = x at *
  generalize targOk d.c = y at *
  clear hpd
  cases b with
  | true =>
    refine call_pure (E := env 0) (fn := Try.f59) (c := bodyOf Try.f59) (env_ok 0) mixed (by kernel_rfl) (by kernel_rfl) (by kernel_rfl) (by kernel_rfl) (by kernel_rfl) (by kernel_rfl) rfl ?_
    conv => whnf
    try (refine dI (by kernel_rfl) ?_; conv => whnf)
    first | refine CallSt.use hf [] trivial (by decide) rfl ?_ | refine CallPt.useS hf [] trivial (by decide) rfl ?_
    rintro _ _ ⟨rfl, rfl⟩ _
    conv => whnf
    repeat ((first | refine aI rfl ?_ | refine aI (by decide) ?_ | refine dI (by kernel_rfl) ?_ | refine aI ⟨by omega, by omega⟩ ?_ | refine aI (by omega) ?_ | refine aI (fun _ => ⟨by omega, by omega⟩) ?_ | refine aI (of_decide_eq_true rfl) ?_ | (refine yI ?_ ?_; focus (first | decide | (simp; done) | (simp [tcs]; done))) | (refine nI ?_ ?_; focus (first | decide | (simp; done) | (simp [tcs]; done))) | intro _); conv => whnf)
    all_goals (first | rfl | exact ⟨rfl, rfl⟩ | exact ⟨rfl, rfl, rfl⟩)
  | false =>
    obtain ⟨s, ⟨k, l, m, ts⟩, i⟩ := d
    rw [tv_mk] at *
    refine call_pure (E := env 0) (fn := Try.f59) (c := bodyOf Try.f59) (env_ok 0) mixed (by kernel_rfl) (by kernel_rfl) (by kernel_rfl) (by kernel_rfl) (by kernel_rfl) (by kernel_rfl) rfl ?_
    conv => whnf
    try (refine dI (by kernel_rfl) ?_; conv => whnf)
    first | refine CallSt.use hf [] trivial (by decide) rfl ?_ | refine CallPt.useS hf [] trivial (by decide) rfl ?_
    rintro _ _ ⟨rfl, rfl⟩ _
    conv => whnf
    (refine ⟨fun h => absurd h ?_, fun _ => ?_⟩; (focus (first | decide | (simp; done) | (simp [tcs]; done))); conv => whnf)
    refine ⟨_, ⟨by omega, hdc⟩, ?_⟩
    conv => whnf
    refine ⟨show 4 ≤ 5 by decide, ?_⟩
    conv => whnf
    try (refine dI (by kernel_rfl) ?_; conv => whnf)
    first | refine CallSt.use ht [] trivial (by decide) rfl ?_ | refine CallPt.useS ht [] trivial (by decide) rfl ?_
    rintro _ _ ⟨rfl, rfl⟩ _
    conv => whnf
    repeat ((first | refine aI rfl ?_ | refine aI (by decide) ?_ | refine dI (by kernel_rfl) ?_ | refine aI ⟨by omega, by omega⟩ ?_ | refine aI (by omega) ?_ | refine aI (fun _ => ⟨by omega, by omega⟩) ?_ | refine aI (of_decide_eq_true rfl) ?_ | (refine yI ?_ ?_; focus (first | decide | (simp; done) | (simp [tcs]; done))) | (refine nI ?_ ?_; focus (first | decide | (simp; done) | (simp [tcs]; done))) | intro _); conv => whnf)
    all_goals (first | rfl | exact ⟨rfl, rfl⟩ | exact ⟨rfl, rfl, rfl⟩)
end Go.Tr
/- IsFamily, Target, Of; the reference's Find, Has, IsFamily, Target, Of. -/
namespace Go.Tr
open Go.Proofs
theorem kindAt_at {sig : List Dcl} {q : Nat} {d : Dcl} (h : sig[q]? = some d) : kindAt sig q = kindT d.c := by
  unfold kindAt
  rw [Int.toNat_natCast, h]
def upTo (p : Nat → Bool) (j : Nat) : List Int := ((List.range j).filter p).map (fun n : Nat => (n : Int))
theorem upTo_yes {p : Nat → Bool} {j : Nat} (h : p j = true) : upTo p (j + 1) = upTo p j ++ [(j : Int)] := by
  unfold upTo
  rw [List.range_succ, List.filter_append, List.map_append]
  simp [h]
theorem upTo_no {p : Nat → Bool} {j : Nat} (h : p j = false) : upTo p (j + 1) = upTo p j := by
  unfold upTo
  rw [List.range_succ, List.filter_append, List.map_append]
  simp [h]
theorem upTo_len (p : Nat → Bool) (j : Nat) : (upTo p j).length ≤ j := by
  unfold upTo
  rw [List.length_map]
  have := List.length_filter_le p (List.range j)
  simpa using this
theorem rowI_snoc (l : List Int) (x : Int) : rowI l ++ [[.int .i64 x]] = rowI (l ++ [x]) := by simp [rowI]
end Go.Tr
/- The reference's Find, Has, IsFamily, Target, Of. -/
namespace Go.Tr
open Go.Proofs
theorem cRIsFamily (sig : List Dcl) (n : Int) (h0 : 0 ≤ n) (d : Dcl) (hd : sig[n.toNat]? = some d) (hp : prop d.c = true) : CallSt Try.prog 17 [.c (.sl 6 72 (dcs sig)), .c (.int .i64 (n))] [] (fun r H' => r = .c (.bool (kindT d.c)) ∧ H' = []) := by
  have hf := cRFamily sig n h0 d hd hp
  generalize kindT d.c = b at *
  refine call_pure (E := env 0) (fn := Try.f17) (c := bodyOf Try.f17) (env_ok 0) mixed (by kernel_rfl) (by kernel_rfl) (by kernel_rfl) (by kernel_rfl) (by kernel_rfl) (by kernel_rfl) rfl ?_
  conv => whnf
  try (refine dI (by kernel_rfl) ?_; conv => whnf)
  first | refine CallSt.use hf [] trivial (by decide) rfl ?_ | refine CallPt.useS hf [] trivial (by decide) rfl ?_
  rintro _ _ ⟨rfl, rfl⟩ _
  conv => whnf
  repeat ((first | refine aI rfl ?_ | refine aI (by decide) ?_ | refine dI (by kernel_rfl) ?_ | refine aI ⟨by omega, by omega⟩ ?_ | refine aI (by omega) ?_ | refine aI (fun _ => ⟨by omega, by omega⟩) ?_ | refine aI (of_decide_eq_true rfl) ?_ | (refine yI ?_ ?_; focus (first | decide | (simp; done) | (simp [tcs]; done))) | (refine nI ?_ ?_; focus (first | decide | (simp; done) | (simp [tcs]; done))) | intro _); conv => whnf)
  all_goals (first | rfl | exact ⟨rfl, rfl⟩ | exact ⟨rfl, rfl, rfl⟩)
end Go.Tr
/- depend.needs. -/
namespace Go.Tr
open Go.Proofs
mutual
theorem fm_allT : ∀ (t : Term) (d i : Int), fmT t d = true → allT (fun t _ => decide (0 ≤ t.n)) t i = true
  | .mk k l n ts, d, i, h => by
    simp only [fmT, Bool.and_eq_true] at h
    rw [allT, Bool.and_eq_true]
    refine ⟨?_, fm_allL ts d k i 0 h.2⟩
    have h := h.1.2
    rw [decide_eq_true_eq]
    show 0 ≤ n
    unfold fmB at h
    split at h
    · simp at h; omega
    · split at h
      · simp at h; omega
      · split at h
        · simp at h; omega
        · split at h
          · simp at h; omega
          · cases h
theorem fm_allL : ∀ (ts : List Term) (d k i j : Int), fmL ts d = true → allL (fun t _ => decide (0 ≤ t.n)) k i j ts = true
  | [], _, _, _, _, _ => by rw [allL]
  | t :: r, d, k, i, j, h => by
    simp only [fmL, Bool.and_eq_true] at h
    rw [allL, Bool.and_eq_true]
    exact ⟨fm_allT t (d + 1) _ h.1, fm_allL r d k i (j + 1) h.2⟩
end
theorem big0 : List.map ofConst (List.replicate 10000 (.bool false)) = (mrow (fun _ _ => false)).map AV.c := by
  rw [← mrow_zero, List.map_replicate, List.map_replicate]
  rfl
end Go.Tr
/- depend: has, family, target. -/
namespace Go.Tr
open Go.Proofs
theorem cDHas (sig : List Dcl) (n : Int) : CallSt Try.prog 31 [.c (.sl 6 72 (dcs sig)), .c (.int .i64 (n))] [] (fun r H' => r = .c (.int .i64 (hasE sig n)) ∧ H' = []) := by
  have hck := cCheck sig
  have hbl := len_dcs sig
  rcases hasE_cases sig n with ⟨e, hc⟩ | ⟨e, hc, hn⟩ | ⟨e, hc, hn⟩
  · rw [e]
    rw [hc] at hck
    refine call_pure (E := env 0) (fn := Try.f31) (c := bodyOf Try.f31) (env_ok 0) mixed (by kernel_rfl) (by kernel_rfl) (by kernel_rfl) (by kernel_rfl) (by kernel_rfl) (by kernel_rfl) rfl ?_
    conv => whnf
    try (refine dI (by kernel_rfl) ?_; conv => whnf)
    first | refine CallSt.use hck [] trivial (by decide) rfl ?_ | refine CallPt.useS hck [] trivial (by decide) rfl ?_
    rintro _ _ ⟨rfl, rfl⟩ _
    conv => whnf
    repeat ((first | refine aI rfl ?_ | refine aI (by decide) ?_ | refine dI (by kernel_rfl) ?_ | refine aI ⟨by omega, by omega⟩ ?_ | refine aI (by omega) ?_ | refine aI (fun _ => ⟨by omega, by omega⟩) ?_ | refine aI (of_decide_eq_true rfl) ?_ | (refine yI ?_ ?_; focus (first | decide | (simp; done) | (simp [tcs]; done))) | (refine nI ?_ ?_; focus (first | decide | (simp; done) | (simp [tcs]; done))) | intro _); conv => whnf)
    all_goals (first | rfl | exact ⟨rfl, rfl⟩ | exact ⟨rfl, rfl, rfl⟩)
  · rw [e]
    rw [hc] at hck
    have eC : (decide (n < 0) || decide (((dcs sig).length : Int) ≤ n)) = true := by
      rw [Bool.or_eq_true, decide_eq_true_eq, decide_eq_true_eq]
      omega
    refine call_pure (E := env 0) (fn := Try.f31) (c := bodyOf Try.f31) (env_ok 0) mixed (by kernel_rfl) (by kernel_rfl) (by kernel_rfl) (by kernel_rfl) (by kernel_rfl) (by kernel_rfl) rfl ?_
    conv => whnf
    try (refine dI (by kernel_rfl) ?_; conv => whnf)
    first | refine CallSt.use hck [] trivial (by decide) rfl ?_ | refine CallPt.useS hck [] trivial (by decide) rfl ?_
    rintro _ _ ⟨rfl, rfl⟩ _
    conv => whnf
    repeat ((first | refine aI rfl ?_ | refine aI (by decide) ?_ | refine dI (by kernel_rfl) ?_ | refine aI ⟨by omega, by omega⟩ ?_ | refine aI (by omega) ?_ | refine aI (fun _ => ⟨by omega, by omega⟩) ?_ | refine aI (of_decide_eq_true rfl) ?_ | (refine yI ?_ ?_; focus (first | decide | (simp; done) | (simp [tcs]; done))) | (refine nI ?_ ?_; focus (first | decide | (simp; done) | (simp [tcs]; done))) | intro _); conv => whnf)
    rw [eC]
    (refine ⟨fun _ => ?_, fun h => absurd h ?_⟩; rotate_left; (focus (first | decide | (simp; done) | (simp [tcs]; done))); conv => whnf)
    repeat ((first | refine aI rfl ?_ | refine aI (by decide) ?_ | refine dI (by kernel_rfl) ?_ | refine aI ⟨by omega, by omega⟩ ?_ | refine aI (by omega) ?_ | refine aI (fun _ => ⟨by omega, by omega⟩) ?_ | refine aI (of_decide_eq_true rfl) ?_ | (refine yI ?_ ?_; focus (first | decide | (simp; done) | (simp [tcs]; done))) | (refine nI ?_ ?_; focus (first | decide | (simp; done) | (simp [tcs]; done))) | intro _); conv => whnf)
    all_goals (first | rfl | exact ⟨rfl, rfl⟩ | exact ⟨rfl, rfl, rfl⟩)
  · rw [e]
    rw [hc] at hck
    have eC : (decide (n < 0) || decide (((dcs sig).length : Int) ≤ n)) = false := by
      rw [decide_eq_false (by omega), decide_eq_false (by omega)]
      rfl
    refine call_pure (E := env 0) (fn := Try.f31) (c := bodyOf Try.f31) (env_ok 0) mixed (by kernel_rfl) (by kernel_rfl) (by kernel_rfl) (by kernel_rfl) (by kernel_rfl) (by kernel_rfl) rfl ?_
    conv => whnf
    try (refine dI (by kernel_rfl) ?_; conv => whnf)
    first | refine CallSt.use hck [] trivial (by decide) rfl ?_ | refine CallPt.useS hck [] trivial (by decide) rfl ?_
    rintro _ _ ⟨rfl, rfl⟩ _
    conv => whnf
    repeat ((first | refine aI rfl ?_ | refine aI (by decide) ?_ | refine dI (by kernel_rfl) ?_ | refine aI ⟨by omega, by omega⟩ ?_ | refine aI (by omega) ?_ | refine aI (fun _ => ⟨by omega, by omega⟩) ?_ | refine aI (of_decide_eq_true rfl) ?_ | (refine yI ?_ ?_; focus (first | decide | (simp; done) | (simp [tcs]; done))) | (refine nI ?_ ?_; focus (first | decide | (simp; done) | (simp [tcs]; done))) | intro _); conv => whnf)
    rw [eC]
    (refine ⟨fun h => absurd h ?_, fun _ => ?_⟩; (focus (first | decide | (simp; done) | (simp [tcs]; done))); conv => whnf)
    repeat ((first | refine aI rfl ?_ | refine aI (by decide) ?_ | refine dI (by kernel_rfl) ?_ | refine aI ⟨by omega, by omega⟩ ?_ | refine aI (by omega) ?_ | refine aI (fun _ => ⟨by omega, by omega⟩) ?_ | refine aI (of_decide_eq_true rfl) ?_ | (refine yI ?_ ?_; focus (first | decide | (simp; done) | (simp [tcs]; done))) | (refine nI ?_ ?_; focus (first | decide | (simp; done) | (simp [tcs]; done))) | intro _); conv => whnf)
    all_goals (first | rfl | exact ⟨rfl, rfl⟩ | exact ⟨rfl, rfl, rfl⟩)
def famE (sig : List Dcl) (n : Int) : Int := match decide (hasE sig n = 0) with | true => (match kindAt sig n with | true => 0 | false => 22) | false => hasE sig n
theorem famE_no {sig : List Dcl} {n : Int} (h : hasE sig n ≠ 0) : famE sig n = hasE sig n := by unfold famE; rw [decide_eq_false h]
theorem famE_yes {sig : List Dcl} {n : Int} (h : hasE sig n = 0) (hk : kindAt sig n = true) : famE sig n = 0 := by unfold famE; rw [decide_eq_true h, hk]
theorem famE_lev {sig : List Dcl} {n : Int} (h : hasE sig n = 0) (hk : kindAt sig n = false) : famE sig n = 22 := by unfold famE; rw [decide_eq_true h, hk]
theorem kindAt_of {sig : List Dcl} {n : Nat} {d : Dcl} (h : sig[n]? = some d) : kindAt sig (n : Int) = kindT d.c := by unfold kindAt; rw [Int.toNat_natCast, h]
theorem cFam2 {sig : List Dcl} (hp : ∀ e ∈ sig, prop e.c = true) {n : Int} (h0 : 0 ≤ n) (h1 : n < sig.length) : CallSt Try.prog 36 [.c (.sl 6 72 (dcs sig)), .c (.int .i64 (n))] [] (fun r H' => r = .c (.bool (kindAt sig n)) ∧ H' = []) := by
  obtain ⟨k, rfl⟩ : ∃ k : Nat, n = k := ⟨n.toNat, by omega⟩
  have hd : sig[k]? = some sig[k] := List.getElem?_eq_getElem (by omega)
  rw [kindAt_of hd]
  exact cFamily sig k _ hd (hp _ (List.mem_of_getElem? hd))
theorem cDFam (sig : List Dcl) (n : Int) : CallSt Try.prog 32 [.c (.sl 6 72 (dcs sig)), .c (.int .i64 (n))] [] (fun r H' => r = .c (.int .i64 (famE sig n)) ∧ H' = []) := by
  have hh := cDHas sig n
  by_cases h : hasE sig n = 0
  · obtain ⟨hc, h0, h1⟩ := hasE_ok h
    have hf := cFam2 (check_prop hc) h0 h1
    rw [h] at hh
    cases hk : kindAt sig n with
    | true =>
      rw [famE_yes h hk]
      rw [hk] at hf
      refine call_pure (E := env 0) (fn := Try.f32) (c := bodyOf Try.f32) (env_ok 0) mixed (by kernel_rfl) (by kernel_rfl) (by kernel_rfl) (by kernel_rfl) (by kernel_rfl) (by kernel_rfl) rfl ?_
      conv => whnf
      try (refine dI (by kernel_rfl) ?_; conv => whnf)
      first | refine CallSt.use hh [] trivial (by decide) rfl ?_ | refine CallPt.useS hh [] trivial (by decide) rfl ?_
      rintro _ _ ⟨rfl, rfl⟩ _
      conv => whnf
      repeat ((first | refine aI rfl ?_ | refine aI (by decide) ?_ | refine dI (by kernel_rfl) ?_ | refine aI ⟨by omega, by omega⟩ ?_ | refine aI (by omega) ?_ | refine aI (fun _ => ⟨by omega, by omega⟩) ?_ | refine aI (of_decide_eq_true rfl) ?_ | (refine yI ?_ ?_; focus (first | decide | (simp; done) | (simp [tcs]; done))) | (refine nI ?_ ?_; focus (first | decide | (simp; done) | (simp [tcs]; done))) | intro _); conv => whnf)
      try (refine dI (by kernel_rfl) ?_; conv => whnf)
      first | refine CallSt.use hf [] trivial (by decide) rfl ?_ | refine CallPt.useS hf [] trivial (by decide) rfl ?_
      rintro _ _ ⟨rfl, rfl⟩ _
      conv => whnf
      repeat ((first | refine aI rfl ?_ | refine aI (by decide) ?_ | refine dI (by kernel_rfl) ?_ | refine aI ⟨by omega, by omega⟩ ?_ | refine aI (by omega) ?_ | refine aI (fun _ => ⟨by omega, by omega⟩) ?_ | refine aI (of_decide_eq_true rfl) ?_ | (refine yI ?_ ?_; focus (first | decide | (simp; done) | (simp [tcs]; done))) | (refine nI ?_ ?_; focus (first | decide | (simp; done) | (simp [tcs]; done))) | intro _); conv => whnf)
      all_goals (first | rfl | exact ⟨rfl, rfl⟩ | exact ⟨rfl, rfl, rfl⟩)
    | false =>
      rw [famE_lev h hk]
      rw [hk] at hf
      refine call_pure (E := env 0) (fn := Try.f32) (c := bodyOf Try.f32) (env_ok 0) mixed (by kernel_rfl) (by kernel_rfl) (by kernel_rfl) (by kernel_rfl) (by kernel_rfl) (by kernel_rfl) rfl ?_
      conv => whnf
      try (refine dI (by kernel_rfl) ?_; conv => whnf)
      first | refine CallSt.use hh [] trivial (by decide) rfl ?_ | refine CallPt.useS hh [] trivial (by decide) rfl ?_
      rintro _ _ ⟨rfl, rfl⟩ _
      conv => whnf
      repeat ((first | refine aI rfl ?_ | refine aI (by decide) ?_ | refine dI (by kernel_rfl) ?_ | refine aI ⟨by omega, by omega⟩ ?_ | refine aI (by omega) ?_ | refine aI (fun _ => ⟨by omega, by omega⟩) ?_ | refine aI (of_decide_eq_true rfl) ?_ | (refine yI ?_ ?_; focus (first | decide | (simp; done) | (simp [tcs]; done))) | (refine nI ?_ ?_; focus (first | decide | (simp; done) | (simp [tcs]; done))) | intro _); conv => whnf)
      try (refine dI (by kernel_rfl) ?_; conv => whnf)
      first | refine CallSt.use hf [] trivial (by decide) rfl ?_ | refine CallPt.useS hf [] trivial (by decide) rfl ?_
      rintro _ _ ⟨rfl, rfl⟩ _
      conv => whnf
      repeat ((first | refine aI rfl ?_ | refine aI (by decide) ?_ | refine dI (by kernel_rfl) ?_ | refine aI ⟨by omega, by omega⟩ ?_ | refine aI (by omega) ?_ | refine aI (fun _ => ⟨by omega, by omega⟩) ?_ | refine aI (of_decide_eq_true rfl) ?_ | (refine yI ?_ ?_; focus (first | decide | (simp; done) | (simp [tcs]; done))) | (refine nI ?_ ?_; focus (first | decide | (simp; done) | (simp [tcs]; done))) | intro _); conv => whnf)
      all_goals (first | rfl | exact ⟨rfl, rfl⟩ | exact ⟨rfl, rfl, rfl⟩)
  · rw [famE_no h]
    have e : decide (hasE sig n = 0) = false := decide_eq_false h
    generalize hasE sig n = z at *
    refine call_pure (E := env 0) (fn := Try.f32) (c := bodyOf Try.f32) (env_ok 0) mixed (by kernel_rfl) (by kernel_rfl) (by kernel_rfl) (by kernel_rfl) (by kernel_rfl) (by kernel_rfl) rfl ?_
    conv => whnf
    try (refine dI (by kernel_rfl) ?_; conv => whnf)
    first | refine CallSt.use hh [] trivial (by decide) rfl ?_ | refine CallPt.useS hh [] trivial (by decide) rfl ?_
    rintro _ _ ⟨rfl, rfl⟩ _
    conv => whnf
    repeat ((first | refine aI rfl ?_ | refine aI (by decide) ?_ | refine dI (by kernel_rfl) ?_ | refine aI ⟨by omega, by omega⟩ ?_ | refine aI (by omega) ?_ | refine aI (fun _ => ⟨by omega, by omega⟩) ?_ | refine aI (of_decide_eq_true rfl) ?_ | (refine yI ?_ ?_; focus (first | decide | (simp; done) | (simp [tcs]; done))) | (refine nI ?_ ?_; focus (first | decide | (simp; done) | (simp [tcs]; done))) | intro _); conv => whnf)
    rw [e]
    repeat ((first | refine aI rfl ?_ | refine aI (by decide) ?_ | refine dI (by kernel_rfl) ?_ | refine aI ⟨by omega, by omega⟩ ?_ | refine aI (by omega) ?_ | refine aI (fun _ => ⟨by omega, by omega⟩) ?_ | refine aI (of_decide_eq_true rfl) ?_ | (refine yI ?_ ?_; focus (first | decide | (simp; done) | (simp [tcs]; done))) | (refine nI ?_ ?_; focus (first | decide | (simp; done) | (simp [tcs]; done))) | intro _); conv => whnf)
    all_goals (first | rfl | exact ⟨rfl, rfl⟩ | exact ⟨rfl, rfl, rfl⟩)
def tgB (sig : List Dcl) (a : Term) : Bool := targOk a && decide ((domT a).2.n < sig.length) && kindAt sig (domT a).2.n
theorem fm_n {t : Term} {d : Int} (h : fmT t d = true) : 0 ≤ t.n := by
  have := fm_allT t d 0 h
  obtain ⟨k, l, n, ts⟩ := t
  rw [allT, Bool.and_eq_true] at this
  exact of_decide_eq_true this.1
theorem cDTarget (sig : List Dcl) (hp : ∀ e ∈ sig, prop e.c = true) (a : Term) (d : Int) (h : fmT a d = true) (hd : 0 ≤ d) : CallSt Try.prog 44 [.c (.sl 6 72 (dcs sig)), tv a] [] (fun r H' => r = .tup [.c (.int .i64 ((domT a).2.n)), .c (.bool (tgB sig a))] ∧ H' = []) := by
  have hdm := c68 a d h hd
  obtain ⟨_, _, d', hd', _⟩ := dom_rest a d h
  have hn := fm_n hd'
  have hbl := len_dcs sig
  unfold tgB targOk
  have hfm : (domT a).2.n < sig.length → CallSt Try.prog 36 [.c (.sl 6 72 (dcs sig)), .c (.int .i64 ((domT a).2.n))] [] (fun r H' => r = .c (.bool (kindAt sig (domT a).2.n)) ∧ H' = []) := fun h1 => cFam2 hp hn h1
  rw [show (sig.length : Int) = ((dcs sig).length : Int) by rw [hbl]]
  generalize (domT a).1 = D at *
  generalize (domT a).2 = u at *
  rw [show tv u = .agg [.c (.int .i64 (u.k)), .c (.int .i64 (u.l)), .c (.int .i64 (u.n)), .c (.sl 4 48 (tcs u.ts))] from rfl] at hdm
  generalize kindAt sig u.n = kb at *
  generalize u.k = uk at *
  generalize u.l = ul at *
  generalize u.n = un at *
  generalize u.ts = uts at *
  obtain ⟨k, l, n, ts⟩ := a
  rw [tv_mk] at *
  cases hb3 : (decide (uk = 4) && decide (ul = 2) && decide (un < ((dcs sig).length : Int))) with
  | true =>
    have hlt : un < sig.length := by
      rw [Bool.and_eq_true] at hb3
      have := of_decide_eq_true hb3.2
      omega
    have hf := hfm hlt
    refine call_pure (E := env 0) (fn := Try.f44) (c := bodyOf Try.f44) (env_ok 0) mixed (by kernel_rfl) (by kernel_rfl) (by kernel_rfl) (by kernel_rfl) (by kernel_rfl) (by kernel_rfl) rfl ?_
    conv => whnf
    try (refine dI (by kernel_rfl) ?_; conv => whnf)
    first | refine CallSt.use hdm [] trivial (by decide) rfl ?_ | refine CallPt.useS hdm [] trivial (by decide) rfl ?_
    rintro _ _ ⟨rfl, rfl⟩ _
    conv => whnf
    repeat ((first | refine aI rfl ?_ | refine aI (by decide) ?_ | refine dI (by kernel_rfl) ?_ | refine aI ⟨by omega, by omega⟩ ?_ | refine aI (by omega) ?_ | refine aI (fun _ => ⟨by omega, by omega⟩) ?_ | refine aI (of_decide_eq_true rfl) ?_ | (refine yI ?_ ?_; focus (first | decide | (simp; done) | (simp [tcs]; done))) | (refine nI ?_ ?_; focus (first | decide | (simp; done) | (simp [tcs]; done))) | intro _); conv => whnf)
    rw [hb3]
    (refine ⟨fun _ => ?_, fun h => absurd h (by simp)⟩; conv => whnf)
    try (refine dI (by kernel_rfl) ?_; conv => whnf)
    first | refine CallSt.use hf [] trivial (by decide) rfl ?_ | refine CallPt.useS hf [] trivial (by decide) rfl ?_
    rintro _ _ ⟨rfl, rfl⟩ _
    conv => whnf
    repeat ((first | refine aI rfl ?_ | refine aI (by decide) ?_ | refine dI (by kernel_rfl) ?_ | refine aI ⟨by omega, by omega⟩ ?_ | refine aI (by omega) ?_ | refine aI (fun _ => ⟨by omega, by omega⟩) ?_ | refine aI (of_decide_eq_true rfl) ?_ | (refine yI ?_ ?_; focus (first | decide | (simp; done) | (simp [tcs]; done))) | (refine nI ?_ ?_; focus (first | decide | (simp; done) | (simp [tcs]; done))) | intro _); conv => whnf)
    rfl
  | false =>
    refine call_pure (E := env 0) (fn := Try.f44) (c := bodyOf Try.f44) (env_ok 0) mixed (by kernel_rfl) (by kernel_rfl) (by kernel_rfl) (by kernel_rfl) (by kernel_rfl) (by kernel_rfl) rfl ?_
    conv => whnf
    try (refine dI (by kernel_rfl) ?_; conv => whnf)
    first | refine CallSt.use hdm [] trivial (by decide) rfl ?_ | refine CallPt.useS hdm [] trivial (by decide) rfl ?_
    rintro _ _ ⟨rfl, rfl⟩ _
    conv => whnf
    repeat ((first | refine aI rfl ?_ | refine aI (by decide) ?_ | refine dI (by kernel_rfl) ?_ | refine aI ⟨by omega, by omega⟩ ?_ | refine aI (by omega) ?_ | refine aI (fun _ => ⟨by omega, by omega⟩) ?_ | refine aI (of_decide_eq_true rfl) ?_ | (refine yI ?_ ?_; focus (first | decide | (simp; done) | (simp [tcs]; done))) | (refine nI ?_ ?_; focus (first | decide | (simp; done) | (simp [tcs]; done))) | intro _); conv => whnf)
    rw [hb3]
    (refine ⟨fun h => absurd h (by simp), fun _ => ?_⟩; conv => whnf)
    repeat ((first | refine aI rfl ?_ | refine aI (by decide) ?_ | refine dI (by kernel_rfl) ?_ | refine aI ⟨by omega, by omega⟩ ?_ | refine aI (by omega) ?_ | refine aI (fun _ => ⟨by omega, by omega⟩) ?_ | refine aI (of_decide_eq_true rfl) ?_ | (refine yI ?_ ?_; focus (first | decide | (simp; done) | (simp [tcs]; done))) | (refine nI ?_ ?_; focus (first | decide | (simp; done) | (simp [tcs]; done))) | intro _); conv => whnf)
    rfl
end Go.Tr
/- depend.Higher. -/
namespace Go.Tr
open Go.Proofs
theorem cIdxT (f : FuncId) (g : Term → Bool) (l : List Term) (hl : l.length ≤ 100000) (hf : ∀ t ∈ l, CallSt Try.prog f [tv t] [] (fun r H' => r = .c (.bool (g t)) ∧ H' = [])) :
    CallSt Try.prog 68 [.c (.sl 4 48 (tcs l)), .fn f []] [] (fun r H' => ∃ v : Int, r = .c (.int .i64 (v)) ∧ H' = [] ∧ (l.any g = true → 0 ≤ v) ∧ (l.any g = false → v = -1)) := by
  have hll := len_tcs l
  refine call_pure (E := envK 0) (fn := Try.f68) (c := bodyOf Try.f68) (envK_ok 0) mixed (by kernel_rfl) (by kernel_rfl) (by kernel_rfl) (by kernel_rfl) (by kernel_rfl) (by kernel_rfl) rfl ?_
  conv => whnf
  repeat ((first | refine aI rfl ?_ | refine aI (by decide) ?_ | refine dI (by kernel_rfl) ?_ | refine aI ⟨by omega, by omega⟩ ?_ | refine aI (by omega) ?_ | refine aI (fun _ => ⟨by omega, by omega⟩) ?_ | refine aI (of_decide_eq_true rfl) ?_ | (refine yI ?_ ?_; focus (first | decide | (simp; done) | (simp [tcs]; done))) | (refine nI ?_ ?_; focus (first | decide | (simp; done) | (simp [tcs]; done))) | intro _); conv => whnf)
  refine loop_intro (fun m tm H => ∃ j : Nat, l.length = m + j ∧ (∀ (q : Nat) t, q < j → l[q]? = some t → g t = false) ∧ tm = [(8, .c (.int .i64 (j))), (7, .c (.int .i64 ((tcs l).length))), (0, .c (.sl 4 48 (tcs l))), (1, .fn f [])] ∧ H = [])
    l.length _ _ ⟨0, by omega, fun q t hq => absurd hq (by omega), rfl, rfl⟩ (Wk.sl [] rfl trivial ⟨rfl, rfl, rfl, rfl, trivial⟩ rfl) ?_
  rintro m tm H ⟨j, hj, hall, rfl, rfl⟩
  conv => whnf
  refine ⟨fun hc => ?_, fun hc => ?_⟩
  · replace hc : (j : Int) < (tcs l).length := of_decide_eq_true hc
    obtain ⟨u, hu⟩ : ∃ u, l[j]? = some u := ⟨l[j]'(by omega), List.getElem?_eq_getElem (by omega)⟩
    have huc := tcs_at l j u hu
    have hfu := hf u (List.mem_of_getElem? hu)
    cases hg : g u with
    | true =>
      have e : l.any g = true := List.any_eq_true.2 ⟨u, List.mem_of_getElem? hu, hg⟩
      rw [e]
      rw [hg] at hfu
      clear hg
      obtain ⟨k', l', n', us⟩ := u
      rw [tv_mk] at hfu
      conv => whnf
      repeat ((first | refine aI rfl ?_ | refine aI (by decide) ?_ | refine dI (by kernel_rfl) ?_ | refine aI ⟨by omega, by omega⟩ ?_ | refine aI (by omega) ?_ | refine aI (fun _ => ⟨by omega, by omega⟩) ?_ | refine aI (of_decide_eq_true rfl) ?_ | (refine yI ?_ ?_; focus (first | decide | (simp; done) | (simp [tcs]; done))) | (refine nI ?_ ?_; focus (first | decide | (simp; done) | (simp [tcs]; done))) | intro _); conv => whnf)
      refine ⟨_, ⟨by omega, by simpa using huc⟩, ?_⟩
      conv => whnf
      refine ⟨Nat.le_refl 4, ?_⟩
      conv => whnf
      repeat ((first | refine aI rfl ?_ | refine aI (by decide) ?_ | refine dI (by kernel_rfl) ?_ | refine aI ⟨by omega, by omega⟩ ?_ | refine aI (by omega) ?_ | refine aI (fun _ => ⟨by omega, by omega⟩) ?_ | refine aI (of_decide_eq_true rfl) ?_ | (refine yI ?_ ?_; focus (first | decide | (simp; done) | (simp [tcs]; done))) | (refine nI ?_ ?_; focus (first | decide | (simp; done) | (simp [tcs]; done))) | intro _); conv => whnf)
      try (refine dI (by kernel_rfl) ?_; conv => whnf)
      first | refine CallSt.use hfu [] trivial (by decide) rfl ?_ | refine CallPt.useS hfu [] trivial (by decide) rfl ?_
      rintro _ _ ⟨rfl, rfl⟩ _
      conv => whnf
      repeat ((first | refine aI rfl ?_ | refine aI (by decide) ?_ | refine dI (by kernel_rfl) ?_ | refine aI ⟨by omega, by omega⟩ ?_ | refine aI (by omega) ?_ | refine aI (fun _ => ⟨by omega, by omega⟩) ?_ | refine aI (of_decide_eq_true rfl) ?_ | (refine yI ?_ ?_; focus (first | decide | (simp; done) | (simp [tcs]; done))) | (refine nI ?_ ?_; focus (first | decide | (simp; done) | (simp [tcs]; done))) | intro _); conv => whnf)
      exact ⟨j, rfl, rfl, fun _ => by omega, fun h => by cases h⟩
    | false =>
      rw [hg] at hfu
      have hnx : ∀ (q : Nat) t, q < j + 1 → l[q]? = some t → g t = false := fun q t hq ht => by
        by_cases hqj : q < j
        · exact hall q t hqj ht
        · obtain rfl : q = j := by omega
          rw [hu] at ht
          injection ht with ht
          exact ht ▸ hg
      clear hg
      obtain ⟨k', l', n', us⟩ := u
      rw [tv_mk] at hfu
      conv => whnf
      repeat ((first | refine aI rfl ?_ | refine aI (by decide) ?_ | refine dI (by kernel_rfl) ?_ | refine aI ⟨by omega, by omega⟩ ?_ | refine aI (by omega) ?_ | refine aI (fun _ => ⟨by omega, by omega⟩) ?_ | refine aI (of_decide_eq_true rfl) ?_ | (refine yI ?_ ?_; focus (first | decide | (simp; done) | (simp [tcs]; done))) | (refine nI ?_ ?_; focus (first | decide | (simp; done) | (simp [tcs]; done))) | intro _); conv => whnf)
      refine ⟨_, ⟨by omega, by simpa using huc⟩, ?_⟩
      conv => whnf
      refine ⟨Nat.le_refl 4, ?_⟩
      conv => whnf
      repeat ((first | refine aI rfl ?_ | refine aI (by decide) ?_ | refine dI (by kernel_rfl) ?_ | refine aI ⟨by omega, by omega⟩ ?_ | refine aI (by omega) ?_ | refine aI (fun _ => ⟨by omega, by omega⟩) ?_ | refine aI (of_decide_eq_true rfl) ?_ | (refine yI ?_ ?_; focus (first | decide | (simp; done) | (simp [tcs]; done))) | (refine nI ?_ ?_; focus (first | decide | (simp; done) | (simp [tcs]; done))) | intro _); conv => whnf)
      try (refine dI (by kernel_rfl) ?_; conv => whnf)
      first | refine CallSt.use hfu [] trivial (by decide) rfl ?_ | refine CallPt.useS hfu [] trivial (by decide) rfl ?_
      rintro _ _ ⟨rfl, rfl⟩ _
      conv => whnf
      repeat ((first | refine aI rfl ?_ | refine aI (by decide) ?_ | refine dI (by kernel_rfl) ?_ | refine aI ⟨by omega, by omega⟩ ?_ | refine aI (by omega) ?_ | refine aI (fun _ => ⟨by omega, by omega⟩) ?_ | refine aI (of_decide_eq_true rfl) ?_ | (refine yI ?_ ?_; focus (first | decide | (simp; done) | (simp [tcs]; done))) | (refine nI ?_ ?_; focus (first | decide | (simp; done) | (simp [tcs]; done))) | intro _); conv => whnf)
      exact ⟨m - 1, _, _, by omega, ⟨j + 1, by omega, hnx, rfl, rfl⟩, Wk.sl [] rfl trivial ⟨rfl, rfl, rfl, rfl, trivial⟩ rfl⟩
  · replace hc : ¬ (j : Int) < (tcs l).length := of_decide_eq_false hc
    obtain rfl : j = l.length := by omega
    have e : l.any g = false := by
      rw [List.any_eq_false]
      intro t ht
      obtain ⟨i, hi⟩ := List.mem_iff_getElem?.1 ht
      rw [hall i t (List.getElem?_eq_some_iff.1 hi).1 hi]
      simp
    rw [e]
    conv => whnf
    repeat ((first | refine aI rfl ?_ | refine aI (by decide) ?_ | refine dI (by kernel_rfl) ?_ | refine aI ⟨by omega, by omega⟩ ?_ | refine aI (by omega) ?_ | refine aI (fun _ => ⟨by omega, by omega⟩) ?_ | refine aI (of_decide_eq_true rfl) ?_ | (refine yI ?_ ?_; focus (first | decide | (simp; done) | (simp [tcs]; done))) | (refine nI ?_ ?_; focus (first | decide | (simp; done) | (simp [tcs]; done))) | intro _); conv => whnf)
    exact ⟨-1, rfl, rfl, (by intro h; cases h), fun _ => rfl⟩
theorem cAnyT (f : FuncId) (g : Term → Bool) (l : List Term) (hl : l.length ≤ 100000) (hf : ∀ t ∈ l, CallSt Try.prog f [tv t] [] (fun r H' => r = .c (.bool (g t)) ∧ H' = [])) :
    CallSt Try.prog 48 [.c (.sl 4 48 (tcs l)), .fn f []] [] (fun r H' => r = .c (.bool (l.any g)) ∧ H' = []) := by
  have hi := cIdxT f g l hl hf
  cases h : l.any g with
  | true =>
    rw [h] at hi
    refine call_pure (E := envK 0) (fn := Try.f48) (c := bodyOf Try.f48) (envK_ok 0) mixed (by kernel_rfl) (by kernel_rfl) (by kernel_rfl) (by kernel_rfl) (by kernel_rfl) (by kernel_rfl) rfl ?_
    conv => whnf
    repeat ((first | refine aI rfl ?_ | refine aI (by decide) ?_ | refine dI (by kernel_rfl) ?_ | refine aI ⟨by omega, by omega⟩ ?_ | refine aI (by omega) ?_ | refine aI (fun _ => ⟨by omega, by omega⟩) ?_ | refine aI (of_decide_eq_true rfl) ?_ | (refine yI ?_ ?_; focus (first | decide | (simp; done) | (simp [tcs]; done))) | (refine nI ?_ ?_; focus (first | decide | (simp; done) | (simp [tcs]; done))) | intro _); conv => whnf)
    try (refine dI (by kernel_rfl) ?_; conv => whnf)
    first | refine CallSt.use hi [] trivial (by decide) rfl ?_ | refine CallPt.useS hi [] trivial (by decide) rfl ?_
    rintro _ _ ⟨v, rfl, rfl, h1, _⟩ _
    conv => whnf
    repeat ((first | refine aI rfl ?_ | refine aI (by decide) ?_ | refine dI (by kernel_rfl) ?_ | refine aI ⟨by omega, by omega⟩ ?_ | refine aI (by omega) ?_ | refine aI (fun _ => ⟨by omega, by omega⟩) ?_ | refine aI (of_decide_eq_true rfl) ?_ | (refine yI ?_ ?_; focus (first | decide | (simp; done) | (simp [tcs]; done))) | (refine nI ?_ ?_; focus (first | decide | (simp; done) | (simp [tcs]; done))) | intro _); conv => whnf)
    exact ⟨by rw [decide_eq_true (h1 rfl)], rfl⟩
  | false =>
    rw [h] at hi
    refine call_pure (E := envK 0) (fn := Try.f48) (c := bodyOf Try.f48) (envK_ok 0) mixed (by kernel_rfl) (by kernel_rfl) (by kernel_rfl) (by kernel_rfl) (by kernel_rfl) (by kernel_rfl) rfl ?_
    conv => whnf
    repeat ((first | refine aI rfl ?_ | refine aI (by decide) ?_ | refine dI (by kernel_rfl) ?_ | refine aI ⟨by omega, by omega⟩ ?_ | refine aI (by omega) ?_ | refine aI (fun _ => ⟨by omega, by omega⟩) ?_ | refine aI (of_decide_eq_true rfl) ?_ | (refine yI ?_ ?_; focus (first | decide | (simp; done) | (simp [tcs]; done))) | (refine nI ?_ ?_; focus (first | decide | (simp; done) | (simp [tcs]; done))) | intro _); conv => whnf)
    try (refine dI (by kernel_rfl) ?_; conv => whnf)
    first | refine CallSt.use hi [] trivial (by decide) rfl ?_ | refine CallPt.useS hi [] trivial (by decide) rfl ?_
    rintro _ _ ⟨v, rfl, rfl, _, h2⟩ _
    conv => whnf
    repeat ((first | refine aI rfl ?_ | refine aI (by decide) ?_ | refine dI (by kernel_rfl) ?_ | refine aI ⟨by omega, by omega⟩ ?_ | refine aI (by omega) ?_ | refine aI (fun _ => ⟨by omega, by omega⟩) ?_ | refine aI (of_decide_eq_true rfl) ?_ | (refine yI ?_ ?_; focus (first | decide | (simp; done) | (simp [tcs]; done))) | (refine nI ?_ ?_; focus (first | decide | (simp; done) | (simp [tcs]; done))) | intro _); conv => whnf)
    exact ⟨by rw [h2 rfl]; rfl, rfl⟩
abbrev hgH (sig : List Dcl) (n : Int) : HP := [.box [.c (.sl 6 72 (dcs sig))], .box [.c (.int .i64 (n))]]
theorem cIdxD (f : FuncId) (g : Dcl → Bool) (sig l : List Dcl) (n : Int) (hl : l.length ≤ 100000) (hf : ∀ d ∈ l, CallSt Try.prog f [dv d, .ptr 0 0, .ptr 1 0] (hgH sig n) (fun r H' => r = .c (.bool (g d)) ∧ H' = hgH sig n)) :
    CallSt Try.prog 67 [.c (.sl 6 72 (dcs l)), .fn f [.ptr 0 0, .ptr 1 0]] (hgH sig n) (fun r H' => ∃ v : Int, r = .c (.int .i64 (v)) ∧ H' = hgH sig n ∧ (l.any g = true → 0 ≤ v) ∧ (l.any g = false → v = -1)) := by
  have hll := len_dcs l
  refine call_trim (E := envK 2) (fn := Try.f67) (c := bodyOf Try.f67) (envK_ok 2) mixed (by kernel_rfl) (by kernel_rfl) (by kernel_rfl) (by kernel_rfl) (by kernel_rfl) (by kernel_rfl) rfl ?_
  conv => whnf
  repeat ((first | refine aI rfl ?_ | refine aI (by decide) ?_ | refine dI (by kernel_rfl) ?_ | refine aI ⟨by omega, by omega⟩ ?_ | refine aI (by omega) ?_ | refine aI (fun _ => ⟨by omega, by omega⟩) ?_ | refine aI (of_decide_eq_true rfl) ?_ | (refine yI ?_ ?_; focus (first | decide | (simp; done) | (simp [tcs]; done))) | (refine nI ?_ ?_; focus (first | decide | (simp; done) | (simp [tcs]; done))) | intro _); conv => whnf)
  refine loop_intro (fun m tm H => ∃ j : Nat, l.length = m + j ∧ (∀ (q : Nat) t, q < j → l[q]? = some t → g t = false) ∧ tm = [(8, .c (.int .i64 (j))), (7, .c (.int .i64 ((dcs l).length))), (0, .c (.sl 6 72 (dcs l))), (1, .fn f [.ptr 0 0, .ptr 1 0])] ∧ H = hgH sig n)
    l.length _ _ ⟨0, by omega, fun q t hq => absurd hq (by omega), rfl, rfl⟩ (Wk.sl [0, 1] rfl ⟨rfl, rfl, trivial⟩ ⟨rfl, rfl, rfl, rfl, trivial⟩ rfl) ?_
  rintro m tm H ⟨j, hj, hall, rfl, rfl⟩
  conv => whnf
  refine ⟨fun hc => ?_, fun hc => ?_⟩
  · replace hc : (j : Int) < (dcs l).length := of_decide_eq_true hc
    obtain ⟨u, hu⟩ : ∃ u, l[j]? = some u := ⟨l[j]'(by omega), List.getElem?_eq_getElem (by omega)⟩
    have huc := dcs_at hu
    have hfu := hf u (List.mem_of_getElem? hu)
    cases hg : g u with
    | true =>
      have e : l.any g = true := List.any_eq_true.2 ⟨u, List.mem_of_getElem? hu, hg⟩
      rw [e]
      rw [hg] at hfu
      clear hg
      obtain ⟨s', ⟨k', l', n', us⟩, i'⟩ := u
      conv => whnf
      repeat ((first | refine aI rfl ?_ | refine aI (by decide) ?_ | refine dI (by kernel_rfl) ?_ | refine aI ⟨by omega, by omega⟩ ?_ | refine aI (by omega) ?_ | refine aI (fun _ => ⟨by omega, by omega⟩) ?_ | refine aI (of_decide_eq_true rfl) ?_ | (refine yI ?_ ?_; focus (first | decide | (simp; done) | (simp [tcs]; done))) | (refine nI ?_ ?_; focus (first | decide | (simp; done) | (simp [tcs]; done))) | intro _); conv => whnf)
      refine ⟨_, ⟨by omega, huc⟩, ?_⟩
      conv => whnf
      refine ⟨show 6 ≤ 6 by decide, ?_⟩
      conv => whnf
      repeat ((first | refine aI rfl ?_ | refine aI (by decide) ?_ | refine dI (by kernel_rfl) ?_ | refine aI ⟨by omega, by omega⟩ ?_ | refine aI (by omega) ?_ | refine aI (fun _ => ⟨by omega, by omega⟩) ?_ | refine aI (of_decide_eq_true rfl) ?_ | (refine yI ?_ ?_; focus (first | decide | (simp; done) | (simp [tcs]; done))) | (refine nI ?_ ?_; focus (first | decide | (simp; done) | (simp [tcs]; done))) | intro _); conv => whnf)
      try (refine dI (by kernel_rfl) ?_; conv => whnf)
      first | refine CallSt.use hfu [0, 1] ⟨rfl, rfl, trivial⟩ (by decide) rfl ?_ | refine CallPt.useS hfu [0, 1] ⟨rfl, rfl, trivial⟩ (by decide) rfl ?_
      rintro _ _ ⟨rfl, rfl⟩ _
      conv => whnf
      repeat ((first | refine aI rfl ?_ | refine aI (by decide) ?_ | refine dI (by kernel_rfl) ?_ | refine aI ⟨by omega, by omega⟩ ?_ | refine aI (by omega) ?_ | refine aI (fun _ => ⟨by omega, by omega⟩) ?_ | refine aI (of_decide_eq_true rfl) ?_ | (refine yI ?_ ?_; focus (first | decide | (simp; done) | (simp [tcs]; done))) | (refine nI ?_ ?_; focus (first | decide | (simp; done) | (simp [tcs]; done))) | intro _); conv => whnf)
      exact ⟨j, rfl, rfl, fun _ => by omega, fun h => by cases h⟩
    | false =>
      rw [hg] at hfu
      have hnx : ∀ (q : Nat) t, q < j + 1 → l[q]? = some t → g t = false := fun q t hq ht => by
        by_cases hqj : q < j
        · exact hall q t hqj ht
        · obtain rfl : q = j := by omega
          rw [hu] at ht
          injection ht with ht
          exact ht ▸ hg
      clear hg
      obtain ⟨s', ⟨k', l', n', us⟩, i'⟩ := u
      conv => whnf
      repeat ((first | refine aI rfl ?_ | refine aI (by decide) ?_ | refine dI (by kernel_rfl) ?_ | refine aI ⟨by omega, by omega⟩ ?_ | refine aI (by omega) ?_ | refine aI (fun _ => ⟨by omega, by omega⟩) ?_ | refine aI (of_decide_eq_true rfl) ?_ | (refine yI ?_ ?_; focus (first | decide | (simp; done) | (simp [tcs]; done))) | (refine nI ?_ ?_; focus (first | decide | (simp; done) | (simp [tcs]; done))) | intro _); conv => whnf)
      refine ⟨_, ⟨by omega, huc⟩, ?_⟩
      conv => whnf
      refine ⟨show 6 ≤ 6 by decide, ?_⟩
      conv => whnf
      repeat ((first | refine aI rfl ?_ | refine aI (by decide) ?_ | refine dI (by kernel_rfl) ?_ | refine aI ⟨by omega, by omega⟩ ?_ | refine aI (by omega) ?_ | refine aI (fun _ => ⟨by omega, by omega⟩) ?_ | refine aI (of_decide_eq_true rfl) ?_ | (refine yI ?_ ?_; focus (first | decide | (simp; done) | (simp [tcs]; done))) | (refine nI ?_ ?_; focus (first | decide | (simp; done) | (simp [tcs]; done))) | intro _); conv => whnf)
      try (refine dI (by kernel_rfl) ?_; conv => whnf)
      first | refine CallSt.use hfu [0, 1] ⟨rfl, rfl, trivial⟩ (by decide) rfl ?_ | refine CallPt.useS hfu [0, 1] ⟨rfl, rfl, trivial⟩ (by decide) rfl ?_
      rintro _ _ ⟨rfl, rfl⟩ _
      conv => whnf
      repeat ((first | refine aI rfl ?_ | refine aI (by decide) ?_ | refine dI (by kernel_rfl) ?_ | refine aI ⟨by omega, by omega⟩ ?_ | refine aI (by omega) ?_ | refine aI (fun _ => ⟨by omega, by omega⟩) ?_ | refine aI (of_decide_eq_true rfl) ?_ | (refine yI ?_ ?_; focus (first | decide | (simp; done) | (simp [tcs]; done))) | (refine nI ?_ ?_; focus (first | decide | (simp; done) | (simp [tcs]; done))) | intro _); conv => whnf)
      exact ⟨m - 1, _, _, by omega, ⟨j + 1, by omega, hnx, rfl, rfl⟩, Wk.sl [0, 1] rfl ⟨rfl, rfl, trivial⟩ ⟨rfl, rfl, rfl, rfl, trivial⟩ rfl⟩
  · replace hc : ¬ (j : Int) < (dcs l).length := of_decide_eq_false hc
    obtain rfl : j = l.length := by omega
    have e : l.any g = false := by
      rw [List.any_eq_false]
      intro t ht
      obtain ⟨i, hi⟩ := List.mem_iff_getElem?.1 ht
      rw [hall i t (List.getElem?_eq_some_iff.1 hi).1 hi]
      simp
    rw [e]
    conv => whnf
    repeat ((first | refine aI rfl ?_ | refine aI (by decide) ?_ | refine dI (by kernel_rfl) ?_ | refine aI ⟨by omega, by omega⟩ ?_ | refine aI (by omega) ?_ | refine aI (fun _ => ⟨by omega, by omega⟩) ?_ | refine aI (of_decide_eq_true rfl) ?_ | (refine yI ?_ ?_; focus (first | decide | (simp; done) | (simp [tcs]; done))) | (refine nI ?_ ?_; focus (first | decide | (simp; done) | (simp [tcs]; done))) | intro _); conv => whnf)
    exact ⟨-1, rfl, rfl, (by intro h; cases h), fun _ => rfl⟩
theorem cAnyD (f : FuncId) (g : Dcl → Bool) (sig l : List Dcl) (n : Int) (hl : l.length ≤ 100000) (hf : ∀ d ∈ l, CallSt Try.prog f [dv d, .ptr 0 0, .ptr 1 0] (hgH sig n) (fun r H' => r = .c (.bool (g d)) ∧ H' = hgH sig n)) :
    CallSt Try.prog 45 [.c (.sl 6 72 (dcs l)), .fn f [.ptr 0 0, .ptr 1 0]] (hgH sig n) (fun r H' => r = .c (.bool (l.any g)) ∧ H' = hgH sig n) := by
  have hi := cIdxD f g sig l n hl hf
  cases h : l.any g with
  | true =>
    rw [h] at hi
    refine call_trim (E := envK 2) (fn := Try.f45) (c := bodyOf Try.f45) (envK_ok 2) mixed (by kernel_rfl) (by kernel_rfl) (by kernel_rfl) (by kernel_rfl) (by kernel_rfl) (by kernel_rfl) rfl ?_
    conv => whnf
    repeat ((first | refine aI rfl ?_ | refine aI (by decide) ?_ | refine dI (by kernel_rfl) ?_ | refine aI ⟨by omega, by omega⟩ ?_ | refine aI (by omega) ?_ | refine aI (fun _ => ⟨by omega, by omega⟩) ?_ | refine aI (of_decide_eq_true rfl) ?_ | (refine yI ?_ ?_; focus (first | decide | (simp; done) | (simp [tcs]; done))) | (refine nI ?_ ?_; focus (first | decide | (simp; done) | (simp [tcs]; done))) | intro _); conv => whnf)
    try (refine dI (by kernel_rfl) ?_; conv => whnf)
    first | refine CallSt.use hi [0, 1] ⟨rfl, rfl, trivial⟩ (by decide) rfl ?_ | refine CallPt.useS hi [0, 1] ⟨rfl, rfl, trivial⟩ (by decide) rfl ?_
    rintro _ _ ⟨v, rfl, rfl, h1, _⟩ _
    conv => whnf
    repeat ((first | refine aI rfl ?_ | refine aI (by decide) ?_ | refine dI (by kernel_rfl) ?_ | refine aI ⟨by omega, by omega⟩ ?_ | refine aI (by omega) ?_ | refine aI (fun _ => ⟨by omega, by omega⟩) ?_ | refine aI (of_decide_eq_true rfl) ?_ | (refine yI ?_ ?_; focus (first | decide | (simp; done) | (simp [tcs]; done))) | (refine nI ?_ ?_; focus (first | decide | (simp; done) | (simp [tcs]; done))) | intro _); conv => whnf)
    exact ⟨by rw [decide_eq_true (h1 rfl)], rfl⟩
  | false =>
    rw [h] at hi
    refine call_trim (E := envK 2) (fn := Try.f45) (c := bodyOf Try.f45) (envK_ok 2) mixed (by kernel_rfl) (by kernel_rfl) (by kernel_rfl) (by kernel_rfl) (by kernel_rfl) (by kernel_rfl) rfl ?_
    conv => whnf
    repeat ((first | refine aI rfl ?_ | refine aI (by decide) ?_ | refine dI (by kernel_rfl) ?_ | refine aI ⟨by omega, by omega⟩ ?_ | refine aI (by omega) ?_ | refine aI (fun _ => ⟨by omega, by omega⟩) ?_ | refine aI (of_decide_eq_true rfl) ?_ | (refine yI ?_ ?_; focus (first | decide | (simp; done) | (simp [tcs]; done))) | (refine nI ?_ ?_; focus (first | decide | (simp; done) | (simp [tcs]; done))) | intro _); conv => whnf)
    try (refine dI (by kernel_rfl) ?_; conv => whnf)
    first | refine CallSt.use hi [0, 1] ⟨rfl, rfl, trivial⟩ (by decide) rfl ?_ | refine CallPt.useS hi [0, 1] ⟨rfl, rfl, trivial⟩ (by decide) rfl ?_
    rintro _ _ ⟨v, rfl, rfl, _, h2⟩ _
    conv => whnf
    repeat ((first | refine aI rfl ?_ | refine aI (by decide) ?_ | refine dI (by kernel_rfl) ?_ | refine aI ⟨by omega, by omega⟩ ?_ | refine aI (by omega) ?_ | refine aI (fun _ => ⟨by omega, by omega⟩) ?_ | refine aI (of_decide_eq_true rfl) ?_ | (refine yI ?_ ?_; focus (first | decide | (simp; done) | (simp [tcs]; done))) | (refine nI ?_ ?_; focus (first | decide | (simp; done) | (simp [tcs]; done))) | intro _); conv => whnf)
    exact ⟨by rw [h2 rfl]; rfl, rfl⟩
theorem cHig2 (t : Term) : CallSt Try.prog 49 [tv t] [] (fun r H' => r = .c (.bool (decide (t.k = 2))) ∧ H' = []) := by
  obtain ⟨k, l, n, ts⟩ := t
  rw [tv_mk]
  refine call_pure (E := env 0) (fn := Try.f49) (c := bodyOf Try.f49) (env_ok 0) mixed (by kernel_rfl) (by kernel_rfl) (by kernel_rfl) (by kernel_rfl) (by kernel_rfl) (by kernel_rfl) rfl ?_
  conv => whnf
  repeat ((first | refine aI rfl ?_ | refine aI (by decide) ?_ | refine dI (by kernel_rfl) ?_ | refine aI ⟨by omega, by omega⟩ ?_ | refine aI (by omega) ?_ | refine aI (fun _ => ⟨by omega, by omega⟩) ?_ | refine aI (of_decide_eq_true rfl) ?_ | (refine yI ?_ ?_; focus (first | decide | (simp; done) | (simp [tcs]; done))) | (refine nI ?_ ?_; focus (first | decide | (simp; done) | (simp [tcs]; done))) | intro _); conv => whnf)
  all_goals (first | rfl | exact ⟨rfl, rfl⟩ | exact ⟨rfl, rfl, rfl⟩)
def higD (sig : List Dcl) (n : Int) (d : Dcl) : Bool := (tgB sig d.c && decide ((domT d.c).2.n = n)) && (domT d.c).1.any fun a => decide (a.k = 2)
theorem cHig1 (sig : List Dcl) (hp : ∀ e ∈ sig, prop e.c = true) (n : Int) (d : Dcl) (hd : prop d.c = true) : CallSt Try.prog 46 [dv d, .ptr 0 0, .ptr 1 0] (hgH sig n) (fun r H' => r = .c (.bool (higD sig n d)) ∧ H' = hgH sig n) := by
  have htg := cDTarget sig hp d.c 1 (prop_fm1 hd) (by omega)
  have hdm := c68 d.c 1 (prop_fm1 hd) (by omega)
  have hdl := dom_len d.c 1 (prop_fm1 hd)
  have han := cAnyT 49 (fun a => decide (a.k = 2)) (domT d.c).1 (by omega) fun t _ => cHig2 t
  unfold higD
  generalize tgB sig d.c = b1 at *
  generalize ((domT d.c).1.any fun a => decide (a.k = 2)) = b3 at *
  generalize (domT d.c).1 = D at *
  generalize (domT d.c).2 = u at *
  rw [show tv u = .agg [.c (.int .i64 (u.k)), .c (.int .i64 (u.l)), .c (.int .i64 (u.n)), .c (.sl 4 48 (tcs u.ts))] from rfl] at hdm
  generalize u.k = uk at *
  generalize u.l = ul at *
  generalize u.n = un at *
  generalize u.ts = uts at *
  obtain ⟨s, ⟨k, l, m, ts⟩, i⟩ := d
  dsimp only at htg hdm
  rw [tv_mk] at htg hdm
  cases b1 with
  | false =>
    refine call_trim (E := envK 2) (fn := Try.f46) (c := bodyOf Try.f46) (envK_ok 2) mixed (by kernel_rfl) (by kernel_rfl) (by kernel_rfl) (by kernel_rfl) (by kernel_rfl) (by kernel_rfl) rfl ?_
    conv => whnf
    repeat ((first | refine aI rfl ?_ | refine aI (by decide) ?_ | refine dI (by kernel_rfl) ?_ | refine aI ⟨by omega, by omega⟩ ?_ | refine aI (by omega) ?_ | refine aI (fun _ => ⟨by omega, by omega⟩) ?_ | refine aI (of_decide_eq_true rfl) ?_ | (refine yI ?_ ?_; focus (first | decide | (simp; done) | (simp [tcs]; done))) | (refine nI ?_ ?_; focus (first | decide | (simp; done) | (simp [tcs]; done))) | intro _); conv => whnf)
    try (refine dI (by kernel_rfl) ?_; conv => whnf)
    first | refine CallSt.use htg [] trivial (by decide) rfl ?_ | refine CallPt.useS htg [] trivial (by decide) rfl ?_
    rintro _ _ ⟨rfl, rfl⟩ _
    conv => whnf
    repeat ((first | refine aI rfl ?_ | refine aI (by decide) ?_ | refine dI (by kernel_rfl) ?_ | refine aI ⟨by omega, by omega⟩ ?_ | refine aI (by omega) ?_ | refine aI (fun _ => ⟨by omega, by omega⟩) ?_ | refine aI (of_decide_eq_true rfl) ?_ | (refine yI ?_ ?_; focus (first | decide | (simp; done) | (simp [tcs]; done))) | (refine nI ?_ ?_; focus (first | decide | (simp; done) | (simp [tcs]; done))) | intro _); conv => whnf)
    all_goals (first | rfl | exact ⟨rfl, rfl⟩ | exact ⟨rfl, rfl, rfl⟩)
  | true =>
    cases hun : decide (un = n) with
    | false =>
      refine call_trim (E := envK 2) (fn := Try.f46) (c := bodyOf Try.f46) (envK_ok 2) mixed (by kernel_rfl) (by kernel_rfl) (by kernel_rfl) (by kernel_rfl) (by kernel_rfl) (by kernel_rfl) rfl ?_
      conv => whnf
      repeat ((first | refine aI rfl ?_ | refine aI (by decide) ?_ | refine dI (by kernel_rfl) ?_ | refine aI ⟨by omega, by omega⟩ ?_ | refine aI (by omega) ?_ | refine aI (fun _ => ⟨by omega, by omega⟩) ?_ | refine aI (of_decide_eq_true rfl) ?_ | (refine yI ?_ ?_; focus (first | decide | (simp; done) | (simp [tcs]; done))) | (refine nI ?_ ?_; focus (first | decide | (simp; done) | (simp [tcs]; done))) | intro _); conv => whnf)
      try (refine dI (by kernel_rfl) ?_; conv => whnf)
      first | refine CallSt.use htg [] trivial (by decide) rfl ?_ | refine CallPt.useS htg [] trivial (by decide) rfl ?_
      rintro _ _ ⟨rfl, rfl⟩ _
      conv => whnf
      repeat ((first | refine aI rfl ?_ | refine aI (by decide) ?_ | refine dI (by kernel_rfl) ?_ | refine aI ⟨by omega, by omega⟩ ?_ | refine aI (by omega) ?_ | refine aI (fun _ => ⟨by omega, by omega⟩) ?_ | refine aI (of_decide_eq_true rfl) ?_ | (refine yI ?_ ?_; focus (first | decide | (simp; done) | (simp [tcs]; done))) | (refine nI ?_ ?_; focus (first | decide | (simp; done) | (simp [tcs]; done))) | intro _); conv => whnf)
      rw [hun]
      repeat ((first | refine aI rfl ?_ | refine aI (by decide) ?_ | refine dI (by kernel_rfl) ?_ | refine aI ⟨by omega, by omega⟩ ?_ | refine aI (by omega) ?_ | refine aI (fun _ => ⟨by omega, by omega⟩) ?_ | refine aI (of_decide_eq_true rfl) ?_ | (refine yI ?_ ?_; focus (first | decide | (simp; done) | (simp [tcs]; done))) | (refine nI ?_ ?_; focus (first | decide | (simp; done) | (simp [tcs]; done))) | intro _); conv => whnf)
      all_goals (first | rfl | exact ⟨rfl, rfl⟩ | exact ⟨rfl, rfl, rfl⟩)
    | true =>
      refine call_trim (E := envK 2) (fn := Try.f46) (c := bodyOf Try.f46) (envK_ok 2) mixed (by kernel_rfl) (by kernel_rfl) (by kernel_rfl) (by kernel_rfl) (by kernel_rfl) (by kernel_rfl) rfl ?_
      conv => whnf
      repeat ((first | refine aI rfl ?_ | refine aI (by decide) ?_ | refine dI (by kernel_rfl) ?_ | refine aI ⟨by omega, by omega⟩ ?_ | refine aI (by omega) ?_ | refine aI (fun _ => ⟨by omega, by omega⟩) ?_ | refine aI (of_decide_eq_true rfl) ?_ | (refine yI ?_ ?_; focus (first | decide | (simp; done) | (simp [tcs]; done))) | (refine nI ?_ ?_; focus (first | decide | (simp; done) | (simp [tcs]; done))) | intro _); conv => whnf)
      try (refine dI (by kernel_rfl) ?_; conv => whnf)
      first | refine CallSt.use htg [] trivial (by decide) rfl ?_ | refine CallPt.useS htg [] trivial (by decide) rfl ?_
      rintro _ _ ⟨rfl, rfl⟩ _
      conv => whnf
      repeat ((first | refine aI rfl ?_ | refine aI (by decide) ?_ | refine dI (by kernel_rfl) ?_ | refine aI ⟨by omega, by omega⟩ ?_ | refine aI (by omega) ?_ | refine aI (fun _ => ⟨by omega, by omega⟩) ?_ | refine aI (of_decide_eq_true rfl) ?_ | (refine yI ?_ ?_; focus (first | decide | (simp; done) | (simp [tcs]; done))) | (refine nI ?_ ?_; focus (first | decide | (simp; done) | (simp [tcs]; done))) | intro _); conv => whnf)
      rw [hun]
      repeat ((first | refine aI rfl ?_ | refine aI (by decide) ?_ | refine dI (by kernel_rfl) ?_ | refine aI ⟨by omega, by omega⟩ ?_ | refine aI (by omega) ?_ | refine aI (fun _ => ⟨by omega, by omega⟩) ?_ | refine aI (of_decide_eq_true rfl) ?_ | (refine yI ?_ ?_; focus (first | decide | (simp; done) | (simp [tcs]; done))) | (refine nI ?_ ?_; focus (first | decide | (simp; done) | (simp [tcs]; done))) | intro _); conv => whnf)
      try (refine dI (by kernel_rfl) ?_; conv => whnf)
      first | refine CallSt.use hdm [] trivial (by decide) rfl ?_ | refine CallPt.useS hdm [] trivial (by decide) rfl ?_
      rintro _ _ ⟨rfl, rfl⟩ _
      conv => whnf
      repeat ((first | refine aI rfl ?_ | refine aI (by decide) ?_ | refine dI (by kernel_rfl) ?_ | refine aI ⟨by omega, by omega⟩ ?_ | refine aI (by omega) ?_ | refine aI (fun _ => ⟨by omega, by omega⟩) ?_ | refine aI (of_decide_eq_true rfl) ?_ | (refine yI ?_ ?_; focus (first | decide | (simp; done) | (simp [tcs]; done))) | (refine nI ?_ ?_; focus (first | decide | (simp; done) | (simp [tcs]; done))) | intro _); conv => whnf)
      try (refine dI (by kernel_rfl) ?_; conv => whnf)
      first | refine CallSt.use han [] trivial (by decide) rfl ?_ | refine CallPt.useS han [] trivial (by decide) rfl ?_
      rintro _ _ ⟨rfl, rfl⟩ _
      conv => whnf
      repeat ((first | refine aI rfl ?_ | refine aI (by decide) ?_ | refine dI (by kernel_rfl) ?_ | refine aI ⟨by omega, by omega⟩ ?_ | refine aI (by omega) ?_ | refine aI (fun _ => ⟨by omega, by omega⟩) ?_ | refine aI (of_decide_eq_true rfl) ?_ | (refine yI ?_ ?_; focus (first | decide | (simp; done) | (simp [tcs]; done))) | (refine nI ?_ ?_; focus (first | decide | (simp; done) | (simp [tcs]; done))) | intro _); conv => whnf)
      all_goals (first | rfl | exact ⟨rfl, rfl⟩ | exact ⟨rfl, rfl, rfl⟩)
def higB (sig : List Dcl) (n : Int) : Bool := sig.any (higD sig n)
theorem cHigher (sig : List Dcl) (n : Int) : CallSt Try.prog 21 [.c (.sl 6 72 (dcs sig)), .c (.int .i64 (n))] [] (fun r H' => r = .tup [.c (.bool (decide (famE sig n = 0) && higB sig n)), .c (.int .i64 (famE sig n))] ∧ H' = []) := by
  have hfm := cDFam sig n
  cases hz : decide (famE sig n = 0) with
  | false =>
    generalize famE sig n = z at *
    refine call_pure (E := env 0) (fn := Try.f21) (c := bodyOf Try.f21) (env_ok 0) mixed (by kernel_rfl) (by kernel_rfl) (by kernel_rfl) (by kernel_rfl) (by kernel_rfl) (by kernel_rfl) rfl ?_
    conv => whnf
    repeat ((first | refine aI rfl ?_ | refine aI (by decide) ?_ | refine dI (by kernel_rfl) ?_ | refine aI ⟨by omega, by omega⟩ ?_ | refine aI (by omega) ?_ | refine aI (fun _ => ⟨by omega, by omega⟩) ?_ | refine aI (of_decide_eq_true rfl) ?_ | (refine yI ?_ ?_; focus (first | decide | (simp; done) | (simp [tcs]; done))) | (refine nI ?_ ?_; focus (first | decide | (simp; done) | (simp [tcs]; done))) | intro _); conv => whnf)
    try (refine dI (by kernel_rfl) ?_; conv => whnf)
    first | refine CallSt.use hfm [] trivial (by decide) rfl ?_ | refine CallPt.useS hfm [] trivial (by decide) rfl ?_
    rintro _ _ ⟨rfl, rfl⟩ _
    conv => whnf
    repeat ((first | refine aI rfl ?_ | refine aI (by decide) ?_ | refine dI (by kernel_rfl) ?_ | refine aI ⟨by omega, by omega⟩ ?_ | refine aI (by omega) ?_ | refine aI (fun _ => ⟨by omega, by omega⟩) ?_ | refine aI (of_decide_eq_true rfl) ?_ | (refine yI ?_ ?_; focus (first | decide | (simp; done) | (simp [tcs]; done))) | (refine nI ?_ ?_; focus (first | decide | (simp; done) | (simp [tcs]; done))) | intro _); conv => whnf)
    rw [hz]
    repeat ((first | refine aI rfl ?_ | refine aI (by decide) ?_ | refine dI (by kernel_rfl) ?_ | refine aI ⟨by omega, by omega⟩ ?_ | refine aI (by omega) ?_ | refine aI (fun _ => ⟨by omega, by omega⟩) ?_ | refine aI (of_decide_eq_true rfl) ?_ | (refine yI ?_ ?_; focus (first | decide | (simp; done) | (simp [tcs]; done))) | (refine nI ?_ ?_; focus (first | decide | (simp; done) | (simp [tcs]; done))) | intro _); conv => whnf)
    all_goals (first | rfl | exact ⟨rfl, rfl⟩ | exact ⟨rfl, rfl, rfl⟩)
  | true =>
    have h0 : famE sig n = 0 := of_decide_eq_true hz
    have hck : checkB sig = true := by
      rcases hasE_cases sig n with ⟨e, hc⟩ | ⟨e, hc, hn⟩ | ⟨e, hc, hn⟩
      · rw [famE_no (by rw [e]; decide), e] at h0; cases h0
      · exact hc
      · exact hc
    have hp := check_prop hck
    have hl := check_len hck
    have han := cAnyD 46 (higD sig n) sig sig n (by omega) fun d hd => cHig1 sig hp n d (hp d hd)
    rw [h0] at hfm ⊢
    unfold higB
    generalize sig.any (higD sig n) = b at *
    refine call_pure (E := envK 0) (fn := Try.f21) (c := bodyOf Try.f21) (envK_ok 0) mixed (by kernel_rfl) (by kernel_rfl) (by kernel_rfl) (by kernel_rfl) (by kernel_rfl) (by kernel_rfl) rfl ?_
    conv => whnf
    repeat ((first | refine aI rfl ?_ | refine aI (by decide) ?_ | refine dI (by kernel_rfl) ?_ | refine aI ⟨by omega, by omega⟩ ?_ | refine aI (by omega) ?_ | refine aI (fun _ => ⟨by omega, by omega⟩) ?_ | refine aI (of_decide_eq_true rfl) ?_ | (refine yI ?_ ?_; focus (first | decide | (simp; done) | (simp [tcs]; done))) | (refine nI ?_ ?_; focus (first | decide | (simp; done) | (simp [tcs]; done))) | intro _); conv => whnf)
    try (refine dI (by kernel_rfl) ?_; conv => whnf)
    first | refine CallSt.use hfm [] trivial (by decide) rfl ?_ | refine CallPt.useS hfm [] trivial (by decide) rfl ?_
    rintro _ _ ⟨rfl, rfl⟩ _
    conv => whnf
    repeat ((first | refine aI rfl ?_ | refine aI (by decide) ?_ | refine dI (by kernel_rfl) ?_ | refine aI ⟨by omega, by omega⟩ ?_ | refine aI (by omega) ?_ | refine aI (fun _ => ⟨by omega, by omega⟩) ?_ | refine aI (of_decide_eq_true rfl) ?_ | (refine yI ?_ ?_; focus (first | decide | (simp; done) | (simp [tcs]; done))) | (refine nI ?_ ?_; focus (first | decide | (simp; done) | (simp [tcs]; done))) | intro _); conv => whnf)
    try (refine dI (by kernel_rfl) ?_; conv => whnf)
    first | refine CallSt.use han [0, 1] ⟨rfl, rfl, trivial⟩ (by decide) rfl ?_ | refine CallPt.useS han [0, 1] ⟨rfl, rfl, trivial⟩ (by decide) rfl ?_
    rintro _ _ ⟨rfl, rfl⟩ _
    conv => whnf
    repeat ((first | refine aI rfl ?_ | refine aI (by decide) ?_ | refine dI (by kernel_rfl) ?_ | refine aI ⟨by omega, by omega⟩ ?_ | refine aI (by omega) ?_ | refine aI (fun _ => ⟨by omega, by omega⟩) ?_ | refine aI (of_decide_eq_true rfl) ?_ | (refine yI ?_ ?_; focus (first | decide | (simp; done) | (simp [tcs]; done))) | (refine nI ?_ ?_; focus (first | decide | (simp; done) | (simp [tcs]; done))) | intro _); conv => whnf)
    all_goals (first | rfl | exact ⟨rfl, rfl⟩ | exact ⟨rfl, rfl, rfl⟩)
end Go.Tr
/- depend.below: put, stands. -/
namespace Go.Tr
open Go.Proofs
def tabB2 : List (Nat × TyD) := (60, ⟨1, 8, .other, [.pointer none], [60]⟩) :: tabM
def envB (n : Nat) : Env := ⟨lkT tabB2, keep, n, false, false, none, fun _ _ => none⟩
theorem envB_ok (n : Nat) : EnvOk Try.prog (envB n) := EnvOk.of (l := tabB2) rfl (by kernel_rfl)
def tg (a : Term) : Nat := (domT a).2.n.toNat
def orE (f : Nat → Nat → Bool) (L : List (Nat × Nat)) : Nat → Nat → Bool := fun x y => f x y || decide ((x, y) ∈ L)
theorem orE_nil (f : Nat → Nat → Bool) : orE f [] = f := by funext x y; simp [orE]
theorem orE_app (f : Nat → Nat → Bool) (L M : List (Nat × Nat)) : orE (orE f L) M = orE f (L ++ M) := by
  funext x y
  unfold orE
  by_cases h1 : (x, y) ∈ L <;> by_cases h2 : (x, y) ∈ M <;> simp [h1, h2]
theorem orE_one (f : Nat → Nat → Bool) (a b : Nat) : updM f a b true = orE f [(a, b)] := by
  funext x y
  unfold updM orE
  by_cases h : x = a ∧ y = b
  · rw [if_pos h, h.1, h.2]
    simp
  · rw [if_neg h]
    have : ¬ (x, y) ∈ [(a, b)] := fun hm => by
      rw [List.mem_singleton, Prod.mk.injEq] at hm
      exact h hm
    simp [this]
def edF (sig : List Dcl) : Nat → Term → Nat → Bool → List (Nat × Nat)
  | 0, _, _, _ => []
  | n + 1, a, fam, ok => (domT a).1.flatMap fun d => (if ok && tgB sig d then [(tg d, fam)] else []) ++ edF sig n d (tg d) (tgB sig d)
abbrev bwH (sig : List Dcl) (f : Nat → Nat → Bool) : HP := [.box [.c (.sl 6 72 (dcs sig))], .row 80 10000 1 [mrow f], .box [.elt 1 10000 0 0]]
theorem tg_lt {sig : List Dcl} {a : Term} {d : Int} (h : fmT a d = true) (ht : tgB sig a = true) (hl : sig.length ≤ 100) : tg a < 100 ∧ ((tg a : Nat) : Int) = (domT a).2.n := by
  obtain ⟨_, _, d', hd', _⟩ := dom_rest a d h
  have hn := fm_n hd'
  unfold tgB at ht
  rw [Bool.and_eq_true, Bool.and_eq_true] at ht
  have := of_decide_eq_true ht.1.2
  unfold tg
  omega
theorem cPutM (sig : List Dcl) (hp : ∀ e ∈ sig, prop e.c = true) (hl : sig.length ≤ 100) (f : Nat → Nat → Bool) (a : Term) (d : Int) (h : fmT a d = true) (hd : 0 ≤ d) (b : Nat) (hb : b < 100) :
    CallSt Try.prog 57 [tv a, .c (.int .i64 (b)), .ptr 0 0, .ptr 2 0] (bwH sig f) (fun r H' => r = .tup [] ∧ H' = bwH sig (orE f (if tgB sig a then [(tg a, b)] else []))) := by
  have htg := cDTarget sig hp a d h hd
  cases ht : tgB sig a with
  | false =>
    rw [ht] at htg
    rw [if_neg (by simp), orE_nil]
    generalize (domT a).2.n = un at *
    obtain ⟨k, l, n, ts⟩ := a
    rw [tv_mk] at *
    refine call_trim (E := envB 3) (fn := Try.f57) (c := bodyOf Try.f57) (envB_ok 3) mixed (by kernel_rfl) (by kernel_rfl) (by kernel_rfl) (by kernel_rfl) (by kernel_rfl) (by kernel_rfl) rfl ?_
    conv => whnf
    repeat ((first | refine aI rfl ?_ | refine aI (by decide) ?_ | refine dI (by kernel_rfl) ?_ | refine aI ⟨by omega, by omega⟩ ?_ | refine aI (by omega) ?_ | refine aI (fun _ => ⟨by omega, by omega⟩) ?_ | refine aI (of_decide_eq_true rfl) ?_ | (refine yI ?_ ?_; focus (first | decide | (simp; done) | (simp [tcs]; done))) | (refine nI ?_ ?_; focus (first | decide | (simp; done) | (simp [tcs]; done))) | intro _); conv => whnf)
    try (refine dI (by kernel_rfl) ?_; conv => whnf)
    first | refine CallSt.use htg [] trivial (by decide) rfl ?_ | refine CallPt.useS htg [] trivial (by decide) rfl ?_
    rintro _ _ ⟨rfl, rfl⟩ _
    conv => whnf
    repeat ((first | refine aI rfl ?_ | refine aI (by decide) ?_ | refine dI (by kernel_rfl) ?_ | refine aI ⟨by omega, by omega⟩ ?_ | refine aI (by omega) ?_ | refine aI (fun _ => ⟨by omega, by omega⟩) ?_ | refine aI (of_decide_eq_true rfl) ?_ | (refine yI ?_ ?_; focus (first | decide | (simp; done) | (simp [tcs]; done))) | (refine nI ?_ ?_; focus (first | decide | (simp; done) | (simp [tcs]; done))) | intro _); conv => whnf)
    all_goals (first | rfl | exact ⟨rfl, rfl⟩ | exact ⟨rfl, rfl, rfl⟩)
  | true =>
    obtain ⟨h1, h2⟩ := tg_lt h ht hl
    rw [ht] at htg
    rw [if_pos rfl, ← orE_one]
    rw [← h2] at htg
    generalize tg a = un at *
    obtain ⟨k, l, n, ts⟩ := a
    rw [tv_mk] at *
    refine call_trim (E := envB 3) (fn := Try.f57) (c := bodyOf Try.f57) (envB_ok 3) mixed (by kernel_rfl) (by kernel_rfl) (by kernel_rfl) (by kernel_rfl) (by kernel_rfl) (by kernel_rfl) rfl ?_
    conv => whnf
    repeat ((first | refine aI rfl ?_ | refine aI (by decide) ?_ | refine dI (by kernel_rfl) ?_ | refine aI ⟨by omega, by omega⟩ ?_ | refine aI (by omega) ?_ | refine aI (fun _ => ⟨by omega, by omega⟩) ?_ | refine aI (of_decide_eq_true rfl) ?_ | (refine yI ?_ ?_; focus (first | decide | (simp; done) | (simp [tcs]; done))) | (refine nI ?_ ?_; focus (first | decide | (simp; done) | (simp [tcs]; done))) | intro _); conv => whnf)
    try (refine dI (by kernel_rfl) ?_; conv => whnf)
    first | refine CallSt.use htg [] trivial (by decide) rfl ?_ | refine CallPt.useS htg [] trivial (by decide) rfl ?_
    rintro _ _ ⟨rfl, rfl⟩ _
    conv => whnf
    repeat ((first | refine aI rfl ?_ | refine aI (by decide) ?_ | refine dI (by kernel_rfl) ?_ | refine aI ⟨by omega, by omega⟩ ?_ | refine aI (by omega) ?_ | refine aI (fun _ => ⟨by omega, by omega⟩) ?_ | refine aI (of_decide_eq_true rfl) ?_ | (refine yI ?_ ?_; focus (first | decide | (simp; done) | (simp [tcs]; done))) | (refine nI ?_ ?_; focus (first | decide | (simp; done) | (simp [tcs]; done))) | intro _); conv => whnf)
    refine ⟨_, _, rfl, mrow_set2 f true (by omega) (by omega), ?_⟩
    conv => whnf
    repeat ((first | refine aI rfl ?_ | refine aI (by decide) ?_ | refine dI (by kernel_rfl) ?_ | refine aI ⟨by omega, by omega⟩ ?_ | refine aI (by omega) ?_ | refine aI (fun _ => ⟨by omega, by omega⟩) ?_ | refine aI (of_decide_eq_true rfl) ?_ | (refine yI ?_ ?_; focus (first | decide | (simp; done) | (simp [tcs]; done))) | (refine nI ?_ ?_; focus (first | decide | (simp; done) | (simp [tcs]; done))) | intro _); conv => whnf)
    all_goals (first | rfl | exact ⟨rfl, rfl⟩)
end Go.Tr
/- depend.below: stands. -/
namespace Go.Tr
open Go.Proofs
abbrev bwH5 (sig : List Dcl) (f : Nat → Nat → Bool) : HP := [.box [.c (.sl 6 72 (dcs sig))], .row 80 10000 1 [mrow f], .box [.elt 1 10000 0 0], .box [.fn 57 [.ptr 0 0, .ptr 2 0]], .box [.fn 58 [.ptr 0 0, .ptr 3 0, .ptr 4 0]]]
def stepE (sig : List Dcl) (n : Nat) (fam : Nat) (ok : Bool) (d : Term) : List (Nat × Nat) := (if ok && tgB sig d then [(tg d, fam)] else []) ++ edF sig n d (tg d) (tgB sig d)
theorem edF_succ (sig : List Dcl) (n : Nat) (a : Term) (fam : Nat) (ok : Bool) : edF sig (n + 1) a fam ok = (domT a).1.flatMap (stepE sig n fam ok) := by rw [edF]; rfl
theorem cStands (sig : List Dcl) (hp : ∀ e ∈ sig, prop e.c = true) (hl : sig.length ≤ 100) : ∀ (n : Nat) (a : Term) (d : Int), fmT a d = true → 0 ≤ d → SizeOf.sizeOf a ≤ n → ∀ f : Nat → Nat → Bool,
    CallSt Try.prog 58 [tv a, .ptr 0 0, .ptr 3 0, .ptr 4 0] (bwH5 sig f) (fun r H' => r = .tup [] ∧ H' = bwH5 sig (orE f (edF sig n a (tg a) (tgB sig a)))) := by
  intro n
  induction n with
  | zero =>
    intro a d h hd hs f
    obtain ⟨k, l, m, ts⟩ := a
    simp at hs
  | succ n ih =>
    intro a d h hd hs f
    have hdm := c68 a d h hd
    have hmem := dom_mem a d h
    have hdl := dom_len a d h
    have htg := cDTarget sig hp a d h hd
    have htl : tgB sig a = true → tg a < 100 ∧ ((tg a : Nat) : Int) = (domT a).2.n := fun ht => tg_lt h ht hl
    rw [edF_succ]
    generalize tgB sig a = ok at *
    generalize tg a = ta at *
    have hD : ∀ u ∈ (domT a).1, ∃ d', fmT u d' = true ∧ 0 ≤ d' ∧ SizeOf.sizeOf u ≤ n := fun u hu => by
      obtain ⟨h1, d', h2, h3⟩ := hmem u hu
      exact ⟨d', h2, by omega, by omega⟩
    clear hmem hs h
    generalize (domT a).1 = D at *
    generalize (domT a).2 = u at *
    rw [show tv u = .agg [.c (.int .i64 (u.k)), .c (.int .i64 (u.l)), .c (.int .i64 (u.n)), .c (.sl 4 48 (tcs u.ts))] from rfl] at hdm
    generalize u.k = uk at *
    generalize u.l = ul at *
    generalize u.n = un at *
    generalize u.ts = uts at *
    have hDl := len_tcs D
    obtain ⟨k, l, m, ts⟩ := a
    rw [tv_mk] at *
    refine call_trim (E := envB 5) (fn := Try.f58) (c := bodyOf Try.f58) (envB_ok 5) mixed (by kernel_rfl) (by kernel_rfl) (by kernel_rfl) (by kernel_rfl) (by kernel_rfl) (by kernel_rfl) rfl ?_
    conv => whnf
    repeat ((first | refine aI rfl ?_ | refine aI (by decide) ?_ | refine dI (by kernel_rfl) ?_ | refine aI ⟨by omega, by omega⟩ ?_ | refine aI (by omega) ?_ | refine aI (fun _ => ⟨by omega, by omega⟩) ?_ | refine aI (of_decide_eq_true rfl) ?_ | (refine yI ?_ ?_; focus (first | decide | (simp; done) | (simp [tcs]; done))) | (refine nI ?_ ?_; focus (first | decide | (simp; done) | (simp [tcs]; done))) | intro _); conv => whnf)
    try (refine dI (by kernel_rfl) ?_; conv => whnf)
    first | refine CallSt.use hdm [] trivial (by decide) rfl ?_ | refine CallPt.useS hdm [] trivial (by decide) rfl ?_
    rintro _ _ ⟨rfl, rfl⟩ _
    conv => whnf
    repeat ((first | refine aI rfl ?_ | refine aI (by decide) ?_ | refine dI (by kernel_rfl) ?_ | refine aI ⟨by omega, by omega⟩ ?_ | refine aI (by omega) ?_ | refine aI (fun _ => ⟨by omega, by omega⟩) ?_ | refine aI (of_decide_eq_true rfl) ?_ | (refine yI ?_ ?_; focus (first | decide | (simp; done) | (simp [tcs]; done))) | (refine nI ?_ ?_; focus (first | decide | (simp; done) | (simp [tcs]; done))) | intro _); conv => whnf)
    refine loop_intro (fun mm tm H => ∃ j : Nat, D.length = mm + j ∧ tm = [(18, .c (.int .i64 (j))), (17, .c (.int .i64 ((tcs D).length))), (16, .c (.sl 4 48 (tcs D))), (1, .ptr 0 0), (2, .ptr 3 0), (3, .ptr 4 0), (4, .ptr 5 0)] ∧
        H = bwH5 sig (orE f ((D.take j).flatMap (stepE sig n ta ok))) ++ [.box [.c (.int .i64 (k)), .c (.int .i64 (l)), .c (.int .i64 (m)), .c (.sl 4 48 (tcs ts))]])
      D.length _ _ ⟨0, by omega, rfl, rfl⟩ ?_ ?_
    · have e0 : orE f ((D.take 0).flatMap (stepE sig n ta ok)) = f := by rw [List.take_zero, List.flatMap_nil, orE_nil]
      rw [e0]
      exact Wk.sl [0, 1, 2, 3, 4, 5] rfl ⟨rfl, rfl, rfl, rfl, rfl, rfl, trivial⟩ ⟨rfl, rfl, rfl, rfl, rfl, rfl, rfl, trivial⟩ rfl
    rintro mm tm H ⟨j, hj, rfl, rfl⟩
    conv => whnf
    refine ⟨fun hc => ?_, fun hc => ?_⟩
    · replace hc : (j : Int) < (tcs D).length := of_decide_eq_true hc
      obtain ⟨v, hv⟩ : ∃ v, D[j]? = some v := ⟨D[j]'(by omega), List.getElem?_eq_getElem (by omega)⟩
      have hvc := tcs_at D j v hv
      obtain ⟨d', hv1, hv2, hv3⟩ := hD v (List.mem_of_getElem? hv)
      have hst : orE f ((D.take (j + 1)).flatMap (stepE sig n ta ok)) = orE (orE f ((D.take j).flatMap (stepE sig n ta ok))) (stepE sig n ta ok v) := by
        rw [orE_app, List.take_add_one, hv, List.flatMap_append]
        simp
      generalize orE f ((D.take j).flatMap (stepE sig n ta ok)) = fj at *
      unfold stepE at hst
      rw [← orE_app] at hst
      cases ok with
      | false =>
        have hi := ih v d' hv1 hv2 hv3 fj
        rw [Bool.false_and, if_neg (by simp), orE_nil] at hst
        rw [← hst] at hi
        obtain ⟨k', l', n', us⟩ := v
        rw [tv_mk] at *
        conv => whnf
        repeat ((first | refine aI rfl ?_ | refine aI (by decide) ?_ | refine dI (by kernel_rfl) ?_ | refine aI ⟨by omega, by omega⟩ ?_ | refine aI (by omega) ?_ | refine aI (fun _ => ⟨by omega, by omega⟩) ?_ | refine aI (of_decide_eq_true rfl) ?_ | (refine yI ?_ ?_; focus (first | decide | (simp; done) | (simp [tcs]; done))) | (refine nI ?_ ?_; focus (first | decide | (simp; done) | (simp [tcs]; done))) | intro _); conv => whnf)
        refine ⟨_, ⟨by omega, by simpa using hvc⟩, ?_⟩
        conv => whnf
        refine ⟨Nat.le_refl 4, ?_⟩
        conv => whnf
        repeat ((first | refine aI rfl ?_ | refine aI (by decide) ?_ | refine dI (by kernel_rfl) ?_ | refine aI ⟨by omega, by omega⟩ ?_ | refine aI (by omega) ?_ | refine aI (fun _ => ⟨by omega, by omega⟩) ?_ | refine aI (of_decide_eq_true rfl) ?_ | (refine yI ?_ ?_; focus (first | decide | (simp; done) | (simp [tcs]; done))) | (refine nI ?_ ?_; focus (first | decide | (simp; done) | (simp [tcs]; done))) | intro _); conv => whnf)
        try (refine dI (by kernel_rfl) ?_; conv => whnf)
        first | refine CallSt.use htg [] trivial (by decide) rfl ?_ | refine CallPt.useS htg [] trivial (by decide) rfl ?_
        rintro _ _ ⟨rfl, rfl⟩ _
        conv => whnf
        repeat ((first | refine aI rfl ?_ | refine aI (by decide) ?_ | refine dI (by kernel_rfl) ?_ | refine aI ⟨by omega, by omega⟩ ?_ | refine aI (by omega) ?_ | refine aI (fun _ => ⟨by omega, by omega⟩) ?_ | refine aI (of_decide_eq_true rfl) ?_ | (refine yI ?_ ?_; focus (first | decide | (simp; done) | (simp [tcs]; done))) | (refine nI ?_ ?_; focus (first | decide | (simp; done) | (simp [tcs]; done))) | intro _); conv => whnf)
        try (refine dI (by kernel_rfl) ?_; conv => whnf)
        first | refine CallSt.use hi [0, 1, 2, 3, 4] ⟨rfl, rfl, rfl, rfl, rfl, trivial⟩ (by decide) rfl ?_ | refine CallPt.useS hi [0, 1, 2, 3, 4] ⟨rfl, rfl, rfl, rfl, rfl, trivial⟩ (by decide) rfl ?_
        rintro _ _ ⟨rfl, rfl⟩ _
        conv => whnf
        repeat ((first | refine aI rfl ?_ | refine aI (by decide) ?_ | refine dI (by kernel_rfl) ?_ | refine aI ⟨by omega, by omega⟩ ?_ | refine aI (by omega) ?_ | refine aI (fun _ => ⟨by omega, by omega⟩) ?_ | refine aI (of_decide_eq_true rfl) ?_ | (refine yI ?_ ?_; focus (first | decide | (simp; done) | (simp [tcs]; done))) | (refine nI ?_ ?_; focus (first | decide | (simp; done) | (simp [tcs]; done))) | intro _); conv => whnf)
        exact ⟨mm - 1, _, _, by omega, ⟨j + 1, by omega, rfl, rfl⟩, Wk.sl [0, 1, 2, 3, 4, 5] rfl ⟨rfl, rfl, rfl, rfl, rfl, rfl, trivial⟩ ⟨rfl, rfl, rfl, rfl, rfl, rfl, rfl, trivial⟩ rfl⟩
      | true =>
        obtain ⟨ht1, ht2⟩ := htl rfl
        rw [← ht2] at htg
        have hpt := cPutM sig hp hl fj v d' hv1 hv2 ta ht1
        rw [Bool.true_and] at hst
        generalize orE fj (if tgB sig v then [(tg v, ta)] else []) = fp at *
        have hi := ih v d' hv1 hv2 hv3 fp
        rw [← hst] at hi
        obtain ⟨k', l', n', us⟩ := v
        rw [tv_mk] at *
        conv => whnf
        repeat ((first | refine aI rfl ?_ | refine aI (by decide) ?_ | refine dI (by kernel_rfl) ?_ | refine aI ⟨by omega, by omega⟩ ?_ | refine aI (by omega) ?_ | refine aI (fun _ => ⟨by omega, by omega⟩) ?_ | refine aI (of_decide_eq_true rfl) ?_ | (refine yI ?_ ?_; focus (first | decide | (simp; done) | (simp [tcs]; done))) | (refine nI ?_ ?_; focus (first | decide | (simp; done) | (simp [tcs]; done))) | intro _); conv => whnf)
        refine ⟨_, ⟨by omega, by simpa using hvc⟩, ?_⟩
        conv => whnf
        refine ⟨Nat.le_refl 4, ?_⟩
        conv => whnf
        repeat ((first | refine aI rfl ?_ | refine aI (by decide) ?_ | refine dI (by kernel_rfl) ?_ | refine aI ⟨by omega, by omega⟩ ?_ | refine aI (by omega) ?_ | refine aI (fun _ => ⟨by omega, by omega⟩) ?_ | refine aI (of_decide_eq_true rfl) ?_ | (refine yI ?_ ?_; focus (first | decide | (simp; done) | (simp [tcs]; done))) | (refine nI ?_ ?_; focus (first | decide | (simp; done) | (simp [tcs]; done))) | intro _); conv => whnf)
        try (refine dI (by kernel_rfl) ?_; conv => whnf)
        first | refine CallSt.use htg [] trivial (by decide) rfl ?_ | refine CallPt.useS htg [] trivial (by decide) rfl ?_
        rintro _ _ ⟨rfl, rfl⟩ _
        conv => whnf
        repeat ((first | refine aI rfl ?_ | refine aI (by decide) ?_ | refine dI (by kernel_rfl) ?_ | refine aI ⟨by omega, by omega⟩ ?_ | refine aI (by omega) ?_ | refine aI (fun _ => ⟨by omega, by omega⟩) ?_ | refine aI (of_decide_eq_true rfl) ?_ | (refine yI ?_ ?_; focus (first | decide | (simp; done) | (simp [tcs]; done))) | (refine nI ?_ ?_; focus (first | decide | (simp; done) | (simp [tcs]; done))) | intro _); conv => whnf)
        try (refine dI (by kernel_rfl) ?_; conv => whnf)
        first | refine CallSt.use hpt [0, 1, 2] ⟨rfl, rfl, rfl, trivial⟩ (by decide) rfl ?_ | refine CallPt.useS hpt [0, 1, 2] ⟨rfl, rfl, rfl, trivial⟩ (by decide) rfl ?_
        rintro _ _ ⟨rfl, rfl⟩ _
        conv => whnf
        repeat ((first | refine aI rfl ?_ | refine aI (by decide) ?_ | refine dI (by kernel_rfl) ?_ | refine aI ⟨by omega, by omega⟩ ?_ | refine aI (by omega) ?_ | refine aI (fun _ => ⟨by omega, by omega⟩) ?_ | refine aI (of_decide_eq_true rfl) ?_ | (refine yI ?_ ?_; focus (first | decide | (simp; done) | (simp [tcs]; done))) | (refine nI ?_ ?_; focus (first | decide | (simp; done) | (simp [tcs]; done))) | intro _); conv => whnf)
        try (refine dI (by kernel_rfl) ?_; conv => whnf)
        first | refine CallSt.use hi [0, 1, 2, 3, 4] ⟨rfl, rfl, rfl, rfl, rfl, trivial⟩ (by decide) rfl ?_ | refine CallPt.useS hi [0, 1, 2, 3, 4] ⟨rfl, rfl, rfl, rfl, rfl, trivial⟩ (by decide) rfl ?_
        rintro _ _ ⟨rfl, rfl⟩ _
        conv => whnf
        repeat ((first | refine aI rfl ?_ | refine aI (by decide) ?_ | refine dI (by kernel_rfl) ?_ | refine aI ⟨by omega, by omega⟩ ?_ | refine aI (by omega) ?_ | refine aI (fun _ => ⟨by omega, by omega⟩) ?_ | refine aI (of_decide_eq_true rfl) ?_ | (refine yI ?_ ?_; focus (first | decide | (simp; done) | (simp [tcs]; done))) | (refine nI ?_ ?_; focus (first | decide | (simp; done) | (simp [tcs]; done))) | intro _); conv => whnf)
        exact ⟨mm - 1, _, _, by omega, ⟨j + 1, by omega, rfl, rfl⟩, Wk.sl [0, 1, 2, 3, 4, 5] rfl ⟨rfl, rfl, rfl, rfl, rfl, rfl, trivial⟩ ⟨rfl, rfl, rfl, rfl, rfl, rfl, rfl, trivial⟩ rfl⟩
    · replace hc : ¬ (j : Int) < (tcs D).length := of_decide_eq_false hc
      obtain rfl : j = D.length := by omega
      rw [List.take_length]
      conv => whnf
      repeat ((first | refine aI rfl ?_ | refine aI (by decide) ?_ | refine dI (by kernel_rfl) ?_ | refine aI ⟨by omega, by omega⟩ ?_ | refine aI (by omega) ?_ | refine aI (fun _ => ⟨by omega, by omega⟩) ?_ | refine aI (of_decide_eq_true rfl) ?_ | (refine yI ?_ ?_; focus (first | decide | (simp; done) | (simp [tcs]; done))) | (refine nI ?_ ?_; focus (first | decide | (simp; done) | (simp [tcs]; done))) | intro _); conv => whnf)
      all_goals (first | rfl | exact ⟨rfl, rfl⟩ | exact ⟨rfl, rfl, rfl⟩)
end Go.Tr
/- depend.below. -/
namespace Go.Tr
open Go.Proofs
theorem head_lt {sig : List Dcl} (h : checkB sig = true) {i : Nat} {d : Dcl} (hd : sig[i]? = some d) : 0 ≤ headT d i ∧ headT d i ≤ i := by
  have hil := (List.getElem?_eq_some_iff.1 hd).1
  unfold checkB at h
  simp only [Bool.and_eq_true, List.all_eq_true] at h
  have hg := h.2 i (by simpa using hil)
  unfold goodD at hg
  rw [hd] at hg
  simp only [Bool.and_eq_true] at hg
  have hf := hg.2
  unfold formedF at hf
  simp only [Bool.and_eq_true, Bool.or_eq_true] at hf
  have hp := hf.1.1.1.1
  unfold headT
  cases hk : kindT d.c with
  | true => simp only; omega
  | false =>
    simp only
    rcases hf.2 with h2 | ⟨h2, h3⟩
    · rw [hk] at h2; cases h2
    · have h0 := targ_pos hp h2
      unfold kindAt at h3
      split at h3
      · rename_i e he
        have := (List.getElem?_eq_some_iff.1 he).1
        rw [List.length_take] at this
        omega
      · cases h3
noncomputable def edC (sig : List Dcl) (d : Dcl) (i : Nat) : List (Nat × Nat) := edF sig (SizeOf.sizeOf d.c + 1) d.c (headT d i).toNat true
noncomputable def bwP (sig : List Dcl) : Nat → Nat → Nat → Bool
  | 0 => fun _ _ => false
  | j + 1 => match sig[j]? with | some d => orE (updM (bwP sig j) j j (kindT d.c)) (edC sig d j) | none => bwP sig j
noncomputable def belM (sig : List Dcl) : Nat → Nat → Bool := closeF sig.length (bwP sig sig.length)
theorem cBelowM (sig : List Dcl) (h : checkB sig = true) : CallSt Try.prog 33 [.c (.sl 6 72 (dcs sig))] [] (fun r H' => r = .elt 0 10000 0 0 ∧ H' = [.row 80 10000 1 [mrow (belM sig)]]) := by
  have hsl := check_len h
  have hpr := check_prop h
  have hhd := fun i d (hd : sig[i]? = some d) => head_lt h hd
  have hbl := len_dcs sig
  have hcl : CallSt Try.prog 60 [.elt 0 10000 0 0, .c (.int .i64 ((dcs sig).length))] [.row 80 10000 1 [mrow (bwP sig sig.length)]] (fun r H' => r = .tup [] ∧ H' = [.row 80 10000 1 [mrow (belM sig)]]) := by
    rw [hbl]
    exact cClose sig.length (bwP sig sig.length) hsl
  clear h
  refine call_wk (E := envB 0) (fn := Try.f33) (c := bodyOf Try.f33) (envB_ok 0) mixed (by kernel_rfl) (by kernel_rfl) (by kernel_rfl) (by kernel_rfl) (by kernel_rfl) (by kernel_rfl) rfl false ?_
  conv => whnf
  repeat ((first | refine aI rfl ?_ | refine aI (by decide) ?_ | refine dI (by kernel_rfl) ?_ | refine aI ⟨by omega, by omega⟩ ?_ | refine aI (by omega) ?_ | refine aI (fun _ => ⟨by omega, by omega⟩) ?_ | refine aI (of_decide_eq_true rfl) ?_ | (refine yI ?_ ?_; focus (first | decide | (simp; done) | (simp [tcs]; done))) | (refine nI ?_ ?_; focus (first | decide | (simp; done) | (simp [tcs]; done))) | intro _); conv => whnf)
  refine ⟨mrow (fun _ _ => false), big0, mrow_len _, ?_⟩
  conv => whnf
  repeat ((first | refine aI rfl ?_ | refine aI (by decide) ?_ | refine dI (by kernel_rfl) ?_ | refine aI ⟨by omega, by omega⟩ ?_ | refine aI (by omega) ?_ | refine aI (fun _ => ⟨by omega, by omega⟩) ?_ | refine aI (of_decide_eq_true rfl) ?_ | (refine yI ?_ ?_; focus (first | decide | (simp; done) | (simp [tcs]; done))) | (refine nI ?_ ?_; focus (first | decide | (simp; done) | (simp [tcs]; done))) | intro _); conv => whnf)
  refine loop_intro (fun m tm H => ∃ j : Nat, sig.length = m + j ∧ tm = [(18, .c (.int .i64 (j))), (17, .c (.int .i64 ((dcs sig).length))), (16, .c (.sl 6 72 (dcs sig))), (1, .ptr 0 0), (3, .ptr 2 0), (4, .ptr 3 0), (5, .ptr 4 0)] ∧ H = bwH5 sig (bwP sig j))
    sig.length _ _ ⟨0, by omega, rfl, rfl⟩ (Wk.sl [0, 1, 2, 3, 4] rfl ⟨rfl, rfl, rfl, rfl, rfl, trivial⟩ ⟨rfl, rfl, rfl, rfl, rfl, rfl, rfl, trivial⟩ rfl) ?_
  rintro m tm H ⟨j, hj, rfl, rfl⟩
  conv => whnf
  refine ⟨fun hc => ?_, fun hc => ?_⟩
  · replace hc : (j : Int) < (dcs sig).length := of_decide_eq_true hc
    obtain ⟨d, hd⟩ : ∃ d, sig[j]? = some d := ⟨sig[j]'(by omega), List.getElem?_eq_getElem (by omega)⟩
    have hdc := dcs_at hd
    have hpd := hpr d (List.mem_of_getElem? hd)
    have hfa := cFamily sig j d hd hpd
    have hha := cHead sig hpr j d hd
    have hdm := c68 d.c 1 (prop_fm1 hpd) (by omega)
    have hmem := dom_mem d.c 1 (prop_fm1 hpd)
    have hdl := dom_len d.c 1 (prop_fm1 hpd)
    obtain ⟨hh0, hh1⟩ := hhd j d hd
    have hnx : bwP sig (j + 1) = orE (updM (bwP sig j) j j (kindT d.c)) ((domT d.c).1.flatMap (stepE sig (SizeOf.sizeOf d.c) (headT d j).toNat true)) := by
      rw [bwP, hd]
      simp only
      rw [edC, edF_succ]
    obtain ⟨hn, hhe⟩ : ∃ hn : Nat, headT d j = hn := ⟨(headT d j).toNat, by omega⟩
    rw [hhe] at hha
    rw [hhe, Int.toNat_natCast] at hnx
    rw [hhe] at hh1
    generalize hbj : bwP sig j = bj at *
    generalize kindT d.c = kd at *
    have hD : ∀ u ∈ (domT d.c).1, ∃ d', fmT u d' = true ∧ 0 ≤ d' ∧ SizeOf.sizeOf u ≤ SizeOf.sizeOf d.c := fun u hu => by
      obtain ⟨h1, d', h2, h3⟩ := hmem u hu
      exact ⟨d', h2, by omega, by omega⟩
    clear hmem
    generalize SizeOf.sizeOf d.c = sz at *
    generalize (domT d.c).1 = D at *
    generalize (domT d.c).2 = u at *
    rw [show tv u = .agg [.c (.int .i64 (u.k)), .c (.int .i64 (u.l)), .c (.int .i64 (u.n)), .c (.sl 4 48 (tcs u.ts))] from rfl] at hdm
    generalize u.k = uk at *
    generalize u.l = ul at *
    generalize u.n = un at *
    generalize u.ts = uts at *
    have hDl := len_tcs D
    obtain ⟨s', ⟨k', l', n', us'⟩, i'⟩ := d
    dsimp only at hdm
    rw [tv_mk] at hdm
    conv => whnf
    repeat ((first | refine aI rfl ?_ | refine aI (by decide) ?_ | refine dI (by kernel_rfl) ?_ | refine aI ⟨by omega, by omega⟩ ?_ | refine aI (by omega) ?_ | refine aI (fun _ => ⟨by omega, by omega⟩) ?_ | refine aI (of_decide_eq_true rfl) ?_ | (refine yI ?_ ?_; focus (first | decide | (simp; done) | (simp [tcs]; done))) | (refine nI ?_ ?_; focus (first | decide | (simp; done) | (simp [tcs]; done))) | intro _); conv => whnf)
    refine ⟨_, ⟨by omega, hdc⟩, ?_⟩
    conv => whnf
    refine ⟨show 6 ≤ 6 by decide, ?_⟩
    conv => whnf
    repeat ((first | refine aI rfl ?_ | refine aI (by decide) ?_ | refine dI (by kernel_rfl) ?_ | refine aI ⟨by omega, by omega⟩ ?_ | refine aI (by omega) ?_ | refine aI (fun _ => ⟨by omega, by omega⟩) ?_ | refine aI (of_decide_eq_true rfl) ?_ | (refine yI ?_ ?_; focus (first | decide | (simp; done) | (simp [tcs]; done))) | (refine nI ?_ ?_; focus (first | decide | (simp; done) | (simp [tcs]; done))) | intro _); conv => whnf)
    try (refine dI (by kernel_rfl) ?_; conv => whnf)
    first | refine CallSt.use hfa [] trivial (by decide) rfl ?_ | refine CallPt.useS hfa [] trivial (by decide) rfl ?_
    rintro _ _ ⟨rfl, rfl⟩ _
    conv => whnf
    repeat ((first | refine aI rfl ?_ | refine aI (by decide) ?_ | refine dI (by kernel_rfl) ?_ | refine aI ⟨by omega, by omega⟩ ?_ | refine aI (by omega) ?_ | refine aI (fun _ => ⟨by omega, by omega⟩) ?_ | refine aI (of_decide_eq_true rfl) ?_ | (refine yI ?_ ?_; focus (first | decide | (simp; done) | (simp [tcs]; done))) | (refine nI ?_ ?_; focus (first | decide | (simp; done) | (simp [tcs]; done))) | intro _); conv => whnf)
    refine ⟨_, _, rfl, mrow_set2 bj kd (by omega) (by omega), ?_⟩
    conv => whnf
    repeat ((first | refine aI rfl ?_ | refine aI (by decide) ?_ | refine dI (by kernel_rfl) ?_ | refine aI ⟨by omega, by omega⟩ ?_ | refine aI (by omega) ?_ | refine aI (fun _ => ⟨by omega, by omega⟩) ?_ | refine aI (of_decide_eq_true rfl) ?_ | (refine yI ?_ ?_; focus (first | decide | (simp; done) | (simp [tcs]; done))) | (refine nI ?_ ?_; focus (first | decide | (simp; done) | (simp [tcs]; done))) | intro _); conv => whnf)
    try (refine dI (by kernel_rfl) ?_; conv => whnf)
    first | refine CallSt.use hdm [] trivial (by decide) rfl ?_ | refine CallPt.useS hdm [] trivial (by decide) rfl ?_
    rintro _ _ ⟨rfl, rfl⟩ _
    conv => whnf
    repeat ((first | refine aI rfl ?_ | refine aI (by decide) ?_ | refine dI (by kernel_rfl) ?_ | refine aI ⟨by omega, by omega⟩ ?_ | refine aI (by omega) ?_ | refine aI (fun _ => ⟨by omega, by omega⟩) ?_ | refine aI (of_decide_eq_true rfl) ?_ | (refine yI ?_ ?_; focus (first | decide | (simp; done) | (simp [tcs]; done))) | (refine nI ?_ ?_; focus (first | decide | (simp; done) | (simp [tcs]; done))) | intro _); conv => whnf)
    generalize hb0 : updM bj j j kd = b0 at *
    refine loop_intro (fun mm tm H => ∃ i : Nat, D.length = mm + i ∧ tm = [(40, .c (.int .i64 (i))), (39, .c (.int .i64 ((tcs D).length))), (38, .c (.sl 4 48 (tcs D))), (6, .c (.int .i64 (j))), (18, .c (.int .i64 (j))), (17, .c (.int .i64 ((dcs sig).length))), (16, .c (.sl 6 72 (dcs sig))), (1, .ptr 0 0), (3, .ptr 2 0), (4, .ptr 3 0), (5, .ptr 4 0)] ∧
        H = bwH5 sig (orE b0 ((D.take i).flatMap (stepE sig sz hn true))))
      D.length _ _ ⟨0, by omega, rfl, rfl⟩ ?_ ?_
    · have e0 : orE b0 ((D.take 0).flatMap (stepE sig sz hn true)) = b0 := by rw [List.take_zero, List.flatMap_nil, orE_nil]
      rw [e0]
      exact Wk.sl [0, 1, 2, 3, 4] rfl ⟨rfl, rfl, rfl, rfl, rfl, trivial⟩ ⟨rfl, rfl, rfl, rfl, rfl, rfl, rfl, rfl, rfl, rfl, rfl, trivial⟩ rfl
    rintro mm tm H ⟨i, hi, rfl, rfl⟩
    conv => whnf
    refine ⟨fun hc2 => ?_, fun hc2 => ?_⟩
    · replace hc2 : (i : Int) < (tcs D).length := of_decide_eq_true hc2
      obtain ⟨v, hv⟩ : ∃ v, D[i]? = some v := ⟨D[i]'(by omega), List.getElem?_eq_getElem (by omega)⟩
      have hvc := tcs_at D i v hv
      obtain ⟨d', hv1, hv2, hv3⟩ := hD v (List.mem_of_getElem? hv)
      have hst : orE b0 ((D.take (i + 1)).flatMap (stepE sig sz hn true)) = orE (orE b0 ((D.take i).flatMap (stepE sig sz hn true))) (stepE sig sz hn true v) := by
        rw [orE_app, List.take_add_one, hv, List.flatMap_append]
        simp
      generalize orE b0 ((D.take i).flatMap (stepE sig sz hn true)) = fj at *
      unfold stepE at hst
      rw [← orE_app, Bool.true_and] at hst
      have hpt := cPutM sig hpr hsl fj v d' hv1 hv2 hn (by omega)
      generalize orE fj (if tgB sig v then [(tg v, hn)] else []) = fp at *
      have hst2 := cStands sig hpr hsl sz v d' hv1 hv2 hv3 fp
      rw [← hst] at hst2
      obtain ⟨k', l', n', us⟩ := v
      rw [tv_mk] at *
      conv => whnf
      repeat ((first | refine aI rfl ?_ | refine aI (by decide) ?_ | refine dI (by kernel_rfl) ?_ | refine aI ⟨by omega, by omega⟩ ?_ | refine aI (by omega) ?_ | refine aI (fun _ => ⟨by omega, by omega⟩) ?_ | refine aI (of_decide_eq_true rfl) ?_ | (refine yI ?_ ?_; focus (first | decide | (simp; done) | (simp [tcs]; done))) | (refine nI ?_ ?_; focus (first | decide | (simp; done) | (simp [tcs]; done))) | intro _); conv => whnf)
      refine ⟨_, ⟨by omega, by simpa using hvc⟩, ?_⟩
      conv => whnf
      refine ⟨Nat.le_refl 4, ?_⟩
      conv => whnf
      repeat ((first | refine aI rfl ?_ | refine aI (by decide) ?_ | refine dI (by kernel_rfl) ?_ | refine aI ⟨by omega, by omega⟩ ?_ | refine aI (by omega) ?_ | refine aI (fun _ => ⟨by omega, by omega⟩) ?_ | refine aI (of_decide_eq_true rfl) ?_ | (refine yI ?_ ?_; focus (first | decide | (simp; done) | (simp [tcs]; done))) | (refine nI ?_ ?_; focus (first | decide | (simp; done) | (simp [tcs]; done))) | intro _); conv => whnf)
      try (refine dI (by kernel_rfl) ?_; conv => whnf)
      first | refine CallSt.use hha [] trivial (by decide) rfl ?_ | refine CallPt.useS hha [] trivial (by decide) rfl ?_
      rintro _ _ ⟨rfl, rfl⟩ _
      conv => whnf
      repeat ((first | refine aI rfl ?_ | refine aI (by decide) ?_ | refine dI (by kernel_rfl) ?_ | refine aI ⟨by omega, by omega⟩ ?_ | refine aI (by omega) ?_ | refine aI (fun _ => ⟨by omega, by omega⟩) ?_ | refine aI (of_decide_eq_true rfl) ?_ | (refine yI ?_ ?_; focus (first | decide | (simp; done) | (simp [tcs]; done))) | (refine nI ?_ ?_; focus (first | decide | (simp; done) | (simp [tcs]; done))) | intro _); conv => whnf)
      try (refine dI (by kernel_rfl) ?_; conv => whnf)
      first | refine CallSt.use hpt [0, 1, 2] ⟨rfl, rfl, rfl, trivial⟩ (by decide) rfl ?_ | refine CallPt.useS hpt [0, 1, 2] ⟨rfl, rfl, rfl, trivial⟩ (by decide) rfl ?_
      rintro _ _ ⟨rfl, rfl⟩ _
      conv => whnf
      repeat ((first | refine aI rfl ?_ | refine aI (by decide) ?_ | refine dI (by kernel_rfl) ?_ | refine aI ⟨by omega, by omega⟩ ?_ | refine aI (by omega) ?_ | refine aI (fun _ => ⟨by omega, by omega⟩) ?_ | refine aI (of_decide_eq_true rfl) ?_ | (refine yI ?_ ?_; focus (first | decide | (simp; done) | (simp [tcs]; done))) | (refine nI ?_ ?_; focus (first | decide | (simp; done) | (simp [tcs]; done))) | intro _); conv => whnf)
      try (refine dI (by kernel_rfl) ?_; conv => whnf)
      first | refine CallSt.use hst2 [0, 1, 2, 3, 4] ⟨rfl, rfl, rfl, rfl, rfl, trivial⟩ (by decide) rfl ?_ | refine CallPt.useS hst2 [0, 1, 2, 3, 4] ⟨rfl, rfl, rfl, rfl, rfl, trivial⟩ (by decide) rfl ?_
      rintro _ _ ⟨rfl, rfl⟩ _
      conv => whnf
      repeat ((first | refine aI rfl ?_ | refine aI (by decide) ?_ | refine dI (by kernel_rfl) ?_ | refine aI ⟨by omega, by omega⟩ ?_ | refine aI (by omega) ?_ | refine aI (fun _ => ⟨by omega, by omega⟩) ?_ | refine aI (of_decide_eq_true rfl) ?_ | (refine yI ?_ ?_; focus (first | decide | (simp; done) | (simp [tcs]; done))) | (refine nI ?_ ?_; focus (first | decide | (simp; done) | (simp [tcs]; done))) | intro _); conv => whnf)
      exact ⟨mm - 1, _, _, by omega, ⟨i + 1, by omega, rfl, rfl⟩, Wk.sl [0, 1, 2, 3, 4] rfl ⟨rfl, rfl, rfl, rfl, rfl, trivial⟩ ⟨rfl, rfl, rfl, rfl, rfl, rfl, rfl, rfl, rfl, rfl, rfl, trivial⟩ rfl⟩
    · replace hc2 : ¬ (i : Int) < (tcs D).length := of_decide_eq_false hc2
      obtain rfl : i = D.length := by omega
      rw [List.take_length, ← hnx]
      conv => whnf
      repeat ((first | refine aI rfl ?_ | refine aI (by decide) ?_ | refine dI (by kernel_rfl) ?_ | refine aI ⟨by omega, by omega⟩ ?_ | refine aI (by omega) ?_ | refine aI (fun _ => ⟨by omega, by omega⟩) ?_ | refine aI (of_decide_eq_true rfl) ?_ | (refine yI ?_ ?_; focus (first | decide | (simp; done) | (simp [tcs]; done))) | (refine nI ?_ ?_; focus (first | decide | (simp; done) | (simp [tcs]; done))) | intro _); conv => whnf)
      exact ⟨m - 1, _, _, by omega, ⟨j + 1, by omega, rfl, rfl⟩, Wk.sl [0, 1, 2, 3, 4] rfl ⟨rfl, rfl, rfl, rfl, rfl, trivial⟩ ⟨rfl, rfl, rfl, rfl, rfl, rfl, rfl, trivial⟩ rfl⟩
  · replace hc : ¬ (j : Int) < (dcs sig).length := of_decide_eq_false hc
    obtain rfl : j = sig.length := by omega
    generalize bwP sig sig.length = fp at *
    generalize belM sig = fm at *
    conv => whnf
    repeat ((first | refine aI rfl ?_ | refine aI (by decide) ?_ | refine dI (by kernel_rfl) ?_ | refine aI ⟨by omega, by omega⟩ ?_ | refine aI (by omega) ?_ | refine aI (fun _ => ⟨by omega, by omega⟩) ?_ | refine aI (of_decide_eq_true rfl) ?_ | (refine yI ?_ ?_; focus (first | decide | (simp; done) | (simp [tcs]; done))) | (refine nI ?_ ?_; focus (first | decide | (simp; done) | (simp [tcs]; done))) | intro _); conv => whnf)
    try (refine dI (by kernel_rfl) ?_; conv => whnf)
    first | refine CallSt.use hcl [1] ⟨rfl, trivial⟩ (by decide) rfl ?_ | refine CallPt.useS hcl [1] ⟨rfl, trivial⟩ (by decide) rfl ?_
    rintro _ _ ⟨rfl, rfl⟩ _
    conv => whnf
    repeat ((first | refine aI rfl ?_ | refine aI (by decide) ?_ | refine dI (by kernel_rfl) ?_ | refine aI ⟨by omega, by omega⟩ ?_ | refine aI (by omega) ?_ | refine aI (fun _ => ⟨by omega, by omega⟩) ?_ | refine aI (of_decide_eq_true rfl) ?_ | (refine yI ?_ ?_; focus (first | decide | (simp; done) | (simp [tcs]; done))) | (refine nI ?_ ?_; focus (first | decide | (simp; done) | (simp [tcs]; done))) | intro _); conv => whnf)
    refine ⟨[(2, .elt 0 10000 0 0)], [.row 80 10000 1 [mrow fm]], Wk.sl [1] rfl ⟨rfl, trivial⟩ ⟨rfl, trivial⟩ rfl, ?_⟩
    conv => whnf
    exact ⟨rfl, rfl⟩
end Go.Tr
/- depend.Users, depend.Needs. -/
namespace Go.Tr
open Go.Proofs
end Go.Tr
/- depend.Needs. -/
namespace Go.Tr
open Go.Proofs
def lrow (f : Nat → Nat → Bool) (q : Nat) : List AV := (List.range 100).map fun j => .c (.bool (f q j))
attribute [irreducible] lrow
end Go.Tr
/- depend.Below. -/
namespace Go.Tr
open Go.Proofs
def fstE : List Int → Int
  | [] => 0
  | e :: r => match decide (e = 0) with | true => fstE r | false => e
theorem fst_no : ∀ (L : List Int) (j : Nat) (e : Int), L[j]? = some e → e ≠ 0 → fstE (L.drop j) = e
  | [], _, _, h, _ => nomatch h
  | x :: r, 0, e, h, he => by
    cases h
    rw [List.drop_zero, fstE, decide_eq_false he]
  | x :: r, j + 1, e, h, he => by
    rw [List.drop_succ_cons]
    exact fst_no r j e (by simpa using h) he
theorem fst_yes : ∀ (L : List Int) (j : Nat), L[j]? = some 0 → fstE (L.drop j) = fstE (L.drop (j + 1))
  | [], _, h => nomatch h
  | x :: r, 0, h => by
    cases h
    rw [List.drop_zero, fstE, decide_eq_true rfl]
    rfl
  | x :: r, j + 1, h => by
    rw [List.drop_succ_cons, List.drop_succ_cons]
    exact fst_yes r j (by simpa using h)
def belL (sig : List Dcl) (a b : Int) : List Int := [hasE sig a, hasE sig b, famE sig a, famE sig b]
def belE (sig : List Dcl) (a b : Int) : Int := fstE (belL sig a b)
theorem belE_ok {sig : List Dcl} {a b : Int} (h : belE sig a b = 0) : hasE sig a = 0 ∧ hasE sig b = 0 ∧ famE sig a = 0 ∧ famE sig b = 0 := by
  unfold belE belL at h
  have : ∀ (e : Int) (r : List Int), fstE (e :: r) = 0 → e = 0 ∧ fstE r = 0 := fun e r h => by
    rw [fstE] at h
    by_cases he : e = 0
    · rw [decide_eq_true he] at h
      exact ⟨he, h⟩
    · rw [decide_eq_false he] at h
      exact absurd h he
  obtain ⟨h1, h⟩ := this _ _ h
  obtain ⟨h2, h⟩ := this _ _ h
  obtain ⟨h3, h⟩ := this _ _ h
  obtain ⟨h4, h⟩ := this _ _ h
  exact ⟨h1, h2, h3, h4⟩
theorem bel1 (sig : List Dcl) (a b : Int) {j : Nat} {x : Int} (h : [a, b][j]? = some x) : (belL sig a b)[j]? = some (hasE sig x) := by
  match j, h with
  | 0, h => cases h; rfl
  | 1, h => cases h; rfl
theorem bel2 (sig : List Dcl) (a b : Int) {j : Nat} {x : Int} (h : [a, b][j]? = some x) : (belL sig a b)[2 + j]? = some (famE sig x) := by
  match j, h with
  | 0, h => cases h; rfl
  | 1, h => cases h; rfl
theorem cBelowD (sig : List Dcl) (a b : Int) : CallSt Try.prog 8 [.c (.sl 6 72 (dcs sig)), .c (.int .i64 (a)), .c (.int .i64 (b))] [] (fun r H' => r = .tup [.c (.bool (decide (belE sig a b = 0) && belM sig a.toNat b.toNat)), .c (.int .i64 (belE sig a b))] ∧ H' = []) := by
  have hh := cDHas sig
  have hf := cDFam sig
  have hb1 := fun j x h => @bel1 sig a b j x h
  have hb2 := fun j x h => @bel2 sig a b j x h
  have hok := @belE_ok sig a b
  have hB : belE sig a b = fstE ((belL sig a b).drop 0) := rfl
  have hbl : (belL sig a b).length = 4 := rfl
  have hM := cBelowM sig
  have hhc := hasE_cases sig
  generalize belE sig a b = BE at *
  generalize belL sig a b = L at *
  generalize belM sig = fm at *
  refine call_pure (E := envB 0) (fn := Try.f8) (c := bodyOf Try.f8) (envB_ok 0) mixed (by kernel_rfl) (by kernel_rfl) (by kernel_rfl) (by kernel_rfl) (by kernel_rfl) (by kernel_rfl) rfl ?_
  conv => whnf
  repeat ((first | refine aI rfl ?_ | refine aI (by decide) ?_ | refine dI (by kernel_rfl) ?_ | refine aI ⟨by omega, by omega⟩ ?_ | refine aI (by omega) ?_ | refine aI (fun _ => ⟨by omega, by omega⟩) ?_ | refine aI (of_decide_eq_true rfl) ?_ | (refine yI ?_ ?_; focus (first | decide | (simp; done) | (simp [tcs]; done))) | (refine nI ?_ ?_; focus (first | decide | (simp; done) | (simp [tcs]; done))) | intro _); conv => whnf)
  refine loop_intro (fun m tm H => ∃ j : Nat, 2 = m + j ∧ BE = fstE (L.drop j) ∧
    tm = [(18, .c (.int .i64 (j))), (17, .c (.int .i64 (2))), (16, .own 0), (0, .c (.sl 6 72 (dcs sig))), (1, .c (.int .i64 (a))), (2, .c (.int .i64 (b)))] ∧ H = [.row 3 1 8 (rowI [a, b])])
    2 _ _ ⟨0, by omega, hB, rfl, rfl⟩ (Wk.sl [0] rfl ⟨rfl, trivial⟩ ⟨rfl, rfl, rfl, rfl, rfl, rfl, trivial⟩ rfl) ?_
  rintro m tm H ⟨j, hj, hBj, rfl, rfl⟩
  conv => whnf
  refine ⟨fun hlt => ?_, fun hlt => ?_⟩
  · replace hlt : (j : Int) < 2 := of_decide_eq_true hlt
    obtain ⟨x, hx⟩ : ∃ x, [a, b][j]? = some x := ⟨[a, b][j]'(show j < 2 by omega), List.getElem?_eq_getElem (show j < 2 by omega)⟩
    have hxr := rowI_at hx
    have hhx := hh x
    have hbx := hb1 j x hx
    generalize hasE sig x = e at *
    have hrl : (rowI [a, b]).length = 2 := rfl
    have hxq : (rowI [a, b])[(j : Int).toNat]? = some [.int .i64 x] := rowI_at hx
    conv => whnf
    repeat ((first | refine aI rfl ?_ | refine aI (by decide) ?_ | refine dI (by kernel_rfl) ?_ | refine aI ⟨by omega, by omega⟩ ?_ | refine aI (by omega) ?_ | refine aI (fun _ => ⟨by omega, by omega⟩) ?_ | refine aI (of_decide_eq_true rfl) ?_ | (refine yI ?_ ?_; focus (first | decide | (simp; done) | (simp [tcs]; done))) | (refine nI ?_ ?_; focus (first | decide | (simp; done) | (simp [tcs]; done))) | intro _); conv => whnf)
    refine ⟨_, hxq, Nat.le_refl 1, ?_⟩
    conv => whnf
    repeat ((first | refine aI rfl ?_ | refine aI (by decide) ?_ | refine dI (by kernel_rfl) ?_ | refine aI ⟨by omega, by omega⟩ ?_ | refine aI (by omega) ?_ | refine aI (fun _ => ⟨by omega, by omega⟩) ?_ | refine aI (of_decide_eq_true rfl) ?_ | (refine yI ?_ ?_; focus (first | decide | (simp; done) | (simp [tcs]; done))) | (refine nI ?_ ?_; focus (first | decide | (simp; done) | (simp [tcs]; done))) | intro _); conv => whnf)
    try (refine dI (by kernel_rfl) ?_; conv => whnf)
    first | refine CallSt.use hhx [] trivial (by decide) rfl ?_ | refine CallPt.useS hhx [] trivial (by decide) rfl ?_
    rintro _ _ ⟨rfl, rfl⟩ _
    conv => whnf
    repeat ((first | refine aI rfl ?_ | refine aI (by decide) ?_ | refine dI (by kernel_rfl) ?_ | refine aI ⟨by omega, by omega⟩ ?_ | refine aI (by omega) ?_ | refine aI (fun _ => ⟨by omega, by omega⟩) ?_ | refine aI (of_decide_eq_true rfl) ?_ | (refine yI ?_ ?_; focus (first | decide | (simp; done) | (simp [tcs]; done))) | (refine nI ?_ ?_; focus (first | decide | (simp; done) | (simp [tcs]; done))) | intro _); conv => whnf)
    refine ⟨fun he => ?_, fun he => ?_⟩
    · replace he : ¬ e = 0 := by simpa using he
      rw [fst_no L j e hbx he] at hBj
      subst hBj
      rw [decide_eq_false he]
      conv => whnf
      repeat ((first | refine aI rfl ?_ | refine aI (by decide) ?_ | refine dI (by kernel_rfl) ?_ | refine aI ⟨by omega, by omega⟩ ?_ | refine aI (by omega) ?_ | refine aI (fun _ => ⟨by omega, by omega⟩) ?_ | refine aI (of_decide_eq_true rfl) ?_ | (refine yI ?_ ?_; focus (first | decide | (simp; done) | (simp [tcs]; done))) | (refine nI ?_ ?_; focus (first | decide | (simp; done) | (simp [tcs]; done))) | intro _); conv => whnf)
      all_goals (first | rfl | exact ⟨rfl, rfl⟩ | exact ⟨rfl, rfl, rfl⟩)
    · replace he : e = 0 := by simpa using he
      subst he
      rw [fst_yes L j hbx] at hBj
      conv => whnf
      repeat ((first | refine aI rfl ?_ | refine aI (by decide) ?_ | refine dI (by kernel_rfl) ?_ | refine aI ⟨by omega, by omega⟩ ?_ | refine aI (by omega) ?_ | refine aI (fun _ => ⟨by omega, by omega⟩) ?_ | refine aI (of_decide_eq_true rfl) ?_ | (refine yI ?_ ?_; focus (first | decide | (simp; done) | (simp [tcs]; done))) | (refine nI ?_ ?_; focus (first | decide | (simp; done) | (simp [tcs]; done))) | intro _); conv => whnf)
      exact ⟨m - 1, _, _, by omega, ⟨j + 1, by omega, hBj, rfl, rfl⟩, Wk.sl [0] rfl ⟨rfl, trivial⟩ ⟨rfl, rfl, rfl, rfl, rfl, rfl, trivial⟩ rfl⟩
  · replace hlt : ¬ (j : Int) < 2 := of_decide_eq_false hlt
    obtain rfl : j = 2 := by omega
    conv => whnf
    repeat ((first | refine aI rfl ?_ | refine aI (by decide) ?_ | refine dI (by kernel_rfl) ?_ | refine aI ⟨by omega, by omega⟩ ?_ | refine aI (by omega) ?_ | refine aI (fun _ => ⟨by omega, by omega⟩) ?_ | refine aI (of_decide_eq_true rfl) ?_ | (refine yI ?_ ?_; focus (first | decide | (simp; done) | (simp [tcs]; done))) | (refine nI ?_ ?_; focus (first | decide | (simp; done) | (simp [tcs]; done))) | intro _); conv => whnf)
    refine loop_intro (fun m tm H => ∃ j : Nat, 2 = m + j ∧ BE = fstE (L.drop (2 + j)) ∧
      tm = [(33, .c (.int .i64 (j))), (32, .c (.int .i64 (2))), (31, .own 0), (0, .c (.sl 6 72 (dcs sig))), (1, .c (.int .i64 (a))), (2, .c (.int .i64 (b)))] ∧ H = [.row 3 1 8 (rowI [a, b])])
      2 _ _ ⟨0, by omega, hBj, rfl, rfl⟩ (Wk.sl [1] rfl ⟨rfl, trivial⟩ ⟨rfl, rfl, rfl, rfl, rfl, rfl, trivial⟩ rfl) ?_
    clear hBj hj
    rintro m tm H ⟨j, hj, hBj, rfl, rfl⟩
    conv => whnf
    refine ⟨fun hlt => ?_, fun hlt => ?_⟩
    · replace hlt : (j : Int) < 2 := of_decide_eq_true hlt
      obtain ⟨x, hx⟩ : ∃ x, [a, b][j]? = some x := ⟨[a, b][j]'(show j < 2 by omega), List.getElem?_eq_getElem (show j < 2 by omega)⟩
      have hfx := hf x
      have hbx := hb2 j x hx
      generalize famE sig x = e at *
      have hrl : (rowI [a, b]).length = 2 := rfl
      have hxq : (rowI [a, b])[(j : Int).toNat]? = some [.int .i64 x] := rowI_at hx
      conv => whnf
      repeat ((first | refine aI rfl ?_ | refine aI (by decide) ?_ | refine dI (by kernel_rfl) ?_ | refine aI ⟨by omega, by omega⟩ ?_ | refine aI (by omega) ?_ | refine aI (fun _ => ⟨by omega, by omega⟩) ?_ | refine aI (of_decide_eq_true rfl) ?_ | (refine yI ?_ ?_; focus (first | decide | (simp; done) | (simp [tcs]; done))) | (refine nI ?_ ?_; focus (first | decide | (simp; done) | (simp [tcs]; done))) | intro _); conv => whnf)
      refine ⟨_, hxq, Nat.le_refl 1, ?_⟩
      conv => whnf
      repeat ((first | refine aI rfl ?_ | refine aI (by decide) ?_ | refine dI (by kernel_rfl) ?_ | refine aI ⟨by omega, by omega⟩ ?_ | refine aI (by omega) ?_ | refine aI (fun _ => ⟨by omega, by omega⟩) ?_ | refine aI (of_decide_eq_true rfl) ?_ | (refine yI ?_ ?_; focus (first | decide | (simp; done) | (simp [tcs]; done))) | (refine nI ?_ ?_; focus (first | decide | (simp; done) | (simp [tcs]; done))) | intro _); conv => whnf)
      try (refine dI (by kernel_rfl) ?_; conv => whnf)
      first | refine CallSt.use hfx [] trivial (by decide) rfl ?_ | refine CallPt.useS hfx [] trivial (by decide) rfl ?_
      rintro _ _ ⟨rfl, rfl⟩ _
      conv => whnf
      repeat ((first | refine aI rfl ?_ | refine aI (by decide) ?_ | refine dI (by kernel_rfl) ?_ | refine aI ⟨by omega, by omega⟩ ?_ | refine aI (by omega) ?_ | refine aI (fun _ => ⟨by omega, by omega⟩) ?_ | refine aI (of_decide_eq_true rfl) ?_ | (refine yI ?_ ?_; focus (first | decide | (simp; done) | (simp [tcs]; done))) | (refine nI ?_ ?_; focus (first | decide | (simp; done) | (simp [tcs]; done))) | intro _); conv => whnf)
      refine ⟨fun he => ?_, fun he => ?_⟩
      · replace he : ¬ e = 0 := by simpa using he
        rw [fst_no L (2 + j) e hbx he] at hBj
        subst hBj
        rw [decide_eq_false he]
        conv => whnf
        repeat ((first | refine aI rfl ?_ | refine aI (by decide) ?_ | refine dI (by kernel_rfl) ?_ | refine aI ⟨by omega, by omega⟩ ?_ | refine aI (by omega) ?_ | refine aI (fun _ => ⟨by omega, by omega⟩) ?_ | refine aI (of_decide_eq_true rfl) ?_ | (refine yI ?_ ?_; focus (first | decide | (simp; done) | (simp [tcs]; done))) | (refine nI ?_ ?_; focus (first | decide | (simp; done) | (simp [tcs]; done))) | intro _); conv => whnf)
        all_goals (first | rfl | exact ⟨rfl, rfl⟩ | exact ⟨rfl, rfl, rfl⟩)
      · replace he : e = 0 := by simpa using he
        subst he
        rw [fst_yes L (2 + j) hbx] at hBj
        conv => whnf
        repeat ((first | refine aI rfl ?_ | refine aI (by decide) ?_ | refine dI (by kernel_rfl) ?_ | refine aI ⟨by omega, by omega⟩ ?_ | refine aI (by omega) ?_ | refine aI (fun _ => ⟨by omega, by omega⟩) ?_ | refine aI (of_decide_eq_true rfl) ?_ | (refine yI ?_ ?_; focus (first | decide | (simp; done) | (simp [tcs]; done))) | (refine nI ?_ ?_; focus (first | decide | (simp; done) | (simp [tcs]; done))) | intro _); conv => whnf)
        exact ⟨m - 1, _, _, by omega, ⟨j + 1, by omega, hBj, rfl, rfl⟩, Wk.sl [0] rfl ⟨rfl, trivial⟩ ⟨rfl, rfl, rfl, rfl, rfl, rfl, trivial⟩ rfl⟩
    · replace hlt : ¬ (j : Int) < 2 := of_decide_eq_false hlt
      obtain rfl : j = 2 := by omega
      rw [List.drop_of_length_le (by omega)] at hBj
      obtain rfl : BE = 0 := hBj
      obtain ⟨h1, h2, _⟩ := hok rfl
      obtain ⟨hc, ha0, ha1⟩ := hasE_ok h1
      obtain ⟨_, hb0, hb1⟩ := hasE_ok h2
      have hm := hM hc
      have hl := check_len hc
      obtain ⟨p, rfl⟩ : ∃ p : Nat, a = p := ⟨a.toNat, by omega⟩
      obtain ⟨q, rfl⟩ : ∃ q : Nat, b = q := ⟨b.toNat, by omega⟩
      rw [decide_eq_true (show (0 : Int) = 0 from rfl), Bool.true_and, Int.toNat_natCast, Int.toNat_natCast]
      conv => whnf
      repeat ((first | refine aI rfl ?_ | refine aI (by decide) ?_ | refine dI (by kernel_rfl) ?_ | refine aI ⟨by omega, by omega⟩ ?_ | refine aI (by omega) ?_ | refine aI (fun _ => ⟨by omega, by omega⟩) ?_ | refine aI (of_decide_eq_true rfl) ?_ | (refine yI ?_ ?_; focus (first | decide | (simp; done) | (simp [tcs]; done))) | (refine nI ?_ ?_; focus (first | decide | (simp; done) | (simp [tcs]; done))) | intro _); conv => whnf)
      try (refine dI (by kernel_rfl) ?_; conv => whnf)
      first | refine CallSt.use hm [] trivial (by decide) rfl ?_ | refine CallPt.useS hm [] trivial (by decide) rfl ?_
      rintro _ _ ⟨rfl, rfl⟩ _
      conv => whnf
      repeat ((first | refine aI rfl ?_ | refine aI (by decide) ?_ | refine dI (by kernel_rfl) ?_ | refine aI ⟨by omega, by omega⟩ ?_ | refine aI (by omega) ?_ | refine aI (fun _ => ⟨by omega, by omega⟩) ?_ | refine aI (of_decide_eq_true rfl) ?_ | (refine yI ?_ ?_; focus (first | decide | (simp; done) | (simp [tcs]; done))) | (refine nI ?_ ?_; focus (first | decide | (simp; done) | (simp [tcs]; done))) | intro _); conv => whnf)
      refine ⟨fm p q, ⟨_, rfl, mrow_at2 fm (by omega) (by omega)⟩, ?_⟩
      conv => whnf
      repeat ((first | refine aI rfl ?_ | refine aI (by decide) ?_ | refine dI (by kernel_rfl) ?_ | refine aI ⟨by omega, by omega⟩ ?_ | refine aI (by omega) ?_ | refine aI (fun _ => ⟨by omega, by omega⟩) ?_ | refine aI (of_decide_eq_true rfl) ?_ | (refine yI ?_ ?_; focus (first | decide | (simp; done) | (simp [tcs]; done))) | (refine nI ?_ ?_; focus (first | decide | (simp; done) | (simp [tcs]; done))) | intro _); conv => whnf)
      all_goals (first | rfl | exact ⟨rfl, rfl⟩ | exact ⟨rfl, rfl, rfl⟩)
end Go.Tr
