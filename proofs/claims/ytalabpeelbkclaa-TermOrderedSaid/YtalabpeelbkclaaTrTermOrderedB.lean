/- The engine: abstract values and states, and that the evaluator says what the model does. -/
import Derived.KernelRfl
import Derived.WalkKit
import Derived.ProofKit
import Derived.OpenShut
import Derived.ShutString
import Derived.ChangeOld
import Derived.ChangeMaps5
import Derived.Below
import Derived.SizedLaws
import Derived.Test.YtalabpeelbkclaaTrTermOrderedA
set_option linter.unusedVariables false
set_option linter.unusedSimpArgs false
set_option linter.unnecessarySimpa false
set_option autoImplicit false
/- The engine, part 22: a region that draws its order, proved. -/
namespace Go.Tr
section
variable {P : Program} {E : Env} {n0 N : Nat} {κ0 : Nat → Bind} {w0 w : World} {S0 O0 S : Nat → Prop} {H : HP} {κ : Nat → Bind} {tm : TM} {a : Act} {ops : Array Oper} {gs : List Nat} {D : Nat → Prop}
/-- An operation that may be taken first. -/
theorem awOpQ_spec (he : EnvOk P E) (hf : RegF N ops gs) (hi : Inv n0 N κ0 w0 S0 O0 tm H a w S κ) (hri : RI ops gs D tm a) {i : Nat} {o : Oper} (hoi : ops[i]? = some o) (hD : ¬ D i) (hgd : ∀ j b, o.guard = some (j, b) → D j)
    (hq : loudB o.op = false) {K : TM → HP → Prop} (hk : awOp P E ops o tm H K) :
    ∃ u tm', K tm' H ∧ Inv n0 N κ0 w0 S0 O0 tm' H (a.put o.dst u) w S κ ∧ RI ops gs (fun j => D j ∨ j = i) tm' (a.put o.dst u) ∧
      ((Region.wanted o (yielded ops a.tmps) = true ∧ (∀ w2, OpSame E o a w w2 → (execOp a.eval o).run P w2 = .ok (.value u) w2) ∧ OpSrc E o tm w S κ H a) ∨ (Region.wanted o (yielded ops a.tmps) = false ∧ u = undef)) := by
  have hd : ∀ d, o.dst = some d → d < N := fun d h => hf.dlt i o hoi d h
  have hmono : ∀ {tm' : TM} {a' : Act}, RI ops gs D tm' a' → RI ops gs (fun j => D j ∨ j = i) tm' a' := fun h => h.mono fun j hj => .inl hj
  unfold awOp at hk
  rcases gOf_spec hf hri hi.tr hoi hgd hk with ⟨hk, hw⟩ | ⟨hk, hw⟩ | ⟨x, ch, g, hk, hgw, hco, hmem, hno⟩
  · obtain ⟨h1, h2⟩ := putTop hi hd undef
    exact ⟨undef, _, hk, h1, hmono (hri.putR hf hi.sz hoi hD h2 undef), .inr ⟨hw, rfl⟩⟩
  · obtain ⟨v, u, hr, hv, hk, hsrc⟩ := qop_spec he hi.m.hr hi.tr hri.wok chOk_nil rfl hq hk
    obtain ⟨tm', hk, hp, hi'⟩ := put_done hi hd hv hk
    exact ⟨u, tm', hk, hi', hmono (hri.putR hf hi.sz hoi hD hp u), .inl ⟨hw, hr, hsrc⟩⟩
  · simp only [hq] at hk
    have hapart : ∀ p ∈ x :: ch, ∀ d, o.dst = some d → p.1 ≠ d := fun p hp d hdd e => by
      obtain ⟨j, hj, hjg, hjd⟩ := hmem p hp
      have := hf.one i o hoi j hjg p.1 hjd (by rw [hdd, e])
      subst this
      exact hD hj
    have fin : ∀ (v : AV) (u : Value), (dstK tm (x :: ch) g o.dst v fun tm' => K tm' H) → (g = true → AVR w.heap S κ v u) → (g = false → u = undef) →
        ∃ tm', K tm' H ∧ Inv n0 N κ0 w0 S0 O0 tm' H (a.put o.dst u) w S κ ∧ RI ops gs (fun j => D j ∨ j = i) tm' (a.put o.dst u) := by
      intro v u hk h1 h2
      obtain ⟨hn, ⟨hdn, hk'⟩ | ⟨d, hds, ⟨hch, _⟩ | ⟨y, r, hyr, hk'⟩⟩⟩ := dstK_spec hk
      · rw [hdn]
        exact ⟨tm, hk', hi, hmono hri⟩
      · cases hch
      · injection hyr with e1 e2
        subst e1 e2
        rw [hds]
        have hdN := hd d hds
        refine ⟨_, hk', hi.put hdN (by simp only [AVR]; exact ⟨h1, h2⟩), hmono ?_⟩
        intro t ch' g' x' hl
        rw [lk_cons] at hl
        have hdt : d < a.tmps.size := by rw [hi.sz]; exact hdN
        by_cases e : d = t
        · simp only [e, if_true, AV.when.injEq] at hl
          obtain ⟨rfl, rfl, rfl⟩ := hl
          refine ⟨hmem, ?_⟩
          rw [chOk_put hdt (fun p hp => hapart p hp d hds)]
          exact hco
        · simp only [e, if_false] at hl
          have ha := RI.apart hf hri hoi hD hds hl
          exact ⟨(hri t ch' g' x' hl).1, by rw [chOk_put hdt ha]; exact (hri t ch' g' x' hl).2⟩
    cases hg : g with
    | true =>
      have hw := hgw.1 hg
      obtain ⟨v, u, hr, hv, hk, hsrc⟩ := qop_spec he hi.m.hr hi.tr hri.wok (hco.2 hg) hg hq hk
      obtain ⟨tm', h1, h2, h3⟩ := fin v u hk (fun _ => hv) (fun h => by rw [hg] at h; cases h)
      exact ⟨u, tm', h1, h2, h3, .inl ⟨hw, hr, hsrc⟩⟩
    | false =>
      have hw : Region.wanted o (yielded ops a.tmps) = false := by
        cases hx : Region.wanted o (yielded ops a.tmps) with
        | false => rfl
        | true => have := hgw.2 hx; rw [hg] at this; cases this
      obtain ⟨v, hk⟩ := qop_any hg hq hk
      obtain ⟨tm', h1, h2, h3⟩ := fin v undef hk (fun h => by rw [hg] at h; cases h) (fun _ => rfl)
      exact ⟨undef, tm', h1, h2, h3, .inr ⟨hw, rfl⟩⟩
/-- A reading that was taken first. -/
structure PR where
  op : Nat
  ent : Option Nat
  base : World → Prop
def GOk (g : PR) (w : World) (S : Nat → Prop) (κ : Nat → Bind) (H : HP) : Prop :=
  ∃ C : Nat → Nat → Prop, (∀ w2 : World, (∀ B off, C B off → cellAt w2.heap B off = cellAt w.heap B off) → g.base w2) ∧
    ∀ B off, C B off → (¬ S B ∨ ∃ e, g.ent = some e ∧ ownAt κ H e = some B) ∧ ∃ v, cellAt w.heap B off = some v
theorem GOk.base {g : PR} (h : GOk g w S κ H) : g.base w := by
  obtain ⟨C, h1, _⟩ := h
  exact h1 w fun _ _ _ => rfl
theorem GOk_of {o : Oper} {i : Nat} {base : World → Prop} (hs : OpSrc E o tm w S κ H a) (hr : ∀ w2, OpSame E o a w w2 → base w2) : GOk ⟨i, srcF tm o, base⟩ w S κ H := by
  unfold OpSrc at hs
  unfold OpSame at hr
  unfold srcF
  split at hs
  · rename_i T x hop
    simp only [hop] at hr
    refine ⟨fun B off' => ∃ off j, a.eval x = .pointer (some ⟨B, off, none⟩) ∧ j < (E.ty T).size ∧ off' = off + j, fun w2 h => hr w2 fun B off he j hj => h B _ ⟨off, j, he, hj, rfl⟩, ?_⟩
    rintro B _ ⟨off, j, h1, h2, rfl⟩
    simp only [hop]
    exact hs B off h1 j h2
  · rename_i hop
    refine ⟨fun _ _ => False, fun w2 _ => hr w2 ?_, fun _ _ h => h.elim⟩
    split
    · rename_i T x h; exact absurd h (hop T x)
    · trivial
theorem GOk.next {g : PR} {w' : World} {S' : Nat → Prop} {κ' : Nat → Bind} {H' : HP} (h : GOk g w S κ H) (hm : ∀ B off v, ¬ S B → cellAt w.heap B off = some v → ¬ S' B ∧ cellAt w'.heap B off = some v)
    (ho : ∀ e, g.ent = some e → ∀ B, ownAt κ H e = some B → ownAt κ' H' e = some B ∧ w'.heap[B]? = w.heap[B]?) : GOk g w' S' κ' H' := by
  obtain ⟨C, h1, h2⟩ := h
  have h3 : ∀ B off, C B off → (¬ S' B ∨ ∃ e, g.ent = some e ∧ ownAt κ' H' e = some B) ∧ ∃ v, cellAt w'.heap B off = some v ∧ cellAt w.heap B off = some v := fun B off hc => by
    obtain ⟨h3, v, h4⟩ := h2 B off hc
    rcases h3 with h3 | ⟨e, h3, h5⟩
    · obtain ⟨h5, h6⟩ := hm B off v h3 h4
      exact ⟨.inl h5, v, h6, h4⟩
    · obtain ⟨h6, h7⟩ := ho e h3 B h5
      exact ⟨.inr ⟨e, h3, h6⟩, v, by rw [cellAt_same h7]; exact h4, h4⟩
  refine ⟨C, fun w2 hs => h1 w2 fun B off hc => ?_, fun B off hc => ?_⟩
  · obtain ⟨_, v, h4, h5⟩ := h3 B off hc
    rw [hs B off hc, h4, h5]
  · obtain ⟨h4, v, h5, _⟩ := h3 B off hc
    exact ⟨h4, v, h5⟩
def fOf : List PR → List (Nat × Nat)
  | [] => []
  | g :: r => addF g.op g.ent (fOf r)
theorem fOf_keep (l : List Edge) : ∀ (G : List PR), fOf (G.filter fun g => !waitsB g.op l) = keepF l (fOf G)
  | [] => rfl
  | g :: r => by
    rw [List.filter_cons]
    cases hw : waitsB g.op l
    · simp only [Bool.not_false, if_true, fOf, fOf_keep l r]
      cases he : g.ent <;> simp only [addF]
      simp only [keepF, hw]
    · simp only [Bool.not_true, Bool.false_eq_true, if_false, fOf, fOf_keep l r]
      cases he : g.ent <;> simp only [addF]
      simp only [keepF, hw]
theorem mem_entsF {e : Nat} : ∀ {G : List PR} {g : PR}, g ∈ G → g.ent = some e → e ∈ entsF (fOf G)
  | [], _, h, _ => by cases h
  | x :: r, g, h, he => by
    rcases List.mem_cons.1 h with rfl | h
    · simp only [fOf, he, addF, entsF]; simp
    · have := mem_entsF h he
      simp only [fOf]
      cases x.ent <;> simp only [addF, entsF]
      · exact this
      · exact List.mem_cons_of_mem _ this
def SOf (ops : Array Oper) (ql : Bool) (G : List PR) : Array Bool → World → Prop := fun L w => ∀ g ∈ G, (∀ (j : Nat) (oj : Oper), ops[j]? = some oj → quietB ql oj.op = false → waitsB g.op oj.after.toList = true → L.getD j false = false) → g.base w
theorem getD_tf {L : Array Bool} {j : Nat} : L.getD j true = false ↔ j < L.size ∧ L.getD j false = false := by
  rcases Nat.lt_or_ge j L.size with h | h
  · simp [h]
  · simp [Nat.not_lt.2 h]
theorem awD_spec (he : EnvOk P E) (hf : RegF N ops gs) {ql : Bool} (hqf : QFree ops ql) {Q : Exit → Act → World → Prop} (hQ : ∀ c a w, ¬ Q (.panic c) a w) {K : TM → HP → Prop}
    (hq : ∀ tm' H' S' κ' a' w', K tm' H' → (∃ D, RI ops gs D tm' a') → Inv n0 N κ0 w0 S0 O0 tm' H' a' w' S' κ' → Q .normal a' w') :
    ∀ (n : Nat) {D : List Nat} (G : List PR) {tm : TM} {H : HP} {a : Act} {w : World} {S : Nat → Prop} {κ : Nat → Bind} {L : Array Bool}, L.size = ops.size → (∀ j, L.getD j false = true ↔ j ∈ D) → (∀ j ∈ D, ∀ oj, ops[j]? = some oj → ∀ i, waitsB i oj.after.toList = true → i ∈ D) →
      Inv n0 N κ0 w0 S0 O0 tm H a w S κ → RI ops gs (· ∈ D) tm a → (∀ g ∈ G, GOk g w S κ H) → awD P E ops ql ops.toList n D (fOf G) tm H K → wpAnyS P ops Q (SOf ops ql G) n L a w := by
  have hready : ∀ {D : List Nat} {L : Array Bool}, L.size = ops.size → (∀ j, L.getD j false = true ↔ j ∈ D) → ∀ j, j ∈ Region.ready .any ops L ↔ ∃ o, (j, o) ∈ rdyL D 0 ops.toList := by
    intro D L hs hD j
    rw [mem_ready, getD_tf]
    constructor
    · rintro ⟨⟨h1, h2⟩, o, h3, h4⟩
      have hjD : j ∉ D := fun hm => by rw [(hD j).2 hm] at h2; cases h2
      exact ⟨o, mem_rdyL.2 ⟨Nat.zero_le _, by simpa using h3, hjD, afterB_iff.2 fun e he hb => (hD _).1 (h4 e (by simpa using he) (by rw [bindB_eq]; exact hb))⟩⟩
    · rintro ⟨o, h⟩
      obtain ⟨_, h1, h2, h3⟩ := mem_rdyL.1 h
      have h1' : ops[j]? = some o := by simpa using h1
      have hj := (Array.getElem?_eq_some_iff.1 h1').1
      refine ⟨⟨by omega, ?_⟩, o, h1', fun e he hb => (hD _).2 (afterB_iff.1 h3 e (by simpa using he) (by rw [← bindB_eq]; exact hb))⟩
      cases hx : L.getD j false with
      | false => rfl
      | true => exact absurd ((hD j).1 hx) h2
  have hset : ∀ {D : List Nat} {L : Array Bool}, L.size = ops.size → (∀ j, L.getD j false = true ↔ j ∈ D) → ∀ {i : Nat}, i < ops.size → (L.setIfInBounds i true).size = ops.size ∧ ∀ j, (L.setIfInBounds i true).getD j false = true ↔ j ∈ i :: D := by
    intro D L hs hD i hi
    refine ⟨by simpa using hs, fun j => ?_⟩
    rw [List.mem_cons, ← hD j]
    by_cases e : i = j
    · subst e
      have : i < L.size := by omega
      simp [this]
    · rw [getD_set_ne false e]
      constructor
      · exact .inr
      · rintro (h | h)
        · exact absurd h.symm e
        · exact h
  have nil : ∀ {D : List Nat} {L : Array Bool}, L.size = ops.size → (∀ j, L.getD j false = true ↔ j ∈ D) → rdyL D 0 ops.toList = [] → Region.ready .any ops L = [] := by
    intro D L hs hD h
    apply List.eq_nil_iff_forall_not_mem.2
    intro j hj
    obtain ⟨o, ho⟩ := (hready hs hD j).1 hj
    rw [h] at ho
    cases ho
  have hclose : ∀ {D : List Nat} {j : Nat} {o : Oper}, (∀ j ∈ D, ∀ oj, ops[j]? = some oj → ∀ i, waitsB i oj.after.toList = true → i ∈ D) → ops[j]? = some o → afterB D o.after.toList = true →
      ∀ q ∈ j :: D, ∀ oj, ops[q]? = some oj → ∀ i, waitsB i oj.after.toList = true → i ∈ j :: D := by
    intro D j o hcl hoj haft q hq oj hoq i hw
    rcases List.mem_cons.1 hq with rfl | hq
    · rw [hoj] at hoq
      injection hoq with hoq
      subst hoq
      obtain ⟨e, he, hb, ho⟩ := waitsB_iff.1 hw
      exact List.mem_cons_of_mem _ (ho ▸ afterB_iff.1 haft e he hb)
    · exact List.mem_cons_of_mem _ (hcl q hq oj hoq i hw)
  intro n
  induction n with
  | zero =>
    intro D G tm H a w S κ L hs hD hcl hi hri hG hk
    simp only [awD] at hk
    split at hk
    · rename_i h
      exact ⟨nil hs hD h, hq _ _ _ _ _ _ hk ⟨_, hri⟩ hi⟩
    · exact hk.elim
  | succ n ih =>
    intro D G tm H a w S κ L hs hD hcl hi hri hG hk
    simp only [awD] at hk
    split at hk
    · rename_i i o hp
      obtain ⟨hmem, hqo⟩ := pickQ_some hp
      obtain ⟨_, h1, hiD, haft⟩ := mem_rdyL.1 hmem
      have hoi : ops[i]? = some o := by simpa using h1
      have hilt := (Array.getElem?_eq_some_iff.1 hoi).1
      have hgd : ∀ j b, o.guard = some (j, b) → j ∈ D := fun j b hg => by
        obtain ⟨e, he, hb, ho⟩ := waitsB_iff.1 (hqf.gd i o hoi j b hg)
        rw [← ho]
        exact afterB_iff.1 haft e he hb
      obtain ⟨u, tm', hk, hi', hri', hu⟩ := awOpQ_spec he hf hi hri hoi hiD hgd (quiet_loud hqo) hk
      let g : PR := ⟨i, srcF tm o, fun w2 => Region.wanted o (yielded ops a.tmps) = true → (execOp a.eval o).run P w2 = .ok (.value u) w2⟩
      have hg : GOk g w S κ H := by
        rcases hu with ⟨hw, hr, hsrc⟩ | ⟨hw, hu⟩
        · exact GOk_of hsrc fun w2 hs _ => hr w2 hs
        · refine ⟨fun _ _ => False, fun w2 _ => ?_, fun _ _ h => False.elim h⟩
          intro h
          rw [hw] at h
          cases h
      have hG' : ∀ g' ∈ g :: G, GOk g' w S κ H := fun g' hg' => by
        rcases List.mem_cons.1 hg' with rfl | hg'
        · exact hg
        · exact hG g' hg'
      obtain ⟨hs', hD'⟩ := hset hs hD hilt
      have h2 := ih (D := i :: D) (g :: G) hs' hD' (hclose hcl hoi haft) hi' (hri'.mono fun j hj => by rcases hj with hj | rfl; exact List.mem_cons_of_mem _ hj; simp) hG' hk
      refine wpAnyS.mono (S := SOf ops ql (g :: G)) (L0 := L) (fun L w _ h g' hg' => h g' (List.mem_cons_of_mem _ hg')) (fun _ h => h) ?_
      refine wpAnyS_first (base := g.base) hoi hqf.sel hQ ?_ ?_ n L a w ?_ ((hready hs hD i).2 ⟨o, hmem⟩) ?_ ?_ ?_ h2
      · intro L w
        have key : ∀ (j : Nat) (oj : Oper), ops[j]? = some oj → quietB ql oj.op = false → (L.setIfInBounds i true).getD j false = L.getD j false := fun j oj hj hjq => by
          refine getD_set_ne false ?_
          rintro rfl
          rw [hoi] at hj
          injection hj with hj
          subst hj
          rw [hqo] at hjq
          cases hjq
        constructor
        · exact fun h g' hg' hw => h g' hg' fun j oj hj hjq hwt => by rw [key j oj hj hjq]; exact hw j oj hj hjq hwt
        · exact fun h g' hg' hw => h g' hg' fun j oj hj hjq hwt => by rw [← key j oj hj hjq]; exact hw j oj hj hjq hwt
      · exact fun L w hno h => h g (by simp) fun j oj hj _ hwt => hno j oj hj hwt
      · intro j oj hj hne hun hno
        refine hqf.ap i o hoi hqo j oj hj (Ne.symm hne) ?_ ?_
        · cases hx : waitsB i oj.after.toList with
          | false => rfl
          | true =>
            obtain ⟨e, he, hb, ho⟩ := waitsB_iff.1 hx
            exact absurd ho (hno e (by simpa using he) (by rw [bindB_eq]; exact hb))
        · cases hx : waitsB j o.after.toList with
          | false => rfl
          | true =>
            obtain ⟨e, he, hb, ho⟩ := waitsB_iff.1 hx
            have h3 := afterB_iff.1 haft e he hb
            rw [ho, ← hD j] at h3
            have := (getD_tf.1 hun).2
            rw [h3] at this
            cases this
      · intro j oj hj hwt
        cases hx : L.getD j false with
        | false => rfl
        | true =>
          exact absurd (hcl j ((hD j).1 hx) oj hj i hwt) hiD
      · rcases hu with ⟨hw, hr, hsrc⟩ | ⟨hw, hu⟩
        · exact .inl ⟨hw, fun w2 hb => hb hw⟩
        · exact .inr ⟨hw, hu⟩
      · exact fun g' hg' _ => (hG' g' hg').base
    · rename_i hp
      have hloud := pickQ_none hp
      split at hk
      · rename_i h
        have h0 := nil hs hD h
        exact ⟨fun _ => hq _ _ _ _ _ _ hk ⟨_, hri⟩ hi, by rw [h0]; simp⟩
      · rename_i x r hr
        refine ⟨fun h => ?_, fun j hj => ?_⟩
        · exfalso
          have := (hready hs hD x.1).2 ⟨x.2, by rw [hr]; simp⟩
          rw [h] at this
          cases this
        · obtain ⟨o, ho⟩ := (hready hs hD j).1 hj
          have hlo := hloud _ ho
          obtain ⟨_, h1, hjD, haft⟩ := mem_rdyL.1 ho
          have hoj : ops[j]? = some o := by simpa using h1
          have hjlt := (Array.getElem?_eq_some_iff.1 hoj).1
          have hgd : ∀ i b, o.guard = some (i, b) → i ∈ D := fun i b hg => by
            obtain ⟨e, he, hb, ho⟩ := waitsB_iff.1 (hqf.gd j o hoj i b hg)
            rw [← ho]
            exact afterB_iff.1 haft e he hb
          rw [hr] at ho
          have hk := allR_mem hk _ ho
          simp only at hk
          let G' := G.filter fun g => !waitsB g.op o.after.toList
          have hF : keepF o.after.toList (fOf G) = fOf G' := (fOf_keep _ G).symm
          rw [hF] at hk
          obtain ⟨Hh, hk, l1, l2, l3⟩ := hideL_spec hk
          obtain ⟨hhh, hown⟩ := hi.m.hr.hide l1 l2 l3
          have hih : Inv Hh.length N κ w S (fun B => ∃ i, ownAt κ Hh i = some B) tm Hh a w S κ := ⟨Mem.refl hhh, hi.tr, hi.df, hi.sz⟩
          have h2 := awOp_spec (Q := Q) he hf hih hri hoj hjD hgd hk
          obtain ⟨hs', hD'⟩ := hset hs hD hjlt
          have next : ∀ a' w', (∃ tm' H' S' κ', (showL (entsF (fOf G')) H H' fun H'' => awD P E ops ql ops.toList n (j :: D) (fOf G') tm' H'' K) ∧ Inv Hh.length N κ w S (fun B => ∃ i, ownAt κ Hh i = some B) tm' H' a' w' S' κ' ∧ RI ops gs (fun q => q ∈ D ∨ q = j) tm' a') →
              SOf ops ql G (L.setIfInBounds j true) w' ∧ wpAnyS P ops Q (SOf ops ql G) n (L.setIfInBounds j true) a' w' := by
            rintro a' w' ⟨tm', H', S', κ', hk, hi', hri'⟩
            obtain ⟨H'', hk, k1, k2, k3⟩ := showL_spec hk
            obtain ⟨m1, hkeep⟩ := Mem.unhide hi.m.hr l1 l2 l3 hi'.m k1 k2 k3
            obtain ⟨m2, hext⟩ := hi.m.trans m1
            have hG' : ∀ g ∈ G', GOk g w' S' κ' H'' := fun g hg => by
              refine (hG g (List.mem_filter.1 hg).1).next hext.mem fun e hge B hB => hkeep e (mem_entsF hg hge) B hB
            have hback : ∀ L' w2, Later (L.setIfInBounds j true) L' → SOf ops ql G' L' w2 → SOf ops ql G L' w2 := fun L' w2 hlat h g hg hw => by
              cases hx : waitsB g.op o.after.toList with
              | true =>
                have h3 := hw j o hoj hlo hx
                rw [hlat j ((hD' j).2 (by simp))] at h3
                cases h3
              | false => exact h g (List.mem_filter.2 ⟨hg, by rw [hx]; rfl⟩) hw
            refine ⟨hback _ _ (fun _ h => h) fun g hg _ => (hG' g hg).base, ?_⟩
            have h3 := ih (D := j :: D) G' hs' hD' (hclose hcl hoj haft) ⟨m2, hi'.tr, hi'.df, hi'.sz⟩ (hri'.mono fun q hq => by rcases hq with hq | rfl; exact List.mem_cons_of_mem _ hq; simp) hG' hk
            exact wpAnyS.mono hback (fun _ h => h) h3
          unfold wpOp
          simp only [hoj]
          split
          · rename_i hw
            rw [if_pos hw] at h2
            exact .inl (Oper.wp_mono next h2)
          · rename_i hw
            rw [if_neg hw] at h2
            exact next _ _ h2
theorem draw_intro (ql : Bool) {tm : TM} {H : HP} {K : TM → HP → Prop} (hqf : qfree ops ql ops.toList = true)
    (h : awD P E ops ql ops.toList ops.toList.length [] [] tm H fun tm' H' => noWhen tm' fun tm'' => K tm'' H') : DrawSt P E ops tm H K := by
  unfold DrawSt
  intro N κ0 w0 S0 O0 a w S κ Q he hok hQ hn hi hq
  obtain ⟨gs, hf⟩ := regOk_facts hok
  have h1 := awD_spec he hf (qfree_spec hqf) hQ (K := fun tm' H' => noWhen tm' fun tm'' => K tm'' H') (fun tm' H' S' κ' a' w' hk _ hi' => by
    obtain ⟨tm'', hk, hno⟩ := noWhen_spec hk
    refine hq tm'' H' S' κ' a' w' hk (fun t ch g x hl => ?_) ⟨hi'.m, fun t => ?_, hi'.df, hi'.sz⟩
    · rcases hno t with h | ⟨h1, h2⟩
      · rw [h] at hl; cases hl
      · rw [h1] at hl; exact h2 ch g x hl
    · rcases hno t with h | ⟨h1, h2⟩
      · rw [h]; simp only [AVR]
      · rw [h1]; exact hi'.tr t) ops.size (D := []) [] (L := Array.replicate ops.size false) (by simp) (fun j => by
      rcases Nat.lt_or_ge j ops.size with h | h
      · simp [h]
      · simp [Nat.not_lt.2 h]) (fun j hj => by cases hj) hi hn.ri (fun g hg => by cases hg) (by simpa [fOf] using h)
  exact wpAnyS.any h1
end
end Go.Tr
/- The engine, part 23: the table of types, held against the program; a contract of a call, used. -/
namespace Go.Tr
def valB : Value → Value → Bool
  | .int k n, .int k' n' => decide (k = k') && decide (n = n')
  | .bool b, .bool b' => b == b'
  | .slice none 0 0, .slice none 0 0 => true
  | .pointer none, .pointer none => true
  | .map none, .map none => true
  | .nilFunc, .nilFunc => true
  | .nilIface, .nilIface => true
  | .string s, .string s' => decide (s = s')
  | _, _ => false
theorem valB_eq {a b : Value} (h : valB a b = true) : a = b := by
  unfold valB at h
  split at h <;> simp_all
def valsB : List Value → List Value → Bool
  | [], [] => true
  | a :: r, b :: s => valB a b && valsB r s
  | _, _ => false
theorem valsB_eq : ∀ {a b : List Value}, valsB a b = true → a = b
  | [], [], _ => rfl
  | a :: r, b :: s, h => by
    simp only [valsB, Bool.and_eq_true] at h
    rw [valB_eq h.1, valsB_eq h.2]
  | [], _ :: _, h => by simp [valsB] at h
  | _ :: _, [], h => by simp [valsB] at h
def fldB (P : Program) : List (Nat × TypeId) → List Field → Bool
  | [], [] => true
  | (o, T) :: r, f :: s => decide (o = f.offset) && decide (T = f.type) && (P.info? f.type).isSome && fldB P r s
  | _, _ => false
theorem fldB_spec {P : Program} : ∀ {a : List (Nat × TypeId)} {b : List Field}, fldB P a b = true → a = b.map (fun f => (f.offset, f.type)) ∧ ∀ f ∈ b, ∃ i, P.info? f.type = some i
  | [], [], _ => ⟨rfl, fun f hf => by cases hf⟩
  | (o, T) :: r, f :: s, h => by
    simp only [fldB, Bool.and_eq_true, decide_eq_true_eq] at h
    obtain ⟨⟨⟨h1, h2⟩, h3⟩, h4⟩ := h
    obtain ⟨h5, h6⟩ := fldB_spec h4
    refine ⟨by rw [h1, h2, h5]; rfl, fun g hg => ?_⟩
    rcases List.mem_cons.1 hg with rfl | hg
    · exact Option.isSome_iff_exists.1 h3
    · exact h6 g hg
  | [], _ :: _, h => by simp [fldB] at h
  | _ :: _, [], h => by simp [fldB] at h
def infoB (P : Program) (T : TypeId) (d : TyD) : Bool := match P.info? T with
  | some i => decide (i.size = d.size) && decide (i.bytes = d.bytes) && decide (d.zero.length = d.size) && d.zero.all (·.oneCell') && (match i.zero with | some z => valsB z.cells.toList d.zero | none => false)
  | none => false
def undB (P : Program) (T : TypeId) : TK → Bool
  | .int k => match P.underlying T with | some (.int k') => decide (k' = k) | _ => false
  | .bool => match P.underlying T with | some .bool => true | _ => false
  | .str => match P.underlying T with | some .string => true | _ => false
  | .slice e => match P.underlying T with | some (.slice e') => decide (e' = e) | _ => false
  | .struct fs => match P.underlying T with | some (.struct F) => fldB P fs F.toList | _ => false
  | .array n e => match P.underlying T with | some (.array n' e') => decide (n' = n) && decide (e' = e) | _ => false
  | .other => match P.underlying T with | some (.struct _) => false | some (.array _ _) => false | some _ => true | none => false
  | .unknown => true
theorem tyR_of {P : Program} {T : TypeId} {d : TyD} (h1 : infoB P T d = true) (h2 : undB P T d.k = true) : TyR P T d := by
  refine ⟨?_, ?_⟩
  · unfold infoB at h1
    split at h1
    · rename_i i hi
      simp only [Bool.and_eq_true, decide_eq_true_eq, List.all_eq_true] at h1
      obtain ⟨⟨⟨⟨a, b⟩, c⟩, e⟩, f⟩ := h1
      split at f
      · rename_i z hz
        exact ⟨i, z, hi, a, b, hz, valsB_eq f, e, c⟩
      · cases f
    · cases h1
  · unfold undB at h2
    cases hk : d.k <;> simp only [hk] at h2 ⊢
    case struct fs =>
      split at h2
      · rename_i F hF
        obtain ⟨a, b⟩ := fldB_spec h2
        exact ⟨F, hF, a, b⟩
      · cases h2
    case other =>
      split at h2
      · cases h2
      · cases h2
      · rename_i u x1 x2 hu
        refine ⟨u, hu, ?_⟩
        cases u <;> first | trivial | exact (x1 _ rfl).elim | exact (x2 _ _ rfl).elim | exact (x1 _ hu).elim | exact (x2 _ _ hu).elim
      · cases h2
    all_goals
      split at h2
      · rename_i hu
        first
          | exact hu
          | (obtain rfl := of_decide_eq_true h2; exact hu)
          | (simp only [Bool.and_eq_true, decide_eq_true_eq] at h2; obtain ⟨rfl, rfl⟩ := h2; exact hu)
      · cases h2
def lkT : List (Nat × TyD) → Nat → TyD
  | [], _ => ⟨0, 0, .unknown, [], []⟩
  | (x, d) :: r, T => match Nat.beq x T with | true => d | false => lkT r T
def tabB (P : Program) : List (Nat × TyD) → Bool
  | [] => true
  | (x, d) :: r => infoB P x d && undB P x d.k && tabB P r
theorem lkT_ok {P : Program} : ∀ {l : List (Nat × TyD)}, tabB P l = true → ∀ T, (match (lkT l T).k with | .unknown => False | _ => True) → TyR P T (lkT l T)
  | [], _, T, h => by simp only [lkT] at h
  | (x, d) :: r, hb, T, h => by
    simp only [tabB, Bool.and_eq_true] at hb
    unfold lkT at h ⊢
    cases hx : Nat.beq x T with
    | true =>
      obtain rfl := Nat.eq_of_beq_eq_true hx
      exact tyR_of hb.1.1 hb.1.2
    | false =>
      rw [hx] at h
      exact lkT_ok hb.2 T h
theorem EnvOk.of {P : Program} {E : Env} {l : List (Nat × TyD)} (he : E.ty = lkT l) (h : tabB P l = true) : EnvOk P E := by
  intro T hT
  rw [he] at hT ⊢
  exact lkT_ok h T hT
end Go.Tr
/- The engine, part 24: rules for use: a weaker state, a loop, a call. -/
namespace Go.Tr
/-- The chosen entries, renamed, are those of the greater heap. -/
def selR (φ : Nat → Nat) (H : HP) : List Nat → HP → Prop
  | [], [] => True
  | j :: s, e :: L => H[j]? = some (e.ren φ) ∧ selR φ H s L
  | _, _ => False
theorem selR_len {φ : Nat → Nat} {H : HP} : ∀ {sel : List Nat} {L : HP}, selR φ H sel L → sel.length = L.length
  | [], [], _ => rfl
  | j :: s, e :: L, h => by simp [selR_len h.2]
  | [], _ :: _, h => h.elim
  | _ :: _, [], h => h.elim
theorem selR_at {φ : Nat → Nat} {H : HP} : ∀ {sel : List Nat} {L : HP}, selR φ H sel L → ∀ (i j : Nat), sel[i]? = some j → ∃ e : Ent, L[i]? = some e ∧ H[j]? = some (e.ren φ)
  | [], [], _, i, j, hi => by simp at hi
  | q :: s, e :: L, h, 0, j, hi => by
    simp at hi; subst hi
    exact ⟨e, by simp, h.1⟩
  | q :: s, e :: L, h, i + 1, j, hi => by
    obtain ⟨e', h1, h2⟩ := selR_at h.2 i j (by simpa using hi)
    exact ⟨e', by simpa using h1, h2⟩
  | [], _ :: _, h, _, _, _ => h.elim
  | _ :: _, [], h, _, _, _ => h.elim
def tmR (φ : Nat → Nat) (tm : TM) : TM → Prop
  | [] => True
  | (t, v) :: r => lk tm t = v.ren φ ∧ tmR φ tm r
theorem tmR_lk {φ : Nat → Nat} {tm : TM} : ∀ {tm' : TM}, tmR φ tm tm' → ∀ t, lk tm' t = .top ∨ lk tm t = (lk tm' t).ren φ
  | [], _, t => .inl rfl
  | (d, v) :: r, h, t => by
    rw [lk_cons]
    by_cases e : d = t
    · subst e; simp only [if_true]; exact .inr h.1
    · simp only [e, if_false]; exact tmR_lk h.2 t
def nwB : TM → Bool
  | [] => true
  | (_, .when _ _ _) :: _ => false
  | _ :: r => nwB r
theorem nwB_spec : ∀ {tm : TM}, nwB tm = true → NW tm
  | [], _, t, ch, g, x, hl => by simp [lk] at hl
  | (d, v) :: r, h, t, ch, g, x, hl => by
    rw [lk_cons] at hl
    cases v <;> simp only [nwB] at h
    case «when» => cases h
    all_goals
      split at hl
      · cases hl
      · exact nwB_spec h t ch g x hl
/-- Entries are dropped and numbered anew; temporaries are forgotten. -/
theorem Wk.sel {n0 : Nat} {tm tm' : TM} {H H' : HP} (sel : List Nat) (hnd : sel.Nodup) (hn0 : n0 ≤ sel.length) (hid : ∀ i, i < n0 → sel[i]? = some i)
    (hents : selR (selMap sel H.length) H sel H') (htm : tmR (selMap sel H.length) tm tm') (hnw : nwB tm' = true) : Wk n0 tm H tm' H' := by
  unfold Wk
  intro w S κ a hh ht hlen
  have hl := selR_len hents
  have hsel := selR_at hents
  generalize hφ : selMap sel H.length = φ at *
  have φin : ∀ i j, sel[i]? = some j → φ i = j := fun i j hj => by rw [← hφ]; simp [selMap, hj]
  have φout : ∀ i, sel.length ≤ i → φ i = i - sel.length + H.length := fun i hi => by rw [← hφ]; simp [selMap, List.getElem?_eq_none hi]
  have sin : ∀ i, i < sel.length → ∃ j, sel[i]? = some j := fun i hi => ⟨sel[i], by simp [hi]⟩
  have ownL : ∀ i B, ownAt (fun i => κ (φ i)) H' i = some B → ∃ j, sel[i]? = some j ∧ ownAt κ H j = some B := fun i B hi => by
    obtain ⟨e, h1, h2⟩ := ownAt_some hi
    obtain ⟨j, hj⟩ := sin i (by rw [hl]; exact getElem?_lt h1)
    obtain ⟨e', h3, h4⟩ := hsel i j hj
    rw [h1] at h3
    injection h3 with h3
    subst h3
    rw [φin i j hj] at h2
    exact ⟨j, hj, by rw [ownAt_of h4, owns_ren]; exact h2⟩
  have sinj : ∀ i i' j, sel[i]? = some j → sel[i']? = some j → i = i' := fun i i' j h1 h2 => by
    have l1 := getElem?_lt h1
    have l2 := getElem?_lt h2
    rw [List.getElem?_eq_getElem l1] at h1
    rw [List.getElem?_eq_getElem l2] at h2
    exact (List.getElem_inj hnd).1 (by injection h1 with h1; injection h2 with h2; rw [h1, h2])
  refine ⟨fun i => κ (φ i), ⟨fun i e hi => ?_, fun i hi => ?_, fun i B hi => ?_, fun i i' B hi hi' => ?_, hh.sz⟩, fun t => ?_, fun i hi => by show κ (φ i) = κ i; rw [φin i i (hid i hi)], by omega, fun i B hi => ?_, nwB_spec hnw⟩
  · obtain ⟨j, hj⟩ := sin i (by rw [hl]; exact getElem?_lt hi)
    obtain ⟨e', h3, h4⟩ := hsel i j hj
    rw [hi] at h3
    injection h3 with h3
    subst h3
    have := hh.ent j _ h4
    rw [EntR.ren] at this
    rw [φin i j hj]
    exact this
  · show κ (φ i) = .none
    rw [φout i (by omega)]
    exact hh.out _ (by omega)
  · obtain ⟨j, _, h2⟩ := ownL i B hi
    exact hh.own j B h2
  · obtain ⟨j, h1, h2⟩ := ownL i B hi
    obtain ⟨j', h3, h4⟩ := ownL i' B hi'
    have := hh.excl j j' B h2 h4
    subst this
    exact sinj i i' j h1 h3
  · rcases tmR_lk htm t with h | h
    · rw [h]; simp only [AVR]
    · have := ht t
      rw [h, AVR.ren] at this
      exact this
  · obtain ⟨j, _, h2⟩ := ownL i B hi
    exact ⟨j, h2⟩
theorem loop_intro {n0 : Nat} {c : TM → HP → (AEx → TM → HP → Prop) → Prop} {tm : TM} {H : HP} {Q : AEx → TM → HP → Prop} (I : Nat → TM → HP → Prop) (n : Nat) (tm1 : TM) (H1 : HP) (h0 : I n tm1 H1) (hw : Wk n0 tm H tm1 H1)
    (step : ∀ n tm H, I n tm H → c tm H fun e tm H => match e with
      | .normal => ∃ m tm1 H1, m < n ∧ I m tm1 H1 ∧ Wk n0 tm H tm1 H1
      | e => Q e tm H) : LoopSt n0 c tm H Q := by
  unfold LoopSt
  exact ⟨I, ⟨n, tm1, H1, h0, hw⟩, step⟩
/-- A call by its contract, at chosen entries. -/
theorem CallSt.use {P : Program} {f : FuncId} {args args' : List AV} {L H : HP} {Post K : AV → HP → Prop} (h : CallSt P f args' L Post) (sel : List Nat) (hsel : selR (selMap sel H.length) H sel L) (hnd : sel.Nodup)
    (hargs : args = AV.rens (selMap sel H.length) args') (hK : ∀ r L', Post r L' → L.length ≤ L'.length → K (r.ren (selMap sel H.length)) (mergeH sel (selMap sel H.length) L' H)) : CallSt P f args H K :=
  CallSt.frame h sel (selR_len hsel) hnd (selR_at hsel) hargs hK
end Go.Tr
/- The engine, part 25: a contract whose results stay as they are; a nil slice that becomes a row. -/
namespace Go.Tr
/-- The results as they are; what the call made is forgotten. -/
def finT (E : Env) (fn : Func) (K : AV → HP → Prop) : AEx → TM → HP → Prop
  | .exit _, _, _ => False
  | .normal, tm, H => resK E tm H fn.results.toList fun l => tupK l fun r => AV.lt E.n0 r = true ∧ entsLt E.n0 (H.take E.n0) = true ∧ K r (H.take E.n0)
  | .ret, tm, H => resK E tm H fn.results.toList fun l => tupK l fun r => AV.lt E.n0 r = true ∧ entsLt E.n0 (H.take E.n0) = true ∧ K r (H.take E.n0)
section
variable {P : Program} {E : Env}
theorem call_trim (he : EnvOk P E) (hmix : P.follows .mixedOrders = true) {f : FuncId} {fn : Func} {c : Code} (hf : P.funcs[f]? = some fn) (hb : fn.body = some c) (hcb : callable P f = true) (hok : codeOk fn.ntmps c = true)
    {args : List AV} (hlen : Nat.ble args.length fn.ntmps = true) (hargs : argOk args = true) {H : HP} (hn0 : E.n0 = H.length) {K : AV → HP → Prop} (h : aw P E c (argTM 0 args) H (finT E fn K)) : CallSt P f args H K := by
  refine call_any he hmix hf hb hcb hok hlen hargs hn0 ?_ h
  intro e tm' H' S' κ' a' w' κ S w hq hi'
  have main : (resK E tm' H' fn.results.toList fun l => tupK l fun r => AV.lt E.n0 r = true ∧ entsLt E.n0 (H'.take E.n0) = true ∧ K r (H'.take E.n0)) →
      ∃ v r H'' κ'' S'', (results fn a'.tmps).run P w' = .ok v w' ∧ K r H'' ∧ Mem H.length κ w S (fun B => ∃ i, ownAt κ H i = some B) H'' w' S'' κ'' ∧ AVR w'.heap S'' κ'' r v := by
    intro hq
    obtain ⟨l, vs, hk, hl, hr⟩ := resK_spec he hi'.m.hr hi'.tr hq
    obtain ⟨v, x, h1, ⟨h2, h3, h4⟩, h5⟩ := results_run hl hk hr
    have m2 := hi'.m.trim h3
    exact ⟨v, x, _, _, S', h1, h4, by rw [← hn0]; exact m2, AVR.trim (fun i hi => by simp only [hi, if_true]) x h2 h5⟩
  cases e with
  | normal => exact ⟨.inl rfl, main hq⟩
  | ret => exact ⟨.inr rfl, main hq⟩
  | exit n => exact hq.elim
end
theorem Wk.trans {n0 : Nat} {tm tm1 tm2 : TM} {H H1 H2 : HP} (h : Wk n0 tm H tm1 H1) (k : Wk n0 tm1 H1 tm2 H2) : Wk n0 tm H tm2 H2 := by
  unfold Wk at *
  intro w S κ a hh ht hl
  obtain ⟨κ1, a1, a2, a3, a4, a5, a6⟩ := h w S κ a hh ht hl
  obtain ⟨κ2, b1, b2, b3, b4, b5, b6⟩ := k w S κ1 a a1 a2 a4
  refine ⟨κ2, b1, b2, fun i hi => (b3 i hi).trans (a3 i hi), b4, fun i B hB => ?_, b6⟩
  obtain ⟨j, hj⟩ := b5 i B hB
  exact a5 j B hj
theorem AVRs.setNil {h : Array Obj} {S : Nat → Prop} {κ : Nat → Bind} {m : Nat} (hm : κ m = .slc (.slice none 0 0)) : ∀ {l : List AV} {vs : List Value} {j : Nat}, l[j]? = some .nil → AVRs h S κ l vs → AVRs h S κ (l.set j (.own m)) vs
  | [], _, j, hj, _ => by simp at hj
  | x :: xs, vs, 0, hj, hv => by
    simp at hj
    subst hj
    simp only [AVRs, AVR, List.set_cons_zero] at hv ⊢
    obtain ⟨v, r, h1, h2, h3⟩ := hv
    exact ⟨v, r, h1, ⟨by rw [hm, h2], by rw [h2]; rfl⟩, h3⟩
  | x :: xs, vs, j + 1, hj, hv => by
    simp only [AVRs, List.set_cons_succ] at hv ⊢
    obtain ⟨v, r, h1, h2, h3⟩ := hv
    exact ⟨v, r, h1, h2, AVRs.setNil hm (by simpa using hj) h3⟩
/-- A nil slice in a box is an empty row. -/
theorem Wk.nilrow {n0 : Nat} {tm : TM} {H : HP} {i j : Nat} {l : List AV} (el sz byt : Nat) (hi : H[i]? = some (.box l)) (hj : l[j]? = some .nil) (hnw : nwB tm = true) :
    Wk n0 tm H tm (H.set i (.box (l.set j (.own H.length))) ++ [.row el sz byt []]) := by
  unfold Wk
  intro w S κ a hh ht hl
  let κ' : Nat → Bind := fun q => if q = H.length then .slc (.slice none 0 0) else κ q
  have hself : κ' H.length = .slc (.slice none 0 0) := by simp [κ']
  have hlt : ∀ q, q < H.length → κ' q = κ q := fun q hq => by simp only [κ']; rw [if_neg (by omega)]
  have hbind : ∀ q, κ q ≠ .none → κ' q = κ q := fun q hq => by
    simp only [κ']
    rw [if_neg]
    rintro rfl
    exact hq (hh.out _ (Nat.le_refl _))
  have hmono : ∀ B off u, ¬ S B → cellAt w.heap B off = some u → ¬ S B ∧ cellAt w.heap B off = some u := fun B off u h1 h2 => ⟨h1, h2⟩
  have hil := getElem?_lt hi
  have hget : ∀ q e, (H.set i (.box (l.set j (.own H.length))) ++ [.row el sz byt []])[q]? = some e → (q = H.length ∧ e = .row el sz byt []) ∨ (q = i ∧ e = .box (l.set j (.own H.length))) ∨ (q < H.length ∧ q ≠ i ∧ H[q]? = some e) := fun q e hq => by
    rcases Nat.lt_trichotomy q H.length with h | h | h
    · rw [List.getElem?_append_left (by simpa using h)] at hq
      by_cases hqi : q = i
      · subst hqi
        rw [List.getElem?_set_self hil] at hq
        injection hq with hq
        exact .inr (.inl ⟨rfl, hq.symm⟩)
      · rw [List.getElem?_set_ne (Ne.symm hqi)] at hq
        exact .inr (.inr ⟨h, hqi, hq⟩)
    · subst h
      rw [List.getElem?_append_right (by simp)] at hq
      simp at hq
      exact .inl ⟨rfl, hq.symm⟩
    · rw [List.getElem?_append_right (by simp; omega)] at hq
      simp only [List.length_set] at hq
      rw [List.getElem?_eq_none (by simp; omega)] at hq
      cases hq
  have hown : ∀ q B, ownAt κ' (H.set i (.box (l.set j (.own H.length))) ++ [.row el sz byt []]) q = some B → ownAt κ H q = some B := fun q B hq => by
    obtain ⟨e, h1, h2⟩ := ownAt_some hq
    rcases hget q e h1 with ⟨rfl, rfl⟩ | ⟨rfl, rfl⟩ | ⟨h3, _, h4⟩
    · rw [hself] at h2; simp [owns] at h2
    · rw [hlt q hil] at h2
      rw [ownAt_of hi]
      cases hb : κ q <;> rw [hb] at h2 <;> simp [owns] at h2 ⊢ <;> exact h2
    · rw [hlt q h3] at h2
      rw [ownAt_of h4]; exact h2
  refine ⟨κ', ⟨fun q e hq => ?_, fun q hq => ?_, fun q B hq => hh.own q B (hown q B hq), fun q q' B h1 h2 => hh.excl q q' B (hown q B h1) (hown q' B h2), hh.sz⟩, fun t => AVR.mono hmono hbind _ (ht t), fun q hq => hlt q (by omega), by simp; omega, fun q B hq => ⟨q, hown q B hq⟩, nwB_spec hnw⟩
  · rcases hget q e hq with ⟨rfl, rfl⟩ | ⟨rfl, rfl⟩ | ⟨h3, _, h4⟩
    · rw [hself]
      simp only [EntR]
      exact .inr ⟨_, [], rfl, ⟨by simp, .inl ⟨rfl, rfl⟩⟩, by simp, by simp, by simp [CellsV]⟩
    · have := EntR.mono hmono hbind (fun B _ => rfl) (hh.ent q _ hi)
      rw [hlt q hil]
      simp only [EntR] at this ⊢
      rcases this with h | ⟨B, c, el, h1, h2, h3⟩
      · exact .inl h
      · exact .inr ⟨B, c, el, h1, h2, AVRs.setNil hself hj h3⟩
    · rw [hlt q h3]
      exact EntR.mono hmono hbind (fun B _ => rfl) (hh.ent q e h4)
  · simp at hq
    simp only [κ']
    rw [if_neg (by omega)]
    exact hh.out q (by omega)
theorem Wk.nilrow' {n0 : Nat} {tm : TM} {H H' : HP} {l : List AV} (i j el sz byt : Nat) (hi : H[i]? = some (.box l)) (hj : l[j]? = some .nil) (hnw : nwB tm = true)
    (hH : H' = H.set i (.box (l.set j (.own H.length))) ++ [.row el sz byt []]) : Wk n0 tm H tm H' := by
  rw [hH]
  exact Wk.nilrow el sz byt hi hj hnw
end Go.Tr
/- The engine, part 26: a nil slice in a temporary that becomes a row. -/
namespace Go.Tr
/-- A temporary that is nil is an empty row. -/
theorem Wk.niltmp {n0 : Nat} {tm : TM} {H : HP} (t el sz byt : Nat) (ht0 : lk tm t = .nil) (hnw : nwB tm = true) :
    Wk n0 tm H ((t, .own H.length) :: tm) (H ++ [.row el sz byt []]) := by
  unfold Wk
  intro w S κ a hh ht hl
  let κ' : Nat → Bind := fun q => if q = H.length then .slc (.slice none 0 0) else κ q
  have hself : κ' H.length = .slc (.slice none 0 0) := by simp [κ']
  have hlt : ∀ q, q < H.length → κ' q = κ q := fun q hq => by simp only [κ']; rw [if_neg (by omega)]
  have hbind : ∀ q, κ q ≠ .none → κ' q = κ q := fun q hq => by
    simp only [κ']
    rw [if_neg]
    rintro rfl
    exact hq (hh.out _ (Nat.le_refl _))
  have hmono : ∀ B off u, ¬ S B → cellAt w.heap B off = some u → ¬ S B ∧ cellAt w.heap B off = some u := fun B off u h1 h2 => ⟨h1, h2⟩
  have hget : ∀ q e, (H ++ [Ent.row el sz byt []])[q]? = some e → (q = H.length ∧ e = .row el sz byt []) ∨ (q < H.length ∧ H[q]? = some e) := fun q e hq => by
    rcases Nat.lt_trichotomy q H.length with h | h | h
    · rw [List.getElem?_append_left h] at hq
      exact .inr ⟨h, hq⟩
    · subst h
      rw [List.getElem?_append_right (Nat.le_refl _)] at hq
      simp at hq
      exact .inl ⟨rfl, hq.symm⟩
    · rw [List.getElem?_eq_none (by simp; omega)] at hq
      cases hq
  have hown : ∀ q B, ownAt κ' (H ++ [Ent.row el sz byt []]) q = some B → ownAt κ H q = some B := fun q B hq => by
    obtain ⟨e, h1, h2⟩ := ownAt_some hq
    rcases hget q e h1 with ⟨rfl, rfl⟩ | ⟨h3, h4⟩
    · rw [hself] at h2; simp [owns] at h2
    · rw [hlt q h3] at h2
      rw [ownAt_of h4]; exact h2
  refine ⟨κ', ⟨fun q e hq => ?_, fun q hq => ?_, fun q B hq => hh.own q B (hown q B hq), fun q q' B h1 h2 => hh.excl q q' B (hown q B h1) (hown q' B h2), hh.sz⟩, fun q => ?_, fun q hq => hlt q (by omega), by simp; omega, fun q B hq => ⟨q, hown q B hq⟩, nwB_spec (by simpa only [nwB] using hnw)⟩
  · rcases hget q e hq with ⟨rfl, rfl⟩ | ⟨h3, h4⟩
    · rw [hself]
      simp only [EntR]
      exact .inr ⟨_, [], rfl, ⟨by simp, .inl ⟨rfl, rfl⟩⟩, by simp, by simp, by simp [CellsV]⟩
    · rw [hlt q h3]
      exact EntR.mono hmono hbind (fun B _ => rfl) (hh.ent q e h4)
  · simp at hq
    simp only [κ']
    rw [if_neg (by omega)]
    exact hh.out q (by omega)
  · have h1 := ht q
    rw [lk_cons]
    by_cases e : t = q
    · subst e
      rw [ht0] at h1
      simp only [if_true, AVR] at h1 ⊢
      exact ⟨by rw [hself, h1], by rw [h1]; rfl⟩
    · simp only [e, if_false]
      exact AVR.mono hmono hbind _ h1
end Go.Tr
/- The engine, part 27: a drawn region whose orders all come to one state. -/
namespace Go.Tr
theorem draw_wk {P : Program} {E : Env} {ops : Array Oper} {tm : TM} {H : HP} {K : TM → HP → Prop} (tm1 : TM) (H1 : HP) (h : DrawSt P E ops tm H (fun tm' H' => Wk E.n0 tm' H' tm1 H1)) (hk : K tm1 H1) : DrawSt P E ops tm H K := by
  unfold DrawSt at *
  intro N κ0 w0 S0 O0 a w S κ Q he hok hQ hn hi hq
  refine h N κ0 w0 S0 O0 a w S κ Q he hok hQ hn hi ?_
  intro tm' H' S' κ' a' w' hwk hn' hi'
  obtain ⟨hn1, κ1, hi1⟩ := hi'.wk hwk
  exact hq tm1 H1 S' κ1 a' w' hk hn1 hi1
end Go.Tr
/- What is handed in, read as cells: generic. -/
namespace Go.Tr
open Go.ChangeShapes Go.WideShapes Go.ChangeAt Go.RowKit
def noS : Nat → Prop := fun _ => False
theorem choose_list {α : Type} {R : Nat → α → Prop} : ∀ (n : Nat), (∀ i, i < n → ∃ t, R i t) → ∃ ts : List α, ts.length = n ∧ ∀ (i : Nat) t, ts[i]? = some t → R i t
  | 0, _ => ⟨[], rfl, fun i t h => by simp at h⟩
  | n + 1, h => by
    obtain ⟨ts, h1, h2⟩ := choose_list n fun i hi => h i (by omega)
    obtain ⟨t, ht⟩ := h n (by omega)
    refine ⟨ts ++ [t], by simp [h1], fun i u hu => ?_⟩
    rcases Nat.lt_or_ge i ts.length with hi | hi
    · rw [List.getElem?_append_left hi] at hu
      exact h2 i u hu
    · rw [List.getElem?_append_right hi] at hu
      have : i - ts.length = 0 := by
        have := (List.getElem?_eq_some_iff.1 hu).1
        simp at this
        omega
      rw [this] at hu
      simp at hu
      subst hu
      have : i = n := by omega
      subst this
      exact ht
theorem spot_of {w : World} {a : Addr} {v : Value} (h : w.cell? a = some v) : a.spot = none ∧ cellAt w.heap a.block a.off = some v := by
  obtain ⟨B, off, sp⟩ := a
  unfold World.cell? at h
  cases sp with
  | none =>
    refine ⟨rfl, ?_⟩
    simp only [Option.isSome_none, Bool.false_eq_true, if_false] at h
    unfold cellAt
    simp only
    split at h <;> simp_all
  | some q =>
    simp only [Option.isSome_some, if_true] at h
    split at h <;> cases h
theorem add_spot {a : Addr} (h : a.spot = none) (i : Nat) : a.add i = ⟨a.block, a.off + i, none⟩ := by
  obtain ⟨B, off, sp⟩ := a
  simp only at h
  subst h
  exact Addr.add_lit ..
theorem rows_of' {h : Array Obj} {B sz : Nat} : ∀ (es : List (List CV)) (off : Nat), (∀ e ∈ es, e.length = sz) → (∀ (i : Nat) e, es[i]? = some e → ∃ cs, CellsV h noS e cs ∧ ∀ j v, cs[j]? = some v → cellAt h B (off + i * sz + j) = some v) → RowsR h noS es B off
  | [], off, _, _ => by simp [RowsR]
  | t :: r, off, hl, hx => by
    simp only [RowsR]
    obtain ⟨cs, h1, h2⟩ := hx 0 t (by simp)
    refine ⟨CellsR_of h1 (fun h => h) (fun j v hv => by simpa using h2 j v hv), ?_⟩
    rw [hl t (by simp)]
    refine rows_of' r (off + sz) (fun e he => hl e (List.mem_cons_of_mem _ he)) fun i u hu => ?_
    obtain ⟨cs, h1, h2⟩ := hx (i + 1) u (by simpa using hu)
    exact ⟨cs, h1, fun j v hv => by rw [show off + sz + i * sz + j = off + (i + 1) * sz + j by rw [Nat.add_mul]; omega]; exact h2 j v hv⟩
theorem weights_mem {H : Type} {P : Program} {e : TypeId} : ∀ {l : List (DataW H)} {d : DataW H}, d ∈ l → ∀ n ∈ d.weights P e, n ∈ DataW.weightsAll P e l
  | [], d, h, _, _ => by cases h
  | x :: r, d, h, n, hn => by
    simp only [DataW.weightsAll, List.mem_append]
    rcases List.mem_cons.1 h with rfl | h
    · exact .inl hn
    · exact .inr (weights_mem h n hn)
theorem weightsEach_mem {H : Type} {P : Program} : ∀ {ts : List TypeId} {l : List (DataW H)} {i : Nat} {t : TypeId} {d : DataW H}, ts[i]? = some t → l[i]? = some d → ∀ n ∈ d.weights P t, n ∈ DataW.weightsEach P ts l
  | [], _, i, t, d, h, _, _, _ => by simp at h
  | _ :: _, [], i, t, d, _, h, _, _ => by simp at h
  | t' :: ts, d' :: l, 0, t, d, h1, h2, n, hn => by
    simp at h1 h2
    subst h1 h2
    simp only [DataW.weightsEach, List.mem_append]
    exact .inl hn
  | t' :: ts, d' :: l, i + 1, t, d, h1, h2, n, hn => by
    simp only [DataW.weightsEach, List.mem_append]
    exact .inr (weightsEach_mem (i := i) (by simpa using h1) (by simpa using h2) n hn)
theorem weights_slice {H : Type} {P : Program} {t e : TypeId} (ht : P.underlying t = some (.slice e)) (el sp : List (DataW H)) : (DataW.slice el sp).weights P t = (el.length + sp.length) * P.bytesOf e :: (DataW.weightsAll P e el ++ DataW.weightsAll P e sp) := by
  rw [DataW.weights, ht]
theorem weights_struct {H : Type} {P : Program} {t : TypeId} {fs : Array Field} (ht : P.underlying t = some (.struct fs)) (ps : List (DataW H)) : (DataW.agg ps).weights P t = DataW.weightsEach P (fs.toList.map (·.type)) ps := by
  rw [DataW.weights, ht]
theorem cvr_int {h : Array Obj} {S : Nat → Prop} {k : IntKind} {n : Int} : CVR h S (.int k n) (.int k n) := by unfold CVR; rfl
theorem cvr_bool {h : Array Obj} {S : Nat → Prop} {b : Bool} : CVR h S (.bool b) (.bool b) := by unfold CVR; rfl
theorem cvr_str {h : Array Obj} {S : Nat → Prop} {s : ByteArray} : CVR h S (.str s) (.string s) := by unfold CVR; rfl
theorem cv_nil {h : Array Obj} {S : Nat → Prop} : CellsV h S [] [] := by unfold CellsV; rfl
theorem cv_one {h : Array Obj} {S : Nat → Prop} {x : CV} {v : Value} (hx : CVR h S x v) : CellsV h S [x] [v] := by unfold CellsV; exact ⟨v, [], rfl, hx, cv_nil⟩
theorem cv_app {h : Array Obj} {S : Nat → Prop} : ∀ {xs ys : List CV} {vs us : List Value}, CellsV h S xs vs → CellsV h S ys us → CellsV h S (xs ++ ys) (vs ++ us)
  | [], ys, vs, us, h1, h2 => by simp only [CellsV] at h1; subst h1; exact h2
  | x :: xs, ys, vs, us, h1, h2 => by
    simp only [CellsV] at h1
    obtain ⟨v, r, rfl, h3, h4⟩ := h1
    simp only [List.cons_append, CellsV]
    exact ⟨v, _, rfl, h3, cv_app h4 h2⟩
/-- Cells of some types, one behind the other. -/
def ShL (R : TypeId → List CV → Prop) : List TypeId → List CV → Prop
  | [], xs => xs = []
  | T :: Ts, xs => ∃ ys zs, xs = ys ++ zs ∧ R T ys ∧ ShL R Ts zs
/-- Cells that are a value of a type. -/
def Sh (ty : TypeId → TyD) : Nat → TypeId → List CV → Prop
  | 0, _, _ => False
  | n + 1, T, xs => match (ty T).k with
    | .int k => ∃ z, xs = [.int k z] ∧ (Lit.int k z).wf = true
    | .bool => ∃ b, xs = [.bool b]
    | .str => ∃ s : ByteArray, xs = [.str s] ∧ s.size ≤ maxLen
    | .slice e => ∃ es, xs = [.sl (ty e).size (ty e).bytes es] ∧ es.length * (ty e).bytes ≤ 140737488351232 ∧ ∀ r ∈ es, Sh ty n e r
    | .struct fs => ShL (Sh ty n) (fs.map (·.2)) xs
    | _ => False
/-- Fields one behind the other, from a cell on. -/
def contB (ty : TypeId → TyD) : Nat → List (Nat × TypeId) → Nat → Bool
  | o, [], n => decide (o = n)
  | o, (o', T) :: r, n => decide (o = o') && contB ty (o + (ty T).size) r n
/-- A type that is told whole. -/
def cl1 (ty : TypeId → TyD) (L : List TypeId) (T : TypeId) : Bool :=
  match (ty T).k with
    | .int _ => decide ((ty T).size = 1)
    | .bool => decide ((ty T).size = 1)
    | .str => decide ((ty T).size = 1)
    | .slice e => decide ((ty T).size = 1) && L.contains e && decide ((ty e).size ≠ 0)
    | .struct fs => contB ty 0 fs (ty T).size && fs.all (fun f => L.contains f.2)
    | _ => false
theorem cellsOf_ty {P : Program} {T : TypeId} {d : TyD} (h : TyR P T d) : P.cellsOf T = d.size := by
  obtain ⟨i, z, h1, h2, _⟩ := h.info
  unfold Program.cellsOf
  rw [h1]
  exact h2
theorem bytesOf_ty {P : Program} {T : TypeId} {d : TyD} (h : TyR P T d) : P.bytesOf T = d.bytes := by
  obtain ⟨i, z, h1, _, h3, _⟩ := h.info
  unfold Program.bytesOf
  rw [h1]
  exact h3
section
variable {H : Type} {enc : TypeId × Value → H} {P : Program} {E : Env} {W : World} {L : List TypeId}
theorem open_flds (he : EnvOk P E) {W : World} {n : Nat} {ys : List (DataW H × List MemPlace)} {R : TypeId → List CV → Prop} : ∀ (fs : List (Nat × TypeId)) (i o tot : Nat) (cs : List Value), contB E.ty o fs tot = true → cs.length = tot →
    (∀ (j : Nat) f, fs[j]? = some f → (match (E.ty f.2).k with | .unknown => False | _ => True) ∧ ∃ y, ys[i + j]? = some y ∧ DataW.trod enc P W 0 (fun _ => true) true n f.2 ((cs.drop f.1).take (P.cellsOf f.2)) = some y ∧
      ∀ us, DataW.trod enc P W 0 (fun _ => true) true n f.2 us = some y → ∃ xs, R f.2 xs ∧ CellsV W.heap noS xs us) →
    ∃ xs, ShL R (fs.map (·.2)) xs ∧ CellsV W.heap noS xs (cs.drop o)
  | [], i, o, tot, cs, hc, hl, _ => by
    simp only [contB, decide_eq_true_eq] at hc
    exact ⟨[], rfl, by rw [List.drop_eq_nil_of_le (by omega)]; exact cv_nil⟩
  | f :: r, i, o, tot, cs, hc, hl, hx => by
    obtain ⟨o', T⟩ := f
    simp only [contB, Bool.and_eq_true, decide_eq_true_eq] at hc
    obtain ⟨rfl, hc⟩ := hc
    obtain ⟨hk, y, h1, h2, h3⟩ := hx 0 (o, T) (by simp)
    obtain ⟨xs, h4, h5⟩ := h3 _ h2
    obtain ⟨zs, h6, h7⟩ := open_flds he (R := R) r (i + 1) (o + (E.ty T).size) tot cs hc hl fun j f hf => by
      have := hx (j + 1) f (by simpa using hf)
      rwa [show i + 1 + j = i + (j + 1) by omega]
    refine ⟨xs ++ zs, ⟨xs, zs, rfl, h4, h6⟩, ?_⟩
    have hs : cs.drop o = (cs.drop o).take (E.ty T).size ++ cs.drop (o + (E.ty T).size) := by
      rw [← List.drop_drop, List.take_append_drop]
    rw [hs]
    rw [cellsOf_ty (he T hk)] at h5
    exact cv_app h5 h7
theorem open_cv (he : EnvOk P E) (hcl : L.all (cl1 E.ty L) = true) : ∀ (fuel : Nat) {T : TypeId} {cs : List Value} {x : DataW H × List MemPlace}, T ∈ L → DataW.trod enc P W 0 (fun _ => true) true fuel T cs = some x →
    (∀ n ∈ x.1.weights P T, n ≤ reachBytes) → ∃ xs, Sh E.ty fuel T xs ∧ CellsV W.heap noS xs cs ∧ cs.length = (E.ty T).size := by
  intro fuel
  induction fuel using Nat.strongRecOn with
  | _ fuel ih =>
  intro T cs x hT h hw
  have hc := List.all_eq_true.1 hcl T hT
  unfold cl1 at hc
  have hty := he T
  obtain ⟨m, rfl⟩ : ∃ m, fuel = m + 1 := by
    cases fuel with
    | zero => simp [DataW.trod] at h
    | succ m => exact ⟨m, rfl⟩
  simp only [Sh]
  have hund := fun q => (hty q).und
  cases hk : (E.ty T).k with
  | int k =>
    simp only [hk, decide_eq_true_eq] at hc hund
    obtain ⟨z, rfl, rfl, hz⟩ := DataW.trod_int (hund trivial) h
    exact ⟨[.int k z], ⟨z, rfl, hz⟩, cv_one cvr_int, by rw [hc]; rfl⟩
  | bool =>
    simp only [hk, decide_eq_true_eq] at hc hund
    obtain ⟨z, rfl, rfl⟩ := DataW.trod_bool (hund trivial) h
    exact ⟨[.bool z], ⟨z, rfl⟩, cv_one cvr_bool, by rw [hc]; rfl⟩
  | str =>
    simp only [hk, decide_eq_true_eq] at hc hund
    obtain ⟨z, rfl, rfl, hz⟩ := DataW.trod_string (hund trivial) h
    exact ⟨[.str z], ⟨z, rfl, hz⟩, cv_one cvr_str, by rw [hc]; rfl⟩
  | slice e =>
    simp only [hk, Bool.and_eq_true, decide_eq_true_eq] at hc hund
    obtain ⟨⟨hsz, hLe⟩, hez⟩ := hc
    have hLe' : e ∈ L := by simpa using hLe
    have hce := List.all_eq_true.1 hcl e hLe'
    have htye : TyR P e (E.ty e) := he e (by
      unfold cl1 at hce
      split <;> simp_all)
    have ce := cellsOf_ty htye
    have be := bytesOf_ty htye
    have fin : ∀ (es : List (List CV)) v, CVR W.heap noS (.sl (E.ty e).size (E.ty e).bytes es) v → es.length * (E.ty e).bytes ≤ 140737488351232 → (∀ r ∈ es, Sh E.ty m e r) →
        ∃ xs, (∃ es, xs = [.sl (E.ty e).size (E.ty e).bytes es] ∧ es.length * (E.ty e).bytes ≤ 140737488351232 ∧ ∀ r ∈ es, Sh E.ty m e r) ∧ CellsV W.heap noS xs [v] ∧ [v].length = (E.ty T).size :=
      fun es v h1 h2 h3 => ⟨_, ⟨es, rfl, h2, h3⟩, cv_one h1, by rw [hsz]; rfl⟩
    rcases DataW.trod_slice (hund trivial) h with ⟨rfl, rfl⟩ | ⟨a, len, cap, elems, rest, n', hn, rfl, rfl, _, hlc, _, hel, hat2, _, _⟩
    · refine fin [] _ ?_ (by simp) (fun r hr => by cases hr)
      unfold CVR
      exact ⟨none, 0, 0, rfl, rfl, Nat.le_refl _, (by simp), fun e he => absurd he List.not_mem_nil, fun _ => ⟨rfl, rfl⟩, fun ad h => (by cases h)⟩
    · obtain rfl : m = n' := by omega
      rw [weights_slice (hund trivial)] at hw
      have hb : ((elems.map (·.1)).length + (rest.map (·.1)).length) * P.bytesOf e ≤ reachBytes := hw _ (List.mem_cons.2 (.inl rfl))
      rw [be, List.length_map, List.length_map, hel] at hb
      have hb2 : len * (E.ty e).bytes ≤ 140737488351232 := by
        have h9 : reachBytes = 140737488351232 := by decide
        have : len * (E.ty e).bytes ≤ (len + rest.length) * (E.ty e).bytes := Nat.mul_le_mul_right _ (by omega)
        omega
      obtain ⟨es, ht1, ht2⟩ := choose_list (R := fun i r => ∃ cs, W.cells? 0 (a.add (i * (E.ty e).size)) (E.ty e).size = some cs ∧ CellsV W.heap noS r cs ∧ Sh E.ty m e r ∧ r.length = (E.ty e).size) len fun i hi => by
        have h4 := hat2 i hi
        rw [ce] at h4
        have hil : i < elems.length := by omega
        rw [List.getElem?_eq_getElem hil, Option.bind_eq_some_iff] at h4
        obtain ⟨cs, h5, h6⟩ := h4
        obtain ⟨r, hr1, hr2, hr3⟩ := ih m (by omega) hLe' h6 (fun q hq => hw q (List.mem_cons_of_mem _ (List.mem_append.2 (.inl (weights_mem (d := elems[i].1) (List.mem_map.2 ⟨_, List.getElem_mem hil, rfl⟩) q hq)))))
        exact ⟨r, cs, h5, hr2, hr1, by rw [← hr2.len, hr3]⟩
      have hsizes : ∀ r ∈ es, r.length = (E.ty e).size := fun r hr => by
        obtain ⟨i, hi⟩ := List.mem_iff_getElem?.1 hr
        obtain ⟨_, _, _, _, h⟩ := ht2 i r hi
        exact h
      refine fin es _ ?_ (by rw [ht1]; exact hb2) (fun r hr => ?_)
      · unfold CVR
        refine ⟨some a, len, cap, rfl, ht1.symm, hlc, by rw [ht1]; omega, hsizes, fun h => (by cases h), fun ad had => ?_⟩
        injection had with had
        subst had
        by_cases hz2 : es = []
        · exact .inl hz2
        · right
          have key : ∀ (i : Nat) t, es[i]? = some t → ∃ cs, CellsV W.heap noS t cs ∧ ∀ j v, cs[j]? = some v → W.cell? ((a.add (i * (E.ty e).size)).add j) = some v := fun i t hi => by
            obtain ⟨cs, h5, h6, _⟩ := ht2 i t hi
            obtain ⟨_, h7, h8⟩ := World.cells?_some h5
            exact ⟨cs, h6, fun j v hv => by rw [h8 j (by have := (List.getElem?_eq_some_iff.1 hv).1; omega)]; exact hv⟩
          have hsp : a.spot = none := by
            have h0 : 0 < es.length := List.length_pos_iff.2 hz2
            obtain ⟨cs, h5, h6⟩ := key 0 es[0] (by simp)
            have h7 := h5.len
            rw [hsizes _ (List.getElem_mem h0)] at h7
            have h8 := h6 0 (cs[0]'(by omega)) (List.getElem?_eq_getElem (by omega))
            simpa [Addr.add] using (spot_of h8).1
          refine ⟨hsp, rows_of' es a.off hsizes fun i t hi => ?_⟩
          obtain ⟨cs, h5, h6⟩ := key i t hi
          refine ⟨cs, h5, fun j v hv => ?_⟩
          have h7 := h6 j v hv
          rw [add_spot hsp, Addr.add_lit] at h7
          exact (spot_of h7).2
      · obtain ⟨i, hi⟩ := List.mem_iff_getElem?.1 hr
        obtain ⟨_, _, _, h, _⟩ := ht2 i r hi
        exact h
  | struct fs =>
    simp only [hk, Bool.and_eq_true] at hc hund
    obtain ⟨F, hF, hfs, hF2⟩ := hund trivial
    obtain ⟨ys, n, hn, rfl, hcl2, hyl, hat⟩ := DataW.trod_struct hF h
    obtain rfl : m = n := by omega
    have hsz := cellsOf_ty (hty (by rw [hk]; trivial))
    rw [weights_struct hF] at hw
    obtain ⟨xs, h1, h2⟩ := open_flds (enc := enc) (n := m) (ys := ys) (R := Sh E.ty m) he (W := W) fs 0 0 (E.ty T).size cs hc.1 (by rw [hcl2, hsz]) fun j f hf => by
      have hfL : f.2 ∈ L := by
        have := List.all_eq_true.1 hc.2 f (List.mem_of_getElem? hf)
        simpa using this
      have hcf := List.all_eq_true.1 hcl f.2 hfL
      have hkf : (match (E.ty f.2).k with | .unknown => False | _ => True) := by
        unfold cl1 at hcf
        split <;> simp_all
      rw [hfs, List.getElem?_map, Option.map_eq_some_iff] at hf
      obtain ⟨g, hg, rfl⟩ := hf
      have hg' : F[j]? = some g := by simpa using hg
      have hj : j < ys.length := by rw [hyl]; exact (Array.getElem?_eq_some_iff.1 hg').1
      refine ⟨hkf, ys[j], by simp, by rw [hat j g hg']; simp [hj], fun us hus => ?_⟩
      obtain ⟨xs, h1, h2, _⟩ := ih m (by omega) hfL hus fun q hq => hw q (weightsEach_mem (i := j) (t := g.type) (d := ys[j].1) (by rw [List.getElem?_map, hg]; rfl) (by rw [List.getElem?_map, List.getElem?_eq_getElem hj]; rfl) q hq)
      exact ⟨xs, h1, h2⟩
    exact ⟨xs, h1, by simpa using h2, by rw [hcl2, hsz]⟩
  | _ => simp [hk] at hc
/-- The value that cells make. -/
def avOf (k : TK) (xs : List CV) : AV :=
  match k with
  | .struct _ => .agg (xs.map .c)
  | _ => match xs with | [x] => .c x | _ => .top
theorem avrs_cv {h : Array Obj} {S : Nat → Prop} {κ : Nat → Bind} : ∀ (xs : List CV) (vs : List Value), CellsV h S xs vs → AVRs h S κ (xs.map .c) vs
  | [], vs, hv => by simp only [CellsV] at hv; simpa only [List.map_nil, AVRs] using hv
  | x :: r, vs, hv => by
    simp only [CellsV] at hv
    obtain ⟨v, q, rfl, h1, h2⟩ := hv
    simp only [List.map_cons, AVRs, AVR]
    exact ⟨v, q, rfl, h1, avrs_cv r q h2⟩
theorem open_arg (he : EnvOk P E) (hcl : L.all (cl1 E.ty L) = true) {T : TypeId} {v : Value} {d : DataW H} {ps : List MemPlace} {base : Nat} (hT : T ∈ L) (hval : Value.okWide P W .any base T v) (h : DataW.Trod enc P W 0 (fun _ => true) true T v d ps)
    (hw : ∀ n ∈ d.weights P T, n ≤ reachBytes) : ∃ fuel xs, Sh E.ty fuel T xs ∧ AVR W.heap noS (fun _ => .none) (avOf (E.ty T).k xs) v := by
  obtain ⟨fuel, hf⟩ := h
  obtain ⟨xs, h1, h2, _⟩ := open_cv he hcl fuel hT hf hw
  refine ⟨fuel, xs, h1, ?_⟩
  have hc := List.all_eq_true.1 hcl T hT
  unfold cl1 at hc
  have hund := fun q => (he T q).und
  have one : ∀ u, v = u → v.cells.toList = [v] → ∀ y, xs = [y] → AVR W.heap noS (fun _ => .none) (.c y) v := by
    intro u hu hv y hy
    rw [hv, hy] at h2
    simp only [CellsV] at h2
    obtain ⟨v', r, h3, h4, h5⟩ := h2
    obtain rfl := (List.cons.inj h3).1
    simpa only [AVR] using h4
  cases fuel with
  | zero => simp only [Sh] at h1
  | succ m =>
  simp only [Sh] at h1
  cases hk : (E.ty T).k with
  | int k =>
    simp only [hk] at hund h1
    obtain ⟨n, rfl⟩ := okWide_int (hund trivial) hval
    obtain ⟨z, rfl, _⟩ := h1
    exact one _ rfl rfl _ rfl
  | bool =>
    simp only [hk] at hund h1
    obtain ⟨n, rfl⟩ := okWide_bool (hund trivial) hval
    obtain ⟨z, rfl⟩ := h1
    exact one _ rfl rfl _ rfl
  | str =>
    simp only [hk] at hund h1
    obtain ⟨n, rfl⟩ := okWide_string (hund trivial) hval
    obtain ⟨z, rfl, _⟩ := h1
    exact one _ rfl rfl _ rfl
  | slice e =>
    simp only [hk] at hund h1
    obtain ⟨a, b, c, rfl⟩ := okWide_slice (hund trivial) hval
    obtain ⟨z, rfl, _⟩ := h1
    exact one _ rfl rfl _ rfl
  | struct fs =>
    simp only [hk] at hund
    obtain ⟨F, hF, _, _⟩ := hund trivial
    unfold Value.okWide at hval
    rw [hF] at hval
    obtain ⟨cs, rfl, _⟩ := hval
    simp only [avOf, AVR]
    exact ⟨cs, rfl, avrs_cv xs _ h2⟩
  | _ => simp [hk] at hc
/-- A law's call, from what is handed in. -/
theorem below_of {w w' : World} {S S' O : Nat → Prop} (h : FrameR w S O w' S') (hO : ∀ B, ¬ O B) : Below w.heap.size w w' :=
  ⟨h.os, h.tape, h.output, h.size, fun k hk => h.keep k hk (hO k)⟩
theorem law_calls {f : FuncId} {args : List AV} {W : World} {vs : List Value} (h : CallSt P f args [] (fun r H' => r = .c (.bool true) ∧ H' = [])) (hv : AVRs W.heap noS (fun _ => .none) args vs) :
    Calls P f vs.toArray W fun e W' => e = .returned (.bool true) ∧ Below W.heap.size W W' := by
  unfold CallSt at h
  have hh : HR W.heap noS (fun _ => .none) [] := ⟨fun i e hi => by simp at hi, fun _ _ => rfl, fun i B hi => by simp [ownAt] at hi, fun i j B hi => by simp [ownAt] at hi, fun B hB => hB.elim⟩
  refine (h.2 W noS _ vs hh hv).mono ?_
  rintro e w' ⟨v, r, H', κ', S', rfl, ⟨rfl, rfl⟩, m, hr⟩
  simp only [AVR, CVR] at hr
  subst hr
  exact ⟨rfl, below_of m.fr fun B ⟨i, hi⟩ => by simp [ownAt] at hi⟩
end
section
variable {ty : TypeId → TyD} {n : Nat} {T : TypeId} {xs : List CV}
theorem sh_int {k : IntKind} (hk : (ty T).k = .int k) (h : Sh ty n T xs) : ∃ z, xs = [.int k z] ∧ (Lit.int k z).wf = true := by
  cases n with
  | zero => simp only [Sh] at h
  | succ m => simpa only [Sh, hk] using h
theorem sh_bool (hk : (ty T).k = .bool) (h : Sh ty n T xs) : ∃ b, xs = [.bool b] := by
  cases n with
  | zero => simp only [Sh] at h
  | succ m => simpa only [Sh, hk] using h
theorem sh_str (hk : (ty T).k = .str) (h : Sh ty n T xs) : ∃ s : ByteArray, xs = [.str s] ∧ s.size ≤ maxLen := by
  cases n with
  | zero => simp only [Sh] at h
  | succ m => simpa only [Sh, hk] using h
theorem sh_slice {e : TypeId} (hk : (ty T).k = .slice e) (h : Sh ty n T xs) : ∃ m es, n = m + 1 ∧ xs = [.sl (ty e).size (ty e).bytes es] ∧ es.length * (ty e).bytes ≤ 140737488351232 ∧ ∀ r ∈ es, Sh ty m e r := by
  cases n with
  | zero => simp only [Sh] at h
  | succ m =>
    simp only [Sh, hk] at h
    obtain ⟨es, h1, h2⟩ := h
    exact ⟨m, es, rfl, h1, h2⟩
theorem sh_struct {fs : List (Nat × TypeId)} (hk : (ty T).k = .struct fs) (h : Sh ty n T xs) : ∃ m, n = m + 1 ∧ ShL (Sh ty m) (fs.map (·.2)) xs := by
  cases n with
  | zero => simp only [Sh] at h
  | succ m =>
    simp only [Sh, hk] at h
    exact ⟨m, rfl, h⟩
theorem map_choose {α β : Type} {f : α → β} : ∀ (es : List β), (∀ r ∈ es, ∃ t, r = f t) → ∃ ts : List α, es = ts.map f
  | [], _ => ⟨[], rfl⟩
  | e :: r, h => by
    obtain ⟨t, rfl⟩ := h e (by simp)
    obtain ⟨ts, rfl⟩ := map_choose r fun x hx => h x (List.mem_cons_of_mem _ hx)
    exact ⟨t :: ts, rfl⟩
end
end Go.Tr
