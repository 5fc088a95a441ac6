/- The engine: abstract values and states, and that the evaluator says what the model does. -/
import Derived.OrdersHeld
import Derived.KernelRfl
import Derived.RecoverIn
import Derived.Test.YtkkbapgekkhlhaaGreatTrX94169d8f
set_option linter.unusedVariables false
set_option linter.unusedSimpArgs false
set_option linter.unnecessarySimpa false
set_option linter.constructorNameAsVariable false
set_option autoImplicit false
/- The engine, part 12w: one operation, a region, in a frame of whatever round. -/
namespace Go.Tr
def Fr (r : Option Nat) : Fence := { Fence.wide with round := r }
theorem fenced_Fr (P : Program) (r : Option Nat) (m : Machine) : m.fenced P (Fr r) := by
 have h := fenced_wide P m
 unfold Machine.fenced at *
 exact h
theorem stepsIn_Fr {P : Program} {r r' : Option Nat} {m m' : Machine} (h : StepsIn (Machine.fenced P (Fr r)) P m m') : StepsIn (Machine.fenced P (Fr r')) P m m' := by
 have e : Machine.fenced P (Fr r) = Machine.fenced P (Fr r') := by
  funext m
  exact propext ⟨fun _ => fenced_Fr P r' m, fun _ => fenced_Fr P r m⟩
 rw [← e]
 exact h
theorem comesIn_Fr {P : Program} {r r' : Option Nat} {m m' : Machine} {e : Ending} (h : ComesIn (Machine.fenced P (Fr r)) P m m' e) : ComesIn (Machine.fenced P (Fr r')) P m m' e := by
 cases e with
 | returned v => exact stepsIn_Fr h
 | panicked c => exact stepsIn_Fr h
 | outgrown => exact h
theorem callsIn_Fr {r r' : Option Nat} {n n' : Nat} {P : Program} {f : FuncId} {args : Array Value} {w : World} {R : Ending → World → Prop} (h : CallsIn (Fr r) n P f args w R) : CallsIn (Fr r') n' P f args w R :=
 ⟨trivial, fun cs _ => let ⟨e, w', fr, a, b, c⟩ := h.2 cs (fun d hd => by cases hd); ⟨e, w', fr, a, comesIn_Fr b, c⟩⟩
theorem callsIn_calls {r : Option Nat} {n : Nat} {P : Program} {f : FuncId} {args : Array Value} {w : World} {R : Ending → World → Prop} : CallsIn (Fr r) n P f args w R ↔ Calls P f args w R :=
 ⟨fun h => callsIn_wide (n := n).1 (callsIn_Fr (r' := none) h), fun h => callsIn_Fr (r := none) (n := n) (callsIn_wide.2 h)⟩
theorem rowsIn_Fr {r r' : Option Nat} {n n' : Nat} {P : Program} {row : String} {args : Array Value} {w : World} {R : Value → World → Prop} (h : RowsIn (Fr r) n P row args w R) : RowsIn (Fr r') n' P row args w R :=
 fun c cs _ => let ⟨v, w', a, b⟩ := h c cs (fun d hd => by cases hd); ⟨v, w', a, stepsIn_Fr b⟩
theorem roundIn_Fr {r r' : Option Nat} {n n' : Nat} {P : Program} {l : Nat} {f : FuncId} {tmps : Array Value} {asg body : Code} {w : World} {R : Ending → World → Prop} (h : RoundIn (Fr r) n P l f tmps asg body w R) : RoundIn (Fr r') n' P l f tmps asg body w R :=
 ⟨trivial, fun c cs _ => let ⟨e, w', a, b⟩ := h.2 c cs (fun d hd => by cases hd); ⟨e, w', a, comesIn_Fr b⟩⟩
section
variable {P : Program} {ops : Array Oper} {Q : Exit → Act → World → Prop}
def OpW (P : Program) (o : Oper) (a : Act) (w : World) (K : Act → World → Prop) (Q : Exit → Act → World → Prop) : Prop :=
 (∀ c, o.op ≠ .defer c) ∧ o.uponIn (Fr none) 0 P a K Q ((execOp a.eval o).run P w)
theorem uponIn_mono {F : Fence} {n : Nat} {o : Oper} {a : Act} {K K' : Act → World → Prop} {r : Result Next} (h : ∀ a w, K a w → K' a w) (hh : o.uponIn F n P a K Q r) : o.uponIn F n P a K' Q r := by
 cases r with
 | ok x w' =>
  cases x <;> simp only [Oper.uponIn] at hh ⊢ <;>
   first
    | exact h _ _ hh
    | exact ⟨hh.1, CallsIn.mono hh.2 (fun e w'' he => by cases e <;> first | exact h _ _ he | exact he)⟩
    | exact ⟨hh.1, RowsIn.mono hh.2 (fun _ _ he => h _ _ he)⟩
    | exact ⟨hh.1, RoundIn.mono hh.2 (fun e w'' he => by cases e <;> first | exact h _ _ he | exact he)⟩
 | halt x w' => cases x <;> simp only [Oper.uponIn] at hh ⊢ <;> exact hh
theorem OpW.mono {o : Oper} {a : Act} {w : World} {K K' : Act → World → Prop} (h : ∀ a w, K a w → K' a w) (hh : OpW P o a w K Q) : OpW P o a w K' Q := ⟨hh.1, uponIn_mono h hh.2⟩
theorem uponIn_Fr {r r' : Option Nat} {n n' : Nat} {o : Oper} {a : Act} {K : Act → World → Prop} {x : Result Next} (hh : o.uponIn (Fr r) n P a K Q x) : o.uponIn (Fr r') n' P a K Q x := by
 cases x with
 | ok y w' =>
  cases y <;> simp only [Oper.uponIn] at hh ⊢ <;>
   first
    | exact hh
    | exact ⟨fun h => (by cases h), callsIn_Fr hh.2⟩
    | exact ⟨fun h => (by cases h), rowsIn_Fr hh.2⟩
    | exact ⟨fun h => (by cases h), roundIn_Fr hh.2⟩
 | halt y w' => cases y <;> simp only [Oper.uponIn] at hh ⊢ <;> exact hh
theorem OpW.wpIn {r : Option Nat} {n : Nat} {o : Oper} {a : Act} {w : World} {K : Act → World → Prop} (h : OpW P o a w K Q) : o.wpIn (Fr r) n P a w K Q := by
 refine ⟨fun f _ => trivial, ?_⟩
 rw [Oper.semAt_eq _ _ _ h.1]
 exact uponIn_Fr h.2
def wpListW (P : Program) (ops : Array Oper) (Q : Exit → Act → World → Prop) : List Oper → Act → World → Prop
 | [], a, w => Q .normal a w
 | o :: rest, a, w => if Region.wanted o (yielded ops a.tmps) then OpW P o a w (wpListW P ops Q rest) Q else wpListW P ops Q rest (a.put o.dst undef) w
theorem wpListW.wpIn {r : Option Nat} {n : Nat} : ∀ {l : List Oper} {a : Act} {w : World}, wpListW P ops Q l a w → wpListIn (Fr r) n P ops Q l a w
 | [], _, _, h => h
 | o :: l, a, w, h => by
  unfold wpListW at h
  unfold wpListIn
  split
  ·rename_i hw
   rw [if_pos hw] at h
   exact Oper.wpIn_mono (fun a w h => wpListW.wpIn h) h.wpIn
  ·rename_i hw
   rw [if_neg hw] at h
   exact ⟨fun _ _ => trivial, wpListW.wpIn h⟩
def wpOpW (P : Program) (ops : Array Oper) (Q : Exit → Act → World → Prop) (i : Nat) (K : Act → World → Prop) (a : Act) (w : World) : Prop :=
 match ops[i]? with
 | none => K a w
 | some o => if Region.wanted o (yielded ops a.tmps) then OpW P o a w K Q else K (a.put o.dst undef) w
theorem wpOpW_mono {i : Nat} {a : Act} {w : World} {K K' : Act → World → Prop} (h : ∀ a w, K a w → K' a w) (hh : wpOpW P ops Q i K a w) : wpOpW P ops Q i K' a w := by
 unfold wpOpW at *
 split
 ·exact h _ _ (by simpa [*] using hh)
 ·rename_i o ho
  simp only [ho] at hh
  split
  ·rename_i hw; simp only [hw, if_true] at hh; exact hh.mono h
  ·rename_i hw; simp only [hw] at hh; exact h _ _ hh
def wpAnyW (P : Program) (md : Region.Mode) (ops : Array Oper) (Q : Exit → Act → World → Prop) : Nat → Array Bool → Act → World → Prop
 | 0, listed, a, w => Region.ready md ops listed = [] ∧ Q .normal a w
 | fuel + 1, listed, a, w =>
  (Region.ready md ops listed = [] → Q .normal a w) ∧
  ∀ i ∈ Region.ready md ops listed, wpOpW P ops Q i (wpAnyW P md ops Q fuel (listed.setIfInBounds i true)) a w
theorem wpOpW.wpIn {r : Option Nat} {n i : Nat} {a : Act} {w : World} {K : Act → World → Prop} (h : wpOpW P ops Q i K a w) : wpOpIn (Fr r) n P ops Q i K a w := by
 unfold wpOpW at h
 unfold wpOpIn
 split
 ·rename_i ho
  simp only [ho] at h
  exact h
 ·rename_i o ho
  simp only [ho] at h
  split
  ·rename_i hw; simp only [hw, if_true] at h; exact h.wpIn
  ·rename_i hw; simp only [hw] at h; exact ⟨fun _ _ => trivial, h⟩
theorem wpAnyW.wpIn {r : Option Nat} {n : Nat} {md : Region.Mode} : ∀ {k : Nat} {L : Array Bool} {a : Act} {w : World}, wpAnyW P md ops Q k L a w → wpAnyIn (Fr r) n P md ops Q k L a w
 | 0, _, _, _, h => h
 | k + 1, _, _, _, h => ⟨h.1, fun i hi => wpOpIn_mono (fun a w h => wpAnyW.wpIn h) (h.2 i hi).wpIn⟩
variable {S : World → Prop}
theorem yieldsIf_wpOpW {i : Nat} {o : Oper} {v : Value} {a : Act} (hnd : ∀ c, o.op ≠ .defer c) (hi : ops[i]? = some o) (hy : YieldsIf P ops S o v a)
  {K : Act → World → Prop} {w : World} (hS : S w) (h : K (a.put o.dst v) w) : wpOpW P ops Q i K a w := by
 unfold wpOpW
 simp only [hi]
 rcases hy with ⟨hw, hv⟩ | ⟨hw, rfl⟩
 ·simp only [hw, if_true, OpW, hv w hS, Oper.uponIn]; exact ⟨hnd, h⟩
 ·simp only [hw, Bool.false_eq_true, if_false]; exact h
theorem wpOpW_putIf {j : Nat} {oi oj : Oper} {v : Value} (hj : ops[j]? = some oj) (hap : oi.apart ops oj = true)
  (hsi : ∀ cs b, oi.op ≠ .select cs b) (hsj : ∀ cs b, oj.op ≠ .select cs b)
  (hQ : ∀ c a w, Q (.panic c) (a.put oi.dst v) w → Q (.panic c) a w) {K : Act → World → Prop} {a : Act} {w : World}
  (hy : YieldsIf P ops S oi v a) (h : wpOpW P ops Q j K (a.put oi.dst v) w) :
  wpOpW P ops Q j (fun a' w' => YieldsIf P ops S oi v a' ∧ K (a'.put oi.dst v) w') a w := by
 obtain ⟨h1, h2, h3⟩ := Oper.apart_spec hap
 have keep : ∀ (a : Act), YieldsIf P ops S oi v a → ∀ u, YieldsIf P ops S oi v (a.put oj.dst u) := fun a hy u =>
  hy.of_same (execOp_put oi hsi a oj.dst u h3) (wanted_put oi a oj.dst u h3)
 have keepD : ∀ d, YieldsIf P ops S oi v { a with defers := d :: a.defers } := fun d => hy.of_same rfl rfl
 unfold wpOpW at *
 simp only [hj] at *
 rw [wanted_put oj a oi.dst v h1] at h
 split
 ·rename_i hw
  simp only [hw, if_true] at h
  obtain ⟨hnd, h⟩ := h
  refine ⟨hnd, ?_⟩
  rw [execOp_put oj hsj a oi.dst v h1] at h
  generalize (execOp a.eval oj).run P w = r at *
  cases r with
  | ok n w' =>
   cases n <;> simp only [Oper.uponIn] at h ⊢
   case value u => exact ⟨keep a hy u, by rw [← Act.put_comm a v u h2]; exact h⟩
   case skip => exact ⟨keep a hy _, by rw [← Act.put_comm a v undef h2]; exact h⟩
   case defer d =>
    refine ⟨keep _ (keepD d) _, ?_⟩
    rw [← Act.put_comm _ v undef h2, ← Act.put_defers]
    exact h
   case enter f args =>
    refine ⟨h.1, CallsIn.mono h.2 fun e w'' he => ?_⟩
    cases e with
    | returned u => exact ⟨keep a hy u, by rw [← Act.put_comm a v u h2]; exact he⟩
    | panicked c => exact hQ _ _ _ he
    | outgrown => exact he
   case row row args => exact ⟨h.1, RowsIn.mono h.2 fun u w'' he => ⟨keep a hy u, by rw [← Act.put_comm a v u h2]; exact he⟩⟩
   case round l f tmps asg body =>
    refine ⟨h.1, RoundIn.mono h.2 fun e w'' he => ?_⟩
    cases e with
    | returned u => exact ⟨keep a hy u, by rw [← Act.put_comm a v u h2]; exact he⟩
    | panicked c => exact hQ _ _ _ he
    | outgrown => exact he
  | halt x w' =>
   cases x <;> simp only [Oper.uponIn] at h ⊢
   case panic u => exact hQ _ _ _ h
 ·rename_i hw
  simp only [hw] at h
  exact ⟨keep a hy _, by rw [← Act.put_comm a v undef h2]; exact h⟩
end
theorem aop_nd {P : Program} {E : Env} {o : Oper} {ch : Ch} {g : Bool} {tm : TM} {H : HP} {K : TM → HP → Prop} (hk : aop P E o ch g tm H K) : ∀ c, o.op ≠ .defer c := by
 intro c h
 unfold aop at hk
 rw [h] at hk
 exact hk
end Go.Tr
/- The engine, part 13: operations that turn memory; a region in the order of its text. -/
namespace Go.Tr
theorem callK_spec {P : Program} {E : Env} {tm : TM} {f : FuncId} {args : List AV} {H : HP} {K : AV → HP → Prop} {w : World} {S : Nat → Prop} {κ : Nat → Bind} {vs : List Value} (hh : HR w.heap S κ H) (hvs : AVRs w.heap S κ args vs) (hk : callK P E tm f args H K) :
  callable P f = true ∧ Calls P f vs.toArray w fun e w' => (∃ v r H' κ' S', e = .returned v ∧ K r H' ∧ Mem H.length κ w S (fun B => ∃ i, ownAt κ H i = some B) H' w' S' κ' ∧ AVR w'.heap S' κ' r v) ∨
   ∃ ts KP x V H' κ' S', E.pan = some (ts, KP) ∧ e = .panicked [{ v := V, recovered := false }] ∧ KP x (ts.map (lk tm)) H' ∧ Mem H.length κ w S (fun B => ∃ i, ownAt κ H i = some B) H' w' S' κ' ∧ CVR w'.heap S' x V := by
 unfold callK at hk
 split at hk
 ·unfold CallSt at hk
  exact ⟨hk.1, (hk.2 w S κ vs hh hvs).mono fun e w' h => .inl h⟩
 ·rename_i ts KP hpan
  unfold CallPt at hk
  refine ⟨hk.1, (hk.2 w S κ vs hh hvs).mono fun e w' h => ?_⟩
  rcases h with h | ⟨x, V, H', κ', S', h1, h2, h3, h4⟩
  ·exact .inl h
  ·exact .inr ⟨ts, KP, x, V, H', κ', S', hpan, h1, h2, h3, h4⟩
structure Inv (n0 : Nat) (N : Nat × List Deferred) (κ0 : Nat → Bind) (w0 : World) (S0 O0 : Nat → Prop) (tm : TM) (H : HP) (a : Act) (w : World) (S : Nat → Prop) (κ : Nat → Bind) : Prop where
 m : Mem n0 κ0 w0 S0 O0 H w S κ
 tr : TR w.heap S κ tm a
 df : a.defers = N.2
 sz : a.tmps.size = N.1
def notWhen : AV → Prop
 | .when _ _ _ => False
 | _ => True
theorem dstK_spec {tm : TM} {ch : Ch} {g : Bool} {dst : Option Nat} {v : AV} {K : TM → Prop} (hk : dstK tm ch g dst v K) :
  notWhen v ∧ ((dst = none ∧ K tm) ∨ ∃ d, dst = some d ∧ ((ch = [] ∧ K ((d, v) :: tm)) ∨ ∃ x r, ch = x :: r ∧ K ((d, .when (x :: r) g v) :: tm))) := by
 unfold dstK at hk
 split at hk
 ·exact hk.elim
 ·rename_i hn
  refine ⟨by cases v <;> simp [notWhen] at *, ?_⟩
  split at hk
  ·exact .inl ⟨rfl, hk⟩
  ·split at hk
   ·exact .inr ⟨_, rfl, .inl ⟨rfl, hk⟩⟩
   ·exact .inr ⟨_, rfl, .inr ⟨_, _, rfl, hk⟩⟩
section
variable {P : Program} {E : Env} {n0 : Nat} {N : Nat × List Deferred} {κ0 : Nat → Bind} {w0 w : World} {S0 O0 S : Nat → Prop} {H : HP} {κ : Nat → Bind} {tm : TM} {a : Act}
theorem getD_put (a : Act) (d t : Nat) (u : Value) (hd : d < a.tmps.size) : (a.put (some d) u).tmps.getD t undef = if d = t then u else a.tmps.getD t undef := by
 simp only [Act.put]
 rw [Array.getD_eq_getD_getElem?, Array.getD_eq_getD_getElem?, Array.getElem?_setIfInBounds]
 by_cases h : d = t
 ·subst h; simp [hd]
 ·simp [h]
theorem TR.put {h : Array Obj} (ht : TR h S κ tm a) {d : Nat} {v : AV} {u : Value} (hd : d < a.tmps.size) (hv : AVR h S κ v u) : TR h S κ ((d, v) :: tm) (a.put (some d) u) := by
 intro t
 rw [lk_cons, getD_put a d t u hd]
 by_cases h : d = t
 ·simp only [h, if_true]; exact hv
 ·simp only [h, if_false]; exact ht t
theorem Inv.put (hi : Inv n0 N κ0 w0 S0 O0 tm H a w S κ) {d : Nat} {v : AV} {u : Value} (hd : d < N.1) (hv : AVR w.heap S κ v u) : Inv n0 N κ0 w0 S0 O0 ((d, v) :: tm) H (a.put (some d) u) w S κ :=
 ⟨hi.m, hi.tr.put (by rw [hi.sz]; exact hd) hv, hi.df, by simp [Act.put, hi.sz]⟩
theorem Inv.step (hi : Inv n0 N κ0 w0 S0 O0 tm H a w S κ) {H' : HP} {w' : World} {S' : Nat → Prop} {κ' : Nat → Bind} (hm : Mem n0 κ0 w0 S0 O0 H' w' S' κ') (he : Ext w S κ w' S' κ') : Inv n0 N κ0 w0 S0 O0 tm H' a w' S' κ' :=
 ⟨hm, he.tr hi.tr, hi.df, hi.sz⟩
theorem Mem.trans (hm : Mem n0 κ0 w0 S0 O0 H w S κ) {H' : HP} {w' : World} {S' : Nat → Prop} {κ' : Nat → Bind} (h : Mem H.length κ w S (fun B => ∃ i, ownAt κ H i = some B) H' w' S' κ') :
  Mem n0 κ0 w0 S0 O0 H' w' S' κ' ∧ Ext w S κ w' S' κ' := by
 refine ⟨⟨h.hr, ⟨h.fr.os.trans hm.fr.os, h.fr.tape.trans hm.fr.tape, h.fr.output.trans hm.fr.output, Nat.le_trans hm.fr.size h.fr.size, fun B hB hO => ?_, fun B hB hS => ?_, fun B hB hS hO => ?_⟩, fun i hi => ?_, Nat.le_trans hm.len h.len, fun i B hi hB => ?_⟩, ⟨fun B off v h1 h2 => ?_, fun i hi => ?_⟩⟩
 ·rw [h.fr.keep B (Nat.lt_of_lt_of_le hB hm.fr.size) (fun ⟨i, hi⟩ => hO (hm.ow i B hi hB))]
  exact hm.fr.keep B hB hO
 ·exact hm.fr.shut B hB (h.fr.shut B (Nat.lt_of_lt_of_le hB hm.fr.size) hS)
 ·exact h.fr.held B (Nat.lt_of_lt_of_le hB hm.fr.size) (hm.fr.held B hB hS hO) (fun ⟨i, hi⟩ => hO (hm.ow i B hi hB))
 ·rw [h.kp i (Nat.lt_of_lt_of_le hi hm.len)]; exact hm.kp i hi
 ·obtain ⟨j, hj⟩ := h.ow i B hi (Nat.lt_of_lt_of_le hB hm.fr.size)
  exact hm.ow j B hj hB
 ·have hlt := cellAt_lt h2
  refine ⟨fun hS => h1 (h.fr.shut B hlt hS), ?_⟩
  rw [cellAt_same (h.fr.keep B hlt (fun ⟨i, hi⟩ => h1 (hm.hr.own i B hi)))]
  exact h2
 ·refine h.kp i ?_
  rcases Nat.lt_or_ge i H.length with h1 | h1
  ·exact h1
  ·exact absurd (hm.hr.out i h1) hi
theorem Mem.rebase (hm : Mem n0 κ0 w0 S0 O0 H w S κ) {H' : HP} {w' : World} {S' : Nat → Prop} {κ' : Nat → Bind} (h : Mem n0 κ w S (fun B => ∃ i, ownAt κ H i = some B) H' w' S' κ') :
  Mem n0 κ0 w0 S0 O0 H' w' S' κ' := by
 refine ⟨h.hr, ⟨h.fr.os.trans hm.fr.os, h.fr.tape.trans hm.fr.tape, h.fr.output.trans hm.fr.output, Nat.le_trans hm.fr.size h.fr.size, fun B hB hO => ?_, fun B hB hS => ?_, fun B hB hS hO => ?_⟩, fun i hi => ?_, h.len, fun i B hi hB => ?_⟩
 ·rw [h.fr.keep B (Nat.lt_of_lt_of_le hB hm.fr.size) (fun ⟨i, hi⟩ => hO (hm.ow i B hi hB))]
  exact hm.fr.keep B hB hO
 ·exact hm.fr.shut B hB (h.fr.shut B (Nat.lt_of_lt_of_le hB hm.fr.size) hS)
 ·exact h.fr.held B (Nat.lt_of_lt_of_le hB hm.fr.size) (hm.fr.held B hB hS hO) (fun ⟨i, hi⟩ => hO (hm.ow i B hi hB))
 ·rw [h.kp i hi]; exact hm.kp i hi
 ·obtain ⟨j, hj⟩ := h.ow i B hi (Nat.lt_of_lt_of_le hB hm.fr.size)
  exact hm.ow j B hj hB
def PutR (dst : Option Nat) (tm tm' : TM) : Prop := (dst = none ∧ tm' = tm) ∨ ∃ d v, dst = some d ∧ notWhen v ∧ tm' = (d, v) :: tm
theorem put_done (hi : Inv n0 N κ0 w0 S0 O0 tm H a w S κ) {dst : Option Nat} (hd : ∀ d, dst = some d → d < N.1) {g : Bool} {v : AV} {u : Value} (hv : AVR w.heap S κ v u) {K : TM → Prop} (hk : dstK tm [] g dst v K) :
  ∃ tm', K tm' ∧ PutR dst tm tm' ∧ Inv n0 N κ0 w0 S0 O0 tm' H (a.put dst u) w S κ := by
 obtain ⟨hn, ⟨rfl, hk1⟩ | ⟨d, rfl, ⟨_, hk1⟩ | ⟨x, r, h, _⟩⟩⟩ := dstK_spec hk
 ·exact ⟨tm, hk1, .inl ⟨rfl, rfl⟩, hi⟩
 ·exact ⟨_, hk1, .inr ⟨d, v, rfl, hn, rfl⟩, hi.put (hd d rfl) hv⟩
 ·cases h
def PanQ (E : Env) (n0 : Nat) (N : Nat × List Deferred) (κ0 : Nat → Bind) (w0 : World) (S0 O0 : Nat → Prop) (Q : Exit → Act → World → Prop) : Prop :=
 ∀ ts KP, E.pan = some (ts, KP) → ∀ (x : CV) (V : Value) (tm : TM) (H : HP) (a : Act) (w : World) (S : Nat → Prop) (κ : Nat → Bind),
  KP x (ts.map (lk tm)) H → CVR w.heap S x V → Inv n0 N κ0 w0 S0 O0 tm H a w S κ → Q (.panic [{ v := V, recovered := false }]) a w
theorem PanQ.none {Q : Exit → Act → World → Prop} (h : E.pan = none) : PanQ E n0 N κ0 w0 S0 O0 Q := fun ts KP h2 => by rw [h] at h2; cases h2
theorem op_spec (he : EnvOk P E) (hi : Inv n0 N κ0 w0 S0 O0 tm H a w S κ) (hw : WOk tm a) {o : Oper} (hd : ∀ d, o.dst = some d → d < N.1) {K : TM → HP → Prop} {Q : Exit → Act → World → Prop} (hP : PanQ E n0 N κ0 w0 S0 O0 Q)
  (hk : aop P E o [] true tm H K) : OpW P o a w (fun a' w' => ∃ tm' H' S' κ', K tm' H' ∧ PutR o.dst tm tm' ∧ Inv n0 N κ0 w0 S0 O0 tm' H' a' w' S' κ' ∧ ∃ u, a' = a.put o.dst u) Q := by
 have hc : chOk a [] := fun p hp => by cases hp
 refine ⟨aop_nd hk, ?_⟩
 by_cases hq : loudE E o.op = false
 ·obtain ⟨v, u, hr, hv, hk, _⟩ := qop_spec he hi.m.hr hi.tr hw hc rfl hq hk
  rw [hr w (OpSame.refl E o a w), Oper.uponIn_value]
  obtain ⟨tm', hk, hp, hi'⟩ := put_done hi hd hv hk
  exact ⟨tm', H, S, κ, hk, hp, hi', _, rfl⟩
 ·unfold aop at hk
  split at hk
  case h_4 T x hop =>
   obtain ⟨v, hk, hv⟩ := evK_spec hi.tr hw hc hk
   split at hk
   ·rename_i l
    simp only [AVR] at hv
    obtain ⟨cs, hv, hcs⟩ := hv
    obtain ⟨r, rfl, hr, hk⟩ := hk
    replace hk := snocK_spec hk
    obtain ⟨S', κ', m1, e1, h1⟩ := bigRow_spec hi.m (el := T) (avrs_cells hcs) hr
    have hr : (execOp a.eval o).run P w = .ok (.value (.pointer (some ⟨w.heap.size, 0, none⟩))) (w.alloc (.cells cs T)) := by
     simp [execOp, hop, Instr.box, newVar, newRow, hv, Value.cells]
    rw [hr, Oper.uponIn_value]
    obtain ⟨tm', hk, hp, hi'⟩ := put_done (hi.step m1 e1) hd (u := .pointer (some ⟨w.heap.size, 0, none⟩)) h1 hk
    exact ⟨tm', _, S', κ', hk, hp, hi', _, rfl⟩
   obtain ⟨cs, hk, hcs, _⟩ := cellsK_spec hv hk
   replace hk := snocK_spec hk
   obtain ⟨S', κ', m1, e1, h1⟩ := alloc_spec hi.m (el := T) hcs
   have hr : (execOp a.eval o).run P w = .ok (.value (.pointer (some ⟨w.heap.size, 0, none⟩))) (w.alloc (.cells (a.eval x).cells T)) := by
    simp [execOp, hop, Instr.box, newVar, newRow]
   rw [hr, Oper.uponIn_value]
   obtain ⟨tm', hk, hp, hi'⟩ := put_done (hi.step m1 e1) hd (u := .pointer (some ⟨w.heap.size, 0, none⟩)) (by simp only [AVR]; exact ⟨_, h1, rfl⟩) hk
   exact ⟨tm', _, S', κ', hk, hp, hi', _, rfl⟩
  case h_5 T hop =>
   replace hk := tyK_spec he hk
   obtain ⟨hT, _, hk⟩ := hk
   obtain ⟨i, z, hin, hsz, hby, hz, hzc, hzo, hzl⟩ := hT.info
   have hr : (execOp a.eval o).run P w = .ok (.value (.pointer (some ⟨w.heap.size, 0, none⟩))) (w.alloc (.cells z.cells T)) := by
    simp [execOp, hop, Instr.alloc, zeroValue, typeInfo, hin, hz, newVar, newRow]
   split at hk
   ·obtain ⟨r, hr0, hrl, hk⟩ := hk
    replace hk := snocK_spec hk
    have hzs := zeros_spec (h := w.heap) (S := S) (κ := κ) hzo
    rw [hr0, ← hzc] at hzs
    obtain ⟨S', κ', m1, e1, h1⟩ := bigRow_spec hi.m (el := T) (avrs_cells hzs) hrl
    rw [hr, Oper.uponIn_value]
    obtain ⟨tm', hk, hp, hi'⟩ := put_done (hi.step m1 e1) hd (u := .pointer (some ⟨w.heap.size, 0, none⟩)) h1 hk
    exact ⟨tm', _, S', κ', hk, hp, hi', _, rfl⟩
   replace hk := snocK_spec hk
   obtain ⟨S', κ', m1, e1, h1⟩ := alloc_spec hi.m (el := T) (c := z.cells) (l := (E.ty T).zero.map ofConst) (by rw [hzc]; exact zeros_spec hzo)
   rw [hr, Oper.uponIn_value]
   obtain ⟨tm', hk, hp, hi'⟩ := put_done (hi.step m1 e1) hd (u := .pointer (some ⟨w.heap.size, 0, none⟩)) (by simp only [AVR]; exact ⟨_, h1, rfl⟩) hk
   exact ⟨tm', _, S', κ', hk, hp, hi', _, rfl⟩
  case h_8 T x y hop =>
   split at hk
   ·rename_i hdst
    obtain ⟨p, hk, hp⟩ := evK_spec hi.tr hw hc hk
    obtain ⟨v, hk, hv⟩ := evK_spec hi.tr hw hc hk
    obtain ⟨w', H', S1, hr, hk, m1, e1⟩ := storeK_spec he hi.m hp hv hk
    have hr' : (execOp a.eval o).run P w = .ok .skip w' := by simp [execOp, hop, hr]
    rw [hr', Oper.uponIn_skip]
    rw [hdst]
    exact ⟨tm, H', S1, κ, hk, .inl ⟨rfl, rfl⟩, hi.step m1 e1, undef, rfl⟩
   ·exact hk.elim
  case h_12 s d x hop =>
   split at hk
   ·obtain ⟨p, hk, hp⟩ := evK_spec hi.tr hw hc hk
    obtain ⟨r, z, w', H', S', κ', hr, hk, m1, e1, r1, _⟩ := byteK_spec he hi.m hp hk
    have hr' : (execOp a.eval o).run P w = .ok (.value r) w' := by simp [execOp, hop, hr]
    rw [hr', Oper.uponIn_value]
    obtain ⟨tm', hk, hp, hi'⟩ := put_done (hi.step m1 e1) hd r1 hk
    exact ⟨tm', H', S', κ', hk, hp, hi', _, rfl⟩
   ·rename_i hne
    refine absurd ?_ hq
    rw [hop]
    have this : cvB E (.convert s d x) = false := by
     simp only [cvB]
    unfold loudE
    rw [this]
    rfl
  case h_18 T n parts hop =>
   replace hk := tyK_spec he hk
   obtain ⟨hT, _, hk⟩ := hk
   split at hk
   ·rename_i e hdk
    replace hk := tyK_spec he hk
    obtain ⟨hTe, _, hk⟩ := hk
    split at hk
    ·exact hk.elim
    ·rename_i hne
     obtain ⟨ps, hk, h1, h2⟩ := evPartsK_spec hi.tr hw hc hk
     obtain ⟨v, x, w', H', S', κ', hr, hk, m1, e1, r1, _⟩ := buildSlice_spec he hi.m hT hdk hTe (Nat.pos_of_ne_zero fun h => hne h) (n := n) (us := parts.map fun (i, x) => (i, a.eval x)) (K := fun x H' => dstK tm [] true o.dst x fun tm' => K tm' H')
      (by rw [h1]; simp) (by simpa [Function.comp_def] using h2) hk
     have hr' : (execOp a.eval o).run P w = .ok (.value v) w' := by simp [execOp, hop, hr]
     rw [hr', Oper.uponIn_value]
     obtain ⟨tm', hk, hp, hi'⟩ := put_done (hi.step m1 e1) hd r1 hk
     exact ⟨tm', H', S', κ', hk, hp, hi', _, rfl⟩
   ·exact hk.elim
  case h_19 T hop =>
   obtain ⟨en, S', κ', hk, m1, e1, h1⟩ := mkmapK_spec he hi.m hk
   replace hk := snocK_spec hk
   have hr : (execOp a.eval o).run P w = .ok (.value (.map (some w.heap.size))) (w.alloc (.map #[] 0)) := by
    simp [execOp, hop, Instr.makeMap]
   rw [hr, Oper.uponIn_value]
   obtain ⟨tm', hk, hp, hi'⟩ := put_done (hi.step m1 e1) hd (u := .map (some w.heap.size)) (by simp only [AVR]; exact ⟨_, h1, rfl⟩) hk
   exact ⟨tm', _, S', κ', hk, hp, hi', _, rfl⟩
  case h_20 T m q x hop =>
   split at hk
   ·rename_i hdst
    obtain ⟨p, hk, hp⟩ := evK_spec hi.tr hw hc hk
    obtain ⟨r, hk, hr0⟩ := evK_spec hi.tr hw hc hk
    obtain ⟨v, hk, hv⟩ := evK_spec hi.tr hw hc hk
    obtain ⟨w', H', hr, hk, m1, e1⟩ := mupdK_spec he hi.m hp hr0 hv hk
    have hr' : (execOp a.eval o).run P w = .ok .skip w' := by simp [execOp, hop, hr]
    rw [hr', Oper.uponIn_skip]
    rw [hdst]
    exact ⟨tm, H', S, κ, hk, .inl ⟨rfl, rfl⟩, hi.step m1 e1, undef, rfl⟩
   ·exact hk.elim
  case h_21 T m q ok hop =>
   obtain ⟨p, hk, hp⟩ := evK_spec hi.tr hw hc hk
   obtain ⟨r, hk, hr0⟩ := evK_spec hi.tr hw hc hk
   obtain ⟨v, x, hr, hk, hx⟩ := lookK_spec he hi.m.hr hp hr0 hk
   have hr' : (execOp a.eval o).run P w = .ok (.value v) w := by simp [execOp, hop, hr]
   rw [hr', Oper.uponIn_value]
   obtain ⟨tm', hk, hp, hi'⟩ := put_done hi hd hx hk
   exact ⟨tm', H, S, κ, hk, hp, hi', _, rfl⟩
  case h_24 T n c hop =>
   obtain ⟨p, hk, hp⟩ := evK_spec hi.tr hw hc hk
   obtain ⟨r, hk, hr0⟩ := evK_spec hi.tr hw hc hk
   obtain ⟨en, H1, S', κ', w', v, hr, hk, m1, e1, h1, h2⟩ := mkslK_spec he hi.m hp hr0 hk
   replace hk := snocK_spec hk
   have hr' : (execOp a.eval o).run P w = .ok (.value v) w' := by simp [execOp, hop, hr]
   rw [hr', Oper.uponIn_value]
   obtain ⟨tm', hk, hp, hi'⟩ := put_done (hi.step m1 e1) hd (u := v) (by simp only [AVR]; exact ⟨h1, h2⟩) hk
   exact ⟨tm', _, S', κ', hk, hp, hi', _, rfl⟩
  case h_25 c hop =>
   obtain ⟨cal, args, at_⟩ := c
   simp only at hk
   rw [hop] at hq
   split at hk
   ·simp [loudE, cvB, loudB] at hq
   ·simp [loudE, cvB, loudB] at hq
   ·simp [loudE, cvB, loudB] at hq
   ·split at hk
    ·rename_i s x T T2 h0 h1 h2
     obtain ⟨p, hk, hp⟩ := evK_spec hi.tr hw hc hk
     obtain ⟨q, hk, hq'⟩ := evK_spec hi.tr hw hc hk
     obtain ⟨r, z, w', H', S', κ', hr, hk, m1, e1, r1, _⟩ := appK_spec (ty := o.type) he hi.m hp hq' hk
     have e2 : args = #[s, x] := by simpa using congrArg List.toArray h1
     have e3 : at_ = #[T, T2] := by simpa using congrArg List.toArray h2
     subst e2 e3
     have hr' : (execOp a.eval o).run P w = .ok (.value r) w' := by simp [execOp, hop, resolve, invoke, builtin, hr]
     rw [hr', Oper.uponIn_value]
     obtain ⟨tm', hk, hp, hi'⟩ := put_done (hi.step m1 e1) hd r1 hk
     exact ⟨tm', H', S', κ', hk, hp, hi', _, rfl⟩
    ·exact hk.elim
   ·split at hk
    ·rename_i m q T ts h0 h1 h2
     obtain ⟨p, hk, hp⟩ := evK_spec hi.tr hw hc hk
     obtain ⟨r, hk, hr0⟩ := evK_spec hi.tr hw hc hk
     obtain ⟨w', H', hr, hk, m1, e1⟩ := mdelK_spec (ty := o.type) (ts := ts) he hi.m hp hr0 hk
     have e2 : args = #[m, q] := by simpa using congrArg List.toArray h1
     have e3 : at_ = (T :: ts).toArray := by rw [← h2]
     subst e2 e3
     have hr' : (execOp a.eval o).run P w = .ok (.value (.tuple #[])) w' := by simp [execOp, hop, resolve, invoke, builtin, hr]
     rw [hr', Oper.uponIn_value]
     obtain ⟨tm', hk, hp, hi'⟩ := put_done (hi.step m1 e1) hd (u := .tuple #[]) (by simp only [AVR, AVRs]; exact ⟨_, rfl, rfl⟩) hk
     exact ⟨tm', H', S, κ, hk, hp, hi', _, rfl⟩
    ·exact hk.elim
   ·rename_i f
    replace hk := evK_spec hi.tr hw hc hk
    obtain ⟨fv, hk, hfv⟩ := hk
    replace hk := evsK_spec hi.tr hw hc hk
    obtain ⟨vs, hk, hvs⟩ := hk
    split at hk
    ·rename_i f' caps
     simp only [AVR] at hfv
     obtain ⟨cs, hfe, hcs⟩ := hfv
     have main : ∀ (vs' : List AV) (H1 : HP) (S1 : Nat → Prop), Mem n0 κ0 w0 S0 O0 H1 w S1 κ → Ext w S κ w S1 κ → AVRs w.heap S1 κ vs' (args.toList.map a.eval) →
       (callK P E tm f' (vs' ++ caps) H1 fun r H' => dstK tm [] true o.dst r fun tm' => K tm' H') →
       o.uponIn (Fr none) 0 P a (fun a' w' => ∃ tm' H' S' κ', K tm' H' ∧ PutR o.dst tm tm' ∧ Inv n0 N κ0 w0 S0 O0 tm' H' a' w' S' κ' ∧ ∃ u, a' = a.put o.dst u) Q ((execOp a.eval o).run P w) := by
      intro vs' H1 S1 m1 e1 hvs' hcall
      obtain ⟨hcb, hcl⟩ := callK_spec m1.hr (hvs'.append (e1.avrs hcs)) hcall
      have hr : (execOp a.eval o).run P w = .ok (.enter f' (args.map a.eval ++ cs)) w := by
       unfold callable at hcb
       split at hcb
       ·rename_i fn hfn
        simp only [Bool.and_eq_true, Bool.not_eq_true', beq_eq_false_iff_ne, ne_eq] at hcb
        obtain ⟨hb1, hb2⟩ := hcb
        have hb3 : fn.body.isNone = false := by cases hb : fn.body <;> simp_all
        simp [execOp, hop, resolve, hfe, Deferred.ofValue, invoke, callFunc, program, Sem.run, Sem.run_bind, hfn, hb2, hb3]
        intro hbn
        simp [hbn] at hb1
       ·cases hcb
      rw [hr, Oper.uponIn_enter]
      have ea : (args.toList.map a.eval ++ cs.toList).toArray = args.map a.eval ++ cs := by
       apply Array.ext'; simp
      rw [ea] at hcl
      refine ⟨fun h => (by cases h), callsIn_calls.2 (hcl.mono ?_)⟩
      rintro e w' (⟨v, r, H', κ', S', rfl, hk, m2, r2⟩ | ⟨ts, KP, x, V, H', κ', S', hpan, rfl, hk, m2, hx⟩)
      ·obtain ⟨m3, e3⟩ := m1.trans m2
       obtain ⟨tm', hk, hp, hi'⟩ := put_done ((hi.step m1 e1).step m3 e3) hd r2 hk
       exact ⟨tm', H', S', κ', hk, hp, hi', _, rfl⟩
      ·obtain ⟨m3, e3⟩ := m1.trans m2
       exact hP ts KP hpan x V tm H' a w' S' κ' hk hx ((hi.step m1 e1).step m3 e3)
     split at hk
     ·obtain ⟨vs', H1, S1, hk, m1, e1, r1, _⟩ := pursK_spec he hi.m hvs hk
      exact main vs' H1 S1 m1 e1 r1 hk
     ·exact main vs H S hi.m (Ext.refl _ _ _) hvs hk
    ·rename_i f' l
     simp only [AVR] at hfv
     obtain ⟨cs, hfe, hcs⟩ := hfv
     have main : ∀ (vs' : List AV) (H1 : HP) (S1 : Nat → Prop), Mem n0 κ0 w0 S0 O0 H1 w S1 κ → Ext w S κ w S1 κ → AVRs w.heap S1 κ vs' (args.toList.map a.eval) →
       (callK P E tm f' (l ++ vs') H1 fun r H' => dstK tm [] true o.dst r fun tm' => K tm' H') →
       o.uponIn (Fr none) 0 P a (fun a' w' => ∃ tm' H' S' κ', K tm' H' ∧ PutR o.dst tm tm' ∧ Inv n0 N κ0 w0 S0 O0 tm' H' a' w' S' κ' ∧ ∃ u, a' = a.put o.dst u) Q ((execOp a.eval o).run P w) := by
      intro vs' H1 S1 m1 e1 hvs' hcall
      obtain ⟨hcb, hcl⟩ := callK_spec m1.hr ((e1.avrs hcs).append hvs') hcall
      have hr : (execOp a.eval o).run P w = .ok (.enter f' (cs ++ args.map a.eval)) w := by
       unfold callable at hcb
       split at hcb
       ·rename_i fn hfn
        simp only [Bool.and_eq_true, Bool.not_eq_true', beq_eq_false_iff_ne, ne_eq] at hcb
        obtain ⟨hb1, hb2⟩ := hcb
        have hb3 : fn.body.isNone = false := by cases hb : fn.body <;> simp_all
        simp [execOp, hop, resolve, hfe, Deferred.ofValue, invoke, callFunc, program, Sem.run, Sem.run_bind, hfn, hb2, hb3]
        intro hbn
        simp [hbn] at hb1
       ·cases hcb
      rw [hr, Oper.uponIn_enter]
      have ea : (cs.toList ++ args.toList.map a.eval).toArray = cs ++ args.map a.eval := by
       apply Array.ext'; simp
      rw [ea] at hcl
      refine ⟨fun h => (by cases h), callsIn_calls.2 (hcl.mono ?_)⟩
      rintro e w' (⟨v, r, H', κ', S', rfl, hk, m2, r2⟩ | ⟨ts, KP, x, V, H', κ', S', hpan, rfl, hk, m2, hx⟩)
      ·obtain ⟨m3, e3⟩ := m1.trans m2
       obtain ⟨tm', hk, hp, hi'⟩ := put_done ((hi.step m1 e1).step m3 e3) hd r2 hk
       exact ⟨tm', H', S', κ', hk, hp, hi', _, rfl⟩
      ·obtain ⟨m3, e3⟩ := m1.trans m2
       exact hP ts KP hpan x V tm H' a w' S' κ' hk hx ((hi.step m1 e1).step m3 e3)
     split at hk
     ·obtain ⟨vs', H1, S1, hk, m1, e1, r1, _⟩ := pursK_spec he hi.m hvs hk
      exact main vs' H1 S1 m1 e1 r1 hk
     ·exact main vs H S hi.m (Ext.refl _ _ _) hvs hk
    ·rename_i i
     simp only [AVR] at hfv
     obtain ⟨l, hl, hfe⟩ := hfv
     unfold YSt at hk
     obtain ⟨fn, tmps, asg, body, hy, hround⟩ := hk w S κ _ l hi.m.hr hvs hl
     have ea : (args.toList.map a.eval).toArray = args.map a.eval := by
      apply Array.ext'; simp
     rw [ea] at hy
     have hr : (execOp a.eval o).run P w = .ok (.round l fn tmps asg body) w := by
      simp [execOp, hop, resolve, hfe, Deferred.ofValue, invoke, Sem.run_bind, hy]
     rw [hr, Oper.uponIn_round]
     refine ⟨fun h => (by cases h), roundIn_Fr (r := none) (n := 0) (RoundIn.mono hround ?_)⟩
     rintro e w' ⟨v, r, H', κ', S', rfl, hk, m2, r2⟩
     obtain ⟨m3, e3⟩ := hi.m.trans m2
     obtain ⟨tm', hk, hp, hi'⟩ := put_done (hi.step m3 e3) hd r2 hk
     exact ⟨tm', H', S', κ', hk, hp, hi', _, rfl⟩
    ·exact hk.elim
   ·rename_i recv name
    replace hk := evK_spec hi.tr hw hc hk
    obtain ⟨fv, hk, hfv⟩ := hk
    replace hk := evsK_spec hi.tr hw hc hk
    obtain ⟨vs, hk, hvs⟩ := hk
    split at hk
    ·rename_i t l
     split at hk
     ·rename_i f' hmt
      obtain ⟨hmth, hk⟩ := hk
      simp only [AVR, CVR] at hfv
      obtain ⟨cs, hfe, hcs⟩ := hfv
      obtain ⟨vs', H1, S1, hk, m1, e1, hvs', _⟩ := pursK_spec he hi.m hvs hk
      have hrecv : AVR w.heap S1 κ (.agg (l.map .c)) (.agg cs) := by
       simp only [AVR]
       exact ⟨cs, rfl, e1.avrs hcs.avrs⟩
      obtain ⟨hcb, hcl⟩ := callK_spec (vs := .agg cs :: args.toList.map a.eval) m1.hr (by simp only [AVRs]; exact ⟨_, _, rfl, hrecv, hvs'⟩) hk
      have hr : (execOp a.eval o).run P w = .ok (.enter f' (#[.agg cs] ++ args.map a.eval)) w := by
       unfold callable at hcb
       split at hcb
       ·rename_i fn hfn
        simp only [Bool.and_eq_true, Bool.not_eq_true', beq_eq_false_iff_ne, ne_eq] at hcb
        obtain ⟨hb1, hb2⟩ := hcb
        have hb3 : fn.body.isNone = false := by cases hb : fn.body <;> simp_all
        have hm0 := hmth (.agg cs) w
        have hex : ((#[Value.iface t (.agg cs)] ++ args.map a.eval).extract 1 (#[Value.iface t (.agg cs)] ++ args.map a.eval).size) = args.map a.eval := by
         apply Array.ext'
         simp
         exact List.take_of_length_le (by simp)
        have hcf : (callFunc f' (#[Value.agg cs] ++ args.map a.eval)).run P w = .ok (.enter f' (#[.agg cs] ++ args.map a.eval)) w := by
         simp [callFunc, program, Sem.run, Sem.run_bind, hfn, hb2, hb3]
         intro hbn
         simp [hbn] at hb1
        simp only [execOp, hop, resolve, hfe]
        have h0 : (#[Value.iface t (.agg cs)] ++ args.map a.eval)[0]? = some (Value.iface t (.agg cs)) := by
         rw [Array.getElem?_append_left (by simp)]
         rfl
        simp only [Sem.run_bind, Sem.run_pure, Result.andThen_ok, invoke, h0, hex, callMethod]
        have hprog : (program).run P w = .ok P w := rfl
        rw [hprog, Result.andThen_ok, hm0, Result.andThen_ok]
        exact hcf
       ·cases hcb
      rw [hr, Oper.uponIn_enter]
      have ea : (Value.agg cs :: args.toList.map a.eval).toArray = #[.agg cs] ++ args.map a.eval := by
       apply Array.ext'; simp
      rw [ea] at hcl
      refine ⟨fun h => (by cases h), callsIn_calls.2 (hcl.mono ?_)⟩
      rintro e w' (⟨v, r, H', κ', S', rfl, hk, m2, r2⟩ | ⟨ts, KP, x, V, H', κ', S', hpan, rfl, hk, m2, hx⟩)
      ·obtain ⟨m3, e3⟩ := m1.trans m2
       obtain ⟨tm', hk, hp, hi'⟩ := put_done ((hi.step m1 e1).step m3 e3) hd r2 hk
       exact ⟨tm', H', S', κ', hk, hp, hi', _, rfl⟩
      ·obtain ⟨m3, e3⟩ := m1.trans m2
       exact hP ts KP hpan x V tm H' a w' S' κ' hk hx ((hi.step m1 e1).step m3 e3)
     ·exact hk.elim
    ·exact hk.elim
   ·exact hk.elim
  case h_28 x hop =>
   obtain ⟨p, hk, hp⟩ := evK_spec hi.tr hw hc hk
   unfold panK at hk
   split at hk
   ·rename_i ts KP t l hpan
    have hp0 := hp
    simp only [AVR, CVR] at hp
    obtain ⟨cs, hpe, hcs⟩ := hp
    have hr : (execOp a.eval o).run P w = .halt (.panic (.iface t (.agg cs))) w := by
     simp [execOp, hop, hpe, Instr.panic, goPanic, Sem.run_bind]
    rw [hr]
    simp only [Oper.uponIn]
    exact hP ts KP hpan _ _ tm H a w S κ hk (by simp only [CVR]; exact ⟨cs, rfl, hcs⟩) hi
   ·exact hk.elim
  all_goals first | exact hk.elim | (rename_i hop; rw [hop] at hq; simp [loudE, cvB, loudB] at hq)
end
end Go.Tr
/- The engine, part 14: operations under guards. -/
namespace Go.Tr
structure RegF (n : Nat) (ops : Array Oper) (gs : List Nat) : Prop where
 gin : ∀ (i : Nat) (o : Oper), ops[i]? = some o → ∀ j w, o.guard = some (j, w) → j ∈ gs
 glt : ∀ (i : Nat) (o : Oper), ops[i]? = some o → ∀ j w, o.guard = some (j, w) → j < i
 dlt : ∀ (i : Nat) (o : Oper), ops[i]? = some o → ∀ d, o.dst = some d → d < n
 one : ∀ (i : Nat) (o : Oper), ops[i]? = some o → ∀ j, j ∈ gs → ∀ t, (ops[j]?).bind (·.dst) = some t → o.dst = some t → i = j
theorem regOk_facts {n : Nat} {ops : Array Oper} (h : regOk n ops.toList = true) : ∃ gs, RegF n ops gs := by
 refine ⟨ops.toList.filterMap fun o => o.guard.map (·.1), ?_⟩
 unfold regOk at h
 simp only [List.all_eq_true] at h
 have key : ∀ (i : Nat) (o : Oper), ops[i]? = some o → _ := fun i o hi => h (o, i) (by
  rw [List.mem_iff_getElem?]
  exact ⟨i, by simp [hi]⟩)
 refine ⟨fun i o hi j w hg => ?_, fun i o hi j w hg => ?_, fun i o hi d hd => ?_, fun i o hi j hj t ht hd => ?_⟩
 ·refine List.mem_filterMap.2 ⟨o, ?_, by simp [hg]⟩
  exact Array.mem_toList_iff.2 (Array.mem_of_getElem? hi)
 ·have := key i o hi
  simp only [hg, Bool.and_eq_true, decide_eq_true_eq] at this
  exact this.1.1
 ·have := key i o hi
  simp only [hd, Bool.and_eq_true, decide_eq_true_eq] at this
  exact this.1.2
 ·have := key i o hi
  simp only [Bool.and_eq_true, List.all_eq_true] at this
  have h2 := this.2 j hj
  have ht' : (ops.toList[j]?).bind (·.dst) = some t := by simpa using ht
  rw [ht'] at h2
  simp only [hd, bne_self_eq_false, Bool.false_or, beq_iff_eq] at h2
  exact h2
def RI (ops : Array Oper) (gs : List Nat) (D : Nat → Prop) (tm : TM) (a : Act) : Prop := ∀ t ch g x, lk tm t = .when ch g x →
 (∀ p ∈ ch, ∃ j, D j ∧ j ∈ gs ∧ (ops[j]?).bind (·.dst) = some p.1) ∧ (chOk a ch ↔ g = true)
theorem RI.wok {ops : Array Oper} {gs : List Nat} {D : Nat → Prop} {tm : TM} {a : Act} (h : RI ops gs D tm a) : WOk tm a := fun t ch g x hl hc => ((h t ch g x hl).2).1 hc
def NW (tm : TM) : Prop := ∀ t ch g x, lk tm t ≠ .when ch g x
theorem NW.ri {ops : Array Oper} {gs : List Nat} {D : Nat → Prop} {tm : TM} {a : Act} (h : NW tm) : RI ops gs D tm a := fun t ch g x hl => absurd hl (h t ch g x)
theorem chOk_put {a : Act} {d : Nat} {u : Value} (hd : d < a.tmps.size) {ch : Ch} (hn : ∀ p ∈ ch, p.1 ≠ d) : chOk (a.put (some d) u) ch ↔ chOk a ch := by
 unfold chOk
 constructor
 ·intro h p hp
  have := h p hp
  rwa [getD_put a d p.1 u hd, if_neg (fun e => hn p hp e.symm)] at this
 ·intro h p hp
  rw [getD_put a d p.1 u hd, if_neg (fun e => hn p hp e.symm)]
  exact h p hp
theorem chOk_cons {a : Act} {t : Nat} {w : Bool} {ch : Ch} : chOk a ((t, w) :: ch) ↔ a.tmps.getD t undef = .bool w ∧ chOk a ch := by
 unfold chOk
 exact List.forall_mem_cons
theorem chOk_nil {a : Act} : chOk a [] := fun p hp => by cases hp
section
variable {n : Nat} {ops : Array Oper} {gs : List Nat} {D : Nat → Prop} {tm : TM} {a : Act}
theorem RI.apart (hf : RegF n ops gs) (h : RI ops gs D tm a) {i : Nat} {o : Oper} (hi : ops[i]? = some o) (hD : ¬ D i) {d : Nat} (hd : o.dst = some d) {t : Nat} {ch : Ch} {g : Bool} {x : AV} (hl : lk tm t = .when ch g x) : ∀ p ∈ ch, p.1 ≠ d := by
 intro p hp e
 obtain ⟨j, hj, hjg, hjd⟩ := (h t ch g x hl).1 p hp
 have := hf.one i o hi j hjg p.1 hjd (by rw [hd, e])
 subst this
 exact hD hj
theorem RI.mono {D' : Nat → Prop} (h : RI ops gs D tm a) (hm : ∀ j, D j → D' j) : RI ops gs D' tm a := fun t ch g x hl =>
 ⟨fun p hp => let ⟨j, h1, h2⟩ := (h t ch g x hl).1 p hp; ⟨j, hm j h1, h2⟩, (h t ch g x hl).2⟩
theorem RI.put (hf : RegF n ops gs) (h : RI ops gs D tm a) (hn : a.tmps.size = n) {i : Nat} {o : Oper} (hi : ops[i]? = some o) (hD : ¬ D i) {d : Nat} (hd : o.dst = some d) {v : AV} (hv : notWhen v) (u : Value) :
  RI ops gs D ((d, v) :: tm) (a.put (some d) u) := by
 have hdn : d < a.tmps.size := by rw [hn]; exact hf.dlt i o hi d hd
 intro t ch g x hl
 rw [lk_cons] at hl
 by_cases e : d = t
 ·simp only [e, if_true] at hl; subst hl; exact hv.elim
 ·simp only [e, if_false] at hl
  have ha := RI.apart hf h hi hD hd hl
  exact ⟨(h t ch g x hl).1, by rw [chOk_put hdn ha]; exact (h t ch g x hl).2⟩
theorem RI.putR (hf : RegF n ops gs) (h : RI ops gs D tm a) (hn : a.tmps.size = n) {i : Nat} {o : Oper} (hi : ops[i]? = some o) (hD : ¬ D i) {tm' : TM} (hp : PutR o.dst tm tm') (u : Value) : RI ops gs D tm' (a.put o.dst u) := by
 rcases hp with ⟨h1, rfl⟩ | ⟨d, v, h1, h2, rfl⟩
 ·rw [h1]; exact h
 ·rw [h1]; exact h.put hf hn hi hD h1 h2 u
theorem RI.kn (h : RI ops gs D tm a) : ∀ (ch : Ch), RI ops gs D (knAll ch tm) a
 | [] => h
 | (d, w) :: r => by
  intro t ch g x hl
  simp only [knAll, lk_cons] at hl
  by_cases e : d = t
  ·simp [e] at hl
  ·simp only [e, if_false] at hl
   exact RI.kn h r t ch g x hl
theorem RI.knNot (h : RI ops gs D tm a) (ch : Ch) : RI ops gs D (knNot ch tm) a := by
 unfold Tr.knNot
 split
 ·intro t c g x hl
  rw [lk_cons] at hl
  split at hl
  ·cases hl
  ·exact h t c g x hl
 ·intro t c g x hl
  rw [lk_cons] at hl
  split at hl
  ·cases hl
  ·exact h t c g x hl
 ·exact h
theorem getD_bool {t : Nat} {b : Bool} (h : a.tmps.getD t undef = .bool b) : a.tmps[t]? = some (.bool b) := by
 rw [Array.getD_eq_getD_getElem?] at h
 cases hx : a.tmps[t]? with
 | none => rw [hx] at h; simp [undef] at h
 | some v => rw [hx] at h; simpa using h
theorem getD_undef {t : Nat} (h : a.tmps.getD t undef = undef) : ∀ b, a.tmps[t]? ≠ some (.bool b) := by
 intro b hb
 rw [Array.getD_eq_getD_getElem?, hb] at h
 simp [undef] at h
theorem gOf_spec {h : Array Obj} {S : Nat → Prop} {κ : Nat → Bind} (hf : RegF n ops gs) (hri : RI ops gs D tm a) (ht : TR h S κ tm a) {i : Nat} {o : Oper} (hi : ops[i]? = some o) (hgd : ∀ j w, o.guard = some (j, w) → D j)
  {K : Option (Ch × Bool) → Prop} (hk : gOf ops tm o.guard K) :
  (K none ∧ Region.wanted o (yielded ops a.tmps) = false) ∨ (K (some ([], true)) ∧ Region.wanted o (yielded ops a.tmps) = true) ∨
  ∃ x ch g, K (some (x :: ch, g)) ∧ (g = true ↔ Region.wanted o (yielded ops a.tmps) = true) ∧ (chOk a (x :: ch) ↔ g = true) ∧ (∀ p ∈ x :: ch, ∃ j, D j ∧ j ∈ gs ∧ (ops[j]?).bind (·.dst) = some p.1) ∧
   (g = false → ch = [] → a.tmps.getD x.1 undef = .bool (!x.2)) := by
 unfold gOf at hk
 unfold Region.wanted
 cases hg : o.guard with
 | none => rw [hg] at hk; exact .inr (.inl ⟨hk, rfl⟩)
 | some q =>
  obtain ⟨j, w⟩ := q
  rw [hg] at hk
  simp only at hk
  dsimp only
  have hj := hf.gin i o hi j w hg
  have hDj := hgd j w hg
  split at hk
  ·exact hk.elim
  ·rename_i t hjt
   rw [lkK_eq] at hk
   have h1 := ht t
   have hy : yielded ops a.tmps j = match a.tmps[t]? with | some (.bool b) => some b | _ => none := by
    unfold yielded
    rw [hjt]
    rfl
   split at hk
   ·rename_i b hl
    rw [hl] at h1
    simp only [AVR] at h1
    rw [getD_bool h1] at hy
    simp only at hy
    split at hk
    ·rename_i hb
     exact .inr (.inl ⟨hk, by rw [hy, beqB_eq hb]; simp⟩)
    ·rename_i hb
     exact .inl ⟨hk, by rw [hy]; simpa using beqB_ne hb⟩
   ·rename_i e hl
    rw [hl] at h1
    simp only [AVR, CVR] at h1
    rw [getD_bool h1] at hy
    simp only at hy
    have hco : ∀ w', chOk a [(t, w')] ↔ e = w' := fun w' => by
     rw [chOk_cons, h1]
     simp [chOk_nil]
    have hmem : ∀ (w' : Bool), ∀ p ∈ [(t, w')], ∃ j, D j ∧ j ∈ gs ∧ (ops[j]?).bind (·.dst) = some p.1 := fun w' p hp => by
     simp at hp; subst hp; exact ⟨j, hDj, hj, hjt⟩
    split at hk
    ·exact .inr (.inr ⟨_, _, _, hk, by rw [hy]; simp, by rw [hco], hmem _, fun hg _ => by simp [h1, hg]⟩)
    ·exact .inr (.inr ⟨_, _, _, hk, by rw [hy]; simp, by rw [hco]; simp, hmem _, fun hg _ => by simp at hg; simp [h1, hg]⟩)
   ·rename_i ch g e hl
    rw [hl] at h1
    simp only [AVR, CVR] at h1
    have hri' := hri t ch g _ hl
    have hmem : ∀ (w' : Bool), ∀ p ∈ (t, w') :: ch, ∃ j, D j ∧ j ∈ gs ∧ (ops[j]?).bind (·.dst) = some p.1 := fun w' p hp => by
     rcases List.mem_cons.1 hp with rfl | hp
     ·exact ⟨j, hDj, hj, hjt⟩
     ·exact hri'.1 p hp
    cases hgv : g with
    | true =>
     have h2 := h1.1 hgv
     rw [getD_bool h2] at hy
     simp only at hy
     have hco : ∀ w', chOk a ((t, w') :: ch) ↔ e = w' := fun w' => by
      have h3 := hri'.2.2 hgv
      rw [chOk_cons, h2]
      simp [h3]
     rw [hgv] at hk
     split at hk
     ·exact .inr (.inr ⟨_, _, _, hk, by rw [hy]; simp, by rw [hco]; simp, hmem _, fun hg _ => by simp at hg; simp [h2, hg]⟩)
     ·exact .inr (.inr ⟨_, _, _, hk, by rw [hy]; simp, by rw [hco]; simp, hmem _, fun hg _ => by simp at hg; simp [h2, hg]⟩)
    | false =>
     have h2 := h1.2 hgv
     have hyn : yielded ops a.tmps j = none := by
      rw [hy]
      split
      ·rename_i b hb; exact absurd hb (getD_undef h2 b)
      ·rfl
     have hco : ∀ w', ¬ chOk a ((t, w') :: ch) := fun w' hc => by
      have := hc (t, w') (by simp)
      simp only at this
      rw [h2] at this
      simp [undef] at this
     have hne : ch ≠ [] := fun e => by
      have := hri'.2.1 (by rw [e]; intro p hp; cases hp)
      rw [hgv] at this; cases this
     rw [hgv] at hk
     split at hk
     ·exact .inr (.inr ⟨_, _, _, hk, by rw [hyn]; simp, by simp [hco], hmem _, fun _ e => absurd e hne⟩)
     ·exact .inr (.inr ⟨_, _, _, hk, by rw [hyn]; simp, by simp [hco], hmem _, fun _ e => absurd e hne⟩)
   ·exact hk.elim
end
end Go.Tr
/- The engine, part 15: a region in the order of its text. -/
namespace Go.Tr
section
variable {P : Program} {E : Env} {n0 : Nat} {N : Nat × List Deferred} {κ0 : Nat → Bind} {w0 w : World} {S0 O0 S : Nat → Prop} {H : HP} {κ : Nat → Bind} {tm : TM} {a : Act} {ops : Array Oper} {gs : List Nat} {D : Nat → Prop}
theorem TR.kn {h : Array Obj} (ht : TR h S κ tm a) : ∀ {ch : Ch}, chOk a ch → TR h S κ (knAll ch tm) a
 | [], _ => ht
 | (t, b) :: r, hc => by
  intro q
  simp only [knAll, lk_cons]
  rw [chOk_cons] at hc
  by_cases e : t = q
  ·subst e
   simp only [if_true, AVR]
   exact hc.1
  ·simp only [e, if_false]
   exact TR.kn ht hc.2 q
theorem TR.knNot {h : Array Obj} (ht : TR h S κ tm a) {x : Nat × Bool} {ch : Ch} (hc : ch = [] → a.tmps.getD x.1 undef = .bool (!x.2)) : TR h S κ (knNot (x :: ch) tm) a := by
 unfold Tr.knNot
 split
 ·rename_i t he
  injection he with h1 h2
  subst h1
  have := hc h2
  intro q
  rw [lk_cons]
  split
  ·rename_i e; subst e; simpa [AVR] using this
  ·exact ht q
 ·rename_i t he
  injection he with h1 h2
  subst h1
  have := hc h2
  intro q
  rw [lk_cons]
  split
  ·rename_i e; subst e; simpa [AVR] using this
  ·exact ht q
 ·exact ht
theorem openW_lk (ch : Ch) : ∀ (tm : TM) (t : Nat), lk (openW ch tm) t = lk tm t ∨ ∃ c g, lk tm t = .when c g (lk (openW ch tm) t) ∧ opnB c ch (lk (openW ch tm) t) = true
 | [], t => .inl rfl
 | (d, v) :: r, t => by
  have ih := openW_lk ch r t
  by_cases e : d = t
  ·subst e
   cases v
   case «when» c g v =>
    simp only [openW]
    split
    ·rename_i hs
     exact .inr ⟨c, g, by simp [lk_cons], by simpa [lk_cons] using hs⟩
    ·exact .inl (by simp [lk_cons])
   all_goals exact .inl (by simp [openW, lk_cons])
  ·have e2 : ∀ (x : AV) (q : TM), lk ((d, x) :: q) t = lk q t := fun x q => by rw [lk_cons, if_neg e]
   cases v
   case «when» c g v =>
    simp only [openW]
    split <;> (rw [e2, e2]; exact ih)
   all_goals
    simp only [openW]
    rw [e2, e2]
    exact ih
theorem opnB_sfx {c ch : Ch} {v : AV} (h : opnB c ch v = true) : sfx c ch = true ∧ notWhen v := by
 unfold opnB at h
 split at h
 ·cases h
 ·rename_i hn
  exact ⟨h, by cases v <;> simp [notWhen] at *⟩
theorem RI.open (hri : RI ops gs D tm a) (ch : Ch) : RI ops gs D (openW ch tm) a := by
 intro t c g x hl
 rcases openW_lk ch tm t with e | ⟨c', g', e, hs⟩
 ·rw [e] at hl; exact hri t c g x hl
 ·have := (opnB_sfx hs).2
  rw [hl] at this
  exact this.elim
theorem TR.open {h : Array Obj} (ht : TR h S κ tm a) (hw : WOk tm a) {ch : Ch} (hc : chOk a ch) : TR h S κ (openW ch tm) a := by
 intro t
 have h1 := ht t
 rcases openW_lk ch tm t with e | ⟨c, g, e, hs⟩
 ·rw [e]; exact h1
 ·rw [e] at h1
  simp only [AVR] at h1
  exact h1.1 (hw t c g _ e fun p hp => hc p (sfx_mem (opnB_sfx hs).1 p hp))
theorem putTop (hi : Inv n0 N κ0 w0 S0 O0 tm H a w S κ) {dst : Option Nat} (hd : ∀ d, dst = some d → d < N.1) (u : Value) : Inv n0 N κ0 w0 S0 O0 (dstTop dst tm) H (a.put dst u) w S κ ∧ PutR dst tm (dstTop dst tm) := by
 cases dst with
 | none => exact ⟨hi, .inl ⟨rfl, rfl⟩⟩
 | some d => exact ⟨hi.put (hd d rfl) (by simp only [AVR]), .inr ⟨d, .top, rfl, trivial, rfl⟩⟩
theorem awOp_spec (he : EnvOk P E) (hf : RegF N.1 ops gs) (hi : Inv n0 N κ0 w0 S0 O0 tm H a w S κ) (hri : RI ops gs D tm a) {i : Nat} {o : Oper} (hoi : ops[i]? = some o) (hD : ¬ D i) (hgd : ∀ j b, o.guard = some (j, b) → D j)
  {K : TM → HP → Prop} {Q : Exit → Act → World → Prop} (hP : PanQ E n0 N κ0 w0 S0 O0 Q) (hk : awOp P E ops o tm H K) :
  if Region.wanted o (yielded ops a.tmps) then OpW P o a w (fun a' w' => ∃ tm' H' S' κ', K tm' H' ∧ Inv n0 N κ0 w0 S0 O0 tm' H' a' w' S' κ' ∧ RI ops gs (fun j => D j ∨ j = i) tm' a') Q
  else ∃ tm' H' S' κ', K tm' H' ∧ Inv n0 N κ0 w0 S0 O0 tm' H' (a.put o.dst undef) w S' κ' ∧ RI ops gs (fun j => D j ∨ j = i) tm' (a.put o.dst undef) := by
 have hd : ∀ d, o.dst = some d → d < N.1 := fun d h => hf.dlt i o hoi d h
 have hmono : ∀ {tm' : TM} {a' : Act}, RI ops gs D tm' a' → RI ops gs (fun j => D j ∨ j = i) tm' a' := fun h => h.mono fun j hj => .inl hj
 unfold awOp at hk
 rcases gOf_spec hf hri hi.tr hoi hgd hk with ⟨hk, hw⟩ | ⟨hk, hw⟩ | ⟨x, ch, g, hk, hgw, hco, hmem, hno⟩
 ·rw [if_neg (by rw [hw]; simp)]
  obtain ⟨h1, h2⟩ := putTop hi hd undef
  exact ⟨_, H, S, κ, hk, h1, hmono (hri.putR hf hi.sz hoi hD h2 undef)⟩
 ·rw [if_pos hw]
  refine OpW.mono ?_ (op_spec he hi hri.wok hd hP hk)
  rintro a' w' ⟨tm', H', S', κ', hk, hp, hi', u, rfl⟩
  exact ⟨tm', H', S', κ', hk, hi', hmono (hri.putR hf hi.sz hoi hD hp u)⟩
 ·simp only at hk
  have hapart : ∀ p ∈ x :: ch, ∀ d, o.dst = some d → p.1 ≠ d := fun p hp d hdd e => by
   obtain ⟨j, hj, hjg, hjd⟩ := hmem p hp
   have := hf.one i o hoi j hjg p.1 hjd (by rw [hdd, e])
   subst this
   exact hD hj
  have fin : ∀ (v : AV) (u : Value), (dstK tm (x :: ch) g o.dst v fun tm' => K tm' H) → (g = true → AVR w.heap S κ v u) → (g = false → u = undef) →
    ∃ tm' H' S' κ', K tm' H' ∧ Inv n0 N κ0 w0 S0 O0 tm' H' (a.put o.dst u) w S' κ' ∧ RI ops gs (fun j => D j ∨ j = i) tm' (a.put o.dst u) := by
   intro v u hk h1 h2
   obtain ⟨hn, ⟨hdn, hk'⟩ | ⟨d, hds, ⟨hch, _⟩ | ⟨y, r, hyr, hk'⟩⟩⟩ := dstK_spec hk
   ·rw [hdn]
    exact ⟨tm, H, S, κ, hk', hi, hmono hri⟩
   ·cases hch
   ·injection hyr with e1 e2
    subst e1 e2
    rw [hds]
    have hdN := hd d hds
    refine ⟨_, H, S, κ, hk', hi.put hdN (by simp only [AVR]; exact ⟨h1, h2⟩), hmono ?_⟩
    intro t ch' g' x' hl
    rw [lk_cons] at hl
    have hdt : d < a.tmps.size := by rw [hi.sz]; exact hdN
    by_cases e : d = t
    ·simp only [e, if_true, AV.when.injEq] at hl
     obtain ⟨rfl, rfl, rfl⟩ := hl
     refine ⟨hmem, ?_⟩
     rw [chOk_put hdt (fun p hp => hapart p hp d hds)]
     exact hco
    ·simp only [e, if_false] at hl
     have ha := RI.apart hf hri hoi hD hds hl
     exact ⟨(hri t ch' g' x' hl).1, by rw [chOk_put hdt ha]; exact (hri t ch' g' x' hl).2⟩
  split at hk
  ·rename_i hq
   cases hg : g with
   | true =>
    have hw := hgw.1 hg
    rw [if_pos hw]
    have hk0 := hk
    obtain ⟨v, u, hr, hv, hk, _⟩ := qop_spec he hi.m.hr hi.tr hri.wok (hco.2 hg) hg hq hk
    refine ⟨aop_nd hk0, ?_⟩
    rw [hr w (OpSame.refl E o a w), Oper.uponIn_value]
    exact fin v u hk (fun _ => hv) (fun h => by rw [hg] at h; cases h)
   | false =>
    have hw : ¬ Region.wanted o (yielded ops a.tmps) = true := fun h => by have := hgw.2 h; rw [hg] at this; cases this
    rw [if_neg hw]
    obtain ⟨v, hk⟩ := qop_any hg hq hk
    exact fin v undef hk (fun h => by rw [hg] at h; cases h) (fun _ => rfl)
  ·obtain ⟨hk1, hk2⟩ := hk
   cases hg : g with
   | true =>
    have hw := hgw.1 hg
    rw [if_pos hw]
    have hri2 := (hri.open (x :: ch)).kn (x :: ch)
    have hi2 : Inv n0 N κ0 w0 S0 O0 (knAll (x :: ch) (openW (x :: ch) tm)) H a w S κ := ⟨hi.m, (hi.tr.open hri.wok (hco.2 hg)).kn (hco.2 hg), hi.df, hi.sz⟩
    refine OpW.mono ?_ (op_spec he hi2 hri2.wok hd hP (hk1 hg))
    rintro a' w' ⟨tm', H', S', κ', hk, hp, hi', u, rfl⟩
    exact ⟨tm', H', S', κ', hk, hi', hmono (hri2.putR hf hi.sz hoi hD hp u)⟩
   | false =>
    have hw : ¬ Region.wanted o (yielded ops a.tmps) = true := fun h => by have := hgw.2 h; rw [hg] at this; cases this
    rw [if_neg hw]
    have hri2 := hri.knNot (x :: ch)
    have hi2 : Inv n0 N κ0 w0 S0 O0 (knNot (x :: ch) tm) H a w S κ := ⟨hi.m, hi.tr.knNot (hno hg), hi.df, hi.sz⟩
    obtain ⟨h1, h2⟩ := putTop hi2 hd undef
    have hk3 := hk2 hg
    split at hk3
    ·exact ⟨_, H, S, κ, hk3, h1, hmono (hri2.putR hf hi.sz hoi hD h2 undef)⟩
    ·split at hk3
     ·rw [← hg] at hk3
      exact fin _ undef hk3 (fun h => by rw [hg] at h; cases h) (fun _ => rfl)
     ·exact ⟨_, H, S, κ, hk3, h1, hmono (hri2.putR hf hi.sz hoi hD h2 undef)⟩
theorem awOps_spec (he : EnvOk P E) (hf : RegF N.1 ops gs) : ∀ (l : List Oper) (i : Nat), (∀ j, l[j]? = ops[i + j]?) → ∀ {tm : TM} {H : HP} {a : Act} {w : World} {S : Nat → Prop} {κ : Nat → Bind} {K : TM → HP → Prop} {Q : Exit → Act → World → Prop},
  PanQ E n0 N κ0 w0 S0 O0 Q → Inv n0 N κ0 w0 S0 O0 tm H a w S κ → RI ops gs (· < i) tm a → awOps P E ops l tm H K → (∀ tm' H' S' κ' a' w', K tm' H' → Inv n0 N κ0 w0 S0 O0 tm' H' a' w' S' κ' → Q .normal a' w') → wpListW P ops Q l a w
 | [], i, _, tm, H, a, w, S, κ, K, Q, _, hi, _, hk, hq => by
  simp only [awOps] at hk
  exact hq tm H S κ a w hk hi
 | o :: l, i, hl, tm, H, a, w, S, κ, K, Q, hP, hi, hri, hk, hq => by
  have hoi : ops[i]? = some o := by simpa using (hl 0).symm
  have hl' : ∀ j, l[j]? = ops[i + 1 + j]? := fun j => by have := hl (j + 1); simpa [Nat.add_assoc, Nat.add_comm 1 j] using this
  simp only [awOps] at hk
  have h1 := awOp_spec (Q := Q) he hf hi hri hoi (Nat.lt_irrefl i) (fun j b hg => hf.glt i o hoi j b hg) hP hk
  have hnext : ∀ a' w', (∃ tm' H' S' κ', awOps P E ops l tm' H' K ∧ Inv n0 N κ0 w0 S0 O0 tm' H' a' w' S' κ' ∧ RI ops gs (fun j => j < i ∨ j = i) tm' a') → wpListW P ops Q l a' w' := by
   rintro a' w' ⟨tm', H', S', κ', hk, hi', hri'⟩
   exact awOps_spec he hf l (i + 1) hl' hP hi' (hri'.mono fun j hj => by omega) hk hq
  unfold wpListW
  split
  ·rename_i hw
   rw [if_pos hw] at h1
   exact OpW.mono hnext h1
  ·rename_i hw
   rw [if_neg hw] at h1
   exact hnext _ _ h1
theorem noWhen_spec : ∀ {tm : TM} {K : TM → Prop}, noWhen tm K → ∃ tm', K tm' ∧ ∀ t, (lk tm' t = .top ∨ (lk tm' t = lk tm t ∧ ∀ ch g x, lk tm t ≠ .when ch g x))
 | [], K, hk => ⟨[], hk, fun t => .inl rfl⟩
 | (d, v) :: r, K, hk => by
  cases v
  case «when» ch g x =>
   simp only [noWhen] at hk
   obtain ⟨tm', hk, h⟩ := noWhen_spec hk
   refine ⟨(d, .top) :: tm', hk, fun t => ?_⟩
   rw [lk_cons, lk_cons]
   by_cases e : d = t
   ·exact .inl (by simp [e])
   ·simp only [e, if_false]; exact h t
  all_goals
   simp only [noWhen] at hk
   obtain ⟨tm', hk, h⟩ := noWhen_spec hk
   refine ⟨(d, _) :: tm', hk, fun t => ?_⟩
   rw [lk_cons, lk_cons]
   by_cases e : d = t
   ·exact .inr (by simp [e])
   ·simp only [e, if_false]; exact h t
end
end Go.Tr
/- The engine, part 16: code; what a call comes to. -/
namespace Go.Tr
def Wk (n0 : Nat) (tm : TM) (H : HP) (tm' : TM) (H' : HP) : Prop := ∀ (w : World) (S : Nat → Prop) (κ : Nat → Bind) (a : Act), HR w.heap S κ H → TR w.heap S κ tm a → n0 ≤ H.length →
 ∃ κ' S', HR w.heap S' κ' H' ∧ TR w.heap S' κ' tm' a ∧ (∀ i, i < n0 → κ' i = κ i) ∧ n0 ≤ H'.length ∧ (∀ i B, ownAt κ' H' i = some B → ∃ j, ownAt κ H j = some B) ∧ NW tm' ∧ (∀ B, S' B → S B) ∧ ∀ B, S B → ¬ S' B → ∃ j, ownAt κ H j = some B
def rangeK (P : Program) (E : Env) (g : Operand) (ps : Array Nat) (asg body : Code) (tm : TM) (H : HP) (Q : AEx → TM → HP → Prop) : Prop :=
 match E.rnd with
 | true => False
 | false => evK tm [] g fun fv => match fv with
  | .fn f caps => snocK H (.lrec .ready tm ps asg body) fun H1 n => CallSt P f (.yv n :: caps) H1 fun _ H2 => getK H2 n fun e => match e with
   | .lrec .ready _ _ _ _ => setK H2 n .dead fun H3 => Q .normal tm H3
   | .lrec (.brk i) _ _ _ _ => setK H2 n .dead fun H3 => Q (.exit i) tm H3
   | .lrec .ret _ _ _ _ => setK H2 n .dead fun H3 => Q .ret tm H3
   | _ => False
  | _ => False
def PutQ (E : Env) (Q : Exit → Act → World → Prop) : Prop :=
 match E.pan with
 | none => ∀ c a w, ¬ Q (.panic c) a w
 | some (ts, _) => ∀ c a d v w, d ∉ ts → Q (.panic c) (a.put (some d) v) w → Q (.panic c) a w
def DrawSt (P : Program) (E : Env) (ops : Array Oper) (tm : TM) (H : HP) (K : TM → HP → Prop) : Prop :=
 ∀ (N : Nat × List Deferred) (κ0 : Nat → Bind) (w0 : World) (S0 O0 : Nat → Prop) (a : Act) (w : World) (S : Nat → Prop) (κ : Nat → Bind) (Q : Exit → Act → World → Prop), EnvOk P E → regOk N.1 ops.toList = true → PutQ E Q → PanQ E E.n0 N κ0 w0 S0 O0 Q → NW tm → Inv E.n0 N κ0 w0 S0 O0 tm H a w S κ →
  (∀ tm' H' S' κ' a' w', K tm' H' → NW tm' → Inv E.n0 N κ0 w0 S0 O0 tm' H' a' w' S' κ' → Q .normal a' w') → wpAnyW P .any ops Q ops.size (Array.replicate ops.size false) a w
def LoopSt (n0 : Nat) (c : TM → HP → (AEx → TM → HP → Prop) → Prop) (tm : TM) (H : HP) (Q : AEx → TM → HP → Prop) : Prop :=
 ∃ (I : Nat → TM → HP → Prop), (∃ n tm1 H1, I n tm1 H1 ∧ Wk n0 tm H tm1 H1) ∧ ∀ n tm H, I n tm H → c tm H fun e tm H => match e with
  | .normal => ∃ m tm1 H1, m < n ∧ I m tm1 H1 ∧ Wk n0 tm H tm1 H1
  | e => Q e tm H
attribute [irreducible] Wk DrawSt LoopSt
def condK (tm : TM) (x : Operand) (A B : Prop) : Prop :=
 match x with
 | .tmp t => lkK tm t fun v => match v with
  | .kn true => A
  | .kn false => B
  | .c (.bool e) => (e = true → A) ∧ (e = false → B)
  | _ => False
 | .const (.bool true) => A
 | .const (.bool false) => B
 | _ => False
def aw (P : Program) (E : Env) : Code → TM → HP → (AEx → TM → HP → Prop) → Prop
 | .skip, tm, H, Q => Q .normal tm H
 | .region _ ops false, tm, H, Q => (match hasGuard ops.toList with
  | true => awOps P E ops ops.toList tm H fun tm' H' => noWhen tm' fun tm'' => Q .normal tm'' H'
  | false => awOps P E ops ops.toList tm H (Q .normal))
 | .region _ ops true, tm, H, Q => DrawSt P E ops tm H (Q .normal)
 | .seq a b, tm, H, Q => aw P E a tm H fun e tm H => match e with | .normal => aw P E b tm H Q | .exit n => Q (.exit n) tm H | .ret => Q .ret tm H
 | .cond x a b, tm, H, Q => condK tm x (aw P E a tm H Q) (aw P E b tm H Q)
 | .block id c, tm, H, Q => aw P E c tm H fun e tm H => match e with
  | .exit i => (match Nat.beq i id with | true => Q .normal tm H | false => Q (.exit i) tm H)
  | .normal => Q .normal tm H
  | .ret => Q .ret tm H
 | .loop c, tm, H, Q => LoopSt E.n0 (aw P E c) tm H Q
 | .exit id, tm, H, Q => Q (.exit id) tm H
 | .ret, tm, H, Q => Q .ret tm H
 | .rangeFunc g ps asg body, tm, H, Q => rangeK P E g ps asg body tm H Q
 | .label _, tm, H, Q => Q .normal tm H
 | .scope c, tm, H, Q => aw P E c tm H Q
 | _, _, _, _ => False
def AExR : AEx → Exit → Prop
 | .normal, .normal => True
 | .exit n, .exit m => n = m
 | .ret, .ret => True
 | _, _ => False
theorem wp_loop_idx {F : Fence} {m : Nat} {P : Program} {c : Code} {Q : Exit → Act → World → Prop} (I : Nat → Act → World → Prop) (round : ∀ n a w, I n a w → c.wpIn F m P (Exit.then (fun a' w' => ∃ m, m < n ∧ I m a' w') Q) a w) {a : Act} {w : World} (n : Nat)
  (h0 : I n a w) : (Code.loop c).wpIn F m P Q a w := by
 intro b k cs hro hb hr
 have key : ∀ n a w, I n a w → ∃ e a' w', Q e a' w' ∧ ArrivesIn (Machine.fenced P F) P (lone (b.atR a (.code c :: .inLoop c :: k)) cs w) b k cs e a' w' := by
  intro n
  induction n using Nat.strongRecOn with
  | _ n ih =>
   intro a w hI
   obtain ⟨e, a₁, w₁, hq, harr⟩ := round n a w hI b (.inLoop c :: k) cs hro hb hr
   cases e with
   | normal =>
    obtain ⟨m, hlt, hI₁⟩ := hq
    obtain ⟨e₂, a₂, w₂, hq₂, harr₂⟩ := ih m hlt a₁ w₁ hI₁
    exact ⟨e₂, a₂, w₂, hq₂, .of_steps (StepsIn.trans harr (.one (fenced_calm hb hr rfl) stepR_inLoop)) harr₂⟩
   | exit id => exact ⟨_, a₁, w₁, hq, .pass (x := .inLoop c) rfl (fun _ _ => .inl (by simp)) harr⟩
   | goto l => exact ⟨_, a₁, w₁, hq, .pass (x := .inLoop c) rfl (fun _ _ => .inl (by simp)) harr⟩
   | ret => exact ⟨_, a₁, w₁, hq, .pass (x := .inLoop c) rfl (fun _ _ => .inl (by simp)) harr⟩
   | panic ch => exact ⟨_, a₁, w₁, hq, .pass (x := .inLoop c) rfl (fun _ _ => .inl (by simp)) harr⟩
   | outgrown => exact ⟨_, a₁, w₁, hq, .pass (x := .inLoop c) rfl (fun _ _ => .inl (by simp)) harr⟩
 obtain ⟨e, a', w', hq, harr⟩ := key n a w h0
 exact ⟨e, a', w', hq, .of_steps (.one (fenced_calm hb hr rfl) stepR_loop) harr⟩
def Mk (bs : List Deferred) (w0 : World) (ds : List Deferred) (w : World) (S : Nat → Prop) : Prop :=
 ∃ rs : List Nat, ds = rs.map (fun r => { target := .collected r, args := #[] }) ++ bs ∧ rs.Nodup ∧ ∀ r ∈ rs, w0.heap.size ≤ r ∧ ¬ S r ∧ w.heap[r]? = some (.deferred (some []))
theorem Mk.nil {bs : List Deferred} {w0 w : World} {S : Nat → Prop} : Mk bs w0 bs w S := ⟨[], rfl, List.nodup_nil, fun r h => by cases h⟩
theorem Mk.step {bs : List Deferred} {w0 w w' : World} {ds : List Deferred} {S S' O : Nat → Prop} (h : Mk bs w0 ds w S) (hO : ∀ B, O B → S B) (hf : FrameR w S O w' S') : Mk bs w0 ds w' S' := by
 obtain ⟨rs, h1, h2, h3⟩ := h
 refine ⟨rs, h1, h2, fun r hr => ?_⟩
 obtain ⟨a, b, c⟩ := h3 r hr
 have hlt : r < w.heap.size := (Array.getElem?_eq_some_iff.1 c).1
 exact ⟨a, fun hs => b (hf.shut r hlt hs), by rw [hf.keep r hlt (fun ho => b (hO r ho))]; exact c⟩
section
variable {P : Program} {E : Env} {N : Nat × List Deferred} {κ0 : Nat → Bind} {w0 : World} {S0 O0 : Nat → Prop}
theorem Inv.drew {n0 : Nat} {tm : TM} {H : HP} {a : Act} {w : World} {S : Nat → Prop} {κ : Nat → Bind} (hi : Inv n0 N κ0 w0 S0 O0 tm H a w S κ) : Inv n0 N κ0 w0 S0 O0 tm H a { w with drawn := w.drawn + 1 } S κ :=
 ⟨⟨hi.m.hr, ⟨hi.m.fr.os, hi.m.fr.tape, hi.m.fr.output, hi.m.fr.size, hi.m.fr.keep, hi.m.fr.shut, hi.m.fr.held⟩, hi.m.kp, hi.m.len, hi.m.ow⟩, hi.tr, hi.df, hi.sz⟩
theorem Inv.wk {n0 : Nat} {tm tm' : TM} {H H' : HP} {a : Act} {w : World} {S : Nat → Prop} {κ : Nat → Bind} (hi : Inv n0 N κ0 w0 S0 O0 tm H a w S κ) (hw : Wk n0 tm H tm' H') :
  NW tm' ∧ ∃ κ' S', Inv n0 N κ0 w0 S0 O0 tm' H' a w S' κ' ∧ ∀ B, S' B → S B := by
 unfold Wk at hw
 obtain ⟨κ', S', h1, h2, h3, h4, h5, h6, h7, h8⟩ := hw w S κ a hi.m.hr hi.tr hi.m.len
 refine ⟨h6, κ', S', ⟨⟨h1, ⟨hi.m.fr.os, hi.m.fr.tape, hi.m.fr.output, hi.m.fr.size, hi.m.fr.keep, fun B hB hS => hi.m.fr.shut B hB (h7 B hS), fun B hB hS hO => ?_⟩, fun i hi' => by rw [h3 i hi']; exact hi.m.kp i hi', h4, fun i B hB hlt => ?_⟩, h2, hi.df, hi.sz⟩, h7⟩
 ·by_cases h : S' B
  ·exact h
  ·obtain ⟨j, hj⟩ := h8 B (hi.m.fr.held B hB hS hO) h
   exact absurd (hi.m.ow j B hj hB) hO
 ·obtain ⟨j, hj⟩ := h5 i B hB
  exact hi.m.ow j B hj hlt
theorem Mk.shrink {bs : List Deferred} {w0 w : World} {ds : List Deferred} {S S' : Nat → Prop} (h : Mk bs w0 ds w S) (hS : ∀ B, S' B → S B) : Mk bs w0 ds w S' := by
 obtain ⟨rs, h1, h2, h3⟩ := h
 refine ⟨rs, h1, h2, fun r hr => ?_⟩
 obtain ⟨a, b, c⟩ := h3 r hr
 exact ⟨a, fun h => b (hS r h), c⟩
theorem hasGuard_no : ∀ {l : List Oper}, hasGuard l = false → ∀ o ∈ l, o.guard = none
 | [], _, o, ho => by cases ho
 | x :: r, h, o, ho => by
  simp only [hasGuard] at h
  split at h
  ·cases h
  ·rename_i hx
   rcases List.mem_cons.1 ho with rfl | ho
   ·exact hx
   ·exact hasGuard_no h o ho
theorem awOp_nw {ops : Array Oper} {o : Oper} (hg : o.guard = none) {tm : TM} {H : HP} {K : TM → HP → Prop} (hk : awOp P E ops o tm H K) : aop P E o [] true tm H K := by
 unfold awOp gOf at hk
 rw [hg] at hk
 exact hk
theorem awOps_nw (he : EnvOk P E) {ops : Array Oper} {n0 : Nat} : ∀ (l : List Oper), (∀ o ∈ l, o.guard = none) → (∀ o ∈ l, ∀ d, o.dst = some d → d < N.1) → ∀ {tm : TM} {H : HP} {a : Act} {w : World} {S : Nat → Prop} {κ : Nat → Bind} {K : TM → HP → Prop} {Q : Exit → Act → World → Prop},
  PanQ E n0 N κ0 w0 S0 O0 Q → Inv n0 N κ0 w0 S0 O0 tm H a w S κ → NW tm → awOps P E ops l tm H K → (∀ tm' H' S' κ' a' w', K tm' H' → NW tm' → Inv n0 N κ0 w0 S0 O0 tm' H' a' w' S' κ' → Q .normal a' w') → wpListW P ops Q l a w
 | [], _, _, tm, H, a, w, S, κ, K, Q, _, hi, hn, hk, hq => by
  simp only [awOps] at hk
  exact hq tm H S κ a w hk hn hi
 | o :: l, hg, hd, tm, H, a, w, S, κ, K, Q, hP, hi, hn, hk, hq => by
  simp only [awOps] at hk
  have hgo := hg o (by simp)
  have h1 := op_spec (Q := Q) he hi (NW.ri (ops := ops) (gs := []) (D := fun _ => True) hn).wok (hd o (by simp)) hP (awOp_nw hgo hk)
  unfold wpListW
  rw [if_pos (by simp [Region.wanted, hgo])]
  refine OpW.mono ?_ h1
  rintro a' w' ⟨tm', H', S', κ', hk, hp, hi', u, rfl⟩
  refine awOps_nw he l (fun o ho => hg o (List.mem_cons_of_mem _ ho)) (fun o ho => hd o (List.mem_cons_of_mem _ ho)) hP hi' ?_ hk hq
  rcases hp with ⟨_, rfl⟩ | ⟨d, v, _, hv, rfl⟩
  ·exact hn
  ·intro t ch g x hl
   rw [lk_cons] at hl
   split at hl
   ·subst hl; exact hv
   ·exact hn t ch g x hl
theorem condK_spec {n0 : Nat} {tm : TM} {H : HP} {a : Act} {w : World} {S : Nat → Prop} {κ : Nat → Bind} (hi : Inv n0 N κ0 w0 S0 O0 tm H a w S κ) {x : Operand} {A B : Prop} (hk : condK tm x A B) : ∃ b, a.eval x = .bool b ∧ (if b then A else B) := by
 unfold condK at hk
 split at hk
 ·rename_i t
  rw [lkK_eq] at hk
  have h1 := hi.tr t
  split at hk
  ·rename_i hl; rw [hl] at h1; exact ⟨true, by show a.tmps.getD t undef = _; simpa only [AVR] using h1, by simpa using hk⟩
  ·rename_i hl; rw [hl] at h1; exact ⟨false, by show a.tmps.getD t undef = _; simpa only [AVR] using h1, by simpa using hk⟩
  ·rename_i e hl
   rw [hl] at h1
   refine ⟨e, by show a.tmps.getD t undef = _; simpa only [AVR, CVR] using h1, ?_⟩
   cases e
   ·simpa using hk.2 rfl
   ·simpa using hk.1 rfl
  ·exact hk.elim
 ·exact ⟨true, rfl, by simpa using hk⟩
 ·exact ⟨false, rfl, by simpa using hk⟩
 ·exact hk.elim
theorem grownBy_putObj (w : World) (l : Nat) (o : Obj) : w.grownBy (w.putObj l o) (some l) :=
 ⟨rfl, rfl, rfl, by simp, fun k _ h => World.putObj_heap_other (fun e => h (by rw [e]))⟩
theorem Mem.self {n0 : Nat} {H : HP} {w : World} {S : Nat → Prop} {κ : Nat → Bind} (hm : Mem n0 κ0 w0 S0 O0 H w S κ) : Mem n0 κ w S (fun B => ∃ i, ownAt κ H i = some B) H w S κ :=
 ⟨hm.hr, ⟨rfl, rfl, rfl, Nat.le_refl _, fun _ _ _ => rfl, fun _ _ h => h, fun _ _ h _ => h⟩, fun _ _ => rfl, hm.len, fun i B hi _ => ⟨i, hi⟩⟩
def PanP (E : Env) (M : Nat) (bs : List Deferred) (κ0 : Nat → Bind) (w0 : World) (S0 O0 : Nat → Prop) (r : Option Nat) (ds : List Deferred) (e : Exit) (a' : Act) (w' : World) : Prop :=
 ∃ ts KP x V tm H S κ ds', E.pan = some (ts, KP) ∧ e = .panic [{ v := V, recovered := false }] ∧ KP x (ts.map (lk tm)) H ∧ CVR w'.heap S x V ∧ Inv E.n0 (M, ds') κ0 w0 S0 O0 tm H a' w' S κ ∧ Mk bs w0 ds' w' S ∧ (ds = [] → E.rnd = true → ds' = [])
def PostW (E : Env) (M : Nat) (bs : List Deferred) (κ0 : Nat → Bind) (w0 : World) (S0 O0 : Nat → Prop) (r : Option Nat) (ds : List Deferred) (Q : AEx → TM → HP → Prop) (e : Exit) (a' : Act) (w' : World) : Prop :=
 (∃ ae tm' H' S' κ' ds', AExR ae e ∧ Q ae tm' H' ∧ NW tm' ∧ Inv E.n0 (M, ds') κ0 w0 S0 O0 tm' H' a' w' S' κ' ∧ Mk bs w0 ds' w' S' ∧ (ds = [] → E.rnd = true → ds' = [])) ∨ PanP E M bs κ0 w0 S0 O0 r ds e a' w'
theorem map_lk_put {ts : List Nat} {d : Nat} {v : AV} {tm : TM} (h : d ∉ ts) : ts.map (lk ((d, v) :: tm)) = ts.map (lk tm) :=
 List.map_congr_left fun t ht => by
  rw [lk_cons, if_neg]
  rintro rfl
  exact h ht
theorem PostW.put {M : Nat} {bs : List Deferred} {r : Option Nat} {ds : List Deferred} {Q : AEx → TM → HP → Prop} : PutQ E (PostW E M bs κ0 w0 S0 O0 r ds Q) := by
 unfold PutQ
 split
 ·rename_i hp
  rintro c a w (⟨ae, _, _, _, _, _, hr, _⟩ | ⟨ts, KP, x, V, tm, H, S, κ, ds', h1, _⟩)
  ·cases ae <;> exact hr.elim
  ·rw [hp] at h1; cases h1
 ·rename_i ts KP hp
  rintro c a d v w hd (⟨ae, _, _, _, _, _, hr, _⟩ | ⟨ts', KP', x, V, tm, H, S, κ, ds', h1, h2, h3, h4, h5, h6, h7⟩)
  ·cases ae <;> exact hr.elim
  ·rw [hp] at h1
   injection h1 with h1
   injection h1 with h1 h1'
   subst h1 h1'
   refine .inr ⟨ts, KP, x, V, (d, .top) :: tm, H, S, κ, ds', hp, h2, by rw [map_lk_put hd]; exact h3, h4, ⟨h5.m, fun t => ?_, h5.df, by simpa [Act.put] using h5.sz⟩, h6, h7⟩
   rw [lk_cons]
   split
   ·simp only [AVR]
   ·rename_i hne
    have := h5.tr t
    simp only [Act.put] at this
    rw [Array.getD_eq_getD_getElem?, Array.getElem?_setIfInBounds, if_neg hne, ← Array.getD_eq_getD_getElem?] at this
    exact this
def Exit.noGo (Q : Exit → Act → World → Prop) : Exit → Act → World → Prop
 | .goto _, _, _ => False
 | e, a, w => Q e a w
theorem stepR_scope {P : Program} {b : Frame} {a : Act} {k : List Item} {cs : List Frame} {w : World} {c : Code} : step P (lone (b.atR a (.code (.scope c) :: k)) cs w) = .next (lone (b.atR a (.code c :: .inScope c :: k)) cs w) :=
 step_lone_go (by simp [stepG, stepG.exec, Frame.atR])
theorem stepR_inScope {P : Program} {b : Frame} {a : Act} {k : List Item} {cs : List Frame} {w : World} {c : Code} : step P (lone (b.atR a (.inScope c :: k)) cs w) = .next (lone (b.atR a k) cs w) :=
 step_lone_go (by simp [stepG, stepG.exec, Frame.atR])
theorem wpIn_scope {F : Fence} {n : Nat} {P : Program} {Q : Exit → Act → World → Prop} {a : Act} {w : World} {c : Code} (h : c.wpIn F n P (Exit.noGo Q) a w) : (Code.scope c).wpIn F n P Q a w := by
 intro b k cs hro hb hr
 have h0 : (lone (b.atR a (.code (.scope c) :: k)) cs w).fenced P F := fenced_calm hb hr rfl
 obtain ⟨e, a₁, w₁, hq, harr⟩ := h b (.inScope c :: k) cs hro hb hr
 cases e with
 | normal => exact ⟨.normal, a₁, w₁, hq, .head h0 stepR_scope (StepsIn.trans harr (.one (fenced_calm hb hr rfl) stepR_inScope))⟩
 | exit id =>
  have hx : exitTo id (.inScope c :: k) = exitTo id k := by simp [exitTo]
  exact ⟨.exit id, a₁, w₁, hq, fun k' hk => .head h0 stepR_scope (harr.1 k' (by rw [hx]; exact hk)),
   fun hr' hk => let ⟨k₁, h1, h2⟩ := harr.2 hr' (by rw [hx]; exact hk); ⟨k₁, h1, .head h0 stepR_scope h2⟩⟩
 | goto l => exact hq.elim
 | ret => exact ⟨_, a₁, w₁, hq, .of_steps (.one h0 stepR_scope) harr⟩
 | panic ch => exact ⟨_, a₁, w₁, hq, .of_steps (.one h0 stepR_scope) harr⟩
 | outgrown => exact ⟨_, a₁, w₁, hq, .of_steps (.one h0 stepR_scope) harr⟩
theorem aw_spec (he : EnvOk P E) (hmix : P.follows .mixedOrders = true) {M : Nat} {bs : List Deferred} {r : Option Nat} (hrd : r = none ∨ E.rnd = true) : ∀ (c : Code) {m : Nat} {tm : TM} {H : HP} {a : Act} {w : World} {S : Nat → Prop} {κ : Nat → Bind} {Q : AEx → TM → HP → Prop} {ds : List Deferred},
  codeOk M c = true → aw P E c tm H Q → NW tm → Inv E.n0 (M, ds) κ0 w0 S0 O0 tm H a w S κ → Mk bs w0 ds w S →
  c.wpIn (Fr r) m P (PostW E M bs κ0 w0 S0 O0 r ds Q) a w := by
 intro c
 induction c with
 | skip =>
  intro m tm H a w S κ Q ds _ hk hn hi hmk
  exact wpIn_skip (.inl ⟨.normal, tm, H, S, κ, ds, trivial, hk, hn, hi, hmk, fun h _ => h⟩)
 | label l =>
  intro m tm H a w S κ Q ds _ hk hn hi hmk
  exact wpIn_label (.inl ⟨.normal, tm, H, S, κ, ds, trivial, hk, hn, hi, hmk, fun h _ => h⟩)
 | scope c ih =>
  intro m tm H a w S κ Q ds hok hk hn hi hmk
  simp only [codeOk] at hok
  simp only [aw] at hk
  refine wpIn_scope (wpIn_mono (ih hok hk hn hi hmk) ?_)
  intro e a' w' h
  cases e with
  | goto l =>
   rcases h with ⟨ae, _, _, _, _, _, hr, _⟩ | hpn
   ·cases ae <;> exact hr.elim
   ·obtain ⟨_, _, _, _, _, _, _, _, _, _, he, _⟩ := hpn
    cases he
  | _ => exact h
 | region id ops draw =>
  intro m tm H a w S κ Q ds hok hk hn hi hmk
  simp only [codeOk] at hok
  obtain ⟨gs, hf⟩ := regOk_facts hok
  have hself : Inv E.n0 (M, ds) κ w S (fun B => ∃ i, ownAt κ H i = some B) tm H a w S κ := ⟨hi.m.self, hi.tr, hi.df, hi.sz⟩
  have hO : ∀ B, (∃ i, ownAt κ H i = some B) → S B := fun B ⟨i, hB⟩ => hi.m.hr.own i B hB
  have hPan : PanQ E E.n0 (M, ds) κ w S (fun B => ∃ i, ownAt κ H i = some B) (PostW E M bs κ0 w0 S0 O0 r ds Q) := fun ts KP hp x V tm2 H2 a2 w2 S2 κ2 h1 h2 hi2 =>
   .inr ⟨ts, KP, x, V, tm2, H2, S2, κ2, ds, hp, rfl, h1, h2, ⟨hi.m.rebase hi2.m, hi2.tr, hi2.df, hi2.sz⟩, hmk.step hO hi2.m.fr, fun h _ => h⟩
  cases draw with
  | false =>
   simp only [aw] at hk
   refine wpIn_region_list (wpListW.wpIn ?_)
   split at hk
   ·refine awOps_spec he hf ops.toList 0 (by simp) hPan hself hn.ri hk ?_
    intro tm' H' S' κ' a' w' hk hi'
    obtain ⟨tm'', hk, hno⟩ := noWhen_spec hk
    refine .inl ⟨.normal, tm'', H', S', κ', ds, trivial, hk, fun t ch g x hl => ?_, ⟨hi.m.rebase hi'.m, fun t => ?_, hi'.df, hi'.sz⟩, hmk.step hO hi'.m.fr, fun h _ => h⟩
    ·rcases hno t with h | ⟨h1, h2⟩
     ·rw [h] at hl; cases hl
     ·rw [h1] at hl; exact h2 ch g x hl
    ·rcases hno t with h | ⟨h1, h2⟩
     ·rw [h]; simp only [AVR]
     ·rw [h1]; exact hi'.tr t
   ·rename_i hg
    refine awOps_nw he ops.toList (hasGuard_no hg) (fun o ho d hd => ?_) hPan hself hn hk ?_
    ·obtain ⟨i, hi'⟩ := List.mem_iff_getElem?.1 ho
     exact hf.dlt i o (by simpa using hi') d hd
    ·intro tm' H' S' κ' a' w' hk hn' hi'
     exact .inl ⟨.normal, tm', H', S', κ', ds, trivial, hk, hn', ⟨hi.m.rebase hi'.m, hi'.tr, hi'.df, hi'.sz⟩, hmk.step hO hi'.m.fr, fun h _ => h⟩
  | true =>
   simp only [aw] at hk
   unfold DrawSt at hk
   refine wpIn_region_any hmix (wpAnyW.wpIn ?_)
   exact hk (M, ds) κ w S _ a _ S κ _ he hok PostW.put hPan hn hself.drew fun tm' H' S' κ' a' w' hk hn' hi' => .inl ⟨.normal, tm', H', S', κ', ds, trivial, hk, hn', ⟨hi.m.rebase hi'.m, hi'.tr, hi'.df, hi'.sz⟩, hmk.step hO hi'.m.fr, fun h _ => h⟩
 | seq x y ihx ihy =>
  intro m tm H a w S κ Q ds hok hk hn hi hmk
  simp only [codeOk, Bool.and_eq_true] at hok
  simp only [aw] at hk
  refine wpIn_seq (wpIn_mono (ihx hok.1 hk hn hi hmk) ?_)
  rintro e a' w' (⟨ae, tm', H', S', κ', ds', hr, hk, hn', hi', hmk', hds⟩ | hpn)
  ·cases ae <;> cases e <;> simp only [AExR] at hr <;> try exact hr.elim
   ·refine wpIn_mono (ihy hok.2 hk hn' hi' hmk') ?_
    rintro e a2 w2 (⟨ae, tm2, H2, S2, κ2, ds2, hr, hk, hn2, hi2, hmk2, hds2⟩ | ⟨ts, KP, x, V, tm2, H2, S2, κ2, ds2, h1, h2, h3, h4, h5, h6, h7⟩)
    ·exact .inl ⟨ae, tm2, H2, S2, κ2, ds2, hr, hk, hn2, hi2, hmk2, fun h1 h2 => hds2 (hds h1 h2) h2⟩
    ·exact .inr ⟨ts, KP, x, V, tm2, H2, S2, κ2, ds2, h1, h2, h3, h4, h5, h6, fun g1 g2 => h7 (hds g1 g2) g2⟩
   ·subst hr; exact .inl ⟨.exit _, tm', H', S', κ', ds', rfl, hk, hn', hi', hmk', hds⟩
   ·exact .inl ⟨.ret, tm', H', S', κ', ds', trivial, hk, hn', hi', hmk', hds⟩
  ·have hpn0 := hpn
   obtain ⟨ts, KP, x, V, tm2, H2, S2, κ2, ds2, h1, rfl, _⟩ := hpn
   exact .inr hpn0
 | cond x p q ihp ihq =>
  intro m tm H a w S κ Q ds hok hk hn hi hmk
  simp only [codeOk, Bool.and_eq_true] at hok
  simp only [aw] at hk
  obtain ⟨b, hb, hk⟩ := condK_spec hi hk
  refine wpIn_cond hb ?_
  cases b with
  | true => exact ihp hok.1 (by simpa using hk) hn hi hmk
  | false => exact ihq hok.2 (by simpa using hk) hn hi hmk
 | block id c ih =>
  intro m tm H a w S κ Q ds hok hk hn hi hmk
  simp only [codeOk] at hok
  simp only [aw] at hk
  refine wpIn_block (wpIn_mono (ih hok hk hn hi hmk) ?_)
  rintro e a' w' (⟨ae, tm', H', S', κ', ds', hr, hk, hn', hi', hmk', hds⟩ | hpn)
  ·cases ae <;> cases e <;> simp only [AExR] at hr <;> try exact hr.elim
   ·exact .inl ⟨.normal, tm', H', S', κ', ds', trivial, hk, hn', hi', hmk', hds⟩
   ·subst hr
    rename_i i
    simp only at hk
    simp only [Exit.inBlock]
    split at hk
    ·rename_i hb
     rw [if_pos (Nat.eq_of_beq_eq_true hb)]
     exact .inl ⟨.normal, tm', H', S', κ', ds', trivial, hk, hn', hi', hmk', hds⟩
    ·rename_i hb
     rw [if_neg (fun e => by subst e; simp at hb)]
     exact .inl ⟨.exit _, tm', H', S', κ', ds', rfl, hk, hn', hi', hmk', hds⟩
   ·exact .inl ⟨.ret, tm', H', S', κ', ds', trivial, hk, hn', hi', hmk', hds⟩
  ·have hpn0 := hpn
   obtain ⟨ts, KP, x, V, tm2, H2, S2, κ2, ds2, h1, rfl, _⟩ := hpn
   exact .inr hpn0
 | loop c ih =>
  intro m tm H a w S κ Q ds hok hk hn hi hmk
  simp only [codeOk] at hok
  simp only [aw] at hk
  unfold LoopSt at hk
  obtain ⟨I, ⟨n, tm1, H1, h1, hw1⟩, hround⟩ := hk
  obtain ⟨hn1, κ1, S1, hi1, hsh1⟩ := hi.wk hw1
  refine wp_loop_idx (fun n a w => ∃ tm H S κ ds', I n tm H ∧ NW tm ∧ Inv E.n0 (M, ds') κ0 w0 S0 O0 tm H a w S κ ∧ Mk bs w0 ds' w S ∧ (ds = [] → E.rnd = true → ds' = [])) ?_ n ⟨tm1, H1, S1, κ1, ds, h1, hn1, hi1, hmk.shrink hsh1, fun h _ => h⟩
  rintro n a w ⟨tm, H, S, κ, ds1, hI, hn, hi, hmk, hds1⟩
  refine wpIn_mono (ih hok (hround n tm H hI) hn hi hmk) ?_
  rintro e a' w' (⟨ae, tm', H', S', κ', ds', hr, hk, hn', hi', hmk', hds⟩ | ⟨ts, KP, x, V, tm2, H2, S2, κ2, ds2, h1, rfl, h3, h4, h5, h6, h7⟩)
  ·cases ae <;> cases e <;> simp only [AExR] at hr <;> try exact hr.elim
   ·obtain ⟨m, tm2, H2, hlt, hI2, hw2⟩ := hk
    obtain ⟨hn2, κ2, S2, hi2, hsh2⟩ := hi'.wk hw2
    exact ⟨m, hlt, tm2, H2, S2, κ2, ds', hI2, hn2, hi2, hmk'.shrink hsh2, fun h1 h2 => hds (hds1 h1 h2) h2⟩
   ·subst hr; exact .inl ⟨.exit _, tm', H', S', κ', ds', rfl, hk, hn', hi', hmk', fun h1 h2 => hds (hds1 h1 h2) h2⟩
   ·exact .inl ⟨.ret, tm', H', S', κ', ds', trivial, hk, hn', hi', hmk', fun h1 h2 => hds (hds1 h1 h2) h2⟩
  ·exact .inr ⟨ts, KP, x, V, tm2, H2, S2, κ2, ds2, h1, rfl, h3, h4, h5, h6, fun g1 g2 => h7 (hds1 g1 g2) g2⟩
 | exit id =>
  intro m tm H a w S κ Q ds _ hk hn hi hmk
  exact wpIn_exit (.inl ⟨.exit id, tm, H, S, κ, ds, rfl, hk, hn, hi, hmk, fun h _ => h⟩)
 | ret =>
  intro m tm H a w S κ Q ds _ hk hn hi hmk
  exact wpIn_ret (.inl ⟨.ret, tm, H, S, κ, ds, trivial, hk, hn, hi, hmk, fun h _ => h⟩)
 | rangeFunc g ps asg body _ _ =>
  intro m tm H a w S κ Q ds hok hk hn hi hmk
  simp only [codeOk, Bool.and_eq_true, List.all_eq_true, decide_eq_true_eq] at hok
  simp only [aw, rangeK] at hk
  split at hk
  ·exact hk.elim
  rename_i hrnd
  obtain rfl : r = none := by
   rcases hrd with h | h
   ·exact h
   ·rw [hrnd] at h; cases h
  obtain ⟨fv, hk, hfv⟩ := evK_spec hi.tr (NW.ri (ops := #[]) (gs := []) (D := fun _ => True) hn).wok (fun p hp => by cases hp) hk
  split at hk
  case h_2 => exact hk.elim
  rename_i f caps
  simp only [AVR] at hfv
  obtain ⟨cs, hfe, hcs⟩ := hfv
  replace hk := snocK_spec hk
  refine wpIn_rangeFunc fun fn _ => ?_
  have hself := hi.m.self
  generalize hrc : ({ state := .ready, pending := none, fn := fn, tmps := a.tmps, params := ps, assign := asg, body := body, defers := w.heap.size } : Loop) = rc
  have hrc2 : rc.state = .ready ∧ rc.pending = none ∧ rc.params = ps ∧ rc.assign = asg ∧ rc.body = body ∧ rc.tmps = a.tmps := by rw [← hrc]; exact ⟨rfl, rfl, rfl, rfl, rfl, rfl⟩
  generalize hw1 : (w.alloc (.deferred (some []))).alloc (.loop rc) = w1
  have hsz1 : w1.heap.size = w.heap.size + 2 := by rw [← hw1]; simp
  have hold : ∀ B, B < w.heap.size → w1.heap[B]? = w.heap[B]? := fun B hB => by
   rw [← hw1, heap_alloc_old _ _ B (by simp; omega), heap_alloc_old _ _ B hB]
  have hD : w1.heap[w.heap.size]? = some (.deferred (some [])) := by
   rw [← hw1, heap_alloc_old _ _ _ (by simp), World.alloc_heap_new]
  have hl : w1.heap[w.heap.size + 1]? = some (.loop rc) := by
   have := World.alloc_heap_new (w.alloc (.deferred (some []))) (.loop rc)
   rw [hw1] at this
   simpa using this
  have hg : w.grownBy w1 none := by
   refine ⟨?_, ?_, ?_, by omega, fun k hk _ => hold k hk⟩ <;> rw [← hw1] <;> rfl
  have hpre : Ext w S κ w1 (fun B => S B ∨ owns (.lrec .ready tm ps asg body) (.blk (w.heap.size + 1)) = some B) (updB κ H.length (.blk (w.heap.size + 1))) := by
   refine ⟨fun B off v h1 h2 => ?_, fun i hi' => ?_⟩
   ·have hlt := cellAt_lt h2
    refine ⟨fun h => ?_, ?_⟩
    ·rcases h with h | h
     ·exact h1 h
     ·simp only [owns, Option.some.injEq] at h; omega
    ·rw [cellAt_same (hold B hlt)]; exact h2
   ·unfold updB
    rw [if_neg]
    intro e
    exact hi' (hi.m.hr.out i (by omega))
  have hself1 : updB κ H.length (.blk (w.heap.size + 1)) H.length = .blk (w.heap.size + 1) := by simp [updB]
  obtain ⟨m1, e1⟩ := hself.push none hg (fun B h => by cases h) (.lrec .ready tm ps asg body) (.blk (w.heap.size + 1))
   (fun B h => by
    simp only [owns, Option.some.injEq] at h
    subst h
    exact ⟨.inr (by omega), by omega⟩)
   (.inr ⟨_, rc, rfl, hl, ⟨hrc2.1, hrc2.2.1⟩, hrc2.2.2.1, hrc2.2.2.2.1, hrc2.2.2.2.2.1, fun t => by rw [hrc2.2.2.2.2.2]; exact hpre.avr (hi.tr t), fun t ht => by rw [hrc2.2.2.2.2.2, hi.sz]; exact hok.1.1 t ht, by rw [hrc2.2.2.2.2.2, hi.sz]; exact hok.1.2, by rw [hrc2.2.2.2.2.2, hi.sz]; exact hok.2⟩)
  have hcall := hk
  unfold CallSt at hcall
  obtain ⟨hcb, hcall⟩ := hcall
  have hcl := hcall w1 _ _ (.func (.yield (w.heap.size + 1)) #[] #[] :: cs.toList) m1.hr (by
   simp only [AVRs, AVR]
   exact ⟨_, _, rfl, ⟨_, hself1, rfl⟩, e1.avrs hcs⟩)
  refine ⟨w.heap.size + 1, [{ target := .collected w.heap.size, args := #[] }], w1, { target := .fn (.func f) cs, args := #[.func (.yield (w.heap.size + 1)) #[] #[]] }, w1, f, #[.func (.yield (w.heap.size + 1)) #[] #[]] ++ cs, w1, ?_, ?_, fun _ _ => trivial, ?_, fun h => (by cases h), callsIn_calls.2 ?_⟩
  ·rw [← hw1, ← hrc]
   exact run_enterLoop_outer fn a.tmps ps asg body
  ·simp [resolve, rangeCall, hfe, Deferred.ofValue]
   rfl
  ·unfold callable at hcb
   split at hcb
   ·rename_i fn' hfn
    simp only [Bool.and_eq_true, Bool.not_eq_true', beq_eq_false_iff_ne, ne_eq] at hcb
    obtain ⟨hb1, hb2⟩ := hcb
    have hb3 : fn'.body.isNone = false := by cases hb : fn'.body <;> simp_all
    simp [invoke, callFunc, program, Sem.run, Sem.run_bind, hfn, hb2]
    intro hbn
    simp [hbn] at hb1
   ·cases hcb
  ·have ea : (Value.func (.yield (w.heap.size + 1)) #[] #[] :: cs.toList).toArray = #[.func (.yield (w.heap.size + 1)) #[] #[]] ++ cs := by
    apply Array.ext'; simp
   rw [ea] at hcl
   refine hcl.mono ?_
   rintro e w2 ⟨v, rr, H2, κ2, S2, rfl, hk, m2, _⟩
   obtain ⟨en, hen, hk⟩ := getK_spec hk
   have hκn : κ2 H.length = .blk (w.heap.size + 1) := by rw [m2.kp H.length (by simp)]; exact hself1
   have hent := m2.hr.ent H.length en hen
   rw [hκn] at hent
   have main : ∀ (st : LSt) (tm2 : TM) (ps2 : Array Nat) (asg2 body2 : Code) (j : Option Code) (ae : AEx) (e : Exit), en = .lrec st tm2 ps2 asg2 body2 → (∀ r, LStR st r → r.state ≠ .busy ∧ r.pending = j) → (setK H2 H.length .dead fun H3 => Q ae tm H3) → AExR ae e →
     (match j with | none => e = .normal | some c => (e = .ret ∧ c = .ret) ∨ ∃ i, e = .exit i ∧ c = .exit i) →
     rangePost (Fr none) m P (w.heap.size + 1) (PostW E M bs κ0 w0 S0 O0 none ds Q)
      { a with defers := [{ target := .collected w.heap.size, args := #[] }] ++ a.defers } (.returned v) w2 := by
    intro st tm2 ps2 asg2 body2 j ae e he hst hq hae hj
    subst he
    simp only [EntR] at hent
    rcases hent with hent | ⟨l', r', hl', hh, hs, _⟩
    ·cases hent
    injection hl' with hl'
    subst hl'
    obtain ⟨hs1, hs2⟩ := hst r' hs
    obtain ⟨_, hq⟩ := setK_spec hq
    have hlt2 : w.heap.size + 1 < w2.heap.size := (Array.getElem?_eq_some_iff.1 hh).1
    obtain ⟨m3, _⟩ := m2.write (i := H.length) (B := w.heap.size + 1) (e' := .dead) (w' := w2.putObj (w.heap.size + 1) (.loop { r' with state := .exhausted })) hen (by rw [hκn]; rfl) (fun B' h => by simp [owns] at h)
     (grownBy_putObj w2 _ _) trivial
    obtain ⟨mm, e3⟩ := m1.trans m3
    have hfin : PostW E M bs κ0 w0 S0 O0 none ds Q e { a with defers := [{ target := .collected w.heap.size, args := #[] }] ++ a.defers } (w2.putObj (w.heap.size + 1) (.loop { r' with state := .exhausted })) := by
     refine .inl ⟨ae, tm, _, S2, κ2, { target := .collected w.heap.size, args := #[] } :: ds, hae, hq, hn, ⟨hi.m.rebase mm, fun t => e3.avr (e1.avr (hi.tr t)), by simp [hi.df], hi.sz⟩, ?_, fun _ h => (by rw [hrnd] at h; cases h)⟩
     obtain ⟨rs, h1, h2, h3⟩ := hmk.step (fun B ⟨i, hB⟩ => hi.m.hr.own i B hB) mm.fr
     have hnS1 : ¬ (S w.heap.size ∨ owns (.lrec .ready tm ps asg body) (.blk (w.heap.size + 1)) = some w.heap.size) := by
      rintro (h | h)
      ·exact Nat.lt_irrefl _ (hi.m.hr.sz _ h)
      ·simp only [owns, Option.some.injEq] at h; omega
     have hDlt : w.heap.size < w1.heap.size := by omega
     refine ⟨w.heap.size :: rs, by rw [h1]; rfl, List.nodup_cons.2 ⟨fun hin => ?_, h2⟩, fun r hr => ?_⟩
     ·obtain ⟨rs', g1, g2, g3⟩ := hmk
      have hrr : rs = rs' := by
       have := List.append_cancel_right (h1.symm.trans g1)
       exact (List.map_inj_right (fun x y hxy => by injection hxy with h; injection h)).1 this
      rw [hrr] at hin
      have := (Array.getElem?_eq_some_iff.1 (g3 _ hin).2.2).1
      omega
     ·rcases List.mem_cons.1 hr with rfl | hr
      ·refine ⟨hi.m.fr.size, fun hs => hnS1 (m2.fr.shut _ hDlt hs), ?_⟩
       rw [World.putObj_heap_other (by omega), m2.fr.keep _ hDlt (fun ⟨i, hB⟩ => hnS1 (m1.hr.own i _ hB))]
       exact hD
      ·exact h3 r hr
    refine ⟨j, _, by rw [← hs2]; exact run_endLoop hh hs1, ?_⟩
    cases j with
    | none =>
     simp only at hj
     subst hj
     exact hfin
    | some c =>
     rcases hj with ⟨rfl, rfl⟩ | ⟨i, rfl, rfl⟩
     ·exact wpIn_ret hfin
     ·exact wpIn_exit hfin
   split at hk
   ·exact main _ _ _ _ _ none .normal .normal rfl (fun r h => ⟨by rw [h.1]; exact fun h => (by cases h), h.2⟩) hk trivial rfl
   ·rename_i i _ _ _ _
    exact main _ _ _ _ _ (some (.exit i)) (.exit i) (.exit i) rfl (fun r h => ⟨by rw [h.1]; exact fun h => (by cases h), h.2⟩) hk rfl (.inr ⟨i, rfl, rfl⟩)
   ·exact main _ _ _ _ _ (some .ret) .ret .ret rfl (fun r h => ⟨by rw [h.1]; exact fun h => (by cases h), h.2⟩) hk trivial (.inl ⟨rfl, rfl⟩)
   ·exact hk.elim
 | _ => intro m tm H a w S κ Q ds _ hk hn hi hmk; exact hk.elim
end
end Go.Tr
/- The engine, part 17: contracts of calls: how one is shown, how one is used. -/
namespace Go.Tr
mutual
def AV.ren (φ : Nat → Nat) : AV → AV
 | .agg l => .agg (AV.rens φ l)
 | .tup l => .tup (AV.rens φ l)
 | .ptr i o => .ptr (φ i) o
 | .own i => .own (φ i)
 | .elt i s k j => .elt (φ i) s k j
 | .fn f cs => .fn f (AV.rens φ cs)
 | .bd f cs => .bd f (AV.rens φ cs)
 | .when ch g x => .when ch g (AV.ren φ x)
 | .top => .top
 | .c x => .c x
 | .nil => .nil
 | .rd l => .rd l
 | .kn b => .kn b
 | .yv i => .yv (φ i)
 | .mpv i => .mpv (φ i)
def AV.rens (φ : Nat → Nat) : List AV → List AV
 | [] => []
 | x :: xs => AV.ren φ x :: AV.rens φ xs
end
def TM.ren (φ : Nat → Nat) : TM → TM
 | [] => []
 | (t, v) :: r => (t, AV.ren φ v) :: TM.ren φ r
theorem lk_ren (φ : Nat → Nat) : ∀ (tm : TM) (t : Nat), lk (TM.ren φ tm) t = AV.ren φ (lk tm t)
 | [], t => by simp only [TM.ren, lk, AV.ren]
 | (d, v) :: r, t => by
  rw [TM.ren, lk_cons, lk_cons, lk_ren φ r t]
  split <;> rfl
def Ent.ren (φ : Nat → Nat) : Ent → Ent
 | .box l => .box (AV.rens φ l)
 | .row el s b es => .row el s b es
 | .frz x => .frz x
 | .dead => .dead
 | .lrec st tm ps a b => .lrec st (TM.ren φ tm) ps a b
 | .mp st m => .mp st m
mutual
def AV.lt (n : Nat) : AV → Bool
 | .agg l => AV.lts n l
 | .tup l => AV.lts n l
 | .ptr i _ => Nat.blt i n
 | .own i => Nat.blt i n
 | .elt i _ _ _ => Nat.blt i n
 | .fn _ cs => AV.lts n cs
 | .bd _ cs => AV.lts n cs
 | .when _ _ _ => false
 | .top => true
 | .c _ => true
 | .nil => true
 | .rd _ => true
 | .kn _ => true
 | .yv i => Nat.blt i n
 | .mpv i => Nat.blt i n
def AV.lts (n : Nat) : List AV → Bool
 | [] => true
 | x :: xs => match AV.lt n x with | true => AV.lts n xs | false => false
end
section
variable {h : Array Obj} {S : Nat → Prop} {κ κ' : Nat → Bind}
mutual
theorem AVR.ren {φ : Nat → Nat} : ∀ (x : AV) {v : Value}, AVR h S κ (AV.ren φ x) v ↔ AVR h S (fun i => κ (φ i)) x v
 | .top, v => by simp only [AV.ren, AVR]
 | .c x, v => by simp only [AV.ren, AVR]
 | .nil, v => by simp only [AV.ren, AVR]
 | .agg l, v => by simp only [AV.ren, AVR, AVRs.ren l]
 | .tup l, v => by simp only [AV.ren, AVR, AVRs.ren l]
 | .ptr i o, v => by simp only [AV.ren, AVR]
 | .rd l, v => by simp only [AV.ren, AVR]
 | .own i, v => by simp only [AV.ren, AVR]
 | .elt i s k j, v => by simp only [AV.ren, AVR]
 | .fn f cs, v => by simp only [AV.ren, AVR, AVRs.ren cs]
 | .bd f cs, v => by simp only [AV.ren, AVR, AVRs.ren cs]
 | .when ch g x, v => by simp only [AV.ren, AVR, AVR.ren x]
 | .kn b, v => by simp only [AV.ren, AVR]
 | .yv i, v => by simp only [AV.ren, AVR]
 | .mpv i, v => by simp only [AV.ren, AVR]
theorem AVRs.ren {φ : Nat → Nat} : ∀ (xs : List AV) {vs : List Value}, AVRs h S κ (AV.rens φ xs) vs ↔ AVRs h S (fun i => κ (φ i)) xs vs
 | [], vs => by simp only [AV.rens, AVRs]
 | x :: xs, vs => by simp only [AV.rens, AVRs, AVR.ren x, AVRs.ren xs]
end
theorem EntR.ren {φ : Nat → Nat} (e : Ent) {b : Bind} : EntR h S κ (e.ren φ) b ↔ EntR h S (fun i => κ (φ i)) e b := by
 cases e <;> simp only [Ent.ren, EntR, AVRs.ren, LrecR, lk_ren, AVR.ren]
theorem owns_ren {φ : Nat → Nat} (e : Ent) (b : Bind) : owns (e.ren φ) b = owns e b := by
 cases e <;> cases b <;> rfl
mutual
theorem AVR.trim {n : Nat} (hk : ∀ i, i < n → κ' i = κ i) : ∀ (x : AV) {v : Value}, AV.lt n x = true → AVR h S κ x v → AVR h S κ' x v
 | .top, v, _, hx => by simp only [AVR]
 | .c x, v, _, hx => by simpa only [AVR] using hx
 | .nil, v, _, hx => by simpa only [AVR] using hx
 | .agg l, v, hl, hx => by
  simp only [AVR, AV.lt] at *
  obtain ⟨cs, h1, h2⟩ := hx
  exact ⟨cs, h1, AVRs.trim hk l hl h2⟩
 | .tup l, v, hl, hx => by
  simp only [AVR, AV.lt] at *
  obtain ⟨cs, h1, h2⟩ := hx
  exact ⟨cs, h1, AVRs.trim hk l hl h2⟩
 | .ptr i o, v, hl, hx => by
  simp only [AVR, AV.lt, Nat.blt_eq] at *
  rw [hk i hl]; exact hx
 | .rd l, v, _, hx => by simpa only [AVR] using hx
 | .own i, v, hl, hx => by
  simp only [AVR, AV.lt, Nat.blt_eq] at *
  rw [hk i hl]; exact hx
 | .elt i s k j, v, hl, hx => by
  simp only [AVR, AV.lt, Nat.blt_eq] at *
  rw [hk i hl]; exact hx
 | .fn f cs, v, hl, hx => by
  simp only [AVR, AV.lt] at *
  obtain ⟨us, h1, h2⟩ := hx
  exact ⟨us, h1, AVRs.trim hk cs hl h2⟩
 | .bd f cs, v, hl, hx => by
  simp only [AVR, AV.lt] at *
  obtain ⟨us, h1, h2⟩ := hx
  exact ⟨us, h1, AVRs.trim hk cs hl h2⟩
 | .when ch g x, v, hl, hx => by simp only [AV.lt] at hl; cases hl
 | .kn b, v, _, hx => by simpa only [AVR] using hx
 | .yv i, v, hl, hx => by
  simp only [AVR, AV.lt, Nat.blt_eq] at *
  rw [hk i hl]; exact hx
 | .mpv i, v, hl, hx => by
  simp only [AVR, AV.lt, Nat.blt_eq] at *
  rw [hk i hl]; exact hx
theorem AVRs.trim {n : Nat} (hk : ∀ i, i < n → κ' i = κ i) : ∀ (xs : List AV) {vs : List Value}, AV.lts n xs = true → AVRs h S κ xs vs → AVRs h S κ' xs vs
 | [], vs, _, hx => by simpa only [AVRs] using hx
 | x :: xs, vs, hl, hx => by
  simp only [AVRs, AV.lts] at *
  obtain ⟨v, r, h1, h2, h3⟩ := hx
  split at hl
  ·rename_i hx1
   exact ⟨v, r, h1, AVR.trim hk x hx1 h2, AVRs.trim hk xs hl h3⟩
  ·cases hl
end
end
def argTM : Nat → List AV → TM
 | _, [] => []
 | i, v :: r => (i, v) :: argTM (i + 1) r
def argOk : List AV → Bool
 | [] => true
 | .when _ _ _ :: _ => false
 | _ :: r => argOk r
theorem lk_argTM : ∀ (l : List AV) (i t : Nat), lk (argTM i l) t = if i ≤ t then (l[t - i]?).getD .top else .top
 | [], i, t => by simp [argTM, lk]
 | v :: r, i, t => by
  rw [argTM, lk_cons, lk_argTM r (i + 1) t]
  by_cases h1 : i = t
  ·subst h1; simp
  ·by_cases h2 : i ≤ t
   ·rw [if_neg h1, if_pos (by omega), if_pos h2]
    have : t - i = (t - (i + 1)) + 1 := by omega
    rw [this, List.getElem?_cons_succ]
   ·rw [if_neg h1, if_neg (by omega), if_neg h2]
theorem argOk_nw : ∀ {l : List AV}, argOk l = true → ∀ x ∈ l, notWhen x
 | [], _, x, hx => by cases hx
 | v :: r, h, x, hx => by
  cases v <;> simp only [argOk] at h
  case «when» => cases h
  all_goals
   rcases List.mem_cons.1 hx with rfl | hx
   ·trivial
   ·exact argOk_nw h x hx
theorem argTM_nw {l : List AV} (h : argOk l = true) : NW (argTM 0 l) := by
 intro t ch g x hl
 rw [lk_argTM] at hl
 simp only [Nat.zero_le, if_true, Nat.sub_zero] at hl
 cases hx : l[t]? with
 | none => rw [hx] at hl; cases hl
 | some v =>
  rw [hx] at hl
  simp only [Option.getD_some] at hl
  have := argOk_nw h v (List.mem_of_getElem? hx)
  rw [hl] at this
  exact this
def resK (E : Env) (tm : TM) (H : HP) : List ResultVar → (List AV → Prop) → Prop
 | [], K => K []
 | .tmp t :: r, K => lkK tm t fun v => match v with
  | .kn b => resK E tm H r fun l => K (.c (.bool b) :: l)
  | v => resK E tm H r fun l => K (v :: l)
 | .cell t T :: r, K => lkK tm t fun p => loadK E H T p fun v => resK E tm H r fun l => K (v :: l)
def resVar (tmps : Array Value) : ResultVar → Sem Value
 | .tmp t => pure (tmps.getD t undef)
 | .cell b t => do loadVar t (← asAddr (tmps.getD b undef))
theorem results_eq (fn : Func) (tmps : Array Value) : results fn tmps = (do let vs ← fn.results.mapM (resVar tmps); pure (if h : vs.size = 1 then vs[0] else .tuple vs)) := rfl
def tupK (l : List AV) (K : AV → Prop) : Prop := match l with | [v] => K v | l => K (.tup l)
section
variable {P : Program} {E : Env}
theorem resK_spec (he : EnvOk P E) {w : World} {S : Nat → Prop} {κ : Nat → Bind} {tm : TM} {H : HP} {a : Act} (hh : HR w.heap S κ H) (ht : TR w.heap S κ tm a) : ∀ {rs : List ResultVar} {K : List AV → Prop}, resK E tm H rs K →
  ∃ l vs, K l ∧ AVRs w.heap S κ l vs ∧ (rs.mapM (resVar a.tmps) : Sem (List Value)).run P w = .ok vs w
 | [], K, hk => ⟨[], [], hk, by simp [AVRs], by simp⟩
 | .tmp t :: r, K, hk => by
  simp only [resK, lkK_eq] at hk
  have h1 := ht t
  have main : ∀ x, AVR w.heap S κ x (a.tmps.getD t undef) → (resK E tm H r fun l => K (x :: l)) → ∃ l vs, K l ∧ AVRs w.heap S κ l vs ∧ ((ResultVar.tmp t :: r).mapM (resVar a.tmps) : Sem (List Value)).run P w = .ok vs w := by
   intro x hx hk
   obtain ⟨l, vs, hk, h2, h3⟩ := resK_spec he hh ht hk
   refine ⟨_, _, hk, by simp only [AVRs]; exact ⟨_, _, rfl, hx, h2⟩, ?_⟩
   simp only [List.mapM_cons, Sem.run_bind, resVar, Sem.run_pure, Result.andThen_ok, h3]
  split at hk
  ·rename_i b hl
   rw [hl] at h1
   exact main _ (by simpa [AVR, CVR] using h1) hk
  ·exact main _ h1 hk
 | .cell t T :: r, K, hk => by
  simp only [resK, lkK_eq] at hk
  have h1 := ht t
  obtain ⟨v, x, hr, hk, hx, _⟩ := loadK_spec he hh h1 hk
  replace hr := hr w fun _ _ _ _ _ => rfl
  obtain ⟨l, vs, hk, h2, h3⟩ := resK_spec he hh ht hk
  refine ⟨_, _, hk, by simp only [AVRs]; exact ⟨_, _, rfl, hx, h2⟩, ?_⟩
  have h4 : (do loadVar T (← asAddr (a.tmps.getD t undef)) : Sem Value).run P w = .ok v w := by
   revert hr
   generalize a.tmps.getD t undef = u
   intro hr
   cases u with
   | pointer q =>
    cases q with
    | none => simp [Instr.loadAt, Instr.sureAddr, stuck] at hr
    | some ad => simpa [Instr.loadAt, Instr.sureAddr, asAddr] using hr
   | _ => simp [Instr.loadAt, Instr.sureAddr, stuck] at hr
  have h5 : (resVar a.tmps (.cell t T)).run P w = .ok v w := h4
  simp only [List.mapM_cons, Sem.run_bind, h5, Sem.run_pure, Result.andThen_ok, h3]
theorem results_run {fn : Func} {w : World} {S : Nat → Prop} {κ : Nat → Bind} {a : Act} {l : List AV} {vs : List Value} (hl : AVRs w.heap S κ l vs) {K : AV → Prop} (hk : tupK l K)
  (hr : (fn.results.toList.mapM (resVar a.tmps) : Sem (List Value)).run P w = .ok vs w) :
  ∃ v x, (results fn a.tmps).run P w = .ok v w ∧ K x ∧ AVR w.heap S κ x v := by
 have h1 : (fn.results.mapM (resVar a.tmps)).run P w = .ok vs.toArray w := by
  rw [Array.mapM_eq_mapM_toList, Sem.run_map, hr]
  rfl
 have hlen := hl.len
 unfold tupK at hk
 split at hk
 ·rename_i v
  obtain ⟨u, rfl, hu⟩ := hl.one
  refine ⟨u, v, ?_, hk, hu⟩
  rw [results_eq, Sem.run_bind, h1]
  simp
 ·rename_i hne
  refine ⟨.tuple vs.toArray, _, ?_, hk, by simp only [AVR]; exact ⟨_, rfl, by simpa using hl⟩⟩
  rw [results_eq, Sem.run_bind, h1]
  have : vs.length ≠ 1 := by
   rw [hlen]
   intro h
   match l, h with
   | [v], _ => exact hne v rfl
  simp [this]
end
end Go.Tr
/- The engine, part 18: a contract is shown by the evaluator; a contract is used where more stands in memory. -/
namespace Go.Tr
def finQ (E : Env) (fn : Func) (K : AV → HP → Prop) : AEx → TM → HP → Prop
 | .exit _, _, _ => False
 | .normal, tm, H => resK E tm H fn.results.toList fun l => tupK l fun r => K r H
 | .ret, tm, H => resK E tm H fn.results.toList fun l => tupK l fun r => K r H
def tmLt (n : Nat) : TM → Bool
 | [] => true
 | (_, v) :: r => match AV.lt n v with | true => tmLt n r | false => false
theorem tmLt_lk {n : Nat} : ∀ {tm : TM}, tmLt n tm = true → ∀ t, AV.lt n (lk tm t) = true
 | [], _, t => by simp [lk, AV.lt]
 | (d, v) :: r, h, t => by
  simp only [tmLt] at h
  split at h
  ·rename_i hv
   rw [lk_cons]
   split
   ·exact hv
   ·exact tmLt_lk h t
  ·cases h
def entsLt (n : Nat) : HP → Bool
 | [] => true
 | .box l :: r => match AV.lts n l with | true => entsLt n r | false => false
 | .lrec _ tm _ _ _ :: r => match tmLt n tm with | true => entsLt n r | false => false
 | _ :: r => entsLt n r
theorem EntR.trim {h : Array Obj} {S : Nat → Prop} {κ κ' : Nat → Bind} {n : Nat} (hk : ∀ i, i < n → κ' i = κ i) : ∀ {H : HP}, entsLt n H = true → ∀ (j : Nat) (e : Ent) (b : Bind), H[j]? = some e → EntR h S κ e b → EntR h S κ' e b
 | [], _, j, e, b, hj, _ => by simp at hj
 | x :: r, hl, j, e, b, hj, he => by
  have hr : entsLt n r = true := by cases x <;> simp only [entsLt] at hl <;> first | exact hl | (split at hl; exact hl; cases hl)
  cases j with
  | succ j => exact EntR.trim hk hr j e b (by simpa using hj) he
  | zero =>
   simp at hj
   subst hj
   cases x with
   | box l =>
    simp only [entsLt] at hl
    split at hl
    ·rename_i hl1
     simp only [EntR] at he ⊢
     rcases he with he | ⟨B, c, el, h1, h2, h3⟩
     ·exact .inl he
     ·exact .inr ⟨B, c, el, h1, h2, AVRs.trim hk l hl1 h3⟩
    ·cases hl
   | row el sz byt es => exact he
   | frz y => exact he
   | dead => exact he
   | mp st m => exact he
   | lrec st tm ps asg body =>
    simp only [entsLt] at hl
    split at hl
    ·rename_i hl1
     simp only [EntR] at he ⊢
     rcases he with he | ⟨l, r, h1, h2, h3, h4, h5, h6, h7, h8⟩
     ·exact .inl he
     ·exact .inr ⟨l, r, h1, h2, h3, h4, h5, h6, fun t => AVR.trim hk _ (tmLt_lk hl1 t) (h7 t), h8⟩
    ·cases hl
def finP (E : Env) (fn : Func) (K : AV → HP → Prop) : AEx → TM → HP → Prop
 | .exit _, _, _ => False
 | .normal, tm, H => resK E tm H fn.results.toList fun l => pursK E fn.resultTypes.toList l H fun l' H' => tupK l' fun r => AV.lt E.n0 r = true ∧ entsLt E.n0 (H'.take E.n0) = true ∧ K r (H'.take E.n0)
 | .ret, tm, H => resK E tm H fn.results.toList fun l => pursK E fn.resultTypes.toList l H fun l' H' => tupK l' fun r => AV.lt E.n0 r = true ∧ entsLt E.n0 (H'.take E.n0) = true ∧ K r (H'.take E.n0)
section
variable {P : Program} {E : Env}
theorem getD_args {vs : List Value} {n t : Nat} (h : vs.length ≤ n) : (vs.toArray ++ Array.replicate (n - vs.toArray.size) undef).getD t undef = (vs[t]?).getD undef := by
 rw [Array.getD_eq_getD_getElem?, Array.getElem?_append]
 simp only [List.size_toArray, List.getElem?_toArray]
 split
 ·rfl
 ·rename_i h1
  rw [List.getElem?_eq_none (by omega)]
  simp only [Array.getElem?_replicate]
  split <;> rfl
theorem AVRs.getD {h : Array Obj} {S : Nat → Prop} {κ : Nat → Bind} : ∀ {l : List AV} {vs : List Value} (t : Nat), AVRs h S κ l vs → AVR h S κ ((l[t]?).getD .top) ((vs[t]?).getD undef)
 | [], vs, t, hx => by simp [AVR]
 | x :: xs, vs, 0, hx => by
  simp only [AVRs] at hx
  obtain ⟨v, r, rfl, h2, _⟩ := hx
  simpa using h2
 | x :: xs, vs, t + 1, hx => by
  simp only [AVRs] at hx
  obtain ⟨v, r, rfl, _, h3⟩ := hx
  simpa using AVRs.getD t h3
theorem Mem.refl {w : World} {S : Nat → Prop} {κ : Nat → Bind} {H : HP} (hh : HR w.heap S κ H) : Mem H.length κ w S (fun B => ∃ i, ownAt κ H i = some B) H w S κ :=
 ⟨hh, ⟨rfl, rfl, rfl, Nat.le_refl _, fun _ _ _ => rfl, fun _ _ h => h, fun _ _ h _ => h⟩, fun _ _ => rfl, Nat.le_refl _, fun i B hi _ => ⟨i, hi⟩⟩
theorem cellAt_obj {h : Array Obj} {B off : Nat} {o : Obj} (ho : h[B]? = some o) (hn : ∀ c el g, o ≠ .cells c el g) : cellAt h B off = none := by
 unfold cellAt
 rw [ho]
 cases o <;> first | rfl | exact absurd rfl (hn _ _ _)
theorem Mem.shutB {n0 : Nat} {κ0 : Nat → Bind} {w0 w : World} {S0 O0 S : Nat → Prop} {H : HP} {κ : Nat → Bind} (hm : Mem n0 κ0 w0 S0 O0 H w S κ) {r : Nat} (h1 : w0.heap.size ≤ r) (h2 : ¬ S r) (h3 : w.heap[r]? = some (.deferred (some []))) :
  Mem n0 κ0 w0 S0 O0 H (w.putObj r (.deferred none)) S κ ∧ Ext w S κ (w.putObj r (.deferred none)) S κ := by
 have hmem : ∀ B off v, ¬ S B → cellAt w.heap B off = some v → ¬ S B ∧ cellAt (w.putObj r (.deferred none)).heap B off = some v := fun B off v hS hc => by
  refine ⟨hS, ?_⟩
  have hne : B ≠ r := fun e => by
   subst e
   rw [cellAt_obj h3 (fun _ _ _ h => by cases h)] at hc
   cases hc
  rw [cellAt_same (World.putObj_heap_other hne)]
  exact hc
 refine ⟨⟨⟨fun j e hj => ?_, hm.hr.out, hm.hr.own, hm.hr.excl, fun B hB => by rw [World.putObj_size]; exact hm.hr.sz B hB⟩,
  ⟨hm.fr.os, hm.fr.tape, hm.fr.output, by rw [World.putObj_size]; exact hm.fr.size, fun B hB hO => ?_, hm.fr.shut, hm.fr.held⟩, hm.kp, hm.len, hm.ow⟩, ⟨hmem, fun _ _ => rfl⟩⟩
 ·refine EntR.mono hmem (fun _ _ => rfl) (fun B hB => ?_) (hm.hr.ent j e hj)
  have : S B := hm.hr.own j B (by rw [ownAt_of hj]; exact hB)
  exact World.putObj_heap_other (fun e => h2 (e ▸ this))
 ·rw [World.putObj_heap_other (by omega)]
  exact hm.fr.keep B hB hO
theorem leaves_spec {n0 : Nat} {κ0 : Nat → Bind} {w0 : World} {S0 O0 S : Nat → Prop} {H : HP} {κ : Nat → Bind} {tm : TM} {a : Act} {fn : Func} {R : Ending → World → Prop} {bs : List Deferred} {u : FrameMode} (hu : u ≠ .run) :
  ∀ (rs : List Nat) {w : World}, Mem n0 κ0 w0 S0 O0 H w S κ → TR w.heap S κ tm a → rs.Nodup → (∀ r ∈ rs, w0.heap.size ≤ r ∧ ¬ S r ∧ w.heap[r]? = some (.deferred (some []))) →
   (∀ w2, Mem n0 κ0 w0 S0 O0 H w2 S κ → TR w2.heap S κ tm a → Ext w S κ w2 S κ → LeavesInM (Fr none) 0 P fn a.tmps R bs u w2) →
   LeavesInM (Fr none) 0 P fn a.tmps R ((rs.map fun r => { target := .collected r, args := #[] }) ++ bs) u w
 | [], w, hm, ht, _, _, hq => by
  simp only [List.map_nil, List.nil_append]
  exact hq w hm ht (Ext.refl _ _ _)
 | r :: rs, w, hm, ht, hn, hr, hq => by
  obtain ⟨h1, h2, h3⟩ := hr r (by simp)
  obtain ⟨hm', he⟩ := hm.shutB h1 h2 h3
  rw [List.nodup_cons] at hn
  simp only [List.map_cons, List.cons_append, LeavesInM]
  refine ⟨hu, .inl ⟨r, _, rfl, run_takeDeferred h3, leaves_spec hu rs hm' (fun t => he.avr (ht t)) hn.2 (fun q hq => ?_) fun w2 g1 g2 g3 => hq w2 g1 g2 (he.trans g3)⟩⟩
  obtain ⟨g1, g2, g3⟩ := hr q (List.mem_cons_of_mem _ hq)
  have hqr : q ≠ r := fun e => hn.1 (by rw [← e]; exact hq)
  exact ⟨g1, g2, by rw [World.putObj_heap_other hqr]; exact g3⟩
theorem call_gen (he : EnvOk P E) (hmix : P.follows .mixedOrders = true) {f : FuncId} {fn : Func} {c : Code} (hf : P.funcs[f]? = some fn) (hb : fn.body = some c) (hcb : callable P f = true) (hok : codeOk fn.ntmps c = true)
  {args : List AV} (hlen : Nat.ble args.length fn.ntmps = true) (hargs : argOk args = true) {H : HP} (hn0 : E.n0 = H.length) {K : AV → HP → Prop} {KP : CV → HP → Prop} {Q : AEx → TM → HP → Prop}
  (hQ : ∀ e tm' H' S' κ' a' w' κ S w ds, Q e tm' H' → Inv E.n0 (fn.ntmps, ds) κ w S (fun B => ∃ i, ownAt κ H i = some B) tm' H' a' w' S' κ' → (e = .normal ∨ e = .ret) ∧
   ∃ v r H'' κ'' S'', (results fn a'.tmps).run P w' = .ok v w' ∧ K r H'' ∧ Mem H.length κ w S (fun B => ∃ i, ownAt κ H i = some B) H'' w' S'' κ'' ∧ AVR w'.heap S'' κ'' r v)
  (hPn : ∀ ts KPf, E.pan = some (ts, KPf) → ∀ x V tm' H' S' κ' a' w' κ S w ds, KPf x (ts.map (lk tm')) H' → CVR w'.heap S' x V → Inv E.n0 (fn.ntmps, ds) κ w S (fun B => ∃ i, ownAt κ H i = some B) tm' H' a' w' S' κ' →
   ∃ H'' κ'' S'', KP x H'' ∧ Mem H.length κ w S (fun B => ∃ i, ownAt κ H i = some B) H'' w' S'' κ'' ∧ CVR w'.heap S'' x V)
  (h : aw P E c (argTM 0 args) H Q) : CallPt P f args H K KP := by
 unfold CallPt
 refine ⟨hcb, fun w S κ vs hh hvs => ?_⟩
 have hl : args.length ≤ fn.ntmps := Nat.le_of_ble_eq_true hlen
 have hvl := hvs.len
 have hi : Inv E.n0 (fn.ntmps, []) κ w S (fun B => ∃ i, ownAt κ H i = some B) (argTM 0 args) H { tmps := vs.toArray ++ Array.replicate (fn.ntmps - vs.toArray.size) undef, defers := [] } w S κ :=
  ⟨by rw [hn0]; exact Mem.refl hh, fun t => by
   rw [lk_argTM, getD_args (by omega)]
   simp only [Nat.zero_le, if_true, Nat.sub_zero]
   exact hvs.getD t, rfl, by simp; omega⟩
 refine (callsIn_calls (r := none) (n := 0)).1 (callsIn_of_wp_marks hf hb trivial (wpIn_mono (aw_spec he hmix (bs := []) (r := none) (.inl rfl) c hok h (argTM_nw hargs) hi Mk.nil) ?_))
 rintro e a' w' (⟨ae, tm', H', S', κ', ds', hr, hq, hn', hi', ⟨rs, hds, hnd, hrs⟩, _⟩ | ⟨ts, KPf, x, V, tm', H', S', κ', ds', hpan, rfl, hk, hx, hi', ⟨rs, hds, hnd, hrs⟩, _⟩)
 ·have hae := (hQ ae tm' H' S' κ' a' w' κ S w ds' hq hi').1
  have fin : LeavesInM (Fr none) 0 P fn a'.tmps (fun e w' => (∃ v r H' κ' S', e = .returned v ∧ K r H' ∧ Mem H.length κ w S (fun B => ∃ i, ownAt κ H i = some B) H' w' S' κ' ∧ AVR w'.heap S' κ' r v) ∨
    ∃ x V H' κ' S', e = .panicked [{ v := V, recovered := false }] ∧ KP x H' ∧ Mem H.length κ w S (fun B => ∃ i, ownAt κ H i = some B) H' w' S' κ' ∧ CVR w'.heap S' x V) a'.defers .returning w' := by
   rw [hi'.df, hds]
   refine leaves_spec (fun h => by cases h) rs hi'.m hi'.tr hnd hrs fun w2 hm2 ht2 _ => ?_
   obtain ⟨_, v, r, H'', κ'', S'', h1, h2, h3, h4⟩ := hQ ae tm' H' S' κ' a' w2 κ S w ds' hq ⟨hm2, ht2, hi'.df, hi'.sz⟩
   simp only [LeavesInM, LeavesIn]
   exact ⟨v, h1, .inl ⟨v, r, H'', κ'', S'', rfl, h2, h3, h4⟩⟩
  rcases hae with rfl | rfl
  ·cases e <;> simp only [AExR] at hr <;> first | exact hr.elim | exact fin
  ·cases e <;> simp only [AExR] at hr <;> first | exact hr.elim | exact fin
 ·simp only [bodyPostM]
  rw [hi'.df, hds]
  refine leaves_spec (fun h => by cases h) rs hi'.m hi'.tr hnd hrs fun w2 hm2 ht2 he2 => ?_
  obtain ⟨H'', κ'', S'', h1, h2, h3⟩ := hPn ts KPf hpan x V tm' H' S' κ' a' w2 κ S w ds' hk (CVR.mono he2.mem x hx) ⟨hm2, ht2, hi'.df, hi'.sz⟩
  simp only [LeavesInM, LeavesIn]
  exact .inr ⟨x, V, H'', κ'', S'', rfl, h1, h2, h3⟩
theorem CallPt.st {f : FuncId} {args : List AV} {H : HP} {K : AV → HP → Prop} (h : CallPt P f args H K fun _ _ => False) : CallSt P f args H K := by
 unfold CallPt at h
 unfold CallSt
 refine ⟨h.1, fun w S κ vs hh hvs => (h.2 w S κ vs hh hvs).mono ?_⟩
 rintro e w' (h | ⟨x, V, H', κ', S', _, h, _⟩)
 ·exact h
 ·exact h.elim
theorem CallSt.pt {f : FuncId} {args : List AV} {H : HP} {K : AV → HP → Prop} {KP : CV → HP → Prop} (h : CallSt P f args H K) : CallPt P f args H K KP := by
 unfold CallPt
 unfold CallSt at h
 exact ⟨h.1, fun w S κ vs hh hvs => (h.2 w S κ vs hh hvs).mono fun e w' h => .inl h⟩
theorem call_any (he : EnvOk P E) (hmix : P.follows .mixedOrders = true) {f : FuncId} {fn : Func} {c : Code} (hf : P.funcs[f]? = some fn) (hb : fn.body = some c) (hcb : callable P f = true) (hok : codeOk fn.ntmps c = true)
  {args : List AV} (hlen : Nat.ble args.length fn.ntmps = true) (hargs : argOk args = true) {H : HP} (hn0 : E.n0 = H.length) {K : AV → HP → Prop} {Q : AEx → TM → HP → Prop}
  (hQ : ∀ e tm' H' S' κ' a' w' κ S w ds, Q e tm' H' → Inv E.n0 (fn.ntmps, ds) κ w S (fun B => ∃ i, ownAt κ H i = some B) tm' H' a' w' S' κ' → (e = .normal ∨ e = .ret) ∧
   ∃ v r H'' κ'' S'', (results fn a'.tmps).run P w' = .ok v w' ∧ K r H'' ∧ Mem H.length κ w S (fun B => ∃ i, ownAt κ H i = some B) H'' w' S'' κ'' ∧ AVR w'.heap S'' κ'' r v)
  (h : aw P E c (argTM 0 args) H Q) (hpan : E.pan = none := by rfl) : CallSt P f args H K :=
 CallPt.st (call_gen he hmix hf hb hcb hok hlen hargs hn0 hQ (fun ts KPf h2 => by rw [hpan] at h2; cases h2) h)
theorem call_intro (he : EnvOk P E) (hmix : P.follows .mixedOrders = true) {f : FuncId} {fn : Func} {c : Code} (hf : P.funcs[f]? = some fn) (hb : fn.body = some c) (hcb : callable P f = true) (hok : codeOk fn.ntmps c = true)
  {args : List AV} (hlen : Nat.ble args.length fn.ntmps = true) (hargs : argOk args = true) {H : HP} (hn0 : E.n0 = H.length) {K : AV → HP → Prop} (h : aw P E c (argTM 0 args) H (finQ E fn K)) (hpan : E.pan = none := by rfl) : CallSt P f args H K := by
 refine call_any he hmix hf hb hcb hok hlen hargs hn0 ?_ h hpan
 intro e tm' H' S' κ' a' w' κ S w ds hq hi'
 have main : (resK E tm' H' fn.results.toList fun l => tupK l fun r => K r H') → ∃ v r H'' κ'' S'', (results fn a'.tmps).run P w' = .ok v w' ∧ K r H'' ∧ Mem H.length κ w S (fun B => ∃ i, ownAt κ H i = some B) H'' w' S'' κ'' ∧ AVR w'.heap S'' κ'' r v := by
  intro hq
  obtain ⟨l, vs, hk, hl, hr⟩ := resK_spec he hi'.m.hr hi'.tr hq
  obtain ⟨v, x, h1, h2, h3⟩ := results_run hl hk hr
  exact ⟨v, x, H', κ', S', h1, h2, by rw [← hn0]; exact hi'.m, h3⟩
 cases e with
 | normal => exact ⟨.inl rfl, main hq⟩
 | ret => exact ⟨.inr rfl, main hq⟩
 | exit n => exact hq.elim
theorem Mem.trim {n0 : Nat} {κ0 κ : Nat → Bind} {w0 w : World} {S0 O0 S : Nat → Prop} {H : HP} (hm : Mem n0 κ0 w0 S0 O0 H w S κ) (hlt : entsLt n0 (H.take n0) = true) : Mem n0 κ0 w0 S0 O0 (H.take n0) w S (fun i => if i < n0 then κ i else .none) := by
 have hlen : (H.take n0).length = n0 := by simp; exact Nat.min_eq_left hm.len
 have hget : ∀ (j : Nat) (e : Ent), (H.take n0)[j]? = some e → j < n0 ∧ H[j]? = some e := fun j e hj => by
  rw [List.getElem?_take] at hj
  split at hj
  ·exact ⟨by assumption, hj⟩
  ·cases hj
 have hown : ∀ j B, ownAt (fun i => if i < n0 then κ i else .none) (H.take n0) j = some B → j < n0 ∧ ownAt κ H j = some B := fun j B hj => by
  obtain ⟨e, h1, h2⟩ := ownAt_some hj
  obtain ⟨h3, h4⟩ := hget j e h1
  simp only [h3, if_true] at h2
  exact ⟨h3, by rw [ownAt_of h4]; exact h2⟩
 refine ⟨⟨fun j e hj => ?_, fun j hj => by rw [if_neg (by omega)], fun j B hj => hm.hr.own j B (hown j B hj).2, fun j k B hj hk => hm.hr.excl j k B (hown j B hj).2 (hown k B hk).2, hm.hr.sz⟩, hm.fr, fun i hi => by simp only [hi, if_true]; exact hm.kp i hi, by omega, fun j B hj hB => hm.ow j B (hown j B hj).2 hB⟩
 obtain ⟨h3, h4⟩ := hget j e hj
 simp only [h3, if_true]
 exact EntR.trim (fun i hi => by simp only [hi, if_true]) hlt j e _ hj (hm.hr.ent j e h4)
theorem call_pure (he : EnvOk P E) (hmix : P.follows .mixedOrders = true) {f : FuncId} {fn : Func} {c : Code} (hf : P.funcs[f]? = some fn) (hb : fn.body = some c) (hcb : callable P f = true) (hok : codeOk fn.ntmps c = true)
  {args : List AV} (hlen : Nat.ble args.length fn.ntmps = true) (hargs : argOk args = true) {H : HP} (hn0 : E.n0 = H.length) {K : AV → HP → Prop} (h : aw P E c (argTM 0 args) H (finP E fn K)) (hpan : E.pan = none := by rfl) : CallSt P f args H K := by
 refine call_any he hmix hf hb hcb hok hlen hargs hn0 ?_ h hpan
 intro e tm' H' S' κ' a' w' κ S w ds hq hi'
 have main : (resK E tm' H' fn.results.toList fun l => pursK E fn.resultTypes.toList l H' fun l' H' => tupK l' fun r => AV.lt E.n0 r = true ∧ entsLt E.n0 (H'.take E.n0) = true ∧ K r (H'.take E.n0)) →
   ∃ v r H'' κ'' S'', (results fn a'.tmps).run P w' = .ok v w' ∧ K r H'' ∧ Mem H.length κ w S (fun B => ∃ i, ownAt κ H i = some B) H'' w' S'' κ'' ∧ AVR w'.heap S'' κ'' r v := by
  intro hq
  obtain ⟨l, vs, hk, hl, hr⟩ := resK_spec he hi'.m.hr hi'.tr hq
  obtain ⟨l', H1, S1, hk, m1, e1, hl1, _⟩ := pursK_spec he hi'.m hl hk
  obtain ⟨v, x, h1, ⟨h2, h3, h4⟩, h5⟩ := results_run hl1 hk hr
  have m2 := m1.trim h3
  exact ⟨v, x, _, _, S1, h1, h4, by rw [← hn0]; exact m2, AVR.trim (fun i hi => by simp only [hi, if_true]) x h2 h5⟩
 cases e with
 | normal => exact ⟨.inl rfl, main hq⟩
 | ret => exact ⟨.inr rfl, main hq⟩
 | exit n => exact hq.elim
def selMap (sel : List Nat) (n : Nat) (i : Nat) : Nat := match sel[i]? with | some j => j | none => i - sel.length + n
def putSel : List Nat → (Nat → Nat) → HP → HP → HP
 | [], _, _, H => H
 | _ :: _, _, [], H => H
 | j :: s, φ, e :: E, H => (putSel s φ E H).set j (e.ren φ)
def mergeH (sel : List Nat) (φ : Nat → Nat) (E' H : HP) : HP := putSel sel φ E' H ++ (E'.drop sel.length).map (Ent.ren φ)
theorem putSel_len : ∀ {sel : List Nat} {φ : Nat → Nat} {E H : HP}, (putSel sel φ E H).length = H.length
 | [], _, _, _ => by simp [putSel]
 | _ :: _, _, [], _ => by simp [putSel]
 | j :: s, φ, e :: E, H => by simp [putSel, putSel_len (sel := s)]
theorem putSel_other : ∀ {sel : List Nat} {φ : Nat → Nat} {E H : HP} {q : Nat}, q ∉ sel → (putSel sel φ E H)[q]? = H[q]?
 | [], _, _, _, _, _ => by simp [putSel]
 | _ :: _, _, [], _, _, _ => by simp [putSel]
 | j :: s, φ, e :: E, H, q, hq => by
  simp only [List.mem_cons, not_or] at hq
  rw [putSel, List.getElem?_set_ne (Ne.symm hq.1)]
  exact putSel_other hq.2
theorem putSel_at : ∀ {sel : List Nat} {φ : Nat → Nat} {E H : HP} {i j : Nat} {e : Ent}, sel.Nodup → sel[i]? = some j → E[i]? = some e → j < H.length → (putSel sel φ E H)[j]? = some (e.ren φ)
 | [], _, _, _, _, _, _, _, h, _, _ => by simp at h
 | _ :: _, _, [], _, _, _, _, _, _, h, _ => by simp at h
 | q :: s, φ, x :: E, H, 0, j, e, hn, h1, h2, hl => by
  simp at h1 h2
  subst h1 h2
  rw [putSel, List.getElem?_set_self (by rw [putSel_len]; exact hl)]
 | q :: s, φ, x :: E, H, i + 1, j, e, hn, h1, h2, hl => by
  simp only [List.getElem?_cons_succ] at h1 h2
  rw [List.nodup_cons] at hn
  have hne : q ≠ j := fun e => hn.1 (e ▸ List.mem_of_getElem? h1)
  rw [putSel, List.getElem?_set_ne hne]
  exact putSel_at hn.2 h1 h2 hl
theorem frame_gen {args args' : List AV} {L H : HP} (sel : List Nat) (hl : sel.length = L.length) (hnd : sel.Nodup)
  (hsel : ∀ (i j : Nat), sel[i]? = some j → ∃ e : Ent, L[i]? = some e ∧ H[j]? = some (e.ren (selMap sel H.length))) (hargs : args = AV.rens (selMap sel H.length) args')
  {w : World} {S : Nat → Prop} {κ : Nat → Bind} {vs : List Value} (hh : HR w.heap S κ H) (hvs : AVRs w.heap S κ args vs) :
  ∃ κ1, HR w.heap S κ1 L ∧ AVRs w.heap S κ1 args' vs ∧ ∀ (w' : World) (S' : Nat → Prop) (κL : Nat → Bind) (L' : HP), Mem L.length κ1 w S (fun B => ∃ i, ownAt κ1 L i = some B) L' w' S' κL → L.length ≤ L'.length ∧
   ∃ κ', Mem H.length κ w S (fun B => ∃ i, ownAt κ H i = some B) (mergeH sel (selMap sel H.length) L' H) w' S' κ' ∧ ∀ r v, AVR w'.heap S' κL r v → AVR w'.heap S' κ' (r.ren (selMap sel H.length)) v := by
 generalize hφ : selMap sel H.length = φ at *
 have φin : ∀ i j, sel[i]? = some j → φ i = j := fun i j hj => by rw [← hφ]; simp [selMap, hj]
 have φout : ∀ i, sel.length ≤ i → φ i = i - sel.length + H.length := fun i hi => by rw [← hφ]; simp [selMap, List.getElem?_eq_none hi]
 have sin : ∀ i, i < sel.length → ∃ j, sel[i]? = some j := fun i hi => ⟨sel[i], by simp [hi]⟩
 have slt : ∀ i j, sel[i]? = some j → j < H.length := fun i j hj => let ⟨e, _, h2⟩ := hsel i j hj; getElem?_lt h2
 have ownL : ∀ i B, ownAt (fun i => κ (φ i)) L i = some B → ∃ j, sel[i]? = some j ∧ ownAt κ H j = some B := fun i B hi => by
  obtain ⟨e, h1, h2⟩ := ownAt_some hi
  obtain ⟨j, hj⟩ := sin i (by rw [hl]; exact getElem?_lt h1)
  obtain ⟨e', h3, h4⟩ := hsel i j hj
  rw [h1] at h3
  injection h3 with h3
  subst h3
  rw [φin i j hj] at h2
  exact ⟨j, hj, by rw [ownAt_of h4, owns_ren]; exact h2⟩
 have sinj : ∀ i i' j, sel[i]? = some j → sel[i']? = some j → i = i' := fun i i' j h1 h2 => by
  have l1 := getElem?_lt h1
  have l2 := getElem?_lt h2
  rw [List.getElem?_eq_getElem l1] at h1
  rw [List.getElem?_eq_getElem l2] at h2
  exact (List.getElem_inj hnd).1 (by injection h1 with h1; injection h2 with h2; rw [h1, h2])
 have hhL : HR w.heap S (fun i => κ (φ i)) L := by
  refine ⟨fun i e hi => ?_, fun i hi => ?_, fun i B hi => ?_, fun i i' B hi hi' => ?_, hh.sz⟩
  ·obtain ⟨j, hj⟩ := sin i (by rw [hl]; exact getElem?_lt hi)
   obtain ⟨e', h3, h4⟩ := hsel i j hj
   rw [hi] at h3
   injection h3 with h3
   subst h3
   have := hh.ent j _ h4
   rw [EntR.ren] at this
   rw [φin i j hj]
   exact this
  ·show κ (φ i) = .none
   rw [φout i (by omega)]
   exact hh.out _ (by omega)
  ·obtain ⟨j, _, h2⟩ := ownL i B hi
   exact hh.own j B h2
  ·obtain ⟨j, h1, h2⟩ := ownL i B hi
   obtain ⟨j', h3, h4⟩ := ownL i' B hi'
   have := hh.excl j j' B h2 h4
   subst this
   exact sinj i i' j h1 h3
 have hv' : AVRs w.heap S (fun i => κ (φ i)) args' vs := by
  rw [hargs, AVRs.ren] at hvs
  exact hvs
 refine ⟨_, hhL, hv', fun w' S' κL L' m => ?_⟩
 have hLL := m.len
 let κ' : Nat → Bind := fun j => if j < H.length then κ j else κL (j - H.length + L.length)
 have κφ : ∀ i, κ' (φ i) = κL i := fun i => by
  rcases Nat.lt_or_ge i sel.length with hi | hi
  ·obtain ⟨j, hj⟩ := sin i hi
   have := slt i j hj
   simp only [κ']
   rw [φin i j hj, if_pos this]
   have := m.kp i (by omega)
   rw [this, φin i j hj]
  ·simp only [κ']
   rw [φout i hi, if_neg (by omega)]
   congr 1
   omega
 have κφ' : (fun i => κ' (φ i)) = κL := funext κφ
 have hmono : ∀ B off u, ¬ S B → cellAt w.heap B off = some u → ¬ S' B ∧ cellAt w'.heap B off = some u := fun B off u h1 h2 => by
  have hlt := cellAt_lt h2
  refine ⟨fun hS => h1 (m.fr.shut B hlt hS), ?_⟩
  rw [cellAt_same (m.fr.keep B hlt (fun ⟨i, hi⟩ => by obtain ⟨j, _, h4⟩ := ownL i B hi; exact h1 (hh.own j B h4)))]
  exact h2
 have hbind : ∀ i, κ i ≠ .none → κ' i = κ i := fun i hi => by
  simp only [κ']
  rw [if_pos]
  rcases Nat.lt_or_ge i H.length with h1 | h1
  ·exact h1
  ·exact absurd (hh.out i h1) hi
 have hlenM : (mergeH sel φ L' H).length = H.length + (L'.length - L.length) := by simp [mergeH, putSel_len, hl]
 -- what stands at an index of the merged heap
 have hat : ∀ j e, (mergeH sel φ L' H)[j]? = some e → (∃ i e', L'[i]? = some e' ∧ φ i = j ∧ e = e'.ren φ) ∨ (j < H.length ∧ j ∉ sel ∧ H[j]? = some e) := fun j e hj => by
  rcases Nat.lt_or_ge j H.length with h1 | h1
  ·unfold mergeH at hj
   rw [List.getElem?_append_left (by rw [putSel_len]; exact h1)] at hj
   by_cases hs : j ∈ sel
   ·obtain ⟨i, hi⟩ := List.mem_iff_getElem?.1 hs
    have hiL : i < L'.length := by have := getElem?_lt hi; omega
    rw [putSel_at hnd hi (List.getElem?_eq_getElem hiL) h1] at hj
    injection hj with hj
    exact .inl ⟨i, L'[i], by simp [hiL], φin i j hi, hj.symm⟩
   ·rw [putSel_other hs] at hj
    exact .inr ⟨h1, hs, hj⟩
  ·unfold mergeH at hj
   rw [List.getElem?_append_right (by rw [putSel_len]; exact h1), putSel_len, List.getElem?_map, List.getElem?_drop] at hj
   simp only [Option.map_eq_some_iff] at hj
   obtain ⟨e', h2, h3⟩ := hj
   exact .inl ⟨sel.length + (j - H.length), e', h2, by rw [φout _ (by omega)]; omega, h3.symm⟩
 have hownM : ∀ j B, ownAt κ' (mergeH sel φ L' H) j = some B → (∃ i, φ i = j ∧ ownAt κL L' i = some B) ∨ (j < H.length ∧ j ∉ sel ∧ ownAt κ H j = some B) := fun j B hj => by
  obtain ⟨e, h1, h2⟩ := ownAt_some hj
  rcases hat j e h1 with ⟨i, e', h3, h4, rfl⟩ | ⟨h3, h4, h5⟩
  ·subst h4
   rw [owns_ren, κφ] at h2
   exact .inl ⟨i, rfl, by rw [ownAt_of h3]; exact h2⟩
  ·simp only [κ'] at h2
   rw [if_pos h3] at h2
   exact .inr ⟨h3, h4, by rw [ownAt_of h5]; exact h2⟩
 have notL : ∀ j B, j ∉ sel → ownAt κ H j = some B → ∀ i, ownAt (fun i => κ (φ i)) L i ≠ some B := fun j B hjs hj i hi => by
  obtain ⟨j', h3, h4⟩ := ownL i B hi
  have := hh.excl j j' B hj h4
  subst this
  exact hjs (List.mem_of_getElem? h3)
 refine ⟨hLL, κ', ⟨⟨fun j e hj => ?_, fun j hj => ?_, fun j B hj => ?_, fun j j' B hj hj' => ?_, m.hr.sz⟩,
  ⟨m.fr.os, m.fr.tape, m.fr.output, m.fr.size, fun B hB hO => m.fr.keep B hB (fun ⟨i, hi⟩ => by obtain ⟨j, _, h4⟩ := ownL i B hi; exact hO ⟨j, h4⟩), m.fr.shut, fun B hB hS hO => m.fr.held B hB hS (fun ⟨i, hi⟩ => by obtain ⟨j, _, h4⟩ := ownL i B hi; exact hO ⟨j, h4⟩)⟩,
  fun i hi => by simp only [κ']; rw [if_pos hi], by rw [hlenM]; omega, fun j B hj hB => ?_⟩, ?_⟩
 ·rcases hat j e hj with ⟨i, e', h3, h4, rfl⟩ | ⟨h3, h4, h5⟩
  ·subst h4
   rw [EntR.ren, κφ', κφ]
   exact m.hr.ent i e' h3
  ·have hb : κ' j = κ j := by simp only [κ']; rw [if_pos h3]
   rw [hb]
   refine EntR.mono hmono hbind (fun B hB => ?_) (hh.ent j e h5)
   have ho : ownAt κ H j = some B := by rw [ownAt_of h5]; exact hB
   exact m.fr.keep B (hh.sz B (hh.own j B ho)) (fun ⟨i, hi⟩ => notL j B h4 ho i hi)
 ·simp only [κ']
  rw [if_neg (by omega)]
  exact m.hr.out _ (by omega)
 ·rcases hownM j B hj with ⟨i, _, h4⟩ | ⟨h3, h4, h5⟩
  ·exact m.hr.own i B h4
  ·have hS := hh.own j B h5
   exact m.fr.held B (hh.sz B hS) hS (fun ⟨i, hi⟩ => notL j B h4 h5 i hi)
 ·rcases hownM j B hj with ⟨i, h3, h4⟩ | ⟨h3, h4, h5⟩
  ·rcases hownM j' B hj' with ⟨i', h3', h4'⟩ | ⟨h3', h4', h5'⟩
   ·have := m.hr.excl i i' B h4 h4'
    subst this
    rw [← h3, ← h3']
   ·exfalso
    obtain ⟨q, hq⟩ := m.ow i B h4 (hh.sz B (hh.own j' B h5'))
    exact notL j' B h4' h5' q hq
  ·rcases hownM j' B hj' with ⟨i', h3', h4'⟩ | ⟨h3', h4', h5'⟩
   ·exfalso
    obtain ⟨q, hq⟩ := m.ow i' B h4' (hh.sz B (hh.own j B h5))
    exact notL j B h4 h5 q hq
   ·exact hh.excl j j' B h5 h5'
 ·rcases hownM j B hj with ⟨i, _, h4⟩ | ⟨h3, h4, h5⟩
  ·obtain ⟨q, hq⟩ := m.ow i B h4 hB
   obtain ⟨j', _, h6⟩ := ownL q B hq
   exact ⟨j', h6⟩
  ·exact ⟨j, h5⟩
 ·intro r v hr
  rw [AVR.ren, κφ']
  exact hr
theorem CallSt.frame {f : FuncId} {args args' : List AV} {L H : HP} {Post K : AV → HP → Prop} (h : CallSt P f args' L Post) (sel : List Nat) (hl : sel.length = L.length) (hnd : sel.Nodup)
  (hsel : ∀ (i j : Nat), sel[i]? = some j → ∃ e : Ent, L[i]? = some e ∧ H[j]? = some (e.ren (selMap sel H.length))) (hargs : args = AV.rens (selMap sel H.length) args')
  (hK : ∀ r L', Post r L' → L.length ≤ L'.length → K (r.ren (selMap sel H.length)) (mergeH sel (selMap sel H.length) L' H)) : CallSt P f args H K := by
 unfold CallSt at h ⊢
 refine ⟨h.1, fun w S κ vs hh hvs => ?_⟩
 obtain ⟨κ1, h1, h2, h3⟩ := frame_gen sel hl hnd hsel hargs hh hvs
 refine (h.2 w S κ1 vs h1 h2).mono ?_
 rintro e w' ⟨v, r, L', κL, S', rfl, hp, m, hr⟩
 obtain ⟨hLL, κ', m', h4⟩ := h3 w' S' κL L' m
 exact ⟨v, _, _, κ', S', rfl, hK r L' hp hLL, m', h4 r v hr⟩
theorem CallPt.frame {f : FuncId} {args args' : List AV} {L H : HP} {Post K : AV → HP → Prop} {PostP KP : CV → HP → Prop} (h : CallPt P f args' L Post PostP) (sel : List Nat) (hl : sel.length = L.length) (hnd : sel.Nodup)
  (hsel : ∀ (i j : Nat), sel[i]? = some j → ∃ e : Ent, L[i]? = some e ∧ H[j]? = some (e.ren (selMap sel H.length))) (hargs : args = AV.rens (selMap sel H.length) args')
  (hKP : ∀ x L', PostP x L' → L.length ≤ L'.length → KP x (mergeH sel (selMap sel H.length) L' H))
  (hK : ∀ r L', Post r L' → L.length ≤ L'.length → K (r.ren (selMap sel H.length)) (mergeH sel (selMap sel H.length) L' H)) : CallPt P f args H K KP := by
 unfold CallPt at h ⊢
 refine ⟨h.1, fun w S κ vs hh hvs => ?_⟩
 obtain ⟨κ1, h1, h2, h3⟩ := frame_gen sel hl hnd hsel hargs hh hvs
 refine (h.2 w S κ1 vs h1 h2).mono ?_
 rintro e w' (⟨v, r, L', κL, S', rfl, hp, m, hr⟩ | ⟨x, V, L', κL, S', rfl, hp, m, hx⟩)
 ·obtain ⟨hLL, κ', m', h4⟩ := h3 w' S' κL L' m
  exact .inl ⟨v, _, _, κ', S', rfl, hK r L' hp hLL, m', h4 r v hr⟩
 ·obtain ⟨hLL, κ', m', h4⟩ := h3 w' S' κL L' m
  exact .inr ⟨x, V, _, κ', S', rfl, hKP x L' hp hLL, m', hx⟩
end
end Go.Tr
/- The engine, part 19: a region that draws its order; what is taken first. -/
namespace Go.Tr
def bindB (e : Edge) : Bool := match e.ground with | .textOnly _ => false | .gcOnly _ => false | _ => true
theorem bindB_eq (e : Edge) : Region.binds .any e = bindB e := by
 unfold Region.binds bindB
 split <;> simp_all
def waitsB (i : Nat) : List Edge → Bool
 | [] => false
 | e :: r => match bindB e with | false => waitsB i r | true => (match Nat.beq e.on i with | true => true | false => waitsB i r)
theorem waitsB_iff {i : Nat} : ∀ {l : List Edge}, waitsB i l = true ↔ ∃ e ∈ l, bindB e = true ∧ e.on = i
 | [] => by simp [waitsB]
 | e :: r => by
  unfold waitsB
  split
  ·rename_i h
   rw [waitsB_iff]
   constructor
   ·rintro ⟨x, h1, h2⟩; exact ⟨x, List.mem_cons_of_mem _ h1, h2⟩
   ·rintro ⟨x, h1, h2, h3⟩
    rcases List.mem_cons.1 h1 with rfl | h1
    ·rw [h] at h2; cases h2
    ·exact ⟨x, h1, h2, h3⟩
  ·rename_i h
   split
   ·rename_i h1
    simp only [true_iff]
    exact ⟨e, by simp, h, Nat.eq_of_beq_eq_true h1⟩
   ·rename_i h1
    rw [waitsB_iff]
    constructor
    ·rintro ⟨x, h1, h2⟩; exact ⟨x, List.mem_cons_of_mem _ h1, h2⟩
    ·rintro ⟨x, h2, h3, h4⟩
     rcases List.mem_cons.1 h2 with rfl | h2
     ·subst h4; simp at h1
     ·exact ⟨x, h2, h3, h4⟩
section
variable {P : Program} {ops : Array Oper} {Q : Exit → Act → World → Prop} {S : Array Bool → World → Prop}
def wpAnyS (P : Program) (ops : Array Oper) (Q : Exit → Act → World → Prop) (S : Array Bool → World → Prop) : Nat → Array Bool → Act → World → Prop
 | 0, L, a, w => Region.ready .any ops L = [] ∧ Q .normal a w
 | n + 1, L, a, w => (Region.ready .any ops L = [] → Q .normal a w) ∧
   ∀ i ∈ Region.ready .any ops L, wpOpW P ops Q i (fun a' w' => S (L.setIfInBounds i true) w' ∧ wpAnyS P ops Q S n (L.setIfInBounds i true) a' w') a w
theorem wpAnyS.any : ∀ {n : Nat} {L : Array Bool} {a : Act} {w : World}, wpAnyS P ops Q S n L a w → wpAnyW P .any ops Q n L a w
 | 0, _, _, _, h => h
 | n + 1, _, _, _, h => ⟨h.1, fun i hi => wpOpW_mono (fun a' w' h' => wpAnyS.any h'.2) (h.2 i hi)⟩
def Later (L L' : Array Bool) : Prop := ∀ j, L.getD j false = true → L'.getD j false = true
theorem Later.set {L L' : Array Bool} (h : Later L L') (i : Nat) : Later L (L'.setIfInBounds i true) := fun j hj => getD_set_true (h j hj)
theorem wpAnyS.mono {S' : Array Bool → World → Prop} {L0 : Array Bool} (hS : ∀ L w, Later L0 L → S L w → S' L w) : ∀ {n : Nat} {L : Array Bool} {a : Act} {w : World}, Later L0 L → wpAnyS P ops Q S n L a w → wpAnyS P ops Q S' n L a w
 | 0, _, _, _, _, h => h
 | n + 1, _, _, _, hl, h => ⟨h.1, fun i hi => wpOpW_mono (fun a' w' h' => ⟨hS _ _ (hl.set i) h'.1, wpAnyS.mono hS (hl.set i) h'.2⟩) (h.2 i hi)⟩
theorem wpAnyS_first {base : World → Prop} {i : Nat} {oi : Oper} {v : Value} (hi : ops[i]? = some oi) (hnd : ∀ c, oi.op ≠ .defer c) (hsel : ∀ (j : Nat) (o : Oper) cs b, ops[j]? = some o → o.op ≠ .select cs b)
  (hQ : ∀ c a w, Q (.panic c) (a.put oi.dst v) w → Q (.panic c) a w) (hSi : ∀ L w, S (L.setIfInBounds i true) w ↔ S L w)
  (hb : ∀ L w, (∀ j oj, ops[j]? = some oj → waitsB i oj.after.toList = true → L.getD j false = false) → S L w → base w) :
  ∀ (n : Nat) (L : Array Bool) (a : Act) (w : World),
   (∀ j oj, ops[j]? = some oj → j ≠ i → L.getD j true = false → (∀ e ∈ oj.after, Region.binds .any e = true → e.on ≠ i) → oi.apart ops oj = true) →
   i ∈ Region.ready .any ops L → (∀ j oj, ops[j]? = some oj → waitsB i oj.after.toList = true → L.getD j false = false) → YieldsIf P ops base oi v a → S L w →
   wpAnyS P ops Q S n (L.setIfInBounds i true) (a.put oi.dst v) w → wpAnyS P ops Q S (n + 1) L a w := by
 intro n
 induction n with
 | zero =>
  intro L a w _ hr hno hy hS H
  refine ⟨fun h => (by rw [h] at hr; cases hr), fun j hj => ?_⟩
  by_cases hji : j = i
  ·subst hji; exact yieldsIf_wpOpW hnd hi hy (hb L w hno hS) ⟨(hSi L w).2 hS, H⟩
  ·have := ready_mono hj hji
   rw [H.1] at this
   cases this
 | succ n ih =>
  intro L a w hfree hr hno hy hS H
  refine ⟨fun h => (by rw [h] at hr; cases hr), fun j hj => ?_⟩
  by_cases hji : j = i
  ·subst hji; exact yieldsIf_wpOpW hnd hi hy (hb L w hno hS) ⟨(hSi L w).2 hS, H⟩
  ·have h1 := H.2 j (ready_mono hj hji)
   obtain ⟨hjun, oj, hoj, hall⟩ := mem_ready.1 hj
   have hnot : ∀ e ∈ oj.after, Region.binds .any e = true → e.on ≠ i := fun e he hb heq => by
    have h1 := hall e he hb
    have h0 := (mem_ready.1 hr).1
    rw [heq] at h1
    rcases Nat.lt_or_ge i L.size with h' | h'
    ·simp [h'] at h0 h1; rw [h0] at h1; cases h1
    ·simp [Array.getElem?_eq_none h'] at h1
   have h2 := wpOpW_putIf hoj (hfree j oj hoj hji hjun hnot) (fun cs b => hsel i oi cs b hi) (fun cs b => hsel j oj cs b hoj) (fun c a w h => hQ c a w h) hy h1
   refine wpOpW_mono (fun a' w' h3 => ?_) h2
   obtain ⟨hy', hS', H'⟩ := h3
   rw [Array.setIfInBounds_comm _ _ (Ne.symm hji)] at hS' H'
   rw [hSi] at hS'
   refine ⟨hS', ih (L.setIfInBounds j true) a' w' (fun k ok hk hki hun hn => hfree k ok hk hki ?_ hn) (ready_mono hr (Ne.symm hji)) (fun k ok hk hw => ?_) hy' hS' H'⟩
   ·by_cases hjk : j = k
    ·subst hjk; exact hjun
    ·rw [getD_set_ne true hjk] at hun; exact hun
   ·by_cases hjk : j = k
    ·subst hjk
     rw [hoj] at hk
     injection hk with hk
     subst hk
     obtain ⟨e, he, hb, ho⟩ := waitsB_iff.1 hw
     exact absurd ho (hnot e (by simpa using he) (by rw [bindB_eq]; exact hb))
    ·rw [getD_set_ne false hjk]; exact hno k ok hk hw
end
end Go.Tr
/- The engine, part 20: entries that are hidden from an operation. -/
namespace Go.Tr
def hideL : List Nat → HP → (HP → Prop) → Prop
 | [], H, K => K H
 | i :: r, H, K => setK H i .dead fun H' => hideL r H' K
def showL : List Nat → HP → HP → (HP → Prop) → Prop
 | [], _, H', K => K H'
 | i :: r, H, H', K => getK H i fun e => setK H' i e fun H'' => showL r H H'' K
section
variable {w w' : World} {S S' : Nat → Prop} {κ κ' : Nat → Bind} {H Hh H' : HP}
theorem hideL_spec : ∀ {is : List Nat} {H : HP} {K : HP → Prop}, hideL is H K → ∃ Hh, K Hh ∧ Hh.length = H.length ∧ (∀ i, i ∉ is → Hh[i]? = H[i]?) ∧ ∀ i ∈ is, Hh[i]? = some .dead
 | [], H, K, hk => ⟨H, hk, rfl, fun _ _ => rfl, fun i hi => by cases hi⟩
 | i :: r, H, K, hk => by
  simp only [hideL] at hk
  obtain ⟨hi, hk⟩ := setK_spec hk
  obtain ⟨Hh, hk, h1, h2, h3⟩ := hideL_spec hk
  refine ⟨Hh, hk, by rw [h1]; simp, fun j hj => ?_, fun j hj => ?_⟩
  ·simp only [List.mem_cons, not_or] at hj
   rw [h2 j hj.2, List.getElem?_set_ne (Ne.symm hj.1)]
  ·by_cases hr : j ∈ r
   ·exact h3 j hr
   ·rcases List.mem_cons.1 hj with rfl | hj
    ·rw [h2 j hr, List.getElem?_set_self hi]
    ·exact absurd hj hr
theorem showL_spec : ∀ {is : List Nat} {H' : HP} {K : HP → Prop}, showL is H H' K → ∃ H'', K H'' ∧ H''.length = H'.length ∧ (∀ i, i ∉ is → H''[i]? = H'[i]?) ∧ ∀ i ∈ is, H''[i]? = H[i]? ∧ i < H.length
 | [], H', K, hk => ⟨H', hk, rfl, fun _ _ => rfl, fun i hi => by cases hi⟩
 | i :: r, H', K, hk => by
  simp only [showL] at hk
  obtain ⟨e, he, hk⟩ := getK_spec hk
  obtain ⟨hi, hk⟩ := setK_spec hk
  obtain ⟨H'', hk, h1, h2, h3⟩ := showL_spec hk
  refine ⟨H'', hk, by rw [h1]; simp, fun j hj => ?_, fun j hj => ?_⟩
  ·simp only [List.mem_cons, not_or] at hj
   rw [h2 j hj.2, List.getElem?_set_ne (Ne.symm hj.1)]
  ·by_cases hr : j ∈ r
   ·exact h3 j hr
   ·rcases List.mem_cons.1 hj with rfl | hj
    ·exact ⟨by rw [h2 j hr, List.getElem?_set_self hi, he], getElem?_lt he⟩
    ·exact absurd hj hr
theorem HR.hide (hh : HR w.heap S κ H) {is : List Nat} (h1 : Hh.length = H.length) (h2 : ∀ i, i ∉ is → Hh[i]? = H[i]?) (h3 : ∀ i ∈ is, Hh[i]? = some .dead) :
  HR w.heap S κ Hh ∧ ∀ i B, ownAt κ Hh i = some B → i ∉ is ∧ ownAt κ H i = some B := by
 have hown : ∀ i B, ownAt κ Hh i = some B → i ∉ is ∧ ownAt κ H i = some B := fun i B hi => by
  obtain ⟨e, k1, k2⟩ := ownAt_some hi
  by_cases his : i ∈ is
  ·rw [h3 i his] at k1
   injection k1 with k1
   subst k1
   simp [owns] at k2
  ·rw [h2 i his] at k1
   exact ⟨his, by rw [ownAt_of k1]; exact k2⟩
 refine ⟨⟨fun i e hi => ?_, fun i hi => hh.out i (by omega), fun i B hi => hh.own i B (hown i B hi).2, fun i j B hi hj => hh.excl i j B (hown i B hi).2 (hown j B hj).2, hh.sz⟩, hown⟩
 by_cases his : i ∈ is
 ·rw [h3 i his] at hi
  injection hi with hi
  subst hi
  simp only [EntR]
 ·rw [h2 i his] at hi
  exact hh.ent i e hi
theorem Mem.unhide (hh : HR w.heap S κ H) {is : List Nat} (h1 : Hh.length = H.length) (h2 : ∀ i, i ∉ is → Hh[i]? = H[i]?) (h3 : ∀ i ∈ is, Hh[i]? = some .dead)
  (m : Mem Hh.length κ w S (fun B => ∃ i, ownAt κ Hh i = some B) H' w' S' κ') {H'' : HP} (k1 : H''.length = H'.length) (k2 : ∀ i, i ∉ is → H''[i]? = H'[i]?) (k3 : ∀ i ∈ is, H''[i]? = H[i]? ∧ i < H.length) :
  Mem H.length κ w S (fun B => ∃ i, ownAt κ H i = some B) H'' w' S' κ' ∧ ∀ i ∈ is, ∀ B, ownAt κ H i = some B → ownAt κ' H'' i = some B ∧ w'.heap[B]? = w.heap[B]? := by
 obtain ⟨hhh, hown⟩ := hh.hide h1 h2 h3
 have hkp : ∀ i ∈ is, κ' i = κ i := fun i hi => m.kp i (by rw [h1]; exact (k3 i hi).2)
 have hno : ∀ i ∈ is, ∀ B, ownAt κ H i = some B → ¬ ∃ j, ownAt κ Hh j = some B := fun i hi B hB ⟨j, hj⟩ => by
  obtain ⟨q1, q2⟩ := hown j B hj
  have := hh.excl i j B hB q2
  subst this
  exact q1 hi
 have hblk : ∀ i ∈ is, ∀ B, ownAt κ H i = some B → w'.heap[B]? = w.heap[B]? := fun i hi B hB => m.fr.keep B (hh.sz B (hh.own i B hB)) (hno i hi B hB)
 have hin : ∀ i ∈ is, ownAt κ' H'' i = ownAt κ H i := fun i hi => by unfold ownAt; rw [(k3 i hi).1, hkp i hi]
 have hout : ∀ i, i ∉ is → ownAt κ' H'' i = ownAt κ' H' i := fun i hi => by unfold ownAt; rw [k2 i hi]
 have hmono : ∀ B off u, ¬ S B → cellAt w.heap B off = some u → ¬ S' B ∧ cellAt w'.heap B off = some u := fun B off u q1 q2 => by
  have hlt := cellAt_lt q2
  refine ⟨fun hS => q1 (m.fr.shut B hlt hS), ?_⟩
  rw [cellAt_same (m.fr.keep B hlt (fun ⟨i, hi⟩ => q1 (hhh.own i B hi)))]
  exact q2
 have hbind : ∀ i, κ i ≠ .none → κ' i = κ i := fun i hi => m.kp i (by
  rcases Nat.lt_or_ge i Hh.length with q | q
  ·exact q
  ·exact absurd (hhh.out i q) hi)
 refine ⟨⟨⟨fun i e hi => ?_, fun i hi => m.hr.out i (by omega), fun i B hi => ?_, fun i j B hi hj => ?_, m.hr.sz⟩,
  ⟨m.fr.os, m.fr.tape, m.fr.output, m.fr.size, fun B hB hO => m.fr.keep B hB (fun ⟨i, hi⟩ => hO ⟨i, (hown i B hi).2⟩), m.fr.shut, fun B hB hS hO => m.fr.held B hB hS (fun ⟨i, hi⟩ => hO ⟨i, (hown i B hi).2⟩)⟩,
  fun i hi => m.kp i (by omega), by have := m.len; omega, fun i B hi hB => ?_⟩, fun i hi B hB => ⟨by rw [hin i hi]; exact hB, hblk i hi B hB⟩⟩
 ·by_cases his : i ∈ is
  ·rw [(k3 i his).1] at hi
   rw [hkp i his]
   exact EntR.mono hmono hbind (fun B hB => hblk i his B (by rw [ownAt_of hi]; exact hB)) (hh.ent i e hi)
  ·rw [k2 i his] at hi
   exact m.hr.ent i e hi
 ·by_cases his : i ∈ is
  ·rw [hin i his] at hi
   exact m.fr.held B (hh.sz B (hh.own i B hi)) (hh.own i B hi) (hno i his B hi)
  ·rw [hout i his] at hi
   exact m.hr.own i B hi
 ·by_cases his : i ∈ is
  ·rw [hin i his] at hi
   by_cases hjs : j ∈ is
   ·rw [hin j hjs] at hj
    exact hh.excl i j B hi hj
   ·rw [hout j hjs] at hj
    exact absurd (m.ow j B hj (hh.sz B (hh.own i B hi))) (hno i his B hi)
  ·rw [hout i his] at hi
   by_cases hjs : j ∈ is
   ·rw [hin j hjs] at hj
    exact absurd (m.ow i B hi (hh.sz B (hh.own j B hj))) (hno j hjs B hj)
   ·rw [hout j hjs] at hj
    exact m.hr.excl i j B hi hj
 ·by_cases his : i ∈ is
  ·rw [hin i his] at hi
   exact ⟨i, hi⟩
  ·rw [hout i his] at hi
   obtain ⟨j, hj⟩ := m.ow i B hi hB
   exact ⟨j, (hown j B hj).2⟩
end
end Go.Tr
/- The engine, part 21: the evaluator of a region that draws its order, and that it is right. -/
namespace Go.Tr
def inDB : List Nat → Nat → Bool
 | [], _ => false
 | x :: r, j => match Nat.beq x j with | true => true | false => inDB r j
theorem inDB_iff {j : Nat} : ∀ {l : List Nat}, inDB l j = true ↔ j ∈ l
 | [] => by simp [inDB]
 | x :: r => by
  unfold inDB
  split
  ·rename_i h
   have := Nat.eq_of_beq_eq_true h
   simp [this]
  ·rename_i h
   rw [inDB_iff, List.mem_cons]
   constructor
   ·exact .inr
   ·rintro (rfl | h1)
    ·simp at h
    ·exact h1
def afterB (D : List Nat) : List Edge → Bool
 | [] => true
 | e :: r => match bindB e with | false => afterB D r | true => (match inDB D e.on with | true => afterB D r | false => false)
theorem afterB_iff {D : List Nat} : ∀ {l : List Edge}, afterB D l = true ↔ ∀ e ∈ l, bindB e = true → e.on ∈ D
 | [] => by simp [afterB]
 | e :: r => by
  unfold afterB
  split
  ·rename_i h
   rw [afterB_iff]
   simp [h]
  ·rename_i h
   split
   ·rename_i h1
    rw [afterB_iff]
    simp [h, inDB_iff.1 h1]
   ·rename_i h1
    have : e.on ∉ D := fun hm => by rw [inDB_iff.2 hm] at h1; cases h1
    simp [h, this]
def rdyL (D : List Nat) : Nat → List Oper → List (Nat × Oper)
 | _, [] => []
 | i, o :: r => match inDB D i with
  | true => rdyL D (Nat.succ i) r
  | false => match afterB D o.after.toList with
   | true => (i, o) :: rdyL D (Nat.succ i) r
   | false => rdyL D (Nat.succ i) r
theorem mem_rdyL {D : List Nat} {j : Nat} {p : Oper} : ∀ {l : List Oper} {i : Nat}, (j, p) ∈ rdyL D i l ↔ i ≤ j ∧ l[j - i]? = some p ∧ j ∉ D ∧ afterB D p.after.toList = true
 | [], i => by simp [rdyL]
 | o :: r, i => by
  have step : (j, p) ∈ rdyL D (Nat.succ i) r ↔ i + 1 ≤ j ∧ r[j - (i + 1)]? = some p ∧ j ∉ D ∧ afterB D p.after.toList = true := mem_rdyL
  have hne : j ≠ i → ((i + 1 ≤ j ∧ r[j - (i + 1)]? = some p ∧ j ∉ D ∧ afterB D p.after.toList = true) ↔ (i ≤ j ∧ (o :: r)[j - i]? = some p ∧ j ∉ D ∧ afterB D p.after.toList = true)) := fun hne => by
   by_cases hij : i ≤ j
   ·have : j - i = (j - (i + 1)) + 1 := by omega
    rw [this, List.getElem?_cons_succ]
    constructor
    ·rintro ⟨_, h⟩; exact ⟨hij, h⟩
    ·rintro ⟨_, h⟩; exact ⟨by omega, h⟩
   ·constructor
    ·rintro ⟨h, _⟩; omega
    ·rintro ⟨h, _⟩; omega
  unfold rdyL
  split
  ·rename_i h
   rw [step]
   by_cases hji : j = i
   ·subst hji
    have := inDB_iff.1 h
    simp [this]
   ·exact hne hji
  ·rename_i h
   have hni : i ∉ D := fun hm => by rw [inDB_iff.2 hm] at h; cases h
   split
   ·rename_i ha
    rw [List.mem_cons, step]
    by_cases hji : j = i
    ·subst hji
     constructor
     ·rintro (h1 | h1)
      ·injection h1 with _ h1; subst h1; exact ⟨Nat.le_refl _, by simp, hni, ha⟩
      ·omega
     ·rintro ⟨_, h1, _⟩
      simp at h1
      exact .inl (by rw [h1])
    ·rw [← hne hji]
     constructor
     ·rintro (h1 | h1)
      ·injection h1 with h1; exact absurd h1 hji
      ·exact h1
     ·exact .inr
   ·rename_i ha
    rw [step]
    by_cases hji : j = i
    ·subst hji
     constructor
     ·rintro ⟨h1, _⟩; omega
     ·rintro ⟨_, h1, _, h2⟩
      simp at h1
      subst h1
      exact absurd h2 (by rw [ha]; simp)
    ·exact hne hji
def quietB (E : Env) (ql : Bool) (o : Op) : Bool := match loudE E o with
 | true => false
 | false => match o with | .load _ _ => ql | .defer _ => false | _ => true
def pickQ (E : Env) (ql : Bool) : List (Nat × Oper) → Option (Nat × Oper)
 | [] => none
 | (i, o) :: r => match quietB E ql o.op with | true => some (i, o) | false => pickQ E ql r
theorem pickQ_some {E : Env} {ql : Bool} {i : Nat} {o : Oper} : ∀ {l : List (Nat × Oper)}, pickQ E ql l = some (i, o) → (i, o) ∈ l ∧ quietB E ql o.op = true
 | [], h => by simp [pickQ] at h
 | (j, p) :: r, h => by
  unfold pickQ at h
  split at h
  ·rename_i hq
   injection h with h
   injection h with h1 h2
   subst h1 h2
   exact ⟨by simp, hq⟩
  ·obtain ⟨h1, h2⟩ := pickQ_some h
   exact ⟨List.mem_cons_of_mem _ h1, h2⟩
theorem pickQ_none {E : Env} {ql : Bool} : ∀ {l : List (Nat × Oper)}, pickQ E ql l = none → ∀ x ∈ l, quietB E ql x.2.op = false
 | [], _, x, hx => by cases hx
 | (j, p) :: r, h, x, hx => by
  unfold pickQ at h
  split at h
  ·cases h
  ·rename_i hq
   rcases List.mem_cons.1 hx with rfl | hx
   ·exact hq
   ·exact pickQ_none h x hx
theorem quiet_loud {E : Env} {ql : Bool} {o : Op} (h : quietB E ql o = true) : loudE E o = false := by
 unfold quietB at h
 split at h
 ·cases h
 ·assumption
def srcF (tm : TM) (o : Oper) : Option Nat := match o.op with | .load _ x => opEnt tm x | .convert _ _ x => opEnt tm x | _ => none
def addF (i : Nat) (e : Option Nat) (F : List (Nat × Nat)) : List (Nat × Nat) := match e with | some e => (i, e) :: F | none => F
def keepF (l : List Edge) : List (Nat × Nat) → List (Nat × Nat)
 | [] => []
 | (i, e) :: r => match waitsB i l with | true => keepF l r | false => (i, e) :: keepF l r
def entsF : List (Nat × Nat) → List Nat
 | [] => []
 | (_, e) :: r => e :: entsF r
def allR {α : Type} (f : α → Prop) : α → List α → Prop
 | x, [] => f x
 | x, y :: r => f x ∧ allR f y r
theorem allR_mem {α : Type} {f : α → Prop} : ∀ {r : List α} {x : α}, allR f x r → ∀ y ∈ x :: r, f y
 | [], x, h, y, hy => by
  simp at hy; subst hy; exact h
 | z :: r, x, h, y, hy => by
  rcases List.mem_cons.1 hy with rfl | hy
  ·exact h.1
  ·exact allR_mem h.2 y hy
def awD (P : Program) (E : Env) (ops : Array Oper) (ql : Bool) (ol : List Oper) : Nat → List Nat → List (Nat × Nat) → TM → HP → (TM → HP → Prop) → Prop
 | 0, D, _, tm, H, K => (match rdyL D 0 ol with | [] => K tm H | _ :: _ => False)
 | n + 1, D, F, tm, H, K => match pickQ E ql (rdyL D 0 ol) with
  | some (i, o) => awOp P E ops o tm H fun tm' H' => awD P E ops ql ol n (i :: D) (addF i (srcF tm o) F) tm' H' K
  | none => (match rdyL D 0 ol with
   | [] => K tm H
   | x :: r => allR (fun x => hideL (entsF (keepF x.2.after.toList F)) H fun Hh => awOp P E ops x.2 tm Hh fun tm' H' =>
     showL (entsF (keepF x.2.after.toList F)) H H' fun H'' => awD P E ops ql ol n (x.1 :: D) (keepF x.2.after.toList F) tm' H'' K) x r)
def panFree (E : Env) (ol : List Oper) : Bool :=
 match E.pan with
 | none => true
 | some (ts, _) => ol.all fun o => match o.dst with | some d => !ts.elem d | none => true
def qfree (E : Env) (ops : Array Oper) (ql : Bool) (ol : List Oper) : Bool :=
 panFree E ol && ol.zipIdx.all fun (oi, i) => (match oi.op with | .select .. => false | _ => true) && (match oi.guard with | some (j, _) => waitsB j oi.after.toList | none => true) &&
  (!quietB E ql oi.op || ol.zipIdx.all fun (oj, j) => i == j || waitsB i oj.after.toList || waitsB j oi.after.toList || oi.apart ops oj)
structure QFree (E : Env) (ops : Array Oper) (ql : Bool) : Prop where
 pf : ∀ ts KP, E.pan = some (ts, KP) → ∀ (i : Nat) (o : Oper), ops[i]? = some o → ∀ d, o.dst = some d → d ∉ ts
 sel : ∀ (j : Nat) (o : Oper) cs b, ops[j]? = some o → o.op ≠ .select cs b
 gd : ∀ (i : Nat) (o : Oper), ops[i]? = some o → ∀ j b, o.guard = some (j, b) → waitsB j o.after.toList = true
 ap : ∀ (i : Nat) (oi : Oper), ops[i]? = some oi → quietB E ql oi.op = true → ∀ (j : Nat) (oj : Oper), ops[j]? = some oj → i ≠ j → waitsB i oj.after.toList = false → waitsB j oi.after.toList = false → oi.apart ops oj = true
theorem qfree_spec {E : Env} {ops : Array Oper} {ql : Bool} (h : qfree E ops ql ops.toList = true) : QFree E ops ql := by
 unfold qfree at h
 rw [Bool.and_eq_true] at h
 obtain ⟨hpf, h⟩ := h
 simp only [List.all_eq_true, Bool.and_eq_true] at h
 have key : ∀ (i : Nat) (o : Oper), ops[i]? = some o → _ := fun i o hi => h (o, i) (by
  rw [List.mem_iff_getElem?]
  exact ⟨i, by simp [hi]⟩)
 refine ⟨fun ts KP hp i o hi d hd => ?_, fun j o cs b hj he => ?_, fun i o hi j b hg => ?_, fun i oi hi hq j oj hj hne h1 h2 => ?_⟩
 ·unfold panFree at hpf
  rw [hp] at hpf
  simp only [List.all_eq_true] at hpf
  have := hpf o (by
   rw [List.mem_iff_getElem?]
   exact ⟨i, by simpa using hi⟩)
  rw [hd] at this
  simpa using this
 ·have := (key j o hj).1.1
  rw [he] at this
  cases this
 ·have := (key i o hi).1.2
  rw [hg] at this
  exact this
 ·have := (key i oi hi).2
  simp only [hq, Bool.not_true, Bool.false_or, List.all_eq_true] at this
  have h3 := this (oj, j) (by
   rw [List.mem_iff_getElem?]
   exact ⟨j, by simp [hj]⟩)
  simpa [hne, h1, h2] using h3
end Go.Tr
/- The engine, part 22: a region that draws its order, proved. -/
namespace Go.Tr
section
variable {P : Program} {E : Env} {n0 : Nat} {N : Nat × List Deferred} {κ0 : Nat → Bind} {w0 w : World} {S0 O0 S : Nat → Prop} {H : HP} {κ : Nat → Bind} {tm : TM} {a : Act} {ops : Array Oper} {gs : List Nat} {D : Nat → Prop}
theorem awOpQ_spec (he : EnvOk P E) (hf : RegF N.1 ops gs) (hi : Inv n0 N κ0 w0 S0 O0 tm H a w S κ) (hri : RI ops gs D tm a) {i : Nat} {o : Oper} (hoi : ops[i]? = some o) (hD : ¬ D i) (hgd : ∀ j b, o.guard = some (j, b) → D j)
  (hq : loudE E o.op = false) {K : TM → HP → Prop} (hk : awOp P E ops o tm H K) :
  ∃ u tm', K tm' H ∧ Inv n0 N κ0 w0 S0 O0 tm' H (a.put o.dst u) w S κ ∧ RI ops gs (fun j => D j ∨ j = i) tm' (a.put o.dst u) ∧
   ((Region.wanted o (yielded ops a.tmps) = true ∧ (∀ w2, OpSame E o a w w2 → (execOp a.eval o).run P w2 = .ok (.value u) w2) ∧ OpSrc E o tm w S κ H a) ∨ (Region.wanted o (yielded ops a.tmps) = false ∧ u = undef)) := by
 have hd : ∀ d, o.dst = some d → d < N.1 := fun d h => hf.dlt i o hoi d h
 have hmono : ∀ {tm' : TM} {a' : Act}, RI ops gs D tm' a' → RI ops gs (fun j => D j ∨ j = i) tm' a' := fun h => h.mono fun j hj => .inl hj
 unfold awOp at hk
 rcases gOf_spec hf hri hi.tr hoi hgd hk with ⟨hk, hw⟩ | ⟨hk, hw⟩ | ⟨x, ch, g, hk, hgw, hco, hmem, hno⟩
 ·obtain ⟨h1, h2⟩ := putTop hi hd undef
  exact ⟨undef, _, hk, h1, hmono (hri.putR hf hi.sz hoi hD h2 undef), .inr ⟨hw, rfl⟩⟩
 ·obtain ⟨v, u, hr, hv, hk, hsrc⟩ := qop_spec he hi.m.hr hi.tr hri.wok chOk_nil rfl hq hk
  obtain ⟨tm', hk, hp, hi'⟩ := put_done hi hd hv hk
  exact ⟨u, tm', hk, hi', hmono (hri.putR hf hi.sz hoi hD hp u), .inl ⟨hw, hr, hsrc⟩⟩
 ·simp only [hq] at hk
  have hapart : ∀ p ∈ x :: ch, ∀ d, o.dst = some d → p.1 ≠ d := fun p hp d hdd e => by
   obtain ⟨j, hj, hjg, hjd⟩ := hmem p hp
   have := hf.one i o hoi j hjg p.1 hjd (by rw [hdd, e])
   subst this
   exact hD hj
  have fin : ∀ (v : AV) (u : Value), (dstK tm (x :: ch) g o.dst v fun tm' => K tm' H) → (g = true → AVR w.heap S κ v u) → (g = false → u = undef) →
    ∃ tm', K tm' H ∧ Inv n0 N κ0 w0 S0 O0 tm' H (a.put o.dst u) w S κ ∧ RI ops gs (fun j => D j ∨ j = i) tm' (a.put o.dst u) := by
   intro v u hk h1 h2
   obtain ⟨hn, ⟨hdn, hk'⟩ | ⟨d, hds, ⟨hch, _⟩ | ⟨y, r, hyr, hk'⟩⟩⟩ := dstK_spec hk
   ·rw [hdn]
    exact ⟨tm, hk', hi, hmono hri⟩
   ·cases hch
   ·injection hyr with e1 e2
    subst e1 e2
    rw [hds]
    have hdN := hd d hds
    refine ⟨_, hk', hi.put hdN (by simp only [AVR]; exact ⟨h1, h2⟩), hmono ?_⟩
    intro t ch' g' x' hl
    rw [lk_cons] at hl
    have hdt : d < a.tmps.size := by rw [hi.sz]; exact hdN
    by_cases e : d = t
    ·simp only [e, if_true, AV.when.injEq] at hl
     obtain ⟨rfl, rfl, rfl⟩ := hl
     refine ⟨hmem, ?_⟩
     rw [chOk_put hdt (fun p hp => hapart p hp d hds)]
     exact hco
    ·simp only [e, if_false] at hl
     have ha := RI.apart hf hri hoi hD hds hl
     exact ⟨(hri t ch' g' x' hl).1, by rw [chOk_put hdt ha]; exact (hri t ch' g' x' hl).2⟩
  cases hg : g with
  | true =>
   have hw := hgw.1 hg
   obtain ⟨v, u, hr, hv, hk, hsrc⟩ := qop_spec he hi.m.hr hi.tr hri.wok (hco.2 hg) hg hq hk
   obtain ⟨tm', h1, h2, h3⟩ := fin v u hk (fun _ => hv) (fun h => by rw [hg] at h; cases h)
   exact ⟨u, tm', h1, h2, h3, .inl ⟨hw, hr, hsrc⟩⟩
  | false =>
   have hw : Region.wanted o (yielded ops a.tmps) = false := by
    cases hx : Region.wanted o (yielded ops a.tmps) with
    | false => rfl
    | true => have := hgw.2 hx; rw [hg] at this; cases this
   obtain ⟨v, hk⟩ := qop_any hg hq hk
   obtain ⟨tm', h1, h2, h3⟩ := fin v undef hk (fun h => by rw [hg] at h; cases h) (fun _ => rfl)
   exact ⟨undef, tm', h1, h2, h3, .inr ⟨hw, rfl⟩⟩
structure PR where
 op : Nat
 ent : Option Nat
 base : World → Prop
def GOk (g : PR) (w : World) (S : Nat → Prop) (κ : Nat → Bind) (H : HP) : Prop :=
 ∃ C : Nat → Nat → Prop, (∀ w2 : World, (∀ B off, C B off → cellAt w2.heap B off = cellAt w.heap B off) → g.base w2) ∧
  ∀ B off, C B off → (¬ S B ∨ ∃ e, g.ent = some e ∧ ownAt κ H e = some B) ∧ ∃ v, cellAt w.heap B off = some v
theorem GOk.base {g : PR} (h : GOk g w S κ H) : g.base w := by
 obtain ⟨C, h1, _⟩ := h
 exact h1 w fun _ _ _ => rfl
theorem GOk_of {o : Oper} {i : Nat} {base : World → Prop} (hs : OpSrc E o tm w S κ H a) (hr : ∀ w2, OpSame E o a w w2 → base w2) : GOk ⟨i, srcF tm o, base⟩ w S κ H := by
 unfold OpSrc at hs
 unfold OpSame at hr
 unfold srcF
 split at hs
 ·rename_i T x hop
  simp only [hop] at hr
  refine ⟨fun B off' => ∃ off j, a.eval x = .pointer (some ⟨B, off, none⟩) ∧ j < (E.ty T).size ∧ off' = off + j, fun w2 h => hr w2 fun B off he j hj => h B _ ⟨off, j, he, hj, rfl⟩, ?_⟩
  rintro B _ ⟨off, j, h1, h2, rfl⟩
  simp only [hop]
  exact hs B off h1 j h2
 ·rename_i sT dT x hop
  simp only [hop] at hr
  refine ⟨fun B off' => ∃ off len cap j, a.eval x = .slice (some ⟨B, off, none⟩) len cap ∧ j < len ∧ off' = off + j, fun w2 h => hr w2 fun B off len cap he j hj => h B _ ⟨off, len, cap, j, he, hj, rfl⟩, ?_⟩
  rintro B _ ⟨off, len, cap, j, h1, h2, rfl⟩
  simp only [hop]
  exact hs B off len cap h1 j h2
 ·rename_i hop hop2
  refine ⟨fun _ _ => False, fun w2 _ => hr w2 ?_, fun _ _ h => h.elim⟩
  split
  ·rename_i T x h; exact absurd h (hop T x)
  ·rename_i sT dT x h; exact absurd h (hop2 sT dT x)
  ·trivial
theorem GOk.next {g : PR} {w' : World} {S' : Nat → Prop} {κ' : Nat → Bind} {H' : HP} (h : GOk g w S κ H) (hm : ∀ B off v, ¬ S B → cellAt w.heap B off = some v → ¬ S' B ∧ cellAt w'.heap B off = some v)
  (ho : ∀ e, g.ent = some e → ∀ B, ownAt κ H e = some B → ownAt κ' H' e = some B ∧ w'.heap[B]? = w.heap[B]?) : GOk g w' S' κ' H' := by
 obtain ⟨C, h1, h2⟩ := h
 have h3 : ∀ B off, C B off → (¬ S' B ∨ ∃ e, g.ent = some e ∧ ownAt κ' H' e = some B) ∧ ∃ v, cellAt w'.heap B off = some v ∧ cellAt w.heap B off = some v := fun B off hc => by
  obtain ⟨h3, v, h4⟩ := h2 B off hc
  rcases h3 with h3 | ⟨e, h3, h5⟩
  ·obtain ⟨h5, h6⟩ := hm B off v h3 h4
   exact ⟨.inl h5, v, h6, h4⟩
  ·obtain ⟨h6, h7⟩ := ho e h3 B h5
   exact ⟨.inr ⟨e, h3, h6⟩, v, by rw [cellAt_same h7]; exact h4, h4⟩
 refine ⟨C, fun w2 hs => h1 w2 fun B off hc => ?_, fun B off hc => ?_⟩
 ·obtain ⟨_, v, h4, h5⟩ := h3 B off hc
  rw [hs B off hc, h4, h5]
 ·obtain ⟨h4, v, h5, _⟩ := h3 B off hc
  exact ⟨h4, v, h5⟩
def fOf : List PR → List (Nat × Nat)
 | [] => []
 | g :: r => addF g.op g.ent (fOf r)
theorem fOf_keep (l : List Edge) : ∀ (G : List PR), fOf (G.filter fun g => !waitsB g.op l) = keepF l (fOf G)
 | [] => rfl
 | g :: r => by
  rw [List.filter_cons]
  cases hw : waitsB g.op l
  ·simp only [Bool.not_false, if_true, fOf, fOf_keep l r]
   cases he : g.ent <;> simp only [addF]
   simp only [keepF, hw]
  ·simp only [Bool.not_true, Bool.false_eq_true, if_false, fOf, fOf_keep l r]
   cases he : g.ent <;> simp only [addF]
   simp only [keepF, hw]
theorem mem_entsF {e : Nat} : ∀ {G : List PR} {g : PR}, g ∈ G → g.ent = some e → e ∈ entsF (fOf G)
 | [], _, h, _ => by cases h
 | x :: r, g, h, he => by
  rcases List.mem_cons.1 h with rfl | h
  ·simp only [fOf, he, addF, entsF]; simp
  ·have := mem_entsF h he
   simp only [fOf]
   cases x.ent <;> simp only [addF, entsF]
   ·exact this
   ·exact List.mem_cons_of_mem _ this
theorem PanQ.rehide {Q : Exit → Act → World → Prop} (hP : PanQ E n0 N κ0 w0 S0 O0 Q) {H Hh : HP} {tm : TM} {a : Act} {w : World} {S : Nat → Prop} {κ : Nat → Bind} {is : List Nat} (hi : Inv n0 N κ0 w0 S0 O0 tm H a w S κ) (hl : Hh.length = H.length)
  (hown : ∀ i B, ownAt κ Hh i = some B → i ∉ is ∧ ownAt κ H i = some B) : PanQ E Hh.length N κ w S (fun B => ∃ i, ownAt κ Hh i = some B) Q := by
 intro ts KP hp x V tm2 H2 a2 w2 S2 κ2 h1 h2 hi2
 have hO : ∀ B, (∃ i, ownAt κ Hh i = some B) → ∃ i, ownAt κ H i = some B := fun B ⟨i, h⟩ => ⟨i, (hown i B h).2⟩
 have m : Mem H.length κ w S (fun B => ∃ i, ownAt κ H i = some B) H2 w2 S2 κ2 :=
  ⟨hi2.m.hr, ⟨hi2.m.fr.os, hi2.m.fr.tape, hi2.m.fr.output, hi2.m.fr.size, fun B hB hn => hi2.m.fr.keep B hB (fun h => hn (hO B h)), hi2.m.fr.shut, fun B hB hS hn => hi2.m.fr.held B hB hS (fun h => hn (hO B h))⟩,
   fun i hi' => hi2.m.kp i (by omega), by have := hi2.m.len; omega, fun i B h hB => hO B (hi2.m.ow i B h hB)⟩
 exact hP ts KP hp x V tm2 H2 a2 w2 S2 κ2 h1 h2 ⟨(hi.m.trans m).1, hi2.tr, hi2.df, hi2.sz⟩
theorem PutQ.op {Q : Exit → Act → World → Prop} {ql : Bool} (hQ : PutQ E Q) (hqf : QFree E ops ql) {i : Nat} {o : Oper} (hi : ops[i]? = some o) (v : Value) : ∀ c a w, Q (.panic c) (a.put o.dst v) w → Q (.panic c) a w := by
 intro c a w h
 unfold PutQ at hQ
 split at hQ
 ·exact absurd h (hQ _ _ _)
 ·rename_i ts KP hp
  cases hd : o.dst with
  | none => rw [hd] at h; exact h
  | some d => rw [hd] at h; exact hQ c a d v w (hqf.pf ts KP hp i o hi d hd) h
def SOf (E : Env) (ops : Array Oper) (ql : Bool) (G : List PR) : Array Bool → World → Prop := fun L w => ∀ g ∈ G, (∀ (j : Nat) (oj : Oper), ops[j]? = some oj → quietB E ql oj.op = false → waitsB g.op oj.after.toList = true → L.getD j false = false) → g.base w
theorem getD_tf {L : Array Bool} {j : Nat} : L.getD j true = false ↔ j < L.size ∧ L.getD j false = false := by
 rcases Nat.lt_or_ge j L.size with h | h
 ·simp [h]
 ·simp [Nat.not_lt.2 h]
theorem awD_spec (he : EnvOk P E) (hf : RegF N.1 ops gs) {ql : Bool} (hqf : QFree E ops ql) {Q : Exit → Act → World → Prop} (hQ : PutQ E Q) (hP : PanQ E n0 N κ0 w0 S0 O0 Q) {K : TM → HP → Prop}
  (hq : ∀ tm' H' S' κ' a' w', K tm' H' → (∃ D, RI ops gs D tm' a') → Inv n0 N κ0 w0 S0 O0 tm' H' a' w' S' κ' → Q .normal a' w') :
  ∀ (n : Nat) {D : List Nat} (G : List PR) {tm : TM} {H : HP} {a : Act} {w : World} {S : Nat → Prop} {κ : Nat → Bind} {L : Array Bool}, L.size = ops.size → (∀ j, L.getD j false = true ↔ j ∈ D) → (∀ j ∈ D, ∀ oj, ops[j]? = some oj → ∀ i, waitsB i oj.after.toList = true → i ∈ D) →
   Inv n0 N κ0 w0 S0 O0 tm H a w S κ → RI ops gs (· ∈ D) tm a → (∀ g ∈ G, GOk g w S κ H) → awD P E ops ql ops.toList n D (fOf G) tm H K → wpAnyS P ops Q (SOf E ops ql G) n L a w := by
 have hready : ∀ {D : List Nat} {L : Array Bool}, L.size = ops.size → (∀ j, L.getD j false = true ↔ j ∈ D) → ∀ j, j ∈ Region.ready .any ops L ↔ ∃ o, (j, o) ∈ rdyL D 0 ops.toList := by
  intro D L hs hD j
  rw [mem_ready, getD_tf]
  constructor
  ·rintro ⟨⟨h1, h2⟩, o, h3, h4⟩
   have hjD : j ∉ D := fun hm => by rw [(hD j).2 hm] at h2; cases h2
   exact ⟨o, mem_rdyL.2 ⟨Nat.zero_le _, by simpa using h3, hjD, afterB_iff.2 fun e he hb => (hD _).1 (h4 e (by simpa using he) (by rw [bindB_eq]; exact hb))⟩⟩
  ·rintro ⟨o, h⟩
   obtain ⟨_, h1, h2, h3⟩ := mem_rdyL.1 h
   have h1' : ops[j]? = some o := by simpa using h1
   have hj := (Array.getElem?_eq_some_iff.1 h1').1
   refine ⟨⟨by omega, ?_⟩, o, h1', fun e he hb => (hD _).2 (afterB_iff.1 h3 e (by simpa using he) (by rw [← bindB_eq]; exact hb))⟩
   cases hx : L.getD j false with
   | false => rfl
   | true => exact absurd ((hD j).1 hx) h2
 have hset : ∀ {D : List Nat} {L : Array Bool}, L.size = ops.size → (∀ j, L.getD j false = true ↔ j ∈ D) → ∀ {i : Nat}, i < ops.size → (L.setIfInBounds i true).size = ops.size ∧ ∀ j, (L.setIfInBounds i true).getD j false = true ↔ j ∈ i :: D := by
  intro D L hs hD i hi
  refine ⟨by simpa using hs, fun j => ?_⟩
  rw [List.mem_cons, ← hD j]
  by_cases e : i = j
  ·subst e
   have : i < L.size := by omega
   simp [this]
  ·rw [getD_set_ne false e]
   constructor
   ·exact .inr
   ·rintro (h | h)
    ·exact absurd h.symm e
    ·exact h
 have nil : ∀ {D : List Nat} {L : Array Bool}, L.size = ops.size → (∀ j, L.getD j false = true ↔ j ∈ D) → rdyL D 0 ops.toList = [] → Region.ready .any ops L = [] := by
  intro D L hs hD h
  apply List.eq_nil_iff_forall_not_mem.2
  intro j hj
  obtain ⟨o, ho⟩ := (hready hs hD j).1 hj
  rw [h] at ho
  cases ho
 have hclose : ∀ {D : List Nat} {j : Nat} {o : Oper}, (∀ j ∈ D, ∀ oj, ops[j]? = some oj → ∀ i, waitsB i oj.after.toList = true → i ∈ D) → ops[j]? = some o → afterB D o.after.toList = true →
   ∀ q ∈ j :: D, ∀ oj, ops[q]? = some oj → ∀ i, waitsB i oj.after.toList = true → i ∈ j :: D := by
  intro D j o hcl hoj haft q hq oj hoq i hw
  rcases List.mem_cons.1 hq with rfl | hq
  ·rw [hoj] at hoq
   injection hoq with hoq
   subst hoq
   obtain ⟨e, he, hb, ho⟩ := waitsB_iff.1 hw
   exact List.mem_cons_of_mem _ (ho ▸ afterB_iff.1 haft e he hb)
  ·exact List.mem_cons_of_mem _ (hcl q hq oj hoq i hw)
 intro n
 induction n with
 | zero =>
  intro D G tm H a w S κ L hs hD hcl hi hri hG hk
  simp only [awD] at hk
  split at hk
  ·rename_i h
   exact ⟨nil hs hD h, hq _ _ _ _ _ _ hk ⟨_, hri⟩ hi⟩
  ·exact hk.elim
 | succ n ih =>
  intro D G tm H a w S κ L hs hD hcl hi hri hG hk
  simp only [awD] at hk
  split at hk
  ·rename_i i o hp
   obtain ⟨hmem, hqo⟩ := pickQ_some hp
   obtain ⟨_, h1, hiD, haft⟩ := mem_rdyL.1 hmem
   have hoi : ops[i]? = some o := by simpa using h1
   have hilt := (Array.getElem?_eq_some_iff.1 hoi).1
   have hgd : ∀ j b, o.guard = some (j, b) → j ∈ D := fun j b hg => by
    obtain ⟨e, he, hb, ho⟩ := waitsB_iff.1 (hqf.gd i o hoi j b hg)
    rw [← ho]
    exact afterB_iff.1 haft e he hb
   have hnd0 : ∀ c, o.op ≠ .defer c := fun c hc => by
    rw [hc] at hqo
    simp [quietB, loudE, cvB, loudB] at hqo
   obtain ⟨u, tm', hk, hi', hri', hu⟩ := awOpQ_spec he hf hi hri hoi hiD hgd (quiet_loud hqo) hk
   let g : PR := ⟨i, srcF tm o, fun w2 => Region.wanted o (yielded ops a.tmps) = true → (execOp a.eval o).run P w2 = .ok (.value u) w2⟩
   have hg : GOk g w S κ H := by
    rcases hu with ⟨hw, hr, hsrc⟩ | ⟨hw, hu⟩
    ·exact GOk_of hsrc fun w2 hs _ => hr w2 hs
    ·refine ⟨fun _ _ => False, fun w2 _ => ?_, fun _ _ h => False.elim h⟩
     intro h
     rw [hw] at h
     cases h
   have hG' : ∀ g' ∈ g :: G, GOk g' w S κ H := fun g' hg' => by
    rcases List.mem_cons.1 hg' with rfl | hg'
    ·exact hg
    ·exact hG g' hg'
   obtain ⟨hs', hD'⟩ := hset hs hD hilt
   have h2 := ih (D := i :: D) (g :: G) hs' hD' (hclose hcl hoi haft) hi' (hri'.mono fun j hj => by rcases hj with hj | rfl; exact List.mem_cons_of_mem _ hj; simp) hG' hk
   refine wpAnyS.mono (S := SOf E ops ql (g :: G)) (L0 := L) (fun L w _ h g' hg' => h g' (List.mem_cons_of_mem _ hg')) (fun _ h => h) ?_
   refine wpAnyS_first (base := g.base) hoi hnd0 hqf.sel (PutQ.op hQ hqf hoi u) ?_ ?_ n L a w ?_ ((hready hs hD i).2 ⟨o, hmem⟩) ?_ ?_ ?_ h2
   ·intro L w
    have key : ∀ (j : Nat) (oj : Oper), ops[j]? = some oj → quietB E ql oj.op = false → (L.setIfInBounds i true).getD j false = L.getD j false := fun j oj hj hjq => by
     refine getD_set_ne false ?_
     rintro rfl
     rw [hoi] at hj
     injection hj with hj
     subst hj
     rw [hqo] at hjq
     cases hjq
    constructor
    ·exact fun h g' hg' hw => h g' hg' fun j oj hj hjq hwt => by rw [key j oj hj hjq]; exact hw j oj hj hjq hwt
    ·exact fun h g' hg' hw => h g' hg' fun j oj hj hjq hwt => by rw [← key j oj hj hjq]; exact hw j oj hj hjq hwt
   ·exact fun L w hno h => h g (by simp) fun j oj hj _ hwt => hno j oj hj hwt
   ·intro j oj hj hne hun hno
    refine hqf.ap i o hoi hqo j oj hj (Ne.symm hne) ?_ ?_
    ·cases hx : waitsB i oj.after.toList with
     | false => rfl
     | true =>
      obtain ⟨e, he, hb, ho⟩ := waitsB_iff.1 hx
      exact absurd ho (hno e (by simpa using he) (by rw [bindB_eq]; exact hb))
    ·cases hx : waitsB j o.after.toList with
     | false => rfl
     | true =>
      obtain ⟨e, he, hb, ho⟩ := waitsB_iff.1 hx
      have h3 := afterB_iff.1 haft e he hb
      rw [ho, ← hD j] at h3
      have := (getD_tf.1 hun).2
      rw [h3] at this
      cases this
   ·intro j oj hj hwt
    cases hx : L.getD j false with
    | false => rfl
    | true =>
     exact absurd (hcl j ((hD j).1 hx) oj hj i hwt) hiD
   ·rcases hu with ⟨hw, hr, hsrc⟩ | ⟨hw, hu⟩
    ·exact .inl ⟨hw, fun w2 hb => hb hw⟩
    ·exact .inr ⟨hw, hu⟩
   ·exact fun g' hg' _ => (hG' g' hg').base
  ·rename_i hp
   have hloud := pickQ_none hp
   split at hk
   ·rename_i h
    have h0 := nil hs hD h
    exact ⟨fun _ => hq _ _ _ _ _ _ hk ⟨_, hri⟩ hi, by rw [h0]; simp⟩
   ·rename_i x r hr
    refine ⟨fun h => ?_, fun j hj => ?_⟩
    ·exfalso
     have := (hready hs hD x.1).2 ⟨x.2, by rw [hr]; simp⟩
     rw [h] at this
     cases this
    ·obtain ⟨o, ho⟩ := (hready hs hD j).1 hj
     have hlo := hloud _ ho
     obtain ⟨_, h1, hjD, haft⟩ := mem_rdyL.1 ho
     have hoj : ops[j]? = some o := by simpa using h1
     have hjlt := (Array.getElem?_eq_some_iff.1 hoj).1
     have hgd : ∀ i b, o.guard = some (i, b) → i ∈ D := fun i b hg => by
      obtain ⟨e, he, hb, ho⟩ := waitsB_iff.1 (hqf.gd j o hoj i b hg)
      rw [← ho]
      exact afterB_iff.1 haft e he hb
     rw [hr] at ho
     have hk := allR_mem hk _ ho
     simp only at hk
     let G' := G.filter fun g => !waitsB g.op o.after.toList
     have hF : keepF o.after.toList (fOf G) = fOf G' := (fOf_keep _ G).symm
     rw [hF] at hk
     obtain ⟨Hh, hk, l1, l2, l3⟩ := hideL_spec hk
     obtain ⟨hhh, hown⟩ := hi.m.hr.hide l1 l2 l3
     have hih : Inv Hh.length N κ w S (fun B => ∃ i, ownAt κ Hh i = some B) tm Hh a w S κ := ⟨Mem.refl hhh, hi.tr, hi.df, hi.sz⟩
     have h2 := awOp_spec (Q := Q) he hf hih hri hoj hjD hgd (hP.rehide hi l1 hown) hk
     obtain ⟨hs', hD'⟩ := hset hs hD hjlt
     have next : ∀ a' w', (∃ tm' H' S' κ', (showL (entsF (fOf G')) H H' fun H'' => awD P E ops ql ops.toList n (j :: D) (fOf G') tm' H'' K) ∧ Inv Hh.length N κ w S (fun B => ∃ i, ownAt κ Hh i = some B) tm' H' a' w' S' κ' ∧ RI ops gs (fun q => q ∈ D ∨ q = j) tm' a') →
       SOf E ops ql G (L.setIfInBounds j true) w' ∧ wpAnyS P ops Q (SOf E ops ql G) n (L.setIfInBounds j true) a' w' := by
      rintro a' w' ⟨tm', H', S', κ', hk, hi', hri'⟩
      obtain ⟨H'', hk, k1, k2, k3⟩ := showL_spec hk
      obtain ⟨m1, hkeep⟩ := Mem.unhide hi.m.hr l1 l2 l3 hi'.m k1 k2 k3
      obtain ⟨m2, hext⟩ := hi.m.trans m1
      have hG' : ∀ g ∈ G', GOk g w' S' κ' H'' := fun g hg => by
       refine (hG g (List.mem_filter.1 hg).1).next hext.mem fun e hge B hB => hkeep e (mem_entsF hg hge) B hB
      have hback : ∀ L' w2, Later (L.setIfInBounds j true) L' → SOf E ops ql G' L' w2 → SOf E ops ql G L' w2 := fun L' w2 hlat h g hg hw => by
       cases hx : waitsB g.op o.after.toList with
       | true =>
        have h3 := hw j o hoj hlo hx
        rw [hlat j ((hD' j).2 (by simp))] at h3
        cases h3
       | false => exact h g (List.mem_filter.2 ⟨hg, by rw [hx]; rfl⟩) hw
      refine ⟨hback _ _ (fun _ h => h) fun g hg _ => (hG' g hg).base, ?_⟩
      have h3 := ih (D := j :: D) G' hs' hD' (hclose hcl hoj haft) ⟨m2, hi'.tr, hi'.df, hi'.sz⟩ (hri'.mono fun q hq => by rcases hq with hq | rfl; exact List.mem_cons_of_mem _ hq; simp) hG' hk
      exact wpAnyS.mono hback (fun _ h => h) h3
     unfold wpOpW
     simp only [hoj]
     split
     ·rename_i hw
      rw [if_pos hw] at h2
      exact OpW.mono next h2
     ·rename_i hw
      rw [if_neg hw] at h2
      exact next _ _ h2
theorem draw_intro (ql : Bool) {tm : TM} {H : HP} {K : TM → HP → Prop} (hqf : qfree E ops ql ops.toList = true)
  (h : awD P E ops ql ops.toList ops.toList.length [] [] tm H fun tm' H' => noWhen tm' fun tm'' => K tm'' H') : DrawSt P E ops tm H K := by
 unfold DrawSt
 intro N κ0 w0 S0 O0 a w S κ Q he hok hQ hP hn hi hq
 obtain ⟨gs, hf⟩ := regOk_facts hok
 have h1 := awD_spec he hf (qfree_spec hqf) hQ hP (K := fun tm' H' => noWhen tm' fun tm'' => K tm'' H') (fun tm' H' S' κ' a' w' hk _ hi' => by
  obtain ⟨tm'', hk, hno⟩ := noWhen_spec hk
  refine hq tm'' H' S' κ' a' w' hk (fun t ch g x hl => ?_) ⟨hi'.m, fun t => ?_, hi'.df, hi'.sz⟩
  ·rcases hno t with h | ⟨h1, h2⟩
   ·rw [h] at hl; cases hl
   ·rw [h1] at hl; exact h2 ch g x hl
  ·rcases hno t with h | ⟨h1, h2⟩
   ·rw [h]; simp only [AVR]
   ·rw [h1]; exact hi'.tr t) ops.size (D := []) [] (L := Array.replicate ops.size false) (by simp) (fun j => by
   rcases Nat.lt_or_ge j ops.size with h | h
   ·simp [h]
   ·simp [Nat.not_lt.2 h]) (fun j hj => by cases hj) hi hn.ri (fun g hg => by cases hg) (by simpa [fOf] using h)
 exact wpAnyS.any h1
end
end Go.Tr
/- The engine, part 23: the table of types, held against the program; a contract of a call, used. -/
namespace Go.Tr
def valB : Value → Value → Bool
 | .int k n, .int k' n' => decide (k = k') && decide (n = n')
 | .bool b, .bool b' => b == b'
 | .slice none 0 0, .slice none 0 0 => true
 | .pointer none, .pointer none => true
 | .map none, .map none => true
 | .nilFunc, .nilFunc => true
 | .nilIface, .nilIface => true
 | .string s, .string s' => decide (s = s')
 | _, _ => false
theorem valB_eq {a b : Value} (h : valB a b = true) : a = b := by
 unfold valB at h
 split at h <;> simp_all
def valsB : List Value → List Value → Bool
 | [], [] => true
 | a :: r, b :: s => valB a b && valsB r s
 | _, _ => false
theorem valsB_eq : ∀ {a b : List Value}, valsB a b = true → a = b
 | [], [], _ => rfl
 | a :: r, b :: s, h => by
  simp only [valsB, Bool.and_eq_true] at h
  rw [valB_eq h.1, valsB_eq h.2]
 | [], _ :: _, h => by simp [valsB] at h
 | _ :: _, [], h => by simp [valsB] at h
def fldB (P : Program) : List (Nat × TypeId) → List Field → Bool
 | [], [] => true
 | (o, T) :: r, f :: s => decide (o = f.offset) && decide (T = f.type) && (P.info? f.type).isSome && fldB P r s
 | _, _ => false
theorem fldB_spec {P : Program} : ∀ {a : List (Nat × TypeId)} {b : List Field}, fldB P a b = true → a = b.map (fun f => (f.offset, f.type)) ∧ ∀ f ∈ b, ∃ i, P.info? f.type = some i
 | [], [], _ => ⟨rfl, fun f hf => by cases hf⟩
 | (o, T) :: r, f :: s, h => by
  simp only [fldB, Bool.and_eq_true, decide_eq_true_eq] at h
  obtain ⟨⟨⟨h1, h2⟩, h3⟩, h4⟩ := h
  obtain ⟨h5, h6⟩ := fldB_spec h4
  refine ⟨by rw [h1, h2, h5]; rfl, fun g hg => ?_⟩
  rcases List.mem_cons.1 hg with rfl | hg
  ·exact Option.isSome_iff_exists.1 h3
  ·exact h6 g hg
 | [], _ :: _, h => by simp [fldB] at h
 | _ :: _, [], h => by simp [fldB] at h
def infoB (P : Program) (T : TypeId) (d : TyD) : Bool := match P.info? T with
 | some i => decide (i.size = d.size) && decide (i.bytes = d.bytes) && decide (d.zero.length = d.size) && d.zero.all (·.oneCell') && (match i.zero with | some z => valsB z.cells.toList d.zero | none => false)
 | none => false
def undB (P : Program) (T : TypeId) : TK → Bool
 | .int k => match P.underlying T with | some (.int k') => decide (k' = k) | _ => false
 | .bool => match P.underlying T with | some .bool => true | _ => false
 | .str => match P.underlying T with | some .string => true | _ => false
 | .slice e => match P.underlying T with | some (.slice e') => decide (e' = e) | _ => false
 | .struct fs => match P.underlying T with | some (.struct F) => fldB P fs F.toList | _ => false
 | .array n e => match P.underlying T with | some (.array n' e') => decide (n' = n) && decide (e' = e) | _ => false
 | .map k e => match P.underlying T with | some (.map k' e') => decide (k' = k) && decide (e' = e) | _ => false
 | .ifc => match P.underlying T with | some (.interface _) => true | _ => false
 | .other => match P.underlying T with | some (.struct _) => false | some (.array _ _) => false | some _ => true | none => false
 | .unknown => true
def oneZB (P : Program) (T : TypeId) (k : TK) : Bool := match zOf k with
 | some z => (match P.info? T with | some i => (match i.zero with | some z' => valB z' z | none => false) | none => false)
 | none => true
theorem oneZB_spec {P : Program} {T : TypeId} {k : TK} (h : oneZB P T k = true) : ∀ z, zOf k = some z → ∃ i, P.info? T = some i ∧ i.zero = some z := by
 intro z hz
 unfold oneZB at h
 rw [hz] at h
 simp only at h
 split at h
 ·rename_i i hi
  split at h
  ·rename_i z' hz'
   exact ⟨i, hi, by rw [hz', valB_eq h]⟩
  ·cases h
 ·cases h
theorem tyR_of {P : Program} {T : TypeId} {d : TyD} (h1 : infoB P T d = true) (h2 : undB P T d.k = true) (h3 : oneZB P T d.k = true) : TyR P T d := by
 refine ⟨?_, ?_, oneZB_spec h3⟩
 ·unfold infoB at h1
  split at h1
  ·rename_i i hi
   simp only [Bool.and_eq_true, decide_eq_true_eq, List.all_eq_true] at h1
   obtain ⟨⟨⟨⟨a, b⟩, c⟩, e⟩, f⟩ := h1
   split at f
   ·rename_i z hz
    exact ⟨i, z, hi, a, b, hz, valsB_eq f, e, c⟩
   ·cases f
  ·cases h1
 ·unfold undB at h2
  cases hk : d.k <;> simp only [hk] at h2 ⊢
  case struct fs =>
   split at h2
   ·rename_i F hF
    obtain ⟨a, b⟩ := fldB_spec h2
    exact ⟨F, hF, a, b⟩
   ·cases h2
  case ifc =>
   split at h2
   ·rename_i ms hu
    exact ⟨ms, hu⟩
   ·cases h2
  case other =>
   split at h2
   ·cases h2
   ·cases h2
   ·rename_i u x1 x2 hu
    refine ⟨u, hu, ?_⟩
    cases u <;> first | trivial | exact (x1 _ rfl).elim | exact (x2 _ _ rfl).elim | exact (x1 _ hu).elim | exact (x2 _ _ hu).elim
   ·cases h2
  all_goals
   split at h2
   ·rename_i hu
    first
     | exact hu
     | (obtain rfl := of_decide_eq_true h2; exact hu)
     | (simp only [Bool.and_eq_true, decide_eq_true_eq] at h2; obtain ⟨rfl, rfl⟩ := h2; exact hu)
   ·cases h2
def lkT : List (Nat × TyD) → Nat → TyD
 | [], _ => ⟨0, 0, .unknown, [], []⟩
 | (x, d) :: r, T => match Nat.beq x T with | true => d | false => lkT r T
def tabB (P : Program) : List (Nat × TyD) → Bool
 | [] => true
 | (x, d) :: r => infoB P x d && undB P x d.k && oneZB P x d.k && tabB P r
theorem lkT_ok {P : Program} : ∀ {l : List (Nat × TyD)}, tabB P l = true → ∀ T, (match (lkT l T).k with | .unknown => False | _ => True) → TyR P T (lkT l T)
 | [], _, T, h => by simp only [lkT] at h
 | (x, d) :: r, hb, T, h => by
  simp only [tabB, Bool.and_eq_true] at hb
  unfold lkT at h ⊢
  cases hx : Nat.beq x T with
  | true =>
   obtain rfl := Nat.eq_of_beq_eq_true hx
   exact tyR_of hb.1.1.1 hb.1.1.2 hb.1.2
  | false =>
   rw [hx] at h
   exact lkT_ok hb.2 T h
theorem EnvOk.of {P : Program} {E : Env} {l : List (Nat × TyD)} (he : E.ty = lkT l) (h : tabB P l = true) : EnvOk P E := by
 intro T hT
 rw [he] at hT ⊢
 exact lkT_ok h T hT
end Go.Tr
/- The engine, part 24: rules for use: a weaker state, a loop, a call. -/
namespace Go.Tr
def selR (φ : Nat → Nat) (H : HP) : List Nat → HP → Prop
 | [], [] => True
 | j :: s, e :: L => H[j]? = some (e.ren φ) ∧ selR φ H s L
 | _, _ => False
theorem selR_len {φ : Nat → Nat} {H : HP} : ∀ {sel : List Nat} {L : HP}, selR φ H sel L → sel.length = L.length
 | [], [], _ => rfl
 | j :: s, e :: L, h => by simp [selR_len h.2]
 | [], _ :: _, h => h.elim
 | _ :: _, [], h => h.elim
theorem selR_at {φ : Nat → Nat} {H : HP} : ∀ {sel : List Nat} {L : HP}, selR φ H sel L → ∀ (i j : Nat), sel[i]? = some j → ∃ e : Ent, L[i]? = some e ∧ H[j]? = some (e.ren φ)
 | [], [], _, i, j, hi => by simp at hi
 | q :: s, e :: L, h, 0, j, hi => by
  simp at hi; subst hi
  exact ⟨e, by simp, h.1⟩
 | q :: s, e :: L, h, i + 1, j, hi => by
  obtain ⟨e', h1, h2⟩ := selR_at h.2 i j (by simpa using hi)
  exact ⟨e', by simpa using h1, h2⟩
 | [], _ :: _, h, _, _, _ => h.elim
 | _ :: _, [], h, _, _, _ => h.elim
def tmR (φ : Nat → Nat) (tm : TM) : TM → Prop
 | [] => True
 | (t, v) :: r => lk tm t = v.ren φ ∧ tmR φ tm r
theorem tmR_lk {φ : Nat → Nat} {tm : TM} : ∀ {tm' : TM}, tmR φ tm tm' → ∀ t, lk tm' t = .top ∨ lk tm t = (lk tm' t).ren φ
 | [], _, t => .inl rfl
 | (d, v) :: r, h, t => by
  rw [lk_cons]
  by_cases e : d = t
  ·subst e; simp only [if_true]; exact .inr h.1
  ·simp only [e, if_false]; exact tmR_lk h.2 t
def nwB : TM → Bool
 | [] => true
 | (_, .when _ _ _) :: _ => false
 | _ :: r => nwB r
theorem nwB_spec : ∀ {tm : TM}, nwB tm = true → NW tm
 | [], _, t, ch, g, x, hl => by simp [lk] at hl
 | (d, v) :: r, h, t, ch, g, x, hl => by
  rw [lk_cons] at hl
  cases v <;> simp only [nwB] at h
  case «when» => cases h
  all_goals
   split at hl
   ·cases hl
   ·exact nwB_spec h t ch g x hl
theorem Wk.sel {n0 : Nat} {tm tm' : TM} {H H' : HP} (sel : List Nat) (hnd : sel.Nodup) (hn0 : n0 ≤ sel.length) (hid : ∀ i, i < n0 → sel[i]? = some i)
  (hents : selR (selMap sel H.length) H sel H') (htm : tmR (selMap sel H.length) tm tm') (hnw : nwB tm' = true) : Wk n0 tm H tm' H' := by
 unfold Wk
 intro w S κ a hh ht hlen
 have hl := selR_len hents
 have hsel := selR_at hents
 generalize hφ : selMap sel H.length = φ at *
 have φin : ∀ i j, sel[i]? = some j → φ i = j := fun i j hj => by rw [← hφ]; simp [selMap, hj]
 have φout : ∀ i, sel.length ≤ i → φ i = i - sel.length + H.length := fun i hi => by rw [← hφ]; simp [selMap, List.getElem?_eq_none hi]
 have sin : ∀ i, i < sel.length → ∃ j, sel[i]? = some j := fun i hi => ⟨sel[i], by simp [hi]⟩
 have ownL : ∀ i B, ownAt (fun i => κ (φ i)) H' i = some B → ∃ j, sel[i]? = some j ∧ ownAt κ H j = some B := fun i B hi => by
  obtain ⟨e, h1, h2⟩ := ownAt_some hi
  obtain ⟨j, hj⟩ := sin i (by rw [hl]; exact getElem?_lt h1)
  obtain ⟨e', h3, h4⟩ := hsel i j hj
  rw [h1] at h3
  injection h3 with h3
  subst h3
  rw [φin i j hj] at h2
  exact ⟨j, hj, by rw [ownAt_of h4, owns_ren]; exact h2⟩
 have sinj : ∀ i i' j, sel[i]? = some j → sel[i']? = some j → i = i' := fun i i' j h1 h2 => by
  have l1 := getElem?_lt h1
  have l2 := getElem?_lt h2
  rw [List.getElem?_eq_getElem l1] at h1
  rw [List.getElem?_eq_getElem l2] at h2
  exact (List.getElem_inj hnd).1 (by injection h1 with h1; injection h2 with h2; rw [h1, h2])
 refine ⟨fun i => κ (φ i), S, ⟨fun i e hi => ?_, fun i hi => ?_, fun i B hi => ?_, fun i i' B hi hi' => ?_, hh.sz⟩, fun t => ?_, fun i hi => by show κ (φ i) = κ i; rw [φin i i (hid i hi)], by omega, fun i B hi => ?_, nwB_spec hnw, fun _ h => h, fun _ h hn => absurd h hn⟩
 ·obtain ⟨j, hj⟩ := sin i (by rw [hl]; exact getElem?_lt hi)
  obtain ⟨e', h3, h4⟩ := hsel i j hj
  rw [hi] at h3
  injection h3 with h3
  subst h3
  have := hh.ent j _ h4
  rw [EntR.ren] at this
  rw [φin i j hj]
  exact this
 ·show κ (φ i) = .none
  rw [φout i (by omega)]
  exact hh.out _ (by omega)
 ·obtain ⟨j, _, h2⟩ := ownL i B hi
  exact hh.own j B h2
 ·obtain ⟨j, h1, h2⟩ := ownL i B hi
  obtain ⟨j', h3, h4⟩ := ownL i' B hi'
  have := hh.excl j j' B h2 h4
  subst this
  exact sinj i i' j h1 h3
 ·rcases tmR_lk htm t with h | h
  ·rw [h]; simp only [AVR]
  ·have := ht t
   rw [h, AVR.ren] at this
   exact this
 ·obtain ⟨j, _, h2⟩ := ownL i B hi
  exact ⟨j, h2⟩
theorem loop_intro {n0 : Nat} {c : TM → HP → (AEx → TM → HP → Prop) → Prop} {tm : TM} {H : HP} {Q : AEx → TM → HP → Prop} (I : Nat → TM → HP → Prop) (n : Nat) (tm1 : TM) (H1 : HP) (h0 : I n tm1 H1) (hw : Wk n0 tm H tm1 H1)
  (step : ∀ n tm H, I n tm H → c tm H fun e tm H => match e with
   | .normal => ∃ m tm1 H1, m < n ∧ I m tm1 H1 ∧ Wk n0 tm H tm1 H1
   | e => Q e tm H) : LoopSt n0 c tm H Q := by
 unfold LoopSt
 exact ⟨I, ⟨n, tm1, H1, h0, hw⟩, step⟩
def memN (a : Nat) : List Nat → Bool
 | [] => false
 | b :: r => match Nat.beq a b with | true => true | false => memN a r
def ndB : List Nat → Bool
 | [] => true
 | a :: r => match memN a r with | true => false | false => ndB r
def preB : Nat → List Nat → Nat → Bool
 | _, _, 0 => true
 | k, a :: r, n + 1 => match Nat.beq a k with | true => preB (k + 1) r n | false => false
 | _, [], _ + 1 => false
def selB (sel : List Nat) (n0 : Nat) : Bool := match ndB sel with | true => preB 0 sel n0 | false => false
theorem memN_spec {a : Nat} : ∀ {l : List Nat}, memN a l = false → a ∉ l
 | [], _ => by simp
 | b :: r, h => by
  rw [memN] at h
  split at h
  ·cases h
  ·rename_i hb
   have hn : a ≠ b := fun e => by rw [e, Nat.beq_refl] at hb; cases hb
   simp only [List.mem_cons, not_or]
   exact ⟨hn, memN_spec h⟩
theorem ndB_spec : ∀ {l : List Nat}, ndB l = true → l.Nodup
 | [], _ => List.nodup_nil
 | a :: r, h => by
  rw [ndB] at h
  split at h
  ·cases h
  ·rename_i hb
   exact List.nodup_cons.2 ⟨memN_spec hb, ndB_spec h⟩
theorem preB_spec : ∀ {n k : Nat} {l : List Nat}, preB k l n = true → n ≤ l.length ∧ ∀ i, i < n → l[i]? = some (k + i)
 | 0, _, _, _ => ⟨Nat.zero_le _, fun i hi => absurd hi (Nat.not_lt_zero _)⟩
 | n + 1, k, [], h => by rw [preB] at h; cases h
 | n + 1, k, a :: r, h => by
  rw [preB] at h
  split at h
  ·rename_i hb
   obtain ⟨h1, h2⟩ := preB_spec h
   have ha : a = k := Nat.eq_of_beq_eq_true hb
   refine ⟨by simp only [List.length_cons]; omega, fun i hi => ?_⟩
   cases i with
   | zero => simp [ha]
   | succ i =>
    have := h2 i (by omega)
    simp only [List.getElem?_cons_succ, this]
    congr 1
    omega
  ·cases h
theorem Wk.sl {n0 : Nat} {tm tm' : TM} {H H' : HP} (sel : List Nat) (h : selB sel n0 = true)
  (hents : selR (selMap sel H.length) H sel H') (htm : tmR (selMap sel H.length) tm tm') (hnw : nwB tm' = true) : Wk n0 tm H tm' H' := by
 unfold selB at h
 split at h
 ·rename_i hn
  obtain ⟨h1, h2⟩ := preB_spec h
  exact Wk.sel sel (ndB_spec hn) h1 (fun i hi => by have := h2 i hi; rwa [Nat.zero_add] at this) hents htm hnw
 ·cases h
theorem CallSt.use {P : Program} {f : FuncId} {args args' : List AV} {L H : HP} {Post K : AV → HP → Prop} (h : CallSt P f args' L Post) (sel : List Nat) (hsel : selR (selMap sel H.length) H sel L) (hnd : sel.Nodup)
  (hargs : args = AV.rens (selMap sel H.length) args') (hK : ∀ r L', Post r L' → L.length ≤ L'.length → K (r.ren (selMap sel H.length)) (mergeH sel (selMap sel H.length) L' H)) : CallSt P f args H K :=
 CallSt.frame h sel (selR_len hsel) hnd (selR_at hsel) hargs hK
theorem aI {p q : Prop} (a : p) (b : q) : p ∧ q := ⟨a, b⟩
theorem yI {c d p q : Prop} (h : ¬ d) (b : p) : (c → p) ∧ (d → q) := ⟨fun _ => b, fun x => absurd x h⟩
theorem nI {c d p q : Prop} (h : ¬ c) (b : q) : (c → p) ∧ (d → q) := ⟨fun x => absurd x h, fun _ => b⟩
theorem dI {P : Program} {E : Env} {ops : Array Oper} {tm : TM} {H : HP} {K : TM → HP → Prop} (hqf : qfree E ops true ops.toList = true)
  (h : awD P E ops true ops.toList ops.toList.length [] [] tm H fun tm' H' => noWhen tm' fun tm'' => K tm'' H') : DrawSt P E ops tm H K := draw_intro true hqf h
theorem sI {a : Prop} (h : a := by first | exact rfl | decide | exact ⟨by omega, by omega⟩ | omega | exact fun _ => ⟨by omega, by omega⟩ | exact of_decide_eq_true rfl | fail) : a := h
theorem sY {a : Prop} (h : a := by first | decide | (simp; done) | (simp [tcs]; done) | fail) : a := h
theorem sK {a : Prop} (h : a := by kernel_rfl) : a := h
theorem sR {a : Prop} (h : a := by first | rfl | exact ⟨rfl, rfl⟩ | exact ⟨rfl, rfl, rfl⟩ | fail) : a := h
theorem u0 {P : Program} {f : FuncId} {args args' : List AV} {H : HP} {Post K : AV → HP → Prop} (h : CallSt P f args' [] Post)
  (hK : ∀ r L', Post r L' → ([] : HP).length ≤ L'.length → K (r.ren (selMap [] H.length)) (mergeH [] (selMap [] H.length) L' H)) (hargs : args = AV.rens (selMap [] H.length) args' := by exact rfl) : CallSt P f args H K :=
 CallSt.use h [] trivial (by decide) hargs hK
end Go.Tr
/- The engine, part 25: a contract whose results stay as they are; a nil slice that becomes a row. -/
namespace Go.Tr
def finT (E : Env) (fn : Func) (K : AV → HP → Prop) : AEx → TM → HP → Prop
 | .exit _, _, _ => False
 | .normal, tm, H => resK E tm H fn.results.toList fun l => tupK l fun r => AV.lt E.n0 r = true ∧ entsLt E.n0 (H.take E.n0) = true ∧ K r (H.take E.n0)
 | .ret, tm, H => resK E tm H fn.results.toList fun l => tupK l fun r => AV.lt E.n0 r = true ∧ entsLt E.n0 (H.take E.n0) = true ∧ K r (H.take E.n0)
section
variable {P : Program} {E : Env}
theorem call_trim (he : EnvOk P E) (hmix : P.follows .mixedOrders = true) {f : FuncId} {fn : Func} {c : Code} (hf : P.funcs[f]? = some fn) (hb : fn.body = some c) (hcb : callable P f = true) (hok : codeOk fn.ntmps c = true)
  {args : List AV} (hlen : Nat.ble args.length fn.ntmps = true) (hargs : argOk args = true) {H : HP} (hn0 : E.n0 = H.length) {K : AV → HP → Prop} (h : aw P E c (argTM 0 args) H (finT E fn K)) (hpan : E.pan = none := by rfl) : CallSt P f args H K := by
 refine call_any he hmix hf hb hcb hok hlen hargs hn0 ?_ h hpan
 intro e tm' H' S' κ' a' w' κ S w ds hq hi'
 have main : (resK E tm' H' fn.results.toList fun l => tupK l fun r => AV.lt E.n0 r = true ∧ entsLt E.n0 (H'.take E.n0) = true ∧ K r (H'.take E.n0)) →
   ∃ v r H'' κ'' S'', (results fn a'.tmps).run P w' = .ok v w' ∧ K r H'' ∧ Mem H.length κ w S (fun B => ∃ i, ownAt κ H i = some B) H'' w' S'' κ'' ∧ AVR w'.heap S'' κ'' r v := by
  intro hq
  obtain ⟨l, vs, hk, hl, hr⟩ := resK_spec he hi'.m.hr hi'.tr hq
  obtain ⟨v, x, h1, ⟨h2, h3, h4⟩, h5⟩ := results_run hl hk hr
  have m2 := hi'.m.trim h3
  exact ⟨v, x, _, _, S', h1, h4, by rw [← hn0]; exact m2, AVR.trim (fun i hi => by simp only [hi, if_true]) x h2 h5⟩
 cases e with
 | normal => exact ⟨.inl rfl, main hq⟩
 | ret => exact ⟨.inr rfl, main hq⟩
 | exit n => exact hq.elim
end
theorem Wk.trans {n0 : Nat} {tm tm1 tm2 : TM} {H H1 H2 : HP} (h : Wk n0 tm H tm1 H1) (k : Wk n0 tm1 H1 tm2 H2) : Wk n0 tm H tm2 H2 := by
 unfold Wk at *
 intro w S κ a hh ht hl
 obtain ⟨κ1, S1, a1, a2, a3, a4, a5, a6, a7, a8⟩ := h w S κ a hh ht hl
 obtain ⟨κ2, S2, b1, b2, b3, b4, b5, b6, b7, b8⟩ := k w S1 κ1 a a1 a2 a4
 refine ⟨κ2, S2, b1, b2, fun i hi => (b3 i hi).trans (a3 i hi), b4, fun i B hB => ?_, b6, fun B hB => a7 B (b7 B hB), fun B hB hn => ?_⟩
 ·obtain ⟨j, hj⟩ := b5 i B hB
  exact a5 j B hj
 ·by_cases h1 : S1 B
  ·obtain ⟨j, hj⟩ := b8 B h1 hn
   exact a5 j B hj
  ·exact a8 B hB h1
theorem AVRs.setNil {h : Array Obj} {S : Nat → Prop} {κ : Nat → Bind} {m : Nat} (hm : κ m = .slc (.slice none 0 0)) : ∀ {l : List AV} {vs : List Value} {j : Nat}, l[j]? = some .nil → AVRs h S κ l vs → AVRs h S κ (l.set j (.own m)) vs
 | [], _, j, hj, _ => by simp at hj
 | x :: xs, vs, 0, hj, hv => by
  simp at hj
  subst hj
  simp only [AVRs, AVR, List.set_cons_zero] at hv ⊢
  obtain ⟨v, r, h1, h2, h3⟩ := hv
  exact ⟨v, r, h1, ⟨by rw [hm, h2], by rw [h2]; rfl⟩, h3⟩
 | x :: xs, vs, j + 1, hj, hv => by
  simp only [AVRs, List.set_cons_succ] at hv ⊢
  obtain ⟨v, r, h1, h2, h3⟩ := hv
  exact ⟨v, r, h1, h2, AVRs.setNil hm (by simpa using hj) h3⟩
theorem Wk.nilrow {n0 : Nat} {tm : TM} {H : HP} {i j : Nat} {l : List AV} (el sz byt : Nat) (hi : H[i]? = some (.box l)) (hj : l[j]? = some .nil) (hnw : nwB tm = true) :
  Wk n0 tm H tm (H.set i (.box (l.set j (.own H.length))) ++ [.row el sz byt []]) := by
 unfold Wk
 intro w S κ a hh ht hl
 let κ' : Nat → Bind := fun q => if q = H.length then .slc (.slice none 0 0) else κ q
 have hself : κ' H.length = .slc (.slice none 0 0) := by simp [κ']
 have hlt : ∀ q, q < H.length → κ' q = κ q := fun q hq => by simp only [κ']; rw [if_neg (by omega)]
 have hbind : ∀ q, κ q ≠ .none → κ' q = κ q := fun q hq => by
  simp only [κ']
  rw [if_neg]
  rintro rfl
  exact hq (hh.out _ (Nat.le_refl _))
 have hmono : ∀ B off u, ¬ S B → cellAt w.heap B off = some u → ¬ S B ∧ cellAt w.heap B off = some u := fun B off u h1 h2 => ⟨h1, h2⟩
 have hil := getElem?_lt hi
 have hget : ∀ q e, (H.set i (.box (l.set j (.own H.length))) ++ [.row el sz byt []])[q]? = some e → (q = H.length ∧ e = .row el sz byt []) ∨ (q = i ∧ e = .box (l.set j (.own H.length))) ∨ (q < H.length ∧ q ≠ i ∧ H[q]? = some e) := fun q e hq => by
  rcases Nat.lt_trichotomy q H.length with h | h | h
  ·rw [List.getElem?_append_left (by simpa using h)] at hq
   by_cases hqi : q = i
   ·subst hqi
    rw [List.getElem?_set_self hil] at hq
    injection hq with hq
    exact .inr (.inl ⟨rfl, hq.symm⟩)
   ·rw [List.getElem?_set_ne (Ne.symm hqi)] at hq
    exact .inr (.inr ⟨h, hqi, hq⟩)
  ·subst h
   rw [List.getElem?_append_right (by simp)] at hq
   simp at hq
   exact .inl ⟨rfl, hq.symm⟩
  ·rw [List.getElem?_append_right (by simp; omega)] at hq
   simp only [List.length_set] at hq
   rw [List.getElem?_eq_none (by simp; omega)] at hq
   cases hq
 have hown : ∀ q B, ownAt κ' (H.set i (.box (l.set j (.own H.length))) ++ [.row el sz byt []]) q = some B → ownAt κ H q = some B := fun q B hq => by
  obtain ⟨e, h1, h2⟩ := ownAt_some hq
  rcases hget q e h1 with ⟨rfl, rfl⟩ | ⟨rfl, rfl⟩ | ⟨h3, _, h4⟩
  ·rw [hself] at h2; simp [owns] at h2
  ·rw [hlt q hil] at h2
   rw [ownAt_of hi]
   cases hb : κ q <;> rw [hb] at h2 <;> simp [owns] at h2 ⊢ <;> exact h2
  ·rw [hlt q h3] at h2
   rw [ownAt_of h4]; exact h2
 refine ⟨κ', S, ⟨fun q e hq => ?_, fun q hq => ?_, fun q B hq => hh.own q B (hown q B hq), fun q q' B h1 h2 => hh.excl q q' B (hown q B h1) (hown q' B h2), hh.sz⟩, fun t => AVR.mono hmono hbind _ (ht t), fun q hq => hlt q (by omega), by simp; omega, fun q B hq => ⟨q, hown q B hq⟩, nwB_spec hnw, fun _ h => h, fun _ h hn => absurd h hn⟩
 ·rcases hget q e hq with ⟨rfl, rfl⟩ | ⟨rfl, rfl⟩ | ⟨h3, _, h4⟩
  ·rw [hself]
   simp only [EntR]
   exact .inr ⟨_, [], rfl, ⟨by simp, .inl ⟨rfl, rfl⟩⟩, by simp, by simp, by simp [CellsV]⟩
  ·have := EntR.mono hmono hbind (fun B _ => rfl) (hh.ent q _ hi)
   rw [hlt q hil]
   simp only [EntR] at this ⊢
   rcases this with h | ⟨B, c, el, h1, h2, h3⟩
   ·exact .inl h
   ·exact .inr ⟨B, c, el, h1, h2, AVRs.setNil hself hj h3⟩
  ·rw [hlt q h3]
   exact EntR.mono hmono hbind (fun B _ => rfl) (hh.ent q e h4)
 ·simp at hq
  simp only [κ']
  rw [if_neg (by omega)]
  exact hh.out q (by omega)
theorem Wk.nilrow' {n0 : Nat} {tm : TM} {H H' : HP} {l : List AV} (i j el sz byt : Nat) (hi : H[i]? = some (.box l)) (hj : l[j]? = some .nil) (hnw : nwB tm = true)
  (hH : H' = H.set i (.box (l.set j (.own H.length))) ++ [.row el sz byt []]) : Wk n0 tm H tm H' := by
 rw [hH]
 exact Wk.nilrow el sz byt hi hj hnw
end Go.Tr
/- The engine, part 26: a nil slice in a temporary that becomes a row. -/
namespace Go.Tr
theorem Wk.niltmp {n0 : Nat} {tm : TM} {H : HP} (t el sz byt : Nat) (ht0 : lk tm t = .nil) (hnw : nwB tm = true) :
  Wk n0 tm H ((t, .own H.length) :: tm) (H ++ [.row el sz byt []]) := by
 unfold Wk
 intro w S κ a hh ht hl
 let κ' : Nat → Bind := fun q => if q = H.length then .slc (.slice none 0 0) else κ q
 have hself : κ' H.length = .slc (.slice none 0 0) := by simp [κ']
 have hlt : ∀ q, q < H.length → κ' q = κ q := fun q hq => by simp only [κ']; rw [if_neg (by omega)]
 have hbind : ∀ q, κ q ≠ .none → κ' q = κ q := fun q hq => by
  simp only [κ']
  rw [if_neg]
  rintro rfl
  exact hq (hh.out _ (Nat.le_refl _))
 have hmono : ∀ B off u, ¬ S B → cellAt w.heap B off = some u → ¬ S B ∧ cellAt w.heap B off = some u := fun B off u h1 h2 => ⟨h1, h2⟩
 have hget : ∀ q e, (H ++ [Ent.row el sz byt []])[q]? = some e → (q = H.length ∧ e = .row el sz byt []) ∨ (q < H.length ∧ H[q]? = some e) := fun q e hq => by
  rcases Nat.lt_trichotomy q H.length with h | h | h
  ·rw [List.getElem?_append_left h] at hq
   exact .inr ⟨h, hq⟩
  ·subst h
   rw [List.getElem?_append_right (Nat.le_refl _)] at hq
   simp at hq
   exact .inl ⟨rfl, hq.symm⟩
  ·rw [List.getElem?_eq_none (by simp; omega)] at hq
   cases hq
 have hown : ∀ q B, ownAt κ' (H ++ [Ent.row el sz byt []]) q = some B → ownAt κ H q = some B := fun q B hq => by
  obtain ⟨e, h1, h2⟩ := ownAt_some hq
  rcases hget q e h1 with ⟨rfl, rfl⟩ | ⟨h3, h4⟩
  ·rw [hself] at h2; simp [owns] at h2
  ·rw [hlt q h3] at h2
   rw [ownAt_of h4]; exact h2
 refine ⟨κ', S, ⟨fun q e hq => ?_, fun q hq => ?_, fun q B hq => hh.own q B (hown q B hq), fun q q' B h1 h2 => hh.excl q q' B (hown q B h1) (hown q' B h2), hh.sz⟩, fun q => ?_, fun q hq => hlt q (by omega), by simp; omega, fun q B hq => ⟨q, hown q B hq⟩, nwB_spec (by simpa only [nwB] using hnw), fun _ h => h, fun _ h hn => absurd h hn⟩
 ·rcases hget q e hq with ⟨rfl, rfl⟩ | ⟨h3, h4⟩
  ·rw [hself]
   simp only [EntR]
   exact .inr ⟨_, [], rfl, ⟨by simp, .inl ⟨rfl, rfl⟩⟩, by simp, by simp, by simp [CellsV]⟩
  ·rw [hlt q h3]
   exact EntR.mono hmono hbind (fun B _ => rfl) (hh.ent q e h4)
 ·simp at hq
  simp only [κ']
  rw [if_neg (by omega)]
  exact hh.out q (by omega)
 ·have h1 := ht q
  rw [lk_cons]
  by_cases e : t = q
  ·subst e
   rw [ht0] at h1
   simp only [if_true, AVR] at h1 ⊢
   exact ⟨by rw [hself, h1], by rw [h1]; rfl⟩
  ·simp only [e, if_false]
   exact AVR.mono hmono hbind _ h1
end Go.Tr
/- The engine, part 27: a drawn region whose orders all come to one state. -/
namespace Go.Tr
theorem draw_wk {P : Program} {E : Env} {ops : Array Oper} {tm : TM} {H : HP} {K : TM → HP → Prop} (tm1 : TM) (H1 : HP) (h : DrawSt P E ops tm H (fun tm' H' => Wk E.n0 tm' H' tm1 H1)) (hk : K tm1 H1) : DrawSt P E ops tm H K := by
 unfold DrawSt at *
 intro N κ0 w0 S0 O0 a w S κ Q he hok hQ hP hn hi hq
 refine h N κ0 w0 S0 O0 a w S κ Q he hok hQ hP hn hi ?_
 intro tm' H' S' κ' a' w' hwk hn' hi'
 obtain ⟨hn1, κ1, S1, hi1, _⟩ := hi'.wk hwk
 exact hq tm1 H1 S1 κ1 a' w' hk hn1 hi1
end Go.Tr
/- The engine, part 28: a round of a loop over a function. -/
namespace Go.Tr
def parTM : List Nat → List AV → TM → TM
 | t :: ps, v :: vs, tm => parTM ps vs ((t, v) :: tm)
 | _, _, tm => tm
def rndE (E : Env) (i : Nat) (K : AV → HP → Prop) : AEx → TM → HP → Prop
 | .normal, _, H => getK H i fun en => match en with
  | .lrec .busy tm0 ps asg bd => setK H i (.lrec .ready tm0 ps asg bd) fun H' => entsLt E.n0 (H'.take E.n0) = true ∧ K (.c (.bool true)) (H'.take E.n0)
  | _ => False
 | .exit n, _, H => getK H i fun en => match en with
  | .lrec .busy tm0 ps asg bd => setK H i (.lrec (.brk n) tm0 ps asg bd) fun H' => entsLt E.n0 (H'.take E.n0) = true ∧ K (.c (.bool false)) (H'.take E.n0)
  | _ => False
 | .ret, _, H => getK H i fun en => match en with
  | .lrec .busy tm0 ps asg bd => setK H i (.lrec .ret tm0 ps asg bd) fun H' => entsLt E.n0 (H'.take E.n0) = true ∧ K (.c (.bool false)) (H'.take E.n0)
  | _ => False
def rndB (P : Program) (E : Env) (i : Nat) (body : Code) (K : AV → HP → Prop) : AEx → TM → HP → Prop
 | .normal, tm, H => getK H i fun en => match en with
  | .lrec .ready tm0 ps asg bd => setK H i (.lrec .busy tm0 ps asg bd) fun H' => aw P E body tm H' (rndE E i K)
  | _ => False
 | _, _, _ => False
theorem par_tr {h : Array Obj} {S : Nat → Prop} {κ : Nat → Bind} : ∀ (ps : List Nat) (vs : List AV) (us : List Value) (tm : TM) (tmps : Array Value), AVRs h S κ vs us → vs.length = ps.length → (∀ t ∈ ps, t < tmps.size) → (∀ t, AVR h S κ (lk tm t) (tmps.getD t undef)) →
  ((ps.zip us).foldl (fun tmps (x : Nat × Value) => tmps.setIfInBounds x.1 x.2) tmps).size = tmps.size ∧ ∀ t, AVR h S κ (lk (parTM ps vs tm) t) (((ps.zip us).foldl (fun tmps (x : Nat × Value) => tmps.setIfInBounds x.1 x.2) tmps).getD t undef)
 | [], [], us, tm, tmps, _, _, _, ht => by simpa [parTM] using ht
 | [], v :: vs, us, tm, tmps, _, hl, _, _ => by simp at hl
 | t :: ps, [], us, tm, tmps, _, hl, _, _ => by simp at hl
 | t :: ps, v :: vs, us, tm, tmps, hv, hl, hp, ht => by
  simp only [AVRs] at hv
  obtain ⟨u, us', rfl, h1, h2⟩ := hv
  have hts := hp t (by simp)
  obtain ⟨g1, g2⟩ := par_tr ps vs us' ((t, v) :: tm) (tmps.setIfInBounds t u) h2 (by simpa using hl) (fun q hq => by simpa using hp q (List.mem_cons_of_mem _ hq)) (fun q => by
   rw [lk_cons, Array.getD_eq_getD_getElem?, Array.getElem?_setIfInBounds]
   by_cases e : t = q
   ·subst e; simpa [hts] using h1
   ·simp only [e, if_false]
    have := ht q
    rwa [Array.getD_eq_getD_getElem?] at this)
  simp only [List.zip_cons_cons, List.foldl_cons, parTM]
  exact ⟨by rw [g1]; simp, g2⟩
section
variable {P : Program} {E : Env}
theorem Inv.lset {n0 : Nat} {N : Nat × List Deferred} {κ0 : Nat → Bind} {w0 : World} {S0 O0 : Nat → Prop} {tm : TM} {H : HP} {a : Act} {w : World} {S : Nat → Prop} {κ : Nat → Bind} (hi : Inv n0 N κ0 w0 S0 O0 tm H a w S κ) {i l : Nat} {st st' : LSt} {tm0 : TM} {ps : Array Nat} {asg bd : Code}
  (hen : H[i]? = some (.lrec st tm0 ps asg bd)) (hκ : κ i = .blk l) (r' : Loop → Loop) (hs : ∀ r, LStR st r → LStR st' (r' r)) (hr : ∀ r, (r' r).params = r.params ∧ (r' r).assign = r.assign ∧ (r' r).body = r.body ∧ (r' r).tmps = r.tmps) :
  ∃ r, w.heap[l]? = some (.loop r) ∧ LStR st r ∧ Inv n0 N κ0 w0 S0 O0 tm (H.set i (.lrec st' tm0 ps asg bd)) a (w.putObj l (.loop (r' r))) S κ := by
 have hent := hi.m.hr.ent i _ hen
 rw [hκ] at hent
 simp only [EntR] at hent
 rcases hent with hent | ⟨l', r, hl', hh, h1, h2, h3, h4, h5, h6, h7, h8⟩
 ·cases hent
 injection hl' with hl'
 subst hl'
 have hown : ownAt κ H i = some l := by rw [ownAt_of hen, hκ]; rfl
 have hSl := hi.m.hr.own i l hown
 have hext : Ext w S κ (w.putObj l (.loop (r' r))) S κ := ⟨fun B off v hS hc => ⟨hS, by
  have hne : B ≠ l := fun e => hS (by rw [e]; exact hSl)
  rw [cellAt_same (World.putObj_heap_other hne)]; exact hc⟩, fun _ _ => rfl⟩
 obtain ⟨q1, q2, q3, q4⟩ := hr r
 obtain ⟨m', e'⟩ := hi.m.write (i := i) (B := l) (e' := .lrec st' tm0 ps asg bd) (w' := w.putObj l (.loop (r' r))) hen (by rw [hκ]; rfl) (fun B' h => by rw [hκ] at h; simpa [owns] using h.symm) (grownBy_putObj w _ _)
  (by
   rw [hκ]
   exact .inr ⟨l, r' r, rfl, World.putObj_heap_same (Array.getElem?_eq_some_iff.1 hh).1, hs r h1, by rw [q1]; exact h2, by rw [q2]; exact h3, by rw [q3]; exact h4, fun t => by rw [q4]; exact hext.avr (h5 t), by rw [q4]; exact h6, by rw [q4]; exact h7, by rw [q4]; exact h8⟩)
 exact ⟨r, hh, h1, ⟨m', e'.tr hi.tr, hi.df, hi.sz⟩⟩
theorem y_intro (he : EnvOk P E) (hmix : P.follows .mixedOrders = true) (hrd : E.rnd = true) {i : Nat} {args : List AV} {H : HP} (hn0 : E.n0 = H.length) {tm : TM} {ps : Array Nat} {asg body : Code} (hen : H[i]? = some (.lrec .ready tm ps asg body)) (hl : args.length = ps.size)
  (htm : nwB (parTM ps.toList args tm) = true) {K : AV → HP → Prop} (h : aw P E asg (parTM ps.toList args tm) H (rndB P E i body K)) (hpan : E.pan = none := by rfl) : YSt P i args H K := by
 unfold YSt
 intro w S κ vs l hh hvs hκ
 have hil := getElem?_lt hen
 have hent := hh.ent i _ hen
 rw [hκ] at hent
 simp only [EntR] at hent
 rcases hent with hent | ⟨l', r, hl', hheap, h1, h2, h3, h4, h5, h6, h7, h8⟩
 ·cases hent
 injection hl' with hl'
 subst hl'
 have hvl := hvs.len
 have hsz : vs.toArray.size = r.params.size := by rw [h2]; simp; omega
 refine ⟨r.fn, _, r.assign, r.body, run_yield hheap hsz, ?_⟩
 obtain ⟨g1, g2⟩ := par_tr ps.toList args vs tm r.tmps hvs (by simpa using hl) h6 h5
 have etm : (r.params.zip vs.toArray).foldl (fun tmps (x : Nat × Value) => tmps.setIfInBounds x.1 x.2) r.tmps = (ps.toList.zip vs).foldl (fun tmps (x : Nat × Value) => tmps.setIfInBounds x.1 x.2) r.tmps := by
  rw [h2, ← Array.foldl_toList, Array.toList_zip]
 rw [show (Array.foldl (fun tmps x => match x with | (t, a) => tmps.setIfInBounds t a) r.tmps (r.params.zip vs.toArray)) = (ps.toList.zip vs).foldl (fun tmps (x : Nat × Value) => tmps.setIfInBounds x.1 x.2) r.tmps from etm]
 generalize (ps.toList.zip vs).foldl (fun tmps (x : Nat × Value) => tmps.setIfInBounds x.1 x.2) r.tmps = tmps at *
 have hi : Inv E.n0 (tmps.size, []) κ w S (fun B => ∃ i, ownAt κ H i = some B) (parTM ps.toList args tm) H { tmps := tmps, defers := [] } w S κ := ⟨by rw [hn0]; exact Mem.refl hh, g2, rfl, rfl⟩
 refine roundIn_of_wpIn (F := Fr none) trivial ?_
 rw [h3]
 refine wpIn_mono (aw_spec (m := 0) (bs := []) he hmix (M := tmps.size) (r := some l) (.inr hrd) asg (by rw [g1]; exact h7) h (nwB_spec htm) hi Mk.nil) ?_
 rintro e a1 w1 (⟨ae, tm1, H1, S1, κ1, ds1, hr1, hk, hn1, hi1, hmk1, hds1⟩ | ⟨ts, KP, x, V, _, _, _, _, _, hp, _⟩)
 rotate_left
 ·rw [hpan] at hp
  cases hp
 have hds := hds1 rfl hrd
 subst hds
 cases ae <;> cases e <;> simp only [AExR] at hr1 <;> (try exact hr1.elim) <;> simp only [rndB] at hk <;> (try exact hk.elim)
 obtain ⟨en, hen1, hk⟩ := getK_spec hk
 split at hk
 case h_2 => exact hk.elim
 rename_i tm0 ps0 asg0 bd0
 obtain ⟨_, hk⟩ := setK_spec hk
 have hκ1 : κ1 i = .blk l := by rw [hi1.m.kp i (by omega)]; exact hκ
 obtain ⟨r1, hh1, hs1, hi2⟩ := hi1.lset (st' := .busy) hen1 hκ1 (fun r => { r with state := .busy }) (fun r _ => rfl) (fun r => ⟨rfl, rfl, rfl, rfl⟩)
 refine ⟨_, run_beginRound hh1 hs1.1, ?_⟩
 rw [h4]
 refine wpIn_mono (aw_spec (m := 0) (bs := []) he hmix (M := tmps.size) (r := some l) (.inr hrd) body (by rw [g1]; exact h8) hk hn1 hi2 Mk.nil) ?_
 rintro e a2 w2 (⟨ae, tm2, H2, S2, κ2, ds2, hr2, hk, hn2, hi3, hmk2, hds2⟩ | ⟨ts, KP, x, V, _, _, _, _, _, hp, _⟩)
 rotate_left
 ·rw [hpan] at hp
  cases hp
 have main : ∀ (st' : LSt) (b : Bool) (jump : Option Code), b = jump.isNone → (∀ r : Loop, LStR st' { r with state := if jump.isNone then .ready else .done, pending := jump }) →
   (getK H2 i fun en => match en with
    | .lrec .busy tm0 ps asg bd => setK H2 i (.lrec st' tm0 ps asg bd) fun H' => entsLt E.n0 (H'.take E.n0) = true ∧ K (.c (.bool b)) (H'.take E.n0)
    | _ => False) →
   ∃ v w', (Instr.endRound l jump).run P w2 = .ok v w' ∧ ∃ v' r H' κ' S', Ending.returned v = .returned v' ∧ K r H' ∧ Mem H.length κ w S (fun B => ∃ i, ownAt κ H i = some B) H' w' S' κ' ∧ AVR w'.heap S' κ' r v' := by
  intro st' b jump hb hst hk
  obtain ⟨en, hen2, hk⟩ := getK_spec hk
  split at hk
  case h_2 => exact hk.elim
  rename_i tm0 ps0 asg0 bd0
  obtain ⟨_, hlt, hk⟩ := setK_spec hk
  have hκ2 : κ2 i = .blk l := by rw [hi3.m.kp i (by omega)]; exact hκ
  obtain ⟨r2, hh2, hs2, hi4⟩ := hi3.lset (st' := st') hen2 hκ2 (fun r => { r with state := if jump.isNone then .ready else .done, pending := jump }) (fun r _ => hst r) (fun r => ⟨rfl, rfl, rfl, rfl⟩)
  refine ⟨_, _, run_endRound jump hh2, _, _, _, _, _, rfl, hk, by rw [← hn0]; exact hi4.m.trim hlt, ?_⟩
  simp only [AVR, CVR, hb]
 cases ae <;> cases e <;> simp only [AExR] at hr2 <;> (try exact hr2.elim) <;> simp only [rndE] at hk
 ·exact main .ready true none rfl (fun r => ⟨rfl, rfl⟩) hk
 ·subst hr2
  rename_i n
  exact main (.brk n) false (some (.exit n)) rfl (fun r => ⟨rfl, rfl⟩) hk
 ·exact main .ret false (some .ret) rfl (fun r => ⟨rfl, rfl⟩) hk
end
end Go.Tr
/- The engine, part 29: a loop's record knows less. -/
namespace Go.Tr
theorem EntR.wkl {h : Array Obj} {S : Nat → Prop} {κ : Nat → Bind} {st : LSt} {tm tm' : TM} {ps : Array Nat} {asg body : Code} {b : Bind} (ht : ∀ t, lk tm' t = .top ∨ lk tm' t = lk tm t) (he : EntR h S κ (.lrec st tm ps asg body) b) : EntR h S κ (.lrec st tm' ps asg body) b := by
 simp only [EntR] at he ⊢
 rcases he with he | ⟨l, r, h1, h2, h3, h4, h5, h6, h7, h8⟩
 ·exact .inl he
 ·refine .inr ⟨l, r, h1, h2, h3, h4, h5, h6, fun t => ?_, h8⟩
  rcases ht t with h | h
  ·rw [h]; simp only [AVR]
  ·rw [h]; exact h7 t
theorem CallSt.wkl {P : Program} {f : FuncId} {args : List AV} {H : HP} {K : AV → HP → Prop} (i : Nat) (tm' : TM) {st : LSt} {tm : TM} {ps : Array Nat} {asg body : Code} (hi : H[i]? = some (.lrec st tm ps asg body)) (ht : ∀ t, lk tm' t = .top ∨ lk tm' t = lk tm t)
  (h : CallSt P f args (H.set i (.lrec st tm' ps asg body)) K) : CallSt P f args H K := by
 have hil := getElem?_lt hi
 unfold CallSt at h ⊢
 refine ⟨h.1, fun w S κ vs hh hvs => ?_⟩
 have hown : ∀ j B, ownAt κ (H.set i (.lrec st tm' ps asg body)) j = some B ↔ ownAt κ H j = some B := fun j B => by
  by_cases hji : j = i
  ·subst hji
   rw [ownAt_of (List.getElem?_set_self hil), ownAt_of hi]
   cases κ j <;> simp [owns]
  ·unfold ownAt
   rw [List.getElem?_set_ne (Ne.symm hji)]
 have hh' : HR w.heap S κ (H.set i (.lrec st tm' ps asg body)) := by
  refine ⟨fun j e hj => ?_, fun j hj => hh.out j (by simpa using hj), fun j B hj => hh.own j B ((hown j B).1 hj), fun j k B hj hk => hh.excl j k B ((hown j B).1 hj) ((hown k B).1 hk), hh.sz⟩
  by_cases hji : j = i
  ·subst hji
   rw [List.getElem?_set_self hil] at hj
   injection hj with hj
   subst hj
   exact EntR.wkl ht (hh.ent j _ hi)
  ·rw [List.getElem?_set_ne (Ne.symm hji)] at hj
   exact hh.ent j e hj
 refine (h.2 w S κ vs hh' hvs).mono ?_
 rintro e w' ⟨v, r, H', κ', S', h1, h2, m, h4⟩
 have e2 : (fun B => ∃ i_1, ownAt κ (H.set i (.lrec st tm' ps asg body)) i_1 = some B) = (fun B => ∃ i, ownAt κ H i = some B) := by
  funext B
  exact propext ⟨fun ⟨j, hj⟩ => ⟨j, (hown j B).1 hj⟩, fun ⟨j, hj⟩ => ⟨j, (hown j B).2 hj⟩⟩
 rw [e2, List.length_set] at m
 exact ⟨v, r, H', κ', S', h1, h2, m, h4⟩
theorem YSt.mono {P : Program} {i : Nat} {args : List AV} {H : HP} {K K' : AV → HP → Prop} (h : YSt P i args H K) (hk : ∀ r H', K r H' → K' r H') : YSt P i args H K' := by
 unfold YSt at *
 intro w S κ vs l h1 h2 h3
 obtain ⟨fn, tmps, asg, body, hy, hr⟩ := h w S κ vs l h1 h2 h3
 refine ⟨fn, tmps, asg, body, hy, RoundIn.mono hr ?_⟩
 rintro e w' ⟨v, r, H', κ', S', a, b, c, d⟩
 exact ⟨v, r, H', κ', S', a, hk r H' b, c, d⟩
def subTM : TM → TM → Prop
 | [], _ => True
 | (t, v) :: r, tm => lk tm t = v ∧ subTM r tm
theorem subTM_lk {tm : TM} : ∀ {tm' : TM}, subTM tm' tm → ∀ t, lk tm' t = .top ∨ lk tm' t = lk tm t
 | [], _, t => .inl rfl
 | (d, v) :: r, h, t => by
  rw [lk_cons]
  by_cases e : d = t
  ·subst e
   simp only [if_true]
   exact .inr h.1.symm
  ·simp only [e, if_false]
   exact subTM_lk h.2 t
end Go.Tr
/- The engine, part 30: a row that moves to a new entry; a contract whose last state is weakened. -/
namespace Go.Tr
def finW (E : Env) (fn : Func) (p : Bool) (K : AV → HP → Prop) : AEx → TM → HP → Prop
 | .exit _, _, _ => False
 | _, tm, H => ∃ tm1 H1, Wk E.n0 tm H tm1 H1 ∧ resK E tm1 H1 fn.results.toList fun l => (match p with
  | false => tupK l fun r => K r H1
  | true => pursK E fn.resultTypes.toList l H1 fun l' H' => tupK l' fun r => K r H')
section
variable {P : Program} {E : Env}
end
end Go.Tr
/- The engine, part 31: a round by its contract, at chosen entries; a round whose last state is weakened. -/
namespace Go.Tr
theorem CallSt.wk {P : Program} {f : FuncId} {args : List AV} {H : HP} (H1 : HP) {K : AV → HP → Prop} (hw : Wk H.length [] H [] H1) (h : CallSt P f args H1 K) : CallSt P f args H K := by
 unfold CallSt at h ⊢
 refine ⟨h.1, fun w S κ vs hh hvs => ?_⟩
 unfold Wk at hw
 obtain ⟨κ1, S1, a1, _, a3, a4, a5, _, a7, a8⟩ := hw w S κ { tmps := #[], defers := [] } hh (fun t => by simp [lk, AVR]) (Nat.le_refl _)
 have hbind : ∀ i, κ i ≠ .none → κ1 i = κ i := fun i hi => by
  rcases Nat.lt_or_ge i H.length with hl | hl
  ·exact a3 i hl
  ·exact absurd (hh.out i hl) hi
 refine (h.2 w S1 κ1 vs a1 (AVRs.mono (fun B off u h1 h2 => ⟨fun h => h1 (a7 B h), h2⟩) hbind args hvs)).mono ?_
 rintro e w' ⟨v, r, H', κ', S', rfl, hk, m, hr⟩
 refine ⟨v, r, H', κ', S', rfl, hk, ⟨m.hr, ⟨m.fr.os, m.fr.tape, m.fr.output, m.fr.size, fun B hB hO => m.fr.keep B hB (fun ⟨i, hi⟩ => hO (a5 i B hi)), fun B hB hS => a7 B (m.fr.shut B hB hS), fun B hB hS hO => ?_⟩,
  fun i hi => by rw [m.kp i (by omega)]; exact a3 i hi, by have := m.len; omega, fun i B hi hB => ?_⟩, hr⟩
 ·by_cases h1 : S1 B
  ·exact m.fr.held B hB h1 (fun ⟨i, hi⟩ => hO (a5 i B hi))
  ·exact absurd (a8 B hS h1) hO
 ·obtain ⟨j, hj⟩ := m.ow i B hi hB
  exact a5 j B hj
section
variable {P : Program} {E : Env}
end
end Go.Tr
/- The engine, part 32: contracts of functions that may panic; one's own row becomes pure. -/
namespace Go.Tr
section
variable {P : Program} {E : Env}
theorem CallPt.use {f : FuncId} {args args' : List AV} {L H : HP} {Post K : AV → HP → Prop} {PostP KP : CV → HP → Prop} (h : CallPt P f args' L Post PostP) (sel : List Nat) (hsel : selR (selMap sel H.length) H sel L) (hnd : sel.Nodup)
  (hargs : args = AV.rens (selMap sel H.length) args') (hKP : ∀ x L', PostP x L' → L.length ≤ L'.length → KP x (mergeH sel (selMap sel H.length) L' H))
  (hK : ∀ r L', Post r L' → L.length ≤ L'.length → K (r.ren (selMap sel H.length)) (mergeH sel (selMap sel H.length) L' H)) : CallPt P f args H K KP :=
 CallPt.frame h sel (selR_len hsel) hnd (selR_at hsel) hargs hKP hK
theorem CallPt.useS {f : FuncId} {args args' : List AV} {L H : HP} {Post K : AV → HP → Prop} {KP : CV → HP → Prop} (h : CallSt P f args' L Post) (sel : List Nat) (hsel : selR (selMap sel H.length) H sel L) (hnd : sel.Nodup)
  (hargs : args = AV.rens (selMap sel H.length) args') (hK : ∀ r L', Post r L' → L.length ≤ L'.length → K (r.ren (selMap sel H.length)) (mergeH sel (selMap sel H.length) L' H)) : CallPt P f args H K KP :=
 (CallSt.use h sel hsel hnd hargs hK).pt
theorem v0 {f : FuncId} {args args' : List AV} {H : HP} {Post K : AV → HP → Prop} {KP : CV → HP → Prop} (h : CallSt P f args' [] Post)
  (hK : ∀ r L', Post r L' → ([] : HP).length ≤ L'.length → K (r.ren (selMap [] H.length)) (mergeH [] (selMap [] H.length) L' H)) (hargs : args = AV.rens (selMap [] H.length) args' := by exact rfl) : CallPt P f args H K KP :=
 CallPt.useS h [] trivial (by decide) hargs hK
theorem Mem.dead {n0 : Nat} {κ0 κ : Nat → Bind} {w0 w : World} {S0 O0 S : Nat → Prop} {H : HP} (hm : Mem n0 κ0 w0 S0 O0 H w S κ) : ∃ κ', Mem n0 κ0 w0 S0 O0 (List.replicate n0 .dead) w S κ' := by
 have hget : ∀ (j : Nat) (e : Ent), (List.replicate n0 Ent.dead)[j]? = some e → e = .dead := fun j e hj => by
  rw [List.getElem?_replicate] at hj
  split at hj
  ·injection hj with hj; exact hj.symm
  ·cases hj
 have hown : ∀ j B, ownAt (fun i => if i < n0 then κ i else .none) (List.replicate n0 Ent.dead) j ≠ some B := fun j B hj => by
  obtain ⟨e, h1, h2⟩ := ownAt_some hj
  rw [hget j e h1] at h2
  simp [owns] at h2
 refine ⟨fun i => if i < n0 then κ i else .none, ⟨fun j e hj => ?_, fun j hj => ?_, fun j B hj => absurd hj (hown j B), fun j k B hj _ => absurd hj (hown j B), hm.hr.sz⟩, hm.fr, fun i hi => by simp only [hi, if_true]; exact hm.kp i hi, by simp, fun j B hj _ => absurd hj (hown j B)⟩
 ·rw [hget j e hj]
  simp only [EntR]
 ·simp only [List.length_replicate] at hj
  show (if j < n0 then κ j else .none) = .none
  rw [if_neg (by omega)]
def Env.may (E : Env) (KP : CV → Prop) : Env := { E with pan := some ([], fun x _ _ => KP x) }
theorem EnvOk.may {KP : CV → Prop} (h : EnvOk P E) : EnvOk P (E.may KP) := h
inductive Fin5 where
 | q | t | p | w | v
def finF (m : Fin5) (E : Env) (fn : Func) (K : AV → HP → Prop) : AEx → TM → HP → Prop :=
 match m with
 | .q => finQ E fn K
 | .t => finT E fn K
 | .p => finP E fn K
 | .w => finW E fn false K
 | .v => finW E fn true K
theorem finF_ok (he : EnvOk P E) {fn : Func} {H : HP} (hn0 : E.n0 = H.length) {K : AV → HP → Prop} (m : Fin5) : ∀ e tm' H' S' κ' a' w' κ S w ds, finF m E fn K e tm' H' → Inv E.n0 (fn.ntmps, ds) κ w S (fun B => ∃ i, ownAt κ H i = some B) tm' H' a' w' S' κ' → (e = .normal ∨ e = .ret) ∧
      ∃ v r H'' κ'' S'', (results fn a'.tmps).run P w' = .ok v w' ∧ K r H'' ∧ Mem H.length κ w S (fun B => ∃ i, ownAt κ H i = some B) H'' w' S'' κ'' ∧ AVR w'.heap S'' κ'' r v := by
  intro e tm' H' S' κ' a' w' κ S w ds hq hi'
  have hne : ∀ n, e = .exit n → False := fun n he' => by
    subst he'
    cases m <;> exact hq.elim
  have hee : e = .normal ∨ e = .ret := by
    cases e with
    | normal => exact .inl rfl
    | ret => exact .inr rfl
    | exit n => exact (hne n rfl).elim
  refine ⟨hee, ?_⟩
  cases m with
  | q =>
    have hq' : resK E tm' H' fn.results.toList fun l => tupK l fun r => K r H' := by rcases hee with rfl | rfl <;> exact hq
    obtain ⟨l, vs, hk, hl, hr⟩ := resK_spec he hi'.m.hr hi'.tr hq'
    obtain ⟨v, x, h1, h2, h3⟩ := results_run hl hk hr
    exact ⟨v, x, H', κ', S', h1, h2, by rw [← hn0]; exact hi'.m, h3⟩
  | t =>
    have hq' : resK E tm' H' fn.results.toList fun l => tupK l fun r => AV.lt E.n0 r = true ∧ entsLt E.n0 (H'.take E.n0) = true ∧ K r (H'.take E.n0) := by rcases hee with rfl | rfl <;> exact hq
    obtain ⟨l, vs, hk, hl, hr⟩ := resK_spec he hi'.m.hr hi'.tr hq'
    obtain ⟨v, x, h1, ⟨h2, h3, h4⟩, h5⟩ := results_run hl hk hr
    have m2 := hi'.m.trim h3
    exact ⟨v, x, _, _, S', h1, h4, by rw [← hn0]; exact m2, AVR.trim (fun i hi => by simp only [hi, if_true]) x h2 h5⟩
  | p =>
    have hq' : resK E tm' H' fn.results.toList fun l => pursK E fn.resultTypes.toList l H' fun l' H' => tupK l' fun r => AV.lt E.n0 r = true ∧ entsLt E.n0 (H'.take E.n0) = true ∧ K r (H'.take E.n0) := by rcases hee with rfl | rfl <;> exact hq
    obtain ⟨l, vs, hk, hl, hr⟩ := resK_spec he hi'.m.hr hi'.tr hq'
    obtain ⟨l', H1, S1, hk, m1, e1, hl1, _⟩ := pursK_spec he hi'.m hl hk
    obtain ⟨v, x, h1, ⟨h2, h3, h4⟩, h5⟩ := results_run hl1 hk hr
    have m2 := m1.trim h3
    exact ⟨v, x, _, _, S1, h1, h4, by rw [← hn0]; exact m2, AVR.trim (fun i hi => by simp only [hi, if_true]) x h2 h5⟩
  | w =>
    have hq' : finW E fn false K .normal tm' H' := by rcases hee with rfl | rfl <;> exact hq
    obtain ⟨tm1, H1, hw, hq'⟩ := hq'
    obtain ⟨_, κ1, S1, hi1, _⟩ := hi'.wk hw
    obtain ⟨l, vs, hk, hl, hr⟩ := resK_spec he hi1.m.hr hi1.tr hq'
    obtain ⟨v, x, h1, h2, h3⟩ := results_run hl hk hr
    exact ⟨v, x, H1, κ1, S1, h1, h2, by rw [← hn0]; exact hi1.m, h3⟩
  | v =>
    have hq' : finW E fn true K .normal tm' H' := by rcases hee with rfl | rfl <;> exact hq
    obtain ⟨tm1, H1, hw, hq'⟩ := hq'
    obtain ⟨_, κ1, S1, hi1, _⟩ := hi'.wk hw
    obtain ⟨l, vs, hk, hl, hr⟩ := resK_spec he hi1.m.hr hi1.tr hq'
    obtain ⟨l', H2, S2, hk, m1, e1, hl1, _⟩ := pursK_spec he hi1.m hl hk
    obtain ⟨v, x, h1, h2, h3⟩ := results_run hl1 hk hr
    exact ⟨v, x, H2, κ1, S2, h1, h2, by rw [← hn0]; exact m1, h3⟩
theorem call_pan (he : EnvOk P E) (hmix : P.follows .mixedOrders = true) {f : FuncId} {fn : Func} {c : Code} (hf : P.funcs[f]? = some fn) (hb : fn.body = some c) (hcb : callable P f = true) (hok : codeOk fn.ntmps c = true)
  {args : List AV} (hlen : Nat.ble args.length fn.ntmps = true) (hargs : argOk args = true) {H : HP} (hn0 : E.n0 = H.length) (m : Fin5) {K : AV → HP → Prop} {KP : CV → Prop}
  (h : aw P (E.may KP) c (argTM 0 args) H (finF m (E.may KP) fn K)) : CallPt P f args H K fun x H' => KP x ∧ H' = List.replicate H.length .dead := by
 refine call_gen he.may hmix hf hb hcb hok hlen hargs hn0 (finF_ok he.may hn0 m) ?_ h
 intro ts KPf hp x V tm' H' S' κ' a' w' κ S w ds hk hx hi
 have hp' : (some (([] : List Nat), fun (x : CV) (_ : List AV) (_ : HP) => KP x) : Option (List Nat × (CV → List AV → HP → Prop))) = some (ts, KPf) := hp
 injection hp' with hp'
 injection hp' with h1 h2
 subst h1 h2
 obtain ⟨κ2, m2⟩ := hi.m.dead
 have hn0' : (E.may KP).n0 = H.length := hn0
 rw [hn0'] at m2
 exact ⟨_, κ2, S', ⟨hk, rfl⟩, m2, hx⟩
end
end Go.Tr
/- The engine, part 33: a function that defers a call which recovers. -/
namespace Go.Tr
def RecU (h : Array Obj) (S : Nat → Prop) (rec : Option CV) (u : FrameMode) : Prop :=
 match rec with
 | none => u = .returning
 | some x => ∃ V, CVR h S x V ∧ u = .panicking [{ v := V, recovered := false }]
def DefSt (P : Program) (f : FuncId) (args : List AV) (H : HP) (rec : Option CV) (K : HP → Prop) : Prop :=
 callable P f = true ∧ ∀ (w : World) (S : Nat → Prop) (κ : Nat → Bind) (vs : List Value) (u : FrameMode), HR w.heap S κ H → AVRs w.heap S κ args vs →
  RecU w.heap S rec u → CallsDIn (Fr none) 0 P f vs.toArray u w fun e u' w' => ∃ v H' κ' S', e = .returned v ∧ settle u' = .returning ∧ K H' ∧ Mem H.length κ w S (fun B => ∃ i, ownAt κ H i = some B) H' w' S' κ'
attribute [irreducible] DefSt
def recV : Option CV → AV
 | none => .c (.val .nilIface)
 | some x => .c x
def finD (E : Env) (fn : Func) (K : HP → Prop) : AEx → TM → HP → Prop
 | .exit _, _, _ => False
 | _, tm, H => resK E tm H fn.results.toList fun l => tupK l fun _ => entsLt E.n0 (H.take E.n0) = true ∧ K (H.take E.n0)
def recB : Code → Option (Nat × Code)
 | .seq (.region _ ops false) c => (match ops.toList with
  | [o] => (match o.op, o.guard, o.dst with
   | .call { callee := .builtin .recover, args := _, argTypes := _ }, none, some t => some (t, c)
   | _, _, _ => none)
  | _ => none)
 | _ => none
theorem recB_spec {c c2 : Code} {t : Nat} (h : recB c = some (t, c2)) : ∃ id ops o as ts, c = .seq (.region id ops false) c2 ∧ ops = #[o] ∧ o.op = .call { callee := .builtin .recover, args := as, argTypes := ts } ∧ o.guard = none ∧ o.dst = some t := by
 unfold recB at h
 split at h
 ·rename_i id ops c'
  split at h
  ·rename_i o ho
   split at h
   ·rename_i as ts t' h1 h2 h3
    injection h with h
    injection h with h4 h5
    subst h4 h5
    exact ⟨id, ops, o, as, ts, rfl, by simpa using congrArg List.toArray ho, h1, h2, h3⟩
   ·cases h
  ·cases h
 ·cases h
section
variable {P : Program} {E : Env}
theorem def_intro (he : EnvOk P E) (hmix : P.follows .mixedOrders = true) (hrnd : E.rnd = true) {f : FuncId} {fn : Func} {c c2 : Code} {t : Nat} (hf : P.funcs[f]? = some fn) (hb : fn.body = some c) (hc : recB c = some (t, c2)) (hcb : callable P f = true) (hok : codeOk fn.ntmps c = true)
  {args : List AV} (hlen : Nat.ble args.length fn.ntmps = true) (hargs : argOk args = true) {H : HP} (hn0 : E.n0 = H.length) {rec : Option CV} {K : HP → Prop}
  (h : aw P E c2 ((t, recV rec) :: argTM 0 args) H (finD E fn K)) (hpan : E.pan = none := by rfl) : DefSt P f args H rec K := by
 unfold DefSt
 refine ⟨hcb, fun w S κ vs u hh hvs hu => ?_⟩
 have hl : args.length ≤ fn.ntmps := Nat.le_of_ble_eq_true hlen
 have hvl := hvs.len
 obtain ⟨id, ops, o, as, ts, rfl, rfl, ho, hg, hd⟩ := recB_spec hc
 simp only [codeOk, Bool.and_eq_true] at hok
 obtain ⟨gs, hreg⟩ := regOk_facts hok.1
 have htl : t < fn.ntmps := hreg.dlt 0 o (by simp) t hd
 refine callsDIn_of_wpSIn hf hb trivial fun c₀ cs hmode => ?_
 have hi0 : Inv E.n0 (fn.ntmps, []) κ w S (fun B => ∃ i, ownAt κ H i = some B) (argTM 0 args) H { tmps := vs.toArray ++ Array.replicate (fn.ntmps - vs.toArray.size) undef, defers := [] } w S κ :=
  ⟨by rw [hn0]; exact Mem.refl hh, fun t => by
   rw [lk_argTM, getD_args (by omega)]
   simp only [Nat.zero_le, if_true, Nat.sub_zero]
   exact hvs.getD t, rfl, by simp; omega⟩
 have hnw : NW ((t, recV rec) :: argTM 0 args) := by
  intro q ch g x hl2
  rw [lk_cons] at hl2
  split at hl2
  ·cases rec <;> cases hl2
  ·exact argTM_nw hargs q ch g x hl2
 have hsz : (vs.toArray ++ Array.replicate (fn.ntmps - vs.toArray.size) undef : Array Value).size = fn.ntmps := by simp; omega
 generalize (vs.toArray ++ Array.replicate (fn.ntmps - vs.toArray.size) undef : Array Value) = tmps at *
 have hrun : ∀ (a : Act), (execOp a.eval o).run P w = .ok .recover w := fun a => by
  simp [execOp, ho, resolve, invoke, builtin]
 -- what recover gives, and what becomes of the frame below
 have key : ∃ v u', (recoverD (c₀ :: cs) = some (v, { c₀ with mode := u' } :: cs) ∨ (recoverD (c₀ :: cs) = none ∧ v = .nilIface ∧ u' = u)) ∧ settle u' = .returning ∧ AVR w.heap S κ (recV rec) v := by
  cases rec with
  | none =>
   simp only [RecU] at hu
   subst hu
   refine ⟨.nilIface, .returning, .inr ⟨?_, rfl, rfl⟩, rfl, ?_⟩
   ·simp [recoverD, hmode]
   ·simp only [recV, AVR, CVR, Value.oneCell', and_self]
  | some x =>
   simp only [RecU] at hu
   obtain ⟨V, hx, rfl⟩ := hu
   refine ⟨V, .panicking [{ v := V, recovered := true }], .inl ?_, rfl, by simp only [recV, AVR]; exact hx⟩
   simp [recoverD, hmode]
 obtain ⟨v, u', hrec, hset, hav⟩ := key
 refine wpSIn_seq (wpSIn_region ?_)
 simp only [List.size_toArray, List.length_cons, List.length_nil, List.range_succ, List.range_zero, List.nil_append, wpOpsSIn, List.getElem?_toArray, List.getElem?_cons_zero]
 refine ⟨fun _ _ => trivial, ?_⟩
 rw [if_pos (by simp [Region.wanted, hg]), hrun]
 simp only
 have hfin : ∀ cs', cs' = { c₀ with mode := u' } :: cs → Exit.thenS (c2.wpSIn (Fr none) 0 P (bodyPostS P fn c₀ cs fun e u' w' => ∃ v H' κ' S', e = .returned v ∧ settle u' = .returning ∧ K H' ∧ Mem H.length κ w S (fun B => ∃ i, ownAt κ H i = some B) H' w' S' κ'))
   (bodyPostS P fn c₀ cs fun e u' w' => ∃ v H' κ' S', e = .returned v ∧ settle u' = .returning ∧ K H' ∧ Mem H.length κ w S (fun B => ∃ i, ownAt κ H i = some B) H' w' S' κ') .normal (({ tmps := tmps, defers := [] } : Act).put o.dst v) cs' w := by
  rintro cs' rfl
  simp only [Exit.thenS]
  rw [hd]
  have hi1 := hi0.put (d := t) htl hav
  refine wpSIn_of_wpIn rfl (wpIn_mono (aw_spec (bs := []) he hmix (r := none) (.inl rfl) c2 hok.2 h hnw hi1 Mk.nil) ?_)
  rintro e a' w' (⟨ae, tm', H', S', κ', ds', hr, hq, hn', hi', hmk, hds⟩ | ⟨ts, KP, x, V, _, _, _, _, _, hp, _⟩)
  rotate_left
  ·rw [hpan] at hp
   cases hp
  have hds' := hds rfl hrnd
  subst hds'
  have fin : finD E fn K .normal tm' H' → a'.defers = [] ∧ ∃ u'', { c₀ with mode := u' } :: cs = { c₀ with mode := u'' } :: cs ∧ ∃ v, (results fn a'.tmps).run P w' = .ok v w' ∧ (∃ v' H' κ' S', Ending.returned v = .returned v' ∧ settle u'' = .returning ∧ K H' ∧ Mem H.length κ w S (fun B => ∃ i, ownAt κ H i = some B) H' w' S' κ') := by
   intro hq
   simp only [finD] at hq
   obtain ⟨l, ws, hk, hl, hr⟩ := resK_spec he hi'.m.hr hi'.tr hq
   obtain ⟨v2, x, h1, ⟨h2, h3⟩, _⟩ := results_run hl hk hr
   have m2 := hi'.m.trim h2
   exact ⟨hi'.df, u', rfl, v2, h1, v2, _, _, S', rfl, hset, h3, by rw [← hn0]; exact m2⟩
  cases ae with
  | normal =>
   cases e <;> simp only [AExR] at hr <;> first | exact hr.elim | exact fin hq
  | ret =>
   cases e <;> simp only [AExR] at hr <;> first | exact hr.elim | exact fin hq
  | exit n => exact hq.elim
 rcases hrec with hrec | ⟨hrec, rfl, rfl⟩
 ·rw [hrec]
  exact hfin _ rfl
 ·rw [hrec]
  refine hfin _ ?_
  subst hmode
  rfl
end
end Go.Tr
/- The engine, part 34: the contract of a function that defers a call which recovers. -/
namespace Go.Tr
def splitD : List Oper → Option (List Oper × Call)
 | [] => none
 | o :: r => match r with
  | [] => (match o.op, o.guard, o.dst with
   | .defer c, none, none => some ([], c)
   | _, _, _ => none)
  | _ :: _ => (match splitD r with
   | some (p, c) => some (o :: p, c)
   | none => none)
theorem splitD_spec : ∀ {l p : List Oper} {c : Call}, splitD l = some (p, c) → ∃ o : Oper, l = p ++ [o] ∧ o.op = .defer c ∧ o.guard = none ∧ o.dst = none
 | [], p, c, h => by simp [splitD] at h
 | o :: r, p, c, h => by
  unfold splitD at h
  split at h
  ·split at h
   ·rename_i c' h1 h2 h3
    injection h with h
    injection h with h4 h5
    subst h4 h5
    exact ⟨o, rfl, h1, h2, h3⟩
   ·cases h
  ·split at h
   ·rename_i p' c' hs
    injection h with h
    injection h with h4 h5
    subst h4 h5
    obtain ⟨o', h1, h2⟩ := splitD_spec hs
    exact ⟨o', by rw [h1]; rfl, h2⟩
   ·cases h
def callV (tm : TM) (c : Call) (K : FuncId → List AV → Prop) : Prop :=
 match c.callee with
 | .value f => evK tm [] f fun fv => evsK tm [] c.args.toList fun vs => (match fv with
  | .fn f caps => K f (vs ++ caps)
  | _ => False)
 | _ => False
def dfrEnv (P : Program) (E : Env) (n : Nat) (ts : List Nat) (fd : FuncId) (vs : List AV) (K : TM → HP → Prop) : Env :=
 { E with n0 := n, pan := some (ts, fun x l H' => DefSt P fd vs H' (some x) fun H'' => K (ts.zip l) H'') }
def awd (P : Program) (E : Env) (fin : AEx → TM → HP → Prop) (ts : List Nat) : Code → TM → HP → Prop
 | .seq a b, tm, H => (match a with
  | .region _ ops false => (match splitD ops.toList with
   | some (pre, cl) => (match hasGuard pre with
    | false => awOps P E ops pre tm H fun tm1 H1 => callV tm1 cl fun fd vs =>
      callable P fd = true ∧ aw P (dfrEnv P E H1.length ts fd vs (fin .ret)) b tm1 H1 fun e tm2 H2 => (match e with
       | .exit _ => False
       | _ => DefSt P fd vs H2 none fun H3 => fin .ret tm2 H3)
    | true => False)
   | none => aw P E a tm H fun e tm H => (match e with
    | .normal => awd P E fin ts b tm H
    | e => fin e tm H))
  | _ => aw P E a tm H fun e tm H => (match e with
   | .normal => awd P E fin ts b tm H
   | e => fin e tm H))
 | _, _, _ => False
theorem TR.zip {h : Array Obj} {S : Nat → Prop} {κ : Nat → Bind} {tm : TM} {a : Act} (ht : TR h S κ tm a) (ts : List Nat) : TR h S κ (ts.zip (ts.map (lk tm))) a := by
 intro t
 induction ts with
 | nil => simp only [List.map_nil, List.zip_nil_right, lk, AVR]
 | cons x r ih =>
  simp only [List.map_cons, List.zip_cons_cons, lk_cons]
  split
  ·rename_i e
   subst e
   exact ht x
  ·exact ih
theorem uponIn_Q {F : Fence} {n : Nat} {P : Program} {o : Oper} {a : Act} {K : Act → World → Prop} {Q' Q : Exit → Act → World → Prop} (hQ : ∀ e a w, e ≠ .normal → ¬ Q' e a w) {r : Result Next} (hh : o.uponIn F n P a K Q' r) : o.uponIn F n P a K Q r := by
 have hout : ¬ LetsOut Q' := fun ⟨a, w, h⟩ => hQ _ a w (fun h => by cases h) h
 cases r with
 | ok x w' =>
  cases x <;> simp only [Oper.uponIn] at hh ⊢ <;>
   first
    | exact hh
    | exact ⟨hh.1, CallsIn.mono hh.2 (fun e w'' he => by cases e <;> first | exact he | exact absurd he (hQ _ _ _ (fun h => by cases h)) | exact absurd he hout)⟩
    | exact ⟨hh.1, RoundIn.mono hh.2 (fun e w'' he => by cases e <;> first | exact he | exact absurd he (hQ _ _ _ (fun h => by cases h)) | exact absurd he hout)⟩
 | halt x w' => cases x <;> simp only [Oper.uponIn] at hh ⊢ <;> first | exact hh | exact absurd hh (hQ _ _ _ (fun h => by cases h))
theorem wpListIn_app {F : Fence} {n : Nat} {P : Program} {ops : Array Oper} {Q' Q : Exit → Act → World → Prop} {rest : List Oper} (hQ : ∀ e a w, e ≠ .normal → ¬ Q' e a w) (hr : ∀ a w, Q' .normal a w → wpListIn F n P ops Q rest a w) :
  ∀ (l : List Oper) {a : Act} {w : World}, wpListIn F n P ops Q' l a w → wpListIn F n P ops Q (l ++ rest) a w
 | [], a, w, h => hr a w h
 | o :: l, a, w, h => by
  rw [List.cons_append]
  unfold wpListIn at h ⊢
  split
  ·rename_i hw
   rw [if_pos hw] at h
   have h2 := Oper.wpIn_mono (fun a w h => wpListIn_app (rest := rest) hQ hr l h) h
   exact ⟨h2.1, uponIn_Q hQ h2.2⟩
  ·rename_i hw
   rw [if_neg hw] at h
   exact ⟨h.1, wpListIn_app hQ hr l h.2⟩
section
variable {P : Program} {E : Env}
theorem dfr_leave (he : EnvOk P E) {fn : Func} {H : HP} (hn0 : E.n0 = H.length) {K : AV → HP → Prop} (m : Fin5) {w S κ} {M : Nat} (hM : M = fn.ntmps)
  {H1 : HP} {w1 : World} {S1 : Nat → Prop} {κ1 : Nat → Bind} (m1 : Mem E.n0 κ w S (fun B => ∃ i, ownAt κ H i = some B) H1 w1 S1 κ1)
  {tm2 : TM} {H2 : HP} {a2 : Act} {w2 : World} {S2 : Nat → Prop} {κ2 : Nat → Bind} {ds2 : List Deferred} (hi2 : Inv H1.length (M, ds2) κ1 w1 S1 (fun B => ∃ i, ownAt κ1 H1 i = some B) tm2 H2 a2 w2 S2 κ2)
  {fd : FuncId} {cs args : Array Value} {vs : List AV} (hcb : callable P fd = true) (hvs : AVRs w1.heap S1 κ1 vs (args ++ cs).toList) {d : Deferred} (hd : d = { target := .fn (.func fd) cs, args := args })
  (hmk : Mk [d] w1 ds2 w2 S2) {rec : Option CV} {u : FrameMode} (hu : RecU w2.heap S2 rec u)
  (hdf : DefSt P fd vs H2 rec fun H3 => ∃ tm3, finF m E fn K .ret tm3 H3 ∧ ∀ (h : Array Obj) (S : Nat → Prop) (κ : Nat → Bind), TR h S κ tm2 a2 → TR h S κ tm3 a2) :
  LeavesInM (Fr none) 0 P fn a2.tmps (fun e w' => ∃ v r H' κ' S', e = .returned v ∧ K r H' ∧ Mem H.length κ w S (fun B => ∃ i, ownAt κ H i = some B) H' w' S' κ' ∧ AVR w'.heap S' κ' r v) a2.defers u w2 := by
 have hur : u ≠ .run := by
  cases rec with
  | none => simp only [RecU] at hu; subst hu; exact fun h => by cases h
  | some x => simp only [RecU] at hu; obtain ⟨V, _, rfl⟩ := hu; exact fun h => by cases h
 obtain ⟨rs, hds, hnd, hrs⟩ := hmk
 have e12 := ((Mem.refl m1.hr).trans hi2.m).2
 rw [hi2.df, hds]
 refine leaves_spec hur rs hi2.m hi2.tr hnd hrs fun w3 m3 ht3 e23 => ?_
 unfold DefSt at hdf
 obtain ⟨_, hdf⟩ := hdf
 have hu3 : RecU w3.heap S2 rec u := by
  cases rec with
  | none => exact hu
  | some x =>
   simp only [RecU] at hu ⊢
   obtain ⟨V, hx, h⟩ := hu
   exact ⟨V, CVR.mono e23.mem x hx, h⟩
 have hcl := hdf w3 S2 κ2 _ u m3.hr ((e12.trans e23).avrs hvs) hu3
 subst hd
 simp only [LeavesInM]
 refine ⟨hur, .inr ⟨fun h => (by cases h), .func fd, cs, fd, args ++ cs, rfl, ?_, fun _ _ => trivial, ?_⟩⟩
 ·unfold callable at hcb
  split at hcb
  ·rename_i fn' hfn
   simp only [Bool.and_eq_true, Bool.not_eq_true', beq_eq_false_iff_ne, ne_eq] at hcb
   obtain ⟨hb1, hb2⟩ := hcb
   have hb3 : fn'.body.isNone = false := by cases hb : fn'.body <;> simp_all
   simp [invoke, callFunc, program, Sem.run, Sem.run_bind, hfn, hb2, hb3]
   intro hbn
   simp [hbn] at hb1
  ·cases hcb
 ·have ea : (args ++ cs).toList.toArray = args ++ cs := by simp
  rw [ea] at hcl
  refine CallsDIn.mono hcl ?_
  rintro e u' w' ⟨v, H3, κ3, S3, rfl, hset, ⟨tm3, hk, htm3⟩, m4⟩
  simp only [hset]
  obtain ⟨m13, e13⟩ := m1.trans m3
  obtain ⟨m5, e5⟩ := m13.trans m4
  have hiF : Inv E.n0 (fn.ntmps, a2.defers) κ w S (fun B => ∃ i, ownAt κ H i = some B) tm3 H3 a2 w' S3 κ3 := ⟨m5, htm3 _ _ _ (e5.tr ht3), rfl, by rw [hi2.sz, ← hM]⟩
  obtain ⟨_, v2, r, H'', κ'', S'', h1, h2, h3, h4⟩ := finF_ok he hn0 m .ret tm3 H3 S3 κ3 a2 w' κ S w a2.defers hk hiF
  simp only [LeavesInM, LeavesIn]
  exact ⟨v2, h1, v2, r, H'', κ'', S'', rfl, h2, h3, h4⟩
theorem awd_spec (he : EnvOk P E) (hmix : P.follows .mixedOrders = true) (hrnd : E.rnd = true) {fn : Func} {H : HP} (hn0 : E.n0 = H.length) {K : AV → HP → Prop} (m : Fin5) (hpan : E.pan = none) {w : World} {S : Nat → Prop} {κ : Nat → Bind} (ts : List Nat) :
  ∀ (c : Code) {tm : TM} {H0 : HP} {a : Act} {w0 : World} {S0 : Nat → Prop} {κ0 : Nat → Bind}, codeOk fn.ntmps c = true → awd P E (finF m E fn K) ts c tm H0 → NW tm → Inv E.n0 (fn.ntmps, []) κ w S (fun B => ∃ i, ownAt κ H i = some B) tm H0 a w0 S0 κ0 →
   c.wpIn (Fr none) 0 P (bodyPostM (Fr none) 0 P fn fun e w' => ∃ v r H' κ' S', e = .returned v ∧ K r H' ∧ Mem H.length κ w S (fun B => ∃ i, ownAt κ H i = some B) H' w' S' κ' ∧ AVR w'.heap S' κ' r v) a w0 := by
 intro c
 induction c with
 | seq x y _ ihy =>
  intro tm H0 a w0 S0 κ0 hok hk hn hi
  simp only [codeOk, Bool.and_eq_true] at hok
  have plain : (aw P E x tm H0 fun e tm H => match e with
    | .normal => awd P E (finF m E fn K) ts y tm H
    | e => finF m E fn K e tm H) → (Code.seq x y).wpIn (Fr none) 0 P (bodyPostM (Fr none) 0 P fn fun e w' => ∃ v r H' κ' S', e = .returned v ∧ K r H' ∧ Mem H.length κ w S (fun B => ∃ i, ownAt κ H i = some B) H' w' S' κ' ∧ AVR w'.heap S' κ' r v) a w0 := by
   intro hk
   refine wpIn_seq (wpIn_mono (aw_spec (bs := []) he hmix (r := none) (.inl rfl) x hok.1 hk hn hi Mk.nil) ?_)
   rintro e a' w' (⟨ae, tm', H', S', κ', ds', hr, hq, hn', hi', hmk, hds⟩ | ⟨_, _, _, _, _, _, _, _, _, hp, _⟩)
   rotate_left
   ·rw [hpan] at hp
    cases hp
   have hds' := hds rfl hrnd
   subst hds'
   cases ae <;> cases e <;> simp only [AExR] at hr <;> try exact hr.elim
   ·exact ihy hok.2 hq hn' hi'
   ·subst hr
    cases m <;> exact hq.elim
   ·obtain ⟨_, v, r, H'', κ'', S'', h1, h2, h3, h4⟩ := finF_ok he hn0 m .ret tm' H' S' κ' a' w' κ S w [] hq hi'
    show LeavesInM (Fr none) 0 P fn a'.tmps _ a'.defers .returning w'
    rw [hi'.df]
    simp only [LeavesInM, LeavesIn]
    exact ⟨v, h1, v, r, H'', κ'', S'', rfl, h2, h3, h4⟩
  unfold awd at hk
  split at hk
  ·rename_i id ops _
   split at hk
   ·rename_i pre cl hs
    split at hk
    ·rename_i hgd
     obtain ⟨o, hops, hop, hog, hod⟩ := splitD_spec hs
     simp only [codeOk] at hok
     obtain ⟨gs, hreg⟩ := regOk_facts hok.1
     refine wpIn_seq (wpIn_region_list ?_)
     rw [hops]
     have hP : PanQ E E.n0 (fn.ntmps, []) κ w S (fun B => ∃ i, ownAt κ H i = some B) (fun (e : Exit) (a' : Act) (w' : World) => match e with | .normal => wpListIn (Fr none) 0 P ops (Exit.then (y.wpIn (Fr none) 0 P (bodyPostM (Fr none) 0 P fn fun e w' => ∃ v r H' κ' S', e = .returned v ∧ K r H' ∧ Mem H.length κ w S (fun B => ∃ i, ownAt κ H i = some B) H' w' S' κ' ∧ AVR w'.heap S' κ' r v))
       (bodyPostM (Fr none) 0 P fn fun e w' => ∃ v r H' κ' S', e = .returned v ∧ K r H' ∧ Mem H.length κ w S (fun B => ∃ i, ownAt κ H i = some B) H' w' S' κ' ∧ AVR w'.heap S' κ' r v)) [o] a' w' | _ => False) := PanQ.none hpan
     have hpre := awOps_nw he pre (hasGuard_no hgd) (fun o' ho' d hd => by
      have hm : o' ∈ ops.toList := by rw [hops]; simp [ho']
      obtain ⟨i, hi'⟩ := List.mem_iff_getElem?.1 hm
      exact hreg.dlt i o' (by simpa using hi') d hd) hP hi hn hk (fun tm1 H1 S1 κ1 a1 w1 hk hn1 hi1 => by
       simp only
       unfold callV at hk
       split at hk
       ·rename_i f hcal
        obtain ⟨fv, hk, hfv⟩ := evK_spec hi1.tr (NW.ri (ops := #[]) (gs := []) (D := fun _ => True) hn1).wok (fun p hp => by cases hp) hk
        obtain ⟨vs, hk, hvs⟩ := evsK_spec hi1.tr (NW.ri (ops := #[]) (gs := []) (D := fun _ => True) hn1).wok (fun p hp => by cases hp) hk
        split at hk
        ·rename_i fd caps _
         obtain ⟨hcb, hk⟩ := hk
         simp only [AVR] at hfv
         obtain ⟨cs, hfe, hcs⟩ := hfv
         have hrun : (execOp a1.eval o).run P w1 = .ok (.defer { target := .fn (.func fd) cs, args := cl.args.map a1.eval }) w1 := by
          simp [execOp, hop, resolve, hcal, hfe, Deferred.ofValue]
         unfold wpListIn
         rw [if_pos (by simp [Region.wanted, hog])]
         refine ⟨fun _ _ => trivial, ?_⟩
         have hsem : (o.semAt (Fr none).round a1.eval).run P w1 = .ok (.defer { target := .fn (.func fd) cs, args := cl.args.map a1.eval }) w1 := by
          show (o.semAt none a1.eval).run P w1 = _
          simp only [Oper.semAt, hop]
          simpa [hop] using hrun
         rw [hsem, Oper.uponIn_defer, hod]
         show wpListIn (Fr none) 0 P ops _ [] { a1 with defers := _ :: a1.defers } w1
         simp only [wpListIn, Exit.then]
         have hi1d : Inv H1.length (fn.ntmps, [{ target := .fn (.func fd) cs, args := cl.args.map a1.eval }]) κ1 w1 S1 (fun B => ∃ i, ownAt κ1 H1 i = some B) tm1 H1 { a1 with defers := { target := .fn (.func fd) cs, args := cl.args.map a1.eval } :: a1.defers } w1 S1 κ1 :=
          ⟨Mem.refl hi1.m.hr, hi1.tr, by simp [hi1.df], hi1.sz⟩
         have hav : AVRs w1.heap S1 κ1 (vs ++ caps) (cl.args.map a1.eval ++ cs).toList := by
          have := hvs.append hcs
          simpa using this
         have he2 : EnvOk P (dfrEnv P E H1.length ts fd (vs ++ caps) (finF m E fn K .ret)) := he
         refine wpIn_mono (aw_spec (E := dfrEnv P E H1.length ts fd (vs ++ caps) (finF m E fn K .ret)) (bs := [{ target := .fn (.func fd) cs, args := cl.args.map a1.eval }]) he2 hmix (r := none) (.inl rfl) y hok.2 hk hn1 hi1d Mk.nil) ?_
         rintro e a2 w2 (⟨ae, tm2, H2, S2, κ2, ds2, hr, hq, hn2, hi2, hmk, _⟩ | ⟨ts', KP, x, V, tm2, H2, S2, κ2, ds2, hp, rfl, hkp, hx, hi2, hmk, _⟩)
         ·have fin : (DefSt P fd (vs ++ caps) H2 none fun H3 => finF m E fn K .ret tm2 H3) → LeavesInM (Fr none) 0 P fn a2.tmps (fun e w' => ∃ v r H' κ' S', e = .returned v ∧ K r H' ∧ Mem H.length κ w S (fun B => ∃ i, ownAt κ H i = some B) H' w' S' κ' ∧ AVR w'.heap S' κ' r v) a2.defers .returning w2 := by
           intro hq
           refine dfr_leave he hn0 m rfl hi1.m hi2 hcb hav rfl hmk (rec := none) rfl ?_
           unfold DefSt at hq ⊢
           refine ⟨hq.1, fun w S κ vs u h1 h2 h3 => CallsDIn.mono (hq.2 w S κ vs u h1 h2 h3) ?_⟩
           rintro e u' w' ⟨v, H', κ', S', g1, g2, g3, g4⟩
           exact ⟨v, H', κ', S', g1, g2, ⟨tm2, g3, fun _ _ _ h => h⟩, g4⟩
          cases ae <;> cases e <;> simp only [AExR] at hr <;> first | exact hr.elim | exact fin hq | exact hq.elim
         ·have hp' : (some (ts, fun x l H' => DefSt P fd (vs ++ caps) H' (some x) fun H'' => finF m E fn K .ret (ts.zip l) H'') : Option (List Nat × (CV → List AV → HP → Prop))) = some (ts', KP) := hp
          injection hp' with hp'
          injection hp' with h1 h2
          subst h1 h2
          show LeavesInM (Fr none) 0 P fn a2.tmps _ a2.defers (.panicking _) w2
          refine dfr_leave he hn0 m rfl hi1.m hi2 hcb hav rfl hmk (rec := some x) ⟨V, hx, rfl⟩ ?_
          unfold DefSt at hkp ⊢
          refine ⟨hkp.1, fun w S κ vs u h1 h2 h3 => CallsDIn.mono (hkp.2 w S κ vs u h1 h2 h3) ?_⟩
          rintro e u' w' ⟨v, H', κ', S', g1, g2, g3, g4⟩
          exact ⟨v, H', κ', S', g1, g2, ⟨_, g3, fun _ _ _ h => h.zip ts⟩, g4⟩
        ·exact hk.elim
       ·exact hk.elim)
     exact wpListIn_app (fun e a w hne h => by cases e <;> first | exact absurd rfl hne | exact h) (fun a w h => h) pre (wpListW.wpIn hpre)
    ·exact hk.elim
   ·exact plain hk
  ·exact plain hk
 | _ => intro tm H0 a w0 S0 κ0 _ hk _ _; exact hk.elim
end
end Go.Tr
/- The engine, part 35: a call that may panic, from a weaker state; the contract of a function that defers. -/
namespace Go.Tr
theorem aw_cut {P : Program} {E : Env} {c : Code} {tm : TM} {H : HP} {Q : AEx → TM → HP → Prop} (a b : Code) (hc : c = .seq a b) (h : ∀ C, C = b → aw P E (.seq a C) tm H Q) : aw P E c tm H Q := by
 rw [hc]
 exact h b rfl
section
variable {P : Program} {E : Env}
theorem call_dfr (he : EnvOk P E) (hmix : P.follows .mixedOrders = true) {f : FuncId} {fn : Func} {c : Code} (hf : P.funcs[f]? = some fn) (hb : fn.body = some c) (hcb : callable P f = true) (hok : codeOk fn.ntmps c = true)
  {args : List AV} (hlen : Nat.ble args.length fn.ntmps = true) (hargs : argOk args = true) {H : HP} (hn0 : E.n0 = H.length) (hrnd : E.rnd = true) (m : Fin5) (ts : List Nat) {K : AV → HP → Prop}
  (h : awd P E (finF m E fn K) ts c (argTM 0 args) H) (hpan : E.pan = none := by rfl) : CallSt P f args H K := by
 unfold CallSt
 refine ⟨hcb, fun w S κ vs hh hvs => ?_⟩
 have hl : args.length ≤ fn.ntmps := Nat.le_of_ble_eq_true hlen
 have hvl := hvs.len
 have hi : Inv E.n0 (fn.ntmps, []) κ w S (fun B => ∃ i, ownAt κ H i = some B) (argTM 0 args) H { tmps := vs.toArray ++ Array.replicate (fn.ntmps - vs.toArray.size) undef, defers := [] } w S κ :=
  ⟨by rw [hn0]; exact Mem.refl hh, fun t => by
   rw [lk_argTM, getD_args (by omega)]
   simp only [Nat.zero_le, if_true, Nat.sub_zero]
   exact hvs.getD t, rfl, by simp; omega⟩
 exact (callsIn_calls (r := none) (n := 0)).1 (callsIn_of_wp_marks hf hb trivial (awd_spec he hmix hrnd hn0 m hpan ts c hok h (argTM_nw hargs) hi))
end
end Go.Tr
/- The engine, part 36: a frozen row, in a temporary, becomes a pure value. -/
namespace Go.Tr
end Go.Tr
/- The engine, part 37: two pieces hidden at once. -/
namespace Go.Tr
end Go.Tr
