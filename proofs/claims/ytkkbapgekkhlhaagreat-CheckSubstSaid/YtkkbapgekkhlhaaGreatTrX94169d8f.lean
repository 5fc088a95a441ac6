/- The engine: abstract values and states, and that the evaluator says what the model does. -/
import Derived.Orders
import Derived.Eval
import Derived.Below
import Derived.RangeFuncRecord
import Derived.RangeFuncLeaves
import Derived.OrdersIn
import Derived.TacticsIn
import Derived.Laws.Strings
import Derived.MapKept
import Derived.Laws.MakeOwn
import Derived.Laws.BytesString
import Derived.Great.FillDense
import Derived.Great.BuildSlice
import Derived.Laws.AppendOwn
import Derived.Lib.AppendStr
import Derived.Lib.ConvBytes
set_option linter.unusedVariables false
set_option linter.unusedSimpArgs false
set_option linter.unnecessarySimpa false
set_option linter.constructorNameAsVariable false
set_option autoImplicit false
/-
The engine, part 1: abstract values and states; the evaluator 'aw', a Prop computed from the loaded code; no proofs.
-/
namespace Go.Tr
inductive CV where
 | int (k : IntKind) (n : Int)
 | bool (b : Bool)
 | str (s : ByteArray)
 | val (v : Value)
 | sl (sz byt : Nat) (es : List (List CV))
 | ifc (t : TypeId) (l : List CV)
 deriving Inhabited
inductive AV where
 | top
 | c (x : CV)
 | nil
 | agg (l : List AV)
 | tup (l : List AV)
 | ptr (i off : Nat)
 | rd (l : List CV)
 | own (i : Nat)
 | elt (i sz k j : Nat)
 | fn (f : FuncId) (caps : List AV)
 | bd (f : FuncId) (l : List AV)
 | when (ch : List (Nat × Bool)) (g : Bool) (v : AV)
 | kn (b : Bool)
 | yv (i : Nat)
 | mpv (i : Nat)
 deriving Inhabited
inductive KV where
 | i (n : Int)
 | s (b : ByteArray)
 deriving DecidableEq
inductive MV where
 | b (f : KV → Option Bool)
 | n (f : KV → Option Int)
inductive LSt where
 | ready | busy | brk (n : Nat) | ret
 deriving Inhabited
inductive Ent where
 | box (l : List AV)
 | row (el sz byt : Nat) (es : List (List CV))
 | frz (x : CV)
 | dead
 | lrec (st : LSt) (tm : List (Nat × AV)) (ps : Array Nat) (asg body : Code)
 | mp (st : Bool) (m : MV)
 deriving Inhabited
inductive TK where
 | int (k : IntKind) | bool | str | slice (e : TypeId) | struct (fs : List (Nat × TypeId)) | array (n : Nat) (e : TypeId)
 | map (k e : TypeId)
 | ifc
 | other | unknown
 deriving Inhabited
structure TyD where
 size : Nat
 bytes : Nat
 k : TK
 zero : List Value
 cellT : List TypeId
abbrev TM := List (Nat × AV)
abbrev HP := List Ent
abbrev Ch := List (Nat × Bool)
structure Env where
 ty : TypeId → TyD
 keep : FuncId → Bool
 n0 : Nat
 rnd : Bool := false
 wr : Bool := false
 pan : Option (List Nat × (CV → List AV → HP → Prop)) := none
 mth : TypeId → String → Option FuncId := fun _ _ => none
inductive AEx where
 | normal | exit (n : Nat) | ret

def lk : TM → Nat → AV
 | [], _ => .top
 | (x, v) :: r, t => match Nat.beq x t with | true => v | false => lk r t
def lkK : TM → Nat → (AV → Prop) → Prop
 | [], _, K => K .top
 | (x, v) :: r, t, K => match Nat.beq x t with | true => K v | false => lkK r t K
def beqB : Bool → Bool → Bool
 | true, true => true | false, false => true | _, _ => false
def chEq : Ch → Ch → Bool
 | [], [] => true
 | (a, x) :: r, (b, y) :: s => match Nat.beq a b with | true => (match beqB x y with | true => chEq r s | false => false) | false => false
 | _, _ => false
def sfx (a : Ch) : Ch → Bool
 | [] => chEq a []
 | x :: r => match chEq a (x :: r) with | true => true | false => sfx a r
def ofConst : Value → AV
 | .int k n => .c (.int k n)
 | .bool b => .c (.bool b)
 | .string s => .c (.str s)
 | .slice none 0 0 => .nil
 | v => .c (.val v)
def constV (v : Value) (K : AV → Prop) : Prop :=
 match v with
 | .int k n => K (.c (.int k n))
 | .bool b => K (.c (.bool b))
 | .string s => K (.c (.str s))
 | .slice none 0 0 => K .nil
 | _ => False
def constK : List Value → (List AV → Prop) → Prop
 | [], K => K []
 | v :: r, K => constV v fun x => constK r fun l => K (x :: l)
def evK (tm : TM) (ch : Ch) (x : Operand) (K : AV → Prop) : Prop :=
 match x with
 | .tmp t => lkK tm t fun v => match v with
  | .when ch' _ x => (match sfx ch' ch with | true => K x | false => False)
  | .kn b => K (.c (.bool b))
  | v => K v
 | .const v => (match v with
  | .int k n => K (.c (.int k n))
  | .bool b => K (.c (.bool b))
  | .string s => K (.c (.str s))
  | .slice none 0 0 => K .nil
  | .agg cs => constK cs.toList fun l => K (.agg l)
  | .tuple _ => False
  | v => K (.c (.val v)))
 | .global _ => False
 | .func f => K (.fn f [])
def evsK (tm : TM) (ch : Ch) : List Operand → (List AV → Prop) → Prop
 | [], K => K []
 | x :: r, K => evK tm ch x fun v => evsK tm ch r fun vs => K (v :: vs)
def getK : HP → Nat → (Ent → Prop) → Prop
 | [], _, _ => False
 | e :: _, 0, K => K e
 | _ :: r, n + 1, K => getK r n K
def setK : HP → Nat → Ent → (HP → Prop) → Prop
 | [], _, _, _ => False
 | _ :: r, 0, e, K => K (e :: r)
 | x :: r, n + 1, e, K => setK r n e fun r' => K (x :: r')
def snocK : HP → Ent → (HP → Nat → Prop) → Prop
 | [], e, K => K [e] 0
 | x :: r, e, K => snocK r e fun r' n => K (x :: r') (Nat.succ n)
def takeK {α : Type} : List α → Nat → Nat → (List α → Prop) → Prop
 | l, 0, 0, K => K (l.take 0)
 | x :: r, 0, n + 1, K => takeK r 0 n fun l => K (x :: l)
 | _ :: r, d + 1, n, K => takeK r d n K
 | [], 0, _ + 1, _ => False
 | [], _ + 1, _, _ => False
def putK {α : Type} : List α → Nat → List α → (List α → Prop) → Prop
 | l, 0, [], K => K l
 | _ :: r, 0, v :: vs, K => putK r 0 vs fun r' => K (v :: r')
 | x :: r, d + 1, vs, K => putK r d vs fun r' => K (x :: r')
 | [], 0, _ :: _, _ => False
 | [], _ + 1, _, _ => False
def tyK (E : Env) (T : TypeId) (K : TyD → Prop) : Prop :=
 match (E.ty T).k with
 | .unknown => False
 | _ => K (E.ty T)
def wrapAgg (k : TK) (l : List AV) (K : AV → Prop) : Prop :=
 match k with
 | .struct _ => K (.agg l)
 | .array _ _ => K (.agg l)
 | _ => match l with | [x] => K x | _ => False
def oneB : List AV → Bool
 | [] => true
 | .c _ :: r => oneB r
 | .nil :: r => oneB r
 | .ptr _ _ :: r => oneB r
 | .rd _ :: r => oneB r
 | .own _ :: r => oneB r
 | .elt _ _ _ _ :: r => oneB r
 | .fn _ _ :: r => oneB r
 | .bd _ _ :: r => oneB r
 | .yv _ :: r => oneB r
 | .mpv _ :: r => oneB r
 | _ => false
def cellsK (v : AV) (K : List AV → Prop) : Prop :=
 match v with
 | .agg l => (match oneB l with | true => K l | false => False)
 | .tup _ => False
 | .when _ _ _ => False
 | .kn _ => False
 | .top => False
 | .c x => K [.c x]
 | .nil => K [.nil]
 | .ptr i o => K [.ptr i o]
 | .rd l => K [.rd l]
 | .own i => K [.own i]
 | .elt i s k j => K [.elt i s k j]
 | .fn f cs => K [.fn f cs]
 | .bd f cs => K [.bd f cs]
 | .yv i => K [.yv i]
 | .mpv i => K [.mpv i]
def etaR (l : List CV) : Nat → Nat → List AV
 | _, 0 => []
 | d, n + 1 => .c (l.getD d (.bool false)) :: etaR l (d + 1) n
def loadK (E : Env) (H : HP) (T : TypeId) (p : AV) (K : AV → Prop) : Prop :=
 tyK E T fun d => match p with
 | .ptr i off => getK H i fun e => match e with
  | .box l => takeK l off d.size fun r => wrapAgg d.k r K
  | _ => False
 | .rd l => d.size ≤ l.length ∧ wrapAgg d.k (etaR l 0 d.size) K
 | .elt i sz k j => getK H i fun e => match e with
  | .row _ s _ es => (match Nat.beq s sz with
   | true => (match Nat.ble 64 s, d.k with
    | true, .bool => ∃ b : Bool, (∃ r, es[k]? = some r ∧ r[j]? = some (.bool b)) ∧ K (.c (.bool b))
    | _, _ => ∃ r, es[k]? = some r ∧ j + d.size ≤ r.length ∧ wrapAgg d.k (etaR r j d.size) K)
   | false => False)
  | .frz (.sl s _ es) => (match Nat.beq s sz with | true => ∃ r, es[k]? = some r ∧ j + d.size ≤ r.length ∧ wrapAgg d.k (etaR r j d.size) K | false => False)
  | _ => False
 | _ => False
def gd (ch : Ch) (g : Bool) (p : Prop) : Prop := match ch with | [] => p | _ => g = true → p
def inR (n : Int) : Prop := -9223372036854775808 ≤ n ∧ n ≤ 9223372036854775807
def binK (E : Env) (op : BinOp) (T : TypeId) (ch : Ch) (g : Bool) (a b : AV) (K : AV → Prop) : Prop :=
 match a, b with
 | .c (.int .i64 x), .c (.int .i64 y) => (match op with
  | .add => (match E.wr with | false => gd ch g (inR (x + y)) ∧ K (.c (.int .i64 (x + y))) | true => K (.c (.int .i64 (IntKind.i64.wrap (x + y)))))
  | .sub => (match E.wr with | false => gd ch g (inR (x - y)) ∧ K (.c (.int .i64 (x - y))) | true => K (.c (.int .i64 (IntKind.i64.wrap (x - y)))))
  | .mul => (match E.wr with | false => gd ch g (inR (x * y)) ∧ K (.c (.int .i64 (x * y))) | true => K (.c (.int .i64 (IntKind.i64.wrap (x * y)))))
  | .rem => gd ch g (y ≠ 0) ∧ K (.c (.int .i64 (x.tmod y)))
  | .quo => gd ch g (0 < y ∧ inR (x.tdiv y)) ∧ K (.c (.int .i64 (x.tdiv y)))
  | .shl => gd ch g (0 ≤ y) ∧ K (.c (.int .i64 (IntKind.i64.wrap (x * 2 ^ (min y.toNat 64)))))
  | .shr => gd ch g (0 ≤ y) ∧ K (.c (.int .i64 (x.fdiv (2 ^ (min y.toNat 64)))))
  | .eql => K (.c (.bool (decide (x = y))))
  | .neq => K (.c (.bool (!decide (x = y))))
  | .lss => K (.c (.bool (decide (x < y))))
  | .leq => K (.c (.bool (decide (x ≤ y))))
  | .gtr => K (.c (.bool (decide (y < x))))
  | .geq => K (.c (.bool (decide (y ≤ x))))
  | _ => False)
 | .c (.int .i64 x), .c (.int .u64 y) => (match op with
  | .shl => gd ch g (0 ≤ y) ∧ K (.c (.int .i64 (IntKind.i64.wrap (x * 2 ^ (min y.toNat 64)))))
  | .shr => gd ch g (0 ≤ y) ∧ K (.c (.int .i64 (x.fdiv (2 ^ (min y.toNat 64)))))
  | _ => False)
 | .c (.int .u64 x), .c (.int .u64 y) => (match op with
  | .rem => gd ch g (y ≠ 0) ∧ K (.c (.int .u64 (x.tmod y)))
  | _ => False)
 | .c (.bool x), .c (.bool y) => tyK E T fun d => (match d.k with
  | .bool => (match op with
   | .eql => K (.c (.bool (x == y)))
   | .neq => K (.c (.bool (!(x == y))))
   | _ => False)
  | _ => False)
 | .c (.int .u8 x), .c (.int .u8 y) => (match op with
  | .eql => K (.c (.bool (decide (x = y))))
  | .neq => K (.c (.bool (!decide (x = y))))
  | .lss => K (.c (.bool (decide (x < y))))
  | .leq => K (.c (.bool (decide (x ≤ y))))
  | .gtr => K (.c (.bool (decide (y < x))))
  | .geq => K (.c (.bool (decide (y ≤ x))))
  | _ => False)
 | .c (.str x), .c (.str y) => (match op with
  | .eql => K (.c (.bool (decide (x = y))))
  | .neq => K (.c (.bool (!decide (x = y))))
  | .lss => K (.c (.bool (Op.bytesLess x.toList y.toList)))
  | .add => gd ch g (x.size + y.size ≤ 9223372036854775807) ∧ K (.c (.str (x ++ y)))
  | _ => False)
 | .c (.sl _ _ es), .nil => tyK E T fun d => (match d.k with
  | .slice _ => (match op with
   | .eql => ∀ e : Bool, (e = true → es = []) → K (.c (.bool e))
   | .neq => ∀ e : Bool, (e = false → es = []) → K (.c (.bool e))
   | _ => False)
  | _ => False)
 | .nil, .nil => tyK E T fun d => (match d.k with
  | .slice _ => (match op with
   | .eql => K (.c (.bool true))
   | .neq => K (.c (.bool false))
   | _ => False)
  | _ => False)
 | _, _ => False
def fieldK (E : Env) (T : TypeId) (p : AV) (f : Nat) (K : AV → Prop) : Prop :=
 tyK E T fun d => match d.k with
 | .struct fs => (match fs[f]? with
  | some (o, F) => tyK E F fun dF => (match dF.size with
   | 0 => False
   | _ => (match p with
    | .ptr i off => K (.ptr i (Nat.add off o))
    | .rd l => K (.rd (l.drop o))
    | .elt i sz k j => K (.elt i sz k (Nat.add j o))
    | _ => False))
  | none => False)
 | _ => False
def lenK (E : Env) (H : HP) (T : TypeId) (v : AV) (ch : Ch) (g : Bool) (K : AV → Prop) : Prop :=
 tyK E T fun d => match d.k with
 | .slice _ => (match v with
  | .nil => K (.c (.int .i64 0))
  | .c (.sl _ b es) => (gd ch g (es.length * b ≤ 140737488355328) → K (.c (.int .i64 es.length)))
  | .own i => getK H i fun e => match e with
   | .row _ _ b es => (gd ch g (es.length * b ≤ 140737488355328) → K (.c (.int .i64 es.length)))
   | .frz (.sl _ b es) => (gd ch g (es.length * b ≤ 140737488355328) → K (.c (.int .i64 es.length)))
   | _ => False
  | _ => False)
 | .str => (match v with | .c (.str s) => K (.c (.int .i64 s.size)) | _ => False)
 | _ => False
def idxK (E : Env) (H : HP) (T : TypeId) (v ix : AV) (ch : Ch) (g : Bool) (K : AV → Prop) : Prop :=
 tyK E T fun d => match d.k with
 | .slice e => tyK E e fun de => (match ix with
  | .c (.int _ n) => (match v with
   | .c (.sl sz _ es) => (match Nat.beq sz de.size with | true => ∃ row, gd ch g (0 ≤ n ∧ es[n.toNat]? = some row) ∧ K (.rd row) | false => False)
   | .own i => getK H i fun en => match en with
    | .row _ sz _ es => (match Nat.beq sz de.size with | true => gd ch g (0 ≤ n ∧ n.toNat < es.length) ∧ K (.elt i sz n.toNat 0) | false => False)
    | .frz (.sl sz _ es) => (match Nat.beq sz de.size with | true => ∃ row, gd ch g (0 ≤ n ∧ es[n.toNat]? = some row) ∧ K (.rd row) | false => False)
    | _ => False
   | _ => False)
  | _ => False)
 | .array m e => tyK E e fun de => (match ix with
  | .c (.int _ n) => (match v with
   | .ptr i off => gd ch g (0 ≤ n ∧ n.toNat < m) ∧ K (.ptr i (off + n.toNat * de.size))
   | .elt i sz k j => gd ch g (0 ≤ n ∧ n.toNat < m) ∧ K (.elt i sz k (j + n.toNat * de.size))
   | _ => False)
  | _ => False)
 | _ => False
def maxK (a b : AV) (K : AV → Prop) : Prop :=
 match a, b with
 | .c (.int .i64 x), .c (.int .i64 y) => K (.c (.int .i64 (if x < y then y else x)))
 | _, _ => False
def minK (a b : AV) (K : AV → Prop) : Prop :=
 match a, b with
 | .c (.int .i64 x), .c (.int .i64 y) => K (.c (.int .i64 (if y < x then y else x)))
 | _, _ => False
def bR (l : List UInt8) : List (List CV) := l.map fun b => [.int .u8 (b.toNat : Int)]
def convK (E : Env) (H : HP) (src dst : TypeId) (v : AV) (K : AV → Prop) : Prop :=
 tyK E src fun ds => tyK E dst fun d => match d.k, v with
 | .int k, .c (.int _ n) => K (.c (.int k (k.wrap n)))
 | .str, .own i => (match ds.k with
  | .slice e => tyK E e fun de => (match de.k with
   | .int .u8 => getK H i fun en => (match en with
    | .row _ _ _ es => ∃ l : List UInt8, es = bR l ∧ K (.c (.str ⟨l.toArray⟩))
    | _ => False)
   | _ => False)
  | _ => False)
 | _, _ => False
def pickR (e p q : Bool) (a b : Operand) (K : AV → Prop) : Prop :=
 match a, b with
 | .const (.bool true), _ => K (.c (.bool (e || q)))
 | _, .const (.bool false) => K (.c (.bool (e && p)))
 | _, _ => K (.c (.bool (bif e then p else q)))
def pickB (tm : TM) (ch : Ch) (t : Nat) (e : Bool) (a b : Operand) (K : AV → Prop) : Prop :=
 evK tm ((t, true) :: ch) a fun x => evK tm ((t, false) :: ch) b fun y => match x, y with
  | .c (.bool p), .c (.bool q) => pickR e p q a b K
  | _, _ => False
def pickK (tm : TM) (ch : Ch) (c a b : Operand) (K : AV → Prop) : Prop :=
 match c with
 | .tmp t => lkK tm t fun v => match v with
  | .kn true => evK tm ch a K
  | .kn false => evK tm ch b K
  | .c (.bool e) => pickB tm ch t e a b K
  | .when ch' _ (.c (.bool e)) => (match sfx ch' ch with
   | true => pickB tm ch t e a b K
   | false => False)
  | _ => False
 | _ => False
def dstK (tm : TM) (ch : Ch) (g : Bool) (dst : Option Nat) (v : AV) (K : TM → Prop) : Prop :=
 match v with
 | .when _ _ _ => False
 | v => match dst with
  | none => K tm
  | some d => match ch with
   | [] => K ((d, v) :: tm)
   | x :: r => K ((d, .when (x :: r) g v) :: tm)
def purCell (E : Env) (T : TypeId) (v : AV) (H : HP) (K : AV → HP → Prop) : Prop :=
 match v with
 | .own i => getK H i fun e => (match e with
  | .row _ sz b es => setK H i (.frz (.sl sz b es)) fun H' => K (.c (.sl sz b es)) H'
  | .frz x => K (.c x) H
  | _ => False)
 | .nil => (match (E.ty T).k with
  | .slice e => tyK E e fun d => K (.c (.sl d.size d.bytes [])) H
  | _ => K .nil H)
 | v => K v H
def purCells (E : Env) : List TypeId → List AV → HP → (List AV → HP → Prop) → Prop
 | T :: Ts, v :: vs, H, K => purCell E T v H fun v' H' => purCells E Ts vs H' fun vs' H'' => K (v' :: vs') H''
 | _, [], H, K => K [] H
 | [], v :: vs, H, K => K (v :: vs) H
def purK (E : Env) (T : TypeId) (v : AV) (H : HP) (K : AV → HP → Prop) : Prop :=
 match v with
 | .agg l => purCells E (E.ty T).cellT l H fun l' H' => K (.agg l') H'
 | v => purCell E T v H K
def pursK (E : Env) : List TypeId → List AV → HP → (List AV → HP → Prop) → Prop
 | T :: Ts, v :: vs, H, K => purK E T v H fun v' H' => pursK E Ts vs H' fun vs' H'' => K (v' :: vs') H''
 | _, [], H, K => K [] H
 | [], v :: vs, H, K => K (v :: vs) H
def cvsK : List AV → (List CV → Prop) → Prop
 | [], K => K []
 | .c x :: r, K => cvsK r fun l => K (x :: l)
 | _ :: _, _ => False
def storeK0 (E : Env) (H : HP) (T : TypeId) (p v : AV) (K : HP → Prop) : Prop :=
 tyK E T fun d => match p with
 | .ptr i off => getK H i fun e => match e with
  | .box l => cellsK v fun cs => (match Nat.beq cs.length d.size with | true => putK l off cs fun l' => setK H i (.box l') K | false => False)
  | _ => False
 | .elt i sz k j => cellsK v fun cs => cvsK cs fun xs => (match Nat.beq xs.length d.size with
  | true => getK H i fun e => (match e with
   | .row el s b es => (match Nat.beq s sz with
    | true => (match Nat.ble 64 s, xs with
     | true, [x] => ∃ r r2, es[k]? = some r ∧ (j + d.size ≤ r.length ∧ r.set j x = r2) ∧ setK H i (.row el s b (es.set k r2)) K
     | _, xs => ∃ r, es[k]? = some r ∧ j + d.size ≤ r.length ∧ setK H i (.row el s b (es.set k (r.take j ++ xs ++ r.drop (j + xs.length)))) K)
    | false => False)
   | _ => False)
  | false => False)
 | _ => False
def storeK (E : Env) (H : HP) (T : TypeId) (p v : AV) (K : HP → Prop) : Prop :=
 match p with
 | .elt i sz k j => purK E T v H fun v' H1 => storeK0 E H1 T (.elt i sz k j) v' K
 | p => storeK0 E H T p v K
def partsK (E : Env) (e : TypeId) (d : TyD) : Nat → List (Nat × AV) → HP → (List (List CV) → HP → Prop) → Prop
 | _, [], H, K => K [] H
 | i, (j, v) :: r, H, K => (match Nat.beq i j with
  | true => purK E e v H fun v' H' => cellsK v' fun cs => cvsK cs fun xs => (match Nat.beq xs.length d.size with
   | true => partsK E e d (i + 1) r H' fun rs H'' => K (xs :: rs) H''
   | false => False)
  | false => False)
def evPartsK (tm : TM) (ch : Ch) : List (Nat × Operand) → (List (Nat × AV) → Prop) → Prop
 | [], K => K []
 | (i, x) :: r, K => evK tm ch x fun v => evPartsK tm ch r fun vs => K ((i, v) :: vs)
def buildK (E : Env) (fs : List (Nat × TypeId)) : List (Nat × AV) → List AV → (List AV → Prop) → Prop
 | [], l, K => K l
 | (i, v) :: r, l, K => (match fs[i]? with
  | some (o, F) => tyK E F fun d => cellsK v fun cs => (match Nat.beq cs.length d.size with
   | true => putK l o cs fun l' => buildK E fs r l' K
   | false => False)
  | none => False)
def buildAK (sz : Nat) : List (Nat × AV) → List AV → (List AV → Prop) → Prop
 | [], l, K => K l
 | (i, v) :: r, l, K => cellsK v fun cs => (match Nat.beq cs.length sz with
  | true => putK l (i * sz) cs fun l' => buildAK sz r l' K
  | false => False)
def srcK (H : HP) (sz : Nat) (x : AV) (K : List (List CV) → Prop) : Prop :=
 match x with
 | .nil => K []
 | .c (.sl s _ es) => (match Nat.beq s sz with | true => K es | false => False)
 | .own j => getK H j fun e => (match e with
  | .row _ s _ es => (match Nat.beq s sz with | true => K es | false => False)
  | .frz (.sl s _ es) => (match Nat.beq s sz with | true => K es | false => False)
  | _ => False)
 | _ => False
def appSK (E : Env) (H : HP) (T T2 : TypeId) (s x : AV) (K : AV → HP → Prop) : Prop :=
 tyK E T fun d => tyK E T2 fun d2 => match d.k, d2.k, s, x with
 | .slice e, .str, .own i, .c (.str str) => tyK E e fun de => (match Nat.beq de.size 1, Nat.beq de.bytes 1 with
  | true, true => getK H i fun en => (match en with
   | .row el sz b es => (match Nat.beq el e, Nat.beq sz 1, Nat.beq b 1 with
    | true, true, true => 0 < es.length ∧ es.length + str.size ≤ 140737488355328 ∧ setK H i .dead fun H1 => snocK H1 (.row el sz b (es ++ bR str.data.toList)) fun H' n => K (.own n) H'
    | _, _, _ => False)
   | _ => False)
  | _, _ => False)
 | _, _, _, _ => False
def byteK (E : Env) (H : HP) (src dst : TypeId) (v : AV) (K : AV → HP → Prop) : Prop :=
 tyK E src fun ds => tyK E dst fun d => match d.k with
 | .slice e => tyK E e fun de => (match de.k with
  | .int .u8 => (match v with
   | .c (.str s) => (match ds.k with
    | .str => s.size ≤ 140737488355328 ∧ snocK H (.row e 1 1 (bR s.data.toList)) fun H' n => K (.own n) H'
    | _ => False)
   | .own i => (match Nat.beq src dst with
    | true => getK H i fun en => (match en with
     | .row _ _ _ es => 0 < es.length ∧ K (.own i) H
     | _ => False)
    | false => False)
   | _ => False)
  | _ => False)
 | _ => False
def appK (E : Env) (H : HP) (T T2 : TypeId) (s x : AV) (K : AV → HP → Prop) : Prop :=
 match Nat.beq T T2 with
 | false => appSK E H T T2 s x K
 | true => tyK E T fun d => match d.k with
  | .slice e => tyK E e fun de => (match de.size with
   | 0 => False
   | _ => srcK H de.size x fun xs => (match s with
    | .nil => xs.length * de.bytes ≤ 140737488355328 ∧ xs.length ≤ 9223372036854775807 ∧ snocK H (.row e de.size de.bytes xs) fun H' n => K (.own n) H'
    | .own i => getK H i fun en => (match en with
     | .row el sz b es => (match Nat.beq el e with
      | true => (match Nat.beq sz de.size with
       | true => (match Nat.beq b de.bytes with
        | true => (es.length + xs.length) * b ≤ 140737488355328 ∧ es.length + xs.length ≤ 9223372036854775807 ∧ setK H i .dead fun H1 => snocK H1 (.row el sz b (es ++ xs)) fun H' n => K (.own n) H'
        | false => False)
       | false => False)
      | false => False)
     | _ => False)
    | _ => False))
  | _ => False
def mput {α : Type} (f : KV → Option α) (q : KV) (x : α) : KV → Option α := fun r => if r = q then some x else f r
def keyK (st : Bool) (v : AV) (K : KV → Prop) : Prop :=
 match st, v with
 | false, .c (.int .i64 n) => K (.i n)
 | true, .c (.str s) => K (.s s)
 | _, _ => False
def kindK (E : Env) (kt : TypeId) (K : Bool → Prop) : Prop :=
 tyK E kt fun d => match d.k with
 | .int .i64 => K false
 | .str => K true
 | _ => False
def mkmapK (E : Env) (T : TypeId) (K : Ent → Prop) : Prop :=
 tyK E T fun d => match d.k with
 | .map kt et => kindK E kt fun st => tyK E et fun de => (match de.k with
  | .bool => K (.mp st (.b fun _ => none))
  | .int .i64 => K (.mp st (.n fun _ => none))
  | _ => False)
 | _ => False
def mputK (m : MV) (q : KV) (v : AV) (K : MV → Prop) : Prop :=
 match m, v with
 | .b f, .c (.bool x) => K (.b (mput f q x))
 | .n f, .c (.int .i64 x) => K (.n (mput f q x))
 | _, _ => False
def mupdK (E : Env) (H : HP) (T : TypeId) (m q v : AV) (K : HP → Prop) : Prop :=
 tyK E T fun d => match d.k with
 | .map kt _ => kindK E kt fun st' => (match m with
  | .mpv i => getK H i fun en => (match en with
   | .mp st mv => (match beqB st' st with
    | true => keyK st q fun kv => mputK mv kv v fun mv' => setK H i (.mp st mv') K
    | false => False)
   | _ => False)
  | _ => False)
 | _ => False
def mdel {α : Type} (f : KV → Option α) (q : KV) : KV → Option α := fun r => if r = q then none else f r
def mdelV (m : MV) (q : KV) : MV := match m with
 | .b f => .b (mdel f q)
 | .n f => .n (mdel f q)
def mdelK (E : Env) (H : HP) (T : TypeId) (m q : AV) (K : HP → Prop) : Prop :=
 tyK E T fun d => match d.k with
 | .map kt _ => kindK E kt fun st' => (match m with
  | .mpv i => getK H i fun en => (match en with
   | .mp st mv => (match beqB st' st with
    | true => keyK st q fun kv => setK H i (.mp st (mdelV mv kv)) K
    | false => False)
   | _ => False)
  | _ => False)
 | _ => False
def mgetK (de : TyD) (m : MV) (q : KV) (ok : Bool) (K : AV → Prop) : Prop :=
 match m, de.k with
 | .b f, .bool => (match ok with | false => K (.c (.bool ((f q).getD false))) | true => K (.tup [.c (.bool ((f q).getD false)), .c (.bool (f q).isSome)]))
 | .n f, .int .i64 => (match ok with | false => K (.c (.int .i64 ((f q).getD 0))) | true => K (.tup [.c (.int .i64 ((f q).getD 0)), .c (.bool (f q).isSome)]))
 | _, _ => False
def lookK (E : Env) (H : HP) (T : TypeId) (m q : AV) (ok : Bool) (K : AV → Prop) : Prop :=
 tyK E T fun d => match d.k with
 | .map kt et => kindK E kt fun st' => tyK E et fun de => (match m with
  | .mpv i => getK H i fun en => (match en with
   | .mp st mv => (match beqB st' st with
    | true => keyK st q fun kv => mgetK de mv kv ok K
    | false => False)
   | _ => False)
  | _ => False)
 | _ => False
def bndK (tm : TM) (ch : Ch) (d : Int) (x : Option Operand) (K : Int → Prop) : Prop :=
 match x with
 | none => K d
 | some x => evK tm ch x fun v => match v with | .c (.int .i64 n) => K n | _ => False
def sliceK (E : Env) (H : HP) (T : TypeId) (v : AV) (tm : TM) (ch : Ch) (g : Bool) (lo hi : Option Operand) (K : AV → Prop) : Prop :=
 tyK E T fun d => match d.k, v with
 | .slice e, .c (.sl sz b es) => tyK E e fun de => (match Nat.beq sz de.size with
  | true => bndK tm ch 0 lo fun l => bndK tm ch es.length hi fun h => gd ch g (0 ≤ l ∧ l ≤ h ∧ h ≤ es.length) ∧ K (.c (.sl sz b ((es.take h.toNat).drop l.toNat)))
  | false => False)
 | .slice e, .own i => tyK E e fun de => getK H i fun en => (match en with
  | .frz (.sl sz b es) => (match Nat.beq sz de.size with
   | true => bndK tm ch 0 lo fun l => bndK tm ch es.length hi fun h => gd ch g (0 ≤ l ∧ l ≤ h ∧ h ≤ es.length) ∧ K (.c (.sl sz b ((es.take h.toNat).drop l.toNat)))
   | false => False)
  | _ => False)
 | .str, .c (.str s) => bndK tm ch 0 lo fun l => bndK tm ch s.size hi fun h => gd ch g (0 ≤ l ∧ l ≤ h ∧ h ≤ s.size) ∧ K (.c (.str (s.extract l.toNat h.toNat)))
 | _, _ => False
def indK (E : Env) (T : TypeId) (v ix : AV) (ch : Ch) (g : Bool) (K : AV → Prop) : Prop :=
 tyK E T fun d => match d.k, v, ix with
 | .str, .c (.str s), .c (.int .i64 n) => gd ch g (0 ≤ n ∧ n.toNat < s.size) ∧ K (.c (.int .u8 (s.data.toList.getD n.toNat 0).toNat))
 | .array m e, .agg l, .c (.int .i64 n) => tyK E e fun de => (match Nat.beq de.size 1, de.k with
  | true, .bool => gd ch g (0 ≤ n ∧ n.toNat < m) ∧ ∃ b : Bool, (gd ch g (l[n.toNat]? = some (.c (.bool b)))) ∧ K (.c (.bool b))
  | _, _ => False)
 | _, _, _ => False
def bigB (d : TyD) : Bool := match d.k with | .array _ _ => Nat.ble 64 d.size | _ => false
def bigK (l : List AV) (n : Nat) (K : List CV → Prop) : Prop := ∃ r : List CV, l = r.map .c ∧ r.length = n ∧ K r
def mkslK (E : Env) (T : TypeId) (n c : AV) (H : HP) (K : Ent → HP → Prop) : Prop :=
 tyK E T fun d => match d.k, n, c with
 | .slice e, .c (.int .i64 n), .c (.int .i64 m) => tyK E e fun de => (match de.size with
  | 0 => False
  | _ => purCells E de.cellT (de.zero.map ofConst) H fun l H1 => cvsK l fun z => n = m ∧ 0 ≤ n ∧ n.toNat * de.size ≤ 16777216 ∧ n.toNat * de.bytes ≤ 140737488355328 ∧ K (.row e de.size de.bytes (List.replicate n.toNat z)) H1)
 | _, _, _ => False
def callable (P : Program) (f : FuncId) : Bool := match P.funcs[f]? with | some fn => fn.body.isSome && !(fn.name == "runtime.NumGoroutine") | none => false

end Go.Tr
/- The engine, part 2: what an abstract state says of a machine's. -/
namespace Go.Tr
def regOk (n : Nat) (ops : List Oper) : Bool :=
 let gs := ops.filterMap fun o => o.guard.map (·.1)
 ops.zipIdx.all fun (o, i) => (match o.guard with | some (j, _) => decide (j < i) | none => true) && (match o.dst with | some d => decide (d < n) | none => true) &&
  gs.all fun j => match (ops[j]?).bind (·.dst) with | some t => (o.dst != some t || i == j) | none => false
def codeOk (n : Nat) : Code → Bool
 | .region _ ops _ => regOk n ops.toList
 | .seq a b => codeOk n a && codeOk n b
 | .cond _ a b => codeOk n a && codeOk n b
 | .block _ c => codeOk n c
 | .loop c => codeOk n c
 | .rangeFunc _ ps a b => ps.toList.all (fun t => decide (t < n)) && codeOk n a && codeOk n b
 | .scope c => codeOk n c
 | _ => true
def cellAt (h : Array Obj) (B off : Nat) : Option Value :=
 match h[B]? with
 | some (.cells c _ _) => c[off]?
 | _ => none
mutual
def CVR (h : Array Obj) (S : Nat → Prop) : CV → Value → Prop
 | .int k n, v => v = .int k n
 | .bool b, v => v = .bool b
 | .str s, v => v = .string s
 | .val x, v => v = x ∧ x.oneCell' = true
 | .sl sz byt es, v => ∃ a len cap, v = .slice a len cap ∧ len = es.length ∧ len ≤ cap ∧ es.length * byt ≤ 140737488355328 ∧ (∀ e ∈ es, e.length = sz) ∧
   (a = none → es = [] ∧ cap = 0) ∧ ∀ ad, a = some ad → es = [] ∨ (ad.spot = none ∧ RowsR h S es ad.block ad.off)
 | .ifc t l, v => ∃ cs : Array Value, v = .iface t (.agg cs) ∧ CellsV h S l cs.toList
def RowsR (h : Array Obj) (S : Nat → Prop) : List (List CV) → Nat → Nat → Prop
 | [], _, _ => True
 | e :: es, B, off => CellsR h S e B off ∧ RowsR h S es B (off + e.length)
def CellsR (h : Array Obj) (S : Nat → Prop) : List CV → Nat → Nat → Prop
 | [], _, _ => True
 | x :: xs, B, off => (¬ S B ∧ ∃ v, cellAt h B off = some v ∧ CVR h S x v) ∧ CellsR h S xs B (off + 1)
def CellsV (h : Array Obj) (S : Nat → Prop) : List CV → List Value → Prop
 | [], vs => vs = []
 | x :: xs, vs => ∃ v r, vs = v :: r ∧ CVR h S x v ∧ CellsV h S xs r
end
inductive Bind where
 | none
 | blk (B : Nat)
 | slc (v : Value)
mutual
def AVR (h : Array Obj) (S : Nat → Prop) (κ : Nat → Bind) : AV → Value → Prop
 | .top, _ => True
 | .c x, v => CVR h S x v
 | .nil, v => v = .slice none 0 0
 | .agg l, v => ∃ cs, v = .agg cs ∧ AVRs h S κ l cs.toList
 | .tup l, v => ∃ cs, v = .tuple cs ∧ AVRs h S κ l cs.toList
 | .ptr i off, v => ∃ B, κ i = .blk B ∧ v = .pointer (some ⟨B, off, none⟩)
 | .rd l, v => ∃ B off, v = .pointer (some ⟨B, off, none⟩) ∧ CellsR h S l B off
 | .own i, v => κ i = .slc v ∧ v.oneCell' = true
 | .elt i sz k j, v => ∃ B off len cap, κ i = .slc (.slice (some ⟨B, off, none⟩) len cap) ∧ v = .pointer (some ⟨B, off + k * sz + j, none⟩)
 | .fn f caps, v => ∃ cs, v = .func (.func f) #[] cs ∧ AVRs h S κ caps cs.toList
 | .bd f l, v => ∃ cs : Array Value, v = .func (.func f) cs #[] ∧ AVRs h S κ l cs.toList
 | .kn b, v => v = .bool b
 | .yv i, v => ∃ l, κ i = .blk l ∧ v = .func (.yield l) #[] #[]
 | .mpv i, v => ∃ B, κ i = .blk B ∧ v = .map (some B)
 | .when _ g x, v => (g = true → AVR h S κ x v) ∧ (g = false → v = undef)
def AVRs (h : Array Obj) (S : Nat → Prop) (κ : Nat → Bind) : List AV → List Value → Prop
 | [], vs => vs = []
 | x :: xs, vs => ∃ v r, vs = v :: r ∧ AVR h S κ x v ∧ AVRs h S κ xs r
end
def rowAt (h : Array Obj) (g : Nat) (cur : Array Value) (el : Nat) : Prop := ∃ fz : Nat × Nat, h[g]? = some (.cells cur el fz) ∧ (fz = (0, 0) ∨ cur.size ≤ fz.1)
def rowH (h : Array Obj) (el sz : Nat) (v : Value) (n : Nat) (xs : List Value) : Prop :=
  xs.length = n * sz ∧
  ((v = .slice none 0 0 ∧ n = 0) ∨
   ∃ g cap cur, v = .slice (some ⟨g, 0, none⟩) n cap ∧ 0 ≤ g ∧ rowAt h g cur el ∧ n ≤ cap ∧ cap ≤ maxLen ∧ cur.size = cap * sz ∧ cur.toList.take (n * sz) = xs)
def LStR : LSt → Loop → Prop
 | .ready, r => r.state = .ready ∧ r.pending = none
 | .busy, r => r.state = .busy
 | .brk n, r => r.state = .done ∧ r.pending = some (.exit n)
 | .ret, r => r.state = .done ∧ r.pending = some .ret
def LrecR (h : Array Obj) (S : Nat → Prop) (κ : Nat → Bind) (tm : TM) (ps : Array Nat) (asg body : Code) (r : Loop) : Prop :=
 r.params = ps ∧ r.assign = asg ∧ r.body = body ∧ (∀ t, AVR h S κ (lk tm t) (r.tmps.getD t undef)) ∧ (∀ t ∈ ps.toList, t < r.tmps.size) ∧ codeOk r.tmps.size asg = true ∧ codeOk r.tmps.size body = true
def KVR : KV → Value → Prop
 | .i n, v => v = .int .i64 n
 | .s b, v => v = .string b
def stOf : KV → Bool
 | .i _ => false
 | .s _ => true
def mvAt : MV → KV → Option Value
 | .b f, q => (f q).map .bool
 | .n f, q => (f q).map (.int .i64)
def MapR (st : Bool) (m : MV) (es : Array MapEntry) (clock : Nat) : Prop :=
 MapKept.Stamped es clock ∧ (∀ e ∈ es.toList, ∃ q, KVR q e.key ∧ stOf q = st ∧ mvAt m q = some e.val) ∧ ∀ q v, mvAt m q = some v → ∃ e ∈ es.toList, KVR q e.key
def EntR (h : Array Obj) (S : Nat → Prop) (κ : Nat → Bind) : Ent → Bind → Prop
 | .box l, b => b = .none ∨ ∃ B c el, b = .blk B ∧ h[B]? = some (.cells c el (0, 0)) ∧ AVRs h S κ l c.toList
 | .row el sz byt es, b => b = .none ∨ ∃ v xs, b = .slc v ∧ rowH h el sz v es.length xs ∧ es.length * byt ≤ 140737488355328 ∧ (∀ e ∈ es, e.length = sz) ∧ CellsV h S es.flatten xs
 | .frz x, b => b = .none ∨ ∃ v, b = .slc v ∧ CVR h S x v
 | .dead, _ => True
 | .lrec st tm ps asg body, b => b = .none ∨ ∃ l r, b = .blk l ∧ h[l]? = some (.loop r) ∧ LStR st r ∧ LrecR h S κ tm ps asg body r
 | .mp st m, b => b = .none ∨ ∃ B es clock, b = .blk B ∧ h[B]? = some (.map es clock) ∧ MapR st m es clock
def owns : Ent → Bind → Option Nat
 | .box _, .blk B => some B
 | .lrec _ _ _ _ _, .blk B => some B
 | .mp _ _, .blk B => some B
 | .row _ _ _ _, .slc (.slice (some ad) _ _) => some ad.block
 | _, _ => none
def ownAt (κ : Nat → Bind) (H : HP) (i : Nat) : Option Nat := match H[i]? with | some e => owns e (κ i) | none => none
structure HR (h : Array Obj) (S : Nat → Prop) (κ : Nat → Bind) (H : HP) : Prop where
 ent : ∀ (i : Nat) (e : Ent), H[i]? = some e → EntR h S κ e (κ i)
 out : ∀ i, H.length ≤ i → κ i = .none
 own : ∀ i B, ownAt κ H i = some B → S B
 excl : ∀ i j B, ownAt κ H i = some B → ownAt κ H j = some B → i = j
 sz : ∀ B, S B → B < h.size
def TR (h : Array Obj) (S : Nat → Prop) (κ : Nat → Bind) (tm : TM) (a : Act) : Prop := ∀ t, AVR h S κ (lk tm t) (a.tmps.getD t undef)
structure FrameR (w : World) (S : Nat → Prop) (O : Nat → Prop) (w' : World) (S' : Nat → Prop) : Prop where
 os : w'.os = w.os
 tape : w'.tape = w.tape
 output : w'.output = w.output
 size : w.heap.size ≤ w'.heap.size
 keep : ∀ B, B < w.heap.size → ¬ O B → w'.heap[B]? = w.heap[B]?
 shut : ∀ B, B < w.heap.size → S' B → S B
 held : ∀ B, B < w.heap.size → S B → ¬ O B → S' B
mutual
theorem CVR.mono {h h' : Array Obj} {S S' : Nat → Prop} (hm : ∀ B off v, ¬ S B → cellAt h B off = some v → ¬ S' B ∧ cellAt h' B off = some v) :
  ∀ (x : CV) {v : Value}, CVR h S x v → CVR h' S' x v
 | .int k n, v, hx => by simpa [CVR] using hx
 | .bool b, v, hx => by simpa [CVR] using hx
 | .str s, v, hx => by simpa [CVR] using hx
 | .val x, v, hx => by simpa [CVR] using hx
 | .sl sz byt es, v, hx => by
  simp only [CVR] at hx ⊢
  obtain ⟨a, len, cap, h1, h2, h3, h4, h5, h6, h7⟩ := hx
  exact ⟨a, len, cap, h1, h2, h3, h4, h5, h6, fun ad ha => (h7 ad ha).imp id fun hh => ⟨hh.1, RowsR.mono hm es hh.2⟩⟩
 | .ifc t l, v, hx => by
  simp only [CVR] at hx ⊢
  obtain ⟨cs, h1, h2⟩ := hx
  exact ⟨cs, h1, CellsV.monoX hm l h2⟩
theorem RowsR.mono {h h' : Array Obj} {S S' : Nat → Prop} (hm : ∀ B off v, ¬ S B → cellAt h B off = some v → ¬ S' B ∧ cellAt h' B off = some v) :
  ∀ (es : List (List CV)) {B off : Nat}, RowsR h S es B off → RowsR h' S' es B off
 | [], _, _, _ => by simp only [RowsR]
 | e :: es, B, off, hx => by
  simp only [RowsR] at hx ⊢
  exact ⟨CellsR.mono hm e hx.1, RowsR.mono hm es hx.2⟩
theorem CellsR.mono {h h' : Array Obj} {S S' : Nat → Prop} (hm : ∀ B off v, ¬ S B → cellAt h B off = some v → ¬ S' B ∧ cellAt h' B off = some v) :
  ∀ (xs : List CV) {B off : Nat}, CellsR h S xs B off → CellsR h' S' xs B off
 | [], _, _, _ => by simp only [CellsR]
 | x :: xs, B, off, hx => by
  simp only [CellsR] at hx ⊢
  obtain ⟨⟨h1, v, h2, h3⟩, h4⟩ := hx
  obtain ⟨k1, k2⟩ := hm B off v h1 h2
  exact ⟨⟨k1, v, k2, CVR.mono hm x h3⟩, CellsR.mono hm xs h4⟩
theorem CellsV.monoX {h h' : Array Obj} {S S' : Nat → Prop} (hm : ∀ B off v, ¬ S B → cellAt h B off = some v → ¬ S' B ∧ cellAt h' B off = some v) :
  ∀ (xs : List CV) {vs : List Value}, CellsV h S xs vs → CellsV h' S' xs vs
 | [], vs, hx => by simpa [CellsV] using hx
 | x :: xs, vs, hx => by
  simp only [CellsV] at hx ⊢
  obtain ⟨v, r, h1, h2, h3⟩ := hx
  exact ⟨v, r, h1, CVR.mono hm x h2, CellsV.monoX hm xs h3⟩
end
mutual
theorem AVR.mono {h h' : Array Obj} {S S' : Nat → Prop} {κ κ' : Nat → Bind} (hm : ∀ B off v, ¬ S B → cellAt h B off = some v → ¬ S' B ∧ cellAt h' B off = some v)
  (hk : ∀ i, κ i ≠ .none → κ' i = κ i) : ∀ (x : AV) {v : Value}, AVR h S κ x v → AVR h' S' κ' x v
 | .top, v, _ => by simp only [AVR]
 | .c x, v, hx => by simp only [AVR] at hx ⊢; exact CVR.mono hm x hx
 | .nil, v, hx => by simpa [AVR] using hx
 | .agg l, v, hx => by
  simp only [AVR] at hx ⊢
  obtain ⟨cs, h1, h2⟩ := hx
  exact ⟨cs, h1, AVRs.mono hm hk l h2⟩
 | .tup l, v, hx => by
  simp only [AVR] at hx ⊢
  obtain ⟨cs, h1, h2⟩ := hx
  exact ⟨cs, h1, AVRs.mono hm hk l h2⟩
 | .ptr i off, v, hx => by
  simp only [AVR] at hx ⊢
  obtain ⟨B, h1, h2⟩ := hx
  exact ⟨B, by rw [hk i (by rw [h1]; simp)]; exact h1, h2⟩
 | .rd l, v, hx => by
  simp only [AVR] at hx ⊢
  obtain ⟨B, off, h1, h2⟩ := hx
  exact ⟨B, off, h1, CellsR.mono hm l h2⟩
 | .own i, v, hx => by
  simp only [AVR] at hx ⊢
  rw [hk i (by rw [hx.1]; simp)]; exact hx
 | .elt i sz k j, v, hx => by
  simp only [AVR] at hx ⊢
  obtain ⟨B, off, len, cap, h1, h2⟩ := hx
  exact ⟨B, off, len, cap, by rw [hk i (by rw [h1]; simp)]; exact h1, h2⟩
 | .fn f caps, v, hx => by
  simp only [AVR] at hx ⊢
  obtain ⟨cs, h1, h2⟩ := hx
  exact ⟨cs, h1, AVRs.mono hm hk caps h2⟩
 | .bd f caps, v, hx => by
  simp only [AVR] at hx ⊢
  obtain ⟨cs, h1, h2⟩ := hx
  exact ⟨cs, h1, AVRs.mono hm hk caps h2⟩
 | .kn b, v, hx => by simpa [AVR] using hx
 | .yv i, v, hx => by
  simp only [AVR] at hx ⊢
  obtain ⟨l, h1, h2⟩ := hx
  exact ⟨l, by rw [hk i (by rw [h1]; simp)]; exact h1, h2⟩
 | .mpv i, v, hx => by
  simp only [AVR] at hx ⊢
  obtain ⟨l, h1, h2⟩ := hx
  exact ⟨l, by rw [hk i (by rw [h1]; simp)]; exact h1, h2⟩
 | .when ch g x, v, hx => by
  simp only [AVR] at hx ⊢
  exact ⟨fun hg => AVR.mono hm hk x (hx.1 hg), hx.2⟩
theorem AVRs.mono {h h' : Array Obj} {S S' : Nat → Prop} {κ κ' : Nat → Bind} (hm : ∀ B off v, ¬ S B → cellAt h B off = some v → ¬ S' B ∧ cellAt h' B off = some v)
  (hk : ∀ i, κ i ≠ .none → κ' i = κ i) : ∀ (xs : List AV) {vs : List Value}, AVRs h S κ xs vs → AVRs h' S' κ' xs vs
 | [], vs, hx => by simpa [AVRs] using hx
 | x :: xs, vs, hx => by
  simp only [AVRs] at hx ⊢
  obtain ⟨v, r, h1, h2, h3⟩ := hx
  exact ⟨v, r, h1, AVR.mono hm hk x h2, AVRs.mono hm hk xs h3⟩
end
structure Mem (n0 : Nat) (κ0 : Nat → Bind) (w0 : World) (S0 O0 : Nat → Prop) (H : HP) (w : World) (S : Nat → Prop) (κ : Nat → Bind) : Prop where
 hr : HR w.heap S κ H
 fr : FrameR w0 S0 O0 w S
 kp : ∀ i, i < n0 → κ i = κ0 i
 len : n0 ≤ H.length
 ow : ∀ i B, ownAt κ H i = some B → B < w0.heap.size → O0 B
def CallSt (P : Program) (f : FuncId) (args : List AV) (H : HP) (K : AV → HP → Prop) : Prop :=
 callable P f = true ∧ ∀ (w : World) (S : Nat → Prop) (κ : Nat → Bind) (vs : List Value), HR w.heap S κ H → AVRs w.heap S κ args vs →
  Calls P f vs.toArray w fun e w' => ∃ v r H' κ' S', e = .returned v ∧ K r H' ∧ Mem H.length κ w S (fun B => ∃ i, ownAt κ H i = some B) H' w' S' κ' ∧ AVR w'.heap S' κ' r v
def YSt (P : Program) (i : Nat) (args : List AV) (H : HP) (K : AV → HP → Prop) : Prop :=
 ∀ (w : World) (S : Nat → Prop) (κ : Nat → Bind) (vs : List Value) (l : Nat), HR w.heap S κ H → AVRs w.heap S κ args vs → κ i = .blk l →
  ∃ fn tmps asg body, (Instr.yield l vs.toArray).run P w = .ok (.round l fn tmps asg body) w ∧
   RoundIn Fence.wide 0 P l fn tmps asg body w fun e w' => ∃ v r H' κ' S', e = .returned v ∧ K r H' ∧ Mem H.length κ w S (fun B => ∃ i, ownAt κ H i = some B) H' w' S' κ' ∧ AVR w'.heap S' κ' r v
def CallPt (P : Program) (f : FuncId) (args : List AV) (H : HP) (K : AV → HP → Prop) (KP : CV → HP → Prop) : Prop :=
 callable P f = true ∧ ∀ (w : World) (S : Nat → Prop) (κ : Nat → Bind) (vs : List Value), HR w.heap S κ H → AVRs w.heap S κ args vs →
  Calls P f vs.toArray w fun e w' => (∃ v r H' κ' S', e = .returned v ∧ K r H' ∧ Mem H.length κ w S (fun B => ∃ i, ownAt κ H i = some B) H' w' S' κ' ∧ AVR w'.heap S' κ' r v) ∨
   ∃ x V H' κ' S', e = .panicked [{ v := V, recovered := false }] ∧ KP x H' ∧ Mem H.length κ w S (fun B => ∃ i, ownAt κ H i = some B) H' w' S' κ' ∧ CVR w'.heap S' x V
attribute [irreducible] CallSt YSt CallPt
def callK (P : Program) (E : Env) (tm : TM) (f : FuncId) (args : List AV) (H : HP) (K : AV → HP → Prop) : Prop :=
 match E.pan with
 | none => CallSt P f args H K
 | some (ts, KP) => CallPt P f args H K fun x H' => KP x (ts.map (lk tm)) H'
def cvB (E : Env) : Op → Bool
 | .convert _ d _ => (match (E.ty d).k with | .slice _ => true | _ => false)
 | _ => false
def nilK (E : Env) (op : BinOp) (T : TypeId) (y : Operand) (a : AV) (K : AV → Prop) (D : Prop) : Prop :=
 match y, a with
 | .const .nilIface, .c (.val .nilIface) => tyK E T fun d => (match d.k with
  | .ifc => (match op with
   | .eql => K (.c (.bool true))
   | .neq => K (.c (.bool false))
   | _ => False)
  | _ => False)
 | .const .nilIface, .c (.ifc _ _) => tyK E T fun d => (match d.k with
  | .ifc => (match op with
   | .eql => K (.c (.bool false))
   | .neq => K (.c (.bool true))
   | _ => False)
  | _ => False)
 | _, _ => D
def mthOk (P : Program) (t : TypeId) (name : String) (f : FuncId) : Prop := ∀ (v : Value) (w : World), (method (P.types.size + Made.depth) t v name).run P w = .ok (f, v) w
def mkifK (E : Env) (T : TypeId) (v : AV) (K : AV → Prop) : Prop :=
 tyK E T fun d => match d.k, v with
 | .struct _, .agg l => cvsK l fun xs => K (.c (.ifc T xs))
 | _, _ => False
def tyasK (E : Env) (T : TypeId) (v : AV) (K : AV → Prop) : Prop :=
 tyK E T fun d => match d.k, v with
 | .struct _, .c (.ifc t l) => (match Nat.beq t T with
  | true => K (.tup [.agg (l.map .c), .c (.bool true)])
  | false => K (.tup [.top, .c (.bool false)]))
 | .struct _, .c (.val .nilIface) => K (.tup [.top, .c (.bool false)])
 | _, _ => False
def panK (E : Env) (tm : TM) (H : HP) (v : AV) : Prop :=
 match E.pan, v with
 | some (ts, KP), .c (.ifc t l) => KP (.ifc t l) (ts.map (lk tm)) H
 | _, _ => False
def aop (P : Program) (E : Env) (o : Oper) (ch : Ch) (g : Bool) (tm : TM) (H : HP) (K : TM → HP → Prop) : Prop :=
 match o.op with
 | .move x => evK tm ch x fun v => dstK tm ch g o.dst v fun tm' => K tm' H
 | .assign x => evK tm ch x fun v => dstK tm ch g o.dst v fun tm' => K tm' H
 | .pick c a b => pickK tm ch c a b fun v => dstK tm ch g o.dst v fun tm' => K tm' H
 | .box T x => (match ch with
  | [] => evK tm [] x fun v => (match bigB (E.ty T), v with
   | true, .agg l => bigK l (E.ty T).size fun r => snocK H (.row T (E.ty T).size 1 [r]) fun H' n => dstK tm [] g o.dst (.elt n (E.ty T).size 0 0) fun tm' => K tm' H'
   | _, v => cellsK v fun cs => snocK H (.box cs) fun H' n => dstK tm [] g o.dst (.ptr n 0) fun tm' => K tm' H')
  | _ => False)
 | .alloc T => (match ch with
  | [] => tyK E T fun d => (match bigB d with
   | true => bigK (d.zero.map ofConst) d.size fun r => snocK H (.row T d.size 1 [r]) fun H' n => dstK tm [] g o.dst (.elt n d.size 0 0) fun tm' => K tm' H'
   | false => snocK H (.box (d.zero.map ofConst)) fun H' n => dstK tm [] g o.dst (.ptr n 0) fun tm' => K tm' H')
  | _ => False)
 | .nilCheck x => evK tm ch x fun v => (match v with
  | .ptr i off => dstK tm ch g o.dst (.ptr i off) fun tm' => K tm' H
  | .rd l => dstK tm ch g o.dst (.rd l) fun tm' => K tm' H
  | .elt i sz k j => dstK tm ch g o.dst (.elt i sz k j) fun tm' => K tm' H
  | .fn f cs => dstK tm ch g o.dst (.fn f cs) fun tm' => K tm' H
  | _ => False)
 | .load T a => evK tm ch a fun p => loadK E H T p fun v => dstK tm ch g o.dst v fun tm' => K tm' H
 | .store T a x => (match ch, o.dst with
  | [], none => evK tm [] a fun p => evK tm [] x fun v => storeK E H T p v fun H' => K tm H'
  | _, _ => False)
 | .binOp op T x y _ => evK tm ch x fun a => evK tm ch y fun b => nilK E op T y a (fun v => dstK tm ch g o.dst v fun tm' => K tm' H) (binK E op T ch g a b fun v => dstK tm ch g o.dst v fun tm' => K tm' H)
 | .unOp .not _ x => evK tm ch x fun a => (match a with | .c (.bool e) => dstK tm ch g o.dst (.c (.bool (!e))) fun tm' => K tm' H | _ => False)
 | .unOp .neg _ x => evK tm ch x fun a => (match a with | .c (.int .i64 n) => gd ch g (inR (-n)) ∧ dstK tm ch g o.dst (.c (.int .i64 (-n))) fun tm' => K tm' H | _ => False)
 | .convert src dst x => (match (E.ty dst).k with
  | .slice _ => (match ch with
   | [] => evK tm [] x fun a => byteK E H src dst a fun r H' => dstK tm [] g o.dst r fun tm' => K tm' H'
   | _ => False)
  | _ => evK tm ch x fun a => convK E H src dst a fun v => dstK tm ch g o.dst v fun tm' => K tm' H)
 | .fieldAddr T x f => evK tm ch x fun p => fieldK E T p f fun v => dstK tm ch g o.dst v fun tm' => K tm' H
 | .indexAddr T x ix => evK tm ch x fun v => evK tm ch ix fun n => idxK E H T v n ch g fun v => dstK tm ch g o.dst v fun tm' => K tm' H
 | .extract x i => evK tm ch x fun v => (match v with
  | .tup l => takeK l i 1 fun r => (match r with | [y] => dstK tm ch g o.dst y fun tm' => K tm' H | _ => False)
  | _ => False)
 | .makeFunc (.func f) first caps => (match first.toList with
  | [] => evsK tm ch caps.toList fun cs => dstK tm ch g o.dst (.fn f cs) fun tm' => K tm' H
  | x :: xs => (match caps.toList with
   | [] => evsK tm ch (x :: xs) fun cs => dstK tm ch g o.dst (.bd f cs) fun tm' => K tm' H
   | _ => False))
 | .build T parts => tyK E T fun d => (match d.k with
  | .struct fs => evPartsK tm ch parts.toList fun ps => buildK E fs ps (d.zero.map ofConst) fun l => dstK tm ch g o.dst (.agg l) fun tm' => K tm' H
  | .array _ e => tyK E e fun de => evPartsK tm ch parts.toList fun ps => buildAK de.size ps (d.zero.map ofConst) fun l => dstK tm ch g o.dst (.agg l) fun tm' => K tm' H
  | _ => False)
 | .buildSlice T n parts => (match ch with
  | [] => tyK E T fun d => (match d.k with
   | .slice e => tyK E e fun de => (match de.size with
    | 0 => False
    | _ => evPartsK tm [] parts.toList fun ps => partsK E e de 0 ps H fun es H1 => (match Nat.beq es.length n with
     | true => n * de.size ≤ 16777216 ∧ n * de.bytes ≤ 140737488355328 ∧ snocK H1 (.row e de.size de.bytes es) fun H' i => dstK tm [] g o.dst (.own i) fun tm' => K tm' H'
     | false => False))
   | _ => False)
  | _ => False)
 | .makeMap T none => (match ch with
  | [] => mkmapK E T fun en => snocK H en fun H' n => dstK tm [] g o.dst (.mpv n) fun tm' => K tm' H'
  | _ => False)
 | .mapUpdate T m q x => (match ch, o.dst with
  | [], none => evK tm [] m fun m => evK tm [] q fun q => evK tm [] x fun x => mupdK E H T m q x fun H' => K tm H'
  | _, _ => False)
 | .lookup T m q ok => (match ch with
  | [] => evK tm [] m fun m => evK tm [] q fun q => lookK E H T m q ok fun v => dstK tm [] g o.dst v fun tm' => K tm' H
  | _ => False)
 | .slice T x lo hi none => evK tm ch x fun v => sliceK E H T v tm ch g lo hi fun v => dstK tm ch g o.dst v fun tm' => K tm' H
 | .index T x ix => evK tm ch x fun v => evK tm ch ix fun n => indK E T v n ch g fun v => dstK tm ch g o.dst v fun tm' => K tm' H
 | .makeSlice T n c => (match ch with
  | [] => evK tm [] n fun n => evK tm [] c fun c => mkslK E T n c H fun en H1 => snocK H1 en fun H' i => dstK tm [] g o.dst (.own i) fun tm' => K tm' H'
  | _ => False)
 | .call c => (match c.callee with
  | .builtin .len => (match c.args.toList, c.argTypes.toList with
   | [x], [T] => evK tm ch x fun v => lenK E H T v ch g fun v => dstK tm ch g o.dst v fun tm' => K tm' H
   | _, _ => False)
  | .builtin .max => (match c.args.toList with
   | [x, y] => evK tm ch x fun a => evK tm ch y fun b => maxK a b fun v => dstK tm ch g o.dst v fun tm' => K tm' H
   | _ => False)
  | .builtin .min => (match c.args.toList with
   | [x, y] => evK tm ch x fun a => evK tm ch y fun b => minK a b fun v => dstK tm ch g o.dst v fun tm' => K tm' H
   | _ => False)
  | .builtin .append => (match ch, c.args.toList, c.argTypes.toList with
   | [], [s, x], [T, T2] => evK tm [] s fun v => evK tm [] x fun u => appK E H T T2 v u fun r H' => dstK tm [] g o.dst r fun tm' => K tm' H'
   | _, _, _ => False)
  | .builtin .delete => (match ch, c.args.toList, c.argTypes.toList with
   | [], [m, q], T :: _ => evK tm [] m fun m => evK tm [] q fun q => mdelK E H T m q fun H' => dstK tm [] g o.dst (.tup []) fun tm' => K tm' H'
   | _, _, _ => False)
  | .value f => (match ch with
   | [] => evK tm [] f fun fv => evsK tm [] c.args.toList fun vs => (match fv with
    | .fn f caps => (match E.keep f with
     | false => pursK E c.argTypes.toList vs H fun vs' H1 => callK P E tm f (vs' ++ caps) H1 fun r H' => dstK tm [] g o.dst r fun tm' => K tm' H'
     | true => callK P E tm f (vs ++ caps) H fun r H' => dstK tm [] g o.dst r fun tm' => K tm' H')
    | .bd f l => (match E.keep f with
     | false => pursK E c.argTypes.toList vs H fun vs' H1 => callK P E tm f (l ++ vs') H1 fun r H' => dstK tm [] g o.dst r fun tm' => K tm' H'
     | true => callK P E tm f (l ++ vs) H fun r H' => dstK tm [] g o.dst r fun tm' => K tm' H')
    | .yv i => YSt P i vs H fun r H' => dstK tm [] g o.dst r fun tm' => K tm' H'
    | _ => False)
   | _ => False)
  | .invoke recv name => (match ch with
   | [] => evK tm [] recv fun fv => evsK tm [] c.args.toList fun vs => (match fv with
    | .c (.ifc t l) => (match E.mth t name with
     | some f => mthOk P t name f ∧ pursK E c.argTypes.toList vs H fun vs' H1 => callK P E tm f (.agg (l.map .c) :: vs') H1 fun r H' => dstK tm [] g o.dst r fun tm' => K tm' H'
     | none => False)
    | _ => False)
   | _ => False)
  | _ => False)
 | .makeInterface T x => evK tm ch x fun v => mkifK E T v fun v => dstK tm ch g o.dst v fun tm' => K tm' H
 | .typeAssert x _ T true => evK tm ch x fun v => tyasK E T v fun v => dstK tm ch g o.dst v fun tm' => K tm' H
 | .panic x => (match ch with
  | [] => evK tm [] x fun v => panK E tm H v
  | _ => False)
 | _ => False
def gOf (ops : Array Oper) (tm : TM) (gu : Option (Nat × Bool)) (K : Option (Ch × Bool) → Prop) : Prop :=
 match gu with
 | none => K (some ([], true))
 | some (j, w) => match (ops[j]?).bind (·.dst) with
  | none => False
  | some t => lkK tm t fun v => match v with
   | .kn b => (match beqB b w with | true => K (some ([], true)) | false => K none)
   | .c (.bool e) => (match w with | true => K (some ([(t, true)], e)) | false => K (some ([(t, false)], !e)))
   | .when ch g (.c (.bool e)) => (match w with | true => K (some ((t, true) :: ch, g && e)) | false => K (some ((t, false) :: ch, g && !e)))
   | _ => False
def loudB : Op → Bool
 | .box .. | .alloc .. | .store .. | .buildSlice .. | .makeMap .. | .mapUpdate .. | .lookup .. | .makeSlice .. | .panic .. => true
 | .call { callee := .value _, .. } => true
 | .call { callee := .invoke .., .. } => true
 | .call { callee := .builtin .append, .. } => true
 | .call { callee := .builtin .delete, .. } => true
 | _ => false
def loudE (E : Env) (o : Op) : Bool := match cvB E o with | true => true | false => loudB o
def knAll : Ch → TM → TM
 | [], tm => tm
 | (t, w) :: r, tm => (t, .kn w) :: knAll r tm
def knNot : Ch → TM → TM
 | [(t, true)], tm => (t, .kn false) :: tm
 | [(t, false)], tm => (t, .kn true) :: tm
 | _, tm => tm
def opnB (c ch : Ch) : AV → Bool
 | .when _ _ _ => false
 | _ => sfx c ch
def openW (ch : Ch) : TM → TM
 | [] => []
 | (t, .when c g v) :: r => (match opnB c ch v with | true => (t, v) :: openW ch r | false => (t, .when c g v) :: openW ch r)
 | (t, v) :: r => (t, v) :: openW ch r
def dstTop (dst : Option Nat) (tm : TM) : TM := match dst with | some d => (d, .top) :: tm | none => tm
def awOp (P : Program) (E : Env) (ops : Array Oper) (o : Oper) (tm : TM) (H : HP) (K : TM → HP → Prop) : Prop :=
 gOf ops tm o.guard fun gr => match gr with
  | none => K (dstTop o.dst tm) H
  | some ([], _) => aop P E o [] true tm H K
  | some (x :: ch, g) => (match loudE E o.op with
   | false => aop P E o (x :: ch) g tm H K
   | true => (g = true → aop P E o [] true (knAll (x :: ch) (openW (x :: ch) tm)) H K) ∧ (g = false → (match ch with
    | [] => K (dstTop o.dst (knNot (x :: ch) tm)) H
    | _ :: _ => (match (E.ty o.type).k with
     | .bool => dstK tm (x :: ch) g o.dst (.c (.bool false)) fun tm' => K tm' H
     | _ => K (dstTop o.dst (knNot (x :: ch) tm)) H))))
def awOps (P : Program) (E : Env) (ops : Array Oper) : List Oper → TM → HP → (TM → HP → Prop) → Prop
 | [], tm, H, K => K tm H
 | o :: r, tm, H, K => awOp P E ops o tm H fun tm' H' => awOps P E ops r tm' H' K
def noWhen : TM → (TM → Prop) → Prop
 | [], K => K []
 | (t, .when _ _ _) :: r, K => noWhen r fun r' => K ((t, .top) :: r')
 | (t, v) :: r, K => noWhen r fun r' => K ((t, v) :: r')
def hasGuard : List Oper → Bool
 | [] => false
 | o :: r => match o.guard with | some _ => true | none => hasGuard r
end Go.Tr
/- The engine, part 3: what the computed pieces say of the machine: operands, cells. -/
namespace Go.Tr
theorem lkK_eq (tm : TM) (t : Nat) (K : AV → Prop) : lkK tm t K = K (lk tm t) := by
 induction tm with
 | nil => rfl
 | cons p r ih =>
  obtain ⟨x, v⟩ := p
  simp only [lkK, lk]
  cases Nat.beq x t <;> simp [ih]
theorem lk_cons (d t : Nat) (v : AV) (tm : TM) : lk ((d, v) :: tm) t = if d = t then v else lk tm t := by
 simp only [lk]
 cases h : Nat.beq d t
 ·rw [if_neg (fun e => by subst e; simp at h)]
 ·rw [if_pos (Nat.eq_of_beq_eq_true h)]
theorem beqB_eq {a b : Bool} (h : beqB a b = true) : a = b := by cases a <;> cases b <;> simp_all [beqB]
theorem beqB_ne {a b : Bool} (h : beqB a b = false) : a ≠ b := by cases a <;> cases b <;> simp_all [beqB]
theorem chEq_eq : ∀ {a b : Ch}, chEq a b = true → a = b
 | [], [], _ => rfl
 | [], _ :: _, h => by simp [chEq] at h
 | _ :: _, [], h => by simp [chEq] at h
 | (x, u) :: r, (y, v) :: s, h => by
  simp only [chEq] at h
  split at h
  ·rename_i h1
   split at h
   ·rename_i h2
    rw [Nat.eq_of_beq_eq_true h1, beqB_eq h2, chEq_eq h]
   ·cases h
  ·cases h
theorem sfx_mem {a : Ch} : ∀ {b : Ch}, sfx a b = true → ∀ p ∈ a, p ∈ b
 | [], h, p, hp => by rw [chEq_eq h] at hp; exact hp
 | x :: r, h, p, hp => by
  simp only [sfx] at h
  split at h
  ·rename_i h1; rw [chEq_eq h1] at hp; exact hp
  ·exact List.mem_cons_of_mem _ (sfx_mem h p hp)
def chOk (a : Act) (ch : Ch) : Prop := ∀ p ∈ ch, a.tmps.getD p.1 undef = .bool p.2
def WOk (tm : TM) (a : Act) : Prop := ∀ t ch g x, lk tm t = .when ch g x → chOk a ch → g = true
section
variable {P : Program} {E : Env} {h : Array Obj} {S : Nat → Prop} {κ : Nat → Bind} {tm : TM} {a : Act} {ch : Ch} {H : HP}
theorem constV_spec {h : Array Obj} {v : Value} {K : AV → Prop} (hk : constV v K) : ∃ x, K x ∧ AVR h S κ x v := by
 unfold constV at hk
 split at hk
 all_goals first
  | exact hk.elim
  | (refine ⟨_, hk, ?_⟩; simp only [AVR, CVR]; done)
theorem constK_spec {h : Array Obj} : ∀ {vs : List Value} {K : List AV → Prop}, constK vs K → ∃ l, K l ∧ AVRs h S κ l vs
 | [], K, hk => ⟨[], hk, by simp [AVRs]⟩
 | v :: vs, K, hk => by
  obtain ⟨x, h1, hx⟩ := constV_spec (h := h) (S := S) (κ := κ) hk
  obtain ⟨l, h2, hl⟩ := constK_spec h1
  exact ⟨x :: l, h2, by simp only [AVRs]; exact ⟨_, _, rfl, hx, hl⟩⟩
theorem constV_mono {v : Value} {K K' : AV → Prop} (hk : constV v K) (h : ∀ x, K x → K' x) : constV v K' := by
 unfold constV at hk ⊢
 split at hk
 all_goals first
  | exact hk.elim
  | exact h _ hk
theorem constK_mono : ∀ {vs : List Value} {K K' : List AV → Prop}, constK vs K → (∀ l, K l → K' l) → constK vs K'
 | [], _, _, hk, h => h _ hk
 | _ :: _, _, _, hk, h => constV_mono hk fun _ hx => constK_mono hx fun _ hl => h _ hl
theorem constV_any {v : Value} {K : AV → Prop} (hk : constV v K) : ∃ x, K x := by
 unfold constV at hk
 split at hk
 all_goals first
  | exact hk.elim
  | exact ⟨_, hk⟩
theorem constK_any : ∀ {vs : List Value} {K : List AV → Prop}, constK vs K → ∃ l, K l
 | [], _, hk => ⟨_, hk⟩
 | _ :: _, _, hk => by
  obtain ⟨_, h1⟩ := constV_any hk
  obtain ⟨_, h2⟩ := constK_any h1
  exact ⟨_, h2⟩
theorem evK_spec (ht : TR h S κ tm a) (hw : WOk tm a) (hc : chOk a ch) {x : Operand} {K : AV → Prop} (hk : evK tm ch x K) :
  ∃ v, K v ∧ AVR h S κ v (a.eval x) := by
 cases x with
 | tmp t =>
  simp only [evK, lkK_eq] at hk
  have h1 := ht t
  simp only [Act.eval]
  generalize hv : lk tm t = v at *
  cases v with
  | «when» ch' g y =>
   simp only at hk
   split at hk
   ·rename_i hs
    refine ⟨y, hk, ?_⟩
    have hg : g = true := hw t ch' g y hv (fun p hp => hc p (sfx_mem hs p hp))
    simp only [AVR] at h1
    exact h1.1 hg
   ·exact hk.elim
  | kn b => exact ⟨_, hk, by simpa [AVR, CVR] using h1⟩
  | _ => exact ⟨_, hk, h1⟩
 | const v =>
  simp only [evK] at hk
  simp only [Act.eval]
  split at hk
  all_goals first
   | exact hk.elim
   | (obtain ⟨l, h1, hl⟩ := constK_spec (h := h) (S := S) (κ := κ) hk; refine ⟨_, h1, ?_⟩; simp only [AVR]; exact ⟨_, rfl, hl⟩)
   | (refine ⟨_, hk, ?_⟩; simp only [AVR, CVR]; done)
   | (refine ⟨_, hk, ?_⟩; simp only [AVR, CVR, true_and]; cases v <;> simp_all [Value.oneCell'])
 | global g => exact hk.elim
 | func f =>
  exact ⟨_, hk, by simp [AVR, AVRs, Act.eval]⟩
theorem evsK_spec (ht : TR h S κ tm a) (hw : WOk tm a) (hc : chOk a ch) : ∀ {xs : List Operand} {K : List AV → Prop}, evsK tm ch xs K →
  ∃ vs, K vs ∧ AVRs h S κ vs (xs.map a.eval)
 | [], K, hk => ⟨[], hk, by simp [AVRs]⟩
 | x :: r, K, hk => by
  simp only [evsK] at hk
  obtain ⟨v, hk, h1⟩ := evK_spec ht hw hc hk
  obtain ⟨vs, hk, h2⟩ := evsK_spec ht hw hc hk
  exact ⟨v :: vs, hk, by simp only [AVRs, List.map_cons]; exact ⟨_, _, rfl, h1, h2⟩⟩
theorem getK_spec : ∀ {H : HP} {i : Nat} {K : Ent → Prop}, getK H i K → ∃ e, H[i]? = some e ∧ K e
 | [], _, _, hk => by simp [getK] at hk
 | e :: _, 0, _, hk => ⟨e, by simp, hk⟩
 | _ :: r, n + 1, _, hk => by
  simp only [getK] at hk
  obtain ⟨e, h1, h2⟩ := getK_spec hk
  exact ⟨e, by simpa using h1, h2⟩
theorem setK_spec : ∀ {H : HP} {i : Nat} {e : Ent} {K : HP → Prop}, setK H i e K → i < H.length ∧ K (H.set i e)
 | [], _, _, _, hk => by simp [setK] at hk
 | x :: r, 0, e, _, hk => ⟨by simp, by simpa [setK] using hk⟩
 | x :: r, n + 1, e, _, hk => by
  simp only [setK] at hk
  obtain ⟨h1, h2⟩ := setK_spec hk
  exact ⟨by simpa using h1, by simpa using h2⟩
theorem snocK_spec : ∀ {H : HP} {e : Ent} {K : HP → Nat → Prop}, snocK H e K → K (H ++ [e]) H.length
 | [], _, _, hk => by simpa [snocK] using hk
 | x :: r, e, _, hk => by
  simp only [snocK] at hk
  simpa using snocK_spec hk
theorem takeK_spec {α : Type} : ∀ {l : List α} {d n : Nat} {K : List α → Prop}, takeK l d n K → d + n ≤ l.length ∧ K ((l.drop d).take n)
 | l, 0, 0, _, hk => by simpa [takeK] using hk
 | x :: r, 0, n + 1, _, hk => by
  simp only [takeK] at hk
  have := takeK_spec hk
  simp at this ⊢
  exact ⟨by omega, this.2⟩
 | x :: r, d + 1, n, _, hk => by
  cases n <;> simp only [takeK] at hk <;> have := takeK_spec hk <;> simp at this ⊢ <;> first | exact ⟨by omega, this.2⟩ | exact ⟨by omega, this⟩ | exact this
 | [], 0, _ + 1, _, hk => by simp [takeK] at hk
 | [], _ + 1, n, _, hk => by cases n <;> simp [takeK] at hk
theorem putK_spec {α : Type} : ∀ {l : List α} {d : Nat} {vs : List α} {K : List α → Prop}, putK l d vs K → d + vs.length ≤ l.length ∧ K (l.take d ++ vs ++ l.drop (d + vs.length))
 | l, 0, [], _, hk => by simpa [putK] using hk
 | x :: r, 0, v :: vs, _, hk => by
  simp only [putK] at hk
  obtain ⟨h1, h2⟩ := putK_spec hk
  simp only [List.take_zero, List.nil_append, Nat.zero_add, List.length_cons, List.drop_succ_cons, List.cons_append] at *
  exact ⟨by omega, h2⟩
 | x :: r, d + 1, vs, K, hk => by
  have hk' : putK r d vs (fun r' => K (x :: r')) := by cases vs <;> exact hk
  obtain ⟨h1, h2⟩ := putK_spec hk'
  refine ⟨by simp; omega, ?_⟩
  simp only [List.take_succ_cons, List.cons_append]
  have : d + 1 + vs.length = (d + vs.length) + 1 := by omega
  rw [this, List.drop_succ_cons]
  exact h2
 | [], 0, _ :: _, _, hk => by simp [putK] at hk
 | [], _ + 1, vs, _, hk => by cases vs <;> simp [putK] at hk
end
end Go.Tr
/- The engine, part 4: types; cells that are loaded. -/
namespace Go.Tr
def zOf : TK → Option Value
 | .bool => some (.bool false)
 | .int k => some (.int k 0)
 | _ => none
structure TyR (P : Program) (T : TypeId) (d : TyD) : Prop where
 info : ∃ i z, P.info? T = some i ∧ i.size = d.size ∧ i.bytes = d.bytes ∧ i.zero = some z ∧ z.cells.toList = d.zero ∧ (∀ v ∈ d.zero, v.oneCell' = true) ∧ d.zero.length = d.size
 und : match d.k with
  | .int k => P.underlying T = some (.int k)
  | .bool => P.underlying T = some .bool
  | .str => P.underlying T = some .string
  | .slice e => P.underlying T = some (.slice e)
  | .struct fs => ∃ F, P.underlying T = some (.struct F) ∧ fs = F.toList.map (fun f => (f.offset, f.type)) ∧ ∀ f ∈ F.toList, ∃ i, P.info? f.type = some i
  | .array n e => P.underlying T = some (.array n e)
  | .map k e => P.underlying T = some (.map k e)
  | .ifc => ∃ ms, P.underlying T = some (.interface ms)
  | .other => ∃ u, P.underlying T = some u ∧ (match u with | .struct _ => False | .array _ _ => False | _ => True)
  | .unknown => True
 one : ∀ z, zOf d.k = some z → ∃ i, P.info? T = some i ∧ i.zero = some z
def EnvOk (P : Program) (E : Env) : Prop := ∀ T, (match (E.ty T).k with | .unknown => False | _ => True) → TyR P T (E.ty T)
theorem tyK_spec {P : Program} {E : Env} (he : EnvOk P E) {T : TypeId} {K : TyD → Prop} (hk : tyK E T K) : TyR P T (E.ty T) ∧ (E.ty T).k ≠ .unknown ∧ K (E.ty T) := by
 have h1 := he T
 simp only [tyK] at hk
 split at hk
 ·exact hk.elim
 ·rename_i hne
  refine ⟨h1 ?_, hne, hk⟩
  split
  ·rename_i hu; exact hne hu
  ·trivial
section
variable {h : Array Obj} {S : Nat → Prop} {κ : Nat → Bind}
theorem AVRs.len : ∀ {l : List AV} {vs : List Value}, AVRs h S κ l vs → vs.length = l.length
 | [], vs, hx => by simp [AVRs] at hx; simp [hx]
 | x :: xs, vs, hx => by
  simp only [AVRs] at hx
  obtain ⟨v, r, rfl, _, h3⟩ := hx
  simp [AVRs.len h3]
theorem AVRs.at : ∀ {l : List AV} {vs : List Value} {n : Nat} {x : AV}, AVRs h S κ l vs → l[n]? = some x → ∃ v, vs[n]? = some v ∧ AVR h S κ x v
 | [], vs, n, x, _, hn => by simp at hn
 | y :: ys, vs, 0, x, hx, hn => by
  simp at hn
  subst hn
  simp only [AVRs] at hx
  obtain ⟨v, r, rfl, h2, _⟩ := hx
  exact ⟨v, by simp, h2⟩
 | y :: ys, vs, n + 1, x, hx, hn => by
  simp only [AVRs] at hx
  obtain ⟨v, r, rfl, _, h3⟩ := hx
  obtain ⟨u, h4, h5⟩ := AVRs.at h3 (by simpa using hn)
  exact ⟨u, by simpa using h4, h5⟩
theorem AVRs.drop : ∀ {l : List AV} {vs : List Value} (n : Nat), AVRs h S κ l vs → AVRs h S κ (l.drop n) (vs.drop n)
 | [], vs, n, hx => by simp [AVRs] at hx; simp [hx, AVRs]
 | x :: xs, vs, 0, hx => by simpa using hx
 | x :: xs, vs, n + 1, hx => by
  simp only [AVRs] at hx
  obtain ⟨v, r, rfl, _, h3⟩ := hx
  simpa using AVRs.drop n h3
theorem AVRs.take : ∀ {l : List AV} {vs : List Value} (n : Nat), AVRs h S κ l vs → AVRs h S κ (l.take n) (vs.take n)
 | [], vs, n, hx => by simp [AVRs] at hx; simp [hx, AVRs]
 | x :: xs, vs, 0, hx => by simp [AVRs]
 | x :: xs, vs, n + 1, hx => by
  simp only [AVRs] at hx
  obtain ⟨v, r, rfl, h2, h3⟩ := hx
  simp only [List.take_succ_cons, AVRs]
  exact ⟨v, _, rfl, h2, AVRs.take n h3⟩
theorem AVRs.append : ∀ {l m : List AV} {vs us : List Value}, AVRs h S κ l vs → AVRs h S κ m us → AVRs h S κ (l ++ m) (vs ++ us)
 | [], m, vs, us, hx, hy => by simp [AVRs] at hx; simpa [hx] using hy
 | x :: xs, m, vs, us, hx, hy => by
  simp only [AVRs] at hx
  obtain ⟨v, r, rfl, h2, h3⟩ := hx
  simp only [List.cons_append, AVRs]
  exact ⟨v, _, rfl, h2, AVRs.append h3 hy⟩
theorem AVRs.one {x : AV} {vs : List Value} (hx : AVRs h S κ [x] vs) : ∃ v, vs = [v] ∧ AVR h S κ x v := by
 simp only [AVRs] at hx
 obtain ⟨v, r, rfl, h2, rfl⟩ := hx
 exact ⟨v, rfl, h2⟩
theorem CVR.one : ∀ {x : CV} {v : Value}, CVR h S x v → v.oneCell' = true
 | .int k n, v, hx => by simp [CVR] at hx; subst hx; rfl
 | .bool b, v, hx => by simp [CVR] at hx; subst hx; rfl
 | .str s, v, hx => by simp [CVR] at hx; subst hx; rfl
 | .val x, v, hx => by simp only [CVR] at hx; obtain ⟨rfl, hx⟩ := hx; exact hx
 | .sl sz byt es, v, hx => by
  simp only [CVR] at hx
  obtain ⟨a, len, cap, rfl, _⟩ := hx
  rfl
 | .ifc t l, v, hx => by
  simp only [CVR] at hx
  obtain ⟨cs, rfl, _⟩ := hx
  rfl
theorem AVRs.oneAll : ∀ {l : List AV} {vs : List Value}, oneB l = true → AVRs h S κ l vs → ∀ v ∈ vs, v.oneCell' = true
 | [], vs, _, hx => by simp [AVRs] at hx; simp [hx]
 | x :: xs, vs, ho, hx => by
  simp only [AVRs] at hx
  obtain ⟨v, r, rfl, h2, h3⟩ := hx
  have key : v.oneCell' = true ∧ oneB xs = true := by
   cases x <;> simp only [oneB, Bool.false_eq_true] at ho
   case c x => exact ⟨CVR.one (by simpa [AVR] using h2), ho⟩
   case nil => simp [AVR] at h2; subst h2; exact ⟨rfl, ho⟩
   case ptr i o => simp only [AVR] at h2; obtain ⟨B, _, rfl⟩ := h2; exact ⟨rfl, ho⟩
   case rd l => simp only [AVR] at h2; obtain ⟨B, o, rfl, _⟩ := h2; exact ⟨rfl, ho⟩
   case own i => exact ⟨by simp only [AVR] at h2; exact h2.2, ho⟩
   case elt i s k j => simp only [AVR] at h2; obtain ⟨B, o, _, _, _, rfl⟩ := h2; exact ⟨rfl, ho⟩
   case fn f cs => simp only [AVR] at h2; obtain ⟨cs, rfl, _⟩ := h2; exact ⟨rfl, ho⟩
   case bd f cs => simp only [AVR] at h2; obtain ⟨cs, rfl, _⟩ := h2; exact ⟨rfl, ho⟩
   case yv i => simp only [AVR] at h2; obtain ⟨l, _, rfl⟩ := h2; exact ⟨rfl, ho⟩
   case mpv i => simp only [AVR] at h2; obtain ⟨l, _, rfl⟩ := h2; exact ⟨rfl, ho⟩
  intro u hu
  rcases List.mem_cons.1 hu with rfl | hu
  ·exact key.1
  ·exact AVRs.oneAll key.2 h3 u hu

theorem CellsR.vals : ∀ {l : List CV} {B off : Nat}, CellsR h S l B off → ∃ vs : List Value, CellsV h S l vs ∧ ∀ j v, vs[j]? = some v → cellAt h B (off + j) = some v
 | [], B, off, _ => ⟨[], by simp [CellsV], fun j v hv => by simp at hv⟩
 | x :: xs, B, off, hx => by
  simp only [CellsR] at hx
  obtain ⟨⟨_, v, h1, h2⟩, h3⟩ := hx
  obtain ⟨vs, h4, h5⟩ := CellsR.vals h3
  refine ⟨v :: vs, by simp only [CellsV]; exact ⟨_, _, rfl, h2, h4⟩, fun j u hu => ?_⟩
  cases j with
  | zero => simp at hu; subst hu; simpa using h1
  | succ j => simp at hu; have := h5 j u hu; rwa [show off + (j + 1) = off + 1 + j by omega]
theorem CellsR.drop : ∀ {l : List CV} {B off : Nat} (n : Nat), CellsR h S l B off → CellsR h S (l.drop n) B (off + n)
 | [], B, off, n, _ => by simp [CellsR]
 | x :: xs, B, off, 0, hx => by simpa using hx
 | x :: xs, B, off, n + 1, hx => by
  simp only [CellsR] at hx
  have := CellsR.drop n hx.2
  rw [show off + 1 + n = off + (n + 1) by omega] at this
  simpa using this
theorem CellsV.len : ∀ {l : List CV} {vs : List Value}, CellsV h S l vs → vs.length = l.length
 | [], vs, hx => by simp [CellsV] at hx; simp [hx]
 | x :: xs, vs, hx => by
  simp only [CellsV] at hx
  obtain ⟨v, r, rfl, _, h3⟩ := hx
  simp [CellsV.len h3]
theorem CellsV.drop : ∀ {l : List CV} {vs : List Value} (n : Nat), CellsV h S l vs → CellsV h S (l.drop n) (vs.drop n)
 | [], vs, n, hx => by simp [CellsV] at hx; simp [hx, CellsV]
 | x :: xs, vs, 0, hx => by simpa using hx
 | x :: xs, vs, n + 1, hx => by
  simp only [CellsV] at hx
  obtain ⟨v, r, rfl, _, h3⟩ := hx
  simpa using CellsV.drop n h3
theorem CellsV.take : ∀ {l : List CV} {vs : List Value} (n : Nat), CellsV h S l vs → CellsV h S (l.take n) (vs.take n)
 | [], vs, n, hx => by simp [CellsV] at hx; simp [hx, CellsV]
 | x :: xs, vs, 0, hx => by simp [CellsV]
 | x :: xs, vs, n + 1, hx => by
  simp only [CellsV] at hx
  obtain ⟨v, r, rfl, h2, h3⟩ := hx
  simp only [List.take_succ_cons, CellsV]
  exact ⟨v, _, rfl, h2, CellsV.take n h3⟩
theorem CellsV.append : ∀ {l m : List CV} {vs us : List Value}, CellsV h S l vs → CellsV h S m us → CellsV h S (l ++ m) (vs ++ us)
 | [], m, vs, us, hx, hy => by simp [CellsV] at hx; simpa [hx] using hy
 | x :: xs, m, vs, us, hx, hy => by
  simp only [CellsV] at hx
  obtain ⟨v, r, rfl, h2, h3⟩ := hx
  simp only [List.cons_append, CellsV]
  exact ⟨v, _, rfl, h2, CellsV.append h3 hy⟩
theorem CellsV.one : ∀ {l : List CV} {vs : List Value}, CellsV h S l vs → ∀ v ∈ vs, v.oneCell' = true
 | [], vs, hx => by simp [CellsV] at hx; simp [hx]
 | x :: xs, vs, hx => by
  simp only [CellsV] at hx
  obtain ⟨v, r, rfl, h2, h3⟩ := hx
  intro u hu
  rcases List.mem_cons.1 hu with rfl | hu
  ·exact CVR.one h2
  ·exact CellsV.one h3 u hu
theorem CellsV.mono {h' : Array Obj} {S' : Nat → Prop} (hm : ∀ B off v, ¬ S B → cellAt h B off = some v → ¬ S' B ∧ cellAt h' B off = some v) :
  ∀ {l : List CV} {vs : List Value}, CellsV h S l vs → CellsV h' S' l vs :=
 fun {l} {_} h => CellsV.monoX hm l h
theorem etaR_spec : ∀ (n d : Nat) {l : List CV} {vs : List Value}, CellsV h S l vs → d + n ≤ l.length → AVRs h S κ (etaR l d n) ((vs.drop d).take n)
 | 0, d, l, vs, _, _ => by simp [etaR, AVRs]
 | n + 1, d, l, vs, hx, hl => by
  have hv := hx.len
  have hd : d < vs.length := by omega
  have e1 : (vs.drop d).take (n + 1) = vs[d] :: (vs.drop (d + 1)).take n := by
   rw [List.drop_eq_getElem_cons hd, List.take_succ_cons]
  rw [e1]
  simp only [etaR, AVRs]
  refine ⟨_, _, rfl, ?_, etaR_spec n (d + 1) hx (by omega)⟩
  have h2 := hx.drop d
  rw [List.drop_eq_getElem_cons hd, List.drop_eq_getElem_cons (show d < l.length by omega)] at h2
  simp only [CellsV] at h2
  obtain ⟨v, r, he, h3, _⟩ := h2
  injection he with he1 he2
  simp only [AVR]
  rw [List.getD_eq_getElem?_getD, List.getElem?_eq_getElem (show d < l.length by omega), he1]
  exact h3
theorem CellsV_etaR {l : List CV} {vs : List Value} {n : Nat} (hx : CellsV h S l vs) (hl : n ≤ l.length) : AVRs h S κ (etaR l 0 n) (vs.take n) := by
 have := etaR_spec (κ := κ) n 0 hx (by omega)
 simpa using this
end
section
variable {P : Program}
theorem run_loadVar {T : TypeId} {d : TyD} (ht : TyR P T d) (hn : d.k ≠ .unknown) (w : World) {B off : Nat} {cs : List Value} (hl : cs.length = d.size)
  (hc : ∀ j v, cs[j]? = some v → cellAt w.heap B (off + j) = some v) {S : Nat → Prop} {κ : Nat → Bind} {l : List AV} (hr : AVRs w.heap S κ l cs) {K : AV → Prop} (hk : wrapAgg d.k l K) :
  ∃ v x, (∀ w2 : World, (∀ j, j < d.size → cellAt w2.heap B (off + j) = cellAt w.heap B (off + j)) → (loadVar T ⟨B, off, none⟩).run P w2 = .ok v w2) ∧ K x ∧ AVR w.heap S κ x v ∧ ∀ j, j < d.size → ∃ v, cellAt w.heap B (off + j) = some v := by
 have hcx : ∀ j, j < d.size → ∃ v, cellAt w.heap B (off + j) = some v := fun j hj => ⟨cs[j]'(by omega), hc j _ (List.getElem?_eq_getElem (by omega))⟩
 have hc' : ∀ w2 : World, (∀ j, j < d.size → cellAt w2.heap B (off + j) = cellAt w.heap B (off + j)) → ∀ j v, cs[j]? = some v → w2.cell? ((⟨B, off, none⟩ : Addr).add j) = some v := fun w2 hsame j v hv => by
  have := hc j v hv
  rw [← hsame j (by have := (List.getElem?_eq_some_iff.1 hv).1; omega)] at this
  rw [Addr.add_lit]
  simp only [cellAt] at this
  simp only [World.cell?, Option.isSome_none, Bool.false_eq_true, if_false]
  split at this <;> simp_all
 have hcells := fun (w2 : World) hsame => run_loadCells_list (P := P) w2 ⟨B, off, none⟩ cs (hc' w2 hsame)
 obtain ⟨i, z, hi, hsz, _⟩ := ht.info
 have hu := ht.und
 cases hd : d.k with
 | struct fs =>
  simp only [hd] at hu
  obtain ⟨F, hF, _⟩ := hu
  simp only [hd, wrapAgg] at hk
  refine ⟨.agg cs.toArray, .agg l, fun w2 hs2 => ?_, hk, by simp only [AVR]; exact ⟨_, rfl, by simpa using hr⟩, hcx⟩
  replace hcells := hcells w2 hs2
  rw [hl, ← hsz] at hcells
  simp [loadVar, isAgg, run_underlying hF, sizeOf, typeInfo, hi, hcells]
 | array n e =>
  simp only [hd] at hu
  simp only [hd, wrapAgg] at hk
  refine ⟨.agg cs.toArray, .agg l, fun w2 hs2 => ?_, hk, by simp only [AVR]; exact ⟨_, rfl, by simpa using hr⟩, hcx⟩
  replace hcells := hcells w2 hs2
  rw [hl, ← hsz] at hcells
  simp [loadVar, isAgg, run_underlying hu, sizeOf, typeInfo, hi, hcells]
 | unknown => exact absurd hd hn
 | _ =>
  simp only [hd] at hu
  simp only [hd, wrapAgg] at hk
  split at hk
  ·rename_i x
   obtain ⟨v, rfl, hv⟩ := hr.one
   refine ⟨v, x, fun w2 hs2 => ?_, hk, hv, hcx⟩
   have h0 := hc' w2 hs2 0 v (by simp)
   have h0' : w2.cell? ⟨B, off, none⟩ = some v := by simpa [Addr.add] using h0
   first
    | simp [loadVar, isAgg, run_underlying hu, h0']
    | (obtain ⟨ms, hu⟩ := hu; simp [loadVar, isAgg, run_underlying hu, h0']; done)
    | (obtain ⟨u, hu, hn⟩ := hu; cases u <;> simp_all [loadVar, isAgg, run_underlying hu, h0'])
  ·exact hk.elim
theorem cellAt_of {w : World} {B : Nat} {c : Array Value} {el : TypeId} {f : Nat × Nat} (hB : w.heap[B]? = some (.cells c el f)) (j : Nat) : cellAt w.heap B j = c[j]? := by simp [cellAt, hB]
theorem flatten_at : ∀ {es : List (List CV)} {sz k : Nat} {r : List CV}, (∀ e ∈ es, e.length = sz) → es[k]? = some r → (es.flatten.drop (k * sz)).take sz = r
 | [], _, _, _, _, h => by simp at h
 | e :: es, sz, 0, r, hl, h => by
  simp at h; subst h
  have := hl e (by simp)
  simp [← this]
 | e :: es, sz, k + 1, r, hl, h => by
  have h1 := hl e (by simp)
  have ih := flatten_at (k := k) (r := r) (fun x hx => hl x (List.mem_cons_of_mem _ hx)) (by simpa using h)
  rw [List.flatten_cons, Nat.add_mul, Nat.one_mul, Nat.add_comm (k * sz) sz, ← List.drop_drop, ← h1, List.drop_left, h1]
  exact ih
theorem flatten_len : ∀ {es : List (List CV)} {sz : Nat}, (∀ e ∈ es, e.length = sz) → es.flatten.length = es.length * sz
 | [], _, _ => by simp
 | e :: es, sz, hl => by
  rw [List.flatten_cons, List.length_append, hl e (by simp), flatten_len (fun x hx => hl x (List.mem_cons_of_mem _ hx)), List.length_cons, Nat.add_mul, Nat.one_mul, Nat.add_comm]
theorem RowsR.at : ∀ {es : List (List CV)} {h : Array Obj} {S : Nat → Prop} {B off sz k : Nat} {r : List CV}, RowsR h S es B off → (∀ e ∈ es, e.length = sz) → es[k]? = some r → CellsR h S r B (off + k * sz)
 | [], _, _, _, _, _, _, _, _, _, h => by simp at h
 | e :: es, _, _, B, off, sz, 0, r, hr, _, h => by
  simp at h; subst h
  simp only [RowsR] at hr
  simpa using hr.1
 | e :: es, _, _, B, off, sz, k + 1, r, hr, hl, h => by
  simp only [RowsR] at hr
  have h1 := hl e (by simp)
  have ih := RowsR.at (k := k) (r := r) hr.2 (fun x hx => hl x (List.mem_cons_of_mem _ hx)) (by simpa using h)
  rw [h1] at ih
  rwa [show off + (k + 1) * sz = off + sz + k * sz by rw [Nat.add_mul]; omega]
def entOf : AV → Option Nat
 | .ptr i _ => some i
 | .elt i _ _ _ => some i
 | .own i => some i
 | .when _ _ v => entOf v
 | _ => none
def LoadSame (n : Nat) (u : Value) (w w2 : World) : Prop := ∀ B off, u = .pointer (some ⟨B, off, none⟩) → ∀ j, j < n → cellAt w2.heap B (off + j) = cellAt w.heap B (off + j)
def Src (w : World) (S : Nat → Prop) (κ : Nat → Bind) (H : HP) (q : Option Nat) (u : Value) (n : Nat) : Prop :=
 ∀ B off, u = .pointer (some ⟨B, off, none⟩) → ∀ j, j < n → (¬ S B ∨ ∃ i, q = some i ∧ ownAt κ H i = some B) ∧ ∃ v, cellAt w.heap B (off + j) = some v
def SlSame (u : Value) (w w2 : World) : Prop := ∀ B off len cap, u = .slice (some ⟨B, off, none⟩) len cap → ∀ j, j < len → cellAt w2.heap B (off + j) = cellAt w.heap B (off + j)
def SlSrc (w : World) (S : Nat → Prop) (κ : Nat → Bind) (H : HP) (q : Option Nat) (u : Value) : Prop :=
 ∀ B off len cap, u = .slice (some ⟨B, off, none⟩) len cap → ∀ j, j < len → (¬ S B ∨ ∃ i, q = some i ∧ ownAt κ H i = some B) ∧ ∃ v, cellAt w.heap B (off + j) = some v
theorem CellsR.notS : ∀ {l : List CV} {h : Array Obj} {S : Nat → Prop} {B off : Nat}, CellsR h S l B off → 0 < l.length → ¬ S B
 | [], _, _, _, _, _, hl => by simp at hl
 | x :: xs, _, _, _, _, h, _ => by simp only [CellsR] at h; exact h.1.1
theorem loadK_spec {E : Env} (he : EnvOk P E) {w : World} {S : Nat → Prop} {κ : Nat → Bind} {H : HP} (hh : HR w.heap S κ H) {T : TypeId} {p : AV} {u : Value}
  (hp : AVR w.heap S κ p u) {K : AV → Prop} (hk : loadK E H T p K) : ∃ v x, (∀ w2, LoadSame (E.ty T).size u w w2 → (Instr.loadAt T u).run P w2 = .ok v w2) ∧ K x ∧ AVR w.heap S κ x v ∧ Src w S κ H (entOf p) u (E.ty T).size := by
 simp only [loadK] at hk
 replace hk := tyK_spec he hk
 obtain ⟨ht, hn, hk⟩ := hk
 have close : ∀ {B off : Nat} {q : Option Nat}, (0 < (E.ty T).size → ¬ S B ∨ ∃ i, q = some i ∧ ownAt κ H i = some B) →
   (∃ v x, (∀ w2 : World, (∀ j, j < (E.ty T).size → cellAt w2.heap B (off + j) = cellAt w.heap B (off + j)) → (loadVar T ⟨B, off, none⟩).run P w2 = .ok v w2) ∧ K x ∧ AVR w.heap S κ x v ∧ ∀ j, j < (E.ty T).size → ∃ v, cellAt w.heap B (off + j) = some v) →
   ∃ v x, (∀ w2, LoadSame (E.ty T).size (.pointer (some ⟨B, off, none⟩)) w w2 → (Instr.loadAt T (.pointer (some ⟨B, off, none⟩))).run P w2 = .ok v w2) ∧ K x ∧ AVR w.heap S κ x v ∧ Src w S κ H q (.pointer (some ⟨B, off, none⟩)) (E.ty T).size := by
  rintro B off q hq ⟨v, x, h1, h2, h3, h4⟩
  refine ⟨v, x, fun w2 hs => ?_, h2, h3, fun B' off' he j hj => ?_⟩
  ·have := h1 w2 (hs B off rfl)
   simpa [Instr.loadAt, Instr.sureAddr] using this
  ·injection he with he
   injection he with he
   injection he with e1 e2
   subst e1 e2
   exact ⟨hq (by omega), h4 j hj⟩
 cases p <;> simp only at hk
 case ptr i off =>
  replace hk := getK_spec hk
  obtain ⟨e, hi, hk⟩ := hk
  cases e <;> try simp only at hk
  case box l =>
   replace hk := takeK_spec hk
   obtain ⟨h1, hk⟩ := hk
   simp only [AVR] at hp
   obtain ⟨B, hB, rfl⟩ := hp
   have hent := hh.ent i _ hi
   rw [hB] at hent
   simp only [EntR, reduceCtorEq, false_or] at hent
   obtain ⟨B', c, el, he', hc, hr⟩ := hent
   cases he'
   have hlen := hr.len
   refine close (fun _ => .inr ⟨i, rfl, by rw [ownAt, hi]; simp [hB, owns]⟩) ?_
   exact run_loadVar ht hn w (B := B) (off := off) (cs := (c.toList.drop off).take (E.ty T).size) (by simp; simp at hlen; omega)
    (fun j v hv => by
     rw [cellAt_of hc]
     rw [List.getElem?_take] at hv
     split at hv
     ·rw [List.getElem?_drop] at hv; simpa using hv
     ·cases hv) ((hr.drop off).take _) hk
 case rd l =>
  obtain ⟨h1, hk⟩ := hk
  simp only [AVR] at hp
  obtain ⟨B, off, rfl, hc⟩ := hp
  obtain ⟨vs, h2, h3⟩ := hc.vals
  refine close (fun h0 => .inl (hc.notS (by omega))) ?_
  exact run_loadVar ht hn w (B := B) (off := off) (cs := vs.take (E.ty T).size) (by simp; have := h2.len; omega)
   (fun j v hv => by
    rw [List.getElem?_take] at hv
    split at hv
    ·exact h3 j v hv
    ·cases hv) (CellsV_etaR (κ := κ) h2 h1) hk
 case elt i sz k j =>
  replace hk := getK_spec hk
  obtain ⟨e, hi, hk⟩ := hk
  simp only [AVR] at hp
  obtain ⟨B, o, len, cap, hB, rfl⟩ := hp
  have hent := hh.ent i _ hi
  rw [hB] at hent
  have fin : ∀ (r : List CV) (vs : List Value), CellsV w.heap S r vs → (∀ q v, vs[q]? = some v → cellAt w.heap B (o + k * sz + q) = some v) → j + (E.ty T).size ≤ r.length →
    wrapAgg (E.ty T).k (etaR r j (E.ty T).size) K → ∃ v x, (∀ w2 : World, (∀ q, q < (E.ty T).size → cellAt w2.heap B (o + k * sz + j + q) = cellAt w.heap B (o + k * sz + j + q)) → (loadVar T ⟨B, o + k * sz + j, none⟩).run P w2 = .ok v w2) ∧ K x ∧ AVR w.heap S κ x v ∧ ∀ q, q < (E.ty T).size → ∃ v, cellAt w.heap B (o + k * sz + j + q) = some v := fun r vs h2 h3 hl hk =>
   run_loadVar ht hn w (B := B) (off := o + k * sz + j) (cs := (vs.drop j).take (E.ty T).size) (by simp; have := h2.len; omega)
    (fun q v hv => by
     rw [List.getElem?_take] at hv
     split at hv
     ·rw [List.getElem?_drop] at hv
      have := h3 _ v hv
      rwa [show o + k * sz + j + q = o + k * sz + (j + q) by omega]
     ·cases hv) (etaR_spec _ _ h2 hl) hk
  cases e <;> try simp only at hk
  case row el s byt es =>
   split at hk
   ·rename_i hs
    replace hk : ∃ r, es[k]? = some r ∧ j + (E.ty T).size ≤ r.length ∧ wrapAgg (E.ty T).k (etaR r j (E.ty T).size) K := by
     split at hk
     ·rename_i _ hb
      obtain ⟨b, ⟨r, h1, h2⟩, hk⟩ := hk
      have hsz : (E.ty T).size = 1 := by
       obtain ⟨i1, hi1, hz1⟩ := ht.one (.bool false) (by rw [hb]; rfl)
       obtain ⟨i2, z, hi2, _, _, hz2, hzc, _, hzl⟩ := ht.info
       rw [hi1] at hi2
       injection hi2 with hi2
       subst hi2
       rw [hz1] at hz2
       injection hz2 with hz2
       subst hz2
       rw [← hzl, ← hzc]
       rfl
      have hj := (List.getElem?_eq_some_iff.1 h2).1
      refine ⟨r, h1, by omega, ?_⟩
      rw [hsz, hb]
      simp only [etaR, wrapAgg]
      rw [List.getD_eq_getElem?_getD, h2]
      exact hk
     ·exact hk
    obtain rfl := Nat.eq_of_beq_eq_true hs
    obtain ⟨r, hr, hl, hk⟩ := hk
    simp only [EntR, reduceCtorEq, false_or] at hent
    obtain ⟨v, xs, hv, hrow, _, hall, hcv⟩ := hent
    injection hv with hv
    obtain ⟨hxl, hrow⟩ := hrow
    rcases hrow with ⟨hv2, _⟩ | ⟨g, cap', cur, hv2, _, hg, hn', _, hcs, htake⟩
    ·rw [← hv] at hv2; cases hv2
    ·obtain ⟨fz, hg, _⟩ := hg
     rw [← hv] at hv2
     injection hv2 with e1 e2 e3
     injection e1 with e1
     injection e1 with e1 e4
     subst e1 e4
     have hk1 : k < es.length := (List.getElem?_eq_some_iff.1 hr).1
     have hrl : r.length = s := hall r (List.mem_of_getElem? hr)
     have h2 : CellsV w.heap S r ((xs.drop (k * s)).take s) := by
      have := (hcv.drop (k * s)).take s
      rwa [flatten_at hall hr] at this
     have := fin r _ h2 (fun q v hv => by
      rw [cellAt_of hg]
      rw [List.getElem?_take] at hv
      split at hv
      ·rw [List.getElem?_drop, ← htake, List.getElem?_take] at hv
       split at hv
       ·simpa using hv
       ·cases hv
      ·cases hv) hl hk
     exact close (fun _ => .inr ⟨i, rfl, by rw [ownAt, hi]; simp [hB, owns]⟩) this
   ·exact hk.elim
  case frz x =>
   cases x <;> try simp only at hk
   case sl s byt es =>
    split at hk
    ·rename_i hs
     obtain rfl := Nat.eq_of_beq_eq_true hs
     obtain ⟨r, hr, hl, hk⟩ := hk
     simp only [EntR, reduceCtorEq, false_or] at hent
     obtain ⟨v, hv, hx⟩ := hent
     injection hv with hv
     subst hv
     simp only [CVR] at hx
     obtain ⟨a, len', cap', hv2, _, _, _, hall, _, hrd⟩ := hx
     injection hv2 with e1 e2 e3
     obtain ⟨_, hrows⟩ := (hrd _ e1.symm).resolve_left (by rintro rfl; simp at hr)
     have hcr := RowsR.at hrows hall hr
     obtain ⟨vs, h2, h3⟩ := hcr.vals
     exact close (fun h0 => .inl (hcr.notS (by omega))) (fin r vs h2 h3 hl hk)
    ·exact hk.elim
end
end Go.Tr
/- The engine, part 5: operations that turn no memory. -/
namespace Go.Tr
theorem gd_out {ch : Ch} {g : Bool} {p : Prop} (hg : g = true) (h : gd ch g p) : p := by
 unfold gd at h
 split at h
 ·exact h
 ·exact h hg
theorem gd_in {ch : Ch} {g : Bool} {p : Prop} (h : p) : gd ch g p := by
 unfold gd
 split
 ·exact h
 ·exact fun _ => h
theorem gd_no {x : Nat × Bool} {ch : Ch} {g : Bool} {p : Prop} (h : g = false) : gd (x :: ch) g p := by
 unfold gd
 intro h2
 rw [h] at h2; cases h2
theorem wrap_in {n : Int} (h : inR n) : IntKind.i64.wrap n = n := by
 obtain ⟨h1, h2⟩ := h
 have e : IntKind.i64.wrap n = if n % 18446744073709551616 ≥ 9223372036854775808 then n % 18446744073709551616 - 18446744073709551616 else n % 18446744073709551616 := by
  simp [IntKind.wrap, IntKind.signed, IntKind.bits]
 rw [e]
 split <;> omega
theorem AVR_bool {h : Array Obj} {S : Nat → Prop} {κ : Nat → Bind} {e : Bool} : AVR h S κ (.c (.bool e)) (.bool e) := by simp [AVR, CVR]
theorem AVR_int {h : Array Obj} {S : Nat → Prop} {κ : Nat → Bind} {k : IntKind} {n : Int} : AVR h S κ (.c (.int k n)) (.int k n) := by simp [AVR, CVR]
section
variable {P : Program} {E : Env} {w : World} {S : Nat → Prop} {κ : Nat → Bind} {H : HP}
theorem run_equal_bool {T : TypeId} (hu : P.underlying T = some .bool) (m n : Bool) (w : World) : (Op.equal T (.bool m) (.bool n)).run P w = .ok (m == n) w := by
 have h1 : ∀ d, (Op.equalIn (d + 1) T (.bool m) (.bool n)).run P w = .ok (m == n) w := fun d => by simp [Op.equalIn, run_underlying hu]
 exact h1 9999
theorem toList_inj {m n : ByteArray} (h : m.toList = n.toList) : m = n := by
 rw [ByteArray.toList_eq, ByteArray.toList_eq] at h
 exact ByteArray.ext (Array.ext' h)
theorem binK_spec (he : EnvOk P E) {op : BinOp} {T : TypeId} {ch : Ch} {g : Bool} (hg : g = true) {a b : AV} {u v : Value} {x y : Operand} (ha : AVR w.heap S κ a u) (hb : AVR w.heap S κ b v) {K : AV → Prop}
  (hk : binK E op T ch g a b K) : ∃ r z, (∀ w2 : World, (do eqGuard op T x y u v; binOp op T u v : Sem Value).run P w2 = .ok r w2) ∧ K z ∧ AVR w.heap S κ z r := by
 unfold binK at hk
 split at hk
 ·rename_i m n
  simp only [AVR, CVR] at ha hb
  subst ha hb
  cases op <;> try exact hk.elim
  case add =>
   cases hw : E.wr <;> simp only [hw] at hk
   ·have h1 := wrap_in (gd_out hg hk.1)
    exact ⟨.int .i64 (m + n), _, fun w2 => by simp [eqGuard, binOp, Op.intArith, h1], hk.2, by simp [AVR, CVR]⟩
   ·exact ⟨.int .i64 (IntKind.i64.wrap (m + n)), _, fun w2 => by simp [eqGuard, binOp, Op.intArith], hk, by simp [AVR, CVR]⟩
  case sub =>
   cases hw : E.wr <;> simp only [hw] at hk
   ·have h1 := wrap_in (gd_out hg hk.1)
    exact ⟨.int .i64 (m - n), _, fun w2 => by simp [eqGuard, binOp, Op.intArith, h1], hk.2, by simp [AVR, CVR]⟩
   ·exact ⟨.int .i64 (IntKind.i64.wrap (m - n)), _, fun w2 => by simp [eqGuard, binOp, Op.intArith], hk, by simp [AVR, CVR]⟩
  case mul =>
   cases hw : E.wr <;> simp only [hw] at hk
   ·have h1 := wrap_in (gd_out hg hk.1)
    exact ⟨.int .i64 (m * n), _, fun w2 => by simp [eqGuard, binOp, Op.intArith, h1], hk.2, by simp [AVR, CVR]⟩
   ·exact ⟨.int .i64 (IntKind.i64.wrap (m * n)), _, fun w2 => by simp [eqGuard, binOp, Op.intArith], hk, by simp [AVR, CVR]⟩
  case rem =>
   have h1 := gd_out hg hk.1
   exact ⟨.int .i64 (m.tmod n), _, fun w2 => by simp [eqGuard, binOp, Op.intDiv, h1], hk.2, by simp [AVR, CVR]⟩
  case quo =>
   obtain ⟨h1, h2⟩ := gd_out hg hk.1
   have h3 : n ≠ 0 := by omega
   exact ⟨.int .i64 (m.tdiv n), _, fun w2 => by simp [eqGuard, binOp, Op.intDiv, h3, wrap_in h2], hk.2, by simp [AVR, CVR]⟩
  case shl =>
   have h1 : ¬ n < 0 := by have := gd_out hg hk.1; omega
   exact ⟨.int .i64 (IntKind.i64.wrap (m * 2 ^ (min n.toNat 64))), _, fun w2 => by simp [eqGuard, binOp, Op.shift, h1, IntKind.bits], hk.2, by simp [AVR, CVR]⟩
  case shr =>
   have h1 : ¬ n < 0 := by have := gd_out hg hk.1; omega
   exact ⟨.int .i64 (m.fdiv (2 ^ (min n.toNat 64))), _, fun w2 => by simp [eqGuard, binOp, Op.shift, h1, IntKind.bits], hk.2, by simp [AVR, CVR]⟩
  all_goals
   refine ⟨_, _, fun w2 => ?_, hk, AVR_bool⟩
   simp [eqGuard, binOp, Op.intCmp]
  all_goals first | rfl | skip
 ·rename_i m n
  simp only [AVR, CVR] at ha hb
  subst ha hb
  cases op <;> try exact hk.elim
  case shl =>
   have h1 : ¬ n < 0 := by have := gd_out hg hk.1; omega
   exact ⟨.int .i64 (IntKind.i64.wrap (m * 2 ^ (min n.toNat 64))), _, fun w2 => by simp [eqGuard, binOp, Op.shift, h1, IntKind.bits], hk.2, by simp [AVR, CVR]⟩
  case shr =>
   have h1 : ¬ n < 0 := by have := gd_out hg hk.1; omega
   exact ⟨.int .i64 (m.fdiv (2 ^ (min n.toNat 64))), _, fun w2 => by simp [eqGuard, binOp, Op.shift, h1, IntKind.bits], hk.2, by simp [AVR, CVR]⟩
 ·rename_i m n
  simp only [AVR, CVR] at ha hb
  subst ha hb
  cases op <;> try exact hk.elim
  case rem =>
   have h1 := gd_out hg hk.1
   exact ⟨.int .u64 (m.tmod n), _, fun w2 => by simp [eqGuard, binOp, Op.intDiv, h1], hk.2, by simp [AVR, CVR]⟩
 ·rename_i m n
  simp only [AVR, CVR] at ha hb
  subst ha hb
  replace hk := tyK_spec he hk
  obtain ⟨ht, hn, hk⟩ := hk
  split at hk
  ·rename_i hd
   have hu := ht.und
   simp only [hd] at hu
   cases op <;> try exact hk.elim
   all_goals
    refine ⟨_, _, fun w2 => ?_, hk, AVR_bool⟩
    have h1 := run_equal_bool (P := P) hu m n w2
    simp only [eqGuard, binOp, Sem.run_bind, h1, Result.andThen]
    simp [h1]
  ·exact hk.elim
 ·rename_i m n
  simp only [AVR, CVR] at ha hb
  subst ha hb
  cases op <;> try exact hk.elim
  all_goals
   refine ⟨_, _, fun w2 => ?_, hk, AVR_bool⟩
   simp [eqGuard, binOp, Op.intCmp]
  all_goals first | rfl | skip
 ·rename_i m n
  simp only [AVR, CVR] at ha hb
  subst ha hb
  have heq : (m.toList == n.toList) = decide (m = n) := by
   rw [Bool.eq_iff_iff, beq_iff_eq, decide_eq_true_eq]
   exact ⟨fun h => toList_inj h, fun h => by rw [h]⟩
  cases op <;> try exact hk.elim
  case add =>
   have h1 := gd_out hg hk.1
   have h2 : ¬ (((m.size + n.size : Nat) : Int) > IntKind.i64.max) := by
    rw [show IntKind.i64.max = 9223372036854775807 by decide]
    omega
   exact ⟨.string (m ++ n), _, fun w2 => by simp only [eqGuard, binOp, Op.stringOp]; rw [if_neg h2]; simp, hk.2, by simp [AVR, CVR]⟩
  all_goals
   refine ⟨_, _, fun w2 => ?_, hk, AVR_bool⟩
   simp [eqGuard, binOp, Op.stringOp, heq]
 ·rename_i sz byt es
  replace hk := tyK_spec he hk
  obtain ⟨ht, hn, hk⟩ := hk
  simp only [AVR, CVR] at ha hb
  obtain ⟨ad, len, cap, rfl, _, _, _, _, h6, _⟩ := ha
  subst hb
  split at hk
  ·rename_i e0 hd
   have hu := ht.und
   simp only [hd] at hu
   have h1 : ∀ w2 : World, (Op.equal T (.slice ad len cap) (.slice none 0 0)).run P w2 = .ok ad.isNone w2 := fun w2 => by
    have h2 : ∀ d, (Op.equalIn (d + 1) T (.slice ad len cap) (.slice none 0 0)).run P w2 = .ok ad.isNone w2 := fun d => by
     cases ad <;> simp [Op.equalIn, run_underlying hu]
    exact h2 9999
   cases op <;> try exact hk.elim
   case eql =>
    refine ⟨_, _, fun w2 => ?_, hk ad.isNone (fun h => (h6 (by simpa using h)).1), AVR_bool⟩
    simp only [eqGuard, binOp, Sem.run_bind, h1, Result.andThen]
    simp [h1]
   case neq =>
    refine ⟨_, _, fun w2 => ?_, hk (!ad.isNone) (fun h => (h6 (by simpa using h)).1), AVR_bool⟩
    simp only [eqGuard, binOp, Sem.run_bind, h1, Result.andThen]
    simp [h1]
  ·exact hk.elim
 ·replace hk := tyK_spec he hk
  obtain ⟨ht, hn, hk⟩ := hk
  simp only [AVR] at ha hb
  subst ha hb
  split at hk
  ·rename_i e0 hd
   have hu := ht.und
   simp only [hd] at hu
   have h1 : ∀ w2 : World, (Op.equal T (.slice none 0 0) (.slice none 0 0)).run P w2 = .ok true w2 := fun w2 => by
    have h2 : ∀ d, (Op.equalIn (d + 1) T (.slice none 0 0) (.slice none 0 0)).run P w2 = .ok true w2 := fun d => by
     simp [Op.equalIn, run_underlying hu]
    exact h2 9999
   cases op <;> try exact hk.elim
   case eql =>
    refine ⟨_, _, fun w2 => ?_, hk, AVR_bool⟩
    simp only [eqGuard, binOp, Sem.run_bind, h1, Result.andThen]
    simp [h1]
   case neq =>
    refine ⟨_, _, fun w2 => ?_, hk, AVR_bool⟩
    simp only [eqGuard, binOp, Sem.run_bind, h1, Result.andThen]
    simp [h1]
  ·exact hk.elim
 ·exact hk.elim
theorem fieldK_spec (he : EnvOk P E) {T : TypeId} {f : Nat} {p : AV} {u : Value} (hp : AVR w.heap S κ p u) {K : AV → Prop} (hk : fieldK E T p f K) :
  ∃ r z, (∀ w2 : World, (Instr.fieldAt T u f).run P w2 = .ok r w2) ∧ K z ∧ AVR w.heap S κ z r := by
 unfold fieldK at hk
 replace hk := tyK_spec he hk
 obtain ⟨ht, hn, hk⟩ := hk
 split at hk
 ·rename_i fs hd
  have hu := ht.und
  simp only [hd] at hu
  obtain ⟨F, hF, hfs, _⟩ := hu
  split at hk
  ·rename_i o G ho
   replace hk := tyK_spec he hk
   obtain ⟨ht2, _, hk⟩ := hk
   rw [hfs, List.getElem?_map] at ho
   simp only [Option.map_eq_some_iff] at ho
   obtain ⟨fd, hfd, hfe⟩ := ho
   simp only [Prod.mk.injEq] at hfe
   obtain ⟨rfl, rfl⟩ := hfe
   obtain ⟨i, z, hi, hsz, _⟩ := ht2.info
   have hfd' : F[f]? = some fd := by simpa using hfd
   split at hk
   ·exact hk.elim
   ·rename_i hne
    have hsz0 : i.size ≠ 0 := by rw [hsz]; exact fun h => hne h
    cases p <;> try exact hk.elim
    case ptr k off =>
     simp only [AVR] at hp
     obtain ⟨B, hB, rfl⟩ := hp
     refine ⟨.pointer (some ⟨B, off + fd.offset, none⟩), _, fun w2 => ?_, hk, by simp only [AVR]; exact ⟨B, hB, rfl⟩⟩
     simp [Instr.fieldAt, run_underlying hF, hfd', Instr.sureAddr, fieldPlace, sizeOf, typeInfo, hi, hsz0, Addr.add_lit]
    case rd l =>
     simp only [AVR] at hp
     obtain ⟨B, off, rfl, hc⟩ := hp
     refine ⟨.pointer (some ⟨B, off + fd.offset, none⟩), _, fun w2 => ?_, hk, by simp only [AVR]; exact ⟨B, _, rfl, hc.drop _⟩⟩
     simp [Instr.fieldAt, run_underlying hF, hfd', Instr.sureAddr, fieldPlace, sizeOf, typeInfo, hi, hsz0, Addr.add_lit]
    case elt k sz q j =>
     simp only [AVR] at hp
     obtain ⟨B, o, len, cap, hB, rfl⟩ := hp
     refine ⟨.pointer (some ⟨B, o + q * sz + j + fd.offset, none⟩), _, fun w2 => ?_, hk, by simp only [AVR]; exact ⟨B, o, len, cap, hB, by rw [Nat.add_assoc]; rfl⟩⟩
     simp [Instr.fieldAt, run_underlying hF, hfd', Instr.sureAddr, fieldPlace, sizeOf, typeInfo, hi, hsz0, Addr.add_lit]
  ·exact hk.elim
 ·exact hk.elim
theorem lenK_spec (he : EnvOk P E) (hh : HR w.heap S κ H) {T ty : TypeId} {ch : Ch} {g : Bool} {p : AV} {u : Value} (hp : AVR w.heap S κ p u) {K : AV → Prop} (hk : lenK E H T p ch g K) :
  ∃ r z, (∀ w2 : World, (Builtin.len_ #[T] ty #[u]).run P w2 = .ok r w2) ∧ K z ∧ AVR w.heap S κ z r := by
 unfold lenK at hk
 replace hk := tyK_spec he hk
 obtain ⟨ht, hn, hk⟩ := hk
 split at hk
 ·rename_i e hd
  have hu := ht.und
  simp only [hd] at hu
  have run : ∀ (a : Option Addr) (n c : Nat), (∀ w2 : World, (Builtin.len_ #[T] ty #[.slice a n c]).run P w2 = .ok (.int .i64 n) w2) := fun a n c w2 => by simp [Builtin.len_, run_underlying hu, goInt]
  split at hk
  ·simp only [AVR] at hp
   subst hp
   exact ⟨_, _, run _ _ _, hk, by simp [AVR, CVR]⟩
  ·rename_i sz b es
   simp only [AVR, CVR] at hp
   obtain ⟨a, len, cap, rfl, rfl, _, hb, _⟩ := hp
   exact ⟨_, _, run _ _ _, hk (gd_in hb), by simp [AVR, CVR]⟩
  ·rename_i i
   replace hk := getK_spec hk
   obtain ⟨en, hi, hk⟩ := hk
   simp only [AVR] at hp
   have hent := hh.ent i _ hi
   rw [hp.1] at hent
   split at hk
   ·simp only [EntR, reduceCtorEq, false_or] at hent
    obtain ⟨v, xs, hv, hrow, hb, _⟩ := hent
    injection hv with hv
    subst hv
    rcases hrow.2 with ⟨rfl, h0⟩ | ⟨g, cap', cur, rfl, _⟩
    ·exact ⟨_, _, run _ _ _, hk (gd_in hb), by simp [AVR, CVR, h0]⟩
    ·exact ⟨_, _, run _ _ _, hk (gd_in hb), by simp [AVR, CVR]⟩
   ·simp only [EntR, reduceCtorEq, false_or, CVR] at hent
    obtain ⟨v, hv, a, len, cap, rfl, rfl, _, hb, _⟩ := hent
    injection hv with hv
    subst hv
    exact ⟨_, _, run _ _ _, hk (gd_in hb), by simp [AVR, CVR]⟩
   ·exact hk.elim
  ·exact hk.elim
 ·rename_i hd
  have hu := ht.und
  simp only [hd] at hu
  split at hk
  ·simp only [AVR, CVR] at hp
   subst hp
   exact ⟨_, _, fun w2 => run_len_string w2 T ty _ hu, hk, by simp [AVR, CVR, goInt]⟩
  ·exact hk.elim
 ·exact hk.elim
theorem idxK_spec (he : EnvOk P E) (hh : HR w.heap S κ H) {T : TypeId} {ch : Ch} {g : Bool} (hg : g = true) {p q : AV} {u x : Value} (hp : AVR w.heap S κ p u) (hq : AVR w.heap S κ q x)
  {K : AV → Prop} (hk : idxK E H T p q ch g K) : ∃ r z, (∀ w2 : World, (Instr.indexAt T u x).run P w2 = .ok r w2) ∧ K z ∧ AVR w.heap S κ z r := by
 unfold idxK at hk
 replace hk := tyK_spec he hk
 obtain ⟨ht, hn, hk⟩ := hk
 split at hk
 ·rename_i e hd
  have hu := ht.und
  simp only [hd] at hu
  replace hk := tyK_spec he hk
  obtain ⟨ht2, _, hk⟩ := hk
  obtain ⟨i, z, hi, hsz, _⟩ := ht2.info
  split at hk
  ·rename_i k n
   simp only [AVR, CVR] at hq
   subst hq
   have run : ∀ (B off len cap : Nat), 0 ≤ n → n.toNat < len → ∀ w2 : World, (Instr.indexAt T (.slice (some ⟨B, off, none⟩) len cap) (.int k n)).run P w2 =
     .ok (.pointer (some ⟨B, off + n.toNat * (E.ty e).size, none⟩)) w2 := fun B off len cap h0 h1 w2 => by
    have h2 : 0 ≤ n ∧ n < (len : Int) := ⟨h0, by omega⟩
    simp [Instr.indexAt, asIntOf, run_underlying hu, h2, sizeOf, typeInfo, hi, hsz, Addr.add_lit]
   have pure_ : ∀ (sz b : Nat) (es : List (List CV)) (v : Value), CVR w.heap S (.sl sz b es) v → (match Nat.beq sz (E.ty e).size with | true => ∃ row, gd ch g (0 ≤ n ∧ es[n.toNat]? = some row) ∧ K (.rd row) | false => False) →
     ∃ r z, (∀ w2 : World, (Instr.indexAt T v (.int k n)).run P w2 = .ok r w2) ∧ K z ∧ AVR w.heap S κ z r := fun sz b es v hv hk => by
    split at hk
    ·rename_i hs
     have hs := Nat.eq_of_beq_eq_true hs
     subst hs
     obtain ⟨row, h1, hk⟩ := hk
     obtain ⟨h0, h1⟩ := gd_out hg h1
     simp only [CVR] at hv
     obtain ⟨a, len, cap, rfl, rfl, _, _, hall, hnone, hrd⟩ := hv
     have hlt : n.toNat < es.length := (List.getElem?_eq_some_iff.1 h1).1
     cases a with
     | none => have := (hnone rfl).1; subst this; simp at hlt
     | some ad =>
      obtain ⟨B, off, sp⟩ := ad
      obtain ⟨hsp, hrows⟩ := (hrd _ rfl).resolve_left (by rintro rfl; simp at hlt)
      simp only at hsp hrows
      subst hsp
      exact ⟨_, _, run B off _ cap h0 hlt, hk, by simp only [AVR]; exact ⟨_, _, rfl, RowsR.at hrows hall h1⟩⟩
    ·exact hk.elim
   split at hk
   ·rename_i sz b es
    exact pure_ sz b es _ (by simpa [AVR] using hp) hk
   ·rename_i j
    replace hk := getK_spec hk
    obtain ⟨en, hi', hk⟩ := hk
    simp only [AVR] at hp
    have hent := hh.ent j _ hi'
    rw [hp.1] at hent
    split at hk
    ·rename_i el sz b es
     split at hk
     ·rename_i hs
      have hs := Nat.eq_of_beq_eq_true hs
      obtain ⟨h1, hk⟩ := hk
      obtain ⟨h0, h1⟩ := gd_out hg h1
      simp only [EntR, reduceCtorEq, false_or] at hent
      obtain ⟨v, xs, hv, hrow, hb, _⟩ := hent
      injection hv with hv
      subst hv
      rcases hrow.2 with ⟨_, hz⟩ | ⟨g', cap', cur, rfl, _, _, hlc, _⟩
      ·omega
      ·refine ⟨_, _, run g' 0 _ cap' h0 h1, hk, by simp only [AVR]; exact ⟨g', 0, _, cap', hp.1, by rw [hs]; simp⟩⟩
     ·exact hk.elim
    ·rename_i sz b es
     simp only [EntR, reduceCtorEq, false_or] at hent
     obtain ⟨v, hv, hx⟩ := hent
     injection hv with hv
     subst hv
     exact pure_ sz b es _ hx hk
    ·exact hk.elim
   ·exact hk.elim
  ·exact hk.elim
 ·rename_i m e hd
  have hu := ht.und
  simp only [hd] at hu
  replace hk := tyK_spec he hk
  obtain ⟨ht2, _, hk⟩ := hk
  obtain ⟨i, z, hi, hsz, _⟩ := ht2.info
  split at hk
  ·rename_i k n
   simp only [AVR, CVR] at hq
   subst hq
   have run : ∀ (B off : Nat), 0 ≤ n → n.toNat < m → ∀ w2 : World, (Instr.indexAt T (.pointer (some ⟨B, off, none⟩)) (.int k n)).run P w2 =
     .ok (.pointer (some ⟨B, off + n.toNat * (E.ty e).size, none⟩)) w2 := fun B off h0 h1 w2 => by
    have h2 : 0 ≤ n ∧ n < (m : Int) := ⟨h0, by omega⟩
    simp [Instr.indexAt, Instr.sureAddr, asIntOf, run_underlying hu, h2, sizeOf, typeInfo, hi, hsz, Addr.add_lit]
   split at hk
   ·obtain ⟨h1, hk⟩ := hk
    obtain ⟨h0, h1⟩ := gd_out hg h1
    simp only [AVR] at hp
    obtain ⟨B, hB, rfl⟩ := hp
    exact ⟨_, _, run B _ h0 h1, hk, by simp only [AVR]; exact ⟨B, hB, rfl⟩⟩
   ·obtain ⟨h1, hk⟩ := hk
    obtain ⟨h0, h1⟩ := gd_out hg h1
    simp only [AVR] at hp
    obtain ⟨B, off, len, cap, hB, rfl⟩ := hp
    exact ⟨_, _, run B _ h0 h1, hk, by simp only [AVR]; exact ⟨B, off, len, cap, hB, by rw [Nat.add_assoc]⟩⟩
   ·exact hk.elim
  ·exact hk.elim
 ·exact hk.elim
theorem maxK_spec {T : Array TypeId} {ty : TypeId} {a b : AV} {u v : Value} (ha : AVR w.heap S κ a u) (hb : AVR w.heap S κ b v) {K : AV → Prop} (hk : maxK a b K) :
  ∃ r z, (∀ w2 : World, (Builtin.max_ T ty #[u, v]).run P w2 = .ok r w2) ∧ K z ∧ AVR w.heap S κ z r := by
 unfold maxK at hk
 split at hk
 ·simp only [AVR, CVR] at ha hb
  subst ha hb
  refine ⟨_, _, fun w2 => ?_, hk, AVR_int⟩
  simp [Builtin.max_, Builtin.max2]
 ·exact hk.elim
theorem minK_spec {T : Array TypeId} {ty : TypeId} {a b : AV} {u v : Value} (ha : AVR w.heap S κ a u) (hb : AVR w.heap S κ b v) {K : AV → Prop} (hk : minK a b K) :
  ∃ r z, (∀ w2 : World, (Builtin.min_ T ty #[u, v]).run P w2 = .ok r w2) ∧ K z ∧ AVR w.heap S κ z r := by
 unfold minK at hk
 split at hk
 ·simp only [AVR, CVR] at ha hb
  subst ha hb
  refine ⟨_, _, fun w2 => ?_, hk, AVR_int⟩
  simp [Builtin.min_, Builtin.min2]
 ·exact hk.elim
theorem fold_bytes : ∀ (ns : List Int) (s : ByteArray), ns.foldl (fun r n => r.push (UInt8.ofNat n.toNat)) s = ⟨(s.data.toList ++ ns.map fun n => UInt8.ofNat n.toNat).toArray⟩
 | [], s => by simp
 | n :: ns, s => by
  rw [List.foldl_cons, fold_bytes ns]
  congr 1
  simp [ByteArray.push]
theorem cells_bytes {h : Array Obj} {S : Nat → Prop} : ∀ {ns : List Int} {xs : List Value}, CellsV h S (ns.map (fun n => [CV.int .u8 n])).flatten xs → xs = ns.map (Value.int .u8)
 | [], xs, hx => by simpa [CellsV] using hx
 | n :: ns, xs, hx => by
  simp only [List.map_cons, List.flatten_cons, List.singleton_append, CellsV, CVR] at hx
  obtain ⟨v, r, rfl, rfl, hx⟩ := hx
  rw [cells_bytes hx]
  rfl
theorem convK_spec (he : EnvOk P E) (hh : HR w.heap S κ H) {src dst : TypeId} {a : AV} {u : Value} (ha : AVR w.heap S κ a u) {K : AV → Prop} (hk : convK E H src dst a K) :
  ∃ r z, (∀ w2 : World, SlSame u w w2 → (convert src dst u).run P w2 = .ok r w2) ∧ K z ∧ AVR w.heap S κ z r ∧ SlSrc w S κ H (entOf a) u := by
 unfold convK at hk
 replace hk := tyK_spec he hk
 obtain ⟨ht1, hn1, hk⟩ := hk
 replace hk := tyK_spec he hk
 obtain ⟨ht, hn, hk⟩ := hk
 split at hk
 ·rename_i k k' n hd
  have hu := ht.und
  simp only [hd] at hu
  simp only [AVR, CVR] at ha
  subst ha
  have hs : ∃ d, P.underlying src = some d := by
   have h1 := ht1.und
   split at h1
   all_goals first | exact ⟨_, h1⟩ | (obtain ⟨_, h1, _⟩ := h1; exact ⟨_, h1⟩) | (obtain ⟨_, h1⟩ := h1; exact ⟨_, h1⟩) | (rename_i hx; exact absurd hx hn1)
  obtain ⟨ds, hs⟩ := hs
  refine ⟨_, _, fun w2 _ => ?_, hk, AVR_int, fun B off len cap h => by cases h⟩
  simp [convert, run_underlying hs, run_underlying hu, Conv.intToInt]
 ·rename_i i hd
  have hu := ht.und
  simp only [hd] at hu
  split at hk
  ·rename_i e hds
   have hus := ht1.und
   simp only [hds] at hus
   replace hk := tyK_spec he hk
   obtain ⟨hte, _, hk⟩ := hk
   split at hk
   ·rename_i hde
    have hue := hte.und
    simp only [hde] at hue
    replace hk := getK_spec hk
    obtain ⟨en, hi, hk⟩ := hk
    split at hk
    ·rename_i el sz b es
     obtain ⟨l, hes0, hks0⟩ := hk
     obtain ⟨ns, hes, hks⟩ : ∃ ns : List Int, es = ns.map (fun n => [CV.int .u8 n]) ∧ K (.c (.str ⟨(ns.map fun n => UInt8.ofNat n.toNat).toArray⟩)) := by
      refine ⟨l.map fun b => (b.toNat : Int), by rw [hes0, bR, List.map_map]; rfl, ?_⟩
      rw [List.map_map]
      rw [show ((fun n : Int => UInt8.ofNat n.toNat) ∘ fun b : UInt8 => (b.toNat : Int)) = id from funext fun b => by simp]
      rw [List.map_id]
      exact hks0
     subst hes
     simp only [AVR] at ha
     have hent := hh.ent i _ hi
     rw [ha.1] at hent
     simp only [EntR, reduceCtorEq, false_or] at hent
     obtain ⟨v, xs, hv, hrow, _, _, hcells⟩ := hent
     injection hv with hv
     subst hv
     have hxs := cells_bytes hcells
     rcases hrow.2 with ⟨rfl, hz⟩ | ⟨g, cap, cur, rfl, _, hB, _, _, _, hcur⟩
     ·have hns : ns = [] := by simpa using hz
      subst hns
      refine ⟨_, _, fun w2 _ => ?_, hks, by simp only [AVR, CVR]; rfl, fun B off len cap h => by cases h⟩
      rw [run_convert_bytes_string w2 src dst e none 0 0 hus hue hu]
      simp [Conv.bytesToString, Sem.run_pure]
      rfl
     ·obtain ⟨fz, hB, _⟩ := hB
      have hlen : xs.length = ns.length := by rw [hxs, List.length_map]
      have hcell : ∀ j v, xs[j]? = some v → cellAt w.heap g (0 + j) = some v := fun j v hj => by
       rw [Nat.zero_add, cellAt_of hB]
       rw [← hcur, List.getElem?_take] at hj
       split at hj
       ·simpa using hj
       ·cases hj
      refine ⟨_, _, fun w2 hs => ?_, hks, by simp only [AVR, CVR]; rfl, ?_⟩
      ·rw [run_convert_bytes_string w2 src dst e _ _ _ hus hue hu]
       have hl := run_loadCells_list (P := P) w2 ⟨g, 0, none⟩ xs (fun j v hj => by
        have h1 := hcell j v hj
        rw [← hs g 0 _ cap rfl j (by rw [List.length_map]; have := (List.getElem?_eq_some_iff.1 hj).1; omega)] at h1
        rw [Addr.add_lit]
        simp only [cellAt] at h1
        simp only [World.cell?, Option.isSome_none, Bool.false_eq_true, if_false]
        split at h1 <;> simp_all)
       rw [hlen, hxs] at hl
       have := run_bytesToString w2 ⟨g, 0, none⟩ ns.length cap ns hl
       rw [List.length_map, this, fold_bytes]
       rfl
      ·intro B off len cap' h j hj
       injection h with h1 h2 h3
       injection h1 with h1
       injection h1 with h1 h4
       subst h1 h4 h2
       rw [List.length_map] at hj
       refine ⟨.inr ⟨i, rfl, ?_⟩, xs[j]'(by omega), hcell j _ (List.getElem?_eq_getElem (by omega))⟩
       simp only [ownAt, hi, ha.1, owns]
    ·exact hk.elim
   ·exact hk.elim
  ·exact hk.elim
 ·exact hk.elim
theorem evK_any {tm : TM} {ch : Ch} {x : Operand} {K : AV → Prop} (hk : evK tm ch x K) : ∃ v, K v := by
 cases x with
 | tmp t =>
  simp only [evK, lkK_eq] at hk
  generalize lk tm t = v at hk
  cases v <;> simp only at hk <;> first | exact ⟨_, hk⟩ | (split at hk; exact ⟨_, hk⟩; exact hk.elim)
 | const v => simp only [evK] at hk; split at hk <;> first | (obtain ⟨l, h1⟩ := constK_any hk; exact ⟨_, h1⟩) | exact ⟨_, hk⟩ | exact hk.elim
 | global g => exact hk.elim
 | func f => exact ⟨_, hk⟩
theorem pickB_spec {tm : TM} {a : Act} {ch : Ch} (ht : TR w.heap S κ tm a) (hw : WOk tm a) (hc : chOk a ch) {t : Nat} {e : Bool} (htv : a.tmps.getD t undef = .bool e) {x y : Operand} {K : AV → Prop}
  (hk : pickB tm ch t e x y K) : ∃ z, K z ∧ AVR w.heap S κ z (if e then a.eval x else a.eval y) := by
 simp only [pickB] at hk
 have hc' : chOk a ((t, e) :: ch) := fun p hp => by
  rcases List.mem_cons.1 hp with rfl | hp
  ·exact htv
  ·exact hc p hp
 have fin : ∀ (p q : Bool), pickR e p q x y K → (e = true → a.eval x = .bool p) → (e = false → a.eval y = .bool q) → ∃ z, K z ∧ AVR w.heap S κ z (if e then a.eval x else a.eval y) := by
  clear hk
  intro p q hk h1 h2
  unfold pickR at hk
  split at hk
  ·refine ⟨_, hk, ?_⟩
   cases e
   ·rw [if_neg (by simp), h2 rfl]; exact AVR_bool
   ·rw [if_pos rfl]; exact AVR_bool
  ·refine ⟨_, hk, ?_⟩
   cases e
   ·rw [if_neg (by simp)]; exact AVR_bool
   ·rw [if_pos rfl, h1 rfl]; exact AVR_bool
  ·refine ⟨_, hk, ?_⟩
   cases e
   ·rw [if_neg (by simp), h2 rfl]; exact AVR_bool
   ·rw [if_pos rfl, h1 rfl]; exact AVR_bool
 cases e with
 | true =>
  replace hk := evK_spec ht hw hc' hk
  obtain ⟨u, hk, hu⟩ := hk
  replace hk := evK_any hk
  obtain ⟨v, hk⟩ := hk
  split at hk
  ·rename_i p q
   exact fin p q hk (fun _ => by simpa [AVR, CVR] using hu) (fun h => by cases h)
  ·exact hk.elim
 | false =>
  replace hk := evK_any hk
  obtain ⟨u, hk⟩ := hk
  replace hk := evK_spec ht hw hc' hk
  obtain ⟨v, hk, hv⟩ := hk
  split at hk
  ·rename_i p q
   exact fin p q hk (fun h => by cases h) (fun _ => by simpa [AVR, CVR] using hv)
  ·exact hk.elim
theorem pickK_spec {tm : TM} {a : Act} {ch : Ch} (ht : TR w.heap S κ tm a) (hw : WOk tm a) (hc : chOk a ch) {c x y : Operand} {K : AV → Prop}
  (hk : pickK tm ch c x y K) : ∃ b z, a.eval c = .bool b ∧ K z ∧ AVR w.heap S κ z (if b then a.eval x else a.eval y) := by
 cases c with
 | tmp t =>
  simp only [pickK, lkK_eq] at hk
  have h1 := ht t
  have h2 := hw t
  generalize hv : lk tm t = v at *
  have he : a.eval (.tmp t) = a.tmps.getD t undef := rfl
  cases v with
  | kn b =>
   simp only [AVR] at h1
   cases b with
   | true =>
    replace hk := evK_spec ht hw hc hk
    obtain ⟨z, hk, hz⟩ := hk
    exact ⟨true, z, by rw [he, h1], hk, by simpa using hz⟩
   | false =>
    replace hk := evK_spec ht hw hc hk
    obtain ⟨z, hk, hz⟩ := hk
    exact ⟨false, z, by rw [he, h1], hk, by simpa using hz⟩
  | c q =>
   cases q with
   | bool e =>
    have h3 : a.tmps.getD t undef = .bool e := by simpa [AVR, CVR] using h1
    replace hk := pickB_spec ht hw hc h3 hk
    obtain ⟨z, hk, hz⟩ := hk
    exact ⟨e, z, by rw [he, h3], hk, hz⟩
   | _ => exact hk.elim
  | «when» ch' g q =>
   cases q with
   | c q =>
    cases q with
    | bool e =>
     simp only at hk
     split at hk
     ·rename_i hs
      have hg : g = true := h2 ch' g _ rfl (fun p hp => hc p (sfx_mem hs p hp))
      have h3 : a.tmps.getD t undef = .bool e := by simp only [AVR] at h1; simpa [AVR, CVR] using h1.1 hg
      replace hk := pickB_spec ht hw hc h3 hk
      obtain ⟨z, hk, hz⟩ := hk
      exact ⟨e, z, by rw [he, h3], hk, hz⟩
     ·exact hk.elim
    | _ => exact hk.elim
   | _ => exact hk.elim
  | _ => exact hk.elim
 | _ => exact hk.elim
end
end Go.Tr
/- The engine, part 6: memory that is made, written, frozen. -/
namespace Go.Tr
structure Ext (w : World) (S : Nat → Prop) (κ : Nat → Bind) (w' : World) (S' : Nat → Prop) (κ' : Nat → Bind) : Prop where
 mem : ∀ B off v, ¬ S B → cellAt w.heap B off = some v → ¬ S' B ∧ cellAt w'.heap B off = some v
 bind : ∀ i, κ i ≠ .none → κ' i = κ i
theorem Ext.refl (w : World) (S : Nat → Prop) (κ : Nat → Bind) : Ext w S κ w S κ := ⟨fun _ _ _ h1 h2 => ⟨h1, h2⟩, fun _ _ => rfl⟩
theorem Ext.trans {w w1 w2 : World} {S S1 S2 : Nat → Prop} {κ κ1 κ2 : Nat → Bind} (h : Ext w S κ w1 S1 κ1) (k : Ext w1 S1 κ1 w2 S2 κ2) : Ext w S κ w2 S2 κ2 :=
 ⟨fun B off v h1 h2 => let ⟨a, b⟩ := h.mem B off v h1 h2; k.mem B off v a b, fun i hi => by rw [k.bind i (by rw [h.bind i hi]; exact hi), h.bind i hi]⟩
theorem Ext.avr {w w' : World} {S S' : Nat → Prop} {κ κ' : Nat → Bind} (h : Ext w S κ w' S' κ') {x : AV} {v : Value} (hx : AVR w.heap S κ x v) : AVR w'.heap S' κ' x v := AVR.mono h.mem h.bind x hx
theorem Ext.avrs {w w' : World} {S S' : Nat → Prop} {κ κ' : Nat → Bind} (h : Ext w S κ w' S' κ') {x : List AV} {v : List Value} (hx : AVRs w.heap S κ x v) : AVRs w'.heap S' κ' x v := AVRs.mono h.mem h.bind x hx
theorem Ext.tr {w w' : World} {S S' : Nat → Prop} {κ κ' : Nat → Bind} (h : Ext w S κ w' S' κ') {tm : TM} {a : Act} (hx : TR w.heap S κ tm a) : TR w'.heap S' κ' tm a := fun t => h.avr (hx t)
theorem cellAt_same {h h' : Array Obj} {B : Nat} (e : h'[B]? = h[B]?) (off : Nat) : cellAt h' B off = cellAt h B off := by simp [cellAt, e]
theorem cellAt_lt {h : Array Obj} {B off : Nat} {v : Value} (e : cellAt h B off = some v) : B < h.size := by
 unfold cellAt at e
 rcases Nat.lt_or_ge B h.size with h1 | h1
 ·exact h1
 ·rw [Array.getElem?_eq_none h1] at e; cases e
theorem getElem?_lt {α : Type} {l : List α} {i : Nat} {x : α} (e : l[i]? = some x) : i < l.length := (List.getElem?_eq_some_iff.1 e).1
theorem EntR.mono {h h' : Array Obj} {S S' : Nat → Prop} {κ κ' : Nat → Bind} (hm : ∀ B off v, ¬ S B → cellAt h B off = some v → ¬ S' B ∧ cellAt h' B off = some v)
  (hk : ∀ i, κ i ≠ .none → κ' i = κ i) {e : Ent} {b : Bind} (ho : ∀ B, owns e b = some B → h'[B]? = h[B]?) (he : EntR h S κ e b) : EntR h' S' κ' e b := by
 cases e with
 | box l =>
  simp only [EntR] at he ⊢
  rcases he with he | ⟨B, c, el, rfl, h1, h2⟩
  ·exact .inl he
  ·exact .inr ⟨B, c, el, rfl, by rw [ho B rfl]; exact h1, AVRs.mono hm hk l h2⟩
 | row el sz byt es =>
  simp only [EntR] at he ⊢
  rcases he with he | ⟨v, xs, rfl, h1, h2, h3, h4⟩
  ·exact .inl he
  ·refine .inr ⟨v, xs, rfl, ⟨h1.1, ?_⟩, h2, h3, CellsV.mono hm h4⟩
   rcases h1.2 with h1 | ⟨g, cap, cur, rfl, k1, k2, k3⟩
   ·exact .inl h1
   ·exact .inr ⟨g, cap, cur, rfl, k1, by unfold rowAt at k2 ⊢; rw [ho g rfl]; exact k2, k3⟩
 | frz x =>
  simp only [EntR] at he ⊢
  rcases he with he | ⟨v, rfl, h1⟩
  ·exact .inl he
  ·exact .inr ⟨v, rfl, CVR.mono hm x h1⟩
 | dead => simp only [EntR]
 | lrec st tm ps asg body =>
  simp only [EntR] at he ⊢
  rcases he with he | ⟨l, r, rfl, h1, h2, h3⟩
  ·exact .inl he
  ·refine .inr ⟨l, r, rfl, by rw [ho l rfl]; exact h1, h2, h3.1, h3.2.1, h3.2.2.1, fun t => AVR.mono hm hk _ (h3.2.2.2.1 t), h3.2.2.2.2⟩
 | mp st m =>
  simp only [EntR] at he ⊢
  rcases he with he | ⟨B, es, clock, rfl, h1, h2⟩
  ·exact .inl he
  ·exact .inr ⟨B, es, clock, rfl, by rw [ho B rfl]; exact h1, h2⟩
section
variable {n0 : Nat} {κ0 : Nat → Bind} {w0 w : World} {S0 O0 S : Nat → Prop} {H : HP} {κ : Nat → Bind}
theorem ownAt_some {κ : Nat → Bind} {H : HP} {i B : Nat} (h : ownAt κ H i = some B) : ∃ e, H[i]? = some e ∧ owns e (κ i) = some B := by
 unfold ownAt at h
 split at h
 ·exact ⟨_, by assumption, h⟩
 ·cases h
theorem ownAt_of {κ : Nat → Bind} {H : HP} {i : Nat} {e : Ent} (h : H[i]? = some e) : ownAt κ H i = owns e (κ i) := by simp [ownAt, h]
theorem Mem.kill (hm : Mem n0 κ0 w0 S0 O0 H w S κ) {i : Nat} (hi : i < H.length) : Mem n0 κ0 w0 S0 O0 (H.set i .dead) w S κ ∧ ∀ B, ownAt κ H i = some B → ∀ j, ownAt κ (H.set i .dead) j ≠ some B := by
 have old : ∀ j B, ownAt κ (H.set i .dead) j = some B → j ≠ i ∧ ownAt κ H j = some B := by
  intro j B hj
  obtain ⟨e, h1, h2⟩ := ownAt_some hj
  by_cases hji : j = i
  ·subst hji
   rw [List.getElem?_set_self hi] at h1
   injection h1 with h1
   subst h1
   simp [owns] at h2
  ·rw [List.getElem?_set_ne (Ne.symm hji)] at h1
   exact ⟨hji, by rw [ownAt_of h1]; exact h2⟩
 refine ⟨⟨⟨fun j e hj => ?_, fun j hj => hm.hr.out j (by simpa using hj), fun j B hj => hm.hr.own j B (old j B hj).2, fun j k B hj hk => hm.hr.excl j k B (old j B hj).2 (old k B hk).2, hm.hr.sz⟩, hm.fr, hm.kp, by simpa using hm.len,
  fun j B hj => hm.ow j B (old j B hj).2⟩, fun B hB j hj => ?_⟩
 ·by_cases hji : j = i
  ·subst hji
   rw [List.getElem?_set_self hi] at hj
   injection hj with hj
   subst hj
   simp only [EntR]
  ·rw [List.getElem?_set_ne (Ne.symm hji)] at hj
   exact hm.hr.ent j e hj
 ·obtain ⟨h1, h2⟩ := old j B hj
  exact h1 (hm.hr.excl j i B h2 hB)
def updB (κ : Nat → Bind) (n : Nat) (b : Bind) : Nat → Bind := fun i => if i = n then b else κ i
theorem Mem.push (hm : Mem n0 κ0 w0 S0 O0 H w S κ) {w' : World} (row : Option Nat) (hg : w.grownBy w' row)
  (hrow : ∀ B, row = some B → S B ∧ (∀ j, ownAt κ H j ≠ some B) ∧ (B < w0.heap.size → O0 B)) (e : Ent) (b : Bind)
  (hown : ∀ B, owns e b = some B → (row = some B ∨ w.heap.size ≤ B) ∧ B < w'.heap.size)
  (he : EntR w'.heap (fun B => S B ∨ owns e b = some B) (updB κ H.length b) e b) :
  Mem n0 κ0 w0 S0 O0 (H ++ [e]) w' (fun B => S B ∨ owns e b = some B) (updB κ H.length b) ∧ Ext w S κ w' (fun B => S B ∨ owns e b = some B) (updB κ H.length b) := by
 have hmem : ∀ B off v, ¬ S B → cellAt w.heap B off = some v → ¬ (S B ∨ owns e b = some B) ∧ cellAt w'.heap B off = some v := by
  intro B off v hS hc
  have hlt := cellAt_lt hc
  have hne : row ≠ some B := fun h => hS (hrow B h).1
  refine ⟨fun h => ?_, ?_⟩
  ·rcases h with h | h
   ·exact hS h
   ·rcases (hown B h).1 with h1 | h1
    ·exact hne h1
    ·omega
  ·rw [cellAt_same (hg.block B hlt (fun h => hne h.symm))]; exact hc
 have hbind : ∀ i, κ i ≠ .none → updB κ H.length b i = κ i := by
  intro i hi
  unfold updB
  rw [if_neg]
  intro h
  exact hi (hm.hr.out i (by omega))
 have hlast : ∀ j e', (H ++ [e])[j]? = some e' → (j < H.length ∧ H[j]? = some e') ∨ (j = H.length ∧ e' = e) := by
  intro j e' hj
  rcases Nat.lt_trichotomy j H.length with h1 | h1 | h1
  ·rw [List.getElem?_append_left h1] at hj; exact .inl ⟨h1, hj⟩
  ·subst h1; simp at hj; exact .inr ⟨rfl, hj.symm⟩
  ·rw [List.getElem?_eq_none (by simp; omega)] at hj; cases hj
 have hupd : ∀ j, j < H.length → updB κ H.length b j = κ j := fun j hj => by unfold updB; rw [if_neg (by omega)]
 have hownl : ∀ j B, ownAt (updB κ H.length b) (H ++ [e]) j = some B → (j < H.length ∧ ownAt κ H j = some B) ∨ (j = H.length ∧ owns e b = some B) := by
  intro j B hj
  obtain ⟨e', h1, h2⟩ := ownAt_some hj
  rcases hlast j e' h1 with ⟨h3, h4⟩ | ⟨rfl, rfl⟩
  ·rw [hupd j h3] at h2
   exact .inl ⟨h3, by rw [ownAt_of h4]; exact h2⟩
  ·simp only [updB, if_true] at h2
   exact .inr ⟨rfl, h2⟩
 refine ⟨⟨⟨fun j e' hj => ?_, fun j hj => ?_, fun j B hj => ?_, fun j k B hj hk => ?_, fun B hB => ?_⟩, ⟨hg.os.trans hm.fr.os, hg.tape.trans hm.fr.tape, hg.output.trans hm.fr.output, Nat.le_trans hm.fr.size hg.size, fun B hB hO => ?_, fun B hB h => ?_, fun B hB h1 h2 => .inl (hm.fr.held B hB h1 h2)⟩,
  fun i hi => by rw [hupd i (by have := hm.len; omega)]; exact hm.kp i hi, by simp; have := hm.len; omega, fun j B hj hB => ?_⟩, ⟨hmem, hbind⟩⟩
 ·rcases hlast j e' hj with ⟨h3, h4⟩ | ⟨rfl, rfl⟩
  ·rw [hupd j h3]
   refine EntR.mono hmem hbind (fun B hB => ?_) (hm.hr.ent j e' h4)
   have ho : ownAt κ H j = some B := by rw [ownAt_of h4]; exact hB
   exact hg.block B (hm.hr.sz B (hm.hr.own j B ho)) (fun h => (hrow B h.symm).2.1 j ho)
  ·simp only [updB, if_true]
   exact he
 ·simp at hj
  unfold updB
  rw [if_neg (by omega)]
  exact hm.hr.out j (by omega)
 ·rcases hownl j B hj with ⟨_, h1⟩ | ⟨_, h1⟩
  ·exact .inl (hm.hr.own j B h1)
  ·exact .inr h1
 ·rcases hownl j B hj with ⟨h0, h1⟩ | ⟨rfl, h1⟩
  ·rcases hownl k B hk with ⟨h2, h3⟩ | ⟨rfl, h3⟩
   ·exact hm.hr.excl j k B h1 h3
   ·exfalso
    rcases (hown B h3).1 with h4 | h4
    ·exact (hrow B h4).2.1 j h1
    ·have := hm.hr.sz B (hm.hr.own j B h1); omega
  ·rcases hownl k B hk with ⟨h2, h3⟩ | ⟨rfl, h3⟩
   ·exfalso
    rcases (hown B h1).1 with h4 | h4
    ·exact (hrow B h4).2.1 k h3
    ·have := hm.hr.sz B (hm.hr.own k B h3); omega
   ·rfl
 ·rcases hB with hB | hB
  ·exact Nat.lt_of_lt_of_le (hm.hr.sz B hB) hg.size
  ·exact (hown B hB).2
 ·rw [hg.block B (Nat.lt_of_lt_of_le hB hm.fr.size) (fun h => hO ((hrow B h.symm).2.2 hB))]
  exact hm.fr.keep B hB hO
 ·rcases h with h | h
  ·exact hm.fr.shut B hB h
  ·rcases (hown B h).1 with h4 | h4
   ·exact hm.fr.shut B hB (hrow B h4).1
   ·have := hm.fr.size; omega
 ·rcases hownl j B hj with ⟨_, h1⟩ | ⟨_, h1⟩
  ·exact hm.ow j B h1 hB
  ·rcases (hown B h1).1 with h4 | h4
   ·exact (hrow B h4).2.2 hB
   ·have := hm.fr.size; omega
theorem Mem.write (hm : Mem n0 κ0 w0 S0 O0 H w S κ) {i B : Nat} {e e' : Ent} {w' : World} (hi : H[i]? = some e) (ho : owns e (κ i) = some B) (ho' : ∀ B', owns e' (κ i) = some B' → B' = B)
  (hg : w.grownBy w' (some B)) (he : EntR w'.heap S κ e' (κ i)) : Mem n0 κ0 w0 S0 O0 (H.set i e') w' S κ ∧ Ext w S κ w' S κ := by
 have hil := getElem?_lt hi
 have hoi : ownAt κ H i = some B := by rw [ownAt_of hi]; exact ho
 have hSB := hm.hr.own i B hoi
 have hmem : ∀ B' off v, ¬ S B' → cellAt w.heap B' off = some v → ¬ S B' ∧ cellAt w'.heap B' off = some v := by
  intro B' off v hS hc
  refine ⟨hS, ?_⟩
  rw [cellAt_same (hg.block B' (cellAt_lt hc) (fun h => by injection h with h; subst h; exact hS hSB))]
  exact hc
 have old : ∀ j B', ownAt κ (H.set i e') j = some B' → (j ≠ i ∧ ownAt κ H j = some B') ∨ (j = i ∧ B' = B) := by
  intro j B' hj
  obtain ⟨e1, h1, h2⟩ := ownAt_some hj
  by_cases hji : j = i
  ·subst hji
   rw [List.getElem?_set_self hil] at h1
   injection h1 with h1
   subst h1
   exact .inr ⟨rfl, ho' _ h2⟩
  ·rw [List.getElem?_set_ne (Ne.symm hji)] at h1
   exact .inl ⟨hji, by rw [ownAt_of h1]; exact h2⟩
 refine ⟨⟨⟨fun j e1 hj => ?_, fun j hj => hm.hr.out j (by simpa using hj), fun j B' hj => ?_, fun j k B' hj hk => ?_, fun B' hB => Nat.lt_of_lt_of_le (hm.hr.sz B' hB) hg.size⟩,
  ⟨hg.os.trans hm.fr.os, hg.tape.trans hm.fr.tape, hg.output.trans hm.fr.output, Nat.le_trans hm.fr.size hg.size, fun B' hB hO => ?_, hm.fr.shut, hm.fr.held⟩, hm.kp, by simpa using hm.len, fun j B' hj => ?_⟩, ⟨hmem, fun _ _ => rfl⟩⟩
 ·by_cases hji : j = i
  ·subst hji
   rw [List.getElem?_set_self hil] at hj
   injection hj with hj
   subst hj
   exact he
  ·rw [List.getElem?_set_ne (Ne.symm hji)] at hj
   refine EntR.mono hmem (fun _ _ => rfl) (fun B' hB => ?_) (hm.hr.ent j e1 hj)
   have ho1 : ownAt κ H j = some B' := by rw [ownAt_of hj]; exact hB
   exact hg.block B' (hm.hr.sz B' (hm.hr.own j B' ho1)) (fun h => by injection h with h; subst h; exact hji (hm.hr.excl j i B' ho1 hoi))
 ·rcases old j B' hj with ⟨_, h1⟩ | ⟨_, rfl⟩
  ·exact hm.hr.own j B' h1
  ·exact hSB
 ·rcases old j B' hj with ⟨h0, h1⟩ | ⟨rfl, rfl⟩
  ·rcases old k B' hk with ⟨_, h3⟩ | ⟨rfl, rfl⟩
   ·exact hm.hr.excl j k B' h1 h3
   ·exact hm.hr.excl j k B' h1 hoi
  ·rcases old k B' hk with ⟨_, h3⟩ | ⟨rfl, _⟩
   ·exact hm.hr.excl j k B' hoi h3
   ·rfl
 ·rw [hg.block B' (Nat.lt_of_lt_of_le hB hm.fr.size) (fun h => by injection h with h; subst h; exact hO (hm.ow i B' hoi hB))]
  exact hm.fr.keep B' hB hO
 ·rcases old j B' hj with ⟨_, h1⟩ | ⟨_, rfl⟩
  ·exact hm.ow j B' h1
  ·exact hm.ow i B' hoi
end
end Go.Tr
/- The engine, part 7: operations that turn memory. -/
namespace Go.Tr
section
variable {h : Array Obj} {S : Nat → Prop} {κ : Nat → Bind}
theorem CellsR_of : ∀ {l : List CV} {vs : List Value} {B off : Nat}, CellsV h S l vs → ¬ S B → (∀ j v, vs[j]? = some v → cellAt h B (off + j) = some v) → CellsR h S l B off
 | [], _, _, _, _, _, _ => by simp only [CellsR]
 | x :: xs, vs, B, off, hv, hS, hc => by
  simp only [CellsV] at hv
  obtain ⟨v, r, rfl, h1, h2⟩ := hv
  simp only [CellsR]
  refine ⟨⟨hS, v, by simpa using hc 0 v (by simp), h1⟩, CellsR_of h2 hS (fun j u hu => ?_)⟩
  have := hc (j + 1) u (by simpa using hu)
  rwa [show off + 1 + j = off + (j + 1) by omega]
theorem RowsR_of : ∀ {es : List (List CV)} {vs : List Value} {B off : Nat}, CellsV h S es.flatten vs → ¬ S B → (∀ j v, vs[j]? = some v → cellAt h B (off + j) = some v) → RowsR h S es B off
 | [], _, _, _, _, _, _ => by simp only [RowsR]
 | e :: es, vs, B, off, hv, hS, hc => by
  rw [List.flatten_cons] at hv
  have hl := hv.len
  rw [List.length_append] at hl
  have h1 := hv.take e.length
  have h2 := hv.drop e.length
  rw [List.take_left] at h1
  rw [List.drop_left] at h2
  simp only [RowsR]
  refine ⟨CellsR_of h1 hS (fun j u hu => ?_), RowsR_of h2 hS (fun j u hu => ?_)⟩
  ·rw [List.getElem?_take] at hu
   split at hu
   ·exact hc j u hu
   ·cases hu
  ·rw [List.getElem?_drop] at hu
   have := hc _ u hu
   rwa [show off + e.length + j = off + (e.length + j) by omega]
theorem CVR_nil (sz byt : Nat) : CVR h S (.sl sz byt []) (.slice none 0 0) := by
 unfold CVR
 exact ⟨none, 0, 0, rfl, rfl, Nat.le_refl _, by simp, by simp, (fun _ => ⟨rfl, rfl⟩), (fun _ h => by cases h)⟩
theorem RowsR.vals : ∀ {es : List (List CV)} {B off : Nat}, RowsR h S es B off → ∃ vs : List Value, CellsV h S es.flatten vs ∧ ∀ j v, vs[j]? = some v → cellAt h B (off + j) = some v
 | [], _, _, _ => ⟨[], by simp [CellsV], fun j v hv => by simp at hv⟩
 | e :: es, B, off, hx => by
  simp only [RowsR] at hx
  obtain ⟨vs, h1, h2⟩ := hx.1.vals
  obtain ⟨us, h3, h4⟩ := RowsR.vals hx.2
  refine ⟨vs ++ us, by rw [List.flatten_cons]; exact h1.append h3, fun j v hv => ?_⟩
  have hl := h1.len
  rcases Nat.lt_or_ge j vs.length with hj | hj
  ·rw [List.getElem?_append_left hj] at hv; exact h2 j v hv
  ·rw [List.getElem?_append_right hj] at hv
   have := h4 _ v hv
   rwa [show off + e.length + (j - vs.length) = off + j by omega] at this
end
section
variable {P : Program} {E : Env} {n0 : Nat} {κ0 : Nat → Bind} {w0 w : World} {S0 O0 S : Nat → Prop} {H : HP} {κ : Nat → Bind}
theorem Mem.freeze (hm : Mem n0 κ0 w0 S0 O0 H w S κ) {i el sz byt : Nat} {es : List (List CV)} {v : Value} (hi : H[i]? = some (.row el sz byt es)) (hb : κ i = .slc v) :
  ∃ S', Mem n0 κ0 w0 S0 O0 (H.set i (.frz (.sl sz byt es))) w S' κ ∧ Ext w S κ w S' κ ∧ CVR w.heap S' (.sl sz byt es) v := by
 have hil := getElem?_lt hi
 have hent := hm.hr.ent i _ hi
 rw [hb] at hent
 simp only [EntR, reduceCtorEq, false_or] at hent
 obtain ⟨v', xs, hv, hrow, h2, h3, h4⟩ := hent
 injection hv with hv
 subst hv
 have hoi : ownAt κ H i = owns (.row el sz byt es) (.slc v) := by rw [ownAt_of hi, hb]
 let S' : Nat → Prop := fun B => S B ∧ ownAt κ H i ≠ some B
 have hmem : ∀ B off u, ¬ S B → cellAt w.heap B off = some u → ¬ S' B ∧ cellAt w.heap B off = some u := fun B off u h1 h2 => ⟨fun h => h1 h.1, h2⟩
 have hcv : CVR w.heap S' (.sl sz byt es) v := by
  simp only [CVR]
  rcases hrow.2 with ⟨rfl, h0⟩ | ⟨g, cap, cur, rfl, _, hg, hn, _, _, htake⟩
  ·have hes : es = [] := List.eq_nil_of_length_eq_zero h0
   subst hes
   exact ⟨none, 0, 0, rfl, rfl, Nat.le_refl _, by simp, by simp, (fun _ => ⟨rfl, rfl⟩), (fun _ h => by cases h)⟩
  ·obtain ⟨fz, hg, _⟩ := hg
   refine ⟨_, _, _, rfl, rfl, hn, h2, h3, (fun h => by cases h), fun ad had => ?_⟩
   injection had with had
   subst had
   refine .inr ⟨rfl, RowsR_of (CellsV.mono hmem h4) (fun h => h.2 (by rw [hoi]; rfl)) (fun j u hu => ?_)⟩
   rw [cellAt_of hg]
   rw [← htake, List.getElem?_take] at hu
   split at hu
   ·simpa using hu
   ·cases hu
 have old : ∀ j B, ownAt κ (H.set i (.frz (.sl sz byt es))) j = some B → j ≠ i ∧ ownAt κ H j = some B := by
  intro j B hj
  obtain ⟨e, h5, h6⟩ := ownAt_some hj
  by_cases hji : j = i
  ·subst hji
   rw [List.getElem?_set_self hil] at h5
   injection h5 with h5
   subst h5
   simp [owns] at h6
  ·rw [List.getElem?_set_ne (Ne.symm hji)] at h5
   exact ⟨hji, by rw [ownAt_of h5]; exact h6⟩
 refine ⟨S', ⟨⟨fun j e hj => ?_, fun j hj => hm.hr.out j (by simpa using hj), fun j B hj => ⟨hm.hr.own j B (old j B hj).2, fun h => (old j B hj).1 (hm.hr.excl j i B (old j B hj).2 h)⟩,
  fun j k B hj hk => hm.hr.excl j k B (old j B hj).2 (old k B hk).2, fun B hB => hm.hr.sz B hB.1⟩,
  ⟨hm.fr.os, hm.fr.tape, hm.fr.output, hm.fr.size, hm.fr.keep, fun B h1 h2 => hm.fr.shut B h1 h2.1, fun B h1 h2 h5 => ⟨hm.fr.held B h1 h2 h5, fun h => h5 (hm.ow i B h h1)⟩⟩, hm.kp, by simpa using hm.len, fun j B hj => hm.ow j B (old j B hj).2⟩, ⟨hmem, fun _ _ => rfl⟩, hcv⟩
 by_cases hji : j = i
 ·subst hji
  rw [List.getElem?_set_self hil] at hj
  injection hj with hj
  subst hj
  rw [hb]
  simp only [EntR]
  exact .inr ⟨v, rfl, hcv⟩
 ·rw [List.getElem?_set_ne (Ne.symm hji)] at hj
  exact EntR.mono hmem (fun _ _ => rfl) (fun _ _ => rfl) (hm.hr.ent j e hj)
theorem purCell_spec (he : EnvOk P E) (hm : Mem n0 κ0 w0 S0 O0 H w S κ) {T : TypeId} {x : AV} {u : Value} (hx : AVR w.heap S κ x u) {K : AV → HP → Prop} (hk : purCell E T x H K) :
  ∃ x' H' S', K x' H' ∧ Mem n0 κ0 w0 S0 O0 H' w S' κ ∧ Ext w S κ w S' κ ∧ AVR w.heap S' κ x' u ∧ H'.length = H.length := by
 unfold purCell at hk
 split at hk
 ·rename_i i
  replace hk := getK_spec hk
  obtain ⟨e, hi, hk⟩ := hk
  simp only [AVR] at hx
  split at hk
  ·replace hk := setK_spec hk
   obtain ⟨h1, hk⟩ := hk
   obtain ⟨S', h2, h3, h4⟩ := hm.freeze hi hx.1
   exact ⟨_, _, S', hk, h2, h3, by simpa only [AVR] using h4, by simp⟩
  ·rename_i y
   have hent := hm.hr.ent i _ hi
   rw [hx.1] at hent
   simp only [EntR, reduceCtorEq, false_or] at hent
   obtain ⟨v, hv, hc⟩ := hent
   injection hv with hv
   subst hv
   exact ⟨_, _, S, hk, hm, Ext.refl _ _ _, by simpa only [AVR] using hc, rfl⟩
  ·exact hk.elim
 ·simp only [AVR] at hx
  subst hx
  split at hk
  ·rename_i e hd
   replace hk := tyK_spec he hk
   obtain ⟨ht, hn, hk⟩ := hk
   refine ⟨_, _, S, hk, hm, Ext.refl _ _ _, ?_, rfl⟩
   simp only [AVR]
   exact CVR_nil _ _
  ·exact ⟨_, _, S, hk, hm, Ext.refl _ _ _, by simp only [AVR], rfl⟩
 ·exact ⟨_, _, S, hk, hm, Ext.refl _ _ _, hx, rfl⟩
theorem purCells_spec (he : EnvOk P E) : ∀ {Ts : List TypeId} {xs : List AV} {us : List Value} {H : HP} {S : Nat → Prop} {K : List AV → HP → Prop}, Mem n0 κ0 w0 S0 O0 H w S κ → AVRs w.heap S κ xs us → purCells E Ts xs H K →
  ∃ xs' H' S', K xs' H' ∧ Mem n0 κ0 w0 S0 O0 H' w S' κ ∧ Ext w S κ w S' κ ∧ AVRs w.heap S' κ xs' us ∧ H'.length = H.length
 | T :: Ts, x :: xs, us, H, S, K, hm, hx, hk => by
  simp only [purCells] at hk
  simp only [AVRs] at hx
  obtain ⟨v, r, rfl, h1, h2⟩ := hx
  obtain ⟨x', H1, S1, hk, m1, e1, r1, l1⟩ := purCell_spec he hm h1 hk
  obtain ⟨xs', H2, S2, hk, m2, e2, r2, l2⟩ := purCells_spec he m1 (e1.avrs h2) hk
  exact ⟨_, _, S2, hk, m2, e1.trans e2, by simp only [AVRs]; exact ⟨_, _, rfl, e2.avr r1, r2⟩, l2.trans l1⟩
 | [], [], us, H, S, K, hm, hx, hk => ⟨_, _, S, by simpa [purCells] using hk, hm, Ext.refl _ _ _, hx, rfl⟩
 | _ :: _, [], us, H, S, K, hm, hx, hk => ⟨_, _, S, by simpa [purCells] using hk, hm, Ext.refl _ _ _, hx, rfl⟩
 | [], x :: xs, us, H, S, K, hm, hx, hk => ⟨_, _, S, by simpa [purCells] using hk, hm, Ext.refl _ _ _, hx, rfl⟩
theorem purK_spec (he : EnvOk P E) (hm : Mem n0 κ0 w0 S0 O0 H w S κ) {T : TypeId} {x : AV} {u : Value} (hx : AVR w.heap S κ x u) {K : AV → HP → Prop} (hk : purK E T x H K) :
  ∃ x' H' S', K x' H' ∧ Mem n0 κ0 w0 S0 O0 H' w S' κ ∧ Ext w S κ w S' κ ∧ AVR w.heap S' κ x' u ∧ H'.length = H.length := by
 unfold purK at hk
 split at hk
 ·simp only [AVR] at hx
  obtain ⟨cs, rfl, hx⟩ := hx
  obtain ⟨xs', H1, S1, hk, m1, e1, r1, l1⟩ := purCells_spec he hm hx hk
  exact ⟨_, _, S1, hk, m1, e1, by simp only [AVR]; exact ⟨_, rfl, r1⟩, l1⟩
 ·exact purCell_spec he hm hx hk
theorem pursK_spec (he : EnvOk P E) : ∀ {Ts : List TypeId} {xs : List AV} {us : List Value} {H : HP} {S : Nat → Prop} {K : List AV → HP → Prop}, Mem n0 κ0 w0 S0 O0 H w S κ → AVRs w.heap S κ xs us → pursK E Ts xs H K →
  ∃ xs' H' S', K xs' H' ∧ Mem n0 κ0 w0 S0 O0 H' w S' κ ∧ Ext w S κ w S' κ ∧ AVRs w.heap S' κ xs' us ∧ H'.length = H.length
 | T :: Ts, x :: xs, us, H, S, K, hm, hx, hk => by
  simp only [pursK] at hk
  simp only [AVRs] at hx
  obtain ⟨v, r, rfl, h1, h2⟩ := hx
  obtain ⟨x', H1, S1, hk, m1, e1, r1, l1⟩ := purK_spec he hm h1 hk
  obtain ⟨xs', H2, S2, hk, m2, e2, r2, l2⟩ := pursK_spec he m1 (e1.avrs h2) hk
  exact ⟨_, _, S2, hk, m2, e1.trans e2, by simp only [AVRs]; exact ⟨_, _, rfl, e2.avr r1, r2⟩, l2.trans l1⟩
 | [], [], us, H, S, K, hm, hx, hk => ⟨_, _, S, by simpa [pursK] using hk, hm, Ext.refl _ _ _, hx, rfl⟩
 | _ :: _, [], us, H, S, K, hm, hx, hk => ⟨_, _, S, by simpa [pursK] using hk, hm, Ext.refl _ _ _, hx, rfl⟩
 | [], x :: xs, us, H, S, K, hm, hx, hk => ⟨_, _, S, by simpa [pursK] using hk, hm, Ext.refl _ _ _, hx, rfl⟩
theorem cellsK_spec {h : Array Obj} {x : AV} {u : Value} (hx : AVR h S κ x u) {K : List AV → Prop} (hk : cellsK x K) :
  ∃ cs, K cs ∧ AVRs h S κ cs u.cells.toList ∧ ∀ v ∈ u.cells.toList, v.oneCell' = true := by
 unfold cellsK at hk
 have one : ∀ {y : AV}, oneB [y] = true → AVR h S κ y u → u.oneCell' = true → AVRs h S κ [y] u.cells.toList ∧ ∀ v ∈ u.cells.toList, v.oneCell' = true := fun {y} _ hy hu => by
  have : u.cells = #[u] := by cases u <;> simp_all [Value.cells, Value.oneCell']
  rw [this]
  exact ⟨by simp only [AVRs]; exact ⟨u, [], rfl, hy, rfl⟩, fun v hv => by simp at hv; subst hv; exact hu⟩
 split at hk
 ·rename_i l
  split at hk
  ·rename_i ho
   simp only [AVR] at hx
   obtain ⟨cs, rfl, hx⟩ := hx
   exact ⟨_, hk, hx, AVRs.oneAll ho hx⟩
  ·exact hk.elim
 all_goals first
  | exact hk.elim
  | exact ⟨_, hk, one rfl hx (AVRs.oneAll (l := [_]) (vs := [u]) rfl (by simp only [AVRs]; exact ⟨_, _, rfl, hx, rfl⟩) u (by simp))⟩
theorem cvsK_spec {h : Array Obj} : ∀ {l : List AV} {vs : List Value} {K : List CV → Prop}, AVRs h S κ l vs → cvsK l K → ∃ xs, K xs ∧ CellsV h S xs vs
 | [], vs, K, hx, hk => ⟨[], by simpa [cvsK] using hk, by simpa [AVRs, CellsV] using hx⟩
 | x :: r, vs, K, hx, hk => by
  cases x <;> simp only [cvsK] at hk
  case c y =>
   simp only [AVRs] at hx
   obtain ⟨v, us, rfl, h1, h2⟩ := hx
   obtain ⟨xs, hk, h3⟩ := cvsK_spec h2 hk
   exact ⟨_, hk, by simp only [CellsV]; exact ⟨_, _, rfl, by simpa only [AVR] using h1, h3⟩⟩
theorem run_storeCells_atM (P : Program) (g o : Nat) (t : TypeId) (fz : Nat × Nat) : ∀ (vs : List Value) (i : Nat) (cur : Array Value) (w : World), w.heap[g]? = some (.cells cur t fz) → (fz = (0, 0) ∨ cur.size ≤ fz.1) → o + i + vs.length ≤ cur.size → (∀ v ∈ vs, v.oneCell' = true) →
  (storeCells ⟨g, o, none⟩ vs i).run P w = .ok () (w.setRow g (cur.toList.take (o + i) ++ vs ++ cur.toList.drop (o + i + vs.length)).toArray)
 | [], i, cur, w, hg, _, _, _ => by
  simp only [storeCells, List.append_nil, List.length_nil, Nat.add_zero, List.take_append_drop, Array.toArray_toList]
  rw [setRow_self w g cur t fz hg]
  rfl
 | v :: rest, i, cur, w, hg, hfz, hl, h1 => by
  have hi : o + i < cur.size := by simp at hl; omega
  have hadd : (⟨g, o, none⟩ : Addr).add i = ⟨g, o + i, none⟩ := by unfold Addr.add; split <;> simp_all
  have hcell : w.cell? ⟨g, o + i, none⟩ = some cur[o + i] := by simp [World.cell?, hg, hi]
  have hfro : w.frozen? ⟨g, o + i, none⟩ = false := by
   obtain ⟨lo, hi'⟩ := fz
   simp only [World.frozen?, hg, Bool.and_eq_false_iff, decide_eq_false_iff_not]
   rcases hfz with hfz | hfz
   ·cases hfz
    omega
   ·simp only at hfz
    omega
  have hst : (store ((⟨g, o, none⟩ : Addr).add i) v).run P w = .ok () (w.setRow g (cur.setIfInBounds (o + i) v)) := by
   rw [hadd, run_store P w _ v _ (h1 v (by simp)), hcell]
   simp [hfro, setCell_eq_setRow w g (o + i) cur t fz v hg]
  have ih := run_storeCells_atM P g o t fz rest (i + 1) (cur.setIfInBounds (o + i) v) (w.setRow g (cur.setIfInBounds (o + i) v)) (setRow_heap w g cur _ t _ hg) (by simpa using hfz) (by simp at hl ⊢; omega) (fun x hx => h1 x (by simp [hx]))
  simp only [storeCells, Sem.run_bind, hst, Result.andThen_ok, ih, setRow_setRow]
  congr 3
  have e := list_seg_step cur.toList (o + i) v rest (by simp at hl ⊢; omega)
  simpa [Array.toList_setIfInBounds, Nat.add_assoc] using e
theorem setRow_grown (w : World) (g : Nat) (cs : Array Value) : w.grownBy (w.setRow g cs) (some g) :=
 ⟨rfl, rfl, rfl, by simp [World.setRow], fun k _ hk => setRow_other w g k cs (fun e => hk (by rw [e]))⟩
theorem flatten_set {α : Type} {sz : Nat} : ∀ {es : List (List α)} {k : Nat} {r ys : List α} {j : Nat}, (∀ e ∈ es, e.length = sz) → es[k]? = some r → j + ys.length ≤ sz →
  (es.set k (r.take j ++ ys ++ r.drop (j + ys.length))).flatten = es.flatten.take (k * sz + j) ++ ys ++ es.flatten.drop (k * sz + j + ys.length) ∧ k * sz + j + ys.length ≤ es.flatten.length
 | [], k, r, ys, j, _, h, _ => by simp at h
 | e :: es, 0, r, ys, j, hl, h, hj => by
  simp at h
  subst h
  have he := hl e (by simp)
  rw [List.set_cons_zero, List.flatten_cons, List.flatten_cons, Nat.zero_mul, Nat.zero_add, List.take_append_of_le_length (by omega), List.drop_append_of_le_length (by omega)]
  refine ⟨by simp only [List.append_assoc], by simp; omega⟩
 | e :: es, k + 1, r, ys, j, hl, h, hj => by
  have he := hl e (by simp)
  obtain ⟨h1, h2⟩ := flatten_set (es := es) (k := k) (j := j) (ys := ys) (r := r) (fun x hx => hl x (List.mem_cons_of_mem _ hx)) (by simpa using h) hj
  have e1 : (k + 1) * sz + j = e.length + (k * sz + j) := by rw [Nat.add_mul, he]; omega
  rw [List.set_cons_succ, List.flatten_cons, List.flatten_cons, h1, e1, List.take_length_add_append, Nat.add_assoc e.length, List.drop_length_add_append]
  refine ⟨by simp only [List.append_assoc], by rw [List.length_append]; omega⟩
theorem storeK0_spec (he : EnvOk P E) (hm : Mem n0 κ0 w0 S0 O0 H w S κ) {T : TypeId} {p x : AV} {u v : Value} (hp : AVR w.heap S κ p u) (hx : AVR w.heap S κ x v) {K : HP → Prop} (hk : storeK0 E H T p x K) :
  ∃ w' H', (Instr.storeAt T u v).run P w = .ok () w' ∧ K H' ∧ Mem n0 κ0 w0 S0 O0 H' w' S κ ∧ Ext w S κ w' S κ := by
 unfold storeK0 at hk
 replace hk := tyK_spec he hk
 obtain ⟨ht, hn, hk⟩ := hk
 obtain ⟨ii, z, hi, hsz, _⟩ := ht.info
 cases p <;> try exact hk.elim
 case ptr i off =>
  simp only at hk
  replace hk := getK_spec hk
  obtain ⟨e, hie, hk⟩ := hk
  cases e <;> try exact hk.elim
  case box l =>
   simp only at hk
   replace hk := cellsK_spec hx hk
   obtain ⟨cs, hk, hcs, hone⟩ := hk
   split at hk
   ·rename_i hl
    have hl := Nat.eq_of_beq_eq_true hl
    replace hk := putK_spec hk
    obtain ⟨hoff, hk⟩ := hk
    replace hk := setK_spec hk
    obtain ⟨hil, hk⟩ := hk
    simp only [AVR] at hp
    obtain ⟨B, hB, rfl⟩ := hp
    have hent := hm.hr.ent i _ hie
    rw [hB] at hent
    simp only [EntR, reduceCtorEq, false_or] at hent
    obtain ⟨B', c, el, he', hc, hr⟩ := hent
    cases he'
    have hcl := hr.len
    have hvl := hcs.len
    have hrun := run_storeCells_at P B off el v.cells.toList 0 c w hc (by simp only [Array.length_toList] at hcl hvl ⊢; omega) hone
    simp only [Nat.add_zero] at hrun
    have hw := hm.write (i := i) (B := B) (e' := .box (l.take off ++ cs ++ l.drop (off + cs.length))) hie (by rw [hB]; rfl) (fun B' h => by rw [hB] at h; simpa [owns] using h.symm) (setRow_grown w B (c.toList.take off ++ v.cells.toList ++ c.toList.drop (off + v.cells.toList.length)).toArray)
     (by
      rw [hB]
      simp only [EntR, reduceCtorEq, false_or]
      refine ⟨B, _, el, rfl, setRow_heap w B c _ el _ hc, ?_⟩
      have hmono : ∀ B' o' u', ¬ S B' → cellAt w.heap B' o' = some u' → ¬ S B' ∧ cellAt (w.setRow B (c.toList.take off ++ v.cells.toList ++ c.toList.drop (off + v.cells.toList.length)).toArray).heap B' o' = some u' := fun B' o' u' h1 h2 => by
       refine ⟨h1, ?_⟩
       have hSB := hm.hr.own i B (by rw [ownAt_of hie, hB]; rfl)
       rw [cellAt_same (setRow_other w B B' _ (fun e => h1 (by rw [e]; exact hSB)))]
       exact h2
      have hfin := ((hr.take off).append hcs).append (hr.drop (off + cs.length))
      have hfin2 : AVRs w.heap S κ (l.take off ++ cs ++ l.drop (off + cs.length)) (c.toList.take off ++ v.cells.toList ++ c.toList.drop (off + v.cells.toList.length)) := by rw [hvl]; exact hfin
      exact AVRs.mono hmono (fun _ _ => rfl) _ hfin2)
    refine ⟨_, _, ?_, hk, hw.1, hw.2⟩
    have hsz' : v.cells.size = ii.size := by simp only [Array.length_toList] at hvl; rw [hsz]; omega
    simp [Instr.storeAt, Instr.sureAddr, storeVar, sizeOf, typeInfo, hi, hsz', hrun]
   ·exact hk.elim
 case elt i sz k j =>
  simp only at hk
  replace hk := cellsK_spec hx hk
  obtain ⟨cs, hk, hcs, hone⟩ := hk
  replace hk := cvsK_spec hcs hk
  obtain ⟨ys, hk, hys⟩ := hk
  split at hk
  case h_2 => exact hk.elim
  rename_i hl
  have hl := Nat.eq_of_beq_eq_true hl
  replace hk := getK_spec hk
  obtain ⟨e, hie, hk⟩ := hk
  cases e <;> try exact hk.elim
  case row el s b es =>
   simp only at hk
   split at hk
   case h_2 => exact hk.elim
   rename_i hsz2
   have hsz2 := Nat.eq_of_beq_eq_true hsz2
   subst hsz2
   replace hk : ∃ r, es[k]? = some r ∧ j + (E.ty T).size ≤ r.length ∧ setK H i (.row el s b (es.set k (r.take j ++ ys ++ r.drop (j + ys.length)))) K := by
    split at hk
    ·obtain ⟨r, r2, h1, ⟨h2, h3⟩, hk⟩ := hk
     refine ⟨r, h1, h2, ?_⟩
     simp only [List.length_singleton] at hl ⊢
     rw [List.set_eq_take_append_cons_drop, if_pos (by omega)] at h3
     rw [List.append_assoc, List.singleton_append, h3]
     exact hk
    ·exact hk
   obtain ⟨r, her, hjr, hk⟩ := hk
   replace hk := setK_spec hk
   obtain ⟨_, hk⟩ := hk
   simp only [AVR] at hp
   obtain ⟨B, off, len, cap, hB, rfl⟩ := hp
   have hent := hm.hr.ent i _ hie
   rw [hB] at hent
   simp only [EntR, reduceCtorEq, false_or] at hent
   obtain ⟨v0, xs0, hv0, ⟨hr1, hr2⟩, hb, hel, hcv⟩ := hent
   cases hv0
   rcases hr2 with ⟨h, _⟩ | ⟨g, cap', cur, hvv, _, hg, hnc, hcm, hcs2, htk⟩
   ·cases h
   cases hvv
   have hrl := hel r (List.mem_of_getElem? her)
   obtain ⟨f1, f2⟩ := flatten_set (ys := ys) (j := j) hel her (by omega)
   have hxl := hcv.len
   have hyl := hys.len
   have hfl : es.flatten.length = es.length * s := by rw [← hxl, hr1]
   have hcl : cur.toList.length = cap * s := by simpa using hcs2
   have hcap : es.length * s ≤ cap * s := Nat.mul_le_mul_right _ hnc
   have hvl : v.cells.toList.length = ys.length := hyl
   obtain ⟨fz, hg, hfz⟩ := hg
   have hrun := run_storeCells_atM P B (0 + k * s + j) el fz v.cells.toList 0 cur w hg hfz (by simp only [Array.length_toList] at hcl hvl ⊢; omega) hone
   simp only [Nat.add_zero] at hrun
   have hSB := hm.hr.own i B (by rw [ownAt_of hie, hB]; rfl)
   have hw := hm.write (i := i) (B := B) (e' := .row el s b (es.set k (r.take j ++ ys ++ r.drop (j + ys.length)))) hie (by rw [hB]; rfl) (fun B' h => by rw [hB] at h; simpa [owns] using h.symm) (setRow_grown w B (cur.toList.take (0 + k * s + j) ++ v.cells.toList ++ cur.toList.drop (0 + k * s + j + v.cells.toList.length)).toArray)
    (by
     rw [hB]
     simp only [EntR, reduceCtorEq, false_or]
     have hmono : ∀ B' o' u', ¬ S B' → cellAt w.heap B' o' = some u' → ¬ S B' ∧ cellAt (w.setRow B (cur.toList.take (0 + k * s + j) ++ v.cells.toList ++ cur.toList.drop (0 + k * s + j + v.cells.toList.length)).toArray).heap B' o' = some u' := fun B' o' u' h1 h2 => by
      refine ⟨h1, ?_⟩
      rw [cellAt_same (setRow_other w B B' _ (fun e => h1 (by rw [e]; exact hSB)))]
      exact h2
     have hxs2 : CellsV w.heap S (es.set k (r.take j ++ ys ++ r.drop (j + ys.length))).flatten (xs0.take (k * s + j) ++ v.cells.toList ++ xs0.drop (k * s + j + ys.length)) := by
      rw [f1]
      exact ((hcv.take _).append hys).append (hcv.drop _)
     refine ⟨_, _, rfl, ⟨?_, .inr ⟨B, cap, _, by rw [List.length_set], by omega, ⟨fz, setRow_heap w B cur _ el _ hg, hfz.imp id fun h => by
      simp only [List.size_toArray, List.length_append, List.length_take, List.length_drop]
      simp only [Array.length_toList] at hcl hvl ⊢
      omega⟩, by rw [List.length_set]; exact hnc, hcm, ?_, ?_⟩⟩, by rw [List.length_set]; exact hb, ?_, CellsV.mono hmono hxs2⟩
     ·rw [List.length_set]
      simp only [List.length_append, List.length_take, List.length_drop]
      omega
     ·simp only [List.size_toArray, List.length_append, List.length_take, List.length_drop]
      simp only [Array.length_toList] at hcl hvl ⊢
      omega
     ·rw [List.length_set, ← htk]
      simp only [Nat.zero_add]
      have e1 : k * s + j + ys.length ≤ es.length * s := by omega
      rw [hvl, List.take_append, List.take_append, List.length_append, List.length_take, Nat.min_eq_left (by omega), hvl, List.take_take, Nat.min_eq_right (by omega), List.take_of_length_le (l := v.cells.toList) (by omega), List.take_take, Nat.min_eq_left (by omega), List.drop_take]
     ·intro e he
      rcases List.mem_or_eq_of_mem_set he with he | rfl
      ·exact hel e he
      ·simp only [List.length_append, List.length_take, List.length_drop]; omega)
   refine ⟨_, _, ?_, hk, hw.1, hw.2⟩
   have hsz' : v.cells.size = ii.size := by simp only [Array.length_toList] at hvl; rw [hsz]; omega
   simp only [Nat.zero_add] at hrun ⊢
   simp [Instr.storeAt, Instr.sureAddr, storeVar, sizeOf, typeInfo, hi, hsz', hrun]
theorem storeK_spec (he : EnvOk P E) (hm : Mem n0 κ0 w0 S0 O0 H w S κ) {T : TypeId} {p x : AV} {u v : Value} (hp : AVR w.heap S κ p u) (hx : AVR w.heap S κ x v) {K : HP → Prop} (hk : storeK E H T p x K) :
  ∃ w' H' S', (Instr.storeAt T u v).run P w = .ok () w' ∧ K H' ∧ Mem n0 κ0 w0 S0 O0 H' w' S' κ ∧ Ext w S κ w' S' κ := by
 unfold storeK at hk
 split at hk
 ·obtain ⟨x', H1, S1, hk, m1, e1, hx1, _⟩ := purK_spec he hm hx hk
  obtain ⟨w', H', h1, h2, h3, h4⟩ := storeK0_spec he m1 (e1.avr hp) hx1 hk
  exact ⟨w', H', S1, h1, h2, h3, e1.trans h4⟩
 ·obtain ⟨w', H', h1, h2, h3, h4⟩ := storeK0_spec he hm hp hx hk
  exact ⟨w', H', S, h1, h2, h3, h4⟩

theorem evPartsK_spec {h : Array Obj} {tm : TM} {a : Act} {ch : Ch} (ht : TR h S κ tm a) (hw : WOk tm a) (hc : chOk a ch) : ∀ {xs : List (Nat × Operand)} {K : List (Nat × AV) → Prop}, evPartsK tm ch xs K →
  ∃ ps, K ps ∧ ps.map (·.1) = xs.map (·.1) ∧ AVRs h S κ (ps.map (·.2)) (xs.map fun p => a.eval p.2)
 | [], K, hk => ⟨[], hk, rfl, by simp [AVRs]⟩
 | (i, x) :: r, K, hk => by
  simp only [evPartsK] at hk
  replace hk := evK_spec ht hw hc hk
  obtain ⟨v, hk, h1⟩ := hk
  replace hk := evPartsK_spec ht hw hc hk
  obtain ⟨vs, hk, h2, h3⟩ := hk
  exact ⟨_, hk, by simp [h2], by simp only [List.map_cons, AVRs]; exact ⟨_, _, rfl, h1, h3⟩⟩
theorem partsK_spec (he : EnvOk P E) {e : TypeId} {d : TyD} : ∀ {ps : List (Nat × AV)} {us : List Value} {i : Nat} {H : HP} {S : Nat → Prop} {K : List (List CV) → HP → Prop}, Mem n0 κ0 w0 S0 O0 H w S κ →
  AVRs w.heap S κ (ps.map (·.2)) us → partsK E e d i ps H K →
  ∃ es H' S', K es H' ∧ Mem n0 κ0 w0 S0 O0 H' w S' κ ∧ Ext w S κ w S' κ ∧ H'.length = H.length ∧ ps.map (·.1) = List.range' i us.length ∧ es.length = us.length ∧ (∀ x ∈ es, x.length = d.size) ∧
   (∀ v ∈ us, v.cells.size = d.size) ∧ CellsV w.heap S' es.flatten (us.flatMap fun v => v.cells.toList)
 | [], us, i, H, S, K, hm, hx, hk => by
  simp only [List.map_nil, AVRs] at hx
  subst hx
  exact ⟨[], H, S, hk, hm, Ext.refl _ _ _, rfl, rfl, rfl, by simp, by simp, by simp [CellsV]⟩
 | (j, v) :: r, us, i, H, S, K, hm, hx, hk => by
  simp only [partsK] at hk
  split at hk
  ·rename_i hij
   have hij := Nat.eq_of_beq_eq_true hij
   subst hij
   simp only [List.map_cons, AVRs] at hx
   obtain ⟨u, us', rfl, h1, h2⟩ := hx
   replace hk := purK_spec he hm h1 hk
   obtain ⟨v', H1, S1, hk, m1, e1, r1, l1⟩ := hk
   replace hk := cellsK_spec r1 hk
   obtain ⟨cs, hk, hcs, _⟩ := hk
   replace hk := cvsK_spec hcs hk
   obtain ⟨xs, hk, hxs⟩ := hk
   split at hk
   ·rename_i hl
    have hl := Nat.eq_of_beq_eq_true hl
    replace hk := partsK_spec he m1 (e1.avrs h2) hk
    obtain ⟨es, H2, S2, hk, m2, e2, l2, k1, k2, k3, k4, k5⟩ := hk
    refine ⟨_, _, S2, hk, m2, e1.trans e2, l2.trans l1, by simp [k1, List.range'_succ], by simp [k2], ?_, ?_, ?_⟩
    ·intro x hx
     rcases List.mem_cons.1 hx with rfl | hx
     ·exact hl
     ·exact k3 x hx
    ·intro y hy
     rcases List.mem_cons.1 hy with rfl | hy
     ·have := hxs.len; simp only [Array.length_toList] at this; omega
     ·exact k4 y hy
    ·rw [List.flatten_cons, List.flatMap_cons]
     exact (CellsV.mono e2.mem hxs).append k5
   ·exact hk.elim
  ·exact hk.elim
end
end Go.Tr
/- The engine, part 8: structs, slices that are built, appended to. -/
namespace Go.Tr
theorem foldl_put (off : Nat) (vs : Array Value) (cs : Array Value) (h : off + vs.size ≤ cs.size) :
  (vs.zipIdx.foldl (fun cs (x : Value × Nat) => cs.setIfInBounds (off + x.2) x.1) cs).toList = cs.toList.take off ++ vs.toList ++ cs.toList.drop (off + vs.size) := by
 have e : vs.zipIdx.foldl (fun cs (x : Value × Nat) => cs.setIfInBounds (off + x.2) x.1) cs = (vs.toList.zipIdx 0).foldl (fun cs (x : Value × Nat) => cs.setIfInBounds (off + x.2) x.1) cs := by
  rw [← Array.foldl_toList]; simp
 rw [e]
 obtain ⟨h1, h2⟩ := Great.foldl_set off vs.toList 0 cs
 generalize (vs.toList.zipIdx 0).foldl (fun cs (x : Value × Nat) => cs.setIfInBounds (off + x.2) x.1) cs = r at *
 apply List.ext_getElem?
 intro k
 have h3 := h2 k
 rw [Array.getElem?_toList, h3]
 have hl1 : (cs.toList.take off).length = off := by simp; omega
 simp only [Nat.add_zero, Array.length_toList]
 rcases Nat.lt_or_ge k off with hk | hk
 ·rw [if_neg (by omega), List.append_assoc, List.getElem?_append_left (by omega), List.getElem?_take, if_pos hk, Array.getElem?_toList]
 ·rcases Nat.lt_or_ge k (off + vs.size) with hk2 | hk2
  ·rw [if_pos (by omega), List.getElem?_append_left (by simp; omega), List.getElem?_append_right (by omega), hl1]
  ·rw [if_neg (by omega), List.getElem?_append_right (by simp; omega), List.getElem?_drop]
   simp only [List.length_append, hl1, Array.length_toList]
   rw [show off + vs.size + (k - (off + vs.size)) = k by omega, Array.getElem?_toList]
theorem places_of {P : Program} : ∀ {F : List Field}, (∀ f ∈ F, ∃ i, P.info? f.type = some i) → F.mapM (fun f => (P.info? f.type).map fun i => (f.offset, i.size)) = some (F.map fun f => (f.offset, P.cellsOf f.type))
 | [], _ => rfl
 | f :: F, h => by
  obtain ⟨i, hi⟩ := h f (by simp)
  have ih := places_of (P := P) (F := F) (fun g hg => h g (List.mem_cons_of_mem _ hg))
  rw [List.mapM_cons, ih]
  simp [hi, Program.cellsOf]
section
variable {P : Program} {E : Env} {h : Array Obj} {S : Nat → Prop} {κ : Nat → Bind}
theorem TyR.cells {T : TypeId} {d : TyD} (ht : TyR P T d) : P.cellsOf T = d.size := by
 obtain ⟨i, z, hi, hs, _⟩ := ht.info
 simp [Program.cellsOf, hi, hs]
theorem fillK_spec (he : EnvOk P E) {F : List Field} {fs : List (Nat × TypeId)} (hfs : fs = F.map fun f => (f.offset, f.type)) : ∀ {ps : List (Nat × AV)} {us : List (Nat × Value)} {l : List AV} {c : Array Value} {K : List AV → Prop},
  AVRs h S κ l c.toList → us.map (·.1) = ps.map (·.1) → AVRs h S κ (ps.map (·.2)) (us.map (·.2)) → buildK E fs ps l K →
  ∃ l' c', K l' ∧ Instr.fill (((F.map fun f => (f.offset, P.cellsOf f.type)).toArray)[·]?) c us = some c' ∧ AVRs h S κ l' c'.toList
 | [], us, l, c, K, hl, h1, _, hk => by
  have : us = [] := by simpa using h1
  subst this
  exact ⟨l, c, hk, rfl, hl⟩
 | (i, v) :: r, us, l, c, K, hl, h1, h2, hk => by
  cases us with
  | nil => simp at h1
  | cons u us =>
   obtain ⟨j, u⟩ := u
   simp only [List.map_cons, List.cons.injEq] at h1 h2
   obtain ⟨rfl, h1⟩ := h1
   simp only [AVRs] at h2
   obtain ⟨u', us', he', h2, h3⟩ := h2
   injection he' with e1 e2
   subst e1 e2
   simp only [buildK] at hk
   split at hk
   ·rename_i o G ho
    replace hk := tyK_spec he hk
    obtain ⟨ht, _, hk⟩ := hk
    replace hk := cellsK_spec h2 hk
    obtain ⟨cs, hk, hcs, _⟩ := hk
    split at hk
    ·rename_i hlen
     have hlen := Nat.eq_of_beq_eq_true hlen
     replace hk := putK_spec hk
     obtain ⟨hoff, hk⟩ := hk
     rw [hfs, List.getElem?_map] at ho
     simp only [Option.map_eq_some_iff] at ho
     obtain ⟨fd, hfd, hfe⟩ := ho
     simp only [Prod.mk.injEq] at hfe
     obtain ⟨rfl, rfl⟩ := hfe
     have hcl := hl.len
     have hul := hcs.len
     simp only [Array.length_toList] at hcl hul
     have hput := foldl_put fd.offset u.cells c (by omega)
     have hnew : AVRs h S κ (l.take fd.offset ++ cs ++ l.drop (fd.offset + cs.length)) (u.cells.zipIdx.foldl (fun cs (x : Value × Nat) => cs.setIfInBounds (fd.offset + x.2) x.1) c).toList := by
      rw [hput, hul]
      exact ((hl.take _).append hcs).append (hl.drop _)
     obtain ⟨l', c', hk, hf, hl'⟩ := fillK_spec he hfs hnew h1 h3 hk
     refine ⟨l', c', hk, ?_, hl'⟩
     have hpl : ((F.map fun f => (f.offset, P.cellsOf f.type)).toArray)[j]? = some (fd.offset, P.cellsOf fd.type) := by simp [hfd]
     unfold Instr.fill
     simp only [hpl]
     rw [if_neg]
     ·exact hf
     ·have := ht.cells
      simp only [ne_eq, Bool.or_eq_true, decide_eq_true_eq, not_or, Decidable.not_not]
      simp
      omega
    ·exact hk.elim
   ·exact hk.elim
theorem fillA_spec {sz : Nat} : ∀ {ps : List (Nat × AV)} {us : List (Nat × Value)} {l : List AV} {c : Array Value} {K : List AV → Prop},
  AVRs h S κ l c.toList → us.map (·.1) = ps.map (·.1) → AVRs h S κ (ps.map (·.2)) (us.map (·.2)) → buildAK sz ps l K →
  ∃ l' c', K l' ∧ Instr.fill (fun i => some (i * sz, sz)) c us = some c' ∧ AVRs h S κ l' c'.toList
 | [], us, l, c, K, hl, h1, _, hk => by
  have : us = [] := by simpa using h1
  subst this
  exact ⟨l, c, hk, rfl, hl⟩
 | (i, v) :: r, us, l, c, K, hl, h1, h2, hk => by
  cases us with
  | nil => simp at h1
  | cons u us =>
   obtain ⟨j, u⟩ := u
   simp only [List.map_cons, List.cons.injEq] at h1 h2
   obtain ⟨rfl, h1⟩ := h1
   simp only [AVRs] at h2
   obtain ⟨u', us', he', h2, h3⟩ := h2
   injection he' with e1 e2
   subst e1 e2
   simp only [buildAK] at hk
   replace hk := cellsK_spec h2 hk
   obtain ⟨cs, hk, hcs, _⟩ := hk
   split at hk
   ·rename_i hlen
    have hlen := Nat.eq_of_beq_eq_true hlen
    replace hk := putK_spec hk
    obtain ⟨hoff, hk⟩ := hk
    have hcl := hl.len
    have hul := hcs.len
    simp only [Array.length_toList] at hcl hul
    have hput := foldl_put (j * sz) u.cells c (by omega)
    have hnew : AVRs h S κ (l.take (j * sz) ++ cs ++ l.drop (j * sz + cs.length)) (u.cells.zipIdx.foldl (fun cs (x : Value × Nat) => cs.setIfInBounds (j * sz + x.2) x.1) c).toList := by
     rw [hput, hul]
     exact ((hl.take _).append hcs).append (hl.drop _)
    obtain ⟨l', c', hk, hf, hl'⟩ := fillA_spec hnew h1 h3 hk
    refine ⟨l', c', hk, ?_, hl'⟩
    unfold Instr.fill
    simp only
    rw [if_neg]
    ·exact hf
    ·simp only [ne_eq, Bool.or_eq_true, decide_eq_true_eq, not_or, Decidable.not_not]
     simp
     omega
   ·exact hk.elim
end
end Go.Tr
/- The engine, part 9: the new memory of literals, 'append', variables. -/
namespace Go.Tr
section
variable {P : Program} {E : Env} {n0 : Nat} {κ0 : Nat → Bind} {w0 w : World} {S0 O0 S : Nat → Prop} {H : HP} {κ : Nat → Bind}
theorem cellAt_ofh {h : Array Obj} {B : Nat} {c : Array Value} {el : TypeId} {f : Nat × Nat} (hB : h[B]? = some (.cells c el f)) (j : Nat) : cellAt h B j = c[j]? := by simp [cellAt, hB]
theorem ofConst_spec {h : Array Obj} {v : Value} (hv : v.oneCell' = true) : AVR h S κ (ofConst v) v := by
 unfold ofConst
 split <;> first
  | (simp only [AVR, CVR]; done)
  | (simp only [AVR, CVR]; exact ⟨rfl, hv⟩)
  | simp [AVR, CVR, hv]
theorem zeros_spec {h : Array Obj} : ∀ {vs : List Value}, (∀ v ∈ vs, v.oneCell' = true) → AVRs h S κ (vs.map ofConst) vs
 | [], _ => by simp [AVRs]
 | v :: vs, hv => by
  simp only [List.map_cons, AVRs]
  exact ⟨_, _, rfl, ofConst_spec (hv v (by simp)), zeros_spec (fun u hu => hv u (List.mem_cons_of_mem _ hu))⟩
theorem buildStruct_spec (he : EnvOk P E) {T : TypeId} {d : TyD} (ht : TyR P T d) {fs : List (Nat × TypeId)} (hd : d.k = .struct fs) {ps : List (Nat × AV)} {us : Array (Nat × Value)} {K : List AV → Prop}
  (h1 : us.toList.map (·.1) = ps.map (·.1)) (h2 : AVRs w.heap S κ (ps.map (·.2)) (us.toList.map (·.2))) (hk : buildK E fs ps (d.zero.map ofConst) K) :
  ∃ l c, K l ∧ (∀ w2 : World, (Instr.build T us).run P w2 = .ok (.agg c) w2) ∧ AVRs w.heap S κ l c.toList := by
 obtain ⟨i, z, hi, hsz, hby, hz, hzc, hzo, hzl⟩ := ht.info
 have hu := ht.und
 simp only [hd] at hu
 obtain ⟨F, hF, hfs, hall⟩ := hu
 have hz0 : AVRs w.heap S κ (d.zero.map ofConst) z.cells.toList := by rw [hzc]; exact zeros_spec hzo
 obtain ⟨l, c, hk, hfill, hl⟩ := fillK_spec he hfs hz0 h1 h2 hk
 refine ⟨l, c, hk, fun w2 => run_build w2 T us c ?_, hl⟩
 unfold Program.built
 simp only [hi, hF, hz, places_of hall]
 exact hfill
theorem buildArr_spec {T : TypeId} {d : TyD} (ht : TyR P T d) {n : Nat} {e : TypeId} (hd : d.k = .array n e) {de : TyD} (hte : TyR P e de) {ps : List (Nat × AV)} {us : Array (Nat × Value)} {K : List AV → Prop}
  (h1 : us.toList.map (·.1) = ps.map (·.1)) (h2 : AVRs w.heap S κ (ps.map (·.2)) (us.toList.map (·.2))) (hk : buildAK de.size ps (d.zero.map ofConst) K) :
  ∃ l c, K l ∧ (∀ w2 : World, (Instr.build T us).run P w2 = .ok (.agg c) w2) ∧ AVRs w.heap S κ l c.toList := by
 obtain ⟨i, z, hi, hsz, hby, hz, hzc, hzo, hzl⟩ := ht.info
 obtain ⟨ie, ze, hie, hsze, _⟩ := hte.info
 have hu := ht.und
 simp only [hd] at hu
 have hz0 : AVRs w.heap S κ (d.zero.map ofConst) z.cells.toList := by rw [hzc]; exact zeros_spec hzo
 obtain ⟨l, c, hk, hfill, hl⟩ := fillA_spec hz0 h1 h2 hk
 refine ⟨l, c, hk, fun w2 => run_build w2 T us c ?_, hl⟩
 unfold Program.built
 simp only [hi, hu, hz, hie, hsze]
 exact hfill
theorem alloc_spec (hm : Mem n0 κ0 w0 S0 O0 H w S κ) {el : TypeId} {c : Array Value} {l : List AV} (hl : AVRs w.heap S κ l c.toList) :
  ∃ S' κ', Mem n0 κ0 w0 S0 O0 (H ++ [.box l]) (w.alloc (.cells c el)) S' κ' ∧ Ext w S κ (w.alloc (.cells c el)) S' κ' ∧ κ' H.length = .blk w.heap.size := by
 have hpre : Ext w S κ (w.alloc (.cells c el)) (fun B => S B ∨ owns (.box l) (.blk w.heap.size) = some B) (updB κ H.length (.blk w.heap.size)) := by
  refine ⟨fun B off v h1 h2 => ?_, fun i hi => ?_⟩
  ·have hlt := cellAt_lt h2
   refine ⟨fun h => ?_, ?_⟩
   ·rcases h with h | h
    ·exact h1 h
    ·simp only [owns, Option.some.injEq] at h; omega
   ·rw [cellAt_same (heap_alloc_old w _ B hlt)]; exact h2
  ·unfold updB
   rw [if_neg]
   intro e
   exact hi (hm.hr.out i (by omega))
 have := hm.push (w' := w.alloc (.cells c el)) none (World.grownBy_alloc w _ none) (fun B h => by cases h) (.box l) (.blk w.heap.size)
  (fun B h => by
   simp only [owns, Option.some.injEq] at h
   subst h
   exact ⟨.inr (Nat.le_refl _), by simp⟩)
  (by
   simp only [EntR, reduceCtorEq, false_or]
   exact ⟨_, c, el, rfl, heap_alloc_new w _, hpre.avrs hl⟩)
 exact ⟨_, _, this.1, this.2, by simp [updB]⟩
theorem flat_len : ∀ {us : List Value} {s : Nat}, (∀ v ∈ us, v.cells.size = s) → (us.flatMap fun v => v.cells.toList).length = us.length * s
 | [], _, _ => by simp
 | v :: us, s, h => by
  rw [List.flatMap_cons, List.length_append, flat_len (fun u hu => h u (List.mem_cons_of_mem _ hu)), List.length_cons, Nat.add_mul, Nat.one_mul]
  have := h v (by simp)
  simp only [Array.length_toList]
  omega
theorem parts_of : ∀ {us : List (Nat × Value)} {i : Nat}, us.map (·.1) = List.range' i us.length → us = ((us.map (·.2)).zipIdx i).map fun x => (x.2, x.1)
 | [], _, _ => rfl
 | (j, v) :: us, i, h => by
  simp only [List.map_cons, List.length_cons, List.range'_succ, List.cons.injEq] at h
  obtain ⟨rfl, h⟩ := h
  simp only [List.map_cons, List.zipIdx_cons]
  rw [← parts_of h]
theorem buildSlice_spec (he : EnvOk P E) (hm : Mem n0 κ0 w0 S0 O0 H w S κ) {T e : TypeId} {d de : TyD} (ht : TyR P T d) (hd : d.k = .slice e) (hte : TyR P e de) (hpos : 0 < de.size) {n : Nat} {ps : List (Nat × AV)} {us : Array (Nat × Value)}
  {K : AV → HP → Prop} (h1 : us.toList.map (·.1) = ps.map (·.1)) (h2 : AVRs w.heap S κ (ps.map (·.2)) (us.toList.map (·.2)))
  (hk : partsK E e de 0 ps H fun es H1 => (match Nat.beq es.length n with
    | true => n * de.size ≤ 16777216 ∧ n * de.bytes ≤ 140737488355328 ∧ snocK H1 (.row e de.size de.bytes es) fun H' i => K (.own i) H'
    | false => False)) :
  ∃ v x w' H' S' κ', (Instr.buildSlice T n us).run P w = .ok v w' ∧ K x H' ∧ Mem n0 κ0 w0 S0 O0 H' w' S' κ' ∧ Ext w S κ w' S' κ' ∧ AVR w'.heap S' κ' x v ∧ H.length ≤ H'.length := by
 obtain ⟨i, z, hi, hsz, hby, hz, hzc, hzo, hzl⟩ := hte.info
 have hu := ht.und
 simp only [hd] at hu
 replace hk := partsK_spec he hm h2 hk
 obtain ⟨es, H1, S1, hk, m1, e1, l1, k1, k2, k3, k4, k5⟩ := hk
 split at hk
 ·rename_i hn
  have hn := Nat.eq_of_beq_eq_true hn
  obtain ⟨hs1, hs2, hk⟩ := hk
  replace hk := snocK_spec hk
  have hlen : (us.toList.map (·.2)).length = n := by rw [← k2]; exact hn
  have hus : us.toList = ((us.toList.map (·.2)).zipIdx 0).map fun x => (x.2, x.1) := parts_of (us := us.toList) (i := 0) (by rw [h1]; simpa using k1)
  have hfl := flat_len k4
  generalize hvs : us.toList.map (·.2) = vs at *
  have hrun : (Instr.buildSlice T n us).run P w = .ok (.slice (some ⟨w.heap.size, 0, none⟩) n n) (w.alloc (.cells (vs.flatMap fun v => v.cells.toList).toArray e)) := by
   have hsmall : ¬ n * i.size > 2 ^ 24 := by rw [hsz]; omega
   rcases Nat.eq_zero_or_pos n with rfl | h0
   ·have : vs = [] := List.eq_nil_of_length_eq_zero hlen
    subst this
    have hu0 : us.toList = [] := by simpa using hvs
    have hu1 : us = #[] := by simpa using hu0
    subst hu1
    simp [Instr.buildSlice, run_underlying hu, sizeOf, typeInfo, zeroValue, hi, hz, Instr.fill, newRow]
    congr 2
    apply Array.eq_empty_of_size_eq_zero
    simp
   ·have hne : ¬ n * i.size = 0 := by
     rw [hsz]; intro h
     rcases Nat.mul_eq_zero.1 h with h | h <;> omega
    refine run_buildSlice w T e n us _ i z hu hi hz hsmall hne ?_
    rw [hus, hsz]
    exact Great.fill_whole hpos _ _ k4 (by rw [hlen]; simp)
  have hpre : Ext w S1 κ (w.alloc (.cells (vs.flatMap fun v => v.cells.toList).toArray e)) (fun B => S1 B ∨ owns (.row e de.size de.bytes es) (.slc (.slice (some ⟨w.heap.size, 0, none⟩) n n)) = some B) (updB κ H1.length (.slc (.slice (some ⟨w.heap.size, 0, none⟩) n n))) := by
   refine ⟨fun B off v h1 h2 => ?_, fun i hi => ?_⟩
   ·have hlt := cellAt_lt h2
    refine ⟨fun h => ?_, ?_⟩
    ·rcases h with h | h
     ·exact h1 h
     ·simp only [owns, Option.some.injEq] at h; omega
    ·rw [cellAt_same (heap_alloc_old w _ B hlt)]; exact h2
   ·unfold updB
    rw [if_neg]
    intro e
    exact hi (m1.hr.out i (by omega))
  have hxl : (vs.flatMap fun v => v.cells.toList).length = n * de.size := by rw [hfl, hlen]
  have hmax : n ≤ maxLen := by
   have : n * 1 ≤ n * de.size := Nat.mul_le_mul_left n hpos
   simp only [maxLen]; omega
  have := m1.push (w' := w.alloc (.cells (vs.flatMap fun v => v.cells.toList).toArray e)) none (World.grownBy_alloc w _ none) (fun B h => by cases h) (.row e de.size de.bytes es) (.slc (.slice (some ⟨w.heap.size, 0, none⟩) n n))
   (fun B h => by
    simp only [owns, Option.some.injEq] at h
    subst h
    exact ⟨.inr (Nat.le_refl _), by simp⟩)
   (by
    simp only [EntR, reduceCtorEq, false_or]
    refine ⟨_, vs.flatMap fun v => v.cells.toList, rfl, ⟨by rw [hn]; exact hxl, .inr ⟨w.heap.size, n, (vs.flatMap fun v => v.cells.toList).toArray, by rw [hn], Nat.zero_le _, ⟨(0, 0), heap_alloc_new w _, .inl rfl⟩, by omega, hmax, by simpa using hxl, ?_⟩⟩, by rw [hn]; exact hs2, k3, CellsV.mono hpre.mem k5⟩
    rw [hn]
    exact List.take_of_length_le (by rw [hxl]; exact Nat.le_refl _))
  refine ⟨_, _, _, _, _, _, hrun, hk, this.1, e1.trans this.2, ?_, by simp; omega⟩
  simp only [AVR]
  exact ⟨by simp [updB], rfl⟩
 ·exact hk.elim
theorem srcK_spec {h : Array Obj} (hh : HR h S κ H) {sz : Nat} {x : AV} {u : Value} (hx : AVR h S κ x u) {K : List (List CV) → Prop} (hk : srcK H sz x K) :
  ∃ es news, K es ∧ CellsV h S es.flatten news ∧ (∀ e ∈ es, e.length = sz) ∧ ((u = .slice none 0 0 ∧ es = []) ∨ ∃ ad c, u = .slice (some ad) es.length c ∧ (es = [] ∨ ad.spot = none) ∧ ∀ j v, news[j]? = some v → cellAt h ad.block (ad.off + j) = some v) := by
 have pure_ : ∀ (s b : Nat) (es : List (List CV)) (v : Value), CVR h S (.sl s b es) v → (match Nat.beq s sz with | true => K es | false => False) → ∃ es news, K es ∧ CellsV h S es.flatten news ∧ (∀ e ∈ es, e.length = sz) ∧
   ((v = .slice none 0 0 ∧ es = []) ∨ ∃ ad c, v = .slice (some ad) es.length c ∧ (es = [] ∨ ad.spot = none) ∧ ∀ j u, news[j]? = some u → cellAt h ad.block (ad.off + j) = some u) := fun s b es v hv hk => by
  split at hk
  ·rename_i hs
   have hs := Nat.eq_of_beq_eq_true hs
   simp only [CVR] at hv
   obtain ⟨a, len, cap, rfl, rfl, _, _, hall, hnone, hrd⟩ := hv
   cases a with
   | none =>
    obtain ⟨rfl, rfl⟩ := hnone rfl
    exact ⟨[], [], hk, by simp [CellsV], by simp, .inl ⟨rfl, rfl⟩⟩
   | some ad =>
    rcases hrd ad rfl with rfl | ⟨h1, h2⟩
    ·exact ⟨[], [], hk, by simp [CellsV], by simp, .inr ⟨ad, cap, rfl, .inl rfl, by simp⟩⟩
    obtain ⟨vs, h3, h4⟩ := h2.vals
    exact ⟨es, vs, hk, h3, fun e he => by rw [hall e he, hs], .inr ⟨ad, cap, rfl, .inr h1, h4⟩⟩
  ·exact hk.elim
 unfold srcK at hk
 split at hk
 ·simp only [AVR] at hx
  exact ⟨[], [], hk, by simp [CellsV], by simp, .inl ⟨hx, rfl⟩⟩
 ·exact pure_ _ _ _ _ (by simpa only [AVR] using hx) hk
 ·rename_i j
  replace hk := getK_spec hk
  obtain ⟨e, hi, hk⟩ := hk
  simp only [AVR] at hx
  have hent := hh.ent j _ hi
  rw [hx.1] at hent
  split at hk
  ·rename_i el s b es
   split at hk
   ·rename_i hs
    have hs := Nat.eq_of_beq_eq_true hs
    simp only [EntR, reduceCtorEq, false_or] at hent
    obtain ⟨v, xs, hv, hrow, _, hall, hcv⟩ := hent
    injection hv with hv
    subst hv
    rcases hrow.2 with ⟨rfl, h0⟩ | ⟨g, cap, cur, rfl, _, hg, _, _, _, htake⟩
    ·have hes : es = [] := List.eq_nil_of_length_eq_zero h0
     subst hes
     exact ⟨[], [], hk, by simp [CellsV], by simp, .inl ⟨rfl, rfl⟩⟩
    ·obtain ⟨fz, hg, _⟩ := hg
     refine ⟨es, xs, hk, hcv, fun e he => by rw [hall e he, hs], .inr ⟨_, cap, rfl, .inr rfl, fun q u hu => ?_⟩⟩
     rw [cellAt_ofh hg]
     rw [← htake, List.getElem?_take] at hu
     split at hu
     ·simpa using hu
     ·cases hu
   ·exact hk.elim
  ·rename_i s b es
   simp only [EntR, reduceCtorEq, false_or] at hent
   obtain ⟨v, hv, hc⟩ := hent
   injection hv with hv
   subst hv
   exact pure_ _ _ _ _ hc hk
  ·exact hk.elim
 ·exact hk.elim
end
end Go.Tr
/- The engine, part 9m: maps; parts of slices; bytes of strings; slices of zeros. -/
namespace Go.Tr
theorem KVR.eq {q : KV} {u v : Value} (h1 : KVR q u) (h2 : KVR q v) : u = v := by cases q <;> simp_all [KVR]
theorem KVR.inj {q r : KV} {u : Value} (h1 : KVR q u) (h2 : KVR r u) : q = r := by
 cases q <;> cases r <;> simp_all [KVR]
 all_goals (subst h1; simp at h2; try exact h2)
theorem keyK_spec {h : Array Obj} {S : Nat → Prop} {κ : Nat → Bind} {st : Bool} {v : AV} {u : Value} (hv : AVR h S κ v u) {K : KV → Prop} (hk : keyK st v K) : ∃ q, K q ∧ KVR q u ∧ stOf q = st := by
 unfold keyK at hk
 split at hk
 ·simp only [AVR, CVR] at hv
  exact ⟨_, hk, hv, rfl⟩
 ·simp only [AVR, CVR] at hv
  exact ⟨_, hk, hv, rfl⟩
 ·exact hk.elim
theorem MapR.keyEq {st : Bool} {m : MV} {es : Array MapEntry} {clock : Nat} (hm : MapR st m es clock) {i j : Nat} {e f : MapEntry} (hi : es[i]? = some e) (hj : es[j]? = some f) (he : e.key = f.key) : i = j := by
 have h := hm.1.2.2
 have hi' : (es.toList.map (·.key))[i]? = some e.key := by simp [hi]
 have hj' : (es.toList.map (·.key))[j]? = some f.key := by simp [hj]
 rw [List.getElem?_eq_some_iff] at hi' hj'
 obtain ⟨a, ha⟩ := hi'
 obtain ⟨b, hb⟩ := hj'
 have hp := List.pairwise_iff_getElem.1 h
 rcases Nat.lt_trichotomy i j with hij | hij | hij
 ·exact absurd (by rw [ha, hb, he]) (hp i j a b hij)
 ·exact hij
 ·exact absurd (by rw [ha, hb, he]) (hp j i b a hij)
theorem MapR.empty (st : Bool) (m : MV) (h : ∀ q, mvAt m q = none) : MapR st m #[] 0 :=
 ⟨MapKept.stamped_empty 0, fun e he => by simp at he, fun q v hq => by rw [h] at hq; cases hq⟩
theorem MapR.push {st : Bool} {m m' : MV} {es : Array MapEntry} {clock : Nat} (hm : MapR st m es clock) {q : KV} {u v : Value} (hq : KVR q u) (hst : stOf q = st) (hno : ∀ x ∈ es.toList, x.key ≠ u)
  (hm' : ∀ r, mvAt m' r = if r = q then some v else mvAt m r) : MapR st m' (es.push { key := u, val := v, born := clock }) (clock + 1) := by
 refine ⟨MapKept.stamped_push hm.1 hno, fun e he => ?_, fun r x hr => ?_⟩
 ·simp only [Array.toList_push, List.mem_append, List.mem_singleton] at he
  rcases he with he | rfl
  ·obtain ⟨r, h1, h2, h3⟩ := hm.2.1 e he
   refine ⟨r, h1, h2, ?_⟩
   rw [hm', if_neg (fun h => hno e he (by subst h; exact KVR.eq h1 hq))]
   exact h3
  ·exact ⟨q, hq, hst, by rw [hm', if_pos rfl]⟩
 ·rw [hm'] at hr
  split at hr
  ·rename_i h
   subst h
   exact ⟨{ key := u, val := v, born := clock }, by simp, hq⟩
  ·obtain ⟨e, h1, h2⟩ := hm.2.2 r x hr
   exact ⟨e, by simp [h1], h2⟩
theorem MapR.modify {st : Bool} {m m' : MV} {es : Array MapEntry} {clock : Nat} (hm : MapR st m es clock) {q : KV} {u v : Value} (hq : KVR q u) (hst : stOf q = st) {j : Nat} {e0 : MapEntry} (hj : es[j]? = some e0) (hk : e0.key = u)
  (hm' : ∀ r, mvAt m' r = if r = q then some v else mvAt m r) : MapR st m' (es.modify j fun e => { e with key := u, val := v }) clock := by
 have hkey : ∀ e', es[j]? = some e' → ({ e' with key := u, val := v } : MapEntry).key = e'.key := fun e' he' => by rw [hj] at he'; cases he'; exact hk.symm
 have hget : ∀ i, (es.modify j fun e => { e with key := u, val := v })[i]? = if j = i then (es[i]?).map (fun e => { e with key := u, val := v }) else es[i]? := fun i => by
  rw [Array.getElem?_modify]
 refine ⟨MapKept.stamped_modify hm.1 _ _ (fun _ _ => rfl) (fun e' _ he' => hkey e' he'), fun e he => ?_, fun r x hr => ?_⟩
 ·rw [List.mem_iff_getElem?] at he
  obtain ⟨i, hi⟩ := he
  rw [Array.getElem?_toList, hget] at hi
  split at hi
  ·rename_i hij
   subst hij
   rw [hj] at hi
   simp only [Option.map_some, Option.some.injEq] at hi
   subst hi
   exact ⟨q, hq, hst, by rw [hm', if_pos rfl]⟩
  ·rename_i hij
   obtain ⟨r, h1, h2, h3⟩ := hm.2.1 e (List.mem_iff_getElem?.2 ⟨i, by simpa using hi⟩)
   refine ⟨r, h1, h2, ?_⟩
   rw [hm', if_neg (fun h => hij (by subst h; exact hm.keyEq hj hi (by rw [hk]; exact KVR.eq hq h1)))]
   exact h3
 ·rw [hm'] at hr
  have put : ∀ (i : Nat) (e : MapEntry), es[i]? = some e → ∃ e', e' ∈ (es.modify j fun e => { e with key := u, val := v }).toList ∧ e'.key = e.key := fun i e hi => by
   by_cases hij : j = i
   ·subst hij
    refine ⟨{ e with key := u, val := v }, List.mem_iff_getElem?.2 ⟨j, ?_⟩, hkey e hi⟩
    rw [Array.getElem?_toList, hget, if_pos rfl, hi]
    rfl
   ·refine ⟨e, List.mem_iff_getElem?.2 ⟨i, ?_⟩, rfl⟩
    rw [Array.getElem?_toList, hget, if_neg hij]
    exact hi
  split at hr
  ·rename_i h
   subst h
   obtain ⟨e', h1, h2⟩ := put j e0 hj
   exact ⟨e', h1, by rw [h2, hk]; exact hq⟩
  ·obtain ⟨e, h1, h2⟩ := hm.2.2 r x hr
   obtain ⟨i, hi⟩ := List.mem_iff_getElem?.1 h1
   obtain ⟨e', h3, h4⟩ := put i e (by simpa using hi)
   exact ⟨e', h3, by rw [h4]; exact h2⟩
theorem MapR.find {st : Bool} {m : MV} {es : Array MapEntry} {clock : Nat} (hm : MapR st m es clock) {q : KV} {u : Value} (hq : KVR q u) (hst : stOf q = st) {d : TypeDesc} (hd : ∀ r x, KVR r x → stOf r = st → MapKept.IsKey d x) :
  (Instr.findNow d u es.toList 0 = some none ∧ (∀ x ∈ es.toList, x.key ≠ u) ∧ mvAt m q = none) ∨
  ∃ j e, Instr.findNow d u es.toList 0 = some (some (j, e.val)) ∧ es[j]? = some e ∧ e.key = u ∧ mvAt m q = some e.val := by
 have hks : ∀ x ∈ es.toList, MapKept.IsKey d x.key := fun x hx => by
  obtain ⟨r, h1, h2, _⟩ := hm.2.1 x hx
  exact hd r _ h1 h2
 rcases MapKept.findNow_spec (hd q u hq hst) es.toList 0 hks with ⟨h1, h2⟩ | ⟨j, e, h1, h2, h3⟩
 ·refine .inl ⟨h1, h2, ?_⟩
  cases hv : mvAt m q with
  | none => rfl
  | some v =>
   obtain ⟨e, h3, h4⟩ := hm.2.2 q v hv
   exact absurd (KVR.eq h4 hq) (h2 e h3)
 ·rw [Nat.zero_add] at h1
  refine .inr ⟨j, e, h1, by simpa using h2, h3, ?_⟩
  obtain ⟨r, k1, _, k3⟩ := hm.2.1 e (List.mem_iff_getElem?.2 ⟨j, h2⟩)
  rw [h3] at k1
  rw [KVR.inj hq k1]
  exact k3
section
variable {P : Program} {E : Env} {n0 : Nat} {κ0 : Nat → Bind} {w0 w : World} {S0 O0 S : Nat → Prop} {H : HP} {κ : Nat → Bind}
theorem kindK_spec (he : EnvOk P E) {kt : TypeId} {K : Bool → Prop} (hk : kindK E kt K) : ∃ st d, K st ∧ P.underlying kt = some d ∧ ∀ r x, KVR r x → stOf r = st → MapKept.IsKey d x := by
 unfold kindK at hk
 replace hk := tyK_spec he hk
 obtain ⟨hT, _, hk⟩ := hk
 have hu := hT.und
 split at hk
 ·rename_i hd
  rw [hd] at hu
  refine ⟨_, _, hk, hu, fun r x h1 h2 => ?_⟩
  cases r <;> simp_all [KVR, stOf, MapKept.IsKey]
 ·rename_i hd
  rw [hd] at hu
  refine ⟨_, _, hk, hu, fun r x h1 h2 => ?_⟩
  cases r <;> simp_all [KVR, stOf, MapKept.IsKey]
 ·exact hk.elim
theorem mput_at {α : Type} (f : KV → Option α) (g : α → Value) (q : KV) (x : α) (r : KV) : ((mput f q x) r).map g = if r = q then some (g x) else (f r).map g := by
 unfold mput
 split <;> rfl
theorem mputK_spec {h : Array Obj} {m : MV} {q : KV} {v : AV} {u : Value} (hv : AVR h S κ v u) {K : MV → Prop} (hk : mputK m q v K) : ∃ m', K m' ∧ ∀ r, mvAt m' r = if r = q then some u else mvAt m r := by
 unfold mputK at hk
 split at hk
 ·simp only [AVR, CVR] at hv
  subst hv
  exact ⟨_, hk, fun r => mput_at _ _ _ _ _⟩
 ·simp only [AVR, CVR] at hv
  subst hv
  exact ⟨_, hk, fun r => mput_at _ _ _ _ _⟩
 ·exact hk.elim
theorem mupdK_spec (he : EnvOk P E) (hm : Mem n0 κ0 w0 S0 O0 H w S κ) {T : TypeId} {m q x : AV} {um uq ux : Value} (h1 : AVR w.heap S κ m um) (h2 : AVR w.heap S κ q uq) (h3 : AVR w.heap S κ x ux) {K : HP → Prop} (hk : mupdK E H T m q x K) :
  ∃ w' H', (Instr.mapUpdate T um uq ux).run P w = .ok () w' ∧ K H' ∧ Mem n0 κ0 w0 S0 O0 H' w' S κ ∧ Ext w S κ w' S κ := by
 unfold mupdK at hk
 replace hk := tyK_spec he hk
 obtain ⟨hT, _, hk⟩ := hk
 have hu := hT.und
 split at hk
 ·rename_i kt et hd
  rw [hd] at hu
  simp only at hu
  replace hk := kindK_spec he hk
  obtain ⟨st', d, hk, hdk, hkey⟩ := hk
  split at hk
  ·rename_i i
   replace hk := getK_spec hk
   obtain ⟨en, hi, hk⟩ := hk
   split at hk
   ·rename_i st mv
    split at hk
    ·rename_i hst
     obtain rfl := beqB_eq hst
     replace hk := keyK_spec h2 hk
     obtain ⟨kv, hk, k1, k2⟩ := hk
     obtain ⟨mv', hk, k3⟩ := mputK_spec h3 hk
     obtain ⟨_, hk⟩ := setK_spec hk
     simp only [AVR] at h1
     obtain ⟨B, hB, rfl⟩ := h1
     have hent := hm.hr.ent i _ hi
     rw [hB] at hent
     simp only [EntR, reduceCtorEq, false_or] at hent
     obtain ⟨B', es, clock, he1, hb, hR⟩ := hent
     cases he1
     have fin : ∀ (o : Obj), (∀ k, k < w.heap.size → some k ≠ some B → (w.heap.setIfInBounds B o)[k]? = w.heap[k]?) := fun o k hk hne => (MapKept.heap_set hb).2 k (fun e => hne (by rw [e]))
     have done : ∀ (es' : Array MapEntry) (clock' : Nat), MapR st' mv' es' clock' → Mem n0 κ0 w0 S0 O0 (H.set i (.mp st' mv')) { w with heap := w.heap.setIfInBounds B (.map es' clock') } S κ ∧ Ext w S κ { w with heap := w.heap.setIfInBounds B (.map es' clock') } S κ := fun es' clock' hR' =>
      hm.write hi (B := B) (by rw [hB]; rfl) (fun B' h => by rw [hB] at h; simp only [owns, Option.some.injEq] at h; exact h.symm) ⟨rfl, rfl, rfl, by simp, fin _⟩ (by
       rw [hB]
       simp only [EntR, reduceCtorEq, false_or]
       exact ⟨B, es', clock', rfl, (MapKept.heap_set hb).1, hR'⟩)
     rcases hR.find k1 k2 hkey with ⟨f1, f2, f3⟩ | ⟨j, e, f1, f2, f3, f4⟩
     ·refine ⟨_, _, ?_, hk, done _ _ (hR.push k1 k2 f2 k3)⟩
      simp [Instr.mapUpdate, run_underlying hu, MapKept.run_getObj_map hb, MapKept.run_checkKey hdk (hkey _ _ k1 k2), MapKept.run_findKey hdk f1, MapKept.run_setObj_map _ hb, Result.andThen]
     ·refine ⟨_, _, ?_, hk, done _ _ (hR.modify k1 k2 f2 f3 k3)⟩
      simp [Instr.mapUpdate, run_underlying hu, MapKept.run_getObj_map hb, MapKept.run_checkKey hdk (hkey _ _ k1 k2), MapKept.run_findKey hdk f1, f2, f3, MapKept.run_keyThatStays (hkey _ _ k1 k2), MapKept.run_setObj_map _ hb, Result.andThen]
    ·exact hk.elim
   ·exact hk.elim
  ·exact hk.elim
 ·exact hk.elim
theorem mdelV_at (m : MV) (q r : KV) : mvAt (mdelV m q) r = if r = q then none else mvAt m r := by
 cases m <;> simp only [mdelV, mvAt, mdel] <;> split <;> rfl
theorem MapR.erase {st : Bool} {m : MV} {es : Array MapEntry} {clock : Nat} (hm : MapR st m es clock) {q : KV} {u : Value} (hq : KVR q u) {j : Nat} {e0 : MapEntry} (hj : es[j]? = some e0) (hk : e0.key = u) :
  MapR st (mdelV m q) (es.eraseIdxIfInBounds j) clock := by
 have hlt : j < es.size := (Array.getElem?_eq_some_iff.1 hj).1
 have hl : (es.eraseIdxIfInBounds j).toList = es.toList.eraseIdx j := by
  unfold Array.eraseIdxIfInBounds
  rw [dif_pos hlt, Array.toList_eraseIdx]
 refine ⟨MapKept.stamped_erase hm.1 j, fun e he => ?_, fun r v hr => ?_⟩
 ·rw [hl] at he
  obtain ⟨i, hi, hij⟩ := List.mem_eraseIdx_iff_getElem?.1 he
  obtain ⟨r, h1, h2, h3⟩ := hm.2.1 e (List.mem_of_getElem? hij)
  refine ⟨r, h1, h2, ?_⟩
  rw [mdelV_at, if_neg (fun h => hi (hm.keyEq (by simpa using hij) hj (by rw [hk]; subst h; exact KVR.eq h1 hq)))]
  exact h3
 ·rw [mdelV_at] at hr
  split at hr
  ·cases hr
  ·rename_i hne
   obtain ⟨e, h1, h2⟩ := hm.2.2 r v hr
   obtain ⟨i, hi⟩ := List.mem_iff_getElem?.1 h1
   refine ⟨e, ?_, h2⟩
   rw [hl]
   refine List.mem_eraseIdx_iff_getElem?.2 ⟨i, fun hij => hne ?_, hi⟩
   subst hij
   have : e = e0 := by
    have h3 : es[i]? = some e := by simpa using hi
    rw [hj] at h3
    injection h3 with h3
    exact h3.symm
   subst this
   rw [hk] at h2
   exact KVR.inj h2 hq
theorem MapR.gone {st : Bool} {m : MV} {es : Array MapEntry} {clock : Nat} (hm : MapR st m es clock) {q : KV} (hno : mvAt m q = none) : MapR st (mdelV m q) es clock := by
 refine ⟨hm.1, fun e he => ?_, fun r v hr => ?_⟩
 ·obtain ⟨r, h1, h2, h3⟩ := hm.2.1 e he
  refine ⟨r, h1, h2, ?_⟩
  rw [mdelV_at, if_neg (fun h => by subst h; rw [hno] at h3; cases h3)]
  exact h3
 ·rw [mdelV_at] at hr
  split at hr
  ·cases hr
  ·exact hm.2.2 r v hr
theorem mdelK_spec (he : EnvOk P E) (hm : Mem n0 κ0 w0 S0 O0 H w S κ) {T : TypeId} {ty : TypeId} {ts : List TypeId} {m q : AV} {um uq : Value} (h1 : AVR w.heap S κ m um) (h2 : AVR w.heap S κ q uq) {K : HP → Prop} (hk : mdelK E H T m q K) :
  ∃ w' H', (Builtin.delete_ (T :: ts).toArray ty #[um, uq]).run P w = .ok (.tuple #[]) w' ∧ K H' ∧ Mem n0 κ0 w0 S0 O0 H' w' S κ ∧ Ext w S κ w' S κ := by
 unfold mdelK at hk
 replace hk := tyK_spec he hk
 obtain ⟨hT, _, hk⟩ := hk
 have hu := hT.und
 split at hk
 ·rename_i kt et hd
  rw [hd] at hu
  simp only at hu
  replace hk := kindK_spec he hk
  obtain ⟨st', d, hk, hdk, hkey⟩ := hk
  split at hk
  ·rename_i i
   replace hk := getK_spec hk
   obtain ⟨en, hi, hk⟩ := hk
   split at hk
   ·rename_i st mv
    split at hk
    ·rename_i hst
     obtain rfl := beqB_eq hst
     replace hk := keyK_spec h2 hk
     obtain ⟨kv, hk, k1, k2⟩ := hk
     obtain ⟨_, hk⟩ := setK_spec hk
     simp only [AVR] at h1
     obtain ⟨B, hB, rfl⟩ := h1
     have hent := hm.hr.ent i _ hi
     rw [hB] at hent
     simp only [EntR, reduceCtorEq, false_or] at hent
     obtain ⟨B', es, clock, he1, hb, hR⟩ := hent
     cases he1
     have fin : ∀ (o : Obj), (∀ k, k < w.heap.size → some k ≠ some B → (w.heap.setIfInBounds B o)[k]? = w.heap[k]?) := fun o k hk hne => (MapKept.heap_set hb).2 k (fun e => hne (by rw [e]))
     have done : ∀ (es' : Array MapEntry) (clock' : Nat), MapR st' (mdelV mv kv) es' clock' → Mem n0 κ0 w0 S0 O0 (H.set i (.mp st' (mdelV mv kv))) { w with heap := w.heap.setIfInBounds B (.map es' clock') } S κ ∧ Ext w S κ { w with heap := w.heap.setIfInBounds B (.map es' clock') } S κ := fun es' clock' hR' =>
      hm.write hi (B := B) (by rw [hB]; rfl) (fun B' h => by rw [hB] at h; simp only [owns, Option.some.injEq] at h; exact h.symm) ⟨rfl, rfl, rfl, by simp, fin _⟩ (by
       rw [hB]
       simp only [EntR, reduceCtorEq, false_or]
       exact ⟨B, es', clock', rfl, (MapKept.heap_set hb).1, hR'⟩)
     rcases hR.find k1 k2 hkey with ⟨f1, f2, f3⟩ | ⟨j, e, f1, f2, f3, f4⟩
     ·refine ⟨_, _, ?_, hk, done _ _ (hR.gone f3)⟩
      simp [Builtin.delete_, run_underlying hu, MapKept.run_getObj_map hb, MapKept.run_checkKey hdk (hkey _ _ k1 k2), MapKept.run_findKey hdk f1, MapKept.run_setObj_map _ hb, Result.andThen]
     ·refine ⟨_, _, ?_, hk, done _ _ (hR.erase k1 f2 f3)⟩
      simp [Builtin.delete_, run_underlying hu, MapKept.run_getObj_map hb, MapKept.run_checkKey hdk (hkey _ _ k1 k2), MapKept.run_findKey hdk f1, f2, f3, MapKept.run_setObj_map _ hb, Result.andThen]
    ·exact hk.elim
   ·exact hk.elim
  ·exact hk.elim
 ·exact hk.elim
theorem mgetK_spec (hh : HR w.heap S κ H) {st : Bool} {m : MV} {q : KV} {ok : Bool} {de : TyD} {et : TypeId} (ht : TyR P et de) {K : AV → Prop} (hk : mgetK de m q ok K) :
  ∃ z x, (zeroValue et).run P w = .ok z w ∧ K x ∧ (∀ o : Option Value, o = mvAt m q → AVR w.heap S κ x (if ok then .tuple #[o.getD z, .bool o.isSome] else o.getD z)) := by
 have hz : ∀ z, zOf de.k = some z → (zeroValue et).run P w = .ok z w := fun z hz => by
  obtain ⟨i, hi, hzz⟩ := ht.one z hz
  simp [zeroValue, typeInfo, hi, hzz]
 unfold mgetK at hk
 split at hk
 ·rename_i f hd
  refine ⟨.bool false, ?_⟩
  have hzr := hz (.bool false) (by rw [hd]; rfl)
  split at hk
  ·refine ⟨_, hzr, hk, fun o ho => ?_⟩
   subst ho
   simp only [mvAt, Bool.false_eq_true, if_false, AVR, CVR]
   cases f q <;> rfl
  ·refine ⟨_, hzr, hk, fun o ho => ?_⟩
   subst ho
   simp only [mvAt, if_true, AVR, AVRs, CVR]
   refine ⟨_, rfl, _, _, rfl, ?_, _, _, rfl, ?_, rfl⟩
   ·cases f q <;> rfl
   ·cases f q <;> rfl
 ·rename_i f hd
  refine ⟨.int .i64 0, ?_⟩
  have hzr := hz (.int .i64 0) (by rw [hd]; rfl)
  split at hk
  ·refine ⟨_, hzr, hk, fun o ho => ?_⟩
   subst ho
   simp only [mvAt, Bool.false_eq_true, if_false, AVR, CVR]
   cases f q <;> rfl
  ·refine ⟨_, hzr, hk, fun o ho => ?_⟩
   subst ho
   simp only [mvAt, if_true, AVR, AVRs, CVR]
   refine ⟨_, rfl, _, _, rfl, ?_, _, _, rfl, ?_, rfl⟩
   ·cases f q <;> rfl
   ·cases f q <;> rfl
 ·exact hk.elim
theorem lookK_spec (he : EnvOk P E) (hh : HR w.heap S κ H) {T : TypeId} {m q : AV} {um uq : Value} (h1 : AVR w.heap S κ m um) (h2 : AVR w.heap S κ q uq) {ok : Bool} {K : AV → Prop} (hk : lookK E H T m q ok K) :
  ∃ v x, (Instr.lookup T um uq ok).run P w = .ok v w ∧ K x ∧ AVR w.heap S κ x v := by
 unfold lookK at hk
 replace hk := tyK_spec he hk
 obtain ⟨hT, _, hk⟩ := hk
 have hu := hT.und
 split at hk
 ·rename_i kt et hd
  rw [hd] at hu
  simp only at hu
  replace hk := kindK_spec he hk
  obtain ⟨st', d, hk, hdk, hkey⟩ := hk
  replace hk := tyK_spec he hk
  obtain ⟨hTe, _, hk⟩ := hk
  split at hk
  ·rename_i i
   replace hk := getK_spec hk
   obtain ⟨en, hi, hk⟩ := hk
   split at hk
   ·rename_i st mv
    split at hk
    ·rename_i hst
     obtain rfl := beqB_eq hst
     replace hk := keyK_spec h2 hk
     obtain ⟨kv, hk, k1, k2⟩ := hk
     obtain ⟨z, x, hz, hk, hx⟩ := mgetK_spec (w := w) (S := S) (κ := κ) (st := st') hh hTe hk
     simp only [AVR] at h1
     obtain ⟨B, hB, rfl⟩ := h1
     have hent := hh.ent i _ hi
     rw [hB] at hent
     simp only [EntR, reduceCtorEq, false_or] at hent
     obtain ⟨B', es, clock, he1, hb, hR⟩ := hent
     cases he1
     rcases hR.find k1 k2 hkey with ⟨f1, f2, f3⟩ | ⟨j, e, f1, f2, f3, f4⟩
     ·refine ⟨_, x, ?_, hk, hx none f3.symm⟩
      cases ok <;> simp [Instr.lookup, run_underlying hu, MapKept.run_getObj_map hb, MapKept.run_checkKey hdk (hkey _ _ k1 k2), MapKept.run_findKey hdk f1, hz, Result.andThen]
     ·refine ⟨_, x, ?_, hk, hx (some e.val) f4.symm⟩
      cases ok <;> simp [Instr.lookup, run_underlying hu, MapKept.run_getObj_map hb, MapKept.run_checkKey hdk (hkey _ _ k1 k2), MapKept.run_findKey hdk f1, Result.andThen]
    ·exact hk.elim
   ·exact hk.elim
  ·exact hk.elim
 ·exact hk.elim
theorem mkmapK_spec (he : EnvOk P E) (hm : Mem n0 κ0 w0 S0 O0 H w S κ) {T : TypeId} {K : Ent → Prop} (hk : mkmapK E T K) :
  ∃ en S' κ', K en ∧ Mem n0 κ0 w0 S0 O0 (H ++ [en]) (w.alloc (.map #[] 0)) S' κ' ∧ Ext w S κ (w.alloc (.map #[] 0)) S' κ' ∧ κ' H.length = .blk w.heap.size := by
 have main : ∀ (st : Bool) (m : MV), (∀ q, mvAt m q = none) → ∃ S' κ', Mem n0 κ0 w0 S0 O0 (H ++ [.mp st m]) (w.alloc (.map #[] 0)) S' κ' ∧ Ext w S κ (w.alloc (.map #[] 0)) S' κ' ∧ κ' H.length = .blk w.heap.size := fun st m hn => by
  have := hm.push (w' := w.alloc (.map #[] 0)) none (World.grownBy_alloc w _ none) (fun B h => by cases h) (.mp st m) (.blk w.heap.size)
   (fun B h => by
    simp only [owns, Option.some.injEq] at h
    subst h
    exact ⟨.inr (Nat.le_refl _), by simp⟩)
   (by
    simp only [EntR, reduceCtorEq, false_or]
    exact ⟨_, #[], 0, rfl, heap_alloc_new w _, MapR.empty st m hn⟩)
  exact ⟨_, _, this.1, this.2, by simp [updB]⟩
 unfold mkmapK at hk
 replace hk := (tyK_spec he hk).2.2
 split at hk
 ·replace hk := kindK_spec he hk
  obtain ⟨st', d, hk, hdk, hkey⟩ := hk
  replace hk := (tyK_spec he hk).2.2
  split at hk
  ·obtain ⟨S', κ', h⟩ := main st' (.b fun _ => none) (fun _ => rfl)
   exact ⟨_, S', κ', hk, h⟩
  ·obtain ⟨S', κ', h⟩ := main st' (.n fun _ => none) (fun _ => rfl)
   exact ⟨_, S', κ', hk, h⟩
  ·exact hk.elim
 ·exact hk.elim
end
end Go.Tr
/- The engine, part 9n: parts of slices; bytes of strings; slices of zeros. -/
namespace Go.Tr
section
variable {h : Array Obj} {S : Nat → Prop}
theorem RowsR.take : ∀ {es : List (List CV)} {B off : Nat} (n : Nat), RowsR h S es B off → RowsR h S (es.take n) B off
 | [], _, _, n, _ => by simp [RowsR]
 | e :: es, _, _, 0, _ => by simp [RowsR]
 | e :: es, _, _, n + 1, hr => by
  simp only [List.take_succ_cons, RowsR] at hr ⊢
  exact ⟨hr.1, hr.2.take n⟩
theorem RowsR.drop : ∀ {es : List (List CV)} {B off sz : Nat} (n : Nat), (∀ e ∈ es, e.length = sz) → n ≤ es.length → RowsR h S es B off → RowsR h S (es.drop n) B (off + n * sz)
 | [], _, _, _, n, _, hn, _ => by simp [RowsR]
 | e :: es, _, _, _, 0, _, _, hr => by simpa using hr
 | e :: es, B, off, sz, n + 1, hl, hn, hr => by
  simp only [RowsR] at hr
  have h1 := hl e (by simp)
  have ih := hr.2.drop n (fun x hx => hl x (List.mem_cons_of_mem _ hx)) (by simpa using hn)
  rw [h1] at ih
  rw [List.drop_succ_cons]
  rwa [show off + (n + 1) * sz = off + sz + n * sz by rw [Nat.add_mul]; omega]
end
section
variable {P : Program} {E : Env} {n0 : Nat} {κ0 : Nat → Bind} {w0 w : World} {S0 O0 S : Nat → Prop} {H : HP} {κ : Nat → Bind} {tm : TM} {a : Act} {ch : Ch}
theorem bndK_spec {h : Array Obj} (ht : TR h S κ tm a) (hw : WOk tm a) (hc : chOk a ch) {d : Int} {x : Option Operand} {K : Int → Prop} (hk : bndK tm ch d x K) :
  ∃ n, K n ∧ ((x = none ∧ n = d) ∨ x.map a.eval = some (.int .i64 n)) := by
 unfold bndK at hk
 split at hk
 ·exact ⟨_, hk, .inl ⟨rfl, rfl⟩⟩
 ·obtain ⟨v, hk, hv⟩ := evK_spec ht hw hc hk
  split at hk
  ·simp only [AVR, CVR] at hv
   exact ⟨_, hk, .inr (by simp [hv])⟩
  ·exact hk.elim
theorem bounds_run (isS : Bool) (len cap : Nat) (hlc : len ≤ cap) (lo hi : Option Operand) (l r : Int) (hl : (lo = none ∧ l = 0) ∨ lo.map a.eval = some (.int .i64 l)) (hr : (hi = none ∧ r = len) ∨ hi.map a.eval = some (.int .i64 r))
  (h0 : 0 ≤ l) (h1 : l ≤ r) (h2 : r ≤ len) (w2 : World) : (Instr.sliceBounds isS len cap (lo.map a.eval) (hi.map a.eval) none).run P w2 = .ok (l.toNat, r.toNat, cap) w2 := by
 have e1 : (l.toNat : Int) = l := by omega
 have e2 : (r.toNat : Int) = r := by omega
 have b1 : r ≤ (cap : Int) := by omega
 have b2 : 0 ≤ r := by omega
 rcases hl with ⟨rfl, rfl⟩ | hl <;> rcases hr with ⟨rfl, rfl⟩ | hr
 ·simp [Instr.sliceBounds, Result.andThen]
 ·simp [Instr.sliceBounds, Instr.sliceBound, asIntOf, hr, b1, b2, Result.andThen]
 ·simp [Instr.sliceBounds, Instr.sliceBound, asIntOf, hl, h0, h1, Result.andThen]
 ·simp [Instr.sliceBounds, Instr.sliceBound, asIntOf, hl, hr, h0, b1, b2, e2, h1, Result.andThen]
theorem CVR_slice {h : Array Obj} {sz byt : Nat} {es : List (List CV)} {A : Option Addr} {len cap : Nat} (hx : CVR h S (.sl sz byt es) (.slice A len cap)) {l r : Int} (h0 : 0 ≤ l) (h1 : l ≤ r) (h2 : r ≤ es.length) :
  CVR h S (.sl sz byt ((es.take r.toNat).drop l.toNat)) (.slice (if cap = l.toNat then A else A.map (·.add (l.toNat * sz))) (r.toNat - l.toNat) (cap - l.toNat)) := by
 simp only [CVR] at hx ⊢
 obtain ⟨A', len', cap', he, hlen, hcap, hb, hall, hnone, hsome⟩ := hx
 injection he with e1 e2 e3
 subst e1 e2 e3
 have hlen' : ((es.take r.toNat).drop l.toNat).length = r.toNat - l.toNat := by
  rw [List.length_drop, List.length_take]
  omega
 refine ⟨_, _, _, rfl, hlen'.symm, by omega, ?_, ?_, ?_, ?_⟩
 ·rw [hlen']
  exact Nat.le_trans (Nat.mul_le_mul_right _ (by omega)) hb
 ·exact fun e he => hall e (List.mem_of_mem_take (List.mem_of_mem_drop he))
 ·intro hn
  have hA : A = none := by
   split at hn
   ·exact hn
   ·simpa using hn
  obtain ⟨rfl, rfl⟩ := hnone hA
  simp
 ·intro ad had
  split at had
  ·left
   apply List.eq_nil_of_length_eq_zero
   omega
  ·rw [Option.map_eq_some_iff] at had
   obtain ⟨ad0, had0, rfl⟩ := had
   rcases hsome ad0 had0 with rfl | ⟨hs, hrow⟩
   ·left; simp
   ·right
    obtain ⟨B, off, sp⟩ := ad0
    simp only at hs hrow
    subst hs
    rw [Addr.add_lit]
    refine ⟨rfl, ?_⟩
    exact RowsR.drop (sz := sz) l.toNat (fun e he => hall e (List.mem_of_mem_take he)) (by rw [List.length_take]; omega) (hrow.take r.toNat)
theorem sliceK_spec (he : EnvOk P E) (hh : HR w.heap S κ H) (ht : TR w.heap S κ tm a) (hw : WOk tm a) (hc : chOk a ch) {g : Bool} (hg : g = true) {T : TypeId} {v : AV} {u : Value} (hv : AVR w.heap S κ v u) {lo hi : Option Operand} {K : AV → Prop}
  (hk : sliceK E H T v tm ch g lo hi K) : ∃ y x, (∀ w2, (Instr.sliceAt T u (lo.map a.eval) (hi.map a.eval) none).run P w2 = .ok y w2) ∧ K x ∧ AVR w.heap S κ x y := by
 unfold sliceK at hk
 replace hk := tyK_spec he hk
 obtain ⟨hT, _, hk⟩ := hk
 have hu := hT.und
 have fin : ∀ {e : TypeId} {sz b : Nat} {es : List (List CV)} {u : Value}, P.underlying T = some (.slice e) → TyR P e (E.ty e) → Nat.beq sz (E.ty e).size = true → CVR w.heap S (.sl sz b es) u →
   (bndK tm ch 0 lo fun l => bndK tm ch es.length hi fun h => gd ch g (0 ≤ l ∧ l ≤ h ∧ h ≤ es.length) ∧ K (.c (.sl sz b ((es.take h.toNat).drop l.toNat)))) →
   ∃ y x, (∀ w2, (Instr.sliceAt T u (lo.map a.eval) (hi.map a.eval) none).run P w2 = .ok y w2) ∧ K x ∧ AVR w.heap S κ x y := by
  intro e sz b es u hu hTe hsz hx hk
  obtain rfl := Nat.eq_of_beq_eq_true hsz
  obtain ⟨l, hk, hl⟩ := bndK_spec ht hw hc hk
  obtain ⟨r, hk, hr⟩ := bndK_spec ht hw hc hk
  obtain ⟨h0, h1, h2⟩ := gd_out hg hk.1
  have hx' := hx
  simp only [CVR] at hx'
  obtain ⟨A, len, cap, rfl, hlen, hcap, _⟩ := hx'
  refine ⟨_, _, fun w2 => ?_, hk.2, by simp only [AVR]; exact CVR_slice hx h0 h1 h2⟩
  obtain ⟨i, z, hin, hsz, _⟩ := hTe.info
  have hbd := bounds_run (P := P) (a := a) true len cap hcap lo hi l r hl (by rw [hlen]; exact hr) h0 h1 (by rw [hlen]; exact h2) w2
  simp [Instr.sliceAt, Instr.slice, run_underlying hu, hbd, sizeOf, typeInfo, hin, hsz, Result.andThen]
 split at hk
 ·rename_i e sz b es hd
  rw [hd] at hu
  replace hk := tyK_spec he hk
  obtain ⟨hTe, _, hk⟩ := hk
  split at hk
  ·rename_i hs
   exact fin hu hTe hs (by simpa only [AVR] using hv) hk
  ·exact hk.elim
 ·rename_i e i hd
  rw [hd] at hu
  replace hk := tyK_spec he hk
  obtain ⟨hTe, _, hk⟩ := hk
  obtain ⟨en, hi', hk⟩ := getK_spec hk
  split at hk
  ·rename_i sz b es
   split at hk
   ·rename_i hs
    simp only [AVR] at hv
    have hent := hh.ent i _ hi'
    rw [hv.1] at hent
    simp only [EntR, reduceCtorEq, false_or] at hent
    obtain ⟨v', hv', hx⟩ := hent
    injection hv' with hv'
    subst hv'
    exact fin hu hTe hs hx hk
   ·exact hk.elim
  ·exact hk.elim
 ·rename_i s hd
  rw [hd] at hu
  obtain ⟨l, hk, hl⟩ := bndK_spec ht hw hc hk
  obtain ⟨r, hk, hr⟩ := bndK_spec ht hw hc hk
  obtain ⟨h0, h1, h2⟩ := gd_out hg hk.1
  simp only [AVR, CVR] at hv
  subst hv
  refine ⟨.string (s.extract l.toNat r.toNat), _, fun w2 => ?_, hk.2, by simp only [AVR, CVR]⟩
  have hbd := bounds_run (P := P) (a := a) false s.size s.size (Nat.le_refl _) lo hi l r hl hr h0 h1 h2 w2
  simp [Instr.sliceAt, Instr.slice, run_underlying hu, hbd, Result.andThen]
 ·exact hk.elim
theorem indK_spec (he : EnvOk P E) {g : Bool} (hg : g = true) {T : TypeId} {v ix : AV} {u n : Value} (hv : AVR w.heap S κ v u) (hn : AVR w.heap S κ ix n) {K : AV → Prop} (hk : indK E T v ix ch g K) :
  ∃ y x, (∀ w2, (Instr.index T u n).run P w2 = .ok y w2) ∧ K x ∧ AVR w.heap S κ x y := by
 unfold indK at hk
 replace hk := tyK_spec he hk
 obtain ⟨hT, _, hk⟩ := hk
 have hu := hT.und
 split at hk
 ·rename_i s i hd
  rw [hd] at hu
  obtain ⟨⟨h0, h1⟩, hk⟩ := hk.imp (gd_out hg) id
  simp only [AVR, CVR] at hv hn
  subst hv hn
  refine ⟨_, _, fun w2 => ?_, hk, AVR_int⟩
  have e1 : s[i.toNat]? = some (s.data.toList.getD i.toNat 0) := by
   have h1' : i.toNat < s.data.size := h1
   rw [ByteArray.getElem?_lt' s _ h1]
   congr 1
   rw [List.getD_eq_getElem?_getD, List.getElem?_eq_getElem (by simpa using h1')]
   rfl
  simp [Instr.index, asIntOf, run_underlying hu, h0, e1, Result.andThen]
 ·rename_i m e l i hd
  rw [hd] at hu
  replace hk := tyK_spec he hk
  obtain ⟨hTe, _, hk⟩ := hk
  split at hk
  ·rename_i h1 hb
   have h1 : (E.ty e).size = 1 := Nat.eq_of_beq_eq_true h1
   obtain ⟨hg1, b, hg2, hk⟩ := hk
   obtain ⟨h0, h2⟩ := gd_out hg hg1
   have hl := gd_out hg hg2
   simp only [AVR, CVR] at hv hn
   obtain ⟨cs, hv, hcs⟩ := hv
   subst hv hn
   obtain ⟨v, hv1, hv2⟩ := AVRs.at hcs hl
   simp only [AVR, CVR] at hv2
   subst hv2
   have hue := hTe.und
   rw [hb] at hue
   obtain ⟨inf, z, hinf, hsz, _⟩ := hTe.info
   have hcv : cs[i.toNat]? = some (.bool b) := by rw [← Array.getElem?_toList]; exact hv1
   have hsz1 : inf.size = 1 := by rw [hsz, h1]
   refine ⟨.bool b, _, fun w2 => ?_, hk, by simp only [AVR, CVR]⟩
   have h3 : i < (m : Int) := by omega
   simp [Instr.index, asIntOf, run_underlying hu, h0, h3, part, isAgg, run_underlying hue, sizeOf, typeInfo, hinf, hsz1, hcv, Result.andThen]
  ·exact hk.elim
 ·exact hk.elim
theorem made_flat {z : Array Value} (hz : 0 < z.size) : ∀ (n : Nat), (madeCells z (n * z.size)).toList = (List.replicate n z.toList).flatten
 | 0 => by simp [madeCells]
 | n + 1 => by
  have ih := made_flat hz n
  simp only [madeCells, Array.toList_map, Array.toList_range] at ih ⊢
  rw [show (n + 1) * z.size = z.size + n * z.size by rw [Nat.add_mul]; omega, List.range_add, List.map_append, List.replicate_succ, List.flatten_cons]
  congr 1
  ·apply List.ext_getElem?
   intro i
   rcases Nat.lt_or_ge i z.size with h | h
   ·simp [h, Nat.mod_eq_of_lt h]
   ·simp [Nat.not_lt.2 h]
  ·rw [List.map_map, ← ih]
   apply List.map_congr_left
   intro i _
   simp [Nat.add_mod_left]
theorem CellsV.repl {h : Array Obj} {xs : List CV} {vs : List Value} (hx : CellsV h S xs vs) : ∀ (n : Nat), CellsV h S (List.replicate n xs).flatten (List.replicate n vs).flatten
 | 0 => by simp [CellsV]
 | n + 1 => by
  simp only [List.replicate_succ, List.flatten_cons]
  exact hx.append (CellsV.repl hx n)
theorem mkslK_spec (he : EnvOk P E) (hm : Mem n0 κ0 w0 S0 O0 H w S κ) {T : TypeId} {n c : AV} {un uc : Value} (hn : AVR w.heap S κ n un) (hc : AVR w.heap S κ c uc) {K : Ent → HP → Prop} (hk : mkslK E T n c H K) :
  ∃ en H1 S' κ' w' v, (Instr.makeSlice T un uc).run P w = .ok v w' ∧ K en H1 ∧ Mem n0 κ0 w0 S0 O0 (H1 ++ [en]) w' S' κ' ∧ Ext w S κ w' S' κ' ∧ κ' H1.length = .slc v ∧ v.oneCell' = true := by
 unfold mkslK at hk
 replace hk := tyK_spec he hk
 obtain ⟨hT, _, hk⟩ := hk
 have hu := hT.und
 split at hk
 ·rename_i e n m hd
  rw [hd] at hu
  simp only at hu
  replace hk := tyK_spec he hk
  obtain ⟨hTe, _, hk⟩ := hk
  split at hk
  ·exact hk.elim
  ·rename_i hne
   have hpos : 0 < (E.ty e).size := Nat.pos_of_ne_zero fun h => hne h
   obtain ⟨i, z, hi, hsz, hby, hz, hzc, hzo, hzl⟩ := hTe.info
   obtain ⟨l, H1, S1, hk, m1, e1, r1, l1⟩ := purCells_spec he hm (zeros_spec (S := S) (κ := κ) hzo) hk
   obtain ⟨xs, hk, hxs⟩ := cvsK_spec r1 hk
   obtain ⟨rfl, h0, h1, h2, hk⟩ := hk
   simp only [AVR, CVR] at hn hc
   subst hn hc
   generalize hde : E.ty e = de at *
   have hzs : z.cells.size = de.size := by rw [← Array.length_toList, hzc, hzl]
   have hn63 : n.toNat ≤ maxLen := by
    have : n.toNat * 1 ≤ n.toNat * de.size := Nat.mul_le_mul_left _ hpos
    simp only [maxLen]; omega
   have hmn : (i.bytes : Int) * n ≤ 281474976710656 := by
    have e : n = (n.toNat : Int) := by omega
    rw [e, hby]
    have : ((de.bytes * n.toNat : Nat) : Int) ≤ 281474976710656 := by rw [Nat.mul_comm]; omega
    simpa using this
   have hrun := run_make (P := P) w T e i z hu hi hz .i64 .i64 n n h0 (Int.le_refl _) hmn (by simp only [maxLen] at hn63; omega)
   have hcells : (madeCells z.cells (n.toNat * i.size)).toList = (List.replicate n.toNat de.zero).flatten := by
    rw [hsz, ← hzs, made_flat (by omega), hzc]
   have hxl : xs.length = de.size := by rw [← hxs.len, hzl]
   have hall : ∀ e ∈ List.replicate n.toNat xs, e.length = de.size := fun e he => by rw [List.eq_of_mem_replicate he]; exact hxl
   have hcl : (madeCells z.cells (n.toNat * i.size)).toList.length = n.toNat * de.size := by simp [size_madeCells, hsz]
   have hpre : Ext w S1 κ (w.alloc (.cells (madeCells z.cells (n.toNat * i.size)) e)) (fun B => S1 B ∨ owns (.row e de.size de.bytes (List.replicate n.toNat xs)) (.slc (.slice (some ⟨w.heap.size, 0, none⟩) n.toNat n.toNat)) = some B) (updB κ H1.length (.slc (.slice (some ⟨w.heap.size, 0, none⟩) n.toNat n.toNat))) := by
    refine ⟨fun B off v h1 h2 => ?_, fun i hi => ?_⟩
    ·have hlt := cellAt_lt h2
     refine ⟨fun h => ?_, ?_⟩
     ·rcases h with h | h
      ·exact h1 h
      ·simp only [owns, Option.some.injEq] at h; omega
     ·rw [cellAt_same (heap_alloc_old w _ B hlt)]; exact h2
    ·unfold updB
     rw [if_neg]
     intro e
     exact hi (m1.hr.out i (by omega))
   have := m1.push (w' := w.alloc (.cells (madeCells z.cells (n.toNat * i.size)) e)) none (World.grownBy_alloc w _ none) (fun B h => by cases h) (.row e de.size de.bytes (List.replicate n.toNat xs)) (.slc (.slice (some ⟨w.heap.size, 0, none⟩) n.toNat n.toNat))
    (fun B h => by
     simp only [owns, Option.some.injEq] at h
     subst h
     exact ⟨.inr (Nat.le_refl _), by simp⟩)
    (by
     simp only [EntR, reduceCtorEq, false_or]
     refine ⟨_, (madeCells z.cells (n.toNat * i.size)).toList, rfl, ⟨by rw [List.length_replicate]; exact hcl, .inr ⟨w.heap.size, n.toNat, madeCells z.cells (n.toNat * i.size), by rw [List.length_replicate], Nat.zero_le _, ⟨(0, 0), heap_alloc_new w _, .inl rfl⟩, by rw [List.length_replicate]; exact Nat.le_refl _, hn63, by rw [← Array.length_toList]; exact hcl, ?_⟩⟩, by rw [List.length_replicate]; exact h2, hall, ?_⟩
     ·rw [List.length_replicate]
      exact List.take_of_length_le (by rw [hcl]; exact Nat.le_refl _)
     ·rw [hcells]
      exact CellsV.mono hpre.mem (hxs.repl _))
   exact ⟨_, _, _, _, _, _, hrun, hk, this.1, e1.trans this.2, by simp [updB], rfl⟩
 ·exact hk.elim
end
end Go.Tr
/- The engine, part 10: 'append'. -/
namespace Go.Tr
section
variable {P : Program}
theorem run_app (w : World) (t ty e : TypeId) (i : TypeInfo) (z : Value) (ht : P.underlying t = some (.slice e)) (hi : P.info? e = some i) (hz : i.zero = some z) (hzs : z.cells.size = i.size) (hsz : 0 < i.size)
  (v : Value) (n : Nat) (xs : List Value) (hown : rowH w.heap e i.size v n xs)
  (a : Addr) (m c : Nat) (news : List Value) (hl : news.length = m * i.size) (hnews : ∀ j u, news[j]? = some u → w.cell? (a.add j) = some u) (h1 : ∀ u ∈ news, u.oneCell' = true)
  (h63 : n + m ≤ 9223372036854775807) (hbytes : (n + m) * i.bytes ≤ 140737488355328) :
  ∃ v' w', (Builtin.append_ #[t, t] ty #[v, .slice (some a) m c]).run P w = .ok v' w' ∧ rowH w'.heap e i.size v' (n + m) (xs ++ news) ∧ w.grownBy w' v.ownBlock ∧ (∀ B, v'.ownBlock = some B → v.ownBlock = some B ∨ w.heap.size ≤ B) ∧ v'.oneCell' = true := by
 have hm63 : n + m ≤ maxLen := by simp only [maxLen]; omega
 have hlen : (xs ++ news).length = (n + m) * i.size := by rw [List.length_append, hown.1, hl, Nat.add_mul]
 have grown : ∀ (old : Nat), old < n + m → ∀ (row : Option Nat),
   rowH (w.drew.alloc (.cells (xs.toArray ++ news.toArray ++ Builtin.zeroCells z.cells (grownCap w (n + m) old e - (n + m))) e)).heap e i.size
    (.slice (some ⟨w.heap.size, 0, none⟩) (n + m) (grownCap w (n + m) old e)) (n + m) (xs ++ news) ∧
   w.grownBy (w.drew.alloc (.cells (xs.toArray ++ news.toArray ++ Builtin.zeroCells z.cells (grownCap w (n + m) old e - (n + m))) e)) row := by
  intro old ho row
  have hge := grownCap_ge w (n + m) old e
  have hcm : grownCap w (n + m) old e ≤ maxLen := grownCap_le_maxLen w (n + m) old e hm63
  refine ⟨⟨hlen, .inr ⟨w.heap.size, _, _, rfl, Nat.zero_le _, ⟨(0, 0), heap_alloc_new w.drew _, .inl rfl⟩, hge, hcm, ?_, ?_⟩⟩, ⟨rfl, rfl, rfl, by simp, fun k hk _ => heap_alloc_old w.drew _ k hk⟩⟩
  ·simp only [Array.size_append, List.size_toArray, size_zeroCells, hzs, hown.1, hl, ← Nat.add_mul]
   congr 1
   omega
  ·simp only [Array.toList_append, List.append_assoc]
   rw [← List.append_assoc, ← hlen]
   exact List.take_left
 rcases hown.2 with ⟨rfl, rfl⟩ | ⟨g, cap, cur, rfl, hbg, hg, hnc, hcm, hcs, htake⟩
 ·have hx : xs = [] := List.eq_nil_of_length_eq_zero (by simpa using hown.1)
  subst hx
  by_cases hm : m = 0
  ·subst hm
   have hn : news = [] := List.eq_nil_of_length_eq_zero (by simpa using hl)
   subst hn
   refine ⟨.slice none 0 0, w, ?_, ⟨by simp, .inl ⟨rfl, rfl⟩⟩, ⟨rfl, rfl, rfl, Nat.le_refl _, fun _ _ _ => rfl⟩, by simp [Value.ownBlock], rfl⟩
   simp [Builtin.append_, run_underlying ht, sizeOf, typeInfo, hi, Builtin.lenOf, Builtin.firstCells, loadCells, loadCellsFrom]
  ·have hr := run_append_nil (P := P) w t ty e i z ht hi hz a m c news hl hnews (by omega) (by omega) (by have hb := hbytes; simp only [Nat.zero_add] at hb; omega)
   have hgr := grown 0 (by omega) (Value.ownBlock (.slice none 0 0))
   simp only [Nat.zero_add, List.nil_append, Array.empty_append] at hgr ⊢
   exact ⟨_, _, hr, hgr.1, hgr.2, by simp [Value.ownBlock], rfl⟩
 ·obtain ⟨fz, hg, hfz⟩ := hg
  by_cases hroom : n + m ≤ cap
  ·have hfit : n * i.size + news.length ≤ cur.size := by rw [hl, hcs, ← Nat.add_mul]; exact Nat.mul_le_mul_right _ hroom
   have hr : (Builtin.append_ #[t, t] ty #[.slice (some ⟨g, 0, none⟩) n cap, .slice (some a) m c]).run P w =
     .ok (.slice (some ⟨g, 0, none⟩) (n + m) cap) (w.setRow g (cur.toList.take (n * i.size) ++ news ++ cur.toList.drop (n * i.size + news.length)).toArray) := by
    have hf := run_firstCells_some (P := P) w i.size m a m c news hl hnews
    have hst := run_storeCells_atM P g (n * i.size) e fz news 0 cur w hg hfz (by simpa using hfit) h1
    simp only [Nat.add_zero] at hst
    simp [Builtin.append_, run_underlying ht, sizeOf, typeInfo, hi, Builtin.lenOf, hroom, hf, Addr.add_lit, hst]
   refine ⟨_, _, hr, ⟨hlen, .inr ⟨g, cap, _, rfl, hbg, ⟨fz, setRow_heap w g cur _ e _ hg, hfz.imp id fun h => by
    simp only [List.size_toArray, List.length_append, List.length_take, List.length_drop, Array.length_toList]
    omega⟩, hroom, hcm, ?_, ?_⟩⟩, ⟨rfl, rfl, rfl, by simp, fun k _ hk => setRow_other w g k _ (fun e => hk (by simp [Value.ownBlock, e]))⟩, by simp [Value.ownBlock], rfl⟩
   ·simp only [List.size_toArray, List.length_append, List.length_take, List.length_drop, Array.length_toList]
    omega
   ·rw [htake, ← hlen]
    exact List.take_left
  ·have holds : ∀ j u, xs[j]? = some u → w.cell? ((⟨g, 0, none⟩ : Addr).add j) = some u := fun j u hu => by
    rw [Addr.add_lit, Nat.zero_add, cell_of_row w g j cur e fz hg]
    rw [← htake, List.getElem?_take] at hu
    split at hu
    ·simpa using hu
    ·cases hu
   have hr := run_append_grow (P := P) w t ty e i z ht hi hz ⟨g, 0, none⟩ n cap xs hown.1 holds a m c news hl hnews (by omega) (by omega) (growslice_fits (by omega) hbytes)
   have hgr := grown cap (by omega) (Value.ownBlock (.slice (some ⟨g, 0, none⟩) n cap))
   exact ⟨_, _, hr, hgr.1, hgr.2, by simp [Value.ownBlock], rfl⟩
theorem run_app_none (w : World) (t ty e : TypeId) (i : TypeInfo) (ht : P.underlying t = some (.slice e)) (hi : P.info? e = some i) {v : Value} {n : Nat} {xs : List Value} (hown : rowH w.heap e i.size v n xs) :
  (Builtin.append_ #[t, t] ty #[v, .slice none 0 0]).run P w = .ok v w := by
 rcases hown.2 with ⟨rfl, rfl⟩ | ⟨g, cap, cur, rfl, _, _, hnc, _⟩
 ·simp [Builtin.append_, run_underlying ht, sizeOf, typeInfo, hi, Builtin.lenOf, Builtin.firstCells]
 ·simp [Builtin.append_, run_underlying ht, sizeOf, typeInfo, hi, Builtin.lenOf, Builtin.firstCells, hnc, storeCells]
end
section
variable {P : Program} {E : Env} {n0 : Nat} {κ0 : Nat → Bind} {w0 w : World} {S0 O0 S : Nat → Prop} {H : HP} {κ : Nat → Bind}
theorem owns_row {el sz byt : Nat} {es : List (List CV)} {v : Value} : owns (.row el sz byt es) (.slc v) = v.ownBlock := by
 cases v <;> try rfl
 rename_i a _ _
 cases a <;> rfl
theorem pushRow (hm : Mem n0 κ0 w0 S0 O0 H w S κ) {w' : World} {row : Option Nat} (hg : w.grownBy w' row) (hrow : ∀ B, row = some B → S B ∧ (∀ j, ownAt κ H j ≠ some B) ∧ (B < w0.heap.size → O0 B))
  {el sz byt : Nat} {es : List (List CV)} {v : Value} {xs : List Value} (hr : rowH w'.heap el sz v es.length xs) (hb : ∀ B, v.ownBlock = some B → row = some B ∨ w.heap.size ≤ B)
  (hbyt : es.length * byt ≤ 140737488355328) (hall : ∀ e ∈ es, e.length = sz) (hcv : CellsV w.heap S es.flatten xs) (hone : v.oneCell' = true) :
  ∃ S' κ', Mem n0 κ0 w0 S0 O0 (H ++ [.row el sz byt es]) w' S' κ' ∧ Ext w S κ w' S' κ' ∧ AVR w'.heap S' κ' (.own H.length) v := by
 have hlt : ∀ B, v.ownBlock = some B → B < w'.heap.size := fun B hB => by
  rcases hr.2 with ⟨rfl, _⟩ | ⟨g, cap, cur, rfl, _, hg', _⟩
  ·simp [Value.ownBlock] at hB
  ·simp only [Value.ownBlock, Option.some.injEq] at hB
   subst hB
   obtain ⟨fz, hg', _⟩ := hg'
   exact (Array.getElem?_eq_some_iff.1 hg').1
 have hpre : Ext w S κ w' (fun B => S B ∨ owns (.row el sz byt es) (.slc v) = some B) (updB κ H.length (.slc v)) := by
  refine ⟨fun B off u h1 h2 => ?_, fun i hi => ?_⟩
  ·have hl := cellAt_lt h2
   have hne : row ≠ some B := fun h => h1 (hrow B h).1
   refine ⟨fun h => ?_, ?_⟩
   ·rcases h with h | h
    ·exact h1 h
    ·rw [owns_row] at h
     rcases hb B h with h3 | h3
     ·exact hne h3
     ·omega
   ·rw [cellAt_same (hg.block B hl (fun h => hne h.symm))]; exact h2
  ·unfold updB
   rw [if_neg]
   intro e
   exact hi (hm.hr.out i (by omega))
 have := hm.push row hg hrow (.row el sz byt es) (.slc v) (fun B h => by rw [owns_row] at h; exact ⟨hb B h, hlt B h⟩)
  (by
   simp only [EntR, reduceCtorEq, false_or]
   exact ⟨v, xs, rfl, hr, hbyt, hall, CellsV.mono hpre.mem hcv⟩)
 exact ⟨_, _, this.1, this.2, by simp only [AVR]; exact ⟨by simp [updB], hone⟩⟩
theorem avrs_cells {h : Array Obj} {S : Nat → Prop} {κ : Nat → Bind} : ∀ {r : List CV} {vs : List Value}, AVRs h S κ (r.map .c) vs → CellsV h S r vs
 | [], vs, hx => by simpa [AVRs, CellsV] using hx
 | x :: r, vs, hx => by
  simp only [List.map_cons, AVRs, AVR] at hx
  obtain ⟨v, q, rfl, h1, h2⟩ := hx
  simp only [CellsV]
  exact ⟨v, q, rfl, h1, avrs_cells h2⟩
theorem bigRow_spec (hm : Mem n0 κ0 w0 S0 O0 H w S κ) {el n : Nat} {c : Array Value} {r : List CV} (hl : CellsV w.heap S r c.toList) (hr : r.length = n) :
  ∃ S' κ', Mem n0 κ0 w0 S0 O0 (H ++ [.row el n 1 [r]]) (w.alloc (.cells c el)) S' κ' ∧ Ext w S κ (w.alloc (.cells c el)) S' κ' ∧ AVR (w.alloc (.cells c el)).heap S' κ' (.elt H.length n 0 0) (.pointer (some ⟨w.heap.size, 0, none⟩)) := by
 have hcl : ∀ {r : List CV} {vs : List Value}, CellsV w.heap S r vs → vs.length = r.length := fun {r} => by
  induction r with
  | nil => intro vs h; simp only [CellsV] at h; simp [h]
  | cons x r ih =>
   intro vs h
   simp only [CellsV] at h
   obtain ⟨v, q, rfl, _, h2⟩ := h
   simp [ih h2]
 have hc : c.size = n := by rw [← Array.length_toList, hcl hl, hr]
 obtain ⟨S', κ', h1, h2, h3⟩ := pushRow hm (w' := w.alloc (.cells c el)) (row := none) (World.grownBy_alloc w _ none) (fun B h => by cases h) (el := el) (sz := n) (byt := 1) (es := [r]) (v := .slice (some ⟨w.heap.size, 0, none⟩) 1 1) (xs := c.toList)
  ⟨by simp [hc], .inr ⟨_, 1, c, rfl, Nat.zero_le _, ⟨(0, 0), heap_alloc_new w _, .inl rfl⟩, Nat.le_refl _, by simp [maxLen], by simp [hc], by rw [List.length_singleton, Nat.one_mul, ← hc, ← Array.length_toList, List.take_length]⟩⟩
  (fun B h => by simp only [Value.ownBlock, Option.some.injEq] at h; exact .inr (by omega)) (by simp) (fun e he => by rw [List.mem_singleton.1 he]; exact hr) (by simpa using hl) rfl
 simp only [AVR] at h3
 refine ⟨S', κ', h1, h2, ?_⟩
 simp only [AVR]
 exact ⟨_, _, _, _, h3.1, by simp⟩
theorem cells_bR {h : Array Obj} {S : Nat → Prop} : ∀ (l : List UInt8), CellsV h S (bR l).flatten (l.map fun b => Value.int .u8 (b.toNat : Int))
 | [] => by simp [bR, CellsV]
 | b :: l => by
  have := cells_bR (h := h) (S := S) l
  simp only [bR, List.map_cons, List.flatten_cons, List.singleton_append, CellsV, CVR] at this ⊢
  exact ⟨_, _, rfl, rfl, this⟩
theorem bR_len (l : List UInt8) : (bR l).length = l.length := by simp [bR]
theorem bR_all {l : List UInt8} : ∀ x ∈ bR l, x.length = 1 := fun x hx => by
 simp only [bR, List.mem_map] at hx
 obtain ⟨b, _, rfl⟩ := hx
 rfl
theorem byteK_spec (he : EnvOk P E) (hm : Mem n0 κ0 w0 S0 O0 H w S κ) {src dst : TypeId} {x : AV} {u : Value} (hx : AVR w.heap S κ x u) {K : AV → HP → Prop} (hk : byteK E H src dst x K) :
  ∃ r z w' H' S' κ', (convert src dst u).run P w = .ok r w' ∧ K z H' ∧ Mem n0 κ0 w0 S0 O0 H' w' S' κ' ∧ Ext w S κ w' S' κ' ∧ AVR w'.heap S' κ' z r ∧ H.length ≤ H'.length := by
 unfold byteK at hk
 replace hk := tyK_spec he hk
 obtain ⟨ht1, _, hk⟩ := hk
 replace hk := tyK_spec he hk
 obtain ⟨ht, _, hk⟩ := hk
 split at hk
 ·rename_i e hd
  have hu := ht.und
  simp only [hd] at hu
  replace hk := tyK_spec he hk
  obtain ⟨hte, _, hk⟩ := hk
  split at hk
  ·rename_i hde
   have hue := hte.und
   simp only [hde] at hue
   split at hk
   ·rename_i s
    split at hk
    ·rename_i hds
     have hus := ht1.und
     simp only [hds] at hus
     obtain ⟨hb, hk⟩ := hk
     replace hk := snocK_spec hk
     simp only [AVR, CVR] at hx
     subst hx
     have hsl : s.data.toList.length = s.size := by rw [Array.length_toList]; rfl
     have hrun := Lib.run_convert_string_bytes (P := P) w src dst e s hus hu hue
     have hge := grownCap_ge w s.size 0 e
     have hcm : grownCap w s.size 0 e ≤ maxLen := grownCap_le_maxLen w s.size 0 e (by simp only [maxLen]; omega)
     have hcl : (Lib.bytesCells w e s).size = grownCap w s.size 0 e := by
      simp only [Lib.bytesCells, Array.size_append, Array.size_map, Array.size_replicate]
      have : s.data.size = s.size := rfl
      omega
     obtain ⟨S', κ', m1, e1, r1⟩ := pushRow hm (row := none) (w' := Lib.bytesWorld w e s) ⟨rfl, rfl, rfl, by rw [Lib.bytesWorld_size]; omega, fun k hk _ => Lib.bytesWorld_at_old w e s k hk⟩ (fun B h => by cases h) (el := e) (sz := 1) (byt := 1) (es := bR s.data.toList) (v := .slice (some ⟨w.heap.size, 0, none⟩) s.size (grownCap w s.size 0 e)) (xs := Lib.strCells s)
      ⟨by rw [bR_len, hsl, Lib.strCells_length, Nat.mul_one], .inr ⟨w.heap.size, _, Lib.bytesCells w e s, by rw [bR_len, hsl], Nat.zero_le _, ⟨_, Lib.bytesWorld_at_new w e s, .inr (Nat.le_refl _)⟩, by rw [bR_len, hsl]; exact hge, hcm, by rw [Nat.mul_one]; exact hcl, by
       rw [bR_len, hsl, Nat.mul_one, Lib.bytesCells, Array.toList_append, Array.toList_map]
       refine List.take_left' ?_
       rw [List.length_map, hsl]⟩⟩ (fun B h => by simp [Value.ownBlock] at h; exact .inr (by omega)) (by rw [bR_len, hsl]; omega) bR_all (cells_bR _) rfl
     exact ⟨_, _, _, _, S', κ', hrun, hk, m1, e1, r1, by simp⟩
    ·exact hk.elim
   ·rename_i i
    split at hk
    ·rename_i hsd
     have hsd := Nat.eq_of_beq_eq_true hsd
     subst hsd
     replace hk := getK_spec hk
     obtain ⟨en, hi, hk⟩ := hk
     split at hk
     ·rename_i el sz b es
      obtain ⟨hpos, hk⟩ := hk
      simp only [AVR] at hx
      have hent := hm.hr.ent i _ hi
      rw [hx.1] at hent
      simp only [EntR, reduceCtorEq, false_or] at hent
      obtain ⟨v', xs, hv, hrow, hb, hall, hcv⟩ := hent
      injection hv with hv
      subst hv
      rcases hrow.2 with ⟨_, h0⟩ | ⟨g, cap, cur, rfl, hbg, ⟨fz, hg, hfz⟩, hnc, hcm, hcs, htake⟩
      ·omega
      have hoi : ownAt κ H i = some g := by rw [ownAt_of hi, hx.1]; rfl
      have hSg := hm.hr.own i g hoi
      have hsh : w.shape? g = some (el, cur.size) := by unfold World.shape?; rw [hg]
      let w' := w.freeze ⟨g, cur.size, none⟩ 1
      have hrun : (convert src src (.slice (some ⟨g, 0, none⟩) es.length cap)).run P w = .ok (.slice (some ⟨g, 0, none⟩) es.length cap) w' := by
       simp [convert, run_underlying hu, run_underlying hue, markStringish, hsh, w']
      have hgl : g < w.heap.size := (Array.getElem?_eq_some_iff.1 hg).1
      have hat : rowAt w'.heap g cur el := by
       obtain ⟨lo, hi'⟩ := fz
       refine ⟨_, by
        simp only [w', World.freeze]
        rw [if_neg (by decide)]
        simp only [Array.getElem?_modify, hg, if_true, Option.map_some]
        rfl, ?_⟩
       right
       split
       ·exact Nat.le_refl _
       ·rename_i hne
        rcases hfz with hfz | hfz
        ·cases hfz
         exact absurd rfl hne
        ·simp only at hfz ⊢
         omega
      have hoth : ∀ k, k ≠ g → w'.heap[k]? = w.heap[k]? := fun k hk => by
       simp only [w', World.freeze]
       rw [if_neg (by decide)]
       simp only [Array.getElem?_modify]
       rw [if_neg (Ne.symm hk)]
      have hsz : w'.heap.size = w.heap.size := by
       simp only [w', World.freeze]
       rw [if_neg (by decide)]
       simp
      have hgr : w.grownBy w' (some g) := ⟨by simp only [w', World.freeze]; rw [if_neg (by decide)], by simp only [w', World.freeze]; rw [if_neg (by decide)], by simp only [w', World.freeze]; rw [if_neg (by decide)], by omega, fun k hk hne => hoth k (fun e => hne (by rw [e]))⟩
      have hmono : ∀ B' o' u', ¬ S B' → cellAt w.heap B' o' = some u' → ¬ S B' ∧ cellAt w'.heap B' o' = some u' := fun B' o' u' h1 h2 => by
       refine ⟨h1, ?_⟩
       rw [cellAt_same (hoth B' (fun e => h1 (by rw [e]; exact hSg)))]
       exact h2
      have hw := hm.write (i := i) (B := g) (e' := .row el sz b es) hi (by rw [hx.1]; rfl) (fun B' h => by rw [hx.1] at h; simpa [owns] using h.symm) hgr
       (by
        rw [hx.1]
        simp only [EntR, reduceCtorEq, false_or]
        exact ⟨_, xs, rfl, ⟨hrow.1, .inr ⟨g, cap, cur, rfl, hbg, hat, hnc, hcm, hcs, htake⟩⟩, hb, hall, CellsV.mono hmono hcv⟩)
      have hset : H.set i (.row el sz b es) = H := List.ext_getElem? fun q => by
       by_cases hq : q = i
       ·subst hq
        rw [List.getElem?_set_self (getElem?_lt hi), hi]
       ·rw [List.getElem?_set_ne (Ne.symm hq)]
      rw [hset] at hw
      exact ⟨_, _, w', H, S, κ, hrun, hk, hw.1, hw.2, by simp only [AVR]; exact hx, Nat.le_refl _⟩
     ·exact hk.elim
    ·exact hk.elim
   ·exact hk.elim
  ·exact hk.elim
 ·exact hk.elim
theorem appSK_spec (he : EnvOk P E) (hm : Mem n0 κ0 w0 S0 O0 H w S κ) {T T2 ty : TypeId} {s x : AV} {u v : Value} (hs : AVR w.heap S κ s u) (hx : AVR w.heap S κ x v) {K : AV → HP → Prop} (hk : appSK E H T T2 s x K) :
  ∃ r z w' H' S' κ', (Builtin.append_ #[T, T2] ty #[u, v]).run P w = .ok r w' ∧ K z H' ∧ Mem n0 κ0 w0 S0 O0 H' w' S' κ' ∧ Ext w S κ w' S' κ' ∧ AVR w'.heap S' κ' z r ∧ H.length ≤ H'.length := by
 unfold appSK at hk
 replace hk := tyK_spec he hk
 obtain ⟨ht, _, hk⟩ := hk
 replace hk := tyK_spec he hk
 obtain ⟨ht2, _, hk⟩ := hk
 split at hk
 ·rename_i e j str hd hd2
  have hu := ht.und
  simp only [hd] at hu
  have hu2 := ht2.und
  simp only [hd2] at hu2
  replace hk := tyK_spec he hk
  obtain ⟨hte, _, hk⟩ := hk
  obtain ⟨i, z, hi, hsz, hby, hz, hzc, hzo, hzl⟩ := hte.info
  split at hk
  ·rename_i h1 h2
   have h1 := Nat.eq_of_beq_eq_true h1
   have h2 := Nat.eq_of_beq_eq_true h2
   have hs1 : i.size = 1 := by rw [hsz, h1]
   have hb1 : i.bytes = 1 := by rw [hby, h2]
   have hzs : z.cells.size = 1 := by rw [← h1, ← hzl, ← hzc, Array.length_toList]
   replace hk := getK_spec hk
   obtain ⟨en, hj, hk⟩ := hk
   simp only [AVR, CVR] at hs hx
   subst hx
   split at hk
   ·rename_i el sz b es
    split at hk
    ·rename_i g1 g2 g3
     have g1 := Nat.eq_of_beq_eq_true g1
     have g2 := Nat.eq_of_beq_eq_true g2
     have g3 := Nat.eq_of_beq_eq_true g3
     subst g1 g2 g3
     obtain ⟨hpos, hb, hk⟩ := hk
     replace hk := setK_spec hk
     obtain ⟨hjl, hk⟩ := hk
     replace hk := snocK_spec hk
     have hent := hm.hr.ent j _ hj
     rw [hs.1] at hent
     simp only [EntR, reduceCtorEq, false_or] at hent
     obtain ⟨v', olds, hv, hrow0, _, hall, hcv⟩ := hent
     injection hv with hv
     subst hv
     have hnew : Lib.strCells str = str.data.toList.map fun b => Value.int .u8 (b.toNat : Int) := rfl
     have hsl : str.data.toList.length = str.size := by rw [Array.length_toList]; rfl
     obtain ⟨r, w', hrun, hrow, hg, hB, hone⟩ : ∃ r w', (Builtin.append_ #[T, T2] ty #[u, .string str]).run P w = .ok r w' ∧ rowH w'.heap el 1 r (es.length + str.size) (olds ++ Lib.strCells str) ∧ w.grownBy w' u.ownBlock ∧ (∀ B, r.ownBlock = some B → u.ownBlock = some B ∨ w.heap.size ≤ B) ∧ r.oneCell' = true := by
      rcases hrow0.2 with ⟨_, h0⟩ | ⟨g, cap, cur, rfl, hbg, hg, hnc, hcm, hcs, htake⟩
      ·omega
      obtain ⟨fz, hg, hfz⟩ := hg
      have hlen : (olds ++ Lib.strCells str).length = (es.length + str.size) * 1 := by rw [List.length_append, hrow0.1, Lib.strCells_length, Nat.add_mul, Nat.mul_one, Nat.mul_one]
      have hm63 : es.length + str.size ≤ maxLen := by simp only [maxLen]; omega
      by_cases hroom : es.length + str.size ≤ cap
      ·have hst := run_storeCells_atM P g es.length el fz (Lib.strCells str) 0 cur w hg hfz (by simp only [Lib.strCells_length]; omega) (Lib.strCells_oneCell str)
       simp only [Nat.add_zero, Lib.strCells_length] at hst
       have hf := Lib.run_firstCells_string (P := P) w 1 str
       refine ⟨_, _, by simp [Builtin.append_, run_underlying hu, run_underlying hu2, sizeOf, typeInfo, hi, hs1, Builtin.lenOf, hroom, hf, Addr.add_lit, hst]; rfl, ⟨hlen, .inr ⟨g, cap, _, rfl, hbg, ⟨fz, setRow_heap w g cur _ el _ hg, hfz.imp id fun h => by
        simp only [List.size_toArray, List.length_append, List.length_take, List.length_drop, Array.length_toList, Lib.strCells_length]
        omega⟩, hroom, hcm, ?_, ?_⟩⟩, ⟨rfl, rfl, rfl, by simp, fun k _ hk => setRow_other w g k _ (fun e => hk (by simp [Value.ownBlock, e]))⟩, by simp [Value.ownBlock], rfl⟩
       ·simp only [List.size_toArray, List.length_append, List.length_take, List.length_drop, Array.length_toList, Lib.strCells_length]
        omega
       ·have ht' : cur.toList.take es.length = olds := by simpa using htake
        rw [ht', ← hlen]
        simp only [List.append_assoc]
        rw [← List.append_assoc]
        exact List.take_left
      ·have holds : ∀ j u, olds[j]? = some u → w.cell? ((⟨g, 0, none⟩ : Addr).add j) = some u := fun j u hu => by
        rw [Addr.add_lit, Nat.zero_add, cell_of_row w g j cur el fz hg]
        rw [← htake, List.getElem?_take] at hu
        split at hu
        ·simpa using hu
        ·cases hu
       have hr := Lib.run_append_grow_string (P := P) w T T2 ty el i z hu hu2 hi hz ⟨g, 0, none⟩ es.length cap olds (by rw [hs1]; exact hrow0.1) holds str (by omega) (by omega) (growslice_fits (by omega) (by rw [hb1]; omega))
       have hge := grownCap_ge w (es.length + str.size) cap el
       have hcm2 : grownCap w (es.length + str.size) cap el ≤ maxLen := grownCap_le_maxLen w (es.length + str.size) cap el hm63
       refine ⟨_, _, hr, ⟨hlen, .inr ⟨w.heap.size, _, _, rfl, Nat.zero_le _, ⟨(0, 0), heap_alloc_new w.drew _, .inl rfl⟩, hge, hcm2, ?_, ?_⟩⟩, ⟨rfl, rfl, rfl, by simp, fun k hk _ => heap_alloc_old w.drew _ k hk⟩, by simp [Value.ownBlock], rfl⟩
       ·simp only [Array.size_append, List.size_toArray, size_zeroCells, hzs, hrow0.1, Lib.strCells_length]
        omega
       ·simp only [Array.toList_append, List.append_assoc]
        rw [← List.append_assoc, ← hlen]
        exact List.take_left
     obtain ⟨m0, hkill⟩ := hm.kill hjl
     have hoj : ownAt κ H j = u.ownBlock := by rw [ownAt_of hj, hs.1, owns_row]
     have hrow2 : ∀ B, u.ownBlock = some B → S B ∧ (∀ q, ownAt κ (H.set j .dead) q ≠ some B) ∧ (B < w0.heap.size → O0 B) := fun B hB =>
      ⟨hm.hr.own j B (by rw [hoj]; exact hB), hkill B (by rw [hoj]; exact hB), hm.ow j B (by rw [hoj]; exact hB)⟩
     obtain ⟨S', κ', m1, e1, r1⟩ := pushRow m0 hg hrow2 (es := es ++ bR str.data.toList) (byt := 1) (by rw [List.length_append, bR_len, hsl]; exact hrow) hB (by rw [List.length_append, bR_len, hsl]; omega)
      (fun x hx => by
       rcases List.mem_append.1 hx with hx | hx
       ·exact hall x hx
       ·exact bR_all x hx) (by rw [List.flatten_append]; exact hcv.append (cells_bR _)) hone
     exact ⟨r, _, w', _, S', κ', hrun, hk, m1, e1, r1, by simp⟩
    ·exact hk.elim
   ·exact hk.elim
  ·exact hk.elim
 ·exact hk.elim
theorem appK_spec (he : EnvOk P E) (hm : Mem n0 κ0 w0 S0 O0 H w S κ) {T T2 ty : TypeId} {s x : AV} {u v : Value} (hs : AVR w.heap S κ s u) (hx : AVR w.heap S κ x v) {K : AV → HP → Prop} (hk : appK E H T T2 s x K) :
  ∃ r z w' H' S' κ', (Builtin.append_ #[T, T2] ty #[u, v]).run P w = .ok r w' ∧ K z H' ∧ Mem n0 κ0 w0 S0 O0 H' w' S' κ' ∧ Ext w S κ w' S' κ' ∧ AVR w'.heap S' κ' z r ∧ H.length ≤ H'.length := by
 unfold appK at hk
 split at hk
 ·exact appSK_spec he hm hs hx hk
 ·rename_i hT
  have hT := Nat.eq_of_beq_eq_true hT
  subst hT
  replace hk := tyK_spec he hk
  obtain ⟨ht, _, hk⟩ := hk
  split at hk
  ·rename_i e hd
   have hu := ht.und
   simp only [hd] at hu
   replace hk := tyK_spec he hk
   obtain ⟨hte, _, hk⟩ := hk
   obtain ⟨i, z, hi, hsz, hby, hz, hzc, hzo, hzl⟩ := hte.info
   split at hk
   ·exact hk.elim
   ·rename_i hne
    have hpos : 0 < i.size := by rw [hsz]; exact Nat.pos_of_ne_zero (fun h => hne h)
    have hzs : z.cells.size = i.size := by rw [hsz, ← hzl, ← hzc, Array.length_toList]
    replace hk := srcK_spec hm.hr hx hk
    obtain ⟨xs, news, hk, hn1, hn2, hsrc⟩ := hk
    have hnl : news.length = xs.length * i.size := by rw [hn1.len, flatten_len hn2, hsz]
    -- the run, for a row that owns
    have go : ∀ (u : Value) (n : Nat) (olds : List Value), rowH w.heap e i.size u n olds → (n + xs.length) * i.bytes ≤ 140737488355328 → n + xs.length ≤ 9223372036854775807 → u.oneCell' = true →
      ∃ r w', (Builtin.append_ #[T, T] ty #[u, v]).run P w = .ok r w' ∧ rowH w'.heap e i.size r (n + xs.length) (olds ++ news) ∧ w.grownBy w' u.ownBlock ∧ (∀ B, r.ownBlock = some B → u.ownBlock = some B ∨ w.heap.size ≤ B) ∧ r.oneCell' = true := by
     intro u n olds hown hb h63 hone
     rcases hsrc with ⟨rfl, rfl⟩ | ⟨ad, c, rfl, hsp, hcell⟩
     ·have : news = [] := List.eq_nil_of_length_eq_zero (by simpa using hnl)
      subst this
      exact ⟨u, w, run_app_none w T ty e i hu hi hown, by simpa using hown, ⟨rfl, rfl, rfl, Nat.le_refl _, fun _ _ _ => rfl⟩, fun B h => .inl h, hone⟩
     ·rcases hsp with rfl | hsp
      ·have : news = [] := List.eq_nil_of_length_eq_zero (by simpa using hnl)
       subst this
       exact run_app w T ty e i z hu hi hz hzs hpos u n olds hown ad 0 c [] (by simp) (fun j v hv => by simp at hv) hn1.one h63 hb
      obtain ⟨B, off, sp⟩ := ad
      simp only at hsp hcell
      subst hsp
      exact run_app w T ty e i z hu hi hz hzs hpos u n olds hown ⟨B, off, none⟩ xs.length c news hnl (fun j v hv => by
       have := hcell j v hv
       rw [Addr.add_lit]
       simp only [cellAt] at this
       simp only [World.cell?, Option.isSome_none, Bool.false_eq_true, if_false]
       split at this <;> simp_all) hn1.one h63 hb
    split at hk
    ·obtain ⟨hb, h63, hk⟩ := hk
     replace hk := snocK_spec hk
     simp only [AVR] at hs
     subst hs
     obtain ⟨r, w', hrun, hrow, hg, hB, hone⟩ := go (.slice none 0 0) 0 [] ⟨by simp, .inl ⟨rfl, rfl⟩⟩ (by rw [hby]; simpa using hb) (by simpa using h63) rfl
     simp only [Nat.zero_add, List.nil_append] at hrow
     obtain ⟨S', κ', m1, e1, r1⟩ := pushRow hm (row := none) hg (fun B h => by cases h) (byt := (E.ty e).bytes) hrow hB hb (fun x hx => by rw [hn2 x hx, hsz]) hn1 hone
     rw [hsz] at m1
     exact ⟨r, _, w', _, S', κ', hrun, hk, m1, e1, r1, by simp⟩
    ·rename_i j
     replace hk := getK_spec hk
     obtain ⟨en, hj, hk⟩ := hk
     simp only [AVR] at hs
     split at hk
     ·rename_i el sz b es
      split at hk
      ·rename_i h1
       have h1 := Nat.eq_of_beq_eq_true h1
       subst h1
       split at hk
       ·rename_i h2
        have h2 := Nat.eq_of_beq_eq_true h2
        split at hk
        ·rename_i h3
         have h3 := Nat.eq_of_beq_eq_true h3
         obtain ⟨hb, h63, hk⟩ := hk
         replace hk := setK_spec hk
         obtain ⟨hjl, hk⟩ := hk
         replace hk := snocK_spec hk
         have hent := hm.hr.ent j _ hj
         rw [hs.1] at hent
         simp only [EntR, reduceCtorEq, false_or] at hent
         obtain ⟨v', olds, hv, hrow0, _, hall, hcv⟩ := hent
         injection hv with hv
         subst hv
         have hszi : sz = i.size := by rw [h2, hsz]
         rw [hszi] at hrow0
         obtain ⟨r, w', hrun, hrow, hg, hB, hone⟩ := go u es.length olds hrow0 (by rw [hby, ← h3]; exact hb) h63 hs.2
         obtain ⟨m0, hkill⟩ := hm.kill hjl
         have hoj : ownAt κ H j = u.ownBlock := by rw [ownAt_of hj, hs.1, owns_row]
         have hrow2 : ∀ B, u.ownBlock = some B → S B ∧ (∀ q, ownAt κ (H.set j .dead) q ≠ some B) ∧ (B < w0.heap.size → O0 B) := fun B hB =>
          ⟨hm.hr.own j B (by rw [hoj]; exact hB), hkill B (by rw [hoj]; exact hB), hm.ow j B (by rw [hoj]; exact hB)⟩
         obtain ⟨S', κ', m1, e1, r1⟩ := pushRow m0 hg hrow2 (es := es ++ xs) (byt := b) (by rw [List.length_append]; exact hrow) hB (by rw [List.length_append]; exact hb)
          (fun x hx => by
           rcases List.mem_append.1 hx with hx | hx
           ·rw [hall x hx, hszi]
           ·rw [hn2 x hx, hsz]) (by rw [List.flatten_append]; exact hcv.append hn1) hone
         rw [← hszi] at m1
         exact ⟨r, _, w', _, S', κ', hrun, hk, m1, e1, r1, by simp⟩
        ·exact hk.elim
       ·exact hk.elim
      ·exact hk.elim
     ·exact hk.elim
    ·exact hk.elim
  ·exact hk.elim
end
end Go.Tr
/- The engine, part 11: one operation. -/
namespace Go.Tr
theorem getK_any {H : HP} {i : Nat} {K : Ent → Prop} (hk : getK H i K) : ∃ e, K e := let ⟨e, _, h⟩ := getK_spec hk; ⟨e, h⟩
theorem takeK_any {α : Type} {l : List α} {d n : Nat} {K : List α → Prop} (hk : takeK l d n K) : ∃ r, K r := ⟨_, (takeK_spec hk).2⟩
theorem tyK_any {E : Env} {T : TypeId} {K : TyD → Prop} (hk : tyK E T K) : K (E.ty T) := by
 unfold tyK at hk; split at hk
 ·exact hk.elim
 ·exact hk
theorem wrapAgg_any {k : TK} {l : List AV} {K : AV → Prop} (hk : wrapAgg k l K) : ∃ v, K v := by
 unfold wrapAgg at hk
 split at hk
 ·exact ⟨_, hk⟩
 ·exact ⟨_, hk⟩
 ·split at hk
  ·exact ⟨_, hk⟩
  ·exact hk.elim
theorem loadK_any {E : Env} {H : HP} {T : TypeId} {p : AV} {K : AV → Prop} (hk : loadK E H T p K) : ∃ v, K v := by
 unfold loadK at hk
 replace hk := tyK_any hk
 split at hk
 ·replace hk := getK_any hk
  obtain ⟨e, hk⟩ := hk
  split at hk
  ·exact wrapAgg_any (takeK_spec hk).2
  ·exact hk.elim
 ·exact wrapAgg_any hk.2
 ·replace hk := getK_any hk
  obtain ⟨e, hk⟩ := hk
  split at hk
  ·split at hk
   ·split at hk
    ·obtain ⟨b, _, hk⟩ := hk; exact ⟨_, hk⟩
    ·obtain ⟨r, _, _, hk⟩ := hk; exact wrapAgg_any hk
   ·exact hk.elim
  ·split at hk
   ·obtain ⟨r, _, _, hk⟩ := hk; exact wrapAgg_any hk
   ·exact hk.elim
  ·exact hk.elim
 ·exact hk.elim
theorem binK_any {E : Env} {op : BinOp} {T : TypeId} {ch : Ch} {g : Bool} {a b : AV} {K : AV → Prop} (hk : binK E op T ch g a b K) : ∃ v, K v := by
 unfold binK at hk
 split at hk
 ·split at hk <;> first | exact ⟨_, hk.2⟩ | exact ⟨_, hk⟩ | exact hk.elim | (split at hk <;> first | exact ⟨_, hk.2⟩ | exact ⟨_, hk⟩)
 ·split at hk <;> first | exact ⟨_, hk.2⟩ | exact ⟨_, hk⟩ | exact hk.elim
 ·split at hk <;> first | exact ⟨_, hk.2⟩ | exact ⟨_, hk⟩ | exact hk.elim
 ·replace hk := tyK_any hk
  split at hk
  ·split at hk <;> first | exact ⟨_, hk⟩ | exact hk.elim
  ·exact hk.elim
 ·split at hk <;> first | exact ⟨_, hk⟩ | exact hk.elim
 ·split at hk <;> first | exact ⟨_, hk.2⟩ | exact ⟨_, hk⟩ | exact hk.elim
 ·replace hk := tyK_any hk
  split at hk
  ·split at hk
   ·exact ⟨_, hk false (fun h => by cases h)⟩
   ·exact ⟨_, hk true (fun h => by cases h)⟩
   ·exact hk.elim
  ·exact hk.elim
 ·replace hk := tyK_any hk
  split at hk
  ·split at hk
   ·exact ⟨_, hk⟩
   ·exact ⟨_, hk⟩
   ·exact hk.elim
  ·exact hk.elim
 ·exact hk.elim
theorem fieldK_any {E : Env} {T : TypeId} {f : Nat} {p : AV} {K : AV → Prop} (hk : fieldK E T p f K) : ∃ v, K v := by
 unfold fieldK at hk
 replace hk := tyK_any hk
 split at hk
 ·split at hk
  ·replace hk := tyK_any hk
   split at hk
   ·exact hk.elim
   ·split at hk <;> first | exact ⟨_, hk⟩ | exact hk.elim
  ·exact hk.elim
 ·exact hk.elim
theorem lenK_any {E : Env} {H : HP} {T : TypeId} {p : AV} {x : Nat × Bool} {ch : Ch} {g : Bool} (hg : g = false) {K : AV → Prop} (hk : lenK E H T p (x :: ch) g K) : ∃ v, K v := by
 unfold lenK at hk
 replace hk := tyK_any hk
 split at hk
 ·split at hk
  ·exact ⟨_, hk⟩
  ·exact ⟨_, hk (gd_no hg)⟩
  ·replace hk := getK_any hk
   obtain ⟨e, hk⟩ := hk
   split at hk
   ·exact ⟨_, hk (gd_no hg)⟩
   ·exact ⟨_, hk (gd_no hg)⟩
   ·exact hk.elim
  ·exact hk.elim
 ·split at hk
  ·exact ⟨_, hk⟩
  ·exact hk.elim
 ·exact hk.elim
theorem idxK_any {E : Env} {H : HP} {T : TypeId} {p q : AV} {ch : Ch} {g : Bool} {K : AV → Prop} (hk : idxK E H T p q ch g K) : ∃ v, K v := by
 unfold idxK at hk
 replace hk := tyK_any hk
 split at hk
 ·replace hk := tyK_any hk
  split at hk
  ·split at hk
   ·split at hk
    ·obtain ⟨r, _, hk⟩ := hk; exact ⟨_, hk⟩
    ·exact hk.elim
   ·replace hk := getK_any hk
    obtain ⟨e, hk⟩ := hk
    split at hk
    ·split at hk
     ·exact ⟨_, hk.2⟩
     ·exact hk.elim
    ·split at hk
     ·obtain ⟨r, _, hk⟩ := hk; exact ⟨_, hk⟩
     ·exact hk.elim
    ·exact hk.elim
   ·exact hk.elim
  ·exact hk.elim
 ·replace hk := tyK_any hk
  split at hk
  ·split at hk
   ·exact ⟨_, hk.2⟩
   ·exact ⟨_, hk.2⟩
   ·exact hk.elim
  ·exact hk.elim
 ·exact hk.elim
theorem maxK_any {a b : AV} {K : AV → Prop} (hk : maxK a b K) : ∃ v, K v := by
 unfold maxK at hk
 split at hk <;> first | exact ⟨_, hk⟩ | exact hk.elim
theorem minK_any {a b : AV} {K : AV → Prop} (hk : minK a b K) : ∃ v, K v := by
 unfold minK at hk
 split at hk <;> first | exact ⟨_, hk⟩ | exact hk.elim
theorem convK_any {E : Env} {H : HP} {s d : TypeId} {a : AV} {K : AV → Prop} (hk : convK E H s d a K) : ∃ v, K v := by
 unfold convK at hk
 replace hk := tyK_any hk
 replace hk := tyK_any hk
 split at hk
 ·exact ⟨_, hk⟩
 ·split at hk
  ·replace hk := tyK_any hk
   split at hk
   ·replace hk := getK_any hk
    obtain ⟨en, hk⟩ := hk
    split at hk
    ·obtain ⟨l, _, hk⟩ := hk
     exact ⟨_, hk⟩
    ·exact hk.elim
   ·exact hk.elim
  ·exact hk.elim
 ·exact hk.elim
theorem pickR_any {e p q : Bool} {a b : Operand} {K : AV → Prop} (hk : pickR e p q a b K) : ∃ v, K v := by
 unfold pickR at hk
 split at hk <;> exact ⟨_, hk⟩
theorem pickB_any {tm : TM} {ch : Ch} {t : Nat} {e : Bool} {a b : Operand} {K : AV → Prop} (hk : pickB tm ch t e a b K) : ∃ v, K v := by
 unfold pickB at hk
 replace hk := evK_any hk
 obtain ⟨x, hk⟩ := hk
 replace hk := evK_any hk
 obtain ⟨y, hk⟩ := hk
 split at hk
 ·exact pickR_any hk
 ·exact hk.elim
theorem pickK_any {tm : TM} {ch : Ch} {c a b : Operand} {K : AV → Prop} (hk : pickK tm ch c a b K) : ∃ v, K v := by
 unfold pickK at hk
 split at hk
 ·rw [lkK_eq] at hk
  split at hk
  ·exact evK_any hk
  ·exact evK_any hk
  ·exact pickB_any hk
  ·split at hk
   ·exact pickB_any hk
   ·exact hk.elim
  ·exact hk.elim
 ·exact hk.elim
theorem evsK_any {tm : TM} {ch : Ch} : ∀ {xs : List Operand} {K : List AV → Prop}, evsK tm ch xs K → ∃ vs, K vs
 | [], K, hk => ⟨_, hk⟩
 | x :: r, K, hk => by
  simp only [evsK] at hk
  replace hk := evK_any hk
  obtain ⟨v, hk⟩ := hk
  exact let ⟨vs, h⟩ := evsK_any hk; ⟨_, h⟩
theorem evPartsK_any {tm : TM} {ch : Ch} : ∀ {xs : List (Nat × Operand)} {K : List (Nat × AV) → Prop}, evPartsK tm ch xs K → ∃ vs, K vs
 | [], K, hk => ⟨_, hk⟩
 | (i, x) :: r, K, hk => by
  simp only [evPartsK] at hk
  replace hk := evK_any hk
  obtain ⟨v, hk⟩ := hk
  exact let ⟨vs, h⟩ := evPartsK_any hk; ⟨_, h⟩
theorem cellsK_any {x : AV} {K : List AV → Prop} (hk : cellsK x K) : ∃ l, K l := by
 unfold cellsK at hk
 split at hk
 ·split at hk
  ·exact ⟨_, hk⟩
  ·exact hk.elim
 all_goals first | exact ⟨_, hk⟩ | exact hk.elim
theorem buildK_any {E : Env} {fs : List (Nat × TypeId)} : ∀ {ps : List (Nat × AV)} {l : List AV} {K : List AV → Prop}, buildK E fs ps l K → ∃ l', K l'
 | [], l, K, hk => ⟨_, hk⟩
 | (i, v) :: r, l, K, hk => by
  simp only [buildK] at hk
  split at hk
  ·replace hk := tyK_any hk
   replace hk := cellsK_any hk
   obtain ⟨cs, hk⟩ := hk
   split at hk
   ·exact buildK_any (putK_spec hk).2
   ·exact hk.elim
  ·exact hk.elim
theorem buildAK_any {sz : Nat} : ∀ {ps : List (Nat × AV)} {l : List AV} {K : List AV → Prop}, buildAK sz ps l K → ∃ l', K l'
 | [], l, K, hk => ⟨_, hk⟩
 | (i, v) :: r, l, K, hk => by
  simp only [buildAK] at hk
  replace hk := cellsK_any hk
  obtain ⟨cs, hk⟩ := hk
  split at hk
  ·exact buildAK_any (putK_spec hk).2
  ·exact hk.elim
theorem bndK_any {tm : TM} {ch : Ch} {d : Int} {x : Option Operand} {K : Int → Prop} (hk : bndK tm ch d x K) : ∃ n, K n := by
 unfold bndK at hk
 split at hk
 ·exact ⟨_, hk⟩
 ·obtain ⟨v, hk⟩ := evK_any hk
  split at hk
  ·exact ⟨_, hk⟩
  ·exact hk.elim
theorem sliceK_any {E : Env} {H : HP} {T : TypeId} {v : AV} {tm : TM} {ch : Ch} {g : Bool} {lo hi : Option Operand} {K : AV → Prop} (hk : sliceK E H T v tm ch g lo hi K) : ∃ y, K y := by
 unfold sliceK at hk
 replace hk := tyK_any hk
 split at hk
 ·replace hk := tyK_any hk
  split at hk
  ·obtain ⟨l, hk⟩ := bndK_any hk
   obtain ⟨r, hk⟩ := bndK_any hk
   exact ⟨_, hk.2⟩
  ·exact hk.elim
 ·replace hk := tyK_any hk
  obtain ⟨en, hk⟩ := getK_any hk
  split at hk
  ·split at hk
   ·obtain ⟨l, hk⟩ := bndK_any hk
    obtain ⟨r, hk⟩ := bndK_any hk
    exact ⟨_, hk.2⟩
   ·exact hk.elim
  ·exact hk.elim
 ·obtain ⟨l, hk⟩ := bndK_any hk
  obtain ⟨r, hk⟩ := bndK_any hk
  exact ⟨_, hk.2⟩
 ·exact hk.elim
theorem indK_any {E : Env} {T : TypeId} {v n : AV} {ch : Ch} {g : Bool} {K : AV → Prop} (hk : indK E T v n ch g K) : ∃ y, K y := by
 unfold indK at hk
 replace hk := tyK_any hk
 split at hk
 ·exact ⟨_, hk.2⟩
 ·replace hk := tyK_any hk
  split at hk
  ·obtain ⟨_, b, _, hk⟩ := hk
   exact ⟨_, hk⟩
  ·exact hk.elim
 ·exact hk.elim
theorem nilK_any {E : Env} {op : BinOp} {T : TypeId} {y : Operand} {a : AV} {K : AV → Prop} {D : Prop} (hk : nilK E op T y a K D) (hD : D → ∃ v, K v) : ∃ v, K v := by
 unfold nilK at hk
 split at hk
 ·replace hk := tyK_any hk
  split at hk
  ·split at hk <;> first | exact ⟨_, hk⟩ | exact hk.elim
  ·exact hk.elim
 ·replace hk := tyK_any hk
  split at hk
  ·split at hk <;> first | exact ⟨_, hk⟩ | exact hk.elim
  ·exact hk.elim
 ·exact hD hk
theorem cvsK_any : ∀ {l : List AV} {K : List CV → Prop}, cvsK l K → ∃ xs, K xs
 | [], K, hk => ⟨_, hk⟩
 | x :: r, K, hk => by
  cases x <;> simp only [cvsK] at hk
  exact let ⟨_, h⟩ := cvsK_any hk; ⟨_, h⟩
theorem mkifK_any {E : Env} {T : TypeId} {v : AV} {K : AV → Prop} (hk : mkifK E T v K) : ∃ y, K y := by
 unfold mkifK at hk
 replace hk := tyK_any hk
 split at hk
 ·obtain ⟨xs, hk⟩ := cvsK_any hk
  exact ⟨_, hk⟩
 ·exact hk.elim
theorem tyasK_any {E : Env} {T : TypeId} {v : AV} {K : AV → Prop} (hk : tyasK E T v K) : ∃ y, K y := by
 unfold tyasK at hk
 replace hk := tyK_any hk
 split at hk
 ·split at hk <;> exact ⟨_, hk⟩
 ·exact ⟨_, hk⟩
 ·exact hk.elim
theorem qop_any {P : Program} {E : Env} {o : Oper} {x : Nat × Bool} {ch : Ch} {g : Bool} (hg : g = false) (hq : loudE E o.op = false) {tm : TM} {H : HP} {K : TM → HP → Prop} (hk : aop P E o (x :: ch) g tm H K) :
  ∃ v, dstK tm (x :: ch) g o.dst v fun tm' => K tm' H := by
 unfold aop at hk
 split at hk
 case h_1 => exact evK_any hk
 case h_2 => exact evK_any hk
 case h_3 => exact pickK_any hk
 case h_6 =>
  replace hk := evK_any hk
  obtain ⟨v, hk⟩ := hk
  split at hk <;> first | exact ⟨_, hk⟩ | exact hk.elim
 case h_7 =>
  replace hk := evK_any hk
  obtain ⟨v, hk⟩ := hk
  exact loadK_any hk
 case h_9 =>
  replace hk := evK_any hk
  obtain ⟨v, hk⟩ := hk
  replace hk := evK_any hk
  obtain ⟨u, hk⟩ := hk
  exact nilK_any hk binK_any
 case h_10 =>
  replace hk := evK_any hk
  obtain ⟨v, hk⟩ := hk
  split at hk <;> first | exact ⟨_, hk⟩ | exact hk.elim
 case h_11 =>
  replace hk := evK_any hk
  obtain ⟨v, hk⟩ := hk
  split at hk <;> first | exact ⟨_, hk.2⟩ | exact hk.elim
 case h_12 hop =>
  rw [hop] at hq
  split at hk
  ·rename_i hdk
   simp [loudE, cvB, hdk] at hq
  replace hk := evK_any hk
  obtain ⟨v, hk⟩ := hk
  exact convK_any hk
 case h_13 =>
  replace hk := evK_any hk
  obtain ⟨v, hk⟩ := hk
  exact fieldK_any hk
 case h_14 =>
  replace hk := evK_any hk
  obtain ⟨v, hk⟩ := hk
  replace hk := evK_any hk
  obtain ⟨u, hk⟩ := hk
  exact idxK_any hk
 case h_15 =>
  replace hk := evK_any hk
  obtain ⟨v, hk⟩ := hk
  split at hk
  ·replace hk := takeK_any hk
   obtain ⟨r, hk⟩ := hk
   split at hk <;> first | exact ⟨_, hk⟩ | exact hk.elim
  ·exact hk.elim
 case h_16 =>
  split at hk
  ·replace hk := evsK_any hk
   obtain ⟨r, hk⟩ := hk
   exact ⟨_, hk⟩
  ·split at hk
   ·replace hk := evsK_any hk
    obtain ⟨r, hk⟩ := hk
    exact ⟨_, hk⟩
   ·exact hk.elim
 case h_17 =>
  replace hk := tyK_any hk
  split at hk
  ·replace hk := evPartsK_any hk
   obtain ⟨ps, hk⟩ := hk
   replace hk := buildK_any hk
   obtain ⟨l, hk⟩ := hk
   exact ⟨_, hk⟩
  ·replace hk := tyK_any hk
   replace hk := evPartsK_any hk
   obtain ⟨ps, hk⟩ := hk
   replace hk := buildAK_any hk
   obtain ⟨l, hk⟩ := hk
   exact ⟨_, hk⟩
  ·exact hk.elim
 case h_22 =>
  obtain ⟨v, hk⟩ := evK_any hk
  exact sliceK_any hk
 case h_23 =>
  obtain ⟨v, hk⟩ := evK_any hk
  obtain ⟨n, hk⟩ := evK_any hk
  exact indK_any hk
 case h_25 c hop =>
  rw [hop] at hq
  split at hk
  ·split at hk
   ·replace hk := evK_any hk
    obtain ⟨v, hk⟩ := hk
    exact lenK_any hg hk
   ·exact hk.elim
  ·split at hk
   ·replace hk := evK_any hk
    obtain ⟨v, hk⟩ := hk
    replace hk := evK_any hk
    obtain ⟨u, hk⟩ := hk
    exact maxK_any hk
   ·exact hk.elim
  ·split at hk
   ·replace hk := evK_any hk
    obtain ⟨v, hk⟩ := hk
    replace hk := evK_any hk
    obtain ⟨u, hk⟩ := hk
    exact minK_any hk
   ·exact hk.elim
  ·rename_i hc
   obtain ⟨cal, args, at_⟩ := c
   simp only at hc
   subst hc
   simp [loudE, cvB, loudB] at hq
  ·rename_i hc
   obtain ⟨cal, args, at_⟩ := c
   simp only at hc
   subst hc
   simp [loudE, cvB, loudB] at hq
  ·rename_i hc
   obtain ⟨cal, args, at_⟩ := c
   simp only at hc
   subst hc
   simp [loudE, cvB, loudB] at hq
  ·rename_i hc
   obtain ⟨cal, args, at_⟩ := c
   simp only at hc
   subst hc
   simp [loudE, cvB, loudB] at hq
  ·exact hk.elim
 case h_26 =>
  obtain ⟨v, hk⟩ := evK_any hk
  exact mkifK_any hk
 case h_27 =>
  obtain ⟨v, hk⟩ := evK_any hk
  exact tyasK_any hk
 all_goals first | exact hk.elim | (rename_i hop; rw [hop] at hq; simp [loudE, cvB, loudB] at hq)
end Go.Tr
/- The engine, part 12: one operation, done. -/
namespace Go.Tr
section
variable {P : Program} {E : Env} {n0 : Nat} {κ0 : Nat → Bind} {w0 w : World} {S0 O0 S : Nat → Prop} {H : HP} {κ : Nat → Bind} {tm : TM} {a : Act}
theorem evArr {h : Array Obj} {vs : List AV} {xs : Array Operand} (hv : AVRs h S κ vs (xs.toList.map a.eval)) : AVRs h S κ vs (xs.map a.eval).toList := by simpa using hv
def OpSame (E : Env) (o : Oper) (a : Act) (w w2 : World) : Prop := match o.op with | .load T x => LoadSame (E.ty T).size (a.eval x) w w2 | .convert _ _ x => SlSame (a.eval x) w w2 | _ => True
def opEnt (tm : TM) (x : Operand) : Option Nat := match x with | .tmp t => entOf (lk tm t) | _ => none
def OpSrc (E : Env) (o : Oper) (tm : TM) (w : World) (S : Nat → Prop) (κ : Nat → Bind) (H : HP) (a : Act) : Prop := match o.op with | .load T x => Src w S κ H (opEnt tm x) (a.eval x) (E.ty T).size | .convert _ _ x => SlSrc w S κ H (opEnt tm x) (a.eval x) | _ => True
theorem OpSame.refl (E : Env) (o : Oper) (a : Act) (w : World) : OpSame E o a w w := by
 unfold OpSame
 split
 ·exact fun _ _ _ _ _ => rfl
 ·exact fun _ _ _ _ _ _ _ => rfl
 ·trivial
theorem evK_ent {tm : TM} {ch : Ch} {x : Operand} {K : AV → Prop} (hk : evK tm ch x K) : evK tm ch x fun v => K v ∧ entOf v = opEnt tm x := by
 cases x with
 | tmp t =>
  simp only [evK, lkK_eq, opEnt] at hk ⊢
  generalize lk tm t = v at *
  cases v <;> simp only at hk ⊢
  case «when» ch' g v =>
   split at hk
   ·rename_i hs
    exact ⟨hk, by simp only [entOf]⟩
   ·exact hk.elim
  all_goals exact ⟨hk, by simp only [entOf]⟩
 | const v =>
  simp only [evK, opEnt] at hk ⊢
  split at hk <;> first | exact hk.elim | exact constK_mono hk fun l h => ⟨h, by simp only [entOf]⟩ | exact ⟨hk, by simp only [entOf]⟩
 | global g => exact hk.elim
 | func f => exact ⟨hk, by simp only [entOf, opEnt]⟩
theorem run_equalIn_held {d : Nat} {t u : TypeId} {x : Value} {ms : Array (String × TypeId)} (h : P.underlying t = some (.interface ms)) (w : World) : (Op.equalIn (d + 1) t (.iface u x) .nilIface).run P w = .ok false w := by
 simp [Op.equalIn, run_underlying h]
theorem run_equalIn_nils {d : Nat} {t : TypeId} {ms : Array (String × TypeId)} (h : P.underlying t = some (.interface ms)) (w : World) : (Op.equalIn (d + 1) t .nilIface .nilIface).run P w = .ok true w := by
 simp [Op.equalIn, run_underlying h]
theorem nilK_spec (he : EnvOk P E) {op : BinOp} {T : TypeId} {x y : Operand} {p : AV} {u : Value} {K : AV → Prop} {D : Prop} (hp : AVR w.heap S κ p u) (hk : nilK E op T y p K D) :
  D ∨ ∃ b : Bool, K (.c (.bool b)) ∧ ∀ w2 : World, (do eqGuard op T x y u (a.eval y); binOp op T u (a.eval y) : Sem Value).run P w2 = .ok (.bool b) w2 := by
 unfold nilK at hk
 split at hk
 ·simp only [AVR, CVR] at hp
  obtain ⟨rfl, _⟩ := hp
  replace hk := tyK_spec he hk
  obtain ⟨hT, _, hk⟩ := hk
  split at hk
  ·rename_i hd
   have hu := hT.und
   simp only [hd] at hu
   obtain ⟨ms, hu⟩ := hu
   have h1 := fun w2 => run_equalIn_nils (d := 9999) hu w2
   right
   split at hk
   ·exact ⟨true, hk, fun w2 => by have := h1 w2; simp [eqGuard, binOp, Op.equal, Op.maxDepth, Act.eval, this]⟩
   ·exact ⟨false, hk, fun w2 => by have := h1 w2; simp [eqGuard, binOp, Op.equal, Op.maxDepth, Act.eval, this]⟩
   ·exact hk.elim
  ·exact hk.elim
 ·simp only [AVR, CVR] at hp
  obtain ⟨cs, rfl, _⟩ := hp
  replace hk := tyK_spec he hk
  obtain ⟨hT, _, hk⟩ := hk
  split at hk
  ·rename_i hd
   have hu := hT.und
   simp only [hd] at hu
   obtain ⟨ms, hu⟩ := hu
   have h1 := fun (w2 : World) (t : TypeId) => run_equalIn_held (d := 9999) (u := t) (x := .agg cs) hu w2
   right
   split at hk
   ·exact ⟨false, hk, fun w2 => by simp [eqGuard, binOp, Op.equal, Op.maxDepth, Act.eval, h1]⟩
   ·exact ⟨true, hk, fun w2 => by simp [eqGuard, binOp, Op.equal, Op.maxDepth, Act.eval, h1]⟩
   ·exact hk.elim
  ·exact hk.elim
 ·exact .inl hk
theorem mkifK_spec (he : EnvOk P E) {T : TypeId} {p : AV} {u : Value} {K : AV → Prop} (hp : AVR w.heap S κ p u) (hk : mkifK E T p K) :
  ∃ z r, (∀ w2 : World, (Instr.makeInterface T u).run P w2 = .ok r w2) ∧ K z ∧ AVR w.heap S κ z r := by
 unfold mkifK at hk
 replace hk := tyK_spec he hk
 obtain ⟨hT, _, hk⟩ := hk
 split at hk
 ·rename_i fs l hd
  have hu := hT.und
  simp only [hd] at hu
  obtain ⟨F, hu, _⟩ := hu
  simp only [AVR] at hp
  obtain ⟨cs, rfl, hcs⟩ := hp
  obtain ⟨xs, hk, hxs⟩ := cvsK_spec hcs hk
  exact ⟨_, .iface T (.agg cs), fun w2 => by simp [Instr.makeInterface, run_underlying hu], hk, by simp only [AVR, CVR]; exact ⟨cs, rfl, hxs⟩⟩
 ·exact hk.elim
theorem CellsV.avrs {h : Array Obj} : ∀ {l : List CV} {vs : List Value}, CellsV h S l vs → AVRs h S κ (l.map .c) vs
 | [], vs, hx => by simpa [CellsV, AVRs] using hx
 | x :: xs, vs, hx => by
  simp only [CellsV] at hx
  obtain ⟨v, r, rfl, h2, h3⟩ := hx
  simp only [List.map_cons, AVRs]
  exact ⟨v, r, rfl, by simp only [AVR]; exact h2, CellsV.avrs h3⟩
theorem tyasK_spec (he : EnvOk P E) {T T0 : TypeId} {p : AV} {u : Value} {K : AV → Prop} (hp : AVR w.heap S κ p u) (hk : tyasK E T p K) :
  ∃ z r, (∀ w2 : World, (Instr.typeAssert u T0 T true).run P w2 = .ok r w2) ∧ K z ∧ AVR w.heap S κ z r := by
 unfold tyasK at hk
 replace hk := tyK_spec he hk
 obtain ⟨hT, _, hk⟩ := hk
 have hu := hT.und
 obtain ⟨i, z, hin, hsz, hby, hz, hzc, hzo, hzl⟩ := hT.info
 split at hk
 ·rename_i fs t l hd
  simp only [hd] at hu
  obtain ⟨F, hu, _⟩ := hu
  simp only [AVR, CVR] at hp
  obtain ⟨cs, rfl, hcs⟩ := hp
  split at hk
  ·rename_i hb
   have hb := Nat.eq_of_beq_eq_true hb
   subst hb
   exact ⟨_, .tuple #[.agg cs, .bool true], fun w2 => by simp [Instr.typeAssert, run_underlying hu], hk, by simp only [AVR, AVRs, CVR]; exact ⟨_, rfl, _, _, rfl, ⟨cs, rfl, hcs.avrs⟩, _, _, rfl, rfl, rfl⟩⟩
  ·rename_i hb
   have hb : t ≠ T := fun e => by subst e; simp at hb
   exact ⟨_, .tuple #[z, .bool false], fun w2 => by simp [Instr.typeAssert, run_underlying hu, hb, zeroValue, typeInfo, hin, hz], hk, by simp only [AVR, AVRs, CVR]; exact ⟨_, rfl, _, _, rfl, trivial, _, _, rfl, rfl, rfl⟩⟩
 ·rename_i fs hd
  simp only [hd] at hu
  obtain ⟨F, hu, _⟩ := hu
  simp only [AVR, CVR] at hp
  obtain ⟨rfl, _⟩ := hp
  exact ⟨_, .tuple #[z, .bool false], fun w2 => by simp [Instr.typeAssert, run_underlying hu, zeroValue, typeInfo, hin, hz], hk, by simp only [AVR, AVRs, CVR]; exact ⟨_, rfl, _, _, rfl, trivial, _, _, rfl, rfl, rfl⟩⟩
 ·exact hk.elim
theorem qop_spec (he : EnvOk P E) (hh : HR w.heap S κ H) (ht : TR w.heap S κ tm a) (hw : WOk tm a) {o : Oper} {ch : Ch} {g : Bool} (hc : chOk a ch) (hg : g = true) (hq : loudE E o.op = false) {K : TM → HP → Prop}
  (hk : aop P E o ch g tm H K) : ∃ v u, (∀ w2, OpSame E o a w w2 → (execOp a.eval o).run P w2 = .ok (.value u) w2) ∧ AVR w.heap S κ v u ∧ (dstK tm ch g o.dst v fun tm' => K tm' H) ∧ OpSrc E o tm w S κ H a := by
 unfold aop at hk
 split at hk
 case h_1 x hop =>
  obtain ⟨v, hk, hv⟩ := evK_spec ht hw hc hk
  exact ⟨v, _, fun w2 _ => by simp [execOp, hop], hv, hk, by simp only [OpSrc, hop]⟩
 case h_2 x hop =>
  obtain ⟨v, hk, hv⟩ := evK_spec ht hw hc hk
  exact ⟨v, _, fun w2 _ => by simp [execOp, hop], hv, hk, by simp only [OpSrc, hop]⟩
 case h_3 c x y hop =>
  obtain ⟨b, z, hb, hk, hz⟩ := pickK_spec ht hw hc hk
  refine ⟨z, _, fun w2 _ => ?_, hz, hk, by simp only [OpSrc, hop]⟩
  cases b <;> simp [execOp, hop, hb, asBool]
 case h_6 x hop =>
  obtain ⟨v, hk, hv⟩ := evK_spec ht hw hc hk
  split at hk
  ·simp only [AVR] at hv
   obtain ⟨B, hB, hv⟩ := hv
   exact ⟨_, a.eval x, fun w2 _ => by simp [execOp, hop, hv], by rw [hv]; simp only [AVR]; exact ⟨B, hB, rfl⟩, hk, by simp only [OpSrc, hop]⟩
  ·simp only [AVR] at hv
   obtain ⟨B, off, hv, hr⟩ := hv
   exact ⟨_, a.eval x, fun w2 _ => by simp [execOp, hop, hv], by rw [hv]; simp only [AVR]; exact ⟨B, off, rfl, hr⟩, hk, by simp only [OpSrc, hop]⟩
  ·simp only [AVR] at hv
   obtain ⟨B, off, len, cap, hB, hv⟩ := hv
   exact ⟨_, a.eval x, fun w2 _ => by simp [execOp, hop, hv], by rw [hv]; simp only [AVR]; exact ⟨B, off, len, cap, hB, rfl⟩, hk, by simp only [OpSrc, hop]⟩
  ·simp only [AVR] at hv
   obtain ⟨cs, hv, hr⟩ := hv
   exact ⟨_, a.eval x, fun w2 _ => by simp [execOp, hop, hv], by rw [hv]; simp only [AVR]; exact ⟨cs, rfl, hr⟩, hk, by simp only [OpSrc, hop]⟩
  ·exact hk.elim
 case h_7 T x hop =>
  obtain ⟨p, ⟨hk, hpe⟩, hp⟩ := evK_spec ht hw hc (evK_ent hk)
  obtain ⟨u, v, hr, hk, hv, hsrc⟩ := loadK_spec he hh hp hk
  exact ⟨v, u, fun w2 hs => by have := hr w2 (by simpa only [OpSame, hop] using hs); simp [execOp, hop, this], hv, hk, by simp only [OpSrc, hop]; rw [← hpe]; exact hsrc⟩
 case h_9 op T x y _ hop =>
  obtain ⟨p, hk, hp⟩ := evK_spec ht hw hc hk
  obtain ⟨q, hk, hq'⟩ := evK_spec ht hw hc hk
  rcases nilK_spec (x := x) (a := a) he hp hk with hk | ⟨b, hk, hr⟩
  ·obtain ⟨u, v, hr, hk, hv⟩ := binK_spec (x := x) (y := y) he hg hp hq' hk
   refine ⟨v, u, fun w2 _ => ?_, hv, hk, by simp only [OpSrc, hop]⟩
   simp only [execOp, hop]
   rw [Sem.run_bind, hr]
   rfl
  ·refine ⟨_, .bool b, fun w2 _ => ?_, AVR_bool, hk, by simp only [OpSrc, hop]⟩
   simp only [execOp, hop]
   rw [Sem.run_bind, hr]
   rfl
 case h_10 T x hop =>
  obtain ⟨p, hk, hp⟩ := evK_spec ht hw hc hk
  split at hk
  ·rename_i e
   simp only [AVR, CVR] at hp
   exact ⟨_, .bool (!e), fun w2 _ => by simp [execOp, hop, hp, Op.unary], AVR_bool, hk, by simp only [OpSrc, hop]⟩
  ·exact hk.elim
 case h_11 T x hop =>
  obtain ⟨p, hk, hp⟩ := evK_spec ht hw hc hk
  split at hk
  ·rename_i n
   simp only [AVR, CVR] at hp
   have h1 := wrap_in (gd_out hg hk.1)
   exact ⟨_, .int .i64 (-n), fun w2 _ => by simp [execOp, hop, hp, Op.unary, Op.intArith, h1], AVR_int, hk.2, by simp only [OpSrc, hop]⟩
  ·exact hk.elim
 case h_12 s d x hop =>
  rw [hop] at hq
  split at hk
  ·rename_i hdk
   simp [loudE, cvB, hdk] at hq
  obtain ⟨p, ⟨hk, hpe⟩, hp⟩ := evK_spec ht hw hc (evK_ent hk)
  obtain ⟨u, v, hr, hk, hv, hsrc⟩ := convK_spec he hh hp hk
  exact ⟨v, u, fun w2 hs => by have := hr w2 (by simpa only [OpSame, hop] using hs); simp [execOp, hop, this], hv, hk, by simp only [OpSrc, hop]; rw [← hpe]; exact hsrc⟩
 case h_13 T x f hop =>
  obtain ⟨p, hk, hp⟩ := evK_spec ht hw hc hk
  obtain ⟨u, v, hr, hk, hv⟩ := fieldK_spec he hp hk
  exact ⟨v, u, fun w2 _ => by simp [execOp, hop, hr], hv, hk, by simp only [OpSrc, hop]⟩
 case h_14 T x ix hop =>
  obtain ⟨p, hk, hp⟩ := evK_spec ht hw hc hk
  obtain ⟨q, hk, hq'⟩ := evK_spec ht hw hc hk
  obtain ⟨u, v, hr, hk, hv⟩ := idxK_spec he hh hg hp hq' hk
  exact ⟨v, u, fun w2 _ => by simp [execOp, hop, hr], hv, hk, by simp only [OpSrc, hop]⟩
 case h_15 x i hop =>
  obtain ⟨p, hk, hp⟩ := evK_spec ht hw hc hk
  split at hk
  ·rename_i l
   replace hk := takeK_spec hk
   obtain ⟨hl, hk⟩ := hk
   simp only [AVR] at hp
   obtain ⟨cs, hcs, hp⟩ := hp
   have h1 := (hp.drop i).take 1
   split at hk
   ·rename_i y hy
    rw [hy] at h1
    obtain ⟨v, hv, hyv⟩ := h1.one
    have h2 : cs[i]? = some v := by
     have h3 := congrArg (·[0]?) hv
     simpa using h3
    exact ⟨y, v, fun w2 _ => by simp [execOp, hop, hcs, Instr.extract, h2], hyv, hk, by simp only [OpSrc, hop]⟩
   ·exact hk.elim
  ·exact hk.elim
 case h_16 f first caps hop =>
  split at hk
  ·rename_i hf
   obtain ⟨vs, hk, hvs⟩ := evsK_spec ht hw hc hk
   have hf' : first = #[] := by simpa using hf
   subst hf'
   exact ⟨.fn f vs, .func (.func f) #[] (caps.map a.eval), fun w2 _ => by simp [execOp, hop, Instr.makeFunc], by simp only [AVR]; exact ⟨_, rfl, evArr hvs⟩, hk, by simp only [OpSrc, hop]⟩
  ·rename_i y ys hf
   split at hk
   ·rename_i hcp
    obtain ⟨vs, hk, hvs⟩ := evsK_spec ht hw hc hk
    have hf' : caps = #[] := by simpa using hcp
    subst hf'
    rw [← hf] at hvs
    exact ⟨.bd f vs, .func (.func f) (first.map a.eval) #[], fun w2 _ => by simp [execOp, hop, Instr.makeFunc], by simp only [AVR]; exact ⟨_, rfl, evArr hvs⟩, hk, by simp only [OpSrc, hop]⟩
   ·exact hk.elim
 case h_17 T parts hop =>
  replace hk := tyK_spec he hk
  obtain ⟨hT, _, hk⟩ := hk
  split at hk
  ·rename_i fs hd
   obtain ⟨ps, hk, h1, h2⟩ := evPartsK_spec ht hw hc hk
   obtain ⟨l, c, hk, hr, hl⟩ := buildStruct_spec he hT hd (us := parts.map fun (i, x) => (i, a.eval x)) (by rw [h1]; simp) (by simpa [Function.comp_def] using h2) hk
   exact ⟨.agg l, .agg c, fun w2 _ => by simp [execOp, hop, hr], by simp only [AVR]; exact ⟨c, rfl, hl⟩, hk, by simp only [OpSrc, hop]⟩
  ·rename_i n e hd
   replace hk := tyK_spec he hk
   obtain ⟨hTe, _, hk⟩ := hk
   obtain ⟨ps, hk, h1, h2⟩ := evPartsK_spec ht hw hc hk
   obtain ⟨l, c, hk, hr, hl⟩ := buildArr_spec hT hd hTe (us := parts.map fun (i, x) => (i, a.eval x)) (by rw [h1]; simp) (by simpa [Function.comp_def] using h2) hk
   exact ⟨.agg l, .agg c, fun w2 _ => by simp [execOp, hop, hr], by simp only [AVR]; exact ⟨c, rfl, hl⟩, hk, by simp only [OpSrc, hop]⟩
  ·exact hk.elim
 case h_22 T x lo hi hop =>
  obtain ⟨p, hk, hp⟩ := evK_spec ht hw hc hk
  obtain ⟨u, v, hr, hk, hv⟩ := sliceK_spec he hh ht hw hc hg hp hk
  exact ⟨v, u, fun w2 _ => by simp [execOp, hop, hr], hv, hk, by simp only [OpSrc, hop]⟩
 case h_23 T x ix hop =>
  obtain ⟨p, hk, hp⟩ := evK_spec ht hw hc hk
  obtain ⟨q, hk, hq'⟩ := evK_spec ht hw hc hk
  obtain ⟨u, v, hr, hk, hv⟩ := indK_spec he hg hp hq' hk
  exact ⟨v, u, fun w2 _ => by simp [execOp, hop, hr], hv, hk, by simp only [OpSrc, hop]⟩
 case h_25 c hop =>
  obtain ⟨cal, args, at_⟩ := c
  simp only at hk
  rw [hop] at hq
  split at hk
  ·split at hk
   ·rename_i x T h1 h2
    obtain ⟨p, hk, hp⟩ := evK_spec ht hw hc hk
    obtain ⟨u, v, hr, hk, hv⟩ := lenK_spec (ty := o.type) he hh hp hk
    have e1 : args = #[x] := by simpa using congrArg List.toArray h1
    have e2 : at_ = #[T] := by simpa using congrArg List.toArray h2
    subst e1 e2
    exact ⟨v, u, fun w2 _ => by simp [execOp, hop, resolve, invoke, builtin, hr], hv, hk, by simp only [OpSrc, hop]⟩
   ·exact hk.elim
  ·split at hk
   ·rename_i x y h1
    obtain ⟨p, hk, hp⟩ := evK_spec ht hw hc hk
    obtain ⟨q, hk, hq'⟩ := evK_spec ht hw hc hk
    obtain ⟨u, v, hr, hk, hv⟩ := maxK_spec (P := P) (T := at_) (ty := o.type) hp hq' hk
    have e1 : args = #[x, y] := by simpa using congrArg List.toArray h1
    subst e1
    exact ⟨v, u, fun w2 _ => by simp [execOp, hop, resolve, invoke, builtin, hr], hv, hk, by simp only [OpSrc, hop]⟩
   ·exact hk.elim
  ·split at hk
   ·rename_i x y h1
    obtain ⟨p, hk, hp⟩ := evK_spec ht hw hc hk
    obtain ⟨q, hk, hq'⟩ := evK_spec ht hw hc hk
    obtain ⟨u, v, hr, hk, hv⟩ := minK_spec (P := P) (T := at_) (ty := o.type) hp hq' hk
    have e1 : args = #[x, y] := by simpa using congrArg List.toArray h1
    subst e1
    exact ⟨v, u, fun w2 _ => by simp [execOp, hop, resolve, invoke, builtin, hr], hv, hk, by simp only [OpSrc, hop]⟩
   ·exact hk.elim
  ·simp [loudE, cvB, loudB] at hq
  ·simp [loudE, cvB, loudB] at hq
  ·simp [loudE, cvB, loudB] at hq
  ·simp [loudE, cvB, loudB] at hq
  ·exact hk.elim
 case h_26 T x hop =>
  obtain ⟨p, hk, hp⟩ := evK_spec ht hw hc hk
  obtain ⟨v, u, hr, hk, hv⟩ := mkifK_spec he hp hk
  exact ⟨v, u, fun w2 _ => by simp [execOp, hop, hr], hv, hk, by simp only [OpSrc, hop]⟩
 case h_27 x T0 T hop =>
  obtain ⟨p, hk, hp⟩ := evK_spec ht hw hc hk
  obtain ⟨v, u, hr, hk, hv⟩ := tyasK_spec (T0 := T0) he hp hk
  exact ⟨v, u, fun w2 _ => by simp [execOp, hop, hr], hv, hk, by simp only [OpSrc, hop]⟩
 all_goals first | exact hk.elim | (rename_i hop; rw [hop] at hq; simp [loudE, cvB, loudB] at hq)
end
end Go.Tr
