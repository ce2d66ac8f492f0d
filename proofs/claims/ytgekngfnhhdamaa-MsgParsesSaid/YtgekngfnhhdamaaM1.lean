/- The machine with its own heap: values, blocks, operations, code; no conditions. -/
import Derived.Calls
import Derived.Orders
import Derived.Below
set_option linter.unusedVariables false
namespace Go.Proofs.YtgekngfnhhdamaaM
open Go

abbrev Id := List Nat
/-- A value; 'und' is of any kind. -/
inductive AV where
  | und
  | bool (b : Bool)
  | int (k : IntKind) (n : Int)
  | str (s : ByteArray)
  | nilp
  | ptr (id : Id) (o : Nat)
  | nils
  | slc (id : Id) (o n sz : Nat)
  | slk (id : Id) (o n sz c : Nat) (x : Bool)
  | agg (l : List AV)
  | tup (l : List AV)
  | nilI
  | iface (t : TypeId) (v : AV)
  | nilF
  | func (f : FuncId) (first caps : List AV)

/-- A slice whose room is known (c, or just c: x), told as one whose room isn't. -/
def AV.fg : AV → AV
  | .slk id o n sz _ _ => .slc id o n sz
  | v => v
def AV.cells : AV → List AV
  | .agg l => l
  | v => [v]
/-- May it lie in a cell? -/
def AV.scalar : AV → Bool
  | .und | .agg _ | .tup _ => false
  | .iface _ _ => true
  | _ => true

structure Blk where
  own : Bool
  cells : List AV
abbrev AH := Id → Option Blk
def AH.set (h : AH) (id : Id) (b : Option Blk) : AH := fun j => if j = id then b else h j
def AH.join (h X : AH) : AH := fun j => match h j with | some b => some b | none => X j
def AH.cell (h : AH) (id : Id) (o : Nat) : Option AV :=
  match h id with
  | some b => b.cells[o]?
  | none => none
def AH.cellsAt (h : AH) (id : Id) (o n : Nat) : Option (List AV) :=
  match h id with
  | some b => if o + n ≤ b.cells.length then some ((b.cells.drop o).take n) else none
  | none => none
def putL {α : Type} : List α → Nat → List α → List α
  | cs, _, [] => cs
  | cs, o, v :: vs => putL (cs.set o v) (o + 1) vs
def AH.put (h : AH) (id : Id) (o : Nat) (l : List AV) : Option AH :=
  match h id with
  | some b => if b.own ∧ o + l.length ≤ b.cells.length ∧ l.all AV.scalar then some (h.set id (some ⟨true, putL b.cells o l⟩)) else none
  | none => none

inductive Opd where
  | t (i : Nat)
  | c (v : AV)
def ev (tm : List AV) : Opd → AV
  | .t i => tm.getD i .und
  | .c v => v

/-- How a part of so many cells is told: one cell, or a row of them. -/
abbrev Sh := Option Nat
inductive IOp where
  | mov (x : Opd)
  | pick (c a b : Opd)
  | alloc (zero : List AV)
  | box (n : Nat) (x : Opd)
  | build (zero : List AV) (parts : List (Nat × Nat × Opd))
  | buildS (sz len : Nat) (zero : List AV) (parts : List (Nat × Opd))
  | load (sh : Sh) (a : Opd)
  | store (n : Nat) (a v : Opd)
  | nilck (x : Opd)
  | bin (op : BinOp) (x y : Opd)
  | eqn (kind : Nat) (neg : Bool) (x y : Opd)
  | eqs (neg : Bool) (ks : List Nat) (x y : Opd)
  | un (op : UnOp) (x : Opd)
  | conv (k : IntKind) (x : Opd)
  | s2b (x : Opd)
  | b2s (x : Opd)
  | mkI (t : TypeId) (x : Opd)
  | mkF (f : FuncId) (first caps : List Opd)
  | mkS (sz bytes : Nat) (zero : List AV) (len cap : Opd)
  | slcStr (x : Opd) (lo hi : Option Opd)
  | slcS (sz : Nat) (x : Opd) (lo hi : Option Opd)
  | slcS3 (sz : Nat) (x : Opd) (lo : Option Opd) (hi mx : Opd)
  | slcA (n sz : Nat) (x : Opd) (lo hi : Option Opd)
  | fld (off : Nat) (x : Opd)
  | fget (sh : Sh) (off : Nat) (x : Opd)
  | ixS (sz : Nat) (x i : Opd)
  | ixA (n sz : Nat) (x i : Opd)
  | ixG (n sz : Nat) (sh : Sh) (x i : Opd)
  | ixStr (x i : Opd)
  | ext (x : Opd) (i : Nat)
  | lenS (x : Opd)
  | lenL (x : Opd)
  | capL (x : Opd)
  | ovl (sz : Nat) (x y : Opd)
  | sstr (x : Opd)
  | maxi (l : List Opd)
  | mini (l : List Opd)
  | app (sz bytes : Nat) (s x : Opd)
  | appZ (sz bytes : Nat) (zero : List AV) (s n : Opd)
  | cpy (sz : Nat) (d s : Opd)
  | clr (sz : Nat) (zero : List AV) (s : Opd)
  | callF (f : FuncId) (args : List Opd)
  | callV (f : Opd) (args : List Opd)
  | bad

structure IOper where
  dst : Option Nat
  op : IOp
  guard : Option (Nat × Bool)

inductive ICode where
  | skip
  | reg (plan : List (Nat × Bool)) (ops : List IOper)
  | seq (a b : ICode)
  | cond (c : Opd) (a b : ICode)
  | block (id : Nat) (a : ICode)
  | loop (a : ICode)
  | exit (id : Nat)
  | ret
  | mask (live : List Nat)

/-- A function that isn't told by its code: of plain values (text, numbers, truths) a plain value; or what slices.Insert does. -/
inductive Prim where
  | pure (g : List AV → Option AV)
  | ins (sz bytes : Nat)
structure IFunc where
  nt : Nat
  res : List (Opd × Option Sh)
  body : ICode
  prim : Option Prim := none

inductive Ex where
  | norm
  | exit (id : Nat)
  | ret

/-- What a call comes to: the function, the names that are its own, its arguments, the heap. -/
abbrev CF := FuncId → Id → List AV → AH → Option (AV × AH)

def absBits (op : BinOp) (k : IntKind) (x y : Int) : Option Int :=
  let a := BitVec.ofInt k.bits x
  let b := BitVec.ofInt k.bits y
  match op with
  | .and => some (k.wrap (a &&& b).toNat)
  | .or => some (k.wrap (a ||| b).toNat)
  | .xor => some (k.wrap (a ^^^ b).toNat)
  | .andNot => some (k.wrap (a &&& ~~~b).toNat)
  | _ => none
def abin : BinOp → AV → AV → Option AV
  | .shl, .int k x, .int _ y => if y < 0 then none else some (.int k (k.wrap (x * 2 ^ (min y.toNat k.bits))))
  | .shr, .int k x, .int _ y => if y < 0 then none else some (.int k (x.fdiv (2 ^ (min y.toNat k.bits))))
  | op, .int k x, .int k' y => if k ≠ k' then none else
    match op with
    | .add => some (.int k (k.wrap (x + y)))
    | .sub => some (.int k (k.wrap (x - y)))
    | .mul => some (.int k (k.wrap (x * y)))
    | .quo => if y = 0 then none else some (.int k (k.wrap (x.tdiv y)))
    | .rem => if y = 0 then none else some (.int k (x.tmod y))
    | .eql => some (.bool (x == y))
    | .neq => some (.bool (x != y))
    | .lss => some (.bool (x < y))
    | .leq => some (.bool (x ≤ y))
    | .gtr => some (.bool (x > y))
    | .geq => some (.bool (x ≥ y))
    | op => (absBits op k x y).map (.int k)
  | op, .str a, .str b =>
    match op with
    | .add => if ((a.size + b.size : Nat) : Int) > IntKind.i64.max then none else some (.str (a ++ b))
    | .eql => some (.bool (a.toList == b.toList))
    | .neq => some (.bool !(a.toList == b.toList))
    | .lss => some (.bool (Op.bytesLess a.toList b.toList))
    | .leq => some (.bool (Op.bytesLess a.toList b.toList || a.toList == b.toList))
    | .gtr => some (.bool !(Op.bytesLess a.toList b.toList || a.toList == b.toList))
    | .geq => some (.bool !(Op.bytesLess a.toList b.toList))
    | _ => none
  | _, _, _ => none
/-- Two truths (0), or two values of one kind (1 pointers, 2 slices, 3 functions, 4 interfaces), one of which is nil. -/
def aeqn : Nat → AV → AV → Option Bool
  | 0, .bool a, .bool b => some (a == b)
  | 1, .nilp, .nilp => some true
  | 1, .nilp, .ptr _ _ => some false
  | 1, .ptr _ _, .nilp => some false
  | 2, .nils, .nils => some true
  | 2, .nils, .slc _ _ _ _ => some false
  | 2, .slc _ _ _ _, .nils => some false
  | 3, .nilF, .nilF => some true
  | 3, .nilF, .func _ _ _ => some false
  | 3, .func _ _ _, .nilF => some false
  | 4, .nilI, .nilI => some true
  | 4, .nilI, .iface _ _ => some false
  | 4, .iface _ _, .nilI => some false
  | _, _, _ => none
/-- Two cells: truths (0), numbers (1), texts (2). -/
def aeqc : Nat → AV → AV → Option Bool
  | 0, .bool a, .bool b => some (a == b)
  | 1, .int k a, .int k' b => if k = k' then some (a == b) else none
  | 2, .str a, .str b => some (a == b)
  | _, _, _ => none
def aeqs : List Nat → List AV → List AV → Option Bool
  | [], [], [] => some true
  | k :: ks, a :: l, b :: m =>
    match aeqc k a b, aeqs ks l m with
    | some c, some d => some (c && d)
    | _, _ => none
  | _, _, _ => none
def aun : UnOp → AV → Option AV
  | .neg, .int k n => some (.int k (k.wrap (0 - n)))
  | .not, .bool b => some (.bool !b)
  | .xor, .int k n => (absBits .xor k (if k.signed then -1 else k.max) n).map (.int k)
  | _, _ => none
def aint : AV → Option Int
  | .int _ n => some n
  | _ => none
def abnd (tm : List AV) (d : Int) : Option Opd → Option Int
  | none => some d
  | some y => aint (ev tm y)
/-- The bounds of a cut, of so many, there being room for c. -/
def aboundsK (tm : List AV) (n c : Nat) (lo hi : Option Opd) : Option (Nat × Nat) :=
  match abnd tm n hi, abnd tm 0 lo with
  | some h, some l => if 0 ≤ l ∧ l ≤ h ∧ h ≤ c then some (l.toNat, h.toNat) else none
  | _, _ => none
/-- The bounds of a cut, of so many. -/
def abounds (tm : List AV) (n : Nat) (lo hi : Option Opd) : Option (Nat × Nat) :=
  match abnd tm n hi, abnd tm 0 lo with
  | some h, some l => if 0 ≤ l ∧ l ≤ h ∧ h ≤ n then some (l.toNat, h.toNat) else none
  | _, _ => none
def apart (sh : Sh) (cs : List AV) (o : Nat) : Option AV :=
  match sh with
  | none => cs[o]?
  | some n => if o + n ≤ cs.length then some (.agg ((cs.drop o).take n)) else none
def afill : List AV → List (Nat × Nat × AV) → Option (List AV)
  | cs, [] => some cs
  | cs, (o, n, v) :: rest => if v.cells.length = n ∧ o + n ≤ cs.length ∧ v.cells.all AV.scalar then afill (putL cs o v.cells) rest else none
def azeros (zero : List AV) : Nat → List AV
  | 0 => []
  | n + 1 => zero ++ azeros zero n
def amaxiGo (big : Bool) (k : IntKind) : Int → List AV → Option AV
  | n, [] => some (.int k n)
  | n, .int _ m :: rest => amaxiGo big k (if big then (if m > n then m else n) else (if m < n then m else n)) rest
  | _, _ => none
def amaxi (big : Bool) : List AV → Option AV
  | .int k n :: rest => amaxiGo big k n rest
  | _ => none
def abytes : List AV → Option (List UInt8)
  | [] => some []
  | .int .u8 n :: l => (abytes l).map (UInt8.ofNat n.toNat :: ·)
  | _ => none
/-- How long a slice is. -/
def alen (v : AV) : Option Int :=
  match v.fg with
  | .nils => some 0
  | .slc _ _ n _ => some n
  | _ => none
/-- The cells of a slice. -/
def aslice (h : AH) (sz : Nat) (v : AV) : Option (Nat × List AV) :=
  match v.fg with
  | .nils => some (0, [])
  | .slc id o n sz' => if sz' = sz then (h.cellsAt id o (n * sz)).map (n, ·) else none
  | _ => none
def roomMost : Nat := 140737488355328
def aapp (h : AH) (id : Id) (sz bytes : Nat) (s : AV) (n : Nat) (cs : List AV) : Option (AV × AH) :=
  if n = 0 then
    match s with
    | .nils => some (s, h)
    | .slc _ _ _ sz' => if sz' = sz then some (s, h) else none
    | .slk _ _ _ sz' _ _ => if sz' = sz then some (s, h) else none
    | _ => none
  else if cs.all AV.scalar then
    match s with
    | .nils => if cs.length = n * sz ∧ n * bytes ≤ roomMost then some (.slc id 0 n sz, h.set id (some ⟨true, cs⟩)) else none
    | .slc id1 o m sz' =>
      match h id1 with
      | some b =>
        if sz' = sz ∧ b.own ∧ o + m * sz ≤ b.cells.length ∧ cs.length = n * sz ∧ (m + n) * bytes ≤ roomMost then
          some (.slc id 0 (m + n) sz, (h.set id1 none).set id (some ⟨true, (b.cells.drop o).take (m * sz) ++ cs⟩))
        else none
      | none => none
    | .slk id1 o m sz' c x =>
      match h id1 with
      | some b =>
        if sz' = sz ∧ b.own ∧ o + m * sz ≤ b.cells.length ∧ cs.length = n * sz ∧ (m + n) * bytes ≤ roomMost then
          if m + n ≤ c then (h.put id1 (o + m * sz) cs).map fun h' => (.slk id1 o (m + n) sz c x, h')
          else if x then some (.slc id 0 (m + n) sz, h.set id (some ⟨true, (b.cells.drop o).take (m * sz) ++ cs⟩))
          else some (.slc id 0 (m + n) sz, (h.set id1 none).set id (some ⟨true, (b.cells.drop o).take (m * sz) ++ cs⟩))
        else none
      | none => none
    | _ => none
  else none

def aop (C : CF) (id : Id) (op : IOp) (tm : List AV) (h : AH) : Option (AV × AH) :=
  match op with
  | .mov x => some (ev tm x, h)
  | .pick c a b =>
    match ev tm c with
    | .bool t => some (if t then ev tm a else ev tm b, h)
    | _ => none
  | .alloc zero => if zero.all AV.scalar then some (.ptr id 0, h.set id (some ⟨true, zero⟩)) else none
  | .box n x => if (ev tm x).cells.all AV.scalar ∧ (ev tm x).cells.length = n then some (.ptr id 0, h.set id (some ⟨true, (ev tm x).cells⟩)) else none
  | .build zero parts => (afill zero (parts.map fun p => (p.1, p.2.1, ev tm p.2.2))).map fun l => (.agg l, h)
  | .buildS sz n zero parts =>
    match afill (azeros zero n) (parts.map fun p => (p.1 * sz, sz, ev tm p.2)) with
    | some l => if l.all AV.scalar then some (.slc id 0 n sz, h.set id (some ⟨true, l⟩)) else none
    | none => none
  | .load sh a =>
    match ev tm a with
    | .ptr i o =>
      match sh with
      | none => (h.cell i o).map fun v => (v, h)
      | some n => (h.cellsAt i o n).map fun l => (.agg l, h)
    | _ => none
  | .store n a v =>
    match ev tm a with
    | .ptr i o => if (ev tm v).cells.length = n then (h.put i o (ev tm v).cells).map fun h' => (.tup [], h') else none
    | _ => none
  | .nilck x =>
    match ev tm x with
    | .ptr i o => some (.ptr i o, h)
    | .func f a b => some (.func f a b, h)
    | .iface t v => some (.iface t v, h)
    | _ => none
  | .bin op x y => (abin op (ev tm x) (ev tm y)).map fun v => (v, h)
  | .eqn kind neg x y => (aeqn kind (ev tm x).fg (ev tm y).fg).map fun b => (.bool (b != neg), h)
  | .eqs neg ks x y =>
    match ev tm x, ev tm y with
    | .agg l, .agg m => (aeqs ks l m).map fun b => (.bool (b != neg), h)
    | _, _ => none
  | .un op x => (aun op (ev tm x)).map fun v => (v, h)
  | .conv k x => (aint (ev tm x)).map fun n => (.int k (k.wrap n), h)
  | .s2b x =>
    match ev tm x with
    | .str s => some (.slc id 0 s.size 1, h.set id (some ⟨true, s.data.toList.map fun b => .int .u8 b.toNat⟩))
    | _ => none
  | .b2s x =>
    match aslice h 1 (ev tm x) with
    | some (_, l) => (abytes l).map fun l => (.str ⟨l.toArray⟩, h)
    | none => none
  | .mkI t x => some (.iface t (ev tm x), h)
  | .mkF f first caps => some (.func f (first.map (ev tm)) (caps.map (ev tm)), h)
  | .mkS sz bytes zero n c =>
    match aint (ev tm n), aint (ev tm c) with
    | some n, some c => if 0 ≤ n ∧ n ≤ c ∧ c ≤ IntKind.i64.max ∧ c.toNat * bytes ≤ 2 * roomMost ∧ zero.all AV.scalar then some (.slc id 0 n.toNat sz, h.set id (some ⟨true, azeros zero n.toNat⟩)) else none
    | _, _ => none
  | .slcStr x lo hi =>
    match ev tm x with
    | .str s => (abounds tm s.size lo hi).map fun p => (.str (s.extract p.1 p.2), h)
    | _ => none
  | .slcS sz x lo hi =>
    match ev tm x with
    | .slc i o n sz' => if sz' = sz then (abounds tm n lo hi).map fun p => (if p.2 = n then .slc i (o + p.1 * sz) (p.2 - p.1) sz else .slk i (o + p.1 * sz) (p.2 - p.1) sz (n - p.1) false, h) else none
    | .slk i o n sz' c x => if sz' = sz then (aboundsK tm n c lo hi).map fun p => (.slk i (o + p.1 * sz) (p.2 - p.1) sz (c - p.1) x, h) else none
    | .nils => (abounds tm 0 lo hi).map fun _ => (.nils, h)
    | _ => none
  | .slcS3 sz x lo hi mx =>
    match (ev tm x).fg, aint (ev tm mx) with
    | .slc i o n sz', some m => if sz' = sz ∧ 0 ≤ m ∧ m ≤ (n : Int) then (abounds tm m.toNat lo (some hi)).map fun p => (.slc i (o + p.1 * sz) (p.2 - p.1) sz, h) else none
    | _, _ => none
  | .slcA n sz x lo hi =>
    match ev tm x with
    | .ptr i o =>
      match h i with
      | some b => if o + n * sz ≤ b.cells.length then (abounds tm n lo hi).map fun p => (.slc i (o + p.1 * sz) (p.2 - p.1) sz, h) else none
      | none => none
    | _ => none
  | .fld off x =>
    match ev tm x with
    | .ptr i o => some (.ptr i (o + off), h)
    | _ => none
  | .fget sh off x =>
    match ev tm x with
    | .agg l => (apart sh l off).map fun v => (v, h)
    | _ => none
  | .ixS sz x i =>
    match (ev tm x).fg, aint (ev tm i) with
    | .slc id1 o n sz', some k => if sz' = sz ∧ 0 ≤ k ∧ k < n then some (.ptr id1 (o + k.toNat * sz), h) else none
    | _, _ => none
  | .ixA n sz x i =>
    match ev tm x, aint (ev tm i) with
    | .ptr id1 o, some k => if 0 ≤ k ∧ k < n then some (.ptr id1 (o + k.toNat * sz), h) else none
    | _, _ => none
  | .ixG n sz sh x i =>
    match ev tm x, aint (ev tm i) with
    | .agg l, some k => if 0 ≤ k ∧ k < n then (apart sh l (k.toNat * sz)).map fun v => (v, h) else none
    | _, _ => none
  | .ixStr x i =>
    match ev tm x, aint (ev tm i) with
    | .str s, some k => if 0 ≤ k then (s[k.toNat]?).map fun b => (.int .u8 b.toNat, h) else none
    | _, _ => none
  | .ext x i =>
    match ev tm x with
    | .tup l => (l[i]?).map fun v => (v, h)
    | _ => none
  | .lenS x =>
    match ev tm x with
    | .str s => some (.int .i64 s.size, h)
    | _ => none
  | .lenL x => (alen (ev tm x)).map fun n => (.int .i64 n, h)
  | .ovl sz x y =>
    match (ev tm x).fg, (ev tm y).fg with
    | .slc i o n sz1, .slc j o' m sz2 =>
      match h i, h j with
      | some b, some c => if sz1 = sz ∧ sz2 = sz ∧ i ≠ j ∧ b.own ∧ c.own ∧ o + n * sz ≤ b.cells.length ∧ o' + m * sz ≤ c.cells.length then some (.bool false, h) else none
      | _, _ => none
    | _, _ => none
  | .capL x =>
    match ev tm x with
    | .slk _ _ _ _ c true => some (.int .i64 c, h)
    | _ => none
  | .sstr x =>
    match ev tm x with
    | .str s => some (.str s, h)
    | _ => none
  | .maxi l => (amaxi true (l.map (ev tm))).map fun v => (v, h)
  | .mini l => (amaxi false (l.map (ev tm))).map fun v => (v, h)
  | .app sz bytes s x =>
    match ev tm x with
    | .str t => if sz = 1 then aapp h id sz bytes (ev tm s) t.size (t.data.toList.map fun b => .int .u8 b.toNat) else none
    | v =>
      match aslice h sz v with
      | some (n, cs) => aapp h id sz bytes (ev tm s) n cs
      | none => none
  | .appZ sz bytes zero s n =>
    match ev tm s, aint (ev tm n) with
    | .slk id1 o m sz' c true, some k =>
      match h id1 with
      | some b =>
        if sz' = sz ∧ 1 ≤ k ∧ c < m + k.toNat ∧ o + m * sz ≤ b.cells.length ∧ (m + k.toNat) * bytes ≤ roomMost then
          some (.slc id 0 (m + k.toNat) sz, h.set id (some ⟨true, (b.cells.drop o).take (m * sz) ++ azeros zero k.toNat⟩))
        else none
      | none => none
    | _, _ => none
  | .cpy sz d s =>
    match aslice h sz (ev tm s), (ev tm d).fg with
    | some (n, cs), .slc i o m sz' => if sz' = sz then (h.put i o (cs.take (min n m * sz))).map fun h' => (.int .i64 (min n m : Nat), h') else none
    | some (_, _), .nils => some (.int .i64 0, h)
    | _, _ => none
  | .clr sz zero s =>
    match (ev tm s).fg with
    | .nils => some (.tup [], h)
    | .slc i o n sz' => if sz' = sz then (h.put i o (azeros zero n)).map fun h' => (.tup [], h') else none
    | _ => none
  | .callF f args => C f id (args.map (ev tm)) h
  | .callV f args =>
    match ev tm f with
    | .func f first caps => C f id (first ++ args.map (ev tm) ++ caps) h
    | _ => none
  | .bad => none

def awanted (tm : List AV) : Option (Nat × Bool) → Option Bool
  | none => some true
  | some (t, want) =>
    match tm.getD t .und with
    | .bool b => some (b == want)
    | .tup _ => some false
    | _ => none
def putT (tm : List AV) (d : Option Nat) (v : AV) : List AV :=
  match d with
  | some d => tm.set d v
  | none => tm
def astep (C : CF) (id : Id) (o : IOper) (tm : List AV) (h : AH) : Option (List AV × AH) :=
  match awanted tm o.guard with
  | some true => (aop C id o.op tm h).map fun r => (putT tm o.dst r.1, r.2)
  | some false => some (putT tm o.dst (.tup []), h)
  | none => none
open Classical in
/-- The steps of a plan: an operation, or (true) a look whether it would give the same again. -/
noncomputable def aplan (C : CF) (κ : Id) (ops : List IOper) : List (Nat × Bool) → List AV → AH → Option (List AV × AH)
  | [], tm, h => some (tm, h)
  | (i, chk) :: rest, tm, h =>
    match ops[i]? with
    | none => none
    | some o =>
      match astep C (i :: κ) o tm h with
      | none => none
      | some (tm', h') => if chk then (if tm' = tm then aplan C κ ops rest tm h else none) else aplan C κ ops rest tm' h'
def keep (live : List Nat) : Nat → List AV → List AV
  | _, [] => []
  | i, v :: l => (if live.contains i then v else .und) :: keep live (i + 1) l

noncomputable def aexec (C : CF) (π : Id) : Nat → ICode → Nat → List AV → AH → Option (Ex × Nat × List AV × AH)
  | 0, _, _, _, _ => none
  | n + 1, c, k, tm, h =>
    match c with
    | .skip => some (.norm, k, tm, h)
    | .reg plan ops => (aplan C (k :: π) ops plan tm h).map fun r => (.norm, k + 1, r.1, r.2)
    | .seq a b =>
      match aexec C π n a k tm h with
      | some (.norm, k', tm', h') => aexec C π n b k' tm' h'
      | r => r
    | .cond x a b =>
      match ev tm x with
      | .bool true => aexec C π n a k tm h
      | .bool false => aexec C π n b k tm h
      | _ => none
    | .block i a =>
      match aexec C π n a k tm h with
      | some (.exit j, k', tm', h') => some (if j = i then .norm else .exit j, k', tm', h')
      | r => r
    | .loop a =>
      match aexec C π n a k tm h with
      | some (.norm, k', tm', h') => aexec C π n (.loop a) k' tm' h'
      | r => r
    | .exit i => some (.exit i, k, tm, h)
    | .ret => some (.ret, k, tm, h)
    | .mask live => some (.norm, k, keep live 0 tm, h)
def ares1 (tm : List AV) (h : AH) (r : Opd × Option Sh) : Option AV :=
  match r.2 with
  | none => some (ev tm r.1)
  | some sh =>
    match ev tm r.1 with
    | .ptr i o =>
      match sh with
      | none => h.cell i o
      | some n => (h.cellsAt i o n).map .agg
    | _ => none
def ares (tm : List AV) (h : AH) : List (Opd × Option Sh) → Option (List AV)
  | [] => some []
  | r :: l =>
    match ares1 tm h r, ares tm h l with
    | some v, some vs => some (v :: vs)
    | _, _ => none
def atup : List AV → AV
  | [v] => v
  | l => .tup l
def AV.pl1 : AV → Bool
  | .bool _ | .int _ _ | .str _ | .nils | .nilp | .nilI => true
  | _ => false
def AV.pl : AV → Bool
  | .tup l => l.all AV.pl1
  | .agg l => l.all AV.pl1
  | v => v.pl1
/-- slices.Insert: a new block; the old one is forgotten. -/
def ains (sz bytes : Nat) (id : Id) (s : AV) (i : Int) (v : AV) (h : AH) : Option (AV × AH) :=
  match v.fg with
  | .slc j o' m sz' =>
    match h j with
    | some c =>
      if sz' = sz ∧ c.own ∧ 1 ≤ m ∧ o' + m * sz ≤ c.cells.length ∧ ((c.cells.drop o').take (m * sz)).all AV.scalar then
        match s.fg with
        | .nils => if i = 0 ∧ m * bytes ≤ roomMost then some (.slc id 0 m sz, h.set id (some ⟨true, (c.cells.drop o').take (m * sz)⟩)) else none
        | .slc i1 o n sz1 =>
          match h i1 with
          | some b =>
            if sz1 = sz ∧ i1 ≠ j ∧ b.own ∧ o + n * sz ≤ b.cells.length ∧ ((b.cells.drop o).take (n * sz)).all AV.scalar ∧ 0 ≤ i ∧ i ≤ n ∧ (n + m) * bytes ≤ roomMost then
              some (.slc id 0 (n + m) sz, (h.set i1 none).set id (some ⟨true, (b.cells.drop o).take (i.toNat * sz) ++ (c.cells.drop o').take (m * sz) ++ (b.cells.drop (o + i.toNat * sz)).take ((n - i.toNat) * sz)⟩))
            else none
          | none => none
        | _ => none
      else none
    | none => none
  | _ => none
def Prim.run : Prim → Id → List AV → AH → Option (AV × AH)
  | .pure g, _, args, h => if args.all AV.pl then match g args with | some v => if v.pl then some (v, h) else none | none => none else none
  | .ins sz bytes, id, [s, .int .i64 i, v], h => ains sz bytes id s i v h
  | _, _, _, _ => none
noncomputable def acall (T : FuncId → Option IFunc) : Nat → CF
  | 0, _, _, _, _ => none
  | n + 1, f, π, args, h =>
    match T f with
    | none => none
    | some fn =>
      match fn.prim with
      | some p => p.run π args h
      | none =>
      match aexec (acall T n) π n fn.body 0 (args ++ List.replicate (fn.nt - args.length) (.tup [])) h with
      | some (.norm, _, tm, h') => (ares tm h' fn.res).map fun l => (atup l, h')
      | some (.ret, _, tm, h') => (ares tm h' fn.res).map fun l => (atup l, h')
      | _ => none
end Go.Proofs.YtgekngfnhhdamaaM
