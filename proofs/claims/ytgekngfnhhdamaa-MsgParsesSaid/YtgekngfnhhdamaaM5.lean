/- How the model's operations are told in the machine's; no conditions. -/
import Derived.Test.YtgekngfnhhdamaaM4
set_option linter.unusedVariables false
set_option linter.unusedSimpArgs false
namespace Go.Proofs.YtgekngfnhhdamaaM
open Go

def ofSc : Value → Option AV
  | .bool b => some (.bool b)
  | .int k n => some (.int k n)
  | .string s => some (.str s)
  | .pointer none => some .nilp
  | .slice none 0 0 => some .nils
  | .nilIface => some .nilI
  | .nilFunc => some .nilF
  | _ => none
def ofScs : List Value → Option (List AV)
  | [] => some []
  | v :: l =>
    match ofSc v, ofScs l with
    | some a, some as => some (a :: as)
    | _, _ => none
def ofVal : Value → Option AV
  | .agg cs => (ofScs cs.toList).map .agg
  | v => ofSc v
def ropd : Operand → Option Opd
  | .tmp t => some (.t t)
  | .const v => (ofVal v).map .c
  | .func f => some (.c (.func f [] []))
  | .global _ => none
def ropds : List Operand → Option (List Opd)
  | [] => some []
  | x :: l =>
    match ropd x, ropds l with
    | some a, some as => some (a :: as)
    | _, _ => none
def ropdO : Option Operand → Option (Option Opd)
  | none => some none
  | some x => (ropd x).map some
def rsize (P : Program) (t : TypeId) : Option Nat := (P.info? t).map (·.size)
def rsh (P : Program) (t : TypeId) : Option Sh :=
  match P.underlying t with
  | some d => if d.isRow then (rsize P t).map some else some none
  | none => none
/-- A type's zero cells, as many as it has. -/
def rzero (P : Program) (t : TypeId) : Option (List AV) :=
  match P.info? t with
  | some i =>
    match i.zero with
    | some z => if z.cells.size = i.size then ofScs z.cells.toList else none
    | none => none
  | none => none
def rpartsF (P : Program) (fs : Array Field) : List (Nat × Operand) → Option (List (Nat × Nat × Opd))
  | [] => some []
  | (i, x) :: l =>
    match fs[i]?, ropd x, rpartsF P fs l with
    | some f, some y, some r => (rsize P f.type).map fun n => (f.offset, n, y) :: r
    | _, _, _ => none
def rpartsA (sz : Nat) : List (Nat × Operand) → Option (List (Nat × Nat × Opd))
  | [] => some []
  | (i, x) :: l =>
    match ropd x, rpartsA sz l with
    | some y, some r => some ((i * sz, sz, y) :: r)
    | _, _ => none
def rpartsS : List (Nat × Operand) → Option (List (Nat × Opd))
  | [] => some []
  | (i, x) :: l =>
    match ropd x, rpartsS l with
    | some y, some r => some ((i, y) :: r)
    | _, _ => none
def sizesThere (P : Program) (fs : List Field) : Bool := fs.all fun f => (P.info? f.type).isSome
/-- The kinds of a struct's cells, if these are numbers, truths and texts alone. -/
def flat (P : Program) : Nat → List Field → Option (List Nat)
  | _, [] => some []
  | o, f :: l =>
    if f.name != "_" && f.offset == o then
      match P.underlying f.type, flat P (o + 1) l with
      | some .bool, some ks => some (0 :: ks)
      | some (.int _), some ks => some (1 :: ks)
      | some .string, some ks => some (2 :: ks)
      | _, _ => none
    else none
/-- The same, where a field may be such a struct. -/
def flat2 (P : Program) : Nat → List Field → Option (List Nat)
  | _, [] => some []
  | o, f :: l =>
    if f.name != "_" && f.offset == o then
      match P.underlying f.type with
      | some (.struct fs) =>
        match flat P 0 fs.toList, rsize P f.type with
        | some ks, some n => if ks.length = n ∧ 0 < n ∧ P.stoodInHeld f.type = false then (flat2 P (o + n) l).map (ks ++ ·) else none
        | _, _ => none
      | _ =>
        match flat P o [f], flat2 P (o + 1) l with
        | some ks, some r => some (ks ++ r)
        | _, _ => none
    else none
def rstruct (P : Program) (t : TypeId) : Option (List Nat) :=
  match P.underlying t with
  | some (.struct fs) => if !P.stoodInHeld t && !P.eqGuardType P.depth t then flat2 P 0 fs.toList else none
  | _ => none
def isConst : Operand → Bool
  | .const _ => true
  | _ => false
def req (P : Program) (op : BinOp) (neg : Bool) (t : TypeId) (x y : Operand) : Option IOp :=
  match ropd x, ropd y with
  | some a, some b =>
    match P.underlying t with
    | some (.int _) | some .string => some (.bin op a b)
    | some .bool => some (.eqn 0 neg a b)
    | some (.pointer _) => some (.eqn 1 neg a b)
    | some (.slice _) => some (.eqn 2 neg a b)
    | some (.func _ _ _) => some (.eqn 3 neg a b)
    | some (.interface _) => if isConst x || isConst y then some (.eqn 4 neg a b) else none
    | some (.struct _) => (rstruct P t).map fun ks => .eqs neg ks a b
    | _ => none
  | _, _ => none
def fnOk (P : Program) (f : FuncId) : Bool :=
  match P.funcs[f]? with
  | some fn => fn.body.isSome && fn.name != "runtime.NumGoroutine"
  | none => false
def rcall (P : Program) (c : Call) : Option IOp :=
  match ropds c.args.toList with
  | none => none
  | some as =>
    match c.callee with
    | .value (.func f) => if fnOk P f then some (.callF f as) else none
    | .value x => (ropd x).map fun y => .callV y as
    | .invoke _ _ => none
    | .builtin b =>
      match b, c.argTypes.toList, as with
      | .len, [t], [x] =>
        match P.underlying t with
        | some .string => some (.lenS x)
        | some (.slice _) => some (.lenL x)
        | some (.array n _) => some (.mov (.c (.int .i64 n)))
        | some (.pointer arr) =>
          match P.underlying arr with
          | some (.array n _) => some (.mov (.c (.int .i64 n)))
          | _ => none
        | _ => none
      | .cap, [t], [x] =>
        match P.underlying t with
        | some (.slice _) => some (.capL x)
        | _ => none
      | .max, _, x :: l => some (.maxi (x :: l))
      | .min, _, x :: l => some (.mini (x :: l))
      | .append, [t, u], [s, x] =>
        match P.underlying t, P.underlying u with
        | some (.slice e), some (.slice _) =>
          match rzero P e, P.info? e with
          | some _, some i => if 1 ≤ i.bytes then some (.app i.size i.bytes s x) else none
          | _, _ => none
        | some (.slice e), some (.int _) =>
          match rzero P e, P.info? e with
          | some z, some i => if 1 ≤ i.bytes ∧ 1 ≤ i.size then some (.appZ i.size i.bytes z s x) else none
          | _, _ => none
        | some (.slice e), some .string =>
          match rzero P e, P.info? e with
          | some _, some i => if i.size = 1 ∧ 1 ≤ i.bytes then some (.app i.size i.bytes s x) else none
          | _, _ => none
        | _, _ => none
      | .copy, t :: _, [d, s] =>
        match P.underlying t with
        | some (.slice e) => (rsize P e).map fun n => .cpy n d s
        | _ => none
      | .clear, [t], [s] =>
        match P.underlying t with
        | some (.slice e) =>
          match rsize P e, rzero P e with
          | some n, some z => some (.clr n z s)
          | _, _ => none
        | _ => none
      | _, _, _ => none
def rsvOp (P : Program) (op : Op) : Option IOp :=
  match op with
  | .move x => (ropd x).map .mov
  | .assign x => (ropd x).map .mov
  | .pick c a b =>
    match ropd c, ropd a, ropd b with
    | some c, some a, some b => some (.pick c a b)
    | _, _, _ => none
  | .alloc t => (rzero P t).map .alloc
  | .box t x =>
    match rsize P t, ropd x with
    | some n, some x => some (.box n x)
    | _, _ => none
  | .build t parts =>
    match rzero P t, P.underlying t with
    | some z, some (.struct fs) => if sizesThere P fs.toList then (rpartsF P fs parts.toList).map (.build z) else none
    | some z, some (.array _ e) =>
      match rsize P e with
      | some sz => (rpartsA sz parts.toList).map (.build z)
      | none => none
    | _, _ => none
  | .buildSlice t n parts =>
    match P.underlying t with
    | some (.slice e) =>
      match rsize P e, rzero P e, rpartsS parts.toList with
      | some sz, some z, some l => if n * sz ≤ 2 ^ 24 then some (.buildS sz n z l) else none
      | _, _, _ => none
    | _ => none
  | .load t a =>
    match rsh P t, ropd a with
    | some sh, some a => some (.load sh a)
    | _, _ => none
  | .store t a v =>
    match rsize P t, ropd a, ropd v with
    | some n, some a, some v => some (.store n a v)
    | _, _, _ => none
  | .nilCheck x => (ropd x).map .nilck
  | .binOp .eql t x y _ => req P .eql false t x y
  | .binOp .neq t x y _ => req P .neq true t x y
  | .binOp op _ x y _ =>
    match ropd x, ropd y with
    | some a, some b => some (.bin op a b)
    | _, _ => none
  | .unOp op _ x => (ropd x).map (.un op)
  | .convert src dst x =>
    match ropd x, P.underlying src, P.underlying dst with
    | some x, some (.int _), some (.int k) => some (.conv k x)
    | some x, some .string, some .string => some (.sstr x)
    | some x, some .string, some (.slice e) =>
      match P.underlying e, rsize P e with
      | some (.int .u8), some 1 => some (.s2b x)
      | _, _ => none
    | some x, some (.slice e), some .string =>
      match P.underlying e with
      | some (.int .u8) => some (.b2s x)
      | _ => none
    | _, _, _ => none
  | .makeInterface t x =>
    match P.underlying t, ropd x with
    | some (.interface _), _ => none
    | some _, some x => some (.mkI t x)
    | _, _ => none
  | .makeFunc (.func f) first caps =>
    match ropds first.toList, ropds caps.toList with
    | some a, some b => some (.mkF f a b)
    | _, _ => none
  | .makeSlice t n c =>
    match P.underlying t, ropd n, ropd c with
    | some (.slice e), some x, some y =>
      match P.info? e, rzero P e with
      | some i, some z => some (.mkS i.size i.bytes z x y)
      | _, _ => none
    | _, _, _ => none
  | .slice t x lo hi none =>
    match ropd x, ropdO lo, ropdO hi with
    | some x, some lo, some hi =>
      match P.underlying t with
      | some .string => some (.slcStr x lo hi)
      | some (.slice e) => (rsize P e).map fun sz => .slcS sz x lo hi
      | some (.array n e) => (rsize P e).map fun sz => .slcA n sz x lo hi
      | _ => none
    | _, _, _ => none
  | .slice t x lo (some hi) (some mx) =>
    match ropd x, ropdO lo, ropd hi, ropd mx with
    | some x, some lo, some hi, some mx =>
      match P.underlying t with
      | some (.slice e) => (rsize P e).map fun sz => .slcS3 sz x lo hi mx
      | _ => none
    | _, _, _, _ => none
  | .fieldAddr t x f =>
    match P.underlying t, ropd x with
    | some (.struct fs), some x =>
      match fs[f]? with
      | some fd =>
        match rsize P fd.type with
        | some n => if n = 0 then none else some (.fld fd.offset x)
        | none => none
      | none => none
    | _, _ => none
  | .field t x f =>
    match P.underlying t, ropd x with
    | some (.struct fs), some x =>
      match fs[f]? with
      | some fd => (rsh P fd.type).map fun sh => .fget sh fd.offset x
      | none => none
    | _, _ => none
  | .indexAddr t x i =>
    match P.underlying t, ropd x, ropd i with
    | some (.slice e), some x, some i => (rsize P e).map fun sz => .ixS sz x i
    | some (.array n e), some x, some i => (rsize P e).map fun sz => .ixA n sz x i
    | _, _, _ => none
  | .index t x i =>
    match P.underlying t, ropd x, ropd i with
    | some (.array n e), some x, some i =>
      match rsize P e, rsh P e with
      | some sz, some sh => some (.ixG n sz sh x i)
      | _, _ => none
    | some .string, some x, some i => some (.ixStr x i)
    | _, _, _ => none
  | .extract x i => (ropd x).map fun x => .ext x i
  | .call c => rcall P c
  | _ => none
/-- A guard: the slot that is asked, and for what. -/
def rguard (ops : Array Oper) : Option (Nat × Bool) → Option (Option (Nat × Bool))
  | none => some none
  | some (j, want) => ((ops[j]?).bind (·.dst)).map fun t => some (t, want)
def rops (P : Program) (ops : Array Oper) : List Oper → Option (List IOper)
  | [] => some []
  | o :: l =>
    match rguard ops o.guard, rops P ops l with
    | some g, some r => some ({ dst := o.dst, op := (rsvOp P o.op).getD .bad, guard := g } :: r)
    | _, _ => none
end Go.Proofs.YtgekngfnhhdamaaM
