/-
  A run of code on values that are known, over blocks by number: the functions that reckon it. No condition: these are definitions over any program.
-/
import Derived.Test.YtfoabgljfikklaaGreatDoorWaf
set_option linter.unusedVariables false
set_option linter.unusedSimpArgs false
namespace Go.Proofs.YtfoabgljfikklaaGreatDoor.V
inductive AV where
  | b (x : Bool)
  | i (k : IntKind) (n : Int)
  | s (l : List Nat)
  | p0
  | p (b o : Nat)
  | sl0
  | se
  | ez (b o d e : Nat) (c : Option Nat)
  | sl (b o e n : Nat) (c : Option Nat)
  | f (f : Nat) (cs : List AV)
  | fb (f : Nat) (fs cs : List AV)
  | nf
  | g (l : List AV)
  | t (l : List AV)
  | m0
  | m (b : Nat)
  | n0
  | y (l : Nat)
  | o (i : Nat)
  | oi (i : Nat) (k : IntKind) (fs : List (BinOp × Int × Bool))
  | os (i : Nat) (fs : List (BinOp × Int × Bool))
  | ol (i : Nat) (fs : List (BinOp × Int × Bool))
  | it (ty : Nat) (v : AV)
inductive Tr (α : Type) where
  | e
  | n (v : Option α) (l r : Tr α)
def Tr.get {α : Type} : Tr α → Nat → Option α
  | .e, _ => none
  | .n v l r, k => match k with
    | 0 => v
    | k + 1 => match Nat.beq (k % 2) 0 with
      | true => l.get (k / 2)
      | false => r.get (k / 2)
def Tr.set {α : Type} : Nat → Tr α → Nat → α → Tr α
  | 0, t, _, _ => t
  | f + 1, .e, k, a => match k with
    | 0 => .n (some a) .e .e
    | k + 1 => match Nat.beq (k % 2) 0 with
      | true => .n none (Tr.set f .e (k / 2) a) .e
      | false => .n none .e (Tr.set f .e (k / 2) a)
  | f + 1, .n v l r, k, a => match k with
    | 0 => .n (some a) l r
    | k + 1 => match Nat.beq (k % 2) 0 with
      | true => .n v (Tr.set f l (k / 2) a) r
      | false => .n v l (Tr.set f r (k / 2) a)
def Tr.put {α : Type} (t : Tr α) (k : Nat) (a : α) : Tr α := Tr.set (k + 1) t k a
structure ME where
  k : AV
  v : AV
  born : Nat
inductive AB where
  | row (c : List AV)
  | own (el sz : Nat) (c : List AV)
  | ro (c : List AV)
  | dead
  | map (es : List ME) (clock : Nat)
  | mit (m : Option Nat) (since : Nat) (seen : List Nat) (last : Nat)
  | lp (ph : Nat) (pend : Option (Option Nat)) (f n : Nat) (T : Tr AV) (ps : List Nat) (asg body : Code) (d : Nat)
  | df
inductive MK where
  | d (b : Nat)
  | q (f m : Nat)
structure ST where
  T : Tr AV
  H : Tr AB
  next : Nat
  mks : List MK
def avC : Value → Option AV
  | .bool b => some (.b b)
  | .int k n => some (.i k n)
  | .string s => some (.s (s.data.toList.map (·.toNat)))
  | .pointer none => some .p0
  | .slice none 0 0 => some .sl0
  | .map none => some .m0
  | .nilFunc => some .nf
  | .nilIface => some .n0
  | .func (.func f) fs cs => match fs.toList, cs.toList with
    | [], [] => some (.f f [])
    | _, _ => none
  | _ => none
def avCs : List Value → Option (List AV)
  | [] => some []
  | v :: r => match avC v, avCs r with
    | some a, some l => some (a :: l)
    | _, _ => none
def av (T : Tr AV) : Operand → Option AV
  | .tmp t => T.get t
  | .const v => avC v
  | .func f => some (.f f [])
  | .global _ => none
def avs (T : Tr AV) : List Operand → Option (List AV)
  | [] => some []
  | x :: r => match av T x, avs T r with
    | some a, some l => some (a :: l)
    | _, _ => none
def AV.cells : AV → List AV
  | .g l => l
  | v => [v]
def wantedA (ops : Array Oper) (T : Tr AV) (o : Oper) : Option Bool :=
  match o.guard with
  | none => some true
  | some (j, want) => match ops[j]? with
    | some oj => match oj.dst with
      | some t => match T.get t with
        | some (.b b) => some (match b, want with | true, true => true | false, false => true | _, _ => false)
        | some (.t _) => some false
        | _ => none
      | none => none
    | none => none
def cellsAt (l : List AV) (o n : Nat) : Option (List AV) :=
  match Nat.ble (o + n) l.length with
  | true => some ((l.drop o).take n)
  | false => none
def putAt (l : List AV) (o : Nat) (vs : List AV) : Option (List AV) :=
  match Nat.ble (o + vs.length) l.length with
  | true => some (l.take o ++ vs ++ l.drop (o + vs.length))
  | false => none
def natsEq : List Nat → List Nat → Bool
  | [], [] => true
  | a :: r, b :: s => match Nat.beq a b with | true => natsEq r s | false => false
  | _, _ => false
def intEq : Int → Int → Bool
  | .ofNat a, .ofNat b => Nat.beq a b
  | .negSucc a, .negSucc b => Nat.beq a b
  | _, _ => false
def kindEq : IntKind → IntKind → Bool
  | .i8, .i8 | .i16, .i16 | .i32, .i32 | .i64, .i64 | .u8, .u8 | .u16, .u16 | .u32, .u32 | .u64, .u64 => true
  | _, _ => false
def cmpI : BinOp → Int → Int → Option Bool
  | .lss, a, b => some (decide (a < b))
  | .leq, a, b => some (decide (a ≤ b))
  | .gtr, a, b => some (decide (b < a))
  | .geq, a, b => some (decide (b ≤ a))
  | .eql, a, b => some (decide (a = b))
  | .neq, a, b => some (decide (a ≠ b))
  | _, _, _ => none
def opSame : BinOp → BinOp → Bool
  | .lss, .lss | .leq, .leq | .gtr, .gtr | .geq, .geq | .eql, .eql | .neq, .neq => true
  | _, _ => false
def cmpFind (op : BinOp) (c : Int) : List (BinOp × Int × Bool) → Option Bool
  | [] => none
  | (o, d, b) :: r => match opSame op o, intEq c d with | true, true => some b | _, _ => cmpFind op c r
def evFact (op : BinOp) (x y : AV) : Option AV := match x, y with
  | .oi _ k fs, .i k2 c => match kindEq k k2, cmpFind op c fs with
    | true, some b => some (.b b)
    | _, _ => none
  | .ol _ fs, .i .i64 c => match cmpFind op c fs with
    | some b => some (.b b)
    | none => none
  | .oi i _ _, .oi j _ _ => match Nat.beq i j, op with
    | true, .eql => some (.b true)
    | true, .neq => some (.b false)
    | _, _ => none
  | .os i _, .os j _ => match Nat.beq i j, op with
    | true, .eql => some (.b true)
    | true, .neq => some (.b false)
    | _, _ => none
  | .os _ fs, .s [] => match op, cmpFind .eql 0 fs with
    | .eql, some b => some (.b b)
    | .neq, some b => some (.b (!b))
    | _, _ => none
  | _, _ => none
def fsSame : List (BinOp × Int × Bool) → List (BinOp × Int × Bool) → Bool
  | [], [] => true
  | (o, c, b) :: r, (o2, c2, b2) :: s => match opSame o o2, intEq c c2, (match b, b2 with | true, true => true | false, false => true | _, _ => false) with
    | true, true, true => fsSame r s
    | _, _, _ => false
  | _, _ => false
def evInt (op : BinOp) (k : IntKind) (a b : Int) : Option AV :=
  match op with
  | .add => some (.i k (k.wrap (a + b)))
  | .sub => some (.i k (k.wrap (a - b)))
  | .mul => some (.i k (k.wrap (a * b)))
  | .quo => match intEq b 0 with | true => none | false => some (.i k (k.wrap (Int.tdiv a b)))
  | .rem => match intEq b 0 with | true => none | false => some (.i k (Int.tmod a b))
  | .lss => some (.b (decide (a < b)))
  | .leq => some (.b (decide (a ≤ b)))
  | .gtr => some (.b (decide (b < a)))
  | .geq => some (.b (decide (b ≤ a)))
  | .eql => some (.b (intEq a b))
  | .neq => some (.b (!intEq a b))
  | _ => none
def evBits (op : BinOp) (k : IntKind) (a b : Nat) : Option AV :=
  match op with
  | .and => some (.i k (Int.ofNat (Nat.land a b)))
  | .or => some (.i k (Int.ofNat (Nat.lor a b)))
  | .xor => some (.i k (Int.ofNat (Nat.xor a b)))
  | _ => none
def evShift (op : BinOp) (k : IntKind) (a : Int) (b : Nat) : Option AV :=
  match op with
  | .shl => some (.i k (k.wrap (a * 2 ^ Nat.min b k.bits)))
  | .shr => some (.i k (a / 2 ^ Nat.min b k.bits))
  | _ => none
def isBits : BinOp → Bool | .and | .or | .xor => true | _ => false
def isShift : BinOp → Bool | .shl | .shr => true | _ => false
def signedB (k : IntKind) : Bool := match k with | .i8 | .i16 | .i32 | .i64 => true | _ => false
def strLess : List Nat → List Nat → Bool
  | _, [] => false
  | [], _ :: _ => true
  | a :: r, b :: s => match Nat.blt a b with
    | true => true
    | false => match Nat.beq a b with
      | true => strLess r s
      | false => false
def evStr (op : BinOp) (a b : List Nat) : Option AV :=
  match op with
  | .lss => some (.b (strLess a b))
  | .leq => some (.b (match strLess a b with | true => true | false => natsEq a b))
  | .gtr => some (.b (match strLess a b with | true => false | false => !natsEq a b))
  | .geq => some (.b (!strLess a b))
  | .eql => some (.b (natsEq a b))
  | .neq => some (.b (!natsEq a b))
  | .add => match Nat.ble (a.length + b.length) 1073741824 with | true => some (.s (a ++ b)) | false => none
  | _ => none
def evNil (op : BinOp) (isNil : Bool) : Option AV :=
  match op with
  | .eql => some (.b isNil)
  | .neq => some (.b (!isNil))
  | _ => none
def partA (agg : Bool) (l : List AV) : Option AV := match agg with
  | true => some (.g l)
  | false => match l with | [v] => some v | _ => none
def noBlank : List Field → Bool
  | [] => true
  | f :: r => match f.name == "_" with | true => false | false => noBlank r
def evEqF (P : Program) (eq : Nat → AV → AV → Option Bool) (xs ys : List AV) : List Field → Option Bool
  | [] => some true
  | f :: r => match tyB P f.type with
    | some (agg, size) => match cellsAt xs f.offset size, cellsAt ys f.offset size with
      | some px, some py => match partA agg px, partA agg py with
        | some a, some b => match eq f.type a b with
          | some true => evEqF P eq xs ys r
          | some false => some false
          | none => none
        | _, _ => none
      | _, _ => none
    | none => none
def evEq (P : Program) : Nat → Nat → AV → AV → Option Bool
  | 0, _, _, _ => none
  | d + 1, t, x, y => match P.underlying t, x, y with
    | some .bool, .b a, .b b => some (match a, b with | true, true => true | false, false => true | _, _ => false)
    | some (.int _), .i k a, .i k2 b => match kindEq k k2 with | true => some (intEq a b) | false => none
    | some .string, .s a, .s b => some (natsEq a b)
    | some (.pointer _), .p0, .p0 => some true
    | some (.pointer _), .p0, .p _ _ => some false
    | some (.pointer _), .p _ _, .p0 => some false
    | some (.struct fs), .g xs, .g ys => match P.stoodInHeld t, noBlank fs.toList with
      | false, true => evEqF P (evEq P d) xs ys fs.toList
      | _, _ => none
    | some (.func _ _ _), .nf, .nf => some true
    | some (.func _ _ _), .f _ _, .nf => some false
    | some (.func _ _ _), .fb _ _ _, .nf => some false
    | some (.map _ _), .m0, .m0 => some true
    | some (.map _ _), .m _, .m0 => some false
    | some (.slice _), .se, .sl0 => some false
    | some (.slice _), .ez .., .sl0 => some false
    | some (.int _), .oi i _ _, .oi j _ _ => match Nat.beq i j with | true => some true | false => none
    | some .string, .os i _, .os j _ => match Nat.beq i j with | true => some true | false => none
    | some (.int _), .oi _ k fs, .i k2 c => match kindEq k k2, cmpFind .eql c fs with | true, some b => some b | _, _ => none
    | some .string, .os _ fs, .s [] => cmpFind .eql 0 fs
    | _, _, _ => none
def plainEq (P : Program) (t : Nat) : AV → Bool
  | .g _ => match P.eqGuardType P.depth t with | false => true | true => false
  | .f _ _ => true
  | .fb _ _ _ => true
  | .nf => true
  | .m _ => true
  | .m0 => true
  | .se => true
  | .ez .. => true
  | .sl0 => true
  | _ => false
def evBin (P : Program) (op : BinOp) (t : TypeId) (x y : AV) : Option AV :=
  match x, y with
  | .i k a, .i k2 b => match isShift op with
    | true => match b with
      | .ofNat b => evShift op k a b
      | _ => none
    | false => match kindEq k k2 with
      | true => match isBits op with
        | true => match signedB k, a, b with
          | false, .ofNat a, .ofNat b => match Nat.blt a (2 ^ k.bits), Nat.blt b (2 ^ k.bits) with | true, true => evBits op k a b | _, _ => none
          | true, .ofNat a, .ofNat b => match Nat.blt a (2 ^ (k.bits - 1)), Nat.blt b (2 ^ (k.bits - 1)) with | true, true => evBits op k a b | _, _ => none
          | _, _, _ => none
        | false => evInt op k a b
      | false => none
  | .s a, .s b => evStr op a b
  | .b a, .b b => match P.underlying t with
    | some .bool => match op with
      | .eql => some (.b (a == b))
      | .neq => some (.b (!(a == b)))
      | _ => none
    | _ => none
  | .p0, .p0 => match P.underlying t with | some (.pointer _) => evNil op true | _ => none
  | .p _ _, .p0 => match P.underlying t with | some (.pointer _) => evNil op false | _ => none
  | .sl0, .sl0 => match P.underlying t with | some (.slice _) => evNil op true | _ => none
  | .sl .., .sl0 => match P.underlying t with | some (.slice _) => evNil op false | _ => none
  | x, y => match op, plainEq P t x, plainEq P t y with
    | .eql, true, true => match evEq P 8 t x y with | some z => some (.b z) | none => none
    | .neq, true, true => match evEq P 8 t x y with | some z => some (.b (match z with | true => false | false => true)) | none => none
    | _, _, _ => none
def fillA (place : Nat → Option (Nat × Nat)) : List AV → List (Nat × List AV) → Option (List AV)
  | cells, [] => some cells
  | cells, (i, l) :: rest => match place i with
    | none => none
    | some (off, size) => match Nat.beq l.length size, Nat.ble (off + size) cells.length with
      | true, true => fillA place (cells.take off ++ l ++ cells.drop (off + size)) rest
      | _, _ => none
def partsA (T : Tr AV) : List (Nat × Operand) → Option (List (Nat × List AV))
  | [] => some []
  | (i, x) :: r => match av T x, partsA T r with
    | some a, some l => some ((i, a.cells) :: l)
    | _, _ => none
def zeroA (P : Program) (t : Nat) : Option (List AV) := (zeroB P t).bind avCs
def placeS (P : Program) (fs : Array Field) (i : Nat) : Option (Nat × Nat) := match fs[i]? with
  | some f => match tyB P f.type with
    | some (_, s) => some (f.offset, s)
    | none => none
  | none => none
def allB (P : Program) (t : Nat) : Bool := match P.underlying t with | some (.struct fs) => fs.all fun f => (tyB P f.type).isSome | _ => false
def buildA (P : Program) (t : Nat) (pl : List (Nat × List AV)) : Option AV :=
  match P.underlying t, zeroA P t, allB P t with
  | some (.struct fs), some z, true => match fillA (placeS P fs) z pl with
    | some out => some (.g out)
    | none => none
  | _, _, _ => none
def kindOf (P : Program) (t : Nat) : Option IntKind := match P.underlying t with | some (.int k) => some k | _ => none
def optNat (T : Tr AV) (d : Nat) : Option Operand → Option Nat
  | none => some d
  | some x => match av T x with
    | some (.i _ (.ofNat n)) => some n
    | _ => none
def evSlice (P : Program) (T : Tr AV) (t : TypeId) (x : Option AV) (lo hi mx : Option Operand) : Option AV :=
  match x with
    | some (.sl b o e n c) => match sliceB P t, optNat T 0 lo, optNat T n hi with
      | some (_, sz, _), some l, some h => match Nat.ble l h, Nat.ble h n, Nat.blt 0 sz, mx with
        | true, true, true, none => match l, Nat.beq h l with
          | 0, _ => some (.sl b o e h c)
          | _ + 1, true => some (.ez b o (l * sz) (e + l) (c.map (· - l)))
          | _ + 1, false => some (.sl b (o + l * sz) (e + l) (h - l) (c.map (· - l)))
        | true, true, true, some y => match optNat T 0 (some y), hi with
          | some m, some _ => match Nat.ble h m, Nat.ble m n with
            | true, true => match l, Nat.beq h l with
              | 0, _ => some (.sl b o e h (some m))
              | _ + 1, true => some (.ez b o (l * sz) (e + l) (some (m - l)))
              | _ + 1, false => some (.sl b (o + l * sz) (e + l) (h - l) (some (m - l)))
            | _, _ => none
          | _, _ => none
        | _, _, _, _ => none
      | _, _, _ => none
    | some .sl0 => match sliceB P t, optNat T 0 lo, optNat T 0 hi, mx with
      | some _, some 0, some 0, none => some .sl0
      | _, _, _, _ => none
    | some (.ez b o d e c) => match sliceB P t, optNat T 0 lo, optNat T 0 hi, mx with
      | some _, some 0, some 0, none => some (.ez b o d e c)
      | some _, some 0, some 0, some y => match optNat T 0 (some y), hi with
        | some 0, some _ => some .se
        | _, _ => none
      | _, _, _, _ => none
    | some .se => match sliceB P t, optNat T 0 lo, optNat T 0 hi, mx with
      | some _, some 0, some 0, none => some .se
      | some _, some 0, some 0, some y => match optNat T 0 (some y), hi with
        | some 0, some _ => some .se
        | _, _ => none
      | _, _, _, _ => none
    | some (.s l) => match optNat T 0 lo, optNat T l.length hi, mx, P.underlying t with
      | some a, some h, none, some .string => match Nat.ble a h, Nat.ble h l.length with
        | true, true => some (.s ((l.drop a).take (h - a)))
        | _, _ => none
      | _, _, _, _ => none
    | _ => none
def evPure1 (P : Program) (T : Tr AV) : Op → Option AV
  | .move x => av T x
  | .assign x => av T x
  | .pick c x y => match av T c with
    | some (.b true) => av T x
    | some (.b false) => av T y
    | _ => none
  | .nilCheck x => match av T x with
    | some (.p b o) => some (.p b o)
    | some (.f f cs) => some (.f f cs)
    | _ => none
  | .fieldAddr s x f => match av T x, fieldB P s f with
    | some (.p b o), some (off, size, _) => match Nat.blt 0 size with | true => some (.p b (o + off)) | false => none
    | _, _ => none
  | .field s x f => match av T x, fieldB P s f with
    | some (.g l), some (off, size, agg) => match cellsAt l off size with
      | some part => match agg with
        | true => some (.g part)
        | false => match part with | [v] => some v | _ => none
      | none => none
    | _, _ => none
  | .indexAddr t x i => match av T x, av T i with
    | some (.sl b o _ n _), some (.i _ (.ofNat k)) => match sliceB P t, Nat.blt k n with
      | some (_, size, _), true => some (.p b (o + k * size))
      | _, _ => none
    | _, _ => none
  | .index t x i => match P.underlying t, av T x, av T i with
    | some .string, some (.s l), some (.i _ (.ofNat k)) => match l[k]? with
      | some c => some (.i .u8 (.ofNat c))
      | none => none
    | _, _, _ => none
  | .binOp op t x y _ => match av T x, av T y with
    | some a, some b => evBin P op t a b
    | _, _ => none
  | .unOp .not _ x => match av T x with
    | some (.b z) => some (.b (!z))
    | _ => none
  | .convert s d x => match av T x with
    | some (.i _ n) => match P.underlying s, P.underlying d with
      | some _, some (.int k) => some (.i k (k.wrap n))
      | _, _ => none
    | some (.s l) => match P.underlying s, P.underlying d with
      | some .string, some .string => some (.s l)
      | _, _ => none
    | _ => none
  | .extract x k => match av T x with
    | some (.t l) => l[k]?
    | _ => none
  | .slice t x lo hi mx => evSlice P T t (av T x) lo hi mx
  | .build t parts => match partsA T parts.toList with
    | some pl => buildA P t pl
    | none => none
  | .makeFunc (.func f) first captured => match first.toList, avs T captured.toList with
    | [], some cs => some (.f f cs)
    | _, _ => none
  | .call c => match c.callee, c.args.toList with
    | .builtin .len, [x] => match c.argTypes.toList with
      | [t] => match P.underlying t, av T x with
        | some (.slice _), some (.sl _ _ _ n _) => some (.i .i64 (.ofNat n))
        | some (.slice _), some .sl0 => some (.i .i64 (.ofNat 0))
        | some (.slice _), some .se => some (.i .i64 (.ofNat 0))
        | some (.slice _), some (.ez ..) => some (.i .i64 (.ofNat 0))
        | some .string, some (.s l) => some (.i .i64 (.ofNat l.length))
        | _, _ => none
      | _ => none
    | .builtin .min, [x, y] => match av T x, av T y with
      | some (.i k a), some (.i k2 b) => match kindEq k k2 with
        | true => some (.i k (if b < a then b else a))
        | false => none
      | _, _ => none
    | .builtin .max, [x, y] => match av T x, av T y with
      | some (.i k a), some (.i k2 b) => match kindEq k k2 with
        | true => some (.i k (if b > a then b else a))
        | false => none
      | _, _ => none
    | _, _ => none
  | _ => none
def evPure2 (P : Program) (T : Tr AV) : Op → Option AV
  | .indexAddr t x i => match P.underlying t, av T x, av T i with
    | some (.array len el), some (.p b o), some (.i _ (.ofNat k)) => match tyB P el, Nat.blt k len with
      | some (_, s), true => some (.p b (o + k * s))
      | _, _ => none
    | _, _, _ => none
  | .index t x i => match P.underlying t, av T x, av T i with
    | some (.array len el), some (.g l), some (.i _ (.ofNat k)) => match tyB P el, Nat.blt k len with
      | some (agg, s), true => match cellsAt l (k * s) s with
        | some part => partA agg part
        | none => none
      | _, _ => none
    | _, _, _ => none
  | .build t parts => match partsA T parts.toList, P.underlying t with
    | some pl, some (.array _ el) => match zeroA P t, tyB P el with
      | some z, some (_, s) => match fillA (fun i => some (i * s, s)) z pl with
        | some out => some (.g out)
        | none => none
      | _, _ => none
    | _, _ => none
  | .slice t x lo hi none => match P.underlying t, av T x with
    | some (.array m el), some (.p b o) => match optNat T 0 lo, optNat T m hi, tyB P el with
      | some l, some h, some (_, s) => match Nat.ble l h, Nat.ble h m, Nat.blt l m with
        | true, true, true => some (.sl b (o + l * s) 0 (h - l) (some (m - l)))
        | _, _, _ => none
      | _, _, _ => none
    | _, _ => none
  | .unOp .neg _ x => match av T x with
    | some (.i k n) => some (.i k (k.wrap (0 - n)))
    | _ => none
  | .makeFunc (.func f) first captured => match avs T first.toList, avs T captured.toList with
    | some fs, some cs => some (.fb f fs cs)
    | _, _ => none
  | .nilCheck x => match av T x with
    | some (.fb f fs cs) => some (.fb f fs cs)
    | _ => none
  | .call c => match c.callee, c.args.toList with
    | .builtin .len, [x] => match c.argTypes.toList with
      | [t] => match P.underlying t, av T x with
        | some (.array n _), some _ => some (.i .i64 (.ofNat n))
        | some .string, some (.os i fs) => some (.ol i fs)
        | _, _ => none
      | _ => none
    | _, _ => none
  | .binOp op _ x y _ => match av T x, av T y with
    | some a, some b => evFact op a b
    | _, _ => none
  | _ => none
def evPure (P : Program) (T : Tr AV) (op : Op) : Option AV := match evPure1 P T op with
  | some v => some v
  | none => evPure2 P T op
def AB.cells : AB → Option (List AV)
  | .row c => some c
  | .own _ _ c => some c
  | .ro c => some c
  | _ => none
def AB.set : AB → List AV → Option AB
  | .row _, c => some (.row c)
  | .own el sz _, c => some (.own el sz c)
  | _, _ => none
def atH (H : Tr AB) (b o n : Nat) : Option (List AV) := match H.get b with
  | some ab => match ab.cells with
    | some l => cellsAt l o n
    | none => none
  | none => none
def ST.new (st : ST) (ab : AB) (v : AV) : Option (AV × ST) := match st.H.get st.next with
  | none => some (v, ⟨st.T, st.H.put st.next ab, st.next + 1, st.mks⟩)
  | some _ => none
def ST.upd (st : ST) (b : Nat) (ab : AB) : ST := ⟨st.T, st.H.put b ab, st.next, st.mks⟩
def ST.put (st : ST) (n : Nat) (d : Option Nat) (v : AV) : Option ST := match d with
  | some d => match Nat.blt d n with
    | true => some ⟨st.T.put d v, st.H, st.next, st.mks⟩
    | false => none
  | none => some st
def rep (l : List AV) : Nat → List AV
  | 0 => []
  | n + 1 => l ++ rep l n
def sliceCells (H : Tr AB) (v : AV) (sz : Nat) : Option (List AV) :=
  match v with
  | .sl0 => some []
  | .se => some []
  | .ez .. => some []
  | .sl b o _ n _ => atH H b o (n * sz)
  | _ => none
def bytesOf : List AV → Option (List Nat)
  | [] => some []
  | .i .u8 (.ofNat n) :: r => match Nat.blt n 256, bytesOf r with | true, some l => some (n :: l) | _, _ => none
  | _ => none
def slLen : AV → Nat | .sl _ _ _ n _ => n | _ => 0
def ones : List AV → Bool
  | [] => true
  | .g _ :: _ => false
  | .t _ :: _ => false
  | _ :: r => ones r
def fits47 (n b : Nat) : Bool := match Nat.ble (n * b) 140737488355328, Nat.ble n 140737488355328 with | true, true => true | _, _ => false
def capIs (c : Option Nat) (n : Nat) : Bool := match c with | some k => Nat.ble n k | none => true
def evAppend (P : Program) (st : ST) (t : TypeId) (a b : Option AV) : Option (AV × ST) :=
  match a, b, sliceB P t with
  | some a, some b, some (el, sz, by_) => match sliceCells st.H b sz, Nat.blt 0 sz, fits47 (slLen a + slLen b) by_ with
    | some news, true, true => match ones news, a with
      | true, .sl0 => match slLen b with
        | 0 => some (.sl0, st)
        | m + 1 => st.new (.own el sz news) (.sl st.next 0 0 (m + 1) none)
      | true, .se => match slLen b with
        | 0 => some (.se, st)
        | _ + 1 => none
      | true, .ez k o d e c => match slLen b with
        | 0 => some (.ez k o d e c, st)
        | _ + 1 => none
      | true, .sl k o e n c => match slLen b with
        | 0 => some (.sl k o e n c, st)
        | m + 1 => match capIs c (n + (m + 1)) with
          | true => match st.H.get k, o, e with
            | some (.own el' sz' cells), 0, 0 => match Nat.beq el' el, Nat.beq sz' sz with
              | true, true => match Nat.ble (n * sz + news.length) cells.length with
                | true => some (.sl k 0 0 (n + (m + 1)) c, st.upd k (.own el sz (cells.take (n * sz) ++ news ++ cells.drop (n * sz + news.length))))
                | false => match c, Nat.beq cells.length (n * sz) with
                  | none, true => (st.upd k .dead).new (.own el sz (cells ++ news)) (.sl st.next 0 0 (n + (m + 1)) none)
                  | _, _ => none
              | _, _ => none
            | _, _, _ => none
          | false => match atH st.H k o (n * sz) with
            | some olds => st.new (.own el sz (olds ++ news)) (.sl st.next 0 0 (n + (m + 1)) none)
            | none => none
      | _, _ => none
    | _, _, _ => none
  | _, _, _ => none
def evAppendS (P : Program) (st : ST) (t t2 : TypeId) (a b : Option AV) : Option (AV × ST) :=
  match a, b, sliceB P t, P.underlying t2 with
  | some (.sl k 0 0 n c), some (.s l), some (el, 1, by_), some .string => match l, fits47 (n + l.length) by_, capIs c (n + l.length) with
    | [], _, _ => some (.sl k 0 0 n c, st)
    | _ :: _, true, true => match st.H.get k with
      | some (.own el' 1 cells) => match Nat.beq el' el, Nat.ble (n + l.length) cells.length with
        | true, true => some (.sl k 0 0 (n + l.length) c, st.upd k (.own el 1 (cells.take n ++ l.map (fun x => .i .u8 (.ofNat x)) ++ cells.drop (n + l.length))))
        | true, false => match c, Nat.beq cells.length n with
          | none, true => (st.upd k .dead).new (.own el 1 (cells ++ l.map (fun x => .i .u8 (.ofNat x)))) (.sl st.next 0 0 (n + l.length) none)
          | _, _ => none
        | _, _ => none
      | _ => none
    | _, _, _ => none
  | _, _, _, _ => none
def evGrow (P : Program) (st : ST) (t t2 : TypeId) (a b : Option AV) : Option (AV × ST) :=
  match a, b, sliceB P t, P.underlying t2 with
  | some .sl0, some (.i .i64 (.ofNat (m + 1))), some (el, sz, by_), some (.int _) => match zeroA P el, Nat.blt 0 sz, fits47 (m + 1) by_ with
    | some z, true, true => st.new (.own el sz (rep z (m + 1))) (.sl st.next 0 0 (m + 1) none)
    | _, _, _ => none
  | _, _, _, _ => none
def keyEq : AV → AV → Option Bool
  | .i k a, .i k2 b => match kindEq k k2 with | true => some (intEq a b) | false => none
  | .s a, .s b => some (natsEq a b)
  | .b a, .b b => some (match a, b with | true, true => true | false, false => true | _, _ => false)
  | _, _ => none
def keyFits : TypeDesc → AV → Bool
  | .int _, .i _ _ => true
  | .string, .s _ => true
  | .bool, .b _ => true
  | _, _ => false
def findA (d : TypeDesc) (k : AV) : List ME → Nat → Option (Option (Nat × AV × Nat))
  | [], _ => some none
  | e :: r, i => match keyFits d e.k with
    | true => match keyEq k e.k with
      | some true => some (some (i, e.v, e.born))
      | some false => findA d k r (i + 1)
      | none => none
    | false => none
def mapB (P : Program) (t : TypeId) : Option (TypeDesc × TypeId) := match P.underlying t with
  | some (.map k e) => match P.underlying k with
    | some d => some (d, e)
    | none => none
  | _ => none
def avZ : Value → Option AV
  | .agg cs => match avCs cs.toList with | some l => some (.g l) | none => none
  | v => avC v
def zeroV (P : Program) (t : TypeId) : Option AV := match P.info? t with
  | some i => match i.zero with
    | some z => avZ z
    | none => none
  | none => none
def mapOf (H : Tr AB) : AV → Option (List ME)
  | .m0 => some []
  | .m b => match H.get b with
    | some (.map es _) => some es
    | _ => none
  | _ => none
def evLookup (P : Program) (st : ST) (t : TypeId) (x i : Option AV) (ok : Bool) : Option (AV × ST) :=
  match mapB P t, x, i with
  | some (d, el), some m, some k => match keyFits d k, mapOf st.H m with
    | true, some es => match findA d k es 0 with
      | some (some (_, v, _)) => some (match ok with | true => .t [v, .b true] | false => v, st)
      | some none => match zeroV P el with
        | some z => some (match ok with | true => .t [z, .b false] | false => z, st)
        | none => none
      | none => none
    | _, _ => none
  | _, _, _ => none
def setE : List ME → Nat → (ME → ME) → List ME
  | [], _, _ => []
  | e :: r, 0, f => f e :: r
  | e :: r, i + 1, f => e :: setE r i f
def delE : List ME → Nat → List ME
  | [], _ => []
  | _ :: r, 0 => r
  | e :: r, i + 1 => e :: delE r i
def evUpdate (P : Program) (st : ST) (t : TypeId) (m k v : Option AV) : Option (AV × ST) :=
  match mapB P t, m, k, v with
  | some (d, _), some (.m b), some k, some v => match keyFits d k, st.H.get b with
    | true, some (.map es clock) => match findA d k es 0 with
      | some (some (i, _, _)) => some (.t [], st.upd b (.map (setE es i fun e => ⟨k, v, e.born⟩) clock))
      | some none => some (.t [], st.upd b (.map (es ++ [⟨k, v, clock⟩]) (clock + 1)))
      | none => none
    | _, _ => none
  | _, _, _, _ => none
def evEntry (P : Program) (st : ST) (t : TypeId) (m k : Option AV) : Option (AV × ST) :=
  match mapB P t, m, k with
  | some (d, el), some (.m b), some k => match keyFits d k, st.H.get b with
    | true, some (.map es clock) => match findA d k es 0 with
      | some (some (i, v, born)) => some (.t [v, .i .i64 (.ofNat born)], st.upd b (.map (setE es i fun e => ⟨k, e.v, e.born⟩) clock))
      | some none => match zeroV P el with
        | some z => some (.t [z, .i .i64 (.ofNat clock)], st.upd b (.map (es ++ [⟨k, z, clock⟩]) (clock + 1)))
        | none => none
      | none => none
    | _, _ => none
  | _, _, _ => none
def bornAt : List ME → Nat → Nat → Option Nat
  | [], _, _ => none
  | e :: r, n, i => match Nat.beq e.born n with
    | true => some i
    | false => bornAt r n (i + 1)
def evEntryStore (st : ST) (m s v : Option AV) : Option (AV × ST) :=
  match m, s, v with
  | some (.m b), some (.i _ (.ofNat n)), some v => match st.H.get b with
    | some (.map es clock) => match bornAt es n 0 with
      | some i => some (.t [], st.upd b (.map (setE es i fun e => ⟨e.k, v, e.born⟩) clock))
      | none => none
    | _ => none
  | _, _, _ => none
def evDelete (P : Program) (st : ST) (t : TypeId) (m k : Option AV) : Option (AV × ST) :=
  match mapB P t, m, k with
  | some (d, _), some (.m b), some k => match keyFits d k, st.H.get b with
    | true, some (.map es clock) => match findA d k es 0 with
      | some (some (i, _, _)) => some (.t [], st.upd b (.map (delE es i) clock))
      | some none => some (.t [], st)
      | none => none
    | _, _ => none
  | _, _, _ => none
def memN (n : Nat) : List Nat → Bool
  | [] => false
  | x :: r => match Nat.beq x n with | true => true | false => memN n r
def leftE (seen : List Nat) : List ME → List ME
  | [] => []
  | e :: r => match memN e.born seen with | true => leftE seen r | false => e :: leftE seen r
def oldE (since : Nat) : List ME → List ME
  | [] => []
  | e :: r => match Nat.blt e.born since with | true => e :: oldE since r | false => oldE since r
def newE (since : Nat) : List ME → List ME
  | [] => []
  | e :: r => match Nat.blt e.born since with | true => newE since r | false => e :: newE since r
def evRange (P : Program) (st : ST) (t : TypeId) (x : Option AV) : Option (AV × ST) := match P.underlying t, x with
  | some (.map _ _), some .m0 => st.new (.mit none 0 [] 0) (.p st.next 0)
  | some (.map _ _), some (.m b) => match st.H.get b with
    | some (.map _ clock) => st.new (.mit (some b) clock [] clock) (.p st.next 0)
    | _ => none
  | _, _ => none
def evNext (st : ST) (x : Option AV) : Option (AV × ST) := match x with
  | some (.p b 0) => match st.H.get b with
    | some (.mit none _ _ _) => some (.t [.b false], st)
    | some (.mit (some m) since seen last) => match st.H.get m with
      | some (.map es clock) => match oldE since (leftE seen es), newE since (leftE seen es) with
        | [e], [] => match seen, Nat.blt e.born last with
          | [], _ => some (.t [.b true, e.k, e.v], st.upd b (.mit (some m) since (seen ++ [e.born]) clock))
          | _ :: _, true => some (.t [.b true, e.k, e.v], st.upd b (.mit (some m) since (seen ++ [e.born]) clock))
          | _, _ => none
        | [], [] => match seen, es, oldE last es with
          | [], _, _ => some (.t [.b false], st)
          | _, [], _ => some (.t [.b false], st)
          | _, _, _ :: _ => some (.t [.b false], st)
          | _, _, _ => none
        | _, _ => none
      | _ => none
    | _ => none
  | _ => none
def lastOf : List Nat → Option Nat
  | [] => none
  | [x] => some x
  | _ :: r => lastOf r
def findBorn (n : Nat) : List ME → Option ME
  | [] => none
  | e :: r => match Nat.beq e.born n with | true => some e | false => findBorn n r
def evIter (st : ST) (x : Option AV) : Option (AV × ST) := match x with
  | some (.p b 0) => match st.H.get b with
    | some (.mit (some m) _ seen last) => match st.H.get m, lastOf seen with
      | some (.map es clock), some q => match Nat.beq clock last, findBorn q es with
        | true, some e => some (.t [e.k, e.v], st)
        | _, _ => none
      | _, _ => none
    | _ => none
  | _ => none
def evMark (st : ST) (b : Nat) (v : AV) : Option (AV × ST) := match st.H.get b with
  | some (.own _ _ c) => some (v, st.upd b (.ro c))
  | _ => none
def evSliceH (P : Program) (st : ST) (t : TypeId) (x : Option AV) (lo hi : Option Operand) : Option (AV × ST) := match x with
  | some (.sl b o e n none) => match st.H.get b, sliceB P t, optNat st.T 0 lo, optNat st.T n hi with
    | some (.own _ sz' cells), some (_, sz, _), some l, some h => match Nat.beq sz' sz, Nat.blt 0 sz, Nat.ble l h, Nat.ble ((e + h) * sz) cells.length with
      | true, true, true, true => match l, Nat.beq h l with
        | 0, _ => some (.sl b o e h none, st)
        | _ + 1, true => some (.ez b o (l * sz) (e + l) none, st)
        | _ + 1, false => some (.sl b (o + l * sz) (e + l) (h - l) none, st)
      | _, _, _, _ => none
    | _, _, _, _ => none
  | _ => none
def evClear (P : Program) (st : ST) (t : TypeId) (x : Option AV) : Option (AV × ST) := match x with
  | some .sl0 => match sliceB P t with | some _ => some (.t [], st) | none => none
  | some (.ez ..) => match sliceB P t with | some _ => some (.t [], st) | none => none
  | some (.sl b o _ (n + 1) _) => match sliceB P t, st.H.get b with
    | some (el, sz, _), some ab => match zeroA P el, ab.cells with
      | some z, some l => match putAt l o (rep z (n + 1)), ones (rep z (n + 1)) with
        | some cells, true => match ab.set cells with
          | some ab' => some (.t [], st.upd b ab')
          | none => none
        | _, _ => none
      | _, _ => none
    | _, _ => none
  | some .m0 => match mapB P t with | some _ => some (.t [], st) | none => none
  | some (.m b) => match mapB P t, st.H.get b with
    | some _, some (.map _ clock) => some (.t [], st.upd b (.map [] clock))
    | _, _ => none
  | _ => none
def evCopy (P : Program) (st : ST) (t : TypeId) (x y : Option AV) : Option (AV × ST) := match x, y with
  | some (.sl b o _ (n + 1) _), some (.sl b2 o2 _ (m + 1) _) => match sliceB P t, st.H.get b with
    | some (_, sz, _), some ab => match ab.cells, atH st.H b2 o2 (Nat.min (m + 1) (n + 1) * sz) with
      | some l, some news => match putAt l o news, ones news with
        | some cells, true => match ab.set cells with
          | some ab' => some (.i .i64 (.ofNat (Nat.min (m + 1) (n + 1))), st.upd b ab')
          | none => none
        | _, _ => none
      | _, _ => none
    | _, _ => none
  | _, _ => none
def evMem (P : Program) (st : ST) : Op → Option (AV × ST)
  | .load t x => match av st.T x with
    | some (.p b o) => match tyB P t with
      | some (agg, size) => match atH st.H b o size with
        | some part => match partA agg part with
          | some v => some (v, st)
          | none => none
        | none => none
      | none => none
    | _ => none
  | .store t x y => match av st.T x, av st.T y with
    | some (.p b o), some v => match st.H.get b, tyB P t with
      | some ab, some (_, size) => match ab.cells with
        | some l => match putAt l o v.cells, Nat.beq v.cells.length size, ones v.cells with
          | some cells, true, true => match ab.set cells with
            | some ab' => some (.t [], st.upd b ab')
            | none => none
          | _, _, _ => none
        | none => none
      | _, _ => none
    | _, _ => none
  | .alloc t => match zeroA P t with
    | some l => st.new (.row l) (.p st.next 0)
    | none => none
  | .box _ x => match av st.T x with
    | some v => st.new (.row v.cells) (.p st.next 0)
    | none => none
  | .buildSlice t len parts => match sliceB P t, partsA st.T parts.toList with
    | some (el, sz, _), some pl => match zeroA P el, Nat.blt 0 len, Nat.ble (len * sz) 16777216, Nat.blt 0 sz with
      | some z, true, true, true => match fillA (fun j => some (j * sz, sz)) (rep z len) pl with
        | some cells => st.new (.own el sz cells) (.sl st.next 0 0 len (some len))
        | none => none
      | _, false, _, _ => match pl with
        | [] => st.new (.own el sz []) (.sl st.next 0 0 0 (some 0))
        | _ => none
      | _, _, _, _ => none
    | _, _ => none
  | .makeSlice t l c => match sliceB P t, av st.T l, av st.T c with
    | some (el, sz, by_), some (.i _ (.ofNat n)), some (.i _ (.ofNat k)) => match zeroA P el, Nat.ble n k, fits47 k by_, Nat.blt 0 sz with
      | some z, true, true, true => match Nat.ble k 100000 with
        | true => st.new (.own el sz (rep z k)) (.sl st.next 0 0 n (some k))
        | false => st.new (.ro (rep z 16)) (.sl st.next 0 0 n (some k))
      | _, _, _, _ => none
    | _, _, _ => none
  | .slice t x lo hi none => evSliceH P st t (av st.T x) lo hi
  | .makeMap t none => st.new (.map [] 0) (.m st.next)
  | .makeMap t (some x) => match av st.T x, mapB P t with
    | some (.i _ _), some _ => st.new (.map [] 0) (.m st.next)
    | _, _ => none
  | .lookup t x i ok => evLookup P st t (av st.T x) (av st.T i) ok
  | .mapUpdate t m k v => evUpdate P st t (av st.T m) (av st.T k) (av st.T v)
  | .insert t m k v => evUpdate P st t (av st.T m) (av st.T k) (av st.T v)
  | .mapEntry t m k => evEntry P st t (av st.T m) (av st.T k)
  | .range t x => evRange P st t (av st.T x)
  | .next x false => evNext st (av st.T x)
  | .entry x => evIter st (av st.T x)
  | .entryStore _ m s v => evEntryStore st (av st.T m) (av st.T s) (av st.T v)
  | .convert s d x => match av st.T x, P.underlying s, P.underlying d with
    | some v, some (.slice el), some .string => match P.underlying el, sliceCells st.H v 1 with
      | some (.int .u8), some l => match bytesOf l with
        | some bs => some (.s bs, st)
        | none => none
      | _, _ => none
    | some (.s l), some .string, some (.slice el) => match P.underlying el with
      | some (.int .u8) => match l with
        | [] => st.new .dead (.ez st.next 0 0 0 none)
        | x :: l => st.new (.ro ((x :: l).map fun n => .i .u8 (.ofNat n))) (.sl st.next 0 0 (l.length + 1) none)
      | _ => none
    | some (.sl b o e n c), some (.slice _), some (.slice el) => match Nat.beq s d, P.underlying el with
      | true, some (.int .u8) => evMark st b (.sl b o e n c)
      | _, _ => none
    | _, _, _ => none
  | .call c => match c.callee, c.args.toList with
    | .builtin .append, [x, y] => match c.argTypes.toList with
      | [t, t2] => match Nat.beq t t2 with
        | true => evAppend P st t (av st.T x) (av st.T y)
        | false => match evGrow P st t t2 (av st.T x) (av st.T y) with
          | some z => some z
          | none => evAppendS P st t t2 (av st.T x) (av st.T y)
      | _ => none
    | .builtin .cap, [x] => match c.argTypes.toList with
      | [t] => match P.underlying t, av st.T x with
        | some (.slice _), some .sl0 => some (.i .i64 (.ofNat 0), st)
        | some (.slice _), some (.sl _ _ _ _ (some c)) => some (.i .i64 (.ofNat c), st)
        | _, _ => none
      | _ => none
    | .builtin .clear, [x] => match c.argTypes.toList with
      | [t] => evClear P st t (av st.T x)
      | _ => none
    | .builtin .copy, [x, y] => match c.argTypes.toList with
      | [t, t2] => match Nat.beq t t2 with
        | true => evCopy P st t (av st.T x) (av st.T y)
        | false => none
      | _ => none
    | .builtin .delete, [x, y] => match c.argTypes.toList with
      | t :: _ => evDelete P st t (av st.T x) (av st.T y)
      | _ => none
    | .builtin .len, [x] => match c.argTypes.toList, av st.T x with
      | [t], some m => match mapB P t, mapOf st.H m with
        | some _, some es => some (.i .i64 (.ofNat es.length), st)
        | _, _ => none
      | _, _ => none
    | _, _ => none
  | _ => none
inductive RI where
  | cells (b o : Nat) (part : List AV)
  | look (b : Nat) (d : TypeDesc) (k : AV) (v : Option AV)
def avSame : AV → AV → Bool
  | .b x, .b y => match x, y with | true, true => true | false, false => true | _, _ => false
  | .i k a, .i k2 b => match kindEq k k2 with | true => intEq a b | false => false
  | .s a, .s b => natsEq a b
  | .p0, .p0 => true
  | .p b o, .p b2 o2 => match Nat.beq b b2 with | true => Nat.beq o o2 | false => false
  | .sl0, .sl0 => true
  | .sl b o e n c, .sl b2 o2 e2 n2 c2 => match Nat.beq b b2, Nat.beq o o2, Nat.beq e e2, Nat.beq n n2, c, c2 with
    | true, true, true, true, none, none => true
    | true, true, true, true, some x, some y => Nat.beq x y
    | _, _, _, _, _, _ => false
  | .f f [], .f f2 [] => Nat.beq f f2
  | .nf, .nf => true
  | .m0, .m0 => true
  | .m b, .m b2 => Nat.beq b b2
  | .n0, .n0 => true
  | _, _ => false
def avsSame : List AV → List AV → Bool
  | [], [] => true
  | a :: r, b :: s => match avSame a b with | true => avsSame r s | false => false
  | _, _ => false
mutual
def sameV : AV → AV → Bool
  | .b x, .b y => match x, y with | true, true => true | false, false => true | _, _ => false
  | .i k a, .i k2 b => match kindEq k k2 with | true => intEq a b | false => false
  | .s a, .s b => natsEq a b
  | .p0, .p0 => true
  | .p b o, .p b2 o2 => match Nat.beq b b2 with | true => Nat.beq o o2 | false => false
  | .sl0, .sl0 => true
  | .se, .se => true
  | .ez b o d e c, .ez b2 o2 d2 e2 c2 => match Nat.beq d d2 with | true => avSame (.sl b o e 0 c) (.sl b2 o2 e2 0 c2) | false => false
  | .sl b o e n c, .sl b2 o2 e2 n2 c2 => avSame (.sl b o e n c) (.sl b2 o2 e2 n2 c2)
  | .f f cs, .f f2 cs2 => match Nat.beq f f2 with | true => sameVs cs cs2 | false => false
  | .fb f fs cs, .fb f2 fs2 cs2 => match Nat.beq f f2, sameVs fs fs2 with | true, true => sameVs cs cs2 | _, _ => false
  | .nf, .nf => true
  | .g l, .g m => sameVs l m
  | .t l, .t m => sameVs l m
  | .m0, .m0 => true
  | .m b, .m b2 => Nat.beq b b2
  | .n0, .n0 => true
  | .y i, .y j => Nat.beq i j
  | .o i, .o j => Nat.beq i j
  | .oi i k fs, .oi j k2 fs2 => match Nat.beq i j, kindEq k k2 with | true, true => fsSame fs fs2 | _, _ => false
  | .os i fs, .os j fs2 => match Nat.beq i j with | true => fsSame fs fs2 | false => false
  | .ol i fs, .ol j fs2 => match Nat.beq i j with | true => fsSame fs fs2 | false => false
  | .it t v, .it t2 v2 => match Nat.beq t t2 with | true => sameV v v2 | false => false
  | _, _ => false
def sameVs : List AV → List AV → Bool
  | [], [] => true
  | a :: r, b :: s => match sameV a b with | true => sameVs r s | false => false
  | _, _ => false
end
def ME.sames : List ME → List ME → Bool
  | [], [] => true
  | a :: r, b :: s => match sameV a.k b.k, sameV a.v b.v, Nat.beq a.born b.born with | true, true, true => ME.sames r s | _, _, _ => false
  | _, _ => false
def AB.same : AB → AB → Bool
  | .row c, .row d => sameVs c d
  | .own e s c, .own e2 s2 d => match Nat.beq e e2, Nat.beq s s2 with | true, true => sameVs c d | _, _ => false
  | .ro c, .ro d => sameVs c d
  | .dead, .dead => true
  | .df, .df => true
  | .map es k, .map es2 k2 => match Nat.beq k k2 with | true => ME.sames es es2 | false => false
  | .mit none a b c, .mit none a2 b2 c2 => match Nat.beq a a2, Nat.beq c c2 with | true, true => natsEq b b2 | _, _ => false
  | .mit (some m) a b c, .mit (some m2) a2 b2 c2 => match Nat.beq m m2, Nat.beq a a2, Nat.beq c c2 with | true, true, true => natsEq b b2 | _, _, _ => false
  | _, _ => false
def Tr.same {α : Type} (eq : α → α → Bool) : Tr α → Tr α → Bool
  | .e, .e => true
  | .n (some a) l r, .n (some b) l2 r2 => match eq a b, Tr.same eq l l2 with | true, true => Tr.same eq r r2 | _, _ => false
  | .n none l r, .n none l2 r2 => match Tr.same eq l l2 with | true => Tr.same eq r r2 | false => false
  | _, _ => false
mutual
def AV.fix : AV → Bool
  | .se => false
  | .fb _ _ _ => false
  | .ol _ _ => false
  | .f _ cs => AV.fixs cs
  | .g l => AV.fixs l
  | .t l => AV.fixs l
  | .it _ v => v.fix
  | _ => true
def AV.fixs : List AV → Bool
  | [] => true
  | a :: l => a.fix && AV.fixs l
end
def RI.ok : RI → Tr AB → Bool
  | .cells b o part, H => match atH H b o part.length with
    | some l => match sameVs l part with | true => AV.fixs part | false => false
    | none => false
  | .look b d k v, H => match H.get b, keyFits d k with
    | some (.map es _), true => match findA d k es 0, v with
      | some (some (_, u, _)), some v => match sameV u v with | true => v.fix | false => false
      | some none, none => true
      | _, _ => false
    | _, _ => false
def RI.oks : List RI → Tr AB → Bool
  | [], _ => true
  | x :: r, H => match x.ok H with | true => RI.oks r H | false => false
def oksAll (l : List RI) : List (Tr AB) → Bool
  | [] => true
  | H :: r => match RI.oks l H with | true => oksAll l r | false => false
def emptyA : AV → Bool
  | .sl0 => true
  | .se => true
  | .ez .. => true
  | _ => false
def evRead (P : Program) (st : ST) : Op → Option (AV × List RI)
  | .load t x => match av st.T x with
    | some (.p b o) => match tyB P t with
      | some (agg, size) => match atH st.H b o size with
        | some part => match partA agg part with
          | some v => some (v, [.cells b o part])
          | none => none
        | none => none
      | none => none
    | _ => none
  | .convert s d x => match av st.T x, P.underlying s, P.underlying d with
    | some (.sl b o _ n _), some (.slice el), some .string => match P.underlying el, atH st.H b o n with
      | some (.int .u8), some l => match bytesOf l with
        | some bs => some (.s bs, [.cells b o l])
        | none => none
      | _, _ => none
    | some v, some (.slice el), some .string => match P.underlying el, emptyA v with
      | some (.int .u8), true => some (.s [], [])
      | _, _ => none
    | _, _, _ => none
  | .lookup t x i ok => match mapB P t, av st.T x, av st.T i with
    | some (d, el), some (.m b), some k => match keyFits d k, st.H.get b with
      | true, some (.map es _) => match findA d k es 0 with
        | some (some (_, v, _)) => some (match ok with | true => .t [v, .b true] | false => v, [.look b d k (some v)])
        | some none => match zeroV P el with
          | some z => some (match ok with | true => .t [z, .b false] | false => z, [.look b d k none])
          | none => none
        | none => none
      | _, _ => none
    | _, _, _ => none
  | _ => none
abbrev CallA := Nat → List AV → ST → Option (AV × ST)
def YB : Nat := 1000000000
def evCalled (P : Program) (call : CallA) (st : ST) : Op → Option (AV × ST)
  | .call c => match c.callee with
    | .value x => match av st.T x, avs st.T c.args.toList with
      | some (.f g cs), some vs => match callB P g with
        | true => call g (vs ++ cs) st
        | false => none
      | some (.fb g fs cs), some vs => match callB P g with
        | true => call g (fs ++ (vs ++ cs)) st
        | false => none
      | some (.y l), some vs => call (Nat.add YB l) vs st
      | _, _ => none
    | _ => none
  | _ => none
def evOp (P : Program) (call : CallA) (n : Nat) (ops : Array Oper) (o : Oper) (st : ST) : Option ST :=
  match wantedA ops st.T o with
  | some false => st.put n o.dst (.t [])
  | some true => match evPure P st.T o.op with
    | some v => st.put n o.dst v
    | none => match evMem P st o.op with
      | some (v, st') => ST.put ⟨st.T, st'.H, st'.next, st.mks⟩ n o.dst v
      | none => match evCalled P call st o.op with
        | some (v, st') => ST.put ⟨st.T, st'.H, st'.next, st.mks⟩ n o.dst v
        | none => none
  | none => none
structure PR where
  st : ST
  rd : List RI
  sn : List (Tr AB)
  tr : List (Nat × Nat)
def begins (next i : Nat) : List (Nat × Nat) → Nat
  | [] => next
  | (j, m) :: r => match Nat.beq j i with | true => m | false => begins next i r
def evPlan (P : Program) (call : CallA) (n : Nat) (ops : Array Oper) : Plan → List (Nat × Nat) → ST → Option PR
  | .done, _, st => some ⟨st, [], [], []⟩
  | .pure i p, h, st => match ops[i]? with
    | some o => match wantedA ops st.T o with
      | some false => match st.put n o.dst (.t []) with
        | some st' => evPlan P call n ops p h st'
        | none => none
      | some true => match evPure P st.T o.op with
        | some v => match st.put n o.dst v with
          | some st' => evPlan P call n ops p h st'
          | none => none
        | none => none
      | none => none
    | none => none
  | .read i p, h, st => match ops[i]? with
    | some o => match wantedA ops st.T o with
      | some false => match st.put n o.dst (.t []) with
        | some st' => match evPlan P call n ops p h st' with
          | some r => some ⟨r.st, r.rd, st.H :: r.sn, r.tr⟩
          | none => none
        | none => none
      | some true => match evRead P st o.op with
        | some (v, x) => match st.put n o.dst v with
          | some st' => match evPlan P call n ops p h st' with
            | some r => some ⟨r.st, x ++ r.rd, st.H :: r.sn, r.tr⟩
            | none => none
          | none => none
        | none => none
      | none => none
    | none => none
  | .eff i p, h, st => match ops[i]? with
    | some o => match evOp P call n ops o ⟨st.T, st.H, begins st.next i h, st.mks⟩ with
      | some st' => match evPlan P call n ops p h st' with
        | some r => match lateIx ops i with
          | true => some ⟨r.st, r.rd, r.sn, (i, begins st.next i h) :: r.tr⟩
          | false => some ⟨r.st, r.rd, st'.H :: r.sn, (i, begins st.next i h) :: r.tr⟩
        | none => none
      | none => none
    | none => none
  | .alt p q, h, st => match evPlan P call n ops p h st with
    | some r1 => match evPlan P call n ops q (r1.tr ++ h) st with
      | some r2 => match Tr.same sameV r1.st.T r2.st.T, Tr.same AB.same r1.st.H r2.st.H with
        | true, true => some ⟨r1.st, r1.rd ++ r2.rd, r1.sn ++ r2.sn, r1.tr⟩
        | _, _ => none
      | none => none
    | none => none
def evOps (P : Program) (call : CallA) (n : Nat) (ops : Array Oper) : List Oper → ST → Option ST
  | [], st => some st
  | o :: r, st => match evOp P call n ops o st with
    | some st' => evOps P call n ops r st'
    | none => none
def evNexts (st : ST) (x : Option AV) : Option (List (AV × ST)) := match x with
  | some (.p b 0) => match st.H.get b with
    | some (.mit (some m) since seen last) => match st.H.get m with
      | some (.map es clock) => match oldE since (leftE seen es), newE since (leftE seen es) with
        | e1 :: e2 :: l, [] => match seen, oldE last es with
          | [], _ => some ((e1 :: e2 :: l).map fun e => (.t [.b true, e.k, e.v], st.upd b (.mit (some m) since (seen ++ [e.born]) clock)))
          | _ :: _, _ :: _ => some ((e1 :: e2 :: l).map fun e => (.t [.b true, e.k, e.v], st.upd b (.mit (some m) since (seen ++ [e.born]) clock)))
          | _, _ => none
        | _, _ => none
      | _ => none
    | _ => none
  | _ => none
def evEach {α β : Type} (f : α → Option (List β)) : List α → Option (List β)
  | [] => some []
  | a :: l => match f a with
    | some x => match evEach f l with
      | some y => some (x ++ y)
      | none => none
    | none => none
def evNextN (ops : Array Oper) (n : Nat) (o : Oper) (st : ST) : Option (List ST) := match wantedA ops st.T o, o.op with
  | some true, .next x false => match evNexts st (av st.T x) with
    | some l => evEach (fun z => match ST.put ⟨st.T, z.2.H, z.2.next, st.mks⟩ n o.dst z.1 with | some s => some [s] | none => none) l
    | none => none
  | _, _ => none
def evOpsN (P : Program) (call : CallA) (n : Nat) (ops : Array Oper) : List Oper → ST → Option (List ST)
  | [], st => some [st]
  | o :: r, st => match evOp P call n ops o st with
    | some st' => evOpsN P call n ops r st'
    | none => match evNextN ops n o st with
      | some l => evEach (fun s => evOpsN P call n ops r s) l
      | none => none
inductive Xt where
  | normal
  | exit (id : Nat)
  | ret
def argT : Nat → List AV → Tr AV → Tr AV
  | _, [], T => T
  | t, v :: r, T => argT (t + 1) r (T.put t v)
def resA (P : Program) (st : ST) : List ResultVar → Option (List AV)
  | [] => some []
  | .tmp t :: r => match st.T.get t, resA P st r with
    | some v, some l => some (v :: l)
    | _, _ => none
  | .cell p t :: r => match st.T.get p, tyB P t with
    | some (.p b o), some (agg, size) => match atH st.H b o size with
      | some part => match partA agg part, resA P st r with
        | some v, some l => some (v :: l)
        | _, _ => none
      | none => none
    | _, _ => none
def resV : List AV → AV
  | [v] => v
  | l => .t l
def qOp (P : Program) (e : Env) : Op → Option Value
  | .move x => ev e x
  | .assign x => ev e x
  | .extract x k => match ev e x with
    | some (.tuple l) => l.toList[k]?
    | _ => none
  | .typeAssert x _ t true => match ev e x, P.underlying t, P.info? t with
    | some .nilIface, some _, some i => match i.zero with
      | some z => some (.tuple #[z, .bool false])
      | none => none
    | _, _, _ => none
  | .call c => match c.callee with
    | .builtin .recover => some .nilIface
    | _ => none
  | _ => none
def qOps (P : Program) (n : Nat) : List Oper → Env → Option Env
  | [], e => some e
  | o :: r, e => match o.guard, qOp P e o.op, fits n o.dst with
    | none, some v, true => qOps P n r (e.put o.dst v)
    | _, _, _ => none
def qCode (P : Program) (n : Nat) : Code → Env → Option Env
  | .skip, e => some e
  | .region _ ops false, e => qOps P n ops.toList e
  | .seq a b, e => match qCode P n a e with
    | some e' => qCode P n b e'
    | none => none
  | .cond x a b, e => match ev e x with
    | some (.bool true) => qCode P n a e
    | some (.bool false) => qCode P n b e
    | _ => none
  | _, _ => none
def quietB (P : Program) (f m : Nat) : Bool := match P.funcs[f]? with
  | some fn => match fn.body, fn.results.toList, Nat.ble m fn.ntmps with
    | some c, [], true => match qCode P fn.ntmps c [] with | some _ => true | none => false
    | _, _, _ => false
  | none => false
def killM (P : Program) (H : Tr AB) : List MK → Option (Tr AB)
  | [] => some H
  | .d d :: l => match H.get d with
    | some .df => killM P (H.put d .dead) l
    | _ => none
  | .q f m :: l => match quietB P f m with
    | true => killM P H l
    | false => none
def evEnd (P : Program) (rs : List ResultVar) (z : Xt × ST) : Option (List (AV × ST)) := match z.1 with
  | .exit _ => none
  | _ => match killM P z.2.H z.2.mks with
    | some H => match resA P ⟨z.2.T, H, z.2.next, []⟩ rs with
      | some l => some [(resV l, ⟨.e, H, z.2.next, []⟩)]
      | none => none
    | none => none
def agreeA (H : Tr AB) (a : Nat) : List (AV × ST) → Bool
  | [] => true
  | z :: l => match H.get a, z.2.H.get a with
    | some x, some y => match AB.same x y with
      | true => agreeA H a l
      | false => false
    | none, none => agreeA H a l
    | _, _ => false
def diffL (H : Tr AB) (l : List (AV × ST)) : Nat → Nat → List Nat
  | 0, _ => []
  | k + 1, a => match agreeA H a l with
    | true => diffL H l k (a + 1)
    | false => a :: diffL H l k (a + 1)
def deadL : List Nat → Tr AB → Tr AB
  | [], H => H
  | a :: l, H => match H.get a with
    | some _ => deadL l (H.put a .dead)
    | none => deadL l H
def sameOut (v : AV) (H : Tr AB) (next : Nat) (D : List Nat) : List (AV × ST) → Bool
  | [] => true
  | z :: l => match sameV z.1 v, Nat.beq z.2.next next, Tr.same AB.same (deadL D z.2.H) H with
    | true, true, true => sameOut v H next D l
    | _, _, _ => false
def mergeOut (n0 : Nat) : List (AV × ST) → Option (AV × ST)
  | [] => none
  | [z] => some z
  | z :: l => match sameOut z.1 (deadL (diffL z.2.H l (z.2.next - n0) n0) z.2.H) z.2.next (diffL z.2.H l (z.2.next - n0) n0) l with
    | true => some (z.1, ⟨.e, deadL (diffL z.2.H l (z.2.next - n0) n0) z.2.H, z.2.next, []⟩)
    | false => none
def putPs (n : Nat) : Tr AV → List Nat → List AV → Option (Tr AV)
  | T, [], [] => some T
  | T, p :: ps, v :: vs => match Nat.blt p n with
    | true => putPs n (T.put p v) ps vs
    | false => none
  | _, _, _ => none
abbrev RunA := Bool → Nat → Nat → Code → ST → Option (List (Xt × ST))
def evCall (P : Program) (ext : CallA) (run : RunA) : CallA := fun (g : Nat) (args : List AV) (s : ST) => match ext g args s with
  | some z => some z
  | none => match P.funcs[g]? with
    | some fn => match fn.body, Nat.ble args.length fn.ntmps with
      | some c, true => match run false g fn.ntmps c ⟨argT 0 args .e, s.H, s.next, []⟩ with
        | some l => match evEach (evEnd P fn.results.toList) l with
          | some outs => mergeOut s.next outs
          | none => none
        | none => none
      | _, _ => none
    | none => none
def endRoundA (l : Nat) (z : Xt × ST) : Option (AV × ST) := match z.2.H.get l, z.2.mks with
  | some (.lp 1 none f n T ps asg body d), [] => match z.1 with
    | .normal => some (.b true, ⟨.e, z.2.H.put l (.lp 0 none f n T ps asg body d), z.2.next, []⟩)
    | .ret => some (.b false, ⟨.e, z.2.H.put l (.lp 2 (some none) f n T ps asg body d), z.2.next, []⟩)
    | .exit id => some (.b false, ⟨.e, z.2.H.put l (.lp 2 (some (some id)) f n T ps asg body d), z.2.next, []⟩)
  | _, _ => none
def evRound (run : RunA) : CallA := fun (l : Nat) (args : List AV) (s : ST) => match s.H.get l with
  | some (.lp 0 none f n T ps asg body d) => match putPs n T ps args with
    | some T1 => match run true f n asg ⟨T1, s.H, s.next, []⟩ with
      | some [(.normal, s1)] => match s1.H.get l, s1.mks with
        | some (.lp 0 none f' n' T' ps' asg' body' d'), [] => match run true f n body ⟨s1.T, s1.H.put l (.lp 1 none f' n' T' ps' asg' body' d'), s1.next, []⟩ with
          | some [z] => endRoundA l z
          | _ => none
        | _, _ => none
      | _ => none
    | none => none
  | _ => none
def evAny (P : Program) (ext : CallA) (run : RunA) : CallA := fun (g : Nat) (args : List AV) (s : ST) => match Nat.ble YB g with
  | true => evRound run (Nat.sub g YB) args s
  | false => evCall P ext run g args s
def evRangeF (call : CallA) (f n : Nat) (g : Option AV) (ps : List Nat) (asg body : Code) (P : Program) (st : ST) : Option (List (Xt × ST)) :=
  match g, st.H.get st.next, st.H.get (st.next + 1) with
  | some (.f h cs), none, none => match callB P h, call h (.y (st.next + 1) :: cs) ⟨.e, (st.H.put st.next .df).put (st.next + 1) (.lp 0 none f n st.T ps asg body st.next), st.next + 2, []⟩ with
    | true, some (_, s) => match s.H.get (st.next + 1) with
      | some (.lp 0 none ..) => some [(.normal, ⟨st.T, s.H.put (st.next + 1) .dead, s.next, .d st.next :: st.mks⟩)]
      | some (.lp 2 (some none) ..) => some [(.ret, ⟨st.T, s.H.put (st.next + 1) .dead, s.next, .d st.next :: st.mks⟩)]
      | some (.lp 2 (some (some id)) ..) => some [(.exit id, ⟨st.T, s.H.put (st.next + 1) .dead, s.next, .d st.next :: st.mks⟩)]
      | _ => none
    | _, _ => none
  | _, _, _ => none
def inBlockA (id : Nat) (z : Xt × ST) : Xt × ST := match z.1 with
  | .exit j => match Nat.beq j id with
    | true => (.normal, z.2)
    | false => z
  | _ => z
def evRegion (P : Program) (call : CallA) (n : Nat) (ops : Array Oper) (draw : Bool) (pl : Option Plan) (st : ST) : Option (List (Xt × ST)) := match draw with
  | true => match pl with
    | some pl => match evPlan P call n ops pl [] st with
      | some r => match r.rd with
        | [] => some [(.normal, r.st)]
        | _ :: _ => match oksAll r.rd (st.H :: r.sn) with
          | true => some [(.normal, r.st)]
          | false => none
      | none => none
    | none => none
  | false => match evOpsN P call n ops ops.toList st with
    | some l => some (l.map fun s => (.normal, s))
    | none => none
def deferOf (ops : Array Oper) : Option (Oper × Operand) := match ops.toList with
  | [o, ⟨none, .defer ⟨.value x, ⟨[]⟩, _⟩, _, _, _, none⟩] => some (o, x)
  | _ => none
def evDefer (P : Program) (n : Nat) (o : Oper) (x : Operand) (st : ST) : Option (List (Xt × ST)) := match o.guard, evPure P st.T o.op with
  | none, some v => match st.put n o.dst v with
    | some s => match av s.T x with
      | some (.f g cs) => match callB P g with
        | true => some [(.normal, ⟨s.T, s.H, s.next, .q g cs.length :: s.mks⟩)]
        | false => none
      | _ => none
    | none => none
  | _, _ => none
def evRun (P : Program) (plans : Nat → Nat → Option Plan) (ext : CallA) : Nat → RunA
  | 0, _, _, _, _, _ => none
  | k + 1, rd, f, n, c, st =>
    match c with
    | .skip => some [(.normal, st)]
    | .label _ => some [(.normal, st)]
    | .region id ops draw => match deferOf ops with
      | none => evRegion P (evAny P ext (evRun P plans ext k)) n ops draw (plans f id) st
      | some (o, x) => match draw, rd with
        | false, false => evDefer P n o x st
        | _, _ => none
    | .seq a b => match evRun P plans ext k rd f n a st with
      | some l => evEach (fun z => match z.1 with | .normal => evRun P plans ext k rd f n b z.2 | _ => some [z]) l
      | none => none
    | .cond x a b => match av st.T x with
      | some (.b true) => evRun P plans ext k rd f n a st
      | some (.b false) => evRun P plans ext k rd f n b st
      | _ => none
    | .block id a => match evRun P plans ext k rd f n a st with
      | some l => some (l.map (inBlockA id))
      | none => none
    | .scope a => evRun P plans ext k rd f n a st
    | .loop a => match evRun P plans ext k rd f n a st with
      | some l => evEach (fun z => match z.1 with | .normal => evRun P plans ext k rd f n (.loop a) z.2 | _ => some [z]) l
      | none => none
    | .exit id => some [(.exit id, st)]
    | .ret => some [(.ret, st)]
    | .rangeFunc g ps asg body => match rd with
      | false => evRangeF (evAny P ext (evRun P plans ext k)) f n (av st.T g) ps.toList asg body P st
      | true => none
    | _ => none
def evText (P : Program) (plans : Nat → Nat → Option Plan) (ext : CallA) (k : Nat) : CallA := evCall P ext (evRun P plans ext k)
def okR (ops : Array Oper) (pl : Plan) : Bool := match Region.noSelect ops with
  | true => covers .any ops ops.size (Array.replicate ops.size false) pl
  | false => false
def okC (plans : Nat → Nat → Option Plan) (f : Nat) : Code → Bool
  | .region id ops true => match plans f id with
    | some pl => okR ops pl
    | none => true
  | .seq a b => match okC plans f a with | true => okC plans f b | false => false
  | .cond _ a b => match okC plans f a with | true => okC plans f b | false => false
  | .block _ a => okC plans f a
  | .loop a => okC plans f a
  | .scope a => okC plans f a
  | .rangeFunc _ _ a b => match okC plans f a with | true => okC plans f b | false => false
  | _ => true
def okB (P : Program) (plans : Nat → Nat → Option Plan) (f : Nat) : Bool := match P.funcs[f]? with
  | some fn => match fn.body with
    | some c => okC plans f c
    | none => true
  | none => true
def assocP (id : Nat) : List (Nat × Plan) → Option Plan
  | [] => none
  | (j, p) :: r => match Nat.beq j id with | true => some p | false => assocP id r
def plansIn (t : Tr (List (Nat × Plan))) (f id : Nat) : Option Plan := match t.get f with
  | some l => assocP id l
  | none => none
def keysIn (t : Tr (List (Nat × Plan))) (l : List Nat) : Nat → Bool
  | 0 => true
  | k + 1 => match t.get k with
    | none => keysIn t l k
    | some _ => match memN k l with | true => keysIn t l k | false => false
end Go.Proofs.YtfoabgljfikklaaGreatDoor.V
