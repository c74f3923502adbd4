/- The abstract machine, part 1: types' facts, the state's relation, the operations that change no memory, and that the model's operations answer as they do. -/
import Derived.Test.YthmhobnhladhbaaDoorAm0
import Derived.Laws.Cells
import Derived.Laws.StructEq
namespace Go.Proofs.YthmhobnhladhbaaDoor.AM
open Go Go.RowKit

/-- What the evaluator knows of a type. -/
structure Ty where
  u : TypeDesc
  size : Nat
  bytes : Nat
  zero : Value
  eqok : Bool

structure TyOk (P : Program) (t : TypeId) (y : Ty) : Prop where
  und : P.underlying t = some y.u
  info : ∃ i, P.info? t = some i ∧ i.zero = some y.zero ∧ i.size = y.size ∧ i.bytes = y.bytes
  eq : y.eqok = true → P.stoodInHeld t = false ∧ P.eqGuardType P.depth t = false ∧ (match y.u with
    | .struct fs => fs.toList.all fun f => !(f.name == "_")
    | _ => true) = true

abbrev Tys := List (Option Ty)
def tyAt (L : Tys) (t : TypeId) : Option Ty := (L[t]?).getD none
def TysOk (P : Program) (L : Tys) : Prop := ∀ t y, tyAt L t = some y → TyOk P t y

def isAggU : TypeDesc → Bool
  | .struct _ => true
  | .array _ _ => true
  | _ => false
def isIfcU : TypeDesc → Bool
  | .interface _ => true
  | _ => false

/-- A constant of the text. -/
def cst : Value → AV
  | .agg a => .agg (a.toList.map .b)
  | .tuple a => .tup (a.toList.map .b)
  | v => .b v

def cellsOf : AV → List AV
  | .agg l => l
  | x => [x]

/-- One cell's worth? -/
def oneA : AV → Bool
  | .b v => v.oneCell'
  | .ifc _ _ => true
  | .fn _ _ => true
  | .snap _ _ _ => true
  | .sl _ _ => true
  | .ptr _ _ _ => true
  | .sptr _ => true
  | .sp _ _ => true
  | _ => false
def onesA : List AV → Bool
  | [] => true
  | x :: xs => oneA x && onesA xs

def bt (s : ByteArray) (i : Int) : Int := if h : i.toNat < s.size then ((s[i.toNat]'h).toNat : Int) else 0

def evA (fr : List AV) : Operand → AV
  | .tmp t => fr.getD t (.b undef)
  | .const v => cst v
  | .global g => .b (.pointer (some ⟨g, 0, none⟩))
  | .func f => .fn f []

/-- There is room for both strings in one. -/
def strFits (a b : ByteArray) : Bool := Nat.ble (a.size + b.size) 9223372036854775807
/-- There is room for so many elements of so many bytes. -/
def rowFits (n bytes : Nat) : Bool := Nat.ble (n * bytes) 140737488355328 && Nat.ble n 9223372036854775807
/-- A string out of bytes. -/
def strOf (n : Nat) (xs : Nat → Int) : ByteArray := ((List.range n).map xs).foldl (fun r c => r.push (UInt8.ofNat c.toNat)) ByteArray.empty

/-- Plain data, cell by cell. -/
def leaves : CTy → List CTy
  | .unit => []
  | .pair a b => leaves a ++ leaves b
  | .bool => [.bool]
  | .int k => [.int k]
  | .flt k => [.flt k]
  | .str => [.str]
  | .sl a => [.sl a]
/-- The nil slice is a slice of no elements. -/
def nrm1 : CTy → AV → AV
  | .sl t, .b (.slice none 0 0) => .snap t 0 (fun _ => zeroEl t)
  | _, x => x
def nrmL : List CTy → List AV → List AV
  | c :: cs, x :: xs => nrm1 c x :: nrmL cs xs
  | _, l => l
def nrmV (τ : CTy) : AV → AV
  | .agg l => .agg (nrmL (leaves τ) l)
  | x => nrm1 τ x
def castEl {σ τ : CTy} (h : σ = τ) (x : El σ) : El τ := h ▸ x
def dec1 : (τ : CTy) → AV → Option (El τ)
  | .bool, .b (.bool x) => some x
  | .int k, .b (.int k' x) => cnd (decide (k' = k)) (some x) none
  | .flt k, .b (.float k' x) => cnd (decide (k' = k)) (some x) none
  | .str, .b (.string s) => some s
  | .sl t, .snap σ n xs => if h : σ = t then some (⟨n, fun i => castEl h (xs i)⟩ : Sq (El t)) else none
  | _, _ => none
def decC : (τ : CTy) → List AV → Option (El τ)
  | .unit, [] => some ()
  | .pair a b, l => match decC a (l.take a.size), decC b (l.drop a.size) with
    | some x, some y => some (x, y)
    | _, _ => none
  | .bool, [x] => dec1 .bool x
  | .int k, [x] => dec1 (.int k) x
  | .flt k, [x] => dec1 (.flt k) x
  | .str, [x] => dec1 .str x
  | .sl a, [x] => dec1 (.sl a) x
  | _, _ => none
def encV : (τ : CTy) → El τ → AV
  | .unit, x => .agg (cel .unit x)
  | .pair a b, x => .agg (cel (.pair a b) x)
  | .bool, x => .b (.bool x)
  | .int k, x => .b (.int k x)
  | .flt k, x => .b (.float k x)
  | .str, x => .b (.string x)
  | .sl a, x => .snap a x.n x.at'
def decV : (τ : CTy) → AV → Option (El τ)
  | .unit, .agg l => decC .unit l
  | .pair a b, .agg l => decC (.pair a b) l
  | .bool, x => dec1 .bool x
  | .int k, x => dec1 (.int k) x
  | .flt k, x => dec1 (.flt k) x
  | .str, x => dec1 .str x
  | .sl a, x => dec1 (.sl a) x
  | _, _ => none
def decAll (τ : CTy) : List (List AV) → Option (List (El τ))
  | [] => some []
  | l :: ls => match decC τ l, decAll τ ls with
    | some x, some xs => some (x :: xs)
    | _, _ => none
def fldsTy (f : TypeId → Option CTy) : List Field → Option CTy
  | [] => some .unit
  | x :: xs => match f x.type, fldsTy f xs with
    | some a, some b => some (.pair a b)
    | _, _ => none
def repTy (a : CTy) : Nat → CTy
  | 0 => .unit
  | n + 1 => .pair a (repTy a n)
def ctyOf (L : Tys) : Nat → TypeId → Option CTy
  | 0, _ => none
  | n + 1, t => match tyAt L t with
    | some y => match y.u with
      | .bool => some .bool
      | .int k => some (.int k)
      | .float k => some (.flt k)
      | .string => some .str
      | .slice e => (ctyOf L n e).map .sl
      | .struct fs => fldsTy (ctyOf L n) fs.toList
      | .array m e => (ctyOf L n e).map fun a => repTy a m
      | _ => none
    | none => none

section ops
variable {R : Type}
def partA (y : Ty) (l : List AV) (off : Nat) (k : AV → Option R) : Option R :=
  cnd (isAggU y.u) (cnd (Nat.ble (off + y.size) l.length) (k (.agg ((l.drop off).take y.size))) none)
    (cnd (Nat.blt off l.length) (k (l.getD off .top)) none)

/-- Are two values of data the same? -/
def eqFs (L : Tys) (g : TypeId → AV → AV → Option Bool) (xs ys : List AV) : List Field → Option Bool
  | [] => some true
  | f :: fs => match tyAt L f.type with
    | some yf => match partA yf xs f.offset some, partA yf ys f.offset some with
      | some a, some b => match g f.type a b, eqFs L g xs ys fs with
        | some r, some s => some (r && s)
        | _, _ => none
      | _, _ => none
    | none => none
def eqV (L : Tys) : Nat → TypeId → AV → AV → Option Bool
  | 0, _, _, _ => none
  | d + 1, t, x, y => match tyAt L t with
    | some ty => match ty.u, x, y with
      | .bool, .b (.bool a), .b (.bool b) => some (a == b)
      | .int _, .b (.int ka a), .b (.int kb b) => cnd (decide (ka = kb)) (some (a == b)) none
      | .string, .b (.string a), .b (.string b) => some (a.toList == b.toList)
      | .struct fs, .agg xs, .agg ys => cnd ty.eqok (eqFs L (eqV L d) xs ys fs.toList) none
      | _, _, _ => none
    | none => none

def intA (op : BinOp) (ka kb : IntKind) (a b : Int) (k : AV → Option R) : Option R :=
  match op with
  | .shl => if b < 0 then none else k (.b (.int ka (ka.wrap (a * 2 ^ (min b.toNat ka.bits)))))
  | .shr => if b < 0 then none else k (.b (.int ka (a.fdiv (2 ^ (min b.toNat ka.bits)))))
  | _ => cnd (decide (ka = kb)) (match op with
    | .add => k (.b (.int ka (ka.wrap (a + b))))
    | .sub => k (.b (.int ka (ka.wrap (a - b))))
    | .mul => k (.b (.int ka (ka.wrap (a * b))))
    | .quo => if b = 0 then none else k (.b (.int ka (ka.wrap (a.tdiv b))))
    | .rem => if b = 0 then none else k (.b (.int ka (a.tmod b)))
    | .and => k (.b (.int ka (bits .and ka a b)))
    | .or => k (.b (.int ka (bits .or ka a b)))
    | .xor => k (.b (.int ka (bits .xor ka a b)))
    | .andNot => k (.b (.int ka (bits .andNot ka a b)))
    | .eql => k (.b (.bool (a == b)))
    | .neq => k (.b (.bool (a != b)))
    | .lss => k (.b (.bool (decide (a < b))))
    | .leq => k (.b (.bool (decide (a ≤ b))))
    | .gtr => k (.b (.bool (decide (a > b))))
    | .geq => k (.b (.bool (decide (a ≥ b))))
    | _ => none) none

def strA (op : BinOp) (a b : ByteArray) (k : AV → Option R) : Option R :=
  match op with
  | .add => if strFits a b = true then k (.b (.string (a ++ b))) else none
  | .eql => k (.b (.bool (a.toList == b.toList)))
  | .neq => k (.b (.bool (!(a.toList == b.toList))))
  | .lss => k (.b (.bool (Op.bytesLess a.toList b.toList)))
  | .leq => k (.b (.bool (Op.bytesLess a.toList b.toList || a.toList == b.toList)))
  | .gtr => k (.b (.bool (!(Op.bytesLess a.toList b.toList || a.toList == b.toList))))
  | .geq => k (.b (.bool (!(Op.bytesLess a.toList b.toList))))
  | _ => none

def fltA (op : BinOp) (ka kb : FloatKind) (x y : Nat) (k : AV → Option R) : Option R :=
  cnd (decide (ka = kb)) (match op with
  | .eql => k (.b (.bool (ka.format.order x y == some .eq)))
  | .neq => k (.b (.bool (ka.format.order x y != some .eq)))
  | .lss => k (.b (.bool (ka.format.order x y == some .lt)))
  | .leq => k (.b (.bool (ka.format.order x y == some .lt || ka.format.order x y == some .eq)))
  | .gtr => k (.b (.bool (ka.format.order x y == some .gt)))
  | .geq => k (.b (.bool (ka.format.order x y == some .gt || ka.format.order x y == some .eq)))
  | _ => none) none

def boolA (op : BinOp) (u : TypeDesc) (a b : Bool) (k : AV → Option R) : Option R :=
  match u with
  | .bool => match op with
    | .eql => k (.b (.bool (a == b)))
    | .neq => k (.b (.bool (!(a == b))))
    | _ => none
  | _ => none

/-- A slice expression's bounds. -/
def bndA (n : Nat) (lo hi : Option AV) (k : Int → Int → Option R) : Option R :=
  match lo, hi with
  | none, none => k 0 n
  | none, some (.b (.int _ h)) => if 0 ≤ h ∧ h ≤ (n : Int) then k 0 h else none
  | some (.b (.int _ l)), none => if 0 ≤ l ∧ l ≤ (n : Int) then k l n else none
  | some (.b (.int _ l)), some (.b (.int _ h)) => if 0 ≤ h ∧ h ≤ (n : Int) then (if 0 ≤ l ∧ l ≤ h then k l h else none) else none
  | _, _ => none

def flatC : CTy → Bool
  | .pair _ _ => false
  | .unit => false
  | _ => true
def eqA (op : BinOp) (b : Bool) (k : AV → Option R) : Option R := match op with
  | .eql => k (.b (.bool b))
  | .neq => k (.b (.bool (!b)))
  | _ => none
def isPtrT (L : Tys) (t : TypeId) : Bool := match tyAt L t with
  | some y => match y.u with
    | .pointer e => (tyAt L e).isSome
    | _ => false
  | none => false
def isIfcT (L : Tys) (t : TypeId) : Bool := match tyAt L t with
  | some y => isIfcU y.u
  | none => false
def isC : Operand → Bool
  | .const _ => true
  | _ => false

def opP (L : Tys) (H : AHeap) (ev : Operand → AV) (o : Op) (k : AV → Option R) : Option R :=
  match o with
  | .move x => k (ev x)
  | .assign x => k (ev x)
  | .pick c a b => match ev c with
    | .b (.bool c) => if c = true then k (ev a) else k (ev b)
    | _ => none
  | .load t a => match tyAt L t with
    | some y => match ev a with
      | .ptr r i j => match H[r]? with
        | some (some W) => partA y (W.els i) j k
        | _ => none
      | .sptr l => partA y l 0 k
      | _ => none
    | none => none
  | .nilCheck x => match ev x with
    | .ptr r i j => k (.ptr r i j)
    | .sptr l => k (.sptr l)
    | _ => none
  | .binOp op t x y _ => match ev x, ev y with
    | .b (.int ka a), .b (.int kb b) => intA op ka kb a b k
    | .b (.string a), .b (.string b) => strA op a b k
    | .b (.bool a), .b (.bool b) => match tyAt L t with
      | some ty => boolA op ty.u a b k
      | none => none
    | .b (.float ka a), .b (.float kb b) => fltA op ka kb a b k
    | .agg xs, .agg ys => match eqV L 100 t (.agg xs) (.agg ys) with
      | some b => match op with
        | .eql => k (.b (.bool b))
        | .neq => k (.b (.bool (!b)))
        | _ => none
      | none => none
    | .ptr r i j, .ptr r' i' j' => cnd (isPtrT L t && (Nat.beq r r' && Nat.beq i i' && Nat.beq j j')) (eqA op true k) none
    | .ptr _ _ _, .b (.pointer none) => cnd (isPtrT L t) (eqA op false k) none
    | .b (.pointer none), .ptr _ _ _ => cnd (isPtrT L t) (eqA op false k) none
    | .b (.pointer none), .b (.pointer none) => cnd (isPtrT L t) (eqA op true k) none
    | .ifc _ _, .b .nilIface => cnd (isIfcT L t) (eqA op false k) none
    | .b .nilIface, .ifc _ _ => cnd (isIfcT L t) (eqA op false k) none
    | .b .nilIface, .b .nilIface => cnd (isIfcT L t && (isC x || isC y)) (eqA op true k) none
    | _, _ => none
  | .unOp op _ x => match op, ev x with
    | .not, .b (.bool a) => k (.b (.bool (!a)))
    | .neg, .b (.int ka a) => k (.b (.int ka (ka.wrap (0 - a))))
    | _, _ => none
  | .convert s d x => match tyAt L s, tyAt L d, ev x with
    | some _, some yd, .b (.int _ n) => match yd.u with
      | .int kd => k (.b (.int kd (kd.wrap n)))
      | _ => none
    | some _, some yd, .b (.string a) => match yd.u with
      | .string => k (.b (.string a))
      | _ => none
    | some y, some yd, .snap (.int .u8) n xs => match y.u, yd.u with
      | .slice e, .string => match tyAt L e with
        | some ye => match ye.u with
          | .int .u8 => k (.b (.string (strOf n xs)))
          | _ => none
        | none => none
      | _, _ => none
    | some y, some yd, .sl r n => match y.u, yd.u with
      | .slice e, .string => match tyAt L e with
        | some ye => match ye.u with
          | .int .u8 => match H[r]? with
            | some (some ⟨_, 1, _, .typ (.int .u8) xs, _, true, _, _⟩) => k (.b (.string (strOf n xs)))
            | _ => none
          | _ => none
        | none => none
      | _, _ => none
    | some y, some yd, .ptr r i j => match y.u, yd.u, H[r]? with
      | .pointer t, .unsafePointer, some (some _) => match tyAt L t with
        | some yt => cnd (Nat.blt 0 yt.size) (k (.ptr r i j)) none
        | none => none
      | .unsafePointer, .pointer u, some (some W) => match tyAt L u with
        | some yu => cnd (Nat.beq W.t u && Nat.beq i 0 && Nat.beq j 0 && Nat.beq W.k yu.size) (k (.ptr r i j)) none
        | none => none
      | _, _, _ => none
    | _, _, _ => none
  | .makeInterface t x => match tyAt L t with
    | some y => cnd (isIfcU y.u) none (k (.ifc t (ev x)))
    | none => none
  | .makeFunc (.func f) first c => cnd first.isEmpty (k (.fn f (c.toList.map ev))) none
  | .slice t x lo hi none => match tyAt L t, ev x with
    | some y, .b (.string s) => match y.u with
      | .string => bndA s.size (lo.map ev) (hi.map ev) fun l h => k (.b (.string (s.extract l.toNat h.toNat)))
      | _ => none
    | some y, .snap τ n xs => match y.u with
      | .slice e => match tyAt L e with
        | some ye => cnd (Nat.beq ye.size τ.size && Nat.blt 0 τ.size) (bndA n (lo.map ev) (hi.map ev) fun l h => k (.snap τ (h.toNat - l.toNat) (fun i => xs (l.toNat + i)))) none
        | none => none
      | _ => none
    | _, _ => none
  | .fieldAddr s x f => match tyAt L s with
    | some y => match y.u with
      | .struct fs => match fs[f]? with
        | some fd => match tyAt L fd.type with
          | some yf => cnd (Nat.blt 0 yf.size) (match ev x with
            | .ptr r i j => match H[r]? with
              | some (some W) => cnd (Nat.blt (j + fd.offset) W.k) (k (.ptr r i (j + fd.offset))) none
              | _ => none
            | .sptr l => k (.sptr (l.drop fd.offset))
            | _ => none) none
          | none => none
        | none => none
      | _ => none
    | none => none
  | .field t x f => match tyAt L t with
    | some y => match y.u with
      | .struct fs => match fs[f]? with
        | some fd => match tyAt L fd.type, ev x with
          | some yf, .agg l => partA yf l fd.offset k
          | _, _ => none
        | none => none
      | _ => none
    | none => none
  | .indexAddr t x ix => match tyAt L t, ev ix with
    | some y, .b (.int _ i) => match y.u with
      | .slice e => match tyAt L e with
        | some ye => match ev x with
          | .sl r n => match H[r]? with
            | some (some W) => cnd (Nat.beq ye.size W.k && Nat.blt 0 W.k) (if 0 ≤ i ∧ i < (n : Int) then k (.ptr r i.toNat 0) else none) none
            | _ => none
          | .snap τ n xs => cnd (Nat.beq ye.size τ.size) (if 0 ≤ i ∧ i < (n : Int) then k (.sptr (cel τ (xs i.toNat))) else none) none
          | _ => none
        | none => none
      | .array n e => match tyAt L e with
        | some ye => match ev x with
          | .ptr r q j => match H[r]? with
            | some (some W) => cnd (Nat.ble (j + n * ye.size) W.k && Nat.blt 0 ye.size) (if 0 ≤ i ∧ i < (n : Int) then k (.ptr r q (j + i.toNat * ye.size)) else none) none
            | _ => none
          | .sptr l => if 0 ≤ i ∧ i < (n : Int) then k (.sptr (l.drop (i.toNat * ye.size))) else none
          | _ => none
        | none => none
      | _ => none
    | _, _ => none
  | .index t x ix => match tyAt L t, ev x, ev ix with
    | some y, .b (.string s), .b (.int _ i) => match y.u with
      | .string => if 0 ≤ i ∧ i < (s.size : Int) then k (.b (.int .u8 (bt s i))) else none
      | _ => none
    | some y, .agg l, .b (.int _ i) => match y.u with
      | .array n e => match tyAt L e with
        | some ye => cnd (Nat.beq l.length (n * ye.size) && Nat.blt 0 ye.size) (if 0 ≤ i ∧ i < (n : Int) then
            cnd (isAggU ye.u) (k (.agg ((l.drop (i.toNat * ye.size)).take ye.size))) (cnd (Nat.beq ye.size 1) (match ctyOf L 8 e with
              | some τ => cnd (flatC τ) (match decAll τ (l.map fun x => [x]) with
                | some ys => k (encV τ (ys.getD i.toNat (zeroEl τ)))
                | none => k (l.getD i.toNat .top)) (k (l.getD i.toNat .top))
              | none => k (l.getD i.toNat .top)) none) else none) none
        | none => none
      | _ => none
    | _, _, _ => none
  | .extract x i => match ev x with
    | .tup l => match l[i]? with
      | some v => k v
      | none => none
    | _ => none
  | .typeAssert x _ t ok => match tyAt L t, ev x with
    | some y, .ifc u v => cnd (isIfcU y.u) none (cnd (Nat.beq u t) (k (cnd ok (.tup [v, .b (.bool true)]) v)) (cnd ok (k (.tup [cst y.zero, .b (.bool false)])) none))
    | some y, .b .nilIface => cnd (isIfcU y.u) none (cnd ok (k (.tup [cst y.zero, .b (.bool false)])) none)
    | _, _ => none
  | .call c => match c.callee with
    | .builtin .len => match (c.argTypes[0]?).bind (tyAt L), c.args[0]?.map ev with
      | some y, some (.b (.string s)) => match y.u with
        | .string => k (.b (.int .i64 (s.size : Int)))
        | _ => none
      | some y, some (.snap _ n _) => match y.u with
        | .slice _ => k (.b (.int .i64 (n : Int)))
        | _ => none
      | some y, some (.sl _ n) => match y.u with
        | .slice _ => k (.b (.int .i64 (n : Int)))
        | _ => none
      | some y, some (.b (.slice none n _)) => match y.u with
        | .slice _ => k (.b (.int .i64 (n : Int)))
        | _ => none
      | _, _ => none
    | .builtin .min => match c.args.toList.map ev with
      | [.b (.int ka a), .b (.int _ b)] => k (.b (.int ka (if b < a then b else a)))
      | _ => none
    | .builtin .max => match c.args.toList.map ev with
      | [.b (.int ka a), .b (.int _ b)] => k (.b (.int ka (if b > a then b else a)))
      | _ => none
    | _ => none
  | _ => none
end ops
end Go.Proofs.YthmhobnhladhbaaDoor.AM
