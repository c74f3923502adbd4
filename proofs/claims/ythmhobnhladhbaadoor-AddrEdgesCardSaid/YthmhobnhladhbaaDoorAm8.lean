/- The abstract machine, part 8: the evaluator: operations that make or write memory, calls, control. -/
import Derived.Test.YthmhobnhladhbaaDoorAm7
import Derived.Test.YthmhobnhladhbaaDoorAmW
namespace Go.Proofs.YthmhobnhladhbaaDoor.AM
open Go Go.RowKit

/-- How a value stands as one value: a struct, or one cell's worth. -/
def okA : AV → Bool
  | .agg l => onesA l
  | x => oneA x
def pureA (x : AV) : Bool := rf (fun _ => false) x
def puresA (l : List AV) : Bool := rfs (fun _ => false) l
/-- Told whole by its abstract value. -/
def flatA : AV → Bool
  | .b _ => true
  | .ifc _ (.agg l) => l.all fun x => match x with
    | .b _ => true
    | _ => false
  | .agg l => l.all fun x => match x with
    | .b _ => true
    | _ => false
  | .tup l => l.all fun x => match x with
    | .b _ => true
    | _ => false
  | _ => false

/-- A value of a type: nil slices of data are data. -/
def nrmT (L : Tys) (t : TypeId) (x : AV) : AV := match ctyOf L 8 t with
  | some τ => nrmV τ x
  | none => x

def zeroCells (y : Ty) : List AV := cellsOf (cst y.zero)
def putA (l : List AV) (j : Nat) (xs : List AV) : List AV := l.take j ++ xs ++ l.drop (j + xs.length)
def stEx (W : Row) (i j : Nat) (xs : List AV) : Els := cnd W.box (.box (putA (W.els i) j xs)) (match W.ex with
  | .typ τ ys => match decC τ (putA (cel τ (ys i)) j xs) with
    | some y => .typ τ fun q => if q = i ∧ q < W.n then y else ys q
    | none => .raw fun q => if q = i ∧ q < W.n then putA (W.els i) j xs else W.els q
  | _ => .raw fun q => if q = i ∧ q < W.n then putA (W.els i) j xs else W.els q)
def storeRow (W : Row) (i j : Nat) (xs : List AV) : Row :=
  { W with ex := stEx W i j xs, pf := W.pf && puresA xs }
def zeroEx (L : Tys) (e : TypeId) (ye : Ty) : Els := match ctyOf L 8 e with
  | some τ => .typ τ fun _ => zeroEl τ
  | none => .raw fun _ => zeroCells ye
def makeEx (L : Tys) (e : TypeId) (ye : Ty) : Els := match ctyOf L 8 e with
  | some τ => match decC τ (nrmL (leaves τ) (zeroCells ye)) with
    | some z => .typ τ fun _ => z
    | none => .raw fun _ => zeroCells ye
  | none => .raw fun _ => zeroCells ye
def byteEx (a : ByteArray) : Els := .typ (.int .u8) fun q => bt a q
def listEx (L : Tys) (e : TypeId) (ye : Ty) (els : List (List AV)) : Els := match ctyOf L 8 e with
  | some τ => match decAll τ els with
    | some ys => .typ τ fun q => ys.getD q (zeroEl τ)
    | none => .raw fun q => els.getD q (zeroCells ye)
  | none => .raw fun q => els.getD q (zeroCells ye)
def setA (fr : List AV) (d : Option Tmp) (v : AV) : List AV := match d with
  | some d => fr.set d v
  | none => fr

/-- Cells of a struct or an array, its parts laid in. -/
def fillA (place : Nat → Option (Nat × Nat)) (cells : List AV) : List (Nat × AV) → Option (List AV)
  | [] => some cells
  | (i, x) :: rest => match place i with
    | some (off, size) => cnd (Nat.beq (cellsOf x).length size && okA x && Nat.ble (off + size) cells.length) (fillA place (putA cells off (cellsOf x)) rest) none
    | none => none
def fillS (size : Nat) (els : List (List AV)) : List (Nat × AV) → Option (List (List AV))
  | [] => some els
  | (i, x) :: rest => cnd (Nat.beq (cellsOf x).length size && okA x && Nat.blt i els.length) (fillS size (els.set i (cellsOf x)) rest) none

def view (H : AHeap) : AV → AV
  | .sl r n => match H[r]? with
    | some (some W) => match W.ex with
      | .typ τ xs => cnd (W.pf && Nat.beq W.k τ.size) (.snap τ n xs) (.sl r n)
      | _ => .sl r n
    | _ => .sl r n
  | x => x
def viewT (H : AHeap) : AV → AV
  | .agg l => .agg (l.map (view H))
  | .tup l => .tup (l.map (view H))
  | x => view H x

/-- All field types of a struct are known. -/
def fieldsOk (L : Tys) (fs : Array Field) : Bool := fs.toList.all fun f => (tyAt L f.type).isSome

/-- A pointer's type, to this. -/
def isPtrTo (L : Tys) (t e : TypeId) : Bool := match tyAt L t with
  | some y => match y.u with
    | .pointer e' => Nat.beq e' e && (match tyAt L e with
      | some ye => Nat.beq ye.size 1
      | none => false)
    | _ => false
  | none => false

section
variable {R : Type}
/-- What a callee answers that is handed live memory: is it a panic?, its arguments behind the call, its answer, its rows. -/
structure OutS where
  pan : Bool
  ga : List AV
  v : AV
  H : AHeap
/-- A function without a body: of plain values; or it answers its argument. -/
inductive XFun where
  | flat (g : List Value → Option Value)
  | ident
/-- What callees answer: pure ones (they take plain values and make new ones), and others. -/
structure Callees (R : Type) where
  isP : FuncId → Bool
  pc : FuncId → List AV → (AV → Option R) → (AV → Option R) → Option R
  cs : FuncId → List AV → AHeap → Option ((OutS → Option R) → Option R)
  xc : FuncId → Option XFun
/-- Plain values alone. -/
def flatsA : List AV → Option (List Value)
  | [] => some []
  | .b v :: xs => match flatsA xs with
    | some vs => some (v :: vs)
    | none => none
  | _ => none
/-- A function without a body. -/
def extA (Γ : Callees R) (f : FuncId) (args : List AV) (k : AV → Option R) : Option R := match Γ.xc f with
  | some (.flat g) => match flatsA args with
    | some vs => match g vs with
      | some v => k (.b v)
      | none => none
    | none => none
  | some .ident => match args with
    | [x] => k x
    | _ => none
  | none => none

mutual
/-- A value whose references are renamed. -/
def ren (ν : Nat → Option Nat) : AV → AV
  | .agg l => .agg (rens ν l)
  | .tup l => .tup (rens ν l)
  | .fn f l => .fn f (rens ν l)
  | .ifc t x => .ifc t (ren ν x)
  | .sl r n => match ν r with
    | some q => .sl q n
    | none => .top
  | .ptr r i j => match ν r with
    | some q => .ptr q i j
    | none => .top
  | .sp r n => match ν r with
    | some q => .sp q n
    | none => .top
  | .b v => .b v
  | .snap τ n e => .snap τ n e
  | .sptr l => .sptr l
  | .top => .top
def rens (ν : Nat → Option Nat) : List AV → List AV
  | [] => []
  | x :: xs => ren ν x :: rens ν xs
end
def renEx (ν : Nat → Option Nat) : Els → Els
  | .box l => .box (rens ν l)
  | e => .raw fun i => rens ν (e.at' i)
def renRow (ν : Nat → Option Nat) (W : Row) : Row := { W with ex := cnd W.pf W.ex (renEx ν W.ex) }
mutual
/-- The rows that a value names, in order. -/
def refsA : AV → List Nat
  | .agg l => refsL l
  | .tup l => refsL l
  | .fn _ l => refsL l
  | .ifc _ x => refsA x
  | .sl r _ => [r]
  | .ptr r _ _ => [r]
  | .sp r _ => [r]
  | _ => []
def refsL : List AV → List Nat
  | [] => []
  | x :: xs => refsA x ++ refsL xs
end
def memN (r : Nat) : List Nat → Bool
  | [] => false
  | x :: xs => cnd (Nat.beq x r) true (memN r xs)
def addAll : List Nat → List Nat → List Nat
  | o, [] => o
  | o, r :: rs => cnd (memN r o) (addAll o rs) (addAll (o ++ [r]) rs)
def rowRefs (H : AHeap) (r : Nat) : List Nat := match H[r]? with
  | some (some W) => match W.ex with
    | .box l => refsL l
    | _ => []
  | _ => []
def reach (H : AHeap) : Nat → Nat → List Nat → List Nat
  | 0, _, o => o
  | f + 1, p, o => match o[p]? with
    | some r => reach H f (p + 1) (addAll o (rowRefs H r))
    | none => o
/-- The rows that values reach, in the order in which they come up. -/
def order (l : List AV) (H : AHeap) : List Nat := reach H H.length 0 (addAll [] (refsL l))
def posN : List Nat → Nat → Option Nat
  | [], _ => none
  | x :: xs, r => cnd (Nat.beq x r) (some 0) (match posN xs r with
    | some q => some (q + 1)
    | none => none)
def rowAtH (H : AHeap) (r : Nat) : Option Row := match H[r]? with
  | some o => o
  | none => none
/-- The rows of a list alone, in its order. -/
def subH (o : List Nat) (H : AHeap) : AHeap := o.map fun r => (rowAtH H r).map (renRow (posN o))
/-- Boxes that stay: pairs of the row ahead of a call and behind it. -/
def okPair (H H' : AHeap) (r q : Nat) : Bool := match rowAtH H r, rowAtH H' q with
  | some W, some W' => W.box && W'.box && Nat.beq W.k W'.k && Nat.beq W.t W'.t && Nat.blt 0 W.k
  | _, _ => false
def freeP (ps : List (Nat × Nat)) (r q : Nat) : Bool := match ps with
  | [] => true
  | (a, b) :: ps => !(Nat.beq a r) && !(Nat.beq b q) && freeP ps r q
def pairsA (H H' : AHeap) : List (Nat × Nat) → List AV → List AV → List (Nat × Nat)
  | ps, .ptr r i j :: as, .ptr q i' j' :: bs => cnd (Nat.beq i i' && Nat.beq j j' && okPair H H' r q && freeP ps r q) (pairsA H H' (ps ++ [(r, q)]) as bs) (pairsA H H' ps as bs)
  | ps, _ :: as, _ :: bs => pairsA H H' ps as bs
  | ps, _, _ => ps
def toQ : List (Nat × Nat) → Nat → Option Nat
  | [], _ => none
  | (a, b) :: ps, r => cnd (Nat.beq a r) (some b) (toQ ps r)
def toR : List (Nat × Nat) → Nat → Option Nat
  | [], _ => none
  | (a, b) :: ps, q => cnd (Nat.beq b q) (some a) (toR ps q)
def mapI {α β : Type} (f : Nat → α → β) : Nat → List α → List β
  | _, [] => []
  | i, x :: xs => f i x :: mapI f (i + 1) xs
def backN (ps : List (Nat × Nat)) (n : Nat) (q : Nat) : Option Nat := match toR ps q with
  | some r => some r
  | none => some (n + q)
def keepD (o : List Nat) (ps : List (Nat × Nat)) (r : Nat) : Bool := cnd (memN r o) (toQ ps r).isSome true
def keepN (o : List Nat) (ps : List (Nat × Nat)) (r : Nat) : Option Nat := cnd (keepD o ps r) (some r) none
/-- The heap behind a call. -/
def backH (H H' : AHeap) (o : List Nat) (ps : List (Nat × Nat)) : AHeap :=
  mapI (fun r W => match toQ ps r with
    | some q => (rowAtH H' q).map (renRow (backN ps H.length))
    | none => cnd (memN r o) none (W.map (renRow (keepN o ps)))) 0 H ++
  mapI (fun q W => match toR ps q with
    | some _ => none
    | none => W.map (renRow (backN ps H.length))) 0 H'
def csB (H : AHeap) (o : List Nat) (out : OutS) (ps : List (Nat × Nat)) (k pn : AV → AHeap → Option (Nat → Bool) → Option R) : Option R :=
  cnd out.pan (pn (ren (backN ps H.length) out.v) (backH H out.H o ps) (some (keepD o ps))) (k (ren (backN ps H.length) out.v) (backH H out.H o ps) (some (keepD o ps)))

/-- A row with n2 elements more. -/
def apEx (r : Nat) (W : Row) (n n2 : Nat) (e2 : Els) (p2 : Bool) : Els := match cnd (W.pf && p2) (match W.ex, e2 with
    | .typ τ xs, .typ σ ys => if h : σ = τ then some (Els.typ τ fun q => if q < n then xs q else castEl h (ys (q - n))) else none
    | _, _ => none) none with
  | some e => e
  | none => .raw fun q => if q < n then (kdRow (fun q => !(Nat.beq q r)) W).els q else if q < n + n2 then (cnd p2 (e2.at' (q - n)) (kds (fun q => !(Nat.beq q r)) (e2.at' (q - n)))) else []
def newRowA (r : Nat) (W : Row) (n n2 : Nat) (e2 : Els) (p2 : Bool) : Row :=
  { W with n := n + n2, ex := apEx r W n n2 e2 p2, pf := W.pf && p2 }
/-- A row that is not there yet. -/
def nilRow (L : Tys) (e : TypeId) (ye : Ty) : Row := ⟨e, ye.size, 0, zeroEx L e ye, true, true, false, false⟩
/-- append of n2 elements to a row. -/
def appendA (H : AHeap) (r : Nat) (W : Row) (ye : Ty) (n n2 : Nat) (e2 : Els) (p2 : Bool) (k : AV → AHeap → Option (Nat → Bool) → Option R) : Option R :=
  cnd (Nat.beq ye.size W.k && Nat.blt 0 W.k && !W.cv && !W.box) (if rowFits (n + n2) ye.bytes = true then
    k (.sl r (n + n2)) ((kdHeap (fun q => !(Nat.beq q r)) H).set r (some (newRowA r W n n2 e2 p2))) (some (fun q => !(Nat.beq q r))) else none) none

def callA (Γ : Callees R) (H : AHeap) (f : AV) (args : List AV) (k : AV → AHeap → Option (Nat → Bool) → Option R) (pn : AV → AHeap → Option (Nat → Bool) → Option R) : Option R :=
  match f with
  | .fn f c => match Γ.cs f (rens (posN (order (args ++ c) H)) (args ++ c)) (subH (order (args ++ c) H) H) with
    | some F => F fun out => csB H (order (args ++ c) H) out (pairsA H out.H [] (args ++ c) out.ga) k pn
    | none => cnd (Γ.isP f) (cnd (puresA ((args ++ c).map (viewT H))) (Γ.pc f ((args ++ c).map (viewT H)) (fun v => cnd (puresA (args ++ c) || flatA v) (k v H none) none) (fun v => cnd (puresA (args ++ c) || flatA v) (pn v H none) none)) none) (cnd (Γ.xc f).isSome (extA Γ f (args ++ c) (fun v => k v H none)) none)
  | _ => none

def opE (L : Tys) (Γ : Callees R) (H : AHeap) (ev : Operand → AV) (o : Oper) (k : AV → AHeap → Option (Nat → Bool) → Option R) (pn : AV → AHeap → Option (Nat → Bool) → Option R) : Option R :=
  match o.op with
  | .assign (.const (.slice none 0 0)) => match tyAt L o.type with
    | some y => match y.u with
      | .slice e => match tyAt L e with
        | some ye => k (.sl H.length 0) (H ++ [some ⟨e, ye.size, 0, zeroEx L e ye, true, true, false, false⟩]) none
        | none => none
      | _ => none
    | none => none
  | .alloc t => match tyAt L t with
    | some y => cnd (Nat.beq (zeroCells y).length y.size && Nat.blt 0 y.size && onesA (zeroCells y)) (k (.ptr H.length 0 0) (H ++ [some ⟨t, y.size, 1, .box (zeroCells y), false, true, true, false⟩]) none) none
    | none => none
  | .box t x => match tyAt L t with
    | some y => cnd (Nat.beq (cellsOf (ev x)).length y.size && Nat.blt 0 y.size && okA (ev x)) (k (.ptr H.length 0 0) (H ++ [some ⟨t, y.size, 1, .box (cellsOf (ev x)), false, puresA (cellsOf (ev x)), true, false⟩]) none) none
    | none => none
  | .build t parts => match tyAt L t with
    | some y => match y.u with
      | .struct fs => cnd (fieldsOk L fs) (match fillA (fun i => match fs[i]? with
          | some f => (tyAt L f.type).map fun yf => (f.offset, yf.size)
          | none => none) (zeroCells y) (parts.toList.map fun p => (p.1, ev p.2)) with
        | some l => k (.agg l) H none
        | none => none) none
      | .array _ e => match tyAt L e with
        | some ye => match fillA (fun i => some (i * ye.size, ye.size)) (zeroCells y) (parts.toList.map fun p => (p.1, ev p.2)) with
          | some l => k (.agg l) H none
          | none => none
        | none => none
      | _ => none
    | none => none
  | .buildSlice t len parts => match tyAt L t with
    | some y => match y.u with
      | .slice e => match tyAt L e with
        | some ye => cnd (Nat.beq (zeroCells ye).length ye.size && Nat.blt 0 ye.size && Nat.ble (len * ye.size) 16777216 && onesA (zeroCells ye)) (match fillS ye.size (List.replicate len (zeroCells ye)) (parts.toList.map fun p => (p.1, nrmT L e (ev p.2))) with
          | some els => k (.sl H.length len) (H ++ [some ⟨e, ye.size, len, listEx L e ye els, false, els.all puresA, false, false⟩]) none
          | none => none) none
        | none => none
      | _ => none
    | none => none
  | .makeSlice t a b => match tyAt L t, ev a, ev b with
    | some y, .b (.int _ l), .b (.int _ c) => match y.u with
      | .slice e => match tyAt L e with
        | some ye => cnd (Nat.beq (zeroCells ye).length ye.size && Nat.blt 0 ye.size && onesA (zeroCells ye)) (if 0 ≤ l ∧ l ≤ c then
            if rowFits c.toNat ye.bytes = true then k (.sl H.length l.toNat) (H ++ [some ⟨e, ye.size, l.toNat, makeEx L e ye, false, true, false, false⟩]) none else none else none) none
        | none => none
      | _ => none
    | _, _, _ => none
  | .store t a x => match tyAt L t with
    | some y => match ev a with
      | .ptr r i j => match H[r]? with
        | some (some W) => cnd (Nat.beq (cellsOf (nrmT L t (ev x))).length y.size && okA (nrmT L t (ev x)) && Nat.ble (j + (cellsOf (nrmT L t (ev x))).length) W.k) (k (.b undef) (H.set r (some (storeRow W i j (cellsOf (nrmT L t (ev x)))))) none) none
        | _ => none
      | _ => none
    | none => none
  | .convert s d x => match ev x with
    | .b (.string a) => match tyAt L s, tyAt L d with
      | some _, some yd => match yd.u with
        | .slice e => match tyAt L e with
          | some ye => match ye.u with
            | .int .u8 => k (.sl H.length a.size) (H ++ [some ⟨e, 1, a.size, byteEx a, false, true, false, true⟩]) none
            | _ => none
          | none => none
        | .string => k (.b (.string a)) H none
        | _ => none
      | _, _ => none
    | _ => opP L H ev o.op (fun v => k v H none)
  | .call c => match c.callee with
    | .builtin .append => match c.args.toList.map ev, c.argTypes.toList with
      | [s, x], [t, t'] => match tyAt L t with
        | some y => match y.u with
          | .slice e => match tyAt L e with
            | some ye => cnd (Nat.beq t t' && Nat.beq (zeroCells ye).length ye.size) (match s, x with
              | .sl r n, .sl r2 n2 => match H[r]?, H[r2]? with
                | some (some W), some (some W2) => cnd (Nat.beq W2.k W.k && Nat.beq W.t e) (appendA H r W ye n n2 W2.ex W2.pf k) none
                | _, _ => none
              | .sl r n, .snap σ n2 ys => match H[r]? with
                | some (some W) => cnd (Nat.beq σ.size W.k && Nat.beq W.t e) (appendA H r W ye n n2 (.typ σ ys) true k) none
                | _ => none
              | .b (.slice none 0 0), .sl r2 n2 => match H[r2]? with
                | some (some W2) => cnd (Nat.beq W2.k ye.size) (appendA (H ++ [some (nilRow L e ye)]) H.length (nilRow L e ye) ye 0 n2 W2.ex W2.pf k) none
                | _ => none
              | .b (.slice none 0 0), .snap σ n2 ys => cnd (Nat.beq σ.size ye.size) (appendA (H ++ [some (nilRow L e ye)]) H.length (nilRow L e ye) ye 0 n2 (.typ σ ys) true k) none
              | _, _ => none) none
            | none => none
          | _ => none
        | none => none
      | _, _ => none
    | .value f => callA Γ H (ev f) (c.args.toList.map ev) k pn
    | .builtin .unsafeSliceData => match c.args.toList.map ev with
      | [.sl r n] => cnd (isPtrT L o.type) (k (.sp r n) H none) none
      | [.b (.slice none 0 0)] => k (.b (.pointer none)) H none
      | _ => none
    | .builtin .unsafeString => match c.args.toList.map ev, c.argTypes.toList with
      | [.sp r n, .b (.int .i64 m)], [t, _] => cnd (isPtrT L t) (match H[r]? with
        | some (some ⟨e, 1, _, .typ (.int .u8) xs, _, true, _, _⟩) => cnd (isPtrTo L t e) (if m = (n : Int) ∧ m ≤ 9223372036854775807 then k (.b (.string (strOf n xs))) ((kdHeap (fun q => !(Nat.beq q r)) H).set r none) (some fun q => !(Nat.beq q r)) else none) none
        | _ => none) none
      | [.b (.pointer none), .b (.int .i64 m)], [_, _] => if m = 0 then k (.b (.string ⟨#[]⟩)) H none else none
      | _, _ => none
    | _ => opP L H ev o.op (fun v => k v H none)
  | .slice t x lo hi none => match ev x with
    | .sl r n => match tyAt L t, H[r]? with
      | some y, some (some W) => match y.u, W.ex with
        | .slice e, .typ τ xs => match tyAt L e with
          | some ye => cnd (W.pf && Nat.beq W.k τ.size && Nat.beq ye.size τ.size && Nat.blt 0 τ.size) (bndA n (lo.map ev) (hi.map ev) fun l h =>
              k (.snap τ (h.toNat - l.toNat) (fun i => xs (l.toNat + i))) ((kdHeap (fun q => !(Nat.beq q r)) H).set r none) (some fun q => !(Nat.beq q r))) none
          | none => none
        | _, _ => none
      | _, _ => none
    | _ => opP L H ev (.slice t x lo hi none) (fun v => k v H none)
  | .panic x => match ev x with
    | .ifc t v => pn (.ifc t v) H none
    | _ => none
  | op => opP L H ev op (fun v => k v H none)

inductive XE where
  | normal
  | exit (id : Nat)
  | ret
  | panic (v : AV)

def cutF (D : Option (Nat → Bool)) (fr : List AV) : List AV := match D with
  | some D => kds D fr
  | none => fr

/-- Is an operation wanted? -/
def guardA (ops : Array Oper) (fr : List AV) (o : Oper) (y n : List AV → Option R) : Option R := match o.guard with
  | none => y fr
  | some (j, b) => match (ops[j]?).bind (·.dst) with
    | some d => match fr[d]? with
      | some (.b (.bool c)) => if c = b then y (fr.set d (.b (.bool b))) else n (fr.set d (.b (.bool (!b))))
      | some (.b _) => n fr
      | _ => none
    | none => none

def execOps (L : Tys) (Γ : Callees R) (ops : Array Oper) (k : List AV → AHeap → Option R) (pn : AV → List AV → AHeap → Option R) : List Oper → List AV → AHeap → Option R
  | [], fr, H => k fr H
  | o :: rest, fr, H => guardA ops fr o (fun fr => opE L Γ H (evA fr) o (fun v H' D => execOps L Γ ops k pn rest (setA (cutF D fr) o.dst v) H') (fun v H' D => pn v (cutF D fr) H'))
      (fun fr => execOps L Γ ops k pn rest (setA fr o.dst (.b undef)) H)

/-- A region that draws its order: reads and quiet calls alone. -/
def opQ (L : Tys) (Γ : Callees R) (H : AHeap) (ev : Operand → AV) (o : Oper) (k : AV → Option R) : Option R :=
  match o.op with
  | .call c => match c.callee with
    | .value f => match ev f with
      | .fn f cp => cnd (Γ.xc f).isSome (extA Γ f (c.args.toList.map ev ++ cp) k) <| cnd (Γ.isP f && puresA ((c.args.toList.map ev ++ cp).map (viewT H))) (Γ.pc f ((c.args.toList.map ev ++ cp).map (viewT H)) (fun v => cnd (flatA v) (k v) none) (fun _ => none)) none
      | _ => none
    | _ => opP L H ev o.op k
  | op => opP L H ev op k
def execQ (L : Tys) (Γ : Callees R) (H : AHeap) (ops : Array Oper) (k : List AV → Option R) : List Oper → List AV → Option R
  | [], fr => k fr
  | o :: rest, fr => guardA ops fr o (fun fr => opQ L Γ H (evA fr) o (fun v => execQ L Γ H ops k rest (setA fr o.dst v))) (fun fr => execQ L Γ H ops k rest (setA fr o.dst (.b undef)))

/-- Slots that are not looked at any more are forgotten; data is told as such. -/
def lookH : List (Nat × Option CTy) → Nat → AV → AV
  | [], _, _ => .top
  | (j, o) :: hs, i, x => cnd (Nat.beq j i) (match o with
    | some τ => nrmV τ x
    | none => x) (lookH hs i x)
def maskL (live : List (Nat × Option CTy)) : Nat → List AV → List AV
  | _, [] => []
  | i, x :: xs => lookH live i x :: maskL live (i + 1) xs

/-- The rows that keep arguments in sight. -/
def ghosts : Nat → AHeap → List Nat
  | _, [] => []
  | i, some W :: H => cnd (Nat.beq W.k 0 && !W.pf) (i :: ghosts (i + 1) H) (ghosts (i + 1) H)
  | i, none :: H => ghosts (i + 1) H
def ghostL : AHeap → List AV
  | [] => []
  | some W :: H => cnd (Nat.beq W.k 0 && !W.pf) (match W.ex with
    | .box l => l ++ ghostL H
    | _ => ghostL H) (ghostL H)
  | none :: H => ghostL H
/-- The rows that are kept: what values reach, what the arguments in sight reach, and these. -/
def gcO (l : List AV) (H : AHeap) : List Nat := addAll (order (l ++ ghostL H) H) (ghosts 0 H)
def gcK (fr : List AV) (H : AHeap) (o : List Nat) (k : List AV → AHeap → Option R) : Option R := k (rens (posN o) fr) (subH o H)
/-- What is not looked at any more is forgotten. -/
def prep (live : List (Nat × Option CTy)) (fr : List AV) (H : AHeap) (k : List AV → AHeap → Option R) : Option R := gcK (maskL live 0 fr) H (gcO (maskL live 0 fr) H) k
def iterA (live : List (Nat × Option CTy)) (step : (XE → List AV → AHeap → Option R) → List AV → AHeap → Option R) (k : XE → List AV → AHeap → Option R) : Nat → List AV → AHeap → Option R
  | 0, _, _ => none
  | n + 1, fr, H => step (fun e fr' H' => match e with
      | .normal => prep live fr' H' (iterA live step k n)
      | e => k e fr' H') fr H

/-- How a loop (by the block around it) is to be run: the slots that are looked at; what runs it, if we know one. -/
structure Hint (R : Type) where
  live : Nat → List (Nat × Option CTy)
  run : Nat → Option ((XE → List AV → AHeap → Option R) → List AV → AHeap → Option R)
  xm : Nat → Option Nat → Option (List (Nat × Option CTy))
  sch : Nat → Option (List (Nat × Nat)) := fun _ => none
  pl : Nat → Bool := fun _ => false
  dv : Bool := false
  pm : Option (List (Nat × Option CTy)) := none
/-- A panic: what is kept of the frame. -/
def dies (pm : Option (List (Nat × Option CTy))) (k : XE → List AV → AHeap → Option R) (v : AV) (fr : List AV) (H : AHeap) : Option R := match pm with
  | some live => prep live fr H fun fr' H' => k (.panic (kd (fun _ => false) v)) fr' H'
  | none => k (.panic (kd (fun _ => false) v)) (kds (fun _ => false) (maskL [] 0 fr)) []
/-- What is kept when a block, or the function, is left. -/
def leave (hint : Hint R) (cur : Nat) (q : Option Nat) (k : List AV → AHeap → Option R) (fr : List AV) (H : AHeap) : Option R := match hint.xm cur q with
  | some live => prep live fr H k
  | none => k fr H

/-- May it make the world greater alone? -/
def isGrow : Op → Bool
  | .call c => match c.callee with
    | .builtin .unsafeSliceData => true
    | _ => false
  | _ => false
/-- A region that draws its order, by a schedule: 3: one that alone may come up, and makes the world greater alone; 0: an operation that yields in every world; 1: one that reads, before all that write; 2: one that alone may come up. -/
def execS (L : Tys) (Γ : Callees R) (ops : Array Oper) (ds : List Nat) (k : List AV → AHeap → Option R) (pn : AV → List AV → AHeap → Option R) : List (Nat × Nat) → Bool → Array Bool → List AV → AHeap → Option R
  | [], _, l, fr, H => cnd (Region.ready .any ops l == []) (k fr H) none
  | (i, md) :: rest, eff, l, fr, H => match ops[i]? with
    | none => none
    | some o => cnd (Nat.beq md 2) (cnd (PrintLast.readyB .any ops l (l.setIfInBounds i true) i && ds.contains i)
        (guardA ops fr o (fun fr => opE L Γ H (evA fr) o (fun v H' D => execS L Γ ops ds k pn rest true (l.setIfInBounds i true) (setA (cutF D fr) o.dst v) H') (fun v H' D => pn v (cutF D fr) H'))
          (fun fr => execS L Γ ops ds k pn rest true (l.setIfInBounds i true) (setA fr o.dst (.b undef)) H)) none)
      (cnd (Nat.beq md 3) (cnd (PrintLast.readyB .any ops l (l.setIfInBounds i true) i && !(ds.contains i) && isGrow o.op && !eff)
        (guardA ops fr o (fun fr => opE L Γ H (evA fr) o (fun v H' D => execS L Γ ops ds k pn rest true (l.setIfInBounds i true) (setA (cutF D fr) o.dst v) H') (fun _ _ _ => none))
          (fun fr => execS L Γ ops ds k pn rest true (l.setIfInBounds i true) (setA fr o.dst (.b undef)) H)) none)
      (cnd (cnd (Nat.beq md 0) (PrintLast.anyB .any ops l (l.setIfInBounds i true) i && !isRd o.op) (PrintLast.takeB .any ops ds l (l.setIfInBounds i true) i && !eff))
        (guardA ops fr o (fun fr => opP L H (evA fr) o.op (fun v => execS L Γ ops ds k pn rest eff (l.setIfInBounds i true) (setA fr o.dst v) H))
          (fun fr => execS L Γ ops ds k pn rest eff (l.setIfInBounds i true) (setA fr o.dst (.b undef)) H)) none))

/-- The evaluator. n: rounds; cur: the block at hand. -/
def exec (L : Tys) (Γ : Callees R) (hint : Hint R) (n : Nat) : Code → Nat → (XE → List AV → AHeap → Option R) → List AV → AHeap → Option R
  | .skip, _, k, fr, H => k .normal fr H
  | .label _, _, k, fr, H => k .normal fr H
  | .region _ ops false, _, k, fr, H => execOps L Γ ops (fun fr H => k .normal fr H) (dies hint.pm k) ops.toList fr H
  | .region id ops true, _, k, fr, H => match hint.sch id with
    | some s => cnd (Nat.ble s.length ops.size) (execS L Γ ops ((s.filter fun p => Nat.beq p.2 2).map (·.1)) (fun fr H => k .normal fr H) (dies none k) s false (Array.replicate ops.size false) fr H) none
    | none => cnd (Region.lexB .any ops) (execQ L Γ H ops (fun fr => k .normal fr H) ops.toList fr) none
  | .seq a b, cur, k, fr, H => exec L Γ hint n a cur (fun e fr H => match e with
      | .normal => exec L Γ hint n b cur k fr H
      | e => k e fr H) fr H
  | .cond c x y, cur, k, fr, H => match evA fr c with
    | .b (.bool c) => if c = true then exec L Γ hint n x cur k fr H else exec L Γ hint n y cur k fr H
    | _ => none
  | .block id c, _, k, fr, H => exec L Γ hint n c id (fun e fr H => match e with
      | .exit j => cnd (Nat.beq j id) (k .normal fr H) (k (.exit j) fr H)
      | e => k e fr H) fr H
  | .loop c, cur, k, fr, H => match hint.run cur with
    | some f => cnd (hint.pl cur) (exec L Γ hint n c cur (fun e fr' H' => match e with
        | .normal => prep (hint.live cur) fr' H' (f k)
        | e => k e fr' H') fr H)
      (prep (hint.live cur) fr H (f k))
    | none => prep (hint.live cur) fr H (iterA (hint.live cur) (fun k fr H => exec L Γ hint n c cur k fr H) k n)
  | .exit id, cur, k, fr, H => leave hint cur (some id) (k (.exit id)) fr H
  | .ret, cur, k, fr, H => leave hint cur none (k .ret) fr H
  | _, _, _, _, _ => none
/-- What runs a loop answers as its rounds do. h: live rows at its head. -/
def Tied (fr : List AV) (H : AHeap) : Prop := (∀ q n, AV.sl q n ∈ fr → ∃ W : Row, H[q]? = some (some W) ∧ W.n = n) ∧
  ∀ (q : Nat) (W : Row) (l : List AV), H[q]? = some (some W) → (W.box = true ∨ W.k = 0 ∧ W.pf = false) → W.ex = .box l → ∀ q' n, AV.sl q' n ∈ l → ∃ W' : Row, H[q']? = some (some W') ∧ W'.n = n
def RunOk (L : Tys) (Γ : Callees R) (hint : Hint R) (n : Nat) (c : Code) (cur : Nat) : Prop := ∀ f, hint.run cur = some f → ∀ k fr H r, Tied fr H → f k fr H = some r → iterA (hint.live cur) (fun k fr H => exec L Γ hint n c cur k fr H) k n fr H = some r
/-- All loops of a function are run so. -/
def RunsOk (L : Tys) (Γ : Callees R) (hint : Hint R) (n : Nat) : Code → Nat → Prop
  | .seq a b, cur => RunsOk L Γ hint n a cur ∧ RunsOk L Γ hint n b cur
  | .cond _ a b, cur => RunsOk L Γ hint n a cur ∧ RunsOk L Γ hint n b cur
  | .block id c, _ => RunsOk L Γ hint n c id
  | .loop c, cur => RunOk L Γ hint n c cur ∧ RunsOk L Γ hint n c cur
  | _, _ => True
end
end Go.Proofs.YthmhobnhladhbaaDoor.AM
