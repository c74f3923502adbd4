/- The abstract machine, part 0: abstract values, the abstract heap, and what it means that a value of the model is told by an abstract one. -/
import Derived.Below
import Derived.Tactics
import Derived.Deep.Quiet
namespace Go.Proofs.YthmhobnhladhbaaDoor.AM
open Go Go.RowKit

def idA {α : Sort _} (x : α) : α := x
/-- A choice (told apart from the one of core: it is unfolded before an `ite`). -/
def cnd {α : Sort _} (c : Bool) (x y : α) : α := idA (match c with
  | true => x
  | false => y)
@[simp] theorem cnd_true {α : Sort _} (x y : α) : cnd true x y = x := rfl
@[simp] theorem cnd_false {α : Sort _} (x y : α) : cnd false x y = y := rfl

/-- What plain data is: its Go form, cell by cell. -/
inductive CTy where
  | bool
  | int (k : IntKind)
  | flt (k : FloatKind)
  | str
  | unit
  | pair (a b : CTy)
  | sl (a : CTy)
  deriving DecidableEq

/-- A slice of data that nobody changes. -/
structure Sq (T : Type) where
  n : Nat
  at' : Nat → T

def El : CTy → Type
  | .bool => Bool
  | .int _ => Int
  | .flt _ => Nat
  | .str => ByteArray
  | .unit => Unit
  | .pair a b => El a × El b
  | .sl a => Sq (El a)
def CTy.size : CTy → Nat
  | .unit => 0
  | .pair a b => a.size + b.size
  | _ => 1
def zeroEl : (τ : CTy) → El τ
  | .bool => false
  | .int _ => (0 : Int)
  | .flt _ => (0 : Nat)
  | .str => (⟨#[]⟩ : ByteArray)
  | .unit => ()
  | .pair a b => (zeroEl a, zeroEl b)
  | .sl a => (⟨0, fun _ => zeroEl a⟩ : Sq (El a))

/-- Abstract values. -/
inductive AV where
  | b (v : Value)
  | agg (l : List AV)
  | tup (l : List AV)
  | ifc (t : TypeId) (x : AV)
  | fn (f : FuncId) (c : List AV)
  | snap (τ : CTy) (n : Nat) (xs : Nat → El τ)
  | sl (r n : Nat)
  | ptr (r i j : Nat)
  | sptr (l : List AV)
  | sp (r n : Nat)
  | top

/-- Cells of data. -/
def cel : (τ : CTy) → El τ → List AV
  | .bool, x => [.b (.bool x)]
  | .int k, x => [.b (.int k x)]
  | .flt k, x => [.b (.float k x)]
  | .str, x => [.b (.string x)]
  | .unit, _ => []
  | .pair a b, x => cel a x.1 ++ cel b x.2
  | .sl a, x => [.snap a x.n x.at']
theorem cel_len : ∀ (τ : CTy) (x : El τ), (cel τ x).length = τ.size
  | .bool, _ => rfl
  | .int _, _ => rfl
  | .flt _, _ => rfl
  | .str, _ => rfl
  | .unit, _ => rfl
  | .pair a b, x => by simp only [cel, List.length_append, cel_len a, cel_len b, CTy.size]
  | .sl _, _ => rfl

/-- The elements of a row. -/
inductive Els where
  | raw (f : Nat → List AV)
  | box (l : List AV)
  | typ (τ : CTy) (xs : Nat → El τ)
def Els.at' : Els → Nat → List AV
  | .raw f => f
  | .box l => fun _ => l
  | .typ τ xs => fun i => cel τ (xs i)

/-- A row of live memory: element type, cells an element, the elements, may it be nil (while empty)?, is it plain (no live references inside)?, is it a box (never appended to)?, did a conversion make it? -/
structure Row where
  t : TypeId
  k : Nat
  n : Nat
  ex : Els
  mn : Bool
  pf : Bool
  box : Bool
  cv : Bool

def Row.els (W : Row) : Nat → List AV := W.ex.at'

abbrev AHeap := List (Option Row)

/-- Where a live row lies. -/
structure Info where
  blk : Nat
  cap : Nat
  al : Bool
  gv : List Value

/-- What is known of live rows when values are told: cells an element, elements. -/
abbrev Tab := Nat → Option (Nat × Nat)
def noTab : Tab := fun _ => none

/-- Data as it lies in memory that nobody changes. -/
def CT (w : World) (I : Nat → Prop) : (τ : CTy) → El τ → Addr → Nat → Prop
  | .bool, x, a, o => w.cell? (a.add o) = some (.bool x)
  | .int k, x, a, o => w.cell? (a.add o) = some (.int k x)
  | .flt k, x, a, o => w.cell? (a.add o) = some (.float k x)
  | .str, x, a, o => w.cell? (a.add o) = some (.string x)
  | .unit, _, _, _ => True
  | .pair s t, x, a, o => CT w I s x.1 a o ∧ CT w I t x.2 a (o + s.size)
  | .sl t, x, a, o => ∃ v, w.cell? (a.add o) = some v ∧ ∃ A c, v = .slice A x.n c ∧ x.n ≤ c ∧ (0 < x.n → ∃ b, A = some b ∧ b.spot = none ∧ I b.block ∧ ∀ i, i < x.n → CT w I t (x.at' i) b (i * t.size))
def VS (w : World) (I : Nat → Prop) (t : CTy) (n : Nat) (xs : Nat → El t) (v : Value) : Prop :=
  ∃ A c, v = .slice A n c ∧ n ≤ c ∧ (0 < n → ∃ b, A = some b ∧ b.spot = none ∧ I b.block ∧ ∀ i, i < n → CT w I t (xs i) b (i * t.size))

mutual
def VR (w : World) (I : Nat → Prop) (m : Nat → Info) : Tab → AV → Value → Prop
  | _, .b x, v => v = x
  | _, .top, _ => True
  | T, .agg l, v => ∃ a, v = .agg a ∧ LR w I m T l a.toList
  | T, .tup l, v => ∃ a, v = .tuple a ∧ LR w I m T l a.toList
  | T, .ifc t x, v => ∃ y, v = .iface t y ∧ VR w I m T x y
  | T, .fn f c, v => ∃ a, v = .func (.func f) #[] a ∧ LR w I m T c a.toList
  | _, .snap τ n xs, v => VS w I τ n xs v
  | T, .sl r n, v => (∃ k, T r = some (k, n)) ∧ (if (m r).al = true then ∃ c, v = .slice (some ⟨(m r).blk, 0, none⟩) n c ∧ n ≤ c ∧ c ≤ (m r).cap else v = .slice none 0 0 ∧ n = 0)
  | T, .ptr r i j, v => ∃ k n, T r = some (k, n) ∧ i < n ∧ j < k ∧ (m r).al = true ∧ v = .pointer (some ⟨(m r).blk, i * k + j, none⟩)
  | _, .sptr l, v => ∃ a, v = .pointer (some a) ∧ a.spot = none ∧ I a.block ∧ CR w I m a 0 l
  | T, .sp r n, v => (∃ k, T r = some (k, n)) ∧ ∃ p, v = .pointer p ∧ (0 < n → (m r).al = true ∧ p = some ⟨(m r).blk, 0, none⟩)
def LR (w : World) (I : Nat → Prop) (m : Nat → Info) : Tab → List AV → List Value → Prop
  | _, [], [] => True
  | T, x :: xs, v :: vs => VR w I m T x v ∧ LR w I m T xs vs
  | _, _, _ => False
def CR (w : World) (I : Nat → Prop) (m : Nat → Info) (a : Addr) : Nat → List AV → Prop
  | _, [] => True
  | o, x :: xs => (∃ v, w.cell? (a.add o) = some v ∧ VR w I m noTab x v ∧ v.oneCell' = true) ∧ CR w I m a (o + 1) xs
end

mutual
/-- Do all live references of a value satisfy D? -/
def rf (D : Nat → Bool) : AV → Bool
  | .agg l => rfs D l
  | .tup l => rfs D l
  | .fn _ l => rfs D l
  | .ifc _ x => rf D x
  | .sl r _ => D r
  | .ptr r _ _ => D r
  | .b _ => true
  | .snap _ _ _ => true
  | .sptr _ => true
  | .sp r _ => D r
  | .top => true
def rfs (D : Nat → Bool) : List AV → Bool
  | [] => true
  | x :: xs => rf D x && rfs D xs
end

section mono
variable {w w' : World} {I I' : Nat → Prop} {m m' : Nat → Info}
theorem CR_app {w : World} {I : Nat → Prop} {m : Nat → Info} {a : Addr} : ∀ {l l' : List AV} {o : Nat}, CR w I m a o (l ++ l') ↔ CR w I m a o l ∧ CR w I m a (o + l.length) l'
  | [], l', o => by simp [CR]
  | x :: xs, l', o => by
    simp only [List.cons_append, CR, CR_app (l := xs), List.length_cons]
    rw [show o + 1 + xs.length = o + (xs.length + 1) by omega, and_assoc]
theorem CT_CR {w : World} {I : Nat → Prop} {m : Nat → Info} : ∀ (τ : CTy) (x : El τ) (a : Addr) (o : Nat), CT w I τ x a o ↔ CR w I m a o (cel τ x)
  | .bool, x, a, o => by
    simp only [CT, cel, CR, VR, and_true]
    exact ⟨fun h => ⟨_, h, rfl, rfl⟩, fun ⟨v, h, hv, _⟩ => hv ▸ h⟩
  | .int _, x, a, o => by
    simp only [CT, cel, CR, VR, and_true]
    exact ⟨fun h => ⟨_, h, rfl, rfl⟩, fun ⟨v, h, hv, _⟩ => hv ▸ h⟩
  | .flt _, x, a, o => by
    simp only [CT, cel, CR, VR, and_true]
    exact ⟨fun h => ⟨_, h, rfl, rfl⟩, fun ⟨v, h, hv, _⟩ => hv ▸ h⟩
  | .str, x, a, o => by
    simp only [CT, cel, CR, VR, and_true]
    exact ⟨fun h => ⟨_, h, rfl, rfl⟩, fun ⟨v, h, hv, _⟩ => hv ▸ h⟩
  | .unit, x, a, o => by simp [CT, cel, CR]
  | .pair s t, x, a, o => by simp only [CT, cel, CR_app, cel_len]; rw [CT_CR s, CT_CR t]
  | .sl t, x, a, o => by
    simp only [CT, cel, CR, VR, VS, and_true]
    constructor
    · rintro ⟨v, hv, A, c, rfl, h⟩
      exact ⟨_, hv, ⟨A, c, rfl, h⟩, rfl⟩
    · rintro ⟨v, hv, ⟨A, c, rfl, h⟩, _⟩
      exact ⟨_, hv, A, c, rfl, h⟩
/-- What a slice of fixed data is, cell by cell. -/
theorem VR_snap {w : World} {I : Nat → Prop} {m : Nat → Info} {T : Tab} {τ : CTy} {n : Nat} {xs : Nat → El τ} {v : Value} : VR w I m T (.snap τ n xs) v ↔
    ∃ A c, v = .slice A n c ∧ n ≤ c ∧ (0 < n → ∃ a, A = some a ∧ a.spot = none ∧ I a.block ∧ ∀ i, i < n → (cel τ (xs i)).length = τ.size ∧ CR w I m a (i * τ.size) (cel τ (xs i))) := by
  simp only [VR, VS, cel_len, true_and, ← CT_CR]
theorem cell_same {a : Addr} (h : w'.heap[a.block]? = w.heap[a.block]?) : w'.cell? a = w.cell? a := by unfold World.cell?; rw [h]
theorem CT.mono (hI : ∀ b, I b → I' b ∧ w'.heap[b]? = w.heap[b]?) : ∀ (τ : CTy) (x : El τ) (a : Addr) (o : Nat), I a.block → CT w I τ x a o → CT w' I' τ x a o := by
  have cell : ∀ (a : Addr) (o : Nat), I a.block → w'.cell? (a.add o) = w.cell? (a.add o) := fun a o h => by
    have hb : (a.add o).block = a.block := by unfold Addr.add; split <;> rfl
    exact cell_same (by rw [hb]; exact (hI _ h).2)
  intro τ
  induction τ with
  | bool => intro x a o h; simp only [CT, cell a o h]; exact id
  | int => intro x a o h; simp only [CT, cell a o h]; exact id
  | flt => intro x a o h; simp only [CT, cell a o h]; exact id
  | str => intro x a o h; simp only [CT, cell a o h]; exact id
  | unit => intro x a o h; simp only [CT]; exact id
  | pair s t hs ht => intro x a o h; simp only [CT]; exact fun k => ⟨hs _ _ _ h k.1, ht _ _ _ h k.2⟩
  | sl t ht =>
    intro x a o h
    simp only [CT, cell a o h]
    rintro ⟨v, hv, A, c, rfl, hc, k⟩
    refine ⟨_, hv, A, c, rfl, hc, fun hn => ?_⟩
    obtain ⟨b, rfl, hs, hb, k⟩ := k hn
    exact ⟨b, rfl, hs, (hI _ hb).1, fun i hi => ht _ _ _ hb (k i hi)⟩
mutual
theorem VR.mono (D : Nat → Bool) (hI : ∀ b, I b → I' b ∧ w'.heap[b]? = w.heap[b]?) : ∀ (x : AV) (T T' : Tab) (v : Value), (∀ r p, T r = some p → D r = true → T' r = some p ∧ m' r = m r) → (T = noTab ∨ rf D x = true) → VR w I m T x v → VR w' I' m' T' x v
  | .b _, _, _, _, _, _, h => by simpa [VR] using h
  | .top, _, _, _, _, _, _ => by simp [VR]
  | .agg l, T, T', _, hT, hd, h => by
    simp only [VR] at h ⊢
    obtain ⟨a, rfl, h⟩ := h
    exact ⟨a, rfl, LR.mono D hI l T T' a.toList hT (by simpa [rf] using hd) h⟩
  | .tup l, T, T', _, hT, hd, h => by
    simp only [VR] at h ⊢
    obtain ⟨a, rfl, h⟩ := h
    exact ⟨a, rfl, LR.mono D hI l T T' a.toList hT (by simpa [rf] using hd) h⟩
  | .ifc t x, T, T', _, hT, hd, h => by
    simp only [VR] at h ⊢
    obtain ⟨y, rfl, h⟩ := h
    exact ⟨y, rfl, VR.mono D hI x T T' y hT (by simpa [rf] using hd) h⟩
  | .fn f c, T, T', _, hT, hd, h => by
    simp only [VR] at h ⊢
    obtain ⟨a, rfl, h⟩ := h
    exact ⟨a, rfl, LR.mono D hI c T T' a.toList hT (by simpa [rf] using hd) h⟩
  | .snap τ n xs, _, _, _, _, _, h => by
    simp only [VR, VS] at h ⊢
    obtain ⟨A, c, rfl, hc, h⟩ := h
    refine ⟨A, c, rfl, hc, fun hl => ?_⟩
    obtain ⟨a, rfl, hs, hb, h⟩ := h hl
    exact ⟨a, rfl, hs, (hI _ hb).1, fun i hi => CT.mono hI τ _ _ _ hb (h i hi)⟩
  | .sl r n, T, T', _, hT, hd, h => by
    simp only [VR] at h ⊢
    obtain ⟨⟨k, hk⟩, h⟩ := h
    rcases hd with rfl | hd
    · simp [noTab] at hk
    · obtain ⟨h1, h2⟩ := hT r _ hk (by simpa [rf] using hd)
      exact ⟨⟨k, h1⟩, by rw [h2]; exact h⟩
  | .ptr r i j, T, T', _, hT, hd, h => by
    simp only [VR] at h ⊢
    obtain ⟨k, n, hk, hi, hj, ha, hv⟩ := h
    rcases hd with rfl | hd
    · simp [noTab] at hk
    · obtain ⟨h1, h2⟩ := hT r _ hk (by simpa [rf] using hd)
      exact ⟨k, n, h1, hi, hj, by rw [h2]; exact ha, by rw [h2]; exact hv⟩
  | .sptr l, _, _, _, _, _, h => by
    simp only [VR] at h ⊢
    obtain ⟨a, rfl, hs, hb, h⟩ := h
    exact ⟨a, rfl, hs, (hI _ hb).1, CR.mono D hI a hb l 0 h⟩
  | .sp r n, T, T', _, hT, hd, h => by
    simp only [VR] at h ⊢
    obtain ⟨⟨k, hk⟩, h⟩ := h
    rcases hd with rfl | hd
    · simp [noTab] at hk
    · obtain ⟨h1, h2⟩ := hT r _ hk (by simpa [rf] using hd)
      exact ⟨⟨k, h1⟩, by rw [h2]; exact h⟩
theorem LR.mono (D : Nat → Bool) (hI : ∀ b, I b → I' b ∧ w'.heap[b]? = w.heap[b]?) : ∀ (l : List AV) (T T' : Tab) (vs : List Value), (∀ r p, T r = some p → D r = true → T' r = some p ∧ m' r = m r) → (T = noTab ∨ rfs D l = true) → LR w I m T l vs → LR w' I' m' T' l vs
  | [], _, _, [], _, _, _ => by simp [LR]
  | [], _, _, _ :: _, _, _, h => by simp [LR] at h
  | _ :: _, _, _, [], _, _, h => by simp [LR] at h
  | x :: xs, T, T', v :: vs, hT, hd, h => by
    simp only [LR] at h ⊢
    have hd' : T = noTab ∨ (rf D x = true ∧ rfs D xs = true) := by simpa [rfs] using hd
    exact ⟨VR.mono D hI x T T' v hT (hd'.imp_right And.left) h.1, LR.mono D hI xs T T' vs hT (hd'.imp_right And.right) h.2⟩
theorem CR.mono (D : Nat → Bool) (hI : ∀ b, I b → I' b ∧ w'.heap[b]? = w.heap[b]?) (a : Addr) (ha : I a.block) : ∀ (l : List AV) (o : Nat), CR w I m a o l → CR w' I' m' a o l
  | [], _, _ => by simp [CR]
  | x :: xs, o, h => by
    simp only [CR] at h ⊢
    obtain ⟨⟨v, hc, hv⟩, h⟩ := h
    have hb : (a.add o).block = a.block := by unfold Addr.add; split <;> rfl
    exact ⟨⟨v, (cell_same (a := a.add o) (by rw [hb]; exact (hI _ ha).2)).trans hc, VR.mono D hI x noTab noTab v (fun r p hp => by simp [noTab] at hp) (.inl rfl) hv.1, hv.2⟩, CR.mono D hI a ha xs (o + 1) h⟩
end
end mono

end Go.Proofs.YthmhobnhladhbaaDoor.AM
