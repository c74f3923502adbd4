/- Strings as lists of numbers: what the typed functions do to them. -/
import Derived.Test.YthmhobnhladhbaaDoorAm1
import Derived.Lib.Strings
import Derived.Lib.Bytealg
import Derived.IntWalk
namespace Go.Proofs.YthmhobnhladhbaaDoor.AM
open Go
set_option linter.unusedSimpArgs false
set_option linter.unusedVariables false

def bs (s : ByteArray) : List Int := s.data.toList.map fun c => (c.toNat : Int)
theorem bs_len (s : ByteArray) : (bs s).length = s.size := by simp [bs, ByteArray.size_data]
theorem ints_inj : ∀ {a b : List UInt8}, (a.map fun c => (c.toNat : Int)) = (b.map fun c => (c.toNat : Int)) → a = b
  | [], [], _ => rfl
  | [], _ :: _, h => by simp at h
  | _ :: _, [], h => by simp at h
  | x :: xs, y :: ys, h => by
    simp only [List.map_cons, List.cons.injEq] at h
    rw [ints_inj h.2, UInt8.toNat_inj.1 (by have := h.1; omega : x.toNat = y.toNat)]
theorem bs_inj {a b : ByteArray} (h : bs a = bs b) : a = b := by
  have := ints_inj h
  exact ByteArray.ext (Array.toList_inj.1 this)
theorem str_eq (a b : ByteArray) : (a.toList == b.toList) = decide (bs a = bs b) := by
  rw [Lib.toList_data, Lib.toList_data]
  by_cases h : bs a = bs b
  · rw [decide_eq_true h, bs_inj h]; simp
  · rw [decide_eq_false h]
    have : a.data.toList ≠ b.data.toList := fun e => h (by unfold bs; rw [e])
    simpa using this
theorem bs_app (a b : ByteArray) : bs (a ++ b) = bs a ++ bs b := by simp [bs, ByteArray.data_append]
theorem bs_ext (a : ByteArray) (i j : Nat) : bs (a.extract i j) = ((bs a).take j).drop i := by
  simp [bs, ByteArray.data_extract, List.map_drop, List.map_take, List.extract, List.drop_take]
theorem bs_rng {s : ByteArray} {c : Int} (h : c ∈ bs s) : 0 ≤ c ∧ c < 256 := by
  simp only [bs, List.mem_map] at h
  obtain ⟨x, _, rfl⟩ := h
  have := x.toNat_lt
  omega
theorem bt_at {s : ByteArray} {k : Nat} {c : Int} (h : (bs s)[k]? = some c) : bt s (k : Int) = c := by
  have hl : k < s.size := by have := (List.getElem?_eq_some_iff.1 h).1; rwa [bs_len] at this
  unfold bt
  rw [dif_pos (by simpa using hl)]
  simp only [bs, List.getElem?_map] at h
  rw [Array.getElem?_toList, Array.getElem?_eq_getElem (by rwa [ByteArray.size_data])] at h
  simp at h
  exact h
/-- The byte at hand. -/
theorem at_cons {s : ByteArray} {k : Nat} {c : Int} {r : List Int} (h : (bs s).drop k = c :: r) : (k : Int) < (s.size : Int) ∧ bt s (k : Int) = c ∧ (bs s).drop (k + 1) = r ∧ 0 ≤ c ∧ c < 256 := by
  have h1 : (bs s)[k]? = some c := by
    have := congrArg (fun l => l[0]?) h
    simpa using this
  have hl : k < s.size := by have := (List.getElem?_eq_some_iff.1 h1).1; rwa [bs_len] at this
  refine ⟨by omega, bt_at h1, ?_, bs_rng (List.mem_of_getElem? h1)⟩
  rw [← List.drop_drop, h]; rfl
theorem at_nil {s : ByteArray} {k : Nat} (h : (bs s).drop k = []) : ¬ ((k : Int) < (s.size : Int)) := by
  have := List.drop_eq_nil_iff.1 h
  rw [bs_len] at this
  omega
theorem drop_len {s : ByteArray} {k : Nat} {r : List Int} (h : (bs s).drop k = r) (hk : k ≤ s.size) : s.size = k + r.length := by
  have := congrArg List.length h
  rw [List.length_drop, bs_len] at this
  omega
theorem wr {x : Int} (h1 : -9223372036854775808 ≤ x) (h2 : x ≤ 9223372036854775807) : IntKind.wrap .i64 x = x := by
  rw [IntKind.wrap_i64]
  omega
theorem wr1 {k : Nat} (h : k < 4611686018427387904) : IntKind.wrap .i64 ((k : Int) + 1) = ((k + 1 : Nat) : Int) := by
  rw [wr (by omega) (by omega)]; rfl
theorem strOf_data : ∀ (l : List Int) (r : ByteArray), (∀ x ∈ l, 0 ≤ x ∧ x < 256) → bs (l.foldl (fun r c => r.push (UInt8.ofNat c.toNat)) r) = bs r ++ l
  | [], r, _ => by simp
  | x :: l, r, h => by
    rw [List.foldl_cons, strOf_data l _ fun y hy => h y (List.mem_cons_of_mem _ hy)]
    have hx := h x List.mem_cons_self
    have : bs (r.push (UInt8.ofNat x.toNat)) = bs r ++ [x] := by
      have e : (UInt8.ofNat x.toNat).toNat = x.toNat := by simp [UInt8.toNat_ofNat']; omega
      simp [bs, ByteArray.push, e]
      omega
    rw [this]; simp
theorem bs_strOf {n : Nat} {f : Nat → Int} (h : ∀ i, i < n → 0 ≤ f i ∧ f i < 256) : bs (strOf n f) = (List.range n).map f := by
  unfold strOf
  rw [strOf_data _ _ fun x hx => by
    simp only [List.mem_map, List.mem_range] at hx
    obtain ⟨i, hi, rfl⟩ := hx
    exact h i hi]
  rfl
/-- Where a byte stands first. -/
def idx (c : Int) : List Int → Int
  | [] => -1
  | b :: l => if b = c then 0 else if idx c l = -1 then -1 else idx c l + 1
theorem idx_eq {c : Int} (h0 : 0 ≤ c) (h1 : c < 256) : ∀ l : List UInt8, Lib.indexByte l (Nat.toUInt8 (Int.toNat c)) = idx c (l.map fun c => (c.toNat : Int))
  | [] => rfl
  | b :: l => by
    have e : (Nat.toUInt8 (Int.toNat c)).toNat = c.toNat := by simp [Nat.toUInt8, UInt8.toNat_ofNat']; omega
    simp only [Lib.indexByte, List.map_cons, idx, idx_eq h0 h1 l]
    have hb : (b == Nat.toUInt8 (Int.toNat c)) = decide ((b.toNat : Int) = c) := by
      by_cases hh : (b.toNat : Int) = c
      · rw [decide_eq_true hh]
        have : b = Nat.toUInt8 (Int.toNat c) := UInt8.toNat_inj.1 (by rw [e]; omega)
        simp [← this]
      · rw [decide_eq_false hh]
        have : b ≠ Nat.toUInt8 (Int.toNat c) := fun h => hh (by rw [h, e]; omega)
        simpa using this
    rw [hb]
    by_cases hh : (b.toNat : Int) = c <;> simp [hh]
theorem count_eq {c : Int} (h0 : 0 ≤ c) (h1 : c < 256) (l : List UInt8) : Lib.countByte l (Nat.toUInt8 (Int.toNat c)) = (l.map fun c => (c.toNat : Int)).count c := by
  have e : (Nat.toUInt8 (Int.toNat c)).toNat = c.toNat := by simp [Nat.toUInt8, UInt8.toNat_ofNat']; omega
  unfold Lib.countByte
  induction l with
  | nil => rfl
  | cons b l ih =>
    simp only [List.map_cons, List.count_cons, ih]
    by_cases hh : (b.toNat : Int) = c
    · have : b = Nat.toUInt8 (Int.toNat c) := UInt8.toNat_inj.1 (by rw [e]; omega)
      simp [hh, ← this]
    · have : b ≠ Nat.toUInt8 (Int.toNat c) := fun h => hh (by rw [h, e]; omega)
      simp [hh, this]
end Go.Proofs.YthmhobnhladhbaaDoor.AM
