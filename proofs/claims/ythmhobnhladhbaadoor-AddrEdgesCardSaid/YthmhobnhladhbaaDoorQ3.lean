/- What the functions of addr and of its reference tell: part 3: numbers of a literal. -/
import Derived.Test.YthmhobnhladhbaaDoorQ2
import Derived.Lib.ItoaNum
namespace Go.Proofs.YthmhobnhladhbaaDoor.AM
open Go
set_option linter.unusedSimpArgs false
set_option linter.unusedVariables false

def dig (c : Int) : Bool := decide (48 ≤ c) && decide (c ≤ 57)
def valD : Int → List Int → Int
  | n, [] => n
  | n, c :: r => valD (10 * n + (c - 48)) r
def okR (w : List Int) : Bool := !w.isEmpty && decide (w.length ≤ 16) && !(decide (1 < w.length) && decide (w.head? = some 48)) && w.all dig && decide (valD 0 w ≤ 255)
def dd3 (u : Nat) : List UInt8 := if u < 10 then [UInt8.ofNat (48 + u)] else if u < 100 then [UInt8.ofNat (48 + u / 10), UInt8.ofNat (48 + u % 10)] else [UInt8.ofNat (48 + u / 100), UInt8.ofNat (48 + u / 10 % 10), UInt8.ofNat (48 + u % 10)]
theorem dd3_eq {u : Nat} (h : u < 1000) : Lib.decDigits u = dd3 u := by
  unfold dd3
  split
  · rename_i h1; rw [Lib.decDigits_one h1]
  · rename_i h1
    split
    · rename_i h2; rw [Lib.decDigits_two h1 h2]
    · rename_i h2
      rw [Lib.decDigits, dif_neg h1, Lib.decDigits_two (by omega) (by omega)]
      simp only [List.cons_append, List.nil_append]
      congr 3
      omega
def ints (l : List UInt8) : List Int := l.map fun c => (c.toNat : Int)
theorem dd3_ok : ∀ v : Fin 256, okR (ints (dd3 v.val)) = true := by decide +kernel
theorem ok1 : ∀ a : Fin 10, okR [48 + (a.val : Int)] = true → Lib.atoiAll [UInt8.ofNat (48 + a.val)] = .ok (a.val : Int) ∧ dd3 a.val = [UInt8.ofNat (48 + a.val)] := by decide +kernel
theorem ok2 : ∀ a b : Fin 10, okR [48 + (a.val : Int), 48 + (b.val : Int)] = true → Lib.atoiAll [UInt8.ofNat (48 + a.val), UInt8.ofNat (48 + b.val)] = .ok ((10 * a.val + b.val : Nat) : Int) ∧ dd3 (10 * a.val + b.val) = [UInt8.ofNat (48 + a.val), UInt8.ofNat (48 + b.val)] := by decide +kernel
theorem ok3 : ∀ a b c : Fin 10, okR [48 + (a.val : Int), 48 + (b.val : Int), 48 + (c.val : Int)] = true →
    100 * a.val + 10 * b.val + c.val < 256 ∧ Lib.atoiAll [UInt8.ofNat (48 + a.val), UInt8.ofNat (48 + b.val), UInt8.ofNat (48 + c.val)] = .ok ((100 * a.val + 10 * b.val + c.val : Nat) : Int) ∧ dd3 (100 * a.val + 10 * b.val + c.val) = [UInt8.ofNat (48 + a.val), UInt8.ofNat (48 + b.val), UInt8.ofNat (48 + c.val)] := by decide +kernel
theorem valD_ge : ∀ (r : List Int) (n : Int), 0 ≤ n → r.all dig = true → n ≤ valD n r ∧ (∀ m : Int, m ≤ n → 0 ≤ m → ∀ k, k ≤ r.length → m * 10 ^ k ≤ valD n r)
  | [], n, h, _ => ⟨by simp [valD], fun m hm h0 k hk => by
    have : k = 0 := by simpa using hk
    subst this; simpa [valD] using hm⟩
  | c :: r, n, h, hd => by
    simp only [List.all_cons, Bool.and_eq_true] at hd
    have hc : 48 ≤ c ∧ c ≤ 57 := by simpa [dig] using hd.1
    have ih := valD_ge r (10 * n + (c - 48)) (by omega) hd.2
    simp only [valD]
    refine ⟨by have := ih.1; omega, fun m hm h0 k hk => ?_⟩
    cases k with
    | zero => have := ih.1; simp; omega
    | succ k =>
      have := ih.2 (10 * m) (by omega) (by omega) k (by simpa using hk)
      rw [Int.pow_succ]
      have e : m * (10 ^ k * 10) = 10 * m * 10 ^ k := by
        rw [Int.mul_comm (10 ^ k) 10, ← Int.mul_assoc, Int.mul_comm m 10]
      rw [e]; exact this
/-- Is a part of a literal well? -/
def okP (l : List UInt8) : Bool := match Lib.atoiAll l with
  | .ok v => decide (0 ≤ v) && decide (v ≤ 255) && decide (Lib.itoa v = l)
  | _ => false
theorem dig_fin {c : Int} (h : dig c = true) : ∃ a : Fin 10, c = 48 + (a.val : Int) := by
  have hc : 48 ≤ c ∧ c ≤ 57 := by simpa [dig] using h
  exact ⟨⟨(c - 48).toNat, by omega⟩, by simp; omega⟩
theorem ints_eq : ∀ {l : List UInt8} {l' : List UInt8}, ints l = ints l' → l = l' := fun h => ints_inj h
theorem fin_ints (a : Fin 10) : ((UInt8.ofNat (48 + a.val)).toNat : Int) = 48 + (a.val : Int) := by
  have := a.isLt
  simp [UInt8.toNat_ofNat']
  omega
theorem okP_of {l : List UInt8} {v : Nat} (hv : v < 256) (h1 : Lib.atoiAll l = .ok (v : Int)) (h2 : dd3 v = l) : okP l = true := by
  unfold okP
  rw [h1]
  have : Lib.itoa (v : Int) = l := by
    unfold Lib.itoa
    rw [if_neg (by omega)]
    rw [Int.toNat_natCast, dd3_eq (by omega), h2]
  simp [this]
  omega
theorem okP_eq (l : List UInt8) : okP l = okR (ints l) := by
  apply Bool.eq_iff_iff.2
  constructor
  · intro h
    unfold okP at h
    split at h
    · rename_i v hv
      simp only [Bool.and_eq_true, decide_eq_true_eq] at h
      obtain ⟨⟨h0, h1⟩, h2⟩ := h
      obtain ⟨u, rfl⟩ : ∃ u : Nat, v = (u : Int) := ⟨v.toNat, by omega⟩
      have e : l = dd3 u := by
        rw [← h2, Lib.itoa, if_neg (by omega), Int.toNat_natCast, dd3_eq (by omega)]
      rw [e]
      exact dd3_ok ⟨u, by omega⟩
    · cases h
  · intro h
    have h' := h
    unfold okR at h'
    simp only [Bool.and_eq_true, Bool.not_eq_true', decide_eq_true_eq] at h'
    obtain ⟨⟨⟨⟨h1, h2⟩, h3⟩, h4⟩, h5⟩ := h'
    rcases hl : l with _ | ⟨a, _ | ⟨b, _ | ⟨c, _ | ⟨d, r⟩⟩⟩⟩
    · subst hl; simp [ints] at h1
    · subst hl
      simp only [ints, List.map_cons, List.map_nil, List.all_cons, List.all_nil, Bool.and_true] at h4
      obtain ⟨x, hx⟩ := dig_fin h4
      have ea : [a] = [UInt8.ofNat (48 + x.val)] := ints_eq (by simp only [ints, List.map_cons, List.map_nil, fin_ints, hx])
      have ho : okR [48 + (x.val : Int)] = true := by simpa [ints, hx] using h
      obtain ⟨p1, p2⟩ := ok1 x ho
      rw [ea]
      exact okP_of (by have := x.isLt; omega) p1 p2
    · subst hl
      simp only [ints, List.map_cons, List.map_nil, List.all_cons, List.all_nil, Bool.and_true, Bool.and_eq_true] at h4
      obtain ⟨x, hx⟩ := dig_fin h4.1
      obtain ⟨y, hy⟩ := dig_fin h4.2
      have ea : [a, b] = [UInt8.ofNat (48 + x.val), UInt8.ofNat (48 + y.val)] := ints_eq (by simp only [ints, List.map_cons, List.map_nil, fin_ints, hx, hy])
      have ho : okR [48 + (x.val : Int), 48 + (y.val : Int)] = true := by simpa [ints, hx, hy] using h
      obtain ⟨p1, p2⟩ := ok2 x y ho
      rw [ea]
      exact okP_of (by have := x.isLt; have := y.isLt; omega) p1 p2
    · subst hl
      simp only [ints, List.map_cons, List.map_nil, List.all_cons, List.all_nil, Bool.and_true, Bool.and_eq_true] at h4
      obtain ⟨x, hx⟩ := dig_fin h4.1
      obtain ⟨y, hy⟩ := dig_fin h4.2.1
      obtain ⟨z, hz⟩ := dig_fin h4.2.2
      have ea : [a, b, c] = [UInt8.ofNat (48 + x.val), UInt8.ofNat (48 + y.val), UInt8.ofNat (48 + z.val)] := ints_eq (by simp only [ints, List.map_cons, List.map_nil, fin_ints, hx, hy, hz])
      have ho : okR [48 + (x.val : Int), 48 + (y.val : Int), 48 + (z.val : Int)] = true := by simpa [ints, hx, hy, hz] using h
      obtain ⟨p0, p1, p2⟩ := ok3 x y z ho
      rw [ea]
      exact okP_of p0 p1 p2
    · exfalso
      subst hl
      simp only [ints, List.map_cons, List.length_cons, List.head?_cons, List.all_cons, Bool.and_eq_true] at h3 h4 h5
      have hne : (a.toNat : Int) ≠ 48 := fun e => by simp [e] at h3
      have ha : 48 ≤ (a.toNat : Int) ∧ (a.toNat : Int) ≤ 57 := by simpa [dig] using h4.1
      simp only [valD] at h5
      have hd := h4.2
      have hb : 48 ≤ (b.toNat : Int) ∧ (b.toNat : Int) ≤ 57 := by simpa [dig] using hd.1
      have hc : 48 ≤ (c.toNat : Int) ∧ (c.toNat : Int) ≤ 57 := by simpa [dig] using hd.2.1
      have hdd : 48 ≤ (d.toNat : Int) ∧ (d.toNat : Int) ≤ 57 := by simpa [dig] using hd.2.2.1
      have := (valD_ge (List.map (fun c : UInt8 => (c.toNat : Int)) r) (10 * (10 * (10 * (10 * 0 + ((a.toNat : Int) - 48)) + ((b.toNat : Int) - 48)) + ((c.toNat : Int) - 48)) + ((d.toNat : Int) - 48)) (by omega) hd.2.2.2).1
      omega

theorem wr8 {x : Int} (h1 : 0 ≤ x) (h2 : x < 256) : IntKind.wrap .u8 x = x := by
  unfold IntKind.wrap
  simp only [IntKind.bits, IntKind.signed]
  simp
  omega
/-- The reference's number. -/
def valX (n : Int) (r : List Int) : Lx Int (Int × Bool) := if r.all dig = true then .out (valD n r) else .ret (0, false)
theorem Value_L0 (n : Nat) (s : ByteArray) (hs : s.size ≤ 16) : ∀ (r : List Int) (k m : Nat) (v : Int), (bs s).drop k = r → k ≤ s.size → r.length < m → 0 ≤ v → v < 10 ^ k → pouchref0_Value_L0 n m s v k = some (valX v r)
  | [], k, m, v, h, hk, hm, h0, hv => by
    obtain ⟨m, rfl⟩ : ∃ q, m = q + 1 := ⟨m - 1, by simp at hm; omega⟩
    have := at_nil h
    simp [pouchref0_Value_L0, pouchref0_Value_B0, this, valX, valD]
  | c :: r, k, m, v, h, hk, hm, h0, hv => by
    obtain ⟨m, rfl⟩ : ∃ q, m = q + 1 := ⟨m - 1, by simp at hm; omega⟩
    obtain ⟨h1, h2, h3, h4, h5⟩ := at_cons h
    have e1 := wr1 (k := k) (by omega)
    have a3 : (0 : Int) ≤ (k : Int) := by omega
    have hp : (10 : Int) ^ k ≤ 10 ^ 16 := by
      have : (10 : Nat) ^ k ≤ 10 ^ 16 := Nat.pow_le_pow_right (by decide) (by omega)
      exact_mod_cast this
    have hp2 : (10 : Int) ^ 16 = 10000000000000000 := by decide
    by_cases hd : dig c = true
    · have hc : 48 ≤ c ∧ c ≤ 57 := by simpa [dig] using hd
      have ih := Value_L0 n s hs r (k + 1) m (10 * v + (c - 48)) h3 (by omega) (by simpa using hm) (by omega) (by rw [Int.pow_succ]; omega)
      have b1 : ¬ c < 48 := by omega
      have b2 : ¬ c > 57 := by omega
      have w1 := wr8 (x := c - 48) (by omega) (by omega)
      have w2 := wr (x := c - 48) (by omega) (by omega)
      have w3 := wr (x := 10 * v) (by omega) (by omega)
      have w4 := wr (x := 10 * v + (c - 48)) (by omega) (by omega)
      simp only [pouchref0_Value_L0, pouchref0_Value_B0, h1, h2, a3, e1, b1, b2, w1, w2, w3, w4]
      have : valX v (c :: r) = valX (10 * v + (c - 48)) r := by simp only [valX, List.all_cons, hd, Bool.true_and, valD]
      rw [this]
      simpa using ih
    · have : valX v (c :: r) = .ret (0, false) := by simp only [valX, List.all_cons, hd, Bool.false_and]; simp
      rw [this]
      by_cases b1 : c < 48
      · simp [pouchref0_Value_L0, pouchref0_Value_B0, h1, h2, a3, b1]
      · have b2 : c > 57 := by simp [dig] at hd; omega
        simp [pouchref0_Value_L0, pouchref0_Value_B0, h1, h2, a3, b1, b2]
def okV (w : List Int) : Bool := !w.isEmpty && decide (w.length ≤ 16) && !(decide (1 < w.length) && decide (w.head? = some 48)) && w.all dig
theorem Value_eq (n : Nat) (s : ByteArray) (hn : 10000000 ≤ n) : pouchref0_Value n s = some (if okV (bs s) = true then (valD 0 (bs s), true, ()) else (0, false, ())) := by
  unfold pouchref0_Value pouchref0_Value_B okV
  rw [str_eq, show bs (⟨#[]⟩ : ByteArray) = [] from rfl]
  have hlen := bs_len s
  by_cases he : bs s = []
  · simp [he]
  · by_cases h16 : s.size ≤ 16
    · have hL := Value_L0 n s h16 (bs s) 0 n 0 (by simp) (by omega) (by rw [hlen]; omega) (by omega) (by simp)
      rw [show ((0 : Nat) : Int) = 0 from rfl] at hL
      rw [hL]
      have hX : ((some (valX 0 (bs s))).bind fun x_4 => onL x_4 (fun a_5 => some (a_5, (true, ()))) (fun a_6 => some (a_6.1, (a_6.2, ()))) (fun _ => none)) = some (if (bs s).all dig = true then (valD 0 (bs s), true, ()) else (0, false, ())) := by
        unfold valX
        cases (bs s).all dig <;> rfl
      rw [hX]
      have hne : (bs s).isEmpty = false := by cases hb : bs s with
        | nil => exact absurd hb he
        | cons _ _ => rfl
      have g16 : ¬ ((s.size : Int) > 16) := by omega
      rw [hlen]
      by_cases h1 : 1 < s.size
      · obtain ⟨c, r, hcr⟩ : ∃ c r, bs s = c :: r := by cases hb : bs s with
          | nil => exact absurd hb he
          | cons c r => exact ⟨c, r, rfl⟩
        have hb0 : bt s ((0 : Nat) : Int) = c := bt_at (by rw [hcr]; rfl)
        rw [show ((0 : Nat) : Int) = 0 from rfl] at hb0
        have g1 : (s.size : Int) > 1 := by omega
        have g2 : (0 : Int) < (s.size : Int) := by omega
        simp only [he, g16, g1, g2, hb0, hne, h1, h16]
        by_cases h48 : c = 48
        · subst h48; simp [hcr]
        · have : (c == 48) = false := by simpa using h48
          simp [hcr, h48, this]
      · have g1 : ¬ ((s.size : Int) > 1) := by omega
        simp [he, g16, g1, hne, h1, h16]
    · have g16 : (s.size : Int) > 16 := by omega
      have : ¬ (bs s).length ≤ 16 := by omega
      simp [he, g16, this]
theorem okR_V (w : List Int) : okR w = (okV w && decide (valD 0 w ≤ 255)) := rfl
end Go.Proofs.YthmhobnhladhbaaDoor.AM
