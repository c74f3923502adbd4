/- What the functions of addr and of its reference tell: part 5: domains. -/
import Derived.Test.YthmhobnhladhbaaDoorQ4
namespace Go.Proofs.YthmhobnhladhbaaDoor.AM
open Go
set_option linter.unusedSimpArgs false
set_option linter.unusedVariables false

def inner (l : List Int) : List Int := (l.take (l.length - 1)).drop 1
def litR (l : List Int) : Bool := decide (2 ≤ l.length) && decide (l.head? = some 91) && decide (l.getLast? = some 93) && litP (inner l)
theorem bs_inner (s : ByteArray) : bs (s.extract 1 (s.size - 1)) = inner (bs s) := by rw [bs_ext, inner, bs_len]
theorem ext_size (s : ByteArray) (i j : Nat) : (s.extract i j).size ≤ s.size := by
  rw [← bs_len, ← bs_len, bs_ext, List.length_drop, List.length_take]; omega
theorem bs_head {s : ByteArray} (h : 0 < s.size) : ∃ c, (bs s).head? = some c ∧ bt s 0 = c := by
  obtain ⟨c, hc⟩ : ∃ c, (bs s)[0]? = some c := ⟨_, List.getElem?_eq_getElem (by rw [bs_len]; exact h)⟩
  exact ⟨c, by rw [List.head?_eq_getElem?]; exact hc, bt_at (k := 0) hc⟩
theorem bs_last {s : ByteArray} (h : 0 < s.size) : ∃ c, (bs s).getLast? = some c ∧ bt s ((s.size - 1 : Nat) : Int) = c := by
  obtain ⟨c, hc⟩ : ∃ c, (bs s)[s.size - 1]? = some c := ⟨_, List.getElem?_eq_getElem (by rw [bs_len]; omega)⟩
  exact ⟨c, by rw [List.getLast?_eq_getElem?, bs_len]; exact hc, bt_at hc⟩
theorem wrm {k : Nat} (h0 : 0 < k) (h : k < 4611686018427387904) : IntKind.wrap .i64 ((k : Int) - 1) = ((k - 1 : Nat) : Int) := by
  rw [wr (by omega) (by omega)]; omega
theorem rLiteral_eq (n : Nat) (s : ByteArray) (hs : s.size ≤ 1000000) (hn : 10000000 ≤ n) : pouchref4_Literal n s = some (litR (bs s)) := by
  unfold pouchref4_Literal pouchref4_Literal_B litR
  rw [bs_len]
  by_cases h2 : 2 ≤ s.size
  · obtain ⟨c, hc, hb⟩ := bs_head (s := s) (by omega)
    obtain ⟨d, hd, hb2⟩ := bs_last (s := s) (by omega)
    have e1 := wrm (k := s.size) (by omega) (by omega)
    have a1 : ¬ ((s.size : Int) < 2) := by omega
    have a2 : (0 : Int) < (s.size : Int) := by omega
    have a3 : (0 : Int) ≤ ((s.size - 1 : Nat) : Int) := by omega
    have a4 : ((s.size - 1 : Nat) : Int) < (s.size : Int) := by omega
    have a5 : ((s.size - 1 : Nat) : Int) ≤ (s.size : Int) := by omega
    have a6 : (1 : Int) ≤ ((s.size - 1 : Nat) : Int) := by omega
    have hin : (s.extract (Int.toNat (1 : Int)) (s.size - 1)) = s.extract 1 (s.size - 1) := rfl
    obtain ⟨q, q1, q2⟩ := Split_eq n (s.extract 1 (s.size - 1)) 46 (Nat.le_trans (ext_size _ _ _) hs) hn
    obtain ⟨q3, q4⟩ := split_words q2
    have hq := ext_size s 1 (s.size - 1)
    have hL := rlit_L0 n hn q (by omega) _ 0 n rfl (by rw [List.drop_zero, sqL_len]; omega) (by omega)
    rw [show ((0 : Nat) : Int) = 0 from rfl, List.drop_zero, q2, bs_inner] at hL
    simp only [a1, a2, hb, e1, a3, a4, a5, a6, hb2, hc, hd, Int.toNat_natCast, hin, q1, Option.bind_some, hL]
    by_cases g1 : c = 91
    · by_cases g2 : d = 93
      · subst g1 g2
        unfold litP
        have hl4 : (splitG 46 [] (inner (bs s))).length = q.n := by rw [← bs_inner, ← q2, sqL_len]
        rw [hl4]
        by_cases ha : (splitG 46 [] (inner (bs s))).all okR = true
        · by_cases h4 : q.n = 4
          · simp [onL, ha, h4, h2]
          · have : ¬ ((q.n : Int) = 4) := by omega
            simp [onL, ha, h4, this, h2]
        · simp [onL, ha, h2]
      · have : (d != 93) = true := by simpa using g2
        simp [g1, g2, this]
    · have : (c != 91) = true := by simpa using g1
      simp [g1, this]
  · have a1 : (s.size : Int) < 2 := by omega
    simp [a1, h2]

def lch (c : Int) : Bool := sgn c || decide (c = 45)
def labR (w : List Int) : Bool := decide (1 ≤ w.length) && decide (w.length ≤ 63) && decide (w.head? ≠ some 45) && decide (w.getLast? ≠ some 45) && w.all lch
theorem dom_L1 (n : Nat) (l : Sq ByteArray) (i : Nat) (w : ByteArray) (hs : w.size ≤ 1000000) : ∀ (r : List Int) (k m : Nat), (bs w).drop k = r → k ≤ w.size → r.length < m →
    pouchref4_Domain_L1 n m l i w k = some (if r.all lch = true then .out (l, (i : Int)) else .ret false)
  | [], k, m, h, hk, hm => by
    obtain ⟨m, rfl⟩ : ∃ q, m = q + 1 := ⟨m - 1, by omega⟩
    have := at_nil h
    simp [pouchref4_Domain_L1, pouchref4_Domain_B1, this]
  | c :: r, k, m, h, hk, hm => by
    obtain ⟨m, rfl⟩ : ∃ q, m = q + 1 := ⟨m - 1, by omega⟩
    obtain ⟨h1, h2, h3, h4, h5⟩ := at_cons h
    have e1 := wr1 (k := k) (by omega)
    have a3 : (0 : Int) ≤ (k : Int) := by omega
    have ih := dom_L1 n l i w hs r (k + 1) m h3 (by omega) (by simpa using hm)
    simp only [pouchref4_Domain_L1, pouchref4_Domain_B1, h1, h2, a3, e1, digit_eq, List.all_cons]
    have hl : lch c = ((decide (97 ≤ c) && decide (c ≤ 122)) || (decide (48 ≤ c) && decide (c ≤ 57)) || decide (c = 45)) := rfl
    simp only [hl]
    by_cases b1 : 97 ≤ c <;> by_cases b2 : c ≤ 122 <;> by_cases b3 : 48 ≤ c <;> by_cases b4 : c ≤ 57 <;> by_cases b5 : c = 45 <;> first
      | (exfalso; omega)
      | (simp [b1, b2, b3, b4, b5]; done)
      | (simpa [b1, b2, b3, b4, b5] using ih)
theorem dom_L0 (n : Nat) (hn : 10000000 ≤ n) (l : Sq ByteArray) (hl : l.n ≤ 2000000) (hs : ∀ i, i < l.n → (l.at' i).size ≤ 1000000) : ∀ (W : List (List Int)) (i m : Nat), (sqL bs l).drop i = W → W.length < m → i ≤ l.n →
    pouchref4_Domain_L0 n m l i = some (if W.all labR = true then .out () else .ret false)
  | [], i, m, h, hm, hi => by
    obtain ⟨m, rfl⟩ : ∃ q, m = q + 1 := ⟨m - 1, by omega⟩
    have := sqL_nil h
    have a4 : ¬ ((i : Int) < (l.n : Int)) := by omega
    simp [pouchref4_Domain_L0, pouchref4_Domain_B0, a4]
  | w :: W, i, m, h, hm, hi => by
    obtain ⟨m, rfl⟩ : ∃ q, m = q + 1 := ⟨m - 1, by omega⟩
    obtain ⟨h1, h2, h3⟩ := sqL_drop h
    have e1 := wr1 (k := i) (by omega)
    have a1 : (0 : Int) ≤ (i : Int) := by omega
    have a2 : (i : Int) < (l.n : Int) := by omega
    have ih := dom_L0 n hn l hl hs W (i + 1) m h3 (by simpa using hm) (by omega)
    have hsz := hs i h1
    have hw := dom_L1 n l i (l.at' i) hsz (bs (l.at' i)) 0 n (by simp) (by omega) (by rw [bs_len]; omega)
    rw [show ((0 : Nat) : Int) = 0 from rfl, h2] at hw
    have hlen : w.length = (l.at' i).size := by rw [← h2, bs_len]
    simp only [pouchref4_Domain_L0, pouchref4_Domain_B0, a1, a2, Int.toNat_natCast, hw, e1, List.all_cons]
    have hlab : labR w = (decide (1 ≤ (l.at' i).size) && decide ((l.at' i).size ≤ 63) && decide (w.head? ≠ some 45) && decide (w.getLast? ≠ some 45) && w.all lch) := by unfold labR; rw [hlen]
    simp only [hlab]
    by_cases g1 : 1 ≤ (l.at' i).size
    · by_cases g2 : (l.at' i).size ≤ 63
      · obtain ⟨c, hc, hb⟩ := bs_head (s := l.at' i) (by omega)
        obtain ⟨d, hd, hb2⟩ := bs_last (s := l.at' i) (by omega)
        rw [h2] at hc hd
        have e2 := wrm (k := (l.at' i).size) (by omega) (by omega)
        have b1 : ¬ (((l.at' i).size : Int) < 1) := by omega
        have b2 : ¬ (((l.at' i).size : Int) > 63) := by omega
        have b3 : (0 : Int) < ((l.at' i).size : Int) := by omega
        have b4 : (0 : Int) ≤ (((l.at' i).size - 1 : Nat) : Int) := by omega
        have b5 : (((l.at' i).size - 1 : Nat) : Int) < ((l.at' i).size : Int) := by omega
        simp only [b1, b2, b3, hb, e2, b4, b5, hb2, hc, hd, g1, g2]
        by_cases x1 : c = 45
        · simp [x1]
        · by_cases x2 : d = 45
          · simp [x1, x2]
          · by_cases x3 : w.all lch = true
            · simp only [x3, if_true, Option.bind_some, onL]
              have e1' : IntKind.wrap .i64 ((i : Int) + 1) = (i : Int) + 1 := e1
              simpa [x1, x2, x3, e1'] using ih
            · simp [x1, x2, x3, onL]
      · have b1 : ¬ (((l.at' i).size : Int) < 1) := by omega
        have b2 : (((l.at' i).size : Int) > 63) := by omega
        simp [b1, b2, g2]
    · have b1 : (((l.at' i).size : Int) < 1) := by omega
      simp [b1, g1]
def domR (l : List Int) : Bool := decide (l.length ≤ 255) && (litR l || (splitG 46 [] l).all labR)
theorem rDomain_eq (n : Nat) (s : ByteArray) (hs : s.size ≤ 1000000) (hn : 10000000 ≤ n) : pouchref4_Domain n s = some (domR (bs s)) := by
  obtain ⟨q, q1, q2⟩ := Split_eq n s 46 hs hn
  obtain ⟨q3, q4⟩ := split_words q2
  have hL := dom_L0 n hn q (by omega) (fun i hi => Nat.le_trans (q4 i hi) hs) _ 0 n rfl (by rw [List.drop_zero, sqL_len]; omega) (by omega)
  rw [show ((0 : Nat) : Int) = 0 from rfl, List.drop_zero, q2] at hL
  unfold pouchref4_Domain pouchref4_Domain_B domR
  rw [bs_len, rLiteral_eq n s hs hn, q1, Option.bind_some, Option.bind_some, hL]
  by_cases g : s.size ≤ 255
  · have : ¬ ((s.size : Int) > 255) := by omega
    by_cases h1 : litR (bs s) = true
    · simp [g, this, h1]
    · by_cases h2 : (splitG 46 [] (bs s)).all labR = true
      · simp [g, this, h1, h2, onL]
      · simp [g, this, h1, h2, onL]
  · have : ((s.size : Int) > 255) := by omega
    simp [g, this]
/-- The program's label. -/
def lbB (L : Nat) : Nat → List Int → Bool
  | _, [] => true
  | i, c :: r => if sgn c = true then lbB L (i + 1) r else if c ≠ 45 then false else if i = 0 then false else if i = L - 1 then false else lbB L (i + 1) r
theorem label_L0 (n : Nat) (s : ByteArray) (hs : s.size ≤ 1000000) : ∀ (r : List Int) (k m : Nat), (bs s).drop k = r → k ≤ s.size → r.length < m → addr_label_L0 n m s s.size k = some (if lbB s.size k r = true then .out s else .ret false)
  | [], k, m, h, hk, hm => by
    obtain ⟨m, rfl⟩ : ∃ q, m = q + 1 := ⟨m - 1, by omega⟩
    have := at_nil h
    simp [addr_label_L0, addr_label_B0, this, lbB]
  | c :: r, k, m, h, hk, hm => by
    obtain ⟨m, rfl⟩ : ∃ q, m = q + 1 := ⟨m - 1, by omega⟩
    obtain ⟨h1, h2, h3, h4, h5⟩ := at_cons h
    have e1 := wr1 (k := k) (by omega)
    have e2 := wrm (k := s.size) (by omega) (by omega)
    have a3 : (0 : Int) ≤ (k : Int) := by omega
    have ih := label_L0 n s hs r (k + 1) m h3 (by omega) (by simpa using hm)
    simp only [addr_label_L0, addr_label_B0, h1, h2, a3, e1, e2, sign_eq, Option.bind_some, lbB]
    by_cases g1 : sgn c = true
    · simpa [g1] using ih
    · by_cases g2 : c = 45
      · have h45 : sgn 45 = false := by decide
        by_cases g3 : k = 0
        · subst g3; simp [g1, g2, h45]
        · have x3 : ((k : Int) == 0) = false := by simpa using g3
          by_cases g4 : k = s.size - 1
          · have : ((k : Int) == ((s.size - 1 : Nat) : Int)) = true := by rw [g4]; simp
            simp [g1, g2, g3, x3, this, ← g4, h45]
          · have : ((k : Int) == ((s.size - 1 : Nat) : Int)) = false := by simp only [beq_eq_false_iff_ne]; omega
            simpa [g1, g2, g3, g4, x3, this, h45] using ih
      · have : (c != 45) = true := by simpa using g2
        simp [g1, g2, this]
theorem lbB_eq : ∀ (r : List Int) (i L : Nat), i + r.length = L → lbB L i r = (r.all lch && decide (i = 0 → r.head? ≠ some 45) && decide (r.getLast? ≠ some 45))
  | [], i, L, h => by simp [lbB]
  | c :: r, i, L, h => by
    simp only [List.length_cons] at h
    have ih := lbB_eq r (i + 1) L (by omega)
    have hlast : (c :: r).getLast? = if r = [] then some c else r.getLast? := by
      cases r with
      | nil => rfl
      | cons d r => simp [List.getLast?_cons_cons]
    simp only [lbB, List.all_cons, List.head?_cons, hlast]
    have h45 : sgn 45 = false := by decide
    by_cases g2 : c = 45
    · subst g2
      simp only [h45, lch]
      by_cases g3 : i = 0
      · subst g3; simp
      · by_cases g4 : r = []
        · subst g4
          have : i = L - 1 := by simp at h; omega
          simp [g3, ← this]
        · have : ¬ i = L - 1 := by
            have : 0 < r.length := List.length_pos_iff.2 g4
            omega
          simp [g3, g4, this, ih]
    · by_cases g1 : sgn c = true
      · by_cases g4 : r = []
        · subst g4; simp [g1, g2, lch, lbB]
        · simp [g1, g2, g4, lch, ih]
      · simp [g1, g2, lch]
theorem label_eq (n : Nat) (s : ByteArray) (hs : s.size ≤ 1000000) (hn : 10000000 ≤ n) : addr_label n s = some (labR (bs s)) := by
  have hL := label_L0 n s hs (bs s) 0 n (by simp) (by omega) (by rw [bs_len]; omega)
  rw [show ((0 : Nat) : Int) = 0 from rfl] at hL
  have hx : labR (bs s) = (decide (1 ≤ s.size) && decide (s.size ≤ 63) && lbB s.size 0 (bs s)) := by
    rw [lbB_eq (bs s) 0 s.size (by rw [bs_len]; omega)]
    unfold labR
    rw [bs_len]
    by_cases g4 : (bs s).head? = some 45 <;> by_cases g5 : (bs s).getLast? = some 45 <;> cases decide (1 ≤ s.size) <;> cases decide (s.size ≤ 63) <;> cases (bs s).all lch <;> simp [g4, g5]
  unfold addr_label addr_label_B
  rw [hL, hx]
  have e1 : (decide ((s.size : Int) ≥ 1)) = decide (1 ≤ s.size) := by rw [decide_eq_decide]; omega
  have e2 : (decide ((s.size : Int) ≤ 63)) = decide (s.size ≤ 63) := by rw [decide_eq_decide]; omega
  cases hb : lbB s.size 0 (bs s)
  · simp [onL]
  · simp only [if_true, Option.bind_some, onL, e1, e2]
    cases decide (1 ≤ s.size) <;> simp
end Go.Proofs.YthmhobnhladhbaaDoor.AM
