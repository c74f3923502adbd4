/- What the functions of addr and of its reference tell: part 14: the laws AddrQuotes and AddrEdges. -/
import Derived.Test.YthmhobnhladhbaaDoorQ13
namespace Go.Proofs.YthmhobnhladhbaaDoor.AM
open Go
set_option linter.unusedSimpArgs false
set_option linter.unusedVariables false

/-! AddrQuotes. -/
theorem Quotes_L0 (n : Nat) (hn : 10000000 ≤ n) (l : Sq Ask) (I O : Sq ByteArray) (N : Nat) (hN : N ≤ 1000) (hI : I.n = N) (hO : O.n = N) (hs : ∀ i, i < N → (I.at' i).size ≤ 1000) (good : ∀ i, i < N → parP (bs (I.at' i)) = some (bs (O.at' i), [120])) :
    ∀ (d k m : Nat), k + d = N → d < m → pouchlaw4_AddrQuotes_L0 n m l k I O = some (.out l)
  | 0, k, m, h, hm => by
    obtain ⟨m, rfl⟩ : ∃ q, m = q + 1 := ⟨m - 1, by omega⟩
    have : ¬ ((k : Int) < (I.n : Int)) := by omega
    simp only [pouchlaw4_AddrQuotes_L0, pouchlaw4_AddrQuotes_B0, this, decide_false]
    rfl
  | d + 1, k, m, h, hm => by
    obtain ⟨m, rfl⟩ : ∃ q, m = q + 1 := ⟨m - 1, by omega⟩
    have ih := Quotes_L0 n hn l I O N hN hI hO hs good d (k + 1) m (by omega) (by omega)
    have a0 : (0 : Int) ≤ (k : Int) := by omega
    have a1 : (k : Int) < (I.n : Int) := by omega
    have a2 : (k : Int) < (O.n : Int) := by omega
    have e1 := wr1 (k := k) (by omega)
    have hP := Parse_eq n (I.at' k) (Nat.le_trans (hs k (by omega)) (by decide)) hn
    rw [good k (by omega)] at hP
    obtain ⟨t1, t2, j1, j2, j3⟩ := hP
    rw [← ih]
    simp only [pouchlaw4_AddrQuotes_L0, pouchlaw4_AddrQuotes_B0, a0, a1, a2, Int.toNat_natCast, j1, Option.bind_some, num_eq, str_eq, j2, j3, e1, decide_true]
    rfl
theorem Quotes_L1 (n : Nat) (hn : 10000000 ≤ n) (l : Sq Ask) (I : Sq ByteArray) (N : Nat) (hN : N ≤ 1000) (hI : I.n = N) (hs : ∀ i, i < N → (I.at' i).size ≤ 1000) (good : ∀ i, i < N → parP (bs (I.at' i)) = none) :
    ∀ (d k m : Nat), k + d = N → d < m → pouchlaw4_AddrQuotes_L1 n m l k I = some (.out l)
  | 0, k, m, h, hm => by
    obtain ⟨m, rfl⟩ : ∃ q, m = q + 1 := ⟨m - 1, by omega⟩
    have : ¬ ((k : Int) < (I.n : Int)) := by omega
    simp only [pouchlaw4_AddrQuotes_L1, pouchlaw4_AddrQuotes_B1, this, decide_false]
    rfl
  | d + 1, k, m, h, hm => by
    obtain ⟨m, rfl⟩ : ∃ q, m = q + 1 := ⟨m - 1, by omega⟩
    have ih := Quotes_L1 n hn l I N hN hI hs good d (k + 1) m (by omega) (by omega)
    have a0 : (0 : Int) ≤ (k : Int) := by omega
    have a1 : (k : Int) < (I.n : Int) := by omega
    have e1 := wr1 (k := k) (by omega)
    have hP := Parse_eq n (I.at' k) (Nat.le_trans (hs k (by omega)) (by decide)) hn
    rw [good k (by omega)] at hP
    simp only at hP
    rw [← ih]
    simp only [pouchlaw4_AddrQuotes_L1, pouchlaw4_AddrQuotes_B1, a0, a1, Int.toNat_natCast, hP, Option.bind_some, num_eq, e1, decide_true]
    rfl
theorem Quotes_a (n : Nat) (hn : 10000000 ≤ n) (l : Sq Ask) (I O : Sq ByteArray) (hI : I.n = 8) (hO : O.n = 8) (hs : ∀ i, i < 8 → (I.at' i).size ≤ 1000) (good : ∀ i, i < 8 → parP (bs (I.at' i)) = some (bs (O.at' i), [120])) : pouchlaw4_AddrQuotes_L0 n n l 0 I O = some (.out l) :=
  Quotes_L0 n hn l I O 8 (by decide) hI hO hs good 8 0 n rfl (by omega)
theorem Quotes_b (n : Nat) (hn : 10000000 ≤ n) (l : Sq Ask) (I : Sq ByteArray) (hI : I.n = 18) (hs : ∀ i, i < 18 → (I.at' i).size ≤ 1000) (good : ∀ i, i < 18 → parP (bs (I.at' i)) = none) : pouchlaw4_AddrQuotes_L1 n n l 0 I = some (.out l) :=
  Quotes_L1 n hn l I 18 (by decide) hI hs good 18 0 n rfl (by omega)
theorem plain_AddrQuotes (l : Sq Ask) (h : Fit reachBytes (.sl tAsk) l) : ∃ n, pouchlaw4_AddrQuotes n l = some true := by
  refine ⟨10000000, ?_⟩
  have hn : 10000000 ≤ 10000000 := Nat.le_refl _
  have hP := Parse_eq 10000000 (⟨#[97, 64, 91, 49, 48, 46, 48, 46, 50, 53, 53, 46, 49, 93]⟩ : ByteArray) (by decide) hn
  have e : parP (bs (⟨#[97, 64, 91, 49, 48, 46, 48, 46, 50, 53, 53, 46, 49, 93]⟩ : ByteArray)) = some ([97], [91, 49, 48, 46, 48, 46, 50, 53, 53, 46, 49, 93]) := by decide +kernel
  rw [e] at hP
  obtain ⟨t1, t2, j1, j2, j3⟩ := hP
  unfold pouchlaw4_AddrQuotes pouchlaw4_AddrQuotes_B
  rw [Quotes_a 10000000 hn l _ _ ?_ ?_ ?_ ?_, Option.bind_some]
  · simp only [onL]
    rw [Quotes_b 10000000 hn l _ ?_ ?_ ?_, Option.bind_some]
    · simp only [onL, j1, Option.bind_some, num_eq, str_eq, j2, j3, wakes_eq _ hn]
      have : (decide ((l.n : Int) ≥ 0)) = true := decide_eq_true (by omega)
      rw [this]
      decide
    · rfl
    · decide +kernel
    · decide +kernel
  · rfl
  · rfl
  · decide +kernel
  · decide +kernel

/-! AddrEdges. -/
theorem Edges_L1 (n : Nat) (l : Sq Ask) (K : Nat) (hK : K ≤ 1) (w : Int) : ∀ (d m : Nat) (lab : ByteArray), lab.size + d = 63 + K → d < m → ∃ t, pouchlaw4_AddrEdges_L1 n m l K w lab = some (.out (l, (K : Int), w, t)) ∧ bs t = bs lab ++ List.replicate d 97
  | 0, m, lab, h, hm => by
    obtain ⟨m, rfl⟩ : ∃ q, m = q + 1 := ⟨m - 1, by omega⟩
    have e : IntKind.wrap .i64 ((63 : Int) + (K : Int)) = 63 + (K : Int) := wr (by omega) (by omega)
    have : ¬ ((lab.size : Int) < 63 + (K : Int)) := by omega
    refine ⟨lab, ?_, by simp⟩
    simp only [pouchlaw4_AddrEdges_L1, pouchlaw4_AddrEdges_B1, e, this, decide_false]
    rfl
  | d + 1, m, lab, h, hm => by
    obtain ⟨m, rfl⟩ : ∃ q, m = q + 1 := ⟨m - 1, by omega⟩
    have e : IntKind.wrap .i64 ((63 : Int) + (K : Int)) = 63 + (K : Int) := wr (by omega) (by omega)
    have c : (lab.size : Int) < 63 + (K : Int) := by omega
    have hz : (⟨#[97]⟩ : ByteArray).size = 1 := rfl
    have f : strFits lab (⟨#[97]⟩ : ByteArray) = true := fitS (by omega)
    obtain ⟨t, ht, hb⟩ := Edges_L1 n l K hK w d m (lab ++ (⟨#[97]⟩ : ByteArray)) (by rw [ByteArray.size_append]; omega) (by omega)
    refine ⟨t, ?_, ?_⟩
    · rw [← ht]
      simp only [pouchlaw4_AddrEdges_L1, pouchlaw4_AddrEdges_B1, e, c, f, decide_true]
      rfl
    · rw [hb, bs_app, List.replicate_succ, List.append_assoc]; rfl
theorem Edges_L2 (n : Nat) (l : Sq Ask) (K : Nat) (hK : K ≤ 1) (w : Int) (lb : ByteArray) : ∀ (d m : Nat) (lab : ByteArray), lab.size + d = 64 + K → d < m → ∃ t, pouchlaw4_AddrEdges_L2 n m l K w lb lab = some (.out (l, (K : Int), w, lb, t)) ∧ bs t = bs lab ++ List.replicate d 98
  | 0, m, lab, h, hm => by
    obtain ⟨m, rfl⟩ : ∃ q, m = q + 1 := ⟨m - 1, by omega⟩
    have e : IntKind.wrap .i64 ((64 : Int) + (K : Int)) = 64 + (K : Int) := wr (by omega) (by omega)
    have : ¬ ((lab.size : Int) < 64 + (K : Int)) := by omega
    refine ⟨lab, ?_, by simp⟩
    simp only [pouchlaw4_AddrEdges_L2, pouchlaw4_AddrEdges_B2, e, this, decide_false]
    rfl
  | d + 1, m, lab, h, hm => by
    obtain ⟨m, rfl⟩ : ∃ q, m = q + 1 := ⟨m - 1, by omega⟩
    have e : IntKind.wrap .i64 ((64 : Int) + (K : Int)) = 64 + (K : Int) := wr (by omega) (by omega)
    have c : (lab.size : Int) < 64 + (K : Int) := by omega
    have hz : (⟨#[98]⟩ : ByteArray).size = 1 := rfl
    have f : strFits lab (⟨#[98]⟩ : ByteArray) = true := fitS (by omega)
    obtain ⟨t, ht, hb⟩ := Edges_L2 n l K hK w lb d m (lab ++ (⟨#[98]⟩ : ByteArray)) (by rw [ByteArray.size_append]; omega) (by omega)
    refine ⟨t, ?_, ?_⟩
    · rw [← ht]
      simp only [pouchlaw4_AddrEdges_L2, pouchlaw4_AddrEdges_B2, e, c, f, decide_true]
      rfl
    · rw [hb, bs_app, List.replicate_succ, List.append_assoc]; rfl
def nx (l : List Int) : List Int := if l.length % 10 = 5 ∧ l.length < 253 then l ++ [46] else l ++ [97]
def itN : Nat → List Int → List Int
  | 0, l => l
  | d + 1, l => itN d (nx l)
theorem itN_len : ∀ (d : Nat) (l : List Int), (itN d l).length = l.length + d
  | 0, l => rfl
  | d + 1, l => by
    rw [itN, itN_len d]
    have : (nx l).length = l.length + 1 := by unfold nx; split <;> simp
    omega
theorem Edges_L3 (n : Nat) (l : Sq Ask) (K : Nat) (hK : K ≤ 1) (w : Int) (lb lo : ByteArray) : ∀ (d m : Nat) (lab : ByteArray), lab.size + d = 255 + K → d < m → ∃ t, pouchlaw4_AddrEdges_L3 n m l K w lb lo lab = some (.out (l, (K : Int), w, lb, lo, t)) ∧ bs t = itN d (bs lab)
  | 0, m, lab, h, hm => by
    obtain ⟨m, rfl⟩ : ∃ q, m = q + 1 := ⟨m - 1, by omega⟩
    have e : IntKind.wrap .i64 ((255 : Int) + (K : Int)) = 255 + (K : Int) := wr (by omega) (by omega)
    have : ¬ ((lab.size : Int) < 255 + (K : Int)) := by omega
    refine ⟨lab, ?_, rfl⟩
    simp only [pouchlaw4_AddrEdges_L3, pouchlaw4_AddrEdges_B3, e, this, decide_false]
    rfl
  | d + 1, m, lab, h, hm => by
    obtain ⟨m, rfl⟩ : ∃ q, m = q + 1 := ⟨m - 1, by omega⟩
    have e : IntKind.wrap .i64 ((255 : Int) + (K : Int)) = 255 + (K : Int) := wr (by omega) (by omega)
    have c : (lab.size : Int) < 255 + (K : Int) := by omega
    have hz : (⟨#[97]⟩ : ByteArray).size = 1 := rfl
    have hz' : (⟨#[46]⟩ : ByteArray).size = 1 := rfl
    have f : strFits lab (⟨#[97]⟩ : ByteArray) = true := fitS (by omega)
    have f' : strFits lab (⟨#[46]⟩ : ByteArray) = true := fitS (by omega)
    have ht : Int.tmod (lab.size : Int) 10 = ((lab.size % 10 : Nat) : Int) := by
      rw [Int.tmod_eq_emod_of_nonneg (by omega)]; rfl
    by_cases c1 : lab.size % 10 = 5 ∧ lab.size < 253
    · have g1 : (Int.tmod (lab.size : Int) 10 == 5) = true := by rw [ht, c1.1]; rfl
      have g2 : (lab.size : Int) < 253 := by omega
      obtain ⟨t, ht', hb⟩ := Edges_L3 n l K hK w lb lo d m (lab ++ (⟨#[46]⟩ : ByteArray)) (by rw [ByteArray.size_append]; omega) (by omega)
      refine ⟨t, ?_, ?_⟩
      · rw [← ht']
        simp only [pouchlaw4_AddrEdges_L3, pouchlaw4_AddrEdges_B3, e, c, f', g1, g2, decide_true]
        rfl
      · rw [hb, bs_app, itN]
        unfold nx
        rw [if_pos (by rw [bs_len]; exact c1)]; rfl
    · obtain ⟨t, ht', hb⟩ := Edges_L3 n l K hK w lb lo d m (lab ++ (⟨#[97]⟩ : ByteArray)) (by rw [ByteArray.size_append]; omega) (by omega)
      refine ⟨t, ?_, ?_⟩
      · rw [← ht']
        by_cases c2 : lab.size % 10 = 5
        · have g1 : (Int.tmod (lab.size : Int) 10 == 5) = true := by rw [ht, c2]; rfl
          have g2 : ¬ ((lab.size : Int) < 253) := by omega
          simp only [pouchlaw4_AddrEdges_L3, pouchlaw4_AddrEdges_B3, e, c, f, g1, g2, decide_true, decide_false]
          rfl
        · have g1 : (Int.tmod (lab.size : Int) 10 == 5) = false := by
            rw [ht]
            have : ¬ (((lab.size % 10 : Nat) : Int) = 5) := by omega
            simpa using this
          simp only [pouchlaw4_AddrEdges_L3, pouchlaw4_AddrEdges_B3, e, c, f, g1, decide_true]
          rfl
      · rw [hb, bs_app, itN]
        unfold nx
        rw [if_neg (by rw [bs_len]; exact c1)]; rfl
theorem Edges_step (n : Nat) (hn : 10000000 ≤ n) (l : Sq Ask) (K : Nat) (hK : K ≤ 1) (m : Nat) : pouchlaw4_AddrEdges_L0 n (m + 1) l K = pouchlaw4_AddrEdges_L0 n m l ((K + 1 : Nat) : Int) := by
  have a1 : (0 : Int) ≤ (K : Int) := by omega
  have a2 : (K : Int) < 2 := by omega
  have e1 := wr1 (k := K) (by omega)
  have hr : rowFits (Int.toNat (0 : Int)) 1 = true := by decide
  have z0 : (strOf (Int.toNat (0 : Int)) (fun _ => (0 : Int))) = (⟨#[]⟩ : ByteArray) := rfl
  have hW : List.getD (α := Int) [(0 : Int), (1 : Int)] K (zeroEl (.int .i64)) = (K : Int) := by
    rcases (by omega : K = 0 ∨ K = 1) with rfl | rfl <;> rfl
  have s0 : (⟨#[]⟩ : ByteArray).size = 0 := rfl
  have s1 : (⟨#[97]⟩ : ByteArray).size = 1 := rfl
  obtain ⟨t1, j1, b1⟩ := Edges_L1 n l K hK (K : Int) (63 + K) n (⟨#[]⟩ : ByteArray) (by omega) (by omega)
  obtain ⟨t2, j2, b2⟩ := Edges_L2 n l K hK (K : Int) t1 (64 + K) n (⟨#[]⟩ : ByteArray) (by omega) (by omega)
  obtain ⟨t3, j3, b3⟩ := Edges_L3 n l K hK (K : Int) t1 t2 (254 + K) n (⟨#[97]⟩ : ByteArray) (by omega) (by omega)
  have z1 : t1.size ≤ 100000 := by rw [← bs_len, b1, List.length_append, List.length_replicate, bs_len]; omega
  have z2 : t2.size ≤ 100000 := by rw [← bs_len, b2, List.length_append, List.length_replicate, bs_len]; omega
  have z3 : t3.size ≤ 100000 := by rw [← bs_len, b3, itN_len, bs_len]; omega
  have sx : (⟨#[120]⟩ : ByteArray).size ≤ 100000 := by decide
  have c1 : addr_Check n ((⟨#[120]⟩ : ByteArray), (t1, ())) = some (K : Int) := by
    rw [Check_eq n _ _ sx z1 hn, b1]
    rcases (by omega : K = 0 ∨ K = 1) with rfl | rfl <;> decide +kernel
  have c2 : addr_Check n (t2, ((⟨#[120]⟩ : ByteArray), ())) = some (K : Int) := by
    rw [Check_eq n _ _ z2 sx hn, b2]
    rcases (by omega : K = 0 ∨ K = 1) with rfl | rfl <;> decide +kernel
  have c3 : addr_Check n ((⟨#[120]⟩ : ByteArray), (t3, ())) = some (K : Int) := by
    rw [Check_eq n _ _ sx z3 hn, b3]
    rcases (by omega : K = 0 ∨ K = 1) with rfl | rfl <;> decide +kernel
  simp only [pouchlaw4_AddrEdges_L0, pouchlaw4_AddrEdges_B0, a1, a2, Int.toNat_natCast, hr, z0, hW, decide_true, j1, Option.bind_some, onL, j2, j3, c1, c2, c3, num_eq, e1]
  simp
theorem Edges_end (n : Nat) (l : Sq Ask) (m : Nat) : pouchlaw4_AddrEdges_L0 n (m + 1) l ((1 + 1 : Nat) : Int) = some (.out l) := by
  have : ¬ (((1 + 1 : Nat) : Int) < 2) := by decide
  simp only [pouchlaw4_AddrEdges_L0, pouchlaw4_AddrEdges_B0, this, decide_false]
  rfl
theorem plain_AddrEdges (l : Sq Ask) (h : Fit reachBytes (.sl tAsk) l) : ∃ n, pouchlaw4_AddrEdges n l = some true := by
  refine ⟨10000000, ?_⟩
  have hn : 10000000 ≤ 10000000 := Nat.le_refl _
  have s1 := Edges_step 10000000 hn l 0 (by decide) 9999999
  have s2 := Edges_step 10000000 hn l 1 (by decide) 9999998
  have s3 := Edges_end 10000000 l 9999997
  have s : pouchlaw4_AddrEdges_L0 10000000 10000000 l 0 = some (.out l) := s1.trans (s2.trans s3)
  have hW : pouchlaw0_Within 10000000 5 3 = some 2 := by decide
  unfold pouchlaw4_AddrEdges pouchlaw4_AddrEdges_B
  have : (decide ((l.n : Int) ≥ 0)) = true := decide_eq_true (by omega)
  rw [s, Option.bind_some]
  simp only [onL, this, hW, Option.bind_some, wakes_eq _ hn]
  decide
end Go.Proofs.YthmhobnhladhbaaDoor.AM
