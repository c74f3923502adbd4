/- What the functions of addr and of its reference tell: part 12: Path; the law AddrPaths. -/
import Derived.Test.YthmhobnhladhbaaDoorQ11
namespace Go.Proofs.YthmhobnhladhbaaDoor.AM
open Go
set_option linter.unusedSimpArgs false
set_option linter.unusedVariables false

theorem path_same (n : Nat) (s : ByteArray) (hs : s.size ≤ 400000) (hn : 10000000 ≤ n) : ∃ (p q : Box) (u v ok : Bool), pouchref4_Path n s = some (p, u, ok, ()) ∧ addr_Path n s = some (q, v, (if ok = true then 0 else 8), ()) ∧ (ok = true → bs p.1 = bs q.1 ∧ bs p.2.1 = bs q.2.1 ∧ u = v) := by
  unfold pouchref4_Path pouchref4_Path_B addr_Path addr_Path_B
  by_cases c1 : (s.toList == (⟨#[60, 62]⟩ : ByteArray).toList) = true
  · rw [if_pos c1, if_pos c1]
    exact ⟨noBox, noBox, true, true, true, rfl, rfl, fun _ => ⟨rfl, rfl, rfl⟩⟩
  rw [if_neg c1, if_neg c1]
  by_cases c2 : decide ((s.size : Int) < (2 : Int)) = false
  · rw [if_pos c2, if_pos c2]
    have hz : ¬ ((s.size : Int) < 2) := of_decide_eq_false c2
    have w : IntKind.wrap .i64 ((s.size : Int) - 1) = (s.size : Int) - 1 := wr (by omega) (by omega)
    have c3 : 0 ≤ (0 : Int) ∧ (0 : Int) < (s.size : Int) := ⟨by omega, by omega⟩
    rw [w, if_pos c3, if_pos c3]
    by_cases c4 : ((bt s (0 : Int)) != (60 : Int)) = false
    · rw [if_pos c4, if_pos c4]
      have c5 : 0 ≤ (s.size : Int) - 1 ∧ (s.size : Int) - 1 < (s.size : Int) := ⟨by omega, by omega⟩
      rw [if_pos c5, if_pos c5]
      by_cases c6 : ((bt s ((s.size : Int) - 1)) != (62 : Int)) = true
      · rw [if_pos c6, if_pos c6]
        exact ⟨noBox, noBox, false, false, false, rfl, rfl, fun h => by cases h⟩
      · rw [if_neg c6, if_neg c6]
        have c7 : 0 ≤ (s.size : Int) - 1 ∧ (s.size : Int) - 1 ≤ (s.size : Int) := ⟨by omega, by omega⟩
        have c8 : 0 ≤ (1 : Int) ∧ (1 : Int) ≤ (s.size : Int) - 1 := ⟨by omega, by omega⟩
        rw [if_pos c7, if_pos c8, if_pos c7, if_pos c8]
        have ht : (s.extract (Int.toNat (1 : Int)) (Int.toNat ((s.size : Int) - 1))).size ≤ 400000 := by
          rw [← bs_len, bs_ext, List.length_drop, List.length_take, bs_len]; omega
        have hP := Parse_eq n _ ht hn
        have hR := rParse_eq n _ ht hn
        rw [← par_same] at hR
        cases hv : parP (bs (s.extract (Int.toNat (1 : Int)) (Int.toNat ((s.size : Int) - 1)))) with
        | none =>
          rw [hv] at hP hR
          simp only [RefIs] at hP hR
          rw [hP, hR]
          exact ⟨noBox, noBox, false, false, false, rfl, rfl, fun h => by cases h⟩
        | some y =>
          rw [hv] at hP hR
          obtain ⟨t1, t2, j1, j2, j3⟩ := hP
          obtain ⟨u1, u2, k1, k2, k3⟩ := hR
          rw [j1, k1]
          exact ⟨(u1, (u2, ())), (t1, (t2, ())), false, false, true, rfl, rfl, fun _ => ⟨k2.trans j2.symm, k3.trans j3.symm, rfl⟩⟩
    · rw [if_neg c4, if_neg c4]
      exact ⟨noBox, noBox, false, false, false, rfl, rfl, fun h => by cases h⟩
  · rw [if_neg c2, if_neg c2]
    exact ⟨noBox, noBox, false, false, false, rfl, rfl, fun h => by cases h⟩

theorem AddrPaths_one (n : Nat) (hn : 10000000 ≤ n) (l : Sq Ask) (i : Nat) (hi : i < l.n) (h1 : (l.at' i).2.1.size ≤ 100000) (k m : Nat) (hk : k < 2) (s : ByteArray) (hs : s.size ≤ 400000) (hsk : List.getD (α := ByteArray) [(l.at' i).2.1, (((⟨#[60]⟩ : ByteArray) ++ (l.at' i).2.1) ++ (⟨#[62]⟩ : ByteArray))] k (zeroEl .str) = s) :
    pouchlaw4_AddrPaths_L1 n (m + 1) l i k = pouchlaw4_AddrPaths_L1 n m l i ((k + 1 : Nat) : Int) := by
  have a1 : (0 : Int) ≤ (k : Int) := by omega
  have a2 : (k : Int) < 2 := by omega
  have a3 : (0 : Int) ≤ (i : Int) := by omega
  have a4 : (i : Int) < (l.n : Int) := by omega
  have e1 := wr1 (k := k) (by omega)
  have h60 : (⟨#[60]⟩ : ByteArray).size = 1 := rfl
  have h62 : (⟨#[62]⟩ : ByteArray).size = 1 := rfl
  have f1 : strFits (⟨#[60]⟩ : ByteArray) (l.at' i).2.1 = true := fitS (by omega)
  have f2 : strFits ((⟨#[60]⟩ : ByteArray) ++ (l.at' i).2.1) (⟨#[62]⟩ : ByteArray) = true := fitS (by rw [ByteArray.size_append]; omega)
  obtain ⟨p, q, u, v, ok, j1, j2, j3⟩ := path_same n s hs hn
  simp only [pouchlaw4_AddrPaths_L1, pouchlaw4_AddrPaths_B1, a1, a2, a3, a4, e1, f1, f2, Int.toNat_natCast, decide_true]
  rw [hsk]
  cases ok with
  | true =>
    obtain ⟨k1, k2, k3⟩ := j3 rfl
    simp only [j1, j2, Option.bind_some, num_eq, str_eq, k1, k2, k3]
    simp
  | false =>
    simp only [j1, j2, Option.bind_some, num_eq, str_eq]
    simp
theorem AddrPaths_L1 (n : Nat) (hn : 10000000 ≤ n) (l : Sq Ask) (i : Nat) (hi : i < l.n) (h1 : (l.at' i).2.1.size ≤ 100000) : pouchlaw4_AddrPaths_L1 n n l i 0 = some (.out (l, (i : Int))) := by
  obtain ⟨m, rfl⟩ : ∃ m, n = m + 3 := ⟨n - 3, by omega⟩
  have h60 : (⟨#[60]⟩ : ByteArray).size = 1 := rfl
  have h62 : (⟨#[62]⟩ : ByteArray).size = 1 := rfl
  have s1 := AddrPaths_one (m + 3) hn l i hi h1 0 (m + 2) (by omega) _ (Nat.le_trans h1 (by decide)) rfl
  have s2 := AddrPaths_one (m + 3) hn l i hi h1 1 (m + 1) (by omega) ((⟨#[60]⟩ ++ (l.at' i).2.1) ++ ⟨#[62]⟩) (by rw [ByteArray.size_append, ByteArray.size_append]; omega) rfl
  rw [show ((0 : Nat) : Int) = 0 from rfl] at s1
  rw [s1, s2]
  have : ¬ (((1 + 1 : Nat) : Int) < 2) := by decide
  simp only [pouchlaw4_AddrPaths_L1, pouchlaw4_AddrPaths_B1, this, decide_false]
  rfl
theorem AddrPaths_L0 (n : Nat) (hn : 10000000 ≤ n) (l : Sq Ask) (hf : Fit reachBytes (.sl tAsk) l) : ∀ (d k m : Nat), k + d = 21 → d < m → k ≤ 20 → ∃ x, pouchlaw4_AddrPaths_L0 n m l k = some x ∧ (x = .out () ∨ x = .ret true)
  | 0, k, m, h, hm, hk => by omega
  | d + 1, k, m, h, hm, hk => by
    obtain ⟨m, rfl⟩ : ∃ q, m = q + 1 := ⟨m - 1, by omega⟩
    by_cases g1 : (k : Int) < (l.n : Int)
    · by_cases g2 : (k : Int) < 20
      · have a1 : (0 : Int) ≤ (k : Int) := by omega
        have e1 := wr1 (k := k) (by omega)
        obtain ⟨f1, f2, f3⟩ := ask_fit hf k (by omega)
        have hH := heavy_eq n (l.at' k) f1 f2
        have hH' : pouchlaw4_heavy n (((l.at' k).1.1, ((l.at' k).1.2.1, ())), ((l.at' k).2.1, ())) = some (decide ((l.at' k).1.1.size + (l.at' k).1.2.1.size > 2000) || decide ((l.at' k).2.1.size > 2000)) := hH
        by_cases g3 : (decide ((l.at' k).1.1.size + (l.at' k).1.2.1.size > 2000) || decide ((l.at' k).2.1.size > 2000)) = true
        · refine ⟨.ret true, ?_, .inr rfl⟩
          rw [g3] at hH'
          simp only [pouchlaw4_AddrPaths_L0, pouchlaw4_AddrPaths_B0, g1, g2, a1, Int.toNat_natCast, hH', decide_true, Option.bind_some]
          rfl
        · have g3' : (decide ((l.at' k).1.1.size + (l.at' k).1.2.1.size > 2000) || decide ((l.at' k).2.1.size > 2000)) = false := by simpa using g3
          rw [g3'] at hH'
          simp only [Bool.or_eq_false_iff, decide_eq_false_iff_not] at g3'
          obtain ⟨x, hx, hor⟩ := AddrPaths_L0 n hn l hf d (k + 1) m (by omega) (by omega) (by omega)
          refine ⟨x, ?_, hor⟩
          rw [← hx]
          have hL := AddrPaths_L1 n hn l k (by omega) (by omega)
          simp only [pouchlaw4_AddrPaths_L0, pouchlaw4_AddrPaths_B0, g1, g2, a1, Int.toNat_natCast, hH', decide_true, Option.bind_some, hL, onL, e1]
          rfl
      · refine ⟨.out (), ?_, .inl rfl⟩
        simp only [pouchlaw4_AddrPaths_L0, pouchlaw4_AddrPaths_B0, g1, g2, decide_true, decide_false]
        rfl
    · refine ⟨.out (), ?_, .inl rfl⟩
      simp only [pouchlaw4_AddrPaths_L0, pouchlaw4_AddrPaths_B0, g1, decide_false]
      rfl
theorem plain_AddrPaths (l : Sq Ask) (h : Fit reachBytes (.sl tAsk) l) : ∃ n, pouchlaw4_AddrPaths n l = some true := by
  refine ⟨10000000, ?_⟩
  obtain ⟨x, hx, hor⟩ := AddrPaths_L0 10000000 (Nat.le_refl _) l h 21 0 10000000 rfl (by decide) (by decide)
  unfold pouchlaw4_AddrPaths pouchlaw4_AddrPaths_B
  rw [show ((0 : Nat) : Int) = 0 from rfl] at hx
  rw [hx, Option.bind_some]
  rcases hor with rfl | rfl
  · simp only [onL]
    rw [wakes_eq _ (Nat.le_refl _)]; rfl
  · rfl
end Go.Proofs.YthmhobnhladhbaaDoor.AM
