/- Both ways to read a mailbox are one; what the laws of addr are made of. -/
import Derived.Test.YthmhobnhladhbaaDoorQ10
import Derived.Test.YthmhobnhladhbaaDoorAm22
namespace Go.Proofs.YthmhobnhladhbaaDoor.AM
open Go
set_option linter.unusedSimpArgs false
set_option linter.unusedVariables false

theorem qd_ok : ∀ (N : Nat) (r : List Int), r.length ≤ N → ∀ x, qd r = some x → x.1.all okc = true
  | _, [], _, x, h => by cases h
  | 0, c :: r, h, _, _ => by simp at h
  | N + 1, c :: r, hN, x, h => by
    rw [qd_cons] at h
    split at h
    · cases h; rfl
    · split at h
      · cases r with
        | nil => cases h
        | cons d r =>
          simp only at h
          split at h
          · rename_i hd
            obtain ⟨y, hy, rfl⟩ := Option.map_eq_some_iff.1 h
            have := qd_ok N r (by simp at hN; omega) y hy
            rw [List.all_cons, hd, this]; rfl
          · cases h
      · split at h
        · rename_i hd
          obtain ⟨y, hy, rfl⟩ := Option.map_eq_some_iff.1 h
          have := qd_ok N r (by simp at hN; omega) y hy
          rw [List.all_cons, hd, this]; rfl
        · cases h
theorem qd_esc : ∀ (l : List Int), l.all okc = true → ∀ z, qd (esc l ++ 34 :: z) = some (l, z)
  | [], _, z => by rw [show esc [] ++ 34 :: z = 34 :: z from rfl, qd_cons]; rfl
  | c :: r, h, z => by
    rw [List.all_cons, Bool.and_eq_true] at h
    have ih := qd_esc r h.2 z
    rw [esc_cons]
    by_cases g : c = 34 ∨ c = 92
    · rw [if_pos g]
      rw [show ([92, c] ++ esc r) ++ 34 :: z = 92 :: c :: (esc r ++ 34 :: z) by simp, qd_cons]
      simp only [h.1, ih]
      rfl
    · rw [if_neg g]
      rw [show ([c] ++ esc r) ++ 34 :: z = c :: (esc r ++ 34 :: z) by simp, qd_cons, if_neg fun e => g (.inl e), if_neg fun e => g (.inr e), if_pos h.1, ih]
      rfl
theorem pl_head {l : List Int} (h : pl 0 l = true) : 1 ≤ l.length ∧ l.head? ≠ some 34 := by
  cases l with
  | nil => simp [pl] at h
  | cons c r =>
    refine ⟨by simp, fun e => ?_⟩
    simp at e
    subst e
    have : atom 34 = false := by decide
    simp [pl, this] at h
theorem locR_qs {m : List Int} (h : m.all okc = true) : locR (qs m) = decide ((qs m).length ≤ 64) := by
  unfold qs
  by_cases hp : pl 0 m = true
  · rw [if_pos hp]
    obtain ⟨h1, h2⟩ := pl_head hp
    unfold locR
    rw [if_neg h2, hp]
    simp [h1]
  · rw [if_neg hp]
    have hp' : pl 0 m = false := by simpa using hp
    unfold locR
    have hd : (qt m).drop 1 = esc m ++ 34 :: [] := rfl
    rw [if_pos (by rfl : (qt m).head? = some 34), hd, qd_esc m h []]
    simp [hp', qt]
theorem tw_idx : ∀ l : List Int, (idx 64 l = -1 → tw l = l.length) ∧ (idx 64 l ≠ -1 → idx 64 l = (tw l : Int) ∧ (l.drop (tw l)).head? = some 64)
  | [] => by simp [idx, tw]
  | c :: r => by
    have ih := tw_idx r
    have hge := (idx_mem (c := 64) r).2
    simp only [idx, tw]
    by_cases g : c = 64
    · simp [g]
    · rw [if_neg g, if_neg g]
      by_cases g2 : idx 64 r = -1
      · rw [if_pos g2]
        exact ⟨fun _ => by rw [ih.1 g2]; rfl, fun h => absurd rfl h⟩
      · rw [if_neg g2]
        have := ih.2 g2
        exact ⟨fun h => by omega, fun _ => ⟨by rw [this.1]; rfl, by rw [List.drop_succ_cons]; exact this.2⟩⟩
theorem par_same (l : List Int) : parP l = parR l := by
  unfold parP parR loc
  by_cases h : l.head? = some 34
  · rw [if_pos h, if_pos h]
    cases hx : qd (l.drop 1) with
    | none => rfl
    | some x =>
      simp only [Option.map_some, Option.bind_some]
      unfold tailX
      rw [locR_qs (qd_ok _ _ (Nat.le_refl _) x hx), dom_same]
      by_cases g1 : (qs x.1).length ≤ 64 <;> by_cases g2 : x.2.head? = some 64 <;> cases domR ((x.2.drop 1).map low) <;> simp [g1, g2]
  · rw [if_neg h, if_neg h]
    have ht := tw_idx l
    have hge := (idx_mem (c := 64) l).2
    by_cases g : idx 64 l = -1
    · rw [if_pos g, ht.1 g, List.drop_length]
      simp [tailX]
    · rw [if_neg g]
      obtain ⟨e1, e2⟩ := ht.2 g
      rw [e1, Int.toNat_natCast]
      by_cases hp : pl 0 (l.take (tw l)) = true
      · rw [if_pos hp]
        obtain ⟨h1, h2⟩ := pl_head hp
        simp only [Option.bind_some]
        unfold tailX
        have hloc : locR (l.take (tw l)) = decide ((l.take (tw l)).length ≤ 64) := by
          unfold locR
          rw [if_neg h2, hp]
          simp only [h1, decide_true, Bool.true_and, Bool.and_true]
        rw [hloc, dom_same, e2]
        by_cases g1 : (l.take (tw l)).length ≤ 64 <;> cases domR (((l.drop (tw l)).drop 1).map low) <;> simp only [g1, decide_true, decide_false] <;> simp
      · rw [if_neg hp]
        simp only [Option.bind_none]
        have hloc : locR (l.take (tw l)) = false := by
          unfold locR
          by_cases h34 : (l.take (tw l)).head? = some 34
          · exfalso
            apply h
            cases l with
            | nil => simp at h34
            | cons c r =>
              cases htw : tw (c :: r) with
              | zero => rw [htw] at h34; simp at h34
              | succ k => rw [htw] at h34; simpa using h34
          · rw [if_neg h34]
            have : pl 0 (l.take (tw l)) = false := by simpa using hp
            rw [this]; simp
        unfold tailX
        rw [hloc]
        simp
theorem num_eq (n : Nat) (e : Int) : pouchlaw4_num n e = some e := rfl
theorem wakes_eq (n : Nat) (hn : 10000000 ≤ n) : pouchlaw4_wakes n = some true := by
  have h := Parse_eq n (⟨#[65, 46, 98, 64, 69, 88, 46, 111, 114, 103]⟩ : ByteArray) (by decide) hn
  have e : parP (bs (⟨#[65, 46, 98, 64, 69, 88, 46, 111, 114, 103]⟩ : ByteArray)) = some ([65, 46, 98], [101, 120, 46, 111, 114, 103]) := by decide +kernel
  rw [e] at h
  obtain ⟨t1, t2, j1, j2, j3⟩ := h
  unfold pouchlaw4_wakes pouchlaw4_wakes_B
  rw [j1]
  simp only [Option.bind_some, num_eq, str_eq, j2, j3]
  decide
abbrev Ask := Box × (ByteArray × Unit)
theorem heavy_eq (n : Nat) (p : Ask) (h1 : p.1.1.size ≤ reachBytes) (h2 : p.1.2.1.size ≤ reachBytes) : pouchlaw4_heavy n p = some (decide (p.1.1.size + p.1.2.1.size > 2000) || decide (p.2.1.size > 2000)) := by
  have hr : reachBytes < 140737488355328 := by decide
  unfold pouchlaw4_heavy pouchlaw4_heavy_B
  rw [wr (by omega) (by omega)]
  by_cases g : p.1.1.size + p.1.2.1.size > 2000
  · have : ((p.1.1.size : Int) + (p.1.2.1.size : Int)) > 2000 := by omega
    simp [g, this]
  · have : ¬ ((p.1.1.size : Int) + (p.1.2.1.size : Int)) > 2000 := by omega
    have e : decide ((p.2.1.size : Int) > 2000) = decide (p.2.1.size > 2000) := by rw [decide_eq_decide]; omega
    simp only [this, g, decide_false, e]
    simp
abbrev tAsk : CTy := .pair (.pair .str (.pair .str .unit)) (.pair .str .unit)
theorem ask_fit {l : Sq Ask} (h : Fit reachBytes (.sl tAsk) l) (i : Nat) (hi : i < l.n) : (l.at' i).1.1.size ≤ reachBytes ∧ (l.at' i).1.2.1.size ≤ reachBytes ∧ (l.at' i).2.1.size ≤ reachBytes := by
  have := h.2 i hi
  exact ⟨this.1.1, this.1.2.1, this.2.1⟩

/-! AddrParses. -/
theorem AddrParses_L0 (n : Nat) (hn : 10000000 ≤ n) (l : Sq Ask) (hf : Fit reachBytes (.sl tAsk) l) : ∀ (d k m : Nat), k + d = 21 → d < m → k ≤ 20 → ∃ x, pouchlaw4_AddrParses_L0 n m l k = some x ∧ (x = .out () ∨ x = .ret true)
  | 0, k, m, h, hm, hk => by omega
  | d + 1, k, m, h, hm, hk => by
    obtain ⟨m, rfl⟩ : ∃ q, m = q + 1 := ⟨m - 1, by omega⟩
    by_cases g1 : (k : Int) < (l.n : Int)
    · by_cases g2 : (k : Int) < 20
      · have a1 : (0 : Int) ≤ (k : Int) := by omega
        have e1 := wr1 (k := k) (by omega)
        obtain ⟨f1, f2, f3⟩ := ask_fit hf k (by omega)
        have hH := heavy_eq n (l.at' k) f1 f2
        have hH' : pouchlaw4_heavy n (((l.at' k).1.1, ((l.at' k).1.2.1, ())), ((l.at' k).2.1, ())) = some (decide ((l.at' k).1.1.size + (l.at' k).1.2.1.size > 2000) || decide ((l.at' k).2.1.size > 2000)) := hH
        by_cases g3 : (decide ((l.at' k).1.1.size + (l.at' k).1.2.1.size > 2000) || decide ((l.at' k).2.1.size > 2000)) = true
        · refine ⟨.ret true, ?_, .inr rfl⟩
          rw [g3] at hH'
          simp only [pouchlaw4_AddrParses_L0, pouchlaw4_AddrParses_B0, g1, g2, a1, Int.toNat_natCast, hH', decide_true, Option.bind_some]
          rfl
        · have g3' : (decide ((l.at' k).1.1.size + (l.at' k).1.2.1.size > 2000) || decide ((l.at' k).2.1.size > 2000)) = false := by simpa using g3
          rw [g3'] at hH'
          simp only [Bool.or_eq_false_iff, decide_eq_false_iff_not] at g3'
          obtain ⟨x, hx, hor⟩ := AddrParses_L0 n hn l hf d (k + 1) m (by omega) (by omega) (by omega)
          refine ⟨x, ?_, hor⟩
          rw [← hx]
          have hP := Parse_eq n (l.at' k).2.1 (by omega) hn
          have hR := rParse_eq n (l.at' k).2.1 (by omega) hn
          rw [← par_same] at hR
          cases hv : parP (bs (l.at' k).2.1) with
          | none =>
            rw [hv] at hP hR
            simp only [RefIs] at hP hR
            simp only [pouchlaw4_AddrParses_L0, pouchlaw4_AddrParses_B0, g1, g2, a1, Int.toNat_natCast, hH', decide_true, Option.bind_some, hR, hP, num_eq, str_eq, e1]
            simp [noBox]
          | some y =>
            rw [hv] at hP hR
            obtain ⟨t1, t2, j1, j2, j3⟩ := hP
            obtain ⟨u1, u2, k1, k2, k3⟩ := hR
            simp only [pouchlaw4_AddrParses_L0, pouchlaw4_AddrParses_B0, g1, g2, a1, Int.toNat_natCast, hH', decide_true, Option.bind_some, k1, j1, num_eq, str_eq, e1, j2, j3, k2, k3]
            simp
      · refine ⟨.out (), ?_, .inl rfl⟩
        simp only [pouchlaw4_AddrParses_L0, pouchlaw4_AddrParses_B0, g1, g2, decide_true, decide_false]
        rfl
    · refine ⟨.out (), ?_, .inl rfl⟩
      simp only [pouchlaw4_AddrParses_L0, pouchlaw4_AddrParses_B0, g1, decide_false]
      rfl
theorem plain_AddrParses (l : Sq Ask) (h : Fit reachBytes (.sl tAsk) l) : ∃ n, pouchlaw4_AddrParses n l = some true := by
  refine ⟨10000000, ?_⟩
  obtain ⟨x, hx, hor⟩ := AddrParses_L0 10000000 (Nat.le_refl _) l h 21 0 10000000 rfl (by decide) (by decide)
  unfold pouchlaw4_AddrParses pouchlaw4_AddrParses_B
  rw [show ((0 : Nat) : Int) = 0 from rfl] at hx
  rw [hx, Option.bind_some]
  rcases hor with rfl | rfl
  · simp only [onL]
    rw [wakes_eq _ (Nat.le_refl _)]; rfl
  · rfl

/-! AddrDomains. -/
theorem Domain_eq (n : Nat) (s : ByteArray) (hs : s.size ≤ 1000000) (hn : 10000000 ≤ n) : ∃ t, bs t = (bs s).map low ∧ addr_Domain n s = some (if domR ((bs s).map low) = true then (t, 0, ()) else ((⟨#[]⟩ : ByteArray), 8, ())) := by
  obtain ⟨t, k1, k2⟩ := small_eq n s hs hn
  have hsz : t.size ≤ s.size := by rw [← bs_len t, k2, List.length_map, bs_len]; omega
  have hD := IsDomain_eq n t (by omega) hn
  rw [k2, dom_same] at hD
  refine ⟨t, k2, ?_⟩
  unfold addr_Domain addr_Domain_B
  rw [k1, Option.bind_some, hD, Option.bind_some]
  cases domR ((bs s).map low) <;> rfl
theorem AddrDomains_one (n : Nat) (hn : 10000000 ≤ n) (l : Sq Ask) (i : Nat) (hi : i < l.n) (k m : Nat) (hk : k < 2) (s : ByteArray) (hs : s.size ≤ 1000000) (hsk : List.getD (α := ByteArray) [(l.at' i).2.1, (l.at' i).1.2.1] k (zeroEl .str) = s) :
    pouchlaw4_AddrDomains_L1 n (m + 1) l i k = pouchlaw4_AddrDomains_L1 n m l i ((k + 1 : Nat) : Int) := by
  have a1 : (0 : Int) ≤ (k : Int) := by omega
  have a2 : (k : Int) < 2 := by omega
  have a3 : (0 : Int) ≤ (i : Int) := by omega
  have a4 : (i : Int) < (l.n : Int) := by omega
  have e1 := wr1 (k := k) (by omega)
  obtain ⟨u, u1, u2⟩ := Lower_eq n s hs hn
  have husz : u.size ≤ s.size := by rw [← bs_len u, u2, List.length_map, bs_len]; omega
  have hR := rDomain_eq n u (by omega) hn
  rw [u2] at hR
  obtain ⟨t, t1, t2⟩ := Domain_eq n s hs hn
  simp only [pouchlaw4_AddrDomains_L1, pouchlaw4_AddrDomains_B1, a1, a2, a3, a4, e1, Int.toNat_natCast, decide_true]
  rw [hsk]
  cases hd : domR ((bs s).map low) with
  | true =>
    rw [hd] at hR t2
    simp only [u1, hR, t2, Option.bind_some, num_eq, str_eq, if_true, t1, u2]
    simp
  | false =>
    rw [hd] at hR t2
    simp only [u1, hR, t2, Option.bind_some, num_eq, str_eq]
    simp
theorem AddrDomains_L1 (n : Nat) (hn : 10000000 ≤ n) (l : Sq Ask) (i : Nat) (hi : i < l.n) (h1 : (l.at' i).2.1.size ≤ 1000000) (h2 : (l.at' i).1.2.1.size ≤ 1000000) : pouchlaw4_AddrDomains_L1 n n l i 0 = some (.out (l, (i : Int))) := by
  obtain ⟨m, rfl⟩ : ∃ m, n = m + 3 := ⟨n - 3, by omega⟩
  have s1 := AddrDomains_one (m + 3) hn l i hi 0 (m + 2) (by omega) _ h1 rfl
  have s2 := AddrDomains_one (m + 3) hn l i hi 1 (m + 1) (by omega) _ h2 rfl
  rw [show ((0 : Nat) : Int) = 0 from rfl] at s1
  rw [s1, s2]
  have : ¬ (((1 + 1 : Nat) : Int) < 2) := by decide
  simp only [pouchlaw4_AddrDomains_L1, pouchlaw4_AddrDomains_B1, this, decide_false]
  rfl
theorem AddrDomains_L0 (n : Nat) (hn : 10000000 ≤ n) (l : Sq Ask) (hf : Fit reachBytes (.sl tAsk) l) : ∀ (d k m : Nat), k + d = 21 → d < m → k ≤ 20 → ∃ x, pouchlaw4_AddrDomains_L0 n m l k = some x ∧ (x = .out () ∨ x = .ret true)
  | 0, k, m, h, hm, hk => by omega
  | d + 1, k, m, h, hm, hk => by
    obtain ⟨m, rfl⟩ : ∃ q, m = q + 1 := ⟨m - 1, by omega⟩
    by_cases g1 : (k : Int) < (l.n : Int)
    · by_cases g2 : (k : Int) < 20
      · have a1 : (0 : Int) ≤ (k : Int) := by omega
        have e1 := wr1 (k := k) (by omega)
        obtain ⟨f1, f2, f3⟩ := ask_fit hf k (by omega)
        have hH := heavy_eq n (l.at' k) f1 f2
        have hH' : pouchlaw4_heavy n (((l.at' k).1.1, ((l.at' k).1.2.1, ())), ((l.at' k).2.1, ())) = some (decide ((l.at' k).1.1.size + (l.at' k).1.2.1.size > 2000) || decide ((l.at' k).2.1.size > 2000)) := hH
        by_cases g3 : (decide ((l.at' k).1.1.size + (l.at' k).1.2.1.size > 2000) || decide ((l.at' k).2.1.size > 2000)) = true
        · refine ⟨.ret true, ?_, .inr rfl⟩
          rw [g3] at hH'
          simp only [pouchlaw4_AddrDomains_L0, pouchlaw4_AddrDomains_B0, g1, g2, a1, Int.toNat_natCast, hH', decide_true, Option.bind_some]
          rfl
        · have g3' : (decide ((l.at' k).1.1.size + (l.at' k).1.2.1.size > 2000) || decide ((l.at' k).2.1.size > 2000)) = false := by simpa using g3
          rw [g3'] at hH'
          simp only [Bool.or_eq_false_iff, decide_eq_false_iff_not] at g3'
          obtain ⟨x, hx, hor⟩ := AddrDomains_L0 n hn l hf d (k + 1) m (by omega) (by omega) (by omega)
          refine ⟨x, ?_, hor⟩
          rw [← hx]
          have hL := AddrDomains_L1 n hn l k (by omega) (by omega) (by omega)
          simp only [pouchlaw4_AddrDomains_L0, pouchlaw4_AddrDomains_B0, g1, g2, a1, Int.toNat_natCast, hH', decide_true, Option.bind_some, hL, onL, e1]
          rfl
      · refine ⟨.out (), ?_, .inl rfl⟩
        simp only [pouchlaw4_AddrDomains_L0, pouchlaw4_AddrDomains_B0, g1, g2, decide_true, decide_false]
        rfl
    · refine ⟨.out (), ?_, .inl rfl⟩
      simp only [pouchlaw4_AddrDomains_L0, pouchlaw4_AddrDomains_B0, g1, decide_false]
      rfl
theorem plain_AddrDomains (l : Sq Ask) (h : Fit reachBytes (.sl tAsk) l) : ∃ n, pouchlaw4_AddrDomains n l = some true := by
  refine ⟨10000000, ?_⟩
  obtain ⟨x, hx, hor⟩ := AddrDomains_L0 10000000 (Nat.le_refl _) l h 21 0 10000000 rfl (by decide) (by decide)
  unfold pouchlaw4_AddrDomains pouchlaw4_AddrDomains_B
  rw [show ((0 : Nat) : Int) = 0 from rfl] at hx
  rw [hx, Option.bind_some]
  rcases hor with rfl | rfl
  · simp only [onL]
    rw [wakes_eq _ (Nat.le_refl _)]; rfl
  · rfl
end Go.Proofs.YthmhobnhladhbaaDoor.AM
