/- What the functions of addr and of its reference tell: part 8: quoted, inner, quote. -/
import Derived.Test.YthmhobnhladhbaaDoorQ7
namespace Go.Proofs.YthmhobnhladhbaaDoor.AM
open Go
set_option linter.unusedSimpArgs false
set_option linter.unusedVariables false

theorem quoted_eq (n : Nat) (s : ByteArray) (hs : s.size ≤ 1000000) (hn : 10000000 ≤ n) : match qd ((bs s).drop 1) with
    | none => addr_quoted n s = some (.error 8)
    | some (mean, rest) => ∃ t1 t2, addr_quoted n s = some (.ok (t1, t2, ())) ∧ bs t1 = mean ∧ bs t2 = rest := by
  have hm' : (addr_must n true) = some (.ok ()) := must_eq n true
  have hm2 : (addr_must n false) = some (.error 8) := must_eq n false
  have w2 : IntKind.wrap .i64 ((1 : Int) + (1 : Int)) = ((2 : Nat) : Int) := wr1 (k := 1) (by decide)
  have w3 : IntKind.wrap .i64 (((2 : Nat) : Int) + (1 : Int)) = ((3 : Nat) : Int) := wr1 (k := 2) (by decide)
  have a0 : (0 : Int) ≤ 1 := by decide
  have a2 : (0 : Int) ≤ ((2 : Nat) : Int) := by decide
  cases h : (bs s).drop 1 with
  | nil =>
    have hk : ¬ ((1 : Int) < (s.size : Int)) := at_nil (k := 1) h
    rw [show qd [] = none from rfl]
    unfold addr_quoted addr_quoted_B
    simp only [hk, decide_false, hm2, Option.bind_some, onX]
  | cons c r =>
    obtain ⟨h1', h2', h3, h4, h5⟩ := at_cons h
    have h1 : (1 : Int) < (s.size : Int) := h1'
    have h2 : bt s (1 : Int) = c := h2'
    have a3 : ((2 : Nat) : Int) ≤ (s.size : Int) := by omega
    by_cases g1 : c = 34
    · subst g1
      rw [show qd (34 :: r) = some ([], r) by rw [qd_cons]; rfl]
      refine ⟨_, s.extract 2 s.size, ?_, (rfl : bs (⟨#[]⟩ : ByteArray) = []), by rw [bs_ext, show (bs s).take s.size = bs s by rw [← bs_len, List.take_length]]; exact h3⟩
      unfold addr_quoted addr_quoted_B strings_Builder_String_v0 strings_Builder_String_v0_B
      simp only [h1, decide_true, decide_false, hm', h2, a0, w2, a2, a3, Option.bind_some, onX, Int.toNat_natCast]
      rfl
    · have g1' : (c == 34) = false := by simpa using g1
      by_cases g2 : c = 92
      · subst g2
        cases r with
        | nil =>
          have hn' : ¬ (((2 : Nat) : Int) < (s.size : Int)) := at_nil (k := 2) h3
          rw [show qd [92] = none by rw [qd_cons]; rfl]
          unfold addr_quoted addr_quoted_B
          simp only [h1, hn', decide_true, decide_false, hm', hm2, h2, a0, w2, Option.bind_some, onX]
          rfl
        | cons d r =>
          obtain ⟨i1', i2', i3, i4, i5⟩ := at_cons h3
          have i1 : ((2 : Nat) : Int) < (s.size : Int) := i1'
          have i2 : bt s ((2 : Nat) : Int) = d := i2'
          have hq : qd (92 :: d :: r) = if okc d = true then (qd r).map fun x => (d :: x.1, x.2) else none := by rw [qd_cons]; rfl
          rw [hq]
          by_cases g3 : okc d = true
          · have hdd : 32 ≤ d ∧ d ≤ 126 := by simpa [okc] using g3
            obtain ⟨r2, x1, x2, x3⟩ := WB0_eq n d
            have ih := quoted_L0 n s hs r.length r 3 n r2 (Nat.le_refl _) i3 (by omega) (by omega) (fun x hx => by rw [x2] at hx; simp at hx; subst hx; omega) (by
              have := congrArg List.length i3
              rw [List.length_drop, bs_len] at this; omega)
            have b1 : d ≥ 32 := hdd.1
            have b2 : d ≤ 126 := hdd.2
            have hstep : addr_quoted n s = (addr_quoted_L0 n n s ((3 : Nat) : Int) r2).bind fun x => onL x (fun _ => none) (fun a => some (.ok (a.1, a.2, ()))) (fun p => some (.error p)) := by
              unfold addr_quoted addr_quoted_B
              simp only [h1, i1, i2, b1, b2, decide_true, decide_false, hm', h2, a0, w2, a2, x1, w3, Option.bind_some, onX]
              rfl
            rw [hstep, if_pos g3]
            cases hqr : qd r with
            | none => rw [hqr] at ih; rw [ih]; rfl
            | some x =>
              rw [hqr] at ih
              obtain ⟨t1, t2, j1, j2, j3⟩ := ih
              exact ⟨t1, t2, by rw [j1]; rfl, by rw [j2, x2]; rfl, j3⟩
          · rw [if_neg g3]
            unfold addr_quoted addr_quoted_B
            by_cases b1 : d ≥ 32
            · have b2 : ¬ d ≤ 126 := fun hb => g3 (by simp [okc]; omega)
              simp only [h1, i1, i2, b1, b2, decide_true, decide_false, hm', hm2, h2, a0, w2, a2, Option.bind_some, onX]
              rfl
            · simp only [h1, i1, i2, b1, decide_true, decide_false, hm', hm2, h2, a0, w2, a2, Option.bind_some, onX]
              rfl
      · have g2' : (c == 92) = false := by simpa using g2
        have hq : qd (c :: r) = if okc c = true then (qd r).map fun x => (c :: x.1, x.2) else none := by rw [qd_cons, if_neg g1, if_neg g2]
        rw [hq]
        by_cases g3 : okc c = true
        · have hdd : 32 ≤ c ∧ c ≤ 126 := by simpa [okc] using g3
          obtain ⟨r2, x1, x2, x3⟩ := WB0_eq n c
          have ih := quoted_L0 n s hs r.length r 2 n r2 (Nat.le_refl _) h3 (by omega) (by omega) (fun x hx => by rw [x2] at hx; simp at hx; subst hx; omega) (by
            have := congrArg List.length h3
            rw [List.length_drop, bs_len] at this; omega)
          have b1 : c ≥ 32 := hdd.1
          have b2 : c ≤ 126 := hdd.2
          have hstep : addr_quoted n s = (addr_quoted_L0 n n s ((2 : Nat) : Int) r2).bind fun x => onL x (fun _ => none) (fun a => some (.ok (a.1, a.2, ()))) (fun p => some (.error p)) := by
            unfold addr_quoted addr_quoted_B
            simp only [h1, b1, b2, decide_true, decide_false, hm', h2, g1', g2', a0, w2, x1, Option.bind_some, onX]
            rfl
          rw [hstep, if_pos g3]
          cases hqr : qd r with
          | none => rw [hqr] at ih; rw [ih]; rfl
          | some x =>
            rw [hqr] at ih
            obtain ⟨t1, t2, j1, j2, j3⟩ := ih
            exact ⟨t1, t2, by rw [j1]; rfl, by rw [j2, x2]; rfl, j3⟩
        · rw [if_neg g3]
          unfold addr_quoted addr_quoted_B
          by_cases b1 : c ≥ 32
          · have b2 : ¬ c ≤ 126 := fun hb => g3 (by simp [okc]; omega)
            simp only [h1, b1, b2, decide_true, decide_false, hm', hm2, h2, g1', g2', a0, Option.bind_some, onX]
            rfl
          · simp only [h1, b1, decide_true, decide_false, hm', hm2, h2, g1', g2', a0, Option.bind_some, onX]
            rfl
theorem snoc_rng {b b' : Sq Int} {c : Int} (h : sqL id b' = sqL id b ++ [c]) (hb : ∀ c ∈ sqL id b, 0 ≤ c ∧ c < 256) (hc : 0 ≤ c ∧ c < 256) : ∀ c ∈ sqL id b', 0 ≤ c ∧ c < 256 := fun x hx => by
  rw [h] at hx
  rcases List.mem_append.1 hx with hx | hx
  · exact hb x hx
  · simp at hx; subst hx; exact hc
/-- The loop of the reference's inner. -/
theorem inner_L0 (n : Nat) (s : ByteArray) (hs : s.size ≤ 1000000) : ∀ (N : Nat) (r : List Int) (k m : Nat) (b : Sq Int), r.length ≤ N → (bs s).drop k = r → k ≤ s.size → b.n ≤ k → (∀ c ∈ sqL id b, 0 ≤ c ∧ c < 256) → r.length < m →
    match qd r with
    | none => pouchref4_inner_L0 n m s k b = some (.out ())
    | some (mean, rest) => ∃ t, pouchref4_inner_L0 n m s k b = some (.ret (t, ((s.size - rest.length : Nat) : Int), true)) ∧ bs t = sqL id b ++ mean
  | N, [], k, m, b, hN, h, hk, hr1, hb, hm => by
    obtain ⟨m, rfl⟩ : ∃ q, m = q + 1 := ⟨m - 1, by omega⟩
    have := at_nil h
    rw [show qd [] = none from rfl]
    simp [pouchref4_inner_L0, pouchref4_inner_B0, this]
  | 0, c :: r, k, m, b, hN, _, _, _, _, _ => by simp at hN
  | N + 1, c :: r, k, m, b, hN, h, hk, hr1, hb, hm => by
    obtain ⟨m, rfl⟩ : ∃ q, m = q + 1 := ⟨m - 1, by omega⟩
    obtain ⟨h1, h2, h3, h4, h5⟩ := at_cons h
    have e1 := wr1 (k := k) (by omega)
    have a1 : (0 : Int) ≤ (k : Int) := by omega
    have a2 : (0 : Int) ≤ ((k + 1 : Nat) : Int) := by omega
    have f1 := fits1 (n := b.n) (by omega)
    by_cases g1 : c = 34
    · subst g1
      rw [show qd (34 :: r) = some ([], r) by rw [qd_cons]; rfl]
      have hl : s.size - r.length = k + 1 := by
        have := congrArg List.length h3
        rw [List.length_drop, bs_len] at this; omega
      refine ⟨strOf b.n b.at', ?_, ?_⟩
      · rw [hl]
        simp only [pouchref4_inner_L0, pouchref4_inner_B0, h1, h2, a1, e1, decide_true]
        rfl
      · rw [List.append_nil]
        exact bs_strOf (f := b.at') fun i hi => hb _ (List.mem_of_getElem? (sqL_get (f := id) hi))
    · have g1' : (c == 34) = false := by simpa using g1
      by_cases g2 : c = 92
      · subst g2
        cases r with
        | nil =>
          have hn' := at_nil h3
          have hn2 : ((k + 1 : Nat) : Int) ≥ (s.size : Int) := by omega
          rw [show qd [92] = none by rw [qd_cons]; rfl]
          simp only [pouchref4_inner_L0, pouchref4_inner_B0, h1, h2, a1, e1, hn2, decide_true, decide_false]
          rfl
        | cons d r =>
          obtain ⟨i1, i2, i3, i4, i5⟩ := at_cons h3
          have e2 := wr1 (k := k + 1) (by omega)
          have hn2 : ¬ (((k + 1 : Nat) : Int) ≥ (s.size : Int)) := by omega
          have hq : qd (92 :: d :: r) = if okc d = true then (qd r).map fun x => (d :: x.1, x.2) else none := by rw [qd_cons]; rfl
          rw [hq]
          by_cases g3 : okc d = true
          · have hdd : 32 ≤ d ∧ d ≤ 126 := by simpa [okc] using g3
            have hsn := sqL_snoc id b d (zeroEl (.int .u8))
            have ih := inner_L0 n s hs N r (k + 2) m _ (by simp at hN; omega) (by rw [← i3]) (by omega) (by show b.n + 1 ≤ k + 2; omega) (snoc_rng hsn hb ⟨i4, i5⟩) (by simp at hm; omega)
            have b1 : ¬ d < 32 := by omega
            have b2 : ¬ d > 126 := by omega
            have hstep : pouchref4_inner_L0 n (m + 1) s k b = pouchref4_inner_L0 n m s ((k + 1 + 1 : Nat) : Int) (⟨b.n + 1, fun i => if i < b.n then b.at' i else (fun i => List.getD [d] i (zeroEl (.int .u8))) (i - b.n)⟩ : Sq Int) := by
              simp only [pouchref4_inner_L0, pouchref4_inner_B0, h1, h2, a1, e1, hn2, i1, i2, a2, b1, b2, f1, e2, decide_true, decide_false]
              rfl
            rw [hstep, if_pos g3]
            cases hqr : qd r with
            | none => rw [hqr] at ih; exact ih
            | some x =>
              rw [hqr] at ih
              obtain ⟨t1, j1, j2⟩ := ih
              exact ⟨t1, j1, by rw [j2]; refine (congrArg (· ++ x.1) hsn).trans ?_; simp⟩
          · rw [if_neg g3]
            by_cases b1 : d < 32
            · simp only [pouchref4_inner_L0, pouchref4_inner_B0, h1, h2, a1, e1, hn2, i1, i2, a2, b1, decide_true, decide_false]
              rfl
            · have b2 : d > 126 := by simp [okc] at g3; omega
              simp only [pouchref4_inner_L0, pouchref4_inner_B0, h1, h2, a1, e1, hn2, i1, i2, a2, b1, b2, decide_true, decide_false]
              rfl
      · have g2' : (c == 92) = false := by simpa using g2
        have hq : qd (c :: r) = if okc c = true then (qd r).map fun x => (c :: x.1, x.2) else none := by rw [qd_cons, if_neg g1, if_neg g2]
        rw [hq]
        by_cases g3 : okc c = true
        · have hdd : 32 ≤ c ∧ c ≤ 126 := by simpa [okc] using g3
          have hsn := sqL_snoc id b c (zeroEl (.int .u8))
          have ih := inner_L0 n s hs N r (k + 1) m _ (by simp at hN; omega) h3 (by omega) (by show b.n + 1 ≤ k + 1; omega) (snoc_rng hsn hb ⟨h4, h5⟩) (by simp at hm; omega)
          have b1 : ¬ c < 32 := by omega
          have b2 : ¬ c > 126 := by omega
          have hstep : pouchref4_inner_L0 n (m + 1) s k b = pouchref4_inner_L0 n m s ((k + 1 : Nat) : Int) (⟨b.n + 1, fun i => if i < b.n then b.at' i else (fun i => List.getD [c] i (zeroEl (.int .u8))) (i - b.n)⟩ : Sq Int) := by
            simp only [pouchref4_inner_L0, pouchref4_inner_B0, h1, h2, a1, e1, g1', g2', b1, b2, f1, decide_true, decide_false]
            rfl
          rw [hstep, if_pos g3]
          cases hqr : qd r with
          | none => rw [hqr] at ih; exact ih
          | some x =>
            rw [hqr] at ih
            obtain ⟨t1, j1, j2⟩ := ih
            exact ⟨t1, j1, by rw [j2]; refine (congrArg (· ++ x.1) hsn).trans ?_; simp⟩
        · rw [if_neg g3]
          by_cases b1 : c < 32
          · simp only [pouchref4_inner_L0, pouchref4_inner_B0, h1, h2, a1, e1, g1', g2', b1, decide_true, decide_false]
            rfl
          · have b2 : c > 126 := by simp [okc] at g3; omega
            simp only [pouchref4_inner_L0, pouchref4_inner_B0, h1, h2, a1, e1, g1', g2', b1, b2, decide_true, decide_false]
            rfl
theorem inner_eq (n : Nat) (s : ByteArray) (hs : s.size ≤ 1000000) (h1 : 1 ≤ s.size) (hn : 10000000 ≤ n) : match qd ((bs s).drop 1) with
    | none => pouchref4_inner n s = some ((⟨#[]⟩ : ByteArray), (0 : Int), false, ())
    | some (mean, rest) => ∃ t, pouchref4_inner n s = some (t, ((s.size - rest.length : Nat) : Int), true, ()) ∧ bs t = mean := by
  have h := inner_L0 n s hs ((bs s).drop 1).length _ 1 n (⟨0, fun _ => zeroEl (.int .u8)⟩ : Sq Int) (Nat.le_refl _) rfl h1 (Nat.zero_le _) (fun c hc => by simp [sqL] at hc) (by rw [List.length_drop, bs_len]; omega)
  unfold pouchref4_inner pouchref4_inner_B
  rw [show ((1 : Nat) : Int) = 1 from rfl] at h
  cases hq : qd ((bs s).drop 1) with
  | none => rw [hq] at h; simp only at h ⊢; rw [h]; rfl
  | some x =>
    rw [hq] at h
    obtain ⟨t, j1, j2⟩ := h
    exact ⟨t, by rw [j1]; rfl, by rw [j2]; rfl⟩
end Go.Proofs.YthmhobnhladhbaaDoor.AM
