/- What the functions of addr and of its reference tell: part 9: quote, local, Local, May. -/
import Derived.Test.YthmhobnhladhbaaDoorQ8
namespace Go.Proofs.YthmhobnhladhbaaDoor.AM
open Go
set_option linter.unusedSimpArgs false
set_option linter.unusedVariables false

theorem fitS {a b : ByteArray} (h : a.size + b.size ≤ 9000000000) : strFits a b = true := by
  unfold strFits
  rw [Nat.ble_eq]; omega
theorem esc_cons (c : Int) (r : List Int) : esc (c :: r) = (if c = 34 ∨ c = 92 then [92, c] else [c]) ++ esc r := by
  simp only [esc]; split <;> rfl
theorem ext_one {s : ByteArray} {k : Nat} {c : Int} {r : List Int} (h : (bs s).drop k = c :: r) : bs (s.extract k (k + 1)) = [c] := by
  rw [ext_more h (Nat.le_refl _), ext_self]; rfl
/-- The loop of the reference's quote. -/
theorem rquote_L0 (n : Nat) (s : ByteArray) (hs : s.size ≤ 1000000) : ∀ (r : List Int) (k m : Nat) (q : ByteArray), (bs s).drop k = r → k ≤ s.size → q.size ≤ 2 * k + 1 → r.length < m →
    ∃ q', pouchref4_quote_L0 n m s q k = some (.out q') ∧ bs q' = bs q ++ esc r ∧ q'.size ≤ 2 * s.size + 1
  | [], k, m, q, h, hk, hq, hm => by
    obtain ⟨m, rfl⟩ : ∃ q, m = q + 1 := ⟨m - 1, by omega⟩
    have := at_nil h
    exact ⟨q, by simp [pouchref4_quote_L0, pouchref4_quote_B0, this], by simp [esc], by omega⟩
  | c :: r, k, m, q, h, hk, hq, hm => by
    obtain ⟨m, rfl⟩ : ∃ q, m = q + 1 := ⟨m - 1, by omega⟩
    obtain ⟨h1, h2, h3, h4, h5⟩ := at_cons h
    have e1 := wr1 (k := k) (by omega)
    have a1 : (0 : Int) ≤ (k : Int) := by omega
    have a2 : (0 : Int) ≤ ((k + 1 : Nat) : Int) := by omega
    have a3 : ((k + 1 : Nat) : Int) ≤ (s.size : Int) := by omega
    have a4 : (k : Int) ≤ ((k + 1 : Nat) : Int) := by omega
    have hx := ext_one h
    have hxs : (s.extract k (k + 1)).size = 1 := by rw [← bs_len, hx]; rfl
    have h92 : bs (⟨#[92]⟩ : ByteArray) = [92] := rfl
    have h92s : (⟨#[92]⟩ : ByteArray).size = 1 := rfl
    by_cases g : c = 34 ∨ c = 92
    · have hsz : ((q ++ (⟨#[92]⟩ : ByteArray)) ++ s.extract k (k + 1)).size = q.size + 2 := by
        rw [← bs_len, bs_app, bs_app, List.length_append, List.length_append, bs_len, hx, h92]; rfl
      have hsz1 : (q ++ (⟨#[92]⟩ : ByteArray)).size = q.size + 1 := by rw [← bs_len, bs_app, List.length_append, bs_len, h92]; rfl
      have f1 : strFits q (⟨#[92]⟩ : ByteArray) = true := fitS (by rw [h92s]; omega)
      have f2 : strFits (q ++ (⟨#[92]⟩ : ByteArray)) (s.extract k (k + 1)) = true := fitS (by omega)
      obtain ⟨q', j1, j2, j3⟩ := rquote_L0 n s hs r (k + 1) m ((q ++ (⟨#[92]⟩ : ByteArray)) ++ s.extract k (k + 1)) h3 (by omega) (by omega) (by simp at hm; omega)
      refine ⟨q', ?_, by rw [j2, bs_app, bs_app, hx, h92, esc_cons, if_pos g]; simp, j3⟩
      rw [← j1]
      rcases g with rfl | rfl
      · simp only [pouchref4_quote_L0, pouchref4_quote_B0, h1, h2, a1, e1, a2, a3, a4, f1, f2, Int.toNat_natCast, decide_true]
        rfl
      · simp only [pouchref4_quote_L0, pouchref4_quote_B0, h1, h2, a1, e1, a2, a3, a4, f1, f2, Int.toNat_natCast, decide_true]
        rfl
    · have hsz : (q ++ s.extract k (k + 1)).size = q.size + 1 := by rw [← bs_len, bs_app, List.length_append, bs_len, hx]; rfl
      have f2 : strFits q (s.extract k (k + 1)) = true := fitS (by omega)
      obtain ⟨q', j1, j2, j3⟩ := rquote_L0 n s hs r (k + 1) m (q ++ s.extract k (k + 1)) h3 (by omega) (by omega) (by simp at hm; omega)
      refine ⟨q', ?_, by rw [j2, bs_app, hx, esc_cons, if_neg g]; simp, j3⟩
      have g1 : (c == 34) = false := by simp; exact fun e => g (.inl e)
      have g2 : (c == 92) = false := by simp; exact fun e => g (.inr e)
      rw [← j1]
      simp only [pouchref4_quote_L0, pouchref4_quote_B0, h1, h2, g1, g2, a1, e1, a2, a3, a4, f2, Int.toNat_natCast, decide_true]
      rfl
def qt (l : List Int) : List Int := 34 :: esc l ++ [34]
theorem rquote_eq (n : Nat) (s : ByteArray) (hs : s.size ≤ 1000000) (hn : 10000000 ≤ n) : ∃ t, pouchref4_quote n s = some t ∧ bs t = qt (bs s) := by
  obtain ⟨q', j1, j2, j3⟩ := rquote_L0 n s hs (bs s) 0 n (⟨#[34]⟩ : ByteArray) (by simp) (by omega) (by decide) (by rw [bs_len]; omega)
  refine ⟨q' ++ (⟨#[34]⟩ : ByteArray), ?_, by rw [bs_app, j2]; rfl⟩
  unfold pouchref4_quote pouchref4_quote_B
  rw [show ((0 : Nat) : Int) = 0 from rfl] at j1
  rw [j1, Option.bind_some]
  simp only [onL]
  rw [if_pos (fitS (by rw [show (⟨#[34]⟩ : ByteArray).size = 1 from rfl]; omega))]
/-- The loop of quote. -/
theorem quote_L0 (n : Nat) (s : ByteArray) (hs : s.size ≤ 1000000) : ∀ (r : List Int) (k m : Nat) (q : Sq Int), (bs s).drop k = r → k ≤ s.size → q.n ≤ 2 * k + 1 → (∀ c ∈ sqL id q, 0 ≤ c ∧ c < 256) → r.length < m →
    ∃ q', addr_quote_L0 n m s s.size k q = some (.out q') ∧ sqL id q' = sqL id q ++ esc r ∧ q'.n ≤ 2 * s.size + 1 ∧ (∀ c ∈ sqL id q', 0 ≤ c ∧ c < 256)
  | [], k, m, q, h, hk, hq, hb, hm => by
    obtain ⟨m, rfl⟩ : ∃ q, m = q + 1 := ⟨m - 1, by omega⟩
    have := at_nil h
    exact ⟨q, by simp [addr_quote_L0, addr_quote_B0, this], by simp [esc], by omega, hb⟩
  | c :: r, k, m, q, h, hk, hq, hb, hm => by
    obtain ⟨m, rfl⟩ : ∃ q, m = q + 1 := ⟨m - 1, by omega⟩
    obtain ⟨h1, h2, h3, h4, h5⟩ := at_cons h
    have e1 := wr1 (k := k) (by omega)
    have a1 : (0 : Int) ≤ (k : Int) := by omega
    by_cases g : c = 34 ∨ c = 92
    · obtain ⟨q1, w1, w2, w3⟩ := WB1_eq n 92 q (by omega)
      obtain ⟨q2, x1, x2, x3⟩ := WB1_eq n c q1 (by omega)
      have hb1 := snoc_rng w2 hb ⟨by decide, by decide⟩
      have hb2 := snoc_rng x2 hb1 ⟨h4, h5⟩
      obtain ⟨q', j1, j2, j3, j4⟩ := quote_L0 n s hs r (k + 1) m q2 h3 (by omega) (by omega) hb2 (by simp at hm; omega)
      refine ⟨q', ?_, by rw [j2, x2, w2, esc_cons, if_pos g]; simp, j3, j4⟩
      rw [← j1]
      rcases g with rfl | rfl
      · simp only [addr_quote_L0, addr_quote_B0, h1, h2, a1, e1, w1, x1, decide_true, Option.bind_some]
        rfl
      · simp only [addr_quote_L0, addr_quote_B0, h1, h2, a1, e1, w1, x1, decide_true, Option.bind_some]
        rfl
    · obtain ⟨q2, x1, x2, x3⟩ := WB1_eq n c q (by omega)
      have hb2 := snoc_rng x2 hb ⟨h4, h5⟩
      obtain ⟨q', j1, j2, j3, j4⟩ := quote_L0 n s hs r (k + 1) m q2 h3 (by omega) (by omega) hb2 (by simp at hm; omega)
      refine ⟨q', ?_, by rw [j2, x2, esc_cons, if_neg g]; simp, j3, j4⟩
      have g1 : (c == 34) = false := by simp; exact fun e => g (.inl e)
      have g2 : (c == 92) = false := by simp; exact fun e => g (.inr e)
      rw [← j1]
      simp only [addr_quote_L0, addr_quote_B0, h1, h2, g1, g2, a1, e1, x1, decide_true, Option.bind_some]
      rfl
def qs (l : List Int) : List Int := if pl 0 l = true then l else qt l
theorem quote_eq (n : Nat) (s : ByteArray) (hs : s.size ≤ 1000000) (hn : 10000000 ≤ n) : ∃ t, addr_quote n s = some t ∧ bs t = qs (bs s) := by
  unfold addr_quote addr_quote_B qs
  rw [plain_eq n s (by omega) (by omega), Option.bind_some]
  by_cases hp : pl 0 (bs s) = true
  · rw [if_pos hp, if_pos hp]
    exact ⟨s, rfl, rfl⟩
  · rw [if_neg hp, if_neg hp]
    obtain ⟨q0, w1, w2, w3⟩ := WB0_eq n 34
    have hb0 : ∀ c ∈ sqL id q0, 0 ≤ c ∧ c < 256 := fun c hc => by rw [w2] at hc; simp at hc; subst hc; omega
    obtain ⟨q', j1, j2, j3, j4⟩ := quote_L0 n s hs (bs s) 0 n q0 (by simp) (by omega) (by omega) hb0 (by rw [bs_len]; omega)
    obtain ⟨t, s1, s2⟩ := Str1_eq n q' (by omega) j4
    have hts : t.size ≤ 2 * s.size + 1 := by
      have := congrArg List.length s2
      rw [bs_len, sqL_len] at this; omega
    refine ⟨t ++ (⟨#[34]⟩ : ByteArray), ?_, by rw [bs_app, s2, j2, w2]; rfl⟩
    rw [show ((0 : Nat) : Int) = 0 from rfl] at j1
    rw [w1, Option.bind_some, j1, Option.bind_some]
    simp only [onL]
    rw [s1, Option.bind_some, if_pos (fitS (by show t.size + (⟨#[34]⟩ : ByteArray).size ≤ 9000000000; rw [show (⟨#[34]⟩ : ByteArray).size = 1 from rfl]; omega))]
theorem qt_len (l : List Int) : (qt l).length ≤ 2 * l.length + 2 := by
  have := esc_len l
  simp [qt]; omega
theorem qs_len (l : List Int) : (qs l).length ≤ 2 * l.length + 2 := by
  unfold qs
  split
  · omega
  · exact qt_len l
theorem qd_len : ∀ (N : Nat) (r : List Int), r.length ≤ N → ∀ x, qd r = some x → x.1.length + x.2.length + 1 ≤ r.length
  | _, [], _, x, h => by cases h
  | 0, c :: r, h, _, _ => by simp at h
  | N + 1, c :: r, hN, x, h => by
    rw [qd_cons] at h
    split at h
    · cases h; simp
    · split at h
      · cases r with
        | nil => cases h
        | cons d r =>
          simp only at h
          split at h
          · obtain ⟨y, hy, rfl⟩ := Option.map_eq_some_iff.1 h
            have := qd_len N r (by simp at hN; omega) y hy
            simp; omega
          · cases h
      · split at h
        · obtain ⟨y, hy, rfl⟩ := Option.map_eq_some_iff.1 h
          have := qd_len N r (by simp at hN; omega) y hy
          simp; omega
        · cases h
/-- A local part, and what follows. -/
def loc (l : List Int) : Option (List Int × List Int) := if l.head? = some 34 then (qd (l.drop 1)).map fun x => (qs x.1, x.2)
  else if idx 64 l = -1 then none else if pl 0 (l.take (idx 64 l).toNat) = true then some (l.take (idx 64 l).toNat, l.drop (idx 64 l).toNat) else none
theorem local_eq (n : Nat) (s : ByteArray) (hs : s.size ≤ 1000000) (hn : 10000000 ≤ n) : match loc (bs s) with
    | none => addr_local n s = some (.error 8)
    | some (a, b) => ∃ t1 t2, addr_local n s = some (.ok (t1, t2, ())) ∧ bs t1 = a ∧ bs t2 = b := by
  have hm' : (addr_must n true) = some (.ok ()) := must_eq n true
  have hm2 : (addr_must n false) = some (.error 8) := must_eq n false
  unfold loc
  by_cases h : (bs s).head? = some 34
  · rw [if_pos h]
    have hq := quoted_eq n s hs hn
    have hP : strings_HasPrefix n s (⟨#[34]⟩ : ByteArray) = some true := by rw [HasPrefix_one n s _ (c := 34) rfl, decide_eq_true h]
    cases hx : qd ((bs s).drop 1) with
    | none =>
      rw [hx] at hq
      simp only at hq
      simp only [Option.map_none]
      unfold addr_local addr_local_B
      rw [hP, Option.bind_some, if_pos rfl, hq]; rfl
    | some x =>
      rw [hx] at hq
      obtain ⟨t1, t2, j1, j2, j3⟩ := hq
      have hl := qd_len _ _ (Nat.le_refl _) x hx
      rw [List.length_drop, bs_len, ← j2, bs_len] at hl
      obtain ⟨t3, k1, k2⟩ := quote_eq n t1 (by omega) hn
      simp only [Option.map_some]
      refine ⟨t3, t2, ?_, by rw [k2, j2], j3⟩
      unfold addr_local addr_local_B
      rw [hP, Option.bind_some, if_pos rfl, j1, Option.bind_some]
      simp only [onX]
      rw [k1]; rfl
  · rw [if_neg h]
    have hP : strings_HasPrefix n s (⟨#[34]⟩ : ByteArray) = some false := by rw [HasPrefix_one n s _ (c := 34) rfl, decide_eq_false h]
    have hI := indexByte_eq n s (c := 64) (by decide) (by decide)
    have hge := (idx_mem (c := 64) (bs s)).2
    have hlt := idx_lt 64 (bs s)
    by_cases hx : idx 64 (bs s) = -1
    · rw [if_pos hx]
      simp only
      have b1 : ¬ ((-1 : Int) ≥ 0) := by decide
      unfold addr_local addr_local_B
      rw [hP, Option.bind_some, if_neg (by decide), hI, hx]
      simp only [b1, hm2, decide_false, Option.bind_some, onX]
      rfl
    · rw [if_neg hx]
      obtain ⟨k, hk⟩ : ∃ k : Nat, idx 64 (bs s) = (k : Int) := ⟨(idx 64 (bs s)).toNat, by omega⟩
      have hks : k < s.size := by have := hlt.1; rw [bs_len] at this; omega
      rw [hk, Int.toNat_natCast]
      have hb0 : bs (s.extract 0 k) = (bs s).take k := by rw [bs_ext]; rfl
      have hb1 : bs (s.extract k s.size) = (bs s).drop k := by rw [bs_ext, ← bs_len, List.take_length]
      have hpl := plain_eq n (s.extract 0 k) (by have := ext_size s 0 k; omega) (by have := ext_size s 0 k; omega)
      rw [hb0] at hpl
      have a1 : (k : Int) ≥ 0 := by omega
      have a2 : (0 : Int) ≤ (k : Int) := by omega
      have a3 : (k : Int) ≤ (s.size : Int) := by omega
      have hpl' : addr_plain n (s.extract (Int.toNat (0 : Int)) k) = some (pl 0 ((bs s).take k)) := hpl
      by_cases hp : pl 0 ((bs s).take k) = true
      · rw [if_pos hp]
        refine ⟨s.extract 0 k, s.extract k s.size, ?_, hb0, hb1⟩
        unfold addr_local addr_local_B
        rw [hP, Option.bind_some, if_neg (by decide), hI, hk]
        simp only [a1, a2, a3, hpl', hp, hm', decide_true, Option.bind_some, onX, Int.toNat_natCast]
        rfl
      · rw [if_neg hp]
        simp only
        unfold addr_local addr_local_B
        rw [hP, Option.bind_some, if_neg (by decide), hI, hk]
        have hp' : pl 0 ((bs s).take k) = false := by simpa using hp
        simp only [a1, a2, a3, hpl', hp', hm2, decide_true, Option.bind_some, onX, Int.toNat_natCast]
        rfl
/-- The reference: may it be a local part? -/
def locR (l : List Int) : Bool := decide (1 ≤ l.length) && decide (l.length ≤ 64) && (if l.head? = some 34 then (match qd (l.drop 1) with
    | none => false
    | some x => decide (x.2 = []) && !pl 0 x.1 && decide (qt x.1 = l)) else pl 0 l)
theorem Local_eq (n : Nat) (s : ByteArray) (hs : s.size ≤ 1000000) (hn : 10000000 ≤ n) : pouchref4_Local n s = some (locR (bs s)) := by
  unfold pouchref4_Local pouchref4_Local_B locR
  rw [bs_len]
  by_cases g1 : 1 ≤ s.size
  · have b1 : ¬ ((s.size : Int) < 1) := by omega
    by_cases g2 : s.size ≤ 64
    · have b2 : ¬ ((s.size : Int) > 64) := by omega
      have b3 : (0 : Int) < (s.size : Int) := by omega
      obtain ⟨c, hc, hb⟩ := bs_head (s := s) (by omega)
      have hpl := rplain_eq n s hs hn
      rw [plain_same] at hpl
      simp only [b1, b2, b3, hb, g1, g2, hc, decide_true, decide_false]
      by_cases g3 : c = 34
      · subst g3
        have hq := inner_eq n s hs g1 hn
        cases hx : qd ((bs s).drop 1) with
        | none =>
          rw [hx] at hq
          simp only at hq
          rw [hq]; rfl
        | some x =>
          rw [hx] at hq
          obtain ⟨t, j1, j2⟩ := hq
          have hl := qd_len _ _ (Nat.le_refl _) x hx
          rw [List.length_drop, bs_len, ← j2, bs_len] at hl
          have hpt := rplain_eq n t (by omega) hn
          rw [plain_same, j2] at hpt
          obtain ⟨t3, k1, k2⟩ := rquote_eq n t (by omega) hn
          rw [j1]
          simp only [Option.bind_some, if_true]
          by_cases g4 : x.2 = []
          · have : (((s.size - x.2.length : Nat) : Int) == (s.size : Int)) = true := by rw [g4]; simp
            simp only [this, hpt, k1, Option.bind_some, g4, decide_true]
            rw [str_eq, k2, j2]
            cases pl 0 x.1 <;> simp
          · have hne : 0 < x.2.length := List.length_pos_iff.2 g4
            have : (((s.size - x.2.length : Nat) : Int) == (s.size : Int)) = false := by simp only [beq_eq_false_iff_ne]; omega
            simp [this, g4]
      · have : (c != 34) = true := by simpa using g3
        simp [this, hpl, g3]
    · have b2 : ((s.size : Int) > 64) := by omega
      simp [b1, b2, g2]
  · have b1 : ((s.size : Int) < 1) := by omega
    simp [b1, g1]
theorem May_eq (n : Nat) (a b : ByteArray) (ha : a.size ≤ 1000000) (hb : b.size ≤ 1000000) (hn : 10000000 ≤ n) : pouchref4_May n (a, b, ()) = some (locR (bs a) && domR (bs b)) := by
  unfold pouchref4_May pouchref4_May_B
  rw [Local_eq n a ha hn, Option.bind_some]
  cases hl : locR (bs a)
  · simp
  · rw [if_pos rfl, rDomain_eq n b hb hn]; simp
end Go.Proofs.YthmhobnhladhbaaDoor.AM
