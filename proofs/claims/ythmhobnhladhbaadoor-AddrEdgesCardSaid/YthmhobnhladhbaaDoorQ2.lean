/- What the functions of addr and of its reference tell: part 2: parts between a byte; plain local parts. -/
import Derived.Test.YthmhobnhladhbaaDoorQ1
namespace Go.Proofs.YthmhobnhladhbaaDoor.AM
open Go
set_option linter.unusedSimpArgs false
set_option linter.unusedVariables false

/-- A slice as a list. -/
def sqL {α β : Type} (f : α → β) (q : Sq α) : List β := (List.range q.n).map fun i => f (q.at' i)
theorem sqL_len {α β : Type} (f : α → β) (q : Sq α) : (sqL f q).length = q.n := by simp [sqL]
theorem sqL_get {α β : Type} {f : α → β} {q : Sq α} {i : Nat} (h : i < q.n) : (sqL f q)[i]? = some (f (q.at' i)) := by simp [sqL, h]
theorem sqL_zero {α β : Type} (f : α → β) (x : Nat → α) : sqL f (⟨0, x⟩ : Sq α) = [] := rfl
theorem sqL_snoc {α β : Type} (f : α → β) (q : Sq α) (y z : α) : sqL f (⟨q.n + 1, fun i => if i < q.n then q.at' i else (fun i => List.getD [y] i z) (i - q.n)⟩ : Sq α) = sqL f q ++ [f y] := by
  unfold sqL
  simp only [List.range_succ, List.map_append, List.map_cons, List.map_nil]
  congr 1
  · apply List.map_congr_left
    intro i hi
    simp only [List.mem_range] at hi
    simp [hi]
  · simp
theorem sqL_drop {α β : Type} {f : α → β} {q : Sq α} {k : Nat} {x : β} {r : List β} (h : (sqL f q).drop k = x :: r) : k < q.n ∧ f (q.at' k) = x ∧ (sqL f q).drop (k + 1) = r := by
  have h1 : (sqL f q)[k]? = some x := by
    have := congrArg (fun l => l[0]?) h
    simpa using this
  have hl : k < q.n := by have := (List.getElem?_eq_some_iff.1 h1).1; rwa [sqL_len] at this
  refine ⟨hl, ?_, ?_⟩
  · rw [sqL_get hl] at h1; exact Option.some.inj h1
  · rw [← List.drop_drop, h]; rfl
theorem sqL_nil {α β : Type} {f : α → β} {q : Sq α} {k : Nat} (h : (sqL f q).drop k = []) : q.n ≤ k := by
  have := List.drop_eq_nil_iff.1 h
  rwa [sqL_len] at this
theorem fits {n : Nat} (h : n ≤ 4000000) : rowFits (n + 1) 16 = true := by
  unfold rowFits
  simp only [Bool.and_eq_true, Nat.ble_eq]
  omega
theorem fits1 {n : Nat} (h : n ≤ 4000000) : rowFits (n + 1) 1 = true := by
  unfold rowFits
  simp only [Bool.and_eq_true, Nat.ble_eq]
  omega

/-- What stands between a byte. -/
def splitG (d : Int) : List Int → List Int → List (List Int)
  | cur, [] => [cur]
  | cur, c :: r => if c = d then cur :: splitG d [] r else splitG d (cur ++ [c]) r
theorem ext_more {s : ByteArray} {f k : Nat} {c : Int} {r : List Int} (h : (bs s).drop k = c :: r) (hf : f ≤ k) : bs (s.extract f (k + 1)) = bs (s.extract f k) ++ [c] := by
  rw [bs_ext, bs_ext]
  have h1 : (bs s)[k]? = some c := by
    have := congrArg (fun l => l[0]?) h
    simpa using this
  have hk : k < (bs s).length := (List.getElem?_eq_some_iff.1 h1).1
  rw [List.take_add_one, h1]
  rw [List.drop_append_of_le_length (by rw [List.length_take]; omega)]
  rfl
theorem ext_self {s : ByteArray} (k : Nat) : bs (s.extract k k) = [] := by
  rw [bs_ext]
  simp
theorem Split_L0 (n : Nat) (s : ByteArray) (d : Int) (hs : s.size ≤ 1000000) : ∀ (r : List Int) (k f m : Nat) (l : Sq ByteArray), (bs s).drop k = r → k ≤ s.size → f ≤ k → l.n ≤ k → r.length + 2 ≤ m →
    ∃ q, pouchref0_Split_L0 n m s d f k l = some (.out q) ∧ sqL bs q = sqL bs l ++ splitG d (bs (s.extract f k)) r
  | [], k, f, m, l, h, hk, hf, hl, hm => by
    obtain ⟨m, rfl⟩ : ∃ q, m = q + 2 := ⟨m - 2, by simp at hm; omega⟩
    have hn := at_nil h
    have hks : k = s.size := by omega
    have e1 := wr1 (k := k) (by omega)
    have a1 : ((k : Int) ≤ (s.size : Int)) := by omega
    have a2 : ((k : Int) == (s.size : Int)) = true := by rw [hks]; simp
    have a3 : (0 : Int) ≤ (k : Int) := by omega
    have a4 : (0 : Int) ≤ (f : Int) := by omega
    have a5 : (f : Int) ≤ (k : Int) := by omega
    have a6 := fits (n := l.n) (by omega)
    have a7 : ¬ (((k + 1 : Nat) : Int) ≤ (s.size : Int)) := by omega
    refine ⟨(⟨(l.n + 1), fun q => if q < l.n then l.at' q else (fun q => List.getD (α := ByteArray) [(s.extract f k)] q (zeroEl .str)) (q - l.n)⟩ : Sq ByteArray), ?_, ?_⟩
    · simp only [pouchref0_Split_L0, pouchref0_Split_B0, a1, a2, a3, a4, a5, a6, a7, e1]
      simp
    · refine (sqL_snoc bs l (s.extract f k) _).trans ?_; simp [splitG]
  | c :: r, k, f, m, l, h, hk, hf, hl, hm => by
    obtain ⟨m, rfl⟩ : ∃ q, m = q + 1 := ⟨m - 1, by simp at hm; omega⟩
    obtain ⟨h1, h2, h3, h4, h5⟩ := at_cons h
    have e1 := wr1 (k := k) (by omega)
    have a1 : ((k : Int) ≤ (s.size : Int)) := by omega
    have a2 : ((k : Int) == (s.size : Int)) = false := by simp; omega
    have a3 : (0 : Int) ≤ (k : Int) := by omega
    have a4 : (0 : Int) ≤ (f : Int) := by omega
    have a5 : (f : Int) ≤ (k : Int) := by omega
    have a6 := fits (n := l.n) (by omega)
    simp only [pouchref0_Split_L0, pouchref0_Split_B0, a1, a2, a3, a4, a5, a6, h1, h2, e1]
    by_cases hc : c = d
    · subst hc
      obtain ⟨q, hq, hl'⟩ := Split_L0 n s c hs r (k + 1) (k + 1) m (⟨(l.n + 1), fun q => if q < l.n then l.at' q else (fun q => List.getD (α := ByteArray) [(s.extract f k)] q (zeroEl .str)) (q - l.n)⟩ : Sq ByteArray) h3 (by omega) (by omega) (by simp; omega) (by simp at hm; omega)
      refine ⟨q, by simpa using hq, ?_⟩
      rw [hl', ext_self, show sqL bs (⟨(l.n + 1), fun q => if q < l.n then l.at' q else (fun q => List.getD (α := ByteArray) [(s.extract f k)] q (zeroEl .str)) (q - l.n)⟩ : Sq ByteArray) = sqL bs l ++ [bs (s.extract f k)] from sqL_snoc bs l (s.extract f k) _]
      simp [splitG]
    · have hc' : (c == d) = false := by simpa using hc
      obtain ⟨q, hq, hl'⟩ := Split_L0 n s d hs r (k + 1) f m l h3 (by omega) (by omega) (by omega) (by simp at hm; omega)
      refine ⟨q, by simpa [hc'] using hq, ?_⟩
      rw [hl', ext_more h hf]
      simp [splitG, hc]
theorem Split_eq (n : Nat) (s : ByteArray) (d : Int) (hs : s.size ≤ 1000000) (hn : 10000000 ≤ n) : ∃ q, pouchref0_Split n s d = some q ∧ sqL bs q = splitG d [] (bs s) := by
  obtain ⟨q, h1, h2⟩ := Split_L0 n s d hs (bs s) 0 0 n (⟨0, fun _ => zeroEl .str⟩ : Sq ByteArray) (by simp) (by omega) (by omega) (Nat.le_refl _) (by rw [bs_len]; omega)
  refine ⟨q, ?_, by rw [h2, ext_self]; rfl⟩
  unfold pouchref0_Split pouchref0_Split_B
  rw [show ((0 : Nat) : Int) = 0 from rfl] at h1
  rw [h1]; rfl

theorem letter_eq (n : Nat) (c : Int) : pouchref4_letter n c = some (decide (97 ≤ c) && decide (c ≤ 122) || decide (65 ≤ c) && decide (c ≤ 90)) := by
  unfold pouchref4_letter pouchref4_letter_B
  by_cases h1 : 97 ≤ c <;> by_cases h2 : c ≤ 122 <;> by_cases h3 : 65 ≤ c <;> by_cases h4 : c ≤ 90 <;> simp [h1, h2, h3, h4] <;> omega
theorem digit_eq (n : Nat) (c : Int) : pouchref4_digit n c = some (decide (48 ≤ c) && decide (c ≤ 57)) := by
  unfold pouchref4_digit pouchref4_digit_B
  by_cases h3 : 48 ≤ c <;> by_cases h4 : c ≤ 57 <;> simp [h3, h4]
theorem rsign_L0 (n : Nat) (s : ByteArray) (c : Int) (hs : s.size ≤ 1000000) : ∀ (r : List Int) (k m : Nat), (bs s).drop k = r → r.length < m → k ≤ s.size → pouchref4_sign_L0 n m c s k = some (if c ∈ r then .ret true else .out ())
  | [], k, m, h, hm, hk => by
    obtain ⟨m, rfl⟩ : ∃ q, m = q + 1 := ⟨m - 1, by simp at hm; omega⟩
    have := at_nil h
    simp [pouchref4_sign_L0, pouchref4_sign_B0, this]
  | d :: r, k, m, h, hm, hk => by
    obtain ⟨m, rfl⟩ : ∃ q, m = q + 1 := ⟨m - 1, by simp at hm; omega⟩
    obtain ⟨h1, h2, h3, h4, h5⟩ := at_cons h
    have e1 := wr1 (k := k) (by omega)
    have a3 : (0 : Int) ≤ (k : Int) := by omega
    have ih := rsign_L0 n s c hs r (k + 1) m h3 (by simpa using hm) (by omega)
    simp only [pouchref4_sign_L0, pouchref4_sign_B0, h1, h2, a3, e1]
    by_cases hc : d = c
    · subst hc; simp
    · have hc' : (d == c) = false := by simpa using hc
      have hc2 : ¬ c = d := fun e => hc e.symm
      simpa [hc', hc2] using ih
theorem rsign_eq (n : Nat) (c : Int) (hn : 10000000 ≤ n) : pouchref4_sign n c = some (decide (c ∈ specials)) := by
  unfold pouchref4_sign pouchref4_sign_B
  have h := rsign_L0 n (⟨#[33, 35, 36, 37, 38, 39, 42, 43, 45, 47, 61, 63, 94, 95, 96, 123, 124, 125, 126]⟩ : ByteArray) c (by decide) _ 0 n rfl (by rw [List.drop_zero, specials_eq]; show 19 < n; omega) (by decide)
  rw [show ((0 : Nat) : Int) = 0 from rfl, List.drop_zero, specials_eq] at h
  rw [h]
  by_cases hc : c ∈ specials <;> simp [hc, onL]
/-- A word's bytes. -/
theorem plain_L1 (n : Nat) (l : Sq ByteArray) (i : Nat) (hi : i < l.n) (hn : 10000000 ≤ n) (hs : (l.at' i).size ≤ 1000000) : ∀ (r : List Int) (k m : Nat), (bs (l.at' i)).drop k = r → r.length < m → k ≤ (l.at' i).size →
    pouchref4_plain_L1 n m l i k = some (if r.all atom = true then .out (l, (i : Int)) else .ret false)
  | [], k, m, h, hm, hk => by
    obtain ⟨m, rfl⟩ : ∃ q, m = q + 1 := ⟨m - 1, by simp at hm; omega⟩
    have := at_nil h
    have a3 : (0 : Int) ≤ (i : Int) := by omega
    have a4 : (i : Int) < (l.n : Int) := by omega
    simp [pouchref4_plain_L1, pouchref4_plain_B1, this, a3, a4]
  | c :: r, k, m, h, hm, hk => by
    obtain ⟨m, rfl⟩ : ∃ q, m = q + 1 := ⟨m - 1, by simp at hm; omega⟩
    obtain ⟨h1, h2, h3, h4, h5⟩ := at_cons h
    have e1 := wr1 (k := k) (by omega)
    have a1 : (0 : Int) ≤ (i : Int) := by omega
    have a2 : (i : Int) < (l.n : Int) := by omega
    have a3 : (0 : Int) ≤ (k : Int) := by omega
    have ih := plain_L1 n l i hi hn hs r (k + 1) m h3 (by simpa using hm) (by omega)
    simp only [pouchref4_plain_L1, pouchref4_plain_B1, a1, a2, a3, Int.toNat_natCast, h1, h2, e1, letter_eq, digit_eq, rsign_eq _ _ hn]
    have hat : atom c = ((decide (97 ≤ c) && decide (c ≤ 122) || decide (65 ≤ c) && decide (c ≤ 90)) || (decide (48 ≤ c) && decide (c ≤ 57)) || decide (c ∈ specials)) := by
      unfold atom sgn
      cases decide (97 ≤ c) <;> cases decide (c ≤ 122) <;> cases decide (65 ≤ c) <;> cases decide (c ≤ 90) <;> cases decide (48 ≤ c) <;> cases decide (c ≤ 57) <;> cases decide (c ∈ specials) <;> rfl
    simp only [List.all_cons, hat]
    cases hx : (decide (97 ≤ c) && decide (c ≤ 122) || decide (65 ≤ c) && decide (c ≤ 90)) <;> cases hy : (decide (48 ≤ c) && decide (c ≤ 57)) <;> cases hz : decide (c ∈ specials) <;> first | (simp; done) | (simpa using ih)
def wordsOk (W : List (List Int)) : Bool := W.all fun w => !w.isEmpty && w.all atom
theorem plain_L0' (n : Nat) (l : Sq ByteArray) (hn : 10000000 ≤ n) (hl : l.n ≤ 2000000) (hs : ∀ i, i < l.n → (l.at' i).size ≤ 1000000) : ∀ (W : List (List Int)) (i m : Nat), (sqL bs l).drop i = W → W.length < m → i ≤ l.n →
    pouchref4_plain_L0 n m l i = some (if wordsOk W = true then .out () else .ret false)
  | [], i, m, h, hm, hi => by
    obtain ⟨m, rfl⟩ : ∃ q, m = q + 1 := ⟨m - 1, by simp at hm; omega⟩
    have := sqL_nil h
    have a4 : ¬ ((i : Int) < (l.n : Int)) := by omega
    simp [pouchref4_plain_L0, pouchref4_plain_B0, a4, wordsOk]
  | w :: W, i, m, h, hm, hi => by
    obtain ⟨m, rfl⟩ : ∃ q, m = q + 1 := ⟨m - 1, by simp at hm; omega⟩
    obtain ⟨h1, h2, h3⟩ := sqL_drop h
    have e1 := wr1 (k := i) (by omega)
    have a1 : (0 : Int) ≤ (i : Int) := by omega
    have a2 : (i : Int) < (l.n : Int) := by omega
    have ih := plain_L0' n l hn hl hs W (i + 1) m h3 (by simpa using hm) (by omega)
    have hw := plain_L1 n l i h1 hn (hs i h1) (bs (l.at' i)) 0 n (by simp) (by rw [bs_len]; have := hs i h1; omega) (by omega)
    rw [show ((0 : Nat) : Int) = 0 from rfl, h2] at hw
    simp only [pouchref4_plain_L0, pouchref4_plain_B0, a1, a2, Int.toNat_natCast, str_eq, h2, hw]
    rw [show bs (⟨#[]⟩ : ByteArray) = [] from rfl]
    cases w with
    | nil => simp [wordsOk]
    | cons c w =>
      cases ha : (c :: w).all atom with
      | false => simp [wordsOk, ha, onL]
      | true =>
        have : wordsOk ((c :: w) :: W) = wordsOk W := by
          unfold wordsOk
          rw [List.all_cons, ha]; simp
        simpa [this, onL, e1] using ih
theorem splitG_len (d : Int) : ∀ (r cur : List Int), (splitG d cur r).length ≤ r.length + 1 ∧ ∀ w ∈ splitG d cur r, w.length ≤ cur.length + r.length
  | [], cur => by simp [splitG]
  | c :: r, cur => by
    simp only [splitG]
    split
    · have := splitG_len d r []
      refine ⟨by simp; omega, fun w hw => ?_⟩
      rcases List.mem_cons.1 hw with rfl | hw
      · omega
      · have := this.2 w hw; simp at this ⊢; omega
    · have := splitG_len d r (cur ++ [c])
      refine ⟨by simp; omega, fun w hw => ?_⟩
      have := this.2 w hw; simp at this ⊢; omega
theorem split_words {q : Sq ByteArray} {s : ByteArray} {d : Int} (h : sqL bs q = splitG d [] (bs s)) : q.n ≤ s.size + 1 ∧ ∀ i, i < q.n → (q.at' i).size ≤ s.size := by
  have h0 := splitG_len d (bs s) []
  rw [bs_len, ← h, sqL_len] at h0
  refine ⟨h0.1, fun i hi => ?_⟩
  have := h0.2 (bs (q.at' i)) (List.mem_of_getElem? (sqL_get hi))
  rw [bs_len] at this
  simpa using this
theorem rplain_eq (n : Nat) (s : ByteArray) (hs : s.size ≤ 1000000) (hn : 10000000 ≤ n) : pouchref4_plain n s = some (wordsOk (splitG 46 [] (bs s))) := by
  obtain ⟨q, h1, h2⟩ := Split_eq n s 46 hs hn
  obtain ⟨h3, h4⟩ := split_words h2
  have h := plain_L0' n q hn (by omega) (fun i hi => Nat.le_trans (h4 i hi) hs) _ 0 n rfl (by rw [List.drop_zero, sqL_len]; omega) (by omega)
  rw [show ((0 : Nat) : Int) = 0 from rfl, List.drop_zero, h2] at h
  unfold pouchref4_plain pouchref4_plain_B
  rw [h1, Option.bind_some, h, Option.bind_some]
  cases wordsOk (splitG 46 [] (bs s)) <;> rfl
/-- Both ways to ask are one. -/
theorem words_bad (d : Int) : ∀ (r cur : List Int), cur.all atom = false → wordsOk (splitG d cur r) = false
  | [], cur, h => by simp [splitG, wordsOk, h]
  | c :: r, cur, h => by
    simp only [splitG]
    split
    · unfold wordsOk; rw [List.all_cons, h]; simp
    · exact words_bad d r (cur ++ [c]) (by rw [List.all_append, h]; rfl)
theorem words_pl : ∀ (r cur : List Int), cur.all atom = true → wordsOk (splitG 46 cur r) = pl cur.length r
  | [], cur, h => by
    simp only [splitG, pl, wordsOk, List.all_cons, List.all_nil, h]
    cases cur <;> simp
  | c :: r, cur, h => by
    simp only [splitG, pl]
    split
    · rw [show wordsOk (cur :: splitG 46 [] r) = ((!cur.isEmpty && cur.all atom) && wordsOk (splitG 46 [] r)) from rfl, words_pl r [] rfl, h]
      cases cur <;> simp
    · split
      · rename_i ha
        rw [words_pl r (cur ++ [c]) (by rw [List.all_append, h]; simp [ha])]
        simp
      · rename_i ha
        exact words_bad 46 r _ (by rw [List.all_append]; simp [ha])
theorem plain_same (l : List Int) : wordsOk (splitG 46 [] l) = pl 0 l := words_pl l [] rfl
end Go.Proofs.YthmhobnhladhbaaDoor.AM
