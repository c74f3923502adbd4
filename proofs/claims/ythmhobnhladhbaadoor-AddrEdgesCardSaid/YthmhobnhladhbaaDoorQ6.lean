/- What the functions of addr and of its reference tell: part 6: domains, small letters. -/
import Derived.Test.YthmhobnhladhbaaDoorQ5
namespace Go.Proofs.YthmhobnhladhbaaDoor.AM
open Go
set_option linter.unusedSimpArgs false
set_option linter.unusedVariables false

theorem HasPrefix_eq (n : Nat) (s p : ByteArray) : strings_HasPrefix n s p = some (decide ((bs s).take p.size = bs p)) := by
  unfold strings_HasPrefix strings_HasPrefix_B internal_stringslite_HasPrefix internal_stringslite_HasPrefix_B
  by_cases h : p.size ≤ s.size
  · have a1 : (s.size : Int) ≥ (p.size : Int) := by omega
    have a2 : (0 : Int) ≤ (p.size : Int) := by omega
    have a3 : (p.size : Int) ≤ (s.size : Int) := by omega
    simp only [a1, a2, a3, str_eq, Int.toNat_natCast, bs_ext]
    simp
  · have a1 : ¬ ((s.size : Int) ≥ (p.size : Int)) := by omega
    have : ¬ (bs s).take p.size = bs p := fun e => by
      have := congrArg List.length e
      rw [List.length_take, bs_len, bs_len] at this
      omega
    simp [a1, this]
theorem take_one {l : List Int} {c : Int} : l.take 1 = [c] ↔ l.head? = some c := by cases l <;> simp
theorem HasPrefix_one (n : Nat) (s p : ByteArray) {c : Int} (hp : bs p = [c]) : strings_HasPrefix n s p = some (decide ((bs s).head? = some c)) := by
  have h1 : p.size = 1 := by rw [← bs_len, hp]; rfl
  rw [HasPrefix_eq, h1, hp]
  congr 1
  rw [decide_eq_decide]
  exact take_one
theorem HasSuffix_one (n : Nat) (s p : ByteArray) (hs : s.size ≤ 1000000) {c : Int} (hp : bs p = [c]) : strings_HasSuffix n s p = some (decide ((bs s).getLast? = some c)) := by
  have h1 : p.size = 1 := by rw [← bs_len, hp]; rfl
  unfold strings_HasSuffix strings_HasSuffix_B internal_stringslite_HasSuffix internal_stringslite_HasSuffix_B
  by_cases h : 1 ≤ s.size
  · have e1 := wrm (k := s.size) (by omega) (by omega)
    have a1 : (s.size : Int) ≥ ((1 : Nat) : Int) := by omega
    have a2 : (0 : Int) ≤ ((s.size - 1 : Nat) : Int) := by omega
    have a3 : ((s.size - 1 : Nat) : Int) ≤ (s.size : Int) := by omega
    obtain ⟨d, hd, _⟩ := bs_last (s := s) (by omega)
    have hx : ((bs s).take s.size).drop (s.size - 1) = [d] := by
      rw [show (bs s).take s.size = bs s by rw [← bs_len, List.take_length]]
      have hl : s.size - 1 < (bs s).length := by rw [bs_len]; omega
      rw [List.drop_eq_getElem_cons hl]
      rw [List.getLast?_eq_getElem?, bs_len, List.getElem?_eq_getElem hl] at hd
      rw [Option.some.inj hd, List.drop_eq_nil_of_le (by rw [bs_len]; omega)]
    rw [h1] at *
    rw [show ((1 : Nat) : Int) = 1 from rfl] at *
    simp only [a1, e1, a2, a3, str_eq, Int.toNat_natCast, bs_ext, hx, hp, hd]
    simp
  · have a1 : ¬ ((s.size : Int) ≥ ((1 : Nat) : Int)) := by omega
    have : (bs s) = [] := by
      apply List.eq_nil_of_length_eq_zero
      rw [bs_len]; omega
    rw [h1]
    simp only [a1, this]
    simp
theorem domL_eq (n : Nat) (hn : 10000000 ≤ n) : ∀ (m : Nat) (s : ByteArray), s.size ≤ 1000000 → s.size < m → Dom.domL (fun x => strings_Index n x Dom.dot) (addr_label n) m s = some ((splitG 46 [] (bs s)).all labR)
  | 0, s, hs, hm => absurd hm (Nat.not_lt_zero _)
  | m + 1, s, hs, hm => by
    have hlt := idx_lt 46 (bs s)
    have hge := (idx_mem (c := 46) (bs s)).2
    rw [Dom.domL]
    simp only [Index_eq n s hs, Option.bind_some]
    rw [splitG_idx]
    by_cases hx : idx 46 (bs s) = -1
    · rw [if_pos hx, hx, if_pos (by decide), label_eq n s hs hn]
      simp
    · obtain ⟨k, hk⟩ : ∃ k : Nat, idx 46 (bs s) = (k : Int) := ⟨(idx 46 (bs s)).toNat, by omega⟩
      have hks : k < s.size := by have := hlt.1; rw [bs_len] at this; omega
      have hbe : bs (s.extract (k + 1) s.size) = (bs s).drop (k + 1) := by rw [bs_ext, ← bs_len, List.take_length]
      have hb0 : bs (s.extract 0 k) = (bs s).take k := by rw [bs_ext]; rfl
      have ih := domL_eq n hn m (s.extract (k + 1) s.size) (Nat.le_trans (ext_size _ _ _) hs) (by rw [← bs_len, hbe, List.length_drop, bs_len]; omega)
      rw [if_neg hx, hk, if_neg (by omega), if_pos ⟨by omega, by omega⟩, Int.toNat_natCast, label_eq n _ (Nat.le_trans (ext_size _ _ _) hs) hn, Option.bind_some, ih, hb0, hbe]
      simp only [List.nil_append, List.all_cons]
      cases labR ((bs s).take k) <;> simp
def domP (l : List Int) : Bool := if l.head? = some 91 then decide (l.getLast? = some 93) && litP (inner l) else (splitG 46 [] l).all labR && decide (l.length ≤ 255)
theorem IsLiteral_eq (n : Nat) (s : ByteArray) : addr_IsLiteral n s = some (decide ((bs s).head? = some 91)) := by
  unfold addr_IsLiteral addr_IsLiteral_B
  rw [HasPrefix_one n s _ (c := 91) rfl]; rfl
theorem IsDomain_eq (n : Nat) (s : ByteArray) (hs : s.size ≤ 1000000) (hn : 10000000 ≤ n) : addr_IsDomain n s = some (domP (bs s)) := by
  unfold addr_IsDomain domP
  rw [IsLiteral_eq, Option.bind_some]
  by_cases h : (bs s).head? = some 91
  · rw [if_pos (by simpa using h), if_pos h, HasSuffix_one n s _ hs (c := 93) rfl, Option.bind_some]
    by_cases h2 : (bs s).getLast? = some 93
    · have hsz : 2 ≤ s.size := by
        rw [← bs_len]
        cases hb : bs s with
        | nil => rw [hb] at h; cases h
        | cons c r => cases r with
          | nil => rw [hb] at h h2; simp at h h2; omega
          | cons d r => simp
      rw [if_pos (by simpa using h2), if_pos ⟨by omega, by omega⟩, literal_eq n _ (Nat.le_trans (ext_size _ _ _) hs) hn, bs_inner]
      simp [h2]
    · rw [if_neg (by simpa using h2)]; simp [h2]
  · rw [if_neg (by simpa using h), if_neg h]
    unfold Dom.domT
    rw [domL_eq n hn n s hs (by omega), Option.bind_some]
    have e : (decide ((s.size : Int) ≤ 255)) = decide ((bs s).length ≤ 255) := by rw [bs_len, decide_eq_decide]; omega
    rw [e]
    cases (splitG 46 [] (bs s)).all labR <;> simp
/-- Both ways to ask of a domain are one. -/
theorem okR_len {w : List Int} (h : okR w = true) : w.length ≤ 16 := by
  unfold okR at h
  simp only [Bool.and_eq_true, decide_eq_true_eq] at h
  exact h.1.1.1.2
theorem splitG_sum (d : Int) : ∀ (r cur : List Int), cur.length + r.length + 1 = ((splitG d cur r).map fun w => w.length + 1).sum
  | [], cur => by simp [splitG]
  | c :: r, cur => by
    simp only [splitG]
    split
    · have := splitG_sum d r []
      simp at this ⊢; omega
    · have := splitG_sum d r (cur ++ [c])
      simp at this ⊢; omega
theorem litP_len {l : List Int} (h : litP l = true) : l.length ≤ 100 := by
  unfold litP at h
  simp only [Bool.and_eq_true, decide_eq_true_eq, List.all_eq_true] at h
  have hs := splitG_sum 46 l []
  obtain ⟨h1, h2⟩ := h
  have key : ∀ W : List (List Int), (∀ w ∈ W, w.length ≤ 16) → (W.map fun w => w.length + 1).sum ≤ 17 * W.length := fun W => by
    induction W with
    | nil => intro _; simp
    | cons w W ih =>
      intro hw
      have a := hw w List.mem_cons_self
      have b := ih fun x hx => hw x (List.mem_cons_of_mem _ hx)
      simp only [List.map_cons, List.sum_cons, List.length_cons]; omega
  have := key _ fun w hw => okR_len (h1 w hw)
  simp at hs
  omega
theorem labR_91 {w : List Int} (h : w.head? = some 91) : labR w = false := by
  cases w with
  | nil => cases h
  | cons c r =>
    simp at h; subst h
    have : lch 91 = false := by decide
    simp [labR, this]
theorem splitG_cons (d : Int) : ∀ (r cur : List Int), cur ≠ [] → ∃ w W, splitG d cur r = w :: W ∧ w.head? = cur.head?
  | [], cur, h => ⟨cur, [], rfl, rfl⟩
  | c :: r, cur, h => by
    simp only [splitG]
    split
    · exact ⟨cur, _, rfl, rfl⟩
    · obtain ⟨w, W, h1, h2⟩ := splitG_cons d r (cur ++ [c]) (by simp)
      refine ⟨w, W, h1, h2.trans ?_⟩
      cases cur with
      | nil => exact absurd rfl h
      | cons x xs => rfl
theorem dom_same (l : List Int) : domP l = domR l := by
  unfold domP domR litR
  by_cases h : l.head? = some 91
  · rw [if_pos h]
    have hsp : (splitG 46 [] l).all labR = false := by
      cases l with
      | nil => cases h
      | cons c r =>
        simp at h; subst h
        simp only [splitG]
        rw [if_neg (by decide)]
        obtain ⟨w, W, h1, h2⟩ := splitG_cons 46 r ([] ++ [91]) (by simp)
        rw [h1, List.all_cons, labR_91 (by rw [h2]; rfl)]; rfl
    rw [hsp]
    by_cases h2 : l.getLast? = some 93
    · have hl : 2 ≤ l.length := by
        cases l with
        | nil => cases h
        | cons c r => cases r with
          | nil => simp at h h2; omega
          | cons d r => simp
      cases hp : litP (inner l) with
      | false => simp [h2]
      | true =>
        have := litP_len hp
        have hle : l.length ≤ 255 := by
          unfold inner at this
          rw [List.length_drop, List.length_take] at this
          omega
        simp [h, h2, hl, hle]
    · simp [h2]
  · rw [if_neg h]
    simp [h, Bool.and_comm]

/-! Small letters. -/
def low (c : Int) : Int := if 65 ≤ c ∧ c ≤ 90 then c + 32 else c
theorem sq_bs (s : ByteArray) : sqL id (⟨s.size, fun q => bt s q⟩ : Sq Int) = bs s := by
  apply List.ext_getElem?
  intro j
  unfold sqL
  rw [List.getElem?_map]
  by_cases h : j < s.size
  · rw [List.getElem?_range h]
    obtain ⟨c, hc⟩ : ∃ c, (bs s)[j]? = some c := ⟨_, List.getElem?_eq_getElem (by rw [bs_len]; exact h)⟩
    rw [hc]
    simp [bt_at hc]
  · rw [List.getElem?_eq_none (by simp; omega), List.getElem?_eq_none (by rw [bs_len]; omega)]; rfl
theorem sqL_set {b : Sq Int} {k : Nat} {v : Int} : sqL id (⟨b.n, fun q => if q = k ∧ q < b.n then v else b.at' q⟩ : Sq Int) = (sqL id b).set k v := by
  apply List.ext_getElem?
  intro j
  unfold sqL
  rw [List.getElem?_map, List.getElem?_set]
  by_cases h : j < b.n
  · rw [List.getElem?_range h]
    by_cases hk : k = j
    · subst hk; simp [h]
    · have : ¬ j = k := fun e => hk e.symm
      simp [hk, this, h]
  · rw [List.getElem?_eq_none (by simp; omega)]
    by_cases hk : k = j
    · subst hk; simp [h]
    · simp [hk, h]
theorem small_L0 (n : Nat) (t : Nat) (ht : t ≤ 1000000) : ∀ (r P : List Int) (m : Nat) (b : Sq Int), sqL id b = P ++ r → b.n = t → (∀ c ∈ P ++ r, 0 ≤ c ∧ c < 256) → r.length < m →
    ∃ b', addr_small_L0 n m t P.length b = some (.out b') ∧ sqL id b' = P ++ r.map low ∧ b'.n = t
  | [], P, m, b, hb, hbn, hr, hm => by
    obtain ⟨m, rfl⟩ : ∃ q, m = q + 1 := ⟨m - 1, by omega⟩
    have hl := sqL_len id b
    rw [hb, List.append_nil, hbn] at hl
    refine ⟨b, ?_, by simpa using hb, hbn⟩
    have : ¬ ((P.length : Int) < (t : Int)) := by omega
    simp [addr_small_L0, addr_small_B0, this]
  | c :: r, P, m, b, hb, hbn, hr, hm => by
    obtain ⟨m, rfl⟩ : ∃ q, m = q + 1 := ⟨m - 1, by omega⟩
    have hl := sqL_len id b
    rw [hb, hbn] at hl
    simp at hl
    have hat : b.at' P.length = c := by
      have h1 := sqL_get (f := id) (q := b) (i := P.length) (by omega)
      rw [hb, List.getElem?_append_right (Nat.le_refl _), Nat.sub_self] at h1
      simpa using h1.symm
    have hc := hr c (by simp)
    have e1 := wr1 (k := P.length) (by omega)
    have a1 : (P.length : Int) < (t : Int) := by omega
    have a2 : (0 : Int) ≤ (P.length : Int) := by omega
    have a3 : (P.length : Int) < (b.n : Int) := by omega
    by_cases hlow : 65 ≤ c ∧ c ≤ 90
    · have w1 := wr8 (x := c + 97) (by omega) (by omega)
      have w2 := wr8 (x := c + 97 - 65) (by omega) (by omega)
      obtain ⟨b', h1, h2, h3⟩ := small_L0 n t ht r (P ++ [c + 32]) m (⟨b.n, fun q => if q = P.length ∧ q < b.n then c + 97 - 65 else b.at' q⟩ : Sq Int)
        (by rw [sqL_set, hb, List.set_append_right _ _ (Nat.le_refl _), Nat.sub_self, show c + 97 - 65 = c + 32 by omega]; simp) hbn
        (fun x hx => by
          simp only [List.append_assoc, List.mem_append, List.mem_cons, List.mem_nil_iff, or_false, false_or, List.cons_append, List.nil_append] at hx
          rcases hx with h | h | h
          · exact hr x (by simp [h])
          · omega
          · exact hr x (by simp [h])) (by simpa using hm)
      refine ⟨b', ?_, by rw [h2]; simp [low, hlow], h3⟩
      have b1 : c ≥ 65 := hlow.1
      simp only [addr_small_L0, addr_small_B0, a1, a2, a3, Int.toNat_natCast, hat, e1, w1, w2, b1, hlow.2]
      simpa using h1
    · obtain ⟨b', h1, h2, h3⟩ := small_L0 n t ht r (P ++ [c]) m b (by rw [hb]; simp) hbn (fun x hx => hr x (by simpa using hx)) (by simpa using hm)
      refine ⟨b', ?_, by rw [h2]; simp [low, hlow], h3⟩
      have h1' : addr_small_L0 n m t ((P.length + 1 : Nat) : Int) b = some (.out b') := by simpa using h1
      by_cases b1 : c ≥ 65
      · have b2 : ¬ c ≤ 90 := fun h => hlow ⟨b1, h⟩
        simp only [addr_small_L0, addr_small_B0, a1, a2, a3, Int.toNat_natCast, hat, e1, b1, b2]
        simpa using h1'
      · simp only [addr_small_L0, addr_small_B0, a1, a2, a3, Int.toNat_natCast, hat, e1, b1]
        simpa using h1'
theorem low_rng {c : Int} (h : 0 ≤ c ∧ c < 256) : 0 ≤ low c ∧ low c < 256 := by unfold low; split <;> omega
theorem small_eq (n : Nat) (s : ByteArray) (hs : s.size ≤ 1000000) (hn : 10000000 ≤ n) : ∃ t, addr_small n s = some t ∧ bs t = (bs s).map low := by
  obtain ⟨b', h1, h2, h3⟩ := small_L0 n s.size hs (bs s) [] n (⟨s.size, fun q => bt s q⟩ : Sq Int) (sq_bs s) rfl (fun c hc => bs_rng (by simpa using hc)) (by rw [bs_len]; omega)
  refine ⟨strOf b'.n b'.at', ?_, ?_⟩
  · unfold addr_small addr_small_B
    rw [show (([] : List Int).length : Int) = 0 from rfl] at h1
    rw [h1]; rfl
  · rw [bs_strOf fun i hi => ?_]
    · have : sqL id b' = (List.range b'.n).map b'.at' := rfl
      rw [← this, h2]; rfl
    · have := sqL_get (f := id) (q := b') hi
      rw [h2] at this
      have hm := List.mem_of_getElem? this
      simp only [List.nil_append, List.mem_map] at hm
      obtain ⟨c, hc, e⟩ := hm
      have := low_rng (bs_rng hc)
      rw [e] at this
      exact this
theorem Lower_L0 (n : Nat) (t : Nat) (ht : t ≤ 1000000) : ∀ (r P : List Int) (m : Nat) (b : Sq Int), sqL id b = P ++ r → b.n = t → (∀ c ∈ P ++ r, 0 ≤ c ∧ c < 256) → r.length < m →
    ∃ b', pouchref0_Lower_L0 n m P.length b = some (.out b') ∧ sqL id b' = P ++ r.map low ∧ b'.n = t
  | [], P, m, b, hb, hbn, hr, hm => by
    obtain ⟨m, rfl⟩ : ∃ q, m = q + 1 := ⟨m - 1, by omega⟩
    have hl := sqL_len id b
    rw [hb, List.append_nil] at hl
    refine ⟨b, ?_, by simpa using hb, hbn⟩
    have : ¬ ((P.length : Int) < (b.n : Int)) := by omega
    simp [pouchref0_Lower_L0, pouchref0_Lower_B0, this]
  | c :: r, P, m, b, hb, hbn, hr, hm => by
    obtain ⟨m, rfl⟩ : ∃ q, m = q + 1 := ⟨m - 1, by omega⟩
    have hl := sqL_len id b
    rw [hb, hbn] at hl
    simp at hl
    have hat : b.at' P.length = c := by
      have h1 := sqL_get (f := id) (q := b) (i := P.length) (by omega)
      rw [hb, List.getElem?_append_right (Nat.le_refl _), Nat.sub_self] at h1
      simpa using h1.symm
    have hc := hr c (by simp)
    have e1 := wr1 (k := P.length) (by omega)
    have a2 : (0 : Int) ≤ (P.length : Int) := by omega
    have a3 : (P.length : Int) < (b.n : Int) := by omega
    by_cases hlow : 65 ≤ c ∧ c ≤ 90
    · have w1 := wr8 (x := c + 32) (by omega) (by omega)
      obtain ⟨b', h1, h2, h3⟩ := Lower_L0 n t ht r (P ++ [c + 32]) m (⟨b.n, fun q => if q = P.length ∧ q < b.n then c + 32 else b.at' q⟩ : Sq Int)
        (by rw [sqL_set, hb, List.set_append_right _ _ (Nat.le_refl _), Nat.sub_self]; simp) hbn
        (fun x hx => by
          simp only [List.append_assoc, List.mem_append, List.mem_cons, List.mem_nil_iff, or_false, false_or, List.cons_append, List.nil_append] at hx
          rcases hx with h | h | h
          · exact hr x (by simp [h])
          · omega
          · exact hr x (by simp [h])) (by simpa using hm)
      refine ⟨b', ?_, by rw [h2]; simp [low, hlow], h3⟩
      have b1 : c ≥ 65 := hlow.1
      simp only [pouchref0_Lower_L0, pouchref0_Lower_B0, a2, a3, Int.toNat_natCast, hat, e1, w1, b1, hlow.2]
      simpa using h1
    · obtain ⟨b', h1, h2, h3⟩ := Lower_L0 n t ht r (P ++ [c]) m b (by rw [hb]; simp) hbn (fun x hx => hr x (by simpa using hx)) (by simpa using hm)
      refine ⟨b', ?_, by rw [h2]; simp [low, hlow], h3⟩
      have h1' : pouchref0_Lower_L0 n m ((P.length + 1 : Nat) : Int) b = some (.out b') := by simpa using h1
      by_cases b1 : c ≥ 65
      · have b2 : ¬ c ≤ 90 := fun h => hlow ⟨b1, h⟩
        simp only [pouchref0_Lower_L0, pouchref0_Lower_B0, a2, a3, Int.toNat_natCast, hat, e1, b1, b2]
        simpa using h1'
      · simp only [pouchref0_Lower_L0, pouchref0_Lower_B0, a2, a3, Int.toNat_natCast, hat, e1, b1]
        simpa using h1'
theorem Lower_eq (n : Nat) (s : ByteArray) (hs : s.size ≤ 1000000) (hn : 10000000 ≤ n) : ∃ t, pouchref0_Lower n s = some t ∧ bs t = (bs s).map low := by
  obtain ⟨b', h1, h2, h3⟩ := Lower_L0 n s.size hs (bs s) [] n (⟨s.size, fun q => bt s q⟩ : Sq Int) (sq_bs s) rfl (fun c hc => bs_rng (by simpa using hc)) (by rw [bs_len]; omega)
  refine ⟨strOf b'.n b'.at', ?_, ?_⟩
  · unfold pouchref0_Lower pouchref0_Lower_B
    rw [show (([] : List Int).length : Int) = 0 from rfl] at h1
    rw [h1]; rfl
  · rw [bs_strOf fun i hi => ?_]
    · have : sqL id b' = (List.range b'.n).map b'.at' := rfl
      rw [← this, h2]; rfl
    · have := sqL_get (f := id) (q := b') hi
      rw [h2] at this
      have hm := List.mem_of_getElem? this
      simp only [List.nil_append, List.mem_map] at hm
      obtain ⟨c, hc, e⟩ := hm
      have := low_rng (bs_rng hc)
      rw [e] at this
      exact this
end Go.Proofs.YthmhobnhladhbaaDoor.AM
