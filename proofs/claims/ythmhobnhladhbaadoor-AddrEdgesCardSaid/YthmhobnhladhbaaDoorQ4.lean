/- What the functions of addr and of its reference tell: part 4: strings.Split; literals. -/
import Derived.Test.YthmhobnhladhbaaDoorQ3
namespace Go.Proofs.YthmhobnhladhbaaDoor.AM
open Go
set_option linter.unusedSimpArgs false
set_option linter.unusedVariables false

theorem dot_bs : bs Dom.dot = [46] := rfl
theorem Index_eq (n : Nat) (s : ByteArray) (hs : s.size ≤ 1000000) : strings_Index n s Dom.dot = some (idx 46 (bs s)) := by
  unfold strings_Index strings_Index_B internal_stringslite_Index internal_stringslite_Index_B internal_stringslite_IndexByte internal_stringslite_IndexByte_B
  rw [str_eq, dot_bs]
  have e1 : (Dom.dot.size : Int) = 1 := rfl
  have e2 : bt Dom.dot 0 = 46 := rfl
  rw [e1, e2]
  by_cases h : [46] = bs s
  · rw [← h]; simp [idx]
  · have := idx_eq (c := 46) (by decide) (by decide) s.data.toList
    have h' : decide ([46] = bs s) = false := decide_eq_false h
    rw [h']
    simp
    exact this
theorem splitG_idx (d : Int) : ∀ (l cur : List Int), splitG d cur l = if idx d l = -1 then [cur ++ l] else (cur ++ l.take (idx d l).toNat) :: splitG d [] (l.drop ((idx d l).toNat + 1))
  | [], cur => by simp [splitG, idx]
  | c :: l, cur => by
    have ih := splitG_idx d l (cur ++ [c])
    have hge := (idx_mem (c := d) l).2
    by_cases h : c = d
    · have e : idx d (c :: l) = 0 := by simp [idx, h]
      simp [splitG, h, e]
      simp [idx]
    · by_cases h2 : idx d l = -1
      · have e : idx d (c :: l) = -1 := by simp [idx, h, h2]
        simp [splitG, h, e, ih, h2]
      · have e : idx d (c :: l) = idx d l + 1 := by simp [idx, h, h2]
        have e2 : (idx d l + 1).toNat = (idx d l).toNat + 1 := by omega
        have e3 : ¬ (idx d l + 1 = -1) := by omega
        simp only [splitG, h, e, ih, h2, e2, e3, if_false]
        simp
theorem idx_lt (d : Int) : ∀ (l : List Int), idx d l < l.length ∧ (idx d l = -1 → l.count d = 0) ∧ (idx d l ≠ -1 → l.count d = (l.drop ((idx d l).toNat + 1)).count d + 1)
  | [] => by simp [idx]
  | c :: l => by
    have ih := idx_lt d l
    have hge := (idx_mem (c := d) l).2
    simp only [idx]
    by_cases h : c = d
    · first | (simp [h]; done) | (simp [h]; omega)
    · rw [if_neg h]
      have hc : (c == d) = false := by simpa using h
      by_cases h2 : idx d l = -1
      · have := ih.2.1 h2
        simp [h2, List.count_cons, this, hc]
        omega
      · rw [if_neg h2]
        have e : (idx d l + 1).toNat = (idx d l).toNat + 1 := by omega
        have := ih.2.2 h2
        refine ⟨by simp; omega, fun h => by omega, fun _ => ?_⟩
        rw [e, List.count_cons, this]
        simp [hc]
theorem genSplit_L0 (n : Nat) (N : Nat) (hN : N ≤ 1000000) : ∀ (c i m : Nat) (s : ByteArray) (a : Sq ByteArray), s.size ≤ 1000000 → (bs s).count 46 = c → i + c = N → a.n = N + 1 → c < m →
    ∃ s' a', strings_genSplit_L0 n m s Dom.dot 0 N i a = some (.out (s', (N : Int), a')) ∧ a'.n = N + 1 ∧ (∀ j, j < i → a'.at' j = a.at' j) ∧
      ∃ P : List (List Int), splitG 46 [] (bs s) = P ++ [bs s'] ∧ P.length = c ∧ ∀ j w, P[j]? = some w → bs (a'.at' (i + j)) = w
  | 0, i, m, s, a, hs, hc, hi, ha, hm => by
    obtain ⟨m, rfl⟩ : ∃ q, m = q + 1 := ⟨m - 1, by omega⟩
    have hiN : i = N := by omega
    subst hiN
    refine ⟨s, a, ?_, ha, fun _ _ => rfl, [], ?_, rfl, fun j w h => by simp at h⟩
    · simp [strings_genSplit_L0, strings_genSplit_B0]
    · have hx : idx 46 (bs s) = -1 := by
        have := idx_lt 46 (bs s)
        have hge := (idx_mem (c := 46) (bs s)).2
        refine Classical.byContradiction fun h => ?_
        have := this.2.2 h
        omega
      rw [splitG_idx, if_pos hx]; rfl
  | c + 1, i, m, s, a, hs, hc, hi, ha, hm => by
    obtain ⟨m, rfl⟩ : ∃ q, m = q + 1 := ⟨m - 1, by omega⟩
    have hlt := idx_lt 46 (bs s)
    have hge := (idx_mem (c := 46) (bs s)).2
    have hx : idx 46 (bs s) ≠ -1 := fun h => by have := hlt.2.1 h; omega
    obtain ⟨k, hk⟩ : ∃ k : Nat, idx 46 (bs s) = (k : Int) := ⟨(idx 46 (bs s)).toNat, by omega⟩
    have hks : k < s.size := by have := hlt.1; rw [bs_len] at this; omega
    have hcount := hlt.2.2 hx
    rw [hk, Int.toNat_natCast, hc] at hcount
    have hbe : bs (s.extract (k + 1) s.size) = (bs s).drop (k + 1) := by
      rw [bs_ext, ← bs_len, List.take_length]
    have hsz : (s.extract (k + 1) s.size).size ≤ 1000000 := by
      rw [← bs_len, hbe, List.length_drop, bs_len]; omega
    obtain ⟨s', a', h1, h2, h3, P, h4, h5, h6⟩ := genSplit_L0 n N hN c (i + 1) m (s.extract (k + 1) s.size)
      (⟨a.n, fun q => if q = i ∧ q < a.n then s.extract 0 k else a.at' q⟩ : Sq ByteArray) hsz (by rw [hbe]; omega) (by omega) ha (by omega)
    refine ⟨s', a', ?_, h2, fun j hj => ?_, (bs s).take k :: P, ?_, by simp [h5], fun j w hw => ?_⟩
    · have a1 : (i : Int) < (N : Int) := by omega
      have a2 : ¬ ((k : Int) < 0) := by omega
      have a3 : (0 : Int) ≤ (i : Int) := by omega
      have a4 : (i : Int) < (a.n : Int) := by omega
      have a5 : (0 : Int) ≤ (k : Int) := by omega
      have a6 : (k : Int) ≤ (s.size : Int) := by omega
      have e0 : IntKind.wrap .i64 ((k : Int) + 0) = (k : Int) := by rw [Int.add_zero]; exact wr (by omega) (by omega)
      have e1 : (Dom.dot.size : Int) = 1 := rfl
      have e2 := wr1 (k := k) (by omega)
      have e3 := wr1 (k := i) (by omega)
      have a7 : (0 : Int) ≤ ((k + 1 : Nat) : Int) := by omega
      have a8 : ((k + 1 : Nat) : Int) ≤ (s.size : Int) := by omega
      simp only [strings_genSplit_L0, strings_genSplit_B0, Index_eq n s hs, hk, a1, a2, a3, a4, a5, a6, e0, e1, e2, e3, a7, a8, Int.toNat_natCast]
      have e0' : IntKind.wrap .i64 (k : Int) = (k : Int) := wr (by omega) (by omega)
      have e2' : IntKind.wrap .i64 ((k : Int) + 1) = (k : Int) + 1 := e2
      have a7' : (0 : Int) ≤ (k : Int) + 1 := by omega
      have a8' : (k : Int) + 1 ≤ (s.size : Int) := by omega
      have e9 : ((k : Int) + 1).toNat = k + 1 := by omega
      simpa [a2, a3, a4, a5, a6, e0', e2', a7', a8', e9] using h1
    · rw [h3 j (by omega)]
      simp [show ¬ j = i by omega]
    · rw [splitG_idx, if_neg hx, hk, Int.toNat_natCast, ← hbe, h4]; simp
    · cases j with
      | zero =>
        simp at hw
        rw [Nat.add_zero, h3 i (by omega), ← hw]
        simp only [show i < a.n by omega, and_self, if_true]
        rw [bs_ext]; simp
      | succ j =>
        have := h6 j w (by simpa using hw)
        rwa [show i + (j + 1) = i + 1 + j by omega]
theorem split_eq (n : Nat) (s : ByteArray) (hs : s.size ≤ 1000000) (hn : 10000000 ≤ n) : ∃ q, strings_Split n s (⟨#[46]⟩ : ByteArray) = some q ∧ sqL bs q = splitG 46 [] (bs s) := by
  have hcl : (bs s).count 46 ≤ s.size := by rw [← bs_len]; exact List.count_le_length
  obtain ⟨c, hc⟩ : ∃ c, (bs s).count 46 = c := ⟨_, rfl⟩
  rw [hc] at hcl
  have hcount : strings_Count n s Dom.dot = some (c : Int) := by
    unfold strings_Count strings_Count_B
    have e2 : bt Dom.dot 0 = 46 := rfl
    have := count_eq (c := 46) (by decide) (by decide) s.data.toList
    rw [e2, this, show (Dom.dot.size : Int) = 1 from rfl, ← hc]
    rfl
  obtain ⟨s', a', h1, h2, h3, P, h4, h5, h6⟩ := genSplit_L0 n c (by omega) c 0 n s (⟨c + 1, fun _ => (⟨#[]⟩ : ByteArray)⟩ : Sq ByteArray) hs hc (by omega) rfl (by omega)
  refine ⟨(⟨c + 1, fun i => (fun q => if q = c ∧ q < a'.n then s' else a'.at' q) (0 + i)⟩ : Sq ByteArray), ?_, ?_⟩
  · have e1 := wr1 (k := s.size) (by omega)
    have e2 := wr1 (k := c) (by omega)
    have hif : (if ((s.size + 1 : Nat) : Int) < ((c + 1 : Nat) : Int) then ((s.size + 1 : Nat) : Int) else ((c + 1 : Nat) : Int)) = ((c + 1 : Nat) : Int) := if_neg (by omega)
    have e3 : IntKind.wrap .i64 (((c + 1 : Nat) : Int) - 1) = (c : Int) := by rw [wr (by omega) (by omega)]; omega
    have f1 := fits (n := c) (by omega)
    have f0 : (0 : Int) ≤ ((c + 1 : Nat) : Int) := by omega
    have f2 : (c : Int) < (a'.n : Int) := by omega
    have f3 : ((c + 1 : Nat) : Int) ≤ (a'.n : Int) := by omega
    have f4 : (0 : Int) ≤ (c : Int) := by omega
    have hne : (decide (bs Dom.dot = bs (⟨#[]⟩ : ByteArray))) = false := by decide
    unfold strings_Split strings_Split_B strings_genSplit strings_genSplit_B
    rw [show (⟨#[46]⟩ : ByteArray) = Dom.dot from rfl, str_eq, hne, hcount]
    rw [show ((0 : Nat) : Int) = 0 from rfl] at h1
    simp only [Option.bind_some, e1, e2, hif, e3, f1, f0, Int.toNat_natCast, h1, onL, f2, f3, f4]
    simp
  · unfold sqL
    rw [List.range_succ, List.map_append, h4]
    congr 1
    · apply List.ext_getElem?
      intro j
      rw [List.getElem?_map]
      by_cases hj : j < c
      · rw [List.getElem?_range hj, List.getElem?_eq_getElem (by omega)]
        have := h6 j _ (List.getElem?_eq_getElem (by omega))
        rw [Nat.zero_add] at this
        simp [show ¬ j = c by omega, this]
      · rw [List.getElem?_eq_none (by simp; omega), List.getElem?_eq_none (by omega)]; rfl
    · simp [show c < a'.n by omega]
/-- A literal's numbers. -/
theorem lit_L0 (n : Nat) (l : Sq ByteArray) (hl : l.n ≤ 2000000) (hs : ∀ i, i < l.n → (l.at' i).size ≤ 1000000) : ∀ (W : List (List Int)) (i m : Nat), (sqL bs l).drop i = W → W.length < m → i ≤ l.n →
    addr_literal_L0 n m l l l.n i = some (if W.all okR = true then .out l else .ret false)
  | [], i, m, h, hm, hi => by
    obtain ⟨m, rfl⟩ : ∃ q, m = q + 1 := ⟨m - 1, by omega⟩
    have := sqL_nil h
    have a4 : ¬ ((i : Int) < (l.n : Int)) := by omega
    simp [addr_literal_L0, addr_literal_B0, a4]
  | w :: W, i, m, h, hm, hi => by
    obtain ⟨m, rfl⟩ : ∃ q, m = q + 1 := ⟨m - 1, by omega⟩
    obtain ⟨h1, h2, h3⟩ := sqL_drop h
    have e1 := wr1 (k := i) (by omega)
    have a1 : (0 : Int) ≤ (i : Int) := by omega
    have a2 : (i : Int) < (l.n : Int) := by omega
    have ih := lit_L0 n l hl hs W (i + 1) m h3 (by simpa using hm) (by omega)
    have hw := okP_eq (l.at' i).data.toList
    rw [show ints (l.at' i).data.toList = w from h2] at hw
    have hsz : (l.at' i).size ≤ 281474976710656 := by have := hs i h1; omega
    simp only [addr_literal_L0, addr_literal_B0, a1, a2, Int.toNat_natCast, e1, List.all_cons, ← hw, atoiF, hsz]
    unfold okP
    rcases hv : Lib.atoiAll (l.at' i).data.toList with v | _ | _
    · have hb := Lib.atoiAll_bounds hv
      by_cases g0 : v < 0
      · have : ¬ (0 ≤ v) := by omega
        simp [g0, this]
      · by_cases g1 : v > 255
        · have : ¬ (v ≤ 255) := by omega
          simp [g0, g1, this]
        · have q0 : 0 ≤ v := by omega
          have q1 : v ≤ 255 := by omega
          have q2 : -9223372036854775808 ≤ v ∧ v ≤ 9223372036854775807 := ⟨by omega, by omega⟩
          have hb : bs (⟨(Lib.itoa v).toArray⟩ : ByteArray) = ints (Lib.itoa v) := rfl
          have hdp : bs (⟨(Lib.itoa v).toArray⟩ : ByteArray) = bs (l.at' i) ↔ Lib.itoa v = (l.at' i).data.toList := ⟨fun h => ints_inj h, fun h => by rw [hb, h]; rfl⟩
          have hd : decide (bs (⟨(Lib.itoa v).toArray⟩ : ByteArray) = bs (l.at' i)) = decide (Lib.itoa v = (l.at' i).data.toList) := decide_eq_decide.2 hdp
          simp only [g0, g1, q0, q1, itoaF, q2, str_eq, hd]
          by_cases hi : Lib.itoa v = (l.at' i).data.toList
          · simpa [hi, q0, q1, q2.1, q2.2] using ih
          · have : ¬ bs (⟨(Lib.itoa v).toArray⟩ : ByteArray) = bs (l.at' i) := fun h => hi (hdp.1 h)
            simp [hi, q0, q1, q2.1, q2.2, this]
    · simp
    · simp
def litP (l : List Int) : Bool := (splitG 46 [] l).all okR && decide ((splitG 46 [] l).length = 4)
theorem literal_eq (n : Nat) (s : ByteArray) (hs : s.size ≤ 1000000) (hn : 10000000 ≤ n) : addr_literal n s = some (litP (bs s)) := by
  obtain ⟨q, h1, h2⟩ := split_eq n s hs hn
  obtain ⟨h3, h4⟩ := split_words h2
  have h := lit_L0 n q (by omega) (fun i hi => Nat.le_trans (h4 i hi) hs) _ 0 n rfl (by rw [List.drop_zero, sqL_len]; omega) (by omega)
  rw [show ((0 : Nat) : Int) = 0 from rfl, List.drop_zero, h2] at h
  unfold addr_literal addr_literal_B litP
  rw [h1, Option.bind_some, h, Option.bind_some, ← h2, sqL_len]
  cases (sqL bs q).all okR
  · rfl
  · by_cases h4 : q.n = 4
    · simp [onL, h4]
    · have : ¬ ((q.n : Int) = 4) := by omega
      simp [onL, h4, this]
/-- The reference's. -/
theorem rlit_L0 (n : Nat) (hn : 10000000 ≤ n) (l : Sq ByteArray) (hl : l.n ≤ 2000000) : ∀ (W : List (List Int)) (i m : Nat), (sqL bs l).drop i = W → W.length < m → i ≤ l.n →
    pouchref4_Literal_L0 n m l i = some (if W.all okR = true then .out l else .ret false)
  | [], i, m, h, hm, hi => by
    obtain ⟨m, rfl⟩ : ∃ q, m = q + 1 := ⟨m - 1, by omega⟩
    have := sqL_nil h
    have a4 : ¬ ((i : Int) < (l.n : Int)) := by omega
    simp [pouchref4_Literal_L0, pouchref4_Literal_B0, a4]
  | w :: W, i, m, h, hm, hi => by
    obtain ⟨m, rfl⟩ : ∃ q, m = q + 1 := ⟨m - 1, by omega⟩
    obtain ⟨h1, h2, h3⟩ := sqL_drop h
    have e1 := wr1 (k := i) (by omega)
    have a1 : (0 : Int) ≤ (i : Int) := by omega
    have a2 : (i : Int) < (l.n : Int) := by omega
    have ih := rlit_L0 n hn l hl W (i + 1) m h3 (by simpa using hm) (by omega)
    simp only [pouchref4_Literal_L0, pouchref4_Literal_B0, a1, a2, Int.toNat_natCast, e1, List.all_cons, Value_eq _ _ hn, h2, okR_V]
    by_cases hv : okV w = true
    · by_cases g : valD 0 w ≤ 255
      · have : ¬ (valD 0 w > 255) := by omega
        simpa [hv, g, this] using ih
      · have : valD 0 w > 255 := by omega
        simp [hv, g, this]
    · simp [hv]
end Go.Proofs.YthmhobnhladhbaaDoor.AM
