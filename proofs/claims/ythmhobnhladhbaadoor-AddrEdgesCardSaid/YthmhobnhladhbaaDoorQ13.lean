/- What the functions of addr and of its reference tell: part 13: Text and Check; the law AddrTexts. -/
import Derived.Test.YthmhobnhladhbaaDoorQ12
namespace Go.Proofs.YthmhobnhladhbaaDoor.AM
open Go
set_option linter.unusedSimpArgs false
set_option linter.unusedVariables false

theorem splitG_all (d : Int) (p : Int → Bool) : ∀ (r cur : List Int), (splitG d cur r).all (fun w => w.all p) = true → (∀ c ∈ cur, p c = true) ∧ ∀ c ∈ r, p c = true ∨ c = d
  | [], cur, h => by
    simp only [splitG, List.all_cons, List.all_nil, Bool.and_true, List.all_eq_true] at h
    exact ⟨h, fun c hc => by cases hc⟩
  | c :: r, cur, h => by
    simp only [splitG] at h
    by_cases e : c = d
    · rw [if_pos e, List.all_cons, Bool.and_eq_true] at h
      obtain ⟨h1, h2⟩ := splitG_all d p r [] h.2
      refine ⟨fun x hx => List.all_eq_true.mp h.1 x hx, fun x hx => ?_⟩
      rcases List.mem_cons.mp hx with rfl | hx
      · exact .inr e
      · exact h2 x hx
    · rw [if_neg e] at h
      obtain ⟨h1, h2⟩ := splitG_all d p r (cur ++ [c]) h
      refine ⟨fun x hx => h1 x (List.mem_append_left _ hx), fun x hx => ?_⟩
      rcases List.mem_cons.mp hx with rfl | hx
      · exact .inl (h1 x (List.mem_append_right _ List.mem_cons_self))
      · exact h2 x hx
theorem inner_mem {l : List Int} (h : 2 ≤ l.length) (h1 : l.head? = some 91) (h2 : l.getLast? = some 93) : ∀ c ∈ l, c = 91 ∨ c = 93 ∨ c ∈ inner l := by
  intro c hc
  cases l with
  | nil => cases hc
  | cons a r =>
    simp only [List.head?_cons, Option.some.injEq] at h1
    rcases List.mem_cons.mp hc with e | hm
    · exact .inl (e.trans h1)
    · have hr : r ≠ [] := List.ne_nil_of_mem hm
      obtain ⟨k, hk⟩ : ∃ k, r.length = k + 1 := ⟨r.length - 1, by have := List.length_pos_iff.mpr hr; omega⟩
      have hi : inner (a :: r) = r.dropLast := by
        unfold inner
        rw [List.length_cons, Nat.add_sub_cancel, hk, List.take_succ_cons, List.drop_one, List.tail_cons, List.dropLast_eq_take, hk]; rfl
      have hg : r.getLast hr = 93 := by
        rw [List.getLast?_cons, List.getLast?_eq_some_getLast hr] at h2
        simpa using h2
      rw [← List.dropLast_concat_getLast hr] at hm
      rcases List.mem_append.mp hm with hm | hm
      · exact .inr (.inr (hi ▸ hm))
      · rw [List.mem_singleton.mp hm, hg]; exact .inr (.inl rfl)
theorem domR_low {l : List Int} (h : domR l = true) : l.map low = l := by
  have key : ∀ c ∈ l, ¬ (65 ≤ c ∧ c ≤ 90) := by
    unfold domR at h
    rw [Bool.and_eq_true, Bool.or_eq_true] at h
    rcases h.2 with h | h
    · unfold litR at h
      simp only [Bool.and_eq_true, decide_eq_true_eq] at h
      obtain ⟨⟨⟨h1, h2⟩, h3⟩, h4⟩ := h
      unfold litP at h4
      rw [Bool.and_eq_true] at h4
      have h5 : (splitG 46 [] (inner l)).all (fun w => w.all dig) = true := by
        rw [List.all_eq_true]
        intro w hw
        have := List.all_eq_true.mp h4.1 w hw
        unfold okR at this
        simp only [Bool.and_eq_true] at this
        exact this.1.2
      have h6 := (splitG_all 46 dig _ _ h5).2
      intro c hc
      rcases inner_mem h1 h2 h3 c hc with rfl | rfl | hm
      · decide
      · decide
      · rcases h6 c hm with h7 | rfl
        · unfold dig at h7
          simp only [Bool.and_eq_true, decide_eq_true_eq] at h7
          omega
        · decide
    · have h5 : (splitG 46 [] l).all (fun w => w.all lch) = true := by
        rw [List.all_eq_true]
        intro w hw
        have := List.all_eq_true.mp h w hw
        unfold labR at this
        simp only [Bool.and_eq_true] at this
        exact this.2
      have h6 := (splitG_all 46 lch _ _ h5).2
      intro c hc
      rcases h6 c hc with h7 | rfl
      · unfold lch sgn at h7
        simp only [Bool.and_eq_true, Bool.or_eq_true, decide_eq_true_eq] at h7
        omega
      · decide
  have : l.map low = l.map id := List.map_congr_left fun c hc => by
    unfold low
    rw [if_neg (key c hc)]; rfl
  rw [this, List.map_id]
theorem pl_64 : ∀ (l : List Int) (w : Nat), pl w l = true → 64 ∉ l
  | [], _, _ => by simp
  | c :: r, w, h => by
    simp only [pl] at h
    intro hm
    rcases List.mem_cons.mp hm with e | hm
    · subst e
      have a : atom 64 = false := by decide
      simp [a] at h
    · by_cases c1 : c = 46
      · rw [if_pos c1] at h
        by_cases c2 : w = 0
        · rw [if_pos c2] at h; cases h
        · rw [if_neg c2] at h; exact pl_64 r 0 h hm
      · rw [if_neg c1] at h
        by_cases c2 : atom c = true
        · rw [if_pos c2] at h; exact pl_64 r (w + 1) h hm
        · rw [if_neg c2] at h; cases h
theorem tw_app : ∀ (l z : List Int), 64 ∉ l → tw (l ++ 64 :: z) = l.length
  | [], z, _ => by simp [tw]
  | c :: r, z, h => by
    have hc : ¬ c = 64 := fun e => h (by rw [e]; exact List.mem_cons_self)
    have := tw_app r z fun hm => h (List.mem_cons_of_mem _ hm)
    show (if c = 64 then 0 else tw (r ++ 64 :: z) + 1) = _
    rw [if_neg hc, this]; rfl
theorem tailX_some {a z l d : List Int} (h : tailX a z = some (l, d)) : (locR l && domR d) = true := by
  unfold tailX at h
  by_cases c : z.head? = some 64 ∧ (locR a && domR ((z.drop 1).map low)) = true
  · rw [if_pos c] at h
    obtain ⟨h1, h2⟩ := Prod.mk.inj (Option.some.inj h)
    rw [← h1, ← h2]; exact c.2
  · rw [if_neg c] at h; cases h
theorem par_may (l d : List Int) : parR (l ++ 64 :: d) = some (l, d) ↔ (locR l && domR d) = true := by
  constructor
  · intro h
    unfold parR at h
    by_cases c : (l ++ 64 :: d).head? = some 34
    · rw [if_pos c] at h
      cases hq : qd ((l ++ 64 :: d).drop 1) with
      | none => rw [hq] at h; cases h
      | some x => rw [hq, Option.bind_some] at h; exact tailX_some h
    · rw [if_neg c] at h; exact tailX_some h
  · intro h
    rw [Bool.and_eq_true] at h
    obtain ⟨h1, hd⟩ := h
    have hlow := domR_low hd
    have tl : ∀ a, locR a = true → tailX a (64 :: d) = some (a, d) := by
      intro a ha
      unfold tailX
      have e : (64 :: d).drop 1 = d := rfl
      rw [e, hlow, ha, hd]
      rfl
    have L1 := h1
    unfold locR at L1
    rw [Bool.and_eq_true, Bool.and_eq_true, decide_eq_true_eq] at L1
    obtain ⟨⟨L2, L3⟩, L1⟩ := L1
    have hh : (l ++ 64 :: d).head? = l.head? := by
      cases l with
      | nil => simp at L2
      | cons a r => rfl
    unfold parR
    by_cases c : l.head? = some 34
    · rw [if_pos c] at L1
      cases hx : qd (l.drop 1) with
      | none => rw [hx] at L1; cases L1
      | some x =>
        rw [hx] at L1
        simp only [Bool.and_eq_true, decide_eq_true_eq, Bool.not_eq_true'] at L1
        obtain ⟨⟨e1, e2⟩, e3⟩ := L1
        have ok := qd_ok _ _ (Nat.le_refl _) x hx
        have hdr : (l ++ 64 :: d).drop 1 = esc x.1 ++ 34 :: 64 :: d := by
          rw [← e3]; simp [qt]
        have hqs : qs x.1 = l := by
          unfold qs
          rw [if_neg (by rw [e2]; decide), e3]
        rw [if_pos (hh.trans c), hdr, qd_esc x.1 ok (64 :: d), Option.bind_some]
        show tailX (qs x.1) (64 :: d) = _
        rw [hqs]; exact tl l h1
    · rw [if_neg c] at L1
      rw [if_neg (by rw [hh]; exact c), tw_app l d (pl_64 l 0 L1), List.take_left' rfl, List.drop_left' rfl]
      exact tl l h1
theorem Lay_eq (n : Nat) (a b : ByteArray) (ha : a.size ≤ 100000) (hb : b.size ≤ 100000) : addr_Lay n (a, (b, ())) = some ((a ++ (⟨#[64]⟩ : ByteArray)) ++ b) ∧ pouchref4_Text n (a, (b, ())) = some ((a ++ (⟨#[64]⟩ : ByteArray)) ++ b) := by
  have h64 : (⟨#[64]⟩ : ByteArray).size = 1 := rfl
  have f1 : strFits a (⟨#[64]⟩ : ByteArray) = true := fitS (by omega)
  have f2 : strFits (a ++ (⟨#[64]⟩ : ByteArray)) b = true := fitS (by rw [ByteArray.size_append]; omega)
  unfold addr_Lay addr_Lay_B pouchref4_Text pouchref4_Text_B
  rw [if_pos f1, if_pos f2]
  exact ⟨rfl, rfl⟩
theorem aMay_eq (n : Nat) (a b : ByteArray) (ha : a.size ≤ 100000) (hb : b.size ≤ 100000) (hn : 10000000 ≤ n) : addr_May n (a, (b, ())) = some (locR (bs a) && domR (bs b)) := by
  have h64 : (⟨#[64]⟩ : ByteArray).size = 1 := rfl
  have hs : ((a ++ (⟨#[64]⟩ : ByteArray)) ++ b).size ≤ 400000 := by rw [ByteArray.size_append, ByteArray.size_append]; omega
  have hP := Parse_eq n _ hs hn
  have hb' : bs ((a ++ (⟨#[64]⟩ : ByteArray)) ++ b) = bs a ++ 64 :: bs b := by
    rw [bs_app, bs_app, List.append_assoc]; rfl
  rw [hb', par_same] at hP
  have hm := par_may (bs a) (bs b)
  unfold addr_May addr_May_B
  simp only [(Lay_eq n a b ha hb).1, Option.bind_some]
  cases hv : parR (bs a ++ 64 :: bs b) with
  | none =>
    rw [hv] at hP hm
    simp only at hP
    have : (locR (bs a) && domR (bs b)) = false := by
      cases e : (locR (bs a) && domR (bs b)) with
      | false => rfl
      | true => cases hm.mpr e
    rw [hP, this]; rfl
  | some y =>
    rw [hv] at hP hm
    obtain ⟨t1, t2, j1, j2, j3⟩ := hP
    rw [j1, Option.bind_some]
    simp only [str_eq, j2, j3]
    have : (decide (y.1 = bs a) && (decide (y.2 = bs b) && true)) = (locR (bs a) && domR (bs b)) := by
      rw [Bool.eq_iff_iff, ← hm]
      simp [Prod.ext_iff]
    rw [← this]; rfl
theorem Check_eq (n : Nat) (a b : ByteArray) (ha : a.size ≤ 100000) (hb : b.size ≤ 100000) (hn : 10000000 ≤ n) : addr_Check n (a, (b, ())) = some (if (locR (bs a) && domR (bs b)) = true then 0 else 1) := by
  unfold addr_Check addr_Check_B
  simp only [aMay_eq n a b ha hb hn, Option.bind_some]
  cases (locR (bs a) && domR (bs b)) <;> rfl
theorem Text_eq (n : Nat) (a b : ByteArray) (ha : a.size ≤ 100000) (hb : b.size ≤ 100000) (hn : 10000000 ≤ n) : addr_Text n (a, (b, ())) = some (if (locR (bs a) && domR (bs b)) = true then ((a ++ (⟨#[64]⟩ : ByteArray)) ++ b, 0, ()) else ((⟨#[]⟩ : ByteArray), 1, ())) := by
  unfold addr_Text addr_Text_B
  simp only [aMay_eq n a b ha hb hn, (Lay_eq n a b ha hb).1, Option.bind_some]
  cases (locR (bs a) && domR (bs b)) <;> rfl

theorem AddrTexts_L0 (n : Nat) (hn : 10000000 ≤ n) (l : Sq Ask) (hf : Fit reachBytes (.sl tAsk) l) : ∀ (d k m : Nat), k + d = 21 → d < m → k ≤ 20 → ∃ x, pouchlaw4_AddrTexts_L0 n m l k = some x ∧ (x = .out () ∨ x = .ret true)
  | 0, k, m, h, hm, hk => by omega
  | d + 1, k, m, h, hm, hk => by
    obtain ⟨m, rfl⟩ : ∃ q, m = q + 1 := ⟨m - 1, by omega⟩
    by_cases g1 : (k : Int) < (l.n : Int)
    · by_cases g2 : (k : Int) < 20
      · have a1 : (0 : Int) ≤ (k : Int) := by omega
        have e1 := wr1 (k := k) (by omega)
        obtain ⟨f1, f2, f3⟩ := ask_fit hf k (by omega)
        have hH := heavy_eq n (l.at' k) f1 f2
        have hH' : pouchlaw4_heavy n (((l.at' k).1.1, ((l.at' k).1.2.1, ())), ((l.at' k).2.1, ())) = some (decide ((l.at' k).1.1.size + (l.at' k).1.2.1.size > 2000) || decide ((l.at' k).2.1.size > 2000)) := hH
        by_cases g3 : (decide ((l.at' k).1.1.size + (l.at' k).1.2.1.size > 2000) || decide ((l.at' k).2.1.size > 2000)) = true
        · refine ⟨.ret true, ?_, .inr rfl⟩
          rw [g3] at hH'
          simp only [pouchlaw4_AddrTexts_L0, pouchlaw4_AddrTexts_B0, g1, g2, a1, Int.toNat_natCast, hH', decide_true, Option.bind_some]
          rfl
        · have g3' : (decide ((l.at' k).1.1.size + (l.at' k).1.2.1.size > 2000) || decide ((l.at' k).2.1.size > 2000)) = false := by simpa using g3
          rw [g3'] at hH'
          simp only [Bool.or_eq_false_iff, decide_eq_false_iff_not] at g3'
          obtain ⟨x, hx, hor⟩ := AddrTexts_L0 n hn l hf d (k + 1) m (by omega) (by omega) (by omega)
          refine ⟨x, ?_, hor⟩
          rw [← hx]
          have hM := May_eq n (l.at' k).1.1 (l.at' k).1.2.1 (by omega) (by omega) hn
          have hC := Check_eq n (l.at' k).1.1 (l.at' k).1.2.1 (by omega) (by omega) hn
          have hT := Text_eq n (l.at' k).1.1 (l.at' k).1.2.1 (by omega) (by omega) hn
          have hW := (Lay_eq n (l.at' k).1.1 (l.at' k).1.2.1 (by omega) (by omega)).2
          cases hv : (locR (bs (l.at' k).1.1) && domR (bs (l.at' k).1.2.1)) with
          | false =>
            rw [hv] at hM hC hT
            simp only [pouchlaw4_AddrTexts_L0, pouchlaw4_AddrTexts_B0, g1, g2, a1, Int.toNat_natCast, hH', decide_true, Option.bind_some, hM, hC, hT, num_eq, e1, str_eq]
            simp
          | true =>
            rw [hv] at hM hC hT
            simp only [pouchlaw4_AddrTexts_L0, pouchlaw4_AddrTexts_B0, g1, g2, a1, Int.toNat_natCast, hH', decide_true, Option.bind_some, hM, hC, hT, hW, num_eq, e1, str_eq]
            simp
      · refine ⟨.out (), ?_, .inl rfl⟩
        simp only [pouchlaw4_AddrTexts_L0, pouchlaw4_AddrTexts_B0, g1, g2, decide_true, decide_false]
        rfl
    · refine ⟨.out (), ?_, .inl rfl⟩
      simp only [pouchlaw4_AddrTexts_L0, pouchlaw4_AddrTexts_B0, g1, decide_false]
      rfl
theorem plain_AddrTexts (l : Sq Ask) (h : Fit reachBytes (.sl tAsk) l) : ∃ n, pouchlaw4_AddrTexts n l = some true := by
  refine ⟨10000000, ?_⟩
  obtain ⟨x, hx, hor⟩ := AddrTexts_L0 10000000 (Nat.le_refl _) l h 21 0 10000000 rfl (by decide) (by decide)
  unfold pouchlaw4_AddrTexts pouchlaw4_AddrTexts_B
  rw [show ((0 : Nat) : Int) = 0 from rfl] at hx
  rw [hx, Option.bind_some]
  rcases hor with rfl | rfl
  · simp only [onL]
    rw [wakes_eq _ (Nat.le_refl _)]; rfl
  · rfl
end Go.Proofs.YthmhobnhladhbaaDoor.AM
