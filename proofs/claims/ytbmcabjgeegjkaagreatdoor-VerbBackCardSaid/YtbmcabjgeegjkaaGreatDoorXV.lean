/- Commands, plainly: letters, words, where a path ends. -/
import Derived.Test.YtbmcabjgeegjkaaGreatDoorXQ
import Derived.Test.YtbmcabjgeegjkaaGreatDoorXF2
namespace Go.Proofs.YtbmcabjgeegjkaaGreatDoor.AM
open Go
set_option linter.unusedSimpArgs false
set_option linter.unusedVariables false
/-! Letters. -/
def up (c : Int) : Int := if 97 ≤ c ∧ c ≤ 122 then c - 32 else c
/-! Words. -/
def wB : Bool → List Int → Bool
 | b, [] => !b
 | b, c :: r => if c < 32 ∨ 126 < c ∨ c = 32 ∧ b = true then false else wB (decide (c = 32)) r
def wordsP (l : List Int) : Bool := decide (l.length ≤ 64) && wB true l
/-! Digits behind a path. -/
def sizeP (l : List Int) : Option Int := if l = [] then some (-1) else
 if (l.take 6).map up = [32, 83, 73, 90, 69, 61] ∧ 1 ≤ (l.drop 6).length ∧ (l.drop 6).length ≤ 10 ∧ (l.drop 6).all dig = true ∧ valD 0 (l.drop 6) ≤ 1073741824 then some (valD 0 (l.drop 6)) else none
theorem sizeP_62 {l : List Int} {z : Int} (h : sizeP l = some z) : 62 ∉ l := by
 unfold sizeP at h
 by_cases g : l = []
 · subst g; simp
 · rw [if_neg g] at h
   split at h
   · rename_i hc
     obtain ⟨h1, h2, h3, h4, _⟩ := hc
     rw [← List.take_append_drop 6 l]
     intro hm
     rcases List.mem_append.1 hm with hm | hm
     · have := List.mem_map_of_mem (f := up) hm
       rw [h1] at this
       revert this; decide
     · have := List.all_eq_true.1 h4 _ hm
       revert this; decide
   · cases h
/-! Where a path ends: 0: outside quotes; 1: inside; 2: behind a backslash. -/
def pe : Nat → List Int → Nat
 | _, [] => 0
 | 0, c :: r => if c = 34 then 1 + pe 1 r else if c = 62 then 1 else 1 + pe 0 r
 | 1, c :: r => if c = 92 then 1 + pe 2 r else if c = 34 then 1 + pe 0 r else 1 + pe 1 r
 | _ + 2, _ :: r => 1 + pe 1 r
theorem pe_le : ∀ (l : List Int) (q : Nat), pe q l ≤ l.length
 | [], q => by cases q <;> simp [pe]
 | c :: r, 0 => by
  have h0 := pe_le r 0
  have h1 := pe_le r 1
  simp only [pe, List.length_cons]
  split
  · omega
  · split <;> omega
 | c :: r, 1 => by
  have h0 := pe_le r 0
  have h1 := pe_le r 1
  have h2 := pe_le r 2
  simp only [pe, List.length_cons]
  split
  · omega
  · split <;> omega
 | c :: r, q + 2 => by
  have h1 := pe_le r 1
  simp only [pe, List.length_cons]; omega
theorem pe_plain : ∀ (l r : List Int), 34 ∉ l → 62 ∉ l → pe 0 (l ++ r) = l.length + pe 0 r
 | [], r, _, _ => by simp
 | c :: l, r, h1, h2 => by
  simp only [List.mem_cons, not_or] at h1 h2
  rw [List.cons_append]
  simp only [pe]
  rw [if_neg (fun hh => h1.1 hh.symm), if_neg (fun hh => h2.1 hh.symm), pe_plain l r h1.2 h2.2, List.length_cons]
  omega
theorem pe_qd : ∀ (N : Nat) (l r : List Int) (x : List Int × List Int), l.length ≤ N → qd l = some x → ∃ p, l = p ++ x.2 ∧ pe 1 (l ++ r) = p.length + pe 0 (x.2 ++ r)
 | _, [], _, _, _, h => by cases h
 | 0, c :: l, r, x, h, _ => by simp at h
 | N + 1, c :: l, r, x, hN, h => by
  rw [qd_cons] at h
  have hN' : l.length ≤ N := by simpa using hN
  by_cases c1 : c = 34
  · rw [if_pos c1] at h
    cases h
    subst c1
    refine ⟨[34], rfl, ?_⟩
    simp [pe]
  · rw [if_neg c1] at h
    by_cases c2 : c = 92
    · rw [if_pos c2] at h
      subst c2
      cases l with
      | nil => cases h
      | cons d l =>
       simp only at h
       split at h
       · obtain ⟨y, hy, rfl⟩ := Option.map_eq_some_iff.1 h
         obtain ⟨p, i1, i2⟩ := pe_qd N l r y (by simp at hN'; omega) hy
         refine ⟨92 :: d :: p, by rw [i1]; rfl, ?_⟩
         have e92 : pe 1 (92 :: (d :: (l ++ r))) = 1 + (1 + pe 1 (l ++ r)) := by simp [pe]
         show _ = _ + pe 0 (y.2 ++ r)
         rw [List.cons_append, List.cons_append, e92, i2, List.length_cons, List.length_cons]
         omega
       · cases h
    · rw [if_neg c2] at h
      split at h
      · obtain ⟨y, hy, rfl⟩ := Option.map_eq_some_iff.1 h
        obtain ⟨p, i1, i2⟩ := pe_qd N l r y hN' hy
        refine ⟨c :: p, by rw [i1]; rfl, ?_⟩
        simp only [List.cons_append, pe, List.length_cons]
        rw [if_neg c2, if_neg c1, i2]
        omega
      · cases h
/-! Paths. -/
def pthL (l : List Int) : Option (Bool × List Int × List Int) := if l = [60, 62] then some (true, [], []) else
 if 2 ≤ l.length ∧ l.head? = some 60 ∧ l.getLast? = some 62 then (parP (inner l)).map fun x => (false, x.1, x.2) else none
theorem pl_no {x : Int} (hx : atom x = false) (h46 : x ≠ 46) : ∀ (l : List Int) (w : Nat), pl w l = true → x ∉ l
 | [], _, _ => by simp
 | c :: r, w, h => by
  simp only [pl] at h
  intro hm
  rcases List.mem_cons.mp hm with e | hm
  · subst e
    rw [if_neg h46, hx] at h; cases h
  · by_cases c1 : c = 46
    · rw [if_pos c1] at h
      by_cases c2 : w = 0
      · rw [if_pos c2] at h; cases h
      · rw [if_neg c2] at h; exact pl_no hx h46 r 0 h hm
    · rw [if_neg c1] at h
      by_cases c2 : atom c = true
      · rw [if_pos c2] at h; exact pl_no hx h46 r (w + 1) h hm
      · rw [if_neg c2] at h; cases h
theorem domR_chars {l : List Int} (h : domR l = true) : ∀ c ∈ l, c = 91 ∨ c = 93 ∨ 45 ≤ c ∧ c ≤ 57 ∨ 97 ≤ c ∧ c ≤ 122 := by
 unfold domR at h
 rw [Bool.and_eq_true, Bool.or_eq_true] at h
 rcases h.2 with h | h
 · unfold litR at h
   simp only [Bool.and_eq_true, decide_eq_true_eq] at h
   obtain ⟨⟨⟨h1, h2⟩, h3⟩, h4⟩ := h
   unfold litP at h4
   rw [Bool.and_eq_true] at h4
   have h5 : (splitG 46 [] (inner l)).all (fun w => w.all dig) = true := by
    rw [List.all_eq_true]
    intro w hw
    have := List.all_eq_true.mp h4.1 w hw
    unfold okR at this
    simp only [Bool.and_eq_true] at this
    exact this.1.2
   have h6 := (splitG_all 46 dig _ _ h5).2
   intro c hc
   rcases inner_mem h1 h2 h3 c hc with rfl | rfl | hm
   · exact .inl rfl
   · exact .inr (.inl rfl)
   · rcases h6 c hm with h7 | rfl
     · unfold dig at h7
       simp only [Bool.and_eq_true, decide_eq_true_eq] at h7
       omega
     · omega
 · have h5 : (splitG 46 [] l).all (fun w => w.all lch) = true := by
    rw [List.all_eq_true]
    intro w hw
    have := List.all_eq_true.mp h w hw
    unfold labR at this
    simp only [Bool.and_eq_true] at this
    exact this.2
   have h6 := (splitG_all 46 lch _ _ h5).2
   intro c hc
   rcases h6 c hc with h7 | rfl
   · unfold lch sgn at h7
     simp only [Bool.and_eq_true, Bool.or_eq_true, decide_eq_true_eq] at h7
     omega
   · omega
theorem low_fix {x : Int} (hx : x < 65) : ∀ {c : Int}, c = x → low c = x := fun h => by
 subst h; unfold low; rw [if_neg (by omega)]
theorem dm_no {d : List Int} (h : domR (d.map low) = true) : 34 ∉ d ∧ 62 ∉ d := by
 constructor <;> intro hm
 · have := domR_chars h _ (List.mem_map_of_mem (f := low) hm)
   rw [low_fix (x := 34) (by omega) rfl] at this
   omega
 · have := domR_chars h _ (List.mem_map_of_mem (f := low) hm)
   rw [low_fix (x := 62) (by omega) rfl] at this
   omega
theorem head_cons {z : List Int} {c : Int} (h : z.head? = some c) : z = c :: z.drop 1 := by
 cases z with
 | nil => cases h
 | cons a r => cases h; rfl
theorem wrap_inner {t : List Int} (h : 2 ≤ t.length) (h1 : t.head? = some 60) (h2 : t.getLast? = some 62) : t = 60 :: (inner t ++ [62]) := by
 have ht := head_cons h1
 generalize hx : t.drop 1 = x at ht
 subst ht
 have hx0 : x ≠ [] := by intro e; subst e; simp at h
 have hi : inner (60 :: x) = x.dropLast := by
  obtain ⟨k, hk⟩ : ∃ k, x.length = k + 1 := ⟨x.length - 1, by have := List.length_pos_iff.mpr hx0; omega⟩
  unfold inner
  rw [List.length_cons, Nat.add_sub_cancel, hk, List.take_succ_cons, List.drop_one, List.tail_cons, List.dropLast_eq_take, hk]; rfl
 have hg : x.getLast hx0 = 62 := by
  rw [List.getLast?_cons, List.getLast?_eq_some_getLast hx0] at h2
  simpa using h2
 rw [hi]
 conv => lhs; rw [← List.dropLast_concat_getLast hx0, hg]
theorem par_end {x : List Int} {y : List Int × List Int} (h : parP x = some y) (r : List Int) : pe 0 (x ++ 62 :: r) = x.length + 1 := by
 unfold parP at h
 obtain ⟨w, h1, h2⟩ := Option.bind_eq_some_iff.1 h
 have hc : w.1.length ≤ 64 ∧ w.2.head? = some 64 ∧ domP ((w.2.drop 1).map low) = true := by
  by_cases c : w.1.length ≤ 64 ∧ w.2.head? = some 64 ∧ domP ((w.2.drop 1).map low) = true
  · exact c
  · rw [if_neg c] at h2; cases h2
 obtain ⟨_, hz, hd⟩ := hc
 rw [dom_same] at hd
 obtain ⟨n1, n2⟩ := dm_no hd
 have hz' := head_cons hz
 have tail : pe 0 (w.2 ++ 62 :: r) = w.2.length + 1 := by
  rw [pe_plain w.2 _ (by rw [hz']; simp only [List.mem_cons, not_or]; exact ⟨by omega, n1⟩) (by rw [hz']; simp only [List.mem_cons, not_or]; exact ⟨by omega, n2⟩)]
  simp [pe]
 unfold loc at h1
 by_cases g : x.head? = some 34
 · rw [if_pos g] at h1
   obtain ⟨v, e1, e2⟩ := Option.map_eq_some_iff.1 h1
   have hv : v.2 = w.2 := by rw [← e2]
   obtain ⟨p, i1, i2⟩ := pe_qd _ _ (62 :: r) v (Nat.le_refl _) e1
   have hx := head_cons g
   rw [hx, List.cons_append]
   show (if (34 : Int) = 34 then _ else _) = _
   rw [if_pos rfl, i2, hv, tail, List.length_cons, i1, List.length_append, hv]
   omega
 · rw [if_neg g] at h1
   split at h1
   · cases h1
   · split at h1
     · rename_i hp
       cases h1
       simp only at tail
       have a1 : atom 34 = false := by decide
       have a2 : atom 62 = false := by decide
       conv => lhs; rw [← List.take_append_drop (idx 64 x).toNat x]
       rw [List.append_assoc, pe_plain _ _ (pl_no a1 (by omega) _ _ hp) (pl_no a2 (by omega) _ _ hp), tail, ← Nat.add_assoc, ← List.length_append, List.take_append_drop]
     · cases h1
theorem pth_end {t : List Int} {v : Bool × List Int × List Int} (h : pthL t = some v) (r : List Int) : pe 0 (t ++ r) = t.length ∧ t.getLast? = some 62 ∧ t ≠ [] := by
 unfold pthL at h
 by_cases c : t = [60, 62]
 · subst c; exact ⟨by simp [pe], rfl, by simp⟩
 · rw [if_neg c] at h
   by_cases c2 : 2 ≤ t.length ∧ t.head? = some 60 ∧ t.getLast? = some 62
   · rw [if_pos c2] at h
     obtain ⟨y, hy, _⟩ := Option.map_eq_some_iff.1 h
     have ht := wrap_inner c2.1 c2.2.1 c2.2.2
     have hpe := par_end hy r
     generalize inner t = x at ht hpe
     refine ⟨?_, c2.2.2, by intro e; rw [e] at c2; simp at c2⟩
     rw [ht, List.cons_append]
     show (if (60 : Int) = 34 then _ else if (60 : Int) = 62 then _ else _) = _
     rw [if_neg (by omega), if_neg (by omega), List.append_assoc, List.singleton_append, hpe]
     simp; omega
   · rw [if_neg c2] at h; cases h
def endP (l : List Int) (i : Int) : Prop := i = -1 ∧ 62 ∉ l ∨ ∃ k : Nat, i = k ∧ k < l.length ∧ l[k]? = some 62 ∧ 62 ∉ l.drop (k + 1)
theorem ends_same {l : List Int} {i : Int} (h : endP l i) {v : Bool × List Int × List Int} {z : Int} :
  (0 ≤ i ∧ pthL (l.take (i.toNat + 1)) = some v ∧ sizeP (l.drop (i.toNat + 1)) = some z) ↔ (pthL (l.take (pe 0 l)) = some v ∧ sizeP (l.drop (pe 0 l)) = some z) := by
 constructor
 · rintro ⟨h0, h1, h2⟩
   have := (pth_end h1 (l.drop (i.toNat + 1))).1
   rw [List.take_append_drop] at this
   rcases h with ⟨h3, _⟩ | ⟨k, rfl, h3, h4, h5⟩
   · omega
   · rw [List.length_take] at this
     have e : min ((k : Int).toNat + 1) l.length = (k : Int).toNat + 1 := by simp; omega
     rw [this, e]
     exact ⟨h1, h2⟩
 · rintro ⟨h1, h2⟩
   obtain ⟨_, hl, hne⟩ := pth_end h1 []
   have hle := pe_le l 0
   have hp : 0 < pe 0 l := by
    rcases Nat.eq_zero_or_pos (pe 0 l) with e | e
    · rw [e] at hne; simp at hne
    · exact e
   have h62 : l[pe 0 l - 1]? = some 62 := by
    rw [List.getLast?_eq_getElem?, List.length_take, Nat.min_eq_left hle, List.getElem?_take] at hl
    rw [if_pos (by omega)] at hl; exact hl
   have hno := sizeP_62 h2
   have hi : i = ((pe 0 l - 1 : Nat) : Int) := by
    rcases h with ⟨_, h3⟩ | ⟨k, rfl, h3, h4, h5⟩
    · exact absurd (List.mem_of_getElem? h62) h3
    · rcases Nat.lt_trichotomy k (pe 0 l - 1) with g | g | g
      · exfalso
        apply h5
        have : (l.drop (k + 1))[pe 0 l - 1 - (k + 1)]? = some 62 := by
         rw [List.getElem?_drop, show k + 1 + (pe 0 l - 1 - (k + 1)) = pe 0 l - 1 by omega]; exact h62
        exact List.mem_of_getElem? this
      · rw [g]
      · exfalso
        apply hno
        have : (l.drop (pe 0 l))[k - pe 0 l]? = some 62 := by
         rw [List.getElem?_drop, show pe 0 l + (k - pe 0 l) = k by omega]; exact h4
        exact List.mem_of_getElem? this
   have e : i.toNat + 1 = pe 0 l := by rw [hi]; simp; omega
   rw [e]
   exact ⟨by omega, h1, h2⟩
open Go Go.RowKit
/-! words. -/
def wX (s : BA) : Bool → List Int → Lx (BA × Bool) Bool
 | b, [] => .out (s, b)
 | b, c :: r => if c < 32 ∨ 126 < c ∨ c = 32 ∧ b = true then .ret false else wX s (decide (c = 32)) r
theorem words_L0 (n : Nat) (s : BA) (hs : s.size ≤ 1000000) : ∀ (r : List Int) (b : Bool) (k m : Nat), (bs s).drop k = r → k ≤ s.size → r.length < m → v_words_L0 n m s b s.size k = some (wX s b r)
 | [], b, k, m, h, hk, hm => by
  obtain ⟨m, rfl⟩ : ∃ q, m = q + 1 := ⟨m - 1, by omega⟩
  have := at_nil h
  simp [v_words_L0, v_words_B0, this, wX]
 | c :: r, b, k, m, h, hk, hm => by
  obtain ⟨m, rfl⟩ : ∃ q, m = q + 1 := ⟨m - 1, by omega⟩
  obtain ⟨h1, h2, h3, h4, h5⟩ := at_cons h
  have e1 := wr1 (k := k) (by omega)
  have a3 : (0 : Int) ≤ (k : Int) := by omega
  have ih := words_L0 n s hs r (decide (c = 32)) (k + 1) m h3 (by omega) (by simpa using hm)
  simp only [v_words_L0, v_words_B0, h1, h2, a3, e1, wX]
  by_cases g1 : c < 32
  · simp [g1]
  · by_cases g2 : 126 < c
    · simp [g1, g2]
    · by_cases g3 : c = 32
      · subst g3
        cases b
        · simpa using ih
        · simp
      · have e : (c == 32) = false := by simpa using g3
        have e' : decide (c = 32) = false := by simpa using g3
        rw [e'] at ih
        simpa [g1, g2, g3, e] using ih
theorem wX_B (s : BA) : ∀ (r : List Int) (b : Bool), onL (wX s b r) (fun a => if (!a.2) = true then some (decide ((a.1.size : Int) ≤ (64 : Int))) else some false) (fun a => some a) (fun _ => none) = some (decide (s.size ≤ 64) && wB b r)
 | [], b => by
  have e : decide ((s.size : Int) ≤ (64 : Int)) = decide (s.size ≤ 64) := by rw [decide_eq_decide]; omega
  cases b <;> simp [wX, wB, onL, e]
 | c :: r, b => by
  simp only [wX, wB]
  split
  · simp [onL]
  · exact wX_B s r _
theorem vwords_eq (n : Nat) (s : BA) (hs : s.size ≤ 1000000) (hn : 10000000 ≤ n) : v_words n s = some (wordsP (bs s)) := by
 have h := words_L0 n s hs (bs s) true 0 n (by simp) (by omega) (by rw [bs_len]; omega)
 rw [show ((0 : Nat) : Int) = 0 from rfl] at h
 unfold v_words v_words_B
 rw [h, Option.bind_some, wX_B, wordsP, bs_len]
/-! Letters. -/
theorem like_L0 (n : Nat) (s w : BA) (hs : s.size ≤ 1000000) (hw : w.size = s.size) : ∀ (r q : List Int) (k m : Nat), (bs s).drop k = r → (bs w).drop k = q → k ≤ s.size → r.length < m →
  v_like_L0 n m s w s.size k = some (if r.map up = q then .out () else .ret false)
 | [], q, k, m, h, hq, hk, hm => by
  obtain ⟨m, rfl⟩ : ∃ q, m = q + 1 := ⟨m - 1, by omega⟩
  have := at_nil h
  have hq0 : q = [] := by
   have h1 := congrArg List.length h
   have h2 := congrArg List.length hq
   rw [List.length_drop, bs_len] at h1 h2
   cases q with
   | nil => rfl
   | cons a b => simp at h1 h2; omega
  subst hq0
  simp [v_like_L0, v_like_B0, this]
 | c :: r, [], k, m, h, hq, hk, hm => by
  have h1 := congrArg List.length h
  have h2 := congrArg List.length hq
  rw [List.length_drop, bs_len] at h1 h2
  simp at h1 h2; omega
 | c :: r, d :: q, k, m, h, hq, hk, hm => by
  obtain ⟨m, rfl⟩ : ∃ q, m = q + 1 := ⟨m - 1, by omega⟩
  obtain ⟨h1, h2, h3, h4, h5⟩ := at_cons h
  obtain ⟨q1, q2, q3, _, _⟩ := at_cons hq
  have e1 := wr1 (k := k) (by omega)
  have a3 : (0 : Int) ≤ (k : Int) := by omega
  have ih := like_L0 n s w hs hw r q (k + 1) m h3 q3 (by omega) (by simpa using hm)
  simp only [v_like_L0, v_like_B0, h1, h2, q1, q2, a3, e1, List.map_cons, List.cons.injEq]
  by_cases g1 : 97 ≤ c
  · by_cases g2 : c ≤ 122
    · have eu : up c = c - 32 := by unfold up; rw [if_pos ⟨g1, g2⟩]
      have e8 := wr8 (x := c - 32) (by omega) (by omega)
      rw [eu, e8]
      by_cases g : c - 32 = d
      · subst g; simpa [g1, g2] using ih
      · have : (c - 32 != d) = true := by simpa using g
        simp [g1, g2, g, this]
    · have eu : up c = c := by unfold up; rw [if_neg (by omega)]
      rw [eu]
      by_cases g : c = d
      · subst g; simpa [g1, g2] using ih
      · have : (c != d) = true := by simpa using g
        simp [g1, g2, g, this]
  · have eu : up c = c := by unfold up; rw [if_neg (by omega)]
    rw [eu]
    by_cases g : c = d
    · subst g; simpa [g1] using ih
    · have : (c != d) = true := by simpa using g
      simp [g1, g, this]
theorem like_eq (n : Nat) (s w : BA) (hs : s.size ≤ 1000000) (hn : 10000000 ≤ n) : v_like n s w = some (decide ((bs s).map up = bs w)) := by
 unfold v_like v_like_B
 by_cases g : s.size = w.size
 · have h := like_L0 n s w hs g.symm (bs s) (bs w) 0 n (by simp) (by simp) (by omega) (by rw [bs_len]; omega)
   rw [show ((0 : Nat) : Int) = 0 from rfl] at h
   have : ((s.size : Int) != (w.size : Int)) = false := by rw [g]; simp
   rw [this, h, Option.bind_some]
   by_cases e : (bs s).map up = bs w
   · simp [e, onL]
   · simp [e, onL]
 · have : ((s.size : Int) != (w.size : Int)) = true := by simp only [bne_iff_ne]; omega
   rw [if_pos this]
   have : ¬ (bs s).map up = bs w := fun e => by
    have := congrArg List.length e
    rw [List.length_map, bs_len, bs_len] at this
    exact g this
   simp [this]
/-! Names. -/
def vkd (l : List Int) : Int := if l.map up = [72, 69, 76, 79] then 1 else if l.map up = [69, 72, 76, 79] then 2 else if l.map up = [77, 65, 73, 76] then 3 else if l.map up = [82, 67, 80, 84] then 4 else
 if l.map up = [68, 65, 84, 65] then 5 else if l.map up = [82, 83, 69, 84] then 6 else if l.map up = [78, 79, 79, 80] then 7 else if l.map up = [81, 85, 73, 84] then 8 else if l.map up = [86, 82, 70, 89] then 9 else 0
theorem kind_step (n m : Nat) (s : BA) (hs : s.size ≤ 1000000) (hn : 10000000 ≤ n) (k : Int) (hk : k ≤ 9) (w : BA) (l : List Int) (hl : bs w = l) (hw : v_names n k = some w) (k' : Int) (hk' : IntKind.wrap .i64 (k + 1) = k') :
  v_kind_L0 n (m + 1) s k = if (bs s).map up = l then some (.ret k) else v_kind_L0 n m s k' := by
 subst hl
 simp only [v_kind_L0, v_kind_B0, hk, hw, hk', Option.bind_some, like_eq n s w hs hn, decide_true, if_true, decide_eq_true_eq]
theorem kind_eq (n : Nat) (s : BA) (hs : s.size ≤ 1000000) (hn : 10000000 ≤ n) : v_kind n s = some (vkd (bs s)) := by
 have key : ∃ x, v_kind_L0 n n s 1 = some x ∧ onL x (fun _ => some (0 : Int)) (fun a => some a) (fun _ => none) = some (vkd (bs s)) := by
  obtain ⟨m, hm⟩ : ∃ m, n = m + 10 := ⟨n - 10, by omega⟩
  have e : v_kind_L0 n n s 1 = v_kind_L0 n (m + 10) s 1 := by rw [← hm]
  rw [e, kind_step n _ s hs hn 1 (by omega) (⟨#[72, 69, 76, 79]⟩ : BA) [72, 69, 76, 79] rfl rfl 2 (by rfl), kind_step n _ s hs hn 2 (by omega) (⟨#[69, 72, 76, 79]⟩ : BA) [69, 72, 76, 79] rfl rfl 3 (by rfl),
   kind_step n _ s hs hn 3 (by omega) (⟨#[77, 65, 73, 76]⟩ : BA) [77, 65, 73, 76] rfl rfl 4 (by rfl), kind_step n _ s hs hn 4 (by omega) (⟨#[82, 67, 80, 84]⟩ : BA) [82, 67, 80, 84] rfl rfl 5 (by rfl),
   kind_step n _ s hs hn 5 (by omega) (⟨#[68, 65, 84, 65]⟩ : BA) [68, 65, 84, 65] rfl rfl 6 (by rfl), kind_step n _ s hs hn 6 (by omega) (⟨#[82, 83, 69, 84]⟩ : BA) [82, 83, 69, 84] rfl rfl 7 (by rfl),
   kind_step n _ s hs hn 7 (by omega) (⟨#[78, 79, 79, 80]⟩ : BA) [78, 79, 79, 80] rfl rfl 8 (by rfl), kind_step n _ s hs hn 8 (by omega) (⟨#[81, 85, 73, 84]⟩ : BA) [81, 85, 73, 84] rfl rfl 9 (by rfl),
   kind_step n _ s hs hn 9 (by omega) (⟨#[86, 82, 70, 89]⟩ : BA) [86, 82, 70, 89] rfl rfl 10 (by rfl)]
  have last : v_kind_L0 n (m + 1) s 10 = some (.out ()) := by simp [v_kind_L0, v_kind_B0]
  rw [last]
  unfold vkd
  repeat' split
  all_goals exact ⟨_, rfl, rfl⟩
 obtain ⟨x, h1, h2⟩ := key
 unfold v_kind v_kind_B
 rw [h1, Option.bind_some]
 exact h2
/-! What follows a word. -/
theorem vmust_eq (n : Nat) (b : Bool) (e : Int) : v_must n b e = some (if b = true then .ok () else .error e) := by
 unfold v_must v_must_B
 cases b <;> rfl
theorem take_map_len {l w : List Int} {f : Int → Int} (h : (l.take w.length).map f = w) : w.length ≤ l.length := by
 have := congrArg List.length h
 rw [List.length_map, List.length_take] at this
 omega
theorem bs_ext0 (s : BA) (k : Nat) : bs (s.extract 0 k) = (bs s).take k := by rw [bs_ext, List.drop_zero]
theorem bs_ext1 (s : BA) (k : Nat) : bs (s.extract k s.size) = (bs s).drop k := by rw [bs_ext, ← bs_len, List.take_length]
theorem ext_sz (s : BA) (i j : Nat) : (s.extract i j).size ≤ s.size := by
 rw [← bs_len, bs_ext, List.length_drop, List.length_take, bs_len]; omega
theorem after_eq (n : Nat) (s w : BA) (hs : s.size ≤ 1000000) (hn : 10000000 ≤ n) : v_after n s w = some (if ((bs s).take w.size).map up = bs w then .ok (s.extract w.size s.size) else .error 8) := by
 unfold v_after v_after_B
 by_cases g : w.size ≤ s.size
 · have e1 : decide ((s.size : Int) ≥ (w.size : Int)) = true := decide_eq_true (by omega)
   have e2 : 0 ≤ (w.size : Int) ∧ (w.size : Int) ≤ (s.size : Int) := ⟨by omega, by omega⟩
   have hl := like_eq n (s.extract (Int.toNat 0) (Int.toNat (w.size : Int))) w (by have := ext_sz s (Int.toNat 0) (Int.toNat (w.size : Int)); omega) hn
   have hx : bs (s.extract (Int.toNat 0) (Int.toNat (w.size : Int))) = (bs s).take w.size := bs_ext0 s w.size
   rw [hx] at hl
   rw [if_pos e1, if_pos e2, hl, Option.bind_some, vmust_eq, Option.bind_some]
   by_cases h : ((bs s).take w.size).map up = bs w
   · rw [if_pos h, decide_eq_true h, if_pos rfl]
     simp only [onX, if_pos e2, Int.toNat_natCast]
   · rw [if_neg h, decide_eq_false h]
     rfl
 · have e1 : decide ((s.size : Int) ≥ (w.size : Int)) = false := decide_eq_false (by omega)
   have h : ¬ ((bs s).take w.size).map up = bs w := fun h => by
    rw [← bs_len w] at h
    have := take_map_len h
    rw [bs_len, bs_len] at this; omega
   rw [if_neg h, if_neg (by rw [e1]; simp), vmust_eq]
   rfl
theorem trim_eq (n : Nat) (s : BA) : st_TrimPrefix n s (⟨#[32]⟩ : BA) = some (if (bs s).head? = some 32 then s.extract 1 s.size else s) := by
 have hp : il_HasPrefix n s (⟨#[32]⟩ : BA) = some (decide ((bs s).head? = some 32)) := by
  have := HasPrefix_one n s (⟨#[32]⟩ : BA) (c := 32) rfl
  unfold st_HasPrefix st_HasPrefix_B at this
  cases h : il_HasPrefix n s (⟨#[32]⟩ : BA) with
  | none => rw [h] at this; cases this
  | some b => rw [h] at this; exact this
 have h1 : (⟨#[32]⟩ : BA).size = 1 := rfl
 unfold st_TrimPrefix st_TrimPrefix_B il_TrimPrefix il_TrimPrefix_B
 rw [hp, Option.bind_some]
 by_cases g : (bs s).head? = some 32
 · have hz : 1 ≤ s.size := by
    rw [← bs_len]
    cases hb : bs s with
    | nil => rw [hb] at g; cases g
    | cons a b => simp
   have e2 : 0 ≤ ((⟨#[32]⟩ : BA).size : Int) ∧ ((⟨#[32]⟩ : BA).size : Int) ≤ (s.size : Int) := ⟨by omega, by omega⟩
   rw [decide_eq_true g, if_pos rfl, if_pos e2, if_pos g]
   rfl
 · rw [decide_eq_false g, if_neg (by simp), if_neg g]
   rfl
def trim1 (l : List Int) : List Int := if l.head? = some 32 then l.drop 1 else l
theorem trim_bs (s : BA) : bs (if (bs s).head? = some 32 then s.extract 1 s.size else s) = trim1 (bs s) := by
 unfold trim1
 split
 · exact bs_ext1 s 1
 · rfl
open Go Go.RowKit
theorem last_L0 (n : Nat) (s : BA) (hs : s.size ≤ 1000000) (c : Int) : ∀ (j m : Nat), j ≤ s.size → j < m → c ∉ (bs s).drop j →
  ∃ x, ib_LastIndexByteString_L0 n m s c ((j : Int) - 1) = some x ∧ (x = .out () ∧ c ∉ bs s ∨ ∃ k : Nat, x = .ret (k : Int) ∧ k < (bs s).length ∧ (bs s)[k]? = some c ∧ c ∉ (bs s).drop (k + 1))
 | 0, m, hj, hm, hc => by
  obtain ⟨m, rfl⟩ : ∃ q, m = q + 1 := ⟨m - 1, by omega⟩
  exact ⟨.out (), by simp [ib_LastIndexByteString_L0, ib_LastIndexByteString_B0], .inl ⟨rfl, by simpa using hc⟩⟩
 | j + 1, m, hj, hm, hc => by
  obtain ⟨m, rfl⟩ : ∃ q, m = q + 1 := ⟨m - 1, by omega⟩
  have hlt : j < (bs s).length := by rw [bs_len]; omega
  obtain ⟨d, hd⟩ : ∃ d, (bs s)[j]? = some d := ⟨(bs s)[j], by simp [hlt]⟩
  have hb := bt_at hd
  have e0 : ((j + 1 : Nat) : Int) - 1 = (j : Int) := by omega
  have a1 : (0 : Int) ≤ (j : Int) := by omega
  have a2 : (j : Int) < (s.size : Int) := by omega
  have w1 : IntKind.wrap .i64 ((j : Int) - 1) = (j : Int) - 1 := wr (by omega) (by omega)
  rw [e0]
  by_cases g : d = c
  · subst g
    exact ⟨.ret (j : Int), by simp [ib_LastIndexByteString_L0, ib_LastIndexByteString_B0, a1, a2, hb], .inr ⟨j, rfl, hlt, hd, hc⟩⟩
  · have hdr : (bs s).drop j = d :: (bs s).drop (j + 1) := by
     rw [List.drop_eq_getElem_cons hlt]
     have : (bs s)[j] = d := by
      have := List.getElem?_eq_getElem hlt
      rw [hd] at this; exact (Option.some.inj this).symm
     rw [this]
    obtain ⟨x, h1, h2⟩ := last_L0 n s hs c j m (by omega) (by omega) (by rw [hdr]; simp only [List.mem_cons, not_or]; exact ⟨fun e => g e.symm, hc⟩)
    have hdc : (d == c) = false := by simpa using g
    exact ⟨x, by simpa [ib_LastIndexByteString_L0, ib_LastIndexByteString_B0, a1, a2, hb, hdc, w1] using h1, h2⟩
theorem last_eq (n : Nat) (s : BA) (hs : s.size ≤ 1000000) (hn : 10000000 ≤ n) : ∃ i, st_LastIndexByte n s 62 = some i ∧ endP (bs s) i := by
 have w1 : IntKind.wrap .i64 ((s.size : Int) - 1) = (s.size : Int) - 1 := wr (by omega) (by omega)
 obtain ⟨x, h1, h2⟩ := last_L0 n s hs 62 s.size n (Nat.le_refl _) (by omega) (by rw [← bs_len, List.drop_length]; simp)
 unfold st_LastIndexByte st_LastIndexByte_B ib_LastIndexByteString ib_LastIndexByteString_B
 rw [w1, h1]
 rcases h2 with ⟨rfl, h3⟩ | ⟨k, rfl, h3⟩
 · exact ⟨-1, rfl, .inl ⟨rfl, h3⟩⟩
 · exact ⟨k, rfl, .inr ⟨k, rfl, h3⟩⟩
/-! Paths. -/
theorem Path_eq (n : Nat) (s : BA) (hs : s.size ≤ 400000) (hn : 10000000 ≤ n) : match pthL (bs s) with
  | none => r4_Path n s = some (noBox, false, false, ()) ∧ ad_Path n s = some (noBox, false, 8, ())
  | some v => ∃ p1 p2, r4_Path n s = some ((p1, (p2, ())), v.1, true, ()) ∧ ad_Path n s = some ((p1, (p2, ())), v.1, 0, ()) ∧ bs p1 = v.2.1 ∧ bs p2 = v.2.2 := by
 have hz : bs (⟨#[60, 62]⟩ : BA) = [60, 62] := rfl
 unfold r4_Path r4_Path_B ad_Path ad_Path_B pthL
 by_cases c1 : bs s = [60, 62]
 · have c1' : (s.toList == (⟨#[60, 62]⟩ : BA).toList) = true := by rw [str_eq, hz, decide_eq_true c1]
   rw [if_pos c1', if_pos c1', if_pos c1]
   exact ⟨_, _, rfl, rfl, rfl, rfl⟩
 have c1' : ¬ (s.toList == (⟨#[60, 62]⟩ : BA).toList) = true := by rw [str_eq, hz, decide_eq_false c1]; simp
 rw [if_neg c1', if_neg c1', if_neg c1]
 by_cases c2 : decide ((s.size : Int) < (2 : Int)) = false
 · rw [if_pos c2, if_pos c2]
   have hz : ¬ ((s.size : Int) < 2) := of_decide_eq_false c2
   have w : IntKind.wrap .i64 ((s.size : Int) - 1) = (s.size : Int) - 1 := wr (by omega) (by omega)
   have c3 : 0 ≤ (0 : Int) ∧ (0 : Int) < (s.size : Int) := ⟨by omega, by omega⟩
   obtain ⟨d, hd1, hd2⟩ := bs_head (s := s) (by omega)
   obtain ⟨e, he1, he2⟩ := bs_last (s := s) (by omega)
   have he2' : bt s ((s.size : Int) - 1) = e := by rw [← he2]; congr 1; omega
   rw [w, if_pos c3, if_pos c3]
   by_cases c4 : d = 60
   · have c4' : ((bt s (0 : Int)) != (60 : Int)) = false := by rw [hd2, c4]; rfl
     rw [if_pos c4', if_pos c4']
     have c5 : 0 ≤ (s.size : Int) - 1 ∧ (s.size : Int) - 1 < (s.size : Int) := ⟨by omega, by omega⟩
     rw [if_pos c5, if_pos c5]
     by_cases c6 : e = 62
     · have c6' : ¬ ((bt s ((s.size : Int) - 1)) != (62 : Int)) = true := by rw [he2', c6]; simp
       rw [if_neg c6', if_neg c6', if_pos ⟨by rw [bs_len]; omega, by rw [hd1, c4], by rw [he1, c6]⟩]
       have c7 : 0 ≤ (s.size : Int) - 1 ∧ (s.size : Int) - 1 ≤ (s.size : Int) := ⟨by omega, by omega⟩
       have c8 : 0 ≤ (1 : Int) ∧ (1 : Int) ≤ (s.size : Int) - 1 := ⟨by omega, by omega⟩
       rw [if_pos c7, if_pos c8, if_pos c7, if_pos c8]
       have hi : bs (s.extract (Int.toNat (1 : Int)) (Int.toNat ((s.size : Int) - 1))) = inner (bs s) := by
        rw [← bs_inner]
        congr 2
        omega
       have ht : (s.extract (Int.toNat (1 : Int)) (Int.toNat ((s.size : Int) - 1))).size ≤ 400000 := by
        have := ext_sz s (Int.toNat (1 : Int)) (Int.toNat ((s.size : Int) - 1)); omega
       have hP := Parse_eq n _ ht hn
       have hR := rParse_eq n _ ht hn
       rw [← par_same] at hR
       rw [hi] at hP hR
       cases hv : parP (inner (bs s)) with
       | none =>
        rw [hv] at hP hR
        simp only [RefIs] at hP hR
        rw [hP, hR]
        exact ⟨rfl, rfl⟩
       | some y =>
        rw [hv] at hP hR
        obtain ⟨t1, t2, j1, j2, j3⟩ := hP
        obtain ⟨u1, u2, k1, k2, k3⟩ := hR
        have x1 : u1 = t1 := bs_inj (k2.trans j2.symm)
        have x2 : u2 = t2 := bs_inj (k3.trans j3.symm)
        subst x1 x2
        rw [j1, k1]
        exact ⟨u1, u2, rfl, rfl, k2, k3⟩
     · have c6' : ((bt s ((s.size : Int) - 1)) != (62 : Int)) = true := by rw [he2']; simpa using c6
       rw [if_pos c6', if_pos c6', if_neg (fun hh => c6 (by rw [he1] at hh; exact Option.some.inj hh.2.2))]
       exact ⟨rfl, rfl⟩
   · have c4' : ¬ ((bt s (0 : Int)) != (60 : Int)) = false := by rw [hd2]; simpa using c4
     rw [if_neg c4', if_neg c4', if_neg (fun hh => c4 (by rw [hd1] at hh; exact Option.some.inj hh.2.1))]
     exact ⟨rfl, rfl⟩
 · rw [if_neg c2, if_neg c2, if_neg (fun hh => by
    rw [bs_len] at hh
    have : ((s.size : Int) < 2) := by simpa using c2
    omega)]
   exact ⟨rfl, rfl⟩
/-! Digits. -/
theorem vsize_L0 (n : Nat) (s : BA) (hs : s.size ≤ 10) : ∀ (r : List Int) (k m : Nat) (v : Int), (bs s).drop k = r → k ≤ s.size → r.length < m → 0 ≤ v → v < 10 ^ k → v_size_L0 n m s v s.size k = some (if r.all dig = true then .out (valD v r) else .pan 8)
 | [], k, m, v, h, hk, hm, h0, hv => by
  obtain ⟨m, rfl⟩ : ∃ q, m = q + 1 := ⟨m - 1, by simp at hm; omega⟩
  have := at_nil h
  simp [v_size_L0, v_size_B0, this, valD]
 | c :: r, k, m, v, h, hk, hm, h0, hv => by
  obtain ⟨m, rfl⟩ : ∃ q, m = q + 1 := ⟨m - 1, by simp at hm; omega⟩
  obtain ⟨h1, h2, h3, h4, h5⟩ := at_cons h
  have e1 := wr1 (k := k) (by omega)
  have a3 : (0 : Int) ≤ (k : Int) := by omega
  have hp : (10 : Int) ^ k ≤ 10 ^ 16 := by
   have : (10 : Nat) ^ k ≤ 10 ^ 16 := Nat.pow_le_pow_right (by decide) (by omega)
   exact_mod_cast this
  have hp2 : (10 : Int) ^ 16 = 10000000000000000 := by decide
  by_cases hd : dig c = true
  · have hc : 48 ≤ c ∧ c ≤ 57 := by simpa [dig] using hd
    have ih := vsize_L0 n s hs r (k + 1) m (10 * v + (c - 48)) h3 (by omega) (by simpa using hm) (by omega) (by rw [Int.pow_succ]; omega)
    have b1 : c ≥ 48 := by omega
    have w1 := wr8 (x := c - 48) (by omega) (by omega)
    have w2 := wr (x := c - 48) (by omega) (by omega)
    have w3 := wr (x := 10 * v) (by omega) (by omega)
    have w4 := wr (x := 10 * v + (c - 48)) (by omega) (by omega)
    simp only [v_size_L0, v_size_B0, h1, h2, a3, e1, b1, hc.2, w1, w2, w3, w4, vmust_eq, List.all_cons, hd, Bool.true_and, valD, decide_true]
    simpa [onX] using ih
  · have hd' : dig c = false := by simpa using hd
    simp only [v_size_L0, v_size_B0, h1, h2, a3, e1, vmust_eq, List.all_cons, hd', Bool.false_and]
    by_cases b1 : c ≥ 48
    · have b2 : ¬ c ≤ 57 := by simp [dig] at hd'; omega
      simp [b1, b2, onX]
    · simp [b1, onX]
def sizeW (w : List Int) : Bool := decide (1 ≤ w.length) && decide (w.length ≤ 10) && w.all dig && decide (valD 0 w ≤ 1073741824)
theorem sizeP_W (l : List Int) : sizeP l = if l = [] then some (-1) else if (l.take 6).map up = [32, 83, 73, 90, 69, 61] ∧ sizeW (l.drop 6) = true then some (valD 0 (l.drop 6)) else none := by
 unfold sizeP sizeW
 by_cases h0 : l = []
 · rw [if_pos h0, if_pos h0]
 · rw [if_neg h0, if_neg h0]
   simp only [Bool.and_eq_true, decide_eq_true_eq, and_assoc]
theorem vsize_eq (n : Nat) (s : BA) (hs : s.size ≤ 1000000) (hn : 10000000 ≤ n) : v_size n s = some (match sizeP (bs s) with
  | some z => .ok z
  | none => .error 8) := by
 rw [sizeP_W]
 unfold v_size v_size_B
 have e0 : bs (⟨#[]⟩ : BA) = [] := rfl
 have e6 : bs (⟨#[32, 83, 73, 90, 69, 61]⟩ : BA) = [32, 83, 73, 90, 69, 61] := rfl
 have z6 : (⟨#[32, 83, 73, 90, 69, 61]⟩ : BA).size = 6 := rfl
 rw [str_eq, e0]
 by_cases h0 : bs s = []
 · rw [if_pos h0, if_pos (decide_eq_true h0)]
 · rw [if_neg h0, if_neg (by simpa using h0), after_eq n s _ hs hn, e6, z6]
   by_cases h1 : ((bs s).take 6).map up = [32, 83, 73, 90, 69, 61]
   · rw [if_pos h1, Option.bind_some]
     simp only [onX, true_and, h1]
     have ht : bs (s.extract 6 s.size) = (bs s).drop 6 := bs_ext1 s 6
     generalize s.extract 6 s.size = t at ht
     rw [← ht]
     unfold sizeW
     rw [bs_len]
     by_cases c1 : 1 ≤ t.size
     · have e1 : decide ((t.size : Int) ≥ (1 : Int)) = true := decide_eq_true (by omega)
       rw [if_pos e1, vmust_eq]
       by_cases c2 : t.size ≤ 10
       · have e2 : decide ((t.size : Int) ≤ (10 : Int)) = true := decide_eq_true (by omega)
         have h := vsize_L0 n t c2 (bs t) 0 n 0 (by simp) (by omega) (by rw [bs_len]; omega) (by omega) (by decide)
         rw [show ((0 : Nat) : Int) = 0 from rfl] at h
         rw [e2]
         simp only [if_true, Option.bind_some, h]
         by_cases g : (bs t).all dig = true
         · rw [if_pos g]
           by_cases g2 : valD 0 (bs t) ≤ 1073741824
           · simp [onL, vmust_eq, c1, c2, g, g2]
           · simp [onL, vmust_eq, c1, c2, g, g2]
         · have g' : (bs t).all dig = false := by simpa using g
           simp [onL, g']
       · have e2 : decide ((t.size : Int) ≤ (10 : Int)) = false := decide_eq_false (by omega)
         rw [e2]
         simp [c2]
     · have e1 : ¬ decide ((t.size : Int) ≥ (1 : Int)) = true := by simp; omega
       rw [if_neg e1, vmust_eq]
       simp [c1]
   · rw [if_neg h1, Option.bind_some, if_neg (fun hh => h1 hh.1)]
     rfl
/-! Where a path ends. -/
open Go Go.RowKit
abbrev Vb := Int × (BA × (Bool × ((BA × (BA × Unit)) × (Int × Unit))))
def vL (k : Int) (w : List Int) (nl : Bool) (a b : List Int) (z : Int) : Bool :=
 if k = 1 then (!nl && (decide (a = []) && (decide (b = []) && decide (z = 0)))) && domR w
 else if k = 2 then (!nl && (decide (a = []) && (decide (b = []) && decide (z = 0)))) && domR w
 else if k = 3 then decide (w = []) && ((if nl = true then decide (a = []) && decide (b = []) else locR a && domR b) && (decide (-1 ≤ z) && decide (z ≤ 1073741824)))
 else if k = 4 then (decide (w = []) && (decide (z = 0) && !nl)) && (locR a && domR b)
 else if k = 7 then (!nl && (decide (a = []) && (decide (b = []) && decide (z = 0)))) && (wordsP w || decide (w = []))
 else if k = 9 then (!nl && (decide (a = []) && (decide (b = []) && decide (z = 0)))) && wordsP w
 else if k = 5 then decide (w = []) && (!nl && (decide (a = []) && (decide (b = []) && decide (z = 0))))
 else if k = 6 then decide (w = []) && (!nl && (decide (a = []) && (decide (b = []) && decide (z = 0))))
 else if k = 8 then decide (w = []) && (!nl && (decide (a = []) && (decide (b = []) && decide (z = 0))))
 else false
theorem e0s : bs (⟨#[]⟩ : BA) = [] := rfl
theorem nil_dec (l : List Int) : decide ([] = l) = decide (l = []) := by rw [decide_eq_decide]; exact eq_comm
theorem zero_beq (z : Int) : ((0 : Int) == z) = decide (z = 0) := by
 by_cases h : z = 0
 · subst h; rfl
 · rw [decide_eq_false h]; simpa using fun e => h e.symm
theorem vMay_eq (n : Nat) (k : Int) (w a b : BA) (nl : Bool) (z : Int) (hw : w.size ≤ 1000000) (ha : a.size ≤ 100000) (hb : b.size ≤ 100000) (hn : 10000000 ≤ n) :
  v_May n (k, (w, (nl, ((a, (b, ())), (z, ()))))) = some (vL k (bs w) nl (bs a) (bs b) z) := by
 have hd := IsDomain_eq n w hw hn
 rw [dom_same] at hd
 have hm := aMay_eq n a b ha hb hn
 have hwd := vwords_eq n w hw hn
 have g1 : decide (z ≥ -1) = decide (-1 ≤ z) := rfl
 unfold v_May v_May_B v_only v_only_B vL
 simp only [dup_self, both_self]
 by_cases k1 : k = 1
 · subst k1
   simp only [hd, Option.bind_some, str_eq, e0s, nil_dec, zero_beq, Bool.and_assoc]
   cases domR (bs w) <;> cases nl <;> simp [e0s, nil_dec, zero_beq, Bool.and_assoc]
 by_cases k2 : k = 2
 · subst k2
   simp only [hd, Option.bind_some, str_eq, e0s, nil_dec, zero_beq, Bool.and_assoc]
   cases domR (bs w) <;> cases nl <;> simp [e0s, nil_dec, zero_beq, Bool.and_assoc]
 by_cases k3 : k = 3
 · subst k3
   simp only [hm, Option.bind_some, str_eq, e0s, nil_dec, zero_beq, g1]
   cases nl
   · by_cases q : (locR (bs a) && domR (bs b)) = true
     · by_cases z1 : -1 ≤ z <;> by_cases z2 : z ≤ 1073741824 <;> simp [q, z1, z2, e0s, nil_dec, zero_beq, Bool.and_assoc]
     · have q' : (locR (bs a) && domR (bs b)) = false := by simpa using q
       simp [q', e0s, nil_dec, zero_beq, Bool.and_assoc]
   · by_cases z1 : -1 ≤ z <;> by_cases z2 : z ≤ 1073741824 <;> simp [z1, z2, e0s, nil_dec, zero_beq, Bool.and_assoc]
 by_cases k4 : k = 4
 · subst k4
   simp only [hm, Option.bind_some, str_eq, e0s, nil_dec, zero_beq, Bool.and_assoc]
   by_cases q : (locR (bs a) && domR (bs b)) = true
   · cases nl <;> simp [q, e0s, nil_dec, zero_beq, Bool.and_assoc]
   · have q' : (locR (bs a) && domR (bs b)) = false := by simpa using q
     simp [q', e0s, nil_dec, zero_beq, Bool.and_assoc]
 by_cases k7 : k = 7
 · subst k7
   simp only [hwd, Option.bind_some, str_eq, e0s, nil_dec, zero_beq, Bool.and_assoc]
   by_cases q : wordsP (bs w) = true
   · cases nl <;> simp [q, e0s, nil_dec, zero_beq, Bool.and_assoc]
   · have q' : wordsP (bs w) = false := by simpa using q
     by_cases ew : bs w = []
     · cases nl <;> simp [q', ew, e0s, nil_dec, zero_beq, Bool.and_assoc]
     · simp [q', ew, e0s, nil_dec, zero_beq, Bool.and_assoc]
 by_cases k9 : k = 9
 · subst k9
   simp only [hwd, Option.bind_some, str_eq, e0s, nil_dec, zero_beq, Bool.and_assoc]
   by_cases q : wordsP (bs w) = true
   · cases nl <;> simp [q, e0s, nil_dec, zero_beq, Bool.and_assoc]
   · have q' : wordsP (bs w) = false := by simpa using q
     by_cases ew : bs w = []
     · have q2 : wordsP [] = false := by rw [← ew]; exact q'
       simp [q2, q', ew, e0s, nil_dec, zero_beq, Bool.and_assoc]
     · simp [q', ew, e0s, nil_dec, zero_beq, Bool.and_assoc]
 by_cases k5 : k = 5
 · subst k5
   simp only [Option.bind_some, str_eq, e0s, nil_dec, zero_beq, Bool.and_assoc]
   cases nl <;> simp [e0s, nil_dec, zero_beq, Bool.and_assoc]
 by_cases k6 : k = 6
 · subst k6
   simp only [Option.bind_some, str_eq, e0s, nil_dec, zero_beq, Bool.and_assoc]
   cases nl <;> simp [e0s, nil_dec, zero_beq, Bool.and_assoc]
 by_cases k8 : k = 8
 · subst k8
   simp only [Option.bind_some, str_eq, e0s, nil_dec, zero_beq, Bool.and_assoc]
   cases nl <;> simp [e0s, nil_dec, zero_beq, Bool.and_assoc]
 have c : ∀ q : Int, k ≠ q → (k == q) = false := fun q h => by simpa using h
 simp [c 1 k1, c 2 k2, c 3 k3, c 4 k4, c 5 k5, c 6 k6, c 7 k7, c 8 k8, c 9 k9, k1, k2, k3, k4, k5, k6, k7, k8, k9, e0s, nil_dec, zero_beq, Bool.and_assoc]
open Go Go.RowKit
/-! Numbers as texts. -/
def decI (u : Nat) : List Int := ints (Lib.decDigits u)
theorem decI_lt {u : Nat} (h : u < 10) : decI u = [48 + (u : Int)] := by
 unfold decI
 rw [Lib.decDigits, dif_pos h]
 show [((UInt8.ofNat (48 + u)).toNat : Int)] = _
 rw [fin_ints ⟨u, h⟩]
theorem decI_ge {u : Nat} (h : ¬ u < 10) : decI u = decI (u / 10) ++ [48 + ((u % 10 : Nat) : Int)] := by
 have h10 : u % 10 < 10 := Nat.mod_lt _ (by omega)
 unfold decI
 rw [Lib.decDigits, dif_neg h]
 simp only [ints, List.map_append, List.map_cons, List.map_nil]
 rw [fin_ints ⟨u % 10, h10⟩]
def dch (x : Int) : BA := strOf 1 (fun q => List.getD (α := Int) [(IntKind.wrap .u8 (IntKind.wrap .i64 ((48 : Int) + x)))] q (zeroEl (.int .u8)))
theorem dch_bs {x : Int} (h0 : 0 ≤ x) (h1 : x < 10) : bs (dch x) = [48 + x] := by
 have w1 : IntKind.wrap .i64 (48 + x) = 48 + x := wr (by omega) (by omega)
 have w2 : IntKind.wrap .u8 (48 + x) = 48 + x := wr8 (by omega) (by omega)
 unfold dch
 rw [w1, w2, bs_strOf (fun i hi => by
  have : i = 0 := by omega
  subst this
  show 0 ≤ 48 + x ∧ 48 + x < 256
  omega)]
 rfl
theorem dch_sz {x : Int} (h0 : 0 ≤ x) (h1 : x < 10) : (dch x).size = 1 := by rw [← bs_len, dch_bs h0 h1]; rfl
theorem Decimal_L0 (n : Nat) : ∀ (d m : Nat) (u : Nat) (s : BA), d < m → u < 10 ^ (d + 1) → u ≤ 2147483648 → s.size + d ≤ 1000 →
  ∃ (a : Nat) (t : BA), r0_Decimal_L0 n m (u : Int) s = some (.out ((a : Int), t)) ∧ a < 10 ∧ (48 + (a : Int)) :: bs t = decI u ++ bs s ∧ t.size ≤ s.size + d
 | d, m, u, s, hm, hu, hb, hs => by
  obtain ⟨m, rfl⟩ : ∃ q, m = q + 1 := ⟨m - 1, by omega⟩
  by_cases g : u < 10
  · have e : ¬ ((u : Int) ≥ 10) := by omega
    refine ⟨u, s, by simp [r0_Decimal_L0, r0_Decimal_B0, e], g, by rw [decI_lt g]; rfl, by omega⟩
  · cases d with
    | zero => simp at hu; omega
    | succ d =>
     have e : decide ((u : Int) ≥ 10) = true := decide_eq_true (by omega)
     have hmod : Int.tmod (u : Int) 10 = ((u % 10 : Nat) : Int) := (Int.ofNat_tmod u 10).symm
     have hdiv : Int.tdiv (u : Int) 10 = ((u / 10 : Nat) : Int) := (Int.ofNat_tdiv u 10).symm
     have h10 : u % 10 < 10 := Nat.mod_lt _ (by omega)
     have hz := dch_sz (x := ((u % 10 : Nat) : Int)) (by omega) (by omega)
     have hf : strFits (dch ((u % 10 : Nat) : Int)) s = true := fitS (by omega)
     have hw : IntKind.wrap .i64 ((u / 10 : Nat) : Int) = ((u / 10 : Nat) : Int) := wr (by omega) (by omega)
     have hlt : u / 10 < 10 ^ (d + 1) := by
      rw [Nat.pow_succ] at hu
      omega
     obtain ⟨a, t, h1, h2, h3, h4⟩ := Decimal_L0 n d m (u / 10) (dch ((u % 10 : Nat) : Int) ++ s) (by omega) hlt (by omega) (by rw [ByteArray.size_append, hz]; omega)
     refine ⟨a, t, ?_, h2, ?_, by rw [ByteArray.size_append, hz] at h4; omega⟩
     · rw [← h1]
       show r0_Decimal_B0 n (u : Int) s _ _ _ _ = _
       unfold r0_Decimal_B0
       rw [if_pos e, hmod, hdiv, hw]
       exact if_pos hf
     · rw [h3, bs_app, dch_bs (by omega) (by omega), decI_ge g, List.append_assoc]
theorem Decimal_eq (n : Nat) (z : Int) (h0 : 0 ≤ z) (h1 : z ≤ 1073741824) (hn : 10000000 ≤ n) : ∃ t, r0_Decimal n z = some t ∧ bs t = decI z.toNat ∧ t.size ≤ 20 := by
 obtain ⟨u, rfl⟩ : ∃ u : Nat, z = (u : Int) := ⟨z.toNat, by omega⟩
 have h10 : (10 : Nat) ^ 12 = 1000000000000 := by decide
 have e0 : (⟨#[]⟩ : BA).size = 0 := rfl
 obtain ⟨a, t, k1, k2, k3, k4⟩ := Decimal_L0 n 11 n u (⟨#[]⟩ : BA) (by omega) (by omega) (by omega) (by omega)
 have hz := dch_sz (x := (a : Int)) (by omega) (by omega)
 have hf : strFits (dch (a : Int)) t = true := fitS (by omega)
 refine ⟨dch (a : Int) ++ t, ?_, ?_, by rw [ByteArray.size_append]; omega⟩
 · unfold r0_Decimal r0_Decimal_B
   rw [if_neg (by simp), k1, Option.bind_some]
   exact if_pos hf
 · rw [bs_app, dch_bs (by omega) (by omega)]
   show (48 + (a : Int)) :: bs t = _
   rw [k3, e0s, List.append_nil]; rfl
theorem decI_len {u : Nat} (h : u ≤ 1073741824) : (decI u).length ≤ 20 := by
 obtain ⟨t, _, h2, h3⟩ := Decimal_eq 10000000 (u : Int) (by omega) (by omega) (Nat.le_refl _)
 rw [bs_len t |>.symm, h2] at h3
 simpa using h3
theorem itoaF_eq (z : Int) (h0 : 0 ≤ z) (h1 : z ≤ 1073741824) : ∃ t, itoaF z = some t ∧ bs t = decI z.toNat ∧ t.size ≤ 20 := by
 obtain ⟨u, rfl⟩ : ∃ u : Nat, z = (u : Int) := ⟨z.toNat, by omega⟩
 have hb : bs (⟨(Lib.decDigits u).toArray⟩ : BA) = decI u := by simp [bs, decI, ints]
 refine ⟨⟨(Lib.decDigits u).toArray⟩, ?_, by rw [hb]; rfl, ?_⟩
 · unfold itoaF
   rw [if_pos ⟨by omega, by omega⟩]
   unfold Lib.itoa
   rw [if_neg (by omega)]; rfl
 · rw [← bs_len, hb]; exact decI_len (by omega)
/-! Texts. -/
def nmL (k : Int) : List Int := if k = 1 then [72, 69, 76, 79] else if k = 2 then [69, 72, 76, 79] else if k = 3 then [77, 65, 73, 76] else if k = 4 then [82, 67, 80, 84] else
 if k = 5 then [68, 65, 84, 65] else if k = 6 then [82, 83, 69, 84] else if k = 7 then [78, 79, 79, 80] else if k = 8 then [81, 85, 73, 84] else [86, 82, 70, 89]
def szL (z : Int) : List Int := if 0 ≤ z then [32, 83, 73, 90, 69, 61] ++ decI z.toNat else []
def tL (k : Int) (w : List Int) (nl : Bool) (a b : List Int) (z : Int) : List Int :=
 if k = 3 then nmL k ++ ([32, 70, 82, 79, 77, 58] ++ (60 :: ((if nl = true then [] else a ++ 64 :: b) ++ 62 :: szL z)))
 else if k = 4 then nmL k ++ ([32, 84, 79, 58] ++ (60 :: ((a ++ 64 :: b) ++ [62])))
 else if w = [] then nmL k else nmL k ++ 32 :: w
theorem vL_kind {k : Int} {w : List Int} {nl : Bool} {a b : List Int} {z : Int} (h : vL k w nl a b z = true) : k = 1 ∨ k = 2 ∨ k = 3 ∨ k = 4 ∨ k = 5 ∨ k = 6 ∨ k = 7 ∨ k = 8 ∨ k = 9 := by
 unfold vL at h
 repeat' (split at h)
 all_goals first | omega | cases h
theorem vL_size {w : List Int} {nl : Bool} {a b : List Int} {z : Int} (h : vL 3 w nl a b z = true) : -1 ≤ z ∧ z ≤ 1073741824 := by
 simp [vL] at h
 exact h.2.2
theorem vText_no (n : Nat) (k : Int) (w a b : BA) (nl : Bool) (z : Int) (hw : w.size ≤ 1000000) (ha : a.size ≤ 100000) (hb : b.size ≤ 100000) (hn : 10000000 ≤ n) (hv : vL k (bs w) nl (bs a) (bs b) z = false) :
  v_Text n (k, (w, (nl, ((a, (b, ())), (z, ()))))) = some ((⟨#[]⟩ : BA), (1, ())) := by
 have hM := vMay_eq n k w a b nl z hw ha hb hn
 rw [hv] at hM
 unfold v_Text v_Text_B
 simp only [hM, Option.bind_some]
 rfl
theorem vText_eq (n : Nat) (k : Int) (w a b : BA) (nl : Bool) (z : Int) (hw : w.size ≤ 1000000) (ha : a.size ≤ 100000) (hb : b.size ≤ 100000) (hn : 10000000 ≤ n) (hv : vL k (bs w) nl (bs a) (bs b) z = true) :
  ∃ t, v_Text n (k, (w, (nl, ((a, (b, ())), (z, ()))))) = some (t, (0, ())) ∧ bs t = tL k (bs w) nl (bs a) (bs b) z := by
 have hM := vMay_eq n k w a b nl z hw ha hb hn
 rw [hv] at hM
 have hL := (Lay_eq n a b ha hb).1
 have z1 : (⟨#[32]⟩ : BA).size = 1 := rfl
 have z2 : (⟨#[62]⟩ : BA).size = 1 := rfl
 have z3 : (⟨#[64]⟩ : BA).size = 1 := rfl
 have z4 : (⟨#[32, 70, 82, 79, 77, 58, 60]⟩ : BA).size = 7 := rfl
 have z5 : (⟨#[32, 70, 82, 79, 77, 58, 60, 62]⟩ : BA).size = 8 := rfl
 have z6 : (⟨#[32, 84, 79, 58, 60]⟩ : BA).size = 5 := rfl
 have z7 : (⟨#[32, 83, 73, 90, 69, 61]⟩ : BA).size = 6 := rfl
 have nm : ∀ q : Int, 1 ≤ q → q ≤ 9 → ∃ x, v_names n q = some x ∧ bs x = nmL q ∧ x.size = 4 := fun q h1 h2 => by
  have : q = 1 ∨ q = 2 ∨ q = 3 ∨ q = 4 ∨ q = 5 ∨ q = 6 ∨ q = 7 ∨ q = 8 ∨ q = 9 := by omega
  rcases this with rfl | rfl | rfl | rfl | rfl | rfl | rfl | rfl | rfl <;> exact ⟨_, rfl, rfl, rfl⟩
 have hk := vL_kind hv
 obtain ⟨x, hx, hxb, hxz⟩ := nm k (by omega) (by omega)
 unfold v_Text v_Text_B
 simp only [hM, hx, hL, Option.bind_some]
 by_cases k3 : k = 3
 · subst k3
   have hz := vL_size hv
   by_cases h0 : 0 ≤ z
   · obtain ⟨t, ht1, ht2, ht3⟩ := itoaF_eq z h0 hz.2
     cases nl
     · refine ⟨_, by
        simp (disch := (simp only [ByteArray.size_append, z1, z2, z3, z4, z5, z6, z7]; omega)) [h0, ht1, fitS]
        rfl, ?_⟩
       simp [tL, szL, h0, bs_app, ht2, hxb]
       rfl
     · refine ⟨_, by
        simp (disch := (simp only [ByteArray.size_append, z1, z2, z3, z4, z5, z6, z7]; omega)) [h0, ht1, fitS]
        rfl, ?_⟩
       simp [tL, szL, h0, bs_app, ht2, hxb]
       rfl
   · have h0' : z < 0 := by omega
     cases nl
     · refine ⟨_, by
        simp (disch := (simp only [ByteArray.size_append, z1, z2, z3, z4, z5, z6, z7]; omega)) [h0, fitS]
        rfl, ?_⟩
       simp [tL, szL, h0, bs_app, hxb]
       rfl
     · refine ⟨_, by
        simp (disch := (simp only [ByteArray.size_append, z1, z2, z3, z4, z5, z6, z7]; omega)) [h0, fitS]
        rfl, ?_⟩
       simp [tL, szL, h0, bs_app, hxb]
       rfl
 have c3 : (k == 3) = false := by simpa using k3
 by_cases k4 : k = 4
 · subst k4
   refine ⟨_, by
    simp (disch := (simp only [ByteArray.size_append, z1, z2, z3, z4, z5, z6, z7]; omega)) [fitS]
    rfl, ?_⟩
   simp [tL, bs_app, hxb]
   rfl
 have c4 : (k == 4) = false := by simpa using k4
 simp only [str_eq, e0s]
 by_cases ew : bs w = []
 · refine ⟨x, by simp [c3, c4, str_eq, e0s, ew], ?_⟩
   simp [tL, k3, k4, ew, hxb]
 · refine ⟨_, by
    simp (disch := (simp only [ByteArray.size_append, z1, z2, z3, z4, z5, z6, z7]; omega)) [c3, c4, str_eq, e0s, ew, fitS]
    rfl, ?_⟩
   simp [tL, k3, k4, ew, hxb, bs_app]
   rfl
theorem rText_eq (n : Nat) (k : Int) (w a b : BA) (nl : Bool) (z : Int) (hw : w.size ≤ 1000000) (ha : a.size ≤ 100000) (hb : b.size ≤ 100000) (hn : 10000000 ≤ n) (hv : vL k (bs w) nl (bs a) (bs b) z = true) :
  ∃ t, r4_VerbText n (k, (w, (nl, ((a, (b, ())), (z, ()))))) = some t ∧ bs t = tL k (bs w) nl (bs a) (bs b) z := by
 have hL : r4_Text n (a, (b, ())) = _ := (Lay_eq n a b ha hb).2
 have z1 : (⟨#[32]⟩ : BA).size = 1 := rfl
 have z2 : (⟨#[62]⟩ : BA).size = 1 := rfl
 have z3 : (⟨#[64]⟩ : BA).size = 1 := rfl
 have z4 : (⟨#[32, 70, 82, 79, 77, 58, 60]⟩ : BA).size = 7 := rfl
 have z6 : (⟨#[32, 84, 79, 58, 60]⟩ : BA).size = 5 := rfl
 have z7 : (⟨#[32, 83, 73, 90, 69, 61]⟩ : BA).size = 6 := rfl
 have nm : ∀ q : Int, 1 ≤ q → q ≤ 9 → ∃ x, r4_name n q = some x ∧ bs x = nmL q ∧ x.size = 4 := fun q h1 h2 => by
  have : q = 1 ∨ q = 2 ∨ q = 3 ∨ q = 4 ∨ q = 5 ∨ q = 6 ∨ q = 7 ∨ q = 8 ∨ q = 9 := by omega
  rcases this with rfl | rfl | rfl | rfl | rfl | rfl | rfl | rfl | rfl <;> exact ⟨_, rfl, rfl, rfl⟩
 have hk := vL_kind hv
 obtain ⟨x, hx, hxb, hxz⟩ := nm k (by omega) (by omega)
 unfold r4_VerbText r4_VerbText_B
 simp only [hx, hL, Option.bind_some]
 by_cases k3 : k = 3
 · subst k3
   have hz := vL_size hv
   by_cases h0 : 0 ≤ z
   · obtain ⟨t, ht1, ht2, ht3⟩ := Decimal_eq n z h0 hz.2 hn
     cases nl
     · refine ⟨_, by
        simp (disch := (simp only [ByteArray.size_append, z1, z2, z3, z4, z6, z7]; omega)) [h0, ht1, fitS]
        rfl, ?_⟩
       simp [tL, szL, h0, bs_app, ht2, hxb]
       rfl
     · refine ⟨_, by
        simp (disch := (simp only [ByteArray.size_append, z1, z2, z3, z4, z6, z7]; omega)) [h0, ht1, fitS]
        rfl, ?_⟩
       simp [tL, szL, h0, bs_app, ht2, hxb]
       rfl
   · cases nl
     · refine ⟨_, by
        simp (disch := (simp only [ByteArray.size_append, z1, z2, z3, z4, z6, z7]; omega)) [h0, fitS]
        rfl, ?_⟩
       simp [tL, szL, h0, bs_app, hxb]
       rfl
     · refine ⟨_, by
        simp (disch := (simp only [ByteArray.size_append, z1, z2, z3, z4, z6, z7]; omega)) [h0, fitS]
        rfl, ?_⟩
       simp [tL, szL, h0, bs_app, hxb]
       rfl
 have c3 : (k == 3) = false := by simpa using k3
 by_cases k4 : k = 4
 · subst k4
   refine ⟨_, by
    simp (disch := (simp only [ByteArray.size_append, z1, z2, z3, z4, z6, z7]; omega)) [fitS]
    rfl, ?_⟩
   simp [tL, bs_app, hxb]
   rfl
 have c4 : (k == 4) = false := by simpa using k4
 simp only [str_eq, e0s]
 by_cases ew : bs w = []
 · refine ⟨x, by simp [c3, c4, str_eq, e0s, ew], ?_⟩
   simp [tL, k3, k4, ew, hxb]
 · refine ⟨_, by
    simp (disch := (simp only [ByteArray.size_append, z1, z2, z3, z4, z6, z7]; omega)) [c3, c4, str_eq, e0s, ew, fitS]
    rfl, ?_⟩
   simp [tL, k3, k4, ew, hxb, bs_app]
   rfl
open Go Go.RowKit
noncomputable def rdM (n : Nat) (v2 : Int) (t : BA) : Option (Except Int Vb) :=
 if (v2 == (3 : Int)) = true then
  (v_after n t (⟨#[32, 70, 82, 79, 77, 58]⟩ : BA)).bind fun x_2 => onX x_2 (fun p1 =>
  some (Except.error p1)) (fun v3 =>
  (v_path n v3).bind fun x_3 => onX x_3 (fun p2 =>
  some (Except.error p2)) (fun v4 =>
  (v_size n v4.2.2.1).bind fun x_4 => onX x_4 (fun p3 =>
  some (Except.error p3)) (fun v5 =>
  (v_May n (v2, ((⟨#[]⟩ : BA), (v4.2.1, ((v4.1.1, (v4.1.2.1, ())), (v5, ())))))).bind fun v6 =>
  (v_must n v6 (8 : Int)).bind fun x_5 => onX x_5 (fun p4 =>
  some (Except.error p4)) (fun v7 =>
  some (Except.ok (v2, ((⟨#[]⟩ : BA), (v4.2.1, ((v4.1.1, (v4.1.2.1, ())), (v5, ()))))))))))
 else
  if (v2 == (4 : Int)) = true then
  (v_after n t (⟨#[32, 84, 79, 58]⟩ : BA)).bind fun x_6 => onX x_6 (fun p5 =>
   some (Except.error p5)) (fun v8 =>
  (v_path n v8).bind fun x_7 => onX x_7 (fun p6 =>
   some (Except.error p6)) (fun v9 =>
  (v_must n (v9.2.2.1.toList == (⟨#[]⟩ : BA).toList) (8 : Int)).bind fun x_8 => onX x_8 (fun p7 =>
   some (Except.error p7)) (fun v10 =>
  (v_May n (v2, ((⟨#[]⟩ : BA), (v9.2.1, ((v9.1.1, (v9.1.2.1, ())), ((0 : Int), ())))))).bind fun v11 =>
  (v_must n v11 (8 : Int)).bind fun x_9 => onX x_9 (fun p8 =>
   some (Except.error p8)) (fun v12 =>
  some (Except.ok (v2, ((⟨#[]⟩ : BA), (v9.2.1, ((v9.1.1, (v9.1.2.1, ())), ((0 : Int), ()))))))))))
  else
  if (v2 == (1 : Int)) = true then
   (st_TrimPrefix n t (⟨#[32]⟩ : BA)).bind fun v13 =>
   (ad_Domain n v13).bind fun v14 =>
   (v_must n (v14.2.1 == (0 : Int)) (8 : Int)).bind fun x_10 => onX x_10 (fun p9 =>
   some (Except.error p9)) (fun v15 =>
   (v_May n (v2, (v14.1, (false, (((⟨#[]⟩ : BA), ((⟨#[]⟩ : BA), ())), ((0 : Int), ())))))).bind fun v16 =>
   (v_must n v16 (8 : Int)).bind fun x_11 => onX x_11 (fun p10 =>
   some (Except.error p10)) (fun v17 =>
   some (Except.ok (v2, (v14.1, (false, (((⟨#[]⟩ : BA), ((⟨#[]⟩ : BA), ())), ((0 : Int), ()))))))))
  else
   if (v2 == (2 : Int)) = true then
   (st_TrimPrefix n t (⟨#[32]⟩ : BA)).bind fun v18 =>
   (ad_Domain n v18).bind fun v19 =>
   (v_must n (v19.2.1 == (0 : Int)) (8 : Int)).bind fun x_12 => onX x_12 (fun p11 =>
    some (Except.error p11)) (fun v20 =>
   (v_May n (v2, (v19.1, (false, (((⟨#[]⟩ : BA), ((⟨#[]⟩ : BA), ())), ((0 : Int), ())))))).bind fun v21 =>
   (v_must n v21 (8 : Int)).bind fun x_13 => onX x_13 (fun p12 =>
    some (Except.error p12)) (fun v22 =>
   some (Except.ok (v2, (v19.1, (false, (((⟨#[]⟩ : BA), ((⟨#[]⟩ : BA), ())), ((0 : Int), ()))))))))
   else
   (v_must n (!(t.toList == (⟨#[32]⟩ : BA).toList)) (8 : Int)).bind fun x_14 => onX x_14 (fun p13 =>
    some (Except.error p13)) (fun v23 =>
   (st_TrimPrefix n t (⟨#[32]⟩ : BA)).bind fun v24 =>
   (v_May n (v2, (v24, (false, (((⟨#[]⟩ : BA), ((⟨#[]⟩ : BA), ())), ((0 : Int), ())))))).bind fun v25 =>
   (v_must n v25 (8 : Int)).bind fun x_15 => onX x_15 (fun p14 =>
    some (Except.error p14)) (fun v26 =>
   some (Except.ok (v2, (v24, (false, (((⟨#[]⟩ : BA), ((⟨#[]⟩ : BA), ())), ((0 : Int), ()))))))))
abbrev Cnd := List Int × (Bool × (List Int × (List Int × Int)))
def mailC (t : List Int) : Option Cnd := match pthL (t.take (pe 0 t)), sizeP (t.drop (pe 0 t)) with
 | some v, some z => some ([], (v.1, (v.2.1, (v.2.2, z))))
 | _, _ => none
def cand (k : Int) (r : List Int) : Option Cnd :=
 if k = 3 then (if (r.take 6).map up = [32, 70, 82, 79, 77, 58] then mailC (trim1 (r.drop 6)) else none)
 else if k = 4 then (if (r.take 4).map up = [32, 84, 79, 58] then (pthL (trim1 (r.drop 4))).map fun v => ([], (v.1, (v.2.1, (v.2.2, 0)))) else none)
 else if k = 1 then some ((trim1 r).map low, (false, ([], ([], 0))))
 else if k = 2 then some ((trim1 r).map low, (false, ([], ([], 0))))
 else if r = [32] then none else some (trim1 r, (false, ([], ([], 0))))
def okC (k : Int) (c : Option Cnd) : Option Cnd := c.bind fun x => if vL k x.1 x.2.1 x.2.2.1 x.2.2.2.1 x.2.2.2.2 = true then some x else none
def RdIs (k : Int) (e : Option (Except Int Vb)) (c : Option Cnd) : Prop := match c with
 | none => e = some (.error 8)
 | some x => ∃ w a b : BA, e = some (.ok (k, (w, (x.2.1, ((a, (b, ())), (x.2.2.2.2, ())))))) ∧ bs w = x.1 ∧ bs a = x.2.2.1 ∧ bs b = x.2.2.2.1
theorem trim1_len (l : List Int) : (trim1 l).length ≤ l.length := by
 unfold trim1; split
 · simp
 · exact Nat.le_refl _
theorem pth_len {t : List Int} {v : Bool × List Int × List Int} (h : pthL t = some v) : v.2.1.length ≤ 2 * t.length + 2 ∧ v.2.2.length ≤ t.length := by
 unfold pthL at h
 split at h
 · cases h; simp
 · split at h
   · obtain ⟨y, hy, rfl⟩ := Option.map_eq_some_iff.1 h
     unfold parP at hy
     obtain ⟨x, h1, h2⟩ := Option.bind_eq_some_iff.1 hy
     have hi : (inner t).length ≤ t.length := by unfold inner; rw [List.length_drop, List.length_take]; omega
     obtain ⟨l1, l2⟩ := loc_len h1
     split at h2
     · cases h2
       simp only [List.length_map, List.length_drop]
       omega
     · cases h2
   · cases h
theorem vpath_eq (n : Nat) (u : BA) (hs : u.size ≤ 20000) (hn : 10000000 ≤ n) : ∃ i, endP (trim1 (bs u)) i ∧
  ((0 ≤ i ∧ ∃ v p1 p2 r, pthL ((trim1 (bs u)).take (i.toNat + 1)) = some v ∧ v_path n u = some (.ok ((p1, (p2, ())), (v.1, (r, ())))) ∧ bs p1 = v.2.1 ∧ bs p2 = v.2.2 ∧ bs r = (trim1 (bs u)).drop (i.toNat + 1)) ∨
   (¬ (0 ≤ i ∧ ∃ v, pthL ((trim1 (bs u)).take (i.toNat + 1)) = some v) ∧ v_path n u = some (.error 8))) := by
 have ht := trim_bs u
 have hz : (if (bs u).head? = some 32 then u.extract 1 u.size else u).size ≤ 20000 := by
  split
  · have := ext_sz u 1 u.size; omega
  · exact hs
 have htr := trim_eq n u
 generalize (if (bs u).head? = some 32 then u.extract 1 u.size else u) = t at ht hz htr
 rw [← ht]
 obtain ⟨i, h1, h2⟩ := last_eq n t (by omega) hn
 refine ⟨i, h2, ?_⟩
 unfold v_path v_path_B
 rw [htr, Option.bind_some, h1, Option.bind_some, vmust_eq, Option.bind_some]
 rcases h2 with ⟨rfl, _⟩ | ⟨k, rfl, h3, _, _⟩
 · exact .inr ⟨fun hh => by omega, rfl⟩
 · have hk : (k : Int) ≥ 0 := by omega
   rw [bs_len] at h3
   have e1 := wr1 (k := k) (by omega)
   have e2 : 0 ≤ ((k + 1 : Nat) : Int) ∧ ((k + 1 : Nat) : Int) ≤ (t.size : Int) := ⟨by omega, by omega⟩
   have hx : bs (t.extract (Int.toNat 0) (Int.toNat ((k + 1 : Nat) : Int))) = (bs t).take ((k : Int).toNat + 1) := bs_ext0 t (k + 1)
   have hP := Path_eq n (t.extract (Int.toNat 0) (Int.toNat ((k + 1 : Nat) : Int))) (by have := ext_sz t (Int.toNat 0) (Int.toNat ((k + 1 : Nat) : Int)); omega) hn
   rw [hx] at hP
   rw [decide_eq_true hk, if_pos rfl]
   simp only [onX, e1, if_pos e2]
   cases hv : pthL ((bs t).take ((k : Int).toNat + 1)) with
   | none =>
    rw [hv] at hP
    refine .inr ⟨fun ⟨_, v, hv'⟩ => (by cases hv'), ?_⟩
    rw [hP.2, Option.bind_some, vmust_eq]
    rfl
   | some v =>
    rw [hv] at hP
    obtain ⟨p1, p2, _, q1, q2, q3⟩ := hP
    refine .inl ⟨hk, v, p1, p2, t.extract (k + 1) t.size, rfl, ?_, q2, q3, bs_ext1 t (k + 1)⟩
    rw [q1, Option.bind_some, vmust_eq]
    rfl
theorem okC_no {k : Int} {w : List Int} {nl : Bool} {a b : List Int} {z : Int} (h : vL k w nl a b z = false) : okC k (some (w, (nl, (a, (b, z))))) = none := by
 simp [okC, h]
theorem okC_yes {k : Int} {w : List Int} {nl : Bool} {a b : List Int} {z : Int} (h : vL k w nl a b z = true) : okC k (some (w, (nl, (a, (b, z))))) = some (w, (nl, (a, (b, z)))) := by
 simp [okC, h]
theorem rdM_eq (n : Nat) (k : Int) (t : BA) (hs : t.size ≤ 20000) (hn : 10000000 ≤ n) : RdIs k (rdM n k t) (okC k (cand k (bs t))) := by
 have fin : ∀ (w a b : BA) (nl : Bool) (z : Int), w.size ≤ 1000000 → a.size ≤ 100000 → b.size ≤ 100000 → RdIs k ((v_May n (k, (w, (nl, ((a, (b, ())), (z, ())))))).bind fun v6 => (v_must n v6 (8 : Int)).bind fun x => onX x (fun p => some (Except.error p)) (fun _ => some (Except.ok (k, (w, (nl, ((a, (b, ())), (z, ())))))))) (okC k (some (bs w, (nl, (bs a, (bs b, z)))))) := fun w a b nl z h1 h2 h3 => by
  rw [vMay_eq n k w a b nl z h1 h2 h3 hn, Option.bind_some, vmust_eq, Option.bind_some]
  cases hv : vL k (bs w) nl (bs a) (bs b) z with
  | true => rw [okC_yes hv]; exact ⟨w, a, b, rfl, rfl, rfl, rfl⟩
  | false => rw [okC_no hv]; rfl
 have z0 : (⟨#[]⟩ : BA).size = 0 := rfl
 unfold rdM cand
 by_cases k3 : k = 3
 · subst k3
   have e6 : bs (⟨#[32, 70, 82, 79, 77, 58]⟩ : BA) = [32, 70, 82, 79, 77, 58] := rfl
   have z6 : (⟨#[32, 70, 82, 79, 77, 58]⟩ : BA).size = 6 := rfl
   rw [if_pos (show ((3 : Int) == 3) = true from rfl), if_pos (rfl : (3 : Int) = 3), after_eq n t _ (by omega) hn, e6, z6, Option.bind_some]
   by_cases h1 : ((bs t).take 6).map up = [32, 70, 82, 79, 77, 58]
   · rw [if_pos h1, if_pos h1]
     simp only [onX]
     have hu : bs (t.extract 6 t.size) = (bs t).drop 6 := bs_ext1 t 6
     have huz : (t.extract 6 t.size).size ≤ 20000 := by have := ext_sz t 6 t.size; omega
     generalize t.extract 6 t.size = u at hu huz
     rw [← hu]
     have hlen : (trim1 (bs u)).length ≤ 20000 := by have := trim1_len (bs u); rw [bs_len] at this; omega
     obtain ⟨i, hi, ⟨h0, v, p1, p2, r, g1, g2, g3, g4, g5⟩ | ⟨hno, g2⟩⟩ := vpath_eq n u huz hn
     · obtain ⟨l1, l2⟩ := pth_len g1
       rw [List.length_take] at l1 l2
       have hrz : r.size ≤ 1000000 := by rw [← bs_len, g5, List.length_drop]; omega
       rw [g2, Option.bind_some]
       simp only
       rw [vsize_eq n r hrz hn, Option.bind_some, g5]
       cases hz : sizeP ((trim1 (bs u)).drop (i.toNat + 1)) with
       | none =>
        have : mailC (trim1 (bs u)) = none := by
         unfold mailC
         cases q1 : pthL ((trim1 (bs u)).take (pe 0 (trim1 (bs u)))) with
         | none => rfl
         | some v' =>
          cases q2 : sizeP ((trim1 (bs u)).drop (pe 0 (trim1 (bs u)))) with
          | none => rfl
          | some z' =>
           have := (ends_same hi (v := v') (z := z')).2 ⟨q1, q2⟩
           rw [hz] at this
           exact absurd this.2.2 (by simp)
        rw [this]
        rfl
       | some z =>
        obtain ⟨q1, q2⟩ := (ends_same hi (v := v) (z := z)).1 ⟨h0, g1, hz⟩
        have : mailC (trim1 (bs u)) = some ([], (v.1, (v.2.1, (v.2.2, z)))) := by unfold mailC; rw [q1, q2]
        rw [this]
        have f := fin (⟨#[]⟩ : BA) p1 p2 v.1 z (by omega) (by rw [← bs_len, g3]; omega) (by rw [← bs_len, g4]; omega)
        rw [g3, g4, e0s] at f
        exact f
     · rw [g2, Option.bind_some]
       have : mailC (trim1 (bs u)) = none := by
        unfold mailC
        cases q1 : pthL ((trim1 (bs u)).take (pe 0 (trim1 (bs u)))) with
        | none => rfl
        | some v' =>
         cases q2 : sizeP ((trim1 (bs u)).drop (pe 0 (trim1 (bs u)))) with
         | none => rfl
         | some z' =>
          have := (ends_same hi (v := v') (z := z')).2 ⟨q1, q2⟩
          exact absurd ⟨this.1, v', this.2.1⟩ hno
       rw [this]
       rfl
   · rw [if_neg h1, if_neg h1]
     rfl
 have c3 : (k == 3) = false := by simpa using k3
 rw [if_neg (by rw [c3]; simp), if_neg k3]
 by_cases k4 : k = 4
 · subst k4
   have e4 : bs (⟨#[32, 84, 79, 58]⟩ : BA) = [32, 84, 79, 58] := rfl
   have z4 : (⟨#[32, 84, 79, 58]⟩ : BA).size = 4 := rfl
   rw [if_pos (show ((4 : Int) == 4) = true from rfl), if_pos (rfl : (4 : Int) = 4), after_eq n t _ (by omega) hn, e4, z4, Option.bind_some]
   by_cases h1 : ((bs t).take 4).map up = [32, 84, 79, 58]
   · rw [if_pos h1, if_pos h1]
     simp only [onX]
     have hu : bs (t.extract 4 t.size) = (bs t).drop 4 := bs_ext1 t 4
     have huz : (t.extract 4 t.size).size ≤ 20000 := by have := ext_sz t 4 t.size; omega
     generalize t.extract 4 t.size = u at hu huz
     rw [← hu]
     have hlen : (trim1 (bs u)).length ≤ 20000 := by have := trim1_len (bs u); rw [bs_len] at this; omega
     have whole : ∀ v i, endP (trim1 (bs u)) i → pthL (trim1 (bs u)) = some v → 0 ≤ i ∧ (trim1 (bs u)).drop (i.toNat + 1) = [] ∧ (trim1 (bs u)).take (i.toNat + 1) = trim1 (bs u) := fun v i hi hv => by
      obtain ⟨_, hl, hne⟩ := pth_end hv []
      generalize trim1 (bs u) = l at hi hl hne
      have hpos : 0 < l.length := List.length_pos_iff.2 hne
      rw [List.getLast?_eq_getElem?] at hl
      rcases hi with ⟨_, h⟩ | ⟨q, rfl, hq1, hq2, hq3⟩
      · exact absurd (List.mem_of_getElem? hl) h
      · have : q = l.length - 1 := by
         rcases Nat.lt_or_ge q (l.length - 1) with g | g
         · exfalso
           apply hq3
           have : (l.drop (q + 1))[l.length - 1 - (q + 1)]? = some 62 := by
            rw [List.getElem?_drop, show q + 1 + (l.length - 1 - (q + 1)) = l.length - 1 by omega]; exact hl
           exact List.mem_of_getElem? this
         · omega
        refine ⟨by omega, List.drop_eq_nil_of_le (by omega), List.take_of_length_le (by omega)⟩
     obtain ⟨i, hi, ⟨h0, v, p1, p2, r, g1, g2, g3, g4, g5⟩ | ⟨hno, g2⟩⟩ := vpath_eq n u huz hn
     · obtain ⟨l1, l2⟩ := pth_len g1
       rw [List.length_take] at l1 l2
       rw [g2, Option.bind_some]
       simp only
       rw [vmust_eq, str_eq, g5, e0s, Option.bind_some]
       by_cases hd : (trim1 (bs u)).drop (i.toNat + 1) = []
       · have htk : (trim1 (bs u)).take (i.toNat + 1) = trim1 (bs u) := by
          have := List.take_append_drop (i.toNat + 1) (trim1 (bs u))
          rw [hd, List.append_nil] at this; exact this
         rw [htk] at g1
         rw [g1, decide_eq_true hd, if_pos rfl]
         have f := fin (⟨#[]⟩ : BA) p1 p2 v.1 0 (by omega) (by rw [← bs_len, g3]; omega) (by rw [← bs_len, g4]; omega)
         rw [g3, g4, e0s] at f
         exact f
       · cases hv : pthL (trim1 (bs u)) with
         | none => rw [decide_eq_false hd]; rfl
         | some v' => exact absurd (whole v' i hi hv).2.1 hd
     · rw [g2, Option.bind_some]
       cases hv : pthL (trim1 (bs u)) with
       | none => rfl
       | some v' =>
        obtain ⟨w1, w2, w3⟩ := whole v' i hi hv
        exact absurd ⟨w1, v', by rw [w3]; exact hv⟩ hno
   · rw [if_neg h1, if_neg h1]
     rfl
 have c4 : (k == 4) = false := by simpa using k4
 rw [if_neg (by rw [c4]; simp), if_neg k4]
 have ht := trim_bs t
 have hz : (if (bs t).head? = some 32 then t.extract 1 t.size else t).size ≤ 20000 := by
  split
  · have := ext_sz t 1 t.size; omega
  · exact hs
 have htr := trim_eq n t
 generalize (if (bs t).head? = some 32 then t.extract 1 t.size else t) = u at ht hz htr
 have dom : (k = 1 ∨ k = 2) → RdIs k ((ad_Domain n u).bind fun v14 => (v_must n (v14.2.1 == (0 : Int)) (8 : Int)).bind fun x_10 => onX x_10 (fun p9 => some (Except.error p9)) (fun v15 =>
   (v_May n (k, (v14.1, (false, (((⟨#[]⟩ : BA), ((⟨#[]⟩ : BA), ())), ((0 : Int), ())))))).bind fun v16 => (v_must n v16 (8 : Int)).bind fun x_11 => onX x_11 (fun p10 => some (Except.error p10)) (fun v17 =>
   some (Except.ok (k, (v14.1, (false, (((⟨#[]⟩ : BA), ((⟨#[]⟩ : BA), ())), ((0 : Int), ()))))))))) (okC k (some ((trim1 (bs t)).map low, (false, ([], ([], 0)))))) := fun hk => by
  obtain ⟨q, q1, q2⟩ := Domain_eq n u (by omega) hn
  rw [← ht]
  have hqz : q.size ≤ 20000 := by rw [← bs_len, q1, List.length_map, bs_len]; exact hz
  rw [q2, Option.bind_some, vmust_eq]
  by_cases hd : domR ((bs u).map low) = true
  · rw [if_pos hd]
    have f := fin q (⟨#[]⟩ : BA) (⟨#[]⟩ : BA) false 0 (by omega) (by omega) (by omega)
    rw [q1, e0s] at f
    exact f
  · rw [if_neg hd]
    have hd' : domR ((bs u).map low) = false := by simpa using hd
    have : vL k ((bs u).map low) false [] [] 0 = false := by
     rcases hk with rfl | rfl <;> simp [vL, hd']
    rw [okC_no this]
    rfl
 by_cases k1 : k = 1
 · subst k1
   rw [if_pos (show ((1 : Int) == 1) = true from rfl), if_pos (rfl : (1 : Int) = 1), htr, Option.bind_some]
   exact dom (.inl rfl)
 have c1 : (k == 1) = false := by simpa using k1
 rw [if_neg (by rw [c1]; simp), if_neg k1]
 by_cases k2 : k = 2
 · subst k2
   rw [if_pos (show ((2 : Int) == 2) = true from rfl), if_pos (rfl : (2 : Int) = 2), htr, Option.bind_some]
   exact dom (.inr rfl)
 have c2 : (k == 2) = false := by simpa using k2
 rw [if_neg (by rw [c2]; simp), if_neg k2, vmust_eq, str_eq]
 have e32 : bs (⟨#[32]⟩ : BA) = [32] := rfl
 rw [e32]
 by_cases hsp : bs t = [32]
 · rw [if_pos hsp, decide_eq_true hsp]
   rfl
 · rw [if_neg hsp, decide_eq_false hsp]
   simp only [Bool.not_false, if_true, Option.bind_some, onX, htr]
   have f := fin u (⟨#[]⟩ : BA) (⟨#[]⟩ : BA) false 0 (by omega) (by omega) (by omega)
   rw [ht, e0s] at f
   exact f
open Go Go.RowKit
theorem vmust_f (n : Nat) (e : Int) : v_must n false e = some (.error e) := by rw [vmust_eq]; rfl
theorem vmust_t (n : Nat) (e : Int) : v_must n true e = some (.ok ()) := by rw [vmust_eq]; rfl
def zeroV : Vb := ((0 : Int), ((⟨#[]⟩ : BA), (false, (((⟨#[]⟩ : BA), ((⟨#[]⟩ : BA), ())), ((0 : Int), ())))))
def PV (l : List Int) : Except Int (Int × Cnd) :=
 if vkd (l.take 4) = 0 ∨ (4 < l.length ∧ l[4]? ≠ some 32) then .error 3
 else match okC (vkd (l.take 4)) (cand (vkd (l.take 4)) (l.drop 4)) with
  | none => .error 8
  | some x => .ok (vkd (l.take 4), x)
def Res (e : Option (Vb × Int × Unit)) (p : Except Int (Int × Cnd)) : Prop := match p with
 | .error c => e = some (zeroV, (c, ()))
 | .ok y => ∃ w a b : BA, e = some ((y.1, (w, (y.2.2.1, ((a, (b, ())), (y.2.2.2.2.2, ()))))), (0, ())) ∧ bs w = y.2.1 ∧ bs a = y.2.2.2.1 ∧ bs b = y.2.2.2.2.1
theorem vkd_pos (l : List Int) : vkd l = 0 ∨ 1 ≤ vkd l ∧ vkd l ≤ 9 ∧ l.length = 4 := by
 have hl : ∀ w : List Int, w.length = 4 → l.map up = w → l.length = 4 := fun w h1 h2 => by rw [← h1, ← h2, List.length_map]
 unfold vkd
 repeat' split
 all_goals first
  | exact .inl rfl
  | (rename_i h; exact .inr ⟨by omega, by omega, hl _ rfl h⟩)
def RdRes (e : Option (Except Int Vb)) (p : Except Int (Int × Cnd)) : Prop := match p with
 | .error c => e = some (.error c)
 | .ok y => ∃ w a b : BA, e = some (.ok (y.1, (w, (y.2.2.1, ((a, (b, ())), (y.2.2.2.2.2, ())))))) ∧ bs w = y.2.1 ∧ bs a = y.2.2.2.1 ∧ bs b = y.2.2.2.2.1
theorem vread_eq (n : Nat) (s : BA) (hs : s.size ≤ 20000) (hn : 10000000 ≤ n) : RdRes (v_read n s) (PV (bs s)) := by
 have hkd := kind_eq n (s.extract (Int.toNat (0 : Int)) (Int.toNat (4 : Int))) (by have := ext_sz s (Int.toNat (0 : Int)) (Int.toNat (4 : Int)); omega) hn
 have hx : bs (s.extract (Int.toNat (0 : Int)) (Int.toNat (4 : Int))) = (bs s).take 4 := bs_ext0 s 4
 rw [hx] at hkd
 have main : vkd ((bs s).take 4) ≠ 0 → RdRes (rdM n (vkd ((bs s).take 4)) (s.extract (Int.toNat (4 : Int)) (Int.toNat (s.size : Int)))) (match okC (vkd ((bs s).take 4)) (cand (vkd ((bs s).take 4)) ((bs s).drop 4)) with
  | none => .error 8
  | some x => .ok (vkd ((bs s).take 4), x)) := fun _ => by
  have h := rdM_eq n (vkd ((bs s).take 4)) (s.extract (Int.toNat (4 : Int)) (Int.toNat (s.size : Int))) (by have := ext_sz s (Int.toNat (4 : Int)) (Int.toNat (s.size : Int)); omega) hn
  have hx : bs (s.extract (Int.toNat (4 : Int)) (Int.toNat (s.size : Int))) = (bs s).drop 4 := bs_ext1 s 4
  rw [hx] at h
  cases hc : okC (vkd ((bs s).take 4)) (cand (vkd ((bs s).take 4)) ((bs s).drop 4)) with
  | none => rw [hc] at h; exact h
  | some x => rw [hc] at h; exact h
 generalize hk : vkd ((bs s).take 4) = q at hkd main
 unfold PV
 rw [hk]
 unfold v_read v_read_B
 by_cases h4 : 4 ≤ s.size
 · have c1 : decide ((s.size : Int) ≥ (4 : Int)) = true := decide_eq_true (by omega)
   have c2 : 0 ≤ (4 : Int) ∧ (4 : Int) ≤ (s.size : Int) := ⟨by omega, by omega⟩
   rw [if_pos c1, if_pos c2, hkd, Option.bind_some]
   rcases vkd_pos ((bs s).take 4) with h0 | ⟨h1, h2, _⟩
   · rw [hk] at h0
     subst h0
     rw [if_neg (by simp), vmust_f, Option.bind_some, if_pos (Or.inl rfl)]
     rfl
   · rw [hk] at h1 h2
     have hq : decide (q > (0 : Int)) = true := decide_eq_true (by omega)
     rw [if_pos hq]
     by_cases h5 : s.size = 4
     · have c5 : ¬ ((s.size : Int) == (4 : Int)) = false := by rw [h5]; decide
       have np : ¬ (q = 0 ∨ (4 < (bs s).length ∧ (bs s)[4]? ≠ some 32)) := by rw [bs_len]; omega
       rw [if_neg np, if_neg c5, vmust_t, Option.bind_some]
       simp only [onX]
       rw [if_pos c2, Option.bind_some, if_pos c2]
       exact main (by omega)
     · have c5 : ((s.size : Int) == (4 : Int)) = false := by simp only [beq_eq_false_iff_ne]; omega
       have c6 : 0 ≤ (4 : Int) ∧ (4 : Int) < (s.size : Int) := ⟨by omega, by omega⟩
       have hlt : 4 < (bs s).length := by rw [bs_len]; omega
       obtain ⟨c, hc⟩ : ∃ c, (bs s)[4]? = some c := ⟨(bs s)[4], by simp [hlt]⟩
       have hb : bt s (4 : Int) = c := bt_at (k := 4) hc
       rw [if_pos c5, if_pos c6, vmust_eq, hb, Option.bind_some, hc]
       by_cases h32 : c = 32
       · subst h32
         have np : ¬ (q = 0 ∨ (4 < (bs s).length ∧ (some 32 : Option Int) ≠ some 32)) := fun hh => hh.elim (fun h => by omega) (fun h => h.2 rfl)
         rw [if_neg np, if_pos (show ((32 : Int) == 32) = true from rfl)]
         simp only [onX]
         rw [if_pos c2, Option.bind_some, if_pos c2]
         exact main (by omega)
       · have e : ¬ (c == (32 : Int)) = true := by simpa using h32
         have np : q = 0 ∨ (4 < (bs s).length ∧ some c ≠ some 32) := .inr ⟨hlt, by simpa using h32⟩
         rw [if_neg e, if_pos np]
         rfl
 · have c1 : ¬ decide ((s.size : Int) ≥ (4 : Int)) = true := by simp; omega
   have h0 : q = 0 := by
    rcases vkd_pos ((bs s).take 4) with h0 | ⟨_, _, h2⟩
    · rw [hk] at h0; exact h0
    · rw [List.length_take, bs_len] at h2; omega
   rw [if_neg c1, vmust_f, Option.bind_some, if_pos (Or.inl h0)]
   rfl
theorem vParse_eq (n : Nat) (s : BA) (hs : s.size ≤ 20000) (hn : 10000000 ≤ n) : Res (v_Parse n s) (PV (bs s)) := by
 have h := vread_eq n s hs hn
 unfold v_Parse v_Parse_B
 cases hp : PV (bs s) with
 | error c => rw [hp] at h; simp only [RdRes] at h; rw [h]; rfl
 | ok y =>
  rw [hp] at h
  obtain ⟨w, a, b, h1, h2, h3, h4⟩ := h
  rw [h1]
  exact ⟨w, a, b, rfl, h2, h3, h4⟩
open Go Go.RowKit
abbrev zs : BA := (⟨#[]⟩ : BA)
open Go Go.RowKit
open Go Go.RowKit
open Go Go.RowKit
theorem num5_eq (n : Nat) (e : Int) : w5_num n e = some e := rfl
theorem wakes5_eq (n : Nat) (hn : 10000000 ≤ n) : w5_wakes n = some true := by
 have h := vParse_eq n (⟨#[109, 97, 105, 108, 32, 102, 114, 111, 109, 58, 60, 62, 32, 115, 105, 122, 101, 61, 49, 48]⟩ : BA) (by decide) hn
 have e : PV (bs (⟨#[109, 97, 105, 108, 32, 102, 114, 111, 109, 58, 60, 62, 32, 115, 105, 122, 101, 61, 49, 48]⟩ : BA)) = .ok (3, ([], (true, ([], ([], 10))))) := by kernel_rfl
 rw [e] at h
 obtain ⟨w, a, b, h1, h2, h3, h4⟩ := h
 unfold w5_wakes w5_wakes_B
 rw [h1]
 simp only [Option.bind_some, num5_eq, str_eq, e0s, h2, h3, h4]
 decide
abbrev Ask5 := Vb × (BA × (Int × Unit))
abbrev tVb : CTy := .pair (.int .i64) (.pair .str (.pair .bool (.pair (.pair .str (.pair .str .unit)) (.pair (.int .i64) .unit))))
abbrev tAsk5 : CTy := .pair tVb (.pair .str (.pair (.int .i64) .unit))
theorem heavy5_eq (n : Nat) (k : Int) (w : BA) (nl : Bool) (a b : BA) (z : Int) (s : BA) (N : Int) (h1 : w.size ≤ reachBytes) (h2 : a.size ≤ reachBytes) (h3 : b.size ≤ reachBytes) :
  w5_heavy n ((k, (w, (nl, ((a, (b, ())), (z, ()))))), (s, (N, ()))) = some (decide (w.size + a.size + b.size > 2000) || decide (s.size > 2000)) := by
 have hr : reachBytes < 140737488355328 := by decide
 unfold w5_heavy w5_heavy_B
 simp only
 rw [wr (x := (w.size : Int) + (a.size : Int)) (by omega) (by omega), wr (by omega) (by omega)]
 by_cases g : w.size + a.size + b.size > 2000
 · have : ((w.size : Int) + (a.size : Int) + (b.size : Int)) > 2000 := by omega
   simp [g, this]
 · have : ¬ ((w.size : Int) + (a.size : Int) + (b.size : Int)) > 2000 := by omega
   have e : decide ((s.size : Int) > 2000) = decide (s.size > 2000) := by rw [decide_eq_decide]; omega
   simp only [this, g, decide_false, e]
   simp
theorem ask5_fit {l : Sq Ask5} (h : Fit reachBytes (.sl tAsk5) l) (i : Nat) (hi : i < l.n) : (l.at' i).1.2.1.size ≤ reachBytes ∧ (l.at' i).1.2.2.2.1.1.size ≤ reachBytes ∧ (l.at' i).1.2.2.2.1.2.1.size ≤ reachBytes ∧ (l.at' i).2.1.size ≤ reachBytes := by
 have := h.2 i hi
 exact ⟨this.1.2.1, this.1.2.2.2.1.1, this.1.2.2.2.1.2.1, this.2.1⟩
/-! VerbParses. -/
/-! VerbTexts. -/
theorem text_same (n : Nat) (k : Int) (w a b : BA) (nl : Bool) (z : Int) (hw : w.size ≤ 1000000) (ha : a.size ≤ 100000) (hb : b.size ≤ 100000) (hn : 10000000 ≤ n) (hv : vL k (bs w) nl (bs a) (bs b) z = true) :
  ∃ t, v_Text n (k, (w, (nl, ((a, (b, ())), (z, ()))))) = some (t, (0, ())) ∧ r4_VerbText n (k, (w, (nl, ((a, (b, ())), (z, ()))))) = some t ∧ bs t = tL k (bs w) nl (bs a) (bs b) z := by
 obtain ⟨t, h1, h2⟩ := vText_eq n k w a b nl z hw ha hb hn hv
 obtain ⟨t', h3, h4⟩ := rText_eq n k w a b nl z hw ha hb hn hv
 have : t' = t := bs_inj (h4.trans h2.symm)
 subst this
 exact ⟨t', h1, h3, h2⟩
open Go Go.RowKit
/-! Digits of a number. -/
theorem decI_all : ∀ (N u : Nat), u ≤ N → (decI u).all dig = true
 | N, u, h => by
  by_cases g : u < 10
  · rw [decI_lt g]; simp [dig]; omega
  · have h10 : u % 10 < 10 := Nat.mod_lt _ (by omega)
    rw [decI_ge g, List.all_append]
    cases N with
    | zero => omega
    | succ N =>
     rw [decI_all N (u / 10) (by omega)]
     simp [dig]; omega
theorem valD_app : ∀ (l : List Int) (v d : Int), valD v (l ++ [d]) = 10 * valD v l + (d - 48)
 | [], v, d => rfl
 | c :: r, v, d => by simp only [List.cons_append, valD]; exact valD_app r _ d
theorem decI_val : ∀ (N u : Nat), u ≤ N → valD 0 (decI u) = (u : Int)
 | N, u, h => by
  by_cases g : u < 10
  · rw [decI_lt g]
    show 10 * 0 + (48 + (u : Int) - 48) = (u : Int)
    omega
  · have h10 : u % 10 < 10 := Nat.mod_lt _ (by omega)
    rw [decI_ge g, valD_app]
    cases N with
    | zero => omega
    | succ N =>
     rw [decI_val N (u / 10) (by omega)]
     omega
theorem decI_len10 : ∀ (d u : Nat), u < 10 ^ (d + 1) → (decI u).length ≤ d + 1 ∧ 1 ≤ (decI u).length
 | d, u, h => by
  by_cases g : u < 10
  · rw [decI_lt g]; simp
  · rw [decI_ge g, List.length_append]
    cases d with
    | zero => simp at h; omega
    | succ d =>
     have hlt : u / 10 < 10 ^ (d + 1) := by rw [Nat.pow_succ] at h; omega
     have := decI_len10 d (u / 10) hlt
     simp only [List.length_singleton]
     omega
theorem decI_cut : ∀ (N u : Nat), u ≤ N → ∀ j, 1 ≤ j → j < (decI u).length → valD 0 ((decI u).take j) < (u : Int)
 | N, u, h, j, h1, h2 => by
  by_cases g : u < 10
  · rw [decI_lt g] at h2; simp at h2; omega
  · have hlen : (decI u).length = (decI (u / 10)).length + 1 := by rw [decI_ge g, List.length_append]; rfl
    rw [decI_ge g, List.take_append_of_le_length (by omega)]
    cases N with
    | zero => omega
    | succ N =>
     by_cases hj : j < (decI (u / 10)).length
     · have := decI_cut N (u / 10) (by omega) j h1 hj
       omega
     · rw [List.take_of_length_le (by omega), decI_val (u / 10) (u / 10) (Nat.le_refl _)]
       omega
theorem sizeP_szL {z : Int} (h0 : -1 ≤ z) (h1 : z ≤ 1073741824) : sizeP (szL z) = some z := by
 rw [sizeP_W]
 unfold szL
 by_cases g : 0 ≤ z
 · rw [if_pos g]
   have hl := decI_len10 9 z.toNat (by omega)
   have ha := decI_all _ z.toNat (Nat.le_refl _)
   have hv := decI_val _ z.toNat (Nat.le_refl _)
   have hz : ((z.toNat : Nat) : Int) = z := by omega
   rw [hz] at hv
   have hd : ([32, 83, 73, 90, 69, 61] ++ decI z.toNat : List Int).drop 6 = decI z.toNat := rfl
   have ht : ([32, 83, 73, 90, 69, 61] ++ decI z.toNat : List Int).take 6 = [32, 83, 73, 90, 69, 61] := rfl
   rw [if_neg (by simp), hd, ht, if_pos ⟨by decide, by
    unfold sizeW
    rw [ha, hv, decide_eq_true hl.2, decide_eq_true hl.1, decide_eq_true h1]
    rfl⟩, hv]
 · rw [if_neg g, if_pos rfl]
   have : z = -1 := by omega
   rw [this]
theorem sizeP_cut {z : Int} (h0 : -1 ≤ z) (h1 : z ≤ 1073741824) {j : Nat} (hj : j < (szL z).length) : sizeP ((szL z).take j) ≠ some z := by
 intro h
 by_cases g : 0 ≤ z
 · rw [sizeP_W] at h
   by_cases hn : (szL z).take j = []
   · rw [if_pos hn] at h
     have := Option.some.inj h
     omega
   · rw [if_neg hn] at h
     split at h
     · rename_i hc
       have hW := hc.2
       have e : ((szL z).take j).drop 6 = (decI z.toNat).take (j - 6) := by
        unfold szL
        rw [if_pos g, List.drop_take]
        rfl
       rw [e] at hW h
       have hlen : (szL z).length = 6 + (decI z.toNat).length := by unfold szL; rw [if_pos g, List.length_append]; rfl
       have h1' : 1 ≤ j - 6 := by
        unfold sizeW at hW
        simp only [Bool.and_eq_true, decide_eq_true_eq] at hW
        have := hW.1.1.1
        rw [List.length_take] at this
        omega
       have := decI_cut _ z.toNat (Nat.le_refl _) (j - 6) h1' (by omega)
       rw [Option.some.inj h] at this
       omega
     · cases h
 · have : szL z = [] := by unfold szL; rw [if_neg g]
   rw [this] at hj
   simp at hj
/-! Names in any letters. -/
theorem up_32 {c : Int} (h : up c = 32) : c = 32 := by
 unfold up at h
 split at h <;> omega
theorem nmL_kd {k : Int} (hk : 1 ≤ k ∧ k ≤ 9) {p : List Int} (h : p.map up = nmL k) : vkd p = k := by
 have : k = 1 ∨ k = 2 ∨ k = 3 ∨ k = 4 ∨ k = 5 ∨ k = 6 ∨ k = 7 ∨ k = 8 ∨ k = 9 := by omega
 unfold vkd
 rw [h]
 rcases this with rfl | rfl | rfl | rfl | rfl | rfl | rfl | rfl | rfl <;> rfl
theorem nmL_len4 (k : Int) : (nmL k).length = 4 := by
 unfold nmL
 repeat' split
 all_goals rfl
theorem map_len4 {k : Int} {p : List Int} (h : p.map up = nmL k) : p.length = 4 := by
 rw [← List.length_map (f := up), h, nmL_len4]
theorem PV_app {k : Int} (hk : 1 ≤ k ∧ k ≤ 9) {p r : List Int} (hp : p.map up = nmL k) (hr : r = [] ∨ r.head? = some 32) : PV (p ++ r) = match okC k (cand k r) with
  | none => .error 8
  | some x => .ok (k, x) := by
 have h4 := map_len4 hp
 unfold PV
 have e1 : (p ++ r).take 4 = p := by rw [← h4]; exact List.take_left' rfl
 have e2 : (p ++ r).drop 4 = r := by rw [← h4]; exact List.drop_left' rfl
 rw [e1, e2, nmL_kd hk hp]
 have np : ¬ (k = 0 ∨ (4 < (p ++ r).length ∧ (p ++ r)[4]? ≠ some 32)) := by
  rintro (h | ⟨h1, h2⟩)
  · omega
  · rcases hr with rfl | hr
    · rw [List.append_nil] at h1; omega
    · apply h2
      rw [List.getElem?_append_right (by omega), h4]
      rw [List.head?_eq_getElem?] at hr
      exact hr
 rw [if_neg np]
 try (cases okC k (cand k r) <;> rfl)
theorem nmL_lenB (k : Int) : (nmL k).length = 4 := by
 unfold nmL
 repeat' split
 all_goals rfl
theorem tL_lenB {k : Int} {w : List Int} {nl : Bool} {a b : List Int} {z : Int} (hv : vL k w nl a b z = true) : 4 ≤ (tL k w nl a b z).length ∧ (tL k w nl a b z).length ≤ w.length + a.length + b.length + 60 := by
 have h4 := nmL_lenB k
 unfold tL
 by_cases k3 : k = 3
 · subst k3
   have hz := vL_size hv
   have hs : (szL z).length ≤ 30 := by
    unfold szL
    split
    · have := decI_len (u := z.toNat) (by omega)
      rw [List.length_append]
      show 6 + _ ≤ _
      omega
    · simp
   rw [if_pos rfl]
   cases nl
   · simp [h4]; omega
   · simp [h4]; omega
 · rw [if_neg k3]
   split
   · simp [h4]; omega
   · split
     · omega
     · simp [h4]; omega
/-! Paths. -/
theorem inner_wrap (x : List Int) : inner (60 :: (x ++ [62])) = x := by
 unfold inner
 simp
theorem pth_box {a b : List Int} (h : (locR a && domR b) = true) : pthL (60 :: ((a ++ 64 :: b) ++ [62])) = some (false, a, b) := by
 unfold pthL
 have hne : ¬ (60 :: ((a ++ 64 :: b) ++ [62]) = [60, 62]) := by
  intro e
  have := congrArg List.length e
  simp at this
  omega
 rw [if_neg hne, if_pos ⟨by simp; omega, rfl, by rw [← List.cons_append]; exact List.getLast?_concat⟩, inner_wrap, par_same, (par_may a b).2 h]
 rfl
theorem cand3_R {q R : List Int} (hq : q.map up = [32, 70, 82, 79, 77, 58]) (hR : R.head? ≠ some 32) : cand 3 (q ++ R) = mailC R := by
 have h6 : q.length = 6 := by rw [← List.length_map (f := up), hq]; rfl
 have e1 : (q ++ R).take 6 = q := by rw [← h6]; exact List.take_left' rfl
 have e2 : (q ++ R).drop 6 = R := by rw [← h6]; exact List.drop_left' rfl
 unfold cand
 rw [if_pos rfl, e1, e2, if_pos hq]
 unfold trim1
 rw [if_neg hR]
theorem cand4_R {q R : List Int} (hq : q.map up = [32, 84, 79, 58]) (hR : R.head? ≠ some 32) : cand 4 (q ++ R) = (pthL R).map fun v => ([], (v.1, (v.2.1, (v.2.2, 0)))) := by
 have h6 : q.length = 4 := by rw [← List.length_map (f := up), hq]; rfl
 have e1 : (q ++ R).take 4 = q := by rw [← h6]; exact List.take_left' rfl
 have e2 : (q ++ R).drop 4 = R := by rw [← h6]; exact List.drop_left' rfl
 unfold cand
 rw [if_neg (by decide), if_pos rfl, e1, e2, if_pos hq]
 unfold trim1
 rw [if_neg hR]
theorem mail_R {t : List Int} {v : Bool × List Int × List Int} (ht : pthL t = some v) {z : Int} (h0 : -1 ≤ z) (h1 : z ≤ 1073741824) : mailC (t ++ szL z) = some ([], (v.1, (v.2.1, (v.2.2, z)))) := by
 have hp := (pth_end ht (szL z)).1
 unfold mailC
 rw [hp, List.take_left' rfl, List.drop_left' rfl, ht, sizeP_szL h0 h1]
theorem mail_cut {t : List Int} {v : Bool × List Int × List Int} (ht : pthL t = some v) {z : Int} (h0 : -1 ≤ z) (h1 : z ≤ 1073741824) {j : Nat} (hj : j < (t ++ szL z).length) (w : Cnd) (hw : w.2.2.2.2 = z) : mailC ((t ++ szL z).take j) ≠ some w := by
 intro h
 unfold mailC at h
 have hp := (pth_end ht (szL z)).1
 cases q1 : pthL (((t ++ szL z).take j).take (pe 0 ((t ++ szL z).take j))) with
 | none => rw [q1] at h; cases h
 | some v' =>
  cases q2 : sizeP (((t ++ szL z).take j).drop (pe 0 ((t ++ szL z).take j))) with
  | none => rw [q1, q2] at h; cases h
  | some z' =>
   rw [q1, q2] at h
   have hz : z' = z := by rw [← hw, ← Option.some.inj h]
   subst hz
   have hle := pe_le ((t ++ szL z').take j) 0
   generalize pe 0 ((t ++ szL z').take j) = m at q1 q2 hle
   rw [List.length_take] at hle
   have e1 : ((t ++ szL z').take j).take m = (t ++ szL z').take m := by rw [List.take_take]; congr 1; omega
   rw [e1] at q1
   have hp2 := (pth_end q1 ((t ++ szL z').drop m)).1
   rw [List.take_append_drop, hp, List.length_take] at hp2
   have hm : m = t.length := by omega
   subst hm
   have e2 : ((t ++ szL z').take j).drop t.length = (szL z').take (j - t.length) := by
    rw [List.drop_take, List.drop_left' rfl]
   rw [e2] at q2
   rw [List.length_append] at hj
   exact sizeP_cut h0 h1 (j := j - t.length) (by omega) q2
theorem rcpt_cut {t : List Int} {v : Bool × List Int × List Int} (ht : pthL t = some v) {j : Nat} (hj : j < t.length) : pthL (t.take j) = none := by
 cases h : pthL (t.take j) with
 | none => rfl
 | some v' =>
  have h1 := (pth_end h (t.drop j)).1
  have h2 := (pth_end ht []).1
  rw [List.append_nil] at h2
  rw [List.take_append_drop, h2, List.length_take] at h1
  omega
/-! The text, its first letters in any form. -/
theorem okC_id {k : Int} {x : Cnd} (h : vL k x.1 x.2.1 x.2.2.1 x.2.2.2.1 x.2.2.2.2 = true) : okC k (some x) = some x := by simp [okC, h]
theorem okC_ne {k : Int} {c : Option Cnd} {x : Cnd} (h : c ≠ some x) : okC k c ≠ some x := by
 cases c with
 | none => intro e; cases e
 | some y =>
  simp only [okC, Option.bind_some]
  split
  · exact h
  · intro e; cases e
theorem vL_w3 {w : List Int} {nl : Bool} {a b : List Int} {z : Int} (h : vL 3 w nl a b z = true) : w = [] ∧ (if nl = true then a = [] ∧ b = [] else (locR a && domR b) = true) ∧ -1 ≤ z ∧ z ≤ 1073741824 := by
 unfold vL at h
 rw [if_neg (by decide), if_neg (by decide), if_pos rfl] at h
 simp only [Bool.and_eq_true, decide_eq_true_eq] at h
 refine ⟨h.1, ?_, h.2.2.1, h.2.2.2⟩
 cases nl
 · have := h.2.1
   rw [if_neg (by simp)] at this ⊢
   exact this
 · have := h.2.1
   rw [if_pos rfl] at this ⊢
   simpa using this
theorem vL_w4 {w : List Int} {nl : Bool} {a b : List Int} {z : Int} (h : vL 4 w nl a b z = true) : w = [] ∧ nl = false ∧ (locR a && domR b) = true ∧ z = 0 := by
 unfold vL at h
 rw [if_neg (by decide), if_neg (by decide), if_neg (by decide), if_pos rfl] at h
 simp only [Bool.and_eq_true, decide_eq_true_eq, Bool.not_eq_true'] at h
 exact ⟨h.1.1, h.1.2.2, by simp [h.2.1, h.2.2], h.1.2.1⟩
theorem vL_wo {k : Int} {w : List Int} {nl : Bool} {a b : List Int} {z : Int} (h : vL k w nl a b z = true) (h3 : k ≠ 3) (h4 : k ≠ 4) : nl = false ∧ a = [] ∧ b = [] ∧ z = 0 := by
 have hk := vL_kind h
 have : k = 1 ∨ k = 2 ∨ k = 5 ∨ k = 6 ∨ k = 7 ∨ k = 8 ∨ k = 9 := by omega
 rcases this with rfl | rfl | rfl | rfl | rfl | rfl | rfl <;> (simp [vL] at h; simp [h])
theorem vL_dom {k : Int} {w : List Int} {nl : Bool} {a b : List Int} {z : Int} (h : vL k w nl a b z = true) (hk : k = 1 ∨ k = 2) : domR w = true := by
 rcases hk with rfl | rfl <;> (simp [vL] at h; simp [h])
def bxL (nl : Bool) (a b : List Int) : List Int := 60 :: ((if nl = true then [] else a ++ 64 :: b) ++ [62])
theorem bx_pth {nl : Bool} {a b : List Int} (h : if nl = true then a = [] ∧ b = [] else (locR a && domR b) = true) : pthL (bxL nl a b) = some (nl, a, b) := by
 cases nl
 · rw [if_neg (by simp)] at h
   exact pth_box h
 · rw [if_pos rfl] at h
   rw [h.1, h.2]
   rfl
def bhL (k : Int) (q : List Int) (w : List Int) (nl : Bool) (a b : List Int) (z : Int) : List Int :=
 if k = 3 then q ++ (bxL nl a b ++ szL z) else if k = 4 then q ++ bxL false a b else if w = [] then [] else 32 :: w
def ldL (k : Int) : List Int := if k = 3 then [32, 70, 82, 79, 77, 58] else if k = 4 then [32, 84, 79, 58] else []
theorem bh_head {k : Int} {q : List Int} (hq : q.map up = ldL k) (w : List Int) (nl : Bool) (a b : List Int) (z : Int) : bhL k q w nl a b z = [] ∨ (bhL k q w nl a b z).head? = some 32 := by
 unfold bhL
 unfold ldL at hq
 by_cases k3 : k = 3
 · rw [if_pos k3] at hq ⊢
   right
   cases q with
   | nil => cases hq
   | cons c r =>
    simp only [List.map_cons, List.cons.injEq] at hq
    rw [up_32 hq.1]; rfl
 · rw [if_neg k3] at hq ⊢
   by_cases k4 : k = 4
   · rw [if_pos k4] at hq ⊢
     right
     cases q with
     | nil => cases hq
     | cons c r =>
      simp only [List.map_cons, List.cons.injEq] at hq
      rw [up_32 hq.1]; rfl
   · rw [if_neg k4]
     split
     · exact .inl rfl
     · exact .inr rfl
theorem tL_bh (k : Int) (w : List Int) (nl : Bool) (a b : List Int) (z : Int) (h : k = 4 → nl = false) : tL k w nl a b z = nmL k ++ bhL k (ldL k) w nl a b z := by
 unfold tL bhL ldL bxL
 by_cases k3 : k = 3
 · rw [if_pos k3, if_pos k3, if_pos k3]; simp
 · rw [if_neg k3, if_neg k3, if_neg k3]
   by_cases k4 : k = 4
   · rw [if_pos k4, if_pos k4, if_pos k4]; simp
   · rw [if_neg k4, if_neg k4]
     split <;> simp
theorem cand_bh {k : Int} {q w : List Int} {nl : Bool} {a b : List Int} {z : Int} (hq : q.map up = ldL k) (hv : vL k w nl a b z = true) : cand k (bhL k q w nl a b z) = some (w, (nl, (a, (b, z)))) := by
 by_cases k3 : k = 3
 · subst k3
   obtain ⟨rfl, h1, h2, h3⟩ := vL_w3 hv
   unfold bhL
   rw [if_pos rfl, cand3_R (by simpa [ldL] using hq) (by simp [bxL]), mail_R (bx_pth h1) h2 h3]
 · by_cases k4 : k = 4
   · subst k4
     obtain ⟨rfl, rfl, h1, rfl⟩ := vL_w4 hv
     unfold bhL
     rw [if_neg (by decide), if_pos rfl, cand4_R (by simpa [ldL] using hq) (by simp [bxL]), bx_pth (by rw [if_neg (by simp)]; exact h1)]
     rfl
   · obtain ⟨rfl, rfl, rfl, rfl⟩ := vL_wo hv k3 k4
     unfold bhL cand
     rw [if_neg k3, if_neg k4, if_neg k3, if_neg k4]
     by_cases hd : k = 1 ∨ k = 2
     · have hD := vL_dom hv hd
       have hne : w ≠ [] := fun e => by rw [e] at hD; revert hD; decide
       rw [if_neg hne]
       have ht : (trim1 (32 :: w)).map low = w := domR_low hD
       rcases hd with rfl | rfl
       · rw [if_pos rfl, ht]
       · rw [if_neg (by decide), if_pos rfl, ht]
     · rw [if_neg (by omega), if_neg (by omega)]
       by_cases hw : w = []
       · rw [if_pos hw, if_neg (by simp), hw]; rfl
       · rw [if_neg hw, if_neg (by simpa using hw)]; rfl
theorem PV_text {k : Int} {p q w : List Int} {nl : Bool} {a b : List Int} {z : Int} (hp : p.map up = nmL k) (hq : q.map up = ldL k) (hv : vL k w nl a b z = true) : PV (p ++ bhL k q w nl a b z) = .ok (k, (w, (nl, (a, (b, z))))) := by
 have hk := vL_kind hv
 rw [PV_app (by omega) hp (bh_head hq w nl a b z), cand_bh hq hv, okC_id hv]
theorem PV_cut {k : Int} {w : List Int} {nl : Bool} {a b : List Int} {z : Int} (hv : vL k w nl a b z = true) {j : Nat} (hj : j < (tL k w nl a b z).length) : PV ((tL k w nl a b z).take j) ≠ .ok (k, (w, (nl, (a, (b, z))))) := by
 have hk := vL_kind hv
 have hnl : k = 4 → nl = false := fun e => by subst e; exact (vL_w4 hv).2.1
 have h4 : (nmL k).length = 4 := nmL_len4 k
 rw [tL_bh k w nl a b z hnl] at hj ⊢
 rw [List.length_append, h4] at hj
 have hm : (nmL k).map up = nmL k := by
  have : k = 1 ∨ k = 2 ∨ k = 3 ∨ k = 4 ∨ k = 5 ∨ k = 6 ∨ k = 7 ∨ k = 8 ∨ k = 9 := by omega
  rcases this with rfl | rfl | rfl | rfl | rfl | rfl | rfl | rfl | rfl <;> rfl
 have hl : (ldL k).map up = ldL k := by
  unfold ldL
  split
  · rfl
  · split <;> rfl
 by_cases j4 : j < 4
 · intro h
   unfold PV at h
   have : vkd (((nmL k ++ bhL k (ldL k) w nl a b z).take j).take 4) = 0 := by
    rcases vkd_pos (((nmL k ++ bhL k (ldL k) w nl a b z).take j).take 4) with h0 | ⟨_, _, h2⟩
    · exact h0
    · rw [List.length_take, List.length_take] at h2; omega
   rw [if_pos (.inl this)] at h
   cases h
 · have et : (nmL k ++ bhL k (ldL k) w nl a b z).take j = nmL k ++ (bhL k (ldL k) w nl a b z).take (j - 4) := by
    rw [List.take_append, h4, List.take_of_length_le (by omega)]
   have hh := bh_head hl w nl a b z
   have hh' : (bhL k (ldL k) w nl a b z).take (j - 4) = [] ∨ ((bhL k (ldL k) w nl a b z).take (j - 4)).head? = some 32 := by
    rcases hh with h | h
    · left; rw [h]; simp
    · by_cases e : j - 4 = 0
      · left; rw [e]; rfl
      · right; rw [List.head?_take, if_neg e]; exact h
   rw [et, PV_app (by omega) hm hh']
   have key : cand k ((bhL k (ldL k) w nl a b z).take (j - 4)) ≠ some (w, (nl, (a, (b, z)))) := by
    have hj' : j - 4 < (bhL k (ldL k) w nl a b z).length := by omega
    generalize j - 4 = i at hj'
    by_cases k3 : k = 3
    · subst k3
      obtain ⟨rfl, h1, h2, h3⟩ := vL_w3 hv
      unfold bhL at hj' ⊢
      rw [if_pos rfl] at hj' ⊢
      have l6 : (ldL 3).length = 6 := rfl
      rw [List.length_append, l6] at hj'
      by_cases i6 : i < 6
      · intro h
        unfold cand at h
        rw [if_pos rfl] at h
        rw [if_neg (fun e => by
         have := congrArg List.length e
         rw [List.length_map, List.length_take, List.length_take] at this
         simp at this; omega)] at h
        cases h
      · have e : (ldL 3 ++ (bxL nl a b ++ szL z)).take i = ldL 3 ++ (bxL nl a b ++ szL z).take (i - 6) := by
         rw [List.take_append, l6, List.take_of_length_le (by omega)]
        rw [e, cand3_R rfl (by
         intro hh
         have : ((bxL nl a b ++ szL z).take (i - 6)).head? = some 60 ∨ ((bxL nl a b ++ szL z).take (i - 6)).head? = none := by
          by_cases e0 : i - 6 = 0
          · right; rw [e0]; rfl
          · left; rw [List.head?_take, if_neg e0]; rfl
         rcases this with h | h <;> (rw [h] at hh; cases hh))]
        exact mail_cut (bx_pth h1) h2 h3 (by omega) _ rfl
    · by_cases k4 : k = 4
      · subst k4
        obtain ⟨rfl, rfl, h1, rfl⟩ := vL_w4 hv
        unfold bhL at hj' ⊢
        rw [if_neg (by decide), if_pos rfl] at hj' ⊢
        have l4 : (ldL 4).length = 4 := rfl
        rw [List.length_append, l4] at hj'
        by_cases i4 : i < 4
        · intro h
          unfold cand at h
          rw [if_neg (by decide), if_pos rfl] at h
          rw [if_neg (fun e => by
           have := congrArg List.length e
           rw [List.length_map, List.length_take, List.length_take] at this
           simp at this; omega)] at h
          cases h
        · have e : (ldL 4 ++ bxL false a b).take i = ldL 4 ++ (bxL false a b).take (i - 4) := by
           rw [List.take_append, l4, List.take_of_length_le (by omega)]
          rw [e, cand4_R rfl (by
           intro hh
           have : ((bxL false a b).take (i - 4)).head? = some 60 ∨ ((bxL false a b).take (i - 4)).head? = none := by
            by_cases e0 : i - 4 = 0
            · right; rw [e0]; rfl
            · left; rw [List.head?_take, if_neg e0]; rfl
           rcases this with h | h <;> (rw [h] at hh; cases hh)), rcpt_cut (bx_pth (by rw [if_neg (by simp)]; exact h1)) (by omega)]
          intro h; cases h
      · obtain ⟨rfl, rfl, rfl, rfl⟩ := vL_wo hv k3 k4
        unfold bhL at hj' ⊢
        rw [if_neg k3, if_neg k4] at hj' ⊢
        by_cases hw : w = []
        · rw [if_pos hw] at hj'; simp at hj'
        · rw [if_neg hw] at hj' ⊢
          have hlen : (trim1 ((32 :: w).take i)).length < w.length := by
           cases i with
           | zero => show 0 < _; exact List.length_pos_iff.2 hw
           | succ i =>
            show (w.take i).length < _
            rw [List.length_take]
            simp at hj'; omega
          intro h
          unfold cand at h
          rw [if_neg k3, if_neg k4] at h
          split at h
          · have := congrArg (fun o => (o.map fun x : Cnd => x.1.length)) h
            simp at this; omega
          · split at h
            · have := congrArg (fun o => (o.map fun x : Cnd => x.1.length)) h
              simp at this; omega
            · split at h
              · cases h
              · have := congrArg (fun o => (o.map fun x : Cnd => x.1.length)) h
                simp at this; omega
   have := okC_ne (k := k) key
   intro h
   cases hc : okC k (cand k ((bhL k (ldL k) w nl a b z).take (j - 4))) with
   | none => rw [hc] at h; cases h
   | some x =>
    rw [hc] at h this
    simp only [Except.ok.injEq, Prod.mk.injEq, true_and] at h
    exact this (by rw [← h])
open Go Go.RowKit
theorem up_cap {c : Int} (h : 65 ≤ c ∧ c ≤ 90) : up (c + 32) = up c := by
 unfold up
 split <;> split <;> omega
theorem turned_L0 (n : Nat) (N : Int) (t : Nat) (ht : t ≤ 1000000) : ∀ (r P : List Int) (m : Nat) (b : Sq Int), sqL id b = P ++ r → b.n = t → (∀ c ∈ P ++ r, 0 ≤ c ∧ c < 256) → r.length < m → P.length ≤ 10 →
  ∃ b' x, w5_turned_L0 n m N P.length b = some (.out b') ∧ sqL id b' = P ++ (x ++ r.drop x.length) ∧ x.map up = (r.take x.length).map up ∧ 60 ∉ r.take x.length ∧ P.length + x.length ≤ 10 ∧ b'.n = t ∧ (∀ c ∈ x, 0 ≤ c ∧ c < 256)
 | [], P, m, b, hb, hbn, hr, hm, hP => by
  obtain ⟨m, rfl⟩ : ∃ q, m = q + 1 := ⟨m - 1, by omega⟩
  have hl := sqL_len id b
  rw [hb, List.append_nil, hbn] at hl
  refine ⟨b, [], ?_, by simpa using hb, rfl, by simp, by simpa using hP, hbn, by simp⟩
  have : ¬ ((P.length : Int) < (b.n : Int)) := by omega
  simp [w5_turned_L0, w5_turned_B0, this]
 | c :: r, P, m, b, hb, hbn, hr, hm, hP => by
  obtain ⟨m, rfl⟩ : ∃ q, m = q + 1 := ⟨m - 1, by omega⟩
  have hl := sqL_len id b
  rw [hb, hbn] at hl
  simp at hl
  have hat : b.at' P.length = c := by
   have h1 := sqL_get (f := id) (q := b) (i := P.length) (by omega)
   rw [hb, List.getElem?_append_right (Nat.le_refl _), Nat.sub_self] at h1
   simpa using h1.symm
  have hc := hr c (by simp)
  have e1 := wr1 (k := P.length) (by omega)
  have a2 : (0 : Int) ≤ (P.length : Int) := by omega
  have a3 : (P.length : Int) < (b.n : Int) := by omega
  have stop : w5_turned_L0 n (m + 1) N P.length b = some (.out b) → ∃ b' x, w5_turned_L0 n (m + 1) N P.length b = some (.out b') ∧ sqL id b' = P ++ (x ++ (c :: r).drop x.length) ∧ x.map up = ((c :: r).take x.length).map up ∧ 60 ∉ (c :: r).take x.length ∧ P.length + x.length ≤ 10 ∧ b'.n = t ∧ (∀ c ∈ x, 0 ≤ c ∧ c < 256) := fun h =>
   ⟨b, [], h, by simpa using hb, rfl, by simp, by simpa using hP, hbn, by simp⟩
  by_cases h10 : (P.length : Int) < 10
  · by_cases h60 : c = 60
    · refine stop ?_
      have e60 : (c == (60 : Int)) = true := by rw [h60]; rfl
      simp only [w5_turned_L0, w5_turned_B0, a2, a3, h10, Int.toNat_natCast, hat, e60, decide_true]
      simp
    · have e60 : (c == (60 : Int)) = false := by simpa using h60
      have go : ∀ (d : Int) (b2 : Sq Int), (0 ≤ d ∧ d < 256) → up d = up c → sqL id b2 = P ++ d :: r → b2.n = t → w5_turned_L0 n (m + 1) N P.length b = w5_turned_L0 n m N ((P.length + 1 : Nat) : Int) b2 →
        ∃ b' x, w5_turned_L0 n (m + 1) N P.length b = some (.out b') ∧ sqL id b' = P ++ (x ++ (c :: r).drop x.length) ∧ x.map up = ((c :: r).take x.length).map up ∧ 60 ∉ (c :: r).take x.length ∧ P.length + x.length ≤ 10 ∧ b'.n = t ∧ (∀ c ∈ x, 0 ≤ c ∧ c < 256) := fun d b2 hd hu h2 hn2 he => by
       obtain ⟨b', x, h1, i2, i3, i4, i5, i6, i7⟩ := turned_L0 n N t ht r (P ++ [d]) m b2 (by rw [h2]; simp) hn2 (fun y hy => by
        simp only [List.append_assoc, List.mem_append, List.mem_cons, List.cons_append, List.nil_append] at hy
        rcases hy with h | h | h
        · exact hr y (by simp [h])
        · rw [h]; exact hd
        · exact hr y (by simp [h])) (by simpa using hm) (by simp; omega)
       refine ⟨b', d :: x, ?_, by rw [i2]; simp, by simp [i3, hu], ?_, by simp at i5 ⊢; omega, i6, fun y hy => ?_⟩
       · rw [he, ← h1]; simp
       · simp only [List.length_cons, List.take_succ_cons, List.mem_cons, not_or]
         exact ⟨fun e => h60 e.symm, i4⟩
       · rcases List.mem_cons.1 hy with h | h
         · rw [h]; exact hd
         · exact i7 y h
      have hmod : Int.tmod ((P.length : Nat) : Int) 60 = ((P.length % 60 : Nat) : Int) := (Int.ofNat_tmod P.length 60).symm
      have hneg : ¬ (Int.tmod ((P.length : Nat) : Int) 60 < 0) := by rw [hmod]; omega
      by_cases h65 : c ≥ 65
      · by_cases h90 : c ≤ 90
        · have w1 := wr8 (x := c + 32) (by omega) (by omega)
          by_cases hbit : ((bits .and .i64 (Int.fdiv N (2 ^ (min (Int.toNat (Int.tmod ((P.length : Nat) : Int) (60 : Int))) (IntKind.bits .i64)))) (1 : Int)) == (1 : Int)) = true
          · refine go (c + 32) (⟨b.n, fun q => if q = P.length ∧ q < b.n then c + 32 else b.at' q⟩ : Sq Int) (by omega) (up_cap ⟨h65, h90⟩) (by rw [sqL_set, hb, List.set_append_right _ _ (Nat.le_refl _), Nat.sub_self]; rfl) hbn ?_
            simp only [w5_turned_L0, w5_turned_B0, a2, a3, h10, Int.toNat_natCast, hat, e60, h65, h90, e1, w1, hneg, hbit, decide_true, and_self, if_true, if_false, Bool.false_eq_true]
          · refine go c b hc rfl hb hbn ?_
            simp only [w5_turned_L0, w5_turned_B0, a2, a3, h10, Int.toNat_natCast, hat, e60, h65, h90, e1, hneg, hbit, decide_true, and_self, if_true, if_false, Bool.false_eq_true]
        · refine go c b hc rfl hb hbn ?_
          simp only [w5_turned_L0, w5_turned_B0, a2, a3, h10, Int.toNat_natCast, hat, e60, h65, h90, e1, decide_true, decide_false, and_self, if_true, if_false, Bool.false_eq_true]
      · refine go c b hc rfl hb hbn ?_
        simp only [w5_turned_L0, w5_turned_B0, a2, a3, h10, Int.toNat_natCast, hat, e60, h65, e1, decide_true, decide_false, and_self, if_true, if_false, Bool.false_eq_true]
  · refine stop ?_
    simp [w5_turned_L0, w5_turned_B0, a3, h10]
theorem turned_eq (n : Nat) (s : BA) (N : Int) (hs : s.size ≤ 1000000) (hn : 10000000 ≤ n) : ∃ t x, w5_turned n s N = some t ∧ bs t = x ++ (bs s).drop x.length ∧ x.map up = ((bs s).take x.length).map up ∧ 60 ∉ (bs s).take x.length ∧ x.length ≤ 10 := by
 obtain ⟨b', x, h1, h2, h3, h4, h5, h6, h7⟩ := turned_L0 n N s.size hs (bs s) [] n (⟨s.size, fun q => bt s q⟩ : Sq Int) (sq_bs s) rfl (fun c hc => bs_rng (by simpa using hc)) (by rw [bs_len]; omega) (by simp)
 refine ⟨strOf b'.n b'.at', x, ?_, ?_, h3, h4, by simpa using h5⟩
 · unfold w5_turned w5_turned_B
   rw [show (([] : List Int).length : Int) = 0 from rfl] at h1
   rw [h1]; rfl
 · rw [bs_strOf fun i hi => ?_]
   · have : sqL id b' = (List.range b'.n).map b'.at' := rfl
     rw [← this, h2]; rfl
   · have := sqL_get (f := id) (q := b') hi
     rw [h2] at this
     have hm := List.mem_of_getElem? this
     simp only [List.nil_append, List.mem_append] at hm
     rcases hm with hm | hm
     · exact h7 _ hm
     · exact bs_rng (List.mem_of_mem_drop hm)
theorem turn_text {k : Int} {w : List Int} {nl : Bool} {a b : List Int} {z : Int} (hv : vL k w nl a b z = true) (hk : k = 3 ∨ k = 4 ∨ w = []) {x : List Int} (h1 : x.map up = ((tL k w nl a b z).take x.length).map up) (h2 : 60 ∉ (tL k w nl a b z).take x.length) (h3 : x.length ≤ 10) :
  PV (x ++ (tL k w nl a b z).drop x.length) = .ok (k, (w, (nl, (a, (b, z))))) := by
 have hkk := vL_kind hv
 have hnl : k = 4 → nl = false := fun e => by subst e; exact (vL_w4 hv).2.1
 have h4 := nmL_len4 k
 have hxl : x.length ≤ (tL k w nl a b z).length := by
  have := congrArg List.length h1
  rw [List.length_map, List.length_map, List.length_take] at this
  omega
 rw [tL_bh k w nl a b z hnl] at h1 h2 hxl ⊢
 -- what is behind the words
 obtain ⟨R, hR, hbh⟩ : ∃ R, bhL k (ldL k) w nl a b z = ldL k ++ R ∧ ∀ q, bhL k q w nl a b z = q ++ R ∨ (bhL k q w nl a b z = [] ∧ R = [] ∧ ldL k = []) := by
  by_cases k3 : k = 3
  · subst k3; exact ⟨bxL nl a b ++ szL z, rfl, fun q => .inl rfl⟩
  · by_cases k4 : k = 4
    · subst k4; exact ⟨bxL false a b, rfl, fun q => .inl rfl⟩
    · have hw : w = [] := hk.elim (fun h => absurd h k3) fun h => h.elim (fun h => absurd h k4) id
      have hl : ldL k = [] := by unfold ldL; rw [if_neg k3, if_neg k4]
      have hb : ∀ q, bhL k q w nl a b z = [] := fun q => by unfold bhL; rw [if_neg k3, if_neg k4, if_pos hw]
      exact ⟨[], by rw [hb, hl]; rfl, fun q => .inr ⟨hb q, rfl, hl⟩⟩
 have hM : x.length ≤ 4 + (ldL k).length := by
  by_cases k3 : k = 3
  · subst k3; show _ ≤ 10; exact h3
  · by_cases k4 : k = 4
    · subst k4
      show _ ≤ 8
      rcases Nat.lt_or_ge 8 x.length with g | g
      · exfalso
        apply h2
        have hb : bhL 4 (ldL 4) w nl a b z = ldL 4 ++ bxL false a b := rfl
        rw [hb]
        have : (nmL 4 ++ (ldL 4 ++ bxL false a b))[8]? = some 60 := rfl
        have := this
        rw [← List.getElem?_take_of_lt g] at this
        exact List.mem_of_getElem? this
      · exact g
    · rcases hbh (ldL k) with h | ⟨h, _, _⟩
      · rw [hR] at hxl
        have hw : w = [] := hk.elim (fun h => absurd h k3) fun h => h.elim (fun h => absurd h k4) id
        have hb : bhL k (ldL k) w nl a b z = [] := by unfold bhL; rw [if_neg k3, if_neg k4, if_pos hw]
        rw [← hR, hb, List.append_nil, h4] at hxl
        omega
      · rw [h, List.append_nil, h4] at hxl; omega
 rw [hR, ← List.append_assoc] at h1 ⊢
 have hml : (nmL k ++ ldL k).map up = nmL k ++ ldL k := by
  have : k = 1 ∨ k = 2 ∨ k = 3 ∨ k = 4 ∨ k = 5 ∨ k = 6 ∨ k = 7 ∨ k = 8 ∨ k = 9 := by omega
  rcases this with rfl | rfl | rfl | rfl | rfl | rfl | rfl | rfl | rfl <;> rfl
 have hMl : (nmL k ++ ldL k).length = 4 + (ldL k).length := by rw [List.length_append, h4]
 generalize hW : nmL k ++ ldL k = W at h1 hml hMl
 rw [List.take_append_of_le_length (by omega)] at h1
 rw [List.drop_append_of_le_length (by omega), ← List.append_assoc]
 have hy : (x ++ W.drop x.length).map up = W := by
  rw [List.map_append, h1, ← List.map_append, List.take_append_drop, hml]
 generalize hY : x ++ W.drop x.length = Y at hy
 have hYl : Y.length = 4 + (ldL k).length := by rw [← List.length_map (f := up), hy, hMl]
 have hp : (Y.take 4).map up = nmL k := by rw [List.map_take, hy, ← hW, ← h4]; exact List.take_left' rfl
 have hq : (Y.drop 4).map up = ldL k := by rw [List.map_drop, hy, ← hW, ← h4]; exact List.drop_left' rfl
 have := PV_text (a := a) (b := b) hp hq hv
 rcases hbh (Y.drop 4) with h | ⟨h, hR0, hl0⟩
 · rw [h, ← List.append_assoc, List.take_append_drop] at this
   exact this
 · rw [h, List.append_nil] at this
   rw [hR0, List.append_nil]
   rw [hl0] at hYl
   rw [List.take_of_length_le (by simp at hYl; omega)] at this
   exact this
theorem PV_err {l : List Int} {c : Int} (h : PV l = .error c) : c = 3 ∨ c = 8 := by
 unfold PV at h
 split at h
 · cases h; exact .inl rfl
 · split at h
   · cases h; exact .inr rfl
   · cases h
theorem parse_ok (n : Nat) (s : BA) (hs : s.size ≤ 20000) (hn : 10000000 ≤ n) {k : Int} {w a b : BA} {nl : Bool} {z : Int} (h : PV (bs s) = .ok (k, (bs w, (nl, (bs a, (bs b, z)))))) :
  v_Parse n s = some ((k, (w, (nl, ((a, (b, ())), (z, ()))))), (0, ())) := by
 have hp := vParse_eq n s hs hn
 rw [h] at hp
 obtain ⟨w', a', b', h1, h2, h3, h4⟩ := hp
 have x1 : w' = w := bs_inj h2
 have x2 : a' = a := bs_inj h3
 have x3 : b' = b := bs_inj h4
 rw [h1, x1, x2, x3]
theorem Back_L1 (n : Nat) (hn : 10000000 ≤ n) (l : Sq Ask5) (i : Nat) (hi : i < l.n) (s : BA) (hs : s.size ≤ 20000) (p : Ask5) (hp : l.at' i = p) (hcut : ∀ j, j < s.size → PV ((bs s).take j) ≠ .ok (p.1.1, (bs p.1.2.1, (p.1.2.2.1, (bs p.1.2.2.2.1.1, (bs p.1.2.2.2.1.2.1, p.1.2.2.2.2.1)))))) :
  ∀ (d k m : Nat), k + d = s.size + 1 → d < m → k ≤ s.size → w5_VerbBack_L1 n m l i s k = some (.out (l, (i : Int)))
 | 0, k, m, h, hm, hk => by omega
 | d + 1, k, m, h, hm, hk => by
  obtain ⟨m, rfl⟩ : ∃ q, m = q + 1 := ⟨m - 1, by omega⟩
  by_cases hlt : k < s.size
  · have ih := Back_L1 n hn l i hi s hs p hp hcut d (k + 1) m (by omega) (by omega) (by omega)
    have c1 : (k : Int) < (s.size : Int) := by omega
    have c2 : 0 ≤ (k : Int) ∧ (k : Int) ≤ (s.size : Int) := ⟨by omega, by omega⟩
    have c3 : 0 ≤ (i : Int) ∧ (i : Int) < (l.n : Int) := ⟨by omega, by omega⟩
    have e1 := wr1 (k := k) (by omega)
    have hx : bs (s.extract (Int.toNat (0 : Int)) (Int.toNat (k : Int))) = (bs s).take k := bs_ext0 s k
    have hP := vParse_eq n (s.extract (Int.toNat (0 : Int)) (Int.toNat (k : Int))) (by have := ext_sz s (Int.toNat (0 : Int)) (Int.toNat (k : Int)); omega) hn
    rw [hx] at hP
    have hc := hcut k hlt
    rw [← ih]
    show w5_VerbBack_B1 n l i s k _ _ _ _ = _
    unfold w5_VerbBack_B1
    rw [if_pos (decide_eq_true c1), if_pos c2]
    cases hv : PV ((bs s).take k) with
    | error c =>
     rw [hv] at hP
     simp only [Res] at hP
     have hc0 : ¬ (c == (0 : Int)) = true := by
      rcases PV_err hv with rfl | rfl <;> decide
     rw [hP, Option.bind_some, num5_eq, Option.bind_some, if_neg hc0, e1]
    | ok y =>
     rw [hv] at hP hc
     obtain ⟨w', a', b', h1, h2, h3, h4⟩ := hP
     rw [h1, Option.bind_some, num5_eq, Option.bind_some, if_pos (show ((0 : Int) == 0) = true from rfl), if_pos c3, Int.toNat_natCast, hp, e1]
     simp only [str_eq, h2, h3, h4]
     refine if_neg fun hh => hc ?_
     simp only [Bool.and_eq_true, beq_iff_eq, decide_eq_true_eq, and_true] at hh
     obtain ⟨g1, g2, g3, ⟨g4, g5⟩, g6⟩ := hh
     rw [← g1, ← g2, ← g3, ← g4, ← g5, ← g6]
  · have c1 : ¬ (k : Int) < (s.size : Int) := by omega
    simp [w5_VerbBack_L1, w5_VerbBack_B1, c1]
theorem VerbBack_L0 (n : Nat) (hn : 10000000 ≤ n) (l : Sq Ask5) (hf : Fit reachBytes (.sl tAsk5) l) : ∀ (d k m : Nat), k + d = 16 → d < m → k ≤ 15 → ∃ x, w5_VerbBack_L0 n m l k = some x ∧ (x = .out () ∨ x = .ret true)
 | 0, k, m, h, hm, hk => by omega
 | d + 1, k, m, h, hm, hk => by
  obtain ⟨m, rfl⟩ : ∃ q, m = q + 1 := ⟨m - 1, by omega⟩
  by_cases g1 : (k : Int) < (l.n : Int)
  · by_cases g2 : (k : Int) < 15
    · have a1 : (0 : Int) ≤ (k : Int) := by omega
      have e1 := wr1 (k := k) (by omega)
      obtain ⟨f1, f2, f3, f4⟩ := ask5_fit hf k (by omega)
      obtain ⟨x, hx, hor⟩ := VerbBack_L0 n hn l hf d (k + 1) m (by omega) (by omega) (by omega)
      generalize hp : l.at' k = p at f1 f2 f3 f4
      have hH := heavy5_eq n p.1.1 p.1.2.1 p.1.2.2.1 p.1.2.2.2.1.1 p.1.2.2.2.1.2.1 p.1.2.2.2.2.1 p.2.1 p.2.2.1 f1 f2 f3
      by_cases g3 : (decide (p.1.2.1.size + p.1.2.2.2.1.1.size + p.1.2.2.2.1.2.1.size > 2000) || decide (p.2.1.size > 2000)) = true
      · refine ⟨.ret true, ?_, .inr rfl⟩
        rw [g3] at hH
        simp only [w5_VerbBack_L0, w5_VerbBack_B0, g1, g2, a1, Int.toNat_natCast, hp, hH, decide_true, Option.bind_some]
        rfl
      · have g3' : (decide (p.1.2.1.size + p.1.2.2.2.1.1.size + p.1.2.2.2.1.2.1.size > 2000) || decide (p.2.1.size > 2000)) = false := by simpa using g3
        rw [g3'] at hH
        simp only [Bool.or_eq_false_iff, decide_eq_false_iff_not] at g3'
        refine ⟨x, ?_, hor⟩
        rw [← hx]
        cases hv : vL p.1.1 (bs p.1.2.1) p.1.2.2.1 (bs p.1.2.2.2.1.1) (bs p.1.2.2.2.1.2.1) p.1.2.2.2.2.1 with
        | true =>
         obtain ⟨t, t1, _, t3⟩ := text_same n p.1.1 p.1.2.1 p.1.2.2.2.1.1 p.1.2.2.2.1.2.1 p.1.2.2.1 p.1.2.2.2.2.1 (by omega) (by omega) (by omega) hn hv
         have hl := tL_lenB hv
         rw [← t3, bs_len, bs_len, bs_len, bs_len] at hl
         have hkk := vL_kind hv
         have hnl : p.1.1 = 4 → p.1.2.2.1 = false := fun e => by rw [e] at hv; exact (vL_w4 hv).2.1
         have hme : PV (bs t) = .ok (p.1.1, (bs p.1.2.1, (p.1.2.2.1, (bs p.1.2.2.2.1.1, (bs p.1.2.2.2.1.2.1, p.1.2.2.2.2.1))))) := by
          rw [t3, tL_bh _ _ _ _ _ _ hnl]
          exact PV_text (by
           have : p.1.1 = 1 ∨ p.1.1 = 2 ∨ p.1.1 = 3 ∨ p.1.1 = 4 ∨ p.1.1 = 5 ∨ p.1.1 = 6 ∨ p.1.1 = 7 ∨ p.1.1 = 8 ∨ p.1.1 = 9 := by omega
           rcases this with h | h | h | h | h | h | h | h | h <;> (rw [h]; rfl)) (by
           unfold ldL
           split
           · rfl
           · split <;> rfl) hv
         have p1 := parse_ok n t (by omega) hn hme
         have hcut : ∀ j, j < t.size → PV ((bs t).take j) ≠ .ok (p.1.1, (bs p.1.2.1, (p.1.2.2.1, (bs p.1.2.2.2.1.1, (bs p.1.2.2.2.1.2.1, p.1.2.2.2.2.1))))) := fun j hj => by
          rw [t3]
          exact PV_cut hv (by rw [← t3, bs_len]; exact hj)
         have q1 := Back_L1 n hn l k (by omega) t (by omega) p hp hcut (t.size + 1) 0 n (by omega) (by omega) (by omega)
         rw [show ((0 : Nat) : Int) = 0 from rfl] at q1
         have turn : (p.1.1 = 3 ∨ p.1.1 = 4 ∨ bs p.1.2.1 = []) → ∃ u, w5_turned n t p.2.2.1 = some u ∧ v_Parse n u = some ((p.1.1, (p.1.2.1, (p.1.2.2.1, ((p.1.2.2.2.1.1, (p.1.2.2.2.1.2.1, ())), (p.1.2.2.2.2.1, ()))))), (0, ())) := fun hk => by
          obtain ⟨u, y, u1, u2, u3, u4, u5⟩ := turned_eq n t p.2.2.1 (by omega) hn
          rw [t3] at u2 u3 u4
          have hyl : y.length ≤ (tL p.1.1 (bs p.1.2.1) p.1.2.2.1 (bs p.1.2.2.2.1.1) (bs p.1.2.2.2.1.2.1) p.1.2.2.2.2.1).length := by
           have := congrArg List.length u3
           rw [List.length_map, List.length_map, List.length_take] at this
           omega
          refine ⟨u, u1, parse_ok n u ?_ hn ?_⟩
          · rw [← bs_len, u2, List.length_append, List.length_drop, ← t3, bs_len]
            rw [← t3, bs_len] at hyl
            omega
          · rw [u2]
            exact turn_text hv hk u3 u4 u5
         by_cases k3 : p.1.1 = 3
         · obtain ⟨u, u1, u2⟩ := turn (.inl k3)
           have c3 : (p.1.1 == (3 : Int)) = true := by rw [k3]; rfl
           simp only [w5_VerbBack_L0, w5_VerbBack_B0, g1, g2, a1, Int.toNat_natCast, hp, hH, decide_true, Option.bind_some, t1, p1, num5_eq, c3, u1, u2, q1, onL, e1]
           simp
         · have c3 : (p.1.1 == (3 : Int)) = false := by simpa using k3
           by_cases k4 : p.1.1 = 4
           · obtain ⟨u, u1, u2⟩ := turn (.inr (.inl k4))
             have c4 : (p.1.1 == (4 : Int)) = true := by rw [k4]; rfl
             simp only [w5_VerbBack_L0, w5_VerbBack_B0, g1, g2, a1, Int.toNat_natCast, hp, hH, decide_true, Option.bind_some, t1, p1, num5_eq, c3, c4, u1, u2, q1, onL, e1]
             simp
           · have c4 : (p.1.1 == (4 : Int)) = false := by simpa using k4
             have cw : (p.1.2.1.toList == (⟨#[]⟩ : BA).toList) = decide (bs p.1.2.1 = []) := by rw [str_eq, e0s]
             by_cases ew : bs p.1.2.1 = []
             · obtain ⟨u, u1, u2⟩ := turn (.inr (.inr ew))
               rw [decide_eq_true ew] at cw
               simp only [w5_VerbBack_L0, w5_VerbBack_B0, g1, g2, a1, Int.toNat_natCast, hp, hH, decide_true, Option.bind_some, t1, p1, num5_eq, c3, c4, cw, u1, u2, q1, onL, e1]
               simp
             · rw [decide_eq_false ew] at cw
               simp only [w5_VerbBack_L0, w5_VerbBack_B0, g1, g2, a1, Int.toNat_natCast, hp, hH, decide_true, Option.bind_some, t1, p1, num5_eq, c3, c4, cw, q1, onL, e1]
               simp
        | false =>
         have t1 := vText_no n p.1.1 p.1.2.1 p.1.2.2.2.1.1 p.1.2.2.2.1.2.1 p.1.2.2.1 p.1.2.2.2.2.1 (by omega) (by omega) (by omega) hn hv
         simp only [w5_VerbBack_L0, w5_VerbBack_B0, g1, g2, a1, Int.toNat_natCast, hp, hH, decide_true, Option.bind_some, t1, num5_eq, e1]
         simp
    · refine ⟨.out (), ?_, .inl rfl⟩
      simp only [w5_VerbBack_L0, w5_VerbBack_B0, g1, g2, decide_true, decide_false]
      rfl
  · refine ⟨.out (), ?_, .inl rfl⟩
    simp only [w5_VerbBack_L0, w5_VerbBack_B0, g1, decide_false]
    rfl
theorem plain_VerbBack (l : Sq Ask5) (h : Fit reachBytes (.sl tAsk5) l) : ∃ n, w5_VerbBack n l = some true := by
 refine ⟨10000000, ?_⟩
 obtain ⟨x, hx, hor⟩ := VerbBack_L0 10000000 (Nat.le_refl _) l h 16 0 10000000 rfl (by decide) (by decide)
 unfold w5_VerbBack w5_VerbBack_B
 rw [show ((0 : Nat) : Int) = 0 from rfl] at hx
 rw [hx, Option.bind_some]
 rcases hor with rfl | rfl
 · simp only [onL]
   rw [wakes5_eq _ (Nat.le_refl _)]; rfl
 · rfl
end Go.Proofs.YtbmcabjgeegjkaaGreatDoor.AM
