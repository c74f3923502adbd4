/- Commands, plainly: letters, words, where a path ends. -/
import Derived.Test.YtbmcabjgeegjkaaGreatDoorXQ
namespace Go.Proofs.YtbmcabjgeegjkaaGreatDoor.AM
open Go
set_option linter.unusedSimpArgs false
set_option linter.unusedVariables false
/-! Letters. -/
def up (c : Int) : Int := if 97 ≤ c ∧ c ≤ 122 then c - 32 else c
def caps (w : List Int) : Bool := w.all fun c => !(decide (97 ≤ c) && decide (c ≤ 122))
theorem up_low {c w : Int} (hw : ¬ (97 ≤ w ∧ w ≤ 122)) : up c = w ↔ low c = low w := by
 unfold up low
 split <;> split <;> split <;> constructor <;> intro h <;> omega
theorem map_up : ∀ (s w : List Int), caps w = true → (s.map up = w ↔ s.map low = w.map low)
 | [], [], _ => by simp
 | [], _ :: _, _ => by simp
 | _ :: _, [], _ => by simp
 | c :: s, d :: w, h => by
  simp only [caps, List.all_cons, Bool.and_eq_true] at h
  obtain ⟨h1, h2⟩ := h
  have h1' : ¬ (97 ≤ d ∧ d ≤ 122) := by simp at h1; omega
  have := map_up s w h2
  simp only [List.map_cons, List.cons.injEq, this, up_low (c := c) h1']
/-! Words. -/
def pr (c : Int) : Bool := decide (33 ≤ c) && decide (c ≤ 126)
def wB : Bool → List Int → Bool
 | b, [] => !b
 | b, c :: r => if c < 32 ∨ 126 < c ∨ c = 32 ∧ b = true then false else wB (decide (c = 32)) r
def wordP (w : List Int) : Bool := !w.isEmpty && w.all pr
theorem wR_bad : ∀ (r cur : List Int), cur.all pr = false → (splitG 32 cur r).all wordP = false
 | [], cur, h => by simp only [splitG, wordP, List.all_cons, h]; simp
 | c :: r, cur, h => by
  simp only [splitG]
  split
  · rw [List.all_cons, wordP, h]; simp
  · exact wR_bad r (cur ++ [c]) (by rw [List.all_append, h]; rfl)
theorem wR_eq : ∀ (r cur : List Int), cur.all pr = true → (splitG 32 cur r).all wordP = wB cur.isEmpty r
 | [], cur, h => by
  simp only [splitG, wB, wordP, List.all_cons, List.all_nil, h]
  cases cur <;> simp
 | c :: r, cur, h => by
  simp only [splitG, wB]
  by_cases g : c = 32
  · subst g
    rw [if_pos rfl, List.all_cons, wR_eq r [] rfl, wordP, h]
    cases cur with
    | nil => simp
    | cons a b => simp
  · rw [if_neg g]
    by_cases hp : pr c = true
    · rw [wR_eq r (cur ++ [c]) (by rw [List.all_append, h]; simp [hp])]
      have h' := hp
      simp only [pr, Bool.and_eq_true, decide_eq_true_eq] at h'
      rw [if_neg (by omega), decide_eq_false g]
      congr 1
      simp
    · rw [wR_bad r _ (by rw [List.all_append]; simp [hp])]
      have h' : ¬ (33 ≤ c ∧ c ≤ 126) := fun hh => hp (by simp [pr, hh.1, hh.2])
      rw [if_pos (by omega)]
def wordsP (l : List Int) : Bool := decide (l.length ≤ 64) && wB true l
theorem words_same (l : List Int) : (decide (l.length ≤ 64) && (splitG 32 [] l).all wordP) = wordsP l := by
 rw [wR_eq l [] rfl]; rfl
/-! Digits behind a path. -/
def sizeP (l : List Int) : Option Int := if l = [] then some (-1) else
 if (l.take 6).map up = [32, 83, 73, 90, 69, 61] ∧ 1 ≤ (l.drop 6).length ∧ (l.drop 6).length ≤ 10 ∧ (l.drop 6).all dig = true ∧ valD 0 (l.drop 6) ≤ 1073741824 then some (valD 0 (l.drop 6)) else none
theorem sizeP_62 {l : List Int} {z : Int} (h : sizeP l = some z) : 62 ∉ l := by
 unfold sizeP at h
 by_cases g : l = []
 · subst g; simp
 · rw [if_neg g] at h
   split at h
   · rename_i hc
     obtain ⟨h1, h2, h3, h4, _⟩ := hc
     rw [← List.take_append_drop 6 l]
     intro hm
     rcases List.mem_append.1 hm with hm | hm
     · have := List.mem_map_of_mem (f := up) hm
       rw [h1] at this
       revert this; decide
     · have := List.all_eq_true.1 h4 _ hm
       revert this; decide
   · cases h
/-! Where a path ends: 0: outside quotes; 1: inside; 2: behind a backslash. -/
def pe : Nat → List Int → Nat
 | _, [] => 0
 | 0, c :: r => if c = 34 then 1 + pe 1 r else if c = 62 then 1 else 1 + pe 0 r
 | 1, c :: r => if c = 92 then 1 + pe 2 r else if c = 34 then 1 + pe 0 r else 1 + pe 1 r
 | _ + 2, _ :: r => 1 + pe 1 r
theorem pe_le : ∀ (l : List Int) (q : Nat), pe q l ≤ l.length
 | [], q => by cases q <;> simp [pe]
 | c :: r, 0 => by
  have h0 := pe_le r 0
  have h1 := pe_le r 1
  simp only [pe, List.length_cons]
  split
  · omega
  · split <;> omega
 | c :: r, 1 => by
  have h0 := pe_le r 0
  have h1 := pe_le r 1
  have h2 := pe_le r 2
  simp only [pe, List.length_cons]
  split
  · omega
  · split <;> omega
 | c :: r, q + 2 => by
  have h1 := pe_le r 1
  simp only [pe, List.length_cons]; omega
theorem pe_plain : ∀ (l r : List Int), 34 ∉ l → 62 ∉ l → pe 0 (l ++ r) = l.length + pe 0 r
 | [], r, _, _ => by simp
 | c :: l, r, h1, h2 => by
  simp only [List.mem_cons, not_or] at h1 h2
  rw [List.cons_append]
  simp only [pe]
  rw [if_neg (fun hh => h1.1 hh.symm), if_neg (fun hh => h2.1 hh.symm), pe_plain l r h1.2 h2.2, List.length_cons]
  omega
theorem pe_qd : ∀ (N : Nat) (l r : List Int) (x : List Int × List Int), l.length ≤ N → qd l = some x → ∃ p, l = p ++ x.2 ∧ pe 1 (l ++ r) = p.length + pe 0 (x.2 ++ r)
 | _, [], _, _, _, h => by cases h
 | 0, c :: l, r, x, h, _ => by simp at h
 | N + 1, c :: l, r, x, hN, h => by
  rw [qd_cons] at h
  have hN' : l.length ≤ N := by simpa using hN
  by_cases c1 : c = 34
  · rw [if_pos c1] at h
    cases h
    subst c1
    refine ⟨[34], rfl, ?_⟩
    simp [pe]
  · rw [if_neg c1] at h
    by_cases c2 : c = 92
    · rw [if_pos c2] at h
      subst c2
      cases l with
      | nil => cases h
      | cons d l =>
       simp only at h
       split at h
       · obtain ⟨y, hy, rfl⟩ := Option.map_eq_some_iff.1 h
         obtain ⟨p, i1, i2⟩ := pe_qd N l r y (by simp at hN'; omega) hy
         refine ⟨92 :: d :: p, by rw [i1]; rfl, ?_⟩
         have e92 : pe 1 (92 :: (d :: (l ++ r))) = 1 + (1 + pe 1 (l ++ r)) := by simp [pe]
         show _ = _ + pe 0 (y.2 ++ r)
         rw [List.cons_append, List.cons_append, e92, i2, List.length_cons, List.length_cons]
         omega
       · cases h
    · rw [if_neg c2] at h
      split at h
      · obtain ⟨y, hy, rfl⟩ := Option.map_eq_some_iff.1 h
        obtain ⟨p, i1, i2⟩ := pe_qd N l r y hN' hy
        refine ⟨c :: p, by rw [i1]; rfl, ?_⟩
        simp only [List.cons_append, pe, List.length_cons]
        rw [if_neg c2, if_neg c1, i2]
        omega
      · cases h
/-! Paths. -/
def pthL (l : List Int) : Option (Bool × List Int × List Int) := if l = [60, 62] then some (true, [], []) else
 if 2 ≤ l.length ∧ l.head? = some 60 ∧ l.getLast? = some 62 then (parP (inner l)).map fun x => (false, x.1, x.2) else none
theorem pl_no {x : Int} (hx : atom x = false) (h46 : x ≠ 46) : ∀ (l : List Int) (w : Nat), pl w l = true → x ∉ l
 | [], _, _ => by simp
 | c :: r, w, h => by
  simp only [pl] at h
  intro hm
  rcases List.mem_cons.mp hm with e | hm
  · subst e
    rw [if_neg h46, hx] at h; cases h
  · by_cases c1 : c = 46
    · rw [if_pos c1] at h
      by_cases c2 : w = 0
      · rw [if_pos c2] at h; cases h
      · rw [if_neg c2] at h; exact pl_no hx h46 r 0 h hm
    · rw [if_neg c1] at h
      by_cases c2 : atom c = true
      · rw [if_pos c2] at h; exact pl_no hx h46 r (w + 1) h hm
      · rw [if_neg c2] at h; cases h
theorem domR_chars {l : List Int} (h : domR l = true) : ∀ c ∈ l, c = 91 ∨ c = 93 ∨ 45 ≤ c ∧ c ≤ 57 ∨ 97 ≤ c ∧ c ≤ 122 := by
 unfold domR at h
 rw [Bool.and_eq_true, Bool.or_eq_true] at h
 rcases h.2 with h | h
 · unfold litR at h
   simp only [Bool.and_eq_true, decide_eq_true_eq] at h
   obtain ⟨⟨⟨h1, h2⟩, h3⟩, h4⟩ := h
   unfold litP at h4
   rw [Bool.and_eq_true] at h4
   have h5 : (splitG 46 [] (inner l)).all (fun w => w.all dig) = true := by
    rw [List.all_eq_true]
    intro w hw
    have := List.all_eq_true.mp h4.1 w hw
    unfold okR at this
    simp only [Bool.and_eq_true] at this
    exact this.1.2
   have h6 := (splitG_all 46 dig _ _ h5).2
   intro c hc
   rcases inner_mem h1 h2 h3 c hc with rfl | rfl | hm
   · exact .inl rfl
   · exact .inr (.inl rfl)
   · rcases h6 c hm with h7 | rfl
     · unfold dig at h7
       simp only [Bool.and_eq_true, decide_eq_true_eq] at h7
       omega
     · omega
 · have h5 : (splitG 46 [] l).all (fun w => w.all lch) = true := by
    rw [List.all_eq_true]
    intro w hw
    have := List.all_eq_true.mp h w hw
    unfold labR at this
    simp only [Bool.and_eq_true] at this
    exact this.2
   have h6 := (splitG_all 46 lch _ _ h5).2
   intro c hc
   rcases h6 c hc with h7 | rfl
   · unfold lch sgn at h7
     simp only [Bool.and_eq_true, Bool.or_eq_true, decide_eq_true_eq] at h7
     omega
   · omega
theorem low_fix {x : Int} (hx : x < 65) : ∀ {c : Int}, c = x → low c = x := fun h => by
 subst h; unfold low; rw [if_neg (by omega)]
theorem dm_no {d : List Int} (h : domR (d.map low) = true) : 34 ∉ d ∧ 62 ∉ d := by
 constructor <;> intro hm
 · have := domR_chars h _ (List.mem_map_of_mem (f := low) hm)
   rw [low_fix (x := 34) (by omega) rfl] at this
   omega
 · have := domR_chars h _ (List.mem_map_of_mem (f := low) hm)
   rw [low_fix (x := 62) (by omega) rfl] at this
   omega
theorem head_cons {z : List Int} {c : Int} (h : z.head? = some c) : z = c :: z.drop 1 := by
 cases z with
 | nil => cases h
 | cons a r => cases h; rfl
theorem wrap_inner {t : List Int} (h : 2 ≤ t.length) (h1 : t.head? = some 60) (h2 : t.getLast? = some 62) : t = 60 :: (inner t ++ [62]) := by
 have ht := head_cons h1
 generalize hx : t.drop 1 = x at ht
 subst ht
 have hx0 : x ≠ [] := by intro e; subst e; simp at h
 have hi : inner (60 :: x) = x.dropLast := by
  obtain ⟨k, hk⟩ : ∃ k, x.length = k + 1 := ⟨x.length - 1, by have := List.length_pos_iff.mpr hx0; omega⟩
  unfold inner
  rw [List.length_cons, Nat.add_sub_cancel, hk, List.take_succ_cons, List.drop_one, List.tail_cons, List.dropLast_eq_take, hk]; rfl
 have hg : x.getLast hx0 = 62 := by
  rw [List.getLast?_cons, List.getLast?_eq_some_getLast hx0] at h2
  simpa using h2
 rw [hi]
 conv => lhs; rw [← List.dropLast_concat_getLast hx0, hg]
theorem par_end {x : List Int} {y : List Int × List Int} (h : parP x = some y) (r : List Int) : pe 0 (x ++ 62 :: r) = x.length + 1 := by
 unfold parP at h
 obtain ⟨w, h1, h2⟩ := Option.bind_eq_some_iff.1 h
 have hc : w.1.length ≤ 64 ∧ w.2.head? = some 64 ∧ domP ((w.2.drop 1).map low) = true := by
  by_cases c : w.1.length ≤ 64 ∧ w.2.head? = some 64 ∧ domP ((w.2.drop 1).map low) = true
  · exact c
  · rw [if_neg c] at h2; cases h2
 obtain ⟨_, hz, hd⟩ := hc
 rw [dom_same] at hd
 obtain ⟨n1, n2⟩ := dm_no hd
 have hz' := head_cons hz
 have tail : pe 0 (w.2 ++ 62 :: r) = w.2.length + 1 := by
  rw [pe_plain w.2 _ (by rw [hz']; simp only [List.mem_cons, not_or]; exact ⟨by omega, n1⟩) (by rw [hz']; simp only [List.mem_cons, not_or]; exact ⟨by omega, n2⟩)]
  simp [pe]
 unfold loc at h1
 by_cases g : x.head? = some 34
 · rw [if_pos g] at h1
   obtain ⟨v, e1, e2⟩ := Option.map_eq_some_iff.1 h1
   have hv : v.2 = w.2 := by rw [← e2]
   obtain ⟨p, i1, i2⟩ := pe_qd _ _ (62 :: r) v (Nat.le_refl _) e1
   have hx := head_cons g
   rw [hx, List.cons_append]
   show (if (34 : Int) = 34 then _ else _) = _
   rw [if_pos rfl, i2, hv, tail, List.length_cons, i1, List.length_append, hv]
   omega
 · rw [if_neg g] at h1
   split at h1
   · cases h1
   · split at h1
     · rename_i hp
       cases h1
       simp only at tail
       have a1 : atom 34 = false := by decide
       have a2 : atom 62 = false := by decide
       conv => lhs; rw [← List.take_append_drop (idx 64 x).toNat x]
       rw [List.append_assoc, pe_plain _ _ (pl_no a1 (by omega) _ _ hp) (pl_no a2 (by omega) _ _ hp), tail, ← Nat.add_assoc, ← List.length_append, List.take_append_drop]
     · cases h1
theorem pth_end {t : List Int} {v : Bool × List Int × List Int} (h : pthL t = some v) (r : List Int) : pe 0 (t ++ r) = t.length ∧ t.getLast? = some 62 ∧ t ≠ [] := by
 unfold pthL at h
 by_cases c : t = [60, 62]
 · subst c; exact ⟨by simp [pe], rfl, by simp⟩
 · rw [if_neg c] at h
   by_cases c2 : 2 ≤ t.length ∧ t.head? = some 60 ∧ t.getLast? = some 62
   · rw [if_pos c2] at h
     obtain ⟨y, hy, _⟩ := Option.map_eq_some_iff.1 h
     have ht := wrap_inner c2.1 c2.2.1 c2.2.2
     have hpe := par_end hy r
     generalize inner t = x at ht hpe
     refine ⟨?_, c2.2.2, by intro e; rw [e] at c2; simp at c2⟩
     rw [ht, List.cons_append]
     show (if (60 : Int) = 34 then _ else if (60 : Int) = 62 then _ else _) = _
     rw [if_neg (by omega), if_neg (by omega), List.append_assoc, List.singleton_append, hpe]
     simp; omega
   · rw [if_neg c2] at h; cases h
def endP (l : List Int) (i : Int) : Prop := i = -1 ∧ 62 ∉ l ∨ ∃ k : Nat, i = k ∧ k < l.length ∧ l[k]? = some 62 ∧ 62 ∉ l.drop (k + 1)
theorem ends_same {l : List Int} {i : Int} (h : endP l i) {v : Bool × List Int × List Int} {z : Int} :
  (0 ≤ i ∧ pthL (l.take (i.toNat + 1)) = some v ∧ sizeP (l.drop (i.toNat + 1)) = some z) ↔ (pthL (l.take (pe 0 l)) = some v ∧ sizeP (l.drop (pe 0 l)) = some z) := by
 constructor
 · rintro ⟨h0, h1, h2⟩
   have := (pth_end h1 (l.drop (i.toNat + 1))).1
   rw [List.take_append_drop] at this
   rcases h with ⟨h3, _⟩ | ⟨k, rfl, h3, h4, h5⟩
   · omega
   · rw [List.length_take] at this
     have e : min ((k : Int).toNat + 1) l.length = (k : Int).toNat + 1 := by simp; omega
     rw [this, e]
     exact ⟨h1, h2⟩
 · rintro ⟨h1, h2⟩
   obtain ⟨_, hl, hne⟩ := pth_end h1 []
   have hle := pe_le l 0
   have hp : 0 < pe 0 l := by
    rcases Nat.eq_zero_or_pos (pe 0 l) with e | e
    · rw [e] at hne; simp at hne
    · exact e
   have h62 : l[pe 0 l - 1]? = some 62 := by
    rw [List.getLast?_eq_getElem?, List.length_take, Nat.min_eq_left hle, List.getElem?_take] at hl
    rw [if_pos (by omega)] at hl; exact hl
   have hno := sizeP_62 h2
   have hi : i = ((pe 0 l - 1 : Nat) : Int) := by
    rcases h with ⟨_, h3⟩ | ⟨k, rfl, h3, h4, h5⟩
    · exact absurd (List.mem_of_getElem? h62) h3
    · rcases Nat.lt_trichotomy k (pe 0 l - 1) with g | g | g
      · exfalso
        apply h5
        have : (l.drop (k + 1))[pe 0 l - 1 - (k + 1)]? = some 62 := by
         rw [List.getElem?_drop, show k + 1 + (pe 0 l - 1 - (k + 1)) = pe 0 l - 1 by omega]; exact h62
        exact List.mem_of_getElem? this
      · rw [g]
      · exfalso
        apply hno
        have : (l.drop (pe 0 l))[k - pe 0 l]? = some 62 := by
         rw [List.getElem?_drop, show pe 0 l + (k - pe 0 l) = k by omega]; exact h4
        exact List.mem_of_getElem? this
   have e : i.toNat + 1 = pe 0 l := by rw [hi]; simp; omega
   rw [e]
   exact ⟨by omega, h1, h2⟩
open Go Go.RowKit
/-! words. -/
def wX (s : BA) : Bool → List Int → Lx (BA × Bool) Bool
 | b, [] => .out (s, b)
 | b, c :: r => if c < 32 ∨ 126 < c ∨ c = 32 ∧ b = true then .ret false else wX s (decide (c = 32)) r
theorem words_L0 (n : Nat) (s : BA) (hs : s.size ≤ 1000000) : ∀ (r : List Int) (b : Bool) (k m : Nat), (bs s).drop k = r → k ≤ s.size → r.length < m → v_words_L0 n m s b s.size k = some (wX s b r)
 | [], b, k, m, h, hk, hm => by
  obtain ⟨m, rfl⟩ : ∃ q, m = q + 1 := ⟨m - 1, by omega⟩
  have := at_nil h
  simp [v_words_L0, v_words_B0, this, wX]
 | c :: r, b, k, m, h, hk, hm => by
  obtain ⟨m, rfl⟩ : ∃ q, m = q + 1 := ⟨m - 1, by omega⟩
  obtain ⟨h1, h2, h3, h4, h5⟩ := at_cons h
  have e1 := wr1 (k := k) (by omega)
  have a3 : (0 : Int) ≤ (k : Int) := by omega
  have ih := words_L0 n s hs r (decide (c = 32)) (k + 1) m h3 (by omega) (by simpa using hm)
  simp only [v_words_L0, v_words_B0, h1, h2, a3, e1, wX]
  by_cases g1 : c < 32
  · simp [g1]
  · by_cases g2 : 126 < c
    · simp [g1, g2]
    · by_cases g3 : c = 32
      · subst g3
        cases b
        · simpa using ih
        · simp
      · have e : (c == 32) = false := by simpa using g3
        have e' : decide (c = 32) = false := by simpa using g3
        rw [e'] at ih
        simpa [g1, g2, g3, e] using ih
theorem wX_B (s : BA) : ∀ (r : List Int) (b : Bool), onL (wX s b r) (fun a => if (!a.2) = true then some (decide ((a.1.size : Int) ≤ (64 : Int))) else some false) (fun a => some a) (fun _ => none) = some (decide (s.size ≤ 64) && wB b r)
 | [], b => by
  have e : decide ((s.size : Int) ≤ (64 : Int)) = decide (s.size ≤ 64) := by rw [decide_eq_decide]; omega
  cases b <;> simp [wX, wB, onL, e]
 | c :: r, b => by
  simp only [wX, wB]
  split
  · simp [onL]
  · exact wX_B s r _
theorem vwords_eq (n : Nat) (s : BA) (hs : s.size ≤ 1000000) (hn : 10000000 ≤ n) : v_words n s = some (wordsP (bs s)) := by
 have h := words_L0 n s hs (bs s) true 0 n (by simp) (by omega) (by rw [bs_len]; omega)
 rw [show ((0 : Nat) : Int) = 0 from rfl] at h
 unfold v_words v_words_B
 rw [h, Option.bind_some, wX_B, wordsP, bs_len]
theorem Print_L0 (n : Nat) (s : BA) (hs : s.size ≤ 1000000) : ∀ (r : List Int) (k m : Nat), (bs s).drop k = r → k ≤ s.size → r.length < m → r0_Print_L0 n m s 33 k = some (if r.all pr = true then .out () else .ret false)
 | [], k, m, h, hk, hm => by
  obtain ⟨m, rfl⟩ : ∃ q, m = q + 1 := ⟨m - 1, by omega⟩
  have := at_nil h
  simp [r0_Print_L0, r0_Print_B0, this]
 | c :: r, k, m, h, hk, hm => by
  obtain ⟨m, rfl⟩ : ∃ q, m = q + 1 := ⟨m - 1, by omega⟩
  obtain ⟨h1, h2, h3, h4, h5⟩ := at_cons h
  have e1 := wr1 (k := k) (by omega)
  have a3 : (0 : Int) ≤ (k : Int) := by omega
  have ih := Print_L0 n s hs r (k + 1) m h3 (by omega) (by simpa using hm)
  simp only [r0_Print_L0, r0_Print_B0, h1, h2, a3, e1]
  by_cases g1 : c < 33
  · have : pr c = false := by simp [pr]; omega
    simp [g1, this]
  · by_cases g2 : c > 126
    · have : pr c = false := by simp [pr]; omega
      simp [g1, g2, this]
    · have : pr c = true := by simp [pr]; omega
      simpa [g1, g2, this] using ih
theorem Print_eq (n : Nat) (s : BA) (hs : s.size ≤ 1000000) (hn : 10000000 ≤ n) : r0_Print n s 33 = some ((bs s).all pr) := by
 have h := Print_L0 n s hs (bs s) 0 n (by simp) (by omega) (by rw [bs_len]; omega)
 rw [show ((0 : Nat) : Int) = 0 from rfl] at h
 unfold r0_Print r0_Print_B
 rw [h, Option.bind_some]
 cases (bs s).all pr <;> rfl
theorem rwords_L0 (n : Nat) (l : Sq BA) (hn : 10000000 ≤ n) (hl : l.n ≤ 2000000) (hs : ∀ i, i < l.n → (l.at' i).size ≤ 1000000) : ∀ (W : List (List Int)) (i m : Nat), (sqL bs l).drop i = W → W.length < m → i ≤ l.n →
  r4_words_L0 n m l i = some (if W.all wordP = true then .out () else .ret false)
 | [], i, m, h, hm, hi => by
  obtain ⟨m, rfl⟩ : ∃ q, m = q + 1 := ⟨m - 1, by omega⟩
  have := sqL_nil h
  have e : ¬ ((i : Int) < (l.n : Int)) := by omega
  simp [r4_words_L0, r4_words_B0, e]
 | w :: W, i, m, h, hm, hi => by
  obtain ⟨m, rfl⟩ : ∃ q, m = q + 1 := ⟨m - 1, by omega⟩
  obtain ⟨h1, h2, h3⟩ := sqL_drop h
  have e1 := wr1 (k := i) (by omega)
  have a3 : (0 : Int) ≤ (i : Int) := by omega
  have a4 : (i : Int) < (l.n : Int) := by omega
  have ih := rwords_L0 n l hn hl hs W (i + 1) m h3 (by simpa using hm) (by omega)
  have hp := Print_eq n (l.at' i) (hs i h1) hn
  simp only [r4_words_L0, r4_words_B0, a3, a4, e1, Int.toNat_natCast, str_eq, h2, hp, Option.bind_some]
  have e0 : bs (⟨#[]⟩ : BA) = [] := rfl
  rw [e0]
  cases w with
  | nil => simp [wordP]
  | cons c r =>
   by_cases g : (c :: r).all pr = true
   · simpa [g, wordP] using ih
   · have g' : (c :: r).all pr = false := by simpa using g
     simp [g', wordP]
theorem rwords_eq (n : Nat) (s : BA) (hs : s.size ≤ 1000000) (hn : 10000000 ≤ n) : r4_words n s = some (wordsP (bs s)) := by
 rw [← words_same]
 unfold r4_words r4_words_B
 by_cases g : (s.size : Int) > 64
 · have : ¬ (bs s).length ≤ 64 := by rw [bs_len]; omega
   simp [g, this]
 · obtain ⟨q, h1, h2⟩ := Split_eq n s 32 hs hn
   obtain ⟨h3, h4⟩ := split_words h2
   have h := rwords_L0 n q hn (by omega) (fun i hi => Nat.le_trans (h4 i hi) hs) _ 0 n rfl (by rw [List.drop_zero, sqL_len]; omega) (by omega)
   rw [show ((0 : Nat) : Int) = 0 from rfl, List.drop_zero, h2] at h
   have : (bs s).length ≤ 64 := by rw [bs_len]; omega
   simp only [g, h1, h, Option.bind_some, this, decide_true, decide_false, Bool.true_and]
   cases (splitG 32 [] (bs s)).all wordP <;> rfl
/-! Letters. -/
theorem like_L0 (n : Nat) (s w : BA) (hs : s.size ≤ 1000000) (hw : w.size = s.size) : ∀ (r q : List Int) (k m : Nat), (bs s).drop k = r → (bs w).drop k = q → k ≤ s.size → r.length < m →
  v_like_L0 n m s w s.size k = some (if r.map up = q then .out () else .ret false)
 | [], q, k, m, h, hq, hk, hm => by
  obtain ⟨m, rfl⟩ : ∃ q, m = q + 1 := ⟨m - 1, by omega⟩
  have := at_nil h
  have hq0 : q = [] := by
   have h1 := congrArg List.length h
   have h2 := congrArg List.length hq
   rw [List.length_drop, bs_len] at h1 h2
   cases q with
   | nil => rfl
   | cons a b => simp at h1 h2; omega
  subst hq0
  simp [v_like_L0, v_like_B0, this]
 | c :: r, [], k, m, h, hq, hk, hm => by
  have h1 := congrArg List.length h
  have h2 := congrArg List.length hq
  rw [List.length_drop, bs_len] at h1 h2
  simp at h1 h2; omega
 | c :: r, d :: q, k, m, h, hq, hk, hm => by
  obtain ⟨m, rfl⟩ : ∃ q, m = q + 1 := ⟨m - 1, by omega⟩
  obtain ⟨h1, h2, h3, h4, h5⟩ := at_cons h
  obtain ⟨q1, q2, q3, _, _⟩ := at_cons hq
  have e1 := wr1 (k := k) (by omega)
  have a3 : (0 : Int) ≤ (k : Int) := by omega
  have ih := like_L0 n s w hs hw r q (k + 1) m h3 q3 (by omega) (by simpa using hm)
  simp only [v_like_L0, v_like_B0, h1, h2, q1, q2, a3, e1, List.map_cons, List.cons.injEq]
  by_cases g1 : 97 ≤ c
  · by_cases g2 : c ≤ 122
    · have eu : up c = c - 32 := by unfold up; rw [if_pos ⟨g1, g2⟩]
      have e8 := wr8 (x := c - 32) (by omega) (by omega)
      rw [eu, e8]
      by_cases g : c - 32 = d
      · subst g; simpa [g1, g2] using ih
      · have : (c - 32 != d) = true := by simpa using g
        simp [g1, g2, g, this]
    · have eu : up c = c := by unfold up; rw [if_neg (by omega)]
      rw [eu]
      by_cases g : c = d
      · subst g; simpa [g1, g2] using ih
      · have : (c != d) = true := by simpa using g
        simp [g1, g2, g, this]
  · have eu : up c = c := by unfold up; rw [if_neg (by omega)]
    rw [eu]
    by_cases g : c = d
    · subst g; simpa [g1] using ih
    · have : (c != d) = true := by simpa using g
      simp [g1, g, this]
theorem like_eq (n : Nat) (s w : BA) (hs : s.size ≤ 1000000) (hn : 10000000 ≤ n) : v_like n s w = some (decide ((bs s).map up = bs w)) := by
 unfold v_like v_like_B
 by_cases g : s.size = w.size
 · have h := like_L0 n s w hs g.symm (bs s) (bs w) 0 n (by simp) (by simp) (by omega) (by rw [bs_len]; omega)
   rw [show ((0 : Nat) : Int) = 0 from rfl] at h
   have : ((s.size : Int) != (w.size : Int)) = false := by rw [g]; simp
   rw [this, h, Option.bind_some]
   by_cases e : (bs s).map up = bs w
   · simp [e, onL]
   · simp [e, onL]
 · have : ((s.size : Int) != (w.size : Int)) = true := by simp only [bne_iff_ne]; omega
   rw [if_pos this]
   have : ¬ (bs s).map up = bs w := fun e => by
    have := congrArg List.length e
    rw [List.length_map, bs_len, bs_len] at this
    exact g this
   simp [this]
/-! Names. -/
def vkd (l : List Int) : Int := if l.map up = [72, 69, 76, 79] then 1 else if l.map up = [69, 72, 76, 79] then 2 else if l.map up = [77, 65, 73, 76] then 3 else if l.map up = [82, 67, 80, 84] then 4 else
 if l.map up = [68, 65, 84, 65] then 5 else if l.map up = [82, 83, 69, 84] then 6 else if l.map up = [78, 79, 79, 80] then 7 else if l.map up = [81, 85, 73, 84] then 8 else if l.map up = [86, 82, 70, 89] then 9 else 0
theorem kind_step (n m : Nat) (s : BA) (hs : s.size ≤ 1000000) (hn : 10000000 ≤ n) (k : Int) (hk : k ≤ 9) (w : BA) (l : List Int) (hl : bs w = l) (hw : v_names n k = some w) (k' : Int) (hk' : IntKind.wrap .i64 (k + 1) = k') :
  v_kind_L0 n (m + 1) s k = if (bs s).map up = l then some (.ret k) else v_kind_L0 n m s k' := by
 subst hl
 simp only [v_kind_L0, v_kind_B0, hk, hw, hk', Option.bind_some, like_eq n s w hs hn, decide_true, if_true, decide_eq_true_eq]
theorem kind_eq (n : Nat) (s : BA) (hs : s.size ≤ 1000000) (hn : 10000000 ≤ n) : v_kind n s = some (vkd (bs s)) := by
 have key : ∃ x, v_kind_L0 n n s 1 = some x ∧ onL x (fun _ => some (0 : Int)) (fun a => some a) (fun _ => none) = some (vkd (bs s)) := by
  obtain ⟨m, hm⟩ : ∃ m, n = m + 10 := ⟨n - 10, by omega⟩
  have e : v_kind_L0 n n s 1 = v_kind_L0 n (m + 10) s 1 := by rw [← hm]
  rw [e, kind_step n _ s hs hn 1 (by omega) (⟨#[72, 69, 76, 79]⟩ : BA) [72, 69, 76, 79] rfl rfl 2 (by rfl), kind_step n _ s hs hn 2 (by omega) (⟨#[69, 72, 76, 79]⟩ : BA) [69, 72, 76, 79] rfl rfl 3 (by rfl),
   kind_step n _ s hs hn 3 (by omega) (⟨#[77, 65, 73, 76]⟩ : BA) [77, 65, 73, 76] rfl rfl 4 (by rfl), kind_step n _ s hs hn 4 (by omega) (⟨#[82, 67, 80, 84]⟩ : BA) [82, 67, 80, 84] rfl rfl 5 (by rfl),
   kind_step n _ s hs hn 5 (by omega) (⟨#[68, 65, 84, 65]⟩ : BA) [68, 65, 84, 65] rfl rfl 6 (by rfl), kind_step n _ s hs hn 6 (by omega) (⟨#[82, 83, 69, 84]⟩ : BA) [82, 83, 69, 84] rfl rfl 7 (by rfl),
   kind_step n _ s hs hn 7 (by omega) (⟨#[78, 79, 79, 80]⟩ : BA) [78, 79, 79, 80] rfl rfl 8 (by rfl), kind_step n _ s hs hn 8 (by omega) (⟨#[81, 85, 73, 84]⟩ : BA) [81, 85, 73, 84] rfl rfl 9 (by rfl),
   kind_step n _ s hs hn 9 (by omega) (⟨#[86, 82, 70, 89]⟩ : BA) [86, 82, 70, 89] rfl rfl 10 (by rfl)]
  have last : v_kind_L0 n (m + 1) s 10 = some (.out ()) := by simp [v_kind_L0, v_kind_B0]
  rw [last]
  unfold vkd
  repeat' split
  all_goals exact ⟨_, rfl, rfl⟩
 obtain ⟨x, h1, h2⟩ := key
 unfold v_kind v_kind_B
 rw [h1, Option.bind_some]
 exact h2
/-! What follows a word. -/
theorem vmust_eq (n : Nat) (b : Bool) (e : Int) : v_must n b e = some (if b = true then .ok () else .error e) := by
 unfold v_must v_must_B
 cases b <;> rfl
theorem take_map_len {l w : List Int} {f : Int → Int} (h : (l.take w.length).map f = w) : w.length ≤ l.length := by
 have := congrArg List.length h
 rw [List.length_map, List.length_take] at this
 omega
theorem bs_ext0 (s : BA) (k : Nat) : bs (s.extract 0 k) = (bs s).take k := by rw [bs_ext, List.drop_zero]
theorem bs_ext1 (s : BA) (k : Nat) : bs (s.extract k s.size) = (bs s).drop k := by rw [bs_ext, ← bs_len, List.take_length]
theorem ext_sz (s : BA) (i j : Nat) : (s.extract i j).size ≤ s.size := by
 rw [← bs_len, bs_ext, List.length_drop, List.length_take, bs_len]; omega
theorem after_eq (n : Nat) (s w : BA) (hs : s.size ≤ 1000000) (hn : 10000000 ≤ n) : v_after n s w = some (if ((bs s).take w.size).map up = bs w then .ok (s.extract w.size s.size) else .error 8) := by
 unfold v_after v_after_B
 by_cases g : w.size ≤ s.size
 · have e1 : decide ((s.size : Int) ≥ (w.size : Int)) = true := decide_eq_true (by omega)
   have e2 : 0 ≤ (w.size : Int) ∧ (w.size : Int) ≤ (s.size : Int) := ⟨by omega, by omega⟩
   have hl := like_eq n (s.extract (Int.toNat 0) (Int.toNat (w.size : Int))) w (by have := ext_sz s (Int.toNat 0) (Int.toNat (w.size : Int)); omega) hn
   have hx : bs (s.extract (Int.toNat 0) (Int.toNat (w.size : Int))) = (bs s).take w.size := bs_ext0 s w.size
   rw [hx] at hl
   rw [if_pos e1, if_pos e2, hl, Option.bind_some, vmust_eq, Option.bind_some]
   by_cases h : ((bs s).take w.size).map up = bs w
   · rw [if_pos h, decide_eq_true h, if_pos rfl]
     simp only [onX, if_pos e2, Int.toNat_natCast]
   · rw [if_neg h, decide_eq_false h]
     rfl
 · have e1 : decide ((s.size : Int) ≥ (w.size : Int)) = false := decide_eq_false (by omega)
   have h : ¬ ((bs s).take w.size).map up = bs w := fun h => by
    rw [← bs_len w] at h
    have := take_map_len h
    rw [bs_len, bs_len] at this; omega
   rw [if_neg h, if_neg (by rw [e1]; simp), vmust_eq]
   rfl
theorem begins_eq (n : Nat) (s w : BA) (hs : s.size ≤ 1000000) (hw : w.size ≤ 1000000) (hn : 10000000 ≤ n) (hc : caps (bs w) = true) : r4_begins n s w = some (decide (((bs s).take w.size).map up = bs w)) := by
 unfold r4_begins r4_begins_B
 by_cases g : w.size ≤ s.size
 · have e1 : decide ((s.size : Int) ≥ (w.size : Int)) = true := decide_eq_true (by omega)
   have e2 : 0 ≤ (w.size : Int) ∧ (w.size : Int) ≤ (s.size : Int) := ⟨by omega, by omega⟩
   obtain ⟨t1, h1, h2⟩ := Lower_eq n (s.extract (Int.toNat 0) (Int.toNat (w.size : Int))) (by have := ext_sz s (Int.toNat 0) (Int.toNat (w.size : Int)); omega) hn
   obtain ⟨t2, h3, h4⟩ := Lower_eq n w hw hn
   have hx : bs (s.extract (Int.toNat 0) (Int.toNat (w.size : Int))) = (bs s).take w.size := bs_ext0 s w.size
   rw [hx] at h2
   rw [if_pos e1, if_pos e2, h1, Option.bind_some, h3, Option.bind_some, str_eq, h2, h4]
   congr 1
   rw [decide_eq_decide]
   exact (map_up _ _ hc).symm
 · have e1 : decide ((s.size : Int) ≥ (w.size : Int)) = false := decide_eq_false (by omega)
   have h : ¬ ((bs s).take w.size).map up = bs w := fun h => by
    rw [← bs_len w] at h
    have := take_map_len h
    rw [bs_len, bs_len] at this; omega
   rw [if_neg (by rw [e1]; simp), decide_eq_false h]
theorem trim_eq (n : Nat) (s : BA) : st_TrimPrefix n s (⟨#[32]⟩ : BA) = some (if (bs s).head? = some 32 then s.extract 1 s.size else s) := by
 have hp : il_HasPrefix n s (⟨#[32]⟩ : BA) = some (decide ((bs s).head? = some 32)) := by
  have := HasPrefix_one n s (⟨#[32]⟩ : BA) (c := 32) rfl
  unfold st_HasPrefix st_HasPrefix_B at this
  cases h : il_HasPrefix n s (⟨#[32]⟩ : BA) with
  | none => rw [h] at this; cases this
  | some b => rw [h] at this; exact this
 have h1 : (⟨#[32]⟩ : BA).size = 1 := rfl
 unfold st_TrimPrefix st_TrimPrefix_B il_TrimPrefix il_TrimPrefix_B
 rw [hp, Option.bind_some]
 by_cases g : (bs s).head? = some 32
 · have hz : 1 ≤ s.size := by
    rw [← bs_len]
    cases hb : bs s with
    | nil => rw [hb] at g; cases g
    | cons a b => simp
   have e2 : 0 ≤ ((⟨#[32]⟩ : BA).size : Int) ∧ ((⟨#[32]⟩ : BA).size : Int) ≤ (s.size : Int) := ⟨by omega, by omega⟩
   rw [decide_eq_true g, if_pos rfl, if_pos e2, if_pos g]
   rfl
 · rw [decide_eq_false g, if_neg (by simp), if_neg g]
   rfl
def trim1 (l : List Int) : List Int := if l.head? = some 32 then l.drop 1 else l
theorem trim_bs (s : BA) : bs (if (bs s).head? = some 32 then s.extract 1 s.size else s) = trim1 (bs s) := by
 unfold trim1
 split
 · exact bs_ext1 s 1
 · rfl
open Go Go.RowKit
theorem last_L0 (n : Nat) (s : BA) (hs : s.size ≤ 1000000) (c : Int) : ∀ (j m : Nat), j ≤ s.size → j < m → c ∉ (bs s).drop j →
  ∃ x, ib_LastIndexByteString_L0 n m s c ((j : Int) - 1) = some x ∧ (x = .out () ∧ c ∉ bs s ∨ ∃ k : Nat, x = .ret (k : Int) ∧ k < (bs s).length ∧ (bs s)[k]? = some c ∧ c ∉ (bs s).drop (k + 1))
 | 0, m, hj, hm, hc => by
  obtain ⟨m, rfl⟩ : ∃ q, m = q + 1 := ⟨m - 1, by omega⟩
  exact ⟨.out (), by simp [ib_LastIndexByteString_L0, ib_LastIndexByteString_B0], .inl ⟨rfl, by simpa using hc⟩⟩
 | j + 1, m, hj, hm, hc => by
  obtain ⟨m, rfl⟩ : ∃ q, m = q + 1 := ⟨m - 1, by omega⟩
  have hlt : j < (bs s).length := by rw [bs_len]; omega
  obtain ⟨d, hd⟩ : ∃ d, (bs s)[j]? = some d := ⟨(bs s)[j], by simp [hlt]⟩
  have hb := bt_at hd
  have e0 : ((j + 1 : Nat) : Int) - 1 = (j : Int) := by omega
  have a1 : (0 : Int) ≤ (j : Int) := by omega
  have a2 : (j : Int) < (s.size : Int) := by omega
  have w1 : IntKind.wrap .i64 ((j : Int) - 1) = (j : Int) - 1 := wr (by omega) (by omega)
  rw [e0]
  by_cases g : d = c
  · subst g
    exact ⟨.ret (j : Int), by simp [ib_LastIndexByteString_L0, ib_LastIndexByteString_B0, a1, a2, hb], .inr ⟨j, rfl, hlt, hd, hc⟩⟩
  · have hdr : (bs s).drop j = d :: (bs s).drop (j + 1) := by
     rw [List.drop_eq_getElem_cons hlt]
     have : (bs s)[j] = d := by
      have := List.getElem?_eq_getElem hlt
      rw [hd] at this; exact (Option.some.inj this).symm
     rw [this]
    obtain ⟨x, h1, h2⟩ := last_L0 n s hs c j m (by omega) (by omega) (by rw [hdr]; simp only [List.mem_cons, not_or]; exact ⟨fun e => g e.symm, hc⟩)
    have hdc : (d == c) = false := by simpa using g
    exact ⟨x, by simpa [ib_LastIndexByteString_L0, ib_LastIndexByteString_B0, a1, a2, hb, hdc, w1] using h1, h2⟩
theorem last_eq (n : Nat) (s : BA) (hs : s.size ≤ 1000000) (hn : 10000000 ≤ n) : ∃ i, st_LastIndexByte n s 62 = some i ∧ endP (bs s) i := by
 have w1 : IntKind.wrap .i64 ((s.size : Int) - 1) = (s.size : Int) - 1 := wr (by omega) (by omega)
 obtain ⟨x, h1, h2⟩ := last_L0 n s hs 62 s.size n (Nat.le_refl _) (by omega) (by rw [← bs_len, List.drop_length]; simp)
 unfold st_LastIndexByte st_LastIndexByte_B ib_LastIndexByteString ib_LastIndexByteString_B
 rw [w1, h1]
 rcases h2 with ⟨rfl, h3⟩ | ⟨k, rfl, h3⟩
 · exact ⟨-1, rfl, .inl ⟨rfl, h3⟩⟩
 · exact ⟨k, rfl, .inr ⟨k, rfl, h3⟩⟩
/-! Paths. -/
theorem Path_eq (n : Nat) (s : BA) (hs : s.size ≤ 400000) (hn : 10000000 ≤ n) : match pthL (bs s) with
  | none => r4_Path n s = some (noBox, false, false, ()) ∧ ad_Path n s = some (noBox, false, 8, ())
  | some v => ∃ p1 p2, r4_Path n s = some ((p1, (p2, ())), v.1, true, ()) ∧ ad_Path n s = some ((p1, (p2, ())), v.1, 0, ()) ∧ bs p1 = v.2.1 ∧ bs p2 = v.2.2 := by
 have hz : bs (⟨#[60, 62]⟩ : BA) = [60, 62] := rfl
 unfold r4_Path r4_Path_B ad_Path ad_Path_B pthL
 by_cases c1 : bs s = [60, 62]
 · have c1' : (s.toList == (⟨#[60, 62]⟩ : BA).toList) = true := by rw [str_eq, hz, decide_eq_true c1]
   rw [if_pos c1', if_pos c1', if_pos c1]
   exact ⟨_, _, rfl, rfl, rfl, rfl⟩
 have c1' : ¬ (s.toList == (⟨#[60, 62]⟩ : BA).toList) = true := by rw [str_eq, hz, decide_eq_false c1]; simp
 rw [if_neg c1', if_neg c1', if_neg c1]
 by_cases c2 : decide ((s.size : Int) < (2 : Int)) = false
 · rw [if_pos c2, if_pos c2]
   have hz : ¬ ((s.size : Int) < 2) := of_decide_eq_false c2
   have w : IntKind.wrap .i64 ((s.size : Int) - 1) = (s.size : Int) - 1 := wr (by omega) (by omega)
   have c3 : 0 ≤ (0 : Int) ∧ (0 : Int) < (s.size : Int) := ⟨by omega, by omega⟩
   obtain ⟨d, hd1, hd2⟩ := bs_head (s := s) (by omega)
   obtain ⟨e, he1, he2⟩ := bs_last (s := s) (by omega)
   have he2' : bt s ((s.size : Int) - 1) = e := by rw [← he2]; congr 1; omega
   rw [w, if_pos c3, if_pos c3]
   by_cases c4 : d = 60
   · have c4' : ((bt s (0 : Int)) != (60 : Int)) = false := by rw [hd2, c4]; rfl
     rw [if_pos c4', if_pos c4']
     have c5 : 0 ≤ (s.size : Int) - 1 ∧ (s.size : Int) - 1 < (s.size : Int) := ⟨by omega, by omega⟩
     rw [if_pos c5, if_pos c5]
     by_cases c6 : e = 62
     · have c6' : ¬ ((bt s ((s.size : Int) - 1)) != (62 : Int)) = true := by rw [he2', c6]; simp
       rw [if_neg c6', if_neg c6', if_pos ⟨by rw [bs_len]; omega, by rw [hd1, c4], by rw [he1, c6]⟩]
       have c7 : 0 ≤ (s.size : Int) - 1 ∧ (s.size : Int) - 1 ≤ (s.size : Int) := ⟨by omega, by omega⟩
       have c8 : 0 ≤ (1 : Int) ∧ (1 : Int) ≤ (s.size : Int) - 1 := ⟨by omega, by omega⟩
       rw [if_pos c7, if_pos c8, if_pos c7, if_pos c8]
       have hi : bs (s.extract (Int.toNat (1 : Int)) (Int.toNat ((s.size : Int) - 1))) = inner (bs s) := by
        rw [← bs_inner]
        congr 2
        omega
       have ht : (s.extract (Int.toNat (1 : Int)) (Int.toNat ((s.size : Int) - 1))).size ≤ 400000 := by
        have := ext_sz s (Int.toNat (1 : Int)) (Int.toNat ((s.size : Int) - 1)); omega
       have hP := Parse_eq n _ ht hn
       have hR := rParse_eq n _ ht hn
       rw [← par_same] at hR
       rw [hi] at hP hR
       cases hv : parP (inner (bs s)) with
       | none =>
        rw [hv] at hP hR
        simp only [RefIs] at hP hR
        rw [hP, hR]
        exact ⟨rfl, rfl⟩
       | some y =>
        rw [hv] at hP hR
        obtain ⟨t1, t2, j1, j2, j3⟩ := hP
        obtain ⟨u1, u2, k1, k2, k3⟩ := hR
        have x1 : u1 = t1 := bs_inj (k2.trans j2.symm)
        have x2 : u2 = t2 := bs_inj (k3.trans j3.symm)
        subst x1 x2
        rw [j1, k1]
        exact ⟨u1, u2, rfl, rfl, k2, k3⟩
     · have c6' : ((bt s ((s.size : Int) - 1)) != (62 : Int)) = true := by rw [he2']; simpa using c6
       rw [if_pos c6', if_pos c6', if_neg (fun hh => c6 (by rw [he1] at hh; exact Option.some.inj hh.2.2))]
       exact ⟨rfl, rfl⟩
   · have c4' : ¬ ((bt s (0 : Int)) != (60 : Int)) = false := by rw [hd2]; simpa using c4
     rw [if_neg c4', if_neg c4', if_neg (fun hh => c4 (by rw [hd1] at hh; exact Option.some.inj hh.2.1))]
     exact ⟨rfl, rfl⟩
 · rw [if_neg c2, if_neg c2, if_neg (fun hh => by
    rw [bs_len] at hh
    have : ((s.size : Int) < 2) := by simpa using c2
    omega)]
   exact ⟨rfl, rfl⟩
/-! Digits. -/
theorem vsize_L0 (n : Nat) (s : BA) (hs : s.size ≤ 10) : ∀ (r : List Int) (k m : Nat) (v : Int), (bs s).drop k = r → k ≤ s.size → r.length < m → 0 ≤ v → v < 10 ^ k → v_size_L0 n m s v s.size k = some (if r.all dig = true then .out (valD v r) else .pan 8)
 | [], k, m, v, h, hk, hm, h0, hv => by
  obtain ⟨m, rfl⟩ : ∃ q, m = q + 1 := ⟨m - 1, by simp at hm; omega⟩
  have := at_nil h
  simp [v_size_L0, v_size_B0, this, valD]
 | c :: r, k, m, v, h, hk, hm, h0, hv => by
  obtain ⟨m, rfl⟩ : ∃ q, m = q + 1 := ⟨m - 1, by simp at hm; omega⟩
  obtain ⟨h1, h2, h3, h4, h5⟩ := at_cons h
  have e1 := wr1 (k := k) (by omega)
  have a3 : (0 : Int) ≤ (k : Int) := by omega
  have hp : (10 : Int) ^ k ≤ 10 ^ 16 := by
   have : (10 : Nat) ^ k ≤ 10 ^ 16 := Nat.pow_le_pow_right (by decide) (by omega)
   exact_mod_cast this
  have hp2 : (10 : Int) ^ 16 = 10000000000000000 := by decide
  by_cases hd : dig c = true
  · have hc : 48 ≤ c ∧ c ≤ 57 := by simpa [dig] using hd
    have ih := vsize_L0 n s hs r (k + 1) m (10 * v + (c - 48)) h3 (by omega) (by simpa using hm) (by omega) (by rw [Int.pow_succ]; omega)
    have b1 : c ≥ 48 := by omega
    have w1 := wr8 (x := c - 48) (by omega) (by omega)
    have w2 := wr (x := c - 48) (by omega) (by omega)
    have w3 := wr (x := 10 * v) (by omega) (by omega)
    have w4 := wr (x := 10 * v + (c - 48)) (by omega) (by omega)
    simp only [v_size_L0, v_size_B0, h1, h2, a3, e1, b1, hc.2, w1, w2, w3, w4, vmust_eq, List.all_cons, hd, Bool.true_and, valD, decide_true]
    simpa [onX] using ih
  · have hd' : dig c = false := by simpa using hd
    simp only [v_size_L0, v_size_B0, h1, h2, a3, e1, vmust_eq, List.all_cons, hd', Bool.false_and]
    by_cases b1 : c ≥ 48
    · have b2 : ¬ c ≤ 57 := by simp [dig] at hd'; omega
      simp [b1, b2, onX]
    · simp [b1, onX]
theorem rsize_L0 (n : Nat) (s : BA) (hs : s.size ≤ 10) : ∀ (r : List Int) (k m : Nat) (v : Int), (bs s).drop k = r → k ≤ s.size → r.length < m → 0 ≤ v → v < 10 ^ k → r4_size_L0 n m s v k = some (if r.all dig = true then .out (valD v r) else .ret (0, false))
 | [], k, m, v, h, hk, hm, h0, hv => by
  obtain ⟨m, rfl⟩ : ∃ q, m = q + 1 := ⟨m - 1, by simp at hm; omega⟩
  have := at_nil h
  simp [r4_size_L0, r4_size_B0, this, valD]
 | c :: r, k, m, v, h, hk, hm, h0, hv => by
  obtain ⟨m, rfl⟩ : ∃ q, m = q + 1 := ⟨m - 1, by simp at hm; omega⟩
  obtain ⟨h1, h2, h3, h4, h5⟩ := at_cons h
  have e1 := wr1 (k := k) (by omega)
  have a3 : (0 : Int) ≤ (k : Int) := by omega
  have hp : (10 : Int) ^ k ≤ 10 ^ 16 := by
   have : (10 : Nat) ^ k ≤ 10 ^ 16 := Nat.pow_le_pow_right (by decide) (by omega)
   exact_mod_cast this
  have hp2 : (10 : Int) ^ 16 = 10000000000000000 := by decide
  have hdg : r4_digit n c = some (dig c) := digit_eq n c
  by_cases hd : dig c = true
  · have hc : 48 ≤ c ∧ c ≤ 57 := by simpa [dig] using hd
    have ih := rsize_L0 n s hs r (k + 1) m (10 * v + (c - 48)) h3 (by omega) (by simpa using hm) (by omega) (by rw [Int.pow_succ]; omega)
    have w1 := wr8 (x := c - 48) (by omega) (by omega)
    have w2 := wr (x := c - 48) (by omega) (by omega)
    have w3 := wr (x := 10 * v) (by omega) (by omega)
    have w4 := wr (x := 10 * v + (c - 48)) (by omega) (by omega)
    simp only [r4_size_L0, r4_size_B0, h1, h2, a3, e1, w1, w2, w3, w4, hdg, hd, List.all_cons, Bool.true_and, valD, Option.bind_some]
    simpa using ih
  · have hd' : dig c = false := by simpa using hd
    simp [r4_size_L0, r4_size_B0, h1, h2, a3, e1, hdg, List.all_cons, hd']
def sizeW (w : List Int) : Bool := decide (1 ≤ w.length) && decide (w.length ≤ 10) && w.all dig && decide (valD 0 w ≤ 1073741824)
theorem sizeP_W (l : List Int) : sizeP l = if l = [] then some (-1) else if (l.take 6).map up = [32, 83, 73, 90, 69, 61] ∧ sizeW (l.drop 6) = true then some (valD 0 (l.drop 6)) else none := by
 unfold sizeP sizeW
 by_cases h0 : l = []
 · rw [if_pos h0, if_pos h0]
 · rw [if_neg h0, if_neg h0]
   simp only [Bool.and_eq_true, decide_eq_true_eq, and_assoc]
theorem rsize_eq (n : Nat) (s : BA) (hn : 10000000 ≤ n) : ∃ z, r4_size n s = some (z, sizeW (bs s), ()) ∧ (sizeW (bs s) = true → z = valD 0 (bs s)) := by
 unfold r4_size r4_size_B sizeW
 rw [bs_len]
 by_cases c1 : 1 ≤ s.size
 · have e1 : decide ((s.size : Int) < (1 : Int)) = false := decide_eq_false (by omega)
   rw [if_pos e1]
   by_cases c2 : s.size ≤ 10
   · have e2 : ¬ decide ((s.size : Int) > (10 : Int)) = true := by simp; omega
     have h := rsize_L0 n s c2 (bs s) 0 n 0 (by simp) (by omega) (by rw [bs_len]; omega) (by omega) (by decide)
     rw [show ((0 : Nat) : Int) = 0 from rfl] at h
     rw [if_neg e2, h, Option.bind_some]
     by_cases g : (bs s).all dig = true
     · rw [if_pos g]
       exact ⟨valD 0 (bs s), by simp [onL, c1, c2, g], fun _ => rfl⟩
     · rw [if_neg g]
       have g' : (bs s).all dig = false := by simpa using g
       exact ⟨0, by simp only [onL, g']; simp, fun hh => by rw [g'] at hh; simp at hh⟩
   · have e2 : decide ((s.size : Int) > (10 : Int)) = true := decide_eq_true (by omega)
     rw [if_pos e2]
     exact ⟨0, by simp [c2], fun hh => by simp [c2] at hh⟩
 · have e1 : ¬ decide ((s.size : Int) < (1 : Int)) = false := by simp; omega
   rw [if_neg e1]
   exact ⟨0, by simp [c1], fun hh => by simp [c1] at hh⟩
theorem vsize_eq (n : Nat) (s : BA) (hs : s.size ≤ 1000000) (hn : 10000000 ≤ n) : v_size n s = some (match sizeP (bs s) with
  | some z => .ok z
  | none => .error 8) := by
 rw [sizeP_W]
 unfold v_size v_size_B
 have e0 : bs (⟨#[]⟩ : BA) = [] := rfl
 have e6 : bs (⟨#[32, 83, 73, 90, 69, 61]⟩ : BA) = [32, 83, 73, 90, 69, 61] := rfl
 have z6 : (⟨#[32, 83, 73, 90, 69, 61]⟩ : BA).size = 6 := rfl
 rw [str_eq, e0]
 by_cases h0 : bs s = []
 · rw [if_pos h0, if_pos (decide_eq_true h0)]
 · rw [if_neg h0, if_neg (by simpa using h0), after_eq n s _ hs hn, e6, z6]
   by_cases h1 : ((bs s).take 6).map up = [32, 83, 73, 90, 69, 61]
   · rw [if_pos h1, Option.bind_some]
     simp only [onX, true_and, h1]
     have ht : bs (s.extract 6 s.size) = (bs s).drop 6 := bs_ext1 s 6
     generalize s.extract 6 s.size = t at ht
     rw [← ht]
     unfold sizeW
     rw [bs_len]
     by_cases c1 : 1 ≤ t.size
     · have e1 : decide ((t.size : Int) ≥ (1 : Int)) = true := decide_eq_true (by omega)
       rw [if_pos e1, vmust_eq]
       by_cases c2 : t.size ≤ 10
       · have e2 : decide ((t.size : Int) ≤ (10 : Int)) = true := decide_eq_true (by omega)
         have h := vsize_L0 n t c2 (bs t) 0 n 0 (by simp) (by omega) (by rw [bs_len]; omega) (by omega) (by decide)
         rw [show ((0 : Nat) : Int) = 0 from rfl] at h
         rw [e2]
         simp only [if_true, Option.bind_some, h]
         by_cases g : (bs t).all dig = true
         · rw [if_pos g]
           by_cases g2 : valD 0 (bs t) ≤ 1073741824
           · simp [onL, vmust_eq, c1, c2, g, g2]
           · simp [onL, vmust_eq, c1, c2, g, g2]
         · have g' : (bs t).all dig = false := by simpa using g
           simp [onL, g']
       · have e2 : decide ((t.size : Int) ≤ (10 : Int)) = false := decide_eq_false (by omega)
         rw [e2]
         simp [c2]
     · have e1 : ¬ decide ((t.size : Int) ≥ (1 : Int)) = true := by simp; omega
       rw [if_neg e1, vmust_eq]
       simp [c1]
   · rw [if_neg h1, Option.bind_some, if_neg (fun hh => h1 hh.1)]
     rfl
/-! Where a path ends. -/
theorem pathEnd_L0 (n : Nat) (s : BA) (hs : s.size ≤ 1000000) : ∀ (N : Nat) (r : List Int) (b : Bool) (k m : Nat), r.length ≤ N → (bs s).drop k = r → k ≤ s.size → r.length + 1 < m →
  ∃ x, r4_pathEnd_L0 n m s b k = some x ∧ onL x (fun a => some (a.size : Int)) (fun a => some a) (fun _ => none) = some ((k : Int) + pe (if b = true then 1 else 0) r)
 | N, [], b, k, m, hN, h, hk, hm => by
  obtain ⟨m, rfl⟩ : ∃ q, m = q + 1 := ⟨m - 1, by omega⟩
  have := at_nil h
  refine ⟨.out s, by simp [r4_pathEnd_L0, r4_pathEnd_B0, this], ?_⟩
  have e : s.size = k := by have := drop_len h hk; simpa using this
  cases b <;> simp [onL, pe, e]
 | 0, c :: r, b, k, m, hN, h, hk, hm => by simp at hN
 | N + 1, c :: r, b, k, m, hN, h, hk, hm => by
  obtain ⟨m, rfl⟩ : ∃ q, m = q + 1 := ⟨m - 1, by omega⟩
  obtain ⟨h1, h2, h3, h4, h5⟩ := at_cons h
  have hN' : r.length ≤ N := by simpa using hN
  have e1 := wr1 (k := k) (by omega)
  have e2 := wr1 (k := k + 1) (by omega)
  have a3 : (0 : Int) ≤ (k : Int) := by omega
  cases b with
  | true =>
   by_cases g1 : c = 92
   · subst g1
     cases r with
     | nil =>
      have hz : s.size = k + 1 := by have := drop_len h hk; simpa using this
      obtain ⟨m, rfl⟩ : ∃ q, m = q + 1 := ⟨m - 1, by simp at hm; omega⟩
      have hlt : ¬ (((k + 1 + 1 : Nat) : Int) < (s.size : Int)) := by omega
      refine ⟨.out s, ?_, by simp [onL, pe, hz]⟩
      simp only [r4_pathEnd_L0, r4_pathEnd_B0, h1, h2, a3, e1, e2, hlt]
      simp
     | cons d r =>
      obtain ⟨_, _, q3, _, _⟩ := at_cons h3
      obtain ⟨x, i1, i2⟩ := pathEnd_L0 n s hs N r true (k + 1 + 1) m (by simp at hN'; omega) q3 (by have := drop_len h hk; simp at this; omega) (by simp at hm; omega)
      refine ⟨x, ?_, ?_⟩
      · rw [← i1]
        simp only [r4_pathEnd_L0, r4_pathEnd_B0, h1, h2, a3, e1, e2]
        simp
      · rw [i2]
        simp only [if_true, pe]
        congr 1
        omega
   · have g1' : (c == 92) = false := by simpa using g1
     by_cases g2 : c = 34
     · subst g2
       obtain ⟨x, i1, i2⟩ := pathEnd_L0 n s hs N r false (k + 1) m hN' h3 (by omega) (by simpa using hm)
       refine ⟨x, ?_, ?_⟩
       · rw [← i1]
         simp only [r4_pathEnd_L0, r4_pathEnd_B0, h1, h2, a3, e1]
         simp
       · rw [i2]
         simp [pe]
         omega
     · have g2' : (c == 34) = false := by simpa using g2
       obtain ⟨x, i1, i2⟩ := pathEnd_L0 n s hs N r true (k + 1) m hN' h3 (by omega) (by simpa using hm)
       refine ⟨x, ?_, ?_⟩
       · rw [← i1]
         simp only [r4_pathEnd_L0, r4_pathEnd_B0, h1, h2, a3, e1, g1', g2']
         simp
       · rw [i2]
         simp [pe, g1, g2]
         omega
  | false =>
   by_cases g2 : c = 34
   · subst g2
     obtain ⟨x, i1, i2⟩ := pathEnd_L0 n s hs N r true (k + 1) m hN' h3 (by omega) (by simpa using hm)
     refine ⟨x, ?_, ?_⟩
     · rw [← i1]
       simp only [r4_pathEnd_L0, r4_pathEnd_B0, h1, h2, a3, e1]
       simp
     · rw [i2]
       simp [pe]
       omega
   · have g2' : (c == 34) = false := by simpa using g2
     by_cases g3 : c = 62
     · subst g3
       refine ⟨.ret ((k + 1 : Nat) : Int), ?_, by simp [onL, pe]⟩
       simp only [r4_pathEnd_L0, r4_pathEnd_B0, h1, h2, a3, e1]
       simp
     · have g3' : (c == 62) = false := by simpa using g3
       obtain ⟨x, i1, i2⟩ := pathEnd_L0 n s hs N r false (k + 1) m hN' h3 (by omega) (by simpa using hm)
       refine ⟨x, ?_, ?_⟩
       · rw [← i1]
         simp only [r4_pathEnd_L0, r4_pathEnd_B0, h1, h2, a3, e1, g2', g3']
         simp
       · rw [i2]
         simp [pe, g2, g3]
         omega
theorem pathEnd_eq (n : Nat) (s : BA) (hs : s.size ≤ 1000000) (hn : 10000000 ≤ n) : r4_pathEnd n s = some ((pe 0 (bs s) : Nat) : Int) := by
 obtain ⟨x, h1, h2⟩ := pathEnd_L0 n s hs _ (bs s) false 0 n (Nat.le_refl _) (by simp) (by omega) (by rw [bs_len]; omega)
 rw [show ((0 : Nat) : Int) = 0 from rfl] at h1
 unfold r4_pathEnd r4_pathEnd_B
 rw [h1, Option.bind_some]
 rw [h2]
 simp
open Go Go.RowKit
abbrev Vb := Int × (BA × (Bool × ((BA × (BA × Unit)) × (Int × Unit))))
def vL (k : Int) (w : List Int) (nl : Bool) (a b : List Int) (z : Int) : Bool :=
 if k = 1 then (!nl && (decide (a = []) && (decide (b = []) && decide (z = 0)))) && domR w
 else if k = 2 then (!nl && (decide (a = []) && (decide (b = []) && decide (z = 0)))) && domR w
 else if k = 3 then decide (w = []) && ((if nl = true then decide (a = []) && decide (b = []) else locR a && domR b) && (decide (-1 ≤ z) && decide (z ≤ 1073741824)))
 else if k = 4 then (decide (w = []) && (decide (z = 0) && !nl)) && (locR a && domR b)
 else if k = 7 then (!nl && (decide (a = []) && (decide (b = []) && decide (z = 0)))) && (wordsP w || decide (w = []))
 else if k = 9 then (!nl && (decide (a = []) && (decide (b = []) && decide (z = 0)))) && wordsP w
 else if k = 5 then decide (w = []) && (!nl && (decide (a = []) && (decide (b = []) && decide (z = 0))))
 else if k = 6 then decide (w = []) && (!nl && (decide (a = []) && (decide (b = []) && decide (z = 0))))
 else if k = 8 then decide (w = []) && (!nl && (decide (a = []) && (decide (b = []) && decide (z = 0))))
 else false
theorem e0s : bs (⟨#[]⟩ : BA) = [] := rfl
theorem nil_dec (l : List Int) : decide ([] = l) = decide (l = []) := by rw [decide_eq_decide]; exact eq_comm
theorem zero_beq (z : Int) : ((0 : Int) == z) = decide (z = 0) := by
 by_cases h : z = 0
 · subst h; rfl
 · rw [decide_eq_false h]; simpa using fun e => h e.symm
theorem beq_zero (z : Int) : (z == (0 : Int)) = decide (z = 0) := by
 by_cases h : z = 0
 · subst h; rfl
 · rw [decide_eq_false h]; simpa using h
theorem vMay_eq (n : Nat) (k : Int) (w a b : BA) (nl : Bool) (z : Int) (hw : w.size ≤ 1000000) (ha : a.size ≤ 100000) (hb : b.size ≤ 100000) (hn : 10000000 ≤ n) :
  v_May n (k, (w, (nl, ((a, (b, ())), (z, ()))))) = some (vL k (bs w) nl (bs a) (bs b) z) := by
 have hd := IsDomain_eq n w hw hn
 rw [dom_same] at hd
 have hm := aMay_eq n a b ha hb hn
 have hwd := vwords_eq n w hw hn
 have g1 : decide (z ≥ -1) = decide (-1 ≤ z) := rfl
 unfold v_May v_May_B v_only v_only_B vL
 simp only [dup_self, both_self]
 by_cases k1 : k = 1
 · subst k1
   simp only [hd, Option.bind_some, str_eq, e0s, nil_dec, zero_beq, Bool.and_assoc]
   cases domR (bs w) <;> cases nl <;> simp [e0s, nil_dec, zero_beq, Bool.and_assoc]
 by_cases k2 : k = 2
 · subst k2
   simp only [hd, Option.bind_some, str_eq, e0s, nil_dec, zero_beq, Bool.and_assoc]
   cases domR (bs w) <;> cases nl <;> simp [e0s, nil_dec, zero_beq, Bool.and_assoc]
 by_cases k3 : k = 3
 · subst k3
   simp only [hm, Option.bind_some, str_eq, e0s, nil_dec, zero_beq, g1]
   cases nl
   · by_cases q : (locR (bs a) && domR (bs b)) = true
     · by_cases z1 : -1 ≤ z <;> by_cases z2 : z ≤ 1073741824 <;> simp [q, z1, z2, e0s, nil_dec, zero_beq, Bool.and_assoc]
     · have q' : (locR (bs a) && domR (bs b)) = false := by simpa using q
       simp [q', e0s, nil_dec, zero_beq, Bool.and_assoc]
   · by_cases z1 : -1 ≤ z <;> by_cases z2 : z ≤ 1073741824 <;> simp [z1, z2, e0s, nil_dec, zero_beq, Bool.and_assoc]
 by_cases k4 : k = 4
 · subst k4
   simp only [hm, Option.bind_some, str_eq, e0s, nil_dec, zero_beq, Bool.and_assoc]
   by_cases q : (locR (bs a) && domR (bs b)) = true
   · cases nl <;> simp [q, e0s, nil_dec, zero_beq, Bool.and_assoc]
   · have q' : (locR (bs a) && domR (bs b)) = false := by simpa using q
     simp [q', e0s, nil_dec, zero_beq, Bool.and_assoc]
 by_cases k7 : k = 7
 · subst k7
   simp only [hwd, Option.bind_some, str_eq, e0s, nil_dec, zero_beq, Bool.and_assoc]
   by_cases q : wordsP (bs w) = true
   · cases nl <;> simp [q, e0s, nil_dec, zero_beq, Bool.and_assoc]
   · have q' : wordsP (bs w) = false := by simpa using q
     by_cases ew : bs w = []
     · cases nl <;> simp [q', ew, e0s, nil_dec, zero_beq, Bool.and_assoc]
     · simp [q', ew, e0s, nil_dec, zero_beq, Bool.and_assoc]
 by_cases k9 : k = 9
 · subst k9
   simp only [hwd, Option.bind_some, str_eq, e0s, nil_dec, zero_beq, Bool.and_assoc]
   by_cases q : wordsP (bs w) = true
   · cases nl <;> simp [q, e0s, nil_dec, zero_beq, Bool.and_assoc]
   · have q' : wordsP (bs w) = false := by simpa using q
     by_cases ew : bs w = []
     · have q2 : wordsP [] = false := by rw [← ew]; exact q'
       simp [q2, q', ew, e0s, nil_dec, zero_beq, Bool.and_assoc]
     · simp [q', ew, e0s, nil_dec, zero_beq, Bool.and_assoc]
 by_cases k5 : k = 5
 · subst k5
   simp only [Option.bind_some, str_eq, e0s, nil_dec, zero_beq, Bool.and_assoc]
   cases nl <;> simp [e0s, nil_dec, zero_beq, Bool.and_assoc]
 by_cases k6 : k = 6
 · subst k6
   simp only [Option.bind_some, str_eq, e0s, nil_dec, zero_beq, Bool.and_assoc]
   cases nl <;> simp [e0s, nil_dec, zero_beq, Bool.and_assoc]
 by_cases k8 : k = 8
 · subst k8
   simp only [Option.bind_some, str_eq, e0s, nil_dec, zero_beq, Bool.and_assoc]
   cases nl <;> simp [e0s, nil_dec, zero_beq, Bool.and_assoc]
 have c : ∀ q : Int, k ≠ q → (k == q) = false := fun q h => by simpa using h
 simp [c 1 k1, c 2 k2, c 3 k3, c 4 k4, c 5 k5, c 6 k6, c 7 k7, c 8 k8, c 9 k9, k1, k2, k3, k4, k5, k6, k7, k8, k9, e0s, nil_dec, zero_beq, Bool.and_assoc]
theorem rVerb_eq (n : Nat) (k : Int) (w a b : BA) (nl : Bool) (z : Int) (hw : w.size ≤ 1000000) (ha : a.size ≤ 100000) (hb : b.size ≤ 100000) (hn : 10000000 ≤ n) :
  r4_Verb n (k, (w, (nl, ((a, (b, ())), (z, ()))))) = some (vL k (bs w) nl (bs a) (bs b) z) := by
 have hd := rDomain_eq n w hw hn
 have hm : r4_May n (a, (b, ())) = some (locR (bs a) && domR (bs b)) := May_eq n a b (by omega) (by omega) hn
 have hwd := rwords_eq n w hw hn
 have g1 : decide (z ≥ -1) = decide (-1 ≤ z) := rfl
 unfold r4_Verb r4_Verb_B vL
 simp only [dup_self, both_self]
 by_cases k1 : k = 1
 · subst k1
   simp only [hd, Option.bind_some, str_eq, e0s, beq_zero, Bool.and_assoc]
   cases nl
   · by_cases ea : bs a = [] <;> by_cases eb : bs b = [] <;> by_cases ez : z = 0 <;> simp [ea, eb, ez, e0s, beq_zero, Bool.and_assoc]
   · simp [e0s, beq_zero, Bool.and_assoc]
 by_cases k2 : k = 2
 · subst k2
   simp only [hd, Option.bind_some, str_eq, e0s, beq_zero, Bool.and_assoc]
   cases nl
   · by_cases ea : bs a = [] <;> by_cases eb : bs b = [] <;> by_cases ez : z = 0 <;> simp [ea, eb, ez, e0s, beq_zero, Bool.and_assoc]
   · simp [e0s, beq_zero, Bool.and_assoc]
 by_cases k3 : k = 3
 · subst k3
   simp only [hm, Option.bind_some, str_eq, e0s, beq_zero, g1]
   by_cases ew : bs w = []
   · cases nl
     · by_cases q : (locR (bs a) && domR (bs b)) = true
       · by_cases z1 : -1 ≤ z <;> simp [q, z1, ew, e0s, beq_zero, Bool.and_assoc]
       · have q' : (locR (bs a) && domR (bs b)) = false := by simpa using q
         simp [q', ew, e0s, beq_zero, Bool.and_assoc]
     · by_cases ea : bs a = [] <;> by_cases eb : bs b = [] <;> by_cases z1 : -1 ≤ z <;> simp [z1, ea, eb, ew, e0s, beq_zero, Bool.and_assoc]
   · cases nl
     · simp [ew, e0s, beq_zero, Bool.and_assoc]
     · by_cases ea : bs a = [] <;> by_cases eb : bs b = [] <;> simp [ew, ea, eb, e0s, beq_zero, Bool.and_assoc]
 by_cases k4 : k = 4
 · subst k4
   simp only [hm, Option.bind_some, str_eq, e0s, beq_zero, Bool.and_assoc]
   cases nl
   · by_cases ew : bs w = [] <;> by_cases ez : z = 0 <;> simp [ew, ez, e0s, beq_zero, Bool.and_assoc]
   · simp [e0s, beq_zero, Bool.and_assoc]
 by_cases k7 : k = 7
 · subst k7
   simp only [hwd, Option.bind_some, str_eq, e0s, beq_zero, Bool.and_assoc]
   cases nl
   · by_cases ea : bs a = [] <;> by_cases eb : bs b = [] <;> by_cases ez : z = 0 <;> by_cases ew : bs w = [] <;> simp [ea, eb, ez, ew, e0s, beq_zero, Bool.and_assoc]
   · simp [e0s, beq_zero, Bool.and_assoc]
 by_cases k9 : k = 9
 · subst k9
   simp only [hwd, Option.bind_some, str_eq, e0s, beq_zero, Bool.and_assoc]
   cases nl
   · by_cases ea : bs a = [] <;> by_cases eb : bs b = [] <;> by_cases ez : z = 0 <;> simp [ea, eb, ez, e0s, beq_zero, Bool.and_assoc]
   · simp [e0s, beq_zero, Bool.and_assoc]
 by_cases k5 : k = 5
 · subst k5
   simp only [Option.bind_some, str_eq, e0s, beq_zero]
   cases nl
   · by_cases ew : bs w = [] <;> by_cases ea : bs a = [] <;> by_cases eb : bs b = [] <;> by_cases ez : z = 0 <;> simp [ew, ea, eb, ez, e0s, beq_zero]
   · simp [e0s, beq_zero]
 by_cases k6 : k = 6
 · subst k6
   simp only [Option.bind_some, str_eq, e0s, beq_zero]
   cases nl
   · by_cases ew : bs w = [] <;> by_cases ea : bs a = [] <;> by_cases eb : bs b = [] <;> by_cases ez : z = 0 <;> simp [ew, ea, eb, ez, e0s, beq_zero]
   · simp [e0s, beq_zero]
 by_cases k8 : k = 8
 · subst k8
   simp only [Option.bind_some, str_eq, e0s, beq_zero]
   cases nl
   · by_cases ew : bs w = [] <;> by_cases ea : bs a = [] <;> by_cases eb : bs b = [] <;> by_cases ez : z = 0 <;> simp [ew, ea, eb, ez, e0s, beq_zero]
   · simp [e0s, beq_zero]
 have c : ∀ q : Int, k ≠ q → (k == q) = false := fun q h => by simpa using h
 simp [c 1 k1, c 2 k2, c 3 k3, c 4 k4, c 5 k5, c 6 k6, c 7 k7, c 8 k8, c 9 k9, k1, k2, k3, k4, k5, k6, k7, k8, k9, e0s, beq_zero, Bool.and_assoc]
theorem vCheck_eq (n : Nat) (k : Int) (w a b : BA) (nl : Bool) (z : Int) (hw : w.size ≤ 1000000) (ha : a.size ≤ 100000) (hb : b.size ≤ 100000) (hn : 10000000 ≤ n) :
  v_Check n (k, (w, (nl, ((a, (b, ())), (z, ()))))) = some (if vL k (bs w) nl (bs a) (bs b) z = true then 0 else 1) := by
 unfold v_Check v_Check_B
 rw [vMay_eq n k w a b nl z hw ha hb hn, Option.bind_some]
 cases vL k (bs w) nl (bs a) (bs b) z <;> rfl
open Go Go.RowKit
/-! Numbers as texts. -/
def decI (u : Nat) : List Int := ints (Lib.decDigits u)
theorem decI_lt {u : Nat} (h : u < 10) : decI u = [48 + (u : Int)] := by
 unfold decI
 rw [Lib.decDigits, dif_pos h]
 show [((UInt8.ofNat (48 + u)).toNat : Int)] = _
 rw [fin_ints ⟨u, h⟩]
theorem decI_ge {u : Nat} (h : ¬ u < 10) : decI u = decI (u / 10) ++ [48 + ((u % 10 : Nat) : Int)] := by
 have h10 : u % 10 < 10 := Nat.mod_lt _ (by omega)
 unfold decI
 rw [Lib.decDigits, dif_neg h]
 simp only [ints, List.map_append, List.map_cons, List.map_nil]
 rw [fin_ints ⟨u % 10, h10⟩]
def dch (x : Int) : BA := strOf 1 (fun q => List.getD (α := Int) [(IntKind.wrap .u8 (IntKind.wrap .i64 ((48 : Int) + x)))] q (zeroEl (.int .u8)))
theorem dch_bs {x : Int} (h0 : 0 ≤ x) (h1 : x < 10) : bs (dch x) = [48 + x] := by
 have w1 : IntKind.wrap .i64 (48 + x) = 48 + x := wr (by omega) (by omega)
 have w2 : IntKind.wrap .u8 (48 + x) = 48 + x := wr8 (by omega) (by omega)
 unfold dch
 rw [w1, w2, bs_strOf (fun i hi => by
  have : i = 0 := by omega
  subst this
  show 0 ≤ 48 + x ∧ 48 + x < 256
  omega)]
 rfl
theorem dch_sz {x : Int} (h0 : 0 ≤ x) (h1 : x < 10) : (dch x).size = 1 := by rw [← bs_len, dch_bs h0 h1]; rfl
theorem Decimal_L0 (n : Nat) : ∀ (d m : Nat) (u : Nat) (s : BA), d < m → u < 10 ^ (d + 1) → u ≤ 2147483648 → s.size + d ≤ 1000 →
  ∃ (a : Nat) (t : BA), r0_Decimal_L0 n m (u : Int) s = some (.out ((a : Int), t)) ∧ a < 10 ∧ (48 + (a : Int)) :: bs t = decI u ++ bs s ∧ t.size ≤ s.size + d
 | d, m, u, s, hm, hu, hb, hs => by
  obtain ⟨m, rfl⟩ : ∃ q, m = q + 1 := ⟨m - 1, by omega⟩
  by_cases g : u < 10
  · have e : ¬ ((u : Int) ≥ 10) := by omega
    refine ⟨u, s, by simp [r0_Decimal_L0, r0_Decimal_B0, e], g, by rw [decI_lt g]; rfl, by omega⟩
  · cases d with
    | zero => simp at hu; omega
    | succ d =>
     have e : decide ((u : Int) ≥ 10) = true := decide_eq_true (by omega)
     have hmod : Int.tmod (u : Int) 10 = ((u % 10 : Nat) : Int) := (Int.ofNat_tmod u 10).symm
     have hdiv : Int.tdiv (u : Int) 10 = ((u / 10 : Nat) : Int) := (Int.ofNat_tdiv u 10).symm
     have h10 : u % 10 < 10 := Nat.mod_lt _ (by omega)
     have hz := dch_sz (x := ((u % 10 : Nat) : Int)) (by omega) (by omega)
     have hf : strFits (dch ((u % 10 : Nat) : Int)) s = true := fitS (by omega)
     have hw : IntKind.wrap .i64 ((u / 10 : Nat) : Int) = ((u / 10 : Nat) : Int) := wr (by omega) (by omega)
     have hlt : u / 10 < 10 ^ (d + 1) := by
      rw [Nat.pow_succ] at hu
      omega
     obtain ⟨a, t, h1, h2, h3, h4⟩ := Decimal_L0 n d m (u / 10) (dch ((u % 10 : Nat) : Int) ++ s) (by omega) hlt (by omega) (by rw [ByteArray.size_append, hz]; omega)
     refine ⟨a, t, ?_, h2, ?_, by rw [ByteArray.size_append, hz] at h4; omega⟩
     · rw [← h1]
       show r0_Decimal_B0 n (u : Int) s _ _ _ _ = _
       unfold r0_Decimal_B0
       rw [if_pos e, hmod, hdiv, hw]
       exact if_pos hf
     · rw [h3, bs_app, dch_bs (by omega) (by omega), decI_ge g, List.append_assoc]
theorem Decimal_eq (n : Nat) (z : Int) (h0 : 0 ≤ z) (h1 : z ≤ 1073741824) (hn : 10000000 ≤ n) : ∃ t, r0_Decimal n z = some t ∧ bs t = decI z.toNat ∧ t.size ≤ 20 := by
 obtain ⟨u, rfl⟩ : ∃ u : Nat, z = (u : Int) := ⟨z.toNat, by omega⟩
 have h10 : (10 : Nat) ^ 12 = 1000000000000 := by decide
 have e0 : (⟨#[]⟩ : BA).size = 0 := rfl
 obtain ⟨a, t, k1, k2, k3, k4⟩ := Decimal_L0 n 11 n u (⟨#[]⟩ : BA) (by omega) (by omega) (by omega) (by omega)
 have hz := dch_sz (x := (a : Int)) (by omega) (by omega)
 have hf : strFits (dch (a : Int)) t = true := fitS (by omega)
 refine ⟨dch (a : Int) ++ t, ?_, ?_, by rw [ByteArray.size_append]; omega⟩
 · unfold r0_Decimal r0_Decimal_B
   rw [if_neg (by simp), k1, Option.bind_some]
   exact if_pos hf
 · rw [bs_app, dch_bs (by omega) (by omega)]
   show (48 + (a : Int)) :: bs t = _
   rw [k3, e0s, List.append_nil]; rfl
theorem decI_len {u : Nat} (h : u ≤ 1073741824) : (decI u).length ≤ 20 := by
 obtain ⟨t, _, h2, h3⟩ := Decimal_eq 10000000 (u : Int) (by omega) (by omega) (Nat.le_refl _)
 rw [bs_len t |>.symm, h2] at h3
 simpa using h3
theorem itoaF_eq (z : Int) (h0 : 0 ≤ z) (h1 : z ≤ 1073741824) : ∃ t, itoaF z = some t ∧ bs t = decI z.toNat ∧ t.size ≤ 20 := by
 obtain ⟨u, rfl⟩ : ∃ u : Nat, z = (u : Int) := ⟨z.toNat, by omega⟩
 have hb : bs (⟨(Lib.decDigits u).toArray⟩ : BA) = decI u := by simp [bs, decI, ints]
 refine ⟨⟨(Lib.decDigits u).toArray⟩, ?_, by rw [hb]; rfl, ?_⟩
 · unfold itoaF
   rw [if_pos ⟨by omega, by omega⟩]
   unfold Lib.itoa
   rw [if_neg (by omega)]; rfl
 · rw [← bs_len, hb]; exact decI_len (by omega)
/-! Texts. -/
def nmL (k : Int) : List Int := if k = 1 then [72, 69, 76, 79] else if k = 2 then [69, 72, 76, 79] else if k = 3 then [77, 65, 73, 76] else if k = 4 then [82, 67, 80, 84] else
 if k = 5 then [68, 65, 84, 65] else if k = 6 then [82, 83, 69, 84] else if k = 7 then [78, 79, 79, 80] else if k = 8 then [81, 85, 73, 84] else [86, 82, 70, 89]
def szL (z : Int) : List Int := if 0 ≤ z then [32, 83, 73, 90, 69, 61] ++ decI z.toNat else []
def tL (k : Int) (w : List Int) (nl : Bool) (a b : List Int) (z : Int) : List Int :=
 if k = 3 then nmL k ++ ([32, 70, 82, 79, 77, 58] ++ (60 :: ((if nl = true then [] else a ++ 64 :: b) ++ 62 :: szL z)))
 else if k = 4 then nmL k ++ ([32, 84, 79, 58] ++ (60 :: ((a ++ 64 :: b) ++ [62])))
 else if w = [] then nmL k else nmL k ++ 32 :: w
theorem vL_kind {k : Int} {w : List Int} {nl : Bool} {a b : List Int} {z : Int} (h : vL k w nl a b z = true) : k = 1 ∨ k = 2 ∨ k = 3 ∨ k = 4 ∨ k = 5 ∨ k = 6 ∨ k = 7 ∨ k = 8 ∨ k = 9 := by
 unfold vL at h
 repeat' (split at h)
 all_goals first | omega | cases h
theorem vL_size {w : List Int} {nl : Bool} {a b : List Int} {z : Int} (h : vL 3 w nl a b z = true) : -1 ≤ z ∧ z ≤ 1073741824 := by
 simp [vL] at h
 exact h.2.2
theorem vText_no (n : Nat) (k : Int) (w a b : BA) (nl : Bool) (z : Int) (hw : w.size ≤ 1000000) (ha : a.size ≤ 100000) (hb : b.size ≤ 100000) (hn : 10000000 ≤ n) (hv : vL k (bs w) nl (bs a) (bs b) z = false) :
  v_Text n (k, (w, (nl, ((a, (b, ())), (z, ()))))) = some ((⟨#[]⟩ : BA), (1, ())) := by
 have hM := vMay_eq n k w a b nl z hw ha hb hn
 rw [hv] at hM
 unfold v_Text v_Text_B
 simp only [hM, Option.bind_some]
 rfl
theorem vText_eq (n : Nat) (k : Int) (w a b : BA) (nl : Bool) (z : Int) (hw : w.size ≤ 1000000) (ha : a.size ≤ 100000) (hb : b.size ≤ 100000) (hn : 10000000 ≤ n) (hv : vL k (bs w) nl (bs a) (bs b) z = true) :
  ∃ t, v_Text n (k, (w, (nl, ((a, (b, ())), (z, ()))))) = some (t, (0, ())) ∧ bs t = tL k (bs w) nl (bs a) (bs b) z := by
 have hM := vMay_eq n k w a b nl z hw ha hb hn
 rw [hv] at hM
 have hL := (Lay_eq n a b ha hb).1
 have z1 : (⟨#[32]⟩ : BA).size = 1 := rfl
 have z2 : (⟨#[62]⟩ : BA).size = 1 := rfl
 have z3 : (⟨#[64]⟩ : BA).size = 1 := rfl
 have z4 : (⟨#[32, 70, 82, 79, 77, 58, 60]⟩ : BA).size = 7 := rfl
 have z5 : (⟨#[32, 70, 82, 79, 77, 58, 60, 62]⟩ : BA).size = 8 := rfl
 have z6 : (⟨#[32, 84, 79, 58, 60]⟩ : BA).size = 5 := rfl
 have z7 : (⟨#[32, 83, 73, 90, 69, 61]⟩ : BA).size = 6 := rfl
 have nm : ∀ q : Int, 1 ≤ q → q ≤ 9 → ∃ x, v_names n q = some x ∧ bs x = nmL q ∧ x.size = 4 := fun q h1 h2 => by
  have : q = 1 ∨ q = 2 ∨ q = 3 ∨ q = 4 ∨ q = 5 ∨ q = 6 ∨ q = 7 ∨ q = 8 ∨ q = 9 := by omega
  rcases this with rfl | rfl | rfl | rfl | rfl | rfl | rfl | rfl | rfl <;> exact ⟨_, rfl, rfl, rfl⟩
 have hk := vL_kind hv
 obtain ⟨x, hx, hxb, hxz⟩ := nm k (by omega) (by omega)
 unfold v_Text v_Text_B
 simp only [hM, hx, hL, Option.bind_some]
 by_cases k3 : k = 3
 · subst k3
   have hz := vL_size hv
   by_cases h0 : 0 ≤ z
   · obtain ⟨t, ht1, ht2, ht3⟩ := itoaF_eq z h0 hz.2
     cases nl
     · refine ⟨_, by
        simp (disch := (simp only [ByteArray.size_append, z1, z2, z3, z4, z5, z6, z7]; omega)) [h0, ht1, fitS]
        rfl, ?_⟩
       simp [tL, szL, h0, bs_app, ht2, hxb]
       rfl
     · refine ⟨_, by
        simp (disch := (simp only [ByteArray.size_append, z1, z2, z3, z4, z5, z6, z7]; omega)) [h0, ht1, fitS]
        rfl, ?_⟩
       simp [tL, szL, h0, bs_app, ht2, hxb]
       rfl
   · have h0' : z < 0 := by omega
     cases nl
     · refine ⟨_, by
        simp (disch := (simp only [ByteArray.size_append, z1, z2, z3, z4, z5, z6, z7]; omega)) [h0, fitS]
        rfl, ?_⟩
       simp [tL, szL, h0, bs_app, hxb]
       rfl
     · refine ⟨_, by
        simp (disch := (simp only [ByteArray.size_append, z1, z2, z3, z4, z5, z6, z7]; omega)) [h0, fitS]
        rfl, ?_⟩
       simp [tL, szL, h0, bs_app, hxb]
       rfl
 have c3 : (k == 3) = false := by simpa using k3
 by_cases k4 : k = 4
 · subst k4
   refine ⟨_, by
    simp (disch := (simp only [ByteArray.size_append, z1, z2, z3, z4, z5, z6, z7]; omega)) [fitS]
    rfl, ?_⟩
   simp [tL, bs_app, hxb]
   rfl
 have c4 : (k == 4) = false := by simpa using k4
 simp only [str_eq, e0s]
 by_cases ew : bs w = []
 · refine ⟨x, by simp [c3, c4, str_eq, e0s, ew], ?_⟩
   simp [tL, k3, k4, ew, hxb]
 · refine ⟨_, by
    simp (disch := (simp only [ByteArray.size_append, z1, z2, z3, z4, z5, z6, z7]; omega)) [c3, c4, str_eq, e0s, ew, fitS]
    rfl, ?_⟩
   simp [tL, k3, k4, ew, hxb, bs_app]
   rfl
theorem rText_eq (n : Nat) (k : Int) (w a b : BA) (nl : Bool) (z : Int) (hw : w.size ≤ 1000000) (ha : a.size ≤ 100000) (hb : b.size ≤ 100000) (hn : 10000000 ≤ n) (hv : vL k (bs w) nl (bs a) (bs b) z = true) :
  ∃ t, r4_VerbText n (k, (w, (nl, ((a, (b, ())), (z, ()))))) = some t ∧ bs t = tL k (bs w) nl (bs a) (bs b) z := by
 have hL : r4_Text n (a, (b, ())) = _ := (Lay_eq n a b ha hb).2
 have z1 : (⟨#[32]⟩ : BA).size = 1 := rfl
 have z2 : (⟨#[62]⟩ : BA).size = 1 := rfl
 have z3 : (⟨#[64]⟩ : BA).size = 1 := rfl
 have z4 : (⟨#[32, 70, 82, 79, 77, 58, 60]⟩ : BA).size = 7 := rfl
 have z6 : (⟨#[32, 84, 79, 58, 60]⟩ : BA).size = 5 := rfl
 have z7 : (⟨#[32, 83, 73, 90, 69, 61]⟩ : BA).size = 6 := rfl
 have nm : ∀ q : Int, 1 ≤ q → q ≤ 9 → ∃ x, r4_name n q = some x ∧ bs x = nmL q ∧ x.size = 4 := fun q h1 h2 => by
  have : q = 1 ∨ q = 2 ∨ q = 3 ∨ q = 4 ∨ q = 5 ∨ q = 6 ∨ q = 7 ∨ q = 8 ∨ q = 9 := by omega
  rcases this with rfl | rfl | rfl | rfl | rfl | rfl | rfl | rfl | rfl <;> exact ⟨_, rfl, rfl, rfl⟩
 have hk := vL_kind hv
 obtain ⟨x, hx, hxb, hxz⟩ := nm k (by omega) (by omega)
 unfold r4_VerbText r4_VerbText_B
 simp only [hx, hL, Option.bind_some]
 by_cases k3 : k = 3
 · subst k3
   have hz := vL_size hv
   by_cases h0 : 0 ≤ z
   · obtain ⟨t, ht1, ht2, ht3⟩ := Decimal_eq n z h0 hz.2 hn
     cases nl
     · refine ⟨_, by
        simp (disch := (simp only [ByteArray.size_append, z1, z2, z3, z4, z6, z7]; omega)) [h0, ht1, fitS]
        rfl, ?_⟩
       simp [tL, szL, h0, bs_app, ht2, hxb]
       rfl
     · refine ⟨_, by
        simp (disch := (simp only [ByteArray.size_append, z1, z2, z3, z4, z6, z7]; omega)) [h0, ht1, fitS]
        rfl, ?_⟩
       simp [tL, szL, h0, bs_app, ht2, hxb]
       rfl
   · cases nl
     · refine ⟨_, by
        simp (disch := (simp only [ByteArray.size_append, z1, z2, z3, z4, z6, z7]; omega)) [h0, fitS]
        rfl, ?_⟩
       simp [tL, szL, h0, bs_app, hxb]
       rfl
     · refine ⟨_, by
        simp (disch := (simp only [ByteArray.size_append, z1, z2, z3, z4, z6, z7]; omega)) [h0, fitS]
        rfl, ?_⟩
       simp [tL, szL, h0, bs_app, hxb]
       rfl
 have c3 : (k == 3) = false := by simpa using k3
 by_cases k4 : k = 4
 · subst k4
   refine ⟨_, by
    simp (disch := (simp only [ByteArray.size_append, z1, z2, z3, z4, z6, z7]; omega)) [fitS]
    rfl, ?_⟩
   simp [tL, bs_app, hxb]
   rfl
 have c4 : (k == 4) = false := by simpa using k4
 simp only [str_eq, e0s]
 by_cases ew : bs w = []
 · refine ⟨x, by simp [c3, c4, str_eq, e0s, ew], ?_⟩
   simp [tL, k3, k4, ew, hxb]
 · refine ⟨_, by
    simp (disch := (simp only [ByteArray.size_append, z1, z2, z3, z4, z6, z7]; omega)) [c3, c4, str_eq, e0s, ew, fitS]
    rfl, ?_⟩
   simp [tL, k3, k4, ew, hxb, bs_app]
   rfl
open Go Go.RowKit
noncomputable def rdM (n : Nat) (v2 : Int) (t : BA) : Option (Except Int Vb) :=
 if (v2 == (3 : Int)) = true then
  (v_after n t (⟨#[32, 70, 82, 79, 77, 58]⟩ : BA)).bind fun x_2 => onX x_2 (fun p1 =>
  some (Except.error p1)) (fun v3 =>
  (v_path n v3).bind fun x_3 => onX x_3 (fun p2 =>
  some (Except.error p2)) (fun v4 =>
  (v_size n v4.2.2.1).bind fun x_4 => onX x_4 (fun p3 =>
  some (Except.error p3)) (fun v5 =>
  (v_May n (v2, ((⟨#[]⟩ : BA), (v4.2.1, ((v4.1.1, (v4.1.2.1, ())), (v5, ())))))).bind fun v6 =>
  (v_must n v6 (8 : Int)).bind fun x_5 => onX x_5 (fun p4 =>
  some (Except.error p4)) (fun v7 =>
  some (Except.ok (v2, ((⟨#[]⟩ : BA), (v4.2.1, ((v4.1.1, (v4.1.2.1, ())), (v5, ()))))))))))
 else
  if (v2 == (4 : Int)) = true then
  (v_after n t (⟨#[32, 84, 79, 58]⟩ : BA)).bind fun x_6 => onX x_6 (fun p5 =>
   some (Except.error p5)) (fun v8 =>
  (v_path n v8).bind fun x_7 => onX x_7 (fun p6 =>
   some (Except.error p6)) (fun v9 =>
  (v_must n (v9.2.2.1.toList == (⟨#[]⟩ : BA).toList) (8 : Int)).bind fun x_8 => onX x_8 (fun p7 =>
   some (Except.error p7)) (fun v10 =>
  (v_May n (v2, ((⟨#[]⟩ : BA), (v9.2.1, ((v9.1.1, (v9.1.2.1, ())), ((0 : Int), ())))))).bind fun v11 =>
  (v_must n v11 (8 : Int)).bind fun x_9 => onX x_9 (fun p8 =>
   some (Except.error p8)) (fun v12 =>
  some (Except.ok (v2, ((⟨#[]⟩ : BA), (v9.2.1, ((v9.1.1, (v9.1.2.1, ())), ((0 : Int), ()))))))))))
  else
  if (v2 == (1 : Int)) = true then
   (st_TrimPrefix n t (⟨#[32]⟩ : BA)).bind fun v13 =>
   (ad_Domain n v13).bind fun v14 =>
   (v_must n (v14.2.1 == (0 : Int)) (8 : Int)).bind fun x_10 => onX x_10 (fun p9 =>
   some (Except.error p9)) (fun v15 =>
   (v_May n (v2, (v14.1, (false, (((⟨#[]⟩ : BA), ((⟨#[]⟩ : BA), ())), ((0 : Int), ())))))).bind fun v16 =>
   (v_must n v16 (8 : Int)).bind fun x_11 => onX x_11 (fun p10 =>
   some (Except.error p10)) (fun v17 =>
   some (Except.ok (v2, (v14.1, (false, (((⟨#[]⟩ : BA), ((⟨#[]⟩ : BA), ())), ((0 : Int), ()))))))))
  else
   if (v2 == (2 : Int)) = true then
   (st_TrimPrefix n t (⟨#[32]⟩ : BA)).bind fun v18 =>
   (ad_Domain n v18).bind fun v19 =>
   (v_must n (v19.2.1 == (0 : Int)) (8 : Int)).bind fun x_12 => onX x_12 (fun p11 =>
    some (Except.error p11)) (fun v20 =>
   (v_May n (v2, (v19.1, (false, (((⟨#[]⟩ : BA), ((⟨#[]⟩ : BA), ())), ((0 : Int), ())))))).bind fun v21 =>
   (v_must n v21 (8 : Int)).bind fun x_13 => onX x_13 (fun p12 =>
    some (Except.error p12)) (fun v22 =>
   some (Except.ok (v2, (v19.1, (false, (((⟨#[]⟩ : BA), ((⟨#[]⟩ : BA), ())), ((0 : Int), ()))))))))
   else
   (v_must n (!(t.toList == (⟨#[32]⟩ : BA).toList)) (8 : Int)).bind fun x_14 => onX x_14 (fun p13 =>
    some (Except.error p13)) (fun v23 =>
   (st_TrimPrefix n t (⟨#[32]⟩ : BA)).bind fun v24 =>
   (v_May n (v2, (v24, (false, (((⟨#[]⟩ : BA), ((⟨#[]⟩ : BA), ())), ((0 : Int), ())))))).bind fun v25 =>
   (v_must n v25 (8 : Int)).bind fun x_15 => onX x_15 (fun p14 =>
    some (Except.error p14)) (fun v26 =>
   some (Except.ok (v2, (v24, (false, (((⟨#[]⟩ : BA), ((⟨#[]⟩ : BA), ())), ((0 : Int), ()))))))))
abbrev Cnd := List Int × (Bool × (List Int × (List Int × Int)))
def mailC (t : List Int) : Option Cnd := match pthL (t.take (pe 0 t)), sizeP (t.drop (pe 0 t)) with
 | some v, some z => some ([], (v.1, (v.2.1, (v.2.2, z))))
 | _, _ => none
def cand (k : Int) (r : List Int) : Option Cnd :=
 if k = 3 then (if (r.take 6).map up = [32, 70, 82, 79, 77, 58] then mailC (trim1 (r.drop 6)) else none)
 else if k = 4 then (if (r.take 4).map up = [32, 84, 79, 58] then (pthL (trim1 (r.drop 4))).map fun v => ([], (v.1, (v.2.1, (v.2.2, 0)))) else none)
 else if k = 1 then some ((trim1 r).map low, (false, ([], ([], 0))))
 else if k = 2 then some ((trim1 r).map low, (false, ([], ([], 0))))
 else if r = [32] then none else some (trim1 r, (false, ([], ([], 0))))
def okC (k : Int) (c : Option Cnd) : Option Cnd := c.bind fun x => if vL k x.1 x.2.1 x.2.2.1 x.2.2.2.1 x.2.2.2.2 = true then some x else none
def RdIs (k : Int) (e : Option (Except Int Vb)) (c : Option Cnd) : Prop := match c with
 | none => e = some (.error 8)
 | some x => ∃ w a b : BA, e = some (.ok (k, (w, (x.2.1, ((a, (b, ())), (x.2.2.2.2, ())))))) ∧ bs w = x.1 ∧ bs a = x.2.2.1 ∧ bs b = x.2.2.2.1
theorem trim1_len (l : List Int) : (trim1 l).length ≤ l.length := by
 unfold trim1; split
 · simp
 · exact Nat.le_refl _
theorem pth_len {t : List Int} {v : Bool × List Int × List Int} (h : pthL t = some v) : v.2.1.length ≤ 2 * t.length + 2 ∧ v.2.2.length ≤ t.length := by
 unfold pthL at h
 split at h
 · cases h; simp
 · split at h
   · obtain ⟨y, hy, rfl⟩ := Option.map_eq_some_iff.1 h
     unfold parP at hy
     obtain ⟨x, h1, h2⟩ := Option.bind_eq_some_iff.1 hy
     have hi : (inner t).length ≤ t.length := by unfold inner; rw [List.length_drop, List.length_take]; omega
     obtain ⟨l1, l2⟩ := loc_len h1
     split at h2
     · cases h2
       simp only [List.length_map, List.length_drop]
       omega
     · cases h2
   · cases h
theorem vpath_eq (n : Nat) (u : BA) (hs : u.size ≤ 20000) (hn : 10000000 ≤ n) : ∃ i, endP (trim1 (bs u)) i ∧
  ((0 ≤ i ∧ ∃ v p1 p2 r, pthL ((trim1 (bs u)).take (i.toNat + 1)) = some v ∧ v_path n u = some (.ok ((p1, (p2, ())), (v.1, (r, ())))) ∧ bs p1 = v.2.1 ∧ bs p2 = v.2.2 ∧ bs r = (trim1 (bs u)).drop (i.toNat + 1)) ∨
   (¬ (0 ≤ i ∧ ∃ v, pthL ((trim1 (bs u)).take (i.toNat + 1)) = some v) ∧ v_path n u = some (.error 8))) := by
 have ht := trim_bs u
 have hz : (if (bs u).head? = some 32 then u.extract 1 u.size else u).size ≤ 20000 := by
  split
  · have := ext_sz u 1 u.size; omega
  · exact hs
 have htr := trim_eq n u
 generalize (if (bs u).head? = some 32 then u.extract 1 u.size else u) = t at ht hz htr
 rw [← ht]
 obtain ⟨i, h1, h2⟩ := last_eq n t (by omega) hn
 refine ⟨i, h2, ?_⟩
 unfold v_path v_path_B
 rw [htr, Option.bind_some, h1, Option.bind_some, vmust_eq, Option.bind_some]
 rcases h2 with ⟨rfl, _⟩ | ⟨k, rfl, h3, _, _⟩
 · exact .inr ⟨fun hh => by omega, rfl⟩
 · have hk : (k : Int) ≥ 0 := by omega
   rw [bs_len] at h3
   have e1 := wr1 (k := k) (by omega)
   have e2 : 0 ≤ ((k + 1 : Nat) : Int) ∧ ((k + 1 : Nat) : Int) ≤ (t.size : Int) := ⟨by omega, by omega⟩
   have hx : bs (t.extract (Int.toNat 0) (Int.toNat ((k + 1 : Nat) : Int))) = (bs t).take ((k : Int).toNat + 1) := bs_ext0 t (k + 1)
   have hP := Path_eq n (t.extract (Int.toNat 0) (Int.toNat ((k + 1 : Nat) : Int))) (by have := ext_sz t (Int.toNat 0) (Int.toNat ((k + 1 : Nat) : Int)); omega) hn
   rw [hx] at hP
   rw [decide_eq_true hk, if_pos rfl]
   simp only [onX, e1, if_pos e2]
   cases hv : pthL ((bs t).take ((k : Int).toNat + 1)) with
   | none =>
    rw [hv] at hP
    refine .inr ⟨fun ⟨_, v, hv'⟩ => (by cases hv'), ?_⟩
    rw [hP.2, Option.bind_some, vmust_eq]
    rfl
   | some v =>
    rw [hv] at hP
    obtain ⟨p1, p2, _, q1, q2, q3⟩ := hP
    refine .inl ⟨hk, v, p1, p2, t.extract (k + 1) t.size, rfl, ?_, q2, q3, bs_ext1 t (k + 1)⟩
    rw [q1, Option.bind_some, vmust_eq]
    rfl
theorem okC_no {k : Int} {w : List Int} {nl : Bool} {a b : List Int} {z : Int} (h : vL k w nl a b z = false) : okC k (some (w, (nl, (a, (b, z))))) = none := by
 simp [okC, h]
theorem okC_yes {k : Int} {w : List Int} {nl : Bool} {a b : List Int} {z : Int} (h : vL k w nl a b z = true) : okC k (some (w, (nl, (a, (b, z))))) = some (w, (nl, (a, (b, z)))) := by
 simp [okC, h]
theorem rdM_eq (n : Nat) (k : Int) (t : BA) (hs : t.size ≤ 20000) (hn : 10000000 ≤ n) : RdIs k (rdM n k t) (okC k (cand k (bs t))) := by
 have fin : ∀ (w a b : BA) (nl : Bool) (z : Int), w.size ≤ 1000000 → a.size ≤ 100000 → b.size ≤ 100000 → RdIs k ((v_May n (k, (w, (nl, ((a, (b, ())), (z, ())))))).bind fun v6 => (v_must n v6 (8 : Int)).bind fun x => onX x (fun p => some (Except.error p)) (fun _ => some (Except.ok (k, (w, (nl, ((a, (b, ())), (z, ())))))))) (okC k (some (bs w, (nl, (bs a, (bs b, z)))))) := fun w a b nl z h1 h2 h3 => by
  rw [vMay_eq n k w a b nl z h1 h2 h3 hn, Option.bind_some, vmust_eq, Option.bind_some]
  cases hv : vL k (bs w) nl (bs a) (bs b) z with
  | true => rw [okC_yes hv]; exact ⟨w, a, b, rfl, rfl, rfl, rfl⟩
  | false => rw [okC_no hv]; rfl
 have z0 : (⟨#[]⟩ : BA).size = 0 := rfl
 unfold rdM cand
 by_cases k3 : k = 3
 · subst k3
   have e6 : bs (⟨#[32, 70, 82, 79, 77, 58]⟩ : BA) = [32, 70, 82, 79, 77, 58] := rfl
   have z6 : (⟨#[32, 70, 82, 79, 77, 58]⟩ : BA).size = 6 := rfl
   rw [if_pos (show ((3 : Int) == 3) = true from rfl), if_pos (rfl : (3 : Int) = 3), after_eq n t _ (by omega) hn, e6, z6, Option.bind_some]
   by_cases h1 : ((bs t).take 6).map up = [32, 70, 82, 79, 77, 58]
   · rw [if_pos h1, if_pos h1]
     simp only [onX]
     have hu : bs (t.extract 6 t.size) = (bs t).drop 6 := bs_ext1 t 6
     have huz : (t.extract 6 t.size).size ≤ 20000 := by have := ext_sz t 6 t.size; omega
     generalize t.extract 6 t.size = u at hu huz
     rw [← hu]
     have hlen : (trim1 (bs u)).length ≤ 20000 := by have := trim1_len (bs u); rw [bs_len] at this; omega
     obtain ⟨i, hi, ⟨h0, v, p1, p2, r, g1, g2, g3, g4, g5⟩ | ⟨hno, g2⟩⟩ := vpath_eq n u huz hn
     · obtain ⟨l1, l2⟩ := pth_len g1
       rw [List.length_take] at l1 l2
       have hrz : r.size ≤ 1000000 := by rw [← bs_len, g5, List.length_drop]; omega
       rw [g2, Option.bind_some]
       simp only
       rw [vsize_eq n r hrz hn, Option.bind_some, g5]
       cases hz : sizeP ((trim1 (bs u)).drop (i.toNat + 1)) with
       | none =>
        have : mailC (trim1 (bs u)) = none := by
         unfold mailC
         cases q1 : pthL ((trim1 (bs u)).take (pe 0 (trim1 (bs u)))) with
         | none => rfl
         | some v' =>
          cases q2 : sizeP ((trim1 (bs u)).drop (pe 0 (trim1 (bs u)))) with
          | none => rfl
          | some z' =>
           have := (ends_same hi (v := v') (z := z')).2 ⟨q1, q2⟩
           rw [hz] at this
           exact absurd this.2.2 (by simp)
        rw [this]
        rfl
       | some z =>
        obtain ⟨q1, q2⟩ := (ends_same hi (v := v) (z := z)).1 ⟨h0, g1, hz⟩
        have : mailC (trim1 (bs u)) = some ([], (v.1, (v.2.1, (v.2.2, z)))) := by unfold mailC; rw [q1, q2]
        rw [this]
        have f := fin (⟨#[]⟩ : BA) p1 p2 v.1 z (by omega) (by rw [← bs_len, g3]; omega) (by rw [← bs_len, g4]; omega)
        rw [g3, g4, e0s] at f
        exact f
     · rw [g2, Option.bind_some]
       have : mailC (trim1 (bs u)) = none := by
        unfold mailC
        cases q1 : pthL ((trim1 (bs u)).take (pe 0 (trim1 (bs u)))) with
        | none => rfl
        | some v' =>
         cases q2 : sizeP ((trim1 (bs u)).drop (pe 0 (trim1 (bs u)))) with
         | none => rfl
         | some z' =>
          have := (ends_same hi (v := v') (z := z')).2 ⟨q1, q2⟩
          exact absurd ⟨this.1, v', this.2.1⟩ hno
       rw [this]
       rfl
   · rw [if_neg h1, if_neg h1]
     rfl
 have c3 : (k == 3) = false := by simpa using k3
 rw [if_neg (by rw [c3]; simp), if_neg k3]
 by_cases k4 : k = 4
 · subst k4
   have e4 : bs (⟨#[32, 84, 79, 58]⟩ : BA) = [32, 84, 79, 58] := rfl
   have z4 : (⟨#[32, 84, 79, 58]⟩ : BA).size = 4 := rfl
   rw [if_pos (show ((4 : Int) == 4) = true from rfl), if_pos (rfl : (4 : Int) = 4), after_eq n t _ (by omega) hn, e4, z4, Option.bind_some]
   by_cases h1 : ((bs t).take 4).map up = [32, 84, 79, 58]
   · rw [if_pos h1, if_pos h1]
     simp only [onX]
     have hu : bs (t.extract 4 t.size) = (bs t).drop 4 := bs_ext1 t 4
     have huz : (t.extract 4 t.size).size ≤ 20000 := by have := ext_sz t 4 t.size; omega
     generalize t.extract 4 t.size = u at hu huz
     rw [← hu]
     have hlen : (trim1 (bs u)).length ≤ 20000 := by have := trim1_len (bs u); rw [bs_len] at this; omega
     have whole : ∀ v i, endP (trim1 (bs u)) i → pthL (trim1 (bs u)) = some v → 0 ≤ i ∧ (trim1 (bs u)).drop (i.toNat + 1) = [] ∧ (trim1 (bs u)).take (i.toNat + 1) = trim1 (bs u) := fun v i hi hv => by
      obtain ⟨_, hl, hne⟩ := pth_end hv []
      generalize trim1 (bs u) = l at hi hl hne
      have hpos : 0 < l.length := List.length_pos_iff.2 hne
      rw [List.getLast?_eq_getElem?] at hl
      rcases hi with ⟨_, h⟩ | ⟨q, rfl, hq1, hq2, hq3⟩
      · exact absurd (List.mem_of_getElem? hl) h
      · have : q = l.length - 1 := by
         rcases Nat.lt_or_ge q (l.length - 1) with g | g
         · exfalso
           apply hq3
           have : (l.drop (q + 1))[l.length - 1 - (q + 1)]? = some 62 := by
            rw [List.getElem?_drop, show q + 1 + (l.length - 1 - (q + 1)) = l.length - 1 by omega]; exact hl
           exact List.mem_of_getElem? this
         · omega
        refine ⟨by omega, List.drop_eq_nil_of_le (by omega), List.take_of_length_le (by omega)⟩
     obtain ⟨i, hi, ⟨h0, v, p1, p2, r, g1, g2, g3, g4, g5⟩ | ⟨hno, g2⟩⟩ := vpath_eq n u huz hn
     · obtain ⟨l1, l2⟩ := pth_len g1
       rw [List.length_take] at l1 l2
       rw [g2, Option.bind_some]
       simp only
       rw [vmust_eq, str_eq, g5, e0s, Option.bind_some]
       by_cases hd : (trim1 (bs u)).drop (i.toNat + 1) = []
       · have htk : (trim1 (bs u)).take (i.toNat + 1) = trim1 (bs u) := by
          have := List.take_append_drop (i.toNat + 1) (trim1 (bs u))
          rw [hd, List.append_nil] at this; exact this
         rw [htk] at g1
         rw [g1, decide_eq_true hd, if_pos rfl]
         have f := fin (⟨#[]⟩ : BA) p1 p2 v.1 0 (by omega) (by rw [← bs_len, g3]; omega) (by rw [← bs_len, g4]; omega)
         rw [g3, g4, e0s] at f
         exact f
       · cases hv : pthL (trim1 (bs u)) with
         | none => rw [decide_eq_false hd]; rfl
         | some v' => exact absurd (whole v' i hi hv).2.1 hd
     · rw [g2, Option.bind_some]
       cases hv : pthL (trim1 (bs u)) with
       | none => rfl
       | some v' =>
        obtain ⟨w1, w2, w3⟩ := whole v' i hi hv
        exact absurd ⟨w1, v', by rw [w3]; exact hv⟩ hno
   · rw [if_neg h1, if_neg h1]
     rfl
 have c4 : (k == 4) = false := by simpa using k4
 rw [if_neg (by rw [c4]; simp), if_neg k4]
 have ht := trim_bs t
 have hz : (if (bs t).head? = some 32 then t.extract 1 t.size else t).size ≤ 20000 := by
  split
  · have := ext_sz t 1 t.size; omega
  · exact hs
 have htr := trim_eq n t
 generalize (if (bs t).head? = some 32 then t.extract 1 t.size else t) = u at ht hz htr
 have dom : (k = 1 ∨ k = 2) → RdIs k ((ad_Domain n u).bind fun v14 => (v_must n (v14.2.1 == (0 : Int)) (8 : Int)).bind fun x_10 => onX x_10 (fun p9 => some (Except.error p9)) (fun v15 =>
   (v_May n (k, (v14.1, (false, (((⟨#[]⟩ : BA), ((⟨#[]⟩ : BA), ())), ((0 : Int), ())))))).bind fun v16 => (v_must n v16 (8 : Int)).bind fun x_11 => onX x_11 (fun p10 => some (Except.error p10)) (fun v17 =>
   some (Except.ok (k, (v14.1, (false, (((⟨#[]⟩ : BA), ((⟨#[]⟩ : BA), ())), ((0 : Int), ()))))))))) (okC k (some ((trim1 (bs t)).map low, (false, ([], ([], 0)))))) := fun hk => by
  obtain ⟨q, q1, q2⟩ := Domain_eq n u (by omega) hn
  rw [← ht]
  have hqz : q.size ≤ 20000 := by rw [← bs_len, q1, List.length_map, bs_len]; exact hz
  rw [q2, Option.bind_some, vmust_eq]
  by_cases hd : domR ((bs u).map low) = true
  · rw [if_pos hd]
    have f := fin q (⟨#[]⟩ : BA) (⟨#[]⟩ : BA) false 0 (by omega) (by omega) (by omega)
    rw [q1, e0s] at f
    exact f
  · rw [if_neg hd]
    have hd' : domR ((bs u).map low) = false := by simpa using hd
    have : vL k ((bs u).map low) false [] [] 0 = false := by
     rcases hk with rfl | rfl <;> simp [vL, hd']
    rw [okC_no this]
    rfl
 by_cases k1 : k = 1
 · subst k1
   rw [if_pos (show ((1 : Int) == 1) = true from rfl), if_pos (rfl : (1 : Int) = 1), htr, Option.bind_some]
   exact dom (.inl rfl)
 have c1 : (k == 1) = false := by simpa using k1
 rw [if_neg (by rw [c1]; simp), if_neg k1]
 by_cases k2 : k = 2
 · subst k2
   rw [if_pos (show ((2 : Int) == 2) = true from rfl), if_pos (rfl : (2 : Int) = 2), htr, Option.bind_some]
   exact dom (.inr rfl)
 have c2 : (k == 2) = false := by simpa using k2
 rw [if_neg (by rw [c2]; simp), if_neg k2, vmust_eq, str_eq]
 have e32 : bs (⟨#[32]⟩ : BA) = [32] := rfl
 rw [e32]
 by_cases hsp : bs t = [32]
 · rw [if_pos hsp, decide_eq_true hsp]
   rfl
 · rw [if_neg hsp, decide_eq_false hsp]
   simp only [Bool.not_false, if_true, Option.bind_some, onX, htr]
   have f := fin u (⟨#[]⟩ : BA) (⟨#[]⟩ : BA) false 0 (by omega) (by omega) (by omega)
   rw [ht, e0s] at f
   exact f
open Go Go.RowKit
theorem vmust_f (n : Nat) (e : Int) : v_must n false e = some (.error e) := by rw [vmust_eq]; rfl
theorem vmust_t (n : Nat) (e : Int) : v_must n true e = some (.ok ()) := by rw [vmust_eq]; rfl
def zeroV : Vb := ((0 : Int), ((⟨#[]⟩ : BA), (false, (((⟨#[]⟩ : BA), ((⟨#[]⟩ : BA), ())), ((0 : Int), ())))))
def PV (l : List Int) : Except Int (Int × Cnd) :=
 if vkd (l.take 4) = 0 ∨ (4 < l.length ∧ l[4]? ≠ some 32) then .error 3
 else match okC (vkd (l.take 4)) (cand (vkd (l.take 4)) (l.drop 4)) with
  | none => .error 8
  | some x => .ok (vkd (l.take 4), x)
def Res (e : Option (Vb × Int × Unit)) (p : Except Int (Int × Cnd)) : Prop := match p with
 | .error c => e = some (zeroV, (c, ()))
 | .ok y => ∃ w a b : BA, e = some ((y.1, (w, (y.2.2.1, ((a, (b, ())), (y.2.2.2.2.2, ()))))), (0, ())) ∧ bs w = y.2.1 ∧ bs a = y.2.2.2.1 ∧ bs b = y.2.2.2.2.1
theorem vkd_pos (l : List Int) : vkd l = 0 ∨ 1 ≤ vkd l ∧ vkd l ≤ 9 ∧ l.length = 4 := by
 have hl : ∀ w : List Int, w.length = 4 → l.map up = w → l.length = 4 := fun w h1 h2 => by rw [← h1, ← h2, List.length_map]
 unfold vkd
 repeat' split
 all_goals first
  | exact .inl rfl
  | (rename_i h; exact .inr ⟨by omega, by omega, hl _ rfl h⟩)
def RdRes (e : Option (Except Int Vb)) (p : Except Int (Int × Cnd)) : Prop := match p with
 | .error c => e = some (.error c)
 | .ok y => ∃ w a b : BA, e = some (.ok (y.1, (w, (y.2.2.1, ((a, (b, ())), (y.2.2.2.2.2, ())))))) ∧ bs w = y.2.1 ∧ bs a = y.2.2.2.1 ∧ bs b = y.2.2.2.2.1
theorem vread_eq (n : Nat) (s : BA) (hs : s.size ≤ 20000) (hn : 10000000 ≤ n) : RdRes (v_read n s) (PV (bs s)) := by
 have hkd := kind_eq n (s.extract (Int.toNat (0 : Int)) (Int.toNat (4 : Int))) (by have := ext_sz s (Int.toNat (0 : Int)) (Int.toNat (4 : Int)); omega) hn
 have hx : bs (s.extract (Int.toNat (0 : Int)) (Int.toNat (4 : Int))) = (bs s).take 4 := bs_ext0 s 4
 rw [hx] at hkd
 have main : vkd ((bs s).take 4) ≠ 0 → RdRes (rdM n (vkd ((bs s).take 4)) (s.extract (Int.toNat (4 : Int)) (Int.toNat (s.size : Int)))) (match okC (vkd ((bs s).take 4)) (cand (vkd ((bs s).take 4)) ((bs s).drop 4)) with
  | none => .error 8
  | some x => .ok (vkd ((bs s).take 4), x)) := fun _ => by
  have h := rdM_eq n (vkd ((bs s).take 4)) (s.extract (Int.toNat (4 : Int)) (Int.toNat (s.size : Int))) (by have := ext_sz s (Int.toNat (4 : Int)) (Int.toNat (s.size : Int)); omega) hn
  have hx : bs (s.extract (Int.toNat (4 : Int)) (Int.toNat (s.size : Int))) = (bs s).drop 4 := bs_ext1 s 4
  rw [hx] at h
  cases hc : okC (vkd ((bs s).take 4)) (cand (vkd ((bs s).take 4)) ((bs s).drop 4)) with
  | none => rw [hc] at h; exact h
  | some x => rw [hc] at h; exact h
 generalize hk : vkd ((bs s).take 4) = q at hkd main
 unfold PV
 rw [hk]
 unfold v_read v_read_B
 by_cases h4 : 4 ≤ s.size
 · have c1 : decide ((s.size : Int) ≥ (4 : Int)) = true := decide_eq_true (by omega)
   have c2 : 0 ≤ (4 : Int) ∧ (4 : Int) ≤ (s.size : Int) := ⟨by omega, by omega⟩
   rw [if_pos c1, if_pos c2, hkd, Option.bind_some]
   rcases vkd_pos ((bs s).take 4) with h0 | ⟨h1, h2, _⟩
   · rw [hk] at h0
     subst h0
     rw [if_neg (by simp), vmust_f, Option.bind_some, if_pos (Or.inl rfl)]
     rfl
   · rw [hk] at h1 h2
     have hq : decide (q > (0 : Int)) = true := decide_eq_true (by omega)
     rw [if_pos hq]
     by_cases h5 : s.size = 4
     · have c5 : ¬ ((s.size : Int) == (4 : Int)) = false := by rw [h5]; decide
       have np : ¬ (q = 0 ∨ (4 < (bs s).length ∧ (bs s)[4]? ≠ some 32)) := by rw [bs_len]; omega
       rw [if_neg np, if_neg c5, vmust_t, Option.bind_some]
       simp only [onX]
       rw [if_pos c2, Option.bind_some, if_pos c2]
       exact main (by omega)
     · have c5 : ((s.size : Int) == (4 : Int)) = false := by simp only [beq_eq_false_iff_ne]; omega
       have c6 : 0 ≤ (4 : Int) ∧ (4 : Int) < (s.size : Int) := ⟨by omega, by omega⟩
       have hlt : 4 < (bs s).length := by rw [bs_len]; omega
       obtain ⟨c, hc⟩ : ∃ c, (bs s)[4]? = some c := ⟨(bs s)[4], by simp [hlt]⟩
       have hb : bt s (4 : Int) = c := bt_at (k := 4) hc
       rw [if_pos c5, if_pos c6, vmust_eq, hb, Option.bind_some, hc]
       by_cases h32 : c = 32
       · subst h32
         have np : ¬ (q = 0 ∨ (4 < (bs s).length ∧ (some 32 : Option Int) ≠ some 32)) := fun hh => hh.elim (fun h => by omega) (fun h => h.2 rfl)
         rw [if_neg np, if_pos (show ((32 : Int) == 32) = true from rfl)]
         simp only [onX]
         rw [if_pos c2, Option.bind_some, if_pos c2]
         exact main (by omega)
       · have e : ¬ (c == (32 : Int)) = true := by simpa using h32
         have np : q = 0 ∨ (4 < (bs s).length ∧ some c ≠ some 32) := .inr ⟨hlt, by simpa using h32⟩
         rw [if_neg e, if_pos np]
         rfl
 · have c1 : ¬ decide ((s.size : Int) ≥ (4 : Int)) = true := by simp; omega
   have h0 : q = 0 := by
    rcases vkd_pos ((bs s).take 4) with h0 | ⟨_, _, h2⟩
    · rw [hk] at h0; exact h0
    · rw [List.length_take, bs_len] at h2; omega
   rw [if_neg c1, vmust_f, Option.bind_some, if_pos (Or.inl h0)]
   rfl
theorem vParse_eq (n : Nat) (s : BA) (hs : s.size ≤ 20000) (hn : 10000000 ≤ n) : Res (v_Parse n s) (PV (bs s)) := by
 have h := vread_eq n s hs hn
 unfold v_Parse v_Parse_B
 cases hp : PV (bs s) with
 | error c => rw [hp] at h; simp only [RdRes] at h; rw [h]; rfl
 | ok y =>
  rw [hp] at h
  obtain ⟨w, a, b, h1, h2, h3, h4⟩ := h
  rw [h1]
  exact ⟨w, a, b, rfl, h2, h3, h4⟩
open Go Go.RowKit
abbrev zs : BA := (⟨#[]⟩ : BA)
theorem pv_step (n m : Nat) (s : BA) (hs : s.size ≤ 1000000) (hn : 10000000 ≤ n) (kd k : Int) (hk : k ≤ 9) (w : BA) (l : List Int) (hl : bs w = l) (hw : r4_name n k = some w) (h4 : w.size = 4) (hc : caps l = true) (k' : Int) (hk' : IntKind.wrap .i64 (k + 1) = k') :
  r4_ParseVerb_L0 n (m + 1) s kd k 0 zs false zs zs 0 = r4_ParseVerb_L0 n m s (if ((bs s).take 4).map up = l then k else kd) k' 0 zs false zs zs 0 := by
 subst hl
 have hb := begins_eq n s w hs (by omega) hn hc
 rw [h4] at hb
 simp only [r4_ParseVerb_L0, r4_ParseVerb_B0, r4_ParseVerb_J0, r4_ParseVerb_J0_B, hk, hw, hb, Option.bind_some, decide_true, if_true, decide_eq_true_eq]
 by_cases h : ((bs s).take 4).map up = bs w
 · simp only [h, if_true, Option.bind_some, onL, hk']
 · simp only [h, if_false, Option.bind_some, onL, hk']
theorem last_kd (u : List Int) : (if u.map up = [86, 82, 70, 89] then (9 : Int) else if u.map up = [81, 85, 73, 84] then 8 else if u.map up = [78, 79, 79, 80] then 7 else if u.map up = [82, 83, 69, 84] then 6 else if u.map up = [68, 65, 84, 65] then 5 else
  if u.map up = [82, 67, 80, 84] then 4 else if u.map up = [77, 65, 73, 76] then 3 else if u.map up = [69, 72, 76, 79] then 2 else if u.map up = [72, 69, 76, 79] then 1 else 0) = vkd u := by
 unfold vkd
 generalize u.map up = x
 by_cases h1 : x = [72, 69, 76, 79]
 · subst h1; rfl
 by_cases h2 : x = [69, 72, 76, 79]
 · subst h2; rfl
 by_cases h3 : x = [77, 65, 73, 76]
 · subst h3; rfl
 by_cases h4 : x = [82, 67, 80, 84]
 · subst h4; rfl
 by_cases h5 : x = [68, 65, 84, 65]
 · subst h5; rfl
 by_cases h6 : x = [82, 83, 69, 84]
 · subst h6; rfl
 by_cases h7 : x = [78, 79, 79, 80]
 · subst h7; rfl
 by_cases h8 : x = [81, 85, 73, 84]
 · subst h8; rfl
 simp only [h1, h2, h3, h4, h5, h6, h7, h8, if_false]
theorem pv_L0 (n : Nat) (s : BA) (hs : s.size ≤ 1000000) (hn : 10000000 ≤ n) : r4_ParseVerb_L0 n n s 0 1 0 zs false zs zs 0 = some (.out (s, vkd ((bs s).take 4), 0, zs, false, zs, zs, 0)) := by
 obtain ⟨m, hm⟩ : ∃ m, n = m + 10 := ⟨n - 10, by omega⟩
 have e : r4_ParseVerb_L0 n n s 0 1 0 zs false zs zs 0 = r4_ParseVerb_L0 n (m + 10) s 0 1 0 zs false zs zs 0 := by rw [← hm]
 rw [e, pv_step n _ s hs hn _ 1 (by omega) (⟨#[72, 69, 76, 79]⟩ : BA) [72, 69, 76, 79] rfl rfl rfl rfl 2 rfl, pv_step n _ s hs hn _ 2 (by omega) (⟨#[69, 72, 76, 79]⟩ : BA) [69, 72, 76, 79] rfl rfl rfl rfl 3 rfl,
  pv_step n _ s hs hn _ 3 (by omega) (⟨#[77, 65, 73, 76]⟩ : BA) [77, 65, 73, 76] rfl rfl rfl rfl 4 rfl, pv_step n _ s hs hn _ 4 (by omega) (⟨#[82, 67, 80, 84]⟩ : BA) [82, 67, 80, 84] rfl rfl rfl rfl 5 rfl,
  pv_step n _ s hs hn _ 5 (by omega) (⟨#[68, 65, 84, 65]⟩ : BA) [68, 65, 84, 65] rfl rfl rfl rfl 6 rfl, pv_step n _ s hs hn _ 6 (by omega) (⟨#[82, 83, 69, 84]⟩ : BA) [82, 83, 69, 84] rfl rfl rfl rfl 7 rfl,
  pv_step n _ s hs hn _ 7 (by omega) (⟨#[78, 79, 79, 80]⟩ : BA) [78, 79, 79, 80] rfl rfl rfl rfl 8 rfl, pv_step n _ s hs hn _ 8 (by omega) (⟨#[81, 85, 73, 84]⟩ : BA) [81, 85, 73, 84] rfl rfl rfl rfl 9 rfl,
  pv_step n _ s hs hn _ 9 (by omega) (⟨#[86, 82, 70, 89]⟩ : BA) [86, 82, 70, 89] rfl rfl rfl rfl 10 rfl, last_kd]
 simp [r4_ParseVerb_L0, r4_ParseVerb_B0]
theorem pv_J1 (n : Nat) (s : BA) (k : Int) : r4_ParseVerb_J1 n s k 0 zs false zs zs 0 = some (if k = 0 ∨ (4 < (bs s).length ∧ (bs s)[4]? ≠ some 32) then .ret (3, 0, zs, false, zs, zs, 0) else .out (s, k, 0, zs, false, zs, zs, 0)) := by
 unfold r4_ParseVerb_J1 r4_ParseVerb_J1_B
 rw [bs_len]
 by_cases h0 : k = 0
 · subst h0
   rw [if_pos (Or.inl rfl)]
   rfl
 · have e0 : (k == (0 : Int)) = false := by simpa using h0
   rw [if_pos e0]
   by_cases h5 : 4 < s.size
   · have c1 : decide ((s.size : Int) > (4 : Int)) = true := decide_eq_true (by omega)
     have c2 : 0 ≤ (4 : Int) ∧ (4 : Int) < (s.size : Int) := ⟨by omega, by omega⟩
     have hlt : 4 < (bs s).length := by rw [bs_len]; omega
     obtain ⟨c, hc⟩ : ∃ c, (bs s)[4]? = some c := ⟨(bs s)[4], by simp [hlt]⟩
     have hb : bt s (4 : Int) = c := bt_at (k := 4) hc
     rw [if_pos c1, if_pos c2, hb, hc]
     by_cases h32 : c = 32
     · subst h32
       have np : ¬ (k = 0 ∨ (4 < s.size ∧ (some 32 : Option Int) ≠ some 32)) := fun hh => hh.elim h0 (fun h => h.2 rfl)
       rw [if_neg np]
       rfl
     · have e : (c != (32 : Int)) = true := by simpa using h32
       have np : k = 0 ∨ (4 < s.size ∧ some c ≠ some 32) := .inr ⟨h5, by simpa using h32⟩
       rw [if_pos e, if_pos np]
   · have c1 : ¬ decide ((s.size : Int) > (4 : Int)) = true := by simp; omega
     have np : ¬ (k = 0 ∨ (4 < s.size ∧ (bs s)[4]? ≠ some 32)) := fun hh => hh.elim h0 (fun h => h5 h.1)
     rw [if_neg c1, if_neg np]
theorem pv_J7 (n : Nat) (ok : Bool) (k : Int) (w : BA) (nl : Bool) (a b : BA) (z : Int) (hw : w.size ≤ 1000000) (ha : a.size ≤ 100000) (hb : b.size ≤ 100000) (hn : 10000000 ≤ n) :
  r4_ParseVerb_J7 n ok 0 zs false zs zs 0 k w nl a b z = some (if (ok && vL k (bs w) nl (bs a) (bs b) z) = true then .out (0, zs, false, zs, zs, 0, k, w, nl, a, b, z) else .ret (8, 0, zs, false, zs, zs, 0)) := by
 unfold r4_ParseVerb_J7 r4_ParseVerb_J7_B
 rw [rVerb_eq n k w a b nl z hw ha hb hn]
 cases ok
 · rfl
 · cases vL k (bs w) nl (bs a) (bs b) z <;> rfl
theorem pv_J5 (n : Nat) (k : Int) (r : BA) (v9 : Int) (v10 : BA) (v11 : Bool) (v12 v13 : BA) (v14 : Int) : r4_ParseVerb_J5 n k r 0 zs false zs zs 0 v9 v10 v11 v12 v13 v14 =
  some (.out (k, (if (bs r).head? = some 32 then r.extract 1 r.size else r), 0, zs, false, zs, zs, 0, v9, v10, v11, v12, v13, v14)) := by
 unfold r4_ParseVerb_J5 r4_ParseVerb_J5_B
 rw [str_eq, e0s]
 by_cases h0 : bs r = []
 · rw [decide_eq_true h0, if_neg (by simp), h0, if_neg (by simp)]
 · have hz : 0 < r.size := by rw [← bs_len]; exact List.length_pos_iff.2 h0
   have c1 : 0 ≤ (0 : Int) ∧ (0 : Int) < (r.size : Int) := ⟨by omega, by omega⟩
   have c2 : 0 ≤ (1 : Int) ∧ (1 : Int) ≤ (r.size : Int) := ⟨by omega, by omega⟩
   obtain ⟨d, hd1, hd2⟩ := bs_head hz
   rw [decide_eq_false h0, if_pos (by simp), if_pos c1, hd2, hd1]
   by_cases h32 : d = 32
   · subst h32
     rw [if_pos (show ((32 : Int) == 32) = true from rfl), if_pos c2, if_pos rfl]
     rfl
   · have e : ¬ (d == (32 : Int)) = true := by simpa using h32
     have e' : ¬ some d = some (32 : Int) := by simpa using h32
     rw [if_neg e, if_neg e']
noncomputable def refM (n : Nat) (k : Int) (r : BA) : Option (Vb × Int × Unit) :=
 (r4_ParseVerb_J2 n k r 0 zs false zs zs 0 k zs false zs zs 0).bind fun x_5 => onL x_5
  (fun a_6 =>
   (r4_ParseVerb_J7 n a_6.1 a_6.2.1 a_6.2.2.1 a_6.2.2.2.1 a_6.2.2.2.2.1 a_6.2.2.2.2.2.1 a_6.2.2.2.2.2.2.1 a_6.2.2.2.2.2.2.2.1 a_6.2.2.2.2.2.2.2.2.1 a_6.2.2.2.2.2.2.2.2.2.1 a_6.2.2.2.2.2.2.2.2.2.2.1 a_6.2.2.2.2.2.2.2.2.2.2.2.1 a_6.2.2.2.2.2.2.2.2.2.2.2.2).bind fun x_7 => onL x_7
    (fun a_8 => some ((a_8.2.2.2.2.2.2.1, (a_8.2.2.2.2.2.2.2.1, (a_8.2.2.2.2.2.2.2.2.1, ((a_8.2.2.2.2.2.2.2.2.2.1, (a_8.2.2.2.2.2.2.2.2.2.2.1, ())), (a_8.2.2.2.2.2.2.2.2.2.2.2, ()))))), ((0 : Int), ())))
    (fun a_9 => some ((a_9.2.1, (a_9.2.2.1, (a_9.2.2.2.1, ((a_9.2.2.2.2.1, (a_9.2.2.2.2.2.1, ())), (a_9.2.2.2.2.2.2, ()))))), (a_9.1, ())))
    (fun _ => none))
  (fun a_10 => some ((a_10.2.1, (a_10.2.2.1, (a_10.2.2.2.1, ((a_10.2.2.2.2.1, (a_10.2.2.2.2.2.1, ())), (a_10.2.2.2.2.2.2, ()))))), (a_10.1, ())))
  (fun _ => none)
def RmIs (k : Int) (e : Option (Vb × Int × Unit)) (c : Option Cnd) : Prop := match c with
 | none => e = some (zeroV, (8, ()))
 | some x => ∃ w a b : BA, e = some ((k, (w, (x.2.1, ((a, (b, ())), (x.2.2.2.2, ()))))), (0, ())) ∧ bs w = x.1 ∧ bs a = x.2.2.1 ∧ bs b = x.2.2.2.1
theorem refM_out (n : Nat) (k : Int) (r : BA) (ok : Bool) (w : BA) (nl : Bool) (a b : BA) (z : Int) (hw : w.size ≤ 1000000) (ha : a.size ≤ 100000) (hb : b.size ≤ 100000) (hn : 10000000 ≤ n)
  (h : r4_ParseVerb_J2 n k r 0 zs false zs zs 0 k zs false zs zs 0 = some (.out (ok, 0, zs, false, zs, zs, 0, k, w, nl, a, b, z))) :
  RmIs k (refM n k r) (if ok = true then okC k (some (bs w, (nl, (bs a, (bs b, z))))) else none) := by
 unfold refM
 rw [h, Option.bind_some]
 simp only [onL]
 rw [pv_J7 n ok k w nl a b z hw ha hb hn, Option.bind_some]
 cases ok
 · rfl
 · cases hv : vL k (bs w) nl (bs a) (bs b) z with
   | true => rw [if_pos rfl, okC_yes hv]; exact ⟨w, a, b, rfl, rfl, rfl, rfl⟩
   | false => rw [if_pos rfl, okC_no hv]; rfl
open Go Go.RowKit
theorem pv_J4 (n : Nat) (k : Int) (r lead : BA) (hs : r.size ≤ 1000000) (hw : lead.size ≤ 1000000) (hn : 10000000 ≤ n) (hc : caps (bs lead) = true) (v9 : Int) (v10 : BA) (v11 : Bool) (v12 v13 : BA) (v14 : Int) :
  r4_ParseVerb_J4 n k r lead 0 zs false zs zs 0 v9 v10 v11 v12 v13 v14 = some (if ((bs r).take lead.size).map up = bs lead then .out (k, r, lead, 0, zs, false, zs, zs, 0, v9, v10, v11, v12, v13, v14) else .ret (8, 0, zs, false, zs, zs, 0)) := by
 unfold r4_ParseVerb_J4 r4_ParseVerb_J4_B
 rw [begins_eq n r lead hs hw hn hc, Option.bind_some]
 by_cases h : ((bs r).take lead.size).map up = bs lead
 · rw [decide_eq_true h, if_pos h]; rfl
 · rw [decide_eq_false h, if_neg h]; rfl
theorem refM_ret (n : Nat) (k : Int) (r : BA) (h : r4_ParseVerb_J2 n k r 0 zs false zs zs 0 k zs false zs zs 0 = some (.ret (8, 0, zs, false, zs, zs, 0))) : RmIs k (refM n k r) none := by
 unfold refM
 rw [h, Option.bind_some]
 rfl
theorem ref_mail (n : Nat) (r : BA) (hs : r.size ≤ 20000) (hn : 10000000 ≤ n) : RmIs 3 (refM n 3 r) (okC 3 (cand 3 (bs r))) := by
 have e6 : bs (⟨#[32, 70, 82, 79, 77, 58]⟩ : BA) = [32, 70, 82, 79, 77, 58] := rfl
 have z6 : (⟨#[32, 70, 82, 79, 77, 58]⟩ : BA).size = 6 := rfl
 have eS : bs (⟨#[32, 83, 73, 90, 69, 61]⟩ : BA) = [32, 83, 73, 90, 69, 61] := rfl
 have zS : (⟨#[32, 83, 73, 90, 69, 61]⟩ : BA).size = 6 := rfl
 have hJ3 : r4_ParseVerb_J3 n 3 r (⟨#[32, 70, 82, 79, 77, 58]⟩ : BA) 0 zs false zs zs 0 3 zs false zs zs 0 = some (.out (3, r, (⟨#[32, 70, 82, 79, 77, 58]⟩ : BA), 0, zs, false, zs, zs, 0, 3, zs, false, zs, zs, 0)) := rfl
 have hJ4 := pv_J4 n 3 r (⟨#[32, 70, 82, 79, 77, 58]⟩ : BA) (by omega) (by omega) hn rfl 3 zs false zs zs 0
 rw [e6, z6] at hJ4
 have n1 : ¬ ((3 : Int) == 1) = true := by decide
 have n2 : ¬ ((3 : Int) == 2) = true := by decide
 have n7 : ¬ ((3 : Int) == 7) = true := by decide
 have n9 : ¬ ((3 : Int) == 9) = true := by decide
 have n3 : ((3 : Int) == 3) = true := rfl
 unfold cand
 rw [if_pos rfl]
 by_cases h1 : ((bs r).take 6).map up = [32, 70, 82, 79, 77, 58]
 · rw [if_pos h1] at hJ4 ⊢
   have h6 : 6 ≤ r.size := by
    have := take_map_len (l := bs r) (w := [32, 70, 82, 79, 77, 58]) (f := up) h1
    rw [bs_len] at this; exact this
   have c6 : 0 ≤ (((⟨#[32, 70, 82, 79, 77, 58]⟩ : BA).size : Nat) : Int) ∧ (((⟨#[32, 70, 82, 79, 77, 58]⟩ : BA).size : Nat) : Int) ≤ (r.size : Int) := ⟨by omega, by omega⟩
   have hu : bs (r.extract (Int.toNat (((⟨#[32, 70, 82, 79, 77, 58]⟩ : BA).size : Nat) : Int)) (Int.toNat (r.size : Int))) = (bs r).drop 6 := bs_ext1 r 6
   have huz : (r.extract (Int.toNat (((⟨#[32, 70, 82, 79, 77, 58]⟩ : BA).size : Nat) : Int)) (Int.toNat (r.size : Int))).size ≤ 20000 := by
    have := ext_sz r (Int.toNat (((⟨#[32, 70, 82, 79, 77, 58]⟩ : BA).size : Nat) : Int)) (Int.toNat (r.size : Int)); omega
   have key : ∃ ok nl p1 p2 z, r4_ParseVerb_J2 n 3 r 0 zs false zs zs 0 3 zs false zs zs 0 = some (.out (ok, 0, zs, false, zs, zs, 0, 3, zs, nl, p1, p2, z)) ∧ p1.size ≤ 100000 ∧ p2.size ≤ 100000 ∧
     (if ok = true then okC 3 (some ([], (nl, (bs p1, (bs p2, z))))) else none) = okC 3 (mailC (trim1 ((bs r).drop 6))) := by
    unfold r4_ParseVerb_J2 r4_ParseVerb_J2_B
    rw [if_neg n1, if_neg n2, if_neg n7, if_neg n9, if_pos n3, hJ3, Option.bind_some]
    simp only [onL]
    rw [hJ4, Option.bind_some]
    simp only [onL]
    rw [if_pos c6]
    generalize r.extract (Int.toNat (((⟨#[32, 70, 82, 79, 77, 58]⟩ : BA).size : Nat) : Int)) (Int.toNat (r.size : Int)) = u at hu huz
    rw [pv_J5, Option.bind_some]
    simp only [onL]
    have ht := trim_bs u
    have hz : (if (bs u).head? = some 32 then u.extract 1 u.size else u).size ≤ 20000 := by
     split
     · have := ext_sz u 1 u.size; omega
     · exact huz
    generalize (if (bs u).head? = some 32 then u.extract 1 u.size else u) = t at ht hz
    rw [← hu, ← ht]
    have hJ6 : r4_ParseVerb_J6 n 3 t (t.size : Int) 0 zs false zs zs 0 3 zs false zs zs 0 = some (.out (t, ((pe 0 (bs t) : Nat) : Int), 0, zs, false, zs, zs, 0, 3, zs, false, zs, zs, -1)) := by
     unfold r4_ParseVerb_J6 r4_ParseVerb_J6_B
     rw [if_pos n3, pathEnd_eq n t (by omega) hn]
     rfl
    rw [hJ6, Option.bind_some]
    simp only [onL]
    have hle : pe 0 (bs t) ≤ t.size := by have := pe_le (bs t) 0; rwa [bs_len] at this
    have hle' := hle
    generalize hpe : pe 0 (bs t) = p at hle'
    have c1 : 0 ≤ ((p : Nat) : Int) ∧ ((p : Nat) : Int) ≤ (t.size : Int) := ⟨by omega, by omega⟩
    have hx : bs (t.extract (Int.toNat (0 : Int)) (Int.toNat ((p : Nat) : Int))) = (bs t).take p := bs_ext0 t p
    have hP := Path_eq n (t.extract (Int.toNat (0 : Int)) (Int.toNat ((p : Nat) : Int))) (by have := ext_sz t (Int.toNat (0 : Int)) (Int.toNat ((p : Nat) : Int)); omega) hn
    rw [hx] at hP
    rw [if_pos c1]
    unfold mailC
    rw [hpe]
    cases hv : pthL ((bs t).take p) with
    | none =>
     rw [hv] at hP
     refine ⟨false, false, zs, zs, -1, ?_, by decide, by decide, rfl⟩
     rw [hP.1, Option.bind_some]
     rfl
    | some v =>
     rw [hv] at hP
     obtain ⟨p1, p2, q1, _, q2, q3⟩ := hP
     obtain ⟨l1, l2⟩ := pth_len hv
     rw [List.length_take, bs_len] at l1 l2
     have z1 : p1.size ≤ 100000 := by rw [← bs_len, q2]; omega
     have z2 : p2.size ≤ 100000 := by rw [← bs_len, q3]; omega
     rw [q1, Option.bind_some]
     simp only
     rw [if_pos trivial, sizeP_W]
     by_cases hlt : p < t.size
     · have c2 : decide (((p : Nat) : Int) < (t.size : Int)) = true := decide_eq_true (by omega)
       have hne : (bs t).drop p ≠ [] := fun e => by
        have := congrArg List.length e
        rw [List.length_drop, bs_len] at this
        simp at this; omega
       have hy : bs (t.extract (Int.toNat ((p : Nat) : Int)) (Int.toNat (t.size : Int))) = (bs t).drop p := bs_ext1 t p
       have hB := begins_eq n (t.extract (Int.toNat ((p : Nat) : Int)) (Int.toNat (t.size : Int))) (⟨#[32, 83, 73, 90, 69, 61]⟩ : BA) (by have := ext_sz t (Int.toNat ((p : Nat) : Int)) (Int.toNat (t.size : Int)); omega) (by omega) hn rfl
       rw [hy, eS, zS] at hB
       rw [if_pos c2, if_pos c1, hB, Option.bind_some, if_neg hne]
       by_cases h2 : (((bs t).drop p).take 6).map up = [32, 83, 73, 90, 69, 61]
       · have hl6 := take_map_len (l := (bs t).drop p) (w := [32, 83, 73, 90, 69, 61]) (f := up) h2
         rw [List.length_drop, bs_len] at hl6
         have hl6' : 6 ≤ t.size - p := hl6
         have w6 : IntKind.wrap .i64 (((p : Nat) : Int) + 6) = ((p + 6 : Nat) : Int) := by rw [wr (by omega) (by omega)]; omega
         have c3 : 0 ≤ ((p + 6 : Nat) : Int) ∧ ((p + 6 : Nat) : Int) ≤ (t.size : Int) := ⟨by omega, by omega⟩
         have hw : bs (t.extract (Int.toNat ((p + 6 : Nat) : Int)) (Int.toNat (t.size : Int))) = ((bs t).drop p).drop 6 := by rw [List.drop_drop]; exact bs_ext1 t (p + 6)
         obtain ⟨z, s1, s2⟩ := rsize_eq n (t.extract (Int.toNat ((p + 6 : Nat) : Int)) (Int.toNat (t.size : Int))) hn
         rw [hw] at s1 s2
         rw [decide_eq_true h2, if_pos rfl, w6, if_pos c3, s1, Option.bind_some]
         refine ⟨_, v.1, p1, p2, z, rfl, z1, z2, ?_⟩
         cases hW : sizeW (((bs t).drop p).drop 6) with
         | true =>
          rw [if_pos rfl, if_pos ⟨h2, rfl⟩, q2, q3, s2 hW]
         | false =>
          rw [if_neg (by simp), if_neg (fun hh => by cases hh.2)]
          rfl
       · rw [decide_eq_false h2, if_neg (by simp), if_neg (fun hh => h2 hh.1)]
         exact ⟨false, v.1, p1, p2, -1, rfl, z1, z2, rfl⟩
     · have c2 : ¬ decide (((p : Nat) : Int) < (t.size : Int)) = true := by simp; omega
       have hnil : (bs t).drop p = [] := List.drop_eq_nil_of_le (by rw [bs_len]; omega)
       rw [if_neg c2, if_pos hnil]
       refine ⟨true, v.1, p1, p2, -1, rfl, z1, z2, ?_⟩
       rw [if_pos rfl, q2, q3]
   obtain ⟨ok, nl, p1, p2, z, k1, k2, k3, k4⟩ := key
   have := refM_out n 3 r ok zs nl p1 p2 z (by decide) k2 k3 hn k1
   rw [e0s, k4] at this
   exact this
 · rw [if_neg h1] at hJ4 ⊢
   refine refM_ret n 3 r ?_
   unfold r4_ParseVerb_J2 r4_ParseVerb_J2_B
   rw [if_neg n1, if_neg n2, if_neg n7, if_neg n9, if_pos n3, hJ3, Option.bind_some]
   simp only [onL]
   rw [hJ4, Option.bind_some]
theorem ref_rcpt (n : Nat) (r : BA) (hs : r.size ≤ 20000) (hn : 10000000 ≤ n) : RmIs 4 (refM n 4 r) (okC 4 (cand 4 (bs r))) := by
 have e4 : bs (⟨#[32, 84, 79, 58]⟩ : BA) = [32, 84, 79, 58] := rfl
 have z4 : (⟨#[32, 84, 79, 58]⟩ : BA).size = 4 := rfl
 have hJ3 : r4_ParseVerb_J3 n 4 r (⟨#[32, 70, 82, 79, 77, 58]⟩ : BA) 0 zs false zs zs 0 4 zs false zs zs 0 = some (.out (4, r, (⟨#[32, 84, 79, 58]⟩ : BA), 0, zs, false, zs, zs, 0, 4, zs, false, zs, zs, 0)) := rfl
 have hJ4 := pv_J4 n 4 r (⟨#[32, 84, 79, 58]⟩ : BA) (by omega) (by omega) hn rfl 4 zs false zs zs 0
 rw [e4, z4] at hJ4
 have n1 : ¬ ((4 : Int) == 1) = true := by decide
 have n2 : ¬ ((4 : Int) == 2) = true := by decide
 have n7 : ¬ ((4 : Int) == 7) = true := by decide
 have n9 : ¬ ((4 : Int) == 9) = true := by decide
 have n3 : ¬ ((4 : Int) == 3) = true := by decide
 have n4 : ((4 : Int) == 4) = true := rfl
 unfold cand
 rw [if_neg (by decide), if_pos rfl]
 by_cases h1 : ((bs r).take 4).map up = [32, 84, 79, 58]
 · rw [if_pos h1] at hJ4 ⊢
   have h6 : 4 ≤ r.size := by
    have := take_map_len (l := bs r) (w := [32, 84, 79, 58]) (f := up) h1
    rw [bs_len] at this; exact this
   have c6 : 0 ≤ (((⟨#[32, 84, 79, 58]⟩ : BA).size : Nat) : Int) ∧ (((⟨#[32, 84, 79, 58]⟩ : BA).size : Nat) : Int) ≤ (r.size : Int) := ⟨by omega, by omega⟩
   have hu : bs (r.extract (Int.toNat (((⟨#[32, 84, 79, 58]⟩ : BA).size : Nat) : Int)) (Int.toNat (r.size : Int))) = (bs r).drop 4 := bs_ext1 r 4
   have huz : (r.extract (Int.toNat (((⟨#[32, 84, 79, 58]⟩ : BA).size : Nat) : Int)) (Int.toNat (r.size : Int))).size ≤ 20000 := by
    have := ext_sz r (Int.toNat (((⟨#[32, 84, 79, 58]⟩ : BA).size : Nat) : Int)) (Int.toNat (r.size : Int)); omega
   have key : ∃ ok nl p1 p2 z, r4_ParseVerb_J2 n 4 r 0 zs false zs zs 0 4 zs false zs zs 0 = some (.out (ok, 0, zs, false, zs, zs, 0, 4, zs, nl, p1, p2, z)) ∧ p1.size ≤ 100000 ∧ p2.size ≤ 100000 ∧
     (if ok = true then okC 4 (some ([], (nl, (bs p1, (bs p2, z))))) else none) = okC 4 ((pthL (trim1 ((bs r).drop 4))).map fun v => ([], (v.1, (v.2.1, (v.2.2, 0))))) := by
    unfold r4_ParseVerb_J2 r4_ParseVerb_J2_B
    rw [if_neg n1, if_neg n2, if_neg n7, if_neg n9, if_neg n3, if_pos n4, hJ3, Option.bind_some]
    simp only [onL]
    rw [hJ4, Option.bind_some]
    simp only [onL]
    rw [if_pos c6]
    generalize r.extract (Int.toNat (((⟨#[32, 84, 79, 58]⟩ : BA).size : Nat) : Int)) (Int.toNat (r.size : Int)) = u at hu huz
    rw [pv_J5, Option.bind_some]
    simp only [onL]
    have ht := trim_bs u
    have hz : (if (bs u).head? = some 32 then u.extract 1 u.size else u).size ≤ 20000 := by
     split
     · have := ext_sz u 1 u.size; omega
     · exact huz
    generalize (if (bs u).head? = some 32 then u.extract 1 u.size else u) = t at ht hz
    rw [← hu, ← ht]
    have hJ6 : r4_ParseVerb_J6 n 4 t (t.size : Int) 0 zs false zs zs 0 4 zs false zs zs 0 = some (.out (t, (t.size : Int), 0, zs, false, zs, zs, 0, 4, zs, false, zs, zs, 0)) := rfl
    rw [hJ6, Option.bind_some]
    simp only [onL]
    have c1 : 0 ≤ (t.size : Int) ∧ (t.size : Int) ≤ (t.size : Int) := ⟨by omega, by omega⟩
    have hx : bs (t.extract (Int.toNat (0 : Int)) (Int.toNat (t.size : Int))) = bs t := by
     have := bs_ext0 t t.size
     rw [← bs_len, List.take_length] at this
     rw [bs_len] at this; exact this
    have hP := Path_eq n (t.extract (Int.toNat (0 : Int)) (Int.toNat (t.size : Int))) (by have := ext_sz t (Int.toNat (0 : Int)) (Int.toNat (t.size : Int)); omega) hn
    rw [hx] at hP
    rw [if_pos c1]
    cases hv : pthL (bs t) with
    | none =>
     rw [hv] at hP
     refine ⟨false, false, zs, zs, 0, ?_, by decide, by decide, rfl⟩
     rw [hP.1, Option.bind_some]
     rfl
    | some v =>
     rw [hv] at hP
     obtain ⟨p1, p2, q1, _, q2, q3⟩ := hP
     obtain ⟨l1, l2⟩ := pth_len hv
     rw [bs_len] at l1 l2
     have z1 : p1.size ≤ 100000 := by rw [← bs_len, q2]; omega
     have z2 : p2.size ≤ 100000 := by rw [← bs_len, q3]; omega
     have c2 : ¬ decide ((t.size : Int) < (t.size : Int)) = true := by simp
     rw [q1, Option.bind_some]
     simp only
     rw [if_pos trivial, if_neg c2]
     refine ⟨true, v.1, p1, p2, 0, rfl, z1, z2, ?_⟩
     rw [if_pos rfl, q2, q3]
     rfl
   obtain ⟨ok, nl, p1, p2, z, k1, k2, k3, k4⟩ := key
   have := refM_out n 4 r ok zs nl p1 p2 z (by decide) k2 k3 hn k1
   rw [e0s, k4] at this
   exact this
 · rw [if_neg h1] at hJ4 ⊢
   refine refM_ret n 4 r ?_
   unfold r4_ParseVerb_J2 r4_ParseVerb_J2_B
   rw [if_neg n1, if_neg n2, if_neg n7, if_neg n9, if_neg n3, if_pos n4, hJ3, Option.bind_some]
   simp only [onL]
   rw [hJ4, Option.bind_some]
open Go Go.RowKit
theorem trim1_sp {l : List Int} (h : l = [] ∨ l.head? = some 32) : trim1 l = l.drop 1 := by
 rcases h with rfl | h
 · rfl
 · unfold trim1; rw [if_pos h]
theorem vL_dom0 (k : Int) (hk : k = 1 ∨ k = 2) : vL k [] false [] [] 0 = false := by
 rcases hk with rfl | rfl <;> decide
theorem vL_word (k : Int) (hk : k = 5 ∨ k = 6 ∨ k = 8) {w : List Int} (hw : w ≠ []) (nl : Bool) (a b : List Int) (z : Int) : vL k w nl a b z = false := by
 rcases hk with rfl | rfl | rfl <;> simp [vL, hw]
theorem ref_dom1 (n : Nat) (r : BA) (hs : r.size ≤ 20000) (hn : 10000000 ≤ n) (hsp : bs r = [] ∨ (bs r).head? = some 32) : RmIs 1 (refM n 1 r) (okC 1 (cand 1 (bs r))) := by
 unfold cand
 rw [if_neg (by decide), if_neg (by decide), if_pos rfl, trim1_sp hsp]
 by_cases h0 : bs r = []
 · have hJ : r4_ParseVerb_J2 n 1 r 0 zs false zs zs 0 1 zs false zs zs 0 = some (.out (false, 0, zs, false, zs, zs, 0, 1, zs, false, zs, zs, 0)) := by
    unfold r4_ParseVerb_J2 r4_ParseVerb_J2_B
    rw [if_pos (show ((1 : Int) == 1) = true from rfl), str_eq, e0s, decide_eq_true h0, if_neg (by decide)]
    rfl
   have := refM_out n 1 r false zs false zs zs 0 (by decide) (by decide) (by decide) hn hJ
   rw [h0]
   show RmIs 1 _ (okC 1 (some ([], (false, ([], ([], 0))))))
   rw [okC_no (vL_dom0 1 (by decide))]
   exact this
 · have hz : 0 < r.size := by rw [← bs_len]; exact List.length_pos_iff.2 h0
   have c1 : 0 ≤ (1 : Int) ∧ (1 : Int) ≤ (r.size : Int) := ⟨by omega, by omega⟩
   obtain ⟨t, h1, h2⟩ := Lower_eq n (r.extract (Int.toNat (1 : Int)) (Int.toNat (r.size : Int))) (by have := ext_sz r (Int.toNat (1 : Int)) (Int.toNat (r.size : Int)); omega) hn
   have hx : bs (r.extract (Int.toNat (1 : Int)) (Int.toNat (r.size : Int))) = (bs r).drop 1 := bs_ext1 r 1
   rw [hx] at h2
   have htz : t.size ≤ 20000 := by rw [← bs_len, h2, List.length_map, List.length_drop, bs_len]; omega
   have hJ : r4_ParseVerb_J2 n 1 r 0 zs false zs zs 0 1 zs false zs zs 0 = some (.out (true, 0, zs, false, zs, zs, 0, 1, t, false, zs, zs, 0)) := by
    unfold r4_ParseVerb_J2 r4_ParseVerb_J2_B
    rw [if_pos (show ((1 : Int) == 1) = true from rfl), str_eq, e0s, decide_eq_false h0, if_pos (by decide), if_pos c1, h1]
    rfl
   have := refM_out n 1 r true t false zs zs 0 (by omega) (by decide) (by decide) hn hJ
   rw [h2, e0s] at this
   exact this
theorem ref_dom2 (n : Nat) (r : BA) (hs : r.size ≤ 20000) (hn : 10000000 ≤ n) (hsp : bs r = [] ∨ (bs r).head? = some 32) : RmIs 2 (refM n 2 r) (okC 2 (cand 2 (bs r))) := by
 have n1 : ¬ ((2 : Int) == 1) = true := by decide
 unfold cand
 rw [if_neg (by decide), if_neg (by decide), if_neg (by decide), if_pos rfl, trim1_sp hsp]
 by_cases h0 : bs r = []
 · have hJ : r4_ParseVerb_J2 n 2 r 0 zs false zs zs 0 2 zs false zs zs 0 = some (.out (false, 0, zs, false, zs, zs, 0, 2, zs, false, zs, zs, 0)) := by
    unfold r4_ParseVerb_J2 r4_ParseVerb_J2_B
    rw [if_neg n1, if_pos (show ((2 : Int) == 2) = true from rfl), str_eq, e0s, decide_eq_true h0, if_neg (by decide)]
    rfl
   have := refM_out n 2 r false zs false zs zs 0 (by decide) (by decide) (by decide) hn hJ
   rw [h0]
   show RmIs 2 _ (okC 2 (some ([], (false, ([], ([], 0))))))
   rw [okC_no (vL_dom0 2 (by decide))]
   exact this
 · have hz : 0 < r.size := by rw [← bs_len]; exact List.length_pos_iff.2 h0
   have c1 : 0 ≤ (1 : Int) ∧ (1 : Int) ≤ (r.size : Int) := ⟨by omega, by omega⟩
   obtain ⟨t, h1, h2⟩ := Lower_eq n (r.extract (Int.toNat (1 : Int)) (Int.toNat (r.size : Int))) (by have := ext_sz r (Int.toNat (1 : Int)) (Int.toNat (r.size : Int)); omega) hn
   have hx : bs (r.extract (Int.toNat (1 : Int)) (Int.toNat (r.size : Int))) = (bs r).drop 1 := bs_ext1 r 1
   rw [hx] at h2
   have htz : t.size ≤ 20000 := by rw [← bs_len, h2, List.length_map, List.length_drop, bs_len]; omega
   have hJ : r4_ParseVerb_J2 n 2 r 0 zs false zs zs 0 2 zs false zs zs 0 = some (.out (true, 0, zs, false, zs, zs, 0, 2, t, false, zs, zs, 0)) := by
    unfold r4_ParseVerb_J2 r4_ParseVerb_J2_B
    rw [if_neg n1, if_pos (show ((2 : Int) == 2) = true from rfl), str_eq, e0s, decide_eq_false h0, if_pos (by decide), if_pos c1, h1]
    rfl
   have := refM_out n 2 r true t false zs zs 0 (by omega) (by decide) (by decide) hn hJ
   rw [h2, e0s] at this
   exact this
theorem ref_word7 (n : Nat) (r : BA) (hs : r.size ≤ 20000) (hn : 10000000 ≤ n) (hsp : bs r = [] ∨ (bs r).head? = some 32) : RmIs 7 (refM n 7 r) (okC 7 (cand 7 (bs r))) := by
 have n1 : ¬ ((7 : Int) == 1) = true := by decide
 have n2 : ¬ ((7 : Int) == 2) = true := by decide
 have e32 : bs (⟨#[32]⟩ : BA) = [32] := rfl
 unfold cand
 rw [if_neg (by decide), if_neg (by decide), if_neg (by decide), if_neg (by decide), trim1_sp hsp]
 by_cases h0 : bs r = []
 · have hJ : r4_ParseVerb_J2 n 7 r 0 zs false zs zs 0 7 zs false zs zs 0 = some (.out (true, 0, zs, false, zs, zs, 0, 7, zs, false, zs, zs, 0)) := by
    unfold r4_ParseVerb_J2 r4_ParseVerb_J2_B
    rw [if_neg n1, if_neg n2, if_pos (show ((7 : Int) == 7) = true from rfl), str_eq, e0s, decide_eq_true h0, if_neg (by decide), str_eq, h0, e32]
    rfl
   have := refM_out n 7 r true zs false zs zs 0 (by decide) (by decide) (by decide) hn hJ
   rw [h0, if_neg (by decide)]
   exact this
 · have hz : 0 < r.size := by rw [← bs_len]; exact List.length_pos_iff.2 h0
   have c1 : 0 ≤ (1 : Int) ∧ (1 : Int) ≤ (r.size : Int) := ⟨by omega, by omega⟩
   have hx : bs (r.extract (Int.toNat (1 : Int)) (Int.toNat (r.size : Int))) = (bs r).drop 1 := bs_ext1 r 1
   have htz : (r.extract (Int.toNat (1 : Int)) (Int.toNat (r.size : Int))).size ≤ 20000 := by have := ext_sz r (Int.toNat (1 : Int)) (Int.toNat (r.size : Int)); omega
   have hJ : r4_ParseVerb_J2 n 7 r 0 zs false zs zs 0 7 zs false zs zs 0 = some (.out (!decide (bs r = [32]), 0, zs, false, zs, zs, 0, 7, r.extract (Int.toNat (1 : Int)) (Int.toNat (r.size : Int)), false, zs, zs, 0)) := by
    unfold r4_ParseVerb_J2 r4_ParseVerb_J2_B
    rw [if_neg n1, if_neg n2, if_pos (show ((7 : Int) == 7) = true from rfl), str_eq, e0s, decide_eq_false h0, if_pos (by decide), if_pos c1, str_eq, e32]
   have := refM_out n 7 r _ (r.extract (Int.toNat (1 : Int)) (Int.toNat (r.size : Int))) false zs zs 0 (by omega) (by decide) (by decide) hn hJ
   rw [hx, e0s] at this
   by_cases h32 : bs r = [32]
   · rw [decide_eq_true h32, if_neg (by decide)] at this
     rw [if_pos h32]; exact this
   · rw [decide_eq_false h32, if_pos (by decide)] at this
     rw [if_neg h32]; exact this
theorem ref_word9 (n : Nat) (r : BA) (hs : r.size ≤ 20000) (hn : 10000000 ≤ n) (hsp : bs r = [] ∨ (bs r).head? = some 32) : RmIs 9 (refM n 9 r) (okC 9 (cand 9 (bs r))) := by
 have n1 : ¬ ((9 : Int) == 1) = true := by decide
 have n2 : ¬ ((9 : Int) == 2) = true := by decide
 have n7 : ¬ ((9 : Int) == 7) = true := by decide
 have e32 : bs (⟨#[32]⟩ : BA) = [32] := rfl
 unfold cand
 rw [if_neg (by decide), if_neg (by decide), if_neg (by decide), if_neg (by decide), trim1_sp hsp]
 by_cases h0 : bs r = []
 · have hJ : r4_ParseVerb_J2 n 9 r 0 zs false zs zs 0 9 zs false zs zs 0 = some (.out (true, 0, zs, false, zs, zs, 0, 9, zs, false, zs, zs, 0)) := by
    unfold r4_ParseVerb_J2 r4_ParseVerb_J2_B
    rw [if_neg n1, if_neg n2, if_neg n7, if_pos (show ((9 : Int) == 9) = true from rfl), str_eq, e0s, decide_eq_true h0, if_neg (by decide), str_eq, h0, e32]
    rfl
   have := refM_out n 9 r true zs false zs zs 0 (by decide) (by decide) (by decide) hn hJ
   rw [h0, if_neg (by decide)]
   exact this
 · have hz : 0 < r.size := by rw [← bs_len]; exact List.length_pos_iff.2 h0
   have c1 : 0 ≤ (1 : Int) ∧ (1 : Int) ≤ (r.size : Int) := ⟨by omega, by omega⟩
   have hx : bs (r.extract (Int.toNat (1 : Int)) (Int.toNat (r.size : Int))) = (bs r).drop 1 := bs_ext1 r 1
   have htz : (r.extract (Int.toNat (1 : Int)) (Int.toNat (r.size : Int))).size ≤ 20000 := by have := ext_sz r (Int.toNat (1 : Int)) (Int.toNat (r.size : Int)); omega
   have hJ : r4_ParseVerb_J2 n 9 r 0 zs false zs zs 0 9 zs false zs zs 0 = some (.out (!decide (bs r = [32]), 0, zs, false, zs, zs, 0, 9, r.extract (Int.toNat (1 : Int)) (Int.toNat (r.size : Int)), false, zs, zs, 0)) := by
    unfold r4_ParseVerb_J2 r4_ParseVerb_J2_B
    rw [if_neg n1, if_neg n2, if_neg n7, if_pos (show ((9 : Int) == 9) = true from rfl), str_eq, e0s, decide_eq_false h0, if_pos (by decide), if_pos c1, str_eq, e32]
   have := refM_out n 9 r _ (r.extract (Int.toNat (1 : Int)) (Int.toNat (r.size : Int))) false zs zs 0 (by omega) (by decide) (by decide) hn hJ
   rw [hx, e0s] at this
   by_cases h32 : bs r = [32]
   · rw [decide_eq_true h32, if_neg (by decide)] at this
     rw [if_pos h32]; exact this
   · rw [decide_eq_false h32, if_pos (by decide)] at this
     rw [if_neg h32]; exact this
theorem ref_none5 (n : Nat) (r : BA) (hs : r.size ≤ 20000) (hn : 10000000 ≤ n) (hsp : bs r = [] ∨ (bs r).head? = some 32) : RmIs 5 (refM n 5 r) (okC 5 (cand 5 (bs r))) := by
 have n1 : ¬ ((5 : Int) == 1) = true := by decide
 have n2 : ¬ ((5 : Int) == 2) = true := by decide
 have n7 : ¬ ((5 : Int) == 7) = true := by decide
 have n9 : ¬ ((5 : Int) == 9) = true := by decide
 have n3 : ¬ ((5 : Int) == 3) = true := by decide
 have n4 : ¬ ((5 : Int) == 4) = true := by decide
 have hJ : r4_ParseVerb_J2 n 5 r 0 zs false zs zs 0 5 zs false zs zs 0 = some (.out (decide (bs r = []), 0, zs, false, zs, zs, 0, 5, zs, false, zs, zs, 0)) := by
  unfold r4_ParseVerb_J2 r4_ParseVerb_J2_B
  rw [if_neg n1, if_neg n2, if_neg n7, if_neg n9, if_neg n3, if_neg n4, str_eq, e0s]
 have := refM_out n 5 r _ zs false zs zs 0 (by decide) (by decide) (by decide) hn hJ
 rw [e0s] at this
 unfold cand
 rw [if_neg (by decide), if_neg (by decide), if_neg (by decide), if_neg (by decide), trim1_sp hsp]
 by_cases h0 : bs r = []
 · rw [decide_eq_true h0, if_pos rfl] at this
   rw [h0, if_neg (by decide)]
   exact this
 · rw [decide_eq_false h0, if_neg (by decide)] at this
   by_cases h32 : bs r = [32]
   · rw [if_pos h32]; exact this
   · have hne : (bs r).drop 1 ≠ [] := fun e => by
      rcases hsp with h | h
      · exact h0 h
      · have := head_cons h
        rw [e] at this
        exact h32 this
     rw [if_neg h32, okC_no (vL_word 5 (by decide) hne _ _ _ _)]
     exact this
theorem ref_none6 (n : Nat) (r : BA) (hs : r.size ≤ 20000) (hn : 10000000 ≤ n) (hsp : bs r = [] ∨ (bs r).head? = some 32) : RmIs 6 (refM n 6 r) (okC 6 (cand 6 (bs r))) := by
 have n1 : ¬ ((6 : Int) == 1) = true := by decide
 have n2 : ¬ ((6 : Int) == 2) = true := by decide
 have n7 : ¬ ((6 : Int) == 7) = true := by decide
 have n9 : ¬ ((6 : Int) == 9) = true := by decide
 have n3 : ¬ ((6 : Int) == 3) = true := by decide
 have n4 : ¬ ((6 : Int) == 4) = true := by decide
 have hJ : r4_ParseVerb_J2 n 6 r 0 zs false zs zs 0 6 zs false zs zs 0 = some (.out (decide (bs r = []), 0, zs, false, zs, zs, 0, 6, zs, false, zs, zs, 0)) := by
  unfold r4_ParseVerb_J2 r4_ParseVerb_J2_B
  rw [if_neg n1, if_neg n2, if_neg n7, if_neg n9, if_neg n3, if_neg n4, str_eq, e0s]
 have := refM_out n 6 r _ zs false zs zs 0 (by decide) (by decide) (by decide) hn hJ
 rw [e0s] at this
 unfold cand
 rw [if_neg (by decide), if_neg (by decide), if_neg (by decide), if_neg (by decide), trim1_sp hsp]
 by_cases h0 : bs r = []
 · rw [decide_eq_true h0, if_pos rfl] at this
   rw [h0, if_neg (by decide)]
   exact this
 · rw [decide_eq_false h0, if_neg (by decide)] at this
   by_cases h32 : bs r = [32]
   · rw [if_pos h32]; exact this
   · have hne : (bs r).drop 1 ≠ [] := fun e => by
      rcases hsp with h | h
      · exact h0 h
      · have := head_cons h
        rw [e] at this
        exact h32 this
     rw [if_neg h32, okC_no (vL_word 6 (by decide) hne _ _ _ _)]
     exact this
theorem ref_none8 (n : Nat) (r : BA) (hs : r.size ≤ 20000) (hn : 10000000 ≤ n) (hsp : bs r = [] ∨ (bs r).head? = some 32) : RmIs 8 (refM n 8 r) (okC 8 (cand 8 (bs r))) := by
 have n1 : ¬ ((8 : Int) == 1) = true := by decide
 have n2 : ¬ ((8 : Int) == 2) = true := by decide
 have n7 : ¬ ((8 : Int) == 7) = true := by decide
 have n9 : ¬ ((8 : Int) == 9) = true := by decide
 have n3 : ¬ ((8 : Int) == 3) = true := by decide
 have n4 : ¬ ((8 : Int) == 4) = true := by decide
 have hJ : r4_ParseVerb_J2 n 8 r 0 zs false zs zs 0 8 zs false zs zs 0 = some (.out (decide (bs r = []), 0, zs, false, zs, zs, 0, 8, zs, false, zs, zs, 0)) := by
  unfold r4_ParseVerb_J2 r4_ParseVerb_J2_B
  rw [if_neg n1, if_neg n2, if_neg n7, if_neg n9, if_neg n3, if_neg n4, str_eq, e0s]
 have := refM_out n 8 r _ zs false zs zs 0 (by decide) (by decide) (by decide) hn hJ
 rw [e0s] at this
 unfold cand
 rw [if_neg (by decide), if_neg (by decide), if_neg (by decide), if_neg (by decide), trim1_sp hsp]
 by_cases h0 : bs r = []
 · rw [decide_eq_true h0, if_pos rfl] at this
   rw [h0, if_neg (by decide)]
   exact this
 · rw [decide_eq_false h0, if_neg (by decide)] at this
   by_cases h32 : bs r = [32]
   · rw [if_pos h32]; exact this
   · have hne : (bs r).drop 1 ≠ [] := fun e => by
      rcases hsp with h | h
      · exact h0 h
      · have := head_cons h
        rw [e] at this
        exact h32 this
     rw [if_neg h32, okC_no (vL_word 8 (by decide) hne _ _ _ _)]
     exact this
theorem refM_eq (n : Nat) (k : Int) (r : BA) (hs : r.size ≤ 20000) (hn : 10000000 ≤ n) (hk : 1 ≤ k ∧ k ≤ 9) (hsp : bs r = [] ∨ (bs r).head? = some 32) : RmIs k (refM n k r) (okC k (cand k (bs r))) := by
 have : k = 1 ∨ k = 2 ∨ k = 3 ∨ k = 4 ∨ k = 5 ∨ k = 6 ∨ k = 7 ∨ k = 8 ∨ k = 9 := by omega
 rcases this with rfl | rfl | rfl | rfl | rfl | rfl | rfl | rfl | rfl
 · exact ref_dom1 n r hs hn hsp
 · exact ref_dom2 n r hs hn hsp
 · exact ref_mail n r hs hn
 · exact ref_rcpt n r hs hn
 · exact ref_none5 n r hs hn hsp
 · exact ref_none6 n r hs hn hsp
 · exact ref_word7 n r hs hn hsp
 · exact ref_none8 n r hs hn hsp
 · exact ref_word9 n r hs hn hsp
theorem rParse_eqV (n : Nat) (s : BA) (hs : s.size ≤ 20000) (hn : 10000000 ≤ n) : Res (r4_ParseVerb n s) (PV (bs s)) := by
 unfold r4_ParseVerb r4_ParseVerb_B
 rw [pv_L0 n s (by omega) hn, Option.bind_some]
 simp only [onL]
 rw [pv_J1, Option.bind_some]
 unfold PV
 by_cases h : vkd ((bs s).take 4) = 0 ∨ (4 < (bs s).length ∧ (bs s)[4]? ≠ some 32)
 · rw [if_pos h, if_pos h]
   rfl
 · rw [if_neg h, if_neg h]
   simp only [onL]
   rcases vkd_pos ((bs s).take 4) with h0 | ⟨h1, h2, h3⟩
   · exact absurd (.inl h0) h
   · rw [List.length_take, bs_len] at h3
     have c2 : 0 ≤ (4 : Int) ∧ (4 : Int) ≤ (s.size : Int) := ⟨by omega, by omega⟩
     rw [if_pos c2]
     have hx : bs (s.extract (Int.toNat (4 : Int)) (Int.toNat (s.size : Int))) = (bs s).drop 4 := bs_ext1 s 4
     have hsp : (bs s).drop 4 = [] ∨ ((bs s).drop 4).head? = some 32 := by
      by_cases h5 : 4 < (bs s).length
      · right
        have : (bs s)[4]? = some 32 := by
         rcases Classical.em ((bs s)[4]? = some 32) with g | g
         · exact g
         · exact absurd (.inr ⟨h5, g⟩) h
        rw [List.head?_drop]; exact this
      · left; exact List.drop_eq_nil_of_le (by omega)
     have hm := refM_eq n (vkd ((bs s).take 4)) (s.extract (Int.toNat (4 : Int)) (Int.toNat (s.size : Int))) (by have := ext_sz s (Int.toNat (4 : Int)) (Int.toNat (s.size : Int)); omega) hn ⟨h1, h2⟩ (by rw [hx]; exact hsp)
     rw [hx] at hm
     change Res (refM n (vkd ((bs s).take 4)) (s.extract (Int.toNat (4 : Int)) (Int.toNat (s.size : Int)))) _
     cases hc : okC (vkd ((bs s).take 4)) (cand (vkd ((bs s).take 4)) ((bs s).drop 4)) with
     | none => rw [hc] at hm; exact hm
     | some x => rw [hc] at hm; exact hm
theorem parse_same (n : Nat) (s : BA) (hs : s.size ≤ 20000) (hn : 10000000 ≤ n) : ∃ (k : Int) (w : BA) (nl : Bool) (a b : BA) (z : Int) (e : Int),
  v_Parse n s = some ((k, (w, (nl, ((a, (b, ())), (z, ()))))), (e, ())) ∧ r4_ParseVerb n s = some ((k, (w, (nl, ((a, (b, ())), (z, ()))))), (e, ())) := by
 have h1 := vParse_eq n s hs hn
 have h2 := rParse_eqV n s hs hn
 cases hp : PV (bs s) with
 | error c =>
  rw [hp] at h1 h2
  exact ⟨0, zs, false, zs, zs, 0, c, h1, h2⟩
 | ok y =>
  rw [hp] at h1 h2
  obtain ⟨w, a, b, i1, i2, i3, i4⟩ := h1
  obtain ⟨w', a', b', j1, j2, j3, j4⟩ := h2
  have x1 : w' = w := bs_inj (j2.trans i2.symm)
  have x2 : a' = a := bs_inj (j3.trans i3.symm)
  have x3 : b' = b := bs_inj (j4.trans i4.symm)
  subst x1 x2 x3
  exact ⟨_, _, _, _, _, _, _, i1, j1⟩
open Go Go.RowKit
theorem num5_eq (n : Nat) (e : Int) : w5_num n e = some e := rfl
theorem wakes5_eq (n : Nat) (hn : 10000000 ≤ n) : w5_wakes n = some true := by
 have h := vParse_eq n (⟨#[109, 97, 105, 108, 32, 102, 114, 111, 109, 58, 60, 62, 32, 115, 105, 122, 101, 61, 49, 48]⟩ : BA) (by decide) hn
 have e : PV (bs (⟨#[109, 97, 105, 108, 32, 102, 114, 111, 109, 58, 60, 62, 32, 115, 105, 122, 101, 61, 49, 48]⟩ : BA)) = .ok (3, ([], (true, ([], ([], 10))))) := by kernel_rfl
 rw [e] at h
 obtain ⟨w, a, b, h1, h2, h3, h4⟩ := h
 unfold w5_wakes w5_wakes_B
 rw [h1]
 simp only [Option.bind_some, num5_eq, str_eq, e0s, h2, h3, h4]
 decide
abbrev Ask5 := Vb × (BA × (Int × Unit))
abbrev tVb : CTy := .pair (.int .i64) (.pair .str (.pair .bool (.pair (.pair .str (.pair .str .unit)) (.pair (.int .i64) .unit))))
abbrev tAsk5 : CTy := .pair tVb (.pair .str (.pair (.int .i64) .unit))
theorem heavy5_eq (n : Nat) (k : Int) (w : BA) (nl : Bool) (a b : BA) (z : Int) (s : BA) (N : Int) (h1 : w.size ≤ reachBytes) (h2 : a.size ≤ reachBytes) (h3 : b.size ≤ reachBytes) :
  w5_heavy n ((k, (w, (nl, ((a, (b, ())), (z, ()))))), (s, (N, ()))) = some (decide (w.size + a.size + b.size > 2000) || decide (s.size > 2000)) := by
 have hr : reachBytes < 140737488355328 := by decide
 unfold w5_heavy w5_heavy_B
 simp only
 rw [wr (x := (w.size : Int) + (a.size : Int)) (by omega) (by omega), wr (by omega) (by omega)]
 by_cases g : w.size + a.size + b.size > 2000
 · have : ((w.size : Int) + (a.size : Int) + (b.size : Int)) > 2000 := by omega
   simp [g, this]
 · have : ¬ ((w.size : Int) + (a.size : Int) + (b.size : Int)) > 2000 := by omega
   have e : decide ((s.size : Int) > 2000) = decide (s.size > 2000) := by rw [decide_eq_decide]; omega
   simp only [this, g, decide_false, e]
   simp
theorem ask5_fit {l : Sq Ask5} (h : Fit reachBytes (.sl tAsk5) l) (i : Nat) (hi : i < l.n) : (l.at' i).1.2.1.size ≤ reachBytes ∧ (l.at' i).1.2.2.2.1.1.size ≤ reachBytes ∧ (l.at' i).1.2.2.2.1.2.1.size ≤ reachBytes ∧ (l.at' i).2.1.size ≤ reachBytes := by
 have := h.2 i hi
 exact ⟨this.1.2.1, this.1.2.2.2.1.1, this.1.2.2.2.1.2.1, this.2.1⟩
/-! VerbParses. -/
theorem VerbParses_L0 (n : Nat) (hn : 10000000 ≤ n) (l : Sq Ask5) (hf : Fit reachBytes (.sl tAsk5) l) : ∀ (d k m : Nat), k + d = 16 → d < m → k ≤ 15 → ∃ x, w5_VerbParses_L0 n m l k = some x ∧ (x = .out () ∨ x = .ret true)
 | 0, k, m, h, hm, hk => by omega
 | d + 1, k, m, h, hm, hk => by
  obtain ⟨m, rfl⟩ : ∃ q, m = q + 1 := ⟨m - 1, by omega⟩
  by_cases g1 : (k : Int) < (l.n : Int)
  · by_cases g2 : (k : Int) < 15
    · have a1 : (0 : Int) ≤ (k : Int) := by omega
      have e1 := wr1 (k := k) (by omega)
      obtain ⟨f1, f2, f3, f4⟩ := ask5_fit hf k (by omega)
      obtain ⟨x, hx, hor⟩ := VerbParses_L0 n hn l hf d (k + 1) m (by omega) (by omega) (by omega)
      generalize hp : l.at' k = p at f1 f2 f3 f4
      have hH := heavy5_eq n p.1.1 p.1.2.1 p.1.2.2.1 p.1.2.2.2.1.1 p.1.2.2.2.1.2.1 p.1.2.2.2.2.1 p.2.1 p.2.2.1 f1 f2 f3
      by_cases g3 : (decide (p.1.2.1.size + p.1.2.2.2.1.1.size + p.1.2.2.2.1.2.1.size > 2000) || decide (p.2.1.size > 2000)) = true
      · refine ⟨.ret true, ?_, .inr rfl⟩
        rw [g3] at hH
        simp only [w5_VerbParses_L0, w5_VerbParses_B0, g1, g2, a1, Int.toNat_natCast, hp, hH, decide_true, Option.bind_some]
        rfl
      · have g3' : (decide (p.1.2.1.size + p.1.2.2.2.1.1.size + p.1.2.2.2.1.2.1.size > 2000) || decide (p.2.1.size > 2000)) = false := by simpa using g3
        rw [g3'] at hH
        simp only [Bool.or_eq_false_iff, decide_eq_false_iff_not] at g3'
        refine ⟨x, ?_, hor⟩
        rw [← hx]
        obtain ⟨k', w', nl', a', b', z', e', j1, j2⟩ := parse_same n p.2.1 (by omega) hn
        simp only [w5_VerbParses_L0, w5_VerbParses_B0, g1, g2, a1, Int.toNat_natCast, hp, hH, decide_true, Option.bind_some, j1, j2, num5_eq, e1]
        simp
    · refine ⟨.out (), ?_, .inl rfl⟩
      simp only [w5_VerbParses_L0, w5_VerbParses_B0, g1, g2, decide_true, decide_false]
      rfl
  · refine ⟨.out (), ?_, .inl rfl⟩
    simp only [w5_VerbParses_L0, w5_VerbParses_B0, g1, decide_false]
    rfl
theorem plain_VerbParses (l : Sq Ask5) (h : Fit reachBytes (.sl tAsk5) l) : ∃ n, w5_VerbParses n l = some true := by
 refine ⟨10000000, ?_⟩
 obtain ⟨x, hx, hor⟩ := VerbParses_L0 10000000 (Nat.le_refl _) l h 16 0 10000000 rfl (by decide) (by decide)
 unfold w5_VerbParses w5_VerbParses_B
 rw [show ((0 : Nat) : Int) = 0 from rfl] at hx
 rw [hx, Option.bind_some]
 rcases hor with rfl | rfl
 · simp only [onL]
   rw [wakes5_eq _ (Nat.le_refl _)]; rfl
 · rfl
/-! VerbTexts. -/
theorem text_same (n : Nat) (k : Int) (w a b : BA) (nl : Bool) (z : Int) (hw : w.size ≤ 1000000) (ha : a.size ≤ 100000) (hb : b.size ≤ 100000) (hn : 10000000 ≤ n) (hv : vL k (bs w) nl (bs a) (bs b) z = true) :
  ∃ t, v_Text n (k, (w, (nl, ((a, (b, ())), (z, ()))))) = some (t, (0, ())) ∧ r4_VerbText n (k, (w, (nl, ((a, (b, ())), (z, ()))))) = some t ∧ bs t = tL k (bs w) nl (bs a) (bs b) z := by
 obtain ⟨t, h1, h2⟩ := vText_eq n k w a b nl z hw ha hb hn hv
 obtain ⟨t', h3, h4⟩ := rText_eq n k w a b nl z hw ha hb hn hv
 have : t' = t := bs_inj (h4.trans h2.symm)
 subst this
 exact ⟨t', h1, h3, h2⟩
theorem VerbTexts_L0 (n : Nat) (hn : 10000000 ≤ n) (l : Sq Ask5) (hf : Fit reachBytes (.sl tAsk5) l) : ∀ (d k m : Nat), k + d = 16 → d < m → k ≤ 15 → ∃ x, w5_VerbTexts_L0 n m l k = some x ∧ (x = .out () ∨ x = .ret true)
 | 0, k, m, h, hm, hk => by omega
 | d + 1, k, m, h, hm, hk => by
  obtain ⟨m, rfl⟩ : ∃ q, m = q + 1 := ⟨m - 1, by omega⟩
  by_cases g1 : (k : Int) < (l.n : Int)
  · by_cases g2 : (k : Int) < 15
    · have a1 : (0 : Int) ≤ (k : Int) := by omega
      have e1 := wr1 (k := k) (by omega)
      obtain ⟨f1, f2, f3, f4⟩ := ask5_fit hf k (by omega)
      obtain ⟨x, hx, hor⟩ := VerbTexts_L0 n hn l hf d (k + 1) m (by omega) (by omega) (by omega)
      generalize hp : l.at' k = p at f1 f2 f3 f4
      have hH := heavy5_eq n p.1.1 p.1.2.1 p.1.2.2.1 p.1.2.2.2.1.1 p.1.2.2.2.1.2.1 p.1.2.2.2.2.1 p.2.1 p.2.2.1 f1 f2 f3
      by_cases g3 : (decide (p.1.2.1.size + p.1.2.2.2.1.1.size + p.1.2.2.2.1.2.1.size > 2000) || decide (p.2.1.size > 2000)) = true
      · refine ⟨.ret true, ?_, .inr rfl⟩
        rw [g3] at hH
        simp only [w5_VerbTexts_L0, w5_VerbTexts_B0, g1, g2, a1, Int.toNat_natCast, hp, hH, decide_true, Option.bind_some]
        rfl
      · have g3' : (decide (p.1.2.1.size + p.1.2.2.2.1.1.size + p.1.2.2.2.1.2.1.size > 2000) || decide (p.2.1.size > 2000)) = false := by simpa using g3
        rw [g3'] at hH
        simp only [Bool.or_eq_false_iff, decide_eq_false_iff_not] at g3'
        refine ⟨x, ?_, hor⟩
        rw [← hx]
        have hV := rVerb_eq n p.1.1 p.1.2.1 p.1.2.2.2.1.1 p.1.2.2.2.1.2.1 p.1.2.2.1 p.1.2.2.2.2.1 (by omega) (by omega) (by omega) hn
        have hC := vCheck_eq n p.1.1 p.1.2.1 p.1.2.2.2.1.1 p.1.2.2.2.1.2.1 p.1.2.2.1 p.1.2.2.2.2.1 (by omega) (by omega) (by omega) hn
        cases hv : vL p.1.1 (bs p.1.2.1) p.1.2.2.1 (bs p.1.2.2.2.1.1) (bs p.1.2.2.2.1.2.1) p.1.2.2.2.2.1 with
        | true =>
         rw [hv] at hV hC
         obtain ⟨t, t1, t2, _⟩ := text_same n p.1.1 p.1.2.1 p.1.2.2.2.1.1 p.1.2.2.2.1.2.1 p.1.2.2.1 p.1.2.2.2.2.1 (by omega) (by omega) (by omega) hn hv
         simp only [w5_VerbTexts_L0, w5_VerbTexts_B0, g1, g2, a1, Int.toNat_natCast, hp, hH, decide_true, Option.bind_some, hV, hC, t1, t2, num5_eq, e1]
         simp
        | false =>
         rw [hv] at hV hC
         have t1 := vText_no n p.1.1 p.1.2.1 p.1.2.2.2.1.1 p.1.2.2.2.1.2.1 p.1.2.2.1 p.1.2.2.2.2.1 (by omega) (by omega) (by omega) hn hv
         simp only [w5_VerbTexts_L0, w5_VerbTexts_B0, g1, g2, a1, Int.toNat_natCast, hp, hH, decide_true, Option.bind_some, hV, hC, t1, num5_eq, e1]
         simp
    · refine ⟨.out (), ?_, .inl rfl⟩
      simp only [w5_VerbTexts_L0, w5_VerbTexts_B0, g1, g2, decide_true, decide_false]
      rfl
  · refine ⟨.out (), ?_, .inl rfl⟩
    simp only [w5_VerbTexts_L0, w5_VerbTexts_B0, g1, decide_false]
    rfl
theorem plain_VerbTexts (l : Sq Ask5) (h : Fit reachBytes (.sl tAsk5) l) : ∃ n, w5_VerbTexts n l = some true := by
 refine ⟨10000000, ?_⟩
 obtain ⟨x, hx, hor⟩ := VerbTexts_L0 10000000 (Nat.le_refl _) l h 16 0 10000000 rfl (by decide) (by decide)
 unfold w5_VerbTexts w5_VerbTexts_B
 rw [show ((0 : Nat) : Int) = 0 from rfl] at hx
 rw [hx, Option.bind_some]
 rcases hor with rfl | rfl
 · simp only [onL]
   rw [wakes5_eq _ (Nat.le_refl _)]; rfl
 · rfl
open Go Go.RowKit
theorem nmL_len (k : Int) : (nmL k).length = 4 := by
 unfold nmL
 repeat' split
 all_goals rfl
theorem tL_len {k : Int} {w : List Int} {nl : Bool} {a b : List Int} {z : Int} (hv : vL k w nl a b z = true) : 4 ≤ (tL k w nl a b z).length ∧ (tL k w nl a b z).length ≤ w.length + a.length + b.length + 60 := by
 have h4 := nmL_len k
 unfold tL
 by_cases k3 : k = 3
 · subst k3
   have hz := vL_size hv
   have hs : (szL z).length ≤ 30 := by
    unfold szL
    split
    · have := decI_len (u := z.toNat) (by omega)
      rw [List.length_append]
      show 6 + _ ≤ _
      omega
    · simp
   rw [if_pos rfl]
   cases nl
   · simp [h4]; omega
   · simp [h4]; omega
 · rw [if_neg k3]
   split
   · simp [h4]; omega
   · split
     · omega
     · simp [h4]; omega
theorem chk_same (n : Nat) (k : Int) (w a b : BA) (nl : Bool) (z : Int) (hw : w.size ≤ 1000000) (ha : a.size ≤ 100000) (hb : b.size ≤ 100000) (hn : 10000000 ≤ n) :
  ∃ c : Int, v_Check n (k, (w, (nl, ((a, (b, ())), (z, ()))))) = some c ∧ r4_Verb n (k, (w, (nl, ((a, (b, ())), (z, ()))))) = some (c == 0) := by
 have h1 := vCheck_eq n k w a b nl z hw ha hb hn
 have h2 := rVerb_eq n k w a b nl z hw ha hb hn
 cases hv : vL k (bs w) nl (bs a) (bs b) z with
 | true => rw [hv] at h1 h2; exact ⟨0, h1, h2⟩
 | false => rw [hv] at h1 h2; exact ⟨1, h1, h2⟩
theorem kind_L1 (n : Nat) (hn : 10000000 ≤ n) (l : Sq Ask5) (k i : Int) (s : BA) (ok : Bool) (p : Int) (w a b : BA) (nl : Bool) (z : Int) (q6 : BA) (q7 : Int) (hw : w.size ≤ 2000) (ha : a.size ≤ 2000) (hb : b.size ≤ 2000) :
  ∀ (d j m : Nat), j + d = 6 → d < m → j ≤ 5 → w5_kind_L1 n m l k i s ok j p w nl a b z q6 q7 = some (.out (l, k, i, s, ok))
 | 0, j, m, h, hm, hj => by omega
 | d + 1, j, m, h, hm, hj => by
  obtain ⟨m, rfl⟩ : ∃ q, m = q + 1 := ⟨m - 1, by omega⟩
  have z2 : (⟨#[32, 120]⟩ : BA).size = 2 := rfl
  have z1 : (⟨#[33]⟩ : BA).size = 1 := rfl
  have z3 : (⟨#[127]⟩ : BA).size = 1 := rfl
  have f0 : strFits w (⟨#[32, 120]⟩ : BA) = true := fitS (by omega)
  have f2 : strFits a (⟨#[33]⟩ : BA) = true := fitS (by omega)
  have f4 : strFits w (⟨#[127]⟩ : BA) = true := fitS (by omega)
  have e1 := wr1 (k := j) (by omega)
  by_cases h5 : j < 5
  · have c5 : (j : Int) < 5 := by omega
    have ih := kind_L1 n hn l k i s ok p w a b nl z q6 q7 hw ha hb d (j + 1) m (by omega) (by omega) (by omega)
    rw [← ih]
    have hj : j = 0 ∨ j = 1 ∨ j = 2 ∨ j = 3 ∨ j = 4 := by omega
    rcases hj with rfl | rfl | rfl | rfl | rfl
    · obtain ⟨c, h1, h2⟩ := chk_same n p (w ++ (⟨#[32, 120]⟩ : BA)) a b nl z (by rw [ByteArray.size_append]; omega) (by omega) (by omega) hn
      simp only [w5_kind_L1, w5_kind_B1, c5, e1, f0, h1, h2, num5_eq, Option.bind_some, decide_true]
      simp
    · obtain ⟨c, h1, h2⟩ := chk_same n p w a b (!nl) z (by omega) (by omega) (by omega) hn
      simp only [w5_kind_L1, w5_kind_B1, c5, e1, h1, h2, num5_eq, Option.bind_some, decide_true]
      simp
    · obtain ⟨c, h1, h2⟩ := chk_same n p w (a ++ (⟨#[33]⟩ : BA)) b nl z (by omega) (by rw [ByteArray.size_append]; omega) (by omega) hn
      simp only [w5_kind_L1, w5_kind_B1, c5, e1, f2, h1, h2, num5_eq, Option.bind_some, decide_true]
      simp
    · obtain ⟨c, h1, h2⟩ := chk_same n p w a b nl (bits .xor .i64 z (1 : Int)) (by omega) (by omega) (by omega) hn
      simp only [w5_kind_L1, w5_kind_B1, c5, e1, h1, h2, num5_eq, Option.bind_some, decide_true]
      simp
    · obtain ⟨c, h1, h2⟩ := chk_same n p (w ++ (⟨#[127]⟩ : BA)) a b nl z (by rw [ByteArray.size_append]; omega) (by omega) (by omega) hn
      simp only [w5_kind_L1, w5_kind_B1, c5, e1, f4, h1, h2, num5_eq, Option.bind_some, decide_true]
      simp
  · have c5 : ¬ (j : Int) < 5 := by omega
    simp [w5_kind_L1, w5_kind_B1, c5]
theorem kind_L2 (n : Nat) (hn : 10000000 ≤ n) (l : Sq Ask5) (k i : Int) (s : BA) (ok : Bool) (hs : ok = true → 4 ≤ s.size ∧ s.size ≤ 5000) :
  ∀ (d j m : Nat), j + d = 5 → d < m → j ≤ 4 → w5_kind_L2 n m l k i s ok j = some (.out (l, k, i))
 | 0, j, m, h, hm, hj => by omega
 | d + 1, j, m, h, hm, hj => by
  obtain ⟨m, rfl⟩ : ∃ q, m = q + 1 := ⟨m - 1, by omega⟩
  cases ok with
  | false => simp [w5_kind_L2, w5_kind_B2]
  | true =>
   obtain ⟨s1, s2⟩ := hs rfl
   by_cases h5 : j < 4
   · have c5 : (j : Int) < 4 := by omega
     have a1 : (0 : Int) ≤ (j : Int) := by omega
     have e1 := wr1 (k := j) (by omega)
     have ih := kind_L2 n hn l k i s true hs d (j + 1) m (by omega) (by omega) (by omega)
     have z1 : (⟨#[32]⟩ : BA).size = 1 := rfl
     have z2 : (⟨#[120]⟩ : BA).size = 1 := rfl
     have z3 : (⟨#[90]⟩ : BA).size = 1 := rfl
     have x1 := ext_sz s (Int.toNat (0 : Int)) (Int.toNat (3 : Int))
     have x2 := ext_sz s (Int.toNat (4 : Int)) s.size
     have f1 : strFits s (⟨#[32]⟩ : BA) = true := fitS (by omega)
     have f2 : strFits (⟨#[32]⟩ : BA) s = true := fitS (by omega)
     have f3 : strFits s (⟨#[120]⟩ : BA) = true := fitS (by omega)
     have f4 : strFits (s.extract (Int.toNat (0 : Int)) (Int.toNat (3 : Int))) (⟨#[90]⟩ : BA) = true := fitS (by omega)
     have f5 : strFits ((s.extract (Int.toNat (0 : Int)) (Int.toNat (3 : Int))) ++ (⟨#[90]⟩ : BA)) (s.extract (Int.toNat (4 : Int)) s.size) = true := fitS (by rw [ByteArray.size_append]; omega)
     have c3 : 0 ≤ (3 : Int) ∧ (3 : Int) ≤ (s.size : Int) := ⟨by omega, by omega⟩
     have c4 : 0 ≤ (4 : Int) ∧ (4 : Int) ≤ (s.size : Int) := ⟨by omega, by omega⟩
     have cj : 0 ≤ (j : Int) ∧ (j : Int) < 4 := ⟨by omega, by omega⟩
     have key : ∀ t : BA, List.getD (α := BA) [(s ++ (⟨#[32]⟩ : BA)), ((⟨#[32]⟩ : BA) ++ s), (s ++ (⟨#[120]⟩ : BA)), (((s.extract (Int.toNat (0 : Int)) (Int.toNat (3 : Int))) ++ (⟨#[90]⟩ : BA)) ++ (s.extract (Int.toNat (4 : Int)) s.size))] j (zeroEl .str) = t → t.size ≤ 20000 →
       w5_kind_L2 n (m + 1) l k i s true j = w5_kind_L2 n m l k i s true ((j + 1 : Nat) : Int) := fun t ht hz => by
      obtain ⟨k', w', nl', a', b', z', e', j1, j2⟩ := parse_same n t hz hn
      simp only [w5_kind_L2, w5_kind_B2, c5, decide_true, if_pos f1, if_pos f2, if_pos f3, if_pos c3, if_pos f4, if_pos c4, if_pos f5, if_pos cj, Int.toNat_natCast, ht, j1, j2, Option.bind_some, num5_eq, e1]
      simp
     rw [key _ rfl ?_, ih]
     have hj' : j = 0 ∨ j = 1 ∨ j = 2 ∨ j = 3 := by omega
     rcases hj' with rfl | rfl | rfl | rfl
     · show (s ++ (⟨#[32]⟩ : BA)).size ≤ _
       rw [ByteArray.size_append]; omega
     · show ((⟨#[32]⟩ : BA) ++ s).size ≤ _
       rw [ByteArray.size_append]; omega
     · show (s ++ (⟨#[120]⟩ : BA)).size ≤ _
       rw [ByteArray.size_append]; omega
     · show (((s.extract (Int.toNat (0 : Int)) (Int.toNat (3 : Int))) ++ (⟨#[90]⟩ : BA)) ++ (s.extract (Int.toNat (4 : Int)) s.size)).size ≤ _
       rw [ByteArray.size_append, ByteArray.size_append]; omega
   · have c5 : ¬ (j : Int) < 4 := by omega
     simp [w5_kind_L2, w5_kind_B2, c5]
theorem kind_L0 (n : Nat) (hn : 10000000 ≤ n) (q : Int) (l : Sq Ask5) (hf : Fit reachBytes (.sl tAsk5) l) : ∀ (d k m : Nat), k + d = 16 → d < m → k ≤ 15 → ∃ x, w5_kind_L0 n m l q k = some x ∧ (x = .out () ∨ x = .ret true)
 | 0, k, m, h, hm, hk => by omega
 | d + 1, k, m, h, hm, hk => by
  obtain ⟨m, rfl⟩ : ∃ q, m = q + 1 := ⟨m - 1, by omega⟩
  by_cases g1 : (k : Int) < (l.n : Int)
  · by_cases g2 : (k : Int) < 15
    · have a1 : (0 : Int) ≤ (k : Int) := by omega
      have e1 := wr1 (k := k) (by omega)
      obtain ⟨f1, f2, f3, f4⟩ := ask5_fit hf k (by omega)
      obtain ⟨x, hx, hor⟩ := kind_L0 n hn q l hf d (k + 1) m (by omega) (by omega) (by omega)
      generalize hp : l.at' k = p at f1 f2 f3 f4
      have hH := heavy5_eq n p.1.1 p.1.2.1 p.1.2.2.1 p.1.2.2.2.1.1 p.1.2.2.2.1.2.1 p.1.2.2.2.2.1 p.2.1 p.2.2.1 f1 f2 f3
      by_cases g3 : (decide (p.1.2.1.size + p.1.2.2.2.1.1.size + p.1.2.2.2.1.2.1.size > 2000) || decide (p.2.1.size > 2000)) = true
      · refine ⟨.ret true, ?_, .inr rfl⟩
        rw [g3] at hH
        simp only [w5_kind_L0, w5_kind_B0, g1, g2, a1, Int.toNat_natCast, hp, hH, decide_true, Option.bind_some]
        rfl
      · have g3' : (decide (p.1.2.1.size + p.1.2.2.2.1.1.size + p.1.2.2.2.1.2.1.size > 2000) || decide (p.2.1.size > 2000)) = false := by simpa using g3
        rw [g3'] at hH
        simp only [Bool.or_eq_false_iff, decide_eq_false_iff_not] at g3'
        refine ⟨x, ?_, hor⟩
        rw [← hx]
        by_cases hq : p.1.1 = q
        · have hq' : (p.1.1 != q) = false := by rw [hq]; simp
          have hV := rVerb_eq n p.1.1 p.1.2.1 p.1.2.2.2.1.1 p.1.2.2.2.1.2.1 p.1.2.2.1 p.1.2.2.2.2.1 (by omega) (by omega) (by omega) hn
          cases hv : vL p.1.1 (bs p.1.2.1) p.1.2.2.1 (bs p.1.2.2.2.1.1) (bs p.1.2.2.2.1.2.1) p.1.2.2.2.2.1 with
          | true =>
           rw [hv] at hV
           obtain ⟨t, t1, t2, t3⟩ := text_same n p.1.1 p.1.2.1 p.1.2.2.2.1.1 p.1.2.2.2.1.2.1 p.1.2.2.1 p.1.2.2.2.2.1 (by omega) (by omega) (by omega) hn hv
           have hl := tL_len hv
           rw [← t3, bs_len, bs_len, bs_len, bs_len] at hl
           have h1 := kind_L1 n hn l q k t true p.1.1 p.1.2.1 p.1.2.2.2.1.1 p.1.2.2.2.1.2.1 p.1.2.2.1 p.1.2.2.2.2.1 p.2.1 p.2.2.1 (by omega) (by omega) (by omega) 6 0 n rfl (by omega) (by omega)
           have h2 := kind_L2 n hn l q k t true (fun _ => ⟨hl.1, by omega⟩) 5 0 n rfl (by omega) (by omega)
           rw [show ((0 : Nat) : Int) = 0 from rfl] at h1 h2
           simp only [w5_kind_L0, w5_kind_B0, g1, g2, a1, Int.toNat_natCast, hp, hH, decide_true, Option.bind_some, hq', hV, t1, t2, num5_eq, h1, onL, h2, e1]
           simp
          | false =>
           rw [hv] at hV
           have t1 := vText_no n p.1.1 p.1.2.1 p.1.2.2.2.1.1 p.1.2.2.2.1.2.1 p.1.2.2.1 p.1.2.2.2.2.1 (by omega) (by omega) (by omega) hn hv
           have h1 := kind_L1 n hn l q k (⟨#[]⟩ : BA) false p.1.1 p.1.2.1 p.1.2.2.2.1.1 p.1.2.2.2.1.2.1 p.1.2.2.1 p.1.2.2.2.2.1 p.2.1 p.2.2.1 (by omega) (by omega) (by omega) 6 0 n rfl (by omega) (by omega)
           have h2 := kind_L2 n hn l q k (⟨#[]⟩ : BA) false (fun h => by cases h) 5 0 n rfl (by omega) (by omega)
           rw [show ((0 : Nat) : Int) = 0 from rfl] at h1 h2
           simp only [w5_kind_L0, w5_kind_B0, g1, g2, a1, Int.toNat_natCast, hp, hH, decide_true, Option.bind_some, hq', hV, t1, num5_eq, h1, onL, h2, e1]
           simp
        · have hq' : (p.1.1 != q) = true := by simpa using hq
          simp only [w5_kind_L0, w5_kind_B0, g1, g2, a1, Int.toNat_natCast, hp, hH, decide_true, Option.bind_some, hq', e1]
          simp
    · refine ⟨.out (), ?_, .inl rfl⟩
      simp only [w5_kind_L0, w5_kind_B0, g1, g2, decide_true, decide_false]
      rfl
  · refine ⟨.out (), ?_, .inl rfl⟩
    simp only [w5_kind_L0, w5_kind_B0, g1, decide_false]
    rfl
theorem kind_all (q : Int) (l : Sq Ask5) (h : Fit reachBytes (.sl tAsk5) l) : w5_kind 10000000 l q = some true := by
 obtain ⟨x, hx, hor⟩ := kind_L0 10000000 (Nat.le_refl _) q l h 16 0 10000000 rfl (by decide) (by decide)
 unfold w5_kind w5_kind_B
 rw [show ((0 : Nat) : Int) = 0 from rfl] at hx
 rw [hx, Option.bind_some]
 rcases hor with rfl | rfl
 · simp only [onL]
   rw [wakes5_eq _ (Nat.le_refl _)]; rfl
 · rfl
theorem plain_VerbHelos (l : Sq Ask5) (h : Fit reachBytes (.sl tAsk5) l) : ∃ n, w5_VerbHelos n l = some true := ⟨10000000, by unfold w5_VerbHelos w5_VerbHelos_B; rw [kind_all 1 l h]; rfl⟩
theorem plain_VerbEhlos (l : Sq Ask5) (h : Fit reachBytes (.sl tAsk5) l) : ∃ n, w5_VerbEhlos n l = some true := ⟨10000000, by unfold w5_VerbEhlos w5_VerbEhlos_B; rw [kind_all 2 l h]; rfl⟩
theorem plain_VerbMails (l : Sq Ask5) (h : Fit reachBytes (.sl tAsk5) l) : ∃ n, w5_VerbMails n l = some true := ⟨10000000, by unfold w5_VerbMails w5_VerbMails_B; rw [kind_all 3 l h]; rfl⟩
theorem plain_VerbRcpts (l : Sq Ask5) (h : Fit reachBytes (.sl tAsk5) l) : ∃ n, w5_VerbRcpts n l = some true := ⟨10000000, by unfold w5_VerbRcpts w5_VerbRcpts_B; rw [kind_all 4 l h]; rfl⟩
theorem plain_VerbDatas (l : Sq Ask5) (h : Fit reachBytes (.sl tAsk5) l) : ∃ n, w5_VerbDatas n l = some true := ⟨10000000, by unfold w5_VerbDatas w5_VerbDatas_B; rw [kind_all 5 l h]; rfl⟩
theorem plain_VerbRsets (l : Sq Ask5) (h : Fit reachBytes (.sl tAsk5) l) : ∃ n, w5_VerbRsets n l = some true := ⟨10000000, by unfold w5_VerbRsets w5_VerbRsets_B; rw [kind_all 6 l h]; rfl⟩
theorem plain_VerbNoops (l : Sq Ask5) (h : Fit reachBytes (.sl tAsk5) l) : ∃ n, w5_VerbNoops n l = some true := ⟨10000000, by unfold w5_VerbNoops w5_VerbNoops_B; rw [kind_all 7 l h]; rfl⟩
theorem plain_VerbQuits (l : Sq Ask5) (h : Fit reachBytes (.sl tAsk5) l) : ∃ n, w5_VerbQuits n l = some true := ⟨10000000, by unfold w5_VerbQuits w5_VerbQuits_B; rw [kind_all 8 l h]; rfl⟩
theorem plain_VerbVrfys (l : Sq Ask5) (h : Fit reachBytes (.sl tAsk5) l) : ∃ n, w5_VerbVrfys n l = some true := ⟨10000000, by unfold w5_VerbVrfys w5_VerbVrfys_B; rw [kind_all 9 l h]; rfl⟩
end Go.Proofs.YtbmcabjgeegjkaaGreatDoor.AM
