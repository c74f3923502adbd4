/- Commands, plainly: letters, words, where a path ends. -/
import Derived.Test.YtpgboapflbpieaaDoorXQ
import Derived.Test.YtpgboapflbpieaaDoorXF2
set_option linter.all false
set_option linter.unusedVariables false
set_option linter.unusedSimpArgs false
namespace Go.Proofs.YtpgboapflbpieaaDoor.AM
open Go
/-! Letters. -/
def up (c : Int) : Int := if 97 ≤ c ∧ c ≤ 122 then c - 32 else c
def caps (w : List Int) : Bool := w.all fun c => !(decide (97 ≤ c) && decide (c ≤ 122))
theorem up_low {c w : Int} (hw : ¬ (97 ≤ w ∧ w ≤ 122)) : up c = w ↔ low c = low w := by
 unfold up low
 split <;> split <;> split <;> constructor <;> intro h <;> omega
theorem map_up : ∀ (s w : List Int), caps w = true → (s.map up = w ↔ s.map low = w.map low)
 | [], [], _ => by simp
 | [], _ :: _, _ => by simp
 | _ :: _, [], _ => by simp
 | c :: s, d :: w, h => by
  simp only [caps, List.all_cons, Bool.and_eq_true] at h
  obtain ⟨h1, h2⟩ := h
  have h1' : ¬ (97 ≤ d ∧ d ≤ 122) := by simp at h1; omega
  have := map_up s w h2
  simp only [List.map_cons, List.cons.injEq, this, up_low (c := c) h1']
/-! Words. -/
def pr (c : Int) : Bool := decide (33 ≤ c) && decide (c ≤ 126)
def wB : Bool → List Int → Bool
 | b, [] => !b
 | b, c :: r => if c < 32 ∨ 126 < c ∨ c = 32 ∧ b = true then false else wB (decide (c = 32)) r
def wordP (w : List Int) : Bool := !w.isEmpty && w.all pr
theorem wR_bad : ∀ (r cur : List Int), cur.all pr = false → (splitG 32 cur r).all wordP = false
 | [], cur, h => by simp only [splitG, wordP, List.all_cons, h]; simp
 | c :: r, cur, h => by
  simp only [splitG]
  split
  · rw [List.all_cons, wordP, h]; simp
  · exact wR_bad r (cur ++ [c]) (by rw [List.all_append, h]; rfl)
theorem wR_eq : ∀ (r cur : List Int), cur.all pr = true → (splitG 32 cur r).all wordP = wB cur.isEmpty r
 | [], cur, h => by
  simp only [splitG, wB, wordP, List.all_cons, List.all_nil, h]
  cases cur <;> simp
 | c :: r, cur, h => by
  simp only [splitG, wB]
  by_cases g : c = 32
  · subst g
    rw [if_pos rfl, List.all_cons, wR_eq r [] rfl, wordP, h]
    cases cur with
    | nil => simp
    | cons a b => simp
  · rw [if_neg g]
    by_cases hp : pr c = true
    · rw [wR_eq r (cur ++ [c]) (by rw [List.all_append, h]; simp [hp])]
      have h' := hp
      simp only [pr, Bool.and_eq_true, decide_eq_true_eq] at h'
      rw [if_neg (by omega), decide_eq_false g]
      congr 1
      simp
    · rw [wR_bad r _ (by rw [List.all_append]; simp [hp])]
      have h' : ¬ (33 ≤ c ∧ c ≤ 126) := fun hh => hp (by simp [pr, hh.1, hh.2])
      rw [if_pos (by omega)]
def wordsP (l : List Int) : Bool := decide (l.length ≤ 64) && wB true l
theorem words_same (l : List Int) : (decide (l.length ≤ 64) && (splitG 32 [] l).all wordP) = wordsP l := by
 rw [wR_eq l [] rfl]; rfl
/-! Digits behind a path. -/
def sizeP (l : List Int) : Option Int := if l = [] then some (-1) else
 if (l.take 6).map up = [32, 83, 73, 90, 69, 61] ∧ 1 ≤ (l.drop 6).length ∧ (l.drop 6).length ≤ 10 ∧ (l.drop 6).all dig = true ∧ valD 0 (l.drop 6) ≤ 1073741824 then some (valD 0 (l.drop 6)) else none
theorem sizeP_62 {l : List Int} {z : Int} (h : sizeP l = some z) : 62 ∉ l := by
 unfold sizeP at h
 by_cases g : l = []
 · subst g; simp
 · rw [if_neg g] at h
   split at h
   · rename_i hc
     obtain ⟨h1, h2, h3, h4, _⟩ := hc
     rw [← List.take_append_drop 6 l]
     intro hm
     rcases List.mem_append.1 hm with hm | hm
     · have := List.mem_map_of_mem (f := up) hm
       rw [h1] at this
       revert this; decide
     · have := List.all_eq_true.1 h4 _ hm
       revert this; decide
   · cases h
/-! Where a path ends: 0: outside quotes; 1: inside; 2: behind a backslash. -/
def pe : Nat → List Int → Nat
 | _, [] => 0
 | 0, c :: r => if c = 34 then 1 + pe 1 r else if c = 62 then 1 else 1 + pe 0 r
 | 1, c :: r => if c = 92 then 1 + pe 2 r else if c = 34 then 1 + pe 0 r else 1 + pe 1 r
 | _ + 2, _ :: r => 1 + pe 1 r
theorem pe_le : ∀ (l : List Int) (q : Nat), pe q l ≤ l.length
 | [], q => by cases q <;> simp [pe]
 | c :: r, 0 => by
  have h0 := pe_le r 0
  have h1 := pe_le r 1
  simp only [pe, List.length_cons]
  split
  · omega
  · split <;> omega
 | c :: r, 1 => by
  have h0 := pe_le r 0
  have h1 := pe_le r 1
  have h2 := pe_le r 2
  simp only [pe, List.length_cons]
  split
  · omega
  · split <;> omega
 | c :: r, q + 2 => by
  have h1 := pe_le r 1
  simp only [pe, List.length_cons]; omega
theorem pe_plain : ∀ (l r : List Int), 34 ∉ l → 62 ∉ l → pe 0 (l ++ r) = l.length + pe 0 r
 | [], r, _, _ => by simp
 | c :: l, r, h1, h2 => by
  simp only [List.mem_cons, not_or] at h1 h2
  rw [List.cons_append]
  simp only [pe]
  rw [if_neg (fun hh => h1.1 hh.symm), if_neg (fun hh => h2.1 hh.symm), pe_plain l r h1.2 h2.2, List.length_cons]
  omega
theorem pe_qd : ∀ (N : Nat) (l r : List Int) (x : List Int × List Int), l.length ≤ N → qd l = some x → ∃ p, l = p ++ x.2 ∧ pe 1 (l ++ r) = p.length + pe 0 (x.2 ++ r)
 | _, [], _, _, _, h => by cases h
 | 0, c :: l, r, x, h, _ => by simp at h
 | N + 1, c :: l, r, x, hN, h => by
  rw [qd_cons] at h
  have hN' : l.length ≤ N := by simpa using hN
  by_cases c1 : c = 34
  · rw [if_pos c1] at h
    cases h
    subst c1
    refine ⟨[34], rfl, ?_⟩
    simp [pe]
  · rw [if_neg c1] at h
    by_cases c2 : c = 92
    · rw [if_pos c2] at h
      subst c2
      cases l with
      | nil => cases h
      | cons d l =>
       simp only at h
       split at h
       · obtain ⟨y, hy, rfl⟩ := Option.map_eq_some_iff.1 h
         obtain ⟨p, i1, i2⟩ := pe_qd N l r y (by simp at hN'; omega) hy
         refine ⟨92 :: d :: p, by rw [i1]; rfl, ?_⟩
         have e92 : pe 1 (92 :: (d :: (l ++ r))) = 1 + (1 + pe 1 (l ++ r)) := by simp [pe]
         show _ = _ + pe 0 (y.2 ++ r)
         rw [List.cons_append, List.cons_append, e92, i2, List.length_cons, List.length_cons]
         omega
       · cases h
    · rw [if_neg c2] at h
      split at h
      · obtain ⟨y, hy, rfl⟩ := Option.map_eq_some_iff.1 h
        obtain ⟨p, i1, i2⟩ := pe_qd N l r y hN' hy
        refine ⟨c :: p, by rw [i1]; rfl, ?_⟩
        simp only [List.cons_append, pe, List.length_cons]
        rw [if_neg c2, if_neg c1, i2]
        omega
      · cases h
/-! Paths. -/
def pthL (l : List Int) : Option (Bool × List Int × List Int) := if l = [60, 62] then some (true, [], []) else
 if 2 ≤ l.length ∧ l.head? = some 60 ∧ l.getLast? = some 62 then (parP (inner l)).map fun x => (false, x.1, x.2) else none
theorem pl_no {x : Int} (hx : atom x = false) (h46 : x ≠ 46) : ∀ (l : List Int) (w : Nat), pl w l = true → x ∉ l
 | [], _, _ => by simp
 | c :: r, w, h => by
  simp only [pl] at h
  intro hm
  rcases List.mem_cons.mp hm with e | hm
  · subst e
    rw [if_neg h46, hx] at h; cases h
  · by_cases c1 : c = 46
    · rw [if_pos c1] at h
      by_cases c2 : w = 0
      · rw [if_pos c2] at h; cases h
      · rw [if_neg c2] at h; exact pl_no hx h46 r 0 h hm
    · rw [if_neg c1] at h
      by_cases c2 : atom c = true
      · rw [if_pos c2] at h; exact pl_no hx h46 r (w + 1) h hm
      · rw [if_neg c2] at h; cases h
theorem domR_chars {l : List Int} (h : domR l = true) : ∀ c ∈ l, c = 91 ∨ c = 93 ∨ 45 ≤ c ∧ c ≤ 57 ∨ 97 ≤ c ∧ c ≤ 122 := by
 unfold domR at h
 rw [Bool.and_eq_true, Bool.or_eq_true] at h
 rcases h.2 with h | h
 · unfold litR at h
   simp only [Bool.and_eq_true, decide_eq_true_eq] at h
   obtain ⟨⟨⟨h1, h2⟩, h3⟩, h4⟩ := h
   unfold litP at h4
   rw [Bool.and_eq_true] at h4
   have h5 : (splitG 46 [] (inner l)).all (fun w => w.all dig) = true := by
    rw [List.all_eq_true]
    intro w hw
    have := List.all_eq_true.mp h4.1 w hw
    unfold okR at this
    simp only [Bool.and_eq_true] at this
    exact this.1.2
   have h6 := (splitG_all 46 dig _ _ h5).2
   intro c hc
   rcases inner_mem h1 h2 h3 c hc with rfl | rfl | hm
   · exact .inl rfl
   · exact .inr (.inl rfl)
   · rcases h6 c hm with h7 | rfl
     · unfold dig at h7
       simp only [Bool.and_eq_true, decide_eq_true_eq] at h7
       omega
     · omega
 · have h5 : (splitG 46 [] l).all (fun w => w.all lch) = true := by
    rw [List.all_eq_true]
    intro w hw
    have := List.all_eq_true.mp h w hw
    unfold labR at this
    simp only [Bool.and_eq_true] at this
    exact this.2
   have h6 := (splitG_all 46 lch _ _ h5).2
   intro c hc
   rcases h6 c hc with h7 | rfl
   · unfold lch sgn at h7
     simp only [Bool.and_eq_true, Bool.or_eq_true, decide_eq_true_eq] at h7
     omega
   · omega
theorem low_fix {x : Int} (hx : x < 65) : ∀ {c : Int}, c = x → low c = x := fun h => by
 subst h; unfold low; rw [if_neg (by omega)]
theorem dm_no {d : List Int} (h : domR (d.map low) = true) : 34 ∉ d ∧ 62 ∉ d := by
 constructor <;> intro hm
 · have := domR_chars h _ (List.mem_map_of_mem (f := low) hm)
   rw [low_fix (x := 34) (by omega) rfl] at this
   omega
 · have := domR_chars h _ (List.mem_map_of_mem (f := low) hm)
   rw [low_fix (x := 62) (by omega) rfl] at this
   omega
theorem head_cons {z : List Int} {c : Int} (h : z.head? = some c) : z = c :: z.drop 1 := by
 cases z with
 | nil => cases h
 | cons a r => cases h; rfl
theorem wrap_inner {t : List Int} (h : 2 ≤ t.length) (h1 : t.head? = some 60) (h2 : t.getLast? = some 62) : t = 60 :: (inner t ++ [62]) := by
 have ht := head_cons h1
 generalize hx : t.drop 1 = x at ht
 subst ht
 have hx0 : x ≠ [] := by intro e; subst e; simp at h
 have hi : inner (60 :: x) = x.dropLast := by
  obtain ⟨k, hk⟩ : ∃ k, x.length = k + 1 := ⟨x.length - 1, by have := List.length_pos_iff.mpr hx0; omega⟩
  unfold inner
  rw [List.length_cons, Nat.add_sub_cancel, hk, List.take_succ_cons, List.drop_one, List.tail_cons, List.dropLast_eq_take, hk]; rfl
 have hg : x.getLast hx0 = 62 := by
  rw [List.getLast?_cons, List.getLast?_eq_some_getLast hx0] at h2
  simpa using h2
 rw [hi]
 conv => lhs; rw [← List.dropLast_concat_getLast hx0, hg]
theorem par_end {x : List Int} {y : List Int × List Int} (h : parP x = some y) (r : List Int) : pe 0 (x ++ 62 :: r) = x.length + 1 := by
 unfold parP at h
 obtain ⟨w, h1, h2⟩ := Option.bind_eq_some_iff.1 h
 have hc : w.1.length ≤ 64 ∧ w.2.head? = some 64 ∧ domP ((w.2.drop 1).map low) = true := by
  by_cases c : w.1.length ≤ 64 ∧ w.2.head? = some 64 ∧ domP ((w.2.drop 1).map low) = true
  · exact c
  · rw [if_neg c] at h2; cases h2
 obtain ⟨_, hz, hd⟩ := hc
 rw [dom_same] at hd
 obtain ⟨n1, n2⟩ := dm_no hd
 have hz' := head_cons hz
 have tail : pe 0 (w.2 ++ 62 :: r) = w.2.length + 1 := by
  rw [pe_plain w.2 _ (by rw [hz']; simp only [List.mem_cons, not_or]; exact ⟨by omega, n1⟩) (by rw [hz']; simp only [List.mem_cons, not_or]; exact ⟨by omega, n2⟩)]
  simp [pe]
 unfold loc at h1
 by_cases g : x.head? = some 34
 · rw [if_pos g] at h1
   obtain ⟨v, e1, e2⟩ := Option.map_eq_some_iff.1 h1
   have hv : v.2 = w.2 := by rw [← e2]
   obtain ⟨p, i1, i2⟩ := pe_qd _ _ (62 :: r) v (Nat.le_refl _) e1
   have hx := head_cons g
   rw [hx, List.cons_append]
   show (if (34 : Int) = 34 then _ else _) = _
   rw [if_pos rfl, i2, hv, tail, List.length_cons, i1, List.length_append, hv]
   omega
 · rw [if_neg g] at h1
   split at h1
   · cases h1
   · split at h1
     · rename_i hp
       cases h1
       simp only at tail
       have a1 : atom 34 = false := by decide
       have a2 : atom 62 = false := by decide
       conv => lhs; rw [← List.take_append_drop (idx 64 x).toNat x]
       rw [List.append_assoc, pe_plain _ _ (pl_no a1 (by omega) _ _ hp) (pl_no a2 (by omega) _ _ hp), tail, ← Nat.add_assoc, ← List.length_append, List.take_append_drop]
     · cases h1
theorem pth_end {t : List Int} {v : Bool × List Int × List Int} (h : pthL t = some v) (r : List Int) : pe 0 (t ++ r) = t.length ∧ t.getLast? = some 62 ∧ t ≠ [] := by
 unfold pthL at h
 by_cases c : t = [60, 62]
 · subst c; exact ⟨by simp [pe], rfl, by simp⟩
 · rw [if_neg c] at h
   by_cases c2 : 2 ≤ t.length ∧ t.head? = some 60 ∧ t.getLast? = some 62
   · rw [if_pos c2] at h
     obtain ⟨y, hy, _⟩ := Option.map_eq_some_iff.1 h
     have ht := wrap_inner c2.1 c2.2.1 c2.2.2
     have hpe := par_end hy r
     generalize inner t = x at ht hpe
     refine ⟨?_, c2.2.2, by intro e; rw [e] at c2; simp at c2⟩
     rw [ht, List.cons_append]
     show (if (60 : Int) = 34 then _ else if (60 : Int) = 62 then _ else _) = _
     rw [if_neg (by omega), if_neg (by omega), List.append_assoc, List.singleton_append, hpe]
     simp; omega
   · rw [if_neg c2] at h; cases h
def endP (l : List Int) (i : Int) : Prop := i = -1 ∧ 62 ∉ l ∨ ∃ k : Nat, i = k ∧ k < l.length ∧ l[k]? = some 62 ∧ 62 ∉ l.drop (k + 1)
theorem ends_same {l : List Int} {i : Int} (h : endP l i) {v : Bool × List Int × List Int} {z : Int} :
  (0 ≤ i ∧ pthL (l.take (i.toNat + 1)) = some v ∧ sizeP (l.drop (i.toNat + 1)) = some z) ↔ (pthL (l.take (pe 0 l)) = some v ∧ sizeP (l.drop (pe 0 l)) = some z) := by
 constructor
 · rintro ⟨h0, h1, h2⟩
   have := (pth_end h1 (l.drop (i.toNat + 1))).1
   rw [List.take_append_drop] at this
   rcases h with ⟨h3, _⟩ | ⟨k, rfl, h3, h4, h5⟩
   · omega
   · rw [List.length_take] at this
     have e : min ((k : Int).toNat + 1) l.length = (k : Int).toNat + 1 := by simp; omega
     rw [this, e]
     exact ⟨h1, h2⟩
 · rintro ⟨h1, h2⟩
   obtain ⟨_, hl, hne⟩ := pth_end h1 []
   have hle := pe_le l 0
   have hp : 0 < pe 0 l := by
    rcases Nat.eq_zero_or_pos (pe 0 l) with e | e
    · rw [e] at hne; simp at hne
    · exact e
   have h62 : l[pe 0 l - 1]? = some 62 := by
    rw [List.getLast?_eq_getElem?, List.length_take, Nat.min_eq_left hle, List.getElem?_take] at hl
    rw [if_pos (by omega)] at hl; exact hl
   have hno := sizeP_62 h2
   have hi : i = ((pe 0 l - 1 : Nat) : Int) := by
    rcases h with ⟨_, h3⟩ | ⟨k, rfl, h3, h4, h5⟩
    · exact absurd (List.mem_of_getElem? h62) h3
    · rcases Nat.lt_trichotomy k (pe 0 l - 1) with g | g | g
      · exfalso
        apply h5
        have : (l.drop (k + 1))[pe 0 l - 1 - (k + 1)]? = some 62 := by
         rw [List.getElem?_drop, show k + 1 + (pe 0 l - 1 - (k + 1)) = pe 0 l - 1 by omega]; exact h62
        exact List.mem_of_getElem? this
      · rw [g]
      · exfalso
        apply hno
        have : (l.drop (pe 0 l))[k - pe 0 l]? = some 62 := by
         rw [List.getElem?_drop, show pe 0 l + (k - pe 0 l) = k by omega]; exact h4
        exact List.mem_of_getElem? this
   have e : i.toNat + 1 = pe 0 l := by rw [hi]; simp; omega
   rw [e]
   exact ⟨by omega, h1, h2⟩
open Go Go.RowKit
theorem bs_ext0 (s : BA) (k : Nat) : bs (s.extract 0 k) = (bs s).take k := by rw [bs_ext, List.drop_zero]
theorem bs_ext1 (s : BA) (k : Nat) : bs (s.extract k s.size) = (bs s).drop k := by rw [bs_ext, ← bs_len, List.take_length]
theorem ext_sz (s : BA) (i j : Nat) : (s.extract i j).size ≤ s.size := by
 rw [← bs_len, bs_ext, List.length_drop, List.length_take, bs_len]; omega
theorem Path_eq (n : Nat) (s : BA) (hs : s.size ≤ 400000) (hn : 10000000 ≤ n) : match pthL (bs s) with
  | none => r4_Path n s = some (noBox, false, false, ()) ∧ ad_Path n s = some (noBox, false, 8, ())
  | some v => ∃ p1 p2, r4_Path n s = some ((p1, (p2, ())), v.1, true, ()) ∧ ad_Path n s = some ((p1, (p2, ())), v.1, 0, ()) ∧ bs p1 = v.2.1 ∧ bs p2 = v.2.2 := by
 have hz : bs (⟨#[60, 62]⟩ : BA) = [60, 62] := rfl
 unfold r4_Path r4_Path_B ad_Path ad_Path_B pthL
 by_cases c1 : bs s = [60, 62]
 · have c1' : (s.toList == (⟨#[60, 62]⟩ : BA).toList) = true := by rw [str_eq, hz, decide_eq_true c1]
   rw [if_pos c1', if_pos c1', if_pos c1]
   exact ⟨_, _, rfl, rfl, rfl, rfl⟩
 have c1' : ¬ (s.toList == (⟨#[60, 62]⟩ : BA).toList) = true := by rw [str_eq, hz, decide_eq_false c1]; simp
 rw [if_neg c1', if_neg c1', if_neg c1]
 by_cases c2 : decide ((s.size : Int) < (2 : Int)) = false
 · rw [if_pos c2, if_pos c2]
   have hz : ¬ ((s.size : Int) < 2) := of_decide_eq_false c2
   have w : IntKind.wrap .i64 ((s.size : Int) - 1) = (s.size : Int) - 1 := wr (by omega) (by omega)
   have c3 : 0 ≤ (0 : Int) ∧ (0 : Int) < (s.size : Int) := ⟨by omega, by omega⟩
   obtain ⟨d, hd1, hd2⟩ := bs_head (s := s) (by omega)
   obtain ⟨e, he1, he2⟩ := bs_last (s := s) (by omega)
   have he2' : bt s ((s.size : Int) - 1) = e := by rw [← he2]; congr 1; omega
   rw [w, if_pos c3, if_pos c3]
   by_cases c4 : d = 60
   · have c4' : ((bt s (0 : Int)) != (60 : Int)) = false := by rw [hd2, c4]; rfl
     rw [if_pos c4', if_pos c4']
     have c5 : 0 ≤ (s.size : Int) - 1 ∧ (s.size : Int) - 1 < (s.size : Int) := ⟨by omega, by omega⟩
     rw [if_pos c5, if_pos c5]
     by_cases c6 : e = 62
     · have c6' : ¬ ((bt s ((s.size : Int) - 1)) != (62 : Int)) = true := by rw [he2', c6]; simp
       rw [if_neg c6', if_neg c6', if_pos ⟨by rw [bs_len]; omega, by rw [hd1, c4], by rw [he1, c6]⟩]
       have c7 : 0 ≤ (s.size : Int) - 1 ∧ (s.size : Int) - 1 ≤ (s.size : Int) := ⟨by omega, by omega⟩
       have c8 : 0 ≤ (1 : Int) ∧ (1 : Int) ≤ (s.size : Int) - 1 := ⟨by omega, by omega⟩
       rw [if_pos c7, if_pos c8, if_pos c7, if_pos c8]
       have hi : bs (s.extract (Int.toNat (1 : Int)) (Int.toNat ((s.size : Int) - 1))) = inner (bs s) := by
        rw [← bs_inner]
        congr 2
        omega
       have ht : (s.extract (Int.toNat (1 : Int)) (Int.toNat ((s.size : Int) - 1))).size ≤ 400000 := by
        have := ext_sz s (Int.toNat (1 : Int)) (Int.toNat ((s.size : Int) - 1)); omega
       have hP := Parse_eq n _ ht hn
       have hR := rParse_eq n _ ht hn
       rw [← par_same] at hR
       rw [hi] at hP hR
       cases hv : parP (inner (bs s)) with
       | none =>
        rw [hv] at hP hR
        simp only [RefIs] at hP hR
        rw [hP, hR]
        exact ⟨rfl, rfl⟩
       | some y =>
        rw [hv] at hP hR
        obtain ⟨t1, t2, j1, j2, j3⟩ := hP
        obtain ⟨u1, u2, k1, k2, k3⟩ := hR
        have x1 : u1 = t1 := bs_inj (k2.trans j2.symm)
        have x2 : u2 = t2 := bs_inj (k3.trans j3.symm)
        subst x1 x2
        rw [j1, k1]
        exact ⟨u1, u2, rfl, rfl, k2, k3⟩
     · have c6' : ((bt s ((s.size : Int) - 1)) != (62 : Int)) = true := by rw [he2']; simpa using c6
       rw [if_pos c6', if_pos c6', if_neg (fun hh => c6 (by rw [he1] at hh; exact Option.some.inj hh.2.2))]
       exact ⟨rfl, rfl⟩
   · have c4' : ¬ ((bt s (0 : Int)) != (60 : Int)) = false := by rw [hd2]; simpa using c4
     rw [if_neg c4', if_neg c4', if_neg (fun hh => c4 (by rw [hd1] at hh; exact Option.some.inj hh.2.1))]
     exact ⟨rfl, rfl⟩
 · rw [if_neg c2, if_neg c2, if_neg (fun hh => by
    rw [bs_len] at hh
    have : ((s.size : Int) < 2) := by simpa using c2
    omega)]
   exact ⟨rfl, rfl⟩
theorem inner_wrap (x : List Int) : inner (60 :: (x ++ [62])) = x := by
 unfold inner
 simp
theorem pth_box {a b : List Int} (h : (locR a && domR b) = true) : pthL (60 :: ((a ++ 64 :: b) ++ [62])) = some (false, a, b) := by
 unfold pthL
 have hne : ¬ (60 :: ((a ++ 64 :: b) ++ [62]) = [60, 62]) := by
  intro e
  have := congrArg List.length e
  simp at this
  omega
 rw [if_neg hne, if_pos ⟨by simp; omega, rfl, by rw [← List.cons_append]; exact List.getLast?_concat⟩, inner_wrap, par_same, (par_may a b).2 h]
 rfl
theorem num_eq (n : Nat) (e : Int) : w4_num n e = some e := rfl
theorem wakes_eq (n : Nat) (hn : 10000000 ≤ n) : w4_wakes n = some true := by
 have h := Parse_eq n (⟨#[65, 46, 98, 64, 69, 88, 46, 111, 114, 103]⟩ : BA) (by decide) hn
 have e : parP (bs (⟨#[65, 46, 98, 64, 69, 88, 46, 111, 114, 103]⟩ : BA)) = some ([65, 46, 98], [101, 120, 46, 111, 114, 103]) := by decide +kernel
 rw [e] at h
 obtain ⟨t1, t2, j1, j2, j3⟩ := h
 unfold w4_wakes w4_wakes_B
 rw [j1]
 simp only [Option.bind_some, num_eq, str_eq, j2, j3]
 decide
abbrev Ask := Box × (BA × Unit)
theorem heavy_eq (n : Nat) (p : Ask) (h1 : p.1.1.size ≤ reachBytes) (h2 : p.1.2.1.size ≤ reachBytes) : w4_heavy n p = some (decide (p.1.1.size + p.1.2.1.size > 2000) || decide (p.2.1.size > 2000)) := by
 have hr : reachBytes < 140737488355328 := by decide
 unfold w4_heavy w4_heavy_B
 rw [wr (by omega) (by omega)]
 by_cases g : p.1.1.size + p.1.2.1.size > 2000
 · have : ((p.1.1.size : Int) + (p.1.2.1.size : Int)) > 2000 := by omega
   simp [g, this]
 · have : ¬ ((p.1.1.size : Int) + (p.1.2.1.size : Int)) > 2000 := by omega
   have e : decide ((p.2.1.size : Int) > 2000) = decide (p.2.1.size > 2000) := by rw [decide_eq_decide]; omega
   simp only [this, g, decide_false, e]
   simp
abbrev tAsk : CTy := .pair (.pair .str (.pair .str .unit)) (.pair .str .unit)
theorem ask_fit {l : Sq Ask} (h : Fit reachBytes (.sl tAsk) l) (i : Nat) (hi : i < l.n) : (l.at' i).1.1.size ≤ reachBytes ∧ (l.at' i).1.2.1.size ≤ reachBytes ∧ (l.at' i).2.1.size ≤ reachBytes := by
 have := h.2 i hi
 exact ⟨this.1.1, this.1.2.1, this.2.1⟩
theorem Check_eq (n : Nat) (a b : BA) (ha : a.size ≤ 100000) (hb : b.size ≤ 100000) (hn : 10000000 ≤ n) : ad_Check n (a, (b, ())) = some (if (locR (bs a) && domR (bs b)) = true then 0 else 1) := by
 unfold ad_Check ad_Check_B
 simp only [aMay_eq n a b ha hb hn, Option.bind_some]
 cases (locR (bs a) && domR (bs b)) <;> rfl
theorem Text_eq (n : Nat) (a b : BA) (ha : a.size ≤ 100000) (hb : b.size ≤ 100000) (hn : 10000000 ≤ n) : ad_Text n (a, (b, ())) = some (if (locR (bs a) && domR (bs b)) = true then ((a ++ (⟨#[64]⟩ : BA)) ++ b, 0, ()) else ((⟨#[]⟩ : BA), 1, ())) := by
 unfold ad_Text ad_Text_B
 simp only [aMay_eq n a b ha hb hn, (Lay_eq n a b ha hb).1, Option.bind_some]
 cases (locR (bs a) && domR (bs b)) <;> rfl
/-! Capital letters of a domain. -/
theorem low_up (c : Int) : low (up c) = low c := by
 unfold low up
 by_cases h1 : 97 ≤ c ∧ c ≤ 122
 · rw [if_pos h1, if_pos (by omega), if_neg (by omega)]; omega
 · rw [if_neg h1]
theorem map_low_up (l : List Int) : (l.map up).map low = l.map low := by
 rw [List.map_map]
 exact List.map_congr_left fun c _ => low_up c
theorem par_up (l D : List Int) (h : (locR l && domR (D.map low)) = true) : parR (l ++ 64 :: D) = some (l, D.map low) := by
 rw [Bool.and_eq_true] at h
 obtain ⟨h1, hd⟩ := h
 have tl : ∀ a, locR a = true → tailX a (64 :: D) = some (a, D.map low) := by
  intro a ha
  unfold tailX
  have e : (64 :: D).drop 1 = D := rfl
  rw [e, ha, hd]
  rfl
 have L1 := h1
 unfold locR at L1
 rw [Bool.and_eq_true, Bool.and_eq_true, decide_eq_true_eq] at L1
 obtain ⟨⟨L2, L3⟩, L1⟩ := L1
 have hh : (l ++ 64 :: D).head? = l.head? := by
  cases l with
  | nil => simp at L2
  | cons a r => rfl
 unfold parR
 by_cases c : l.head? = some 34
 · rw [if_pos c] at L1
   cases hx : qd (l.drop 1) with
   | none => rw [hx] at L1; cases L1
   | some x =>
    rw [hx] at L1
    simp only [Bool.and_eq_true, decide_eq_true_eq, Bool.not_eq_true'] at L1
    obtain ⟨⟨e1, e2⟩, e3⟩ := L1
    have ok := qd_ok _ _ (Nat.le_refl _) x hx
    have hdr : (l ++ 64 :: D).drop 1 = esc x.1 ++ 34 :: 64 :: D := by
     rw [← e3]; simp [qt]
    have hqs : qs x.1 = l := by
     unfold qs
     rw [if_neg (by rw [e2]; decide), e3]
    rw [if_pos (hh.trans c), hdr, qd_esc x.1 ok (64 :: D), Option.bind_some]
    show tailX (qs x.1) (64 :: D) = _
    rw [hqs]; exact tl l h1
 · rw [if_neg c] at L1
   rw [if_neg (by rw [hh]; exact c), tw_app l D (pl_64 l 0 L1), List.take_left' rfl, List.drop_left' rfl]
   exact tl l h1
theorem par_ok {s a b : List Int} (h : parP s = some (a, b)) : (locR a && domR b) = true := by
 rw [par_same] at h
 unfold parR at h
 split at h
 · cases hq : qd (s.drop 1) with
   | none => rw [hq] at h; cases h
   | some x => rw [hq, Option.bind_some] at h; exact tailX_some h
 · exact tailX_some h
/-! What is read back. -/
theorem back_at (n : Nat) (a b U : BA) (s : BA) (hs : s.size ≤ 400000) (hn : 10000000 ≤ n) (h : (locR (bs a) && domR (bs b)) = true) (hU : (bs U).map low = bs b) (e : bs s = bs a ++ 64 :: bs U) : ad_Parse n s = some ((a, (b, ())), (0, ())) := by
 have hP := Parse_eq n s hs hn
 rw [e, par_same, par_up (bs a) (bs U) (by rw [hU]; exact h), hU] at hP
 obtain ⟨t1, t2, j1, j2, j3⟩ := hP
 have x1 : t1 = a := bs_inj j2
 have x2 : t2 = b := bs_inj j3
 rw [j1, x1, x2]
theorem back_path (n : Nat) (a b : BA) (s : BA) (hs : s.size ≤ 400000) (hn : 10000000 ≤ n) (h : (locR (bs a) && domR (bs b)) = true) (e : bs s = 60 :: ((bs a ++ 64 :: bs b) ++ [62])) : ad_Path n s = some ((a, (b, ())), (false, (0, ()))) := by
 have hP := Path_eq n s hs hn
 rw [e, pth_box h] at hP
 obtain ⟨p1, p2, _, j1, j2, j3⟩ := hP
 have x1 : p1 = a := bs_inj j2
 have x2 : p2 = b := bs_inj j3
 rw [j1, x1, x2]
theorem bs_text (a b : BA) : bs ((a ++ (⟨#[64]⟩ : BA)) ++ b) = bs a ++ 64 :: bs b := by
 rw [bs_app, bs_app, List.append_assoc]; rfl
open Go Go.RowKit
theorem Back_J0 (n : Nat) (l : Sq Ask) (k : Nat) (hk : k < l.n) (b : Bool) (h : w4_heavy n (((l.at' k).1.1, ((l.at' k).1.2.1, ())), ((l.at' k).2.1, ())) = some b) : w4_AddrBack_J0 n l k = some (if b = true then .ret true else .out (l, (k : Int))) := by
 have c : 0 ≤ (k : Int) ∧ (k : Int) < (l.n : Int) := ⟨by omega, by omega⟩
 unfold w4_AddrBack_J0 w4_AddrBack_J0_B
 rw [if_pos c, Int.toNat_natCast, h]
 cases b <;> rfl
theorem Back_up (n : Nat) (l : Sq Ask) (i : Int) (s : BA) (f : Int) (m0 m1 : BA) (t : Nat) (ht : t ≤ 1000000) : ∀ (r P : List Int) (m : Nat) (b : Sq Int), sqL id b = P ++ r → b.n = t → (∀ c ∈ P ++ r, 0 ≤ c ∧ c < 256) → r.length < m →
  ∃ b', w4_AddrBack_L1 n m l i s f P.length m0 m1 b = some (.out (l, i, s, f, m0, m1, b')) ∧ sqL id b' = P ++ r.map up ∧ b'.n = t
 | [], P, m, b, hb, hbn, hr, hm => by
  obtain ⟨m, rfl⟩ : ∃ q, m = q + 1 := ⟨m - 1, by omega⟩
  have hl := sqL_len id b
  rw [hb, List.append_nil, hbn] at hl
  refine ⟨b, ?_, by simpa using hb, hbn⟩
  have : ¬ ((P.length : Int) < (b.n : Int)) := by omega
  simp [w4_AddrBack_L1, w4_AddrBack_B1, this]
 | c :: r, P, m, b, hb, hbn, hr, hm => by
  obtain ⟨m, rfl⟩ : ∃ q, m = q + 1 := ⟨m - 1, by omega⟩
  have hl := sqL_len id b
  rw [hb, hbn] at hl
  simp at hl
  have hat : b.at' P.length = c := by
   have h1 := sqL_get (f := id) (q := b) (i := P.length) (by omega)
   rw [hb, List.getElem?_append_right (Nat.le_refl _), Nat.sub_self] at h1
   simpa using h1.symm
  have hc := hr c (by simp)
  have e1 := wr1 (k := P.length) (by omega)
  have a2 : (0 : Int) ≤ (P.length : Int) := by omega
  have a3 : (P.length : Int) < (b.n : Int) := by omega
  have go : ∀ (d : Int) (b2 : Sq Int), (0 ≤ d ∧ d < 256) → d = up c → sqL id b2 = P ++ d :: r → b2.n = t → w4_AddrBack_L1 n (m + 1) l i s f P.length m0 m1 b = w4_AddrBack_L1 n m l i s f ((P.length + 1 : Nat) : Int) m0 m1 b2 →
    ∃ b', w4_AddrBack_L1 n (m + 1) l i s f P.length m0 m1 b = some (.out (l, i, s, f, m0, m1, b')) ∧ sqL id b' = P ++ (c :: r).map up ∧ b'.n = t := fun d b2 hd hu h2 hn2 he => by
   obtain ⟨b', h1, i2, i3⟩ := Back_up n l i s f m0 m1 t ht r (P ++ [d]) m b2 (by rw [h2]; simp) hn2 (fun y hy => by
    simp only [List.append_assoc, List.mem_append, List.mem_cons, List.cons_append, List.nil_append] at hy
    rcases hy with h | h | h
    · exact hr y (by simp [h])
    · rw [h]; exact hd
    · exact hr y (by simp [h])) (by simpa using hm)
   refine ⟨b', ?_, by rw [i2]; simp [hu], i3⟩
   rw [he, ← h1]; simp
  by_cases h97 : c ≥ 97
  · by_cases h122 : c ≤ 122
    · have w1 := wr8 (x := c - 32) (by omega) (by omega)
      refine go (c - 32) (⟨b.n, fun q => if q = P.length ∧ q < b.n then c - 32 else b.at' q⟩ : Sq Int) (by omega) (by unfold up; rw [if_pos ⟨h97, h122⟩]) (by rw [sqL_set, hb, List.set_append_right _ _ (Nat.le_refl _), Nat.sub_self]; rfl) hbn ?_
      simp only [w4_AddrBack_L1, w4_AddrBack_B1, w4_AddrBack_J1, w4_AddrBack_J1_B, a2, a3, Int.toNat_natCast, hat, e1, w1, h97, h122, decide_true, and_self, if_true, Option.bind_some, onL]
    · refine go c b hc (by unfold up; rw [if_neg (by omega)]) hb hbn ?_
      simp only [w4_AddrBack_L1, w4_AddrBack_B1, w4_AddrBack_J1, w4_AddrBack_J1_B, a2, a3, Int.toNat_natCast, hat, e1, h97, h122, decide_true, decide_false, and_self, if_true, if_false, Option.bind_some, onL, Bool.false_eq_true]
  · refine go c b hc (by unfold up; rw [if_neg (by omega)]) hb hbn ?_
    simp only [w4_AddrBack_L1, w4_AddrBack_B1, w4_AddrBack_J1, w4_AddrBack_J1_B, a2, a3, Int.toNat_natCast, hat, e1, h97, decide_true, decide_false, and_self, if_true, if_false, Option.bind_some, onL, Bool.false_eq_true]
theorem AddrBack_L0 (n : Nat) (hn : 10000000 ≤ n) (l : Sq Ask) (hf : Fit reachBytes (.sl tAsk) l) : ∀ (d k m : Nat), k + d = 21 → d < m → k ≤ 20 → ∃ x, w4_AddrBack_L0 n m l k = some x ∧ (x = .out () ∨ x = .ret true)
 | 0, k, m, h, hm, hk => by omega
 | d + 1, k, m, h, hm, hk => by
  obtain ⟨m, rfl⟩ : ∃ q, m = q + 1 := ⟨m - 1, by omega⟩
  by_cases g1 : (k : Int) < (l.n : Int)
  · by_cases g2 : (k : Int) < 20
    · have a1 : (0 : Int) ≤ (k : Int) := by omega
      have e1 := wr1 (k := k) (by omega)
      obtain ⟨f1, f2, f3⟩ := ask_fit hf k (by omega)
      have hH := heavy_eq n (l.at' k) f1 f2
      have hH' : w4_heavy n (((l.at' k).1.1, ((l.at' k).1.2.1, ())), ((l.at' k).2.1, ())) = some (decide ((l.at' k).1.1.size + (l.at' k).1.2.1.size > 2000) || decide ((l.at' k).2.1.size > 2000)) := hH
      have hJ := Back_J0 n l k (by omega) _ hH'
      obtain ⟨x, hx, hor⟩ := AddrBack_L0 n hn l hf d (k + 1) m (by omega) (by omega) (by omega)
      by_cases g3 : (decide ((l.at' k).1.1.size + (l.at' k).1.2.1.size > 2000) || decide ((l.at' k).2.1.size > 2000)) = true
      · refine ⟨.ret true, ?_, .inr rfl⟩
        rw [g3, if_pos rfl] at hJ
        simp only [w4_AddrBack_L0, w4_AddrBack_B0, g1, g2, hJ, decide_true, if_true, Option.bind_some, onL]
      · have g3' : (decide ((l.at' k).1.1.size + (l.at' k).1.2.1.size > 2000) || decide ((l.at' k).2.1.size > 2000)) = false := by simpa using g3
        rw [g3', if_neg (by simp)] at hJ
        simp only [Bool.or_eq_false_iff, decide_eq_false_iff_not] at g3'
        refine ⟨x, ?_, hor⟩
        rw [← hx]
        generalize hp : l.at' k = p at g3' f1 f2 f3
        -- what is read of the text
        have sec : ad_Parse n p.2.1 = some (noBox, 8, ()) ∨ ∃ y z t, ad_Parse n p.2.1 = some ((y, (z, ())), (0, ())) ∧ ad_Text n (y, (z, ())) = some (t, (0, ())) ∧ ad_Parse n t = some ((y, (z, ())), (0, ())) ∧ ad_Check n (y, (z, ())) = some 0 := by
         have hP := Parse_eq n p.2.1 (by omega) hn
         cases hv : parP (bs p.2.1) with
         | none => rw [hv] at hP; exact .inl hP
         | some y =>
          rw [hv] at hP
          obtain ⟨t1, t2, j1, j2, j3⟩ := hP
          have hok := par_ok hv
          rw [← j2, ← j3] at hok
          have hl1 : t1.size ≤ 10000 := by
           unfold parP at hv
           obtain ⟨w, w1, w2⟩ := Option.bind_eq_some_iff.1 hv
           have := loc_len w1
           rw [bs_len] at this
           split at w2
           · cases w2; rw [← bs_len, j2]; show w.1.length ≤ _; omega
           · cases w2
          have hl2 : t2.size ≤ 10000 := by
           unfold parP at hv
           obtain ⟨w, w1, w2⟩ := Option.bind_eq_some_iff.1 hv
           have := loc_len w1
           rw [bs_len] at this
           split at w2
           · cases w2; rw [← bs_len, j3]; show ((w.2.drop 1).map low).length ≤ _; rw [List.length_map, List.length_drop]; omega
           · cases w2
          have hT := Text_eq n t1 t2 (by omega) (by omega) hn
          have hC := Check_eq n t1 t2 (by omega) (by omega) hn
          rw [if_pos hok] at hT hC
          have hlow : (bs t2).map low = bs t2 := domR_low (by rw [Bool.and_eq_true] at hok; exact hok.2)
          exact .inr ⟨t1, t2, _, j1, hT, back_at n t1 t2 t2 _ (by
           have z1 : (⟨#[64]⟩ : BA).size = 1 := rfl
           rw [ByteArray.size_append, ByteArray.size_append]; omega) hn hok hlow (bs_text t1 t2), hC⟩
        have hT := Text_eq n p.1.1 p.1.2.1 (by omega) (by omega) hn
        by_cases hK : (locR (bs p.1.1) && domR (bs p.1.2.1)) = true
        · rw [if_pos hK] at hT
          have z1 : (⟨#[64]⟩ : BA).size = 1 := rfl
          have z2 : (⟨#[60]⟩ : BA).size = 1 := rfl
          have z3 : (⟨#[62]⟩ : BA).size = 1 := rfl
          have hlow : (bs p.1.2.1).map low = bs p.1.2.1 := domR_low (by rw [Bool.and_eq_true] at hK; exact hK.2)
          have hs : ((p.1.1 ++ (⟨#[64]⟩ : BA)) ++ p.1.2.1).size ≤ 3000 := by rw [ByteArray.size_append, ByteArray.size_append]; omega
          have hst := bs_text p.1.1 p.1.2.1
          have pS := back_at n p.1.1 p.1.2.1 p.1.2.1 _ (by omega) hn hK hlow hst
          obtain ⟨b', u1, u2, u3⟩ := Back_up n l k ((p.1.1 ++ (⟨#[64]⟩ : BA)) ++ p.1.2.1) 0 p.1.1 p.1.2.1 p.1.2.1.size (by omega) (bs p.1.2.1) [] n (⟨p.1.2.1.size, fun q => bt p.1.2.1 q⟩ : Sq Int) (sq_bs _) rfl (fun c hc => bs_rng (by simpa using hc)) (by rw [bs_len]; omega)
          rw [show (([] : List Int).length : Int) = 0 from rfl] at u1
          have hU : bs (strOf b'.n b'.at') = (bs p.1.2.1).map up := by
           rw [bs_strOf fun i hi => ?_]
           · have : sqL id b' = (List.range b'.n).map b'.at' := rfl
             rw [← this, u2]; rfl
           · have := sqL_get (f := id) (q := b') hi
             rw [u2] at this
             have hm := List.mem_of_getElem? this
             simp only [List.nil_append, List.mem_map] at hm
             obtain ⟨c, hc, e⟩ := hm
             have hr := bs_rng hc
             have e' : b'.at' i = up c := e.symm
             rw [e']
             unfold up
             split <;> omega
          generalize hUe : strOf b'.n b'.at' = U at hU
          have hUz : U.size ≤ 3000 := by rw [← bs_len, hU, List.length_map, bs_len]; omega
          have pU := back_at n p.1.1 p.1.2.1 U ((p.1.1 ++ (⟨#[64]⟩ : BA)) ++ U) (by rw [ByteArray.size_append, ByteArray.size_append]; omega) hn hK (by rw [hU, map_low_up, hlow]) (bs_text p.1.1 U)
          generalize hS : (p.1.1 ++ (⟨#[64]⟩ : BA)) ++ p.1.2.1 = S at hT hs hst pS u1
          have pP := back_path n p.1.1 p.1.2.1 (((⟨#[60]⟩ : BA) ++ S) ++ (⟨#[62]⟩ : BA)) (by rw [ByteArray.size_append, ByteArray.size_append]; omega) hn hK (by
           rw [bs_app, bs_app, hst]; simp; rfl)
          have t1 : strFits p.1.1 (⟨#[64]⟩ : BA) = true := fitS (by omega)
          have t2 : strFits (p.1.1 ++ (⟨#[64]⟩ : BA)) U = true := fitS (by rw [ByteArray.size_append]; omega)
          have t3 : strFits (⟨#[60]⟩ : BA) S = true := fitS (by omega)
          have t4 : strFits ((⟨#[60]⟩ : BA) ++ S) (⟨#[62]⟩ : BA) = true := fitS (by rw [ByteArray.size_append]; omega)
          have c1 : 0 ≤ (k : Int) ∧ (k : Int) < (l.n : Int) := ⟨a1, g1⟩
          rcases sec with s0 | ⟨y, z, t, s1, s2, s3, s4⟩
          · simp only [w4_AddrBack_L0, w4_AddrBack_B0, g1, g2, hJ, decide_true, if_true, Option.bind_some, onL, if_pos c1, Int.toNat_natCast, hp, hT, num_eq, pS, u1, t1, t2, t3, t4, hUe, pU, pP, s0, e1, both_self, dup_self]
            simp [both_self, dup_self]
          · simp only [w4_AddrBack_L0, w4_AddrBack_B0, g1, g2, hJ, decide_true, if_true, Option.bind_some, onL, if_pos c1, Int.toNat_natCast, hp, hT, num_eq, pS, u1, t1, t2, t3, t4, hUe, pU, pP, s1, s2, s3, s4, e1, both_self, dup_self]
            simp [both_self, dup_self]
        · rw [if_neg hK] at hT
          have c1 : 0 ≤ (k : Int) ∧ (k : Int) < (l.n : Int) := ⟨a1, g1⟩
          rcases sec with s0 | ⟨y, z, t, s1, s2, s3, s4⟩
          · simp only [w4_AddrBack_L0, w4_AddrBack_B0, g1, g2, hJ, decide_true, if_true, Option.bind_some, onL, if_pos c1, Int.toNat_natCast, hp, hT, num_eq, s0, e1, both_self, dup_self]
            simp [both_self, dup_self]
          · simp only [w4_AddrBack_L0, w4_AddrBack_B0, g1, g2, hJ, decide_true, if_true, Option.bind_some, onL, if_pos c1, Int.toNat_natCast, hp, hT, num_eq, s1, s2, s3, s4, e1, both_self, dup_self]
            simp [both_self, dup_self]
    · refine ⟨.out (), ?_, .inl rfl⟩
      simp only [w4_AddrBack_L0, w4_AddrBack_B0, g1, g2, decide_true, decide_false]
      rfl
  · refine ⟨.out (), ?_, .inl rfl⟩
    simp only [w4_AddrBack_L0, w4_AddrBack_B0, g1, decide_false]
    rfl
theorem plain_AddrBack (l : Sq Ask) (h : Fit reachBytes (.sl tAsk) l) : ∃ n, w4_AddrBack n l = some true := by
 refine ⟨10000000, ?_⟩
 obtain ⟨x, hx, hor⟩ := AddrBack_L0 10000000 (Nat.le_refl _) l h 21 0 10000000 rfl (by decide) (by decide)
 unfold w4_AddrBack w4_AddrBack_B
 rw [show ((0 : Nat) : Int) = 0 from rfl] at hx
 rw [hx, Option.bind_some]
 rcases hor with rfl | rfl
 · simp only [onL]
   rw [wakes_eq _ (Nat.le_refl _)]; rfl
 · rfl
end Go.Proofs.YtpgboapflbpieaaDoor.AM
