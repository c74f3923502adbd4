/- What the functions of addr and of its reference tell: part 10: Parse. -/
import Derived.Test.YthmhobnhladhbaaDoorQ9
namespace Go.Proofs.YthmhobnhladhbaaDoor.AM
open Go
set_option linter.unusedSimpArgs false
set_option linter.unusedVariables false

abbrev Box := ByteArray × (ByteArray × Unit)
def noBox : Box := ((⟨#[]⟩ : ByteArray), ((⟨#[]⟩ : ByteArray), ()))
/-- Which mailbox a text is. -/
def parP (l : List Int) : Option (List Int × List Int) := (loc l).bind fun x => if x.1.length ≤ 64 ∧ x.2.head? = some 64 ∧ domP ((x.2.drop 1).map low) = true then some (x.1, (x.2.drop 1).map low) else none
theorem loc_len {l : List Int} {x : List Int × List Int} (h : loc l = some x) : x.1.length ≤ 2 * l.length + 2 ∧ x.2.length ≤ l.length := by
  unfold loc at h
  split at h
  · obtain ⟨y, hy, rfl⟩ := Option.map_eq_some_iff.1 h
    have h1 := qd_len _ _ (Nat.le_refl _) y hy
    have h2 := qs_len y.1
    rw [List.length_drop] at h1
    exact ⟨by simp; omega, by simp; omega⟩
  · split at h
    · cases h
    · split at h
      · cases h; simp; omega
      · cases h
theorem rest_ext {t : ByteArray} : bs (t.extract 1 t.size) = (bs t).drop 1 := by rw [bs_ext, ← bs_len, List.take_length]
theorem read_eq (n : Nat) (s : ByteArray) (hs : s.size ≤ 400000) (hn : 10000000 ≤ n) : match parP (bs s) with
    | none => addr_read n s = some (.error 8)
    | some (a, d) => ∃ t1 t2, addr_read n s = some (.ok (t1, (t2, ()))) ∧ bs t1 = a ∧ bs t2 = d := by
  have hm' : (addr_must n true) = some (.ok ()) := must_eq n true
  have hm2 : (addr_must n false) = some (.error 8) := must_eq n false
  have hl := local_eq n s (by omega) hn
  unfold parP
  cases hx : loc (bs s) with
  | none =>
    rw [hx] at hl
    simp only at hl
    simp only [Option.bind_none]
    unfold addr_read addr_read_B
    rw [hl]; rfl
  | some x =>
    rw [hx] at hl
    obtain ⟨t1, t2, j1, j2, j3⟩ := hl
    have hlen := loc_len hx
    rw [← j2, ← j3, bs_len, bs_len, bs_len] at hlen
    simp only [Option.bind_some]
    rw [← j2, ← j3, bs_len]
    by_cases g1 : t1.size ≤ 64
    · have b1 : (t1.size : Int) ≤ 64 := by omega
      have hP := HasPrefix_one n t2 (⟨#[64]⟩ : ByteArray) (c := 64) rfl
      by_cases g2 : (bs t2).head? = some 64
      · rw [decide_eq_true g2] at hP
        have hne : 1 ≤ t2.size := by
          rw [← bs_len]
          cases hb : bs t2 with
          | nil => rw [hb] at g2; cases g2
          | cons _ _ => simp
        have b2 : (1 : Int) ≤ (t2.size : Int) := by omega
        have b3 : (0 : Int) ≤ 1 := by decide
        obtain ⟨t3, k1, k2⟩ := small_eq n (t2.extract 1 t2.size) (by have := ext_size t2 1 t2.size; omega) hn
        have hsz : t3.size ≤ t2.size := by rw [← bs_len t3, k2, List.length_map, bs_len]; exact ext_size _ _ _
        have hD := IsDomain_eq n t3 (by omega) hn
        rw [k2, rest_ext] at hD
        rw [rest_ext] at k2
        have k1' : addr_small n (t2.extract (Int.toNat (1 : Int)) t2.size) = some t3 := k1
        by_cases g3 : domP (((bs t2).drop 1).map low) = true
        · rw [if_pos ⟨g1, g2, g3⟩]
          refine ⟨t1, t3, ?_, rfl, k2⟩
          unfold addr_read addr_read_B
          rw [j1]
          simp only [Option.bind_some, onX, b1, decide_true, hP, hm', b2, b3, Int.toNat_natCast, k1', hD, g3]
          rfl
        · rw [if_neg fun h => g3 h.2.2]
          simp only
          have g3' : domP (((bs t2).drop 1).map low) = false := by simpa using g3
          unfold addr_read addr_read_B
          rw [j1]
          simp only [Option.bind_some, onX, b1, decide_true, hP, hm', hm2, b2, b3, Int.toNat_natCast, k1', hD, g3']
          rfl
      · rw [decide_eq_false g2] at hP
        rw [if_neg fun h => g2 h.2.1]
        simp only
        unfold addr_read addr_read_B
        rw [j1]
        simp only [Option.bind_some, onX, b1, decide_true, hP, hm2]
        rfl
    · have b1 : ¬ ((t1.size : Int) ≤ 64) := by omega
      rw [if_neg fun h => g1 h.1]
      simp only
      unfold addr_read addr_read_B
      rw [j1]
      simp only [Option.bind_some, onX, b1, decide_false, hm2]
      rfl
theorem Parse_eq (n : Nat) (s : ByteArray) (hs : s.size ≤ 400000) (hn : 10000000 ≤ n) : match parP (bs s) with
    | none => addr_Parse n s = some (noBox, 8, ())
    | some (a, d) => ∃ t1 t2, addr_Parse n s = some ((t1, (t2, ())), 0, ()) ∧ bs t1 = a ∧ bs t2 = d := by
  have h := read_eq n s hs hn
  cases hx : parP (bs s) with
  | none =>
    rw [hx] at h
    simp only at h ⊢
    unfold addr_Parse addr_Parse_B
    rw [h]; rfl
  | some x =>
    rw [hx] at h
    obtain ⟨t1, t2, j1, j2, j3⟩ := h
    refine ⟨t1, t2, ?_, j2, j3⟩
    unfold addr_Parse addr_Parse_B
    rw [j1]; rfl
/-- The reference's end of Parse: the local part is A, what follows is Z. -/
def tailE (n : Nat) (A Z : ByteArray) : Option (Box × Bool × Unit) :=
  if (Z.toList == (⟨#[]⟩ : ByteArray).toList) = false then
    if 0 ≤ (0 : Int) ∧ (0 : Int) < (Z.size : Int) then
      if ((bt Z (0 : Int)) != (64 : Int)) = true then
        some (((⟨#[]⟩ : ByteArray), ((⟨#[]⟩ : ByteArray), ())), (false, ()))
      else
        if 0 ≤ (1 : Int) ∧ (1 : Int) ≤ (Z.size : Int) then
          (pouchref0_Lower n (Z.extract (Int.toNat (1 : Int)) (Int.toNat ((Z.size) : Int)))).bind fun v3 =>
          (pouchref4_May n (A, (v3, ()))).bind fun v4 =>
          if (!v4) = true then
            some (((⟨#[]⟩ : ByteArray), ((⟨#[]⟩ : ByteArray), ())), (false, ()))
          else
            some ((A, (v3, ())), (true, ()))
        else
          none
    else
      none
  else
    some (((⟨#[]⟩ : ByteArray), ((⟨#[]⟩ : ByteArray), ())), (false, ()))
def tailX (a z : List Int) : Option (List Int × List Int) := if z.head? = some 64 ∧ (locR a && domR ((z.drop 1).map low)) = true then some (a, (z.drop 1).map low) else none
def RefIs (e : Option (Box × Bool × Unit)) : Option (List Int × List Int) → Prop
  | none => e = some (noBox, false, ())
  | some (a, d) => ∃ t1 t2, e = some ((t1, (t2, ())), true, ()) ∧ bs t1 = a ∧ bs t2 = d
theorem tailE_eq (n : Nat) (A Z : ByteArray) (hA : A.size ≤ 1000000) (hZ : Z.size ≤ 1000000) (hn : 10000000 ≤ n) : RefIs (tailE n A Z) (tailX (bs A) (bs Z)) := by
  unfold tailE tailX
  rw [str_eq, show bs (⟨#[]⟩ : ByteArray) = [] from rfl]
  by_cases g0 : bs Z = []
  · rw [g0]
    simp [RefIs, noBox]
  · have hne : 1 ≤ Z.size := by
      rw [← bs_len]
      exact List.length_pos_iff.2 g0
    obtain ⟨c, hc, hb⟩ := bs_head (s := Z) (by omega)
    have b1 : (0 : Int) < (Z.size : Int) := by omega
    have b2 : (1 : Int) ≤ (Z.size : Int) := by omega
    have b3 : (0 : Int) ≤ 1 := by decide
    obtain ⟨t3, k1, k2⟩ := Lower_eq n (Z.extract 1 Z.size) (by have := ext_size Z 1 Z.size; omega) hn
    have hsz : t3.size ≤ Z.size := by rw [← bs_len t3, k2, List.length_map, bs_len]; exact ext_size _ _ _
    rw [rest_ext] at k2
    have hM := May_eq n A t3 hA (by omega) hn
    rw [k2] at hM
    have k1' : pouchref0_Lower n (Z.extract (Int.toNat (1 : Int)) Z.size) = some t3 := k1
    rw [hc]
    simp only [g0, decide_false, b1, hb, b2, b3, Int.toNat_natCast, k1', Option.bind_some, hM]
    by_cases g1 : c = 64
    · subst g1
      cases hg : (locR (bs A) && domR (((bs Z).drop 1).map low)) with
      | false => simp [RefIs, noBox]
      | true =>
        simp only [bne_self_eq_false]
        exact ⟨A, t3, rfl, rfl, k2⟩
    · have : (c != 64) = true := by simpa using g1
      simp [this, g1, RefIs, noBox]
def tw : List Int → Nat
  | [] => 0
  | c :: r => if c = 64 then 0 else tw r + 1
theorem tw_le : ∀ l : List Int, tw l ≤ l.length
  | [] => Nat.le_refl _
  | c :: r => by
    have := tw_le r
    simp only [tw]
    split <;> simp <;> omega
theorem rParse_L0 (n : Nat) (s : ByteArray) (hs : s.size ≤ 1000000) (x1 x2 x3 x4 : ByteArray) : ∀ (r : List Int) (k m : Nat), (bs s).drop k = r → k ≤ s.size → r.length < m →
    pouchref4_Parse_L0 n m s k x1 x2 x3 x4 = some (.out (s, ((k + tw r : Nat) : Int), x1, x2, x3, x4))
  | [], k, m, h, hk, hm => by
    obtain ⟨m, rfl⟩ : ∃ q, m = q + 1 := ⟨m - 1, by omega⟩
    have := at_nil h
    simp [pouchref4_Parse_L0, pouchref4_Parse_B0, this, tw]
  | c :: r, k, m, h, hk, hm => by
    obtain ⟨m, rfl⟩ : ∃ q, m = q + 1 := ⟨m - 1, by omega⟩
    obtain ⟨h1, h2, h3, h4, h5⟩ := at_cons h
    have e1 := wr1 (k := k) (by omega)
    have a1 : (0 : Int) ≤ (k : Int) := by omega
    have ih := rParse_L0 n s hs x1 x2 x3 x4 r (k + 1) m h3 (by omega) (by simp at hm; omega)
    simp only [tw]
    by_cases g : c = 64
    · subst g
      simp only [pouchref4_Parse_L0, pouchref4_Parse_B0, h1, h2, a1, decide_true]
      rfl
    · have g1 : (c != 64) = true := by simpa using g
      rw [if_neg g, show k + (tw r + 1) = k + 1 + tw r by omega, ← ih]
      simp only [pouchref4_Parse_L0, pouchref4_Parse_B0, h1, h2, a1, e1, g1, decide_true]
      rfl
def parR (l : List Int) : Option (List Int × List Int) := if l.head? = some 34 then (qd (l.drop 1)).bind fun x => tailX (qs x.1) x.2 else tailX (l.take (tw l)) (l.drop (tw l))
theorem qd_suf : ∀ (N : Nat) (r : List Int), r.length ≤ N → ∀ x, qd r = some x → ∃ p, r = p ++ x.2
  | _, [], _, x, h => by cases h
  | 0, c :: r, h, _, _ => by simp at h
  | N + 1, c :: r, hN, x, h => by
    rw [qd_cons] at h
    split at h
    · cases h; exact ⟨[c], rfl⟩
    · split at h
      · cases r with
        | nil => cases h
        | cons d r =>
          simp only at h
          split at h
          · obtain ⟨y, hy, rfl⟩ := Option.map_eq_some_iff.1 h
            obtain ⟨p, hp⟩ := qd_suf N r (by simp at hN; omega) y hy
            exact ⟨c :: d :: p, by rw [hp]; rfl⟩
          · cases h
      · split at h
        · obtain ⟨y, hy, rfl⟩ := Option.map_eq_some_iff.1 h
          obtain ⟨p, hp⟩ := qd_suf N r (by simp at hN; omega) y hy
          exact ⟨c :: p, by rw [hp]; rfl⟩
        · cases h
theorem qd_rest (l : List Int) (x : List Int × List Int) (h : qd (l.drop 1) = some x) : l.drop (l.length - x.2.length) = x.2 := by
  obtain ⟨p, hp⟩ := qd_suf _ _ (Nat.le_refl _) x h
  have hl : l.length = (l.take 1).length + (p.length + x.2.length) := by
    conv => lhs; rw [← List.take_append_drop 1 l, hp]
    simp
  have e : l = (l.take 1 ++ p) ++ x.2 := by
    conv => lhs; rw [← List.take_append_drop 1 l, hp]
    simp
  rw [show l.length - x.2.length = (l.take 1 ++ p).length by rw [List.length_append]; omega]
  conv => lhs; rw [e]
  exact List.drop_left' (by simp [← e])
theorem rParse_eq (n : Nat) (s : ByteArray) (hs : s.size ≤ 400000) (hn : 10000000 ≤ n) : RefIs (pouchref4_Parse n s) (parR (bs s)) := by
  unfold parR
  by_cases h : (bs s).head? = some 34
  · rw [if_pos h]
    have h1 : 1 ≤ s.size := by
      rw [← bs_len]
      cases hb : bs s with
      | nil => rw [hb] at h; cases h
      | cons _ _ => simp
    obtain ⟨c, hc, hb⟩ := bs_head (s := s) (by omega)
    rw [h] at hc
    cases hc
    have b1 : (s.size : Int) > 0 := by omega
    have b2 : (0 : Int) < (s.size : Int) := by omega
    have hq := inner_eq n s (by omega) h1 hn
    cases hx : qd ((bs s).drop 1) with
    | none =>
      rw [hx] at hq
      simp only at hq
      simp only [Option.bind_none, RefIs]
      unfold pouchref4_Parse pouchref4_Parse_B
      simp only [b1, b2, hb, hq, decide_true, Option.bind_some]
      rfl
    | some x =>
      rw [hx] at hq
      obtain ⟨t, j1, j2⟩ := hq
      have hl := qd_len _ _ (Nat.le_refl _) x hx
      rw [List.length_drop, bs_len] at hl
      have hts : t.size ≤ s.size := by rw [← bs_len t, j2]; omega
      obtain ⟨t3, k1, k2⟩ := rquote_eq n t (by omega) hn
      have hpt := rplain_eq n t (by omega) hn
      rw [plain_same, j2] at hpt
      have hq2 := qd_rest (bs s) x hx
      have hz : bs (s.extract (s.size - x.2.length) s.size) = x.2 := by
        rw [bs_ext, ← bs_len, List.take_length]; exact hq2
      have a1 : (0 : Int) ≤ ((s.size - x.2.length : Nat) : Int) := by omega
      have a2 : ((s.size - x.2.length : Nat) : Int) ≤ (s.size : Int) := by omega
      simp only [Option.bind_some]
      by_cases hp : pl 0 x.1 = true
      · have hE : pouchref4_Parse n s = tailE n t (s.extract (s.size - x.2.length) s.size) := by
          unfold pouchref4_Parse pouchref4_Parse_B
          simp only [b1, b2, hb, j1, decide_true, Option.bind_some, a1, a2, k1, hpt, hp, Int.toNat_natCast]
          rfl
        rw [hE]
        have := tailE_eq n t (s.extract (s.size - x.2.length) s.size) (by omega) (by have := ext_size s (s.size - x.2.length) s.size; omega) hn
        rw [hz, j2] at this
        rw [show qs x.1 = x.1 from if_pos hp]
        exact this
      · have hE : pouchref4_Parse n s = tailE n t3 (s.extract (s.size - x.2.length) s.size) := by
          unfold pouchref4_Parse pouchref4_Parse_B
          simp only [b1, b2, hb, j1, decide_true, Option.bind_some, a1, a2, k1, hpt, hp, Int.toNat_natCast]
          rfl
        rw [hE]
        have h3 : t3.size ≤ 1000000 := by
          have := qt_len x.1
          rw [← bs_len, k2, j2]; omega
        have := tailE_eq n t3 (s.extract (s.size - x.2.length) s.size) h3 (by have := ext_size s (s.size - x.2.length) s.size; omega) hn
        rw [hz, k2, j2] at this
        rw [show qs x.1 = qt x.1 from if_neg hp]
        exact this
  · rw [if_neg h]
    have htw := tw_le (bs s)
    rw [bs_len] at htw
    have hL := rParse_L0 n s (by omega) (⟨#[]⟩ : ByteArray) (⟨#[]⟩ : ByteArray) (⟨#[]⟩ : ByteArray) (⟨#[]⟩ : ByteArray) (bs s) 0 n (by simp) (by omega) (by rw [bs_len]; omega)
    rw [show ((0 : Nat) : Int) = 0 from rfl, Nat.zero_add] at hL
    have a1 : (0 : Int) ≤ ((tw (bs s) : Nat) : Int) := by omega
    have a2 : ((tw (bs s) : Nat) : Int) ≤ (s.size : Int) := by omega
    have hb0 : bs (s.extract 0 (tw (bs s))) = (bs s).take (tw (bs s)) := by rw [bs_ext]; rfl
    have hb1 : bs (s.extract (tw (bs s)) s.size) = (bs s).drop (tw (bs s)) := by
      conv => lhs; rw [bs_ext, show (bs s).take s.size = bs s by rw [← bs_len, List.take_length]]
    have hE : pouchref4_Parse n s = tailE n (s.extract 0 (tw (bs s))) (s.extract (tw (bs s)) s.size) := by
      unfold pouchref4_Parse pouchref4_Parse_B
      by_cases g : (s.size : Int) > 0
      · obtain ⟨c, hc, hb⟩ := bs_head (s := s) (by omega)
        have b2 : (0 : Int) < (s.size : Int) := g
        have g34 : (c == 34) = false := by
          simp only [beq_eq_false_iff_ne]
          exact fun e => h (by rw [hc, e])
        simp only [g, b2, hb, g34, hL, decide_true, Option.bind_some, onL, a1, a2, Int.toNat_natCast]
        rfl
      · simp only [g, hL, decide_false, Option.bind_some, onL, a1, a2, Int.toNat_natCast]
        rfl
    rw [hE]
    have := tailE_eq n (s.extract 0 (tw (bs s))) (s.extract (tw (bs s)) s.size) (by have := ext_size s 0 (tw (bs s)); omega) (by have := ext_size s (tw (bs s)) s.size; omega) hn
    rwa [hb0, hb1] at this
end Go.Proofs.YthmhobnhladhbaaDoor.AM
