/- What the functions of addr and of its reference tell: part 7: quotes. -/
import Derived.Test.YthmhobnhladhbaaDoorQ6
namespace Go.Proofs.YthmhobnhladhbaaDoor.AM
open Go
set_option linter.unusedSimpArgs false
set_option linter.unusedVariables false

def esc : List Int → List Int
  | [] => []
  | c :: r => if c = 34 ∨ c = 92 then 92 :: c :: esc r else c :: esc r
def okc (c : Int) : Bool := decide (32 ≤ c) && decide (c ≤ 126)
/-- What stands between quotes, the first of them gone: what it means, what follows. -/
def qd : List Int → Option (List Int × List Int)
  | [] => none
  | c :: r => if c = 34 then some ([], r) else if c = 92 then (match r with
      | [] => none
      | d :: r' => if okc d = true then (qd r').map fun x => (d :: x.1, x.2) else none)
    else if okc c = true then (qd r).map fun x => (c :: x.1, x.2) else none
theorem qd_cons (c : Int) (r : List Int) : qd (c :: r) = if c = 34 then some ([], r) else if c = 92 then (match r with
      | [] => none
      | d :: r' => if okc d = true then (qd r').map fun x => (d :: x.1, x.2) else none)
    else if okc c = true then (qd r).map fun x => (c :: x.1, x.2) else none := by
  conv => lhs; unfold qd
theorem esc_len : ∀ l : List Int, (esc l).length ≤ 2 * l.length
  | [] => by simp [esc]
  | c :: r => by
    have := esc_len r
    simp only [esc]
    split <;> simp <;> omega
theorem must_eq (n : Nat) (b : Bool) : addr_must n b = some (if b = true then .ok () else .error 8) := by
  unfold addr_must addr_must_B
  cases b <;> rfl
theorem WB1_eq (n : Nat) (c : Int) (r1 : Sq Int) (h : r1.n ≤ 4000000) : ∃ r2, strings_Builder_WriteByte_v1 n c r1 = some (r2, ()) ∧ sqL id r2 = sqL id r1 ++ [c] ∧ r2.n = r1.n + 1 := by
  refine ⟨_, ?_, sqL_snoc id r1 c (zeroEl (.int .u8)), rfl⟩
  unfold strings_Builder_WriteByte_v1 strings_Builder_WriteByte_v1_B strings_Builder_copyCheck_v1 strings_Builder_copyCheck_v1_B
  rw [Option.bind_some, if_pos (fits1 h)]
theorem WB0_eq (n : Nat) (c : Int) : ∃ r2, strings_Builder_WriteByte_v0 n c = some (r2, ()) ∧ sqL id r2 = [c] ∧ r2.n = 1 := by
  refine ⟨_, rfl, ?_, rfl⟩
  show [_] = [c]
  rfl
theorem Str1_eq (n : Nat) (r1 : Sq Int) (h : r1.n ≤ 4000000) (hr : ∀ c ∈ sqL id r1, 0 ≤ c ∧ c < 256) : ∃ t, strings_Builder_String_v1 n r1 = some (t, ()) ∧ bs t = sqL id r1 := by
  refine ⟨strOf r1.n r1.at', ?_, ?_⟩
  · unfold strings_Builder_String_v1 strings_Builder_String_v1_B
    rw [if_pos ⟨rfl, by omega⟩]
  · exact bs_strOf (f := r1.at') fun i hi => hr _ (List.mem_of_getElem? (sqL_get (f := id) hi))
theorem map_none {α β : Type} {f : α → β} {x : Option α} (h : x.map f = none) : x = none := by cases x with
  | none => rfl
  | some _ => cases h
/-- The loop of quoted. -/
theorem quoted_L0 (n : Nat) (s : ByteArray) (hs : s.size ≤ 1000000) : ∀ (N : Nat) (r : List Int) (k m : Nat) (r1 : Sq Int), r.length ≤ N → (bs s).drop k = r → k ≤ s.size → r1.n ≤ k → (∀ c ∈ sqL id r1, 0 ≤ c ∧ c < 256) → r.length < m →
    match qd r with
    | none => addr_quoted_L0 n m s k r1 = some (.pan 8)
    | some (mean, rest) => ∃ t1 t2, addr_quoted_L0 n m s k r1 = some (.ret (t1, t2)) ∧ bs t1 = sqL id r1 ++ mean ∧ bs t2 = rest
  | N, [], k, m, r1, hN, h, hk, hr1, hb, hm => by
    obtain ⟨m, rfl⟩ : ∃ q, m = q + 1 := ⟨m - 1, by omega⟩
    have := at_nil h
    simp only [qd]
    simp [addr_quoted_L0, addr_quoted_B0, this, must_eq, onX]
  | 0, c :: r, k, m, r1, hN, _, _, _, _, _ => by simp at hN
  | N + 1, c :: r, k, m, r1, hN, h, hk, hr1, hb, hm => by
    obtain ⟨m, rfl⟩ : ∃ q, m = q + 1 := ⟨m - 1, by omega⟩
    obtain ⟨h1, h2, h3, h4, h5⟩ := at_cons h
    have e1 := wr1 (k := k) (by omega)
    have a1 : (0 : Int) ≤ (k : Int) := by omega
    have a2 : (0 : Int) ≤ ((k + 1 : Nat) : Int) := by omega
    have a3 : ((k + 1 : Nat) : Int) ≤ (s.size : Int) := by omega
    have hm' : (addr_must n true) = some (.ok ()) := must_eq n true
    have hm2 : (addr_must n false) = some (.error 8) := must_eq n false
    have hd1 : decide ((k : Int) < (s.size : Int)) = true := decide_eq_true h1
    by_cases g1 : c = 34
    · subst g1
      obtain ⟨t, ht, htb⟩ := Str1_eq n r1 (by omega) hb
      have hq : qd (34 :: r) = some ([], r) := by rw [qd_cons]; rfl
      rw [hq]
      refine ⟨t, s.extract (k + 1) s.size, ?_, by rw [htb, List.append_nil], by rw [bs_ext, show (bs s).take s.size = bs s by rw [← bs_len, List.take_length]]; exact h3⟩
      simp only [addr_quoted_L0, addr_quoted_B0, hd1, decide_true, decide_false, hm', h1, h2, a1, e1, a2, a3, ht, Option.bind_some, onX, Int.toNat_natCast]
      simp
    · have g1' : (c == 34) = false := by simpa using g1
      by_cases g2 : c = 92
      · subst g2
        cases r with
        | nil =>
          have hq : qd [92] = none := by rw [qd_cons]; rfl
          rw [hq]
          have hn := at_nil h3
          have hd2 : decide (((k + 1 : Nat) : Int) < (s.size : Int)) = false := decide_eq_false hn
          simp only [addr_quoted_L0, addr_quoted_B0, hd1, decide_true, decide_false, hm', h1, h2, a1, e1, hd2, hm2, Option.bind_some, onX]
          simp
        | cons d r =>
          obtain ⟨i1, i2, i3, i4, i5⟩ := at_cons h3
          have e2 := wr1 (k := k + 1) (by omega)
          have hd2 : decide (((k + 1 : Nat) : Int) < (s.size : Int)) = true := decide_eq_true i1
          have hq : qd (92 :: d :: r) = if okc d = true then (qd r).map fun x => (d :: x.1, x.2) else none := by rw [qd_cons]; rfl
          rw [hq]
          by_cases g3 : okc d = true
          · have hdd : 32 ≤ d ∧ d ≤ 126 := by simpa [okc] using g3
            obtain ⟨r2, w1, w2, w3⟩ := WB1_eq n d r1 (by omega)
            have ih := quoted_L0 n s hs N r (k + 2) m r2 (by simp at hN; omega) (by rw [← i3]) (by omega) (by omega) (fun x hx => by
              rw [w2] at hx
              rcases List.mem_append.1 hx with hx | hx
              · exact hb x hx
              · simp at hx; subst hx; omega) (by simp at hm; omega)
            have b1 : decide (d ≥ 32) = true := decide_eq_true hdd.1
            have b2 : decide (d ≤ 126) = true := decide_eq_true hdd.2
            have hstep : addr_quoted_L0 n (m + 1) s k r1 = addr_quoted_L0 n m s ((k + 1 + 1 : Nat) : Int) r2 := by
              simp only [addr_quoted_L0, addr_quoted_B0, hd1, decide_true, decide_false, hm', h1, h2, a1, e1, hd2, i1, i2, a2, b1, b2, w1, e2, Option.bind_some, onX]
              simp
            rw [hstep, if_pos g3]
            cases hqr : qd r with
            | none => rw [hqr] at ih; exact ih
            | some x =>
              rw [hqr] at ih
              obtain ⟨t1, t2, j1, j2, j3⟩ := ih
              exact ⟨t1, t2, j1, by rw [j2, w2]; simp, j3⟩
          · rw [if_neg g3]
            by_cases b1 : d ≥ 32
            · have b2 : ¬ d ≤ 126 := fun hb => g3 (by simp [okc]; omega)
              have b1' : decide (d ≥ 32) = true := decide_eq_true b1
              have b2' : decide (d ≤ 126) = false := decide_eq_false b2
              simp only [addr_quoted_L0, addr_quoted_B0, hd1, decide_true, decide_false, hm', h1, h2, a1, e1, hd2, i1, i2, a2, b1', b2', hm2, Option.bind_some, onX]
              simp
            · have b1' : decide (d ≥ 32) = false := decide_eq_false b1
              simp only [addr_quoted_L0, addr_quoted_B0, hd1, decide_true, decide_false, hm', h1, h2, a1, e1, hd2, i1, i2, a2, b1', hm2, Option.bind_some, onX]
              simp
      · have g2' : (c == 92) = false := by simpa using g2
        have hq : qd (c :: r) = if okc c = true then (qd r).map fun x => (c :: x.1, x.2) else none := by rw [qd_cons, if_neg g1, if_neg g2]
        rw [hq]
        by_cases g3 : okc c = true
        · have hdd : 32 ≤ c ∧ c ≤ 126 := by simpa [okc] using g3
          obtain ⟨r2, w1, w2, w3⟩ := WB1_eq n c r1 (by omega)
          have ih := quoted_L0 n s hs N r (k + 1) m r2 (by simp at hN; omega) h3 (by omega) (by omega) (fun x hx => by
            rw [w2] at hx
            rcases List.mem_append.1 hx with hx | hx
            · exact hb x hx
            · simp at hx; subst hx; omega) (by simp at hm; omega)
          have b1 : decide (c ≥ 32) = true := decide_eq_true hdd.1
          have b2 : decide (c ≤ 126) = true := decide_eq_true hdd.2
          have hstep : addr_quoted_L0 n (m + 1) s k r1 = addr_quoted_L0 n m s ((k + 1 : Nat) : Int) r2 := by
            simp only [addr_quoted_L0, addr_quoted_B0, hd1, decide_true, decide_false, hm', h1, h2, a1, e1, g1', g2', b1, b2, w1, Option.bind_some, onX]
            simp
          rw [hstep, if_pos g3]
          cases hqr : qd r with
          | none => rw [hqr] at ih; exact ih
          | some x =>
            rw [hqr] at ih
            obtain ⟨t1, t2, j1, j2, j3⟩ := ih
            exact ⟨t1, t2, j1, by rw [j2, w2]; simp, j3⟩
        · rw [if_neg g3]
          by_cases b1 : c ≥ 32
          · have b2 : ¬ c ≤ 126 := fun hb => g3 (by simp [okc]; omega)
            have b1' : decide (c ≥ 32) = true := decide_eq_true b1
            have b2' : decide (c ≤ 126) = false := decide_eq_false b2
            simp only [addr_quoted_L0, addr_quoted_B0, hd1, decide_true, decide_false, hm', h1, h2, a1, e1, g1', g2', b1', b2', hm2, Option.bind_some, onX]
            simp
          · have b1' : decide (c ≥ 32) = false := decide_eq_false b1
            simp only [addr_quoted_L0, addr_quoted_B0, hd1, decide_true, decide_false, hm', h1, h2, a1, e1, g1', g2', b1', hm2, Option.bind_some, onX]
            simp
end Go.Proofs.YthmhobnhladhbaaDoor.AM
