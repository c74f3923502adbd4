/- What the functions of addr tell, as lists of numbers: part 1. -/
import Derived.Test.YthmhobnhladhbaaDoorQ0
import Derived.Test.YthmhobnhladhbaaDoorFz
namespace Go.Proofs.YthmhobnhladhbaaDoor.AM
open Go
set_option linter.unusedSimpArgs false
set_option linter.unusedVariables false

def sgn (c : Int) : Bool := decide (97 ≤ c) && decide (c ≤ 122) || decide (48 ≤ c) && decide (c ≤ 57)
def specials : List Int := [33, 35, 36, 37, 38, 39, 42, 43, 45, 47, 61, 63, 94, 95, 96, 123, 124, 125, 126]
def atom (c : Int) : Bool := sgn c || decide (65 ≤ c) && decide (c ≤ 90) || decide (c ∈ specials)
theorem sign_eq (n : Nat) (c : Int) : addr_sign n c = some (sgn c) := by
  unfold addr_sign addr_sign_B sgn
  by_cases h1 : 97 ≤ c <;> by_cases h2 : c ≤ 122 <;> by_cases h3 : 48 ≤ c <;> by_cases h4 : c ≤ 57 <;> simp [h1, h2, h3, h4] <;> omega
theorem idx_mem {c : Int} : ∀ l : List Int, (0 ≤ idx c l ↔ c ∈ l) ∧ -1 ≤ idx c l
  | [] => by simp [idx]
  | b :: l => by
    have := idx_mem (c := c) l
    simp only [idx]
    by_cases h : b = c
    · simp [h]
    · rw [if_neg h]
      have hc : c ≠ b := fun e => h e.symm
      by_cases h2 : idx c l = -1
      · rw [if_pos h2]
        have : ¬ c ∈ l := fun hm => by have := this.1.2 hm; omega
        simp [hc, this]
      · rw [if_neg h2]
        have h3 : 0 ≤ idx c l := by omega
        have := this.1.1 h3
        constructor
        · constructor
          · intro _; exact List.mem_cons_of_mem _ this
          · intro _; omega
        · omega
theorem indexByte_eq (n : Nat) (s : ByteArray) {c : Int} (h0 : 0 ≤ c) (h1 : c < 256) : strings_IndexByte n s c = some (idx c (bs s)) := by
  unfold strings_IndexByte strings_IndexByte_B internal_stringslite_IndexByte internal_stringslite_IndexByte_B
  simp [idx_eq h0 h1, bs]
theorem specials_eq : bs (⟨#[33, 35, 36, 37, 38, 39, 42, 43, 45, 47, 61, 63, 94, 95, 96, 123, 124, 125, 126]⟩ : ByteArray) = specials := by decide
theorem atom_eq (n : Nat) {c : Int} (h0 : 0 ≤ c) (h1 : c < 256) : addr_atom n c = some (atom c) := by
  unfold addr_atom addr_atom_B atom
  rw [sign_eq, indexByte_eq _ _ h0 h1, specials_eq]
  have := (idx_mem (c := c) specials).1
  have hd : decide (idx c specials ≥ 0) = decide (c ∈ specials) := by rw [decide_eq_decide]; exact this
  cases hs : sgn c <;> by_cases h2 : 65 ≤ c <;> by_cases h3 : c ≤ 90 <;> simp [h2, h3, hd] <;> omega
/-- Words with dots between them: so many bytes of a word have come. -/
def pl : Nat → List Int → Bool
  | w, [] => decide (0 < w)
  | w, c :: r => if c = 46 then (if w = 0 then false else pl 0 r) else if atom c = true then pl (w + 1) r else false
def onPl (b : Nat → List Int → Bool) := b
/-- How the loop ends. -/
def plX : Nat → List Int → Lx Int Bool
  | w, [] => .out w
  | w, c :: r => if c = 46 then (if w = 0 then .ret false else plX 0 r) else if atom c = true then plX (w + 1) r else .ret false
theorem plain_L0 (n : Nat) (s : ByteArray) (hs : s.size < 4611686018427387904) : ∀ (r : List Int) (k w m : Nat), (bs s).drop k = r → k ≤ s.size → w ≤ k → r.length < m → addr_plain_L0 n m s w s.size k = some (plX w r)
  | [], k, w, m, h, hk, hw, hm => by
    obtain ⟨m, rfl⟩ : ∃ q, m = q + 1 := ⟨m - 1, by omega⟩
    have := at_nil h
    simp [addr_plain_L0, addr_plain_B0, this, plX]
  | c :: r, k, w, m, h, hk, hw, hm => by
    obtain ⟨m, rfl⟩ : ∃ q, m = q + 1 := ⟨m - 1, by omega⟩
    obtain ⟨h1, h2, h3, h4, h5⟩ := at_cons h
    have ih := fun w hw => plain_L0 n s hs r (k + 1) w m h3 (by omega) hw (by simpa using hm)
    have hk0 : (0 : Int) ≤ (k : Int) := by omega
    have e1 := wr1 (k := k) (by omega)
    have e2 := wr1 (k := w) (by omega)
    simp only [addr_plain_L0, addr_plain_B0, h1, h2, hk0, atom_eq n h4 h5, e1, e2, plX]
    by_cases hc : c = 46
    · subst hc
      by_cases hw0 : w = 0
      · subst hw0; simp
      · have : ((w : Int) == 0) = false := by simpa using hw0
        have := ih 0 (by omega)
        simp_all
    · have hc' : (c == 46) = false := by simpa using hc
      cases ha : atom c with
      | true => simp [hc, hc', ha]; exact ih (w + 1) (by omega)
      | false => simp [hc, hc', ha]
theorem plX_pl : ∀ (r : List Int) (w : Nat), onL (plX w r) (fun a => decide (a > (0 : Int))) (fun b => b) (fun _ => false) = pl w r
  | [], w => by simp [plX, pl, onL]
  | c :: r, w => by
    simp only [plX, pl]
    split
    · split
      · rfl
      · exact plX_pl r 0
    · split
      · exact plX_pl r (w + 1)
      · rfl
theorem plX_nopan : ∀ (r : List Int) (w : Nat) (p : Int), plX w r ≠ .pan p
  | [], w, p => by simp [plX]
  | c :: r, w, p => by
    simp only [plX]
    split
    · split
      · simp
      · exact plX_nopan r 0 p
    · split
      · exact plX_nopan r (w + 1) p
      · simp
theorem plain_eq (n : Nat) (s : ByteArray) (hs : s.size < 4611686018427387904) (hn : s.size < n) : addr_plain n s = some (pl 0 (bs s)) := by
  unfold addr_plain addr_plain_B
  have := plain_L0 n s hs (bs s) 0 0 n (by simp) (by omega) (by omega) (by rw [bs_len]; exact hn)
  rw [show ((0 : Nat) : Int) = 0 from rfl] at this
  rw [this, Option.bind_some, ← plX_pl]
  cases h : plX 0 (bs s) with
  | out a => rfl
  | ret b => rfl
  | pan p => exact absurd h (plX_nopan _ _ _)
end Go.Proofs.YthmhobnhladhbaaDoor.AM
