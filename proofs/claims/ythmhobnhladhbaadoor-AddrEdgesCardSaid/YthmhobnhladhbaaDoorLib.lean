/- strconv.Atoi and strconv.Itoa by the contracts of the shelf; what the variables hold that they read. -/
import Derived.Test.YthmhobnhladhbaaDoorShelf
import Derived.Lib.AtoiErrMem
import Derived.Lib.AppendIntMem
import Derived.Test.YthmhobnhladhbaaDoorAm21
set_option linter.all false
namespace Go.Proofs.YthmhobnhladhbaaDoor.AM
open Go Go.RowKit Go.Shelf

def ifcV (v : Value) : Prop := v = .nilIface ∨ ∃ te pe, v = .iface te pe
/-- The two errors are values of an interface's type; the table of powers is as it was made. -/
def glG (w : World) : Prop := (∃ ev, w.cell? ⟨1, 0, none⟩ = some ev ∧ ifcV ev) ∧ (∃ ev, w.cell? ⟨2, 0, none⟩ = some ev ∧ ifcV ev) ∧ ∃ t fz, w.heap[5]? = some (.cells (Lib.pow10Tab.map fun z => Value.int .u64 z).toArray t fz)
theorem glG_stab (w w' : World) (h : Below 6 w w') (hg : glG w) : glG w' := by
  obtain ⟨⟨e1, h1, h1'⟩, ⟨e2, h2, h2'⟩, t, fz, h3⟩ := hg
  exact ⟨⟨e1, (World.cell?_of_block (a := ⟨1, 0, none⟩) (h.block 1 (by decide))).trans h1, h1'⟩, ⟨e2, (World.cell?_of_block (a := ⟨2, 0, none⟩) (h.block 2 (by decide))).trans h2, h2'⟩, t, fz, (h.block 5 (by decide)).trans h3⟩
def gl : Glob := ⟨glG, 6, glG_stab, []⟩
theorem tabIs_of {P : Program} {w : World} {name : String} {k : IntKind} {zs : List Int} {q : Nat} {t : TypeId} {fz : Nat × Nat} (hq : P.globalNamed name = some q) (h : w.heap[q]? = some (.cells (zs.map fun z => Value.int k z).toArray t fz)) : Lib.TabIs P w name k zs := by
  unfold Lib.TabIs World.var?
  rw [hq, Option.bind_some, h]

/-- strconv.Atoi: the number, and whether all is well. -/
def atoiF (s : ByteArray) : Option (Int × Bool) := if s.size ≤ 281474976710656 then some (match Lib.atoiAll s.data.toList with
  | .ok v => (v, true)
  | .range => (Lib.atoiSat s.data.toList, false)
  | _ => (0, false)) else none
def pcAtoi (t : TypeId) {R : Type} (args : List AV) (kk pk : AV → Option R) : Option R := match args with
  | [.b (.string s)] => (atoiF s).bind fun y => if y.2 = true then kk (.tup [.b (.int .i64 y.1), .b .nilIface]) else kk (.tup [.b (.int .i64 y.1), .ifc t .top])
  | _ => none
theorem ans_tup {P : Program} {g : Glob} {f : FuncId} {s : ByteArray} {n : Int} {e : AV} (h : ∀ w, g.G w → g.n ≤ w.heap.size → Calls P f #[.string s] w fun x w' => (∃ v, x = .returned (.tuple #[.int .i64 n, v]) ∧ ∀ I, VR w' I noInfo noTab e v) ∧ Below w.heap.size w w') :
    Ans P g f [.b (.string s)] (.ret (.tup [.b (.int .i64 n), e])) := by
  intro w I vs hI hg hn hargs
  have hvs : vs = [.string s] := by
    cases vs with
    | nil => simp [LR] at hargs
    | cons u us => cases us with
      | nil => simp only [LR, VR] at hargs; rw [hargs.1]
      | cons _ _ => simp [LR] at hargs
  subst hvs
  refine (h w hg hn).mono ?_
  rintro x w' ⟨⟨v, rfl, hv⟩, hb⟩
  refine ⟨_, I, rfl, hb, fun _ h => h, fun _ h => .inl h, fun b h => Nat.lt_of_lt_of_le (hI b h) hb.size, ?_⟩
  simp only [Out.av, VR]
  exact ⟨_, rfl, by simp only [LR, VR]; exact ⟨trivial, hv I, trivial⟩⟩
theorem atoi_at : Tryd.prog.funcs[56]? = some Tryd.f56 := by kernel_rfl
theorem atoi_ok : EntryOk Tryd.prog gl ⟨56, fun {R} => pcAtoi (R := R) 95, none, none⟩ := by
  refine ⟨fun _ => enters_of (c := bodyOf Tryd.f56) atoi_at (by kernel_rfl) (by kernel_rfl), fun _ _ _ h => (by cases h), fun h => (by cases h), fun _ h => (by cases h), fun _ _ R args kk pk r hr => ?_⟩
  simp only [pcAtoi] at hr
  split at hr
  · rename_i s
    obtain ⟨y, hy, hr⟩ := Option.bind_eq_some_iff.1 hr
    unfold atoiF at hy
    split at hy
    · rename_i hlim
      cases hy
      rcases hcase : Lib.atoiAll s.data.toList with v | _ | _
      · rw [hcase] at hr
        refine .inl ⟨_, hr, rfl, ans_tup fun w hg hn => (Any.strconv_Atoi_ok Tryd.laysAtoi s (by omega) v hcase w).mono ?_⟩
        rintro x w' ⟨rfl, hw⟩
        refine ⟨⟨_, rfl, fun I => by simp only [VR]⟩, ?_⟩
        rcases hw with rfl | ⟨t, rfl⟩
        · exact Below.refl _ _
        · exact Lib.bytesWorld_below _ _ _
      · rw [hcase] at hr
        refine .inl ⟨_, hr, rfl, ans_tup fun w hg hn => ?_⟩
        obtain ⟨⟨e1, h1, h1'⟩, _⟩ := hg
        refine (Any.strconv_Atoi_syntax Tryd.laysAtoi s hlim hcase e1 w h1 h1').mono ?_
        rintro x w' ⟨N, rfl, _, _, hb⟩
        exact ⟨⟨_, rfl, fun I => by simp only [VR]; exact ⟨_, rfl, trivial⟩⟩, hb⟩
      · rw [hcase] at hr
        refine .inl ⟨_, hr, rfl, ans_tup fun w hg hn => ?_⟩
        obtain ⟨_, ⟨e1, h1, h1'⟩, _⟩ := hg
        refine (Any.strconv_Atoi_range Tryd.laysAtoi s hlim hcase e1 w h1 h1').mono ?_
        rintro x w' ⟨N, rfl, _, _, hb⟩
        exact ⟨⟨_, rfl, fun I => by simp only [VR]; exact ⟨_, rfl, trivial⟩⟩, hb⟩
    · cases hy
  · cases hr

/-- strconv.Itoa. -/
def itoaF (n : Int) : Option ByteArray := if -9223372036854775808 ≤ n ∧ n ≤ 9223372036854775807 then some ⟨(Lib.itoa n).toArray⟩ else none
theorem itoa_at : Tryd.prog.funcs[57]? = some Tryd.f57 := by kernel_rfl
theorem itoa_ok : EntryOk Tryd.prog gl ⟨57, pcT (.pair (.int .i64) .unit) (.one .str) (fun xs => itoaF xs.1), none, none⟩ := pcT_ok (enters_of (c := bodyOf Tryd.f57) itoa_at (by kernel_rfl) (by kernel_rfl)) fun xs y h => by
  refine ans_flat (args := [.int .i64 xs.1]) (v := .string y) (fun w hg hn => ?_)
  unfold itoaF at h
  split at h
  · rename_i hb
    cases h
    obtain ⟨_, _, t, fz, h3⟩ := hg
    refine (Any.strconv_Itoa Tryd.laysItoa xs.1 hb.1 hb.2 w (tabIs_of (q := 5) (by kernel_rfl) h3)).mono ?_
    rintro e w' ⟨rfl, k, os, rfl⟩
    exact ⟨rfl, Lib.below_grow _ w (Nat.le_refl _) k os⟩
  · cases h
end Go.Proofs.YthmhobnhladhbaaDoor.AM
