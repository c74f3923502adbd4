/- The abstract machine, part 20: functions of the library that have no body. -/
import Derived.Test.YthmhobnhladhbaaDoorAm19
import Derived.Lib.Bytealg
import Derived.Laws.Externs
namespace Go.Proofs.YthmhobnhladhbaaDoor.AM
open Go Go.RowKit

def xIndexByte : List Value → Option Value
  | [.string s, .int .u8 c] => some (.int .i64 (Lib.indexByte s.data.toList c.toNat.toUInt8))
  | _ => none
def xCount : List Value → Option Value
  | [.string s, .int .u8 c] => some (.int .i64 (Lib.countByte s.data.toList c.toNat.toUInt8 : Int))
  | _ => none
theorem ext_entry {P : Program} {g : Glob} {f : FuncId} {fn : Func} {e : Array Value → Sem Value} {x : List Value → Option Value} (hf : P.funcs[f]? = some fn) (hname : (fn.name == "runtime.NumGoroutine") = false)
    (hb : fn.body.isNone = true) (hn : Extern.findNext fn = none) (he : Extern.find fn = some e) (h : ∀ vs v w, x vs = some v → (e vs.toArray).run P w = .ok v w) : EntryOk P g ⟨f, noPc, some (.flat x), none⟩ :=
  ⟨fun h => (by cases h), fun x' vs v hx hv w => by
    cases hx
    rw [run_callFunc_extern hf hname hb hn he, h vs v w hv]
    rfl, fun h => (by cases h), fun _ h => (by cases h), fun h => (by cases h)⟩
theorem noEscape_entry {P : Program} {g : Glob} {f : FuncId} {fn : Func} (hf : P.funcs[f]? = some fn) (hname : (fn.name == "runtime.NumGoroutine") = false)
    (hb : fn.body.isNone = true) (hn : Extern.findNext fn = none) (he : Extern.find fn = some Extern.AbiNoEscape.same) : EntryOk P g ⟨f, noPc, some .ident, none⟩ :=
  ⟨fun h => (by cases h), fun _ _ _ h => (by cases h), fun _ x w => by
    rw [run_callFunc_extern hf hname hb hn he, Lib.run_noEscape]
    rfl, fun _ h => (by cases h), fun h => (by cases h)⟩
theorem indexByte_entry {P : Program} {g : Glob} {f : FuncId} {fn : Func} (hf : P.funcs[f]? = some fn) (hname : (fn.name == "runtime.NumGoroutine") = false)
    (hb : fn.body.isNone = true) (hn : Extern.findNext fn = none) (he : Extern.find fn = some Extern.BytealgIndexByte.indexByte) : EntryOk P g ⟨f, noPc, some (.flat xIndexByte), none⟩ :=
  ext_entry hf hname hb hn he fun vs v w h => by
    unfold xIndexByte at h
    split at h
    · cases h
      exact Lib.run_indexByteString _ _ _
    · cases h
theorem count_entry {P : Program} {g : Glob} {f : FuncId} {fn : Func} (hf : P.funcs[f]? = some fn) (hname : (fn.name == "runtime.NumGoroutine") = false)
    (hb : fn.body.isNone = true) (hn : Extern.findNext fn = none) (he : Extern.find fn = some Extern.BytealgCount.count) : EntryOk P g ⟨f, noPc, some (.flat xCount), none⟩ :=
  ext_entry hf hname hb hn he fun vs v w h => by
    unfold xCount at h
    split at h
    · cases h
      exact Lib.run_countString _ _ _
    · cases h
end Go.Proofs.YthmhobnhladhbaaDoor.AM
