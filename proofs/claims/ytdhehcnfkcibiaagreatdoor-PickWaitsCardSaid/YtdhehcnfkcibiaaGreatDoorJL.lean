/- strconv.Atoi and strconv.Itoa by the contracts of the shelf; what the variables hold that they read. -/
import Derived.Test.YtdhehcnfkcibiaaGreatDoorJS
import Derived.Lib.AtoiErrMem
import Derived.Lib.AppendIntMem
import Derived.Test.YtdhehcnfkcibiaaGreatDoorJB
set_option linter.all false
set_option linter.unusedVariables false
set_option linter.unusedSimpArgs false
namespace Go.Proofs.YtdhehcnfkcibiaaGreatDoor.AM
open Go Go.RowKit Go.Shelf
def rT (v:Value):Prop:=v=.nilIface∨∃ te pe,v=.iface te pe
def zV (w:World):Prop:=(∃ ev,w.cell? ⟨2,0,none⟩=some ev∧rT ev)∧(∃ ev,w.cell? ⟨3,0,none⟩=some ev∧rT ev)∧(∃ t fz,w.heap[6]?=some (.cells (Lib.pow10Tab.map fun z=>Value.int .u64 z).toArray t fz))∧∃ m,w.cell? ⟨1,0,none⟩=some (.int .i64 m)
theorem UM (w w':World) (h:Below 7 w w') (hg:zV w):zV w':=by
 obtain ⟨⟨e1,h1,h1'⟩,⟨e2,h2,h2'⟩,⟨t,fz,h3⟩,m,h4⟩:=hg
 exact ⟨⟨e1,(World.cell?_of_block (a:=⟨2,0,none⟩) (h.block 2 (by decide))).trans h1,h1'⟩,⟨e2,(World.cell?_of_block (a:=⟨3,0,none⟩) (h.block 3 (by decide))).trans h2,h2'⟩,⟨t,fz,(h.block 6 (by decide)).trans h3⟩,m,(World.cell?_of_block (a:=⟨1,0,none⟩) (h.block 1 (by decide))).trans h4⟩
def gl:Glob:=⟨zV,7,UM,[]⟩
theorem nN {P:Program} {w:World} {name:String} {k:IntKind} {zs:List Int} {q:Nat} {t:TypeId} {fz:Nat×Nat} (hq:P.globalNamed name=some q) (h:w.heap[q]?=some (.cells (zs.map fun z=>Value.int k z).toArray t fz)):Lib.TabIs P w name k zs:=by
 unfold Lib.TabIs World.var?
 rw [hq,Option.bind_some,h]
def PO (s:BA):Option (Int×Bool):=if s.size≤281474976710656 then some (match Lib.atoiAll s.data.toList with
 | .ok v=>(v,true)
 | .range=>(Lib.atoiSat s.data.toList,false)
 | _=>(0,false)) else none
def tK (t:TypeId) {R:Type} (args:List AV) (kk pk:AV→Option R):Option R:=match args with
 | [.b (.string s)]=>(PO s).bind fun y=>if y.2=true then kk (.tup [.b (.int .i64 y.1),.b .nilIface]) else kk (.tup [.b (.int .i64 y.1),.ifc t .top])
 | _=>none
theorem TI {P:Program} {g:Glob} {f:FuncId} {s:BA} {n:Int} {e:AV} (h:∀ w,g.G w→g.n≤w.heap.size→Calls P f #[.string s] w fun x w'=>(∃ v,x=.returned (.tuple #[.int .i64 n,v])∧∀ I,VR w' I Kn Ya e v)∧Below w.heap.size w w'):
  Ans P g f [.b (.string s)] (.ret (.tup [.b (.int .i64 n),e])):=by
 intro w I vs hI hg hn hargs
 have hvs:vs=[.string s]:=by
  cases vs with
  | nil=>simp [LR] at hargs
  | cons u us=>cases us with
   | nil=>simp only [LR,VR] at hargs;rw [hargs.1]
   | cons _ _=>simp [LR] at hargs
 subst hvs
 refine (h w hg hn).mono ?_
 rintro x w' ⟨⟨v,rfl,hv⟩,hb⟩
 refine ⟨_,I,rfl,hb,fun _ h=>h,fun _ h=>.inl h,fun b h=>Nat.lt_of_lt_of_le (hI b h) hb.size,?_⟩
 simp only [Out.av,VR]
 exact ⟨_,rfl,by simp only [LR,VR];exact ⟨trivial,hv I,trivial⟩⟩
theorem QO:Tryz.prog.funcs[196]?=some Tryz.f196:=by kernel_rfl
theorem ML:EntryOk Tryz.prog gl ⟨196,fun {R}=>tK (R:=R) 260,none,none⟩:=by
 refine ⟨fun _=>enters_of (c:=aa Tryz.f196) QO (by kernel_rfl) (by kernel_rfl),fun _ _ _ h=>(by cases h),fun h=>(by cases h),fun _ h=>(by cases h),fun _ _ R args kk pk r hr=>?_⟩
 simp only [tK] at hr
 split at hr
 · rename_i s
   obtain ⟨y,hy,hr⟩:=Option.bind_eq_some_iff.1 hr
   unfold PO at hy
   split at hy
   · rename_i hlim
     cases hy
     rcases hcase:Lib.atoiAll s.data.toList with v | _ | _
     · rw [hcase] at hr
       refine .inl ⟨_,hr,rfl,TI fun w hg hn=>(Any.strconv_Atoi_ok Tryz.laysAtoi s (by omega) v hcase w).mono ?_⟩
       rintro x w' ⟨rfl,hw⟩
       refine ⟨⟨_,rfl,fun I=>by simp only [VR]⟩,?_⟩
       rcases hw with rfl | ⟨t,rfl⟩
       · exact Below.refl _ _
       · exact Lib.bytesWorld_below _ _ _
     · rw [hcase] at hr
       refine .inl ⟨_,hr,rfl,TI fun w hg hn=>?_⟩
       obtain ⟨⟨e1,h1,h1'⟩,_⟩:=hg
       refine (Any.strconv_Atoi_syntax Tryz.laysAtoi s hlim hcase e1 w h1 h1').mono ?_
       rintro x w' ⟨N,rfl,_,_,hb⟩
       exact ⟨⟨_,rfl,fun I=>by simp only [VR];exact ⟨_,rfl,trivial⟩⟩,hb⟩
     · rw [hcase] at hr
       refine .inl ⟨_,hr,rfl,TI fun w hg hn=>?_⟩
       obtain ⟨_,⟨e1,h1,h1'⟩,_⟩:=hg
       refine (Any.strconv_Atoi_range Tryz.laysAtoi s hlim hcase e1 w h1 h1').mono ?_
       rintro x w' ⟨N,rfl,_,_,hb⟩
       exact ⟨⟨_,rfl,fun I=>by simp only [VR];exact ⟨_,rfl,trivial⟩⟩,hb⟩
   · cases hy
 · cases hr
def iL (n:Int):Option BA:=if -9223372036854775808≤n∧n≤9223372036854775807 then some ⟨(Lib.itoa n).toArray⟩ else none
theorem lP:Tryz.prog.funcs[157]?=some Tryz.f157:=by kernel_rfl
theorem gM:EntryOk Tryz.prog gl ⟨157,RV (.pair (.int .i64) .unit) (.one .str) (fun xs=>iL xs.1),none,none⟩:=Ha (enters_of (c:=aa Tryz.f157) lP (by kernel_rfl) (by kernel_rfl)) fun xs y h=>by
 refine Qw (args:=[.int .i64 xs.1]) (v:=.string y) (fun w hg hn=>?_)
 unfold iL at h
 split at h
 · rename_i hb
   cases h
   obtain ⟨_,_,⟨t,fz,h3⟩,_⟩:=hg
   refine (Any.strconv_Itoa Tryz.laysItoa xs.1 hb.1 hb.2 w (nN (q:=6) (by kernel_rfl) h3)).mono ?_
   rintro e w' ⟨rfl,k,os,rfl⟩
   exact ⟨rfl,Lib.below_grow _ w (Nat.le_refl _) k os⟩
 · cases h
end Go.Proofs.YtdhehcnfkcibiaaGreatDoor.AM
