/- The abstract machine, part 24: slices.Clone answers live memory. -/
import Derived.Test.YtddefjokgaajfaaGreatDoorYB2
import Derived.Shelf.SlicesE.Clone
import Derived.Test.YtddefjokgaajfaaGreatDoorYA
import Derived.Shelf.Strings.IndexAnyAll
import Derived.Shelf.Small.Utf8
import Derived.Laws.RangeAny
import Derived.WalkMore
import Derived.Lib.OthersKept
import Derived.Shelf.RegionOpenPlain
import Derived.Shelf.RegionOpen
import Derived.Test.YtddefjokgaajfaaGreatDoorYL
import Derived.Test.YtddefjokgaajfaaGreatDoorYT
import Derived.Test.YtddefjokgaajfaaGreatDoorYS
import Derived.Shelf.Strings.Search2
set_option linter.all false
set_option linter.unusedVariables false
set_option linter.unusedSimpArgs false
namespace Go.Proofs.YtddefjokgaajfaaGreatDoor.AM
open Go Go.RowKit Go.Shelf
variable {P:Program} {ρ:Ren} {g:Glob}
set_option maxHeartbeats 1000000 in
theorem vY (L:SlLaysE0.n41 P ρ) (i0:TypeInfo) (z:Value) (size bytes:Nat) (hi:P.info? (ρ.t 23)=some i0) (hz0:i0.zero=some z) (hz1:i0.size=size) (hz2:i0.bytes=bytes) (hzs:z.cells.size=size) (hsz:0<size)
  (z23:∀ w,(Go.sizeOf (ρ.t 23)).run P w=.ok size w) (a:Addr) (c:Nat) (w:World):
  Calls P (ρ.f 41) #[.slice (some a) 0 c] w fun e w'=>∃ v',e=.returned v'∧w'.ownsRow w.heap.size (ρ.t 23) size v' 0 []∧Below w.heap.size w w':=by
 have mixed:=L.mixed;have t4:=L.t4;have a4:=L.a4;have z4:=L.z4;have v4:=L.v4;have t22:=L.t22;have a22:=L.a22;have z22:=L.z22;have v22:=L.v22
 have q22:∀ (w:World) (a:Option Addr) (n c n' c':Nat),(binOp .eql (ρ.t 22) (.slice a n c) (.slice none n' c')).run P w=.ok (.bool a.isNone) w:=fun w a n c n' c'=>Lib.run_eql_slice_nil w _ _ a n c n' c' L.t22
 have u22:∀ w,Sem.run P (underlying (ρ.t 22)) w=.ok (TypeDesc.slice (ρ.t 23)) w:=run_underlying t22
 obtain ⟨_,_,FG⟩:=L.f41
 go_enter FG,SlBodyN.n41_ntmps ρ
 go_wp2_with (at_builtin;refine wpList_append_own _ rfl _ _ (ρ.t 22) rfl w.heap.size (ρ.t 23) i0 z size bytes t22 hi hz0 hz1 hz2 hzs hsz _ _ _ rfl (World.ownsRow_made w #[] 0 (Nat.le_refl _) (Nat.zero_le _) (by simp)) a 0 c [] rfl ?qc1 ?qc2 ?qc3 ?qc4 ?qc5 ?qc6 ?_)
 case qc1=>simp
 case qc2=>
  intro j u hj
  simp at hj
 case qc3=>simp
 case qc4=>rw [Nat.zero_add];exact Nat.zero_le _
 case qc5=>rw [Nat.zero_add,Nat.zero_mul];exact Nat.zero_le _
 case qc6=>simp
 intro v' w1 hown hgrow hnil
 go_wp2
 go_ret
 refine ⟨v',rfl,by simpa using hown,?_⟩
 exact ((Below.refl _ w).alloc (Nat.le_refl _) _).grown hgrow (by simp) (by intro k hk;simp [Value.ownBlock] at hk;omega)
def Ay (e:TypeId) (τ:CTy) (y:Sq (El τ)×Unit):OutS:=⟨false,[.top],.sl 0 y.1.n,[some ⟨e,τ.size,y.1.n,.typ τ y.1.at',true,true,false,true⟩]⟩
def zy {T:Type} (b:Nat) (x:Sq T):Option (Sq T×Unit):=if x.n*b≤140737488355328 then some (x,()) else none
theorem eX {w:World} {I:Nat→Prop} {m:Nat→Info} {a:Addr}:∀ (o:Nat) (l:List AV),CR w I m a o l→∀ (j:Nat) (x:AV),l[j]?=some x→∃ v,w.cell? (a.add (o+j))=some v∧VR w I m Fb x v∧v.oneCell'=true
 | o,[],_,j,x,h=>by simp at h
 | o,y::l,hc,j,x,h=>by
  simp only [CR] at hc
  cases j with
  | zero=>
   simp only [List.getElem?_cons_zero,Option.some.injEq] at h
   subst h
   obtain ⟨v,h1,h2,h3⟩:=hc.1
   exact ⟨v,by simpa using h1,h2,h3⟩
  | succ j=>
   obtain ⟨v,h1,h2,h3⟩:=eX (o+1) l hc.2 j x (by simpa using h)
   exact ⟨v,by rw [show o+(j+1)=o+1+j by omega];exact h1,h2,h3⟩
theorem SZ (L:SlLaysE0.n41 P ρ) {e:TypeId} {f:FuncId} (he:ρ.t 23=e) (hf:ρ.f 41=f) (τ:CTy) (i0:TypeInfo) (z:Value) (bytes:Nat) (hi:P.info? e=some i0) (hz0:i0.zero=some z) (hz1:i0.size=τ.size) (hz2:i0.bytes=bytes) (hzs:z.cells.size=τ.size) (hsz:0<τ.size) (hby:0<bytes)
  (z23:∀ w,(Go.sizeOf e).run P w=.ok τ.size w) (x:Sq (El τ)) (hx:x.n*bytes≤140737488355328):uZ P g f [.snap τ x.n x.at'] [] (Ay e τ (x,())):=by
 subst he hf
 intro gs B E vs hS hH hargs
 obtain ⟨v,rfl⟩:∃ v,vs=[v]:=by
  rcases vs with _ | ⟨v,_ | ⟨v2,vs⟩⟩
  · simp [Env.L,LR] at hargs
  · exact ⟨v,rfl⟩
  · simp [Env.L,LR] at hargs
 simp only [Env.L,LR] at hargs
 have hv:=hargs.1
 rw [mr] at hv
 obtain ⟨A,c,rfl,hnc,hA⟩:=hv
 have hxn:x.n≤maxLen:=by
  have:=Nat.le_mul_of_pos_right x.n hby
  show x.n≤9223372036854775807
  omega
 have fin:∀ (news:List Value),(∀ (i:Nat),i<x.n→∀ (j:Nat) (y:AV),(cel τ (x.at' i))[j]?=some y→∃ u,news[i*τ.size+j]?=some u∧VR E.w E.I E.m Fb y u∧u.oneCell'=true)→
   (Calls P (ρ.f 41) #[.slice A x.n c] E.w fun e w'=>∃ v',e=.returned v'∧w'.ownsRow E.w.heap.size (ρ.t 23) τ.size v' x.n news∧Below E.w.heap.size E.w w')→
   Calls P (ρ.f 41) #[.slice A x.n c] E.w fun e w'=>∃ v E',e=cnd (Ay (ρ.t 23) τ (x,())).pan (.panicked [{ v,recovered:=false }]) (.returned v)∧E'.w=w'∧St { g with gs:=gs } B E.w E.I E'∧E'.H=(Ay (ρ.t 23) τ (x,())).H∧E'.L (Ay (ρ.t 23) τ (x,())).ga [.slice A x.n c]∧E'.V (Ay (ρ.t 23) τ (x,())).v v:=fun news hnews hc=>by
  refine hc.mono fun e1 w' ⟨v',h1,h2,hb⟩=>?_
  obtain ⟨s1,x1⟩:=hS.grow hb (fun _ h=>h) (fun _ h=>.inl h) (fun b h=>Nat.lt_of_lt_of_le (hS.isz b h) hb.size)
  obtain ⟨hlen,hown⟩:=h2
  have isv:∀ (m:Nat→Info),m 0=⟨0,0,false,[]⟩→x.n=0→v'=.slice none 0 0→VR w' E.I m (tab [some ⟨ρ.t 23,τ.size,x.n,Els.typ τ x.at',true,true,false,true⟩]) (.sl 0 x.n) v':=fun m hm h0 hv'=>by
   simp only [VR]
   refine ⟨⟨τ.size,by simp [tab]⟩,?_⟩
   rw [hm,if_neg (by simp)]
   exact ⟨⟨none,hv',fun _=>rfl⟩,h0⟩
  rcases hown with ⟨hv',h0⟩ | ⟨gb,cap,cur,hv',hge,hblk,hncap,hcap,hsize,htake⟩
  · obtain ⟨s2,_⟩:=s1.ghostC (W:=⟨ρ.t 23,τ.size,x.n,Els.typ τ x.at',true,true,false,true⟩) [] 0 (fun h=>rfl) h0 rfl rfl (fun l _ hp=>(by cases hp)) (fun _ hp=>(by cases hp))
    refine ⟨v',_,by rw [h1];rfl,rfl,s2,?_,by simp [Ay,Env.L,LR,VR],?_⟩
    · show E.H++_=_
      rw [hH];rfl
    · show VR w' E.I (upd E.m E.H.length ⟨0,0,false,[]⟩) (tab (E.H++[some ⟨ρ.t 23,τ.size,x.n,Els.typ τ x.at',true,true,false,true⟩])) (.sl 0 x.n) v'
      rw [hH]
      exact isv _ (by simp [upd]) h0 hv'
  · have hrow:∀ r W,([some ⟨ρ.t 23,τ.size,x.n,Els.typ τ x.at',true,true,false,true⟩]:ia)[r]?=some (some W)→r=0∧W=⟨ρ.t 23,τ.size,x.n,Els.typ τ x.at',true,true,false,true⟩:=fun r W h=>by
     cases r with
     | zero=>simp at h;exact ⟨rfl,h.symm⟩
     | succ r=>simp at h
    refine ⟨v',{ w:=w',I:=E.I,m:=upd E.m 0 ⟨gb,cap,true,[]⟩,H:=[some ⟨ρ.t 23,τ.size,x.n,Els.typ τ x.at',true,true,false,true⟩] },by rw [h1];rfl,rfl,?_,rfl,by simp [Ay,Env.L,LR,VR],?_⟩
    · refine ⟨s1.below,s1.hB,s1.hn,s1.gn,s1.glob,s1.isz,s1.imono,s1.ifresh,fun r W hW=>?_,fun r r' W W' hW hW' _ _ _=>by rw [(hrow r W hW).1,(hrow r' W' hW').1],fun r W hW hk=>?_⟩
      · obtain ⟨rfl,rfl⟩:=hrow r W hW
        refine ⟨fun _=>by simp [upd],fun i hi=>tF _ _,fun h=>(by cases h),fun l h0=>absurd h0 (by show τ.size≠0;omega),fun _=>?_,fun h=>(by cases h)⟩
        simp only [Oc]
        refine ⟨fun hBg=>absurd (hS.base _ hBg) (by omega),fun hI=>absurd (hS.isz _ hI) (by omega),hncap,cur,(0,0),hblk,hsize,.inr (Nat.le_refl _),fun _=>rfl,fun i hi j y hy=>?_⟩
        obtain ⟨u,k1,k2,k3⟩:=hnews i hi j y hy
        have hj:j<τ.size:=by have:=(List.getElem?_eq_some_iff.1 hy).1;rw [show (Row.els ⟨ρ.t 23,τ.size,x.n,Els.typ τ x.at',true,true,false,true⟩ i)=cel τ (x.at' i) from rfl,tF] at this;exact this
        have hlt:i*τ.size+j<x.n*τ.size:=by
         have:=Nat.mul_le_mul_right τ.size (show i+1≤x.n by exact hi)
         rw [Nat.succ_mul] at this;omega
        refine ⟨u,?_,?_,k3⟩
        · rw [←htake,List.getElem?_take,if_pos hlt,Array.getElem?_toList] at k1
          exact k1
        · show VR _ _ _ (dt _ _) _ _
          unfold dt
          rw [if_pos rfl]
          exact VR.mono (fun _=>true) (fun b hb=>⟨hb,(x1.i b hb).2⟩) y Fb Fb u (fun r p hp _=>by simp [Fb] at hp) (.inl rfl) k2
      · have:=(hrow r W hW).2
        subst this
        exact absurd hk (by show τ.size≠0;omega)
    · show VR _ _ _ _ _ _
      simp only [Ay,VR]
      refine ⟨⟨τ.size,by simp [tab]⟩,?_⟩
      rw [Oc,if_pos rfl]
      exact ⟨cap,hv',hncap,Nat.le_refl _⟩
 rcases Nat.eq_zero_or_pos x.n with h0 | h0
 · refine fin [] (fun i hi=>by omega) ?_
   rw [h0]
   cases A with
   | none=>exact (AnyE.slices_Clone_nil L 0 c E.w).mono fun e w' ⟨h1,h2⟩=>⟨_,h1,⟨by simp,.inl ⟨rfl,rfl⟩⟩,h2▸Below.refl _ _⟩
   | some a=>exact vY L i0 z τ.size bytes hi hz0 hz1 hz2 hzs hsz z23 a c E.w
 · obtain ⟨a,rfl,hsp,hI,hcells⟩:=hA h0
   obtain ⟨bk,off,sp⟩:=a
   simp only at hsp
   subst hsp
   have one:∀ i,i<x.n→∀ j,j<τ.size→∃ u,E.w.cell? ⟨bk,off+(i*τ.size+j),none⟩=some u∧(∀ y,(cel τ (x.at' i))[j]?=some y→VR E.w E.I E.m Fb y u)∧u.oneCell'=true:=fun i hi j hj=>by
    have hl:=(hcells i hi).1
    obtain ⟨u,c1,c2,c3⟩:=eX _ _ (hcells i hi).2 j _ (List.getElem?_eq_getElem (by rw [hl];exact hj))
    refine ⟨u,by rw [nr] at c1;exact c1,fun y hy=>?_,c3⟩
    rw [List.getElem?_eq_getElem (by rw [hl];exact hj)] at hy
    cases hy;exact c2
   have ex:∀ m,m<x.n*τ.size→∃ u,E.w.cell? ⟨bk,off+m,none⟩=some u∧u.oneCell'=true:=fun m hm=>by
    have h1:m / τ.size<x.n:=Nat.div_lt_of_lt_mul (by rw [Nat.mul_comm];exact hm)
    obtain ⟨u,c1,_,c3⟩:=one (m / τ.size) h1 (m%τ.size) (Nat.mod_lt _ hsz)
    refine ⟨u,?_,c3⟩
    rw [show m / τ.size*τ.size+m%τ.size=m by rw [Nat.mul_comm];exact Nat.div_add_mod m τ.size] at c1
    exact c1
   have hget:∀ m,m<x.n*τ.size→E.w.cell? ⟨bk,off+m,none⟩=some ((E.w.cell? ⟨bk,off+m,none⟩).getD .nilIface):=fun m hm=>by obtain ⟨u,c1,_⟩:=ex m hm;rw [c1];rfl
   refine fin ((List.range (x.n*τ.size)).map fun m=>(E.w.cell? ⟨bk,off+m,none⟩).getD .nilIface) (fun i hi j y hy=>?_) ?_
   · have hj:j<τ.size:=by have:=(List.getElem?_eq_some_iff.1 hy).1;rwa [tF] at this
     have hlt:i*τ.size+j<x.n*τ.size:=by
      have:=Nat.mul_le_mul_right τ.size (show i+1≤x.n by exact hi)
      rw [Nat.succ_mul] at this;omega
     obtain ⟨u,c1,c2,c3⟩:=one i hi j hj
     refine ⟨u,?_,c2 y hy,c3⟩
     rw [List.getElem?_map,List.getElem?_range hlt]
     simp [c1]
   · refine (AnyE.slices_Clone L i0 z τ.size bytes hi hz0 hz1 hz2 hzs hsz z23 bk off x.n c _ E.w (by simp) hxn hx (fun j u hj=>?_) (fun u hu=>?_)).mono fun e w' ⟨v',h1,h2,_,h4⟩=>⟨v',h1,h2,h4⟩
     · have hlt:j<x.n*τ.size:=by have:=(List.getElem?_eq_some_iff.1 hj).1;simpa using this
       rw [List.getElem?_map,List.getElem?_range hlt] at hj
       simp only [Option.map_some,Option.some.injEq] at hj
       rw [hget j hlt,hj]
     · obtain ⟨m,hm,rfl⟩:=List.mem_map.1 hu
       obtain ⟨u,c1,c2⟩:=ex m (by simpa using hm)
       rw [c1];exact c2
theorem L4 (L:SlLaysE0.n41 P ρ) {e:TypeId} {f:FuncId} (he:ρ.t 23=e) (hf:ρ.f 41=f) (hen:Enters P f) (τ:CTy) (i0:TypeInfo) (z:Value) (bytes:Nat) (hi:P.info? e=some i0) (hz0:i0.zero=some z) (hz1:i0.size=τ.size) (hz2:i0.bytes=bytes) (hzs:z.cells.size=τ.size) (hsz:0<τ.size) (hby:0<bytes)
  (z23:∀ w,(Go.sizeOf e).run P w=.ok τ.size w):EntryOk P g ⟨f,gf,none,some (csT [.one (.dat (.sl τ))] [] (fun σ ρ=>zy bytes σ.1.1) (Ay e τ))⟩:=
 Sc hen fun σ ρ y h=>by
  unfold zy at h
  split at h
  · rename_i hb
    cases h
    exact SZ L he hf τ i0 z bytes hi hz0 hz1 hz2 hzs hsz hby z23 σ.1.1 hb
  · cases h
theorem lT (L:SlLaysE0.n41 P ρ) {e:TypeId} {f:FuncId} (he:ρ.t 23=e) (hf:ρ.f 41=f) (hen:Enters P f) (τ:CTy) {y:Ty} (hT:TyOk P e y) (hs:y.size=τ.size) (hzs:y.zero.cells.size=τ.size) (hsz:0<τ.size) (hby:0<y.bytes):
  EntryOk P g ⟨f,gf,none,some (csT [.one (.dat (.sl τ))] [] (fun σ ρ=>zy y.bytes σ.1.1) (Ay e τ))⟩:=by
 obtain ⟨i0,h1,h2,h3,h4⟩:=hT.info
 exact L4 L he hf hen τ i0 y.zero y.bytes h1 h2 (h3.trans hs) h4 hzs hsz hby (fun w=>by rw [←hs];exact nc hT w)
end Go.Proofs.YtddefjokgaajfaaGreatDoor.AM
namespace Go.Proofs.YtddefjokgaajfaaGreatDoor.AM
open Go Go.RowKit Go.Shelf Go.Lib
variable {P:Program} {ρ:Ren}
end Go.Proofs.YtddefjokgaajfaaGreatDoor.AM
set_option maxRecDepth 1000000
namespace Go.Proofs.YtddefjokgaajfaaGreatDoor.AM
open Go Go.RowKit Go.Shelf
theorem qy:Tryz.prog.funcs[32]?=some Tryz.f32:=by kernel_rfl
def om:Entry:=⟨32,gf,none,some (csT [.one (.dat (.sl (.int .i64)))] [] (fun σ ρ=>zy 8 σ.1.1) (Ay 3 (.int .i64)))⟩
theorem ry:EntryOk Tryz.prog gl om:=lT Tryz.laysClone32 (by kernel_rfl) (by kernel_rfl) (enters_of (c:=aa Tryz.f32) qy (by kernel_rfl) (by kernel_rfl)) (.int .i64) N6 (by kernel_rfl) (by kernel_rfl) (of_decide_eq_true (by kernel_rfl)) (of_decide_eq_true (by kernel_rfl))
theorem jp:Tryz.prog.funcs[38]?=some Tryz.f38:=by kernel_rfl
def qh:Entry:=⟨38,gf,none,some (csT [.one (.dat (.sl .str))] [] (fun σ ρ=>zy 16 σ.1.1) (Ay 9 .str))⟩
theorem lp:EntryOk Tryz.prog gl qh:=lT Tryz.laysClone38 (by kernel_rfl) (by kernel_rfl) (enters_of (c:=aa Tryz.f38) jp (by kernel_rfl) (by kernel_rfl)) .str O6 (by kernel_rfl) (by kernel_rfl) (of_decide_eq_true (by kernel_rfl)) (of_decide_eq_true (by kernel_rfl))
end Go.Proofs.YtddefjokgaajfaaGreatDoor.AM
namespace Go.Proofs.YtddefjokgaajfaaGreatDoor.AM
open Go Go.RowKit Go.Shelf
def zZ:List UInt8→List UInt8→Int→Int
 | [],sub,k=>if sub.isEmpty=true then k else -1
 | b::l,sub,k=>if sub.isPrefixOf (b::l)=true then k else zZ l sub (k+1)
theorem JT:∀ (l sub:List UInt8) (k:Int),zZ l sub k=if Lib.index l sub= -1 then -1 else Lib.index l sub+k
 | [],sub,k=>by
  unfold zZ Lib.index
  cases sub with
  | nil=>simp
  | cons a t=>simp
 | b::l,sub,k=>by
  have ih:=JT l sub (k+1)
  have hg:=Lib.index_ge l sub
  unfold zZ Lib.index
  cases hp:sub.isPrefixOf (b::l) with
  | true=>simp
  | false=>
   simp only [Bool.false_eq_true,if_false]
   rw [ih]
   by_cases h:Lib.index l sub= -1
   · rw [h];simp
   · have hb:(Lib.index l sub== -1)=false:=by simpa using h
     simp only [hb,Bool.false_eq_true,if_false,if_neg h]
     rw [if_neg (by omega)];omega
def DE (s sub:BA):Option Int:=if s.size<4294967281 then some (zZ s.data.toList sub.data.toList 0) else none
theorem O0:Tryz.prog.funcs[118]?=some Tryz.f118:=by kernel_rfl
theorem P0:EntryOk Tryz.prog gl ⟨118,pcT (.pair .str (.pair .str .unit)) (.one (.int .i64)) (fun xs=>DE xs.1 xs.2.1),none,none⟩:=Qa (enters_of (c:=aa Tryz.f118) O0 (by kernel_rfl) (by kernel_rfl)) fun xs y h=>by
 refine ZQ (args:=[.string xs.1,.string xs.2.1]) (v:=.int .i64 y) (fun w hg hn=>?_)
 unfold DE at h
 split at h
 · rename_i hs
   cases h
   obtain ⟨_,_,_,m,hm⟩:=hg
   refine (Any.stringslite_Index Tryz.laysIndex xs.1 xs.2.1 m w hs hm).mono ?_
   rintro e w' ⟨rfl,rfl⟩
   refine ⟨?_,Below.refl _ _⟩
   rw [JT]
   split
   · rename_i h1;rw [h1]
   · rw [Int.add_zero]
 · cases h
end Go.Proofs.YtddefjokgaajfaaGreatDoor.AM
