/- The abstract machine, part 24: slices.Clone answers live memory. -/
import Derived.Test.YtdhehcnfkcibiaaGreatDoorJB2
import Derived.Shelf.SlicesE.Clone
import Derived.Test.YtdhehcnfkcibiaaGreatDoorJA
import Derived.Shelf.Strings.IndexAnyAll
import Derived.Shelf.Small.Utf8
import Derived.Laws.RangeAny
import Derived.WalkMore
import Derived.Lib.OthersKept
import Derived.Shelf.RegionOpenPlain
import Derived.Shelf.RegionOpen
import Derived.Test.YtdhehcnfkcibiaaGreatDoorJL
import Derived.Test.YtdhehcnfkcibiaaGreatDoorJT
import Derived.Test.YtdhehcnfkcibiaaGreatDoorJS
import Derived.Shelf.Strings.Search2
import Derived.Shelf.Small.Strs
set_option linter.all false
set_option linter.unusedVariables false
set_option linter.unusedSimpArgs false
namespace Go.Proofs.YtdhehcnfkcibiaaGreatDoor.AM
open Go Go.RowKit Go.Shelf
variable {P:Program} {ρ:Ren} {g:Glob}
end Go.Proofs.YtdhehcnfkcibiaaGreatDoor.AM
namespace Go.Proofs.YtdhehcnfkcibiaaGreatDoor.AM
open Go Go.RowKit Go.Shelf Go.Lib
variable {P:Program} {ρ:Ren}
theorem QQ (s:BA) (pos:Nat) (h:pos<s.size) (ha:128≤(s[pos]'h).toNat):
  128≤(Utf8.decode s pos).1∧1≤(Utf8.decode s pos).2∧pos+(Utf8.decode s pos).2≤s.size∧∀ k,k<(Utf8.decode s pos).2→128≤(s.get! (pos+k)).toNat:=by
 have hn:¬(s[pos]'h).toNat<128:=by omega
 obtain ⟨h1,h2⟩:=decode_high s pos h ha
 refine ⟨h1,h2,?_⟩
 have g0:(s.get! (pos+0)).toNat=(s[pos]'h).toNat:=by rw [get_at s pos h]
 have k0:∀ k,k<1→128≤(s.get! (pos+k)).toNat:=fun k hk=>by
  obtain rfl:k=0:=by omega
  rw [g0];exact ha
 have c:∀ j,(decide (pos+j<s.size)&&(s.get! (pos+j)).toNat / 64==2)=true→pos+j<s.size∧128≤(s.get! (pos+j)).toNat:=fun j hj=>by
  simp only [Bool.and_eq_true,decide_eq_true_eq,beq_iff_eq] at hj
  exact ⟨hj.1,by omega⟩
 unfold Utf8.decode
 simp only [g0,hn,if_false]
 split
 · rename_i hc
   simp only [Bool.and_eq_true,decide_eq_true_eq,beq_iff_eq] at hc
   have e1:=c 1 (by simp only [Bool.and_eq_true,decide_eq_true_eq,beq_iff_eq];exact hc.2)
   split
   · refine ⟨by show pos+2≤_;omega,fun k hk=>?_⟩
     have:k<2:=hk
     rcases (by omega:k=0∨k=1) with rfl | rfl
     · exact k0 0 (by omega)
     · exact e1.2
   · exact ⟨by show pos+1≤_;omega,k0⟩
 split
 · rename_i hc
   simp only [Bool.and_eq_true,decide_eq_true_eq,beq_iff_eq] at hc
   have e1:=c 1 (by simp only [Bool.and_eq_true,decide_eq_true_eq,beq_iff_eq];exact hc.1.2)
   have e2:=c 2 (by simp only [Bool.and_eq_true,decide_eq_true_eq,beq_iff_eq];exact hc.2)
   split
   · refine ⟨by show pos+3≤_;omega,fun k hk=>?_⟩
     have:k<3:=hk
     rcases (by omega:k=0∨k=1∨k=2) with rfl | rfl | rfl
     · exact k0 0 (by omega)
     · exact e1.2
     · exact e2.2
   · exact ⟨by show pos+1≤_;omega,k0⟩
 split
 · rename_i hc
   simp only [Bool.and_eq_true,decide_eq_true_eq,beq_iff_eq] at hc
   have e1:=c 1 (by simp only [Bool.and_eq_true,decide_eq_true_eq,beq_iff_eq];exact hc.1.1.2)
   have e2:=c 2 (by simp only [Bool.and_eq_true,decide_eq_true_eq,beq_iff_eq];exact hc.1.2)
   have e3:=c 3 (by simp only [Bool.and_eq_true,decide_eq_true_eq,beq_iff_eq];exact hc.2)
   split
   · refine ⟨by show pos+4≤_;omega,fun k hk=>?_⟩
     have:k<4:=hk
     rcases (by omega:k=0∨k=1∨k=2∨k=3) with rfl | rfl | rfl | rfl
     · exact k0 0 (by omega)
     · exact e1.2
     · exact e2.2
     · exact e3.2
   · exact ⟨by show pos+1≤_;omega,k0⟩
 · exact ⟨by show pos+1≤_;omega,k0⟩
theorem zU {B:Nat} {a w:World} (h:Below B a w) (n:Nat):Below B a (w.drewN n):=h.trans ⟨rfl,rfl,rfl,Nat.le_refl _,fun _ _=>rfl⟩
abbrev crlfS:BA:=⟨#[13,10]⟩
theorem TQ (r:Int) (h:128≤r):∃ (n:Nat) (x:UInt8),n≤2∧(Utf8.encode r).size=n+2∧(Utf8.encode r)[n+1]?=some x∧128≤x.toNat:=by
 have key:∀ c:Nat,128≤c→c=(if Utf8.valid r then r.toNat else Utf8.runeError)→∃ (n:Nat) (x:UInt8),n≤2∧(Utf8.encode r).size=n+2∧(Utf8.encode r)[n+1]?=some x∧128≤x.toNat:=fun c hc e=>by
  unfold Utf8.encode
  simp only [←e]
  rw [if_neg (by omega)]
  have hb:∀ m:Nat,128≤(UInt8.ofNat (128+m%64)).toNat:=fun m=>by
   rw [UInt8.toNat_ofNat']
   have:m%64<64:=Nat.mod_lt _ (by decide)
   omega
  split
  · exact ⟨0,_,by decide,rfl,rfl,hb _⟩
  split
  · exact ⟨1,_,by decide,rfl,rfl,hb _⟩
  · exact ⟨2,_,by decide,rfl,rfl,hb _⟩
 refine key _ ?_ rfl
 split
 · omega
 · decide
set_option maxHeartbeats 4000000 in
set_option maxRecDepth 1000000 in
theorem GF (L:Lays.n152 P ρ) (w:World):
  Calls P (ρ.f 152) #[.string crlfS,.int .i32 65533] w fun e w'=>e=.returned (.int .i64 (-1))∧Below w.heap.size w w':=by
 have mixed:=L.mixed
 have t3:=L.t3;have a3:=L.a3;have z3:=L.z3;have v3:=L.v3
 have t4:=L.t4;have a4:=L.a4;have z4:=L.z4;have v4:=L.v4
 have t5:=L.t5;have a5:=L.a5;have z5:=L.z5;have v5:=L.v5
 have t9:=L.t9;have a9:=L.a9;have z9:=L.z9;have v9:=L.v9
 have t21:=L.t21;have a21:=L.a21;have z21:=L.z21;have v21:=L.v21
 go_enter L.f152,Body.n152_ntmps ρ
 go_wp2
 go_loopg [5,6] 2 (fun g _ _ wx=>∃ i:Nat,i+g=2∧wx=w.iter crlfS i)
 case atStart=>exact ⟨0,by omega,rfl⟩
 case round=>
  obtain ⟨i,hig,rfl⟩:=hrel
  cases gk with
  | zero=>
   obtain rfl:i=2:=by omega
   have hnx:=run_next_end (P:=P) w crlfS 2
   go_wp2
   try rw [Exit.noGoto_ret]
   go_ret
   exact ⟨rfl,(Below.refl _ _).alloc (Nat.le_refl _) _⟩
  | succ g=>
   have hi:i<crlfS.size:=by show i<2;omega
   have hx:(crlfS[i]'hi).toNat<128∧((crlfS[i]'hi).toNat:Int)≠65533:=by
    have:i=0∨i=1:=by omega
    rcases this with rfl | rfl
    · exact ⟨show (13:UInt8).toNat<128 by decide,show (((13:UInt8).toNat:Nat):Int)≠65533 by decide⟩
    · exact ⟨show (10:UInt8).toNat<128 by decide,show (((10:UInt8).toNat:Nat):Int)≠65533 by decide⟩
   have hnx:=fun ty=>run_next_ascii (P:=P) w crlfS i ty hi hx.1
   have hne:(((crlfS[i]'hi).toNat:Int)==65533)=false:=beq_eq_false_iff_ne.2 hx.2
   go_wp2
   go_roundg g
   case measure=>omega
   case rel=>exact ⟨i+1,by omega,rfl⟩
set_option maxHeartbeats 4000000 in
set_option maxRecDepth 1000000 in
theorem fH (L:Lays.n152 P ρ) (hv:∀ (r:Int) (w:World),Calls P (ρ.f 119) #[.int .i32 r] w fun e w'=>e=.returned (.bool (Lib.validRune r))∧w'=w) (h9:∀ args w,(callFunc (ρ.f 119) args).run P w=.ok (.enter (ρ.f 119) args) w) (r:Int) (hr:128≤r) (hr2:r≠65533) (w:World):
  Calls P (ρ.f 152) #[.string crlfS,.int .i32 r] w fun e w'=>e=.returned (.int .i64 (-1))∧Below w.heap.size w w':=by
 have mixed:=L.mixed
 have t3:=L.t3;have a3:=L.a3;have z3:=L.z3;have v3:=L.v3
 have t4:=L.t4;have a4:=L.a4;have z4:=L.z4;have v4:=L.v4
 have t5:=L.t5;have a5:=L.a5;have z5:=L.z5;have v5:=L.v5
 have t9:=L.t9;have a9:=L.a9;have z9:=L.z9;have v9:=L.v9
 have t21:=L.t21;have a21:=L.a21;have z21:=L.z21;have v21:=L.v21
 have e137:∀ args w,(callFunc (ρ.f 137) args).run P w=.ok (.enter (ρ.f 137) args) w:=enters_of L.f137 (by kernel_rfl) rfl
 have h1:¬(r<128):=by omega
 have h2:(r==65533)=false:=beq_eq_false_iff_ne.2 hr2
 obtain ⟨n,x,hn2,hsz,hx,hx128⟩:=TQ r hr
 go_enter L.f152,Body.n152_ntmps ρ
 cases hval:Lib.validRune r with
 | false=>
  go_wp2_with (go_at_fn (ρ.f 119);refine (hv _ _).mono ?_;rintro e w' ⟨rfl,hw⟩;rw [hw,hval])
  go_ret
  exact ⟨rfl,Below.refl _ _⟩
 | true=>
  go_wp2_with (go_at_fn (ρ.f 119);refine (hv _ _).mono ?_;rintro e w' ⟨rfl,hw⟩;rw [hw,hval])
  go_step3
  go_wp2
  go_loopg [9] 0 (fun g a wx=>a=.int .i64 ((n:Int)+2 - 1)∧wx=w)
  case atStart=>exact ⟨rfl,rfl⟩
  case round=>
   obtain ⟨rfl,rfl⟩:=hrel
   rcases (by omega:n=0∨n=1∨n=2) with rfl | rfl | rfl
   · have hi0:(0:Int)≤((0:Nat):Int)+2 - 1:=by decide
     have hi1:((0:Nat):Int)+2 - 1<((crlfS.size:Nat):Int):=by decide
     have hi2:((0:Nat):Int)+2 - 1<(((Utf8.encode r).size:Nat):Int):=by rw [hsz];decide
     go_wp2
     go_step3
     go_wp2
     go_quiet_o (fail)
     have hne:(((crlfS[1]'(by decide)).toNat:Int) !=(((Utf8.encode r)[1]'(by rw [hsz];decide)).toNat:Int))=true:=by
      have h1:((Utf8.encode r)[1]'(by rw [hsz];decide))=x:=by
       rw [getElem?_pos (Utf8.encode r) (0+1) (by rw [hsz];decide)] at hx
       exact Option.some.inj hx
      rw [h1]
      have h2:((crlfS[1]'(by decide)).toNat:Int)=10:=rfl
      rw [h2]
      simp only [bne_iff_ne,ne_eq]
      omega
     have hw2:IntKind.i64.wrap 2=2:=by decide
     have hs2:(2:Int)≤(crlfS.size:Int):=by decide
     go_wp2
     have hib:∀ (x:Int) (w:World),Calls P (ρ.f 137) #[.string ByteArray.empty,.int .u8 x] w fun e w'=>e=.returned (.int .i64 (-1))∧w'=w:=fun x w=>Any.strings_IndexByte { L with } ByteArray.empty x w
     go_quiet_o (first | (exact (hib _ _).mono fun _ _ h=>⟨h.1,_,h.2⟩))
     go_wp2
     rw [Exit.noGoto_ret]
     try go_wp2
     try rw [Exit.noGoto_ret]
     go_ret
     exact ⟨rfl,zU (Below.refl _ _) _⟩
   · go_wp2
     try rw [Exit.noGoto_ret]
     go_ret
     exact ⟨rfl,Below.refl _ _⟩
   · go_wp2
     try rw [Exit.noGoto_ret]
     go_ret
     exact ⟨rfl,Below.refl _ _⟩
theorem aN {B C:Nat} {a w:World} (h:Below B a w) (hc:C≤B):Below C a w:=h.mono hc
theorem pM {s chars:List UInt8} (d:Nat) {i:Nat} (h:Lib.NoAny s chars i) (hk:∀ k,k<d→∀ b,s[i+k]?=some b→chars.contains b=false):Lib.NoAny s chars (i+d):=fun j b hj hb=>by
 by_cases hij:j<i
 · exact h j b hij hb
 · exact hk (j - i) (by omega) b (by rw [show i+(j - i)=j by omega];exact hb)
theorem WO {b:UInt8} (h:128≤b.toNat):crlfS.data.toList.contains b=false:=by
 have h1:b≠13:=fun e=>by rw [e] at h;exact absurd h (by decide)
 have h2:b≠10:=fun e=>by rw [e] at h;exact absurd h (by decide)
 show ([13,10]:List UInt8).contains b=false
 simp [h1,h2]
set_option maxHeartbeats 8000000 in
set_option maxRecDepth 1000000 in
theorem TD (L:Lays.n153 P ρ) (s:BA) (w:World) (h8:s.size≤8):
  Calls P (ρ.f 153) #[.string s,.string crlfS] w fun e w'=>e=.returned (.int .i64 (Lib.indexAny s.data.toList crlfS.data.toList))∧Below w.heap.size w w':=by
 have hir:∀ (r:Int),128≤r→∀ w,Calls P (ρ.f 152) #[.string crlfS,.int .i32 r] w fun e w'=>e=.returned (.int .i64 (-1))∧Below w.heap.size w w':=fun r hr w=>by
  by_cases h:r=65533
  · subst h;exact GF { L with } w
  · exact fH { L with } (fun r w=>Any.utf8_ValidRune { L with } r w) (enters_of L.f119 (by kernel_rfl) rfl) r hr h w
 have hemp:crlfS.toList.isEmpty=false:=by rw [Lib.toList_data];rfl
 have h8z:decide ((8:Int)<(s.size:Int))=false:=decide_eq_false (by omega)
 have t3:=L.t3;have a3:=L.a3;have z3:=L.z3;have v3:=L.v3
 have t4:=L.t4;have a4:=L.a4;have z4:=L.z4;have v4:=L.v4
 have t5:=L.t5;have a5:=L.a5;have z5:=L.z5;have v5:=L.v5
 have t9:=L.t9;have a9:=L.a9;have z9:=L.z9;have v9:=L.v9
 have t21:=L.t21;have a21:=L.a21;have z21:=L.z21;have v21:=L.v21
 have e152:∀ args w,(callFunc (ρ.f 152) args).run P w=.ok (.enter (ρ.f 152) args) w:=enters_of L.f152 (by kernel_rfl) rfl
 have e226:∀ args w,(callFunc (ρ.f 226) args).run P w=.ok (.enter (ρ.f 226) args) w:=enters_of L.f226 (by kernel_rfl) rfl
 go_enter L.f153,Body.n153_ntmps ρ
 go_wp2_with (go_at_fn (ρ.f 226);refine (Any.strings_shouldUseASCIISet { L with } _ _).mono ?_;rintro e w' ⟨rfl,hw⟩;rw [hw,h8z])
 go_loopg [9,10] s.size (fun g _ _ wx=>∃ i:Nat,i+g=s.size∧Below w.heap.size w wx∧wx.heap[w.heap.size]?=some (.stringIter s i)∧Lib.NoAny s.data.toList crlfS.data.toList i)
 case atStart=>exact ⟨0,by omega,(Below.refl _ _).alloc (Nat.le_refl _) _,World.iter_heap _ _ _,Lib.NoAny.zero _ _⟩
 case round=>
  obtain ⟨i,hig,hb,hk,hno⟩:=hrel
  have HB:Aside (Below w.heap.size w wr):=hb
  clear hb
  have HN:Aside (Lib.NoAny s.data.toList crlfS.data.toList i):=hno
  clear hno
  have HK:Aside (wr.heap[w.heap.size]?=some (.stringIter s i)):=hk
  clear hk
  cases gk with
  | zero=>
   obtain rfl:i=s.size:=by omega
   have hnx:=fun ty=>run_next_end_at (P:=P) wr w.heap.size s s.size ty HK.out (by omega)
   go_wp2
   go_ret
   exact ⟨by rw [Lib.indexAny_none (by rw [←Lib.size_eq];exact HN.out)];rfl,HB.out⟩
  | succ g=>
   have hi:i<s.size:=by omega
   have hbl:∀ p,Below w.heap.size w (wr.iterAt w.heap.size s p):=fun p=>HB.out.trans ⟨rfl,rfl,rfl,by rw [iterAt_size];exact Nat.le_refl _,fun k hk=>iterAt_other _ _ _ _ _ (by omega)⟩
   have hkp:∀ p,(wr.iterAt w.heap.size s p).heap[w.heap.size]?=some (.stringIter s p):=fun p=>iterAt_heap _ _ _ _ _ HK.out
   have hlt:∀ p,w.heap.size<(wr.iterAt w.heap.size s p).heap.size:=fun p=>(Array.getElem?_eq_some_iff.1 (hkp p)).1
   have HP:Aside ((∀ p,Below w.heap.size w (wr.iterAt w.heap.size s p))∧(∀ p,(wr.iterAt w.heap.size s p).heap[w.heap.size]?=some (.stringIter s p))∧∀ p,w.heap.size<(wr.iterAt w.heap.size s p).heap.size):=⟨hbl,hkp,hlt⟩
   clear hbl hkp hlt
   by_cases hx128:(s[i]'hi).toNat<128
   · obtain ⟨x,hx⟩:∃ x:UInt8,s[i]'hi=x:=⟨_,rfl⟩
     have hxl:s.data.toList[i]?=some x:=by rw [←hx];exact Lib.data_getElem? s i hi
     have hnx:=fun ty=>run_next_ascii_at (P:=P) wr w.heap.size s i ty HK.out hi hx128
     rw [hx] at hnx hx128
     have Hx:Aside (s.data.toList[i]?=some x):=hxl
     clear hxl hx
     have hcon:=Lib.contains_iff_indexByte crlfS.data.toList x
     have hback:((x.toNat:Int)).toNat.toUInt8=x:=by simp
     cases hin:crlfS.data.toList.contains x
     · rw [hin] at hcon
       have hlt:¬((0:Int)≤Lib.indexByte crlfS.data.toList x):=of_decide_eq_false hcon.symm
       clear hcon
       go_wp2_with (go_at_fn (ρ.f 152);refine (Any.strings_IndexRune_ascii { L with } _ _ _ (by omega) (by omega)).mono ?_;rintro e w' ⟨rfl,hw⟩;rw [hw,hback])
       go_roundg g
       case measure=>omega
       case rel=>exact ⟨i+1,by omega,HP.out.1 _,HP.out.2.1 _,HN.out.succ Hx.out hin⟩
     · rw [hin] at hcon
       have hge:(0:Int)≤Lib.indexByte crlfS.data.toList x:=of_decide_eq_true hcon.symm
       clear hcon
       go_wp2_with (go_at_fn (ρ.f 152);refine (Any.strings_IndexRune_ascii { L with } _ _ _ (by omega) (by omega)).mono ?_;rintro e w' ⟨rfl,hw⟩;rw [hw,hback])
       go_ret
       exact ⟨by rw [Lib.indexAny_hit HN.out Hx.out hin];rfl,HP.out.1 _⟩
   · obtain ⟨d1,d2,d3,d4⟩:=QQ s i hi (by omega)
     have hnx:=fun ty=>run_next_any_at (P:=P) wr w.heap.size s i ty HK.out hi
     have hr:(128:Int)≤((Utf8.decode s i).1:Int):=by omega
     have HD:Aside (∀ k,k<(Utf8.decode s i).2→128≤(s.get! (i+k)).toNat):=d4
     clear d4
     generalize hdd:Utf8.decode s i=d at*
     go_wp2_with (go_at_fn (ρ.f 152);refine (hir _ hr _).mono ?_;rintro e w' ⟨rfl,hw⟩)
     go_roundg (s.size - (i+d.2))
     case measure=>omega
     case rel=>
      refine ⟨i+d.2,by omega,?_,?_,?_⟩
      · exact (HP.out.1 _).trans (aN hw (Nat.le_of_lt (HP.out.2.2 _)))
      · rw [hw.block _ (HP.out.2.2 _)];exact HP.out.2.1 _
      · refine pM d.2 HN.out fun k hk b hb=>WO ?_
        have h1:=HD.out k hk
        have h2:i+k<s.size:=by omega
        rw [Lib.data_getElem? s (i+k) h2] at hb
        cases hb
        have h3:s.get! (i+k)=s[i+k]'h2:=by
         have:=get_at s (i+k) h2
         simpa using this
        rw [h3] at h1
        exact h1
set_option maxHeartbeats 1000000 in
theorem containsAny_crlf (L:Lays.n150 P ρ) (h116:(P.info? (ρ.t 116)).map (fun i=>(i.zero,i.size))=some (some (.agg (Array.replicate 256 (.bool false))),256)) (s:BA) (w:World) (hs:s.size<4294967281):
  Calls P (ρ.f 150) #[.string s,.string crlfS] w fun e w'=>e=.returned (.bool (Lib.containsAny s.data.toList crlfS.data.toList))∧Below w.heap.size w w':=by
 have c:Calls P (ρ.f 153) #[.string s,.string crlfS] w fun e w'=>e=.returned (.int .i64 (Lib.indexAny s.data.toList crlfS.data.toList))∧Below w.heap.size w w':=by
  by_cases h8:s.size≤8
  · exact TD { L with } s w h8
  · refine (Any.strings_IndexAny_long { L with } (zero_of_info h116).1 (zero_of_info h116).2 s crlfS w (by decide) (by omega) hs (by decide) (fun j b hb=>?_)).mono fun e w' ⟨h1,h2⟩=>⟨h1,?_⟩
    · have:([13,10]:List UInt8)[j]?=some b:=hb
      rcases j with _ | _ | j
      · simp at this;subst this;decide
      · simp at this;subst this;decide
      · simp at this
    · rw [h2]
      exact ((Below.refl _ _).alloc (Nat.le_refl _) _).alloc (by simp) _
 have t3:=L.t3;have a3:=L.a3;have z3:=L.z3;have v3:=L.v3
 have t4:=L.t4;have a4:=L.a4;have z4:=L.z4;have v4:=L.v4
 have t9:=L.t9;have a9:=L.a9;have z9:=L.z9;have v9:=L.v9
 have e153:∀ args w,(callFunc (ρ.f 153) args).run P w=.ok (.enter (ρ.f 153) args) w:=enters_of L.f153 (by kernel_rfl) rfl
 go_enter L.f150,Body.n150_ntmps ρ
 go_wp2_with (go_at_fn (ρ.f 153);refine c.mono ?_;rintro e w' ⟨rfl,hw⟩)
 go_ret
 exact ⟨rfl,hw⟩
end Go.Proofs.YtdhehcnfkcibiaaGreatDoor.AM
set_option maxRecDepth 1000000
namespace Go.Proofs.YtdhehcnfkcibiaaGreatDoor.AM
open Go Go.RowKit Go.Shelf
def crlf:BA:=⟨#[13,10]⟩
def RL (s chars:BA):Option Bool:=if s.size<4294967281∧chars=crlf then some (Lib.containsAny s.data.toList crlf.data.toList) else none
theorem fE:Tryz.prog.funcs[214]?=some Tryz.f214:=by kernel_rfl
theorem cu:EntryOk Tryz.prog gl ⟨214,RV (.pair .str (.pair .str .unit)) (.one .bool) (fun xs=>RL xs.1 xs.2.1),none,none⟩:=Ha (enters_of (c:=aa Tryz.f214) fE (by kernel_rfl) (by kernel_rfl)) fun xs y h=>by
 refine Qw (args:=[.string xs.1,.string xs.2.1]) (v:=.bool y) (fun w hg hn=>?_)
 unfold RL at h
 split at h
 · rename_i hs
   cases h
   obtain ⟨hs,hc⟩:=hs
   rw [hc]
   refine (AM.containsAny_crlf Tryz.laysContainsAny (by kernel_rfl) xs.1 w hs).mono ?_
   rintro e w' ⟨rfl,hb⟩
   exact ⟨rfl,hb⟩
 · cases h
end Go.Proofs.YtdhehcnfkcibiaaGreatDoor.AM
namespace Go.Proofs.YtdhehcnfkcibiaaGreatDoor.AM
open Go Go.RowKit Go.Shelf
def ZQ:List UInt8→List UInt8→Int→Int
 | [],sub,k=>if sub.isEmpty=true then k else -1
 | b::l,sub,k=>if sub.isPrefixOf (b::l)=true then k else ZQ l sub (k+1)
theorem SH:∀ (l sub:List UInt8) (k:Int),ZQ l sub k=if Lib.index l sub= -1 then -1 else Lib.index l sub+k
 | [],sub,k=>by
  unfold ZQ Lib.index
  cases sub with
  | nil=>simp
  | cons a t=>simp
 | b::l,sub,k=>by
  have ih:=SH l sub (k+1)
  have hg:=Lib.index_ge l sub
  unfold ZQ Lib.index
  cases hp:sub.isPrefixOf (b::l) with
  | true=>simp
  | false=>
   simp only [Bool.false_eq_true,if_false]
   rw [ih]
   by_cases h:Lib.index l sub= -1
   · rw [h];simp
   · have hb:(Lib.index l sub== -1)=false:=by simpa using h
     simp only [hb,Bool.false_eq_true,if_false,if_neg h]
     rw [if_neg (by omega)];omega
def uF (s sub:BA):Option Int:=if s.size<4294967281 then some (ZQ s.data.toList sub.data.toList 0) else none
theorem eM:Tryz.prog.funcs[238]?=some Tryz.f238:=by kernel_rfl
theorem RH:EntryOk Tryz.prog gl ⟨238,RV (.pair .str (.pair .str .unit)) (.one (.int .i64)) (fun xs=>uF xs.1 xs.2.1),none,none⟩:=Ha (enters_of (c:=aa Tryz.f238) eM (by kernel_rfl) (by kernel_rfl)) fun xs y h=>by
 refine Qw (args:=[.string xs.1,.string xs.2.1]) (v:=.int .i64 y) (fun w hg hn=>?_)
 unfold uF at h
 split at h
 · rename_i hs
   cases h
   obtain ⟨_,_,_,m,hm⟩:=hg
   refine (Any.stringslite_Index Tryz.laysIndex xs.1 xs.2.1 m w hs hm).mono ?_
   rintro e w' ⟨rfl,rfl⟩
   refine ⟨?_,Below.refl _ _⟩
   rw [SH]
   split
   · rename_i h1;rw [h1]
   · rw [Int.add_zero]
 · cases h
def OB (s t:BA):Option Int:=some (Lib.compareBytes s.data.toList t.data.toList)
theorem WI:Tryz.prog.funcs[233]?=some Tryz.f233:=by kernel_rfl
theorem BC:EntryOk Tryz.prog gl ⟨233,RV (.pair .str (.pair .str .unit)) (.one (.int .i64)) (fun xs=>OB xs.1 xs.2.1),none,none⟩:=Ha (enters_of (c:=aa Tryz.f233) WI (by kernel_rfl) (by kernel_rfl)) fun xs y h=>by
 refine Qw (args:=[.string xs.1,.string xs.2.1]) (v:=.int .i64 y) (fun w hg hn=>?_)
 cases h
 refine (Any.bytealg_CompareString Tryz.laysCompare xs.1 xs.2.1 w).mono ?_
 rintro e w' ⟨rfl,rfl⟩
 exact ⟨rfl,Below.refl _ _⟩
end Go.Proofs.YtdhehcnfkcibiaaGreatDoor.AM
