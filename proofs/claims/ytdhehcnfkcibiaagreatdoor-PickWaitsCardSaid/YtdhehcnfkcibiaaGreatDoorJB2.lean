/- The abstract machine, part 22: arguments that are read as data are data. -/
import Derived.Test.YtdhehcnfkcibiaaGreatDoorJB
import Derived.ChangeArms
import Derived.Carry
import Derived.WideShapes
set_option linter.all false
set_option linter.unusedVariables false
set_option linter.unusedSimpArgs false
namespace Go.Proofs.YtdhehcnfkcibiaaGreatDoor.AM
open Go Go.RowKit
def EU (N:Nat):(τ:CTy)→El τ→Prop
 | .bool,_=>True
 | .int k,x=>(Lit.int k x).wf=true
 | .flt _,_=>True
 | .str,x=>x.size≤N
 | .unit,_=>True
 | .pair a b,x=>EU N a x.1∧EU N b x.2
 | .sl t,x=>x.n≤N∧∀ i,i<x.n→EU N t (x.at' i)
def wF (f:TypeId→Option CTy):Nat→List Field→Bool
 | _,[]=>true
 | o,x::xs=>match f x.type with
  | some a=>Nat.beq x.offset o&&wF f (o+a.size) xs
  | none=>false
def Ns (L:YU) (t:TypeId) (o:Option CTy):Bool:=match ec L t,o with
 | some y,some a=>Nat.beq y.size a.size&&Nat.blt 0 y.bytes
 | _,_=>false
def tP (o:Option CTy):Bool:=match o with
 | some a=>Nat.blt 0 a.size
 | none=>false
def In (L:YU):Nat→TypeId→Bool
 | 0,_=>false
 | n+1,t=>match ec L t with
  | some y=>match y.u with
   | .bool=>true
   | .int _=>true
   | .float _=>true
   | .string=>true
   | .slice e=>In L n e&&Ns L e (ctyOf L n e)&&tP (ctyOf L n e)
   | .struct fs=>wF (ctyOf L n) 0 fs.toList&&fs.toList.all fun f=>In L n f.type&&Ns L f.type (ctyOf L n f.type)
   | _=>false
  | none=>false
section
variable {P:Program} {L:YU} {H:Type} {enc:TypeId×Value→H} {w:World} {N:Nat}
def WK (w:World):Nat→Prop:=fun b=>b<w.heap.size
theorem dy (hL:Za P L) {t:TypeId} {a:CTy} {o:Option CTy} (h:Ns L t o=true) (ho:o=some a):P.cellsOf t=a.size:=by
 subst ho
 unfold Ns at h
 split at h
 · rename_i y a' hy ha
   cases ha
   obtain ⟨i,h1,_,h3,_⟩:=(hL t y hy).info
   rw [Bool.and_eq_true] at h
   have:=Nat.eq_of_beq_eq_true h.1
   rw [Program.cellsOf,h1]
   simp [h3,this]
 · cases h
theorem RM (hL:Za P L) {t:TypeId} {o:Option CTy} (h:Ns L t o=true):0<P.bytesOf t:=by
 unfold Ns at h
 split at h
 · rename_i y a' hy
   obtain ⟨i,h1,_,_,h4⟩:=(hL t y hy).info
   rw [Bool.and_eq_true,Nat.blt_eq] at h
   rw [Program.bytesOf,h1]
   simpa [h4] using h.2
 · cases h
theorem FO (hL:Za P L) {t e:TypeId} {o:Option CTy} (hu:P.underlying t=some (.slice e)) (h2:Ns L e o=true) {elems rest:List (DataW H)} {len:Nat} (hlen:elems.length=len) (hw:∀ x∈(DataW.slice elems rest:DataW H).weights P t,x≤N):len≤N:=by
 have h:=hw ((elems.length+rest.length)*P.bytesOf e) (by simp [DataW.weights,hu])
 have hb:=RM hL h2
 have:=Nat.le_mul_of_pos_right (elems.length+rest.length) hb
 omega
theorem nK {α β:Type} {f:α→Option β}:∀ {l:List α} {ys:List β},l.mapM f=some ys→ys.length=l.length∧∀ (i:Nat) (x:α),l[i]?=some x→∃ y,ys[i]?=some y∧f x=some y
 | [],ys,h=>by simp at h;subst h;exact ⟨rfl,fun i x h=>by simp at h⟩
 | a::l,ys,h=>by
  simp only [List.mapM_cons,Option.bind_eq_bind] at h
  obtain ⟨y,hy,h⟩:=Option.bind_eq_some_iff.1 h
  obtain ⟨zs,hz,h⟩:=Option.bind_eq_some_iff.1 h
  cases h
  obtain ⟨h1,h2⟩:=nK hz
  refine ⟨by simp [h1],fun i x hx=>?_⟩
  cases i with
  | zero=>simp at hx;subst hx;exact ⟨y,by simp,hy⟩
  | succ i=>simpa using h2 i x (by simpa using hx)
theorem cells?_get {base:Nat} {a:Addr} {n:Nat} {cs:List Value} (h:w.cells? base a n=some cs):cs.length=n∧∀ j v,cs[j]?=some v→w.cell? (a.add j)=some v:=by
 unfold World.cells? at h
 split at h
 · obtain ⟨h1,h2⟩:=nK h
   simp at h1
   refine ⟨h1,fun j v hj=>?_⟩
   have hlt:j<n:=by have:=(List.getElem?_eq_some_iff.1 hj).1;omega
   obtain ⟨y,hy,hc⟩:=h2 j j (by simp [hlt])
   rw [hj] at hy
   cases hy
   exact hc
 · cases h
theorem rn {e:TypeId}:∀ {ds:List (DataW H)} {i:Nat} {d:DataW H},ds[i]?=some d→∀ x∈d.weights P e,x∈DataW.weightsAll P e ds
 | [],i,d,h,x,hx=>by simp at h
 | d0::ds,0,d,h,x,hx=>by simp at h;subst h;simp only [DataW.weightsAll];exact List.mem_append_left _ hx
 | d0::ds,i+1,d,h,x,hx=>by simp only [DataW.weightsAll];exact List.mem_append_right _ (rn (i:=i) (by simpa using h) x hx)
theorem weightsEach_mem:∀ {ts:List TypeId} {ds:List (DataW H)} {i:Nat} {t:TypeId} {d:DataW H},ts[i]?=some t→ds[i]?=some d→∀ x∈d.weights P t,x∈DataW.weightsEach P ts ds
 | [],ds,i,t,d,h,_,x,hx=>by simp at h
 | _::_,[],i,t,d,_,h,x,hx=>by simp at h
 | t0::ts,d0::ds,0,t,d,h,h',x,hx=>by simp at h h';subst h h';simp only [DataW.weightsEach];exact List.mem_append_left _ hx
 | t0::ts,d0::ds,i+1,t,d,h,h',x,hx=>by simp only [DataW.weightsEach];exact List.mem_append_right _ (weightsEach_mem (i:=i) (by simpa using h) (by simpa using h') x hx)
theorem aM {k fuel base:Nat} {spare:Nat→Bool} {held:Bool} (hL:Za P L) (ih:∀ (t:TypeId) (τ:CTy) (fuel:Nat) (cs:List Value) (d:DataW H) (ps:List MemPlace) (a:Addr) (o:Nat),ctyOf L k t=some τ→In L k t=true→
  DataW.trod enc P w base spare held fuel t cs=some (d,ps)→(∀ x∈d.weights P t,x≤N)→(∀ (j:Nat) v,cs[j]?=some v→w.cell? (a.add (o+j))=some v)→∃ x:El τ,CT w (WK w) τ x a o∧EU N τ x)
  {cs:List Value} {a:Addr} {o:Nat} (hcs:∀ (j:Nat) v,cs[j]?=some v→w.cell? (a.add (o+j))=some v):∀ (fs:List Field) (off:Nat) (τ:CTy) (xs:List (DataW H×List MemPlace)),iu (ctyOf L k) fs=some τ→wF (ctyOf L k) off fs=true→
  (fs.all fun f=>In L k f.type&&Ns L f.type (ctyOf L k f.type))=true→(∀ (i:Nat) (f:Field),fs[i]?=some f→∃ y,xs[i]?=some y∧DataW.trod enc P w base spare held fuel f.type ((cs.drop f.offset).take (P.cellsOf f.type))=some y)→
  (∀ (i:Nat) (f:Field) (y:DataW H×List MemPlace),fs[i]?=some f→xs[i]?=some y→∀ z∈y.1.weights P f.type,z≤N)→∃ x:El τ,CT w (WK w) τ x a (o+off)∧EU N τ x
 | [],off,τ,xs,hc,_,_,_,_=>by simp only [iu] at hc;cases hc;exact ⟨(),trivial,trivial⟩
 | f::fs,off,τ,xs,hc,hoff,hall,htr,hw=>by
  simp only [iu] at hc
  simp only [wF] at hoff
  simp only [List.all_cons,Bool.and_eq_true] at hall
  cases hf:ctyOf L k f.type with
  | none=>rw [hf] at hc;cases hc
  | some α=>
   rw [hf] at hc hoff
   simp only [Bool.and_eq_true] at hoff
   cases hr:iu (ctyOf L k) fs with
   | none=>rw [hr] at hc;cases hc
   | some ρ=>
    rw [hr] at hc
    cases hc
    have ho:=Nat.eq_of_beq_eq_true hoff.1
    obtain ⟨y,hy,hty⟩:=htr 0 f (by simp)
    obtain ⟨x1,c1,f1⟩:=ih f.type α fuel _ y.1 y.2 a (o+off) hf hall.1.1 hty (hw 0 f y (by simp) hy) (fun j v hj=>by
     rw [List.getElem?_take] at hj
     split at hj
     · rw [List.getElem?_drop] at hj
       have:=hcs _ v hj
       rwa [ho,←Nat.add_assoc] at this
     · cases hj)
    obtain ⟨y0,xs',rfl⟩:∃ y0 xs',xs=y0::xs':=by
     cases xs with
     | nil=>simp at hy
     | cons y0 xs'=>exact ⟨y0,xs',rfl⟩
    obtain ⟨x2,c2,f2⟩:=aM hL ih hcs fs (off+α.size) ρ xs' hr hoff.2 hall.2 (fun i g hg=>by simpa using htr (i+1) g (by simpa using hg)) (fun i g y hg hy=>hw (i+1) g y (by simpa using hg) (by simpa using hy))
    exact ⟨(x1,x2),⟨c1,by rw [Nat.add_assoc];exact c2⟩,f1,f2⟩
theorem JK {k:FloatKind} {base:Nat} {spare:Nat→Bool} {held:Bool} {fuel:Nat} {t:TypeId} {cs:List Value} {x:DataW H×List MemPlace} (ht:P.underlying t=some (.float k)) (h:DataW.trod enc P w base spare held fuel t cs=some x):∃ n,cs=[.float k n]:=by
 cases fuel with
 | zero=>simp [DataW.trod] at h
 | succ n=>
  rw [DataW.trod.eq_def] at h
  simp only [ht] at h
  split at h<;>simp_all
theorem AP (hL:Za P L) {base:Nat} {spare:Nat→Bool} {held:Bool}:∀ (k:Nat) (t:TypeId) (τ:CTy) (fuel:Nat) (cs:List Value) (d:DataW H) (ps:List MemPlace) (a:Addr) (o:Nat),ctyOf L k t=some τ→In L k t=true→
  DataW.trod enc P w base spare held fuel t cs=some (d,ps)→(∀ x∈d.weights P t,x≤N)→(∀ (j:Nat) v,cs[j]?=some v→w.cell? (a.add (o+j))=some v)→∃ x:El τ,CT w (WK w) τ x a o∧EU N τ x:=by
 intro k
 induction k with
 | zero=>intro t τ fuel cs d ps a o h;simp [ctyOf] at h
 | succ k ih=>
  intro t τ fuel cs d ps a o hc hl ht hw hcs
  simp only [ctyOf] at hc
  simp only [In] at hl
  cases hy:ec L t with
  | none=>rw [hy] at hc;cases hc
  | some y=>
   rw [hy] at hc hl
   simp only at hc hl
   have hu:=(hL t y hy).und
   cases fuel with
   | zero=>simp [DataW.trod] at ht
   | succ fuel=>
    cases hyu:y.u with
    | bool=>
     rw [hyu] at hc hu
     cases hc
     obtain ⟨b,rfl,_⟩:=DataW.trod_bool hu ht
     exact ⟨b,by simpa [CT] using hcs 0 _ rfl,trivial⟩
    | int kk=>
     rw [hyu] at hc hu
     cases hc
     obtain ⟨n,rfl,_,hn⟩:=DataW.trod_int hu ht
     exact ⟨n,by simpa [CT] using hcs 0 _ rfl,hn⟩
    | float kk=>
     rw [hyu] at hc hu
     cases hc
     obtain ⟨n,rfl⟩:=JK hu ht
     exact ⟨n,by simpa [CT] using hcs 0 _ rfl,trivial⟩
    | string=>
     rw [hyu] at hc hu
     cases hc
     obtain ⟨b,rfl,hx,_⟩:=DataW.trod_string hu ht
     cases hx
     refine ⟨b,by simpa [CT] using hcs 0 _ rfl,?_⟩
     have:=hw b.data.toList.length (by simp [DataW.weights])
     simpa [EU] using this
    | slice e=>
     rw [hyu] at hc hl hu
     simp only at hc
     simp only [Bool.and_eq_true] at hl
     obtain ⟨⟨hl1,hl2⟩,hl3⟩:=hl
     cases he:ctyOf L k e with
     | none=>rw [he] at hc;cases hc
     | some α=>
      rw [he] at hc hl2 hl3
      cases hc
      have hsz:=dy hL hl2 rfl
      have hpos:0<α.size:=by simpa [tP,Nat.blt_eq] using hl3
      rcases DataW.trod_slice hu ht with ⟨rfl,hx⟩ | ⟨a',len,cap,elems,rest,n,_,rfl,hx,_,hlc,hcm,helen,hel,_,_⟩
      · refine ⟨(⟨0,fun _=>ra α⟩:Sq (El α)),?_,?_⟩
        · exact ⟨_,by simpa using hcs 0 _ rfl,none,0,rfl,Nat.le_refl _,fun h=>absurd h (Nat.lt_irrefl _)⟩
        · exact ⟨Nat.zero_le _,fun i h=>absurd h (Nat.not_lt_zero _)⟩
      · cases hx
        have each:∀ i,i<len→a'.spot=none∧a'.block<w.heap.size∧∃ x:El α,CT w (WK w) α x a' (i*α.size)∧EU N α x:=fun i hi=>by
         have h1:=hel i hi
         obtain ⟨y,hy⟩:∃ y,elems[i]?=some y:=⟨_,List.getElem?_eq_getElem (by omega)⟩
         rw [hy] at h1
         obtain ⟨cs',hcs',htr⟩:=Option.bind_eq_some_iff.1 h1
         rw [hsz] at hcs'
         obtain ⟨hlen,hget⟩:=cells?_get hcs'
         obtain ⟨v0,hv0⟩:∃ v,cs'[0]?=some v:=⟨_,List.getElem?_eq_getElem (by omega)⟩
         have hc0:=hget 0 v0 hv0
         have hsp':(a'.add (i*α.size)).spot=none:=by
          have:=World.cell?_spot hc0
          simpa [Addr.add] using this
         have hsp:a'.spot=none:=by
          obtain ⟨y0,hy0⟩:∃ y,elems[0]?=some y:=⟨_,List.getElem?_eq_getElem (by omega)⟩
          have h2:=hel 0 (by omega)
          rw [hy0] at h2
          obtain ⟨cs0,hcs0,_⟩:=Option.bind_eq_some_iff.1 h2
          rw [hsz] at hcs0
          obtain ⟨hlen0,hget0⟩:=cells?_get hcs0
          obtain ⟨v1,hv1⟩:∃ v,cs0[0]?=some v:=⟨_,List.getElem?_eq_getElem (by omega)⟩
          have:=World.cell?_spot (hget0 0 v1 hv1)
          simpa [Addr.add] using this
         have hblk:a'.block<w.heap.size:=by
          have hc0':=hc0
          rw [Aq hsp,Ag hsp] at hc0'
          unfold World.cell? at hc0'
          rcases Nat.lt_or_ge a'.block w.heap.size with h | h
          · exact h
          · rw [Array.getElem?_eq_none h] at hc0';simp at hc0'
         refine ⟨hsp,hblk,ih e α n cs' y.1 y.2 a' (i*α.size) he hl1 htr (fun z hz=>hw z ?_) (fun j v hj=>by
          have:=hget j v hj
          rwa [Aq hsp] at this)⟩
         simp only [DataW.weights,hu]
         refine List.mem_cons_of_mem _ (List.mem_append_left _ (rn (i:=i) ?_ z hz))
         simp [hy]
        refine ⟨(⟨len,fun i=>if h:i<len then Classical.choose (each i h).2.2 else ra α⟩:Sq (El α)),?_,?_⟩
        · refine ⟨_,by simpa using hcs 0 _ rfl,some a',cap,rfl,hlc,fun h=>⟨a',rfl,(each 0 h).1,(each 0 h).2.1,fun i hi=>?_⟩⟩
          have:=(Classical.choose_spec (each i hi).2.2).1
          simp only [dif_pos (show i<len from hi)]
          exact this
        · refine ⟨FO hL hu hl2 (by rw [List.length_map];exact helen) hw,fun i hi=>?_⟩
          have:=(Classical.choose_spec (each i hi).2.2).2
          simp only [dif_pos (show i<len from hi)]
          exact this
    | struct fs=>
     rw [hyu] at hc hl hu
     simp only [Bool.and_eq_true] at hl
     obtain ⟨xs,n,_,hx,hlen,hxl,hget⟩:=DataW.trod_struct hu ht
     cases hx
     obtain ⟨x,h1,h2⟩:=aM (fuel:=n) hL ih hcs fs.toList 0 τ xs hc hl.1 hl.2 (fun i f hf=>by
      have hf':fs[i]?=some f:=by simpa using hf
      have:=hget i f hf'
      have hi:i<xs.length:=by have:=(Array.getElem?_eq_some_iff.1 hf').1;omega
      exact ⟨xs[i],List.getElem?_eq_getElem hi,by rw [this,List.getElem?_eq_getElem hi]⟩) (fun i f y hf hy z hz=>hw z (by
      simp only [DataW.weights,hu]
      exact weightsEach_mem (i:=i) (t:=f.type) (d:=y.1) (by simp only [List.getElem?_map,hf];rfl) (by simp [hy]) z hz))
     exact ⟨x,h1,h2⟩
    | _=>rw [hyu] at hl;cases hl
theorem lN (hL:Za P L) {base:Nat} {spare:Nat→Bool} {held:Bool} {k:Nat} {t e:TypeId} {α:CTy} {fuel:Nat} {v:Value} {d:DataW H} {ps:List MemPlace} (hu:P.underlying t=some (.slice e)) (he:ctyOf L k e=some α) (hl1:In L k e=true)
  (hl2:Ns L e (some α)=true) (hpos:0<α.size) (ht:DataW.trod enc P w base spare held fuel t [v]=some (d,ps)) (hw:∀ x∈d.weights P t,x≤N):∃ x:Sq (El α),VS w (WK w) α x.n x.at' v∧EU N (.sl α) x:=by
 have hsz:=dy hL hl2 rfl
 rcases DataW.trod_slice hu ht with ⟨h0,hx⟩ | ⟨a',len,cap,elems,rest,n,_,h0,hx,_,hlc,hcm,helen,hel,_,_⟩
 · cases h0
   exact ⟨(⟨0,fun _=>ra α⟩:Sq (El α)),⟨none,0,rfl,Nat.le_refl _,fun h=>absurd h (Nat.lt_irrefl _)⟩,Nat.zero_le _,fun i h=>absurd h (Nat.not_lt_zero _)⟩
 · cases h0
   cases hx
   have each:∀ i,i<len→a'.spot=none∧a'.block<w.heap.size∧∃ x:El α,CT w (WK w) α x a' (i*α.size)∧EU N α x:=fun i hi=>by
    have h1:=hel i hi
    obtain ⟨y,hy⟩:∃ y,elems[i]?=some y:=⟨_,List.getElem?_eq_getElem (by omega)⟩
    rw [hy] at h1
    obtain ⟨cs',hcs',htr⟩:=Option.bind_eq_some_iff.1 h1
    rw [hsz] at hcs'
    obtain ⟨hlen,hget⟩:=cells?_get hcs'
    obtain ⟨v0,hv0⟩:∃ v,cs'[0]?=some v:=⟨_,List.getElem?_eq_getElem (by omega)⟩
    have hc0:=hget 0 v0 hv0
    have hsp:a'.spot=none:=by
     obtain ⟨y0,hy0⟩:∃ y,elems[0]?=some y:=⟨_,List.getElem?_eq_getElem (by omega)⟩
     have h2:=hel 0 (by omega)
     rw [hy0] at h2
     obtain ⟨cs0,hcs0,_⟩:=Option.bind_eq_some_iff.1 h2
     rw [hsz] at hcs0
     obtain ⟨hlen0,hget0⟩:=cells?_get hcs0
     obtain ⟨v1,hv1⟩:∃ v,cs0[0]?=some v:=⟨_,List.getElem?_eq_getElem (by omega)⟩
     have:=World.cell?_spot (hget0 0 v1 hv1)
     simpa [Addr.add] using this
    have hblk:a'.block<w.heap.size:=by
     have hc0':=hc0
     rw [Aq hsp,Ag hsp] at hc0'
     unfold World.cell? at hc0'
     rcases Nat.lt_or_ge a'.block w.heap.size with h | h
     · exact h
     · rw [Array.getElem?_eq_none h] at hc0';simp at hc0'
    refine ⟨hsp,hblk,AP hL k e α n cs' y.1 y.2 a' (i*α.size) he hl1 htr (fun z hz=>hw z ?_) (fun j v hj=>by
     have:=hget j v hj
     rwa [Aq hsp] at this)⟩
    simp only [DataW.weights,hu]
    refine List.mem_cons_of_mem _ (List.mem_append_left _ (rn (i:=i) ?_ z hz))
    simp [hy]
   refine ⟨(⟨len,fun i=>if h:i<len then Classical.choose (each i h).2.2 else ra α⟩:Sq (El α)),⟨some a',cap,rfl,hlc,fun h=>⟨a',rfl,(each 0 h).1,(each 0 h).2.1,fun i hi=>?_⟩⟩,FO hL hu hl2 (by rw [List.length_map];exact helen) hw,fun i hi=>?_⟩
   · have:=(Classical.choose_spec (each i hi).2.2).1
     simp only [dif_pos (show i<len from hi)]
     exact this
   · have:=(Classical.choose_spec (each i hi).2.2).2
     simp only [dif_pos (show i<len from hi)]
     exact this
theorem ent_calls {g:Glob} {f:FuncId} {pc:{R:Type}→List AV→(AV→Option R)→(AV→Option R)→Option R} (h:EntryOk P g ⟨f,pc,none,none⟩) {args:List AV} {vs:List Value} {u:Value} (hg:g.G w) (hn:g.n≤w.heap.size) (hargs:LR w (WK w) Kn Ya args vs)
  (hp:pc (R:=AV) args some (fun _=>none)=some (.b u)):Calls P f vs.toArray w fun e w'=>e=.returned u∧Below w.heap.size w w':=by
 rcases h.ans rfl rfl AV _ some (fun _=>none) _ hp with ⟨av,h1,_,hA⟩ | ⟨av,h1,_⟩
 · cases h1
   refine (hA w (WK w) vs (fun b h=>h) hg hn hargs).mono ?_
   rintro e w' ⟨v',I',rfl,hb',_,_,_,hv⟩
   simp only [Out.av,VR] at hv
   subst hv
   exact ⟨rfl,hb'⟩
 · cases h1
end
open Go Go.RowKit
section
variable {P:Program} {L:YU} {H:Type} {enc:TypeId×Value→H} {w:World} {N:Nat}
theorem FL {I:Nat→Prop} {m:Nat→Info} {T:XU}:∀ {l l':List AV} {vs vs':List Value},LR w I m T l vs→LR w I m T l' vs'→LR w I m T (l++l') (vs++vs')
 | [],l',[],vs',_,h=>h
 | [],_,_::_,_,h,_=>by simp [LR] at h
 | _::_,_,[],_,h,_=>by simp [LR] at h
 | x::xs,l',v::vs,vs',h,h'=>by
  simp only [LR] at h
  simp only [List.cons_append,LR]
  exact ⟨h.1,FL h.2 h'⟩
theorem bM {k fuel base:Nat} {spare:Nat→Bool} {held:Bool} (hL:Za P L)
  (ih:∀ (t:TypeId) (τ:CTy) (fuel:Nat) (cs:List Value) (d:DataW H) (ps:List MemPlace),ctyOf L k t=some τ→In L k t=true→DataW.trod enc P w base spare held fuel t cs=some (d,ps)→(∀ x∈d.weights P t,x≤N)→cs.length=τ.size→
   ∃ x:El τ,LR w (WK w) Kn Ya (gV τ x) cs∧EU N τ x) {cs:List Value}:
  ∀ (fs:List Field) (off:Nat) (τ:CTy) (xs:List (DataW H×List MemPlace)),iu (ctyOf L k) fs=some τ→wF (ctyOf L k) off fs=true→(fs.all fun f=>In L k f.type&&Ns L f.type (ctyOf L k f.type))=true→
  (∀ (i:Nat) (f:Field),fs[i]?=some f→∃ y,xs[i]?=some y∧DataW.trod enc P w base spare held fuel f.type ((cs.drop f.offset).take (P.cellsOf f.type))=some y)→
  (∀ (i:Nat) (f:Field) (y:DataW H×List MemPlace),fs[i]?=some f→xs[i]?=some y→∀ z∈y.1.weights P f.type,z≤N)→cs.length=off+τ.size→∃ x:El τ,LR w (WK w) Kn Ya (gV τ x) (cs.drop off)∧EU N τ x
 | [],off,τ,xs,hc,_,_,_,_,hl=>by
  simp only [iu] at hc
  cases hc
  refine ⟨(),?_,trivial⟩
  have:cs.drop off=[]:=List.drop_eq_nil_of_le (by simpa [CTy.size] using Nat.le_of_eq hl)
  rw [this]
  simp [gV,LR]
 | f::fs,off,τ,xs,hc,hoff,hall,htr,hw,hl=>by
  simp only [iu] at hc
  simp only [wF] at hoff
  simp only [List.all_cons,Bool.and_eq_true] at hall
  cases hf:ctyOf L k f.type with
  | none=>rw [hf] at hc;cases hc
  | some α=>
   rw [hf] at hc hoff
   simp only [Bool.and_eq_true] at hoff
   cases hr:iu (ctyOf L k) fs with
   | none=>rw [hr] at hc;cases hc
   | some ρ=>
    rw [hr] at hc
    cases hc
    have ho:=Nat.eq_of_beq_eq_true hoff.1
    have hsz:=dy hL hall.1.2 hf
    have hl':cs.length=off+(α.size+ρ.size):=hl
    obtain ⟨y,hy,hty⟩:=htr 0 f (by simp)
    obtain ⟨x1,c1,f1⟩:=ih f.type α fuel _ y.1 y.2 hf hall.1.1 hty (hw 0 f y (by simp) hy) (by rw [List.length_take,List.length_drop,hsz,ho];omega)
    obtain ⟨y0,xs',rfl⟩:∃ y0 xs',xs=y0::xs':=by
     cases xs with
     | nil=>simp at hy
     | cons y0 xs'=>exact ⟨y0,xs',rfl⟩
    obtain ⟨x2,c2,f2⟩:=bM hL ih fs (off+α.size) ρ xs' hr hoff.2 hall.2 (fun i g hg=>by simpa using htr (i+1) g (by simpa using hg)) (fun i g y hg hy=>hw (i+1) g y (by simpa using hg) (by simpa using hy)) (by omega)
    refine ⟨(x1,x2),?_,f1,f2⟩
    rw [hsz,ho] at c1
    have:=FL c1 c2
    rw [←List.drop_drop,List.take_append_drop] at this
    exact this
theorem BP (hL:Za P L) {base:Nat} {spare:Nat→Bool} {held:Bool}:∀ (k:Nat) (t:TypeId) (τ:CTy) (fuel:Nat) (cs:List Value) (d:DataW H) (ps:List MemPlace),ctyOf L k t=some τ→In L k t=true→
  DataW.trod enc P w base spare held fuel t cs=some (d,ps)→(∀ x∈d.weights P t,x≤N)→cs.length=τ.size→∃ x:El τ,LR w (WK w) Kn Ya (gV τ x) cs∧EU N τ x:=by
 intro k
 induction k with
 | zero=>intro t τ fuel cs d ps h;simp [ctyOf] at h
 | succ k ih=>
  intro t τ fuel cs d ps hc hl ht hw hlen
  simp only [ctyOf] at hc
  simp only [In] at hl
  cases hy:ec L t with
  | none=>rw [hy] at hc;cases hc
  | some y=>
   rw [hy] at hc hl
   simp only at hc hl
   have hu:=(hL t y hy).und
   cases fuel with
   | zero=>simp [DataW.trod] at ht
   | succ fuel=>
    cases hyu:y.u with
    | bool=>
     rw [hyu] at hc hu
     cases hc
     obtain ⟨b,rfl,_⟩:=DataW.trod_bool hu ht
     exact ⟨b,by simp [gV,LR,VR],trivial⟩
    | int kk=>
     rw [hyu] at hc hu
     cases hc
     obtain ⟨n,rfl,_,hn⟩:=DataW.trod_int hu ht
     exact ⟨n,by simp [gV,LR,VR],hn⟩
    | float kk=>
     rw [hyu] at hc hu
     cases hc
     obtain ⟨n,rfl⟩:=JK hu ht
     exact ⟨n,by simp [gV,LR,VR],trivial⟩
    | string=>
     rw [hyu] at hc hu
     cases hc
     obtain ⟨b,rfl,hx,_⟩:=DataW.trod_string hu ht
     cases hx
     refine ⟨b,by simp [gV,LR,VR],?_⟩
     have:=hw b.data.toList.length (by simp [DataW.weights])
     simpa [EU] using this
    | slice e=>
     rw [hyu] at hc hl hu
     simp only at hc
     simp only [Bool.and_eq_true] at hl
     obtain ⟨⟨hl1,hl2⟩,hl3⟩:=hl
     cases he:ctyOf L k e with
     | none=>rw [he] at hc;cases hc
     | some α=>
      rw [he] at hc hl2 hl3
      cases hc
      have hpos:0<α.size:=by simpa [tP,Nat.blt_eq] using hl3
      obtain ⟨v,rfl⟩:∃ v,cs=[v]:=by
       rcases cs with _ | ⟨v,_ | ⟨v2,vs⟩⟩
       · simp [CTy.size] at hlen
       · exact ⟨v,rfl⟩
       · simp [CTy.size] at hlen
      obtain ⟨x,h1,h2⟩:=lN hL hu he hl1 hl2 hpos ht hw
      exact ⟨x,by simp only [gV,LR,VR];exact ⟨h1,trivial⟩,h2⟩
    | struct fs=>
     rw [hyu] at hc hl hu
     simp only [Bool.and_eq_true] at hl
     obtain ⟨xs,n,_,hx,hlen',hxl,hget⟩:=DataW.trod_struct hu ht
     cases hx
     obtain ⟨x,h1,h2⟩:=bM (fuel:=n) hL ih fs.toList 0 τ xs hc hl.1 hl.2 (fun i f hf=>by
      have hf':fs[i]?=some f:=by simpa using hf
      have:=hget i f hf'
      have hi:i<xs.length:=by have:=(Array.getElem?_eq_some_iff.1 hf').1;omega
      exact ⟨xs[i],List.getElem?_eq_getElem hi,by rw [this,List.getElem?_eq_getElem hi]⟩) (fun i f y hf hy z hz=>hw z (by
      simp only [DataW.weights,hu]
      exact weightsEach_mem (i:=i) (t:=f.type) (d:=y.1) (by simp only [List.getElem?_map,hf];rfl) (by simp [hy]) z hz)) (by omega)
     exact ⟨x,by simpa using h1,h2⟩
    | _=>rw [hyu] at hl;cases hl
theorem zL (hL:Za P L) {base:Nat} {spare:Nat→Bool} {held:Bool} {k:Nat} {t:TypeId} {a b:CTy} {v:Value} {d:DataW H} {ps:List MemPlace} {cs:Array Value} (he:ctyOf L k t=some (.pair a b)) (hl1:In L k t=true)
  (hv:v=.agg cs) (hlen:cs.size=(CTy.pair a b).size) (ht:DataW.Trod enc P w base spare held t v d ps) (hw:∀ x∈d.weights P t,x≤N):∃ x:El (.pair a b),VR w (WK w) Kn Ya (encV (.pair a b) x) v∧EU N (.pair a b) x:=by
 subst hv
 obtain ⟨fuel,ht⟩:=ht
 obtain ⟨x,h1,h2⟩:=BP hL k t _ fuel cs.toList d ps he hl1 (by simpa [Value.cells] using ht) hw (by simpa using hlen)
 exact ⟨x,by simp only [encV,VR];exact ⟨cs,rfl,h1⟩,h2⟩
theorem struct_argW (hL:Za P L) {base base':Nat} {r:Reach} {spare:Nat→Bool} {held:Bool} {k:Nat} {t:TypeId} {fs:Array Field} {a b:CTy} {v:Value} {d:DataW H} {ps:List MemPlace} (hu:P.underlying t=some (.struct fs))
  (he:ctyOf L k t=some (.pair a b)) (hl1:In L k t=true) (hl2:Ns L t (some (.pair a b))=true) (hv:Value.okWide P w r base' t v) (ht:DataW.Trod enc P w base spare held t v d ps) (hw:∀ x∈d.weights P t,x≤N):
  ∃ x:El (.pair a b),VR w (WK w) Kn Ya (encV (.pair a b) x) v∧EU N (.pair a b) x:=by
 obtain ⟨cs,rfl,hsz⟩:=Go.WideShapes.okWide_struct hu hv
 exact zL hL he hl1 rfl (hsz.trans (dy hL hl2 rfl)) ht hw
end
end Go.Proofs.YtdhehcnfkcibiaaGreatDoor.AM
