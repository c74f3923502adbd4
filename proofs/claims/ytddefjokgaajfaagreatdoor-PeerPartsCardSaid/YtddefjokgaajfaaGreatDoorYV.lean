/- Commands, plainly: letters, words, where a path ends. -/
import Derived.Test.YtddefjokgaajfaaGreatDoorYQ
set_option linter.all false
set_option linter.unusedVariables false
set_option linter.unusedSimpArgs false
namespace Go.Proofs.YtddefjokgaajfaaGreatDoor.AM
open Go
/-! Letters. -/
def up (c:Int):Int:=if 97≤c∧c≤122 then c - 32 else c
/-! Words. -/
def pr (c:Int):Bool:=decide (33≤c)&&decide (c≤126)
/-! Digits behind a path. -/
/-! Where a path ends:0:outside quotes;1:inside;2:behind a backslash. -/
def pe:Nat→List Int→Nat
 | _,[]=>0
 | 0,c::r=>if c=34 then 1+pe 1 r else if c=62 then 1 else 1+pe 0 r
 | 1,c::r=>if c=92 then 1+pe 2 r else if c=34 then 1+pe 0 r else 1+pe 1 r
 | _+2,_::r=>1+pe 1 r
/-! Paths. -/
def P9 (l:List Int):Option (Bool×List Int×List Int):=if l=[60,62] then some (true,[],[]) else
 if 2≤l.length∧l.head?=some 60∧l.getLast?=some 62 then (q5 (AJ l)).map fun x=>(false,x.1,x.2) else none
open Go Go.RowKit
/-! words. -/
theorem C9 (s:BA) (i j:Nat):(s.extract i j).size≤s.size:=by
 rw [←za,Ah,List.length_drop,List.length_take,za];omega
open Go Go.RowKit
theorem T6 (n:Nat) (s:BA) (hs:s.size≤400000) (hn:10000000≤n):match P9 (bs s) with
  | none=>Jv n s=some (TV,false,false,())∧Kz n s=some (TV,false,8,())
  | some v=>∃ p1 p2,Jv n s=some ((p1,(p2,())),v.1,true,())∧Kz n s=some ((p1,(p2,())),v.1,0,())∧bs p1=v.2.1∧bs p2=v.2.2:=by
 have hz:bs (⟨#[60,62]⟩:BA)=[60,62]:=rfl
 unfold Jv mI Kz HG P9
 by_cases c1:bs s=[60,62]
 · have c1':(s.toList==(⟨#[60,62]⟩:BA).toList)=true:=by rw [dx,hz,decide_eq_true c1]
   rw [if_pos c1',if_pos c1',if_pos c1]
   exact ⟨_,_,rfl,rfl,rfl,rfl⟩
 have c1':¬(s.toList==(⟨#[60,62]⟩:BA).toList)=true:=by rw [dx,hz,decide_eq_false c1];simp
 rw [if_neg c1',if_neg c1',if_neg c1]
 by_cases c2:decide ((s.size:Int)<(2:Int))=false
 · rw [if_pos c2,if_pos c2]
   have hz:¬((s.size:Int)<2):=of_decide_eq_false c2
   have w:IntKind.wrap .i64 ((s.size:Int) - 1)=(s.size:Int) - 1:=wr (by omega) (by omega)
   have c3:0≤(0:Int)∧(0:Int)<(s.size:Int):=⟨by omega,by omega⟩
   obtain ⟨d,hd1,hd2⟩:=sF (s:=s) (by omega)
   obtain ⟨e,he1,he2⟩:=NM (s:=s) (by omega)
   have he2':bt s ((s.size:Int) - 1)=e:=by rw [←he2];congr 1;omega
   rw [w,if_pos c3,if_pos c3]
   by_cases c4:d=60
   · have c4':((bt s (0:Int)) !=(60:Int))=false:=by rw [hd2,c4];rfl
     rw [if_pos c4',if_pos c4']
     have c5:0≤(s.size:Int) - 1∧(s.size:Int) - 1<(s.size:Int):=⟨by omega,by omega⟩
     rw [if_pos c5,if_pos c5]
     by_cases c6:e=62
     · have c6':¬((bt s ((s.size:Int) - 1)) !=(62:Int))=true:=by rw [he2',c6];simp
       rw [if_neg c6',if_neg c6',if_pos ⟨by rw [za];omega,by rw [hd1,c4],by rw [he1,c6]⟩]
       have c7:0≤(s.size:Int) - 1∧(s.size:Int) - 1≤(s.size:Int):=⟨by omega,by omega⟩
       have c8:0≤(1:Int)∧(1:Int)≤(s.size:Int) - 1:=⟨by omega,by omega⟩
       rw [if_pos c7,if_pos c8,if_pos c7,if_pos c8]
       have hi:bs (s.extract (Int.toNat (1:Int)) (Int.toNat ((s.size:Int) - 1)))=AJ (bs s):=by
        rw [←fM]
        congr 2
        omega
       have ht:(s.extract (Int.toNat (1:Int)) (Int.toNat ((s.size:Int) - 1))).size≤400000:=by
        have:=C9 s (Int.toNat (1:Int)) (Int.toNat ((s.size:Int) - 1));omega
       have hP:=o4 n _ ht hn
       have hR:=N2 n _ ht hn
       rw [←s5] at hR
       rw [hi] at hP hR
       cases hv:q5 (AJ (bs s)) with
       | none=>
        rw [hv] at hP hR
        simp only [jV] at hP hR
        rw [hP,hR]
        exact ⟨rfl,rfl⟩
       | some y=>
        rw [hv] at hP hR
        obtain ⟨t1,t2,j1,j2,j3⟩:=hP
        obtain ⟨u1,u2,k1,k2,k3⟩:=hR
        have x1:u1=t1:=JK (k2.trans j2.symm)
        have x2:u2=t2:=JK (k3.trans j3.symm)
        subst x1 x2
        rw [j1,k1]
        exact ⟨u1,u2,rfl,rfl,k2,k3⟩
     · have c6':((bt s ((s.size:Int) - 1)) !=(62:Int))=true:=by rw [he2'];simpa using c6
       rw [if_pos c6',if_pos c6',if_neg (fun hh=>c6 (by rw [he1] at hh;exact Option.some.inj hh.2.2))]
       exact ⟨rfl,rfl⟩
   · have c4':¬((bt s (0:Int)) !=(60:Int))=false:=by rw [hd2];simpa using c4
     rw [if_neg c4',if_neg c4',if_neg (fun hh=>c4 (by rw [hd1] at hh;exact Option.some.inj hh.2.1))]
     exact ⟨rfl,rfl⟩
 · rw [if_neg c2,if_neg c2,if_neg (fun hh=>by
    rw [za] at hh
    have:((s.size:Int)<2):=by simpa using c2
    omega)]
   exact ⟨rfl,rfl⟩
/-! Digits. -/
open Go Go.RowKit
open Go Go.RowKit
/-! Numbers as texts. -/
/-! Texts. -/
end Go.Proofs.YtddefjokgaajfaaGreatDoor.AM
