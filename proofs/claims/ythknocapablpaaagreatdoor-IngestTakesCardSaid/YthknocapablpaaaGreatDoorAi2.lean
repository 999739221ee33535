/- A part of the proof. -/
import Derived.Test.YthknocapablpaaaGreatDoorProg
import Derived.Test.YthknocapablpaaaGreatDoorAi1
namespace Go.Proofs.YthknocapablpaaaGreatDoor
/- Spans. -/
section
open Go.RowKit

structure Spn where
 tr:Int
 id:Int
 pa:Int
 se:ByteArray
 ho:ByteArray
 st:Int
 du:Int
 no:ByteArray
 deriving Inhabited
def Spn.cells (m:Spn):List Value:=[.int .i64 m.tr,.int .i64 m.id,.int .i64 m.pa,.string m.se,.string m.ho,.int .i64 m.st,.int .i64 m.du,.string m.no]
end
/- Spans in memory. -/
section
set_option maxRecDepth 100000
open Go.RowKit

def cellsS:List Spn→List Value
 | []=>[]
 | m::t=>m.cells++cellsS t
theorem cellsS_length:∀ L,(cellsS L).length=L.length * 8
 | []=>rfl
 | m::t=>by simp [cellsS,cellsS_length t,Spn.cells];omega
theorem cellsS_append:∀ a b,cellsS (a++b)=cellsS a++cellsS b
 | [],b=>rfl
 | m::t,b=>by simp [cellsS,cellsS_append t b]
theorem cellsS_at:∀ (L:List Spn)(i:Nat)(m:Spn),L[i]? = some m→∀ k,k<8→(cellsS L)[i * 8+k]? = m.cells[k]?
 | [],i,m,h,_,_=>by simp at h
 | x::t,0,m,h,k,hk=>by
  simp at h;subst h
  rw [cellsS,List.getElem?_append_left (by simp [Spn.cells];omega)];simp
 | x::t,i+1,m,h,k,hk=>by
  have:=cellsS_at t i m (by simpa using h) k hk
  rw [cellsS,List.getElem?_append_right (by simp [Spn.cells];omega)]
  rw [← this];congr 1;simp [Spn.cells];omega
theorem cellsS_one:∀ (L:List Spn),∀ u∈cellsS L,u.oneCell'=true
 | [],u,h=>by simp [cellsS] at h
 | m::t,u,h=>by
  rcases List.mem_append.1 h with h | h
  ·simp [Spn.cells] at h
   rcases h with rfl | rfl | rfl | rfl | rfl | rfl | rfl | rfl <;> rfl
  ·exact cellsS_one t u h
/-- A list of spans, as it lies. -/
def ReadsS (w:World)(v:Value)(L:List Spn):Prop:=
 ∃ ao cap,v = .slice ao L.length cap∧(L=[]∨∃ g o,ao=some ⟨g,o,none⟩∧∀ j u,(cellsS L)[j]? = some u→w.cell? ⟨g,o+j,none⟩=some u)
theorem ReadsS.kept {S:Nat→Prop}{w w':World}{v:Value}{L:List Spn}(h:ReadsS w v L)(hK:Kept S w w')(hS:∀ k,v.ownBlock=some k→¬ S k)(ho:∀ g o n c,v = .slice (some ⟨g,o,none⟩) n c→¬ S g):ReadsS w' v L:=by
 obtain ⟨ao,cap,rfl,h⟩:=h
 refine ⟨ao,cap,rfl,?_⟩
 rcases h with h | ⟨g,o,rfl,hc⟩
 ·exact .inl h
 ·exact .inr ⟨g,o,rfl,fun j u hu=>hK.cell (hc j u hu) (ho g o _ _ rfl)⟩
theorem ReadsS.keptF {w w':World}{v:Value}{L:List Spn}(h:ReadsS w v L)(hK:Kept (fun _=>False) w w'):ReadsS w' v L:=h.kept hK (fun _ _ f=>f) (fun _ _ _ _ _ f=>f)
theorem ReadsS.at {w:World}{L:List Spn}{g o:Nat}(hc:∀ j u,(cellsS L)[j]? = some u→w.cell? ⟨g,o+j,none⟩=some u){i:Nat}{m:Spn}(hm:L[i]? = some m) :
  w.cell? ⟨g,o+i * 8,none⟩=some (.int .i64 m.tr)∧w.cell? ⟨g,o+i * 8+1,none⟩=some (.int .i64 m.id)∧w.cell? ⟨g,o+i * 8+2,none⟩=some (.int .i64 m.pa)∧w.cell? ⟨g,o+i * 8+3,none⟩=some (.string m.se)∧w.cell? ⟨g,o+i * 8+4,none⟩=some (.string m.ho)∧w.cell? ⟨g,o+i * 8+5,none⟩=some (.int .i64 m.st)∧w.cell? ⟨g,o+i * 8+6,none⟩=some (.int .i64 m.du)∧w.cell? ⟨g,o+i * 8+7,none⟩=some (.string m.no):=by
 have h:=fun k hk u (hu:m.cells[k]? = some u)=>hc _ u ((cellsS_at L i m hm k hk).trans hu)
 refine ⟨by have:=h 0 (by omega) _ rfl;simpa [Nat.add_assoc] using this,by have:=h 1 (by omega) _ rfl;simpa [Nat.add_assoc] using this,by have:=h 2 (by omega) _ rfl;simpa [Nat.add_assoc] using this,by have:=h 3 (by omega) _ rfl;simpa [Nat.add_assoc] using this,by have:=h 4 (by omega) _ rfl;simpa [Nat.add_assoc] using this,by have:=h 5 (by omega) _ rfl;simpa [Nat.add_assoc] using this,by have:=h 6 (by omega) _ rfl;simpa [Nat.add_assoc] using this,by have:=h 7 (by omega) _ rfl;simpa [Nat.add_assoc] using this⟩

end
/- Whether a list of spans is beyond. -/
section
set_option maxRecDepth 100000
open Go.RowKit

def beyS (m:Spn):Bool:=decide ((100:Int)<(m.se.size:Int)) || decide ((100:Int)<(m.ho.size:Int)) || decide ((100:Int)<(m.no.size:Int))
def bey9 (L:List Spn)(mx:Int):Bool:=decide (mx<(L.length:Int)) || L.any beyS
theorem any_at {L:List Spn}{i:Nat}{m:Spn}(h:L[i]? = some m)(hb:beyS m=true):L.any beyS=true:=List.any_eq_true.2 ⟨m,List.mem_of_getElem? h,hb⟩
theorem any_not {L:List Spn}(h:∀ (j:Nat)(m:Spn),L[j]? = some m→beyS m=false):L.any beyS=false:=by
 rw [List.any_eq_false]
 intro m hm
 obtain ⟨j,hj⟩:=List.getElem?_of_mem hm
 simp [h j m hj]
set_option maxHeartbeats 4000000 in
theorem beyond9 (mx:Int){w:World}{v:Value}{L:List Spn}(h:ReadsS w v L)(hl:L.length≤9223372036854775807)(hfit:∀ y∈L,y.se.size≤9223372036854775807∧y.ho.size≤9223372036854775807∧y.no.size≤9223372036854775807) :
  Calls Tryz.prog 48 #[v,.int .i64 mx] w fun e w'=>e = .returned (.bool (bey9 L mx))∧w=w':=by
 obtain ⟨ao,cap,rfl,h⟩:=h
 have HR:=Lib.hid h
 clear h
 by_cases h20:(L.length:Int)≤mx
 ·have e1 : ¬ mx < (L.length : Int) := by omega
  have E9:bey9 L mx=L.any beyS:=by unfold bey9;simp [e1]
  rw [E9]
  obtain ⟨A,hA⟩:∃ A,L.any beyS=A:=⟨_,rfl⟩
  rw [hA]
  have HA:=Lib.hid hA
  clear hA E9
  go_enter Tryz.func48,Tryz.ntmps48
  go_wp2
  go_loopg [5] L.length (fun gh t wr=>∃ k:Nat,k+gh=L.length∧t = .int .i64 k∧wr=w∧∀ (j:Nat) (m:Spn),j<k→L[j]? = some m→beyS m=false)
  case atStart=>exact ⟨0,by omega,rfl,rfl,fun j m hj=>absurd hj (Nat.not_lt_zero j)⟩
  case round=>
   obtain ⟨k,hk,rfl,rfl,hno⟩:=hrel
   have NO:=Lib.hid hno
   have hk1:k≤L.length:=by omega
   have JK:=Lib.hid hk
   clear hk hno
   by_cases hlt:k<L.length
   ·rcases HR.out with h0 | ⟨g, o, rfl, hc⟩
    ·rw [h0] at hlt;simp at hlt
    obtain ⟨m,hm⟩:∃ m,L[k]? = some m:=⟨_,List.getElem?_eq_getElem hlt⟩
    obtain ⟨_,_,_,c3,c4,_,_,c7⟩:=ReadsS.at hc hm
    have f:=hfit m (List.mem_of_getElem? hm)
    have HM:=Lib.hid hm
    have i1:(0:Int)≤(k:Int):=by omega
    have i2:(k:Int)<(L.length:Int):=by omega
    have f1:=f.1;have f2:=f.2.1;have f3:=f.2.2
    clear hc hm f
    by_cases g1:(100:Int)<(m.se.size:Int)
    ·go_wp2
     go_ret
     exact ⟨by rw [← HA.out,any_at HM.out (by unfold beyS;simp [g1])];rfl,rfl⟩
    ·by_cases g2 : (100 : Int) < (m.ho.size : Int)
     ·go_wp2
      go_ret
      exact ⟨by rw [← HA.out,any_at HM.out (by unfold beyS;simp [g2])];rfl,rfl⟩
     ·by_cases g3 : (100 : Int) < (m.no.size : Int)
      ·go_wp2
       go_ret
       exact ⟨by rw [← HA.out,any_at HM.out (by unfold beyS;simp [g3])];rfl,rfl⟩
      ·go_wp2
       go_roundg (L.length - k - 1)
       case measure=>have:=JK.out;omega
       case rel=>
        refine ⟨k+1,by omega,by go_num,rfl,fun j x hj hx=>?_⟩
        by_cases e:j=k
        ·subst e
         rw [HM.out] at hx
         cases hx
         unfold beyS
         simp [g1,g2,g3]
        ·exact NO.out j x (by omega) hx
   ·have e3 : ¬ (k : Int) < (L.length : Int) := by omega
    go_wp2
    go_ret
    refine ⟨?_,rfl⟩
    rw [← HA.out,any_not (fun j m hm=>NO.out j m (by have:=(List.getElem?_eq_some_iff.1 hm).1;omega) hm)]
    rfl
 ·have e1 : mx < (L.length : Int) := by omega
  have E9:bey9 L mx=true:=by unfold bey9;simp [e1]
  rw [E9]
  go_enter Tryz.func48,Tryz.ntmps48
  go_wp2
  go_ret
  exact ⟨rfl,rfl⟩

end
/- Acts in memory; Beyond of acts. -/
section
set_option maxRecDepth 100000
open Go.RowKit

structure ActP where
 host:Int
 first:Int
 spans:List Spn
 ticks:Int
def Fits (y:Spn):Prop:=y.se.size≤9223372036854775807∧y.ho.size≤9223372036854775807∧y.no.size≤9223372036854775807
/-- One act lies at a place: its spans' slice, and its ticks. -/
def ActAt (w:World)(g o:Nat)(a:ActP):Prop:=∃ sv,w.cell? ⟨g,o,none⟩=some (.int .i64 a.host)∧w.cell? ⟨g,o+1,none⟩=some (.int .i64 a.first)∧w.cell? ⟨g,o+2,none⟩=some sv∧ReadsS w sv a.spans∧w.cell? ⟨g,o+3,none⟩=some (.int .u8 a.ticks)
/-- A list of acts, as it lies. -/
def ReadsA (w:World)(v:Value)(A:List ActP):Prop:=
 ∃ ao cap,v = .slice ao A.length cap∧(A=[]∨∃ g o,ao=some ⟨g,o,none⟩∧∀ i a,A[i]? = some a→ActAt w g (o+i * 4) a)
/-- Acts whose numbers may be. -/
structure FitsA (A:List ActP):Prop where
 len:A.length≤9223372036854775807
 ticks:∀ a∈A,0≤a.ticks∧a.ticks≤255
 many:∀ a∈A,a.spans.length≤9223372036854775807
 fit:∀ a∈A,∀ m∈a.spans,Fits m
theorem ActAt.keptF {w w':World}{g o:Nat}{a:ActP}(h:ActAt w g o a)(hK:Kept (fun _=>False) w w'):ActAt w' g o a:=by
 obtain ⟨sv,a1,a2,h1,h2,h3⟩:=h
 exact ⟨sv,hK.cell a1 (fun f=>f),hK.cell a2 (fun f=>f),hK.cell h1 (fun f=>f),h2.keptF hK,hK.cell h3 (fun f=>f)⟩
theorem ReadsA.keptF {w w':World}{v:Value}{A:List ActP}(h:ReadsA w v A)(hK:Kept (fun _=>False) w w'):ReadsA w' v A:=by
 obtain ⟨ao,cap,rfl,h⟩:=h
 refine ⟨ao,cap,rfl,?_⟩
 rcases h with h | ⟨g,o,rfl,h⟩
 ·exact .inl h
 ·exact .inr ⟨g,o,rfl,fun i a ha=>(h i a ha).keptF hK⟩
theorem beyond_len {w:World}{v:Value}{L:List Spn}(h:ReadsS w v L)(hl:L.length≤9223372036854775807)(hfit:∀ y∈L,Fits y) :
  Calls Tryz.prog 48 #[v,.int .i64 20] w fun e w'=>(e = .returned (.bool true)∨(e = .returned (.bool false)∧L.length≤20))∧w=w':=by
 refine (beyond9 20 h hl hfit).mono fun e w' ⟨he,hw⟩=>⟨?_,hw⟩
 cases hb:bey9 L 20 with
 | true=>rw [hb] at he;exact .inl he
 | false=>
  rw [hb] at he
  refine .inr ⟨he,?_⟩
  unfold bey9 at hb
  simp at hb
  omega
set_option maxHeartbeats 4000000 in
theorem beyondA_all (k:Nat)(hk:k≤1000){w:World}{v:Value}{A:List ActP}(h:ReadsA w v A)(hf:FitsA A) :
  Calls Tryz.prog 9 #[v,.int .i64 (k:Int)] w fun e w'=>(e = .returned (.bool true)∨(e = .returned (.bool false)∧(A.length≤k∧∀ a∈A,a.spans.length≤20)))∧w=w':=by
 obtain ⟨ao,cap,rfl,h⟩:=h
 have HR:=Lib.hid h
 have HF:=Lib.hid hf
 have hl:=hf.len
 clear h hf
 by_cases hlen:A.length≤k
 ·have e1 : ¬ (k : Int) < (A.length : Int) := by omega
  go_enter Tryz.func9,Tryz.ntmps9
  go_wp2
  go_loopg [5] A.length (fun gh t wr=>∃ i:Nat,i+gh=A.length∧t = .int .i64 i∧wr=w∧∀ j a,j<i→A[j]? = some a→a.spans.length≤20)
  case atStart=>exact ⟨0,by omega,rfl,rfl,fun j a hj=>absurd hj (Nat.not_lt_zero j)⟩
  case round=>
   obtain ⟨i,hi,rfl,rfl,hok⟩:=hrel
   have JI:=Lib.hid hi;have OK:=Lib.hid hok
   clear hi hok
   by_cases hlt:i<A.length
   ·rcases HR.out with h0 | ⟨g, o, rfl, hc⟩
    ·rw [h0] at hlt;simp at hlt
    obtain ⟨a,ha⟩:∃ a,A[i]? = some a:=⟨_,List.getElem?_eq_getElem hlt⟩
    have hmem:=List.mem_of_getElem? ha
    obtain ⟨sv,_,_,c2,rs,c3⟩:=hc i a ha
    have B:=Lib.hid (beyond_len rs (HF.out.many a hmem) (HF.out.fit a hmem))
    have i1:(0:Int)≤(i:Int):=by omega
    have i2:(i:Int)<(A.length:Int):=by omega
    have HA:=Lib.hid ha
    clear hc ha hmem rs
    go_wp2_with fail
    refine B.out.mono ?_
    rintro e w2 ⟨rfl | ⟨rfl,hr⟩,rfl⟩
    ·go_wp2
     go_ret
     exact ⟨.inl rfl,rfl⟩
    ·have R20 := Lib.hid hr
     clear hr
     go_wp2
     go_roundg (A.length - i - 1)
     case measure=>have:=JI.out;omega
     case rel=>
      refine ⟨i+1,by omega,by go_num,rfl,fun j x hj hx=>?_⟩
      rcases Nat.lt_or_ge j i with h | h
      ·exact OK.out j x h hx
      ·obtain rfl : j = i := by omega
       have:=HA.out
       rw [hx] at this
       cases this
       exact R20.out
   ·have e3 : ¬ (i : Int) < (A.length : Int) := by omega
    go_wp2
    go_ret
    have F:∀ a∈A,a.spans.length≤20:=fun a ha=>by
     obtain ⟨j,hj⟩:=List.mem_iff_getElem?.1 ha
     exact OK.out j a (by have:=(List.getElem?_eq_some_iff.1 hj).1;omega) hj
    exact ⟨.inr ⟨rfl,F⟩,rfl⟩
 ·have e1 : (k : Int) < (A.length : Int) := by omega
  go_enter Tryz.func9,Tryz.ntmps9
  go_wp2
  go_ret
  exact ⟨.inl rfl,rfl⟩
end
/- The walks over cmp and cells: comparisons. -/
section
set_option maxRecDepth 100000
open Go.RowKit

/-- -1, 0, 1. -/
def cmpI (x y:Int):Int:=if x<y then -1 else if y<x then 1 else 0
/-- Which string stands ahead. -/
def sLt (x y:ByteArray):Bool:=Op.bytesLess x.toList y.toList
def sEq (x y:ByteArray):Bool:=x.toList == y.toList
def cmpS (x y:ByteArray):Int:=if sLt x y=true then -1 else if sEq x y=true then 0 else 1
def or2 (x y:Int):Int:=if x=0 then y else x

theorem nan_int (x:Int)(w:World):Calls Tryz.prog 153 #[.int .i64 x] w fun e w'=>e = .returned (.bool false)∧w=w':=by
 go_enter Tryz.func153,Tryz.ntmps153
 go_wp2
 go_ret
 exact ⟨by simp,rfl⟩
theorem nan_str (x:ByteArray)(w:World):Calls Tryz.prog 372 #[.string x] w fun e w'=>e = .returned (.bool false)∧w=w':=by
 go_enter Tryz.func372,Tryz.ntmps372
 go_wp2
 go_ret
 exact ⟨by simp,rfl⟩
theorem cmp_int (x y:Int)(w:World):Calls Tryz.prog 92 #[.int .i64 x,.int .i64 y] w fun e w'=>e = .returned (.int .i64 (cmpI x y))∧w=w':=by
 go_enter Tryz.func92,Tryz.ntmps92
 go_wp2_with (go_at_call 153;refine (nan_int _ _).mono ?_;rintro e w' ⟨rfl,rfl⟩)
 all_goals go_ret
 all_goals (refine ⟨?_,rfl⟩;unfold cmpI;(repeat' split) <;> first | rfl | (exfalso;omega))
theorem cmp_str (x y:ByteArray)(w:World):Calls Tryz.prog 335 #[.string x,.string y] w fun e w'=>e = .returned (.int .i64 (cmpS x y))∧w=w':=by
 cases h1:Op.bytesLess x.toList y.toList
 ·cases h2 : x.toList == y.toList
  ·go_enter Tryz.func335, Tryz.ntmps335
   go_wp2_with (go_at_call 372;refine (nan_str _ _).mono ?_;rintro e w' ⟨rfl,rfl⟩)
   go_ret
   exact ⟨by simp [cmpS,sLt,sEq,h1,h2],rfl⟩
  ·go_enter Tryz.func335, Tryz.ntmps335
   go_wp2_with (go_at_call 372;refine (nan_str _ _).mono ?_;rintro e w' ⟨rfl,rfl⟩)
   go_ret
   exact ⟨by simp [cmpS,sLt,sEq,h1,h2],rfl⟩
 ·go_enter Tryz.func335, Tryz.ntmps335
  go_wp2_with (go_at_call 372;refine (nan_str _ _).mono ?_;rintro e w' ⟨rfl,rfl⟩)
  go_ret
  exact ⟨by simp [cmpS,sLt,h1],rfl⟩

theorem or_two (b cap:Nat)(x y:Int)(w:World)(h0:w.cell? ⟨b,0,none⟩=some (.int .i64 x))(h1:w.cell? ⟨b,1,none⟩=some (.int .i64 y)) :
  Calls Tryz.prog 91 #[.slice (some ⟨b,0,none⟩) 2 cap] w fun e w'=>e = .returned (.int .i64 (or2 x y))∧w=w':=by
 by_cases hx:x=0
 ·subst hx
  by_cases hy:y=0
  ·subst hy
   go_enter Tryz.func91,Tryz.ntmps91
   go_wp2
   go_loopg [8] 2 (fun g t wr=>∃ i:Nat,i+g=2∧t = .int .i64 i∧wr=w)
   case atStart=>exact ⟨0,rfl,rfl,rfl⟩
   case round=>
    obtain ⟨i,hi,rfl,rfl⟩:=hrel
    have hi3:i=0∨i=1∨i=2:=by omega
    rcases hi3 with rfl | rfl | rfl
    ·go_wp2
     go_roundg 1
     case measure=>omega
     case rel=>exact ⟨1,rfl,by go_num,rfl⟩
    ·go_wp2
     go_roundg 0
     case measure=>omega
     case rel=>exact ⟨2,rfl,by go_num,rfl⟩
    ·go_wp2
     go_ret
     exact ⟨rfl,rfl⟩
  ·go_enter Tryz.func91, Tryz.ntmps91
   go_wp2
   go_loopg [8] 2 (fun g t wr=>∃ i:Nat,i+g=2∧i<2∧t = .int .i64 i∧wr=w)
   case atStart=>exact ⟨0,rfl,by omega,rfl,rfl⟩
   case round=>
    obtain ⟨i,hi,hi2,rfl,rfl⟩:=hrel
    have hi3:i=0∨i=1:=by omega
    rcases hi3 with rfl | rfl
    ·go_wp2
     go_roundg 1
     case measure=>omega
     case rel=>exact ⟨1,rfl,by omega,by go_num,rfl⟩
    ·go_wp2
     go_ret
     exact ⟨rfl,rfl⟩
 ·go_enter Tryz.func91, Tryz.ntmps91
  go_wp2
  go_loopg [8] 2 (fun g t wr=>t = .int .i64 0∧wr=w)
  case atStart=>exact ⟨rfl,rfl⟩
  case round=>
   obtain ⟨rfl,rfl⟩:=hrel
   go_wp2
   go_ret
   exact ⟨by simp [or2,hx],rfl⟩
end
/- The walks over cells.Compare. -/
section
set_option maxRecDepth 100000
open Go.RowKit

/-- A cell. -/
structure Cel where
 k:ByteArray
 s:Int
 v:ByteArray
def Cel.val (c:Cel):Value:=.agg #[.string c.k,.int .i64 c.s,.string c.v]
def cmpC (a b:Cel):Int:=or2 (cmpS a.k b.k) (cmpI b.s a.s)

set_option maxHeartbeats 1000000 in
theorem cell_cmp (a b:Cel)(w:World):Calls Tryz.prog 283 #[.agg #[.string a.k,.int .i64 a.s,.string a.v],.agg #[.string b.k,.int .i64 b.s,.string b.v]] w fun e w'=>e = .returned (.int .i64 (cmpC a b))∧Kept (fun _=>False) w w':=by
 go_enter Tryz.func283,Tryz.ntmps283
 go_upto_region 1 with fail
 go_region_held3 (fun w'=>w'.cell? ⟨w.heap.size,0,none⟩=some (.string a.k)∧w'.cell? ⟨w.heap.size,1,none⟩=some (.int .i64 a.s)∧w'.cell? ⟨w.heap.size+1,0,none⟩=some (.string b.k)∧w'.cell? ⟨w.heap.size+1,1,none⟩=some (.int .i64 b.s)) (first | go_keep | (go_split_ands;(simp [go_sem, *];done)))
  (first
   | (go_at_call 91;refine (or_two _ _ (cmpS a.k b.k) (cmpI b.s a.s) _ ?_ ?_).mono ?_;(simp [go_sem]);(simp [go_sem]);rintro e w4 ⟨rfl,rfl⟩)
   | (go_at_call 335;refine (cmp_str _ _ _).mono ?_;rintro e w4 ⟨rfl,rfl⟩)
   | (go_at_call 92;refine (cmp_int _ _ _).mono ?_;rintro e w4 ⟨rfl,rfl⟩))
 all_goals go_wp2
 all_goals go_ret
 all_goals exact ⟨rfl,by repeat (first | exact Kept.refl _ _ | apply Kept.alloc | apply Kept.drew)⟩
end
/- cells.Compare, and whether a cell may be. -/
section
set_option maxRecDepth 100000
open Go.RowKit

set_option maxHeartbeats 1000000 in
theorem compare_any (a b:Cel)(w:World):Calls Tryz.prog 201 #[a.val,b.val] w fun e w'=>e = .returned (.int .i64 (cmpC a b))∧Kept (fun _=>False) w w':=by
 have C:=Lib.hid (cell_cmp a b)
 unfold Cel.val
 go_enter Tryz.func201,Tryz.ntmps201
 go_wp2_with fail
 refine (C.out _).mono ?_
 rintro e w4 ⟨rfl,k4⟩
 have K4:=Lib.hid (Kept.trans (((Kept.refl (fun _=>False) w).alloc _).alloc _) k4 (fun _ _ f=>f) (fun _ _ f=>f):Kept (fun _=>False) w w4)
 clear k4
 go_wp2_with fail
 go_ret
 exact ⟨rfl,K4.out⟩
/-- May a cell be? -/
def mayC (c:Cel):Bool:=(decide (c.k≠⟨#[]⟩) && decide (c.k.size≤64)) && (decide (0≤c.s) && decide (c.v.size≤128))
theorem neB {a b:ByteArray}(h:¬ a=b):(a.toList == b.toList)=false:=by
 rw [ByteArray.toList_eq,ByteArray.toList_eq,beq_eq_false_iff_ne]
 exact fun e=>h (ByteArray.ext (Array.toList_inj.1 e))
set_option maxHeartbeats 2000000 in
theorem may_any (c:Cel)(w:World):Calls Tryz.prog 203 #[c.val] w fun e w'=>e = .returned (.bool (mayC c))∧Kept (fun _=>False) w w':=by
 obtain ⟨k,s,v⟩:=c
 unfold Cel.val
 by_cases h1:k=⟨#[]⟩
 ·subst h1
  go_enter Tryz.func203,Tryz.ntmps203
  go_wp2_with fail
  go_ret
  exact ⟨by simp [mayC],(Kept.refl _ w).alloc _⟩
 ·have f1 : (k.toList == []) = false := by simpa [ByteArray.toList_eq] using neB h1
  by_cases h2:k.size≤64
  ·have g2 : (k.size : Int) ≤ 64 := by omega
   by_cases h3:0≤s
   ·by_cases h4 : v.size ≤ 128
    ·have g4 : (v.size : Int) ≤ 128 := by omega
     go_enter Tryz.func203,Tryz.ntmps203
     go_wp2_with fail
     go_ret
     exact ⟨by simp [mayC,h1,h2,h3,h4],(Kept.refl _ w).alloc _⟩
    ·have g4 : ¬ (v.size : Int) ≤ 128 := by omega
     go_enter Tryz.func203,Tryz.ntmps203
     go_wp2_with fail
     go_ret
     exact ⟨by simp [mayC,h4],(Kept.refl _ w).alloc _⟩
   ·go_enter Tryz.func203, Tryz.ntmps203
    go_wp2_with fail
    go_ret
    exact ⟨by have h5:¬ 0≤s:=(by omega);simp [mayC,h5],(Kept.refl _ w).alloc _⟩
  ·have g2 : ¬ (k.size : Int) ≤ 64 := by omega
   go_enter Tryz.func203,Tryz.ntmps203
   go_wp2_with fail
   go_ret
   exact ⟨by simp [mayC,h2],(Kept.refl _ w).alloc _⟩
end
/- slices.BinarySearchFunc over cells, by cells.Compare. -/
section
set_option maxRecDepth 100000
open Go.RowKit

/-- A cell where it lies. -/
def CelAt (w:World)(g o:Nat)(c:Cel):Prop:=w.cell? ⟨g,o,none⟩=some (.string c.k)∧w.cell? ⟨g,o+1,none⟩=some (.int .i64 c.s)∧w.cell? ⟨g,o+2,none⟩=some (.string c.v)
theorem CelAt.kept {w w':World}{g o:Nat}{c:Cel}(h:CelAt w g o c)(K:Kept (fun _=>False) w w'):CelAt w' g o c:=⟨K.cell h.1 (fun f=>f),K.cell h.2.1 (fun f=>f),K.cell h.2.2 (fun f=>f)⟩
/-- Cells, as they can be read. -/
def CelsR (w:World)(ao:Option Addr)(l:List Cel):Prop:=l=[]∨∃ g o,ao=some ⟨g,o,none⟩∧∀ j c,l[j]? = some c→CelAt w g (o+j * 3) c
theorem CelsR.kept {w w':World}{ao:Option Addr}{l:List Cel}(h:CelsR w ao l)(K:Kept (fun _=>False) w w'):CelsR w' ao l:=by
 rcases h with h | ⟨g,o,e,h⟩
 ·exact .inl h
 ·exact .inr ⟨g,o,e,fun j c hc=>(h j c hc).kept K⟩
/-- Where a target is, or would be. -/
def SplitAt (l:List Cel)(t:Cel)(i:Nat):Prop:=i≤l.length∧(∀ (x:Nat)(c:Cel),x<i→l[x]? = some c→cmpC c t<0)∧(∀ (x:Nat)(c:Cel),i≤x→l[x]? = some c→0≤cmpC c t)
set_option maxHeartbeats 4000000 in
theorem bsearch_any {w:World}{ao:Option Addr}{cap:Nat}{l:List Cel}{t:Cel}(R:CelsR w ao l)(hl:l.length≤1000000)(hm:∀ (x y:Nat)(c d:Cel),x≤y→l[x]? = some c→l[y]? = some d→cmpC d t<0→cmpC c t<0) :
  Calls Tryz.prog 205 #[.slice ao l.length cap,t.val,.func (.func 201) #[] #[]] w fun e w'=>(∃ i,SplitAt l t i∧e = .returned (.tuple #[.int .i64 i,.bool (decide (∃ c,l[i]? = some c∧cmpC c t=0))]))∧Kept (fun _=>False) w w':=by
 obtain ⟨n,hn⟩:∃ n,l.length=n:=⟨_,rfl⟩
 have HN:=Lib.hid hn
 rw [hn] at hl ⊢
 obtain ⟨tk,ts,tv⟩:=t
 unfold Cel.val
 obtain ⟨g,hg⟩:∃ g,w.heap.size=g:=⟨_,rfl⟩
 obtain ⟨W0,hW0⟩:∃ W,w.alloc (Obj.cells #[.string tk,.int .i64 ts,.string tv] 132)=W:=⟨_,rfl⟩
 have k0:Kept (fun _=>False) w W0:=by rw [← hW0];exact (Kept.refl _ _).alloc _
 have T0:CelAt W0 g 0 ⟨tk,ts,tv⟩:=by rw [← hW0,← hg];exact ⟨by simp [go_sem],by simp [go_sem],by simp [go_sem]⟩
 have K0:=Lib.hid k0
 have TT:=Lib.hid T0
 have RR:=Lib.hid (R.kept k0)
 have HM:=Lib.hid hm
 have CC:=Lib.hid (fun (c:Cel)=>compare_any c ⟨tk,ts,tv⟩)
 unfold Cel.val at CC
 clear R hm hn k0 T0
 go_enter Tryz.func205,Tryz.ntmps205
 go_wp2_with fail
 clear hW0 hg
 go_loopg [9,10] n (fun gh t9 t10 wr=>∃ (i j:Nat),i≤j∧j≤n∧gh=j - i∧t9 = .int .i64 i∧t10 = .int .i64 j∧(∀ (x:Nat) (c:Cel),x<i→l[x]? = some c→cmpC c ⟨tk,ts,tv⟩<0)∧(∀ (x:Nat) (c:Cel),j≤x→l[x]? = some c→0≤cmpC c ⟨tk,ts,tv⟩)∧Kept (fun _=>False) W0 wr)
 case atStart=>exact ⟨0,n,by omega,by omega,by omega,rfl,rfl,fun x c h=>by omega,fun x c h1 h2=>by have:=(List.getElem?_eq_some_iff.1 h2).1;have:=HN.out;omega,Kept.refl _ _⟩
 case round=>
  obtain ⟨i,j,h1,h2,h3,rfl,rfl,h5,h6,hk⟩:=hrel
  have H3:=Lib.hid h3;have H5:=Lib.hid h5;have H6:=Lib.hid h6;have HK:=Lib.hid hk
  clear h3 h5 h6
  by_cases hij:i<j
  ·have i1 : (i : Int) < (j : Int) := by omega
   obtain ⟨h,hh⟩:∃ h:Nat,((i:Int)+(j:Int)) / 2=(h:Int):=⟨(i+j) / 2,by omega⟩
   have b1:i≤h:=by omega
   have b2:h<j:=by omega
   have hlt:h<l.length:=by have:=HN.out;omega
   have hne:¬ l=[]:=fun e=>by rw [e] at hlt;simp at hlt
   obtain ⟨c,hc⟩:∃ c,l[h]? = some c:=⟨_,List.getElem?_eq_getElem hlt⟩
   obtain ⟨gb,o,rfl,hcl⟩:=RR.out.resolve_left hne
   obtain ⟨x0,x1,x2⟩:=(hcl h c hc).kept hk
   obtain ⟨y0,y1,y2⟩:=TT.out.kept hk
   have i2:(h:Int)<(n:Int):=by omega
   have i3:(0:Int)≤(h:Int):=by omega
   have i4:wrap64 ((h:Int)+1)=((h+1:Nat):Int):=by unfold wrap64;omega
   have HC:=Lib.hid hc
   have BB:=Lib.hid (And.intro b1 (And.intro b2 h2))
   obtain ⟨ck,cs,cv⟩:=c
   dsimp only at x0 x1 x2 y0 y1 y2
   have C:=Lib.hid (CC.out ⟨ck,cs,cv⟩)
   obtain ⟨r,hr⟩:∃ r,cmpC ⟨ck,cs,cv⟩ ⟨tk,ts,tv⟩=r:=⟨_,rfl⟩
   rw [hr] at C
   have HR:=Lib.hid hr
   clear hk hlt hne hcl hc hr b1 b2 h2 hij
   simp only [Nat.zero_add] at y0 y1 y2
   by_cases hneg:r<0
   ·go_wp2_with fail
    go_region_held3 (fun w'=>w'.cell? ⟨gb,o+h * 3,none⟩=some (.string ck)∧w'.cell? ⟨gb,o+h * 3+1,none⟩=some (.int .i64 cs)∧w'.cell? ⟨gb,o+h * 3+2,none⟩=some (.string cv)∧w'.cell? ⟨g,0,none⟩=some (.string tk)∧w'.cell? ⟨g,1,none⟩=some (.int .i64 ts)∧w'.cell? ⟨g,2,none⟩=some (.string tv)) (first | go_keep | (go_split_ands;exact ⟨kk.cell (by assumption) (fun f=>f),kk.cell (by assumption) (fun f=>f),kk.cell (by assumption) (fun f=>f),kk.cell (by assumption) (fun f=>f),kk.cell (by assumption) (fun f=>f),kk.cell (by assumption) (fun f=>f)⟩))
     (first
      | (go_at_call 201;refine (C.out _).mono ?_;rintro e w4 ⟨rfl,kk⟩;(have K4:=Lib.hid (HK.out.drew.trans kk (fun _ _ f=>f) (fun _ _ f=>f):Kept (fun _=>False) W0 w4))))
    go_wp2_with fail
    go_roundg (j - (h+1))
    case measure=>have:=H3.out;have:=BB.out;omega
    case rel=>
     refine ⟨h+1,j,by have:=BB.out;omega,BB.out.2.2,rfl,rfl,rfl,fun x d hx hd=>?_,H6.out,K4.out⟩
     exact HM.out x h d _ (by omega) hd HC.out (by rw [HR.out];exact hneg)
   ·go_wp2_with fail
    go_region_held3 (fun w'=>w'.cell? ⟨gb,o+h * 3,none⟩=some (.string ck)∧w'.cell? ⟨gb,o+h * 3+1,none⟩=some (.int .i64 cs)∧w'.cell? ⟨gb,o+h * 3+2,none⟩=some (.string cv)∧w'.cell? ⟨g,0,none⟩=some (.string tk)∧w'.cell? ⟨g,1,none⟩=some (.int .i64 ts)∧w'.cell? ⟨g,2,none⟩=some (.string tv)) (first | go_keep | (go_split_ands;exact ⟨kk.cell (by assumption) (fun f=>f),kk.cell (by assumption) (fun f=>f),kk.cell (by assumption) (fun f=>f),kk.cell (by assumption) (fun f=>f),kk.cell (by assumption) (fun f=>f),kk.cell (by assumption) (fun f=>f)⟩))
     (first
      | (go_at_call 201;refine (C.out _).mono ?_;rintro e w4 ⟨rfl,kk⟩;(have K4:=Lib.hid (HK.out.drew.trans kk (fun _ _ f=>f) (fun _ _ f=>f):Kept (fun _=>False) W0 w4))))
    go_wp2_with fail
    go_roundg (h - i)
    case measure=>have:=H3.out;have:=BB.out;omega
    case rel=>
     refine ⟨i,h,BB.out.1,by have:=BB.out;omega,rfl,rfl,rfl,H5.out,fun x d hx hd=>?_,K4.out⟩
     by_cases hlt:cmpC d ⟨tk,ts,tv⟩<0
     ·have := HM.out h x _ d hx HC.out hd hlt
      rw [HR.out] at this
      omega
     ·omega
  ·have hij2 : i = j := by omega
   subst hij2
   have i1:¬ (i:Int)<(i:Int):=by omega
   by_cases hin:i<n
   ·have hlt : i < l.length := by have := HN.out; omega
    have hne:¬ l=[]:=fun e=>by rw [e] at hlt;simp at hlt
    obtain ⟨c,hc⟩:∃ c,l[i]? = some c:=⟨_,List.getElem?_eq_getElem hlt⟩
    obtain ⟨gb,o,rfl,hcl⟩:=RR.out.resolve_left hne
    obtain ⟨x0,x1,x2⟩:=(hcl i c hc).kept hk
    obtain ⟨y0,y1,y2⟩:=TT.out.kept hk
    have i2:(i:Int)<(n:Int):=by omega
    have i3:(0:Int)≤(i:Int):=by omega
    have HC:=Lib.hid hc
    have LT:=Lib.hid hlt
    obtain ⟨ck,cs,cv⟩:=c
    dsimp only at x0 x1 x2 y0 y1 y2
    have C:=Lib.hid (CC.out ⟨ck,cs,cv⟩)
    obtain ⟨r,hr⟩:∃ r,cmpC ⟨ck,cs,cv⟩ ⟨tk,ts,tv⟩=r:=⟨_,rfl⟩
    rw [hr] at C
    have HR:=Lib.hid hr
    clear hk hlt hne hcl hc hr h1 h2 hij
    simp only [Nat.zero_add] at y0 y1 y2
    go_wp2_with fail
    go_region_held3 (fun w'=>w'.cell? ⟨gb,o+i * 3,none⟩=some (.string ck)∧w'.cell? ⟨gb,o+i * 3+1,none⟩=some (.int .i64 cs)∧w'.cell? ⟨gb,o+i * 3+2,none⟩=some (.string cv)∧w'.cell? ⟨g,0,none⟩=some (.string tk)∧w'.cell? ⟨g,1,none⟩=some (.int .i64 ts)∧w'.cell? ⟨g,2,none⟩=some (.string tv)) (first | go_keep | (go_split_ands;exact ⟨kk.cell (by assumption) (fun f=>f),kk.cell (by assumption) (fun f=>f),kk.cell (by assumption) (fun f=>f),kk.cell (by assumption) (fun f=>f),kk.cell (by assumption) (fun f=>f),kk.cell (by assumption) (fun f=>f)⟩))
     (first
      | (go_at_call 201;refine (C.out _).mono ?_;rintro e w4 ⟨rfl,kk⟩;(have K4:=Lib.hid (HK.out.drew.trans kk (fun _ _ f=>f) (fun _ _ f=>f):Kept (fun _=>False) W0 w4))))
    go_wp2_with fail
    go_ret2
    have e:decide (∃ c,l[i]? = some c∧cmpC c ⟨tk,ts,tv⟩=0)=(r == 0):=by
     rw [Bool.eq_iff_iff]
     simp only [beq_iff_eq,decide_eq_true_eq]
     exact ⟨fun ⟨d,hd,e⟩=>by rw [HC.out] at hd;cases hd;rw [HR.out] at e;exact e,fun e=>⟨_,HC.out,by rw [HR.out];exact e⟩⟩
    exact ⟨⟨i,⟨by have:=LT.out;omega,H5.out,H6.out⟩,by rw [e];rfl⟩,K0.out.trans K4.out (fun _ _ f=>f) (fun _ _ f=>f)⟩
   ·have i2 : ¬ (i : Int) < (n : Int) := by omega
    have i4:n≤i:=by omega
    have HI:=Lib.hid hin
    have HI2:=Lib.hid (show i≤n from h2)
    clear hk h1 h2 hij hin
    go_wp2_with fail
    refine wp_region_held_drew (S:=fun _=>True) (by kernel_rfl) ?_ (fun hHeld=>?_)
    ·exact trivial
    refine tW 0 opAt0 hHeld ?_
    try simp only [Act.put,z2,List.set]
    refine tW 1 opAt1 hHeld ?_
    try simp only [Act.put,z2,List.set]
    refine tW 2 opAt2 hHeld ?_
    try simp only [Act.put,z2,List.set]
    refine tH (v:=.bool false) 3 opAt3 ?_ hHeld ?_
    case refine_1=>(intro w hSw;(try dsimp only at hSw);go_simp;all_goals (with_reducible rfl))
    try simp only [Act.put,z2,List.set]
    refine tH (v:=.bool false) 4 opAt4 ?_ hHeld ?_
    case refine_1=>(intro w hSw;(try dsimp only at hSw);go_simp;all_goals (with_reducible rfl))
    try simp only [Act.put,z2,List.set]
    refine tU 5 opAt5 hHeld ?_
    try simp only [Act.put,z2,List.set]
    refine tU 6 opAt6 hHeld ?_
    try simp only [Act.put,z2,List.set]
    refine tU 7 opAt7 hHeld ?_
    try simp only [Act.put,z2,List.set]
    refine tU 8 opAt8 hHeld ?_
    try simp only [Act.put,z2,List.set]
    refine tU 9 opAt9 hHeld ?_
    try simp only [Act.put,z2,List.set]
    refine tU 10 opAt10 hHeld ?_
    try simp only [Act.put,z2,List.set]
    refine tU 11 opAt11 hHeld ?_
    try simp only [Act.put,z2,List.set]
    refine tU 12 opAt12 hHeld ?_
    try simp only [Act.put,z2,List.set]
    refine tH (v:=.bool false) 13 opAt13 ?_ hHeld ?_
    case refine_1=>(intro w hSw;(try dsimp only at hSw);go_simp;all_goals (with_reducible rfl))
    try simp only [Act.put,z2,List.set]
    refine tW 14 opAt14 hHeld ?_
    try simp only [Act.put,z2,List.set]
    refine tW 15 opAt15 hHeld ?_
    try simp only [Act.put,z2,List.set]
    refine wpAnyH_done (by kernel_rfl) ?_ _
    go_wp2_with fail
    go_ret2
    have e:decide (∃ c,l[i]? = some c∧cmpC c ⟨tk,ts,tv⟩=0)=false:=by
     rw [decide_eq_false_iff_not]
     rintro ⟨d,hd,_⟩
     have:=(List.getElem?_eq_some_iff.1 hd).1
     have:=HN.out
     have:=HI.out
     omega
    exact ⟨⟨i,⟨by have:=HN.out;have:=HI2.out;omega,H5.out,H6.out⟩,by rw [e];rfl⟩,K0.out.trans HK.out.drew (fun _ _ f=>f) (fun _ _ f=>f)⟩
end
/- memory's pages: the page in which a cell is, or would be. -/
section
set_option maxRecDepth 100000
open Go.RowKit

/-- Does a page begin behind a cell? -/
def behindI (a c:Cel):Int:=if 0<cmpC a c then 1 else -1
set_option maxHeartbeats 2000000 in
theorem behind_any {w:World}{g o n cap:Nat}{a c:Cel}(h:CelAt w g o a)(hn:0<n):Calls Tryz.prog 285 #[.slice (some ⟨g,o,none⟩) n cap,c.val] w fun e w'=>e = .returned (.int .i64 (behindI a c))∧Kept (fun _=>False) w w':=by
 obtain ⟨x0,x1,x2⟩:=h
 have bg:g<w.heap.size:=World.block_lt_of_cell? _ _ x0
 have CC:=Lib.hid (compare_any a c)
 unfold behindI
 obtain ⟨r,hr⟩:∃ r,cmpC a c=r:=⟨_,rfl⟩
 rw [hr] at CC ⊢
 clear hr
 obtain ⟨ak,aq,av⟩:=a
 obtain ⟨ck,cs,cv⟩:=c
 unfold Cel.val at CC ⊢
 dsimp only at x0 x1 x2 CC ⊢
 obtain ⟨q,hq⟩:∃ q,w.heap.size=q:=⟨_,rfl⟩
 obtain ⟨W0,hW0⟩:∃ W,w.alloc (Obj.cells #[.string ck,.int .i64 cs,.string cv] 132)=W:=⟨_,rfl⟩
 have k0:Kept (fun _=>False) w W0:=by rw [← hW0];exact (Kept.refl _ _).alloc _
 have K0:=Lib.hid k0
 have x0:=k0.cell x0 (fun f=>f)
 have x1:=k0.cell x1 (fun f=>f)
 have x2:=k0.cell x2 (fun f=>f)
 have y0:W0.cell? ⟨q,0,none⟩=some (.string ck):=by rw [← hW0,← hq];simp [go_sem]
 have y1:W0.cell? ⟨q,1,none⟩=some (.int .i64 cs):=by rw [← hW0,← hq];simp [go_sem]
 have y2:W0.cell? ⟨q,2,none⟩=some (.string cv):=by rw [← hW0,← hq];simp [go_sem]
 clear k0 bg
 by_cases hpos:0<r
 all_goals
  go_enter Tryz.func285,Tryz.ntmps285
  go_wp2_with fail
  try clear hW0 hq
  go_region_held3 (fun w'=>w'.cell? ⟨g,o,none⟩=some (.string ak)∧w'.cell? ⟨g,o+1,none⟩=some (.int .i64 aq)∧w'.cell? ⟨g,o+2,none⟩=some (.string av)∧w'.cell? ⟨q,0,none⟩=some (.string ck)∧w'.cell? ⟨q,1,none⟩=some (.int .i64 cs)∧w'.cell? ⟨q,2,none⟩=some (.string cv)) (first | go_keep | (go_split_ands;exact ⟨kk.cell (by assumption) (fun f=>f),kk.cell (by assumption) (fun f=>f),kk.cell (by assumption) (fun f=>f),kk.cell (by assumption) (fun f=>f),kk.cell (by assumption) (fun f=>f),kk.cell (by assumption) (fun f=>f)⟩))
   (first
    | (go_at_call 201;refine (CC.out _).mono ?_;rintro e w4 ⟨rfl,kk⟩;(have K4:=Lib.hid (K0.out.drew.trans kk (fun _ _ f=>f) (fun _ _ f=>f):Kept (fun _=>False) w w4))))
  go_wp2_with fail
  go_ret
  exact ⟨by simp,K4.out⟩
end
/- memory's pages: binary search over pages. -/
section
set_option maxRecDepth 100000
open Go.RowKit

/-- A page, where it lies. -/
structure Pg where
 g:Nat
 o:Nat
 l:List Cel
 cap:Nat
def Pg.val (p:Pg):Value:=.slice (some ⟨p.g,p.o,none⟩) p.l.length p.cap
def Pg.Ok (p:Pg)(w:World):Prop:=p.l≠[]∧∀ x c,p.l[x]? = some c→CelAt w p.g (p.o+x * 3) c
theorem Pg.Ok.kept {p:Pg}{w w':World}(h:p.Ok w)(K:Kept (fun _=>False) w w'):p.Ok w':=⟨h.1,fun x c hc=>(h.2 x c hc).kept K⟩
/-- Pages, as they can be read. -/
def PagesR (w:World)(ao:Option Addr)(ps:List Pg):Prop:=ps=[]∨∃ g o,ao=some ⟨g,o,none⟩∧∀ j p,ps[j]? = some p→w.cell? ⟨g,o+j,none⟩=some p.val∧p.Ok w
theorem PagesR.kept {w w':World}{ao:Option Addr}{l:List Pg}(h:PagesR w ao l)(K:Kept (fun _=>False) w w'):PagesR w' ao l:=by
 rcases h with h | ⟨g,o,e,h⟩
 ·exact .inl h
 ·exact .inr ⟨g,o,e,fun j c hc=>⟨K.cell (h j c hc).1 (fun f=>f),(h j c hc).2.kept K⟩⟩
/-- On which side of a page's beginning a cell is. -/
def Pg.way (p:Pg)(t:Cel):Int:=match p.l with
 | []=>-1
 | a::_=>behindI a t
theorem way_any {p:Pg}{W:World}{t:Cel}(h:p.Ok W):Calls Tryz.prog 285 #[p.val,t.val] W fun e w'=>e = .returned (.int .i64 (p.way t))∧Kept (fun _=>False) W w':=by
 obtain ⟨g,o,l,cap⟩:=p
 cases l with
 | nil=>exact absurd rfl h.1
 | cons a l=>
  have:=h.2 0 a rfl
  rw [Nat.zero_mul,Nat.add_zero] at this
  exact behind_any this (by simp)
theorem way_ne (p:Pg)(t:Cel):p.way t=1∨p.way t = -1:=by
 unfold Pg.way
 split
 ·exact .inr rfl
 ·unfold behindI
  split
  ·exact .inl rfl
  ·exact .inr rfl
/-- Behind how many pages' beginnings a cell is. -/
def SplitPg (l:List Pg)(t:Cel)(i:Nat):Prop:=i≤l.length∧(∀ (x:Nat)(c:Pg),x<i→l[x]? = some c→c.way t<0)∧(∀ (x:Nat)(c:Pg),i≤x→l[x]? = some c→0≤c.way t)
set_option maxHeartbeats 4000000 in
theorem pbsearch_any {w:World}{ao:Option Addr}{cap:Nat}{l:List Pg}{t:Cel}(R:PagesR w ao l)(hl:l.length≤1000000)(hm:∀ (x y:Nat)(c d:Pg),x≤y→l[x]? = some c→l[y]? = some d→d.way t<0→c.way t<0) :
  Calls Tryz.prog 284 #[.slice ao l.length cap,t.val,.func (.func 285) #[] #[]] w fun e w'=>(∃ i,SplitPg l t i∧e = .returned (.tuple #[.int .i64 i,.bool false]))∧Kept (fun _=>False) w w':=by
 obtain ⟨n,hn⟩:∃ n,l.length=n:=⟨_,rfl⟩
 have HN:=Lib.hid hn
 rw [hn] at hl ⊢
 obtain ⟨tk,ts,tv⟩:=t
 unfold Cel.val
 obtain ⟨g,hg⟩:∃ g,w.heap.size=g:=⟨_,rfl⟩
 obtain ⟨W0,hW0⟩:∃ W,w.alloc (Obj.cells #[.string tk,.int .i64 ts,.string tv] 132)=W:=⟨_,rfl⟩
 have k0:Kept (fun _=>False) w W0:=by rw [← hW0];exact (Kept.refl _ _).alloc _
 have T0:CelAt W0 g 0 ⟨tk,ts,tv⟩:=by rw [← hW0,← hg];exact ⟨by simp [go_sem],by simp [go_sem],by simp [go_sem]⟩
 have K0:=Lib.hid k0
 have TT:=Lib.hid T0
 have RR:=Lib.hid (R.kept k0)
 have HM:=Lib.hid hm
 have CC:=Lib.hid (fun (c:Pg) (W:World) (h:c.Ok W)=>way_any (W:=W) (t:=⟨tk,ts,tv⟩) h)
 unfold Cel.val at CC
 clear R hm hn k0 T0
 go_enter Tryz.func284,Tryz.ntmps284
 go_wp2_with fail
 clear hW0 hg
 go_loopg [9,10] n (fun gh t9 t10 wr=>∃ (i j:Nat),i≤j∧j≤n∧gh=j - i∧t9 = .int .i64 i∧t10 = .int .i64 j∧(∀ (x:Nat) (c:Pg),x<i→l[x]? = some c→c.way ⟨tk,ts,tv⟩<0)∧(∀ (x:Nat) (c:Pg),j≤x→l[x]? = some c→0≤c.way ⟨tk,ts,tv⟩)∧Kept (fun _=>False) W0 wr)
 case atStart=>exact ⟨0,n,by omega,by omega,by omega,rfl,rfl,fun x c h=>by omega,fun x c h1 h2=>by have:=(List.getElem?_eq_some_iff.1 h2).1;have:=HN.out;omega,Kept.refl _ _⟩
 case round=>
  obtain ⟨i,j,h1,h2,h3,rfl,rfl,h5,h6,hk⟩:=hrel
  have H3:=Lib.hid h3;have H5:=Lib.hid h5;have H6:=Lib.hid h6;have HK:=Lib.hid hk
  clear h3 h5 h6
  by_cases hij:i<j
  ·have i1 : (i : Int) < (j : Int) := by omega
   obtain ⟨h,hh⟩:∃ h:Nat,((i:Int)+(j:Int)) / 2=(h:Int):=⟨(i+j) / 2,by omega⟩
   have b1:i≤h:=by omega
   have b2:h<j:=by omega
   have hlt:h<l.length:=by have:=HN.out;omega
   have hne:¬ l=[]:=fun e=>by rw [e] at hlt;simp at hlt
   obtain ⟨c,hc⟩:∃ c,l[h]? = some c:=⟨_,List.getElem?_eq_getElem hlt⟩
   obtain ⟨gb,o,rfl,hcl⟩:=RR.out.resolve_left hne
   have x0:=hk.cell (hcl h c hc).1 (fun f=>f)
   have PO:=Lib.hid ((hcl h c hc).2.kept hk)
   obtain ⟨y0,y1,y2⟩:=TT.out.kept hk
   have i2:(h:Int)<(n:Int):=by omega
   have i3:(0:Int)≤(h:Int):=by omega
   have i4:wrap64 ((h:Int)+1)=((h+1:Nat):Int):=by unfold wrap64;omega
   have HC:=Lib.hid hc
   have BB:=Lib.hid (And.intro b1 (And.intro b2 h2))
   obtain ⟨pg,po,pl,pc⟩:=c
   unfold Pg.val at x0
   dsimp only at x0 y0 y1 y2
   have C:=Lib.hid (fun (W:World) (K:Kept (fun _=>False) wr W)=>CC.out ⟨pg,po,pl,pc⟩ W (PO.out.kept K))
   obtain ⟨r,hr⟩:∃ r,Pg.way ⟨pg,po,pl,pc⟩ ⟨tk,ts,tv⟩=r:=⟨_,rfl⟩
   rw [hr] at C
   have HR:=Lib.hid hr
   clear hk hlt hne hcl hc hr b1 b2 h2 hij
   simp only [Nat.zero_add] at y0 y1 y2
   by_cases hneg:r<0
   ·go_wp2_with fail
    go_region_held3 (fun w'=>w'.cell? ⟨gb,o+h,none⟩=some (.slice (some ⟨pg,po,none⟩) pl.length pc)∧w'.cell? ⟨g,0,none⟩=some (.string tk)∧w'.cell? ⟨g,1,none⟩=some (.int .i64 ts)∧w'.cell? ⟨g,2,none⟩=some (.string tv)) (first | go_keep | (go_split_ands;exact ⟨kk.cell (by assumption) (fun f=>f),kk.cell (by assumption) (fun f=>f),kk.cell (by assumption) (fun f=>f),kk.cell (by assumption) (fun f=>f)⟩))
     (first
      | (go_at_call 285;refine (C.out _ (Kept.refl _ _).drew).mono ?_;rintro e w4 ⟨rfl,kk⟩;(have K4:=Lib.hid (HK.out.drew.trans kk (fun _ _ f=>f) (fun _ _ f=>f):Kept (fun _=>False) W0 w4))))
    go_wp2_with fail
    go_roundg (j - (h+1))
    case measure=>have:=H3.out;have:=BB.out;omega
    case rel=>
     refine ⟨h+1,j,by have:=BB.out;omega,BB.out.2.2,rfl,rfl,rfl,fun x d hx hd=>?_,H6.out,K4.out⟩
     exact HM.out x h d _ (by omega) hd HC.out (by rw [HR.out];exact hneg)
   ·go_wp2_with fail
    go_region_held3 (fun w'=>w'.cell? ⟨gb,o+h,none⟩=some (.slice (some ⟨pg,po,none⟩) pl.length pc)∧w'.cell? ⟨g,0,none⟩=some (.string tk)∧w'.cell? ⟨g,1,none⟩=some (.int .i64 ts)∧w'.cell? ⟨g,2,none⟩=some (.string tv)) (first | go_keep | (go_split_ands;exact ⟨kk.cell (by assumption) (fun f=>f),kk.cell (by assumption) (fun f=>f),kk.cell (by assumption) (fun f=>f),kk.cell (by assumption) (fun f=>f)⟩))
     (first
      | (go_at_call 285;refine (C.out _ (Kept.refl _ _).drew).mono ?_;rintro e w4 ⟨rfl,kk⟩;(have K4:=Lib.hid (HK.out.drew.trans kk (fun _ _ f=>f) (fun _ _ f=>f):Kept (fun _=>False) W0 w4))))
    go_wp2_with fail
    go_roundg (h - i)
    case measure=>have:=H3.out;have:=BB.out;omega
    case rel=>
     refine ⟨i,h,BB.out.1,by have:=BB.out;omega,rfl,rfl,rfl,H5.out,fun x d hx hd=>?_,K4.out⟩
     by_cases hlt:d.way ⟨tk,ts,tv⟩<0
     ·have := HM.out h x _ d hx HC.out hd hlt
      rw [HR.out] at this
      omega
     ·omega
  ·have hij2 : i = j := by omega
   subst hij2
   have i1:¬ (i:Int)<(i:Int):=by omega
   by_cases hin:i<n
   ·have hlt : i < l.length := by have := HN.out; omega
    have hne:¬ l=[]:=fun e=>by rw [e] at hlt;simp at hlt
    obtain ⟨c,hc⟩:∃ c,l[i]? = some c:=⟨_,List.getElem?_eq_getElem hlt⟩
    obtain ⟨gb,o,rfl,hcl⟩:=RR.out.resolve_left hne
    have x0:=hk.cell (hcl i c hc).1 (fun f=>f)
    have PO:=Lib.hid ((hcl i c hc).2.kept hk)
    obtain ⟨y0,y1,y2⟩:=TT.out.kept hk
    have i2:(i:Int)<(n:Int):=by omega
    have i3:(0:Int)≤(i:Int):=by omega
    have HC:=Lib.hid hc
    have LT:=Lib.hid hlt
    obtain ⟨pg,po,pl,pc⟩:=c
    unfold Pg.val at x0
    dsimp only at x0 y0 y1 y2
    have C:=Lib.hid (fun (W:World) (K:Kept (fun _=>False) wr W)=>CC.out ⟨pg,po,pl,pc⟩ W (PO.out.kept K))
    obtain ⟨r,hr⟩:∃ r,Pg.way ⟨pg,po,pl,pc⟩ ⟨tk,ts,tv⟩=r:=⟨_,rfl⟩
    rw [hr] at C
    have HR:=Lib.hid hr
    clear hk hlt hne hcl hc hr h1 h2 hij
    simp only [Nat.zero_add] at y0 y1 y2
    go_wp2_with fail
    go_region_held3 (fun w'=>w'.cell? ⟨gb,o+i,none⟩=some (.slice (some ⟨pg,po,none⟩) pl.length pc)∧w'.cell? ⟨g,0,none⟩=some (.string tk)∧w'.cell? ⟨g,1,none⟩=some (.int .i64 ts)∧w'.cell? ⟨g,2,none⟩=some (.string tv)) (first | go_keep | (go_split_ands;exact ⟨kk.cell (by assumption) (fun f=>f),kk.cell (by assumption) (fun f=>f),kk.cell (by assumption) (fun f=>f),kk.cell (by assumption) (fun f=>f)⟩))
     (first
      | (go_at_call 285;refine (C.out _ (Kept.refl _ _).drew).mono ?_;rintro e w4 ⟨rfl,kk⟩;(have K4:=Lib.hid (HK.out.drew.trans kk (fun _ _ f=>f) (fun _ _ f=>f):Kept (fun _=>False) W0 w4))))
    go_wp2_with fail
    go_ret2
    have e:(r == 0)=false:=by
     have h9:=way_ne ⟨pg,po,pl,pc⟩ ⟨tk,ts,tv⟩
     rw [HR.out] at h9
     simp;omega
    exact ⟨⟨i,⟨by have:=LT.out;omega,H5.out,H6.out⟩,by rw [← e];rfl⟩,K0.out.trans K4.out (fun _ _ f=>f) (fun _ _ f=>f)⟩
   ·have i2 : ¬ (i : Int) < (n : Int) := by omega
    have i4:n≤i:=by omega
    have HI:=Lib.hid hin
    have HI2:=Lib.hid (show i≤n from h2)
    clear hk h1 h2 hij hin
    go_wp2_with fail
    refine wp_region_held_drew (S:=fun _=>True) (by kernel_rfl) ?_ (fun hHeld=>?_)
    ·exact trivial
    refine tW 0 opAt0 hHeld ?_
    try simp only [Act.put,z2,List.set]
    refine tW 1 opAt1 hHeld ?_
    try simp only [Act.put,z2,List.set]
    refine tW 2 opAt2 hHeld ?_
    try simp only [Act.put,z2,List.set]
    refine tH (v:=.bool false) 3 opAt3 ?_ hHeld ?_
    case refine_1=>(intro w hSw;(try dsimp only at hSw);go_simp;all_goals (with_reducible rfl))
    try simp only [Act.put,z2,List.set]
    refine tH (v:=.bool false) 4 opAt4 ?_ hHeld ?_
    case refine_1=>(intro w hSw;(try dsimp only at hSw);go_simp;all_goals (with_reducible rfl))
    try simp only [Act.put,z2,List.set]
    refine tU 5 opAt5 hHeld ?_
    try simp only [Act.put,z2,List.set]
    refine tU 6 opAt6 hHeld ?_
    try simp only [Act.put,z2,List.set]
    refine tU 7 opAt7 hHeld ?_
    try simp only [Act.put,z2,List.set]
    refine tU 8 opAt8 hHeld ?_
    try simp only [Act.put,z2,List.set]
    refine tU 9 opAt9 hHeld ?_
    try simp only [Act.put,z2,List.set]
    refine tU 10 opAt10 hHeld ?_
    try simp only [Act.put,z2,List.set]
    refine tU 11 opAt11 hHeld ?_
    try simp only [Act.put,z2,List.set]
    refine tU 12 opAt12 hHeld ?_
    try simp only [Act.put,z2,List.set]
    refine tH (v:=.bool false) 13 opAt13 ?_ hHeld ?_
    case refine_1=>(intro w hSw;(try dsimp only at hSw);go_simp;all_goals (with_reducible rfl))
    try simp only [Act.put,z2,List.set]
    refine tW 14 opAt14 hHeld ?_
    try simp only [Act.put,z2,List.set]
    refine tW 15 opAt15 hHeld ?_
    try simp only [Act.put,z2,List.set]
    refine wpAnyH_done (by kernel_rfl) ?_ _
    go_wp2_with fail
    go_ret2
    exact ⟨⟨i,⟨by have:=HN.out;have:=HI2.out;omega,H5.out,H6.out⟩,rfl⟩,K0.out.trans HK.out.drew (fun _ _ f=>f) (fun _ _ f=>f)⟩
end
/- memory's page: the place of the page in which a cell is, or would be. -/
section
set_option maxRecDepth 100000
open Go.RowKit

set_option maxHeartbeats 2000000 in
theorem page_any {w:World}{m:Nat}{ao:Option Addr}{cap:Nat}{ps:List Pg}{t:Cel}(hc:w.cell? ⟨m,1,none⟩=some (.slice ao ps.length cap))(R:PagesR w ao ps)(hl:ps.length≤1000000)(hm:∀ (x y:Nat)(c d:Pg),x≤y→ps[x]? = some c→ps[y]? = some d→d.way t<0→c.way t<0) :
  Calls Tryz.prog 204 #[.pointer (some ⟨m,0,none⟩),t.val] w fun e w'=>(∃ i,SplitPg ps t i∧e = .returned (.int .i64 ((i - 1:Nat):Int)))∧Kept (fun _=>False) w w':=by
 have ml:m<w.heap.size:=World.block_lt_of_cell? _ _ hc
 obtain ⟨n,hn⟩:∃ n,ps.length=n:=⟨_,rfl⟩
 have HN:=Lib.hid hn
 have BS:=Lib.hid (fun (W:World) (K:Kept (fun _=>False) w W)=>pbsearch_any (w:=W) (cap:=cap) (R.kept K) hl hm)
 rw [hn] at hc hl BS
 have HL:=Lib.hid hl
 obtain ⟨tk,ts,tv⟩:=t
 unfold Cel.val at BS ⊢
 obtain ⟨q,hq⟩:∃ q,w.heap.size=q:=⟨_,rfl⟩
 obtain ⟨W0,hW0⟩:∃ W,w.alloc (Obj.cells #[.string tk,.int .i64 ts,.string tv] 132)=W:=⟨_,rfl⟩
 have k0:Kept (fun _=>False) w W0:=by rw [← hW0];exact (Kept.refl _ _).alloc _
 have K0:=Lib.hid k0
 have x0:=k0.cell hc (fun f=>f)
 have y0:W0.cell? ⟨q,0,none⟩=some (.string tk):=by rw [← hW0,← hq];simp [go_sem]
 have y1:W0.cell? ⟨q,1,none⟩=some (.int .i64 ts):=by rw [← hW0,← hq];simp [go_sem]
 have y2:W0.cell? ⟨q,2,none⟩=some (.string tv):=by rw [← hW0,← hq];simp [go_sem]
 clear R hm hn k0 hc ml hl
 go_enter Tryz.func204,Tryz.ntmps204
 go_wp2_with fail
 clear hW0 hq
 go_region_held3 (fun w'=>w'.cell? ⟨m,1,none⟩=some (.slice ao n cap)∧w'.cell? ⟨q,0,none⟩=some (.string tk)∧w'.cell? ⟨q,1,none⟩=some (.int .i64 ts)∧w'.cell? ⟨q,2,none⟩=some (.string tv)) (first | go_keep | (go_split_ands;exact ⟨kk.cell (by assumption) (fun f=>f),kk.cell (by assumption) (fun f=>f),kk.cell (by assumption) (fun f=>f),kk.cell (by assumption) (fun f=>f)⟩))
  (first
   | (go_at_call 284;refine (BS.out _ K0.out.drew).mono ?_;rintro e w4 ⟨⟨i,hs,rfl⟩,kk⟩;(have K4:=Lib.hid (K0.out.drew.trans kk (fun _ _ f=>f) (fun _ _ f=>f):Kept (fun _=>False) w w4));(have HS:=Lib.hid hs);clear hs))
 have SI:=HS.out.1
 have e1:i≤n:=by rw [← HN.out];exact SI
 have e2:n≤1000000:=HL.out
 clear SI
 cases i with
 | zero=>
  go_wp2_with fail
  go_ret
  exact ⟨⟨0,HS.out,rfl⟩,K4.out⟩
 | succ j=>
  have f1:wrap64 (j:Int)=(j:Int):=by unfold wrap64;omega
  have f2:(0:Int)≤(j:Int):=by omega
  have f3:¬ (j:Int)<0:=by omega
  clear e1 e2
  go_wp2_with fail
  go_ret
  exact ⟨⟨j+1,HS.out,rfl⟩,K4.out⟩
end
/- cells.At, cells.Stretch: where a key's cells begin; a stretch of keys. -/
section
set_option maxRecDepth 100000
open Go.RowKit

/-- On which side of a key a cell is. -/
def kway (c:Cel)(k:ByteArray):Int:=if sLt c.k k=true then -1 else 1
theorem kway_ne (c:Cel)(k:ByteArray):kway c k=1∨kway c k = -1:=by
 unfold kway
 split
 ·exact .inr rfl
 ·exact .inl rfl
set_option maxHeartbeats 1000000 in
theorem at1_any (c:Cel)(k:ByteArray)(w:World):Calls Tryz.prog 348 #[c.val,.string k] w fun e w'=>e = .returned (.int .i64 (kway c k))∧Kept (fun _=>False) w w':=by
 obtain ⟨ck,cs,cv⟩:=c
 unfold Cel.val kway sLt
 cases h:Op.bytesLess ck.toList k.toList
 all_goals
  go_enter Tryz.func348,Tryz.ntmps348
  go_wp2_with fail
  go_ret
  exact ⟨rfl,(Kept.refl _ w).alloc _⟩
/-- Where a key's cells begin. -/
def SplitK (l:List Cel)(k:ByteArray)(i:Nat):Prop:=i≤l.length∧(∀ (x:Nat)(c:Cel),x<i→l[x]? = some c→kway c k<0)∧(∀ (x:Nat)(c:Cel),i≤x→l[x]? = some c→0≤kway c k)
set_option maxHeartbeats 4000000 in
theorem sbsearch_any {w:World}{ao:Option Addr}{cap:Nat}{l:List Cel}{k:ByteArray}(R:CelsR w ao l)(hl:l.length≤1000000)(hm:∀ (x y:Nat)(c d:Cel),x≤y→l[x]? = some c→l[y]? = some d→kway d k<0→kway c k<0) :
  Calls Tryz.prog 347 #[.slice ao l.length cap,.string k,.func (.func 348) #[] #[]] w fun e w'=>(∃ i,SplitK l k i∧e = .returned (.tuple #[.int .i64 i,.bool false]))∧Kept (fun _=>False) w w':=by
 obtain ⟨n,hn⟩:∃ n,l.length=n:=⟨_,rfl⟩
 have HN:=Lib.hid hn
 rw [hn] at hl ⊢
 have RR:=Lib.hid R
 have HM:=Lib.hid hm
 have CC:=Lib.hid (fun (c:Cel)=>at1_any c k)
 unfold Cel.val at CC
 clear R hm hn
 go_enter Tryz.func347,Tryz.ntmps347
 go_wp2_with fail
 go_loopg [9,10] n (fun gh t9 t10 wr=>∃ (i j:Nat),i≤j∧j≤n∧gh=j - i∧t9 = .int .i64 i∧t10 = .int .i64 j∧(∀ (x:Nat) (c:Cel),x<i→l[x]? = some c→kway c k<0)∧(∀ (x:Nat) (c:Cel),j≤x→l[x]? = some c→0≤kway c k)∧Kept (fun _=>False) w wr)
 case atStart=>exact ⟨0,n,by omega,by omega,by omega,rfl,rfl,fun x c h=>by omega,fun x c h1 h2=>by have:=(List.getElem?_eq_some_iff.1 h2).1;have:=HN.out;omega,Kept.refl _ _⟩
 case round=>
  obtain ⟨i,j,h1,h2,h3,rfl,rfl,h5,h6,hk⟩:=hrel
  have H3:=Lib.hid h3;have H5:=Lib.hid h5;have H6:=Lib.hid h6;have HK:=Lib.hid hk
  clear h3 h5 h6
  by_cases hij:i<j
  ·have i1 : (i : Int) < (j : Int) := by omega
   obtain ⟨h,hh⟩:∃ h:Nat,((i:Int)+(j:Int)) / 2=(h:Int):=⟨(i+j) / 2,by omega⟩
   have b1:i≤h:=by omega
   have b2:h<j:=by omega
   have hlt:h<l.length:=by have:=HN.out;omega
   have hne:¬ l=[]:=fun e=>by rw [e] at hlt;simp at hlt
   obtain ⟨c,hc⟩:∃ c,l[h]? = some c:=⟨_,List.getElem?_eq_getElem hlt⟩
   obtain ⟨gb,o,rfl,hcl⟩:=RR.out.resolve_left hne
   obtain ⟨x0,x1,x2⟩:=(hcl h c hc).kept hk
   have i2:(h:Int)<(n:Int):=by omega
   have i3:(0:Int)≤(h:Int):=by omega
   have i4:wrap64 ((h:Int)+1)=((h+1:Nat):Int):=by unfold wrap64;omega
   have HC:=Lib.hid hc
   have BB:=Lib.hid (And.intro b1 (And.intro b2 h2))
   obtain ⟨ck,cs,cv⟩:=c
   dsimp only at x0 x1 x2
   have C:=Lib.hid (CC.out ⟨ck,cs,cv⟩)
   obtain ⟨r,hr⟩:∃ r,kway ⟨ck,cs,cv⟩ k=r:=⟨_,rfl⟩
   rw [hr] at C
   have HR:=Lib.hid hr
   clear hk hlt hne hcl hc hr b1 b2 h2 hij
   by_cases hneg:r<0
   ·go_wp2_with fail
    refine (C.out _).mono ?_
    rintro e w4 ⟨rfl,kk⟩
    have K4:=Lib.hid (HK.out.trans kk (fun _ _ f=>f) (fun _ _ f=>f):Kept (fun _=>False) w w4)
    clear kk x0 x1 x2
    go_wp2_with fail
    go_roundg (j - (h+1))
    case measure=>have:=H3.out;have:=BB.out;omega
    case rel=>
     refine ⟨h+1,j,by have:=BB.out;omega,BB.out.2.2,rfl,rfl,rfl,fun x d hx hd=>?_,H6.out,K4.out⟩
     exact HM.out x h d _ (by omega) hd HC.out (by rw [HR.out];exact hneg)
   ·go_wp2_with fail
    refine (C.out _).mono ?_
    rintro e w4 ⟨rfl,kk⟩
    have K4:=Lib.hid (HK.out.trans kk (fun _ _ f=>f) (fun _ _ f=>f):Kept (fun _=>False) w w4)
    clear kk x0 x1 x2
    go_wp2_with fail
    go_roundg (h - i)
    case measure=>have:=H3.out;have:=BB.out;omega
    case rel=>
     refine ⟨i,h,BB.out.1,by have:=BB.out;omega,rfl,rfl,rfl,H5.out,fun x d hx hd=>?_,K4.out⟩
     by_cases hlt:kway d k<0
     ·have := HM.out h x _ d hx HC.out hd hlt
      rw [HR.out] at this
      omega
     ·omega
  ·have hij2 : i = j := by omega
   subst hij2
   have i1:¬ (i:Int)<(i:Int):=by omega
   by_cases hin:i<n
   ·have hlt : i < l.length := by have := HN.out; omega
    have hne:¬ l=[]:=fun e=>by rw [e] at hlt;simp at hlt
    obtain ⟨c,hc⟩:∃ c,l[i]? = some c:=⟨_,List.getElem?_eq_getElem hlt⟩
    obtain ⟨gb,o,rfl,hcl⟩:=RR.out.resolve_left hne
    obtain ⟨x0,x1,x2⟩:=(hcl i c hc).kept hk
    have i2:(i:Int)<(n:Int):=by omega
    have i3:(0:Int)≤(i:Int):=by omega
    have LT:=Lib.hid hlt
    obtain ⟨ck,cs,cv⟩:=c
    dsimp only at x0 x1 x2
    have C:=Lib.hid (CC.out ⟨ck,cs,cv⟩)
    obtain ⟨r,hr⟩:∃ r,kway ⟨ck,cs,cv⟩ k=r:=⟨_,rfl⟩
    rw [hr] at C
    have e:(r == 0)=false:=by
     have h9:=kway_ne ⟨ck,cs,cv⟩ k
     rw [hr] at h9
     simp;omega
    have EZ:=Lib.hid e
    clear hk hlt hne hcl hc hr h1 h2 hij
    go_wp2_with fail
    refine (C.out _).mono ?_
    rintro e w4 ⟨rfl,kk⟩
    have K4:=Lib.hid (HK.out.trans kk (fun _ _ f=>f) (fun _ _ f=>f):Kept (fun _=>False) w w4)
    clear kk x0 x1 x2
    go_wp2_with fail
    go_ret2
    exact ⟨⟨i,⟨by have:=LT.out;omega,H5.out,H6.out⟩,by first | rfl | (rw [← EZ.out];rfl)⟩,K4.out⟩
   ·have i2 : ¬ (i : Int) < (n : Int) := by omega
    have i4:n≤i:=by omega
    have HI2:=Lib.hid (show i≤n from h2)
    clear hk h1 h2 hij hin
    go_wp2_with fail
    go_ret2
    exact ⟨⟨i,⟨by have:=HN.out;have:=HI2.out;omega,H5.out,H6.out⟩,rfl⟩,HK.out⟩
set_option maxHeartbeats 1000000 in
theorem at_any {w:World}{ao:Option Addr}{cap:Nat}{l:List Cel}{k:ByteArray}(R:CelsR w ao l)(hl:l.length≤1000000)(hm:∀ (x y:Nat)(c d:Cel),x≤y→l[x]? = some c→l[y]? = some d→kway d k<0→kway c k<0) :
  Calls Tryz.prog 295 #[.slice ao l.length cap,.string k] w fun e w'=>(∃ i,SplitK l k i∧e = .returned (.int .i64 i))∧Kept (fun _=>False) w w':=by
 have C:=Lib.hid (sbsearch_any (cap:=cap) R hl hm)
 clear R hl hm
 go_enter Tryz.func295,Tryz.ntmps295
 go_wp2_with fail
 refine C.out.mono ?_
 rintro e w4 ⟨⟨i,hs,rfl⟩,kk⟩
 have HS:=Lib.hid hs
 have KK:=Lib.hid kk
 clear hs kk
 go_wp2_with fail
 go_ret
 exact ⟨⟨i,HS.out,rfl⟩,KK.out⟩
/-- A stretch of keys, from one on, ahead of another one (none: to the end). -/
def StretchK (l:List Cel)(a b:ByteArray)(i j:Nat):Prop:=SplitK l a i∧((b=⟨#[]⟩∧j=l.length)∨(b≠⟨#[]⟩∧∃ q,SplitK l b q∧j=max i q))
set_option maxHeartbeats 2000000 in
theorem stretch_any {w:World}{ao:Option Addr}{cap:Nat}{l:List Cel}{a b:ByteArray}(R:CelsR w ao l)(hl:l.length≤1000000)(hm:∀ (k:ByteArray)(x y:Nat)(c d:Cel),x≤y→l[x]? = some c→l[y]? = some d→kway d k<0→kway c k<0) :
  Calls Tryz.prog 212 #[.slice ao l.length cap,.string a,.string b] w fun e w'=>(∃ i j,StretchK l a b i j∧e = .returned (.tuple #[.int .i64 (i:Nat),.int .i64 (j:Nat)]))∧Kept (fun _=>False) w w':=by
 have C:=Lib.hid (fun (k:ByteArray) (W:World) (K:Kept (fun _=>False) w W)=>at_any (w:=W) (cap:=cap) (k:=k) (R.kept K) hl (hm k))
 obtain ⟨n,hn⟩:∃ n,l.length=n:=⟨_,rfl⟩
 have HN:=Lib.hid hn
 rw [hn] at hl C ⊢
 have HL:=Lib.hid hl
 clear R hl hm hn
 by_cases hb:b=⟨#[]⟩
 ·subst hb
  go_enter Tryz.func212,Tryz.ntmps212
  go_wp2_with fail
  refine (C.out a _ (Kept.refl _ _)).mono ?_
  rintro e w4 ⟨⟨i,hs,rfl⟩,kk⟩
  have HS:=Lib.hid hs
  have KK:=Lib.hid kk
  clear hs kk
  go_wp2_with fail
  go_ret2
  exact ⟨⟨i,n,⟨HS.out,.inl ⟨rfl,HN.out.symm⟩⟩,rfl⟩,KK.out⟩
 ·have f1 : (b.toList == []) = false := by simpa [ByteArray.toList_eq] using neB hb
  have HB:=Lib.hid hb
  clear hb
  go_enter Tryz.func212,Tryz.ntmps212
  go_wp2_with fail
  refine (C.out a _ (Kept.refl _ _)).mono ?_
  rintro e w4 ⟨⟨i,hs,rfl⟩,kk⟩
  have HS:=Lib.hid hs
  have KK:=Lib.hid kk
  clear hs kk
  go_wp2_with fail
  refine (C.out b _ KK.out).mono ?_
  rintro e w5 ⟨⟨q,hs,rfl⟩,kk⟩
  have HQ:=Lib.hid hs
  have K5:=Lib.hid (KK.out.trans kk (fun _ _ f=>f) (fun _ _ f=>f):Kept (fun _=>False) w w5)
  clear hs kk
  by_cases hiq:i≤q
  ·have f2 : (i : Int) ≤ (q : Int) := by omega
   have M:=Lib.hid (show q=max i q by omega)
   by_cases hqi:q≤i
   ·have e : i = q := by omega
    subst e
    clear hiq hqi
    go_wp2_with fail
    go_ret2
    exact ⟨⟨i,i,⟨HS.out,.inr ⟨HB.out,i,HQ.out,by simp⟩⟩,rfl⟩,K5.out⟩
   ·have f3 : ¬ (q : Int) ≤ (i : Int) := by omega
    have f4:(i:Int)<(q:Int):=by omega
    clear hiq hqi
    go_wp2_with fail
    all_goals go_ret2
    all_goals exact ⟨⟨i,q,⟨HS.out,.inr ⟨HB.out,q,HQ.out,M.out⟩⟩,rfl⟩,K5.out⟩
  ·have f2 : (q : Int) < (i : Int) := by omega
   have M:=Lib.hid (show i=max i q by omega)
   clear hiq
   go_wp2_with fail
   all_goals go_ret2
   all_goals exact ⟨⟨i,i,⟨HS.out,.inr ⟨HB.out,q,HQ.out,M.out⟩⟩,rfl⟩,K5.out⟩
end
/- memory's Range: the cells of a stretch of keys. -/
section
open Go.RowKit

/-- Does a cell's key lie in a stretch? -/
def inK (a b:ByteArray)(c:Cel):Bool:=decide (0≤kway c a) && (decide (b=⟨#[]⟩) || decide (kway c b<0))
theorem filter_split:∀ (l:List Cel)(P:Cel→Bool)(i j:Nat),i≤j→(∀ (x:Nat)(c:Cel),l[x]? = some c→(P c=true ↔ i≤x∧x<j))→(l.drop i).take (j - i)=l.filter P
 | [],P,i,j,_,_=>by simp
 | c::l,P,i,j,hij,h=>by
  have h0:=h 0 c rfl
  have ht:=fun (i' j':Nat) (hij':i'≤j') (h':∀ (x:Nat) (d:Cel),l[x]? = some d→(P d=true ↔ i'≤x∧x<j'))=>filter_split l P i' j' hij' h'
  cases i with
  | zero=>
   cases j with
   | zero=>
    have hf:¬ P c=true:=fun e=>by have:=h0.1 e;omega
    have := ht 0 0 (Nat.le_refl _) (fun x d hd => by have := h (x + 1) d (by simpa using hd); constructor; · intro e; have := this.1 e; omega
                                                     ·intro e;omega)
    simp [hf] at this ⊢
    intro d hd
    exact this d hd
   | succ j=>
    have hp:P c=true:=h0.2 ⟨Nat.le_refl _,by omega⟩
    have := ht 0 j (Nat.zero_le _) (fun x d hd => by have := h (x + 1) d (by simpa using hd); constructor; · intro e; have := this.1 e; omega
                                                     ·intro e;exact this.2 ⟨by omega,by omega⟩)
    simp [hp] at this ⊢
    exact this
  | succ i=>
   have hf:¬ P c=true:=fun e=>by have:=h0.1 e;omega
   cases j with
   | zero=>omega
   | succ j=>
    have := ht i j (by omega) (fun x d hd => by have := h (x + 1) d (by simpa using hd); constructor; · intro e; have := this.1 e; omega
                                                ·intro e;exact this.2 ⟨by omega,by omega⟩)
    simp [hf]
    exact this
theorem stretch_le {l:List Cel}{a b:ByteArray}{i j:Nat}(h:StretchK l a b i j):i≤j∧j≤l.length:=by
 obtain ⟨h1,h2⟩:=h
 have:=h1.1
 rcases h2 with ⟨_,rfl⟩ | ⟨_,q,hq,rfl⟩
 ·exact ⟨this,Nat.le_refl _⟩
 ·have := hq.1
  omega
theorem stretch_eq {l:List Cel}{a b:ByteArray}{i j:Nat}(h:StretchK l a b i j):(l.drop i).take (j - i)=l.filter (inK a b):=by
 refine filter_split l _ i j (stretch_le h).1 (fun x c hc=>?_)
 obtain ⟨⟨_,h1,h2⟩,h3⟩:=h
 have hx:=(List.getElem?_eq_some_iff.1 hc).1
 unfold inK
 simp only [Bool.and_eq_true,Bool.or_eq_true,decide_eq_true_eq]
 constructor
 ·rintro ⟨e1, e2⟩
  have hi:i≤x:=by
   by_cases hlt:x<i
   ·have:=h1 x c hlt hc;omega
   ·omega
  refine ⟨hi,?_⟩
  rcases h3 with ⟨_,rfl⟩ | ⟨hb,q,⟨_,g1,g2⟩,rfl⟩
  ·exact hx
  ·have e3 := e2.resolve_left hb
   have:x<q:=by
    by_cases hq:q≤x
    ·have:=g2 x c hq hc;omega
    ·omega
   omega
 ·rintro ⟨e1, e2⟩
  refine ⟨h2 x c e1 hc,?_⟩
  rcases h3 with ⟨hb,_⟩ | ⟨hb,q,⟨_,g1,g2⟩,rfl⟩
  ·exact .inl hb
  ·exact .inr (g1 x c (by omega) hc)
/-- Cells, laid out. -/
def cellsC:List Cel→List Value
 | []=>[]
 | c::t=>[.string c.k,.int .i64 c.s,.string c.v]++cellsC t
theorem cellsC_length:∀ l,(cellsC l).length=l.length * 3
 | []=>rfl
 | c::t=>by simp [cellsC,cellsC_length t];omega
theorem cellsC_append:∀ a b,cellsC (a++b)=cellsC a++cellsC b
 | [],_=>rfl
 | c::t,b=>by simp [cellsC,cellsC_append t b]
theorem cellsC_one:∀ (l:List Cel),∀ u∈cellsC l,u.oneCell'=true
 | [],u,h=>by simp [cellsC] at h
 | c::t,u,h=>by
  rcases List.mem_append.1 h with h | h
  ·simp at h
   rcases h with rfl | rfl | rfl <;> rfl
  ·exact cellsC_one t u h
theorem cellsC_at {w:World}{g:Nat}:∀ (l:List Cel)(o:Nat),(∀ (x:Nat)(c:Cel),l[x]? = some c→CelAt w g (o+x * 3) c)→∀ (j:Nat)(u:Value),(cellsC l)[j]? = some u→w.cell? ⟨g,o+j,none⟩=some u
 | [],o,_,j,u,hu=>by simp [cellsC] at hu
 | c::t,o,h,j,u,hu=>by
  have h0:=h 0 c rfl
  rw [Nat.zero_mul,Nat.add_zero] at h0
  match j,hu with
  | 0,hu=>simp [cellsC] at hu;subst hu;exact h0.1
  | 1,hu=>simp [cellsC] at hu;subst hu;exact h0.2.1
  | 2,hu=>simp [cellsC] at hu;subst hu;exact h0.2.2
  | j+3,hu=>
   have:=cellsC_at t (o+3) (fun x d hd=>by
    have:=h (x+1) d (by simpa using hd)
    rwa [show o+(x+1) * 3=o+3+x * 3 by omega] at this) j u (by simpa [cellsC] using hu)
   rwa [show o+3+j=o+(j+3) by omega] at this
theorem info_132:∃ i,Tryz.prog.info? 132=some i∧i.zero=some (.agg #[.string ⟨#[]⟩,.int .i64 0,.string ⟨#[]⟩])∧i.size=3∧i.bytes=40:=by
 have h:(Tryz.prog.info? 132).map (fun i=>(i.zero,i.size,i.bytes))=some (some (.agg #[.string ⟨#[]⟩,.int .i64 0,.string ⟨#[]⟩]),3,40):=by kernel_rfl
 cases hi:Tryz.prog.info? 132 with
 | none=>rw [hi] at h;simp at h
 | some i=>
  rw [hi] at h
  simp at h
  exact ⟨i,rfl,h.1,h.2.1,h.2.2⟩
theorem cut_page (g o n cap x y:Nat)(h1:x≤y)(h2:y≤cap):∃ q,(x<y→q=o+x * 3)∧∀ W,(Instr.slice 305 (.slice (some ⟨g,o,none⟩) n cap) (some (.int .i64 (x:Nat))) (some (.int .i64 (y:Nat))) none).run Tryz.prog W = .ok (.slice (some ⟨g,q,none⟩) (y - x) (cap - x)) W:=by
 have i1:(x:Int)≤(y:Int):=by omega
 have i2:(y:Int)≤(cap:Int):=by omega
 have i3:(0:Int)≤(x:Int):=by omega
 have i4:(0:Int)≤(y:Int):=by omega
 by_cases h:cap=x
 ·have : y = x := by omega
  subst this;subst h
  exact ⟨o,fun e=>by omega,fun W=>by simp [go_sem]⟩
 ·exact ⟨o+x * 3,fun _=>rfl,fun W=>by simp [go_sem,h,i1,i2,i3]⟩
end
end Go.Proofs.YthknocapablpaaaGreatDoor
namespace Go.Proofs.YthknocapablpaaaGreatDoor.Mg
/- Rows of cells as they lie in memory; what a cell may be; which one stands ahead. -/
section
set_option maxRecDepth 100000
open Go.RowKit

/-- The cells of messages, one behind the other. -/
def cellsC:List Cel→List Value
 | []=>[]
 | m::l=>.string m.k :: .int .i64 m.s :: .string m.v::cellsC l
theorem cellsC_length:∀ L,(cellsC L).length=L.length * 3
 | []=>rfl
 | m::l=>by simp [cellsC,cellsC_length l];omega
theorem cellsC_append:∀ a b,cellsC (a++b)=cellsC a++cellsC b
 | [],b=>rfl
 | m::l,b=>by simp [cellsC,cellsC_append l b]
theorem cellsC_get:∀ (L:List Cel)(i:Nat)(m:Cel),L[i]? = some m→(cellsC L)[i * 3]? = some (.string m.k)∧(cellsC L)[i * 3+1]? = some (.int .i64 m.s)∧(cellsC L)[i * 3+2]? = some (.string m.v)
 | [],i,m,h=>by simp at h
 | x::l,0,m,h=>by simp at h;subst h;exact ⟨rfl,rfl,rfl⟩
 | x::l,i+1,m,h=>by
  have:=cellsC_get l i m (by simpa using h)
  rw [show (i+1) * 3=i * 3+3 by omega]
  exact this
theorem cellsC_take:∀ (L:List Cel)(i:Nat),cellsC (L.take i)=(cellsC L).take (i * 3)
 | _,0=>by simp [cellsC]
 | [],i+1=>by simp [cellsC]
 | m::l,i+1=>by rw [show (i+1) * 3=i * 3+3 by omega];simp [cellsC,cellsC_take l i]
theorem cellsC_drop:∀ (L:List Cel)(i:Nat),cellsC (L.drop i)=(cellsC L).drop (i * 3)
 | _,0=>by simp
 | [],i+1=>by simp [cellsC]
 | m::l,i+1=>by rw [show (i+1) * 3=i * 3+3 by omega];simp [cellsC,cellsC_drop l i]
theorem cellsC_one:∀ (L:List Cel),∀ u∈cellsC L,u.oneCell'=true
 | [],u,h=>by cases h
 | m::l,u,h=>by
  simp only [cellsC,List.mem_cons] at h
  rcases h with rfl | rfl | rfl | h
  ·rfl
  ·rfl
  ·rfl
  ·exact cellsC_one l u h
/-- A slice that reads as a list of messages. -/
def ReadsC (w:World)(v:Value)(L:List Cel):Prop:=
 ∃ ao cap,v = .slice ao L.length cap∧(L=[]∨∃ g o,ao=some ⟨g,o,none⟩∧∀ j u,(cellsC L)[j]? = some u→w.cell? ⟨g,o+j,none⟩=some u)
theorem ReadsC.of_row {w:World}{base:Nat}{v:Value}{L:List Cel}(h:w.ownsRow base 132 3 v L.length (cellsC L)):ReadsC w v L:=by
 rcases row_form h with ⟨rfl,hn⟩ | ⟨g,cap,rfl,_,_,_,hc⟩
 ·exact ⟨none,0,by rw [hn],.inl (List.eq_nil_of_length_eq_zero hn)⟩
 ·exact ⟨_,cap,rfl,.inr ⟨g,0,rfl,fun j u hu=>by rw [Nat.zero_add];exact hc j u hu⟩⟩
/-- The message that is found at a place. -/
theorem ReadsC.at {w:World}{L:List Cel}{g o:Nat}(hc:∀ j u,(cellsC L)[j]? = some u→w.cell? ⟨g,o+j,none⟩=some u){i:Nat}{m:Cel}(hm:L[i]? = some m) :
  w.cell? ⟨g,o+i * 3,none⟩=some (.string m.k)∧w.cell? ⟨g,o+i * 3+1,none⟩=some (.int .i64 m.s)∧w.cell? ⟨g,o+i * 3+2,none⟩=some (.string m.v):=by
 obtain ⟨h0,h1,h2⟩:=cellsC_get L i m hm
 exact ⟨hc _ _ h0,hc _ _ h1,hc _ _ h2⟩
theorem ReadsC.kept {S:Nat→Prop}{w w':World}{v:Value}{L:List Cel}(h:ReadsC w v L)(hK:Kept S w w')(hS:∀ k,v.ownBlock=some k→¬ S k):ReadsC w' v L:=by
 obtain ⟨ao,cap,rfl,h⟩:=h
 refine ⟨ao,cap,rfl,?_⟩
 rcases h with h | ⟨g,o,rfl,hc⟩
 ·exact .inl h
 ·exact .inr ⟨g,o,rfl,fun j u hu=>hK.cell (hc j u hu) (hS g rfl)⟩
def eqC (a b:Cel):Bool:=a.k.toList == b.k.toList && (a.s == b.s && a.v.toList == b.v.toList)
theorem bytes_eq {x y:ByteArray}(h:x.toList=y.toList):x=y:=by
 rw [ByteArray.toList_eq,ByteArray.toList_eq] at h
 exact ByteArray.ext (Array.ext' h)
/-- May a cell be? -/
def mayC (c:Cel):Bool:=decide (1≤c.k.size) && decide (c.k.size≤64) && decide (0≤c.s) && decide (c.v.size≤128)
theorem nil_iff {x:ByteArray}:x.toList=[] ↔ x.size=0:=by
 have hs:x.toList.length=x.size:=by rw [ByteArray.toList_eq];exact Array.length_toList
 rw [← hs];exact List.length_eq_zero_iff.symm
theorem emp_iff {x:ByteArray}:x=ByteArray.empty ↔ x.size=0:=by simp

theorem ret_bool' {x y:Bool}{w w':World}(h:x=y)(h2:Kept (fun _=>False) w w'):Ending.returned (.bool x) = .returned (.bool y)∧Kept (fun _=>False) w w':=⟨by rw [h],h2⟩

theorem may_any (c:Cel)(w:World):Calls Tryz.prog 203 #[.agg #[.string c.k,.int .i64 c.s,.string c.v]] w fun e w'=>e = .returned (.bool (mayC c))∧Kept (fun _=>False) w w':=by
 go_enter Tryz.func203,Tryz.ntmps203
 go_wp2
 all_goals go_ret
 all_goals exact ret_bool' (by first | (simp [mayC,aheadC,sLt,sEq, *];done) | (rw [Bool.eq_iff_iff];(try simp only [nil_iff] at *);simp [mayC];omega) | (rw [Bool.eq_iff_iff];(try simp only [nil_iff] at *);simp [mayC,nil_iff];simp only [emp_iff];omega)) (by repeat (first | exact Kept.refl _ _ | apply Kept.alloc | apply Kept.drew))
theorem cell_cmp2 (a b:Cel)(w:World):Calls Tryz.prog 201 #[.agg #[.string a.k,.int .i64 a.s,.string a.v],.agg #[.string b.k,.int .i64 b.s,.string b.v]] w fun e w'=>e = .returned (.int .i64 (cmpC a b))∧Kept (fun _=>False) w w':=by
 go_enter Tryz.func201,Tryz.ntmps201
 go_wp2_with (go_at_call 283;refine (cell_cmp a b _).mono ?_;rintro e w4 ⟨rfl,K4⟩)
 go_ret
 exact ⟨rfl,(((Kept.refl _ _).alloc _).alloc _).trans K4 (fun _ _ h=>h) (fun _ _ h=>h)⟩

def aheadC (a b:Cel):Bool:=sLt a.k b.k || (sEq a.k b.k && decide (a.s > b.s))
end
/- The walks over cells.Sorted and the document's own Sorted: is a row sorted strictly, and may each of its cells be? -/
section
set_option maxRecDepth 100000
open Go.RowKit

instance:Inhabited Cel:=⟨⟨⟨#[]⟩,0,⟨#[]⟩⟩⟩

/-- Is the cell at a place one that may be, and does it stand behind the one ahead of it? -/
def goodAt (A:List Cel)(k:Nat):Bool:=mayC (nth A k) && (decide (k=0) || aheadC (nth A (k - 1)) (nth A k))
def sortedB (A:List Cel):Bool:=(List.range A.length).all (goodAt A)
theorem sortedB_true {A:List Cel}:sortedB A=true ↔ ∀ k,k<A.length→goodAt A k=true:=by simp [sortedB]
theorem sortedB_false {A:List Cel}{k:Nat}(hk:k<A.length)(h:goodAt A k=false):sortedB A=false:=by
 cases hs:sortedB A with
 | false=>rfl
 | true=>rw [sortedB_true.1 hs k hk] at h;cases h
theorem nth_get {α:Type} [Inhabited α](A:List α){k:Nat}(h:k<A.length):A[k]? = some (nth A k):=by
 rw [List.getElem?_eq_getElem h];simp [nth,h]
theorem aheadC_iff (a b:Cel):aheadC a b=true ↔ cmpC a b<0:=by
 unfold aheadC cmpC or2 cmpS cmpI
 cases h1:sLt a.k b.k
 ·cases h2 : sEq a.k b.k
  ·simp
  ·simp
   by_cases h3:b.s<a.s
   ·simp [h3]
   ·by_cases h4:a.s<b.s <;> simp [h3,h4]
 ·simp

set_option maxHeartbeats 2000000 in
theorem sorted_any (w:World)(v:Value)(A:List Cel)(ha:ReadsC w v A)(hl:A.length≤1000) :
  Calls Tryz.prog 298 #[v] w fun e w'=>e = .returned (.bool (sortedB A))∧Kept (fun _=>False) w w':=by
 obtain ⟨ao,capa,rfl,ha⟩:=ha
 have HA:=Lib.hid ha;clear ha
 go_enter Tryz.func298,Tryz.ntmps298
 go_wp2
 go_loopg [8] A.length (fun g t wr=>∃ k:Nat,k+g=A.length∧t = .int .i64 k∧Kept (fun _=>False) w wr∧∀ i,i<k→goodAt A i=true)
 case atStart=>exact ⟨0,by omega,rfl,Kept.refl _ _,by omega⟩
 case round=>
  obtain ⟨k,hk,rfl,KW,hgood⟩:=hrel
  have hk1:k≤A.length:=by omega
  have J:=Lib.hid hk;have EQ:=Lib.hid hgood;have KW0:=Lib.hid KW
  clear hk hgood KW
  by_cases hlt:k<A.length
  ·rcases HA.out with h0 | ⟨ga, oa, rfl, hca⟩
   ·rw [h0] at hlt;simp at hlt
   obtain ⟨m,hm⟩:∃ m,nth A k=m:=⟨_,rfl⟩
   have hmk:=nth_get A hlt
   rw [hm] at hmk
   obtain ⟨a0,a1,a2⟩:=ReadsC.at hca hmk
   have b0:=KW0.out.cell a0 (fun f=>f)
   have b1:=KW0.out.cell a1 (fun f=>f)
   have b2:=KW0.out.cell a2 (fun f=>f)
   have hga:=World.block_lt_of_cell? _ _ b0
   simp only at hga
   have i1:(0:Int)≤(k:Int):=by omega
   have i2:(k:Int)<(A.length:Int):=by omega
   have HM:=Lib.hid hm;have HMK:=Lib.hid hmk
   clear a0 a1 a2 hm hmk
   cases hmay:mayC m with
   | false=>
    clear hca
    go_upto_region 5 with fail
    refine wp_region_held_drew (S:=(fun w'=>w'.cell? ⟨wr.heap.size,0,none⟩=some (.string m.k)∧w'.cell? ⟨wr.heap.size,1,none⟩=some (.int .i64 m.s)∧w'.cell? ⟨wr.heap.size,2,none⟩=some (.string m.v))) (by kernel_rfl) ?_ (fun hHeld=>?_)
    ·first | go_keep | (go_split_ands;(simp [go_sem, *];done))
    refine tW 0 opAt0 hHeld ?_
    try simp only [Act.put,z2,List.set]
    refine tW 1 opAt1 hHeld ?_
    try simp only [Act.put,z2,List.set]
    refine wpAnyH_ready (rs:=[2]) (by kernel_rfl) (by simp) ?_
    refine AllReadyH.cons opAt2 (fun K hK=>?_) AllReadyH.nil
    go_simp
    go_at_call 203;refine (may_any m _).mono ?_;rw [hmay];rintro e w4 ⟨rfl,K4⟩;have KW4:=Lib.hid K4;clear K4;dsimp only
    refine hK.out _ _ ?_ (fun hHeld=>?_)
    ·refine ⟨KW4.out.cell hHeld.1 (fun f=>f),KW4.out.cell hHeld.2.1 (fun f=>f),KW4.out.cell hHeld.2.2 (fun f=>f)⟩
    clear hK K
    try simp only [Act.put,z2,List.set]
    refine tW 3 opAt3 hHeld ?_
    try simp only [Act.put,z2,List.set]
    refine tW 4 opAt4 hHeld ?_
    try simp only [Act.put,z2,List.set]
    refine tU 5 opAt5 hHeld ?_
    try simp only [Act.put,z2,List.set]
    refine tU 6 opAt6 hHeld ?_
    try simp only [Act.put,z2,List.set]
    refine tU 7 opAt7 hHeld ?_
    try simp only [Act.put,z2,List.set]
    refine tU 8 opAt8 hHeld ?_
    try simp only [Act.put,z2,List.set]
    refine tU 9 opAt9 hHeld ?_
    try simp only [Act.put,z2,List.set]
    refine tU 10 opAt10 hHeld ?_
    try simp only [Act.put,z2,List.set]
    refine tU 11 opAt11 hHeld ?_
    try simp only [Act.put,z2,List.set]
    refine tU 12 opAt12 hHeld ?_
    try simp only [Act.put,z2,List.set]
    refine tU 13 opAt13 hHeld ?_
    try simp only [Act.put,z2,List.set]
    refine tU 14 opAt14 hHeld ?_
    try simp only [Act.put,z2,List.set]
    refine tU 15 opAt15 hHeld ?_
    try simp only [Act.put,z2,List.set]
    refine tU 16 opAt16 hHeld ?_
    try simp only [Act.put,z2,List.set]
    refine tW 17 opAt17 hHeld ?_
    try simp only [Act.put,z2,List.set]
    refine wpAnyH_done (by kernel_rfl) ?_ _
    go_wp2
    go_ret
    exact ret_bool' (sortedB_false hlt (by unfold goodAt;rw [HM.out,hmay];rfl)).symm (((KW0.out.alloc _).drew).trans KW4.out (fun _ _ h=>h) (fun _ _ h=>h))
   | true=>
    by_cases hk0:k=0
    ·have e0 : decide (0 < k) = false := by simp [hk0]
     have HK:=Lib.hid hk0;clear hk0 hca
     go_upto_region 5 with fail
     refine wp_region_held_drew (S:=(fun w'=>w'.cell? ⟨wr.heap.size,0,none⟩=some (.string m.k)∧w'.cell? ⟨wr.heap.size,1,none⟩=some (.int .i64 m.s)∧w'.cell? ⟨wr.heap.size,2,none⟩=some (.string m.v))) (by kernel_rfl) ?_ (fun hHeld=>?_)
     ·first | go_keep | (go_split_ands;(simp [go_sem, *];done))
     refine tW 0 opAt0 hHeld ?_
     try simp only [Act.put,z2,List.set]
     refine tW 1 opAt1 hHeld ?_
     try simp only [Act.put,z2,List.set]
     refine wpAnyH_ready (rs:=[2]) (by kernel_rfl) (by simp) ?_
     refine AllReadyH.cons opAt2 (fun K hK=>?_) AllReadyH.nil
     go_simp
     go_at_call 203;refine (may_any m _).mono ?_;rw [hmay];rintro e w4 ⟨rfl,K4⟩;have KW4:=Lib.hid K4;clear K4;dsimp only
     refine hK.out _ _ ?_ (fun hHeld=>?_)
     ·refine ⟨KW4.out.cell hHeld.1 (fun f=>f),KW4.out.cell hHeld.2.1 (fun f=>f),KW4.out.cell hHeld.2.2 (fun f=>f)⟩
     clear hK K
     try simp only [Act.put,z2,List.set]
     refine tW 3 opAt3 hHeld ?_
     try simp only [Act.put,z2,List.set]
     refine tW 4 opAt4 hHeld ?_
     try simp only [Act.put,z2,List.set]
     refine tW 5 opAt5 hHeld ?_
     try simp only [Act.put,z2,List.set]
     refine tW 6 opAt6 hHeld ?_
     try simp only [Act.put,z2,List.set]
     refine tW 7 opAt7 hHeld ?_
     try simp only [Act.put,z2,List.set]
     refine tU 8 opAt8 hHeld ?_
     try simp only [Act.put,z2,List.set]
     refine tU 9 opAt9 hHeld ?_
     try simp only [Act.put,z2,List.set]
     refine tU 10 opAt10 hHeld ?_
     try simp only [Act.put,z2,List.set]
     refine tU 11 opAt11 hHeld ?_
     try simp only [Act.put,z2,List.set]
     refine tU 12 opAt12 hHeld ?_
     try simp only [Act.put,z2,List.set]
     refine tU 13 opAt13 hHeld ?_
     try simp only [Act.put,z2,List.set]
     refine tU 14 opAt14 hHeld ?_
     try simp only [Act.put,z2,List.set]
     refine tU 15 opAt15 hHeld ?_
     try simp only [Act.put,z2,List.set]
     refine tW 16 opAt16 hHeld ?_
     try simp only [Act.put,z2,List.set]
     refine tW 17 opAt17 hHeld ?_
     try simp only [Act.put,z2,List.set]
     refine wpAnyH_done (by kernel_rfl) ?_ _
     go_wp2
     go_roundg (gk - 1)
     case measure=>have:=J.out;omega
     case rel=>exact ⟨k+1,by have:=J.out;omega,by go_num,(((KW0.out.alloc _).drew).trans KW4.out (fun _ _ h=>h) (fun _ _ h=>h)),fun i hi=>by
      have:i=k:=by have:=HK.out;omega
      subst this;unfold goodAt;rw [HM.out,hmay,HK.out];rfl⟩
    ·have e0 : decide (0 < k) = true := by simp; omega
     obtain ⟨j,hj⟩:∃ j,k=j+1:=⟨k - 1,by omega⟩
     obtain ⟨q,hq⟩:∃ q,nth A j=q:=⟨_,rfl⟩
     have hqj:=nth_get A (show j<A.length by omega)
     rw [hq] at hqj
     obtain ⟨a0,a1,a2⟩:=ReadsC.at hca hqj
     have d0:=KW0.out.cell a0 (fun f=>f)
     have d1:=KW0.out.cell a1 (fun f=>f)
     have d2:=KW0.out.cell a2 (fun f=>f)
     clear hca a0 a1 a2
     have i3:(j:Int)<(A.length:Int):=by omega
     have i4:(0:Int)≤(j:Int):=by omega
     have e3:IntKind.i64.wrap ((k:Int) - 1)=(j:Int):=by rw [show (k:Int) - 1=(j:Int) by omega];exact IntWalk.i64_in _ (by omega)
     have HQ:=Lib.hid hq;have HQJ:=Lib.hid hqj;have HJ:=Lib.hid hj;clear hq hqj hj hk0
     have ec:cmpC q m<0∨0≤cmpC q m:=by omega
     rcases ec with ec | ec
     ·have e5 : decide (0 ≤ cmpC q m) = false := by simp; omega
      go_upto_region 5 with fail
      refine wp_region_held_drew (S:=(fun w'=>w'.cell? ⟨wr.heap.size,0,none⟩=some (.string m.k)∧w'.cell? ⟨wr.heap.size,1,none⟩=some (.int .i64 m.s)∧w'.cell? ⟨wr.heap.size,2,none⟩=some (.string m.v)∧w'.cell? ⟨ga,oa+j * 3,none⟩=some (.string q.k)∧w'.cell? ⟨ga,oa+j * 3+1,none⟩=some (.int .i64 q.s)∧w'.cell? ⟨ga,oa+j * 3+2,none⟩=some (.string q.v))) (by kernel_rfl) ?_ (fun hHeld=>?_)
      ·first | go_keep | (go_split_ands;(simp [go_sem, *];done))
      refine tW 0 opAt0 hHeld ?_
      try simp only [Act.put,z2,List.set]
      refine tW 1 opAt1 hHeld ?_
      try simp only [Act.put,z2,List.set]
      refine wpAnyH_ready (rs:=[2]) (by kernel_rfl) (by simp) ?_
      refine AllReadyH.cons opAt2 (fun K hK=>?_) AllReadyH.nil
      go_simp
      go_at_call 203;refine (may_any m _).mono ?_;rw [hmay];rintro e w4 ⟨rfl,K4⟩;have KW4:=Lib.hid K4;clear K4;dsimp only
      refine hK.out _ _ ?_ (fun hHeld=>?_)
      ·refine ⟨KW4.out.cell hHeld.1 (fun f=>f),KW4.out.cell hHeld.2.1 (fun f=>f),KW4.out.cell hHeld.2.2.1 (fun f=>f),KW4.out.cell hHeld.2.2.2.1 (fun f=>f),KW4.out.cell hHeld.2.2.2.2.1 (fun f=>f),KW4.out.cell hHeld.2.2.2.2.2 (fun f=>f)⟩
      clear hK K
      try simp only [Act.put,z2,List.set]
      refine tW 3 opAt3 hHeld ?_
      try simp only [Act.put,z2,List.set]
      refine tW 4 opAt4 hHeld ?_
      try simp only [Act.put,z2,List.set]
      refine tW 5 opAt5 hHeld ?_
      try simp only [Act.put,z2,List.set]
      refine tW 6 opAt6 hHeld ?_
      try simp only [Act.put,z2,List.set]
      refine tW 7 opAt7 hHeld ?_
      try simp only [Act.put,z2,List.set]
      refine tW 8 opAt8 hHeld ?_
      try simp only [Act.put,z2,List.set]
      refine tW 9 opAt9 hHeld ?_
      try simp only [Act.put,z2,List.set]
      refine tW 10 opAt10 hHeld ?_
      try simp only [Act.put,z2,List.set]
      refine tW 11 opAt11 hHeld ?_
      try simp only [Act.put,z2,List.set]
      refine tW 12 opAt12 hHeld ?_
      try simp only [Act.put,z2,List.set]
      refine tW 13 opAt13 hHeld ?_
      try simp only [Act.put,z2,List.set]
      refine wpAnyH_ready (rs:=[14]) (by kernel_rfl) (by simp) ?_
      refine AllReadyH.cons opAt14 (fun K hK=>?_) AllReadyH.nil
      go_simp
      go_at_call 201;refine (cell_cmp2 q m _).mono ?_;rintro e w5 ⟨rfl,K5⟩;have KW5:=Lib.hid K5;clear K5;dsimp only
      refine hK.out _ _ ?_ (fun hHeld=>?_)
      ·refine ⟨KW5.out.cell hHeld.1 (fun f=>f),KW5.out.cell hHeld.2.1 (fun f=>f),KW5.out.cell hHeld.2.2.1 (fun f=>f),KW5.out.cell hHeld.2.2.2.1 (fun f=>f),KW5.out.cell hHeld.2.2.2.2.1 (fun f=>f),KW5.out.cell hHeld.2.2.2.2.2 (fun f=>f)⟩
      clear hK K
      try simp only [Act.put,z2,List.set]
      refine tW 15 opAt15 hHeld ?_
      try simp only [Act.put,z2,List.set]
      refine tW 16 opAt16 hHeld ?_
      try simp only [Act.put,z2,List.set]
      refine tW 17 opAt17 hHeld ?_
      try simp only [Act.put,z2,List.set]
      refine wpAnyH_done (by kernel_rfl) ?_ _
      go_wp2
      go_roundg (gk - 1)
      case measure=>have:=J.out;omega
      case rel=>exact ⟨k+1,by have:=J.out;omega,by go_num,((((KW0.out.alloc _).drew).trans KW4.out (fun _ _ h=>h) (fun _ _ h=>h)).trans KW5.out (fun _ _ h=>h) (fun _ _ h=>h)),fun i hi=>by
       by_cases hik:i=k
       ·subst hik; unfold goodAt; rw [HM.out, hmay]
        have:i - 1=j:=by have:=HJ.out;omega
        rw [this,HQ.out,(aheadC_iff _ _).2 ec];simp
       ·exact EQ.out i (by omega)⟩
     ·have e5 : decide (0 ≤ cmpC q m) = true := by simpa using ec
      go_upto_region 5 with fail
      refine wp_region_held_drew (S:=(fun w'=>w'.cell? ⟨wr.heap.size,0,none⟩=some (.string m.k)∧w'.cell? ⟨wr.heap.size,1,none⟩=some (.int .i64 m.s)∧w'.cell? ⟨wr.heap.size,2,none⟩=some (.string m.v)∧w'.cell? ⟨ga,oa+j * 3,none⟩=some (.string q.k)∧w'.cell? ⟨ga,oa+j * 3+1,none⟩=some (.int .i64 q.s)∧w'.cell? ⟨ga,oa+j * 3+2,none⟩=some (.string q.v))) (by kernel_rfl) ?_ (fun hHeld=>?_)
      ·first | go_keep | (go_split_ands;(simp [go_sem, *];done))
      refine tW 0 opAt0 hHeld ?_
      try simp only [Act.put,z2,List.set]
      refine tW 1 opAt1 hHeld ?_
      try simp only [Act.put,z2,List.set]
      refine wpAnyH_ready (rs:=[2]) (by kernel_rfl) (by simp) ?_
      refine AllReadyH.cons opAt2 (fun K hK=>?_) AllReadyH.nil
      go_simp
      go_at_call 203;refine (may_any m _).mono ?_;rw [hmay];rintro e w4 ⟨rfl,K4⟩;have KW4:=Lib.hid K4;clear K4;dsimp only
      refine hK.out _ _ ?_ (fun hHeld=>?_)
      ·refine ⟨KW4.out.cell hHeld.1 (fun f=>f),KW4.out.cell hHeld.2.1 (fun f=>f),KW4.out.cell hHeld.2.2.1 (fun f=>f),KW4.out.cell hHeld.2.2.2.1 (fun f=>f),KW4.out.cell hHeld.2.2.2.2.1 (fun f=>f),KW4.out.cell hHeld.2.2.2.2.2 (fun f=>f)⟩
      clear hK K
      try simp only [Act.put,z2,List.set]
      refine tW 3 opAt3 hHeld ?_
      try simp only [Act.put,z2,List.set]
      refine tW 4 opAt4 hHeld ?_
      try simp only [Act.put,z2,List.set]
      refine tW 5 opAt5 hHeld ?_
      try simp only [Act.put,z2,List.set]
      refine tW 6 opAt6 hHeld ?_
      try simp only [Act.put,z2,List.set]
      refine tW 7 opAt7 hHeld ?_
      try simp only [Act.put,z2,List.set]
      refine tW 8 opAt8 hHeld ?_
      try simp only [Act.put,z2,List.set]
      refine tW 9 opAt9 hHeld ?_
      try simp only [Act.put,z2,List.set]
      refine tW 10 opAt10 hHeld ?_
      try simp only [Act.put,z2,List.set]
      refine tW 11 opAt11 hHeld ?_
      try simp only [Act.put,z2,List.set]
      refine tW 12 opAt12 hHeld ?_
      try simp only [Act.put,z2,List.set]
      refine tW 13 opAt13 hHeld ?_
      try simp only [Act.put,z2,List.set]
      refine wpAnyH_ready (rs:=[14]) (by kernel_rfl) (by simp) ?_
      refine AllReadyH.cons opAt14 (fun K hK=>?_) AllReadyH.nil
      go_simp
      go_at_call 201;refine (cell_cmp2 q m _).mono ?_;rintro e w5 ⟨rfl,K5⟩;have KW5:=Lib.hid K5;clear K5;dsimp only
      refine hK.out _ _ ?_ (fun hHeld=>?_)
      ·refine ⟨KW5.out.cell hHeld.1 (fun f=>f),KW5.out.cell hHeld.2.1 (fun f=>f),KW5.out.cell hHeld.2.2.1 (fun f=>f),KW5.out.cell hHeld.2.2.2.1 (fun f=>f),KW5.out.cell hHeld.2.2.2.2.1 (fun f=>f),KW5.out.cell hHeld.2.2.2.2.2 (fun f=>f)⟩
      clear hK K
      try simp only [Act.put,z2,List.set]
      refine tW 15 opAt15 hHeld ?_
      try simp only [Act.put,z2,List.set]
      refine tW 16 opAt16 hHeld ?_
      try simp only [Act.put,z2,List.set]
      refine tW 17 opAt17 hHeld ?_
      try simp only [Act.put,z2,List.set]
      refine wpAnyH_done (by kernel_rfl) ?_ _
      go_wp2
      go_ret
      exact ret_bool' (sortedB_false hlt (by
       unfold goodAt;rw [HM.out,hmay]
       have h1:k - 1=j:=by have:=HJ.out;omega
       have h2:aheadC q m=false:=by
        cases h:aheadC q m with
        | false=>rfl
        | true=>have:=(aheadC_iff _ _).1 h;omega
       have h3:k≠0:=by have:=HJ.out;omega
       rw [h1,HQ.out,h2];simp [h3])).symm ((((KW0.out.alloc _).drew).trans KW4.out (fun _ _ h=>h) (fun _ _ h=>h)).trans KW5.out (fun _ _ h=>h) (fun _ _ h=>h))
  ·have hk2 : k = A.length := by omega
   have e0:decide ((k:Int)<(A.length:Int))=false:=by simp;omega
   have K2:=Lib.hid hk2;clear hk2
   go_wp2
   go_ret
   exact ret_bool' (sortedB_true.2 fun i hi=>EQ.out i (by have:=K2.out;omega)).symm KW0.out

end
end Go.Proofs.YthknocapablpaaaGreatDoor.Mg
