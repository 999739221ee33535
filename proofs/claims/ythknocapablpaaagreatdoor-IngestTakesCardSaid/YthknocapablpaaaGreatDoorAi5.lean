/- A part of the proof. -/
import Derived.Test.YthknocapablpaaaGreatDoorProg
import Derived.Laws.RangeString
import Derived.Deep.RegionHeld3
import Derived.Test.YthknocapablpaaaGreatDoorAi1
import Derived.Test.YthknocapablpaaaGreatDoorAi2
import Derived.Test.YthknocapablpaaaGreatDoorAi4
namespace Go.Proofs.YthknocapablpaaaGreatDoor
/- spans.Name of any string, by the library's ContainsFunc. -/
section
set_option maxRecDepth 100000
open Go.RowKit Go.Shelf Go.Lib

theorem nil_iff {x:ByteArray}:x.toList=[] ↔ x.size=0:=by
 have hs:x.toList.length=x.size:=by rw [ByteArray.toList_eq];exact Array.length_toList
 rw [← hs];exact List.length_eq_zero_iff.symm
def oddP (c:Nat):Bool:=decide (c≤32) || decide (126<c)
theorem odd_all (c:Nat)(w:World):Calls Tryz.prog 138 #[.int .i32 (c:Int)] w fun e w'=>e = .returned (.bool (oddP c))∧∃ q,w'=w.drewN q:=by
 unfold oddP
 by_cases h1:(c:Int)≤32
 ·go_enter Tryz.func138, Tryz.ntmps138
  go_wp2
  go_ret
  have e:decide (c≤32)=true:=by simp;omega
  exact ⟨by rw [e];rfl,0,rfl⟩
 ·by_cases h2 : (126 : Int) < (c : Int)
  ·go_enter Tryz.func138, Tryz.ntmps138
   go_wp2
   go_ret
   have e:decide (126<c)=true:=by simp;omega
   exact ⟨by rw [e,Bool.or_true];rfl,0,rfl⟩
  ·go_enter Tryz.func138, Tryz.ntmps138
   go_wp2
   go_ret
   have e1:decide (c≤32)=false:=by simp;omega
   have e2:decide (126<c)=false:=by simp;omega
   exact ⟨by rw [e1,e2];rfl,0,rfl⟩
theorem contains_all (s:ByteArray)(w:World):Calls Tryz.prog 139 #[.string s,.func (.func 138) #[] #[]] w fun e w'=>e = .returned (.bool (decide (0≤Lib.idxFunc oddP true s)))∧Kept (fun _=>False) w w':=by
 have h:=Any.strings_ContainsFunc Tryz.l17 138 #[] (enters_of Tryz.func138 (by kernel_rfl) rfl) oddP s w (fun W x _=>odd_all x W)
 change Calls Tryz.prog 139 _ _ _ at h
 exact h.mono fun e w' ⟨he,hb⟩=>⟨he,hb.os,hb.tape,hb.output,hb.size,fun k hk _=>hb.block k hk⟩
def nameB (s:ByteArray):Bool:=decide (s.size≠0) && decide (s.size≤12) && !decide (0≤Lib.idxFunc oddP true s)
theorem name_all (s:ByteArray)(hs:s.size≤9223372036854775807)(w:World):Calls Tryz.prog 76 #[.string s] w fun e w'=>e = .returned (.bool (nameB s))∧Kept (fun _=>False) w w':=by
 have C:=Lib.hid (contains_all s)
 obtain ⟨B,hB⟩:∃ B,decide (0≤Lib.idxFunc oddP true s)=B:=⟨_,rfl⟩
 rw [hB] at C
 unfold nameB
 rw [hB]
 clear hB
 by_cases h0:s.size=0
 ·have e2:(s.toList == ([]:List UInt8))=true:=by
   have:s.toList=[]:=nil_iff.2 h0
   simpa using this
  have e3:decide (s.size≠0)=false:=by simp [h0]
  rw [e3]
  clear h0 e3
  go_enter Tryz.func76,Tryz.ntmps76
  go_wp2
  go_ret
  exact ⟨rfl,Kept.refl _ w⟩
 ·have e2:(s.toList == ([]:List UInt8))=false:=by
   have:¬ s.toList=[]:=fun e=>h0 (nil_iff.1 e)
   simpa using this
  have e3:decide (s.size≠0)=true:=by simp [h0]
  rw [e3]
  by_cases h1:(s.size:Int)≤12
  ·have e4 : decide (s.size ≤ 12) = true := by simp; omega
   rw [e4]
   clear h0 e3 e4
   go_enter Tryz.func76,Tryz.ntmps76
   go_wp2_with (go_at_call 139;refine (C.out _).mono ?_;rintro e w4 ⟨rfl,k4⟩)
   go_ret
   exact ⟨by cases B <;> rfl,k4⟩
  ·have e4 : decide (s.size ≤ 12) = false := by simp; omega
   rw [e4]
   clear h0 e3 e4
   go_enter Tryz.func76,Tryz.ntmps76
   go_wp2
   go_ret
   exact ⟨rfl,Kept.refl _ w⟩
end
/- spans.Check of any span. -/
section
set_option maxRecDepth 100000
open Go.RowKit

def aggS (m:Spn):Value:=.agg #[.int .i64 m.tr,.int .i64 m.id,.int .i64 m.pa,.string m.se,.string m.ho,.int .i64 m.st,.int .i64 m.du,.string m.no]
def numsV (p:Nat):Value:=.agg #[.pointer (some ⟨p,0,none⟩),.int .i64 1,.int .i64 2147483647,.pointer (some ⟨p,1,none⟩),.int .i64 1,.int .i64 2147483647,.pointer (some ⟨p,2,none⟩),.int .i64 0,.int .i64 2147483647,.pointer (some ⟨p,5,none⟩),.int .i64 0,.int .i64 1073741824,.pointer (some ⟨p,6,none⟩),.int .i64 0,.int .i64 1073741824]

theorem ix0 (p:Nat)(W:World):(Instr.index 187 (numsV p) (.int .i64 0)).run Tryz.prog W = .ok (.agg #[.pointer (some ⟨p,0,none⟩),.int .i64 1,.int .i64 2147483647]) W:=by kernel_rfl
theorem ix1 (p:Nat)(W:World):(Instr.index 187 (numsV p) (.int .i64 1)).run Tryz.prog W = .ok (.agg #[.pointer (some ⟨p,1,none⟩),.int .i64 1,.int .i64 2147483647]) W:=by kernel_rfl
theorem ix2 (p:Nat)(W:World):(Instr.index 187 (numsV p) (.int .i64 2)).run Tryz.prog W = .ok (.agg #[.pointer (some ⟨p,2,none⟩),.int .i64 0,.int .i64 2147483647]) W:=by kernel_rfl
theorem ix3 (p:Nat)(W:World):(Instr.index 187 (numsV p) (.int .i64 3)).run Tryz.prog W = .ok (.agg #[.pointer (some ⟨p,5,none⟩),.int .i64 0,.int .i64 1073741824]) W:=by kernel_rfl
theorem ix4 (p:Nat)(W:World):(Instr.index 187 (numsV p) (.int .i64 4)).run Tryz.prog W = .ok (.agg #[.pointer (some ⟨p,6,none⟩),.int .i64 0,.int .i64 1073741824]) W:=by kernel_rfl
set_option maxHeartbeats 4000000 in
theorem numbers_any (p:Nat)(w:World):Calls Tryz.prog 101 #[.pointer (some ⟨p,0,none⟩)] w fun e w'=>e = .returned (numsV p)∧Kept (fun _=>False) w w':=by
 go_enter Tryz.func101,Tryz.ntmps101
 go_wp2
 go_region
 all_goals go_wp2
 refine bodyPost_ret (v:=_) (by simp [results,Tryz.results101,go_sem];try rfl) rfl ?_
 exact ⟨rfl,((Kept.refl _ w).alloc _).drew⟩

def offJ:Nat→Nat | 0=>0 | 1=>1 | 2=>2 | 3=>5 | _=>6
def leastJ:Nat→Int | 0=>1 | 1=>1 | _=>0
def mostJ:Nat→Int | 0=>2147483647 | 1=>2147483647 | 2=>2147483647 | _=>1073741824
def numJ (m:Spn):Nat→Int | 0=>m.tr | 1=>m.id | 2=>m.pa | 3=>m.st | _=>m.du
def okJ (m:Spn)(j:Nat):Bool:=decide (leastJ j≤numJ m j) && decide (numJ m j≤mostJ j)
def chkB (m:Spn):Bool:=okJ m 0 && okJ m 1 && okJ m 2 && okJ m 3 && okJ m 4 && nameB m.se && nameB m.ho && decide (m.no.size≤24)
def errN:Bool→Int | true=>0 | false=>2
theorem chk_num {m:Spn}(h:chkB m=true):(1≤m.tr∧m.tr≤2147483647)∧(1≤m.id∧m.id≤2147483647)∧(0≤m.pa∧m.pa≤2147483647)∧(0≤m.st∧m.st≤1073741824)∧(0≤m.du∧m.du≤1073741824):=by
 unfold chkB okJ leastJ mostJ numJ at h
 simp at h
 omega
theorem chk_not {m:Spn}{j:Nat}(hj:j<5)(h:okJ m j=false):chkB m=false:=by
 unfold chkB
 obtain rfl | rfl | rfl | rfl | rfl:j=0∨j=1∨j=2∨j=3∨j=4:=by omega
 all_goals simp [h]
theorem ixJ (p j:Nat)(hj:j<5)(W:World):(Instr.index 187 (numsV p) (.int .i64 (j:Int))).run Tryz.prog W = .ok (.agg #[.pointer (some ⟨p,offJ j,none⟩),.int .i64 (leastJ j),.int .i64 (mostJ j)]) W:=by
 obtain rfl | rfl | rfl | rfl | rfl:j=0∨j=1∨j=2∨j=3∨j=4:=by omega
 ·exact ix0 p W
 ·exact ix1 p W
 ·exact ix2 p W
 ·exact ix3 p W
 ·exact ix4 p W
/-- A span lies at a block's beginning. -/
def SpanAt (w:World)(g:Nat)(m:Spn):Prop:=∀ j u,m.cells[j]? = some u→w.cell? ⟨g,j,none⟩=some u
theorem SpanAt.kept {S:Nat→Prop}{w w':World}{g:Nat}{m:Spn}(h:SpanAt w g m)(hK:Kept S w w')(hS:¬ S g):SpanAt w' g m:=fun j u hj=>hK.cell (h j u hj) hS
theorem SpanAt.keptF {w w':World}{g:Nat}{m:Spn}(h:SpanAt w g m)(hK:Kept (fun _=>False) w w'):SpanAt w' g m:=h.kept hK (fun f=>f)
theorem SpanAt.new {w:World}{m:Spn}:SpanAt (w.alloc (.cells #[.int .i64 m.tr,.int .i64 m.id,.int .i64 m.pa,.string m.se,.string m.ho,.int .i64 m.st,.int .i64 m.du,.string m.no] 96)) w.heap.size m:=by
 intro j u hj
 unfold Spn.cells at hj
 rcases j with _ | _ | _ | _ | _ | _ | _ | _ | j <;> simp at hj <;> subst hj <;> simp
theorem SpanAt.num {w:World}{g:Nat}{m:Spn}(h:SpanAt w g m)(j:Nat):w.cell? ⟨g,offJ j,none⟩=some (.int .i64 (numJ m j)):=by
 match j with
 | 0=>exact h 0 _ rfl
 | 1=>exact h 1 _ rfl
 | 2=>exact h 2 _ rfl
 | 3=>exact h 5 _ rfl
 | j+4=>exact h 6 _ rfl
set_option maxHeartbeats 8000000 in
theorem check_all (m:Spn)(hs:m.se.size≤9223372036854775807)(hh:m.ho.size≤9223372036854775807)(hn:m.no.size≤9223372036854775807)(w:World):Calls Tryz.prog 54 #[aggS m] w fun e w'=>e = .returned (.int .i64 (errN (chkB m)))∧Kept (fun _=>False) w w':=by
 have N0:=Lib.hid (name_all m.se hs)
 have N1:=Lib.hid (name_all m.ho hh)
 unfold aggS
 go_enter Tryz.func54,Tryz.ntmps54
 go_wp2_with fail
 obtain ⟨W,hW⟩:∃ W,w.alloc (.cells #[.int .i64 m.tr,.int .i64 m.id,.int .i64 m.pa,.string m.se,.string m.ho,.int .i64 m.st,.int .i64 m.du,.string m.no] 96)=W:=⟨_,rfl⟩
 have K0:Kept (fun _=>False) w W:=by rw [← hW];exact (Kept.refl _ w).alloc _
 have q0:SpanAt W w.heap.size m:=by rw [← hW];exact SpanAt.new
 rw [hW]
 clear hW
 refine (numbers_any w.heap.size W).mono ?_
 rintro e w1 ⟨rfl,k1⟩
 have K1:=Lib.hid (K0.trans k1 (fun _ _ f=>f) (fun _ _ f=>f):Kept (fun _=>False) w w1)
 have Q1:=Lib.hid (q0.keptF k1)
 clear k1 K0 q0
 obtain ⟨nv,hnv⟩:∃ nv,numsV w.heap.size=nv:=⟨_,rfl⟩
 have X:=Lib.hid (ixJ w.heap.size)
 rw [hnv] at X ⊢
 clear hnv
 obtain ⟨p,hp⟩:∃ p,w.heap.size=p:=⟨_,rfl⟩
 rw [hp] at X Q1 ⊢
 clear hp
 go_wp2
 go_loopg [6] 5 (fun g t wr=>∃ i:Nat,i+g=5∧t = .int .i64 i∧Kept (fun _=>False) w1 wr∧∀ j,j<i→okJ m j=true)
 case atStart=>exact ⟨0,by omega,rfl,Kept.refl _ _,fun j hj=>absurd hj (Nat.not_lt_zero j)⟩
 case round=>
  obtain ⟨i,hi,rfl,KW,hok⟩:=hrel
  have KF:=Lib.hid KW
  have HI:=Lib.hid hi
  have OK:=Lib.hid hok
  have QW:=Lib.hid (Q1.out.keptF KW)
  clear KW hi hok
  by_cases h5:i<5
  ·have i1 : (i : Int) < 5 := by omega
   have x0:=X.out i h5
   obtain ⟨l,hl⟩:∃ l,leastJ i=l:=⟨_,rfl⟩
   obtain ⟨u,hu⟩:∃ u,mostJ i=u:=⟨_,rfl⟩
   obtain ⟨x,hx⟩:∃ x,numJ m i=x:=⟨_,rfl⟩
   obtain ⟨o,ho⟩:∃ o,offJ i=o:=⟨_,rfl⟩
   have qq:=QW.out.num i
   rw [hx,ho] at qq
   rw [hl,hu,ho] at x0
   have HL:=Lib.hid hl;have HU:=Lib.hid hu;have HX:=Lib.hid hx
   clear hl hu hx ho
   go_wp2
   obtain ⟨a0,a1,a2,_,_⟩:=(Kept.refl (fun _=>False) (wr.alloc (.cells #[.pointer (some ⟨p,o,none⟩),.int .i64 l,.int .i64 u] 186))).fresh3 (fun f=>f)
   have KA:=Lib.hid (KF.out.alloc (.cells #[.pointer (some ⟨p,o,none⟩),.int .i64 l,.int .i64 u] 186))
   have qq2:=((Kept.refl (fun _=>False) wr).alloc (.cells #[.pointer (some ⟨p,o,none⟩),.int .i64 l,.int .i64 u] 186)).cell qq (fun f=>f)
   obtain ⟨W2,hW2⟩:∃ W2,wr.alloc (.cells #[.pointer (some ⟨p,o,none⟩),.int .i64 l,.int .i64 u] 186)=W2:=⟨_,rfl⟩
   rw [hW2] at a0 a1 a2 KA qq2 ⊢
   clear hW2 qq x0
   by_cases c1:x<l
   ·go_region
    all_goals go_wp2
    all_goals go_ret
    have e:chkB m=false:=chk_not h5 (by unfold okJ;rw [HX.out,HL.out];simp;omega)
    exact ⟨by rw [e];rfl,K1.out.trans KA.out.drew (fun _ _ f=>f) (fun _ _ f=>f)⟩
   ·by_cases c2 : u < x
    ·refine wp_region_held_drew (S := (fun w' => w'.cell? ⟨wr.heap.size, 0, none⟩ = some (.pointer (some ⟨p, o, none⟩)) ∧ w'.cell? ⟨wr.heap.size, 1, none⟩ = some (.int .i64 l) ∧ w'.cell? ⟨wr.heap.size, 2, none⟩ = some (.int .i64 u) ∧ w'.cell? ⟨p, o, none⟩ = some (.int .i64 x))) (by kernel_rfl) ?_ (fun hHeld => ?_)
     ·exact ⟨a0,a1,a2,qq2⟩
     refine tW 0 opAt0 hHeld ?_
     try simp only [Act.put,z2,List.set]
     refine tW 1 opAt1 hHeld ?_
     try simp only [Act.put,z2,List.set]
     refine tW 2 opAt2 hHeld ?_
     try simp only [Act.put,z2,List.set]
     refine tW 3 opAt3 hHeld ?_
     try simp only [Act.put,z2,List.set]
     refine tW 4 opAt4 hHeld ?_
     try simp only [Act.put,z2,List.set]
     refine tW 5 opAt5 hHeld ?_
     try simp only [Act.put,z2,List.set]
     refine tW 6 opAt6 hHeld ?_
     try simp only [Act.put,z2,List.set]
     refine tW 7 opAt7 hHeld ?_
     try simp only [Act.put,z2,List.set]
     refine tW 8 opAt8 hHeld ?_
     try simp only [Act.put,z2,List.set]
     refine tW 9 opAt9 hHeld ?_
     try simp only [Act.put,z2,List.set]
     refine tW 10 opAt10 hHeld ?_
     try simp only [Act.put,z2,List.set]
     refine tW 11 opAt11 hHeld ?_
     try simp only [Act.put,z2,List.set]
     refine tW 12 opAt12 hHeld ?_
     try simp only [Act.put,z2,List.set]
     refine tW 13 opAt13 hHeld ?_
     try simp only [Act.put,z2,List.set]
     refine tW 14 opAt14 hHeld ?_
     try simp only [Act.put,z2,List.set]
     refine tW 15 opAt15 hHeld ?_
     try simp only [Act.put,z2,List.set]
     refine wpAnyH_done (by kernel_rfl) ?_ _
     go_wp2
     go_ret
     have e:chkB m=false:=chk_not h5 (by unfold okJ;rw [HX.out,HU.out];simp;omega)
     exact ⟨by rw [e];rfl,K1.out.trans KA.out.drew (fun _ _ f=>f) (fun _ _ f=>f)⟩
    ·refine wp_region_held_drew (S := (fun w' => w'.cell? ⟨wr.heap.size, 0, none⟩ = some (.pointer (some ⟨p, o, none⟩)) ∧ w'.cell? ⟨wr.heap.size, 1, none⟩ = some (.int .i64 l) ∧ w'.cell? ⟨wr.heap.size, 2, none⟩ = some (.int .i64 u) ∧ w'.cell? ⟨p, o, none⟩ = some (.int .i64 x))) (by kernel_rfl) ?_ (fun hHeld => ?_)
     ·exact ⟨a0,a1,a2,qq2⟩
     refine tW 0 opAt0 hHeld ?_
     try simp only [Act.put,z2,List.set]
     refine tW 1 opAt1 hHeld ?_
     try simp only [Act.put,z2,List.set]
     refine tW 2 opAt2 hHeld ?_
     try simp only [Act.put,z2,List.set]
     refine tW 3 opAt3 hHeld ?_
     try simp only [Act.put,z2,List.set]
     refine tW 4 opAt4 hHeld ?_
     try simp only [Act.put,z2,List.set]
     refine tW 5 opAt5 hHeld ?_
     try simp only [Act.put,z2,List.set]
     refine tW 6 opAt6 hHeld ?_
     try simp only [Act.put,z2,List.set]
     refine tW 7 opAt7 hHeld ?_
     try simp only [Act.put,z2,List.set]
     refine tW 8 opAt8 hHeld ?_
     try simp only [Act.put,z2,List.set]
     refine tW 9 opAt9 hHeld ?_
     try simp only [Act.put,z2,List.set]
     refine tW 10 opAt10 hHeld ?_
     try simp only [Act.put,z2,List.set]
     refine tW 11 opAt11 hHeld ?_
     try simp only [Act.put,z2,List.set]
     refine tW 12 opAt12 hHeld ?_
     try simp only [Act.put,z2,List.set]
     refine tW 13 opAt13 hHeld ?_
     try simp only [Act.put,z2,List.set]
     refine tW 14 opAt14 hHeld ?_
     try simp only [Act.put,z2,List.set]
     refine tW 15 opAt15 hHeld ?_
     try simp only [Act.put,z2,List.set]
     refine wpAnyH_done (by kernel_rfl) ?_ _
     go_wp2
     go_roundg (5 - i - 1)
     case measure=>have:=HI.out;omega
     case rel=>
      refine ⟨i+1,by omega,by go_num,KA.out.drew,fun j hj=>?_⟩
      rcases Nat.lt_or_ge j i with h | h
      ·exact OK.out j h
      ·obtain rfl : j = i := by omega
       unfold okJ;rw [HX.out,HL.out,HU.out];simp;omega
  ·have i1 : ¬ (i : Int) < 5 := by omega
   obtain ⟨b0,hb0⟩:∃ b,nameB m.se=b:=⟨_,rfl⟩
   obtain ⟨b1,hb1⟩:∃ b,nameB m.ho=b:=⟨_,rfl⟩
   have q3:=QW.out 3 _ rfl
   have q4:=QW.out 4 _ rfl
   have q7:=QW.out 7 _ rfl
   have E:chkB m=(b0 && b1 && decide (m.no.size≤24)):=by
    unfold chkB
    have h:=OK.out
    have hi:=HI.out
    rw [h 0 (by omega),h 1 (by omega),h 2 (by omega),h 3 (by omega),h 4 (by omega),hb0,hb1]
    rfl
   have EE:=Lib.hid E
   clear E
   rw [hb0] at N0
   rw [hb1] at N1
   clear hb0 hb1
   by_cases h24:(24:Int)<(m.no.size:Int)
   ·have e24 : decide (m.no.size ≤ 24) = false := by simp; omega
    rw [e24] at EE
    go_wp2_with fail
    refine (N0.out _).mono ?_
    rintro e w2 ⟨rfl,k2⟩
    replace q4:=k2.cell q4 (fun f=>f)
    replace q7:=k2.cell q7 (fun f=>f)
    have K2:=Lib.hid (KF.out.trans k2 (fun _ _ f=>f) (fun _ _ f=>f):Kept (fun _=>False) w1 w2)
    clear k2
    cases b0 with
    | false=>
     go_wp2
     go_ret
     exact ⟨by rw [EE.out];rfl,K1.out.trans K2.out (fun _ _ f=>f) (fun _ _ f=>f)⟩
    | true=>
     go_wp2_with fail
     refine (N1.out _).mono ?_
     rintro e w3 ⟨rfl,k3⟩
     replace q7:=k3.cell q7 (fun f=>f)
     have K3:=Lib.hid (K2.out.trans k3 (fun _ _ f=>f) (fun _ _ f=>f):Kept (fun _=>False) w1 w3)
     clear k3
     cases b1 with
     | false=>
      go_wp2
      go_ret
      exact ⟨by rw [EE.out];rfl,K1.out.trans K3.out (fun _ _ f=>f) (fun _ _ f=>f)⟩
     | true=>
      go_wp2
      go_ret
      exact ⟨by rw [EE.out];rfl,K1.out.trans K3.out (fun _ _ f=>f) (fun _ _ f=>f)⟩
   ·have e24 : decide (m.no.size ≤ 24) = true := by simp; omega
    rw [e24] at EE
    go_wp2_with fail
    refine (N0.out _).mono ?_
    rintro e w2 ⟨rfl,k2⟩
    replace q4:=k2.cell q4 (fun f=>f)
    replace q7:=k2.cell q7 (fun f=>f)
    have K2:=Lib.hid (KF.out.trans k2 (fun _ _ f=>f) (fun _ _ f=>f):Kept (fun _=>False) w1 w2)
    clear k2
    cases b0 with
    | false=>
     go_wp2
     go_ret
     exact ⟨by rw [EE.out];rfl,K1.out.trans K2.out (fun _ _ f=>f) (fun _ _ f=>f)⟩
    | true=>
     go_wp2_with fail
     refine (N1.out _).mono ?_
     rintro e w3 ⟨rfl,k3⟩
     replace q7:=k3.cell q7 (fun f=>f)
     have K3:=Lib.hid (K2.out.trans k3 (fun _ _ f=>f) (fun _ _ f=>f):Kept (fun _=>False) w1 w3)
     clear k3
     cases b1 with
     | false=>
      go_wp2
      go_ret
      exact ⟨by rw [EE.out];rfl,K1.out.trans K3.out (fun _ _ f=>f) (fun _ _ f=>f)⟩
     | true=>
      go_wp2
      go_ret
      exact ⟨by rw [EE.out];rfl,K1.out.trans K3.out (fun _ _ f=>f) (fun _ _ f=>f)⟩
end
/- SameSpans of two lists that are the same. -/
section
set_option maxRecDepth 100000
open Go.RowKit

theorem s96:Tryz.prog.stoodInHeld 96=false:=by kernel_rfl
theorem g96:Tryz.prog.eqGuardType Tryz.prog.depth 96=false:=by kernel_rfl
theorem neq_same (m:Spn)(w:World):(binOp .neq 96 (aggS m) (aggS m)).run Tryz.prog w = .ok (.bool false) w:=by
 have q:=s96
 unfold aggS
 simp [go_sem,q]
set_option maxHeartbeats 4000000 in
theorem same_refl (w:World)(va vb:Value)(A:List Spn)(ha:ReadsS w va A)(hb:ReadsS w vb A)(hl:A.length≤1000000000) :
  Calls Tryz.prog 16 #[va,vb] w fun e w'=>e = .returned (.bool true)∧Kept (fun _=>False) w w':=by
 obtain ⟨ao,ca,rfl,ra⟩:=ha
 obtain ⟨bo,cb,rfl,rb⟩:=hb
 have RA:=Lib.hid ra;have RB:=Lib.hid rb
 clear ra rb
 obtain ⟨n,hn⟩:∃ n,A.length=n:=⟨_,rfl⟩
 rw [hn]
 rw [hn] at hl
 have d0:((n:Int) != (n:Int))=false:=by simp
 have HA:=Lib.hid hn
 clear hn
 have q0:=s96
 have q1:=g96
 go_enter Tryz.func16,Tryz.ntmps16
 go_wp2
 go_loopg [5] n (fun ghv s wr=>∃ (i:Nat),i+ghv=n∧s = .int .i64 i∧Kept (fun _=>False) w wr)
 case atStart=>exact ⟨0,by omega,by go_num,Kept.refl _ _⟩
 case round=>
  obtain ⟨i,hg1,rfl,hk⟩:=hrel
  have G1:=Lib.hid hg1;have KK:=Lib.hid hk
  clear hg1 hk
  by_cases hin:i<n
  ·have i0 : (i : Int) < (n : Int) := by omega
   have i1:(0:Int)≤(i:Int):=by omega
   have i2:(i:Int)≤1000000000:=by omega
   obtain ⟨g1,o1,rfl,hc1⟩:∃ g o,ao=some ⟨g,o,none⟩∧∀ j u,(cellsS A)[j]? = some u→w.cell? ⟨g,o+j,none⟩=some u:=by
    rcases RA.out with h | h
    ·have:=HA.out;subst h;simp at this;omega
    ·exact h
   obtain ⟨g2,o2,rfl,hc2⟩:∃ g o,bo=some ⟨g,o,none⟩∧∀ j u,(cellsS A)[j]? = some u→w.cell? ⟨g,o+j,none⟩=some u:=by
    rcases RB.out with h | h
    ·have:=HA.out;subst h;simp at this;omega
    ·exact h
   obtain ⟨x,hx⟩:∃ x,A[i]? = some x:=⟨_,List.getElem?_eq_getElem (by rw [HA.out];exact hin)⟩
   have rx:=ReadsS.at (fun j u hu=>KK.out.cell (hc1 j u hu) (fun f=>f)) hx
   have ry:=ReadsS.at (fun j u hu=>KK.out.cell (hc2 j u hu) (fun f=>f)) hx
   have q2:=neq_same x
   unfold aggS at q2
   clear hx hc1 hc2
   go_wp2
   refine wp_region_held_drew (S:=(fun w'=>(w'.cell? ⟨g1,o1+i * 8,none⟩=some (.int .i64 x.tr)∧w'.cell? ⟨g1,o1+i * 8+1,none⟩=some (.int .i64 x.id)∧w'.cell? ⟨g1,o1+i * 8+2,none⟩=some (.int .i64 x.pa)∧w'.cell? ⟨g1,o1+i * 8+3,none⟩=some (.string x.se)∧w'.cell? ⟨g1,o1+i * 8+4,none⟩=some (.string x.ho)∧w'.cell? ⟨g1,o1+i * 8+5,none⟩=some (.int .i64 x.st)∧w'.cell? ⟨g1,o1+i * 8+6,none⟩=some (.int .i64 x.du)∧w'.cell? ⟨g1,o1+i * 8+7,none⟩=some (.string x.no))∧(w'.cell? ⟨g2,o2+i * 8,none⟩=some (.int .i64 x.tr)∧w'.cell? ⟨g2,o2+i * 8+1,none⟩=some (.int .i64 x.id)∧w'.cell? ⟨g2,o2+i * 8+2,none⟩=some (.int .i64 x.pa)∧w'.cell? ⟨g2,o2+i * 8+3,none⟩=some (.string x.se)∧w'.cell? ⟨g2,o2+i * 8+4,none⟩=some (.string x.ho)∧w'.cell? ⟨g2,o2+i * 8+5,none⟩=some (.int .i64 x.st)∧w'.cell? ⟨g2,o2+i * 8+6,none⟩=some (.int .i64 x.du)∧w'.cell? ⟨g2,o2+i * 8+7,none⟩=some (.string x.no)))) (by kernel_rfl) ?_ (fun hHeld=>?_)
   ·exact ⟨rx,ry⟩
   refine tW 0 opAt0 hHeld ?_
   try simp only [Act.put,z2,List.set]
   refine tW 1 opAt1 hHeld ?_
   try simp only [Act.put,z2,List.set]
   refine tW 2 opAt2 hHeld ?_
   try simp only [Act.put,z2,List.set]
   refine tH (v:=?_) 3 opAt3 ?_ hHeld ?_
   case refine_2=>(intro w hSw;(try dsimp only at hSw);obtain ⟨c0,c1,c2,c3,c4,c5,c6,c7⟩:=hSw.1;clear hSw;go_simp;all_goals (with_reducible rfl))
   try simp only [Act.put,z2,List.set]
   refine tW 4 opAt4 hHeld ?_
   try simp only [Act.put,z2,List.set]
   refine tW 5 opAt5 hHeld ?_
   try simp only [Act.put,z2,List.set]
   refine tW 6 opAt6 hHeld ?_
   try simp only [Act.put,z2,List.set]
   refine tH (v:=?_) 7 opAt7 ?_ hHeld ?_
   case refine_2=>(intro w hSw;(try dsimp only at hSw);obtain ⟨c0,c1,c2,c3,c4,c5,c6,c7⟩:=hSw.2;clear hSw;go_simp;all_goals (with_reducible rfl))
   try simp only [Act.put,z2,List.set]
   refine tW 8 opAt8 hHeld ?_
   try simp only [Act.put,z2,List.set]
   refine wpAnyH_done (by kernel_rfl) ?_ _
   go_wp2
   go_roundg (n - (i+1))
   case measure=>have:=G1.out;omega
   case rel=>exact ⟨i+1,by omega,by go_num,KK.out.drew⟩
  ·have i0 : ¬ (i : Int) < (n : Int) := by omega
   go_wp2
   go_ret
   exact ⟨rfl,KK.out⟩
end
end Go.Proofs.YthknocapablpaaaGreatDoor
