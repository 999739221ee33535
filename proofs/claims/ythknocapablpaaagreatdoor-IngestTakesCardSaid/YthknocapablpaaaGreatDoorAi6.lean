/- A part of the proof. -/
import Derived.Test.YthknocapablpaaaGreatDoorProg
import Derived.LoopN
import Derived.Laws.BytesArg
import Derived.Test.YthknocapablpaaaGreatDoorAi1
namespace Go.Proofs.YthknocapablpaaaGreatDoor
/- ints.Big of any number: a string of at most eight bytes. -/
section
set_option maxRecDepth 100000
open Go.RowKit

def StrB (b:Nat)(e:Ending):Prop:=∃ s:ByteArray,e = .returned (.string s)∧s.size≤b

theorem conv8 (w:World)(x0 x1 x2 x3 x4 x5 x6 x7:Int)(t:TypeId) :
  (convert 48 9 (.slice (some ⟨w.heap.size,0,none⟩) 8 8)).run Tryz.prog (w.alloc (.cells #[.int .u8 x0,.int .u8 x1,.int .u8 x2,.int .u8 x3,.int .u8 x4,.int .u8 x5,.int .u8 x6,.int .u8 x7] t)) = .ok (.string (strOfNums [x0,x1,x2,x3,x4,x5,x6,x7])) (w.alloc (.cells #[.int .u8 x0,.int .u8 x1,.int .u8 x2,.int .u8 x3,.int .u8 x4,.int .u8 x5,.int .u8 x6,.int .u8 x7] t)):=
 run_convert_bytes_arg _ 48 5 Tryz.underlying48 Tryz.underlying5 _ 0 8 8 [x0,x1,x2,x3,x4,x5,x6,x7] rfl (fun i hi=>by
  rw [Nat.zero_add]
  match i,hi with
  | 0,_=>exact World.cell?_alloc_at _ _ _ _ rfl
  | 1,_=>exact World.cell?_alloc_at _ _ _ _ rfl
  | 2,_=>exact World.cell?_alloc_at _ _ _ _ rfl
  | 3,_=>exact World.cell?_alloc_at _ _ _ _ rfl
  | 4,_=>exact World.cell?_alloc_at _ _ _ _ rfl
  | 5,_=>exact World.cell?_alloc_at _ _ _ _ rfl
  | 6,_=>exact World.cell?_alloc_at _ _ _ _ rfl
  | 7,_=>exact World.cell?_alloc_at _ _ _ _ rfl) 9 Tryz.underlying9

end
/- ints.Big of any number, by its bytes; keys.big of two and of three. -/
section
set_option maxRecDepth 100000
open Go.RowKit

def bigL (n:Int):List Int:=[n / 72057594037927936 % 256,n / 281474976710656 % 256,n / 1099511627776 % 256,n / 4294967296 % 256,n / 16777216 % 256,n / 65536 % 256,n / 256 % 256,n % 256]
def bigF (n:Int):ByteArray:=if n<0 then .empty else strOfNums (bigL n)
theorem bigF_size (n:Int):(bigF n).size≤8:=by
 unfold bigF
 split
 ·exact Nat.zero_le _
 ·rw [strOfNums_size];exact Nat.le_refl 8

set_option maxHeartbeats 1000000 in
theorem big_val (n:Int)(w:World)(hm:n≤9223372036854775807):Calls Tryz.prog 219 #[.int .i64 n] w fun e w'=>e = .returned (.string (bigF n))∧Kept (fun _=>False) w w':=by
 unfold bigF
 by_cases h:n<0
 ·rw [if_pos h]
  go_enter Tryz.func219,Tryz.ntmps219
  go_wp2
  go_ret
  exact ⟨rfl,Kept.refl _ _⟩
 ·rw [if_neg h]
  go_enter Tryz.func219,Tryz.ntmps219
  go_wp2
  refine wp_loop_rounds 9 ?_
  iterate 9 (rw [rounds_succ];go_wp2)
  rw [conv8]
  go_wp2
  go_ret
  refine ⟨?_,(Kept.refl _ _).alloc _⟩
  have e:n / 72057594037927936 % 256=n / 72057594037927936:=by omega
  simp [bigL,e]

set_option maxHeartbeats 1000000 in
theorem bigs2 {a b:Int}{g o cap:Nat}{w:World}(ha:a≤9223372036854775807)(hb:b≤9223372036854775807)(c0:w.cell? ⟨g,o,none⟩=some (.int .i64 a))(c1:w.cell? ⟨g,o+1,none⟩=some (.int .i64 b)) :
  Calls Tryz.prog 137 #[.slice (some ⟨g,o,none⟩) 2 cap] w fun e w'=>e = .returned (.string (bigF a++bigF b))∧Kept (fun _=>False) w w':=by
 have P0:=Lib.hid (fun w=>big_val a w ha)
 have P1:=Lib.hid (fun w=>big_val b w hb)
 have tt:∀ {a b c:World},Kept (fun _=>False) a b→Kept (fun _=>False) b c→Kept (fun _=>False) a c:=fun h k=>h.trans k (fun _ _ h=>h) (fun _ _ h=>h)
 have z0:=bigF_size a
 have z1:=bigF_size b
 obtain ⟨A,hA⟩:∃ A,bigF a=A:=⟨_,rfl⟩
 obtain ⟨B,hB⟩:∃ B,bigF b=B:=⟨_,rfl⟩
 rw [hA] at P0 z0 ⊢
 rw [hB] at P1 z1 ⊢
 clear hA hB
 go_enter Tryz.func137,Tryz.ntmps137
 go_wp2
 refine wp_loop_rounds 3 ?_
 rw [rounds_succ]
 go_wp2_with (go_at_call 219;refine (P0.out _).mono ?_;rintro e w1 ⟨rfl,k1⟩;have c1:=k1.cell c1 (fun f=>f);have K1:=Lib.hid k1;clear k1)
 rw [rounds_succ]
 go_wp2_with (go_at_call 219;refine (P1.out _).mono ?_;rintro e w2 ⟨rfl,k2⟩;have K2:=Lib.hid (tt K1.out k2);clear k2)
 rw [rounds_succ]
 go_wp2
 go_ret
 have e0:({ data:=#[] }:ByteArray)++A=A:=ByteArray.empty_append
 exact ⟨by rw [← e0];rfl,K2.out⟩
set_option maxHeartbeats 1000000 in
theorem bigs3 {a b c:Int}{g o cap:Nat}{w:World}(ha:a≤9223372036854775807)(hb:b≤9223372036854775807)(hc:c≤9223372036854775807)(c0:w.cell? ⟨g,o,none⟩=some (.int .i64 a))(c1:w.cell? ⟨g,o+1,none⟩=some (.int .i64 b))(c2:w.cell? ⟨g,o+2,none⟩=some (.int .i64 c)) :
  Calls Tryz.prog 137 #[.slice (some ⟨g,o,none⟩) 3 cap] w fun e w'=>e = .returned (.string (bigF a++bigF b++bigF c))∧Kept (fun _=>False) w w':=by
 have P0:=Lib.hid (fun w=>big_val a w ha)
 have P1:=Lib.hid (fun w=>big_val b w hb)
 have P2:=Lib.hid (fun w=>big_val c w hc)
 have tt:∀ {a b c:World},Kept (fun _=>False) a b→Kept (fun _=>False) b c→Kept (fun _=>False) a c:=fun h k=>h.trans k (fun _ _ h=>h) (fun _ _ h=>h)
 have z0:=bigF_size a
 have z1:=bigF_size b
 have z2:=bigF_size c
 obtain ⟨A,hA⟩:∃ A,bigF a=A:=⟨_,rfl⟩
 obtain ⟨B,hB⟩:∃ B,bigF b=B:=⟨_,rfl⟩
 obtain ⟨D,hD⟩:∃ D,bigF c=D:=⟨_,rfl⟩
 rw [hA] at P0 z0 ⊢
 rw [hB] at P1 z1 ⊢
 rw [hD] at P2 z2 ⊢
 clear hA hB hD
 go_enter Tryz.func137,Tryz.ntmps137
 go_wp2
 refine wp_loop_rounds 4 ?_
 rw [rounds_succ]
 go_wp2_with (go_at_call 219;refine (P0.out _).mono ?_;rintro e w1 ⟨rfl,k1⟩;have c1:=k1.cell c1 (fun f=>f);have c2:=k1.cell c2 (fun f=>f);have K1:=Lib.hid k1;clear k1)
 rw [rounds_succ]
 go_wp2_with (go_at_call 219;refine (P1.out _).mono ?_;rintro e w2 ⟨rfl,k2⟩;have c2:=k2.cell c2 (fun f=>f);have K2:=Lib.hid (tt K1.out k2);clear k2)
 rw [rounds_succ]
 go_wp2_with (go_at_call 219;refine (P2.out _).mono ?_;rintro e w3 ⟨rfl,k3⟩;have K3:=Lib.hid (tt K2.out k3);clear k3)
 rw [rounds_succ]
 go_wp2
 go_ret
 have e0:({ data:=#[] }:ByteArray)++A=A:=ByteArray.empty_append
 exact ⟨by rw [← e0];rfl,K3.out⟩
end
end Go.Proofs.YthknocapablpaaaGreatDoor
