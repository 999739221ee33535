/- A part of the proof. -/
import Derived.Shelf.Strconv.Itoa0
import Derived.Ground.NamesProg
import Derived.Test.YthknocapablpaaaGreatDoorProg
import Derived.LoopN
import Derived.Laws.BytesArg
import Derived.Test.YthknocapablpaaaGreatDoorAi1
namespace Go.Proofs
/-
 DERIVED: THE SHELF's CONTRACTS AT THIS DUMP, IN PLAIN WORDS (tools/lay-plain.mjs out of 'YthknocapablpaaaGreatDoorShB0.lean', which tools/lay-shelf.mjs wrote): THE SAME DECLARATIONS UNDER THE SAME NAMES: 'import', 'namespace', 'open', 'def', 'theorem' AND NOTHING ELSE: no command of the shelf's: FOR A HAND-IN. Each laying: the table of numbers ('.._ren') and one theorem, a field a fact of the dump's own or the kernel's comparison; each contract: ONE APPLICATION.
-/
section
open Go.Shelf
def Tryz.l129_ren:Go.Shelf.Ren:=⟨fun | 129=>234 | n=>n,fun | 53=>335 | 3=>3 | 4=>4 | 46=>190 | 5=>5 | 9=>9 | n=>n,fun | n=>n⟩
theorem Tryz.l129:Go.Proofs.Lays.n129 Tryz.prog Tryz.l129_ren:={
 mixed:=by kernel_rfl
 f129:=Tryz.func234.trans (congrArg some (by kernel_rfl))
 t3:=Tryz.underlying3
 a3:=Tryz.isAgg3
 z3:=Tryz.sizeOf3
 v3:=Tryz.zeroValue3
 t4:=Tryz.underlying4
 a4:=Tryz.isAgg4
 z4:=Tryz.sizeOf4
 v4:=Tryz.zeroValue4
 t5:=Tryz.underlying5
 a5:=Tryz.isAgg5
 z5:=Tryz.sizeOf5
 v5:=Tryz.zeroValue5
 t9:=Tryz.underlying9
 a9:=Tryz.isAgg9
 z9:=Tryz.sizeOf9
 v9:=Tryz.zeroValue9
 t46:=Tryz.underlying190
 a46:=Tryz.isAgg190
 z46:=Tryz.sizeOf190
 v46:=Tryz.zeroValue190
 t53:=Tryz.underlying335
 a53:=Tryz.isAgg335
 z53:=Tryz.sizeOf335
 v53:=Tryz.zeroValue335 }
end
end Go.Proofs
namespace Go.Proofs.YthknocapablpaaaGreatDoor
/- ints.Put of any number, by its bytes. -/
section
set_option maxRecDepth 100000
open Go.RowKit Go.Shelf Go.Lib

/-- A number's digits to the base 128, so many, each but the last one marked. -/
def putL:Nat→Int→List Int
 | 0,_=>[]
 | 1,n=>[n % 128]
 | m+2,n=>(n / 128 ^ (m+1) % 128+128)::putL (m+1) n
def putM (n:Int):Nat:=max 1 ((Lib.bitLen n.toNat+7 - 1) / 7)
def putF (n:Int):ByteArray:=if n<0 then .empty else strOfNums (putL (putM n) n)

theorem len64 (x:Int)(w:World)(h0:0≤x)(h1:x≤18446744073709551615) :
  Calls Tryz.prog 234 #[.int .u64 x] w fun e w'=>e = .returned (.int .i64 (Lib.bitLen x.toNat))∧w'=w:=Any.bits_Len64 Tryz.l129 x w h0 h1

theorem or_fin:∀ x:Fin 256,bits .or .u8 (x.val:Int) 128=(x.val:Int) % 128+128:=by decide +kernel
theorem an_fin:∀ x:Fin 128,bits .andNot .u8 ((x.val:Int)+128) 128=(x.val:Int):=by decide +kernel
theorem or128 (x:Int):bits .or .u8 (x % 256) 128=x % 128+128:=by
 have h:=or_fin ⟨(x % 256).toNat,by omega⟩
 have e:(((x % 256).toNat:Nat):Int)=x % 256:=by omega
 simp only [e] at h
 rw [h];omega
theorem an128 (x:Int):bits .andNot .u8 (x % 128+128) 128=x % 128:=by
 have h:=an_fin ⟨(x % 128).toNat,by omega⟩
 have e:(((x % 128).toNat:Nat):Int)=x % 128:=by omega
 simp only [e] at h
 exact h
theorem conv_bytes (w:World)(l:List Int) :
  (convert 48 9 (.slice (some ⟨w.heap.size,0,none⟩) l.length l.length)).run Tryz.prog (w.alloc (.cells (l.map (Value.int .u8)).toArray 5)) = .ok (.string (strOfNums l)) (w.alloc (.cells (l.map (Value.int .u8)).toArray 5)):=
 run_convert_bytes_arg _ 48 5 Tryz.underlying48 Tryz.underlying5 _ 0 l.length l.length l rfl (fun i hi=>by
  rw [Nat.zero_add,World.cell?_alloc_at _ _ _ _ rfl]
  simp [hi]) 9 Tryz.underlying9

set_option maxHeartbeats 1000000 in
theorem put_1 (n:Int)(w:World)(h0:0≤n)(h1:n≤9223372036854775807)(L:Nat)(hL:Lib.bitLen n.toNat=L)(h63:(L:Int)≤63)(hm:max 1 (((L:Int)+7 - 1) / 7)=1):Calls Tryz.prog 165 #[.int .i64 n] w fun e w'=>e = .returned (.string (strOfNums (putL 1 n)))∧Kept (fun _=>False) w w':=by
 have C:=Lib.hid (len64 n w h0 (by omega))
 rw [hL] at C
 clear hL
 have e1:¬ n<0:=by omega
 have hp:(0:Int)≤(L:Int):=by omega
 have hmk:∀ w,(Instr.makeSlice 48 (.int .i64 1) (.int .i64 1)).run Tryz.prog w = .ok (.slice (some ⟨w.heap.size,0,none⟩) 1 1) (w.alloc (.cells #[.int .u8 0] 5)):=fun _=>by kernel_rfl
 go_enter Tryz.func165,Tryz.ntmps165
 go_wp2_with (go_at_call 234;refine C.out.mono ?_;rintro e w4 ⟨rfl,rfl⟩)
 refine wp_loop_rounds 2 ?_
 rw [rounds_succ];go_wp2
 rw [rounds_succ];go_wp2
 simp only [or128,an128]
 have cv:=conv_bytes w4 (putL 1 n)
 simp only [putL,List.length,List.map,Nat.zero_add] at cv
 rw [cv]
 go_wp2
 go_ret
 exact ⟨rfl,(Kept.refl _ _).alloc _⟩

set_option maxHeartbeats 1000000 in
theorem put_2 (n:Int)(w:World)(h0:0≤n)(h1:n≤9223372036854775807)(L:Nat)(hL:Lib.bitLen n.toNat=L)(h63:(L:Int)≤63)(hm:max 1 (((L:Int)+7 - 1) / 7)=2):Calls Tryz.prog 165 #[.int .i64 n] w fun e w'=>e = .returned (.string (strOfNums (putL 2 n)))∧Kept (fun _=>False) w w':=by
 have C:=Lib.hid (len64 n w h0 (by omega))
 rw [hL] at C
 clear hL
 have e1:¬ n<0:=by omega
 have hp:(0:Int)≤(L:Int):=by omega
 have hmk:∀ w,(Instr.makeSlice 48 (.int .i64 2) (.int .i64 2)).run Tryz.prog w = .ok (.slice (some ⟨w.heap.size,0,none⟩) 2 2) (w.alloc (.cells #[.int .u8 0,.int .u8 0] 5)):=fun _=>by kernel_rfl
 go_enter Tryz.func165,Tryz.ntmps165
 go_wp2_with (go_at_call 234;refine C.out.mono ?_;rintro e w4 ⟨rfl,rfl⟩)
 refine wp_loop_rounds 3 ?_
 rw [rounds_succ];go_wp2
 rw [rounds_succ];go_wp2
 rw [rounds_succ];go_wp2
 simp only [or128,an128]
 have cv:=conv_bytes w4 (putL 2 n)
 simp only [putL,List.length,List.map,Nat.zero_add,Nat.reduceAdd,Int.reducePow] at cv
 rw [cv]
 go_wp2
 go_ret
 exact ⟨rfl,(Kept.refl _ _).alloc _⟩

set_option maxHeartbeats 1000000 in
theorem put_3 (n:Int)(w:World)(h0:0≤n)(h1:n≤9223372036854775807)(L:Nat)(hL:Lib.bitLen n.toNat=L)(h63:(L:Int)≤63)(hm:max 1 (((L:Int)+7 - 1) / 7)=3):Calls Tryz.prog 165 #[.int .i64 n] w fun e w'=>e = .returned (.string (strOfNums (putL 3 n)))∧Kept (fun _=>False) w w':=by
 have C:=Lib.hid (len64 n w h0 (by omega))
 rw [hL] at C
 clear hL
 have e1:¬ n<0:=by omega
 have hp:(0:Int)≤(L:Int):=by omega
 have hmk:∀ w,(Instr.makeSlice 48 (.int .i64 3) (.int .i64 3)).run Tryz.prog w = .ok (.slice (some ⟨w.heap.size,0,none⟩) 3 3) (w.alloc (.cells #[.int .u8 0,.int .u8 0,.int .u8 0] 5)):=fun _=>by kernel_rfl
 go_enter Tryz.func165,Tryz.ntmps165
 go_wp2_with (go_at_call 234;refine C.out.mono ?_;rintro e w4 ⟨rfl,rfl⟩)
 refine wp_loop_rounds 4 ?_
 rw [rounds_succ];go_wp2
 rw [rounds_succ];go_wp2
 rw [rounds_succ];go_wp2
 rw [rounds_succ];go_wp2
 simp only [or128,an128]
 have cv:=conv_bytes w4 (putL 3 n)
 simp only [putL,List.length,List.map,Nat.zero_add,Nat.reduceAdd,Int.reducePow] at cv
 rw [cv]
 go_wp2
 go_ret
 exact ⟨rfl,(Kept.refl _ _).alloc _⟩

set_option maxHeartbeats 1000000 in
theorem put_4 (n:Int)(w:World)(h0:0≤n)(h1:n≤9223372036854775807)(L:Nat)(hL:Lib.bitLen n.toNat=L)(h63:(L:Int)≤63)(hm:max 1 (((L:Int)+7 - 1) / 7)=4):Calls Tryz.prog 165 #[.int .i64 n] w fun e w'=>e = .returned (.string (strOfNums (putL 4 n)))∧Kept (fun _=>False) w w':=by
 have C:=Lib.hid (len64 n w h0 (by omega))
 rw [hL] at C
 clear hL
 have e1:¬ n<0:=by omega
 have hp:(0:Int)≤(L:Int):=by omega
 have hmk:∀ w,(Instr.makeSlice 48 (.int .i64 4) (.int .i64 4)).run Tryz.prog w = .ok (.slice (some ⟨w.heap.size,0,none⟩) 4 4) (w.alloc (.cells #[.int .u8 0,.int .u8 0,.int .u8 0,.int .u8 0] 5)):=fun _=>by kernel_rfl
 go_enter Tryz.func165,Tryz.ntmps165
 go_wp2_with (go_at_call 234;refine C.out.mono ?_;rintro e w4 ⟨rfl,rfl⟩)
 refine wp_loop_rounds 5 ?_
 rw [rounds_succ];go_wp2
 rw [rounds_succ];go_wp2
 rw [rounds_succ];go_wp2
 rw [rounds_succ];go_wp2
 rw [rounds_succ];go_wp2
 simp only [or128,an128]
 have cv:=conv_bytes w4 (putL 4 n)
 simp only [putL,List.length,List.map,Nat.zero_add,Nat.reduceAdd,Int.reducePow] at cv
 rw [cv]
 go_wp2
 go_ret
 exact ⟨rfl,(Kept.refl _ _).alloc _⟩

set_option maxHeartbeats 1000000 in
theorem put_5 (n:Int)(w:World)(h0:0≤n)(h1:n≤9223372036854775807)(L:Nat)(hL:Lib.bitLen n.toNat=L)(h63:(L:Int)≤63)(hm:max 1 (((L:Int)+7 - 1) / 7)=5):Calls Tryz.prog 165 #[.int .i64 n] w fun e w'=>e = .returned (.string (strOfNums (putL 5 n)))∧Kept (fun _=>False) w w':=by
 have C:=Lib.hid (len64 n w h0 (by omega))
 rw [hL] at C
 clear hL
 have e1:¬ n<0:=by omega
 have hp:(0:Int)≤(L:Int):=by omega
 have hmk:∀ w,(Instr.makeSlice 48 (.int .i64 5) (.int .i64 5)).run Tryz.prog w = .ok (.slice (some ⟨w.heap.size,0,none⟩) 5 5) (w.alloc (.cells #[.int .u8 0,.int .u8 0,.int .u8 0,.int .u8 0,.int .u8 0] 5)):=fun _=>by kernel_rfl
 go_enter Tryz.func165,Tryz.ntmps165
 go_wp2_with (go_at_call 234;refine C.out.mono ?_;rintro e w4 ⟨rfl,rfl⟩)
 refine wp_loop_rounds 6 ?_
 rw [rounds_succ];go_wp2
 rw [rounds_succ];go_wp2
 rw [rounds_succ];go_wp2
 rw [rounds_succ];go_wp2
 rw [rounds_succ];go_wp2
 rw [rounds_succ];go_wp2
 simp only [or128,an128]
 have cv:=conv_bytes w4 (putL 5 n)
 simp only [putL,List.length,List.map,Nat.zero_add,Nat.reduceAdd,Int.reducePow] at cv
 rw [cv]
 go_wp2
 go_ret
 exact ⟨rfl,(Kept.refl _ _).alloc _⟩

set_option maxHeartbeats 1000000 in
theorem put_6 (n:Int)(w:World)(h0:0≤n)(h1:n≤9223372036854775807)(L:Nat)(hL:Lib.bitLen n.toNat=L)(h63:(L:Int)≤63)(hm:max 1 (((L:Int)+7 - 1) / 7)=6):Calls Tryz.prog 165 #[.int .i64 n] w fun e w'=>e = .returned (.string (strOfNums (putL 6 n)))∧Kept (fun _=>False) w w':=by
 have C:=Lib.hid (len64 n w h0 (by omega))
 rw [hL] at C
 clear hL
 have e1:¬ n<0:=by omega
 have hp:(0:Int)≤(L:Int):=by omega
 have hmk:∀ w,(Instr.makeSlice 48 (.int .i64 6) (.int .i64 6)).run Tryz.prog w = .ok (.slice (some ⟨w.heap.size,0,none⟩) 6 6) (w.alloc (.cells #[.int .u8 0,.int .u8 0,.int .u8 0,.int .u8 0,.int .u8 0,.int .u8 0] 5)):=fun _=>by kernel_rfl
 go_enter Tryz.func165,Tryz.ntmps165
 go_wp2_with (go_at_call 234;refine C.out.mono ?_;rintro e w4 ⟨rfl,rfl⟩)
 refine wp_loop_rounds 7 ?_
 rw [rounds_succ];go_wp2
 rw [rounds_succ];go_wp2
 rw [rounds_succ];go_wp2
 rw [rounds_succ];go_wp2
 rw [rounds_succ];go_wp2
 rw [rounds_succ];go_wp2
 rw [rounds_succ];go_wp2
 simp only [or128,an128]
 have cv:=conv_bytes w4 (putL 6 n)
 simp only [putL,List.length,List.map,Nat.zero_add,Nat.reduceAdd,Int.reducePow] at cv
 rw [cv]
 go_wp2
 go_ret
 exact ⟨rfl,(Kept.refl _ _).alloc _⟩

set_option maxHeartbeats 1000000 in
theorem put_7 (n:Int)(w:World)(h0:0≤n)(h1:n≤9223372036854775807)(L:Nat)(hL:Lib.bitLen n.toNat=L)(h63:(L:Int)≤63)(hm:max 1 (((L:Int)+7 - 1) / 7)=7):Calls Tryz.prog 165 #[.int .i64 n] w fun e w'=>e = .returned (.string (strOfNums (putL 7 n)))∧Kept (fun _=>False) w w':=by
 have C:=Lib.hid (len64 n w h0 (by omega))
 rw [hL] at C
 clear hL
 have e1:¬ n<0:=by omega
 have hp:(0:Int)≤(L:Int):=by omega
 have hmk:∀ w,(Instr.makeSlice 48 (.int .i64 7) (.int .i64 7)).run Tryz.prog w = .ok (.slice (some ⟨w.heap.size,0,none⟩) 7 7) (w.alloc (.cells #[.int .u8 0,.int .u8 0,.int .u8 0,.int .u8 0,.int .u8 0,.int .u8 0,.int .u8 0] 5)):=fun _=>by kernel_rfl
 go_enter Tryz.func165,Tryz.ntmps165
 go_wp2_with (go_at_call 234;refine C.out.mono ?_;rintro e w4 ⟨rfl,rfl⟩)
 refine wp_loop_rounds 8 ?_
 rw [rounds_succ];go_wp2
 rw [rounds_succ];go_wp2
 rw [rounds_succ];go_wp2
 rw [rounds_succ];go_wp2
 rw [rounds_succ];go_wp2
 rw [rounds_succ];go_wp2
 rw [rounds_succ];go_wp2
 rw [rounds_succ];go_wp2
 simp only [or128,an128]
 have cv:=conv_bytes w4 (putL 7 n)
 simp only [putL,List.length,List.map,Nat.zero_add,Nat.reduceAdd,Int.reducePow] at cv
 rw [cv]
 go_wp2
 go_ret
 exact ⟨rfl,(Kept.refl _ _).alloc _⟩

set_option maxHeartbeats 1000000 in
theorem put_8 (n:Int)(w:World)(h0:0≤n)(h1:n≤9223372036854775807)(L:Nat)(hL:Lib.bitLen n.toNat=L)(h63:(L:Int)≤63)(hm:max 1 (((L:Int)+7 - 1) / 7)=8):Calls Tryz.prog 165 #[.int .i64 n] w fun e w'=>e = .returned (.string (strOfNums (putL 8 n)))∧Kept (fun _=>False) w w':=by
 have C:=Lib.hid (len64 n w h0 (by omega))
 rw [hL] at C
 clear hL
 have e1:¬ n<0:=by omega
 have hp:(0:Int)≤(L:Int):=by omega
 have hmk:∀ w,(Instr.makeSlice 48 (.int .i64 8) (.int .i64 8)).run Tryz.prog w = .ok (.slice (some ⟨w.heap.size,0,none⟩) 8 8) (w.alloc (.cells #[.int .u8 0,.int .u8 0,.int .u8 0,.int .u8 0,.int .u8 0,.int .u8 0,.int .u8 0,.int .u8 0] 5)):=fun _=>by kernel_rfl
 go_enter Tryz.func165,Tryz.ntmps165
 go_wp2_with (go_at_call 234;refine C.out.mono ?_;rintro e w4 ⟨rfl,rfl⟩)
 refine wp_loop_rounds 9 ?_
 rw [rounds_succ];go_wp2
 rw [rounds_succ];go_wp2
 rw [rounds_succ];go_wp2
 rw [rounds_succ];go_wp2
 rw [rounds_succ];go_wp2
 rw [rounds_succ];go_wp2
 rw [rounds_succ];go_wp2
 rw [rounds_succ];go_wp2
 rw [rounds_succ];go_wp2
 simp only [or128,an128]
 have cv:=conv_bytes w4 (putL 8 n)
 simp only [putL,List.length,List.map,Nat.zero_add,Nat.reduceAdd,Int.reducePow] at cv
 rw [cv]
 go_wp2
 go_ret
 exact ⟨rfl,(Kept.refl _ _).alloc _⟩

set_option maxHeartbeats 1000000 in
theorem put_9 (n:Int)(w:World)(h0:0≤n)(h1:n≤9223372036854775807)(L:Nat)(hL:Lib.bitLen n.toNat=L)(h63:(L:Int)≤63)(hm:max 1 (((L:Int)+7 - 1) / 7)=9):Calls Tryz.prog 165 #[.int .i64 n] w fun e w'=>e = .returned (.string (strOfNums (putL 9 n)))∧Kept (fun _=>False) w w':=by
 have C:=Lib.hid (len64 n w h0 (by omega))
 rw [hL] at C
 clear hL
 have e1:¬ n<0:=by omega
 have hp:(0:Int)≤(L:Int):=by omega
 have hmk:∀ w,(Instr.makeSlice 48 (.int .i64 9) (.int .i64 9)).run Tryz.prog w = .ok (.slice (some ⟨w.heap.size,0,none⟩) 9 9) (w.alloc (.cells #[.int .u8 0,.int .u8 0,.int .u8 0,.int .u8 0,.int .u8 0,.int .u8 0,.int .u8 0,.int .u8 0,.int .u8 0] 5)):=fun _=>by kernel_rfl
 go_enter Tryz.func165,Tryz.ntmps165
 go_wp2_with (go_at_call 234;refine C.out.mono ?_;rintro e w4 ⟨rfl,rfl⟩)
 refine wp_loop_rounds 10 ?_
 rw [rounds_succ];go_wp2
 rw [rounds_succ];go_wp2
 rw [rounds_succ];go_wp2
 rw [rounds_succ];go_wp2
 rw [rounds_succ];go_wp2
 rw [rounds_succ];go_wp2
 rw [rounds_succ];go_wp2
 rw [rounds_succ];go_wp2
 rw [rounds_succ];go_wp2
 rw [rounds_succ];go_wp2
 have e9:bits .or .u8 (n / 72057594037927936) 128=n / 72057594037927936 % 128+128:=by
  have:=or128 (n / 72057594037927936)
  rwa [show n / 72057594037927936 % 256=n / 72057594037927936 by omega] at this
 simp only [or128,an128,e9]
 have cv:=conv_bytes w4 (putL 9 n)
 simp only [putL,List.length,List.map,Nat.zero_add,Nat.reduceAdd,Int.reducePow] at cv
 rw [cv]
 go_wp2
 go_ret
 exact ⟨rfl,(Kept.refl _ _).alloc _⟩

theorem put_all (n:Int)(w:World)(h1:n≤9223372036854775807):Calls Tryz.prog 165 #[.int .i64 n] w fun e w'=>e = .returned (.string (putF n))∧Kept (fun _=>False) w w':=by
 unfold putF
 by_cases h:n<0
 ·rw [if_pos h]
  go_enter Tryz.func165,Tryz.ntmps165
  go_wp2
  go_ret
  exact ⟨rfl,Kept.refl _ _⟩
 rw [if_neg h]
 have h0:0≤n:=by omega
 have hb:Lib.bitLen n.toNat≤63:=Lib.bitLen_le _ 63 (by omega) (by omega)
 by_cases g1:max 1 ((((Lib.bitLen n.toNat:Nat):Int)+7 - 1) / 7)=1
 ·have e : putM n = 1 := by unfold putM; omega
  rw [e]
  exact put_1 n w h0 h1 _ rfl (by omega) g1
 by_cases g2:max 1 ((((Lib.bitLen n.toNat:Nat):Int)+7 - 1) / 7)=2
 ·have e : putM n = 2 := by unfold putM; omega
  rw [e]
  exact put_2 n w h0 h1 _ rfl (by omega) g2
 by_cases g3:max 1 ((((Lib.bitLen n.toNat:Nat):Int)+7 - 1) / 7)=3
 ·have e : putM n = 3 := by unfold putM; omega
  rw [e]
  exact put_3 n w h0 h1 _ rfl (by omega) g3
 by_cases g4:max 1 ((((Lib.bitLen n.toNat:Nat):Int)+7 - 1) / 7)=4
 ·have e : putM n = 4 := by unfold putM; omega
  rw [e]
  exact put_4 n w h0 h1 _ rfl (by omega) g4
 by_cases g5:max 1 ((((Lib.bitLen n.toNat:Nat):Int)+7 - 1) / 7)=5
 ·have e : putM n = 5 := by unfold putM; omega
  rw [e]
  exact put_5 n w h0 h1 _ rfl (by omega) g5
 by_cases g6:max 1 ((((Lib.bitLen n.toNat:Nat):Int)+7 - 1) / 7)=6
 ·have e : putM n = 6 := by unfold putM; omega
  rw [e]
  exact put_6 n w h0 h1 _ rfl (by omega) g6
 by_cases g7:max 1 ((((Lib.bitLen n.toNat:Nat):Int)+7 - 1) / 7)=7
 ·have e : putM n = 7 := by unfold putM; omega
  rw [e]
  exact put_7 n w h0 h1 _ rfl (by omega) g7
 by_cases g8:max 1 ((((Lib.bitLen n.toNat:Nat):Int)+7 - 1) / 7)=8
 ·have e : putM n = 8 := by unfold putM; omega
  rw [e]
  exact put_8 n w h0 h1 _ rfl (by omega) g8
 by_cases g9:max 1 ((((Lib.bitLen n.toNat:Nat):Int)+7 - 1) / 7)=9
 ·have e : putM n = 9 := by unfold putM; omega
  rw [e]
  exact put_9 n w h0 h1 _ rfl (by omega) g9
 omega
end
end Go.Proofs.YthknocapablpaaaGreatDoor
