/- A part of the proof. -/
import Derived.Test.YthknocapablpaaaGreatDoorAi6
import Derived.Test.YthknocapablpaaaGreatDoorAi5
namespace Go.Proofs.YthknocapablpaaaGreatDoor
/- keys.Of and keys.Index, by their bytes. -/
section
set_option maxRecDepth 100000
open Go.RowKit

set_option maxHeartbeats 1000000 in
theorem like_all (k tr id st:Int)(se ho:ByteArray)(w:World):Calls Tryz.prog 223 #[.agg #[.int .u8 k,.int .i64 tr,.int .i64 id,.int .i64 st,.string se,.string ho]] w fun e w'=>e = .returned (aggS ⟨tr,id,0,se,ho,st,0,.empty⟩)∧Kept (fun _=>False) w w':=by
 go_enter Tryz.func223,Tryz.ntmps223
 go_wp2
 refine bodyPost_ret (v:=_) (by simp [results,Tryz.results223,go_sem];try rfl) rfl ?_
 exact ⟨rfl,((Kept.refl _ _).alloc _).alloc _⟩
theorem told_all (s:ByteArray)(ok:Bool)(w:World):Calls Tryz.prog 249 #[.string s,.bool ok] w fun e w'=>e = .returned (.tuple #[.string (match ok with | true=>s | false=>.empty),.int .i64 (errN ok)])∧w'=w:=by
 cases ok
 ·go_enter Tryz.func249, Tryz.ntmps249
  go_wp2
  go_ret2
  exact ⟨rfl,rfl⟩
 ·go_enter Tryz.func249, Tryz.ntmps249
  go_wp2
  go_ret2
  exact ⟨rfl,rfl⟩

def sS:ByteArray:=⟨#[115]⟩
def spS (tr id:Int):Spn:=⟨tr,id,0,sS,sS,0,0,.empty⟩
def ofB (tr id:Int):Bool:=decide (1≤tr) && decide (tr≤2147483647) && (decide (1≤id) && decide (id≤2147483647))
theorem nameS:nameB sS=true:=by decide +kernel
theorem chk_spS (tr id:Int):chkB (spS tr id)=ofB tr id:=by
 unfold chkB okJ leastJ mostJ numJ spS ofB
 simp [nameS]
def keyF (tr id:Int):ByteArray:=sS++(bigF tr++bigF id)

set_option maxHeartbeats 2000000 in
theorem key_bad (tr id:Int)(w:World)(hB:ofB tr id=false):Calls Tryz.prog 143 #[.agg #[.int .u8 115,.int .i64 tr,.int .i64 id,.int .i64 0,.string .empty,.string .empty]] w fun e w'=>e = .returned (.tuple #[.string .empty,.bool false])∧Kept (fun _=>False) w w':=by
 have tt:∀ {a b c:World},Kept (fun _=>False) a b→Kept (fun _=>False) b c→Kept (fun _=>False) a c:=fun h k=>h.trans k (fun _ _ h=>h) (fun _ _ h=>h)
 have C:=Lib.hid (fun w=>check_all (spS tr id) (by show 1≤_;omega) (by show 1≤_;omega) (by show 0≤_;omega) w)
 rw [chk_spS,hB] at C
 have LK:=Lib.hid (like_all 115 tr id 0 .empty .empty)
 unfold aggS spS at C
 unfold aggS at LK
 clear hB
 go_enter Tryz.func143,Tryz.ntmps143
 go_wp2_with fail
 refine (LK.out _).mono ?_
 rintro e w1 ⟨rfl,k1⟩
 have b0:=k1.cell (a:=⟨w.heap.size,0,none⟩) (v:=.int .u8 115) (by go_simp) (fun f=>f)
 have b1:=k1.cell (a:=⟨w.heap.size,1,none⟩) (v:=.int .i64 tr) (by go_simp) (fun f=>f)
 have b2:=k1.cell (a:=⟨w.heap.size,2,none⟩) (v:=.int .i64 id) (by go_simp) (fun f=>f)
 have hnp:w.heap.size<w1.heap.size:=by have:=k1.size;simp at this;omega
 have K1:=Lib.hid (tt ((Kept.refl _ _).alloc _) k1)
 clear k1
 go_wp2
 have c0:∀ o,(w1.alloc o).cell? ⟨w.heap.size,0,none⟩=some (.int .u8 115):=fun o=>((Kept.refl (fun _=>False) w1).alloc o).cell b0 (fun f=>f)
 go_region
 all_goals go_wp2_with fail
 refine (C.out _).mono ?_
 rintro e w2 ⟨rfl,k2⟩
 have K2:=Lib.hid (tt K1.out (tt ((Kept.refl _ _).alloc _).drew k2))
 go_wp2
 go_ret2
 exact ⟨rfl,K2.out⟩
set_option maxHeartbeats 2000000 in
theorem key_good (tr id:Int)(w:World)(ht:tr≤9223372036854775807)(hi:id≤9223372036854775807)(hB:ofB tr id=true):Calls Tryz.prog 143 #[.agg #[.int .u8 115,.int .i64 tr,.int .i64 id,.int .i64 0,.string .empty,.string .empty]] w fun e w'=>e = .returned (.tuple #[.string (keyF tr id),.bool true])∧Kept (fun _=>False) w w':=by
 have z0:=bigF_size tr
 have z1:=bigF_size id
 unfold keyF
 have BG:=Lib.hid (fun (w':World) (g cap:Nat)=>bigs2 (a:=tr) (b:=id) (g:=g) (o:=0) (cap:=cap) (w:=w') ht hi)
 have zz:(bigF tr++bigF id).size≤16:=by rw [ByteArray.size_append];omega
 obtain ⟨BB,hBB⟩:∃ BB,bigF tr++bigF id=BB:=⟨_,rfl⟩
 rw [hBB] at BG zz ⊢
 clear hBB
 have tt:∀ {a b c:World},Kept (fun _=>False) a b→Kept (fun _=>False) b c→Kept (fun _=>False) a c:=fun h k=>h.trans k (fun _ _ h=>h) (fun _ _ h=>h)
 have C:=Lib.hid (fun w=>check_all (spS tr id) (by show 1≤_;omega) (by show 1≤_;omega) (by show 0≤_;omega) w)
 rw [chk_spS,hB] at C
 have LK:=Lib.hid (like_all 115 tr id 0 .empty .empty)
 unfold aggS spS at C
 unfold aggS at LK
 clear hB
 go_enter Tryz.func143,Tryz.ntmps143
 go_wp2_with fail
 refine (LK.out _).mono ?_
 rintro e w1 ⟨rfl,k1⟩
 have b0:=k1.cell (a:=⟨w.heap.size,0,none⟩) (v:=.int .u8 115) (by go_simp) (fun f=>f)
 have b1:=k1.cell (a:=⟨w.heap.size,1,none⟩) (v:=.int .i64 tr) (by go_simp) (fun f=>f)
 have b2:=k1.cell (a:=⟨w.heap.size,2,none⟩) (v:=.int .i64 id) (by go_simp) (fun f=>f)
 have hnp:w.heap.size<w1.heap.size:=by have:=k1.size;simp at this;omega
 have K1:=Lib.hid (tt ((Kept.refl _ _).alloc _) k1)
 clear k1
 go_wp2
 have c0:∀ o,(w1.alloc o).cell? ⟨w.heap.size,0,none⟩=some (.int .u8 115):=fun o=>((Kept.refl (fun _=>False) w1).alloc o).cell b0 (fun f=>f)
 go_region
 all_goals go_wp2_with fail
 refine (C.out _).mono ?_
 rintro e w2 ⟨rfl,k2⟩
 have K2:=Lib.hid (tt K1.out (tt ((Kept.refl _ _).alloc _).drew k2))
 have d0:=k2.cell (a:=⟨w.heap.size,0,none⟩) (v:=.int .u8 115) (c0 _) (fun f=>f)
 have d1:=k2.cell (a:=⟨w.heap.size,1,none⟩) (v:=.int .i64 tr) (((Kept.refl (fun _=>False) w1).alloc _).cell b1 (fun f=>f)) (fun f=>f)
 have d2:=k2.cell (a:=⟨w.heap.size,2,none⟩) (v:=.int .i64 id) (((Kept.refl (fun _=>False) w1).alloc _).cell b2 (fun f=>f)) (fun f=>f)
 clear k2 c0 b0 b1 b2
 go_wp2
 go_region
 all_goals go_wp2_with (go_at_call 137;refine (BG.out _ _ _ (by simp) (by simp)).mono ?_;rintro e w3 ⟨rfl,k3⟩;have K3:=Lib.hid (tt K2.out (tt ((Kept.refl _ _).drew.alloc _) k3));clear k3)
 go_ret2
 exact ⟨rfl,K3.out⟩

def keyR (tr id:Int):ByteArray:=match ofB tr id with | true=>keyF tr id | false=>.empty
theorem of_all (tr id:Int)(w:World)(ht:tr≤9223372036854775807)(hi:id≤9223372036854775807):Calls Tryz.prog 155 #[.int .i64 tr,.int .i64 id] w fun e w'=>e = .returned (.tuple #[.string (keyR tr id),.int .i64 (errN (ofB tr id))])∧Kept (fun _=>False) w w':=by
 unfold keyR
 cases hB:ofB tr id with
 | true=>
  have K:=Lib.hid (key_good tr id w ht hi hB)
  have T:=Lib.hid (told_all (keyF tr id) true)
  clear hB
  go_enter Tryz.func155,Tryz.ntmps155
  go_wp2_with (first | (go_at_call 143;refine K.out.mono ?_;rintro e w1 ⟨rfl,k1⟩) | (go_at_call 249;refine (T.out _).mono ?_;rintro e w2 ⟨rfl,rfl⟩))
  go_ret2
  exact ⟨rfl,k1⟩
 | false=>
  have K:=Lib.hid (key_bad tr id w hB)
  have T:=Lib.hid (told_all .empty false)
  clear hB
  go_enter Tryz.func155,Tryz.ntmps155
  go_wp2_with (first | (go_at_call 143;refine K.out.mono ?_;rintro e w1 ⟨rfl,k1⟩) | (go_at_call 249;refine (T.out _).mono ?_;rintro e w2 ⟨rfl,rfl⟩))
  go_ret2
  exact ⟨rfl,k1⟩

def spX (m:Spn):Spn:=⟨m.tr,m.id,0,m.se,m.ho,m.st,0,.empty⟩
theorem chk_spX {m:Spn}(h:chkB m=true):chkB (spX m)=true:=by
 unfold chkB okJ leastJ mostJ numJ at h ⊢
 unfold spX
 simp only [Bool.and_eq_true,decide_eq_true_eq] at h ⊢
 refine ⟨⟨⟨⟨⟨⟨⟨?_,?_⟩,?_⟩,?_⟩,?_⟩,?_⟩,?_⟩,?_⟩
 ·exact h.1.1.1.1.1.1.1
 ·exact h.1.1.1.1.1.1.2
 ·omega
 ·exact h.1.1.1.1.2
 ·omega
 ·exact h.1.1.2
 ·exact h.1.2
 ·show 0≤24;omega
theorem chk_size {m:Spn}(h:chkB m=true):m.se.size≤12∧m.ho.size≤12∧m.no.size≤24:=by
 unfold chkB at h
 simp only [Bool.and_eq_true,decide_eq_true_eq] at h
 obtain ⟨⟨⟨⟨⟨⟨⟨h0,h1⟩,h2⟩,h3⟩,h4⟩,h5⟩,h6⟩,h7⟩:=h
 have nm:∀ {s:ByteArray},nameB s=true→s.size≤12:=fun {s} h=>by
  unfold nameB at h
  simp only [Bool.and_eq_true,decide_eq_true_eq] at h
  exact h.1.2
 exact ⟨nm h5,nm h6,h7⟩
theorem chk_of {m:Spn}(h:chkB m=true):ofB m.tr m.id=true:=by
 have g:=chk_num h
 unfold ofB
 simp
 omega
def xS:ByteArray:=⟨#[120]⟩
def nS:ByteArray:=⟨#[0]⟩
def xkeyF (m:Spn):ByteArray:=xS++m.se++nS++m.ho++nS++(bigF m.st++bigF m.tr++bigF m.id)

set_option maxHeartbeats 2000000 in
theorem key_x (m:Spn)(w:World)(hB:chkB m=true):Calls Tryz.prog 143 #[.agg #[.int .u8 120,.int .i64 m.tr,.int .i64 m.id,.int .i64 m.st,.string m.se,.string m.ho]] w fun e w'=>e = .returned (.tuple #[.string (xkeyF m),.bool true])∧Kept (fun _=>False) w w':=by
 have tt:∀ {a b c:World},Kept (fun _=>False) a b→Kept (fun _=>False) b c→Kept (fun _=>False) a c:=fun h k=>h.trans k (fun _ _ h=>h) (fun _ _ h=>h)
 have z0:=bigF_size m.st
 have z1:=bigF_size m.tr
 have z2:=bigF_size m.id
 have g:=chk_num hB
 obtain ⟨y1,y2,_⟩:=chk_size hB
 unfold xkeyF
 have BG:=Lib.hid (fun (w':World) (g0 cap:Nat)=>bigs3 (a:=m.st) (b:=m.tr) (c:=m.id) (g:=g0) (o:=0) (cap:=cap) (w:=w') (by omega) (by omega) (by omega))
 have zz:(bigF m.st++bigF m.tr++bigF m.id).size≤24:=by simp only [ByteArray.size_append];omega
 obtain ⟨BB,hBB⟩:∃ BB,bigF m.st++bigF m.tr++bigF m.id=BB:=⟨_,rfl⟩
 rw [hBB] at BG zz ⊢
 clear hBB z0 z1 z2
 have C:=Lib.hid (fun w=>check_all (spX m) (by show m.se.size≤_;omega) (by show m.ho.size≤_;omega) (by show 0≤_;omega) w)
 rw [chk_spX hB] at C
 have LK:=Lib.hid (like_all 120 m.tr m.id m.st m.se m.ho)
 unfold aggS spX at C
 unfold aggS at LK
 clear hB g
 go_enter Tryz.func143,Tryz.ntmps143
 go_wp2_with fail
 refine (LK.out _).mono ?_
 rintro e w1 ⟨rfl,k1⟩
 have b0:=k1.cell (a:=⟨w.heap.size,0,none⟩) (v:=.int .u8 120) (by go_simp) (fun f=>f)
 have b1:=k1.cell (a:=⟨w.heap.size,1,none⟩) (v:=.int .i64 m.tr) (by go_simp) (fun f=>f)
 have b2:=k1.cell (a:=⟨w.heap.size,2,none⟩) (v:=.int .i64 m.id) (by go_simp) (fun f=>f)
 have b3:=k1.cell (a:=⟨w.heap.size,3,none⟩) (v:=.int .i64 m.st) (by go_simp) (fun f=>f)
 have b4:=k1.cell (a:=⟨w.heap.size,4,none⟩) (v:=.string m.se) (by go_simp) (fun f=>f)
 have b5:=k1.cell (a:=⟨w.heap.size,5,none⟩) (v:=.string m.ho) (by go_simp) (fun f=>f)
 have K1:=Lib.hid (tt ((Kept.refl _ _).alloc _) k1)
 clear k1
 go_wp2
 have c0:∀ o,(w1.alloc o).cell? ⟨w.heap.size,0,none⟩=some (.int .u8 120):=fun o=>((Kept.refl (fun _=>False) w1).alloc o).cell b0 (fun f=>f)
 go_region
 all_goals go_wp2_with fail
 refine (C.out _).mono ?_
 rintro e w2 ⟨rfl,k2⟩
 have K2:=Lib.hid (tt K1.out (tt ((Kept.refl _ _).alloc _).drew k2))
 have d0:=k2.cell (a:=⟨w.heap.size,0,none⟩) (v:=.int .u8 120) (c0 _) (fun f=>f)
 have d1:=k2.cell (a:=⟨w.heap.size,1,none⟩) (v:=.int .i64 m.tr) (((Kept.refl (fun _=>False) w1).alloc _).cell b1 (fun f=>f)) (fun f=>f)
 have d2:=k2.cell (a:=⟨w.heap.size,2,none⟩) (v:=.int .i64 m.id) (((Kept.refl (fun _=>False) w1).alloc _).cell b2 (fun f=>f)) (fun f=>f)
 have d3:=k2.cell (a:=⟨w.heap.size,3,none⟩) (v:=.int .i64 m.st) (((Kept.refl (fun _=>False) w1).alloc _).cell b3 (fun f=>f)) (fun f=>f)
 have d4:=k2.cell (a:=⟨w.heap.size,4,none⟩) (v:=.string m.se) (((Kept.refl (fun _=>False) w1).alloc _).cell b4 (fun f=>f)) (fun f=>f)
 have d5:=k2.cell (a:=⟨w.heap.size,5,none⟩) (v:=.string m.ho) (((Kept.refl (fun _=>False) w1).alloc _).cell b5 (fun f=>f)) (fun f=>f)
 clear k2 c0 b0 b1 b2 b3 b4 b5
 go_wp2
 go_region
 all_goals go_wp2_with fail
 have s1:¬ 9223372036854775807<1+m.se.size:=by omega
 have s2:¬ 9223372036854775807<1+m.se.size+1:=by omega
 have s3:¬ 9223372036854775807<1+m.se.size+1+m.ho.size:=by omega
 have s4:¬ 9223372036854775807<1+m.se.size+1+m.ho.size+1:=by omega
 have s5:¬ 9223372036854775807<1+m.se.size+1+m.ho.size+1+BB.size:=by omega
 refine wp_region_held_drew (S:=(fun w'=>w'.cell? ⟨w.heap.size,1,none⟩=some (.int .i64 m.tr)∧w'.cell? ⟨w.heap.size,2,none⟩=some (.int .i64 m.id)∧w'.cell? ⟨w.heap.size,3,none⟩=some (.int .i64 m.st)∧w'.cell? ⟨w.heap.size,4,none⟩=some (.string m.se)∧w'.cell? ⟨w.heap.size,5,none⟩=some (.string m.ho))) (by kernel_rfl) ?_ (fun hHeld=>?_)
 ·exact ⟨d1,d2,d3,d4,d5⟩
 refine tW 0 opAt0 hHeld ?_
 try simp only [Act.put,z2,List.set]
 refine tW 1 opAt1 hHeld ?_
 try simp only [Act.put,z2,List.set]
 refine tW 2 opAt2 hHeld ?_
 try simp only [Act.put,z2,List.set]
 refine tW 3 opAt3 hHeld ?_
 try simp only [Act.put,z2,List.set]
 refine tW 4 opAt4 hHeld ?_
 try simp only [Act.put,z2,List.set]
 refine tW 5 opAt5 hHeld ?_
 try simp only [Act.put,z2,List.set]
 refine tW 6 opAt6 hHeld ?_
 try simp only [Act.put,z2,List.set]
 refine tW 7 opAt7 hHeld ?_
 try simp only [Act.put,z2,List.set]
 refine tW 8 opAt8 hHeld ?_
 try simp only [Act.put,z2,List.set]
 refine tW 9 opAt9 hHeld ?_
 try simp only [Act.put,z2,List.set]
 refine tW 10 opAt10 hHeld ?_
 try simp only [Act.put,z2,List.set]
 refine tW 11 opAt11 hHeld ?_
 try simp only [Act.put,z2,List.set]
 refine tW 12 opAt12 hHeld ?_
 try simp only [Act.put,z2,List.set]
 refine tW 13 opAt13 hHeld ?_
 try simp only [Act.put,z2,List.set]
 refine wpAnyH_ready (rs:=[14]) (by kernel_rfl) (by simp) ?_
 refine AllReadyH.cons opAt14 (fun K hK=>?_) AllReadyH.nil
 go_simp
 skip
 refine hK.out _ _ ?_ (fun hHeld=>?_)
 ·exact ⟨((Kept.refl (fun _=>False) _).alloc _).cell hHeld.1 (fun f=>f),((Kept.refl (fun _=>False) _).alloc _).cell hHeld.2.1 (fun f=>f),((Kept.refl (fun _=>False) _).alloc _).cell hHeld.2.2.1 (fun f=>f),((Kept.refl (fun _=>False) _).alloc _).cell hHeld.2.2.2.1 (fun f=>f),((Kept.refl (fun _=>False) _).alloc _).cell hHeld.2.2.2.2 (fun f=>f)⟩
 clear hK K
 try simp only [Act.put,z2,List.set]
 refine wpAnyH_ready (rs:=[15]) (by kernel_rfl) (by simp) ?_
 refine AllReadyH.cons opAt15 (fun K hK=>?_) AllReadyH.nil
 go_simp
 go_at_call 137;refine (BG.out _ _ _ (by simp) (by simp) (by simp)).mono ?_;rintro e w3 ⟨rfl,k3⟩;have K3:=Lib.hid (tt K2.out (tt ((Kept.refl _ _).alloc _).drew.drew k3));dsimp only
 refine hK.out _ _ ?_ (fun hHeld=>?_)
 ·exact ⟨k3.cell hHeld.1 (fun f=>f),k3.cell hHeld.2.1 (fun f=>f),k3.cell hHeld.2.2.1 (fun f=>f),k3.cell hHeld.2.2.2.1 (fun f=>f),k3.cell hHeld.2.2.2.2 (fun f=>f)⟩
 clear hK K
 try simp only [Act.put,z2,List.set]
 refine tW 16 opAt16 hHeld ?_
 try simp only [Act.put,z2,List.set]
 refine tW 17 opAt17 hHeld ?_
 try simp only [Act.put,z2,List.set]
 refine tW 18 opAt18 hHeld ?_
 try simp only [Act.put,z2,List.set]
 refine wpAnyH_done (by kernel_rfl) ?_ _
 go_wp2
 go_ret2
 exact ⟨rfl,K3.out⟩
end
end Go.Proofs.YthknocapablpaaaGreatDoor
