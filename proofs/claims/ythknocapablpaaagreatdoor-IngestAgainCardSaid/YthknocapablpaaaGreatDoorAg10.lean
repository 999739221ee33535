/- A part of the proof. -/
import Derived.Lib.SliceRun
import Derived.Test.YthknocapablpaaaGreatDoorAg9
import Derived.Test.YthknocapablpaaaGreatDoorAg6

/- tablets.Get, store.Get. -/
namespace Go.Proofs.YthknocapablpaaaGreatDoor
open Go.RowKit
set_option maxRecDepth 100000

def tabV (m : Nat) : Value := .agg #[.string ⟨#[]⟩, .string ⟨#[]⟩, .pointer (some ⟨m, 0, none⟩), .slice none 0 0]
theorem less_empty (l : List UInt8) : Op.bytesLess l [] = false := by
 cases l <;> rfl
set_option maxHeartbeats 4000000 in
theorem has_any (m : Nat) (key : ByteArray) (w : World) : Calls Tryz.prog 157 #[tabV m, .string key] w fun e w' => e = .returned (.bool true) ∧ Kept (fun _ => False) w w' := by
 have h := less_empty key.toList
 unfold tabV
 go_enter Tryz.func157, Tryz.ntmps157
 go_wp2
 go_ret
 exact ⟨rfl, (Kept.refl _ _).alloc _⟩
set_option maxHeartbeats 4000000 in
theorem tget_any {own : Nat → Prop} {w : World} {m : Nat} {ps : List Pg} {key : ByteArray} (M : MemB own w m ps) (hs : SortedC (allP ps)) (hl : (allP ps).length ≤ 10000) (hk : key.size ≤ 100000) :
  Calls Tryz.prog 94 #[tabV m, .string key] w fun e w' => e = .returned (getV (allP ps) key) ∧ Kept (fun _ => False) w w' := by
 obtain ⟨tb, htb⟩ : ∃ q, w.heap.size = q := ⟨_, rfl⟩
 obtain ⟨W0, hW0⟩ : ∃ W, (w.alloc (Obj.cells #[.string ⟨#[]⟩, .string ⟨#[]⟩, .pointer (some ⟨m, 0, none⟩), .slice none 0 0] 143)).alloc (Obj.cells #[.string ⟨#[]⟩, .int .i64 0, .string ⟨#[]⟩] 132) = W := ⟨_, rfl⟩
 have k0 : Kept (fun _ => False) w W0 := by rw [← hW0]; exact ((Kept.refl _ _).alloc _).alloc _
 have a0 : W0.cell? ⟨tb, 0, none⟩ = some (.string ⟨#[]⟩) := by rw [← hW0, ← htb]; simp [go_sem]
 have a1 : W0.cell? ⟨tb, 1, none⟩ = some (.string ⟨#[]⟩) := by rw [← hW0, ← htb]; simp [go_sem]
 have a2 : W0.cell? ⟨tb, 2, none⟩ = some (.pointer (some ⟨m, 0, none⟩)) := by rw [← hW0, ← htb]; simp [go_sem]
 have a3 : W0.cell? ⟨tb, 3, none⟩ = some (.slice none 0 0) := by rw [← hW0, ← htb]; simp [go_sem]
 have r0 : W0.cell? ⟨tb + 1, 0, none⟩ = some (.string ⟨#[]⟩) := by rw [← hW0, ← htb]; simp [go_sem]
 have r1 : W0.cell? ⟨tb + 1, 1, none⟩ = some (.int .i64 0) := by rw [← hW0, ← htb]; simp [go_sem]
 have r2 : W0.cell? ⟨tb + 1, 2, none⟩ = some (.string ⟨#[]⟩) := by rw [← hW0, ← htb]; simp [go_sem]
 have rf : ∀ j, W0.frozen? ⟨tb + 1, j, none⟩ = false := fun j => by rw [← hW0, ← htb]; simp [go_sem]
 have rl0 : tb + 1 < W0.heap.size := World.block_lt_of_cell? _ _ r0
 have K0 := Lib.hid k0
 have HA := Lib.hid (fun (W : World) => has_any m key W)
 have MG := Lib.hid (fun (W : World) (K : Kept (fun _ => False) W0 W) => mget_any (key := key) ((M.kept k0 (fun _ _ f => f)).kept K (fun _ _ f => f)) hs hl hk)
 unfold tabV at HA ⊢
 unfold getV at MG ⊢
 obtain ⟨⟨ck, cs, cv⟩, hc⟩ : ∃ c, (getL (allP ps) key).getD zeroC = c := ⟨_, rfl⟩
 obtain ⟨b, hb⟩ : ∃ b, (getL (allP ps) key).isSome = b := ⟨_, rfl⟩
 rw [hc, hb] at MG ⊢
 unfold Cel.val at MG ⊢
 simp only at MG ⊢
 clear M hs hl hk k0 hc hb
 go_enter Tryz.func94, Tryz.ntmps94
 go_wp2_with (first
  | (go_at_call 157; refine (HA.out _).mono ?_; rintro e w1 ⟨rfl, k1⟩; (have K1 := Lib.hid k1); (have b0 := k1.cell a0 (fun f => f)); (have b1 := k1.cell a1 (fun f => f)); (have b2 := k1.cell a2 (fun f => f)); (have b3 := k1.cell a3 (fun f => f)); (have s0 := k1.cell r0 (fun f => f)); (have s1 := k1.cell r1 (fun f => f)); (have s2 := k1.cell r2 (fun f => f)); (have sf := fun j => k1.frozen (rf j) rl0 (fun f => f)); (have rl1 : tb + 1 < w1.heap.size := World.block_lt_of_cell? _ _ s0); clear k1 a0 a1 a2 a3 r0 r1 r2 rf rl0)
  | (go_at_call 158; refine (MG.out _ K1.out).mono ?_; rintro e w2 ⟨rfl, k2⟩; (have K2 := Lib.hid (K1.out.trans k2 (fun _ _ f => f) (fun _ _ f => f))); (have d3 := k2.cell b3 (fun f => f)); (have tl2 : tb < w2.heap.size := World.block_lt_of_cell? _ _ d3); (have u0 := k2.cell s0 (fun f => f)); (have u1 := k2.cell s1 (fun f => f)); (have u2 := k2.cell s2 (fun f => f)); (have uf := fun j => k2.frozen (sf j) rl1 (fun f => f)); (have rl2 : tb + 1 < w2.heap.size := World.block_lt_of_cell? _ _ u0); clear k2 b0 b1 b2 b3 s0 s1 s2 sf rl1))
 refine wp_loop_rounds 1 ?_
 rw [rounds_succ]
 go_wp2_with fail
 have hp : tb + 1 < w.heap.size → False := fun h => by omega
 have KK := K0.out.trans K2.out (T := fun _ => False) (fun _ _ f => f) (fun _ _ f => f)
 refine bodyPost_ret_by (v := _) ?_ rfl ⟨rfl, (Kept.setAt hp (Kept.setAt hp (Kept.setAt hp KK))).alloc _⟩
 rw [results_cell_tmp rfl]
 go_simp
set_option maxHeartbeats 4000000 in
theorem sget_any {S : Sto} {own : Nat → Prop} {w : World} {F : List Fl} {n t : Nat} {ps : List Pg} {q : Int} {key : ByteArray} (h : StAt S own w F n t ps q) (hl : (allP ps).length ≤ 10000) (hk : key.size ≤ 100000) (hne : key ≠ ⟨#[]⟩) :
  Calls Tryz.prog 51 #[.pointer (some ⟨S.s, 0, none⟩), .string key] w fun e w' => e = .returned (getV (allP ps) key) ∧ Kept (fun _ => False) w w' := by
 obtain ⟨rb, hrb⟩ : ∃ q, w.heap.size = q := ⟨_, rfl⟩
 obtain ⟨W0, hW0⟩ : ∃ W, w.alloc (Obj.cells #[.string ⟨#[]⟩, .int .i64 0, .string ⟨#[]⟩] 132) = W := ⟨_, rfl⟩
 have k0 : Kept (fun _ => False) w W0 := by rw [← hW0]; exact (Kept.refl _ _).alloc _
 have r0 : W0.cell? ⟨rb, 0, none⟩ = some (.string ⟨#[]⟩) := by rw [← hW0, ← hrb]; simp [go_sem]
 have r1 : W0.cell? ⟨rb, 1, none⟩ = some (.int .i64 0) := by rw [← hW0, ← hrb]; simp [go_sem]
 have r2 : W0.cell? ⟨rb, 2, none⟩ = some (.string ⟨#[]⟩) := by rw [← hW0, ← hrb]; simp [go_sem]
 have rf : ∀ j, W0.frozen? ⟨rb, j, none⟩ = false := fun j => by rw [← hW0, ← hrb]; simp [go_sem]
 have rl0 : rb < W0.heap.size := World.block_lt_of_cell? _ _ r0
 have H0 := Lib.hid (h.keptF k0)
 have AS := Lib.hid (sask_any H0.out)
 have K0 := Lib.hid k0
 have HG := Lib.hid (fun (W : World) (K : Kept (fun _ => False) W0 W) => H0.out.keptF K)
 have FI := Lib.hid (fun (W : World) (tb' o' : Nat) (T : TabAt W tb' o') => find_any (key := key) T hne)
 have c1 := h.c1
 have c1 := k0.cell c1 (fun f => f)
 have TG := Lib.hid (fun (W : World) (K : Kept (fun _ => False) W0 W) => tget_any (key := key) ((H0.out.keptF K).mem) h.srt hl hk)
 have TB := Lib.hid (fun (W : World) (K : Kept (fun _ => False) W0 W) => tablet_any (H0.out.keptF K))
 have MS := Lib.hid (fun (W : World) (K : Kept (fun _ => False) W0 W) => mstate_any (H0.out.keptF K).man)
 unfold tabV at TG
 unfold getV at TG ⊢
 obtain ⟨⟨ck, cs, cv⟩, hc⟩ : ∃ c, (getL (allP ps) key).getD zeroC = c := ⟨_, rfl⟩
 obtain ⟨b, hb⟩ : ∃ b, (getL (allP ps) key).isSome = b := ⟨_, rfl⟩
 rw [hc, hb] at TG ⊢
 unfold Cel.val at TG ⊢
 obtain ⟨s, d, mb, j, gm, m, tb, o, fm, cm⟩ := S
 simp only at TG c1 TB MS AS ⊢
 clear h hl hk k0 hc hb hne
 go_enter Tryz.func51, Tryz.ntmps51
 go_wp2_with (first
  | (go_at_call 69; refine AS.out.mono ?_; rintro e w1 ⟨rfl, k1⟩; (have K1 := Lib.hid k1); (have d1 := k1.cell c1 (fun f => f)); (have s0 := k1.cell r0 (fun f => f)); (have s1 := k1.cell r1 (fun f => f)); (have s2 := k1.cell r2 (fun f => f)); (have sf := fun j => k1.frozen (rf j) rl0 (fun f => f)); (have rl1 : rb < w1.heap.size := World.block_lt_of_cell? _ _ s0); clear k1 c1 r0 r1 r2 rf rl0)
  | (go_at_call 61; refine (MS.out _ K1.out).mono ?_; rintro e w2 ⟨⟨tb', o', rfl, ht, _⟩, k2⟩; (have K2 := Lib.hid (K1.out.trans k2 (fun _ _ f => f) (fun _ _ f => f))); (have TT := Lib.hid ht); (have u0 := k2.cell s0 (fun f => f)); (have u1 := k2.cell s1 (fun f => f)); (have u2 := k2.cell s2 (fun f => f)); (have uf := fun j => k2.frozen (sf j) rl1 (fun f => f)); (have rl2 : rb < w2.heap.size := World.block_lt_of_cell? _ _ u0); clear k2 d1 s0 s1 s2 sf rl1 ht)
  | (go_at_call 95; refine (FI.out _ _ _ TT.out).mono ?_; rintro e w3 ⟨rfl, k3⟩; (have K3 := Lib.hid (K2.out.trans k3 (fun _ _ f => f) (fun _ _ f => f))); (have v0 := k3.cell u0 (fun f => f)); (have v1 := k3.cell u1 (fun f => f)); (have v2 := k3.cell u2 (fun f => f)); (have vf := fun j => k3.frozen (uf j) rl2 (fun f => f)); (have rl3 : rb < w3.heap.size := World.block_lt_of_cell? _ _ v0); clear k3 u0 u1 u2 uf rl2)
  | (go_at_call 71; refine (TB.out _ K3.out).mono ?_; rintro e w4 ⟨rfl, k4⟩; (have K4 := Lib.hid (K3.out.trans k4 (fun _ _ f => f) (fun _ _ f => f))); (have x0 := k4.cell v0 (fun f => f)); (have x1 := k4.cell v1 (fun f => f)); (have x2 := k4.cell v2 (fun f => f)); (have xf := fun j => k4.frozen (vf j) rl3 (fun f => f)); (have rl4 : rb < w4.heap.size := World.block_lt_of_cell? _ _ x0); clear k4 v0 v1 v2 vf rl3)
  | (go_at_call 94; refine (TG.out _ K4.out).mono ?_; rintro e w5 ⟨rfl, k5⟩; (have K5 := Lib.hid (K4.out.trans k5 (fun _ _ f => f) (fun _ _ f => f))); (have z0 := k5.cell x0 (fun f => f)); (have z1 := k5.cell x1 (fun f => f)); (have z2 := k5.cell x2 (fun f => f)); (have zf := fun j => k5.frozen (xf j) rl4 (fun f => f)); (have rl5 : rb < w5.heap.size := World.block_lt_of_cell? _ _ z0); clear k5 x0 x1 x2 xf rl4))
 have hp : rb < w.heap.size → False := fun h => by omega
 have KK := K0.out.trans K5.out (T := fun _ => False) (fun _ _ f => f) (fun _ _ f => f)
 refine bodyPost_ret_by (v := _) ?_ rfl ⟨rfl, (Kept.setAt hp (Kept.setAt hp (Kept.setAt hp KK)))⟩
 rw [results_cell_tmp rfl]
 go_simp
end Go.Proofs.YthknocapablpaaaGreatDoor

/- store.hold. -/
namespace Go.Proofs.YthknocapablpaaaGreatDoor
open Go.RowKit
set_option maxRecDepth 100000

theorem StAt.lts {S : Sto} {own : Nat → Prop} {w : World} {F : List Fl} {n t : Nat} {ps : List Pg} {q : Int} (h : StAt S own w F n t ps q) : (∀ b, S.still b → b < w.heap.size) ∧ S.s < w.heap.size ∧ S.fm < w.heap.size := by
 obtain ⟨_, ⟨_, _, _, t1, _⟩, _, _, _, m1, _⟩ := h.man
 refine ⟨fun b hb => ?_, World.block_lt_of_cell? _ _ h.c0, h.dsk.mp.lt⟩
 rcases hb with rfl | rfl | rfl | rfl | rfl
 ·exact World.block_lt_of_cell? _ _ h.dsk.c0
 ·exact (Array.getElem?_eq_some_iff.1 m1).1
 ·exact World.block_lt_of_cell? _ _ h.jrn.c0
 ·exact World.block_lt_of_cell? _ _ h.g0
 ·exact (Array.getElem?_eq_some_iff.1 t1).1
theorem mem_ob {own : Nat → Prop} {w : World} {m : Nat} {ps : List Pg} (M : MemB own w m ps) : ∀ b, own b → b < w.heap.size := by
 rcases M with ⟨_, M⟩ | ⟨_, _, _, M⟩
 ·exact M.ob
 ·exact M.ob
/-- The store behind a change of its memory. -/
theorem StAt.put {S : Sto} {own : Nat → Prop} {w w' : World} {F : List Fl} {n t : Nat} {ps : List Pg} {q : Int} {c : Cel} (h : StAt S own w F n t ps q) (P : PutM own w w' S.m c ps) :
  ∃ own' ps', StAt S own' w' F n t ps' q ∧ Ins (allP ps) c (allP ps') ∧ (∀ b, own b → own' b) ∧ (∀ b, own' b → own b ∨ w.heap.size ≤ b) ∧ Kept own w w' := by
 obtain ⟨own', ps', M, hi, h1, h2, K⟩ := P
 obtain ⟨l1, l2, l3⟩ := h.lts
 have hS : ∀ b, S.still b → ¬ own b := fun b hb e => h.st b hb (.inl e)
 have hd := hS S.d (.inl rfl)
 have hm := hS S.mb (.inr (.inl rfl))
 have hj := hS S.j (.inr (.inr (.inl rfl)))
 have hg := hS S.gm (.inr (.inr (.inr (.inl rfl))))
 have ht := hS S.tb (.inr (.inr (.inr (.inr rfl))))
 refine ⟨own', ps', ⟨K.cell h.c0 h.os, K.cell h.c1 h.os, K.cell h.c2 h.os, K.cell h.c3 h.os, K.cell h.c5 h.os, K.frozen h.f5 l2 h.os, K.cell h.g0 hg, h.man.kept K hm ht, h.jrn.kept K hj, h.dsk.kept K hd h.of, h.fls, M, hi.sorted h.srt, fun b hb e => ?_, fun e => ?_, fun e => ?_, mem_ob M⟩, hi, h1, h2, K⟩
 ·rcases e with e | e
  ·rcases h2 b e with e | e
   ·exact hS b hb e
   ·have := l1 b hb; omega
  ·exact h.st b hb (.inr e)
 ·rcases h2 _ e with e | e
  ·exact h.os e
  ·omega
 ·rcases h2 _ e with e | e
  ·exact h.of e
  ·omega
/-- The store behind a new last Seq. -/
theorem StAt.seq {S : Sto} {own : Nat → Prop} {w : World} {F : List Fl} {n t : Nat} {ps : List Pg} {q : Int} (h : StAt S own w F n t ps q) (q' : Int) : StAt S own (w.setCell ⟨S.s, 5, none⟩ (.int .i64 q')) F n t ps q' := by
 have K : Kept (fun b => b = S.s) w (w.setCell ⟨S.s, 5, none⟩ (.int .i64 q')) := (Kept.refl _ _).setAt (fun _ => rfl)
 have hS : ∀ b, S.still b → ¬ b = S.s := fun b hb e => h.st b hb (.inr (.inl e))
 have hd := hS S.d (.inl rfl)
 have hm := hS S.mb (.inr (.inl rfl))
 have hj := hS S.j (.inr (.inr (.inl rfl)))
 have hg := hS S.gm (.inr (.inr (.inr (.inl rfl))))
 have ht := hS S.tb (.inr (.inr (.inr (.inr rfl))))
 have c0 := h.c0
 have c1 := h.c1
 have c2 := h.c2
 have c3 := h.c3
 have c5 := h.c5
 have hf : ¬ S.fm = S.s := fun e => by rw [← e, h.dsk.mp.not_cell] at c0; cases c0
 refine ⟨by simp [go_sem, c0], by simp [go_sem, c1], by simp [go_sem, c2], by simp [go_sem, c3], by simp [go_sem, c5], by rw [frozen_setCell]; exact h.f5, K.cell h.g0 hg, h.man.kept K hm ht, h.jrn.kept K hj, h.dsk.kept K hd hf, h.fls, h.mem.kept K (fun b hb e => h.os (e ▸ hb)), h.srt, h.st, h.os, h.of, fun b hb => by have := h.ob b hb; simpa using this⟩
set_option maxHeartbeats 8000000 in
theorem hold_any {S : Sto} {own : Nat → Prop} {w : World} {F : List Fl} {n t : Nat} {ps : List Pg} {q : Int} {c : Cel} (h : StAt S own w F n t ps q) (hc : mayC c = true) (hno : ∀ d ∈ allP ps, cmpC d c ≠ 0) (hl : (allP ps).length ≤ 10000) (hq : q < c.s) (hk : c.k ≠ ⟨#[]⟩) :
  Calls Tryz.prog 66 #[.pointer (some ⟨S.s, 0, none⟩), c.val] w fun e w' => e = .returned (.tuple #[]) ∧ ∃ own' ps', StAt S own' w' F n t ps' c.s ∧ Ins (allP ps) c (allP ps') ∧ (∀ b, own b → own' b) ∧ (∀ b, own' b → own b ∨ w.heap.size ≤ b) ∧ Kept (S.turn own) w w' := by
 obtain ⟨cb, hcb⟩ : ∃ q, w.heap.size = q := ⟨_, rfl⟩
 obtain ⟨W0, hW0⟩ : ∃ W, w.alloc (Obj.cells #[.string c.k, .int .i64 c.s, .string c.v] 132) = W := ⟨_, rfl⟩
 have k0 : Kept (fun _ => False) w W0 := by rw [← hW0]; exact (Kept.refl _ _).alloc _
 have y0 : W0.cell? ⟨cb, 0, none⟩ = some (.string c.k) := by rw [← hW0, ← hcb]; simp [go_sem]
 have y1 : W0.cell? ⟨cb, 1, none⟩ = some (.int .i64 c.s) := by rw [← hW0, ← hcb]; simp [go_sem]
 have y2 : W0.cell? ⟨cb, 2, none⟩ = some (.string c.v) := by rw [← hW0, ← hcb]; simp [go_sem]
 have H0 := Lib.hid (h.keptF k0)
 have K0 := Lib.hid k0
 have c1 := H0.out.c1
 have c3 := H0.out.c3
 have g0 := H0.out.g0
 have MS := Lib.hid (fun (W : World) (K : Kept (fun _ => False) W0 W) => mstate_any (H0.out.keptF K).man)
 have FI := Lib.hid (fun (W : World) (tb' o' : Nat) (T : TabAt W tb' o') => find_any (key := c.k) T hk)
 have PU := Lib.hid (fun (W : World) (K : Kept (fun _ => False) W0 W) => mput_any (c := c) (H0.out.keptF K).mem hc h.srt hno hl)
 have so : ¬ own S.s := h.os
 have go : ¬ own S.gm := fun e => h.st S.gm (.inr (.inr (.inr (.inl rfl)))) (.inl e)
 have co : ¬ own cb := fun e => by have := h.ob cb e; omega
 have HQ := Lib.hid hq
 have hmax : max q c.s = c.s := by omega
 obtain ⟨ck, cs, cv⟩ := c
 unfold Cel.val at PU ⊢
 unfold Sto.turn
 obtain ⟨SS, hSS⟩ : ∃ SS, SS = S := ⟨_, rfl⟩
 have H0' := H0.out
 rw [← hSS] at H0'
 have HS := Lib.hid hSS
 have H1 := Lib.hid H0'
 obtain ⟨s, d, mb, j, gm, m, tb, o, fm, cm⟩ := S
 simp only at c1 c3 g0 MS FI PU so go y0 y1 y2 hmax ⊢
 clear h hc hno hl hk k0 hq H0' hSS
 go_enter Tryz.func66, Tryz.ntmps66
 go_wp2_with fail
 go_region_held3 (fun w' => w'.cell? ⟨s, 1, none⟩ = some (.pointer (some ⟨mb, 0, none⟩)) ∧ w'.cell? ⟨s, 3, none⟩ = some (.slice (some ⟨gm, 0, none⟩) 1 cm) ∧ w'.cell? ⟨gm, 0, none⟩ = some (.pointer (some ⟨m, 0, none⟩)) ∧ w'.cell? ⟨cb, 0, none⟩ = some (.string ck) ∧ w'.cell? ⟨cb, 1, none⟩ = some (.int .i64 cs) ∧ w'.cell? ⟨cb, 2, none⟩ = some (.string cv)) (first | go_keep | (go_split_ands; first | exact ⟨kk.cell (by assumption) (fun f => f), kk.cell (by assumption) (fun f => f), kk.cell (by assumption) (fun f => f), kk.cell (by assumption) (fun f => f), kk.cell (by assumption) (fun f => f), kk.cell (by assumption) (fun f => f)⟩ | exact ⟨kk.cell (by assumption) so, kk.cell (by assumption) so, kk.cell (by assumption) go, kk.cell (by assumption) co, kk.cell (by assumption) co, kk.cell (by assumption) co⟩))
  (first
   | (go_at_call 124; refine (PU.out _ K2.out).mono ?_; rintro e w3 ⟨rfl, pm⟩; (have PM := Lib.hid pm); obtain ⟨_, _, _, _, _, _, kk⟩ := pm)
   | (go_at_call 95; refine (FI.out _ _ _ TT.out).mono ?_; rintro e w2 ⟨rfl, kk⟩; (have K2 := Lib.hid (K1.out.trans kk (fun _ _ f => f) (fun _ _ f => f))))
   | (go_at_call 61; refine (MS.out _ (Kept.refl _ _).drew).mono ?_; rintro e w1 ⟨⟨tb', o', rfl, ht, _⟩, kk⟩; unfold stV; (have K1 := Lib.hid ((Kept.refl (fun _ => False) W0).drew.trans kk (fun _ _ f => f) (fun _ _ f => f))); (have TT := Lib.hid ht); clear ht))
 have H2 := H1.out.keptF K2.out
 rw [HS.out] at H2
 obtain ⟨own', ps', H3, hi, o1, o2, K3⟩ := H2.put PM.out
 have z5 := H3.c5
 have zf := H3.f5
 have z1 := K3.cell (K2.out.cell y1 (fun f => f)) co
 have HH3 := Lib.hid H3
 have HI := Lib.hid (show Ins (allP ps) ⟨ck, cs, cv⟩ (allP ps') from hi)
 have O1 := Lib.hid o1
 have O2 := Lib.hid o2
 have mixed : Tryz.prog.follows .mixedOrders = true := by kernel_rfl
 simp only at z5 zf
 clear H2 H3 hi o1 o2 kk c1 c3 g0
 go_wp2_with fail
 go_region_o
 all_goals go_wp2
 all_goals
  refine bodyPost_end (results_none rfl _ _ _) rfl ⟨rfl, own', ps', ?_, HI.out, O1.out, fun b hb => ?_, ?_⟩
  ·have := (HH3.out.seq cs).keptF (Kept.refl (fun _ => False) _).drew
   exact this
  ·have h1 := K0.out.size
   have h2 := K2.out.size
   rcases O2.out b hb with e | e
   ·exact .inl e
   ·exact .inr (by omega)
  ·exact (Kept.setAt (fun _ => .inr (.inl rfl)) ((K0.out.trans K2.out (T := fun b => own b ∨ b = s ∨ b = fm) (fun _ _ f => f.elim) (fun _ _ f => f.elim)).trans K3 (fun _ _ f => f) (fun _ _ f => .inl f))).drew
end Go.Proofs.YthknocapablpaaaGreatDoor

/- store.room: there is room. -/
namespace Go.Proofs.YthknocapablpaaaGreatDoor
open Go.RowKit
set_option maxRecDepth 100000

theorem w64n (n : Nat) (h : n ≤ 1000000) : wrap64 (n : Int) = (n : Int) := by
 unfold wrap64
 omega
theorem w64a (a b : Nat) (h : a + b ≤ 1000000) : wrap64 ((a : Int) + (b : Int)) = ((a + b : Nat) : Int) := by
 rw [← Int.natCast_add]
 exact w64n _ h
theorem w64s (a : Nat) (h : a + 1 ≤ 1000000) : wrap64 ((a : Int) + 1) = ((a + 1 : Nat) : Int) := w64a a 1 h
theorem wi64a (a b : Nat) (h : a + (b + 1) ≤ 1000000) : IntKind.i64.wrap ((a : Int) + ((b : Int) + 1)) = ((a + (b + 1) : Nat) : Int) := by
 rw [IntKind.wrap_i64]
 omega
theorem le4096 (a : Nat) (h : a ≤ 4000) : ¬ ((a : Int) > 4096) := by omega
theorem room_nums {a i k L : Nat} (h1 : a + L ≤ 4000) (h2 : i < L) (_ : L = k) : a + (i + 1) ≤ 4000 ∧ i + 1 ≤ 1000000 ∧ a + (i + 1) ≤ 1000000 := by omega
set_option maxHeartbeats 8000000 in
theorem room_any {S : Sto} {own : Nat → Prop} {w : World} {F : List Fl} {n t : Nat} {ps : List Pg} {q : Int} {ao : Option Addr} {cap : Nat} {L : List Cel} (h : StAt S own w F n t ps q) (R : CelsR w ao L) (hk : ∀ c ∈ L, c.k ≠ ⟨#[]⟩) (hl : (allP ps).length + L.length ≤ 4000) :
  Calls Tryz.prog 98 #[.pointer (some ⟨S.s, 0, none⟩), .slice ao L.length cap] w fun e w' => e = .returned (.bool true) ∧ Kept (fun _ => False) w w' := by
 obtain ⟨k, hn⟩ : ∃ k, L.length = k := ⟨_, rfl⟩
 have HN := Lib.hid hn
 have H := Lib.hid h
 have MS := Lib.hid (mstate_any h.man)
 have FI := Lib.hid (fun (key : ByteArray) (hne : key ≠ ⟨#[]⟩) (W : World) (tb' o' : Nat) (T : TabAt W tb' o') => find_any (key := key) T hne)
 have LE := Lib.hid (fun (W : World) (K : Kept (fun _ => False) w W) => mlen_any (H.out.keptF K).mem (by omega))
 have RR := Lib.hid R
 have HK := Lib.hid hk
 rw [hn] at hl ⊢
 have HL := Lib.hid hl
 have hmk : ∀ w, (Instr.makeSlice 80 (.int .i64 1) (.int .i64 1)).run Tryz.prog w = .ok (.slice (some ⟨w.heap.size, 0, none⟩) 1 1) (w.alloc (.cells #[.int .i64 0] 3)) := fun _ => by kernel_rfl
 have c1 := h.c1
 have c3 := h.c3
 have g0 := h.g0
 obtain ⟨s, d, mb, j, gm, m, tb, o, fm, cm⟩ := S
 simp only at c1 c3 g0 MS LE ⊢
 clear h R hk hn
 go_enter Tryz.func98, Tryz.ntmps98
 go_wp2_with (first
  | (go_at_call 61; refine MS.out.mono ?_; rintro e w1 ⟨⟨tb', o', rfl, ht, _⟩, k1⟩; unfold stV; (have K1 := Lib.hid k1); (have TT := Lib.hid ht); (have x3 := k1.cell c3 (fun f => f)); (have xg := k1.cell g0 (fun f => f)); (have sl := World.block_lt_of_cell? _ _ x3); clear k1 ht c1 c3 g0))
 obtain ⟨sb, hsb⟩ : ∃ q, w1.heap.size = q := ⟨_, rfl⟩
 obtain ⟨W2, hW2⟩ : ∃ W2, (w1.alloc (Obj.cells #[Value.slice (some ⟨tb', o', none⟩) 1 1, .int .i64 1, .int .i64 2] 121)).alloc (Obj.cells #[Value.int .i64 0] 3) = W2 := ⟨_, rfl⟩
 have k2 : Kept (fun _ => False) w1 W2 := by rw [← hW2]; exact ((Kept.refl _ _).alloc _).alloc _
 have p0 : W2.cell? ⟨sb, 0, none⟩ = some (.slice (some ⟨tb', o', none⟩) 1 1) := by rw [← hW2, ← hsb]; simp [go_sem]
 have p1 : W2.cell? ⟨sb, 1, none⟩ = some (.int .i64 1) := by rw [← hW2, ← hsb]; simp [go_sem]
 have p2 : W2.cell? ⟨sb, 2, none⟩ = some (.int .i64 2) := by rw [← hW2, ← hsb]; simp [go_sem]
 have n0 : W2.cell? ⟨sb + 1, 0, none⟩ = some (.int .i64 0) := by rw [← hW2, ← hsb]; simp [go_sem]
 have nf : W2.frozen? ⟨sb + 1, 0, none⟩ = false := by rw [← hW2, ← hsb]; simp [go_sem]
 have P0 := Lib.hid p0
 have P1 := Lib.hid p1
 have P2 := Lib.hid p2
 have X3 := Lib.hid (k2.cell x3 (fun f => f))
 have XG := Lib.hid (k2.cell xg (fun f => f))
 have K2 := Lib.hid (K1.out.trans k2 (T := fun _ => False) (fun _ _ f => f) (fun _ _ f => f))
 have T2 := Lib.hid (TT.out.kept k2 (fun f => f))
 have SB := Lib.hid (show w.heap.size ≤ sb from by have := K1.out.size; omega)
 have SL := Lib.hid (show s < sb from by omega)
 have GL := Lib.hid (show gm < sb from by have := World.block_lt_of_cell? _ _ xg; simp only at this; omega)
 have N0 := Lib.hid n0
 have NF := Lib.hid nf
 have TL := Lib.hid (show tb' < sb from by have := World.block_lt_of_cell? _ _ TT.out.cells.1; simp only at this; omega)
 rw [hsb, hW2]
 clear p0 p1 p2 n0 nf hW2 hsb x3 xg sl k2
 go_loopg [23] k (fun gh t23 wr => ∃ i : Nat, i + gh = k ∧ t23 = .int .i64 i ∧ wr.cell? ⟨sb + 1, 0, none⟩ = some (.int .i64 i) ∧ wr.frozen? ⟨sb + 1, 0, none⟩ = false ∧ Kept (fun b => b = sb + 1) W2 wr)
 case atStart => exact ⟨0, by omega, rfl, N0.out, NF.out, Kept.refl _ _⟩
 case round =>
  obtain ⟨i, hgh, rfl, hnc, hnf, hk⟩ := hrel
  have KW := Lib.hid (K2.out.trans hk (T := fun _ => False) (fun _ _ f => f) (fun b hb e => by have := SB.out; omega))
  cases gk with
  | zero =>
   have hi : i = k := by omega
   subst hi
   clear hk hnc hnf
   go_wp2_with fail
   go_ret
   exact ⟨rfl, KW.out⟩
  | succ gk =>
   have hi : i < L.length := by have := HN.out; omega
   have hne : ¬ L = [] := fun e => by rw [e] at hi; simp at hi
   obtain ⟨c, hc⟩ : ∃ c, L[i]? = some c := ⟨_, List.getElem?_eq_getElem hi⟩
   obtain ⟨g, og, rfl, hcl⟩ := RR.out.resolve_left hne
   obtain ⟨x0, x1, x2⟩ := (hcl i c hc).kept KW.out
   have hck := HK.out c (List.mem_of_getElem? hc)
   have q0 := hk.cell P0.out (fun (e : sb = sb + 1) => by omega)
   have q1 := hk.cell P1.out (fun (e : sb = sb + 1) => by omega)
   have q2 := hk.cell P2.out (fun (e : sb = sb + 1) => by omega)
   have q3 := hk.cell X3.out (fun (e : s = sb + 1) => by have := SL.out; omega)
   have qg := hk.cell XG.out (fun (e : gm = sb + 1) => by have := GL.out; omega)
   have TW := Lib.hid (T2.out.kept hk (fun (e : tb' = sb + 1) => by have := TL.out; omega))
   obtain ⟨ck, cs, cv⟩ := c
   simp only at x0 x1 x2 hck
   obtain ⟨cb, hcb⟩ : ∃ q, wr.heap.size = q := ⟨_, rfl⟩
   obtain ⟨W3, hW3⟩ : ∃ W, wr.alloc (Obj.cells #[.string ck, .int .i64 cs, .string cv] 132) = W := ⟨_, rfl⟩
   have k3 : Kept (fun _ => False) wr W3 := by rw [← hW3]; exact (Kept.refl _ _).alloc _
   have y0 : W3.cell? ⟨cb, 0, none⟩ = some (.string ck) := by rw [← hW3, ← hcb]; simp [go_sem]
   have K3 := Lib.hid k3
   have FK := Lib.hid (fun (W : World) (T : TabAt W tb' o') => FI.out ck hck W tb' o' T)
   have a0 := k3.cell q0 (fun f => f)
   have a1 := k3.cell q1 (fun f => f)
   have a2 := k3.cell q2 (fun f => f)
   have a3 := k3.cell q3 (fun f => f)
   have ag := k3.cell qg (fun f => f)
   have an := k3.cell hnc (fun f => f)
   have af := k3.frozen hnf (World.block_lt_of_cell? _ _ hnc) (fun f => f)
   have i1 : ((i : Nat) : Int) < (k : Int) := by have := HN.out; omega
   have i2 : (0 : Int) ≤ (i : Int) := by omega
   obtain ⟨j1, j2, j3⟩ := room_nums (show (allP ps).length + L.length ≤ 4000 from by rw [HN.out]; exact HL.out) hi HN.out
   have i4 := w64s i j2
   have i5 := w64a _ _ j3
   have i7 := wi64a _ _ j3
   have i6 := le4096 _ j1
   clear j1 j2 j3
   have GH := Lib.hid hgh
   have HKR := Lib.hid hk
   clear hgh hk hc hcl hi hne q0 q1 q2 q3 qg hnc hnf hck k3
   go_wp2_with (go_at_call 95; (have ff := FK.out _ (TW.out.kept K3.out (fun f => f))); unfold stV at ff; refine ff.mono ?_; clear ff; rintro e w4 ⟨rfl, k4⟩; (have K4 := Lib.hid (K3.out.trans k4 (T := fun _ => False) (fun _ _ f => f) (fun _ _ f => f))); (have b3 := k4.cell a3 (fun f => f)); (have bg := k4.cell ag (fun f => f)); (have bn := k4.cell an (fun f => f)); (have bf := k4.frozen af (World.block_lt_of_cell? _ _ an) (fun f => f)); clear k4)
   obtain ⟨w5, hw5⟩ : ∃ w5, w4.setCell ⟨sb + 1, 0, none⟩ (.int .i64 ((i : Int) + 1)) = w5 := ⟨_, rfl⟩
   rw [hw5]
   have k5 : Kept (fun b => b = sb + 1) w4 w5 := by rw [← hw5]; exact (Kept.refl _ _).setAt (fun _ => rfl)
   have e3 := k5.cell b3 (fun (e : s = sb + 1) => by have := SL.out; omega)
   have eg := k5.cell bg (fun (e : gm = sb + 1) => by have := GL.out; omega)
   have en : w5.cell? ⟨sb + 1, 0, none⟩ = some (.int .i64 ((i : Int) + 1)) := by rw [← hw5]; simp [go_sem, bn]
   have ef : w5.frozen? ⟨sb + 1, 0, none⟩ = false := by rw [← hw5, frozen_setCell]; exact bf
   have K5 := Lib.hid (HKR.out.trans (K4.out.trans k5 (T := fun b => b = sb + 1) (fun _ _ f => f.elim) (fun _ _ f => f)) (T := fun b => b = sb + 1) (fun _ _ f => f) (fun _ _ f => f))
   have KW5 := Lib.hid (KW.out.trans (K4.out.trans k5 (T := fun b => b = sb + 1) (fun _ _ f => f.elim) (fun _ _ f => f)) (T := fun _ => False) (fun _ _ f => f) (fun b hb e => by have := SB.out; omega))
   clear b3 bg bn bf hw5 k5
   go_region_held3 (fun w' => w'.cell? ⟨s, 3, none⟩ = some (.slice (some ⟨gm, 0, none⟩) 1 cm) ∧ w'.cell? ⟨gm, 0, none⟩ = some (.pointer (some ⟨m, 0, none⟩)) ∧ w'.cell? ⟨sb + 1, 0, none⟩ = some (.int .i64 ((i : Int) + 1))) (first | go_keep | (go_split_ands; exact ⟨by assumption, by assumption, by assumption⟩))
    (first
     | (go_at_call 167; refine (LE.out _ (KW5.out.drew)).mono ?_; rintro e w6 ⟨rfl, rfl⟩))
   go_wp2_with fail
   go_roundg gk
   case measure => omega
   case rel => exact ⟨i + 1, by have := GH.out; omega, by simp, by simpa using en, ef, K5.out.drew⟩
end Go.Proofs.YthknocapablpaaaGreatDoor

/- slices.Clone of cells; a journal's Append of nothing; what Put makes of cells. -/
namespace Go.Proofs.YthknocapablpaaaGreatDoor
open Go.RowKit Go.Lib Go.Eng
set_option maxRecDepth 100000
set_option maxHeartbeats 4000000 in
theorem clonec_any {w : World} {g o c : Nat} {l : List Cel} (hl : l.length ≤ 1000) (hs : ∀ (j : Nat) (u : Value), (cellsC l)[j]? = some u → w.cell? ⟨g, o + j, none⟩ = some u) :
  Calls Tryz.prog 96 #[.slice (some ⟨g, o, none⟩) l.length c] w fun e w' => ∃ q cap, e = .returned (.slice (some ⟨q, 0, none⟩) l.length cap) ∧ RowB w' 132 3 q l.length cap (cellsC l) ∧ w.heap.size ≤ q ∧ Kept (fun _ => False) w w' := by
 obtain ⟨i0, hi0, z0, s0, b0⟩ := info_132
 obtain ⟨W0, hW0⟩ : ∃ W0 : World, w.alloc (Obj.cells #[] 132) = W0 := ⟨_, rfl⟩
 have k0 : Kept (fun _ => False) w W0 := by rw [← hW0]; exact (Kept.refl _ _).alloc _
 have R0 : RowB W0 132 3 w.heap.size 0 0 [] := ⟨rfl, Nat.le_refl _, #[], by rw [← hW0]; exact heap_alloc_new w _, by simp, rfl⟩
 obtain ⟨g', cap', w1, hrun, hrow, hgg, K⟩ := rowb_append (ty := 65) Tryz.underlying65 hi0 z0 s0 b0 rfl R0 ⟨g, o, none⟩ l.length c (cellsC l) (cellsC_length l) (fun j u hj => by
  rw [add_mid]
  exact k0.cell (hs j u hj) (fun f => f)) (cellsC_one _) (by omega) (by omega)
 have hk : Kept (fun _ => False) w w1 := k0.trans K (fun _ _ f => f) (fun i hi h => by have := h.1; omega)
 have hg : w.heap.size ≤ g' := by
  rcases hgg with h | h
  ·omega
  ·have := k0.size; omega
 rw [Nat.zero_add] at hrow hrun
 rw [List.nil_append] at hrow
 have q65 : ∀ (w : World) (a : Option Addr) (n c n' c' : Nat), (binOp .eql 65 (.slice a n c) (.slice none n' c')).run Tryz.prog w = .ok (.bool a.isNone) w := fun w a n c n' c' => Lib.run_eql_slice_nil w _ _ a n c n' c' Tryz.underlying65
 clear R0 k0 K hgg hs
 go_enter Tryz.func96, Tryz.ntmps96
 go_wp2_with (at_builtin; refine Lib.wpList_append_run _ rfl _ _ _ _ rfl _ _ rfl rfl _ _ hrun ?_)
 go_ret
 exact ⟨g', cap', rfl, hrow, hg, hk⟩
theorem clonec_nil {w : World} : Calls Tryz.prog 96 #[.slice none 0 0] w fun e w' => e = .returned (.slice none 0 0) ∧ w = w' := by
 have q65 : ∀ (w : World) (a : Option Addr) (n c n' c' : Nat), (binOp .eql 65 (.slice a n c) (.slice none n' c')).run Tryz.prog w = .ok (.bool a.isNone) w := fun w a n c n' c' => Lib.run_eql_slice_nil w _ _ a n c n' c' Tryz.underlying65
 go_enter Tryz.func96, Tryz.ntmps96
 go_wp2_with fail
 go_ret
 exact ⟨rfl, rfl⟩
/-- What Put makes of cells. -/
def seqL : Int → List Cel → List Cel
 | _, [] => []
 | q, c :: t => ⟨c.k, q + 1, c.v⟩ :: seqL (q + 1) t
theorem seqL_length : ∀ (L : List Cel) (q : Int), (seqL q L).length = L.length
 | [], _ => rfl
 | _ :: t, q => by simp [seqL, seqL_length t]
theorem seqL_get : ∀ (L : List Cel) (q : Int) (j : Nat) (c : Cel), L[j]? = some c → (seqL q L)[j]? = some ⟨c.k, q + 1 + j, c.v⟩
 | [], _, j, c, h => by simp at h
 | d :: t, q, 0, c, h => by
  simp at h
  subst h
  simp [seqL]
 | d :: t, q, j + 1, c, h => by
  have := seqL_get t (q + 1) j c (by simpa using h)
  simp only [seqL, List.getElem?_cons_succ, this]
  congr 2
  omega
theorem seqL_mem {L : List Cel} {q : Int} {d : Cel} (h : d ∈ seqL q L) : ∃ c ∈ L, ∃ j : Nat, j < L.length ∧ d = ⟨c.k, q + 1 + j, c.v⟩ := by
 obtain ⟨j, hj, rfl⟩ := List.getElem_of_mem h
 rw [seqL_length] at hj
 have h1 := seqL_get L q j L[j] (List.getElem?_eq_getElem hj)
 rw [List.getElem?_eq_getElem (by rw [seqL_length]; exact hj)] at h1
 exact ⟨_, List.getElem_mem hj, j, hj, Option.some.inj h1⟩
theorem celat_of {w : World} {g : Nat} : ∀ (L : List Cel) (o : Nat), (∀ (j : Nat) (u : Value), (cellsC L)[j]? = some u → w.cell? ⟨g, o + j, none⟩ = some u) → ∀ (x : Nat) (c : Cel), L[x]? = some c → CelAt w g (o + x * 3) c
 | [], _, _, x, c, hc => by simp at hc
 | d :: t, o, h, 0, c, hc => by
  simp at hc
  subst hc
  exact ⟨by have := h 0 (.string d.k) (by simp [cellsC]); simpa using this, by have := h 1 (.int .i64 d.s) (by simp [cellsC]); simpa using this, by have := h 2 (.string d.v) (by simp [cellsC]); simpa using this⟩
 | d :: t, o, h, x + 1, c, hc => by
  have := celat_of t (o + 3) (fun j u hu => by
   have := h (j + 3) u (by simpa [cellsC] using hu)
   rwa [show o + (j + 3) = o + 3 + j by omega] at this) x c (by simpa using hc)
  rwa [show o + 3 + x * 3 = o + (x + 1) * 3 by omega] at this
theorem jappend_nil {w : World} {ao : Option Addr} {cap : Nat} {j d fm : Nat} {room : Int} {F : List Fl} (J : JrnOk w j d 1) (D : DiskOk w d fm room F) :
  Calls Tryz.prog 99 #[.pointer (some ⟨j, 0, none⟩), .slice ao 0 cap] w fun e w' => e = .returned (.int .i64 0) ∧ Kept (fun _ => False) w w' := by
 have AS := Lib.hid (jask_any J D)
 have EN := Lib.hid (fun (W : World) => jenc_any (w := W) (ao := ao) (cap := cap) (L := []) (.inl rfl) (by simp) (by simp))
 clear J D
 go_enter Tryz.func99, Tryz.ntmps99
 go_wp2_with (first
  | (go_at_call 168; refine AS.out.mono ?_; rintro e w1 ⟨rfl, k1⟩; (have K1 := Lib.hid k1); clear k1)
  | (go_at_call 97; refine (EN.out _).mono ?_; rintro e w2 ⟨⟨b, hb, rfl⟩, k2⟩; (have K2 := Lib.hid (K1.out.trans k2 (T := fun _ => False) (fun _ _ f => f) (fun _ _ f => f))); clear k2 hb))
 go_ret
 exact ⟨rfl, K2.out⟩
theorem FlsOk.mono {F : List Fl} {n t n' t' : Nat} (h : FlsOk F n t) (h1 : n ≤ n') (h2 : t ≤ t') : FlsOk F n' t' := ⟨h.nm, Nat.le_trans h.ln h1, Nat.le_trans h.tt h2⟩
theorem jappendu_any {w : World} {j d fm : Nat} {room : Int} {F : List Fl} {n t : Nat} {ao : Option Addr} {cap : Nat} {L : List Cel} (J : JrnOk w j d 1) (D : DiskOk w d fm room F) (O : FlsOk F n t) (hn : n ≤ 900) (R : CelsR w ao L) (hm : ∀ c ∈ L, mayC c = true ∧ c.s ≤ 9223372036854775807) (hl : L.length ≤ 50)
  (ht : (t : Int) + 8 + 230 * L.length ≤ room) (hr : room ≤ 1048576) :
  Calls Tryz.prog 99 #[.pointer (some ⟨j, 0, none⟩), .slice ao L.length cap] w fun e w' => e = .returned (.int .i64 0) ∧ (∃ F', DiskOk w' d fm room F' ∧ FlsOk F' (n + 1) (t + 8 + 230 * L.length)) ∧ Kept (fun b => b = fm) w w' := by
 by_cases h : L = []
 ·subst h
  refine (jappend_nil J D).mono ?_
  rintro e w' ⟨rfl, K⟩
  exact ⟨rfl, ⟨F, D.kept K (fun f => f) (fun f => f), O.mono (by omega) (by omega)⟩, K.mono (fun _ _ f => f.elim)⟩
 ·exact jappend_any J D O hn R hm hl h ht hr
theorem cloneu_any {w : World} {ao : Option Addr} {cap : Nat} {L : List Cel} (h : (ao = none ∧ cap = 0 ∧ L = []) ∨ ∃ g o, ao = some ⟨g, o, none⟩ ∧ ∀ (j : Nat) (u : Value), (cellsC L)[j]? = some u → w.cell? ⟨g, o + j, none⟩ = some u) (hl : L.length ≤ 1000) :
  Calls Tryz.prog 96 #[.slice ao L.length cap] w fun e w' => (∃ ao2 cap2, e = .returned (.slice ao2 L.length cap2) ∧ (L = [] ∨ ∃ g, ao2 = some ⟨g, 0, none⟩ ∧ RowB w' 132 3 g L.length cap2 (cellsC L) ∧ w.heap.size ≤ g)) ∧ Kept (fun _ => False) w w' := by
 rcases h with ⟨rfl, rfl, rfl⟩ | ⟨g, o, rfl, h⟩
 ·refine clonec_nil.mono ?_
  rintro e w' ⟨rfl, rfl⟩
  exact ⟨⟨none, 0, rfl, .inl rfl⟩, Kept.refl _ _⟩
 ·refine (clonec_any (c := cap) hl h).mono ?_
  rintro e w' ⟨q, c, rfl, hr, hq, K⟩
  exact ⟨⟨some ⟨q, 0, none⟩, c, rfl, .inr ⟨q, rfl, hr, hq⟩⟩, K⟩
/-- The store behind a change of its disk. -/
theorem StAt.disk {S : Sto} {own : Nat → Prop} {w w' : World} {F F' : List Fl} {n t n' t' : Nat} {ps : List Pg} {q : Int} (h : StAt S own w F n t ps q) (K : Kept (fun b => b = S.fm) w w') (D : DiskOk w' S.d S.fm 1048576 F') (O : FlsOk F' n' t') : StAt S own w' F' n' t' ps q := by
 have hS : ∀ b, S.still b → ¬ b = S.fm := fun b hb e => h.st b hb (.inr (.inr e))
 have hd := hS S.d (.inl rfl)
 have hm := hS S.mb (.inr (.inl rfl))
 have hj := hS S.j (.inr (.inr (.inl rfl)))
 have hg := hS S.gm (.inr (.inr (.inr (.inl rfl))))
 have ht := hS S.tb (.inr (.inr (.inr (.inr rfl))))
 have hs : ¬ S.s = S.fm := fun e => by
  have c0 := h.c0
  rw [e, h.dsk.mp.not_cell] at c0
  cases c0
 exact ⟨K.cell h.c0 hs, K.cell h.c1 hs, K.cell h.c2 hs, K.cell h.c3 hs, K.cell h.c5 hs, K.frozen h.f5 (World.block_lt_of_cell? _ _ h.c5) hs, K.cell h.g0 hg, h.man.kept K hm ht, h.jrn.kept K hj, D, O, h.mem.kept K (fun b hb e => h.of (e ▸ hb)), h.srt, h.st, h.os, h.of, fun b hb => Nat.lt_of_lt_of_le (h.ob b hb) K.size⟩
end Go.Proofs.YthknocapablpaaaGreatDoor

/- store.Put. -/
namespace Go.Proofs.YthknocapablpaaaGreatDoor
open Go.RowKit Go.Lib Go.Eng
set_option maxRecDepth 100000
/-- Cells some of which have their Seqs. -/
def HalfAt (w : World) (g : Nat) (L : List Cel) (q : Int) (i : Nat) : Prop := ∀ (j : Nat) (c : Cel), L[j]? = some c → CelAt w g (j * 3) (if j < i then ⟨c.k, q + 1 + j, c.v⟩ else c)
theorem HalfAt.step {w : World} {g i : Nat} {L : List Cel} {q : Int} (h : HalfAt w g L q i) : HalfAt (w.setCell ⟨g, i * 3 + 1, none⟩ (.int .i64 (q + 1 + i))) g L q (i + 1) := by
 intro j c hc
 obtain ⟨h0, h1, h2⟩ := h j c hc
 by_cases hj : j = i
 ·subst hj
  rw [if_neg (by omega)] at h0 h1 h2
  rw [if_pos (by omega)]
  refine ⟨?_, ?_, ?_⟩ <;> simp [go_sem, h0, h1, h2]
 ·have e : (j < i + 1) ↔ (j < i) := by omega
  simp only [e]
  refine ⟨?_, ?_, ?_⟩
  ·simp [go_sem, h0]
  ·simp [go_sem, h1]; try omega
  ·simp [go_sem, h2]
theorem HalfAt.keptF {w w' : World} {g i : Nat} {L : List Cel} {q : Int} (h : HalfAt w g L q i) (K : Kept (fun _ => False) w w') : HalfAt w' g L q i := fun j c hc => (h j c hc).kept K
theorem HalfAt.whole {w : World} {g : Nat} {L : List Cel} {q : Int} (h : HalfAt w g L q L.length) : CelsR w (some ⟨g, 0, none⟩) (seqL q L) := by
 refine .inr ⟨g, 0, rfl, fun j d hd => ?_⟩
 have hj := (List.getElem?_eq_some_iff.1 hd).1
 rw [seqL_length] at hj
 have h1 := seqL_get L q j L[j] (List.getElem?_eq_getElem hj)
 rw [hd] at h1
 have := h j L[j] (List.getElem?_eq_getElem hj)
 rw [if_pos hj] at this
 rw [Nat.zero_add, Option.some.inj h1]
 exact this
theorem perm_step {A B C : List Cel} {L : List Cel} {i : Nat} {c : Cel} (h1 : B.Perm (A ++ L.take i)) (h2 : Ins B c C) (h3 : L[i]? = some c) : C.Perm (A ++ L.take (i + 1)) := by
 have h4 : L.take (i + 1) = L.take i ++ [c] := by rw [List.take_add_one, h3]; rfl
 rw [h4, ← List.append_assoc]
 exact h2.perm.trans (((List.Perm.cons c h1)).trans (List.perm_append_singleton c _).symm)
theorem wpos (q : Int) (i : Nat) (h : 0 ≤ q) (h2 : q ≤ 1000000) (h3 : i ≤ 1000) : IntKind.i64.wrap (q + (1 + (i : Int))) = q + 1 + i := by
 rw [IntKind.wrap_i64]
 omega
theorem wpos1 (q : Int) (h : 0 ≤ q) (h2 : q ≤ 1000000) : IntKind.i64.wrap (q + 1) = q + 1 := by
 rw [IntKind.wrap_i64]
 omega
theorem wpos2 (q : Int) (i : Nat) (h : 0 ≤ q) (h2 : q ≤ 1000000) (h3 : i ≤ 1000) : IntKind.i64.wrap (q + 1 + (i : Int)) = q + 1 + i := by
 rw [IntKind.wrap_i64]
 omega
set_option maxHeartbeats 8000000 in
theorem sput_any {S : Sto} {own : Nat → Prop} {w : World} {F : List Fl} {n t : Nat} {ps : List Pg} {q : Int} {ao : Option Addr} {cap : Nat} {L : List Cel} (h : StAt S own w F n t ps q)
  (R : (ao = none ∧ cap = 0 ∧ L = []) ∨ ∃ g o, ao = some ⟨g, o, none⟩ ∧ ∀ (j : Nat) (u : Value), (cellsC L)[j]? = some u → w.cell? ⟨g, o + j, none⟩ = some u)
  (hm : ∀ c ∈ L, ∀ s : Int, 0 ≤ s → mayC ⟨c.k, s, c.v⟩ = true) (hk : ∀ c ∈ L, c.k ≠ ⟨#[]⟩) (hq : 0 ≤ q) (hq2 : q ≤ 100000) (hs : ∀ d ∈ allP ps, d.s ≤ q) (hl : (allP ps).length + L.length ≤ 4000) (hL : L.length ≤ 50) (hn : n ≤ 900) (ht : t + 8 + 230 * L.length ≤ 1048576) :
  Calls Tryz.prog 52 #[.pointer (some ⟨S.s, 0, none⟩), .slice ao L.length cap] w fun e w' => e = .returned (.int .i64 0) ∧ ∃ own' ps' F', StAt S own' w' F' (n + 1) (t + 8 + 230 * L.length) ps' (q + L.length) ∧ (allP ps').Perm (allP ps ++ seqL q L) ∧ (∀ b, own b → own' b) ∧ (∀ b, own' b → own b ∨ w.heap.size ≤ b) ∧ Kept (S.turn own) w w' := by
 obtain ⟨k, hn'⟩ : ∃ k, L.length = k := ⟨_, rfl⟩
 have HN := Lib.hid hn'
 have H := Lib.hid h
 have SA := Lib.hid (sask_any h)
 have CL := Lib.hid (fun (W : World) (K : Kept (fun _ => False) w W) => cloneu_any (w := W) (cap := cap) (L := L) (R.imp (fun h => h) (fun ⟨g, o, e, f⟩ => ⟨g, o, e, fun j u hj => K.cell (f j u hj) (fun f => f)⟩)) (by omega))
 have HM := Lib.hid (fun c hc => show mayC c = true ∧ c.s ≤ 9223372036854775807 ∧ c.k ≠ ⟨#[]⟩ ∧ q < c.s from by
  obtain ⟨d, hd, j, hj, rfl⟩ := seqL_mem (L := L) (q := q) (d := c) hc
  exact ⟨hm d hd _ (by omega), by simp only; omega, hk d hd, by simp only; omega⟩)
 have HL0 := Lib.hid (And.intro hl hL)
 have HT := Lib.hid ht
 have HNN := Lib.hid hn
 have HS := Lib.hid hs
 have HQ := Lib.hid hq
 have HQ2 := Lib.hid hq2
 rw [hn'] at hl hL CL ⊢
 have c2 := h.c2
 have c5 := h.c5
 obtain ⟨SS, hSS⟩ : ∃ SS, SS = S := ⟨_, rfl⟩
 have HSS := Lib.hid hSS
 have H1 := Lib.hid (hSS ▸ H.out : StAt SS own w F n t ps q)
 clear H
 obtain ⟨s, d, mb, j, gm, m, tb, o, fm, cm⟩ := S
 simp only at c2 c5 SA ⊢
 have sl := World.block_lt_of_cell? _ _ c5
 have SL := Lib.hid sl
 clear h R hm hk hn' hSS hl hL ht hn hs sl
 go_enter Tryz.func52, Tryz.ntmps52
 go_wp2_with (first
  | (go_at_call 69; refine SA.out.mono ?_; rintro e w1 ⟨rfl, k1⟩; (have K1 := Lib.hid k1); clear k1)
  | (go_at_call 96; refine (CL.out _ K1.out).mono ?_; rintro e w2 ⟨⟨ao2, cap2, rfl, r2⟩, k2⟩; (have K2 := Lib.hid (K1.out.trans k2 (T := fun _ => False) (fun _ _ f => f) (fun _ _ f => f))); (have R2 := Lib.hid r2); clear k2 r2))
 have G2 := Lib.hid (fun (hne : ¬ L = []) => R2.out.resolve_left hne)
 have y5 := K2.out.cell c5 (fun f => f)
 have Y2 := Lib.hid c2
 have Y5 := Lib.hid y5
 clear c5 c2 y5
 go_loopg [21] k (fun gh t21 wr => ∃ i : Nat, i + gh = k ∧ t21 = .int .i64 i ∧ (L = [] ∨ ∃ g, ao2 = some ⟨g, 0, none⟩ ∧ w.heap.size ≤ g ∧ HalfAt wr g L q i ∧ (∀ j, wr.frozen? ⟨g, j, none⟩ = false) ∧ Kept (fun b => b = g) w2 wr) ∧ (L = [] → Kept (fun _ => False) w2 wr))
 case atStart =>
  refine ⟨0, by omega, rfl, ?_, fun _ => Kept.refl _ _⟩
  refine R2.out.imp (fun h => h) (fun ⟨g, e, hr, hg⟩ => ⟨g, e, by have := K1.out.size; omega, fun j c hc => ?_, fun j => ?_, Kept.refl _ _⟩)
  ·rw [if_neg (by omega)]
   have := celat_of L 0 (fun j u hu => by rw [Nat.zero_add]; exact hr.cell hu) j c hc
   rwa [Nat.zero_add] at this
  ·obtain ⟨_, _, C, hC, _⟩ := hr
   exact frozen0 hC j
 case round =>
  obtain ⟨i, hgh, rfl, hr, hr0⟩ := hrel
  cases gk with
  | zero =>
   have hi : i = k := by omega
   subst hi
   clear hgh
   have KW : Kept (fun _ => False) w wr := by
    by_cases he : L = []
    ·exact K2.out.trans (hr0 he) (fun _ _ f => f) (fun _ _ f => f)
    ·obtain ⟨g, _, hg, _, _, hk⟩ := hr.resolve_left he
     exact K2.out.trans hk (fun _ _ f => f) (fun b hb e => by omega)
   have CR : CelsR wr ao2 (seqL q L) := by
    by_cases he : L = []
    ·exact .inl (by rw [he]; rfl)
    ·obtain ⟨g, rfl, hg, ha, _, hk⟩ := hr.resolve_left he
     rw [← HN.out] at ha
     exact ha.whole
   have KWH := Lib.hid KW
   have CRH := Lib.hid CR
   have hL' : (seqL q L).length = i := by rw [seqL_length]; exact HN.out
   have HL' := Lib.hid hL'
   have EN := Lib.hid (fun (W : World) (K : Kept (fun _ => False) wr W) => jenc_any (w := W) (cap := cap2) (CRH.out.kept K) (fun c hc => ⟨(HM.out c hc).1, (HM.out c hc).2.1⟩) (by have := HL0.out.2; have := HN.out; omega))
   have RO := Lib.hid (fun (W : World) (K : Kept (fun _ => False) w W) (C : CelsR W ao2 (seqL q L)) => room_any (cap := cap2) (H1.out.keptF K) C (fun c hc => (HM.out c hc).2.2.1) (by have := HL0.out.1; have := HN.out; omega))
   have AP := Lib.hid (fun (W : World) (K : Kept (fun _ => False) w W) (C : CelsR W ao2 (seqL q L)) => jappendu_any (cap := cap2) (H1.out.jrn.kept K (fun f => f)) (H1.out.dsk.kept K (fun f => f) (fun f => f)) H1.out.fls HNN.out C (fun c hc => ⟨(HM.out c hc).1, (HM.out c hc).2.1⟩) (by have := HL0.out.2; have := HN.out; omega) (by have := HT.out; have := HN.out; omega) (by omega))
   rw [hL'] at EN RO AP
   rw [HSS.out] at RO AP
   simp only at RO AP
   have CRG := Lib.hid (show L = [] ∨ ∃ g, ao2 = some ⟨g, 0, none⟩ ∧ w.heap.size ≤ g from hr.imp (fun h => h) (fun ⟨g, e, hg, _⟩ => ⟨g, e, hg⟩))
   clear KW CR hL' hr hr0
   go_wp2_with (first
    | (go_at_call 97; refine (EN.out _ (Kept.refl _ _)).mono ?_; rintro e w3 ⟨⟨b, hb, rfl⟩, k3⟩; (have K3 := Lib.hid (KWH.out.trans k3 (T := fun _ => False) (fun _ _ f => f) (fun _ _ f => f))); (have C3 := Lib.hid (CRH.out.kept k3)); clear k3 hb)
    | (go_at_call 98; refine (RO.out _ K3.out C3.out).mono ?_; rintro e w4 ⟨rfl, k4⟩; (have K4 := Lib.hid (K3.out.trans k4 (T := fun _ => False) (fun _ _ f => f) (fun _ _ f => f))); (have C4 := Lib.hid (C3.out.kept k4)); (have y2 := K4.out.cell Y2.out (fun f => f)); clear k4)
    | (go_at_call 99; refine (AP.out _ K4.out C4.out).mono ?_; rintro e w5 ⟨rfl, ⟨F5, d5, o5⟩, k5⟩; (have K5 := Lib.hid k5); (have D5 := Lib.hid d5); (have O5 := Lib.hid o5); clear k5 d5 o5 y2))
   have S4 := H1.out.keptF K4.out
   have hD : SS.fm = fm := by rw [HSS.out]
   have S5 := Lib.hid (S4.disk (by rw [hD]; exact K5.out) (by rw [HSS.out]; exact D5.out) O5.out)
   have W5 := Lib.hid (show w.heap.size ≤ w5.heap.size from Nat.le_trans K4.out.size K5.out.size)
   have C5 := Lib.hid (show L = [] ∨ ∃ g, ao2 = some ⟨g, 0, none⟩ ∧ w.heap.size ≤ g ∧ g < w5.heap.size ∧ ∀ j c, (seqL q L)[j]? = some c → CelAt w5 g (j * 3) c from by
    rcases CRG.out with e | ⟨g, e, hg⟩
    ·exact .inl e
    ·by_cases he : L = []
     ·exact .inl he
     rcases C4.out with e' | ⟨g', o, e', f⟩
     ·have := HL'.out
      rw [e'] at this
      exact absurd (List.eq_nil_of_length_eq_zero (by have := HN.out; simp only [List.length_nil] at *; omega)) he
     ·rw [e] at e'
      injection e' with e'
      injection e' with e1 e2
      subst e1
      subst e2
      have hfm := H1.out.lts.2.2
      rw [hD] at hfm
      have hg' : ¬ g = fm := by omega
      refine .inr ⟨g, e, hg, ?_, fun j c hc => ?_⟩
      ·have h0 : 0 < (seqL q L).length := by
        rw [seqL_length]
        exact Nat.pos_of_ne_zero (fun h => he (List.eq_nil_of_length_eq_zero h))
       have := (f 0 _ (List.getElem?_eq_getElem h0)).1
       exact World.block_lt_of_cell? _ _ (K5.out.cell this hg')
      ·have := f j c hc
       rw [Nat.zero_add] at this
       exact ⟨K5.out.cell this.1 hg', K5.out.cell this.2.1 hg', K5.out.cell this.2.2 hg'⟩)
   clear S4 hD
   go_loopg [59] i (fun gh t59 wr2 => ∃ (i2 : Nat) (own' : Nat → Prop) (ps' : List Pg), i2 + gh = i ∧ t59 = .int .i64 i2 ∧ StAt SS own' wr2 F5 (n + 1) (t + 8 + 230 * i) ps' (q + i2) ∧ (allP ps').Perm (allP ps ++ (seqL q L).take i2) ∧ (∀ b, own b → own' b) ∧ (∀ b, own' b → own b ∨ w5.heap.size ≤ b) ∧ Kept (SS.turn own) w5 wr2)
   case atStart => exact ⟨0, own, ps, by omega, rfl, by simpa using S5.out, by simp, fun b h => h, fun b h => .inl h, Kept.refl _ _⟩
   case round =>
    obtain ⟨i2, own', ps', hgh, rfl, hst, hpm, ho1, ho2, hk⟩ := hrel
    cases gk with
    | zero =>
     have hi : i2 = i := by omega
     subst hi
     go_wp2_with fail
     go_ret
     refine ⟨rfl, own', ps', F5, ?_, ?_, ho1, fun b hb => ?_, ?_⟩
     ·have := hst
      rw [HSS.out] at this
      exact this
     ·rw [List.take_of_length_le (by rw [HL'.out]; omega)] at hpm
      exact hpm
     ·rcases ho2 b hb with e | e
      ·exact .inl e
      ·exact .inr (by have := W5.out; omega)
     ·have k1 := K4.out.trans K5.out (T := fun b => b = fm) (fun _ _ f => f.elim) (fun _ _ f => f)
      have k2 := k1.trans hk (T := SS.turn own) (fun _ _ f => .inr (.inr (by rw [HSS.out]; exact f))) (fun _ _ f => f)
      rw [HSS.out] at k2
      exact k2
    | succ gk =>
     have hi : i2 < L.length := by have := HN.out; omega
     have hne : ¬ L = [] := fun e => by rw [e] at hi; simp at hi
     obtain ⟨g, rfl, hg, hg5, hcl⟩ := C5.out.resolve_left hne
     obtain ⟨c, hc⟩ : ∃ c, L[i2]? = some c := ⟨_, List.getElem?_eq_getElem hi⟩
     have hc2 := seqL_get L q i2 c hc
     have htn : ¬ SS.turn own g := fun e => by
      have hl := H1.out.lts
      rcases e with e | e | e
      ·have := H1.out.ob g e; omega
      ·omega
      ·omega
     obtain ⟨x0, x1, x2⟩ := hcl i2 _ hc2
     simp only at x0 x1 x2
     have x0 := hk.cell x0 htn
     have x1 := hk.cell x1 htn
     have x2 := hk.cell x2 htn
     have hmem : (⟨c.k, q + 1 + i2, c.v⟩ : Cel) ∈ seqL q L := List.mem_of_getElem? hc2
     have hno : ∀ d ∈ allP ps', cmpC d ⟨c.k, q + 1 + i2, c.v⟩ ≠ 0 := fun d hd e => by
      have h1 := ((cmpC_zero _ _).1 e).2
      simp only at h1
      rcases List.mem_append.1 (hpm.subset hd) with h2 | h2
      ·have := HS.out d h2; omega
      ·obtain ⟨j, hj, rfl⟩ := List.getElem_of_mem h2
       rw [List.length_take] at hj
       rw [List.getElem_take] at h1
       have h3 : j < L.length := by omega
       have h4 := seqL_get L q j L[j] (List.getElem?_eq_getElem h3)
       rw [List.getElem?_eq_getElem (by rw [seqL_length]; exact h3)] at h4
       rw [Option.some.inj h4] at h1
       simp only at h1
       omega
     have hln : (allP ps').length ≤ 10000 := by
      rw [hpm.length_eq, List.length_append, List.length_take]
      have := HL0.out.1
      omega
     have HO := Lib.hid (fun (W : World) (K : Kept (fun _ => False) wr W) => hold_any (c := ⟨c.k, q + 1 + i2, c.v⟩) (hst.keptF K) (HM.out _ hmem).1 hno hln (by simp only; omega) (HM.out _ hmem).2.2.1)
     have HPM := Lib.hid hpm
     have HC := Lib.hid hc2
     have HO1 := Lib.hid ho1
     have HO2 := Lib.hid ho2
     have HK := Lib.hid hk
     have GH := Lib.hid hgh
     rw [HSS.out] at HO
     unfold Cel.val at HO
     simp only at HO
     have i1 : ((i2 : Nat) : Int) < (i : Int) := by have := HN.out; omega
     have i3 : (0 : Int) ≤ (i2 : Int) := by omega
     have i6 := w64s i2 (by have := HL0.out.2; omega)
     obtain ⟨ck, cs, cv⟩ := c
     simp only at x0 x1 x2 HO HC
     clear hgh hst hpm ho1 ho2 hk hmem hno hln hcl hg hg5 htn hc hc2 hi hne
     go_wp2_with (go_at_call 66; refine (HO.out _ ((Kept.refl _ _).alloc _)).mono ?_; rintro e w7 ⟨rfl, own2, ps2, st2, in2, o1, o2, k7⟩)
     go_roundg gk
     case measure => omega
     case rel =>
      refine ⟨i2 + 1, own2, ps2, by have := GH.out; omega, by simpa using i6, ?_, perm_step HPM.out in2 HC.out, fun b hb => o1 b (HO1.out b hb), fun b hb => ?_, ?_⟩
      ·rw [HSS.out]
       have e : q + 1 + (i2 : Int) = q + ((i2 + 1 : Nat) : Int) := by omega
       rw [e] at st2
       exact st2
      ·rcases o2 b hb with e | e
       ·exact HO2.out b e
       ·have h1 := HK.out.size
        have e2 := Nat.le_trans ((Kept.refl (fun _ => False) wr).alloc _).size e
        exact .inr (by omega)
      ·have h1 := ((Kept.refl (fun _ => False) wr).alloc _).trans k7 (T := Sto.turn SS own') (fun _ _ f => f.elim) (fun _ _ f => by rw [HSS.out]; exact f)
       refine HK.out.trans h1 (fun _ _ f => f) (fun b hb e => ?_)
       rcases e with e | e
       ·rcases HO2.out b e with e | e
        ·exact .inl e
        ·omega
       ·exact .inr e
  | succ gk =>
   have hi : i < L.length := by have := HN.out; omega
   have hne : ¬ L = [] := fun e => by rw [e] at hi; simp at hi
   obtain ⟨g, rfl, hg, ha, hf, hk⟩ := hr.resolve_left hne
   obtain ⟨c, hc⟩ : ∃ c, L[i]? = some c := ⟨_, List.getElem?_eq_getElem hi⟩
   obtain ⟨x0, x1, x2⟩ := ha i c hc
   rw [if_neg (by omega)] at x0 x1 x2
   have q5 := hk.cell Y5.out (fun (e : s = g) => by have := SL.out; omega)
   have fz := hf (i * 3 + 1)
   have i1 : ((i : Nat) : Int) < (k : Int) := by have := HN.out; omega
   have i2 : (0 : Int) ≤ (i : Int) := by omega
   have i3 : i ≤ 1000 := by have := HL0.out.2; omega
   have i4 := wpos q i HQ.out (by have := HQ2.out; omega) i3
   have i5 := wpos2 q i HQ.out (by have := HQ2.out; omega) i3
   have i6 := w64s i (by omega)
   have i7 := wpos1 q HQ.out (by have := HQ2.out; omega)
   have HA := Lib.hid ha
   have HF := Lib.hid hf
   have HK := Lib.hid hk
   have GH := Lib.hid hgh
   have HG := Lib.hid hg
   have HNE := Lib.hid hne
   clear ha hf hk hgh hg hne hr hr0 hi hc
   go_wp2_with fail
   go_roundg gk
   case measure => omega
   case rel =>
    refine ⟨i + 1, by have := GH.out; omega, by simp, .inr ⟨g, rfl, HG.out, HA.out.step, fun j => ?_, HK.out.setAt (fun _ => rfl)⟩, fun e => absurd e HNE.out⟩
    rw [frozen_setCell]
    exact HF.out j
end Go.Proofs.YthknocapablpaaaGreatDoor

/- Rows of cells as they lie in memory; what a cell may be; which one stands ahead. -/
namespace Go.Proofs.YthknocapablpaaaGreatDoor.Mg
set_option maxRecDepth 100000
open Go.RowKit

/-- The cells of messages, one behind the other. -/
def cellsC : List Cel → List Value
 | [] => []
 | m :: l => .string m.k :: .int .i64 m.s :: .string m.v :: cellsC l
theorem cellsC_length : ∀ L, (cellsC L).length = L.length * 3
 | [] => rfl
 | m :: l => by simp [cellsC, cellsC_length l]; omega
theorem cellsC_append : ∀ a b, cellsC (a ++ b) = cellsC a ++ cellsC b
 | [], b => rfl
 | m :: l, b => by simp [cellsC, cellsC_append l b]
theorem cellsC_get : ∀ (L : List Cel) (i : Nat) (m : Cel), L[i]? = some m → (cellsC L)[i * 3]? = some (.string m.k) ∧ (cellsC L)[i * 3 + 1]? = some (.int .i64 m.s) ∧ (cellsC L)[i * 3 + 2]? = some (.string m.v)
 | [], i, m, h => by simp at h
 | x :: l, 0, m, h => by simp at h; subst h; exact ⟨rfl, rfl, rfl⟩
 | x :: l, i + 1, m, h => by
  have := cellsC_get l i m (by simpa using h)
  rw [show (i + 1) * 3 = i * 3 + 3 by omega]
  exact this
theorem cellsC_take : ∀ (L : List Cel) (i : Nat), cellsC (L.take i) = (cellsC L).take (i * 3)
 | _, 0 => by simp [cellsC]
 | [], i + 1 => by simp [cellsC]
 | m :: l, i + 1 => by rw [show (i + 1) * 3 = i * 3 + 3 by omega]; simp [cellsC, cellsC_take l i]
theorem cellsC_drop : ∀ (L : List Cel) (i : Nat), cellsC (L.drop i) = (cellsC L).drop (i * 3)
 | _, 0 => by simp
 | [], i + 1 => by simp [cellsC]
 | m :: l, i + 1 => by rw [show (i + 1) * 3 = i * 3 + 3 by omega]; simp [cellsC, cellsC_drop l i]
theorem cellsC_one : ∀ (L : List Cel), ∀ u ∈ cellsC L, u.oneCell' = true
 | [], u, h => by cases h
 | m :: l, u, h => by
  simp only [cellsC, List.mem_cons] at h
  rcases h with rfl | rfl | rfl | h
  ·rfl
  ·rfl
  ·rfl
  ·exact cellsC_one l u h
/-- A slice that reads as a list of messages. -/
def ReadsC (w : World) (v : Value) (L : List Cel) : Prop :=
 ∃ ao cap, v = .slice ao L.length cap ∧ (L = [] ∨ ∃ g o, ao = some ⟨g, o, none⟩ ∧ ∀ j u, (cellsC L)[j]? = some u → w.cell? ⟨g, o + j, none⟩ = some u)
theorem ReadsC.of_row {w : World} {base : Nat} {v : Value} {L : List Cel} (h : w.ownsRow base 132 3 v L.length (cellsC L)) : ReadsC w v L := by
 rcases row_form h with ⟨rfl, hn⟩ | ⟨g, cap, rfl, _, _, _, hc⟩
 ·exact ⟨none, 0, by rw [hn], .inl (List.eq_nil_of_length_eq_zero hn)⟩
 ·exact ⟨_, cap, rfl, .inr ⟨g, 0, rfl, fun j u hu => by rw [Nat.zero_add]; exact hc j u hu⟩⟩
/-- The message that is found at a place. -/
theorem ReadsC.at {w : World} {L : List Cel} {g o : Nat} (hc : ∀ j u, (cellsC L)[j]? = some u → w.cell? ⟨g, o + j, none⟩ = some u) {i : Nat} {m : Cel} (hm : L[i]? = some m) :
  w.cell? ⟨g, o + i * 3, none⟩ = some (.string m.k) ∧ w.cell? ⟨g, o + i * 3 + 1, none⟩ = some (.int .i64 m.s) ∧ w.cell? ⟨g, o + i * 3 + 2, none⟩ = some (.string m.v) := by
 obtain ⟨h0, h1, h2⟩ := cellsC_get L i m hm
 exact ⟨hc _ _ h0, hc _ _ h1, hc _ _ h2⟩
theorem ReadsC.kept {S : Nat → Prop} {w w' : World} {v : Value} {L : List Cel} (h : ReadsC w v L) (hK : Kept S w w') (hS : ∀ k, v.ownBlock = some k → ¬ S k) : ReadsC w' v L := by
 obtain ⟨ao, cap, rfl, h⟩ := h
 refine ⟨ao, cap, rfl, ?_⟩
 rcases h with h | ⟨g, o, rfl, hc⟩
 ·exact .inl h
 ·exact .inr ⟨g, o, rfl, fun j u hu => hK.cell (hc j u hu) (hS g rfl)⟩
def eqC (a b : Cel) : Bool := a.k.toList == b.k.toList && (a.s == b.s && a.v.toList == b.v.toList)
theorem bytes_eq {x y : ByteArray} (h : x.toList = y.toList) : x = y := by
 rw [ByteArray.toList_eq, ByteArray.toList_eq] at h
 exact ByteArray.ext (Array.ext' h)
/-- May a cell be? -/
def mayC (c : Cel) : Bool := decide (1 ≤ c.k.size) && decide (c.k.size ≤ 64) && decide (0 ≤ c.s) && decide (c.v.size ≤ 128)
theorem nil_iff {x : ByteArray} : x.toList = [] ↔ x.size = 0 := by
 have hs : x.toList.length = x.size := by rw [ByteArray.toList_eq]; exact Array.length_toList
 rw [← hs]; exact List.length_eq_zero_iff.symm
theorem emp_iff {x : ByteArray} : x = ByteArray.empty ↔ x.size = 0 := by simp

theorem ret_bool' {x y : Bool} {w w' : World} (h : x = y) (h2 : Kept (fun _ => False) w w') : Ending.returned (.bool x) = .returned (.bool y) ∧ Kept (fun _ => False) w w' := ⟨by rw [h], h2⟩

theorem may_any (c : Cel) (w : World) : Calls Tryz.prog 203 #[.agg #[.string c.k, .int .i64 c.s, .string c.v]] w fun e w' => e = .returned (.bool (mayC c)) ∧ Kept (fun _ => False) w w' := by
 go_enter Tryz.func203, Tryz.ntmps203
 go_wp2
 all_goals go_ret
 all_goals exact ret_bool' (by first | (simp [mayC, aheadC, sLt, sEq, *]; done) | (rw [Bool.eq_iff_iff]; (try simp only [nil_iff] at *); simp [mayC]; omega) | (rw [Bool.eq_iff_iff]; (try simp only [nil_iff] at *); simp [mayC, nil_iff]; simp only [emp_iff]; omega)) (by repeat (first | exact Kept.refl _ _ | apply Kept.alloc | apply Kept.drew))
theorem cell_cmp2 (a b : Cel) (w : World) : Calls Tryz.prog 201 #[.agg #[.string a.k, .int .i64 a.s, .string a.v], .agg #[.string b.k, .int .i64 b.s, .string b.v]] w fun e w' => e = .returned (.int .i64 (cmpC a b)) ∧ Kept (fun _ => False) w w' := by
 go_enter Tryz.func201, Tryz.ntmps201
 go_wp2_with (go_at_call 283; refine (cell_cmp a b _).mono ?_; rintro e w4 ⟨rfl, K4⟩)
 go_ret
 exact ⟨rfl, (((Kept.refl _ _).alloc _).alloc _).trans K4 (fun _ _ h => h) (fun _ _ h => h)⟩

def aheadC (a b : Cel) : Bool := sLt a.k b.k || (sEq a.k b.k && decide (a.s > b.s))
end Go.Proofs.YthknocapablpaaaGreatDoor.Mg

/- Plain laws on heaps that lie in lists: up, down, push, pop. Nothing of the program is run here. -/
namespace Go.Proofs.YthknocapablpaaaGreatDoor.Mg
set_option maxRecDepth 100000

section heap
variable {α : Type} [Inhabited α] (lt : α → α → Bool)

def nth (l : List α) (i : Nat) : α := l.getD i default
def swapL (l : List α) (i j : Nat) : List α := (l.set i (nth l j)).set j (nth l i)

def upL (l : List α) (j : Nat) : List α :=
 if _h : j = 0 then l else if lt (nth l j) (nth l ((j - 1) / 2)) = true then upL (swapL l ((j - 1) / 2) j) ((j - 1) / 2) else l
termination_by j
decreasing_by omega

def kidL (n : Nat) (l : List α) (i : Nat) : Nat := if (decide (2 * i + 2 < n) && lt (nth l (2 * i + 2)) (nth l (2 * i + 1))) = true then 2 * i + 2 else 2 * i + 1

theorem kidL_gt (n : Nat) (l : List α) (i : Nat) : i < kidL lt n l i := by unfold kidL; split <;> omega
theorem kidL_lt {n : Nat} {l : List α} {i : Nat} (h : 2 * i + 1 < n) : kidL lt n l i < n := by
 unfold kidL; split
 ·rename_i h2; simp at h2; omega
 ·exact h
theorem kidL_par (n : Nat) (l : List α) (i : Nat) : (kidL lt n l i - 1) / 2 = i := by unfold kidL; split <;> omega

def downL (n : Nat) (l : List α) (i : Nat) : List α :=
 if _h : 2 * i + 1 < n then (if lt (nth l (kidL lt n l i)) (nth l i) = true then downL n (swapL l i (kidL lt n l i)) (kidL lt n l i) else l) else l
termination_by n - i
decreasing_by have := kidL_gt lt n l i; omega

@[simp] theorem length_swapL (l : List α) (i j : Nat) : (swapL l i j).length = l.length := by simp [swapL]

theorem nth_set (l : List α) (i k : Nat) (x : α) (hi : i < l.length) : nth (l.set i x) k = if k = i then x else nth l k := by
 unfold nth
 simp only [List.getD_eq_getElem?_getD, List.getElem?_set]
 by_cases h : k = i
 ·subst h; simp [hi]
 ·simp [h, Ne.symm h]

theorem nth_swap (l : List α) {i j : Nat} (hi : i < l.length) (hj : j < l.length) (k : Nat) : nth (swapL l i j) k = if k = j then nth l i else if k = i then nth l j else nth l k := by
 unfold swapL
 rw [nth_set _ _ _ _ (by simpa using hj), nth_set _ _ _ _ hi]

omit [Inhabited α] in
theorem set_eq_take_drop (l : List α) (i : Nat) (x : α) (hi : i < l.length) : l.set i x = l.take i ++ x :: l.drop (i + 1) := by
 rw [List.set_eq_take_append_cons_drop]; simp [hi]

theorem perm_set (l : List α) (i : Nat) (x : α) (hi : i < l.length) : (nth l i :: l.set i x).Perm (x :: l) := by
 have h1 : l = l.take i ++ nth l i :: l.drop (i + 1) := by
  have : nth l i = l[i] := by simp [nth, hi]
  rw [this, List.getElem_cons_drop]; simp
 rw [set_eq_take_drop l i x hi]
 conv => rhs; rw [h1]
 refine (List.Perm.cons _ List.perm_middle).trans ?_
 refine (List.Perm.swap _ _ _).trans (List.Perm.cons _ ?_)
 exact List.perm_middle.symm

theorem perm_swap (l : List α) {i j : Nat} (hi : i < l.length) (hj : j < l.length) : (swapL l i j).Perm l := by
 unfold swapL
 have h1 := perm_set l i (nth l j) hi
 have h2 := perm_set (l.set i (nth l j)) j (nth l i) (by simpa using hj)
 have e : nth (l.set i (nth l j)) j = nth l j := by rw [nth_set _ _ _ _ hi]; split <;> rfl
 rw [e] at h2
 exact (List.perm_cons _).1 (h2.trans h1)

theorem upL_perm : ∀ (j : Nat) (l : List α), j < l.length → (upL lt l j).Perm l := by
 intro j
 induction j using Nat.strongRecOn with
 | _ j ih =>
  intro l hj
  rw [upL]
  split
  ·exact .refl _
  ·split
   ·exact (ih _ (by omega) _ (by simp; omega)).trans (perm_swap l (by omega) hj)
   ·exact .refl _

theorem downL_perm (n : Nat) : ∀ (m i : Nat) (l : List α), n - i = m → n ≤ l.length → i < l.length → (downL lt n l i).Perm l := by
 intro m
 induction m using Nat.strongRecOn with
 | _ m ih =>
  intro i l hm hn hi
  rw [downL]
  split
  ·rename_i h
   split
   ·have h1 := kidL_gt lt n l i
    have h2 := kidL_lt lt (l := l) h
    exact (ih (n - kidL lt n l i) (by omega) _ _ rfl (by simpa using hn) (by simp; omega)).trans (perm_swap l hi (by omega))
   ·exact .refl _
  ·exact .refl _

theorem downL_above (n : Nat) : ∀ (m i : Nat) (l : List α), n - i = m → n ≤ l.length → i < n → ∀ k, n ≤ k → nth (downL lt n l i) k = nth l k := by
 intro m
 induction m using Nat.strongRecOn with
 | _ m ih =>
  intro i l hm hn hi k hk
  rw [downL]
  split
  ·rename_i h
   split
   ·have h1 := kidL_gt lt n l i
    have h2 := kidL_lt lt (l := l) h
    rw [ih (n - kidL lt n l i) (by omega) _ _ rfl (by simpa using hn) h2 k hk, nth_swap _ (by omega) (by omega), if_neg (by omega), if_neg (by omega)]
   ·rfl
  ·rfl

theorem length_downL (n i : Nat) (l : List α) (hn : n ≤ l.length) (h : i < l.length) : (downL lt n l i).length = l.length := (downL_perm lt n _ i l rfl hn h).length_eq

structure Ordr : Prop where
 asym : ∀ a b, lt a b = true → lt b a = false
 tr : ∀ a b c, lt b a = false → lt c b = false → lt c a = false

def Heap (n : Nat) (l : List α) : Prop := ∀ k, 0 < k → k < n → lt (nth l k) (nth l ((k - 1) / 2)) = false

theorem up_heap (o : Ordr lt) : ∀ (j : Nat) (l : List α), j < l.length →
  (∀ k, 0 < k → k < l.length → k ≠ j → lt (nth l k) (nth l ((k - 1) / 2)) = false) →
  (∀ k, 0 < k → k < l.length → (k - 1) / 2 = j → 0 < j → lt (nth l k) (nth l ((j - 1) / 2)) = false) → Heap lt l.length (upL lt l j) := by
 intro j
 induction j using Nat.strongRecOn with
 | _ j ih =>
  intro l hj h1 h2
  rw [upL]
  split
  ·rename_i h0
   intro k hk hk2; exact h1 k hk hk2 (by omega)
  ·rename_i h0
   obtain ⟨p, hp⟩ : ∃ p, (j - 1) / 2 = p := ⟨_, rfl⟩
   rw [hp]
   have hpj : p < j := by omega
   split
   ·rename_i hlt
    have := ih p hpj (swapL l p j) (by simp; omega) ?_ ?_
    ·simpa using this
    ·intro k hk hk2 hkp
     rw [length_swapL] at hk2
     rw [nth_swap _ (by omega) hj, nth_swap _ (by omega) hj]
     by_cases hkj : k = j
     ·subst hkj
      rw [if_pos rfl, hp, if_neg (by omega), if_pos rfl]
      exact o.asym _ _ hlt
     ·rw [if_neg hkj, if_neg hkp]
      by_cases hq : (k - 1) / 2 = j
      ·rw [if_pos hq]
       have := h2 k hk hk2 hq (by omega)
       rwa [hp] at this
      ·rw [if_neg hq]
       have h3 := h1 k hk hk2 hkj
       by_cases hq2 : (k - 1) / 2 = p
       ·rw [if_pos hq2]; rw [hq2] at h3
        exact o.tr _ _ _ (o.asym _ _ hlt) h3
       ·rw [if_neg hq2]; exact h3
    ·intro k hk hk2 hkp h0p
     rw [length_swapL] at hk2
     rw [nth_swap _ (by omega) hj, nth_swap _ (by omega) hj]
     rw [if_neg (show ¬ (p - 1) / 2 = j by omega), if_neg (show ¬ (p - 1) / 2 = p by omega)]
     have h3 := h1 p h0p (by omega) (by omega)
     by_cases hkj : k = j
     ·rw [if_pos hkj]; exact h3
     ·rw [if_neg hkj, if_neg (by omega)]
      have h4 := h1 k hk hk2 hkj
      rw [hkp] at h4
      exact o.tr _ _ _ h3 h4
   ·rename_i hlt
    intro k hk hk2
    by_cases hkj : k = j
    ·subst hkj; rw [hp]; simpa using hlt
    ·exact h1 k hk hk2 hkj

theorem down_heap (o : Ordr lt) (n : Nat) : ∀ (m i : Nat) (l : List α), n - i = m → n ≤ l.length → i < l.length →
  (∀ k, 0 < k → k < n → (k - 1) / 2 ≠ i → lt (nth l k) (nth l ((k - 1) / 2)) = false) →
  (∀ k, 0 < k → k < n → (k - 1) / 2 = i → 0 < i → lt (nth l k) (nth l ((i - 1) / 2)) = false) → Heap lt n (downL lt n l i) := by
 intro m
 induction m using Nat.strongRecOn with
 | _ m ih =>
  intro i l hm hn hi h1 h2
  rw [downL]
  have hg := kidL_gt lt n l i
  have hpr := kidL_par lt n l i
  split
  ·rename_i h
   have hln := kidL_lt lt (l := l) h
   have hmin : ∀ k, 0 < k → k < n → (k - 1) / 2 = i → lt (nth l k) (nth l (kidL lt n l i)) = false := by
    intro k hk hkn hki
    have hself : ∀ a : α, lt a a = false := fun a => by
     cases ha : lt a a with
     | false => rfl
     | true => exact absurd (o.asym _ _ ha) (by rw [ha]; simp)
    have hkk : k = 2 * i + 1 ∨ k = 2 * i + 2 := by omega
    unfold kidL
    split
    ·rename_i hc; simp only [Bool.and_eq_true, decide_eq_true_eq] at hc
     rcases hkk with rfl | rfl
     ·exact o.asym _ _ hc.2
     ·exact hself _
    ·rename_i hc
     rcases hkk with rfl | rfl
     ·exact hself _
     ·simp only [Bool.and_eq_true, decide_eq_true_eq, not_and, Bool.not_eq_true] at hc
      exact hc hkn
   obtain ⟨j, hj⟩ : ∃ j, kidL lt n l i = j := ⟨_, rfl⟩
   rw [hj] at hg hpr hln hmin ⊢
   split
   ·rename_i hlt
    refine ih (n - j) (by omega) j (swapL l i j) rfl (by simpa using hn) (by simp; omega) ?_ ?_
    ·intro k hk hkn hkj
     rw [nth_swap _ hi (by omega), nth_swap _ hi (by omega), if_neg hkj]
     by_cases hk1 : k = j
     ·subst hk1
      rw [if_pos rfl, hpr, if_pos rfl]
      exact o.asym _ _ hlt
     ·rw [if_neg hk1]
      by_cases hk2 : k = i
      ·subst hk2
       rw [if_pos rfl, if_neg (by omega)]
       exact h2 j (by omega) hln hpr hk
      ·rw [if_neg hk2]
       by_cases hki : (k - 1) / 2 = i
       ·rw [if_pos hki]; exact hmin k hk hkn hki
       ·rw [if_neg hki]; exact h1 k hk hkn hki
    ·intro k hk hkn hkj h0
     rw [nth_swap _ hi (by omega), nth_swap _ hi (by omega), if_neg (by omega), if_neg (by omega), if_neg (by omega), hpr, if_pos rfl]
     have := h1 k hk hkn (by omega)
     rwa [hkj] at this
   ·rename_i hlt
    intro k hk hkn
    by_cases hki : (k - 1) / 2 = i
    ·rw [hki]
     exact o.tr _ _ _ (by simpa using hlt) (hmin k hk hkn hki)
    ·exact h1 k hk hkn hki
  ·rename_i h
   intro k hk hkn
   exact h1 k hk hkn (by omega)

theorem heap_root (o : Ordr lt) {n : Nat} {l : List α} (h : Heap lt n l) : ∀ k, k < n → lt (nth l k) (nth l 0) = false := by
 intro k
 induction k using Nat.strongRecOn with
 | _ k ih =>
  intro hk
  by_cases h0 : k = 0
  ·subst h0
   cases ha : lt (nth l 0) (nth l 0) with
   | false => rfl
   | true => exact absurd (o.asym _ _ ha) (by rw [ha]; simp)
  ·exact o.tr _ _ _ (ih ((k - 1) / 2) (by omega) (by omega)) (h k (by omega) hk)

def pushL (l : List α) (x : α) : List α := upL lt (l ++ [x]) l.length
/-- What is behind the swap and the way down; the last one is the one that goes. -/
def sunkL (l : List α) : List α := downL lt (l.length - 1) (swapL l 0 (l.length - 1)) 0
def popL (l : List α) : List α := (sunkL lt l).take (l.length - 1)

theorem nth_append (l : List α) (x : α) (k : Nat) (h : k < l.length) : nth (l ++ [x]) k = nth l k := by simp [nth, List.getElem?_append_left h]

theorem push_perm (l : List α) (x : α) : (pushL lt l x).Perm (x :: l) := (upL_perm lt _ _ (by simp)).trans (List.perm_append_singleton x l)
theorem length_push (l : List α) (x : α) : (pushL lt l x).length = l.length + 1 := by rw [(push_perm lt l x).length_eq]; rfl
theorem push_heap (o : Ordr lt) {l : List α} (x : α) (h : Heap lt l.length l) : Heap lt (pushL lt l x).length (pushL lt l x) := by
 rw [length_push]
 have := up_heap lt o l.length (l ++ [x]) (by simp) ?_ ?_
 ·rw [List.length_append] at this; exact this
 ·intro k hk hk2 hne
  simp at hk2
  rw [nth_append _ _ _ (by omega), nth_append _ _ _ (by omega)]
  exact h k hk (by omega)
 ·intro k hk hk2 hp
  simp at hk2; omega

theorem length_sunk {l : List α} (h : l ≠ []) : (sunkL lt l).length = l.length := by
 have := List.length_pos_iff.2 h
 unfold sunkL; rw [length_downL _ _ _ _ (by simp) (by simpa using this)]; simp
theorem sunk_perm {l : List α} (h : l ≠ []) : (sunkL lt l).Perm l := by
 have := List.length_pos_iff.2 h
 exact (downL_perm lt _ _ 0 _ rfl (by simp) (by simpa using this)).trans (perm_swap l (by omega) (by omega))
theorem sunk_last {l : List α} (h : l ≠ []) : nth (sunkL lt l) (l.length - 1) = nth l 0 := by
 have := List.length_pos_iff.2 h
 unfold sunkL
 by_cases h1 : l.length = 1
 ·rw [downL, dif_neg (by omega), nth_swap _ (by omega) (by omega), if_pos rfl]
 ·rw [downL_above lt _ _ 0 _ rfl (by simp) (by omega) _ (Nat.le_refl _), nth_swap _ (by omega) (by omega), if_pos rfl]
theorem pop_perm {l : List α} (h : l ≠ []) : (nth l 0 :: popL lt l).Perm l := by
 have hl := List.length_pos_iff.2 h
 refine .trans ?_ (sunk_perm lt h)
 have e : sunkL lt l = popL lt l ++ [nth l 0] := by
  unfold popL
  have h2 := length_sunk lt h
  have h3 : (sunkL lt l).take (l.length - 1 + 1) = sunkL lt l := List.take_of_length_le (by omega)
  rw [List.take_add_one] at h3
  rw [← sunk_last lt h]
  have h4 : (sunkL lt l)[l.length - 1]? = some (nth (sunkL lt l) (l.length - 1)) := by
   have h5 : l.length - 1 < (sunkL lt l).length := by omega
   rw [List.getElem?_eq_getElem h5]; unfold nth; rw [List.getD_eq_getElem?_getD, List.getElem?_eq_getElem h5]; rfl
  rw [h4] at h3
  simpa using h3.symm
 rw [e]
 exact (List.perm_append_singleton _ _).symm
theorem length_pop {l : List α} (h : l ≠ []) : (popL lt l).length = l.length - 1 := by
 unfold popL; rw [List.length_take, length_sunk lt h]; omega
theorem pop_heap (o : Ordr lt) {l : List α} (hne : l ≠ []) (h : Heap lt l.length l) : Heap lt (popL lt l).length (popL lt l) := by
 have hl := List.length_pos_iff.2 hne
 rw [length_pop lt hne]
 have h1 : Heap lt (l.length - 1) (sunkL lt l) := by
  by_cases h1 : l.length = 1
  ·intro k hk hk2; omega
  ·refine down_heap lt o _ _ 0 _ rfl (by simp) (by simp; omega) ?_ (by intro k _ _ _ h; omega)
   intro k hk hk2 hne
   rw [nth_swap _ (by omega) (by omega), nth_swap _ (by omega) (by omega), if_neg (by omega), if_neg (by omega), if_neg (by omega), if_neg hne]
   exact h k hk (by omega)
 intro k hk hk2
 have e : ∀ i, i < l.length - 1 → nth (popL lt l) i = nth (sunkL lt l) i := by
  intro i hi; unfold popL nth; simp [hi]
 rw [e _ hk2, e _ (by omega)]
 exact h1 k hk hk2
end heap
end Go.Proofs.YthknocapablpaaaGreatDoor.Mg

/- The walks over cells.Sorted and the document's own Sorted: is a row sorted strictly, and may each of its cells be? -/
namespace Go.Proofs.YthknocapablpaaaGreatDoor.Mg
set_option maxRecDepth 100000
open Go.RowKit

instance : Inhabited Cel := ⟨⟨⟨#[]⟩, 0, ⟨#[]⟩⟩⟩

/-- Is the cell at a place one that may be, and does it stand behind the one ahead of it? -/
def goodAt (A : List Cel) (k : Nat) : Bool := mayC (nth A k) && (decide (k = 0) || aheadC (nth A (k - 1)) (nth A k))
def sortedB (A : List Cel) : Bool := (List.range A.length).all (goodAt A)
theorem sortedB_true {A : List Cel} : sortedB A = true ↔ ∀ k, k < A.length → goodAt A k = true := by simp [sortedB]
theorem sortedB_false {A : List Cel} {k : Nat} (hk : k < A.length) (h : goodAt A k = false) : sortedB A = false := by
 cases hs : sortedB A with
 | false => rfl
 | true => rw [sortedB_true.1 hs k hk] at h; cases h
theorem nth_get {α : Type} [Inhabited α] (A : List α) {k : Nat} (h : k < A.length) : A[k]? = some (nth A k) := by
 rw [List.getElem?_eq_getElem h]; simp [nth, h]
theorem aheadC_iff (a b : Cel) : aheadC a b = true ↔ cmpC a b < 0 := by
 unfold aheadC cmpC or2 cmpS cmpI
 cases h1 : sLt a.k b.k
 ·cases h2 : sEq a.k b.k
  ·simp
  ·simp
   by_cases h3 : b.s < a.s
   ·simp [h3]
   ·by_cases h4 : a.s < b.s <;> simp [h3, h4]
 ·simp

set_option maxRecDepth 100000 in
set_option maxHeartbeats 2000000 in
theorem sorted_any (w : World) (v : Value) (A : List Cel) (ha : ReadsC w v A) (hl : A.length ≤ 1000) :
  Calls Tryz.prog 298 #[v] w fun e w' => e = .returned (.bool (sortedB A)) ∧ Kept (fun _ => False) w w' := by
 obtain ⟨ao, capa, rfl, ha⟩ := ha
 have HA := Lib.hid ha; clear ha
 go_enter Tryz.func298, Tryz.ntmps298
 go_wp2
 go_loopg [8] A.length (fun g t wr => ∃ k : Nat, k + g = A.length ∧ t = .int .i64 k ∧ Kept (fun _ => False) w wr ∧ ∀ i, i < k → goodAt A i = true)
 case atStart => exact ⟨0, by omega, rfl, Kept.refl _ _, by omega⟩
 case round =>
  obtain ⟨k, hk, rfl, KW, hgood⟩ := hrel
  have hk1 : k ≤ A.length := by omega
  have J := Lib.hid hk; have EQ := Lib.hid hgood; have KW0 := Lib.hid KW
  clear hk hgood KW
  by_cases hlt : k < A.length
  ·rcases HA.out with h0 | ⟨ga, oa, rfl, hca⟩
   ·rw [h0] at hlt; simp at hlt
   obtain ⟨m, hm⟩ : ∃ m, nth A k = m := ⟨_, rfl⟩
   have hmk := nth_get A hlt
   rw [hm] at hmk
   obtain ⟨a0, a1, a2⟩ := ReadsC.at hca hmk
   have b0 := KW0.out.cell a0 (fun f => f)
   have b1 := KW0.out.cell a1 (fun f => f)
   have b2 := KW0.out.cell a2 (fun f => f)
   have hga := World.block_lt_of_cell? _ _ b0
   simp only at hga
   have i1 : (0 : Int) ≤ (k : Int) := by omega
   have i2 : (k : Int) < (A.length : Int) := by omega
   have HM := Lib.hid hm; have HMK := Lib.hid hmk
   clear a0 a1 a2 hm hmk
   cases hmay : mayC m with
   | false =>
    clear hca
    go_upto_region 5 with fail
    refine wp_region_held_drew (S := (fun w' => w'.cell? ⟨wr.heap.size, 0, none⟩ = some (.string m.k) ∧ w'.cell? ⟨wr.heap.size, 1, none⟩ = some (.int .i64 m.s) ∧ w'.cell? ⟨wr.heap.size, 2, none⟩ = some (.string m.v))) (by kernel_rfl) ?_ (fun hHeld => ?_)
    ·first | go_keep | (go_split_ands; (simp [go_sem, *]; done))
    refine tW 0 opAt0 hHeld ?_
    (try simp only [Act.put]); try simp only [z2, List.set]
    refine tW 1 opAt1 hHeld ?_
    (try simp only [Act.put]); try simp only [z2, List.set]
    refine wpAnyH_ready (rs := [2]) (by kernel_rfl) (by simp) ?_
    refine AllReadyH.cons opAt2 (fun K hK => ?_) AllReadyH.nil
    go_simp
    go_at_call 203; refine (may_any m _).mono ?_; rw [hmay]; rintro e w4 ⟨rfl, K4⟩; have KW4 := Lib.hid K4; clear K4; dsimp only
    refine hK.out _ _ ?_ (fun hHeld => ?_)
    ·refine ⟨KW4.out.cell hHeld.1 (fun f => f), KW4.out.cell hHeld.2.1 (fun f => f), KW4.out.cell hHeld.2.2 (fun f => f)⟩
    clear hK K
    (try simp only [Act.put]); try simp only [z2, List.set]
    refine tW 3 opAt3 hHeld ?_
    (try simp only [Act.put]); try simp only [z2, List.set]
    refine tW 4 opAt4 hHeld ?_
    (try simp only [Act.put]); try simp only [z2, List.set]
    refine tU 5 opAt5 hHeld ?_
    (try simp only [Act.put]); try simp only [z2, List.set]
    refine tU 6 opAt6 hHeld ?_
    (try simp only [Act.put]); try simp only [z2, List.set]
    refine tU 7 opAt7 hHeld ?_
    (try simp only [Act.put]); try simp only [z2, List.set]
    refine tU 8 opAt8 hHeld ?_
    (try simp only [Act.put]); try simp only [z2, List.set]
    refine tU 9 opAt9 hHeld ?_
    (try simp only [Act.put]); try simp only [z2, List.set]
    refine tU 10 opAt10 hHeld ?_
    (try simp only [Act.put]); try simp only [z2, List.set]
    refine tU 11 opAt11 hHeld ?_
    (try simp only [Act.put]); try simp only [z2, List.set]
    refine tU 12 opAt12 hHeld ?_
    (try simp only [Act.put]); try simp only [z2, List.set]
    refine tU 13 opAt13 hHeld ?_
    (try simp only [Act.put]); try simp only [z2, List.set]
    refine tU 14 opAt14 hHeld ?_
    (try simp only [Act.put]); try simp only [z2, List.set]
    refine tU 15 opAt15 hHeld ?_
    (try simp only [Act.put]); try simp only [z2, List.set]
    refine tU 16 opAt16 hHeld ?_
    (try simp only [Act.put]); try simp only [z2, List.set]
    refine tW 17 opAt17 hHeld ?_
    (try simp only [Act.put]); try simp only [z2, List.set]
    refine wpAnyH_done (by kernel_rfl) ?_ _
    go_wp2
    go_ret
    exact ret_bool' (sortedB_false hlt (by unfold goodAt; rw [HM.out, hmay]; rfl)).symm (((KW0.out.alloc _).drew).trans KW4.out (fun _ _ h => h) (fun _ _ h => h))
   | true =>
    by_cases hk0 : k = 0
    ·have e0 : decide (0 < k) = false := by simp [hk0]
     have HK := Lib.hid hk0; clear hk0 hca
     go_upto_region 5 with fail
     refine wp_region_held_drew (S := (fun w' => w'.cell? ⟨wr.heap.size, 0, none⟩ = some (.string m.k) ∧ w'.cell? ⟨wr.heap.size, 1, none⟩ = some (.int .i64 m.s) ∧ w'.cell? ⟨wr.heap.size, 2, none⟩ = some (.string m.v))) (by kernel_rfl) ?_ (fun hHeld => ?_)
     ·first | go_keep | (go_split_ands; (simp [go_sem, *]; done))
     refine tW 0 opAt0 hHeld ?_
     (try simp only [Act.put]); try simp only [z2, List.set]
     refine tW 1 opAt1 hHeld ?_
     (try simp only [Act.put]); try simp only [z2, List.set]
     refine wpAnyH_ready (rs := [2]) (by kernel_rfl) (by simp) ?_
     refine AllReadyH.cons opAt2 (fun K hK => ?_) AllReadyH.nil
     go_simp
     go_at_call 203; refine (may_any m _).mono ?_; rw [hmay]; rintro e w4 ⟨rfl, K4⟩; have KW4 := Lib.hid K4; clear K4; dsimp only
     refine hK.out _ _ ?_ (fun hHeld => ?_)
     ·refine ⟨KW4.out.cell hHeld.1 (fun f => f), KW4.out.cell hHeld.2.1 (fun f => f), KW4.out.cell hHeld.2.2 (fun f => f)⟩
     clear hK K
     (try simp only [Act.put]); try simp only [z2, List.set]
     refine tW 3 opAt3 hHeld ?_
     (try simp only [Act.put]); try simp only [z2, List.set]
     refine tW 4 opAt4 hHeld ?_
     (try simp only [Act.put]); try simp only [z2, List.set]
     refine tW 5 opAt5 hHeld ?_
     (try simp only [Act.put]); try simp only [z2, List.set]
     refine tW 6 opAt6 hHeld ?_
     (try simp only [Act.put]); try simp only [z2, List.set]
     refine tW 7 opAt7 hHeld ?_
     (try simp only [Act.put]); try simp only [z2, List.set]
     refine tU 8 opAt8 hHeld ?_
     (try simp only [Act.put]); try simp only [z2, List.set]
     refine tU 9 opAt9 hHeld ?_
     (try simp only [Act.put]); try simp only [z2, List.set]
     refine tU 10 opAt10 hHeld ?_
     (try simp only [Act.put]); try simp only [z2, List.set]
     refine tU 11 opAt11 hHeld ?_
     (try simp only [Act.put]); try simp only [z2, List.set]
     refine tU 12 opAt12 hHeld ?_
     (try simp only [Act.put]); try simp only [z2, List.set]
     refine tU 13 opAt13 hHeld ?_
     (try simp only [Act.put]); try simp only [z2, List.set]
     refine tU 14 opAt14 hHeld ?_
     (try simp only [Act.put]); try simp only [z2, List.set]
     refine tU 15 opAt15 hHeld ?_
     (try simp only [Act.put]); try simp only [z2, List.set]
     refine tW 16 opAt16 hHeld ?_
     (try simp only [Act.put]); try simp only [z2, List.set]
     refine tW 17 opAt17 hHeld ?_
     (try simp only [Act.put]); try simp only [z2, List.set]
     refine wpAnyH_done (by kernel_rfl) ?_ _
     go_wp2
     go_roundg (gk - 1)
     case measure => have := J.out; omega
     case rel => exact ⟨k + 1, by have := J.out; omega, by go_num, (((KW0.out.alloc _).drew).trans KW4.out (fun _ _ h => h) (fun _ _ h => h)), fun i hi => by
      have : i = k := by have := HK.out; omega
      subst this; unfold goodAt; rw [HM.out, hmay, HK.out]; rfl⟩
    ·have e0 : decide (0 < k) = true := by simp; omega
     obtain ⟨j, hj⟩ : ∃ j, k = j + 1 := ⟨k - 1, by omega⟩
     obtain ⟨q, hq⟩ : ∃ q, nth A j = q := ⟨_, rfl⟩
     have hqj := nth_get A (show j < A.length by omega)
     rw [hq] at hqj
     obtain ⟨a0, a1, a2⟩ := ReadsC.at hca hqj
     have d0 := KW0.out.cell a0 (fun f => f)
     have d1 := KW0.out.cell a1 (fun f => f)
     have d2 := KW0.out.cell a2 (fun f => f)
     clear hca a0 a1 a2
     have i3 : (j : Int) < (A.length : Int) := by omega
     have i4 : (0 : Int) ≤ (j : Int) := by omega
     have e3 : IntKind.i64.wrap ((k : Int) - 1) = (j : Int) := by rw [show (k : Int) - 1 = (j : Int) by omega]; exact IntWalk.i64_in _ (by omega)
     have HQ := Lib.hid hq; have HQJ := Lib.hid hqj; have HJ := Lib.hid hj; clear hq hqj hj hk0
     have ec : cmpC q m < 0 ∨ 0 ≤ cmpC q m := by omega
     rcases ec with ec | ec
     ·have e5 : decide (0 ≤ cmpC q m) = false := by simp; omega
      go_upto_region 5 with fail
      refine wp_region_held_drew (S := (fun w' => w'.cell? ⟨wr.heap.size, 0, none⟩ = some (.string m.k) ∧ w'.cell? ⟨wr.heap.size, 1, none⟩ = some (.int .i64 m.s) ∧ w'.cell? ⟨wr.heap.size, 2, none⟩ = some (.string m.v) ∧ w'.cell? ⟨ga, oa + j * 3, none⟩ = some (.string q.k) ∧ w'.cell? ⟨ga, oa + j * 3 + 1, none⟩ = some (.int .i64 q.s) ∧ w'.cell? ⟨ga, oa + j * 3 + 2, none⟩ = some (.string q.v))) (by kernel_rfl) ?_ (fun hHeld => ?_)
      ·first | go_keep | (go_split_ands; (simp [go_sem, *]; done))
      refine tW 0 opAt0 hHeld ?_
      (try simp only [Act.put]); try simp only [z2, List.set]
      refine tW 1 opAt1 hHeld ?_
      (try simp only [Act.put]); try simp only [z2, List.set]
      refine wpAnyH_ready (rs := [2]) (by kernel_rfl) (by simp) ?_
      refine AllReadyH.cons opAt2 (fun K hK => ?_) AllReadyH.nil
      go_simp
      go_at_call 203; refine (may_any m _).mono ?_; rw [hmay]; rintro e w4 ⟨rfl, K4⟩; have KW4 := Lib.hid K4; clear K4; dsimp only
      refine hK.out _ _ ?_ (fun hHeld => ?_)
      ·refine ⟨KW4.out.cell hHeld.1 (fun f => f), KW4.out.cell hHeld.2.1 (fun f => f), KW4.out.cell hHeld.2.2.1 (fun f => f), KW4.out.cell hHeld.2.2.2.1 (fun f => f), KW4.out.cell hHeld.2.2.2.2.1 (fun f => f), KW4.out.cell hHeld.2.2.2.2.2 (fun f => f)⟩
      clear hK K
      (try simp only [Act.put]); try simp only [z2, List.set]
      refine tW 3 opAt3 hHeld ?_
      (try simp only [Act.put]); try simp only [z2, List.set]
      refine tW 4 opAt4 hHeld ?_
      (try simp only [Act.put]); try simp only [z2, List.set]
      refine tW 5 opAt5 hHeld ?_
      (try simp only [Act.put]); try simp only [z2, List.set]
      refine tW 6 opAt6 hHeld ?_
      (try simp only [Act.put]); try simp only [z2, List.set]
      refine tW 7 opAt7 hHeld ?_
      (try simp only [Act.put]); try simp only [z2, List.set]
      refine tW 8 opAt8 hHeld ?_
      (try simp only [Act.put]); try simp only [z2, List.set]
      refine tW 9 opAt9 hHeld ?_
      (try simp only [Act.put]); try simp only [z2, List.set]
      refine tW 10 opAt10 hHeld ?_
      (try simp only [Act.put]); try simp only [z2, List.set]
      refine tW 11 opAt11 hHeld ?_
      (try simp only [Act.put]); try simp only [z2, List.set]
      refine tW 12 opAt12 hHeld ?_
      (try simp only [Act.put]); try simp only [z2, List.set]
      refine tW 13 opAt13 hHeld ?_
      (try simp only [Act.put]); try simp only [z2, List.set]
      refine wpAnyH_ready (rs := [14]) (by kernel_rfl) (by simp) ?_
      refine AllReadyH.cons opAt14 (fun K hK => ?_) AllReadyH.nil
      go_simp
      go_at_call 201; refine (cell_cmp2 q m _).mono ?_; rintro e w5 ⟨rfl, K5⟩; have KW5 := Lib.hid K5; clear K5; dsimp only
      refine hK.out _ _ ?_ (fun hHeld => ?_)
      ·refine ⟨KW5.out.cell hHeld.1 (fun f => f), KW5.out.cell hHeld.2.1 (fun f => f), KW5.out.cell hHeld.2.2.1 (fun f => f), KW5.out.cell hHeld.2.2.2.1 (fun f => f), KW5.out.cell hHeld.2.2.2.2.1 (fun f => f), KW5.out.cell hHeld.2.2.2.2.2 (fun f => f)⟩
      clear hK K
      (try simp only [Act.put]); try simp only [z2, List.set]
      refine tW 15 opAt15 hHeld ?_
      (try simp only [Act.put]); try simp only [z2, List.set]
      refine tW 16 opAt16 hHeld ?_
      (try simp only [Act.put]); try simp only [z2, List.set]
      refine tW 17 opAt17 hHeld ?_
      (try simp only [Act.put]); try simp only [z2, List.set]
      refine wpAnyH_done (by kernel_rfl) ?_ _
      go_wp2
      go_roundg (gk - 1)
      case measure => have := J.out; omega
      case rel => exact ⟨k + 1, by have := J.out; omega, by go_num, ((((KW0.out.alloc _).drew).trans KW4.out (fun _ _ h => h) (fun _ _ h => h)).trans KW5.out (fun _ _ h => h) (fun _ _ h => h)), fun i hi => by
       by_cases hik : i = k
       ·subst hik; unfold goodAt; rw [HM.out, hmay]
        have : i - 1 = j := by have := HJ.out; omega
        rw [this, HQ.out, (aheadC_iff _ _).2 ec]; simp
       ·exact EQ.out i (by omega)⟩
     ·have e5 : decide (0 ≤ cmpC q m) = true := by simpa using ec
      go_upto_region 5 with fail
      refine wp_region_held_drew (S := (fun w' => w'.cell? ⟨wr.heap.size, 0, none⟩ = some (.string m.k) ∧ w'.cell? ⟨wr.heap.size, 1, none⟩ = some (.int .i64 m.s) ∧ w'.cell? ⟨wr.heap.size, 2, none⟩ = some (.string m.v) ∧ w'.cell? ⟨ga, oa + j * 3, none⟩ = some (.string q.k) ∧ w'.cell? ⟨ga, oa + j * 3 + 1, none⟩ = some (.int .i64 q.s) ∧ w'.cell? ⟨ga, oa + j * 3 + 2, none⟩ = some (.string q.v))) (by kernel_rfl) ?_ (fun hHeld => ?_)
      ·first | go_keep | (go_split_ands; (simp [go_sem, *]; done))
      refine tW 0 opAt0 hHeld ?_
      (try simp only [Act.put]); try simp only [z2, List.set]
      refine tW 1 opAt1 hHeld ?_
      (try simp only [Act.put]); try simp only [z2, List.set]
      refine wpAnyH_ready (rs := [2]) (by kernel_rfl) (by simp) ?_
      refine AllReadyH.cons opAt2 (fun K hK => ?_) AllReadyH.nil
      go_simp
      go_at_call 203; refine (may_any m _).mono ?_; rw [hmay]; rintro e w4 ⟨rfl, K4⟩; have KW4 := Lib.hid K4; clear K4; dsimp only
      refine hK.out _ _ ?_ (fun hHeld => ?_)
      ·refine ⟨KW4.out.cell hHeld.1 (fun f => f), KW4.out.cell hHeld.2.1 (fun f => f), KW4.out.cell hHeld.2.2.1 (fun f => f), KW4.out.cell hHeld.2.2.2.1 (fun f => f), KW4.out.cell hHeld.2.2.2.2.1 (fun f => f), KW4.out.cell hHeld.2.2.2.2.2 (fun f => f)⟩
      clear hK K
      (try simp only [Act.put]); try simp only [z2, List.set]
      refine tW 3 opAt3 hHeld ?_
      (try simp only [Act.put]); try simp only [z2, List.set]
      refine tW 4 opAt4 hHeld ?_
      (try simp only [Act.put]); try simp only [z2, List.set]
      refine tW 5 opAt5 hHeld ?_
      (try simp only [Act.put]); try simp only [z2, List.set]
      refine tW 6 opAt6 hHeld ?_
      (try simp only [Act.put]); try simp only [z2, List.set]
      refine tW 7 opAt7 hHeld ?_
      (try simp only [Act.put]); try simp only [z2, List.set]
      refine tW 8 opAt8 hHeld ?_
      (try simp only [Act.put]); try simp only [z2, List.set]
      refine tW 9 opAt9 hHeld ?_
      (try simp only [Act.put]); try simp only [z2, List.set]
      refine tW 10 opAt10 hHeld ?_
      (try simp only [Act.put]); try simp only [z2, List.set]
      refine tW 11 opAt11 hHeld ?_
      (try simp only [Act.put]); try simp only [z2, List.set]
      refine tW 12 opAt12 hHeld ?_
      (try simp only [Act.put]); try simp only [z2, List.set]
      refine tW 13 opAt13 hHeld ?_
      (try simp only [Act.put]); try simp only [z2, List.set]
      refine wpAnyH_ready (rs := [14]) (by kernel_rfl) (by simp) ?_
      refine AllReadyH.cons opAt14 (fun K hK => ?_) AllReadyH.nil
      go_simp
      go_at_call 201; refine (cell_cmp2 q m _).mono ?_; rintro e w5 ⟨rfl, K5⟩; have KW5 := Lib.hid K5; clear K5; dsimp only
      refine hK.out _ _ ?_ (fun hHeld => ?_)
      ·refine ⟨KW5.out.cell hHeld.1 (fun f => f), KW5.out.cell hHeld.2.1 (fun f => f), KW5.out.cell hHeld.2.2.1 (fun f => f), KW5.out.cell hHeld.2.2.2.1 (fun f => f), KW5.out.cell hHeld.2.2.2.2.1 (fun f => f), KW5.out.cell hHeld.2.2.2.2.2 (fun f => f)⟩
      clear hK K
      (try simp only [Act.put]); try simp only [z2, List.set]
      refine tW 15 opAt15 hHeld ?_
      (try simp only [Act.put]); try simp only [z2, List.set]
      refine tW 16 opAt16 hHeld ?_
      (try simp only [Act.put]); try simp only [z2, List.set]
      refine tW 17 opAt17 hHeld ?_
      (try simp only [Act.put]); try simp only [z2, List.set]
      refine wpAnyH_done (by kernel_rfl) ?_ _
      go_wp2
      go_ret
      exact ret_bool' (sortedB_false hlt (by
       unfold goodAt; rw [HM.out, hmay]
       have h1 : k - 1 = j := by have := HJ.out; omega
       have h2 : aheadC q m = false := by
        cases h : aheadC q m with
        | false => rfl
        | true => have := (aheadC_iff _ _).1 h; omega
       have h3 : k ≠ 0 := by have := HJ.out; omega
       rw [h1, HQ.out, h2]; simp [h3])).symm ((((KW0.out.alloc _).drew).trans KW4.out (fun _ _ h => h) (fun _ _ h => h)).trans KW5.out (fun _ _ h => h) (fun _ _ h => h))
  ·have hk2 : k = A.length := by omega
   have e0 : decide ((k : Int) < (A.length : Int)) = false := by simp; omega
   have K2 := Lib.hid hk2; clear hk2
   go_wp2
   go_ret
   exact ret_bool' (sortedB_true.2 fun i hi => EQ.out i (by have := K2.out; omega)).symm KW0.out

end Go.Proofs.YthknocapablpaaaGreatDoor.Mg

/- The methods of merges.rows, each walked once: Less, Len, Swap, Pop, Push. -/
namespace Go.Proofs.YthknocapablpaaaGreatDoor.Mg
set_option maxRecDepth 100000
open Go.RowKit

/-- A row as it stands in the heap: where its cells lie, which ones are left, its place among all. -/
structure Rw where
 blk : Nat
 off : Nat
 cap : Nat
 xs : List Cel
 place : Nat
instance : Inhabited Rw := ⟨⟨0, 0, 0, [], 0⟩⟩

/-- Which row stands ahead. -/
def ltR (a b : Rw) : Bool := decide (or2 (cmpC (nth a.xs 0) (nth b.xs 0)) (cmpI a.place b.place) < 0)
theorem ltR_eq {a b : Rw} {x y : Cel} (hx : nth a.xs 0 = x) (hy : nth b.xs 0 = y) : ltR a b = decide (or2 (cmpC x y) (cmpI a.place b.place) < 0) := by unfold ltR; rw [hx, hy]

def cellsH : List Rw → List Value
 | [] => []
 | r :: l => .slice (some ⟨r.blk, r.off, none⟩) r.xs.length r.cap :: .int .i64 r.place :: cellsH l
theorem cellsH_length : ∀ l, (cellsH l).length = l.length * 2
 | [] => rfl
 | r :: l => by simp [cellsH, cellsH_length l]; omega
theorem cellsH_append : ∀ a b, cellsH (a ++ b) = cellsH a ++ cellsH b
 | [], b => rfl
 | r :: l, b => by simp [cellsH, cellsH_append l b]
theorem cellsH_get : ∀ (l : List Rw) (i : Nat) (r : Rw), l[i]? = some r → (cellsH l)[i * 2]? = some (.slice (some ⟨r.blk, r.off, none⟩) r.xs.length r.cap) ∧ (cellsH l)[i * 2 + 1]? = some (.int .i64 r.place)
 | [], i, r, h => by simp at h
 | x :: l, 0, r, h => by simp at h; subst h; exact ⟨rfl, rfl⟩
 | x :: l, i + 1, r, h => by
  have := cellsH_get l i r (by simpa using h)
  rw [show (i + 1) * 2 = i * 2 + 2 by omega]
  exact this
theorem cellsH_set : ∀ (l : List Rw) (i : Nat) (r : Rw), cellsH (l.set i r) = ((cellsH l).set (i * 2) (.slice (some ⟨r.blk, r.off, none⟩) r.xs.length r.cap)).set (i * 2 + 1) (.int .i64 r.place)
 | [], i, r => by simp [cellsH]
 | x :: l, 0, r => by simp [cellsH]
 | x :: l, i + 1, r => by
  rw [show (i + 1) * 2 = i * 2 + 1 + 1 by omega]
  simp [cellsH, cellsH_set l i r]
/-- The row's cells lie where it says. -/
structure GoodR (w : World) (r : Rw) : Prop where
 ne : 0 < r.xs.length
 len : r.xs.length ≤ 1000
 fit : r.xs.length ≤ r.cap
 pl : r.place ≤ 1000
 at_ : ∀ j u, (cellsC r.xs)[j]? = some u → w.cell? ⟨r.blk, r.off + j, none⟩ = some u
theorem GoodR.kept {S : Nat → Prop} {w w' : World} {r : Rw} (h : GoodR w r) (hK : Kept S w w') (hS : ¬ S r.blk) : GoodR w' r :=
 ⟨h.ne, h.len, h.fit, h.pl, fun j u hu => hK.cell (h.at_ j u hu) hS⟩
theorem GoodR.hd {w : World} {r : Rw} (h : GoodR w r) : w.cell? ⟨r.blk, r.off, none⟩ = some (.string (nth r.xs 0).k) ∧ w.cell? ⟨r.blk, r.off + 1, none⟩ = some (.int .i64 (nth r.xs 0).s) ∧ w.cell? ⟨r.blk, r.off + 2, none⟩ = some (.string (nth r.xs 0).v) := by
 obtain ⟨h0, h1, h2⟩ := cellsC_get r.xs 0 _ (nth_get r.xs h.ne)
 simp only [Nat.zero_mul, Nat.zero_add] at h0 h1 h2
 exact ⟨h.at_ 0 _ h0, h.at_ 1 _ h1, h.at_ 2 _ h2⟩

/-- The heap: a variable p that holds a slice v of rows of its own. -/
structure HeapAt (w : World) (base p : Nat) (v : Value) (l : List Rw) : Prop where
 cell : w.cell? ⟨p, 0, none⟩ = some v
 fz : w.frozen? ⟨p, 0, none⟩ = false
 own : w.ownsRow base 396 2 v l.length (cellsH l)
 good : ∀ r ∈ l, GoodR w r
 np : v.ownBlock ≠ some p
 nr : ∀ r ∈ l, r.blk ≠ p ∧ v.ownBlock ≠ some r.blk
 few : l.length ≤ 100
theorem _root_.Go.Proofs.YthknocapablpaaaGreatDoor.Kept.grown0 {w w' : World} (h : Kept (fun _ => False) w w') : w.grownBy w' none := ⟨h.os, h.tape, h.output, h.size, fun k hk _ => h.block k hk (fun f => f)⟩
theorem HeapAt.kept {w w' : World} {base p : Nat} {v : Value} {l : List Rw} (h : HeapAt w base p v l) (hK : Kept (fun _ => False) w w') : HeapAt w' base p v l :=
 ⟨hK.cell h.cell (fun f => f), hK.frozen h.fz (World.block_lt_of_cell? _ _ h.cell) (fun f => f), h.own.kept hK.grown0 (by
  cases v with
  | slice a n c => cases a <;> simp [Value.ownBlock]
  | _ => simp [Value.ownBlock]), fun r hr => (h.good r hr).kept hK (fun f => f), h.np, h.nr, h.few⟩
theorem HeapAt.form {w : World} {base p : Nat} {v : Value} {l : List Rw} (h : HeapAt w base p v l) (hl : 0 < l.length) : ∃ g cap, v = .slice (some ⟨g, 0, none⟩) l.length cap ∧ l.length ≤ cap ∧ base ≤ g ∧ g < w.heap.size := by
 rcases row_form h.own with ⟨_, h0⟩ | ⟨g, cap, rfl, h1, h2, h3, _⟩
 ·omega
 ·exact ⟨g, cap, rfl, h1, h2, h3⟩
theorem nth_mem {α : Type} [Inhabited α] {l : List α} {i : Nat} (h : i < l.length) : nth l i ∈ l := List.mem_of_getElem? (nth_get l h)
theorem HeapAt.rowAt {w : World} {base p g n cap : Nat} {l : List Rw} (h : HeapAt w base p (.slice (some ⟨g, 0, none⟩) n cap) l) {i : Nat} (hi : i < l.length) :
  w.cell? ⟨g, i * 2, none⟩ = some (.slice (some ⟨(nth l i).blk, (nth l i).off, none⟩) (nth l i).xs.length (nth l i).cap) ∧ w.cell? ⟨g, i * 2 + 1, none⟩ = some (.int .i64 (nth l i).place) := by
 obtain ⟨h0, h1⟩ := cellsH_get l i _ (nth_get l hi)
 have hc := h.own.cells (g := g) rfl
 have e0 := hc _ _ h0
 have e1 := hc _ _ h1
 rw [add_mid, Nat.zero_add] at e0 e1
 exact ⟨e0, e1⟩

set_option maxRecDepth 100000 in
set_option maxHeartbeats 2000000 in
theorem less_any (w : World) (g n cap i k : Nat) (ri rk : Rw) (ci ck : Cel) (hi : nth ri.xs 0 = ci) (hk : nth rk.xs 0 = ck) (li : 0 < ri.xs.length) (lk : 0 < rk.xs.length) (hin : i < n) (hkn : k < n)
  (a0 : w.cell? ⟨g, i * 2, none⟩ = some (.slice (some ⟨ri.blk, ri.off, none⟩) ri.xs.length ri.cap)) (a1 : w.cell? ⟨g, i * 2 + 1, none⟩ = some (.int .i64 ri.place))
  (b0 : w.cell? ⟨g, k * 2, none⟩ = some (.slice (some ⟨rk.blk, rk.off, none⟩) rk.xs.length rk.cap)) (b1 : w.cell? ⟨g, k * 2 + 1, none⟩ = some (.int .i64 rk.place))
  (c0 : w.cell? ⟨ri.blk, ri.off, none⟩ = some (.string ci.k)) (c1 : w.cell? ⟨ri.blk, ri.off + 1, none⟩ = some (.int .i64 ci.s)) (c2 : w.cell? ⟨ri.blk, ri.off + 2, none⟩ = some (.string ci.v))
  (d0 : w.cell? ⟨rk.blk, rk.off, none⟩ = some (.string ck.k)) (d1 : w.cell? ⟨rk.blk, rk.off + 1, none⟩ = some (.int .i64 ck.s)) (d2 : w.cell? ⟨rk.blk, rk.off + 2, none⟩ = some (.string ck.v)) :
  Calls Tryz.prog 415 #[.slice (some ⟨g, 0, none⟩) n cap, .int .i64 i, .int .i64 k] w fun e w' => e = .returned (.bool (ltR ri rk)) ∧ Kept (fun _ => False) w w' := by
 have i1 : (0 : Int) ≤ (i : Int) := by omega
 have i2 : (i : Int) < (n : Int) := by omega
 have i3 : (0 : Int) ≤ (k : Int) := by omega
 have i4 : (k : Int) < (n : Int) := by omega
 have i5 : (0 : Int) < (ri.xs.length : Int) := by omega
 have i6 : (0 : Int) < (rk.xs.length : Int) := by omega
 have hKw : ∀ {w4 w' : World}, Kept (fun _ => False) w.drew w4 ∧ Kept (fun _ => False) w4 w' → Kept (fun _ => False) w w' := fun h => (((Kept.refl _ w).drew).trans h.1 (fun _ _ f => f) (fun _ _ f => f)).trans h.2 (fun _ _ f => f) (fun _ _ f => f)
 go_enter Tryz.func415, Tryz.ntmps415
 go_upto_region 1 with fail
 refine wp_region_held_drew (S := (fun w' => w'.cell? ⟨g, i * 2, none⟩ = some (.slice (some ⟨ri.blk, ri.off, none⟩) ri.xs.length ri.cap) ∧ w'.cell? ⟨g, i * 2 + 1, none⟩ = some (.int .i64 ri.place) ∧ w'.cell? ⟨g, k * 2, none⟩ = some (.slice (some ⟨rk.blk, rk.off, none⟩) rk.xs.length rk.cap) ∧ w'.cell? ⟨g, k * 2 + 1, none⟩ = some (.int .i64 rk.place) ∧ w'.cell? ⟨ri.blk, ri.off, none⟩ = some (.string ci.k) ∧ w'.cell? ⟨ri.blk, ri.off + 1, none⟩ = some (.int .i64 ci.s) ∧ w'.cell? ⟨ri.blk, ri.off + 2, none⟩ = some (.string ci.v) ∧ w'.cell? ⟨rk.blk, rk.off, none⟩ = some (.string ck.k) ∧ w'.cell? ⟨rk.blk, rk.off + 1, none⟩ = some (.int .i64 ck.s) ∧ w'.cell? ⟨rk.blk, rk.off + 2, none⟩ = some (.string ck.v))) (by kernel_rfl) ?_ (fun hHeld => ?_)
 ·first | go_keep | (go_split_ands; (simp [go_sem, *]; done))
 refine tW 0 opAt0 hHeld ?_
 (try simp only [Act.put]); try simp only [z2, List.set]
 refine tW 1 opAt1 hHeld ?_
 (try simp only [Act.put]); try simp only [z2, List.set]
 refine tW 2 opAt2 hHeld ?_
 (try simp only [Act.put]); try simp only [z2, List.set]
 refine tW 3 opAt3 hHeld ?_
 (try simp only [Act.put]); try simp only [z2, List.set]
 refine tW 4 opAt4 hHeld ?_
 (try simp only [Act.put]); try simp only [z2, List.set]
 refine tW 5 opAt5 hHeld ?_
 (try simp only [Act.put]); try simp only [z2, List.set]
 refine tW 6 opAt6 hHeld ?_
 (try simp only [Act.put]); try simp only [z2, List.set]
 refine tW 7 opAt7 hHeld ?_
 (try simp only [Act.put]); try simp only [z2, List.set]
 refine tW 8 opAt8 hHeld ?_
 (try simp only [Act.put]); try simp only [z2, List.set]
 refine tW 9 opAt9 hHeld ?_
 (try simp only [Act.put]); try simp only [z2, List.set]
 refine tW 10 opAt10 hHeld ?_
 (try simp only [Act.put]); try simp only [z2, List.set]
 refine tW 11 opAt11 hHeld ?_
 (try simp only [Act.put]); try simp only [z2, List.set]
 refine tW 12 opAt12 hHeld ?_
 (try simp only [Act.put]); try simp only [z2, List.set]
 refine tW 13 opAt13 hHeld ?_
 (try simp only [Act.put]); try simp only [z2, List.set]
 refine tW 15 opAt15 hHeld ?_
 (try simp only [Act.put]); try simp only [z2, List.set]
 refine tW 16 opAt16 hHeld ?_
 (try simp only [Act.put]); try simp only [z2, List.set]
 refine tW 17 opAt17 hHeld ?_
 (try simp only [Act.put]); try simp only [z2, List.set]
 refine tW 18 opAt18 hHeld ?_
 (try simp only [Act.put]); try simp only [z2, List.set]
 refine tW 19 opAt19 hHeld ?_
 (try simp only [Act.put]); try simp only [z2, List.set]
 refine tW 20 opAt20 hHeld ?_
 (try simp only [Act.put]); try simp only [z2, List.set]
 refine tW 21 opAt21 hHeld ?_
 (try simp only [Act.put]); try simp only [z2, List.set]
 refine tW 22 opAt22 hHeld ?_
 (try simp only [Act.put]); try simp only [z2, List.set]
 refine tW 23 opAt23 hHeld ?_
 (try simp only [Act.put]); try simp only [z2, List.set]
 refine tW 24 opAt24 hHeld ?_
 (try simp only [Act.put]); try simp only [z2, List.set]
 refine wpAnyH_ready (rs := [14]) (by kernel_rfl) (by simp) ?_
 refine AllReadyH.cons opAt14 (fun K hK => ?_) AllReadyH.nil
 go_simp
 go_at_call 201; refine (cell_cmp2 ci ck _).mono ?_; rintro e w4 ⟨rfl, Kw4⟩; dsimp only
 refine hK.out _ _ ?_ (fun hHeld => ?_)
 ·refine ⟨Kw4.cell hHeld.1 (fun f => f), Kw4.cell hHeld.2.1 (fun f => f), Kw4.cell hHeld.2.2.1 (fun f => f), Kw4.cell hHeld.2.2.2.1 (fun f => f), Kw4.cell hHeld.2.2.2.2.1 (fun f => f), Kw4.cell hHeld.2.2.2.2.2.1 (fun f => f), Kw4.cell hHeld.2.2.2.2.2.2.1 (fun f => f), Kw4.cell hHeld.2.2.2.2.2.2.2.1 (fun f => f), Kw4.cell hHeld.2.2.2.2.2.2.2.2.1 (fun f => f), Kw4.cell hHeld.2.2.2.2.2.2.2.2.2 (fun f => f)⟩
 clear hK K
 (try simp only [Act.put]); try simp only [z2, List.set]
 refine wpAnyH_ready (rs := [25]) (by kernel_rfl) (by simp) ?_
 refine AllReadyH.cons opAt25 (fun K hK => ?_) AllReadyH.nil
 go_simp
 go_at_call 92; refine (cmp_int ri.place rk.place _).mono ?_; rintro e w5 ⟨rfl, rfl⟩; dsimp only
 refine hK.out _ _ ?_ (fun hHeld => ?_)
 ·exact hHeld
 clear hK K
 (try simp only [Act.put]); try simp only [z2, List.set]
 refine wpAnyH_ready (rs := [26]) (by kernel_rfl) (by simp) ?_
 refine AllReadyH.cons opAt26 (fun K hK => ?_) AllReadyH.nil
 go_simp
 skip
 refine hK.out _ _ ?_ (fun hHeld => ?_)
 ·refine ⟨((Kept.refl (fun _ => False) _).alloc (Obj.cells #[Value.int .i64 (cmpC ci ck), Value.int .i64 (cmpI ri.place rk.place)] 3)).cell hHeld.1 (fun f => f), ((Kept.refl (fun _ => False) _).alloc (Obj.cells #[Value.int .i64 (cmpC ci ck), Value.int .i64 (cmpI ri.place rk.place)] 3)).cell hHeld.2.1 (fun f => f), ((Kept.refl (fun _ => False) _).alloc (Obj.cells #[Value.int .i64 (cmpC ci ck), Value.int .i64 (cmpI ri.place rk.place)] 3)).cell hHeld.2.2.1 (fun f => f), ((Kept.refl (fun _ => False) _).alloc (Obj.cells #[Value.int .i64 (cmpC ci ck), Value.int .i64 (cmpI ri.place rk.place)] 3)).cell hHeld.2.2.2.1 (fun f => f), ((Kept.refl (fun _ => False) _).alloc (Obj.cells #[Value.int .i64 (cmpC ci ck), Value.int .i64 (cmpI ri.place rk.place)] 3)).cell hHeld.2.2.2.2.1 (fun f => f), ((Kept.refl (fun _ => False) _).alloc (Obj.cells #[Value.int .i64 (cmpC ci ck), Value.int .i64 (cmpI ri.place rk.place)] 3)).cell hHeld.2.2.2.2.2.1 (fun f => f), ((Kept.refl (fun _ => False) _).alloc (Obj.cells #[Value.int .i64 (cmpC ci ck), Value.int .i64 (cmpI ri.place rk.place)] 3)).cell hHeld.2.2.2.2.2.2.1 (fun f => f), ((Kept.refl (fun _ => False) _).alloc (Obj.cells #[Value.int .i64 (cmpC ci ck), Value.int .i64 (cmpI ri.place rk.place)] 3)).cell hHeld.2.2.2.2.2.2.2.1 (fun f => f), ((Kept.refl (fun _ => False) _).alloc (Obj.cells #[Value.int .i64 (cmpC ci ck), Value.int .i64 (cmpI ri.place rk.place)] 3)).cell hHeld.2.2.2.2.2.2.2.2.1 (fun f => f), ((Kept.refl (fun _ => False) _).alloc (Obj.cells #[Value.int .i64 (cmpC ci ck), Value.int .i64 (cmpI ri.place rk.place)] 3)).cell hHeld.2.2.2.2.2.2.2.2.2 (fun f => f)⟩
 clear hK K
 (try simp only [Act.put]); try simp only [z2, List.set]
 refine wpAnyH_ready (rs := [27]) (by kernel_rfl) (by simp) ?_
 refine AllReadyH.cons opAt27 (fun K hK => ?_) AllReadyH.nil
 go_simp
 go_at_call 91; refine (or_two _ _ (cmpC ci ck) (cmpI ri.place rk.place) _ ?_ ?_).mono ?_; (simp [go_sem]); (simp [go_sem]); rintro e w7 ⟨rfl, rfl⟩; dsimp only
 refine hK.out _ _ ?_ (fun hHeld => ?_)
 ·exact hHeld
 clear hK K
 (try simp only [Act.put]); try simp only [z2, List.set]
 refine tW 28 opAt28 hHeld ?_
 (try simp only [Act.put]); try simp only [z2, List.set]
 refine tW 29 opAt29 hHeld ?_
 (try simp only [Act.put]); try simp only [z2, List.set]
 refine wpAnyH_done (by kernel_rfl) ?_ _
 go_wp2
 go_ret
 exact ⟨by rw [ltR_eq hi hk]; rfl, hKw ⟨Kw4, (Kept.refl (fun _ => False) _).alloc _⟩⟩
/-- Less, of two rows of a heap. -/
theorem less_heap {w : World} {base p : Nat} {v : Value} {l : List Rw} (h : HeapAt w base p v l) (i k : Nat) (hi : i < l.length) (hk : k < l.length) :
  Calls Tryz.prog 415 #[v, .int .i64 i, .int .i64 k] w fun e w' => e = .returned (.bool (ltR (nth l i) (nth l k))) ∧ Kept (fun _ => False) w w' := by
 obtain ⟨g, cap, rfl, _⟩ := h.form (by omega)
 obtain ⟨a0, a1⟩ := h.rowAt hi
 obtain ⟨b0, b1⟩ := h.rowAt hk
 have gi := h.good _ (nth_mem hi)
 have gk := h.good _ (nth_mem hk)
 obtain ⟨c0, c1, c2⟩ := gi.hd
 obtain ⟨d0, d1, d2⟩ := gk.hd
 exact less_any w g l.length cap i k (nth l i) (nth l k) _ _ rfl rfl gi.ne gk.ne hi hk a0 a1 b0 b1 c0 c1 c2 d0 d1 d2

theorem len_rows (v : Value) (a : Option Addr) (n cap : Nat) (w : World) (hv : v = .slice a n cap) : Calls Tryz.prog 414 #[v] w fun e w' => e = .returned (.int .i64 n) ∧ w = w' := by
 subst hv
 go_enter Tryz.func414, Tryz.ntmps414
 go_wp2
 go_ret
 exact ⟨rfl, rfl⟩

/-- A row is stored. -/
theorem own_set {w : World} {base g n cap : Nat} {l : List Rw} (h : w.ownsRow base 396 2 (.slice (some ⟨g, 0, none⟩) n cap) n (cellsH l)) (i : Nat) (r : Rw) :
  ((w.setCell ⟨g, i * 2, none⟩ (.slice (some ⟨r.blk, r.off, none⟩) r.xs.length r.cap)).setCell ⟨g, i * 2 + 1, none⟩ (.int .i64 r.place)).ownsRow base 396 2 (.slice (some ⟨g, 0, none⟩) n cap) n (cellsH (l.set i r)) := by
 rw [cellsH_set]
 exact ((h.stored _ _).1.stored _ _).1
theorem HeapAt.moved {w w' : World} {base p g cap : Nat} {l l' : List Rw} (h : HeapAt w base p (.slice (some ⟨g, 0, none⟩) l.length cap) l) (hK : Kept (fun b => g = b) w w') (hp : l'.Perm l)
  (ho : w'.ownsRow base 396 2 (.slice (some ⟨g, 0, none⟩) l.length cap) l.length (cellsH l')) : HeapAt w' base p (.slice (some ⟨g, 0, none⟩) l.length cap) l' := by
 have hgp : g ≠ p := fun e => h.np (by rw [← e]; rfl)
 refine ⟨hK.cell h.cell hgp, hK.frozen h.fz (World.block_lt_of_cell? _ _ h.cell) hgp, ?_, fun r hr => ?_, h.np, fun r hr => h.nr r (hp.mem_iff.1 hr), by rw [hp.length_eq]; exact h.few⟩
 ·rw [hp.length_eq]; exact ho
 ·have hr' := hp.mem_iff.1 hr
  exact (h.good r hr').kept hK (fun e => (h.nr r hr').2 (by rw [← e]; rfl))

set_option maxHeartbeats 2000000 in
theorem swap_heap {w : World} {base p : Nat} {v : Value} {l : List Rw} (h : HeapAt w base p v l) (i k : Nat) (hi : i < l.length) (hk : k < l.length) :
  Calls Tryz.prog 416 #[v, .int .i64 i, .int .i64 k] w fun e w' => e = .returned (.tuple #[]) ∧ HeapAt w' base p v (swapL l i k) ∧ Kept (fun b => v.ownBlock = some b) w w' := by
 obtain ⟨g, cap, rfl, _⟩ := h.form (by omega)
 obtain ⟨a0, a1⟩ := h.rowAt hi
 obtain ⟨b0, b1⟩ := h.rowAt hk
 have i1 : (0 : Int) ≤ (i : Int) := by omega
 have i2 : (i : Int) < (l.length : Int) := by omega
 have i3 : (0 : Int) ≤ (k : Int) := by omega
 have i4 : (k : Int) < (l.length : Int) := by omega
 have hfin : HeapAt ((((w.setCell ⟨g, i * 2, none⟩ (.slice (some ⟨(nth l k).blk, (nth l k).off, none⟩) (nth l k).xs.length (nth l k).cap)).setCell ⟨g, i * 2 + 1, none⟩ (.int .i64 (nth l k).place)).setCell ⟨g, k * 2, none⟩ (.slice (some ⟨(nth l i).blk, (nth l i).off, none⟩) (nth l i).xs.length (nth l i).cap)).setCell ⟨g, k * 2 + 1, none⟩ (.int .i64 (nth l i).place)).drew base p (.slice (some ⟨g, 0, none⟩) l.length cap) (swapL l i k) ∧
   Kept (fun b => g = b) w ((((w.setCell ⟨g, i * 2, none⟩ (.slice (some ⟨(nth l k).blk, (nth l k).off, none⟩) (nth l k).xs.length (nth l k).cap)).setCell ⟨g, i * 2 + 1, none⟩ (.int .i64 (nth l k).place)).setCell ⟨g, k * 2, none⟩ (.slice (some ⟨(nth l i).blk, (nth l i).off, none⟩) (nth l i).xs.length (nth l i).cap)).setCell ⟨g, k * 2 + 1, none⟩ (.int .i64 (nth l i).place)).drew := by
  have hK : Kept (fun b => g = b) w ((((w.setCell ⟨g, i * 2, none⟩ (.slice (some ⟨(nth l k).blk, (nth l k).off, none⟩) (nth l k).xs.length (nth l k).cap)).setCell ⟨g, i * 2 + 1, none⟩ (.int .i64 (nth l k).place)).setCell ⟨g, k * 2, none⟩ (.slice (some ⟨(nth l i).blk, (nth l i).off, none⟩) (nth l i).xs.length (nth l i).cap)).setCell ⟨g, k * 2 + 1, none⟩ (.int .i64 (nth l i).place)).drew :=
   Kept.drew (Kept.setAt (fun _ => rfl) (Kept.setAt (fun _ => rfl) (Kept.setAt (fun _ => rfl) (Kept.setAt (fun _ => rfl) (Kept.refl _ w)))))
  refine ⟨h.moved hK (perm_swap l hi hk) ?_, hK⟩
  exact (own_set (own_set h.own i (nth l k)) k (nth l i)).drew
 obtain ⟨ri, hri⟩ : ∃ r, nth l i = r := ⟨_, rfl⟩
 obtain ⟨rk, hrk⟩ : ∃ r, nth l k = r := ⟨_, rfl⟩
 have hf := fun j => h.own.frozenAt j
 rw [hri] at a0 a1 hfin
 rw [hrk] at b0 b1 hfin
 have H := Lib.hid h; have RI := Lib.hid hri; have RK := Lib.hid hrk; have FIN := Lib.hid hfin
 clear h hri hrk hfin
 have x1 : ¬ i * 2 = k * 2 + 1 := by omega
 have x2 : ¬ i * 2 + 1 = k * 2 := by omega
 have x3 : ¬ k * 2 = i * 2 + 1 := by omega
 have x4 : ¬ k * 2 + 1 = i * 2 := by omega
 have hown : ∀ g' : Nat, (Value.slice (some ⟨g, 0, none⟩) l.length cap).ownBlock = some g' ↔ g = g' := fun g' => by simp [Value.ownBlock]
 simp only [hown]
 clear hown
 by_cases hik : i = k
 ·subst hik
  obtain rfl : ri = rk := RI.out.symm.trans RK.out
  go_enter Tryz.func416, Tryz.ntmps416
  go_region
  all_goals go_wp2
  all_goals go_end0
  all_goals exact ⟨rfl, FIN.out⟩
 ·have hki : ¬ k = i := fun e => hik e.symm
  go_enter Tryz.func416, Tryz.ntmps416
  go_region
  all_goals go_wp2
  all_goals go_end0
  all_goals exact ⟨rfl, FIN.out⟩

end Go.Proofs.YthknocapablpaaaGreatDoor.Mg

namespace Go.Proofs.YthknocapablpaaaGreatDoor.Mg
set_option maxRecDepth 100000
open Go.RowKit
theorem wrap_nil (ts : Array TypeId) (t : TypeId) (a : Addr) (n : String) (w : World) : (Builtin.ssaWrapNilChk_ ts t #[.pointer (some a), strVal "", strVal n]).run Tryz.prog w = .ok (.pointer (some a)) w := by rfl
theorem by_value {w : World} {p fuel f : Nat} {v : Value} {name : String} (hm : (Tryz.t394.methods.find? (·.name == name)).map (fun m => (m.path, m.func)) = some (#[], some (f, false)))
  (hl : w.cell? ⟨p, 0, none⟩ = some v) : (method (fuel + 1) 394 (.pointer (some ⟨p, 0, none⟩)) name).run Tryz.prog w = .ok (f, v) w := by
 obtain ⟨m, hm1, hm2⟩ := Option.map_eq_some_iff.1 hm
 simp only [Prod.mk.injEq] at hm2
 have hu := run_underlying (P := Tryz.prog) Tryz.underlying394 w
 unfold method
 simp [go_sem, hm1, hm2.1, hm2.2, follow, receiverAt, Place.get, hl, hu, wrap_nil]
theorem m_len (p : Nat) (w : World) (v : Value) (hv : w.cell? ⟨p, 0, none⟩ = some v) : (method 595 394 (.pointer (some ⟨p, 0, none⟩)) "Len").run Tryz.prog w = .ok (414, v) w :=
 by_value (by kernel_rfl) hv
theorem m_less (p : Nat) (w : World) (v : Value) (hv : w.cell? ⟨p, 0, none⟩ = some v) : (method 595 394 (.pointer (some ⟨p, 0, none⟩)) "Less").run Tryz.prog w = .ok (415, v) w :=
 by_value (by kernel_rfl) hv
theorem m_swap (p : Nat) (w : World) (v : Value) (hv : w.cell? ⟨p, 0, none⟩ = some v) : (method 595 394 (.pointer (some ⟨p, 0, none⟩)) "Swap").run Tryz.prog w = .ok (416, v) w :=
 by_value (by kernel_rfl) hv
theorem m_pop (p : Nat) (w : World) : (method 595 394 (.pointer (some ⟨p, 0, none⟩)) "Pop").run Tryz.prog w = .ok (417, .pointer (some ⟨p, 0, none⟩)) w := by kernel_rfl
theorem m_push (p : Nat) (w : World) : (method 595 394 (.pointer (some ⟨p, 0, none⟩)) "Push").run Tryz.prog w = .ok (418, .pointer (some ⟨p, 0, none⟩)) w := by kernel_rfl
end Go.Proofs.YthknocapablpaaaGreatDoor.Mg

