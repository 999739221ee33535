/- A part of the proof. -/
import Derived.Test.YtelhdbkkigehgaaGreatDoorDs8

/- desk.lay, as a summary: a step of one number. -/
namespace Go.Proofs.YtelhdbkkigehgaaGreatDoor
open Go.RowKit Go.Eng

theorem results_cell1 {fn : Func} {p : Tmp} {ty : TypeId} (h : fn.results = #[.cell p ty]) (tmps : Array Value) (P : Program) (w : World) :
    (results fn tmps).run P w = ((asAddr (tmps.getD p undef)).run P w).andThen fun a w₁ => (loadVar ty a).run P w₁ := by
  simp only [results, h]
  simp [Sem.run_bind, Result.andThen]

def stepV (k a b : Int) (keep : Value) : Value := .agg #[.int .i64 k, .int .i64 a, .int .i64 b, .int .i64 0, .int .i64 0, .int .i64 0, .string ⟨#[]⟩, .string ⟨#[]⟩, .int .i64 0, .int .i64 0, .string ⟨#[]⟩, keep]
theorem from_one (g o cap : Nat) (hc : 1 ≤ cap) : ∃ o', ∀ w, (Instr.slice 36 (.slice (some ⟨g, o, none⟩) 1 cap) (some (.int .i64 1)) none none).run Tryz.prog w = .ok (.slice (some ⟨g, o', none⟩) 0 (cap - 1)) w := by
  by_cases h : cap = 1
  · subst h
    exact ⟨o, fun w => by simp [go_sem]⟩
  · exact ⟨o + 1, fun w => by simp [go_sem, h]⟩
set_option maxHeartbeats 4000000 in
set_option maxRecDepth 100000 in
theorem lay_n (k : Int) (hk : k = 7 ∨ k = 10 ∨ k = 12) (g o len cap : Nat) (x : Int) (w : World) (h : w.cell? ⟨g, o, none⟩ = some (.int .i64 x)) (hl : (0 : Int) < (len : Int)) :
    Calls Tryz.prog 40 #[.int .i64 k, .slice (some ⟨g, o, none⟩) len cap] w fun e w' => e = .returned (stepV k 0 x (.slice none 0 0)) ∧ Kept (fun _ => False) w w' := by
  have b1 : g < w.heap.size := World.block_lt_of_cell? _ _ h
  have b2 : g < w.heap.size + 1 := by omega
  rcases hk with rfl | rfl | rfl
  all_goals
    go_enter Tryz.func40, Tryz.ntmps40
    go_wp2
    (try simp only [Exit.inBlock, Exit.then])
    refine bodyPost_ret (v := stepV _ 0 x (.slice none 0 0)) ?_ rfl ⟨rfl, ((Kept.refl _ w).alloc _).alloc _⟩
    rw [results_cell1 rfl]
    go_simp
    rfl
set_option maxHeartbeats 4000000 in
set_option maxRecDepth 100000 in
theorem lay_o (k : Int) (hk : k = 2 ∨ k = 5 ∨ k = 6 ∨ k = 17) (g o len cap : Nat) (x : Int) (w : World) (h : w.cell? ⟨g, o, none⟩ = some (.int .i64 x)) (hl : (0 : Int) < (len : Int)) :
    Calls Tryz.prog 40 #[.int .i64 k, .slice (some ⟨g, o, none⟩) len cap] w fun e w' => e = .returned (stepV k x 0 (.slice none 0 0)) ∧ Kept (fun _ => False) w w' := by
  have b1 : g < w.heap.size := World.block_lt_of_cell? _ _ h
  have b2 : g < w.heap.size + 1 := by omega
  rcases hk with rfl | rfl | rfl | rfl
  all_goals
    go_enter Tryz.func40, Tryz.ntmps40
    go_wp2
    (try simp only [Exit.inBlock, Exit.then])
    refine bodyPost_ret (v := stepV _ x 0 (.slice none 0 0)) ?_ rfl ⟨rfl, ((Kept.refl _ w).alloc _).alloc _⟩
    rw [results_cell1 rfl]
    go_simp
    rfl
set_option maxHeartbeats 4000000 in
set_option maxRecDepth 100000 in
theorem lay_c  (g o cap : Nat) (x : Int) (w : World) (h : w.cell? ⟨g, o, none⟩ = some (.int .i64 x)) (hc : 1 ≤ cap) :
    Calls Tryz.prog 40 #[.int .i64 15, .slice (some ⟨g, o, none⟩) 1 cap] w fun e w' => (∃ o', e = .returned (stepV 15 x 0 (.slice (some ⟨g, o', none⟩) 0 (cap - 1)))) ∧ Kept (fun _ => False) w w' := by
  have b1 : g < w.heap.size := World.block_lt_of_cell? _ _ h
  have b2 : g < w.heap.size + 1 := by omega
  obtain ⟨o', hs⟩ := from_one g o cap hc
  all_goals
    go_enter Tryz.func40, Tryz.ntmps40
    go_wp2
    go_region_held3 (fun w' => w'.cell? ⟨g, o, none⟩ = some (.int .i64 x)) (first | go_keep | (simp [go_sem, *]; done)) (fail)
    (try simp only [Exit.inBlock, Exit.then])
    go_wp2
    (try simp only [Exit.inBlock, Exit.then])
    refine bodyPost_ret (v := stepV 15 x 0 (.slice (some ⟨g, o', none⟩) 0 (cap - 1))) ?_ rfl ⟨⟨o', rfl⟩, (((Kept.refl _ w).alloc _).alloc _).drew⟩
    rw [results_cell1 rfl]
    go_simp
    rfl

noncomputable section
def stepA (k : Nat) (a b keep : AV) : List AV := [.int .i64 (.ofNat k), a, b, .int .i64 (.ofNat 0), .int .i64 (.ofNat 0), .int .i64 (.ofNat 0), .str [], .str [], .int .i64 (.ofNat 0), .int .i64 (.ofNat 0), .str [], keep]
def layS (args : List AV) (h : Heap) (c : Nat) : Option CRes := match args with
  | [.int .i64 (.ofNat k), .slice n o len cap fl] => (cells? h n).bind fun tc => match nth tc.2 o with
    | some (.int .i64 x) => bif Nat.beq len 0 then none
      else bif Nat.beq k 7 || (Nat.beq k 10 || Nat.beq k 12) then some (.mk (.agg (stepA k (.int .i64 (.ofNat 0)) (.int .i64 x) .nils)) h c)
      else bif Nat.beq k 2 || (Nat.beq k 5 || (Nat.beq k 6 || Nat.beq k 17)) then some (.mk (.agg (stepA k (.int .i64 x) (.int .i64 (.ofNat 0)) .nils)) h c)
      else bif Nat.beq k 15 && (Nat.beq len 1 && (Nat.beq cap 1 && fl)) then fNat (c + 1) fun c' => some (.mk (.agg (stepA k (.int .i64 x) (.int .i64 (.ofNat 0)) (.slice c 0 0 0 true))) h c')
      else none
    | _ => none
  | _ => none
end
theorem step_conc {σ : Sig} {η : Env} {k : Nat} {a b : Int} {keep : AV} {kv : Value} (h : conc σ η keep = some kv) (h1 : kv.oneCell' = true) : conc σ η (.agg (stepA k (.int .i64 a) (.int .i64 b) keep)) = some (stepV (k : Int) a b kv) := by
  refine conc_agg.2 ⟨[.int .i64 (k : Int), .int .i64 a, .int .i64 b, .int .i64 0, .int .i64 0, .int .i64 0, .string ⟨#[]⟩, .string ⟨#[]⟩, .int .i64 0, .int .i64 0, .string ⟨#[]⟩, kv], ?_, ?_, rfl⟩
  · unfold stepA
    simp only [concs, conc, h]
    rfl
  · simp only [allOne, h1]; rfl
theorem lay_ok {η : Env} {args : List AV} {h : Heap} {c : Nat} {v : AV} {h' : Heap} {c' : Nat} (he : layS args h c = some (.mk v h' c')) {σ : Sig} {w : World} {avs : List Value} (H : HR Tryz.prog σ η h c w) (ha : concs σ η args = some avs) : Calls Tryz.prog 40 avs.toArray w (Done Tryz.prog η σ h c w v h' c') := by
  unfold layS at he
  split at he
  rotate_left
  · cases he
  rename_i k n o len cap fl
  obtain ⟨kv, r0, hk, hr0, rfl⟩ := concs_cons.1 ha
  obtain ⟨sv, r1, hs, hr1, rfl⟩ := concs_cons.1 hr0
  rw [concs_nil] at hr1; cases hr1
  rw [conc_int] at hk
  subst hk
  obtain ⟨l, hl, rfl⟩ := conc_slice.1 hs
  rw [Option.bind_eq_some_iff] at he
  obtain ⟨⟨t, cs⟩, hc, he⟩ := he
  split at he
  rotate_left
  · cases he
  rename_i x ex
  obtain ⟨us, u1, u2, u3, _⟩ := H.cells hc hl
  rw [nth_eq] at ex
  obtain ⟨u, q1, q2⟩ := (concs_get u1 o).2 _ ex
  rw [conc_int] at q2
  subst q2
  have hcell := u3 _ _ q1
  have keep : ∀ {w'}, Kept (fun _ => False) w w' → Went Tryz.prog η σ h c w σ h c w' := fun k => Went.same H (fun j hj => k.block j hj (fun f => f)) k.size k.os k.tape k.output
  cases q : Nat.beq len 0 with
  | true => rw [q] at he; cases he
  | false =>
  rw [q, cond_false] at he
  have hlen : 0 < len := by
    rcases Nat.eq_zero_or_pos len with e | e
    · subst e; cases q
    · exact e
  cases q3 : (Nat.beq k 7 || (Nat.beq k 10 || Nat.beq k 12)) with
  | true =>
    rw [q3, cond_true] at he
    cases he
    simp only [Bool.or_eq_true, Nat.beq_eq] at q3
    refine Calls.mono (lay_n (k : Int) (by omega) l.blk (l.off + o) len _ x w hcell (by omega)) ?_
    rintro e w' ⟨rfl, kw⟩
    exact ⟨_, σ, rfl, step_conc (conc_nils.2 rfl) rfl, keep kw⟩
  | false =>
  rw [q3, cond_false] at he
  cases q4 : (Nat.beq k 2 || (Nat.beq k 5 || (Nat.beq k 6 || Nat.beq k 17))) with
  | true =>
    rw [q4, cond_true] at he
    cases he
    simp only [Bool.or_eq_true, Nat.beq_eq] at q4
    refine Calls.mono (lay_o (k : Int) (by omega) l.blk (l.off + o) len _ x w hcell (by omega)) ?_
    rintro e w' ⟨rfl, kw⟩
    exact ⟨_, σ, rfl, step_conc (conc_nils.2 rfl) rfl, keep kw⟩
  | false =>
  rw [q4, cond_false] at he
  cases q5 : (Nat.beq k 15 && (Nat.beq len 1 && (Nat.beq cap 1 && fl))) with
  | false => rw [q5] at he; cases he
  | true =>
  rw [q5, cond_true, fNat_eq] at he
  cases he
  simp only [Bool.and_eq_true, Nat.beq_eq] at q5
  obtain ⟨rfl, rfl, rfl, rfl⟩ := q5
  refine Calls.mono (lay_c l.blk (l.off + o) _ x w hcell (by omega)) ?_
  rintro e w' ⟨⟨o', rfl⟩, kw⟩
  have W1 := keep kw
  refine ⟨_, upd σ c ⟨l.blk, o', l.slack⟩, rfl, step_conc (conc_slice.2 ⟨_, upd_same _ _ _, ?_⟩) rfl, W1.trans (name_ok W1.rel _)⟩
  simp only [if_true, Nat.add_zero, Nat.zero_add]
  rw [show 1 + l.slack - 1 = l.slack by omega]
end Go.Proofs.YtelhdbkkigehgaaGreatDoor

