/- merges.Iter.each: the iterator over the cells that come, against whatever loop. -/
import Derived.Test.YtfhpjopdndnmgaaNext
import Derived.RangeFuncKeeps
import Derived.RangeFuncLeaves
import Derived.Shelf.Abstract
import Derived.OwnWalkIn
import Derived.TacticsInMore
import Derived.LoopNIn
import Derived.LoopIn
import Derived.Sort.LoopGhostIn
namespace Go.Proofs.Ytfhpjopdndnmgaa
open Go.RowKit
attribute [local go_sem] Oper.semAt_some

/-- How many cells are left in all. -/
def sumL (l : List Rw) : Nat := (l.map (fun r => r.xs.length)).sum
/-- The cells that come, one by one. -/
def drainL : Nat → List Rw → List Cel
  | 0, _ => []
  | f + 1, l => if l.length = 0 then [] else nth (nth l 0).xs 0 :: drainL f (nextL l)

theorem sumL_perm {a b : List Rw} (h : a.Perm b) : sumL a = sumL b := (h.map _).sum_nat
theorem sum_next {l : List Rw} (hl : l ≠ []) (hp : ∀ r ∈ l, 0 < r.xs.length) : sumL (nextL l) + 1 = sumL l := by
  have hpos := List.length_pos_iff.2 hl
  have h1 := sumL_perm (pop_perm ltR hl)
  have h0 : 0 < (nth l 0).xs.length := hp _ (nth_mem hpos)
  have e1 : sumL (nth l 0 :: popL ltR l) = (nth l 0).xs.length + sumL (popL ltR l) := by simp [sumL]
  unfold nextL
  split
  · rename_i h
    have h2 := sumL_perm (push_perm ltR (popL ltR l) (nth l 0).tl)
    have e2 : sumL ((nth l 0).tl :: popL ltR l) = (nth l 0).tl.xs.length + sumL (popL ltR l) := by simp [sumL]
    have e3 : (nth l 0).tl.xs.length = (nth l 0).xs.length - 1 := by show (nth l 0).xs.tail.length = _; rw [List.length_tail]
    omega
  · omega
theorem sum_nil {l : List Rw} (hp : ∀ r ∈ l, 0 < r.xs.length) (h : sumL l = 0) : l.length = 0 := by
  cases l with
  | nil => rfl
  | cons r t =>
    have := hp r (by simp)
    unfold sumL at h
    rw [List.map_cons, List.sum_cons] at h
    omega
theorem next_mem {l : List Rw} (hl : l ≠ []) {x : Rw} (hx : x ∈ nextL l) : x = (nth l 0).tl ∨ x ∈ l := by
  unfold nextL at hx
  split at hx
  · rcases List.mem_cons.1 ((push_perm ltR _ _).mem_iff.1 hx) with e | e
    · exact .inl e
    · exact .inr ((pop_perm ltR hl).mem_iff.1 (List.mem_cons_of_mem _ e))
  · exact .inr ((pop_perm ltR hl).mem_iff.1 (List.mem_cons_of_mem _ hx))

/-- The blocks of an iterator. -/
def OwnI (p : Nat) (v : Value) (l : List Rw) (b : Nat) : Prop := mine p v b ∨ ∃ r ∈ l, r.blk = b
theorem ItAt.keptS {S : Nat → Prop} {w w' : World} {base p : Nat} {v : Value} {l : List Rw} (h : ItAt w base p v l) (hK : Kept S w w') (hS : ∀ b, OwnI p v l b → ¬ S b) : ItAt w' base p v l :=
  ⟨h.heap.keptS hK (hS p (.inl (.inl rfl))) (fun b hb => hS b (.inl (.inr hb))) (fun r hr => hS _ (.inr ⟨r, hr, rfl⟩)), h.hp, h.above⟩
theorem ItAt.own_lt {w : World} {base p : Nat} {v : Value} {l : List Rw} (h : ItAt w base p v l) : ∀ b, OwnI p v l b → b < w.heap.size := by
  rintro b ((rfl | e) | ⟨r, hr, rfl⟩)
  · exact World.block_lt_of_cell? _ _ h.heap.cell
  · exact (h.heap.own.lt b e).2
  · exact World.block_lt_of_cell? _ _ (h.heap.good r hr).hd.1
theorem own_next {p : Nat} {v v' : Value} {l : List Rw} {n : Nat} (hl : l ≠ []) (ha : v'.ownBlock = v.ownBlock ∨ ∀ b, v'.ownBlock = some b → n ≤ b) : ∀ b, OwnI p v' (nextL l) b → OwnI p v l b ∨ n ≤ b := by
  rintro b ((rfl | e) | ⟨r, hr, rfl⟩)
  · exact .inl (.inl (.inl rfl))
  · rcases ha with h | h
    · exact .inl (.inl (.inr (h ▸ e)))
    · exact .inr (h b e)
  · rcases next_mem hl hr with rfl | h
    · exact .inl (.inr ⟨nth l 0, nth_mem (List.length_pos_iff.2 hl), rfl⟩)
    · exact .inl (.inr ⟨r, h, rfl⟩)

/-- What the caller of an iterator keeps between two rounds: J of the blocks T, of what has come, of the world. -/
structure Caller (l N : Nat) (m : Nat) (J : (Nat → Prop) → List Cel → World → Prop) : Prop where
  kept : ∀ T pre S W W', J T pre W → Kept S W W' → (∀ b, T b → ¬ S b) → J T pre W'
  lt : ∀ T pre W, J T pre W → ∀ b, T b → b < W.heap.size
  round : ∀ T pre x W, J T pre W → pre.length < N → YieldAt Fence.wide m Try.prog l #[x.val] W fun e W' => e = .returned (.bool true) ∧ ∃ T', J T' (pre ++ [x]) W' ∧ Kept T W W' ∧ ∀ b, b < W.heap.size → T' b → T b

theorem next_any {w : World} {base p : Nat} {v : Value} {l : List Rw} (h : ItAt w base p v l) (hb : base ≤ w.heap.size) :
    Calls Try.prog 19 #[.pointer (some ⟨p, 0, none⟩)] w fun e w' =>
      (l.length = 0 ∧ e = .returned (.tuple #[.agg #[.string ⟨#[]⟩, .int .i64 0, .string ⟨#[]⟩], .bool false]) ∧ Kept (fun _ => False) w w') ∨
      (0 < l.length ∧ e = .returned (.tuple #[.agg #[.string (nth (nth l 0).xs 0).k, .int .i64 (nth (nth l 0).xs 0).s, .string (nth (nth l 0).xs 0).v], .bool true]) ∧
        ∃ v', ItAt w' base p v' (nextL l) ∧ Kept (mine p v) w w' ∧ (v'.ownBlock = v.ownBlock ∨ ∀ b, v'.ownBlock = some b → w.heap.size ≤ b)) := by
  by_cases hl : l.length = 0
  · exact (next_none h.heap hl).mono fun e w' h => .inl ⟨hl, h⟩
  · exact (next_some h (by omega) hb).mono fun e w' h => .inr ⟨by omega, h⟩

/-- Where the iterator stands between two rounds: l is left, pre has come, b is the block of the loop's own variable. -/
structure EachAt (W : World) (T0 : Nat → Prop) (v0 : Value) (l0 : List Rw) (base bx p : Nat) (J : (Nat → Prop) → List Cel → World → Prop) (wr : World) (b : Nat) (l : List Rw) (v : Value) (T : Nat → Prop) (pre : List Cel) : Prop where
  j : J T pre wr
  it : ItAt wr base p v l
  dis : ∀ b, OwnI p v l b → ¬ T b
  bxc : wr.cell? ⟨bx, 0, none⟩ = some (.pointer (some ⟨p, 0, none⟩))
  bxT : ¬ T bx
  bxI : ¬ OwnI p v l bx
  bT : ¬ T b
  bI : ¬ OwnI p v l b
  bxl : bx < W.heap.size
  lt : b < wr.heap.size
  bs : base ≤ wr.heap.size
  kp : Kept (fun b => T0 b ∨ OwnI p v0 l0 b) W wr
  tb : ∀ b, b < W.heap.size → T b → T0 b
  ib : ∀ b, b < W.heap.size → OwnI p v l b → OwnI p v0 l0 b

section
variable {W wr w' : World} {T0 T T' : Nat → Prop} {v0 v v' : Value} {l0 l : List Rw} {base bx p b N k m : Nat} {J : (Nat → Prop) → List Cel → World → Prop} {pre pre' : List Cel}

theorem EachAt.round (h : EachAt W T0 v0 l0 base bx p J wr b l v T pre) (h1 : J T' pre' w') (h2 : Kept T wr w') (h3 : ∀ b, b < wr.heap.size → T' b → T b) : EachAt W T0 v0 l0 base bx p J w' b l v T' pre' where
  j := h1
  it := h.it.keptS h2 h.dis
  dis := fun c hc hT => h.dis c hc (h3 c (h.it.own_lt c hc) hT)
  bxc := h2.cell h.bxc h.bxT
  bxT := fun hT => h.bxT (h3 _ (World.block_lt_of_cell? _ _ h.bxc) hT)
  bxI := h.bxI
  bT := fun hT => h.bT (h3 _ h.lt hT)
  bI := h.bI
  bxl := h.bxl
  lt := Nat.lt_of_lt_of_le h.lt h2.size
  bs := Nat.le_trans h.bs h2.size
  kp := h.kp.trans h2 (fun _ _ e => e) (fun c hc e => .inl (h.tb c hc e))
  tb := fun c hc e => h.tb c hc (h3 c (Nat.lt_of_lt_of_le hc h.kp.size) e)
  ib := h.ib

theorem EachAt.fresh (hJ : Caller k N m J) (h : EachAt W T0 v0 l0 base bx p J wr b l v T pre) (o : Obj) : EachAt W T0 v0 l0 base bx p J (wr.alloc o) wr.heap.size l v T pre where
  j := hJ.kept T pre (fun _ => False) wr _ h.j ((Kept.refl _ _).alloc _) (fun _ _ f => f)
  it := h.it.kept ((Kept.refl _ _).alloc _)
  dis := h.dis
  bxc := (Kept.alloc (Kept.refl (fun _ => False) wr) o).cell h.bxc (fun f => f)
  bxT := h.bxT
  bxI := h.bxI
  bT := fun e => Nat.lt_irrefl _ (hJ.lt T pre wr h.j _ e)
  bI := fun e => Nat.lt_irrefl _ (h.it.own_lt _ e)
  bxl := h.bxl
  lt := by simp
  bs := Nat.le_trans h.bs (by simp)
  kp := h.kp.alloc _
  tb := h.tb
  ib := h.ib

theorem EachAt.turned {S : Nat → Prop} (hJ : Caller k N m J) (h : EachAt W T0 v0 l0 base bx p J wr b l v T pre) (hK : Kept S wr w') (hS : ∀ c, S c → c = b) (hge : W.heap.size ≤ b) : EachAt W T0 v0 l0 base bx p J w' b l v T pre where
  j := hJ.kept T pre S wr _ h.j hK (fun c hc hs => h.bT (hS c hs ▸ hc))
  it := h.it.keptS hK (fun c hc hs => h.bI (hS c hs ▸ hc))
  dis := h.dis
  bxc := hK.cell h.bxc (fun hs => by have e : bx = b := hS _ hs; have := h.bxl; omega)
  bxT := h.bxT
  bxI := h.bxI
  bT := h.bT
  bI := h.bI
  bxl := h.bxl
  lt := Nat.lt_of_lt_of_le h.lt hK.size
  bs := Nat.le_trans h.bs hK.size
  kp := h.kp.trans hK (fun _ _ e => e) (fun c hc e => by have := hS c e; omega)
  tb := h.tb
  ib := h.ib

theorem EachAt.next (hJ : Caller k N m J) (h : EachAt W T0 v0 l0 base bx p J wr b l v T pre) (hl : l ≠ []) (h1 : ItAt w' base p v' (nextL l)) (h2 : Kept (mine p v) wr w') (h3 : v'.ownBlock = v.ownBlock ∨ ∀ b, v'.ownBlock = some b → wr.heap.size ≤ b) :
    EachAt W T0 v0 l0 base bx p J w' b (nextL l) v' T pre where
  j := hJ.kept T pre _ wr _ h.j h2 (fun c hc hm => h.dis c (.inl hm) hc)
  it := h1
  dis := fun c hc hT => by
    rcases own_next hl h3 c hc with e | e
    · exact h.dis c e hT
    · have := hJ.lt T pre wr h.j c hT; omega
  bxc := h2.cell h.bxc (fun e => h.bxI (.inl e))
  bxT := h.bxT
  bxI := fun hc => by
    rcases own_next hl h3 _ hc with e | e
    · exact h.bxI e
    · have := World.block_lt_of_cell? _ _ h.bxc; simp only at this; omega
  bT := h.bT
  bI := fun hc => by
    rcases own_next hl h3 _ hc with e | e
    · exact h.bI e
    · have := h.lt; omega
  bxl := h.bxl
  lt := Nat.lt_of_lt_of_le h.lt h2.size
  bs := Nat.le_trans h.bs h2.size
  kp := h.kp.trans h2 (fun _ _ e => e) (fun c hc e => .inr (h.ib c hc (.inl e)))
  tb := h.tb
  ib := fun c hc hI => by
    rcases own_next hl h3 c hI with e | e
    · exact h.ib c hc e
    · have := h.kp.size; omega
end

theorem drain_step {l : List Rw} (hl : l ≠ []) (hp : ∀ r ∈ l, 0 < r.xs.length) : drainL (sumL l) l = nth (nth l 0).xs 0 :: drainL (sumL (nextL l)) (nextL l) := by
  rw [← sum_next hl hp, drainL, if_neg (fun e => hl (List.eq_nil_of_length_eq_zero e))]
theorem drain_nil {l : List Rw} (n : Nat) (hl : l.length = 0) : drainL n l = [] := by
  cases n with
  | zero => rfl
  | succ n => rw [drainL, if_pos hl]

/-- Three cells of a block of the loop's own. -/
def Three (w : World) (b : Nat) (x : Cel) : Prop := w.cell? ⟨b, 0, none⟩ = some (.string x.k) ∧ w.cell? ⟨b, 1, none⟩ = some (.int .i64 x.s) ∧ w.cell? ⟨b, 2, none⟩ = some (.string x.v) ∧ ∀ j, w.frozen? ⟨b, j, none⟩ = false
theorem Three.kept {S : Nat → Prop} {w w' : World} {b : Nat} {x : Cel} (h : Three w b x) (hK : Kept S w w') (hS : ¬ S b) : Three w' b x := hK.cells3 hS h.1 h.2.1 h.2.2.1 h.2.2.2
theorem Three.new (w : World) (x : Cel) : Three (w.alloc (.cells #[.string x.k, .int .i64 x.s, .string x.v] 36)) w.heap.size x := by
  obtain ⟨h0, h1, h2, h3, _⟩ := (Kept.refl (fun _ => False) (w.alloc (.cells #[.string x.k, .int .i64 x.s, .string x.v] 36))).fresh3 (fun f => f)
  exact ⟨h0, h1, h2, h3⟩
theorem Three.set {w : World} {b : Nat} {x : Cel} (h : Three w b x) (y : Cel) : Three (((w.setCell ⟨b, 0, none⟩ (.string y.k)).setCell ⟨b, 1, none⟩ (.int .i64 y.s)).setCell ⟨b, 2, none⟩ (.string y.v)) b y := by
  obtain ⟨h0, h1, h2, h3⟩ := h
  refine ⟨by simp [go_sem, h0], by simp [go_sem, h1], by simp [go_sem, h2], fun j => by simp [h3 j]⟩
def zeroC : Cel := ⟨⟨#[]⟩, 0, ⟨#[]⟩⟩
theorem kept_three (w : World) (b : Nat) (y : Cel) : Kept (fun c => b = c) w (((w.setCell ⟨b, 0, none⟩ (.string y.k)).setCell ⟨b, 1, none⟩ (.int .i64 y.s)).setCell ⟨b, 2, none⟩ (.string y.v)) :=
  Kept.setAt (fun _ => rfl) (Kept.setAt (fun _ => rfl) (Kept.setAt (fun _ => rfl) (Kept.refl _ w)))

set_option maxRecDepth 100000 in
set_option maxHeartbeats 4000000 in
theorem each_in (n : Nat) (hn : 1 ≤ n) (k bx base p : Nat) (l : List Rw) (v : Value) (J : (Nat → Prop) → List Cel → World → Prop) (hJ : Caller k (sumL l) (n - 1) J) (T : Nat → Prop) (W : World)
    (h0 : J T [] W) (hI : ItAt W base p v l) (hb : base ≤ W.heap.size) (hbx : W.cell? ⟨bx, 0, none⟩ = some (.pointer (some ⟨p, 0, none⟩))) (hbT : ¬ T bx) (hbI : ¬ OwnI p v l bx) (hd : ∀ b, OwnI p v l b → ¬ T b) :
    CallsIn Fence.wide n Try.prog 35 #[.func (.yield k) #[] #[], .pointer (some ⟨bx, 0, none⟩)] W fun e W' => (∃ u, e = .returned u) ∧
      ∃ T', J T' (drainL (sumL l) l) W' ∧ Kept (fun b => T b ∨ OwnI p v l b) W W' ∧ ∀ b, b < W.heap.size → T' b → T b := by
  have hbxl := World.block_lt_of_cell? _ _ hbx
  simp only at hbxl
  have E0 := Lib.hid (EachAt.mk (W := W) (T0 := T) (v0 := v) (l0 := l) (wr := W) (b := bx) h0 hI hd hbx hbT hbI hbT hbI hbxl hbxl hb (Kept.refl _ W) (fun _ _ h => h) (fun _ _ h => h))
  have hpos : ∀ r ∈ l, 0 < r.xs.length := fun r hr => (hI.heap.good r hr).ne
  obtain ⟨N, hN⟩ : ∃ N, sumL l = N := ⟨_, rfl⟩
  obtain ⟨tot, htot⟩ : ∃ t, drainL (sumL l) l = t := ⟨_, rfl⟩
  rw [htot]
  have hJ' := hJ
  rw [hN] at hJ'
  have NN := Lib.hid hN; have TOT := Lib.hid htot; have CJ := Lib.hid hJ'; have PO := Lib.hid hpos; have IT := Lib.hid hI
  clear h0 hI hbT hbI hd hN htot hJ hJ' hpos
  refine callsIn_of_wp Try.func35 rfl trivial ?_ rfl
  simp only [Try.ntmps35, List.size_toArray, List.length_cons, List.length_nil, Nat.reduceAdd, Nat.reduceSub, Array.replicate_succ, Array.replicate_zero, List.push_toArray, List.append_toArray, List.nil_append, List.cons_append]
  gi_wp2_with fail
  refine ⟨trivial, (callsIn_wide.2 (next_any IT.out hb)).mono ?_⟩
  -- what both ways come to, as the loop begins
  have hstart : ∀ w1 : World, ∀ x : Cel, ∀ l1 v1, EachAt W T v l base bx p J w1 bx l1 v1 T [] → EachAt W T v l base bx p J (w1.alloc (.cells #[.string x.k, .int .i64 x.s, .string x.v] 36)) w1.heap.size l1 v1 T [] ∧ Three (w1.alloc (.cells #[.string x.k, .int .i64 x.s, .string x.v] 36)) w1.heap.size x ∧ W.heap.size ≤ w1.heap.size :=
    fun w1 x l1 v1 h => ⟨h.fresh CJ.out _, Three.new _ _, h.kp.size⟩
  have HS := Lib.hid hstart; clear hstart
  rintro e w1 (⟨hl, rfl, K1⟩ | ⟨hl, rfl, v1, h1, k1, a1⟩)
  · have E1 := Lib.hid (EachAt.mk (W := W) (T0 := T) (v0 := v) (l0 := l) (J := J) (wr := w1) (b := bx) (CJ.out.kept T [] _ W w1 E0.out.j K1 (fun _ _ f => f)) (IT.out.kept K1) E0.out.dis (K1.cell hbx (fun f => f)) E0.out.bxT E0.out.bxI E0.out.bxT E0.out.bxI hbxl (Nat.lt_of_lt_of_le hbxl K1.size) (Nat.le_trans hb K1.size) (K1.mono (fun _ _ f => f.elim)) (fun _ _ h => h) (fun _ _ h => h))
    have E2 := Lib.hid (HS.out w1 zeroC l v E1.out)
    have ht : ([] : List Cel) = tot := by rw [← TOT.out, drain_nil _ hl]
    have HT := Lib.hid ht
    clear K1 hl ht hbx
    gi_wp2
    gi_loopg [3, 4] 0 (fun _ _ t4 wr => t4 = .bool false ∧ wr = w1.alloc (.cells #[.string ⟨#[]⟩, .int .i64 0, .string ⟨#[]⟩] 36))
    case atStart => exact ⟨rfl, rfl⟩
    case round =>
      obtain ⟨rfl, rfl⟩ := hrel
      gi_wp2
      refine ⟨fun _ h => (by cases h), ?_⟩
      gi_wp2
      go_end0
      exact ⟨⟨_, rfl⟩, T, by rw [← HT.out]; exact E2.out.1.j, E2.out.1.kp, E2.out.1.tb⟩
  · have hne : l ≠ [] := fun e => by rw [e] at hl; simp at hl
    have E1 := Lib.hid (E0.out.next CJ.out hne h1 k1 a1)
    obtain ⟨x, hx⟩ : ∃ x, nth (nth l 0).xs 0 = x := ⟨_, rfl⟩
    have hdr := drain_step hne PO.out
    rw [TOT.out, hx] at hdr
    have hsum := sum_next hne PO.out
    rw [NN.out] at hsum
    have E2 := Lib.hid (HS.out w1 x (nextL l) v1 E1.out)
    have DR := Lib.hid hdr; have SU := Lib.hid hsum
    rw [hx]
    clear h1 k1 a1 hne hx hdr hsum hbx
    gi_wp2
    gi_loopg [3, 4] N (fun g t3 t4 wr => ∃ b3 l1 v1 T1 pre, t3 = .pointer (some ⟨b3, 0, none⟩) ∧ W.heap.size ≤ b3 ∧ EachAt W T v l base bx p J wr b3 l1 v1 T1 pre ∧
      ((t4 = .bool true ∧ ∃ x, Three wr b3 x ∧ g = sumL l1 + 1 ∧ pre ++ x :: drainL (sumL l1) l1 = tot ∧ pre.length + g = N) ∨ (t4 = .bool false ∧ pre = tot)))
    case atStart => exact ⟨_, _, _, _, _, rfl, E2.out.2.2, E2.out.1, .inl ⟨rfl, x, E2.out.2.1, SU.out.symm, DR.out.symm, by simp⟩⟩
    case round =>
      obtain ⟨b3, l1, v2, T1, pre, rfl, hge, he, hor⟩ := hrel
      have EE := Lib.hid he; clear he
      rcases hor with ⟨rfl, y, h3, hg, hdr, hpl⟩ | ⟨rfl, hpre⟩
      · obtain ⟨c0, c1, c2, cf⟩ := h3
        have hbl := EE.out.lt
        obtain ⟨fn, tmps, assign, body, hy, hR⟩ := CJ.out.round T1 pre y wr EE.out.j (by omega)
        unfold Cel.val at hy
        have G := Lib.hid hg; have D := Lib.hid hdr; have PL := Lib.hid hpl
        clear hg hdr hpl cf E1 E2 DR SU
        gi_wp2
        refine hR.mono ?_
        rintro e W3 ⟨rfl, T2, j2, k2, t2⟩
        have E3 := Lib.hid (EE.out.round j2 k2 t2)
        have d0 := k2.cell c0 EE.out.bT
        have d1 := k2.cell c1 EE.out.bT
        have d2 := k2.cell c2 EE.out.bT
        have db := E3.out.lt
        clear hR hy c0 c1 c2 j2 k2 t2
        have E4 := Lib.hid (E3.out.fresh CJ.out (.cells #[.string y.k, .int .i64 y.s, .string y.v] 36))
        have T4 := Lib.hid (Three.new W3 y)
        have hbx3 := E3.out.bxc
        have hbxl3 := World.block_lt_of_cell? _ _ hbx3
        simp only at hbxl3
        have ge3 := E3.out.kp.size
        gi_wp2_with fail
        refine ⟨trivial, (callsIn_wide.2 (next_any E4.out.it E4.out.bs)).mono ?_⟩
        have hpos : ∀ r ∈ l1, 0 < r.xs.length := fun r hr => (EE.out.it.heap.good r hr).ne
        rintro e w5 (⟨hl1, rfl, K5⟩ | ⟨hl1, rfl, v5, h5, k5, a5⟩)
        · have E5 := Lib.hid (E4.out.turned CJ.out K5 (fun _ f => f.elim) ge3)
          have T5 := Lib.hid (T4.out.kept K5 (fun f => f))
          obtain ⟨q0, q1, q2, qf⟩ := T5.out
          obtain ⟨f0, f1, f2⟩ : w5.frozen? ⟨W3.heap.size, 0, none⟩ = false ∧ w5.frozen? ⟨W3.heap.size, 1, none⟩ = false ∧ w5.frozen? ⟨W3.heap.size, 2, none⟩ = false := ⟨qf 0, qf 1, qf 2⟩
          have hd0 : pre ++ [y] = tot := by rw [← D.out, drain_nil _ hl1]
          have HD := Lib.hid hd0
          clear K5 qf hl1 hd0 d0 d1 d2 hpos
          gi_wp2
          gi_roundg 0
          case measure => have := G.out; omega
          case rel => exact ⟨_, _, _, _, _, rfl, ge3, E5.out.turned CJ.out (kept_three w5 W3.heap.size zeroC) (fun _ e => e.symm) ge3, .inr ⟨rfl, HD.out⟩⟩
        · have hne1 : l1 ≠ [] := fun e => by rw [e] at hl1; simp at hl1
          have E5 := Lib.hid (E4.out.next CJ.out hne1 h5 k5 a5)
          have T5 := Lib.hid (T4.out.kept k5 (fun f => E4.out.bI (.inl f)))
          obtain ⟨q0, q1, q2, qf⟩ := T5.out
          obtain ⟨f0, f1, f2⟩ : w5.frozen? ⟨W3.heap.size, 0, none⟩ = false ∧ w5.frozen? ⟨W3.heap.size, 1, none⟩ = false ∧ w5.frozen? ⟨W3.heap.size, 2, none⟩ = false := ⟨qf 0, qf 1, qf 2⟩
          obtain ⟨z, hz⟩ : ∃ z, nth (nth l1 0).xs 0 = z := ⟨_, rfl⟩
          have hdr := drain_step hne1 hpos
          have hsum := sum_next hne1 hpos
          rw [hz] at hdr
          rw [hz]
          have D5 := Lib.hid hdr; have S5 := Lib.hid hsum
          clear k5 h5 a5 qf hl1 d0 d1 d2 hpos hdr hsum hne1 hz
          gi_wp2
          gi_roundg (gk - 1)
          case measure => have := G.out; omega
          case rel => exact ⟨_, _, _, _, _, rfl, ge3, E5.out.turned CJ.out (kept_three w5 W3.heap.size z) (fun _ e => e.symm) ge3, .inl ⟨rfl, z, T5.out.set z, by have := G.out; have := S5.out; omega, by rw [List.append_assoc]; show pre ++ y :: z :: _ = tot; rw [← D5.out]; exact D.out, by have := PL.out; have := G.out; rw [List.length_append]; simp; omega⟩⟩
      · have HP := Lib.hid hpre; clear hpre
        gi_wp2
        refine ⟨fun _ h => (by cases h), ?_⟩
        gi_wp2
        go_end0
        exact ⟨⟨_, rfl⟩, T1, by rw [← HP.out]; exact EE.out.j, EE.out.kp, EE.out.tb⟩
end Go.Proofs.Ytfhpjopdndnmgaa
