/- Last, Kit, Ops, Small, Chk, Maps, Tiny, Spans, Take, Find, Same -/
import Derived.OrdersHeld
import Derived.Deep.RegionHeld
import Derived.WalkKit
import Derived.WalkSpells
import Derived.WalkLawsBesides
import Derived.Deep.RegionLaw
import Derived.Deep.RegionHeld3
import Derived.BigQuiet
import Derived.Deep.AppendLies
import Derived.Deep.CutBlock
import Derived.Deep.DeepCutAuto
import Derived.Deep.Light
import Derived.Deep.LoopGhost
import Derived.Deep.QuietTactic
import Derived.Lib.Hide
import Derived.Test.YtibakmchgppndaaRows
import Derived.Laws.RangeString
import Derived.Maps.Own
import Derived.Maps.RangeRun
/- A region that draws its order and whose last operation waits for all others: an operation may be taken first that yields its value in every world that meets S, though S need not hold behind that last operation (a store to a cell that the region loads). -/
namespace Go

section
variable {P : Program} {ops : Array Oper} {Q : Exit → Act → World → Prop} {md : Region.Mode} {S : World → Prop} {f : Nat}

/-- Whatever order is picked from here on, and S holds behind every operation but the last, number f. -/
def wpAnyF (P : Program) (md : Region.Mode) (ops : Array Oper) (Q : Exit → Act → World → Prop) (S : World → Prop) (f : Nat) : Nat → Array Bool → Act → World → Prop
 | 0, listed, a, w => Region.ready md ops listed = [] ∧ Q .normal a w
 | fuel + 1, listed, a, w =>
  (Region.ready md ops listed = [] → Q .normal a w) ∧
  ∀ i ∈ Region.ready md ops listed, wpOp P ops Q i (fun a' w' => (i ≠ f → S w') ∧ wpAnyF P md ops Q S f fuel (listed.setIfInBounds i true) a' w') a w

theorem wpAny_of_last : ∀ (fuel : Nat) (listed : Array Bool) (a : Act) (w : World), wpAnyF P md ops Q S f fuel listed a w → wpAny P md ops Q fuel listed a w
 | 0, _, _, _, h => h
 | fuel + 1, _, _, _, h => ⟨h.1, fun i hi => wpOp_mono (fun a' w' h' => wpAny_of_last fuel _ a' w' h'.2) (h.2 i hi)⟩

/-- Number f waits for number i. -/
def Region.waits (md : Region.Mode) (ops : Array Oper) (f i : Nat) : Bool := match ops[f]? with
 | some o => o.after.any fun e => Region.binds md e && e.on == i
 | none => false

theorem not_ready_of_waits {i : Nat} {listed : Array Bool} (hw : Region.waits md ops f i = true) (hi : listed.getD i false = false) : f ∉ Region.ready md ops listed := fun hr => by
 obtain ⟨_, o, ho, hall⟩ := mem_ready.1 hr
 unfold Region.waits at hw
 rw [ho] at hw
 simp only [Array.any_eq_true'] at hw
 obtain ⟨e, he, hb⟩ := hw
 simp only [Bool.and_eq_true, beq_iff_eq] at hb
 have := hall e he hb.1
 rw [hb.2, hi] at this
 cases this

theorem wpAnyF_first {i : Nat} {oi : Oper} {v : Value} (hi : ops[i]? = some oi) (hsel : ∀ (j : Nat) (o : Oper) cs b, ops[j]? = some o → o.op ≠ .select cs b)
  (hQ : ∀ c a w, Q (.panic c) (a.put oi.dst v) w → Q (.panic c) a w) (hfi : Region.waits md ops f i = true) (hne : i ≠ f) :
  ∀ (fuel : Nat) (listed : Array Bool) (a : Act) (w : World),
   (∀ j oj, ops[j]? = some oj → j ≠ i → listed.getD j true = false → (∀ e ∈ oj.after, Region.binds md e = true → e.on ≠ i) → oi.apart ops oj = true) →
   i ∈ Region.ready md ops listed → YieldsIf P ops S oi v a → S w →
   wpAnyF P md ops Q S f fuel (listed.setIfInBounds i true) (a.put oi.dst v) w → wpAnyF P md ops Q S f (fuel + 1) listed a w := by
 intro fuel
 induction fuel with
 | zero =>
  intro listed a w _ hr hy hS H
  refine ⟨fun h => (by rw [h] at hr; cases hr), fun j hj => ?_⟩
  by_cases hji : j = i
  ·subst hji; exact hy.wpOp hi hS ⟨fun _ => hS, H⟩
  ·have := ready_mono hj hji
   rw [H.1] at this
   cases this
 | succ fuel ih =>
  intro listed a w hfree hr hy hS H
  refine ⟨fun h => (by rw [h] at hr; cases hr), fun j hj => ?_⟩
  by_cases hji : j = i
  ·subst hji; exact hy.wpOp hi hS ⟨fun _ => hS, H⟩
  ·have h1 := H.2 j (ready_mono hj hji)
   obtain ⟨hjun, oj, hoj, hall⟩ := mem_ready.1 hj
   have hiun : listed.getD i false = false := by
    have h0 := (mem_ready.1 hr).1
    rcases Nat.lt_or_ge i listed.size with h' | h'
    ·simp [h'] at h0 ⊢; exact h0
    ·simp [Array.getElem?_eq_none h'] 
   have hjf : j ≠ f := fun e => not_ready_of_waits hfi hiun (e ▸ hj)
   have hnot : ∀ e ∈ oj.after, Region.binds md e = true → e.on ≠ i := fun e he hb heq => by
    have h1 := hall e he hb
    rw [heq, hiun] at h1; cases h1
   have h2 := wpOp_putIf hoj (hfree j oj hoj hji hjun hnot) (fun cs b => hsel i oi cs b hi) (fun cs b => hsel j oj cs b hoj) hQ hy h1
   have hfree' : ∀ k ok, ops[k]? = some ok → k ≠ i → (listed.setIfInBounds j true).getD k true = false →
     (∀ e ∈ ok.after, Region.binds md e = true → e.on ≠ i) → oi.apart ops ok = true := fun k ok hk hki hun hno => by
    refine hfree k ok hk hki ?_ hno
    by_cases hjk : j = k
    ·subst hjk; exact hjun
    ·rw [getD_set_ne true hjk] at hun; exact hun
   refine wpOp_mono (fun a' w' h3 => ⟨fun _ => h3.2.1 hjf, ih (listed.setIfInBounds j true) a' w' hfree' (ready_mono hr (Ne.symm hji)) h3.1 (h3.2.1 hjf) ?_⟩) h2
   rw [Array.setIfInBounds_comm _ _ hji]
   exact h3.2.2

/-- Take number i first. -/
theorem wpAnyF_take {i : Nat} {oi : Oper} {v : Value} {fuel : Nat} {listed : Array Bool} {a : Act} {w : World} (hi : ops[i]? = some oi)
  (hs : Region.noSelect ops = true) (hf : Region.free md ops listed i = true) (hr : (Region.ready md ops listed).contains i = true) (hfi : Region.waits md ops f i = true) (hne : i ≠ f)
  (hQ : ∀ c a w, Q (.panic c) (a.put oi.dst v) w → Q (.panic c) a w) (hy : YieldsIf P ops S oi v a) (hS : S w)
  (h : wpAnyF P md ops Q S f fuel (listed.setIfInBounds i true) (a.put oi.dst v) w) : wpAnyF P md ops Q S f (fuel + 1) listed a w :=
 wpAnyF_first hi (Region.noSelect_spec hs) hQ hfi hne fuel listed a w (Region.free_spec hi hf) (by simpa using hr) hy hS h

/-- Of one that may come up next. -/
theorem wpAnyF_next {rs : List Nat} {fuel : Nat} {listed : Array Bool} {a : Act} {w : World} (hr : Region.ready md ops listed = rs) (hne : rs ≠ [])
  (h : ∀ i ∈ rs, wpOp P ops Q i (fun a' w' => (i ≠ f → S w') ∧ wpAnyF P md ops Q S f fuel (listed.setIfInBounds i true) a' w') a w) : wpAnyF P md ops Q S f (fuel + 1) listed a w :=
 ⟨fun h0 => absurd (hr ▸ h0) hne, hr ▸ h⟩
theorem wpAnyF_done {listed : Array Bool} {a : Act} {w : World} (hr : Region.ready md ops listed = []) (h : Q .normal a w) :
  ∀ fuel, wpAnyF P md ops Q S f fuel listed a w
 | 0 => ⟨hr, h⟩
 | _ + 1 => ⟨fun _ => h, by rw [hr]; simp⟩
theorem wp_region_last {id : Nat} {a : Act} {w : World} (f : Nat) (S : World → Prop) (hm : P.follows .mixedOrders = true)
  (h : wpAnyF P .any ops Q S f ops.size (Array.replicate ops.size false) a w.drew) : (Code.region id ops true).wp P Q a w :=
 wp_region_any hm (wpAny_of_last _ _ _ _ h)
end
end Go
/- Laws on worlds and regions that the walks of this seat share: a frame in which some blocks may turn, steps of a region taken by hand. Nothing of the program is run here. -/
namespace Go.Proofs.Ytibakmchgppndaa
open Go.RowKit


/-- Of what was there only blocks in S may have turned; the streams are as they were. -/
structure Kept (S : Nat → Prop) (w w' : World) : Prop where
 os : w'.os = w.os
 tape : w'.tape = w.tape
 output : w'.output = w.output
 size : w.heap.size ≤ w'.heap.size
 block : ∀ k, k < w.heap.size → ¬ S k → w'.heap[k]? = w.heap[k]?

theorem Kept.refl (S : Nat → Prop) (w : World) : Kept S w w := ⟨rfl, rfl, rfl, Nat.le_refl _, fun _ _ _ => rfl⟩

theorem Kept.trans {S S' T : Nat → Prop} {a b c : World} (h : Kept S a b) (k : Kept S' b c) (h1 : ∀ i, i < a.heap.size → S i → T i) (h2 : ∀ i, i < a.heap.size → S' i → T i) : Kept T a c :=
 ⟨k.os.trans h.os, k.tape.trans h.tape, k.output.trans h.output, Nat.le_trans h.size k.size, fun i hi hT =>
  (k.block i (Nat.lt_of_lt_of_le hi h.size) (fun e => hT (h2 i hi e))).trans (h.block i hi (fun e => hT (h1 i hi e)))⟩

theorem Kept.drew {S : Nat → Prop} {a w : World} (h : Kept S a w) : Kept S a w.drew := ⟨h.os, h.tape, h.output, h.size, h.block⟩

theorem Kept.alloc {S : Nat → Prop} {a w : World} (h : Kept S a w) (o : Obj) : Kept S a (w.alloc o) :=
 h.trans (S' := S) ⟨rfl, rfl, rfl, by simp, fun k hk _ => Below.heap_alloc _ _ _ hk⟩ (fun _ _ h => h) (fun _ _ h => h)

theorem Kept.setCell {S : Nat → Prop} {a w : World} (h : Kept S a w) {p : Addr} (hp : p.block < a.heap.size → S p.block) (u : Value) : Kept S a (w.setCell p u) :=
 h.trans (S' := fun k => k = p.block) ⟨rfl, rfl, rfl, by simp [World.setCell], fun k _ hk' => Below.heap_setCell _ _ _ _ hk'⟩ (fun _ _ h => h) (fun i hi e => by subst e; exact hp hi)

theorem Kept.grown {S : Nat → Prop} {a w w' : World} {row : Option Nat} (h : Kept S a w) (hg : w.grownBy w' row) (hr : ∀ k, row = some k → k < a.heap.size → S k) : Kept S a w' :=
 h.trans (S' := fun k => some k = row) ⟨hg.os, hg.tape, hg.output, hg.size, fun k hk hk' => hg.block k hk hk'⟩ (fun _ _ h => h) (fun i hi e => hr i e.symm hi)

theorem Kept.below {S : Nat → Prop} {a w : World} (h : Kept S a w) (hS : ∀ k, k < a.heap.size → ¬ S k) : Below a.heap.size a w :=
 ⟨h.os, h.tape, h.output, h.size, fun k hk => h.block k hk (hS k hk)⟩

theorem Kept.mono {S T : Nat → Prop} {a w : World} (h : Kept S a w) (hS : ∀ k, k < a.heap.size → S k → T k) : Kept T a w :=
 ⟨h.os, h.tape, h.output, h.size, fun k hk hT => h.block k hk (fun e => hT (hS k hk e))⟩

theorem Kept.setAt {S : Nat → Prop} {a w : World} {n j : Nat} {u : Value} (hp : n < a.heap.size → S n) (h : Kept S a w) : Kept S a (w.setCell ⟨n, j, none⟩ u) := h.setCell hp u

theorem Kept.cell {S : Nat → Prop} {w w' : World} (hK : Kept S w w') {a : Addr} {v : Value} (h : w.cell? a = some v) (hS : ¬ S a.block) : w'.cell? a = some v :=
 (World.cell?_of_block (w := w) (hK.block a.block (World.block_lt_of_cell? _ _ h) hS)).trans h

theorem Kept.frozen {S : Nat → Prop} {w w' : World} (hK : Kept S w w') {a : Addr} (h : w.frozen? a = false) (hl : a.block < w.heap.size) (hS : ¬ S a.block) : w'.frozen? a = false :=
 (World.frozen?_of_block (w := w) (hK.block a.block hl hS)).trans h

/-- Behind a call: a block of three cells that lay last when the call began. -/
theorem Kept.fresh3 {S : Nat → Prop} {w w1 : World} {x y z : Value} {t : TypeId} (hK : Kept S (w.alloc (.cells #[x, y, z] t)) w1) (hS : ¬ S w.heap.size) :
  w1.cell? ⟨w.heap.size, 0, none⟩ = some x ∧ w1.cell? ⟨w.heap.size, 1, none⟩ = some y ∧ w1.cell? ⟨w.heap.size, 2, none⟩ = some z ∧ (∀ j, w1.frozen? ⟨w.heap.size, j, none⟩ = false) ∧ w.heap.size < w1.heap.size := by
 refine ⟨hK.cell (by simp) hS, hK.cell (by simp) hS, hK.cell (by simp) hS, fun j => hK.frozen (by simp) (by simp) hS, ?_⟩
 have := hK.size; simp at this; omega

theorem Kept.cells3 {S : Nat → Prop} {w w' : World} {n : Nat} {x y z : Value} (hK : Kept S w w') (hS : ¬ S n) (h0 : w.cell? ⟨n, 0, none⟩ = some x) (h1 : w.cell? ⟨n, 1, none⟩ = some y) (h2 : w.cell? ⟨n, 2, none⟩ = some z) (hf : ∀ j, w.frozen? ⟨n, j, none⟩ = false) :
  w'.cell? ⟨n, 0, none⟩ = some x ∧ w'.cell? ⟨n, 1, none⟩ = some y ∧ w'.cell? ⟨n, 2, none⟩ = some z ∧ (∀ j, w'.frozen? ⟨n, j, none⟩ = false) :=
 have hl := World.block_lt_of_cell? _ _ h0
 ⟨hK.cell h0 hS, hK.cell h1 hS, hK.cell h2 hS, fun j => hK.frozen (hf j) hl hS⟩

theorem _root_.Go.RowKit.Below.step {B : Nat} {a W W' : World} {S : Nat → Prop} (h : Below B a W) (hB : B ≤ a.heap.size) (k : Kept S W W') (hS : ∀ i, S i → B ≤ i) : Below B a W' :=
 h.trans ⟨k.os, k.tape, k.output, k.size, fun i hi => k.block i (Nat.lt_of_lt_of_le hi (Nat.le_trans hB h.size)) (fun e => by have := hS i e; omega)⟩

theorem _root_.Go.RowKit.Below.alloc' {B : Nat} {a w : World} (h : Below B a w) (hB : B ≤ a.heap.size) (o : Obj) : Below B a (w.alloc o) := h.alloc (Nat.le_trans hB h.size) o

theorem _root_.Go.RowKit.Below.drewN' {B : Nat} {a w : World} (h : Below B a w) (n : Nat) : Below B a (w.drewN n) := ⟨h.os, h.tape, h.output, h.size, h.block⟩

theorem kept_drewN (w : World) (n : Nat) : Kept (fun _ => False) w (w.drewN n) := ⟨rfl, rfl, rfl, Nat.le_refl _, fun _ _ _ => rfl⟩

theorem ret_bool {x y : Bool} (h : x = y) : Ending.returned (.bool x) = .returned (.bool y) := by rw [h]

/-- The world behind a statement under a name, with what is known of it. -/
theorem then_gen {K : Act → World → Prop} {Q : Exit → Act → World → Prop} {a : Act} {W : World} (R : World → Prop) (h : R W) (k : ∀ w', R w' → Exit.then K Q .normal a w') : Exit.then K Q .normal a W := k W h

theorem wp_gen {P : Program} {c : Code} {Q : Exit → Act → World → Prop} {a : Act} {W : World} (R : World → Prop) (h : R W) (k : ∀ w', R w' → c.wp P Q a w') : c.wp P Q a W := k W h

/-- An operation whose value is known. -/
theorem wpList_value {P : Program} {ops : Array Oper} {Q : Exit → Act → World → Prop} {a : Act} {w : World} {rest : List Oper} {o : Oper} (hg : o.guard = none) (v : Value)
  (h : (execOp a.eval o).run P w = .ok (.value v) w) (k : wpList P ops Q rest (a.put o.dst v) w) : wpList P ops Q (o :: rest) a w :=
 wpList_plain hg fun K hK => by unfold Oper.wp; rw [h]; exact hK _ _ k

/-- append to an owned row, at one step of a region, from whatever slice. -/
theorem step_app {P : Program} {ops : Array Oper} {o : Oper} {a : Act} {w : World} {K : Act → World → Prop} {Q : Exit → Act → World → Prop} {E : Prop} (hgd : o.guard = none) (s x : Operand) (t : TypeId)
  (ho : o.op = .call { callee := .builtin .append, args := #[s, x], argTypes := #[t, t] })
  (base : Nat) (e : TypeId) (i : TypeInfo) (z : Value) (size bytes : Nat) (ht : P.underlying t = some (.slice e)) (hi : P.info? e = some i) (hz : i.zero = some z)
  (hsize : i.size = size) (hby : i.bytes = bytes) (hzs : z.cells.size = size) (hsz : 0 < size)
  (v : Value) (n : Nat) (xs : List Value) (hs : a.eval s = v) (hown : w.ownsRow base e size v n xs)
  (ad : Addr) (m c : Nat) (news : List Value) (hx : a.eval x = .slice (some ad) m c) (hl : news.length = m * size) (hnews : ∀ j u, news[j]? = some u → w.cell? (ad.add j) = some u) (h1 : ∀ u ∈ news, u.oneCell' = true)
  (h63 : n + m ≤ maxLen) (hbytes : (n + m) * bytes ≤ 140737488355328) (hbase : base ≤ w.heap.size)
  (h : ∀ ao' cap' w', w'.ownsRow base e size (.slice ao' (n + m) cap') (n + m) (xs ++ news) → w.grownBy w' v.ownBlock → ((Value.slice ao' (n + m) cap').ownBlock = v.ownBlock ∨ (Value.slice ao' (n + m) cap').ownBlock = some w.heap.size) → K (a.put o.dst (.slice ao' (n + m) cap')) w') :
  if Region.wanted o (yielded ops a.tmps) = true then Oper.wp P o a w K Q else E := by
 rw [if_pos (by simp [Region.wanted, hgd])]
 obtain ⟨v', w', hr, h2, h3, _, h5⟩ := run_append_own_at (P := P) w base t o.type e i z size bytes ht hi hz hsize hby hzs hsz v n xs hown ad m c news hl hnews h1 h63 hbytes hbase
 unfold Oper.wp execOp
 simp only [ho, resolve, invoke, builtin, Sem.run_bind, Sem.run_pure, Result.andThen_ok, List.map_toArray, List.map_cons, List.map_nil, hs, hx, hr]
 have hf : ∃ ao' cap', v' = .slice ao' (n + m) cap' := by
  rcases h2.2 with ⟨rfl, hn⟩ | ⟨g, cap, cur, rfl, _⟩
  ·exact ⟨none, 0, by rw [hn]⟩
  ·exact ⟨_, _, rfl⟩
 obtain ⟨ao', cap', rfl⟩ := hf
 exact h ao' cap' w' h2 h3 h5

/-- What an owned row's value looks like. -/
theorem row_form {w : World} {base : Nat} {e : TypeId} {size : Nat} {v : Value} {n : Nat} {xs : List Value} (h : w.ownsRow base e size v n xs) :
  (v = .slice none 0 0 ∧ n = 0) ∨ ∃ g cap, v = .slice (some ⟨g, 0, none⟩) n cap ∧ n ≤ cap ∧ base ≤ g ∧ g < w.heap.size ∧ ∀ j u, xs[j]? = some u → w.cell? ⟨g, j, none⟩ = some u := by
 rcases h.2 with h2 | ⟨g, cap, cur, rfl, hb, hgg, hle, hrest⟩
 ·exact .inl h2
 ·refine .inr ⟨g, cap, rfl, hle, hb, (Array.getElem?_eq_some_iff.1 hgg).1, fun j u hu => ?_⟩
  have := h.cells (g := g) rfl j u hu
  have hadd : (⟨g, 0, none⟩ : Addr).add j = ⟨g, j, none⟩ := by unfold Addr.add; split <;> simp_all
  rwa [hadd] at this

theorem heap_second (w : World) (o1 o2 : Obj) : ((w.alloc o1).alloc o2).heap[w.heap.size + 1]? = some o2 := by
 have e : (w.alloc o1).heap.size = w.heap.size + 1 := by simp
 have := heap_alloc_new (w.alloc o1) o2
 rwa [e] at this

theorem grown_kept {w w' : World} {row : Option Nat} (h : w.grownBy w' row) : Kept (fun k => row = some k) w w' :=
 ⟨h.os, h.tape, h.output, h.size, fun k hk hne => h.block k hk (fun e => hne e.symm)⟩

theorem heap_first (w : World) (o1 o2 : Obj) : ((w.alloc o1).alloc o2).heap[w.heap.size]? = some o1 := by
 have e : ((w.alloc o1).alloc o2).heap = (w.heap.push o1).push o2 := rfl
 rw [e]; simp [Array.getElem?_push]

theorem add_mid (b o j : Nat) : (⟨b, o, none⟩ : Addr).add j = ⟨b, o + j, none⟩ := by unfold Addr.add; split <;> simp_all

/-- Where a slice lies behind an append: in the elder one's block, or in a new one. -/
theorem own_ge {v v0 : Value} {W : World} {n k : Nat} (h : v.ownBlock = v0.ownBlock ∨ v.ownBlock = some W.heap.size) (h0 : ∀ k, v0.ownBlock = some k → n ≤ k) (hW : n ≤ W.heap.size) (hk : v.ownBlock = some k) : n ≤ k := by
 rcases h with h | h
 ·exact h0 k (h ▸ hk)
 ·rw [hk] at h; have := Option.some.inj h; omega

theorem own_fresh {n l c k : Nat} (h : (Value.slice (some ⟨n, 0, none⟩) l c).ownBlock = some k) : n ≤ k := by
 have := Option.some.inj h; exact Nat.le_of_eq this

theorem wpOp_law {P : Program} {ops : Array Oper} {Q : Exit → Act → World → Prop} {i : Nat} {o : Oper} {K : Act → World → Prop} {a : Act} {w : World} (ho : ops[i]? = some o)
  (h : ∀ K' : Act → World → Prop, (∀ a w, K a w → K' a w) → if Region.wanted o (yielded ops a.tmps) = true then Oper.wp P o a w K' Q else K' (a.put o.dst undef) w) : wpOp P ops Q i K a w := by
 have h1 := h K (fun _ _ h => h)
 unfold wpOp
 simp only [ho]
 split
 ·rename_i hw; rw [if_pos hw] at h1; exact .inl h1
 ·rename_i hw; rw [if_neg hw] at h1; exact h1

theorem next1 {P : Program} {ops : Array Oper} {Q : Exit → Act → World → Prop} {md : Region.Mode} {S : World → Prop} {f fuel : Nat} {listed : Array Bool} {a : Act} {w : World} (i : Nat) {o : Oper} (hr : Region.ready md ops listed = [i]) (ho : ops[i]? = some o)
  (h : ∀ K' : Act → World → Prop, (∀ a' w', ((i ≠ f → S w') ∧ wpAnyF P md ops Q S f fuel (listed.setIfInBounds i true) a' w') → K' a' w') → if Region.wanted o (yielded ops a.tmps) = true then Oper.wp P o a w K' Q else K' (a.put o.dst undef) w) : wpAnyF P md ops Q S f (fuel + 1) listed a w :=
 wpAnyF_next hr (by simp) fun j hj => by
  rw [List.mem_singleton] at hj; subst hj; exact wpOp_law ho h

theorem next2 {P : Program} {ops : Array Oper} {Q : Exit → Act → World → Prop} {md : Region.Mode} {S : World → Prop} {f fuel : Nat} {listed : Array Bool} {a : Act} {w : World} (i k : Nat) {o o2 : Oper} (hr : Region.ready md ops listed = [i, k]) (ho : ops[i]? = some o) (ho2 : ops[k]? = some o2)
  (h : ∀ K' : Act → World → Prop, (∀ a' w', ((i ≠ f → S w') ∧ wpAnyF P md ops Q S f fuel (listed.setIfInBounds i true) a' w') → K' a' w') → if Region.wanted o (yielded ops a.tmps) = true then Oper.wp P o a w K' Q else K' (a.put o.dst undef) w)
  (h2 : ∀ K' : Act → World → Prop, (∀ a' w', ((k ≠ f → S w') ∧ wpAnyF P md ops Q S f fuel (listed.setIfInBounds k true) a' w') → K' a' w') → if Region.wanted o2 (yielded ops a.tmps) = true then Oper.wp P o2 a w K' Q else K' (a.put o2.dst undef) w) : wpAnyF P md ops Q S f (fuel + 1) listed a w :=
 wpAnyF_next hr (by simp) fun j hj => by
  simp only [List.mem_cons, List.not_mem_nil, or_false] at hj
  rcases hj with rfl | rfl
  ·exact wpOp_law ho h
  ·exact wpOp_law ho2 h2

end Go.Proofs.Ytibakmchgppndaa

namespace Go
theorem z0 {a : Act} {v : Value} : a.put none v = a := rfl
theorem z1 {a : Act} {d : Tmp} {v : Value} : a.put (some d) v = { a with tmps := a.tmps.setIfInBounds d v } := rfl
theorem z2 {α : Type} (l : List α) (i : Nat) (a : α) : l.toArray.setIfInBounds i a = (l.set i a).toArray := List.setIfInBounds_toArray l i a
theorem z3 {α : Type} {x : α} {xs : List α} {i : Nat} {a : α} : (x :: xs).set (i + 1) a = x :: xs.set i a := rfl
theorem z4 {α : Type} {x : α} {xs : List α} {a : α} : (x :: xs).set 0 a = a :: xs := rfl
section
variable {P : Program} {ops : Array Oper} {Q : Exit → Act → World → Prop} {md : Region.Mode} {S : World → Prop} {f : Nat} {oi : Oper} {v : Value} {fuel : Nat} {listed : Array Bool} {a : Act} {w : World}
theorem tH (i : Nat) (hi : ops[i]? = some oi) (hy : ∀ w, S w → (execOp a.eval oi).run P w = .ok (.value v) w) (hS : S w)
  (h : wpAnyH P md ops Q S fuel (listed.setIfInBounds i true) (a.put oi.dst v) w) (hs : Region.noSelect ops = true := by kernel_rfl) (hf : Region.free md ops listed i = true := by kernel_rfl)
  (hr : (Region.ready md ops listed).contains i = true := by kernel_rfl) (hQ : ∀ c a w, Q (.panic c) (a.put oi.dst v) w → Q (.panic c) a w := by exact fun _ _ _ h => h)
  (hw : Region.wanted oi (yielded ops a.tmps) = true := by rfl) : wpAnyH P md ops Q S (fuel + 1) listed a w := wpAnyH_take hi hs hf hr hQ (Or.inl ⟨hw, hy⟩) hS h
theorem tW (i : Nat) (hi : ops[i]? = some oi) (hS : S w)
  (h : wpAnyH P md ops Q S fuel (listed.setIfInBounds i true) (a.put oi.dst v) w) (hs : Region.noSelect ops = true := by kernel_rfl) (hf : Region.free md ops listed i = true := by kernel_rfl)
  (hr : (Region.ready md ops listed).contains i = true := by kernel_rfl) (hQ : ∀ c a w, Q (.panic c) (a.put oi.dst v) w → Q (.panic c) a w := by exact fun _ _ _ h => h)
  (hw : Region.wanted oi (yielded ops a.tmps) = true := by rfl) (hy : ∀ w, S w → (execOp a.eval oi).run P w = .ok (.value v) w := by (intro w hSw; (try dsimp only at hSw); go_simp; all_goals (with_reducible rfl))) : wpAnyH P md ops Q S (fuel + 1) listed a w := wpAnyH_take hi hs hf hr hQ (Or.inl ⟨hw, hy⟩) hS h
theorem tU (i : Nat) (hi : ops[i]? = some oi) (hS : S w)
  (h : wpAnyH P md ops Q S fuel (listed.setIfInBounds i true) (a.put oi.dst undef) w) (hs : Region.noSelect ops = true := by kernel_rfl) (hf : Region.free md ops listed i = true := by kernel_rfl)
  (hr : (Region.ready md ops listed).contains i = true := by kernel_rfl) (hQ : ∀ c a w, Q (.panic c) (a.put oi.dst undef) w → Q (.panic c) a w := by exact fun _ _ _ h => h)
  (hw : Region.wanted oi (yielded ops a.tmps) = false := by rfl) : wpAnyH P md ops Q S (fuel + 1) listed a w := wpAnyH_take hi hs hf hr hQ (Or.inr ⟨hw, rfl⟩) hS h
theorem tA (i : Nat) (hi : ops[i]? = some oi) (hy : ∀ w, (execOp a.eval oi).run P w = .ok (.value v) w)
  (h : wpAny P md ops Q fuel (listed.setIfInBounds i true) (a.put oi.dst v) w) (hs : Region.noSelect ops = true := by kernel_rfl) (hf : Region.free md ops listed i = true := by kernel_rfl)
  (hr : (Region.ready md ops listed).contains i = true := by kernel_rfl) (hQ : ∀ c a w, Q (.panic c) (a.put oi.dst v) w → Q (.panic c) a w := by exact fun _ _ _ h => h)
  (hw : Region.wanted oi (yielded ops a.tmps) = true := by rfl) : wpAny P md ops Q (fuel + 1) listed a w := wpAny_take hi hs hf hr hQ (Or.inl ⟨hw, hy⟩) h
theorem tF (i : Nat) (hi : ops[i]? = some oi) (hy : ∀ w, S w → (execOp a.eval oi).run P w = .ok (.value v) w) (hS : S w)
  (h : wpAnyF P md ops Q S f fuel (listed.setIfInBounds i true) (a.put oi.dst v) w) (hs : Region.noSelect ops = true := by kernel_rfl) (hf : Region.free md ops listed i = true := by kernel_rfl)
  (hr : (Region.ready md ops listed).contains i = true := by kernel_rfl) (hfi : Region.waits md ops f i = true := by kernel_rfl) (hne : i ≠ f := by decide) (hQ : ∀ c a w, Q (.panic c) (a.put oi.dst v) w → Q (.panic c) a w := by exact fun _ _ _ h => h)
  (hw : Region.wanted oi (yielded ops a.tmps) = true := by rfl) : wpAnyF P md ops Q S f (fuel + 1) listed a w := wpAnyF_take hi hs hf hr hfi hne hQ (Or.inl ⟨hw, hy⟩) hS h
end
end Go
/- Which operation stands at a place of a region that is written out. -/
namespace Go.Proofs.Ytibakmchgppndaa

theorem opAt0 {a : Oper} {l : List Oper} : (a::l).toArray[0]? = some a := rfl
theorem opAt1 {a b : Oper} {l : List Oper} : (a::b::l).toArray[1]? = some b := rfl
theorem opAt2 {a b c : Oper} {l : List Oper} : (a::b::c::l).toArray[2]? = some c := rfl
theorem opAt3 {a b c d : Oper} {l : List Oper} : (a::b::c::d::l).toArray[3]? = some d := rfl
theorem opAt4 {a b c d e : Oper} {l : List Oper} : (a::b::c::d::e::l).toArray[4]? = some e := rfl
theorem opAt5 {a b c d e f : Oper} {l : List Oper} : (a::b::c::d::e::f::l).toArray[5]? = some f := rfl
theorem opAt6 {a b c d e f g : Oper} {l : List Oper} : (a::b::c::d::e::f::g::l).toArray[6]? = some g := rfl
theorem opAt7 {a b c d e f g h : Oper} {l : List Oper} : (a::b::c::d::e::f::g::h::l).toArray[7]? = some h := rfl
theorem opAt8 {a b c d e f g h i : Oper} {l : List Oper} : (a::b::c::d::e::f::g::h::i::l).toArray[8]? = some i := rfl
theorem opAt9 {a b c d e f g h i j : Oper} {l : List Oper} : (a::b::c::d::e::f::g::h::i::j::l).toArray[9]? = some j := rfl
theorem opAt10 {a b c d e f g h i j k : Oper} {l : List Oper} : (a::b::c::d::e::f::g::h::i::j::k::l).toArray[10]? = some k := rfl
theorem opAt11 {a b c d e f g h i j k m : Oper} {l : List Oper} : (a::b::c::d::e::f::g::h::i::j::k::m::l).toArray[11]? = some m := rfl
theorem opAt12 {a b c d e f g h i j k m n : Oper} {l : List Oper} : (a::b::c::d::e::f::g::h::i::j::k::m::n::l).toArray[12]? = some n := rfl
theorem opAt13 {a b c d e f g h i j k m n o : Oper} {l : List Oper} : (a::b::c::d::e::f::g::h::i::j::k::m::n::o::l).toArray[13]? = some o := rfl
theorem opAt14 {a b c d e f g h i j k m n o p : Oper} {l : List Oper} : (a::b::c::d::e::f::g::h::i::j::k::m::n::o::p::l).toArray[14]? = some p := rfl
theorem opAt15 {a b c d e f g h i j k m n o p q : Oper} {l : List Oper} : (a::b::c::d::e::f::g::h::i::j::k::m::n::o::p::q::l).toArray[15]? = some q := rfl
theorem opAt16 {a b c d e f g h i j k m n o p q r : Oper} {l : List Oper} : (a::b::c::d::e::f::g::h::i::j::k::m::n::o::p::q::r::l).toArray[16]? = some r := rfl
theorem opAt17 {a b c d e f g h i j k m n o p q r s : Oper} {l : List Oper} : (a::b::c::d::e::f::g::h::i::j::k::m::n::o::p::q::r::s::l).toArray[17]? = some s := rfl
theorem opAt18 {a b c d e f g h i j k m n o p q r s t : Oper} {l : List Oper} : (a::b::c::d::e::f::g::h::i::j::k::m::n::o::p::q::r::s::t::l).toArray[18]? = some t := rfl
theorem opAt19 {a b c d e f g h i j k m n o p q r s t u : Oper} {l : List Oper} : (a::b::c::d::e::f::g::h::i::j::k::m::n::o::p::q::r::s::t::u::l).toArray[19]? = some u := rfl
theorem opAt20 {a b c d e f g h i j k m n o p q r s t u v : Oper} {l : List Oper} : (a::b::c::d::e::f::g::h::i::j::k::m::n::o::p::q::r::s::t::u::v::l).toArray[20]? = some v := rfl
theorem opAt21 {a b c d e f g h i j k m n o p q r s t u v w : Oper} {l : List Oper} : (a::b::c::d::e::f::g::h::i::j::k::m::n::o::p::q::r::s::t::u::v::w::l).toArray[21]? = some w := rfl
theorem opAt22 {a b c d e f g h i j k m n o p q r s t u v w x : Oper} {l : List Oper} : (a::b::c::d::e::f::g::h::i::j::k::m::n::o::p::q::r::s::t::u::v::w::x::l).toArray[22]? = some x := rfl
theorem opAt23 {a b c d e f g h i j k m n o p q r s t u v w x y : Oper} {l : List Oper} : (a::b::c::d::e::f::g::h::i::j::k::m::n::o::p::q::r::s::t::u::v::w::x::y::l).toArray[23]? = some y := rfl
theorem opAt24 {a b c d e f g h i j k m n o p q r s t u v w x y z : Oper} {l : List Oper} : (a::b::c::d::e::f::g::h::i::j::k::m::n::o::p::q::r::s::t::u::v::w::x::y::z::l).toArray[24]? = some z := rfl
theorem opAt25 {a b c d e f g h i j k m n o p q r s t u v w x y z A : Oper} {l : List Oper} : (a::b::c::d::e::f::g::h::i::j::k::m::n::o::p::q::r::s::t::u::v::w::x::y::z::A::l).toArray[25]? = some A := rfl
theorem opAt26 {a b c d e f g h i j k m n o p q r s t u v w x y z A B : Oper} {l : List Oper} : (a::b::c::d::e::f::g::h::i::j::k::m::n::o::p::q::r::s::t::u::v::w::x::y::z::A::B::l).toArray[26]? = some B := rfl
theorem opAt27 {a b c d e f g h i j k m n o p q r s t u v w x y z A B C : Oper} {l : List Oper} : (a::b::c::d::e::f::g::h::i::j::k::m::n::o::p::q::r::s::t::u::v::w::x::y::z::A::B::C::l).toArray[27]? = some C := rfl
theorem opAt28 {a b c d e f g h i j k m n o p q r s t u v w x y z A B C D : Oper} {l : List Oper} : (a::b::c::d::e::f::g::h::i::j::k::m::n::o::p::q::r::s::t::u::v::w::x::y::z::A::B::C::D::l).toArray[28]? = some D := rfl
theorem opAt29 {a b c d e f g h i j k m n o p q r s t u v w x y z A B C D E : Oper} {l : List Oper} : (a::b::c::d::e::f::g::h::i::j::k::m::n::o::p::q::r::s::t::u::v::w::x::y::z::A::B::C::D::E::l).toArray[29]? = some E := rfl
theorem opAt30 {a b c d e f g h i j k m n o p q r s t u v w x y z A B C D E F : Oper} {l : List Oper} : (a::b::c::d::e::f::g::h::i::j::k::m::n::o::p::q::r::s::t::u::v::w::x::y::z::A::B::C::D::E::F::l).toArray[30]? = some F := rfl
theorem opAt31 {a b c d e f g h i j k m n o p q r s t u v w x y z A B C D E F G : Oper} {l : List Oper} : (a::b::c::d::e::f::g::h::i::j::k::m::n::o::p::q::r::s::t::u::v::w::x::y::z::A::B::C::D::E::F::G::l).toArray[31]? = some G := rfl
theorem opAt32 {a b c d e f g h i j k m n o p q r s t u v w x y z A B C D E F G H : Oper} {l : List Oper} : (a::b::c::d::e::f::g::h::i::j::k::m::n::o::p::q::r::s::t::u::v::w::x::y::z::A::B::C::D::E::F::G::H::l).toArray[32]? = some H := rfl
theorem opAt33 {a b c d e f g h i j k m n o p q r s t u v w x y z A B C D E F G H I : Oper} {l : List Oper} : (a::b::c::d::e::f::g::h::i::j::k::m::n::o::p::q::r::s::t::u::v::w::x::y::z::A::B::C::D::E::F::G::H::I::l).toArray[33]? = some I := rfl
theorem opAt34 {a b c d e f g h i j k m n o p q r s t u v w x y z A B C D E F G H I J : Oper} {l : List Oper} : (a::b::c::d::e::f::g::h::i::j::k::m::n::o::p::q::r::s::t::u::v::w::x::y::z::A::B::C::D::E::F::G::H::I::J::l).toArray[34]? = some J := rfl
theorem opAt35 {a b c d e f g h i j k m n o p q r s t u v w x y z A B C D E F G H I J K : Oper} {l : List Oper} : (a::b::c::d::e::f::g::h::i::j::k::m::n::o::p::q::r::s::t::u::v::w::x::y::z::A::B::C::D::E::F::G::H::I::J::K::l).toArray[35]? = some K := rfl
theorem opAt36 {a b c d e f g h i j k m n o p q r s t u v w x y z A B C D E F G H I J K L : Oper} {l : List Oper} : (a::b::c::d::e::f::g::h::i::j::k::m::n::o::p::q::r::s::t::u::v::w::x::y::z::A::B::C::D::E::F::G::H::I::J::K::L::l).toArray[36]? = some L := rfl
theorem opAt37 {a b c d e f g h i j k m n o p q r s t u v w x y z A B C D E F G H I J K L M : Oper} {l : List Oper} : (a::b::c::d::e::f::g::h::i::j::k::m::n::o::p::q::r::s::t::u::v::w::x::y::z::A::B::C::D::E::F::G::H::I::J::K::L::M::l).toArray[37]? = some M := rfl
theorem opAt38 {a b c d e f g h i j k m n o p q r s t u v w x y z A B C D E F G H I J K L M N : Oper} {l : List Oper} : (a::b::c::d::e::f::g::h::i::j::k::m::n::o::p::q::r::s::t::u::v::w::x::y::z::A::B::C::D::E::F::G::H::I::J::K::L::M::N::l).toArray[38]? = some N := rfl
theorem opAt39 {a b c d e f g h i j k m n o p q r s t u v w x y z A B C D E F G H I J K L M N O : Oper} {l : List Oper} : (a::b::c::d::e::f::g::h::i::j::k::m::n::o::p::q::r::s::t::u::v::w::x::y::z::A::B::C::D::E::F::G::H::I::J::K::L::M::N::O::l).toArray[39]? = some O := rfl
theorem opAt40 {a b c d e f g h i j k m n o p q r s t u v w x y z A B C D E F G H I J K L M N O P : Oper} {l : List Oper} : (a::b::c::d::e::f::g::h::i::j::k::m::n::o::p::q::r::s::t::u::v::w::x::y::z::A::B::C::D::E::F::G::H::I::J::K::L::M::N::O::P::l).toArray[40]? = some P := rfl
theorem opAt41 {a b c d e f g h i j k m n o p q r s t u v w x y z A B C D E F G H I J K L M N O P Q : Oper} {l : List Oper} : (a::b::c::d::e::f::g::h::i::j::k::m::n::o::p::q::r::s::t::u::v::w::x::y::z::A::B::C::D::E::F::G::H::I::J::K::L::M::N::O::P::Q::l).toArray[41]? = some Q := rfl
theorem opAt42 {a b c d e f g h i j k m n o p q r s t u v w x y z A B C D E F G H I J K L M N O P Q R : Oper} {l : List Oper} : (a::b::c::d::e::f::g::h::i::j::k::m::n::o::p::q::r::s::t::u::v::w::x::y::z::A::B::C::D::E::F::G::H::I::J::K::L::M::N::O::P::Q::R::l).toArray[42]? = some R := rfl
theorem opAt43 {a b c d e f g h i j k m n o p q r s t u v w x y z A B C D E F G H I J K L M N O P Q R S : Oper} {l : List Oper} : (a::b::c::d::e::f::g::h::i::j::k::m::n::o::p::q::r::s::t::u::v::w::x::y::z::A::B::C::D::E::F::G::H::I::J::K::L::M::N::O::P::Q::R::S::l).toArray[43]? = some S := rfl
theorem opAt44 {a b c d e f g h i j k m n o p q r s t u v w x y z A B C D E F G H I J K L M N O P Q R S T : Oper} {l : List Oper} : (a::b::c::d::e::f::g::h::i::j::k::m::n::o::p::q::r::s::t::u::v::w::x::y::z::A::B::C::D::E::F::G::H::I::J::K::L::M::N::O::P::Q::R::S::T::l).toArray[44]? = some T := rfl
theorem opAt45 {a b c d e f g h i j k m n o p q r s t u v w x y z A B C D E F G H I J K L M N O P Q R S T U : Oper} {l : List Oper} : (a::b::c::d::e::f::g::h::i::j::k::m::n::o::p::q::r::s::t::u::v::w::x::y::z::A::B::C::D::E::F::G::H::I::J::K::L::M::N::O::P::Q::R::S::T::U::l).toArray[45]? = some U := rfl
theorem opAt46 {a b c d e f g h i j k m n o p q r s t u v w x y z A B C D E F G H I J K L M N O P Q R S T U V : Oper} {l : List Oper} : (a::b::c::d::e::f::g::h::i::j::k::m::n::o::p::q::r::s::t::u::v::w::x::y::z::A::B::C::D::E::F::G::H::I::J::K::L::M::N::O::P::Q::R::S::T::U::V::l).toArray[46]? = some V := rfl
theorem opAt47 {a b c d e f g h i j k m n o p q r s t u v w x y z A B C D E F G H I J K L M N O P Q R S T U V W : Oper} {l : List Oper} : (a::b::c::d::e::f::g::h::i::j::k::m::n::o::p::q::r::s::t::u::v::w::x::y::z::A::B::C::D::E::F::G::H::I::J::K::L::M::N::O::P::Q::R::S::T::U::V::W::l).toArray[47]? = some W := rfl
theorem opAt48 {a b c d e f g h i j k m n o p q r s t u v w x y z A B C D E F G H I J K L M N O P Q R S T U V W X : Oper} {l : List Oper} : (a::b::c::d::e::f::g::h::i::j::k::m::n::o::p::q::r::s::t::u::v::w::x::y::z::A::B::C::D::E::F::G::H::I::J::K::L::M::N::O::P::Q::R::S::T::U::V::W::X::l).toArray[48]? = some X := rfl
theorem opAt49 {a b c d e f g h i j k m n o p q r s t u v w x y z A B C D E F G H I J K L M N O P Q R S T U V W X Y : Oper} {l : List Oper} : (a::b::c::d::e::f::g::h::i::j::k::m::n::o::p::q::r::s::t::u::v::w::x::y::z::A::B::C::D::E::F::G::H::I::J::K::L::M::N::O::P::Q::R::S::T::U::V::W::X::Y::l).toArray[49]? = some Y := rfl
theorem opAt50 {a b c d e f g h i j k m n o p q r s t u v w x y z A B C D E F G H I J K L M N O P Q R S T U V W X Y Z : Oper} {l : List Oper} : (a::b::c::d::e::f::g::h::i::j::k::m::n::o::p::q::r::s::t::u::v::w::x::y::z::A::B::C::D::E::F::G::H::I::J::K::L::M::N::O::P::Q::R::S::T::U::V::W::X::Y::Z::l).toArray[50]? = some Z := rfl
theorem opAt51 {a b c d e f g h i j k m n o p q r s t u v w x y z A B C D E F G H I J K L M N O P Q R S T U V W X Y Z a1 : Oper} {l : List Oper} : (a::b::c::d::e::f::g::h::i::j::k::m::n::o::p::q::r::s::t::u::v::w::x::y::z::A::B::C::D::E::F::G::H::I::J::K::L::M::N::O::P::Q::R::S::T::U::V::W::X::Y::Z::a1::l).toArray[51]? = some a1 := rfl
theorem opAt52 {a b c d e f g h i j k m n o p q r s t u v w x y z A B C D E F G H I J K L M N O P Q R S T U V W X Y Z a1 b1 : Oper} {l : List Oper} : (a::b::c::d::e::f::g::h::i::j::k::m::n::o::p::q::r::s::t::u::v::w::x::y::z::A::B::C::D::E::F::G::H::I::J::K::L::M::N::O::P::Q::R::S::T::U::V::W::X::Y::Z::a1::b1::l).toArray[52]? = some b1 := rfl
theorem opAt53 {a b c d e f g h i j k m n o p q r s t u v w x y z A B C D E F G H I J K L M N O P Q R S T U V W X Y Z a1 b1 c1 : Oper} {l : List Oper} : (a::b::c::d::e::f::g::h::i::j::k::m::n::o::p::q::r::s::t::u::v::w::x::y::z::A::B::C::D::E::F::G::H::I::J::K::L::M::N::O::P::Q::R::S::T::U::V::W::X::Y::Z::a1::b1::c1::l).toArray[53]? = some c1 := rfl
theorem opAt54 {a b c d e f g h i j k m n o p q r s t u v w x y z A B C D E F G H I J K L M N O P Q R S T U V W X Y Z a1 b1 c1 d1 : Oper} {l : List Oper} : (a::b::c::d::e::f::g::h::i::j::k::m::n::o::p::q::r::s::t::u::v::w::x::y::z::A::B::C::D::E::F::G::H::I::J::K::L::M::N::O::P::Q::R::S::T::U::V::W::X::Y::Z::a1::b1::c1::d1::l).toArray[54]? = some d1 := rfl
theorem opAt55 {a b c d e f g h i j k m n o p q r s t u v w x y z A B C D E F G H I J K L M N O P Q R S T U V W X Y Z a1 b1 c1 d1 e1 : Oper} {l : List Oper} : (a::b::c::d::e::f::g::h::i::j::k::m::n::o::p::q::r::s::t::u::v::w::x::y::z::A::B::C::D::E::F::G::H::I::J::K::L::M::N::O::P::Q::R::S::T::U::V::W::X::Y::Z::a1::b1::c1::d1::e1::l).toArray[55]? = some e1 := rfl
theorem opAt56 {a b c d e f g h i j k m n o p q r s t u v w x y z A B C D E F G H I J K L M N O P Q R S T U V W X Y Z a1 b1 c1 d1 e1 f1 : Oper} {l : List Oper} : (a::b::c::d::e::f::g::h::i::j::k::m::n::o::p::q::r::s::t::u::v::w::x::y::z::A::B::C::D::E::F::G::H::I::J::K::L::M::N::O::P::Q::R::S::T::U::V::W::X::Y::Z::a1::b1::c1::d1::e1::f1::l).toArray[56]? = some f1 := rfl
theorem opAt57 {a b c d e f g h i j k m n o p q r s t u v w x y z A B C D E F G H I J K L M N O P Q R S T U V W X Y Z a1 b1 c1 d1 e1 f1 g1 : Oper} {l : List Oper} : (a::b::c::d::e::f::g::h::i::j::k::m::n::o::p::q::r::s::t::u::v::w::x::y::z::A::B::C::D::E::F::G::H::I::J::K::L::M::N::O::P::Q::R::S::T::U::V::W::X::Y::Z::a1::b1::c1::d1::e1::f1::g1::l).toArray[57]? = some g1 := rfl
theorem opAt58 {a b c d e f g h i j k m n o p q r s t u v w x y z A B C D E F G H I J K L M N O P Q R S T U V W X Y Z a1 b1 c1 d1 e1 f1 g1 h1 : Oper} {l : List Oper} : (a::b::c::d::e::f::g::h::i::j::k::m::n::o::p::q::r::s::t::u::v::w::x::y::z::A::B::C::D::E::F::G::H::I::J::K::L::M::N::O::P::Q::R::S::T::U::V::W::X::Y::Z::a1::b1::c1::d1::e1::f1::g1::h1::l).toArray[58]? = some h1 := rfl
theorem opAt59 {a b c d e f g h i j k m n o p q r s t u v w x y z A B C D E F G H I J K L M N O P Q R S T U V W X Y Z a1 b1 c1 d1 e1 f1 g1 h1 i1 : Oper} {l : List Oper} : (a::b::c::d::e::f::g::h::i::j::k::m::n::o::p::q::r::s::t::u::v::w::x::y::z::A::B::C::D::E::F::G::H::I::J::K::L::M::N::O::P::Q::R::S::T::U::V::W::X::Y::Z::a1::b1::c1::d1::e1::f1::g1::h1::i1::l).toArray[59]? = some i1 := rfl
theorem opAt60 {a b c d e f g h i j k m n o p q r s t u v w x y z A B C D E F G H I J K L M N O P Q R S T U V W X Y Z a1 b1 c1 d1 e1 f1 g1 h1 i1 j1 : Oper} {l : List Oper} : (a::b::c::d::e::f::g::h::i::j::k::m::n::o::p::q::r::s::t::u::v::w::x::y::z::A::B::C::D::E::F::G::H::I::J::K::L::M::N::O::P::Q::R::S::T::U::V::W::X::Y::Z::a1::b1::c1::d1::e1::f1::g1::h1::i1::j1::l).toArray[60]? = some j1 := rfl
theorem opAt61 {a b c d e f g h i j k m n o p q r s t u v w x y z A B C D E F G H I J K L M N O P Q R S T U V W X Y Z a1 b1 c1 d1 e1 f1 g1 h1 i1 j1 k1 : Oper} {l : List Oper} : (a::b::c::d::e::f::g::h::i::j::k::m::n::o::p::q::r::s::t::u::v::w::x::y::z::A::B::C::D::E::F::G::H::I::J::K::L::M::N::O::P::Q::R::S::T::U::V::W::X::Y::Z::a1::b1::c1::d1::e1::f1::g1::h1::i1::j1::k1::l).toArray[61]? = some k1 := rfl
theorem opAt62 {a b c d e f g h i j k m n o p q r s t u v w x y z A B C D E F G H I J K L M N O P Q R S T U V W X Y Z a1 b1 c1 d1 e1 f1 g1 h1 i1 j1 k1 m1 : Oper} {l : List Oper} : (a::b::c::d::e::f::g::h::i::j::k::m::n::o::p::q::r::s::t::u::v::w::x::y::z::A::B::C::D::E::F::G::H::I::J::K::L::M::N::O::P::Q::R::S::T::U::V::W::X::Y::Z::a1::b1::c1::d1::e1::f1::g1::h1::i1::j1::k1::m1::l).toArray[62]? = some m1 := rfl
theorem opAt63 {a b c d e f g h i j k m n o p q r s t u v w x y z A B C D E F G H I J K L M N O P Q R S T U V W X Y Z a1 b1 c1 d1 e1 f1 g1 h1 i1 j1 k1 m1 n1 : Oper} {l : List Oper} : (a::b::c::d::e::f::g::h::i::j::k::m::n::o::p::q::r::s::t::u::v::w::x::y::z::A::B::C::D::E::F::G::H::I::J::K::L::M::N::O::P::Q::R::S::T::U::V::W::X::Y::Z::a1::b1::c1::d1::e1::f1::g1::h1::i1::j1::k1::m1::n1::l).toArray[63]? = some n1 := rfl
theorem opAt64 {a b c d e f g h i j k m n o p q r s t u v w x y z A B C D E F G H I J K L M N O P Q R S T U V W X Y Z a1 b1 c1 d1 e1 f1 g1 h1 i1 j1 k1 m1 n1 o1 : Oper} {l : List Oper} : (a::b::c::d::e::f::g::h::i::j::k::m::n::o::p::q::r::s::t::u::v::w::x::y::z::A::B::C::D::E::F::G::H::I::J::K::L::M::N::O::P::Q::R::S::T::U::V::W::X::Y::Z::a1::b1::c1::d1::e1::f1::g1::h1::i1::j1::k1::m1::n1::o1::l).toArray[64]? = some o1 := rfl
theorem opAt65 {a b c d e f g h i j k m n o p q r s t u v w x y z A B C D E F G H I J K L M N O P Q R S T U V W X Y Z a1 b1 c1 d1 e1 f1 g1 h1 i1 j1 k1 m1 n1 o1 p1 : Oper} {l : List Oper} : (a::b::c::d::e::f::g::h::i::j::k::m::n::o::p::q::r::s::t::u::v::w::x::y::z::A::B::C::D::E::F::G::H::I::J::K::L::M::N::O::P::Q::R::S::T::U::V::W::X::Y::Z::a1::b1::c1::d1::e1::f1::g1::h1::i1::j1::k1::m1::n1::o1::p1::l).toArray[65]? = some p1 := rfl
theorem opAt66 {a b c d e f g h i j k m n o p q r s t u v w x y z A B C D E F G H I J K L M N O P Q R S T U V W X Y Z a1 b1 c1 d1 e1 f1 g1 h1 i1 j1 k1 m1 n1 o1 p1 q1 : Oper} {l : List Oper} : (a::b::c::d::e::f::g::h::i::j::k::m::n::o::p::q::r::s::t::u::v::w::x::y::z::A::B::C::D::E::F::G::H::I::J::K::L::M::N::O::P::Q::R::S::T::U::V::W::X::Y::Z::a1::b1::c1::d1::e1::f1::g1::h1::i1::j1::k1::m1::n1::o1::p1::q1::l).toArray[66]? = some q1 := rfl
theorem opAt67 {a b c d e f g h i j k m n o p q r s t u v w x y z A B C D E F G H I J K L M N O P Q R S T U V W X Y Z a1 b1 c1 d1 e1 f1 g1 h1 i1 j1 k1 m1 n1 o1 p1 q1 r1 : Oper} {l : List Oper} : (a::b::c::d::e::f::g::h::i::j::k::m::n::o::p::q::r::s::t::u::v::w::x::y::z::A::B::C::D::E::F::G::H::I::J::K::L::M::N::O::P::Q::R::S::T::U::V::W::X::Y::Z::a1::b1::c1::d1::e1::f1::g1::h1::i1::j1::k1::m1::n1::o1::p1::q1::r1::l).toArray[67]? = some r1 := rfl
theorem opAt68 {a b c d e f g h i j k m n o p q r s t u v w x y z A B C D E F G H I J K L M N O P Q R S T U V W X Y Z a1 b1 c1 d1 e1 f1 g1 h1 i1 j1 k1 m1 n1 o1 p1 q1 r1 s1 : Oper} {l : List Oper} : (a::b::c::d::e::f::g::h::i::j::k::m::n::o::p::q::r::s::t::u::v::w::x::y::z::A::B::C::D::E::F::G::H::I::J::K::L::M::N::O::P::Q::R::S::T::U::V::W::X::Y::Z::a1::b1::c1::d1::e1::f1::g1::h1::i1::j1::k1::m1::n1::o1::p1::q1::r1::s1::l).toArray[68]? = some s1 := rfl
theorem opAt69 {a b c d e f g h i j k m n o p q r s t u v w x y z A B C D E F G H I J K L M N O P Q R S T U V W X Y Z a1 b1 c1 d1 e1 f1 g1 h1 i1 j1 k1 m1 n1 o1 p1 q1 r1 s1 t1 : Oper} {l : List Oper} : (a::b::c::d::e::f::g::h::i::j::k::m::n::o::p::q::r::s::t::u::v::w::x::y::z::A::B::C::D::E::F::G::H::I::J::K::L::M::N::O::P::Q::R::S::T::U::V::W::X::Y::Z::a1::b1::c1::d1::e1::f1::g1::h1::i1::j1::k1::m1::n1::o1::p1::q1::r1::s1::t1::l).toArray[69]? = some t1 := rfl
theorem opAt70 {a b c d e f g h i j k m n o p q r s t u v w x y z A B C D E F G H I J K L M N O P Q R S T U V W X Y Z a1 b1 c1 d1 e1 f1 g1 h1 i1 j1 k1 m1 n1 o1 p1 q1 r1 s1 t1 u1 : Oper} {l : List Oper} : (a::b::c::d::e::f::g::h::i::j::k::m::n::o::p::q::r::s::t::u::v::w::x::y::z::A::B::C::D::E::F::G::H::I::J::K::L::M::N::O::P::Q::R::S::T::U::V::W::X::Y::Z::a1::b1::c1::d1::e1::f1::g1::h1::i1::j1::k1::m1::n1::o1::p1::q1::r1::s1::t1::u1::l).toArray[70]? = some u1 := rfl
theorem opAt71 {a b c d e f g h i j k m n o p q r s t u v w x y z A B C D E F G H I J K L M N O P Q R S T U V W X Y Z a1 b1 c1 d1 e1 f1 g1 h1 i1 j1 k1 m1 n1 o1 p1 q1 r1 s1 t1 u1 v1 : Oper} {l : List Oper} : (a::b::c::d::e::f::g::h::i::j::k::m::n::o::p::q::r::s::t::u::v::w::x::y::z::A::B::C::D::E::F::G::H::I::J::K::L::M::N::O::P::Q::R::S::T::U::V::W::X::Y::Z::a1::b1::c1::d1::e1::f1::g1::h1::i1::j1::k1::m1::n1::o1::p1::q1::r1::s1::t1::u1::v1::l).toArray[71]? = some v1 := rfl
theorem opAt72 {a b c d e f g h i j k m n o p q r s t u v w x y z A B C D E F G H I J K L M N O P Q R S T U V W X Y Z a1 b1 c1 d1 e1 f1 g1 h1 i1 j1 k1 m1 n1 o1 p1 q1 r1 s1 t1 u1 v1 w1 : Oper} {l : List Oper} : (a::b::c::d::e::f::g::h::i::j::k::m::n::o::p::q::r::s::t::u::v::w::x::y::z::A::B::C::D::E::F::G::H::I::J::K::L::M::N::O::P::Q::R::S::T::U::V::W::X::Y::Z::a1::b1::c1::d1::e1::f1::g1::h1::i1::j1::k1::m1::n1::o1::p1::q1::r1::s1::t1::u1::v1::w1::l).toArray[72]? = some w1 := rfl
theorem opAt73 {a b c d e f g h i j k m n o p q r s t u v w x y z A B C D E F G H I J K L M N O P Q R S T U V W X Y Z a1 b1 c1 d1 e1 f1 g1 h1 i1 j1 k1 m1 n1 o1 p1 q1 r1 s1 t1 u1 v1 w1 x1 : Oper} {l : List Oper} : (a::b::c::d::e::f::g::h::i::j::k::m::n::o::p::q::r::s::t::u::v::w::x::y::z::A::B::C::D::E::F::G::H::I::J::K::L::M::N::O::P::Q::R::S::T::U::V::W::X::Y::Z::a1::b1::c1::d1::e1::f1::g1::h1::i1::j1::k1::m1::n1::o1::p1::q1::r1::s1::t1::u1::v1::w1::x1::l).toArray[73]? = some x1 := rfl
theorem opAt74 {a b c d e f g h i j k m n o p q r s t u v w x y z A B C D E F G H I J K L M N O P Q R S T U V W X Y Z a1 b1 c1 d1 e1 f1 g1 h1 i1 j1 k1 m1 n1 o1 p1 q1 r1 s1 t1 u1 v1 w1 x1 y1 : Oper} {l : List Oper} : (a::b::c::d::e::f::g::h::i::j::k::m::n::o::p::q::r::s::t::u::v::w::x::y::z::A::B::C::D::E::F::G::H::I::J::K::L::M::N::O::P::Q::R::S::T::U::V::W::X::Y::Z::a1::b1::c1::d1::e1::f1::g1::h1::i1::j1::k1::m1::n1::o1::p1::q1::r1::s1::t1::u1::v1::w1::x1::y1::l).toArray[74]? = some y1 := rfl
theorem opAt75 {a b c d e f g h i j k m n o p q r s t u v w x y z A B C D E F G H I J K L M N O P Q R S T U V W X Y Z a1 b1 c1 d1 e1 f1 g1 h1 i1 j1 k1 m1 n1 o1 p1 q1 r1 s1 t1 u1 v1 w1 x1 y1 z1 : Oper} {l : List Oper} : (a::b::c::d::e::f::g::h::i::j::k::m::n::o::p::q::r::s::t::u::v::w::x::y::z::A::B::C::D::E::F::G::H::I::J::K::L::M::N::O::P::Q::R::S::T::U::V::W::X::Y::Z::a1::b1::c1::d1::e1::f1::g1::h1::i1::j1::k1::m1::n1::o1::p1::q1::r1::s1::t1::u1::v1::w1::x1::y1::z1::l).toArray[75]? = some z1 := rfl
theorem opAt76 {a b c d e f g h i j k m n o p q r s t u v w x y z A B C D E F G H I J K L M N O P Q R S T U V W X Y Z a1 b1 c1 d1 e1 f1 g1 h1 i1 j1 k1 m1 n1 o1 p1 q1 r1 s1 t1 u1 v1 w1 x1 y1 z1 A1 : Oper} {l : List Oper} : (a::b::c::d::e::f::g::h::i::j::k::m::n::o::p::q::r::s::t::u::v::w::x::y::z::A::B::C::D::E::F::G::H::I::J::K::L::M::N::O::P::Q::R::S::T::U::V::W::X::Y::Z::a1::b1::c1::d1::e1::f1::g1::h1::i1::j1::k1::m1::n1::o1::p1::q1::r1::s1::t1::u1::v1::w1::x1::y1::z1::A1::l).toArray[76]? = some A1 := rfl
theorem opAt77 {a b c d e f g h i j k m n o p q r s t u v w x y z A B C D E F G H I J K L M N O P Q R S T U V W X Y Z a1 b1 c1 d1 e1 f1 g1 h1 i1 j1 k1 m1 n1 o1 p1 q1 r1 s1 t1 u1 v1 w1 x1 y1 z1 A1 B1 : Oper} {l : List Oper} : (a::b::c::d::e::f::g::h::i::j::k::m::n::o::p::q::r::s::t::u::v::w::x::y::z::A::B::C::D::E::F::G::H::I::J::K::L::M::N::O::P::Q::R::S::T::U::V::W::X::Y::Z::a1::b1::c1::d1::e1::f1::g1::h1::i1::j1::k1::m1::n1::o1::p1::q1::r1::s1::t1::u1::v1::w1::x1::y1::z1::A1::B1::l).toArray[77]? = some B1 := rfl
theorem opAt78 {a b c d e f g h i j k m n o p q r s t u v w x y z A B C D E F G H I J K L M N O P Q R S T U V W X Y Z a1 b1 c1 d1 e1 f1 g1 h1 i1 j1 k1 m1 n1 o1 p1 q1 r1 s1 t1 u1 v1 w1 x1 y1 z1 A1 B1 C1 : Oper} {l : List Oper} : (a::b::c::d::e::f::g::h::i::j::k::m::n::o::p::q::r::s::t::u::v::w::x::y::z::A::B::C::D::E::F::G::H::I::J::K::L::M::N::O::P::Q::R::S::T::U::V::W::X::Y::Z::a1::b1::c1::d1::e1::f1::g1::h1::i1::j1::k1::m1::n1::o1::p1::q1::r1::s1::t1::u1::v1::w1::x1::y1::z1::A1::B1::C1::l).toArray[78]? = some C1 := rfl
theorem opAt79 {a b c d e f g h i j k m n o p q r s t u v w x y z A B C D E F G H I J K L M N O P Q R S T U V W X Y Z a1 b1 c1 d1 e1 f1 g1 h1 i1 j1 k1 m1 n1 o1 p1 q1 r1 s1 t1 u1 v1 w1 x1 y1 z1 A1 B1 C1 D1 : Oper} {l : List Oper} : (a::b::c::d::e::f::g::h::i::j::k::m::n::o::p::q::r::s::t::u::v::w::x::y::z::A::B::C::D::E::F::G::H::I::J::K::L::M::N::O::P::Q::R::S::T::U::V::W::X::Y::Z::a1::b1::c1::d1::e1::f1::g1::h1::i1::j1::k1::m1::n1::o1::p1::q1::r1::s1::t1::u1::v1::w1::x1::y1::z1::A1::B1::C1::D1::l).toArray[79]? = some D1 := rfl
theorem opAt80 {a b c d e f g h i j k m n o p q r s t u v w x y z A B C D E F G H I J K L M N O P Q R S T U V W X Y Z a1 b1 c1 d1 e1 f1 g1 h1 i1 j1 k1 m1 n1 o1 p1 q1 r1 s1 t1 u1 v1 w1 x1 y1 z1 A1 B1 C1 D1 E1 : Oper} {l : List Oper} : (a::b::c::d::e::f::g::h::i::j::k::m::n::o::p::q::r::s::t::u::v::w::x::y::z::A::B::C::D::E::F::G::H::I::J::K::L::M::N::O::P::Q::R::S::T::U::V::W::X::Y::Z::a1::b1::c1::d1::e1::f1::g1::h1::i1::j1::k1::m1::n1::o1::p1::q1::r1::s1::t1::u1::v1::w1::x1::y1::z1::A1::B1::C1::D1::E1::l).toArray[80]? = some E1 := rfl
theorem opAt81 {a b c d e f g h i j k m n o p q r s t u v w x y z A B C D E F G H I J K L M N O P Q R S T U V W X Y Z a1 b1 c1 d1 e1 f1 g1 h1 i1 j1 k1 m1 n1 o1 p1 q1 r1 s1 t1 u1 v1 w1 x1 y1 z1 A1 B1 C1 D1 E1 F1 : Oper} {l : List Oper} : (a::b::c::d::e::f::g::h::i::j::k::m::n::o::p::q::r::s::t::u::v::w::x::y::z::A::B::C::D::E::F::G::H::I::J::K::L::M::N::O::P::Q::R::S::T::U::V::W::X::Y::Z::a1::b1::c1::d1::e1::f1::g1::h1::i1::j1::k1::m1::n1::o1::p1::q1::r1::s1::t1::u1::v1::w1::x1::y1::z1::A1::B1::C1::D1::E1::F1::l).toArray[81]? = some F1 := rfl
theorem opAt82 {a b c d e f g h i j k m n o p q r s t u v w x y z A B C D E F G H I J K L M N O P Q R S T U V W X Y Z a1 b1 c1 d1 e1 f1 g1 h1 i1 j1 k1 m1 n1 o1 p1 q1 r1 s1 t1 u1 v1 w1 x1 y1 z1 A1 B1 C1 D1 E1 F1 G1 : Oper} {l : List Oper} : (a::b::c::d::e::f::g::h::i::j::k::m::n::o::p::q::r::s::t::u::v::w::x::y::z::A::B::C::D::E::F::G::H::I::J::K::L::M::N::O::P::Q::R::S::T::U::V::W::X::Y::Z::a1::b1::c1::d1::e1::f1::g1::h1::i1::j1::k1::m1::n1::o1::p1::q1::r1::s1::t1::u1::v1::w1::x1::y1::z1::A1::B1::C1::D1::E1::F1::G1::l).toArray[82]? = some G1 := rfl
theorem opAt83 {a b c d e f g h i j k m n o p q r s t u v w x y z A B C D E F G H I J K L M N O P Q R S T U V W X Y Z a1 b1 c1 d1 e1 f1 g1 h1 i1 j1 k1 m1 n1 o1 p1 q1 r1 s1 t1 u1 v1 w1 x1 y1 z1 A1 B1 C1 D1 E1 F1 G1 H1 : Oper} {l : List Oper} : (a::b::c::d::e::f::g::h::i::j::k::m::n::o::p::q::r::s::t::u::v::w::x::y::z::A::B::C::D::E::F::G::H::I::J::K::L::M::N::O::P::Q::R::S::T::U::V::W::X::Y::Z::a1::b1::c1::d1::e1::f1::g1::h1::i1::j1::k1::m1::n1::o1::p1::q1::r1::s1::t1::u1::v1::w1::x1::y1::z1::A1::B1::C1::D1::E1::F1::G1::H1::l).toArray[83]? = some H1 := rfl
theorem opAt84 {a b c d e f g h i j k m n o p q r s t u v w x y z A B C D E F G H I J K L M N O P Q R S T U V W X Y Z a1 b1 c1 d1 e1 f1 g1 h1 i1 j1 k1 m1 n1 o1 p1 q1 r1 s1 t1 u1 v1 w1 x1 y1 z1 A1 B1 C1 D1 E1 F1 G1 H1 I1 : Oper} {l : List Oper} : (a::b::c::d::e::f::g::h::i::j::k::m::n::o::p::q::r::s::t::u::v::w::x::y::z::A::B::C::D::E::F::G::H::I::J::K::L::M::N::O::P::Q::R::S::T::U::V::W::X::Y::Z::a1::b1::c1::d1::e1::f1::g1::h1::i1::j1::k1::m1::n1::o1::p1::q1::r1::s1::t1::u1::v1::w1::x1::y1::z1::A1::B1::C1::D1::E1::F1::G1::H1::I1::l).toArray[84]? = some I1 := rfl
theorem opAt85 {a b c d e f g h i j k m n o p q r s t u v w x y z A B C D E F G H I J K L M N O P Q R S T U V W X Y Z a1 b1 c1 d1 e1 f1 g1 h1 i1 j1 k1 m1 n1 o1 p1 q1 r1 s1 t1 u1 v1 w1 x1 y1 z1 A1 B1 C1 D1 E1 F1 G1 H1 I1 J1 : Oper} {l : List Oper} : (a::b::c::d::e::f::g::h::i::j::k::m::n::o::p::q::r::s::t::u::v::w::x::y::z::A::B::C::D::E::F::G::H::I::J::K::L::M::N::O::P::Q::R::S::T::U::V::W::X::Y::Z::a1::b1::c1::d1::e1::f1::g1::h1::i1::j1::k1::m1::n1::o1::p1::q1::r1::s1::t1::u1::v1::w1::x1::y1::z1::A1::B1::C1::D1::E1::F1::G1::H1::I1::J1::l).toArray[85]? = some J1 := rfl
theorem opAt86 {a b c d e f g h i j k m n o p q r s t u v w x y z A B C D E F G H I J K L M N O P Q R S T U V W X Y Z a1 b1 c1 d1 e1 f1 g1 h1 i1 j1 k1 m1 n1 o1 p1 q1 r1 s1 t1 u1 v1 w1 x1 y1 z1 A1 B1 C1 D1 E1 F1 G1 H1 I1 J1 K1 : Oper} {l : List Oper} : (a::b::c::d::e::f::g::h::i::j::k::m::n::o::p::q::r::s::t::u::v::w::x::y::z::A::B::C::D::E::F::G::H::I::J::K::L::M::N::O::P::Q::R::S::T::U::V::W::X::Y::Z::a1::b1::c1::d1::e1::f1::g1::h1::i1::j1::k1::m1::n1::o1::p1::q1::r1::s1::t1::u1::v1::w1::x1::y1::z1::A1::B1::C1::D1::E1::F1::G1::H1::I1::J1::K1::l).toArray[86]? = some K1 := rfl
theorem opAt87 {a b c d e f g h i j k m n o p q r s t u v w x y z A B C D E F G H I J K L M N O P Q R S T U V W X Y Z a1 b1 c1 d1 e1 f1 g1 h1 i1 j1 k1 m1 n1 o1 p1 q1 r1 s1 t1 u1 v1 w1 x1 y1 z1 A1 B1 C1 D1 E1 F1 G1 H1 I1 J1 K1 L1 : Oper} {l : List Oper} : (a::b::c::d::e::f::g::h::i::j::k::m::n::o::p::q::r::s::t::u::v::w::x::y::z::A::B::C::D::E::F::G::H::I::J::K::L::M::N::O::P::Q::R::S::T::U::V::W::X::Y::Z::a1::b1::c1::d1::e1::f1::g1::h1::i1::j1::k1::m1::n1::o1::p1::q1::r1::s1::t1::u1::v1::w1::x1::y1::z1::A1::B1::C1::D1::E1::F1::G1::H1::I1::J1::K1::L1::l).toArray[87]? = some L1 := rfl
theorem opAt88 {a b c d e f g h i j k m n o p q r s t u v w x y z A B C D E F G H I J K L M N O P Q R S T U V W X Y Z a1 b1 c1 d1 e1 f1 g1 h1 i1 j1 k1 m1 n1 o1 p1 q1 r1 s1 t1 u1 v1 w1 x1 y1 z1 A1 B1 C1 D1 E1 F1 G1 H1 I1 J1 K1 L1 M1 : Oper} {l : List Oper} : (a::b::c::d::e::f::g::h::i::j::k::m::n::o::p::q::r::s::t::u::v::w::x::y::z::A::B::C::D::E::F::G::H::I::J::K::L::M::N::O::P::Q::R::S::T::U::V::W::X::Y::Z::a1::b1::c1::d1::e1::f1::g1::h1::i1::j1::k1::m1::n1::o1::p1::q1::r1::s1::t1::u1::v1::w1::x1::y1::z1::A1::B1::C1::D1::E1::F1::G1::H1::I1::J1::K1::L1::M1::l).toArray[88]? = some M1 := rfl
theorem opAt89 {a b c d e f g h i j k m n o p q r s t u v w x y z A B C D E F G H I J K L M N O P Q R S T U V W X Y Z a1 b1 c1 d1 e1 f1 g1 h1 i1 j1 k1 m1 n1 o1 p1 q1 r1 s1 t1 u1 v1 w1 x1 y1 z1 A1 B1 C1 D1 E1 F1 G1 H1 I1 J1 K1 L1 M1 N1 : Oper} {l : List Oper} : (a::b::c::d::e::f::g::h::i::j::k::m::n::o::p::q::r::s::t::u::v::w::x::y::z::A::B::C::D::E::F::G::H::I::J::K::L::M::N::O::P::Q::R::S::T::U::V::W::X::Y::Z::a1::b1::c1::d1::e1::f1::g1::h1::i1::j1::k1::m1::n1::o1::p1::q1::r1::s1::t1::u1::v1::w1::x1::y1::z1::A1::B1::C1::D1::E1::F1::G1::H1::I1::J1::K1::L1::M1::N1::l).toArray[89]? = some N1 := rfl
theorem opAt90 {a b c d e f g h i j k m n o p q r s t u v w x y z A B C D E F G H I J K L M N O P Q R S T U V W X Y Z a1 b1 c1 d1 e1 f1 g1 h1 i1 j1 k1 m1 n1 o1 p1 q1 r1 s1 t1 u1 v1 w1 x1 y1 z1 A1 B1 C1 D1 E1 F1 G1 H1 I1 J1 K1 L1 M1 N1 O1 : Oper} {l : List Oper} : (a::b::c::d::e::f::g::h::i::j::k::m::n::o::p::q::r::s::t::u::v::w::x::y::z::A::B::C::D::E::F::G::H::I::J::K::L::M::N::O::P::Q::R::S::T::U::V::W::X::Y::Z::a1::b1::c1::d1::e1::f1::g1::h1::i1::j1::k1::m1::n1::o1::p1::q1::r1::s1::t1::u1::v1::w1::x1::y1::z1::A1::B1::C1::D1::E1::F1::G1::H1::I1::J1::K1::L1::M1::N1::O1::l).toArray[90]? = some O1 := rfl
theorem opAt91 {a b c d e f g h i j k m n o p q r s t u v w x y z A B C D E F G H I J K L M N O P Q R S T U V W X Y Z a1 b1 c1 d1 e1 f1 g1 h1 i1 j1 k1 m1 n1 o1 p1 q1 r1 s1 t1 u1 v1 w1 x1 y1 z1 A1 B1 C1 D1 E1 F1 G1 H1 I1 J1 K1 L1 M1 N1 O1 P1 : Oper} {l : List Oper} : (a::b::c::d::e::f::g::h::i::j::k::m::n::o::p::q::r::s::t::u::v::w::x::y::z::A::B::C::D::E::F::G::H::I::J::K::L::M::N::O::P::Q::R::S::T::U::V::W::X::Y::Z::a1::b1::c1::d1::e1::f1::g1::h1::i1::j1::k1::m1::n1::o1::p1::q1::r1::s1::t1::u1::v1::w1::x1::y1::z1::A1::B1::C1::D1::E1::F1::G1::H1::I1::J1::K1::L1::M1::N1::O1::P1::l).toArray[91]? = some P1 := rfl
theorem opAt92 {a b c d e f g h i j k m n o p q r s t u v w x y z A B C D E F G H I J K L M N O P Q R S T U V W X Y Z a1 b1 c1 d1 e1 f1 g1 h1 i1 j1 k1 m1 n1 o1 p1 q1 r1 s1 t1 u1 v1 w1 x1 y1 z1 A1 B1 C1 D1 E1 F1 G1 H1 I1 J1 K1 L1 M1 N1 O1 P1 Q1 : Oper} {l : List Oper} : (a::b::c::d::e::f::g::h::i::j::k::m::n::o::p::q::r::s::t::u::v::w::x::y::z::A::B::C::D::E::F::G::H::I::J::K::L::M::N::O::P::Q::R::S::T::U::V::W::X::Y::Z::a1::b1::c1::d1::e1::f1::g1::h1::i1::j1::k1::m1::n1::o1::p1::q1::r1::s1::t1::u1::v1::w1::x1::y1::z1::A1::B1::C1::D1::E1::F1::G1::H1::I1::J1::K1::L1::M1::N1::O1::P1::Q1::l).toArray[92]? = some Q1 := rfl
theorem opAt93 {a b c d e f g h i j k m n o p q r s t u v w x y z A B C D E F G H I J K L M N O P Q R S T U V W X Y Z a1 b1 c1 d1 e1 f1 g1 h1 i1 j1 k1 m1 n1 o1 p1 q1 r1 s1 t1 u1 v1 w1 x1 y1 z1 A1 B1 C1 D1 E1 F1 G1 H1 I1 J1 K1 L1 M1 N1 O1 P1 Q1 R1 : Oper} {l : List Oper} : (a::b::c::d::e::f::g::h::i::j::k::m::n::o::p::q::r::s::t::u::v::w::x::y::z::A::B::C::D::E::F::G::H::I::J::K::L::M::N::O::P::Q::R::S::T::U::V::W::X::Y::Z::a1::b1::c1::d1::e1::f1::g1::h1::i1::j1::k1::m1::n1::o1::p1::q1::r1::s1::t1::u1::v1::w1::x1::y1::z1::A1::B1::C1::D1::E1::F1::G1::H1::I1::J1::K1::L1::M1::N1::O1::P1::Q1::R1::l).toArray[93]? = some R1 := rfl
theorem opAt94 {a b c d e f g h i j k m n o p q r s t u v w x y z A B C D E F G H I J K L M N O P Q R S T U V W X Y Z a1 b1 c1 d1 e1 f1 g1 h1 i1 j1 k1 m1 n1 o1 p1 q1 r1 s1 t1 u1 v1 w1 x1 y1 z1 A1 B1 C1 D1 E1 F1 G1 H1 I1 J1 K1 L1 M1 N1 O1 P1 Q1 R1 S1 : Oper} {l : List Oper} : (a::b::c::d::e::f::g::h::i::j::k::m::n::o::p::q::r::s::t::u::v::w::x::y::z::A::B::C::D::E::F::G::H::I::J::K::L::M::N::O::P::Q::R::S::T::U::V::W::X::Y::Z::a1::b1::c1::d1::e1::f1::g1::h1::i1::j1::k1::m1::n1::o1::p1::q1::r1::s1::t1::u1::v1::w1::x1::y1::z1::A1::B1::C1::D1::E1::F1::G1::H1::I1::J1::K1::L1::M1::N1::O1::P1::Q1::R1::S1::l).toArray[94]? = some S1 := rfl
theorem opAt95 {a b c d e f g h i j k m n o p q r s t u v w x y z A B C D E F G H I J K L M N O P Q R S T U V W X Y Z a1 b1 c1 d1 e1 f1 g1 h1 i1 j1 k1 m1 n1 o1 p1 q1 r1 s1 t1 u1 v1 w1 x1 y1 z1 A1 B1 C1 D1 E1 F1 G1 H1 I1 J1 K1 L1 M1 N1 O1 P1 Q1 R1 S1 T1 : Oper} {l : List Oper} : (a::b::c::d::e::f::g::h::i::j::k::m::n::o::p::q::r::s::t::u::v::w::x::y::z::A::B::C::D::E::F::G::H::I::J::K::L::M::N::O::P::Q::R::S::T::U::V::W::X::Y::Z::a1::b1::c1::d1::e1::f1::g1::h1::i1::j1::k1::m1::n1::o1::p1::q1::r1::s1::t1::u1::v1::w1::x1::y1::z1::A1::B1::C1::D1::E1::F1::G1::H1::I1::J1::K1::L1::M1::N1::O1::P1::Q1::R1::S1::T1::l).toArray[95]? = some T1 := rfl
theorem opAt96 {a b c d e f g h i j k m n o p q r s t u v w x y z A B C D E F G H I J K L M N O P Q R S T U V W X Y Z a1 b1 c1 d1 e1 f1 g1 h1 i1 j1 k1 m1 n1 o1 p1 q1 r1 s1 t1 u1 v1 w1 x1 y1 z1 A1 B1 C1 D1 E1 F1 G1 H1 I1 J1 K1 L1 M1 N1 O1 P1 Q1 R1 S1 T1 U1 : Oper} {l : List Oper} : (a::b::c::d::e::f::g::h::i::j::k::m::n::o::p::q::r::s::t::u::v::w::x::y::z::A::B::C::D::E::F::G::H::I::J::K::L::M::N::O::P::Q::R::S::T::U::V::W::X::Y::Z::a1::b1::c1::d1::e1::f1::g1::h1::i1::j1::k1::m1::n1::o1::p1::q1::r1::s1::t1::u1::v1::w1::x1::y1::z1::A1::B1::C1::D1::E1::F1::G1::H1::I1::J1::K1::L1::M1::N1::O1::P1::Q1::R1::S1::T1::U1::l).toArray[96]? = some U1 := rfl
theorem opAt97 {a b c d e f g h i j k m n o p q r s t u v w x y z A B C D E F G H I J K L M N O P Q R S T U V W X Y Z a1 b1 c1 d1 e1 f1 g1 h1 i1 j1 k1 m1 n1 o1 p1 q1 r1 s1 t1 u1 v1 w1 x1 y1 z1 A1 B1 C1 D1 E1 F1 G1 H1 I1 J1 K1 L1 M1 N1 O1 P1 Q1 R1 S1 T1 U1 V1 : Oper} {l : List Oper} : (a::b::c::d::e::f::g::h::i::j::k::m::n::o::p::q::r::s::t::u::v::w::x::y::z::A::B::C::D::E::F::G::H::I::J::K::L::M::N::O::P::Q::R::S::T::U::V::W::X::Y::Z::a1::b1::c1::d1::e1::f1::g1::h1::i1::j1::k1::m1::n1::o1::p1::q1::r1::s1::t1::u1::v1::w1::x1::y1::z1::A1::B1::C1::D1::E1::F1::G1::H1::I1::J1::K1::L1::M1::N1::O1::P1::Q1::R1::S1::T1::U1::V1::l).toArray[97]? = some V1 := rfl
theorem opAt98 {a b c d e f g h i j k m n o p q r s t u v w x y z A B C D E F G H I J K L M N O P Q R S T U V W X Y Z a1 b1 c1 d1 e1 f1 g1 h1 i1 j1 k1 m1 n1 o1 p1 q1 r1 s1 t1 u1 v1 w1 x1 y1 z1 A1 B1 C1 D1 E1 F1 G1 H1 I1 J1 K1 L1 M1 N1 O1 P1 Q1 R1 S1 T1 U1 V1 W1 : Oper} {l : List Oper} : (a::b::c::d::e::f::g::h::i::j::k::m::n::o::p::q::r::s::t::u::v::w::x::y::z::A::B::C::D::E::F::G::H::I::J::K::L::M::N::O::P::Q::R::S::T::U::V::W::X::Y::Z::a1::b1::c1::d1::e1::f1::g1::h1::i1::j1::k1::m1::n1::o1::p1::q1::r1::s1::t1::u1::v1::w1::x1::y1::z1::A1::B1::C1::D1::E1::F1::G1::H1::I1::J1::K1::L1::M1::N1::O1::P1::Q1::R1::S1::T1::U1::V1::W1::l).toArray[98]? = some W1 := rfl
theorem opAt99 {a b c d e f g h i j k m n o p q r s t u v w x y z A B C D E F G H I J K L M N O P Q R S T U V W X Y Z a1 b1 c1 d1 e1 f1 g1 h1 i1 j1 k1 m1 n1 o1 p1 q1 r1 s1 t1 u1 v1 w1 x1 y1 z1 A1 B1 C1 D1 E1 F1 G1 H1 I1 J1 K1 L1 M1 N1 O1 P1 Q1 R1 S1 T1 U1 V1 W1 X1 : Oper} {l : List Oper} : (a::b::c::d::e::f::g::h::i::j::k::m::n::o::p::q::r::s::t::u::v::w::x::y::z::A::B::C::D::E::F::G::H::I::J::K::L::M::N::O::P::Q::R::S::T::U::V::W::X::Y::Z::a1::b1::c1::d1::e1::f1::g1::h1::i1::j1::k1::m1::n1::o1::p1::q1::r1::s1::t1::u1::v1::w1::x1::y1::z1::A1::B1::C1::D1::E1::F1::G1::H1::I1::J1::K1::L1::M1::N1::O1::P1::Q1::R1::S1::T1::U1::V1::W1::X1::l).toArray[99]? = some X1 := rfl
end Go.Proofs.Ytibakmchgppndaa
/- Small walks of the model's functions: what has expired, what a name is. -/
namespace Go.Proofs.Ytibakmchgppndaa
open Go.RowKit

theorem nil_iff {x : ByteArray} : x.toList = [] ↔ x.size = 0 := by
 have hs : x.toList.length = x.size := by rw [ByteArray.toList_eq]; exact Array.length_toList
 rw [← hs]; exact List.length_eq_zero_iff.symm
theorem late_any (n : Int) (h1 : 10 ≤ n) (h2 : n ≤ 1000) (w : World) : Calls Try.prog 34 #[.int .i64 10, .int .i64 n] w fun e w' => e = .returned (.bool (decide (70 ≤ n))) ∧ w = w' := by
 go_enter Try.func34, Try.ntmps34
 go_wp2
 go_ret
 have e : decide ((60 : Int) ≤ n - 10) = decide (70 ≤ n) := by simp only [decide_eq_decide]; omega
 exact ⟨by rw [← e]; rfl, rfl⟩

theorem odd_any (c : Int) (h1 : 32 < c) (h2 : c ≤ 126) (w : World) : Calls Try.prog 53 #[.int .i32 c] w fun e w' => e = .returned (.bool false) ∧ w = w' := by
 have e1 : decide (c ≤ 32) = false := by simp; omega
 have e2 : decide (126 < c) = false := by simp; omega
 go_enter Try.func53, Try.ntmps53
 go_wp2
 go_ret
 exact ⟨by simp, rfl⟩

set_option maxRecDepth 100000 in
theorem none_nil (w : World) : Calls Try.prog 28 #[.pointer none] w fun e w' => e = .returned (.bool true) ∧ w = w' := by
 go_enter Try.func28, Try.ntmps28
 go_wp2
 go_ret
 exact ⟨rfl, rfl⟩
set_option maxRecDepth 100000 in
theorem none_empty (p : Nat) (w : World) (h : w.cell? ⟨p, 0, none⟩ = some (.map none)) : Calls Try.prog 28 #[.pointer (some ⟨p, 0, none⟩)] w fun e w' => e = .returned (.bool true) ∧ w = w' := by
 have q68 : ∀ (w : World) (r : Option Nat), (binOp .eql 68 (.map r) (.map none)).run Try.prog w = .ok (.bool r.isNone) w := fun w r => run_eql_map_nil w _ _ _ r Try.underlying68
 go_enter Try.func28, Try.ntmps28
 go_wp2
 go_ret
 exact ⟨rfl, rfl⟩
set_option maxRecDepth 100000 in
theorem none_not (p b : Nat) (w : World) (h : w.cell? ⟨p, 0, none⟩ = some (.map (some b))) : Calls Try.prog 28 #[.pointer (some ⟨p, 0, none⟩)] w fun e w' => e = .returned (.bool false) ∧ w = w' := by
 have q68 : ∀ (w : World) (r : Option Nat), (binOp .eql 68 (.map r) (.map none)).run Try.prog w = .ok (.bool r.isNone) w := fun w r => run_eql_map_nil w _ _ _ r Try.underlying68
 go_enter Try.func28, Try.ntmps28
 go_wp2
 go_ret
 exact ⟨rfl, rfl⟩

theorem Kept.iter {S : Nat → Prop} {a w : World} (h : Kept S a w) (s : ByteArray) (p : Nat) : Kept S a (w.iter s p) := h.alloc _

theorem index_one (s : ByteArray) (c : Nat) (hs : s = ⟨#[UInt8.ofNat c]⟩) (h1 : 32 < c) (h2 : c ≤ 126) (w : World) :
  Calls Try.prog 83 #[.string s, .func (.func 53) #[] #[], .bool true] w fun e w' => e = .returned (.int .i64 (-1)) ∧ Kept (fun _ => False) w w' := by
 have hsz : s.size = 1 := by rw [hs]; rfl
 have h0 : 0 < s.size := by omega
 have hc : (s[0]'h0).toNat = c := by subst hs; show (UInt8.ofNat c).toNat = c; simp; omega
 have ha : (s[0]'h0).toNat < 128 := by omega
 have hn0 : ∀ ty, (Instr.next (.pointer (some ⟨w.heap.size, 0, none⟩)) true ty).run Try.prog (w.iter s 0) = .ok (.tuple #[.bool true, .int .i64 0, .int .i32 c]) (w.iter s 1) := by
  intro ty
  have := run_next_ascii (P := Try.prog) w s 0 ty h0 ha
  rw [hc] at this
  exact this
 have hn1 : ∀ ty, (Instr.next (.pointer (some ⟨w.heap.size, 0, none⟩)) true ty).run Try.prog (w.iter s 1) = .ok (.tuple #[.bool false]) (w.iter s 1) := fun ty => run_next_end (P := Try.prog) w s 1 ty (by omega)
 clear hs hsz h0 hc ha
 go_enter Try.func83, Try.ntmps83
 go_wp2
 go_loopg [7] 1 (fun g t wr => (g = 1 ∧ wr = w.iter s 0) ∨ (g = 0 ∧ wr = w.iter s 1))
 case atStart => exact .inl ⟨rfl, rfl⟩
 case round =>
  rcases hrel with ⟨rfl, rfl⟩ | ⟨rfl, rfl⟩
  ·go_wp2_with (go_at_call 53; refine (odd_any c (by omega) (by omega) _).mono ?_; rintro e w4 ⟨rfl, rfl⟩)
   go_roundg 0
   case measure => omega
   case rel => exact .inr ⟨rfl, rfl⟩
  ·go_wp2
   go_ret
   exact ⟨rfl, (Kept.refl _ w).iter _ _⟩
set_option maxRecDepth 100000 in
theorem indexf_one (s : ByteArray) (c : Nat) (hs : s = ⟨#[UInt8.ofNat c]⟩) (h1 : 32 < c) (h2 : c ≤ 126) (w : World) :
  Calls Try.prog 71 #[.string s, .func (.func 53) #[] #[]] w fun e w' => e = .returned (.int .i64 (-1)) ∧ Kept (fun _ => False) w w' := by
 have I := Lib.hid (index_one s c hs h1 h2)
 clear hs
 go_enter Try.func71, Try.ntmps71
 go_wp2_with (go_at_call 83; refine (I.out _).mono ?_; rintro e w4 ⟨rfl, k4⟩)
 go_ret
 exact ⟨rfl, k4⟩
set_option maxRecDepth 100000 in
theorem contains_one (s : ByteArray) (c : Nat) (hs : s = ⟨#[UInt8.ofNat c]⟩) (h1 : 32 < c) (h2 : c ≤ 126) (w : World) :
  Calls Try.prog 54 #[.string s, .func (.func 53) #[] #[]] w fun e w' => e = .returned (.bool false) ∧ Kept (fun _ => False) w w' := by
 have I := Lib.hid (indexf_one s c hs h1 h2)
 clear hs
 go_enter Try.func54, Try.ntmps54
 go_wp2_with (go_at_call 71; refine (I.out _).mono ?_; rintro e w4 ⟨rfl, k4⟩)
 go_ret
 exact ⟨rfl, k4⟩
set_option maxRecDepth 100000 in
theorem name_one (s : ByteArray) (c : Nat) (hs : s = ⟨#[UInt8.ofNat c]⟩) (h1 : 32 < c) (h2 : c ≤ 126) (w : World) :
  Calls Try.prog 41 #[.string s] w fun e w' => e = .returned (.bool true) ∧ Kept (fun _ => False) w w' := by
 have C := Lib.hid (contains_one s c hs h1 h2)
 have hsz : s.size = 1 := by rw [hs]; rfl
 have e1 : ((s.size : Int)) = 1 := by omega
 have e2 : (s.toList == ([] : List UInt8)) = false := by
  have : ¬ s.toList = [] := fun e => by have := nil_iff.1 e; omega
  simpa using this
 clear hs
 go_enter Try.func41, Try.ntmps41
 go_wp2_with (go_at_call 54; refine (C.out _).mono ?_; rintro e w4 ⟨rfl, k4⟩)
 go_ret
 exact ⟨rfl, k4⟩
end Go.Proofs.Ytibakmchgppndaa
/- spans.Check of the chapter's span, rows.Expired. -/
namespace Go.Proofs.Ytibakmchgppndaa
open Go.RowKit

def numsV (p : Nat) : Value := .agg #[.pointer (some ⟨p, 0, none⟩), .int .i64 1, .int .i64 2147483647, .pointer (some ⟨p, 1, none⟩), .int .i64 1, .int .i64 2147483647, .pointer (some ⟨p, 2, none⟩), .int .i64 0, .int .i64 2147483647, .pointer (some ⟨p, 5, none⟩), .int .i64 0, .int .i64 1073741824, .pointer (some ⟨p, 6, none⟩), .int .i64 0, .int .i64 1073741824]

theorem ix0 (p : Nat) (W : World) : (Instr.index 97 (numsV p) (.int .i64 0)).run Try.prog W = .ok (.agg #[.pointer (some ⟨p, 0, none⟩), .int .i64 1, .int .i64 2147483647]) W := by kernel_rfl
theorem ix1 (p : Nat) (W : World) : (Instr.index 97 (numsV p) (.int .i64 1)).run Try.prog W = .ok (.agg #[.pointer (some ⟨p, 1, none⟩), .int .i64 1, .int .i64 2147483647]) W := by kernel_rfl
theorem ix2 (p : Nat) (W : World) : (Instr.index 97 (numsV p) (.int .i64 2)).run Try.prog W = .ok (.agg #[.pointer (some ⟨p, 2, none⟩), .int .i64 0, .int .i64 2147483647]) W := by kernel_rfl
theorem ix3 (p : Nat) (W : World) : (Instr.index 97 (numsV p) (.int .i64 3)).run Try.prog W = .ok (.agg #[.pointer (some ⟨p, 5, none⟩), .int .i64 0, .int .i64 1073741824]) W := by kernel_rfl
theorem ix4 (p : Nat) (W : World) : (Instr.index 97 (numsV p) (.int .i64 4)).run Try.prog W = .ok (.agg #[.pointer (some ⟨p, 6, none⟩), .int .i64 0, .int .i64 1073741824]) W := by kernel_rfl
set_option maxHeartbeats 4000000 in
set_option maxRecDepth 100000 in
theorem numbers_any (p : Nat) (w : World) : Calls Try.prog 46 #[.pointer (some ⟨p, 0, none⟩)] w fun e w' => e = .returned (numsV p) ∧ Kept (fun _ => False) w w' := by
 go_enter Try.func46, Try.ntmps46
 go_wp2
 go_region
 all_goals go_wp2
 refine bodyPost_ret (v := _) (by simp [results, Try.results46, go_sem]; try rfl) rfl ?_
 exact ⟨rfl, ((Kept.refl _ w).alloc _).drew⟩

/-- The chapter's span, with a note. -/
def spanV (n : ByteArray) : Value := .agg #[.int .i64 3, .int .i64 1, .int .i64 0, .string ⟨#[97]⟩, .string ⟨#[104]⟩, .int .i64 10, .int .i64 0, .string n]
set_option maxRecDepth 100000 in
theorem expired_any (n : ByteArray) (t : Int) (h1 : 10 ≤ t) (h2 : t ≤ 1000) (w : World) : Calls Try.prog 12 #[spanV n, .int .i64 t] w fun e w' => e = .returned (.bool (decide (70 ≤ t))) ∧ Kept (fun _ => False) w w' := by
 unfold spanV
 go_enter Try.func12, Try.ntmps12
 go_wp2_with (go_at_call 34; refine (late_any t h1 h2 _).mono ?_; rintro e w4 ⟨rfl, rfl⟩)
 go_ret
 exact ⟨rfl, (Kept.refl _ w).alloc _⟩

set_option maxHeartbeats 8000000 in
set_option maxRecDepth 100000 in
theorem check_any (n : ByteArray) (hn : n.size ≤ 24) (w : World) : Calls Try.prog 29 #[spanV n] w fun e w' => e = .returned (.int .i64 0) ∧ Kept (fun _ => False) w w' := by
 have N0 := Lib.hid (name_one ⟨#[97]⟩ 97 rfl (by omega) (by omega))
 have N1 := Lib.hid (name_one ⟨#[104]⟩ 104 rfl (by omega) (by omega))
 unfold spanV
 go_enter Try.func29, Try.ntmps29
 go_wp2_with fail
 obtain ⟨W, hW⟩ : ∃ W, w.alloc (.cells #[.int .i64 3, .int .i64 1, .int .i64 0, .string ⟨#[97]⟩, .string ⟨#[104]⟩, .int .i64 10, .int .i64 0, .string n] 37) = W := ⟨_, rfl⟩
 have K0 : Kept (fun _ => False) w W := by rw [← hW]; exact (Kept.refl _ w).alloc _
 have q0 : W.cell? ⟨w.heap.size, 0, none⟩ = some (.int .i64 3) := by rw [← hW]; simp
 have q1 : W.cell? ⟨w.heap.size, 1, none⟩ = some (.int .i64 1) := by rw [← hW]; simp
 have q2 : W.cell? ⟨w.heap.size, 2, none⟩ = some (.int .i64 0) := by rw [← hW]; simp
 have q3 : W.cell? ⟨w.heap.size, 3, none⟩ = some (.string ⟨#[97]⟩) := by rw [← hW]; simp
 have q4 : W.cell? ⟨w.heap.size, 4, none⟩ = some (.string ⟨#[104]⟩) := by rw [← hW]; simp
 have q5 : W.cell? ⟨w.heap.size, 5, none⟩ = some (.int .i64 10) := by rw [← hW]; simp
 have q6 : W.cell? ⟨w.heap.size, 6, none⟩ = some (.int .i64 0) := by rw [← hW]; simp
 have q7 : W.cell? ⟨w.heap.size, 7, none⟩ = some (.string n) := by rw [← hW]; simp
 rw [hW]
 clear hW
 refine (numbers_any w.heap.size W).mono ?_
 rintro e w1 ⟨rfl, k1⟩
 have K1 := Lib.hid (K0.trans k1 (fun _ _ f => f) (fun _ _ f => f) : Kept (fun _ => False) w w1)
 replace q0 := k1.cell q0 (fun f => f)
 replace q1 := k1.cell q1 (fun f => f)
 replace q2 := k1.cell q2 (fun f => f)
 replace q3 := k1.cell q3 (fun f => f)
 replace q4 := k1.cell q4 (fun f => f)
 replace q5 := k1.cell q5 (fun f => f)
 replace q6 := k1.cell q6 (fun f => f)
 replace q7 := k1.cell q7 (fun f => f)
 have hn2 : ¬ (24 : Int) < (n.size : Int) := by omega
 clear k1 K0
 unfold numsV
 go_wp2
 go_loopg [6] 5 (fun g t wr => ∃ i : Nat, i + g = 5 ∧ t = .int .i64 i ∧ Kept (fun _ => False) w1 wr)
 case atStart => exact ⟨0, by omega, rfl, Kept.refl _ _⟩
 case round =>
  obtain ⟨i, hi, rfl, KW⟩ := hrel
  have KF := Lib.hid KW
  replace q0 := KW.cell q0 (fun f => f)
  replace q1 := KW.cell q1 (fun f => f)
  replace q2 := KW.cell q2 (fun f => f)
  replace q3 := KW.cell q3 (fun f => f)
  replace q4 := KW.cell q4 (fun f => f)
  replace q5 := KW.cell q5 (fun f => f)
  replace q6 := KW.cell q6 (fun f => f)
  replace q7 := KW.cell q7 (fun f => f)
  clear KW
  obtain rfl | rfl | rfl | rfl | rfl | rfl : i = 0 ∨ i = 1 ∨ i = 2 ∨ i = 3 ∨ i = 4 ∨ i = 5 := by omega
  ·have x0 := ix0 w.heap.size
   unfold numsV at x0
   go_wp2
   obtain ⟨a0, a1, a2, _, _⟩ := (Kept.refl (fun _ => False) (wr.alloc (.cells #[.pointer (some ⟨w.heap.size, 0, none⟩), .int .i64 1, .int .i64 2147483647] 96))).fresh3 (fun f => f)
   have KA := Lib.hid (KF.out.alloc (.cells #[.pointer (some ⟨w.heap.size, 0, none⟩), .int .i64 1, .int .i64 2147483647] 96))
   have qq := ((Kept.refl (fun _ => False) wr).alloc (.cells #[.pointer (some ⟨w.heap.size, 0, none⟩), .int .i64 1, .int .i64 2147483647] 96)).cell q0 (fun f => f)
   obtain ⟨W2, hW2⟩ : ∃ W2, wr.alloc (.cells #[.pointer (some ⟨w.heap.size, 0, none⟩), .int .i64 1, .int .i64 2147483647] 96) = W2 := ⟨_, rfl⟩
   rw [hW2] at a0 a1 a2 KA qq ⊢
   clear hW2
   go_region
   all_goals go_wp2
   all_goals go_roundg (5 - 0 - 1)
   case measure => omega
   case rel => exact ⟨0 + 1, by omega, rfl, KA.out.drew⟩
  ·have x0 := ix1 w.heap.size
   unfold numsV at x0
   go_wp2
   obtain ⟨a0, a1, a2, _, _⟩ := (Kept.refl (fun _ => False) (wr.alloc (.cells #[.pointer (some ⟨w.heap.size, 1, none⟩), .int .i64 1, .int .i64 2147483647] 96))).fresh3 (fun f => f)
   have KA := Lib.hid (KF.out.alloc (.cells #[.pointer (some ⟨w.heap.size, 1, none⟩), .int .i64 1, .int .i64 2147483647] 96))
   have qq := ((Kept.refl (fun _ => False) wr).alloc (.cells #[.pointer (some ⟨w.heap.size, 1, none⟩), .int .i64 1, .int .i64 2147483647] 96)).cell q1 (fun f => f)
   obtain ⟨W2, hW2⟩ : ∃ W2, wr.alloc (.cells #[.pointer (some ⟨w.heap.size, 1, none⟩), .int .i64 1, .int .i64 2147483647] 96) = W2 := ⟨_, rfl⟩
   rw [hW2] at a0 a1 a2 KA qq ⊢
   clear hW2
   go_region
   all_goals go_wp2
   all_goals go_roundg (5 - 1 - 1)
   case measure => omega
   case rel => exact ⟨1 + 1, by omega, rfl, KA.out.drew⟩
  ·have x0 := ix2 w.heap.size
   unfold numsV at x0
   go_wp2
   obtain ⟨a0, a1, a2, _, _⟩ := (Kept.refl (fun _ => False) (wr.alloc (.cells #[.pointer (some ⟨w.heap.size, 2, none⟩), .int .i64 0, .int .i64 2147483647] 96))).fresh3 (fun f => f)
   have KA := Lib.hid (KF.out.alloc (.cells #[.pointer (some ⟨w.heap.size, 2, none⟩), .int .i64 0, .int .i64 2147483647] 96))
   have qq := ((Kept.refl (fun _ => False) wr).alloc (.cells #[.pointer (some ⟨w.heap.size, 2, none⟩), .int .i64 0, .int .i64 2147483647] 96)).cell q2 (fun f => f)
   obtain ⟨W2, hW2⟩ : ∃ W2, wr.alloc (.cells #[.pointer (some ⟨w.heap.size, 2, none⟩), .int .i64 0, .int .i64 2147483647] 96) = W2 := ⟨_, rfl⟩
   rw [hW2] at a0 a1 a2 KA qq ⊢
   clear hW2
   go_region
   all_goals go_wp2
   all_goals go_roundg (5 - 2 - 1)
   case measure => omega
   case rel => exact ⟨2 + 1, by omega, rfl, KA.out.drew⟩
  ·have x0 := ix3 w.heap.size
   unfold numsV at x0
   go_wp2
   obtain ⟨a0, a1, a2, _, _⟩ := (Kept.refl (fun _ => False) (wr.alloc (.cells #[.pointer (some ⟨w.heap.size, 5, none⟩), .int .i64 0, .int .i64 1073741824] 96))).fresh3 (fun f => f)
   have KA := Lib.hid (KF.out.alloc (.cells #[.pointer (some ⟨w.heap.size, 5, none⟩), .int .i64 0, .int .i64 1073741824] 96))
   have qq := ((Kept.refl (fun _ => False) wr).alloc (.cells #[.pointer (some ⟨w.heap.size, 5, none⟩), .int .i64 0, .int .i64 1073741824] 96)).cell q5 (fun f => f)
   obtain ⟨W2, hW2⟩ : ∃ W2, wr.alloc (.cells #[.pointer (some ⟨w.heap.size, 5, none⟩), .int .i64 0, .int .i64 1073741824] 96) = W2 := ⟨_, rfl⟩
   rw [hW2] at a0 a1 a2 KA qq ⊢
   clear hW2
   go_region
   all_goals go_wp2
   all_goals go_roundg (5 - 3 - 1)
   case measure => omega
   case rel => exact ⟨3 + 1, by omega, rfl, KA.out.drew⟩
  ·have x0 := ix4 w.heap.size
   unfold numsV at x0
   go_wp2
   obtain ⟨a0, a1, a2, _, _⟩ := (Kept.refl (fun _ => False) (wr.alloc (.cells #[.pointer (some ⟨w.heap.size, 6, none⟩), .int .i64 0, .int .i64 1073741824] 96))).fresh3 (fun f => f)
   have KA := Lib.hid (KF.out.alloc (.cells #[.pointer (some ⟨w.heap.size, 6, none⟩), .int .i64 0, .int .i64 1073741824] 96))
   have qq := ((Kept.refl (fun _ => False) wr).alloc (.cells #[.pointer (some ⟨w.heap.size, 6, none⟩), .int .i64 0, .int .i64 1073741824] 96)).cell q6 (fun f => f)
   obtain ⟨W2, hW2⟩ : ∃ W2, wr.alloc (.cells #[.pointer (some ⟨w.heap.size, 6, none⟩), .int .i64 0, .int .i64 1073741824] 96) = W2 := ⟨_, rfl⟩
   rw [hW2] at a0 a1 a2 KA qq ⊢
   clear hW2
   go_region
   all_goals go_wp2
   all_goals go_roundg (5 - 4 - 1)
   case measure => omega
   case rel => exact ⟨4 + 1, by omega, rfl, KA.out.drew⟩
  ·go_wp2_with fail
   refine (N0.out _).mono ?_
   rintro e w2 ⟨rfl, k2⟩
   replace q4 := k2.cell q4 (fun f => f)
   replace q7 := k2.cell q7 (fun f => f)
   have K2 := Lib.hid (KF.out.trans k2 (fun _ _ f => f) (fun _ _ f => f) : Kept (fun _ => False) w1 w2)
   clear k2
   go_wp2_with fail
   refine (N1.out _).mono ?_
   rintro e w3 ⟨rfl, k3⟩
   replace q7 := k3.cell q7 (fun f => f)
   have K3 := Lib.hid (K2.out.trans k3 (fun _ _ f => f) (fun _ _ f => f) : Kept (fun _ => False) w1 w3)
   clear k3
   go_wp2
   go_ret
   exact ⟨rfl, K1.out.trans K3.out (fun _ _ f => f) (fun _ _ f => f)⟩
end Go.Proofs.Ytibakmchgppndaa
/- What the model's maps do, of no entry or of one. -/
namespace Go.Proofs.Ytibakmchgppndaa
open Go.RowKit Go.MapKept Go.Instr Go.ChangeMaps

def kV : Value := .agg #[.int .i64 3, .int .i64 1]
def spanZ : Value := .agg #[.int .i64 0, .int .i64 0, .int .i64 0, .string ⟨#[]⟩, .string ⟨#[]⟩, .int .i64 0, .int .i64 0, .string ⟨#[]⟩]
theorem ck_any (e : Bool) (w : World) : (checkKey e 10000 74 kV).run Try.prog w = .ok () w := by cases e <;> kernel_rfl
theorem fk_none (w : World) : (findKey 74 kV []).run Try.prog w = .ok none w := by kernel_rfl
theorem fk_one (v : Value) (n : Nat) (w : World) : (findKey 74 kV [⟨kV, v, n⟩]).run Try.prog w = .ok (some (0, v)) w := by kernel_rfl
theorem z37 (w : World) : (zeroValue 37).run Try.prog w = .ok spanZ w := by kernel_rfl
theorem z3 (w : World) : (zeroValue 3).run Try.prog w = .ok (.int .i64 0) w := by kernel_rfl
theorem u68 : Try.prog.underlying 68 = some (.map 74 37) := Try.underlying68
theorem u72 : Try.prog.underlying 72 = some (.map 74 3) := Try.underlying72
theorem look0 {w : World} {b c : Nat} (h : w.heap[b]? = some (.map #[] c)) : (Instr.lookup 68 (.map (some b)) kV true).run Try.prog w = .ok (.tuple #[spanZ, .bool false]) w := by
 unfold Instr.lookup
 simp [run_underlying u68, Go.MapKept.run_getObj_map h, ck_any, fk_none, spanZ]
theorem look1 {w : World} {b c n : Nat} {v : Value} (h : w.heap[b]? = some (.map #[⟨kV, v, n⟩] c)) : (Instr.lookup 68 (.map (some b)) kV true).run Try.prog w = .ok (.tuple #[v, .bool true]) w := by
 unfold Instr.lookup
 simp [run_underlying u68, Go.MapKept.run_getObj_map h, ck_any, fk_one]
theorem seen0 {w : World} {b c : Nat} (h : w.heap[b]? = some (.map #[] c)) : (Instr.lookup 72 (.map (some b)) kV false).run Try.prog w = .ok (.int .i64 0) w := by
 unfold Instr.lookup
 simp [run_underlying u72, Go.MapKept.run_getObj_map h, ck_any, fk_none]
theorem entry0 {w : World} {b : Nat} (h : w.heap[b]? = some (.map #[] 0)) : (Instr.mapEntry 68 (.map (some b)) kV).run Try.prog w = .ok (.tuple #[spanZ, .int .i64 0]) (setBlock w b (.map #[⟨kV, spanZ, 0⟩] 1)) := by
 unfold Instr.mapEntry
 simp [run_underlying u68, Go.MapKept.run_getObj_map h, Go.MapKept.run_setObj_map _ h, ck_any, fk_none, goInt, setBlock, spanZ]
theorem store1 {w : World} {b : Nat} {x v : Value} (h : w.heap[b]? = some (.map #[⟨kV, x, 0⟩] 1)) : (Instr.entryStore 68 (.map (some b)) (.int .i64 0) v).run Try.prog w = .ok () (setBlock w b (.map #[⟨kV, v, 0⟩] 1)) := by
 unfold Instr.entryStore
 simp [Go.MapKept.run_getObj_map h, Go.MapKept.run_setObj_map _ h, asInt, asIntOf, setBlock]
theorem put0 {w : World} {b : Nat} (h : w.heap[b]? = some (.map #[] 0)) (v : Value) : (Instr.mapUpdate 72 (.map (some b)) kV v).run Try.prog w = .ok () (setBlock w b (.map #[⟨kV, v, 0⟩] 1)) := by
 unfold Instr.mapUpdate
 simp [run_underlying u72, Go.MapKept.run_getObj_map h, Go.MapKept.run_setObj_map _ h, ck_any, fk_none, setBlock]
end Go.Proofs.Ytibakmchgppndaa
/- Sorting what is one span at most; what a range over a map of one entry tells. -/
namespace Go.Proofs.Ytibakmchgppndaa
open Go.RowKit Go.MapKept Go.Instr Go.ChangeMaps

set_option maxRecDepth 100000 in
theorem len64_any (n : Int) (h : n = 0 ∨ n = 1) (w : World) : Calls Try.prog 69 #[.int .u64 n] w fun e w' => e = .returned (.int .i64 n) ∧ w = w' := by
 rcases h with rfl | rfl
 ·go_enter Try.func69, Try.ntmps69
  go_wp2
  go_ret
  exact ⟨by kernel_rfl, rfl⟩
 ·go_enter Try.func69, Try.ntmps69
  go_wp2
  go_ret
  exact ⟨by kernel_rfl, rfl⟩
set_option maxRecDepth 100000 in
theorem len_any (n : Int) (h : n = 0 ∨ n = 1) (w : World) : Calls Try.prog 48 #[.int .u64 n] w fun e w' => e = .returned (.int .i64 n) ∧ w = w' := by
 have L := Lib.hid (len64_any n h)
 go_enter Try.func48, Try.ntmps48
 go_wp2_with (go_at_call 69; refine (L.out _).mono ?_; rintro e w4 ⟨rfl, rfl⟩)
 go_ret
 exact ⟨rfl, rfl⟩
set_option maxRecDepth 100000 in
theorem insert_any (v f : Value) (n : Int) (h : n = 0 ∨ n = 1) (w : World) : Calls Try.prog 60 #[v, .int .i64 0, .int .i64 n, f] w fun e w' => e = .returned (.tuple #[]) ∧ w = w' := by
 have e1 : ¬ (1 : Int) < n := by omega
 go_enter Try.func60, Try.ntmps60
 go_wp2
 go_loopg [8] 1 (fun g t wr => t = .int .i64 1 ∧ wr = w)
 case atStart => exact ⟨rfl, rfl⟩
 case round =>
  obtain ⟨rfl, rfl⟩ := hrel
  go_wp2
  go_end0
  exact ⟨rfl, rfl⟩
set_option maxRecDepth 100000 in
theorem pdq_any (v f : Value) (n : Int) (h : n = 0 ∨ n = 1) (w : World) : Calls Try.prog 47 #[v, .int .i64 0, .int .i64 n, .int .i64 n, f] w fun e w' => e = .returned (.tuple #[]) ∧ w = w' := by
 have L := Lib.hid (insert_any v f n h)
 have e1 : n ≤ 12 := by omega
 go_enter Try.func47, Try.ntmps47
 go_wp2
 go_loopg [1, 2] 1 (fun g s t wr => s = .int .i64 0 ∧ t = .int .i64 n ∧ wr = w)
 case atStart => exact ⟨rfl, rfl, rfl⟩
 case round =>
  obtain ⟨rfl, rfl, rfl⟩ := hrel
  have e2 : IntKind.i64.wrap (n - 0) = n := by rw [Int.sub_zero]; exact IntWalk.i64_in _ (by omega)
  go_wp2_with (go_at_call 60; refine (L.out _).mono ?_; rintro e w4 ⟨rfl, rfl⟩)
  refine bodyPost_ret (v := _) (by simp [results, Try.results47, go_sem]; try rfl) rfl ?_
  exact ⟨rfl, rfl⟩
set_option maxRecDepth 100000 in
theorem sort_any (a : Option Addr) (n c : Nat) (f : Value) (h : n = 0 ∨ n = 1) (w : World) : Calls Try.prog 30 #[.slice a n c, f] w fun e w' => e = .returned (.tuple #[]) ∧ w = w' := by
 have h2 : (n : Int) = 0 ∨ (n : Int) = 1 := by omega
 have L := Lib.hid (len_any n h2)
 have M := Lib.hid (pdq_any (.slice a n c) f n h2)
 go_enter Try.func30, Try.ntmps30
 go_wp2_with (first
  | (go_at_call 48; refine (L.out _).mono ?_; rintro e w4 ⟨rfl, rfl⟩)
  | (go_at_call 47; refine (M.out _).mono ?_; rintro e w4 ⟨rfl, rfl⟩))
 go_end0
 exact ⟨rfl, rfl⟩

theorem _root_.Go.ChangeMaps.kept_setBlock {S : Nat → Prop} {a w : World} (h : Kept S a w) {b : Nat} (hb : b < a.heap.size → S b) (o : Obj) : Kept S a (setBlock w b o) :=
 ⟨h.os, h.tape, h.output, by simp [setBlock, h.size], fun k hk hn => by
  have : k ≠ b := fun e => hn (e ▸ hb (e ▸ hk))
  rw [← h.block k hk hn]
  simp [setBlock, this.symm]⟩
theorem range1 {w : World} {b : Nat} {v : Value} (hb : w.heap[b]? = some (.map #[⟨kV, v, 0⟩] 1)) : (Instr.range 68 (.map (some b))).run Try.prog w = .ok (.pointer (some ⟨w.heap.size, 0, none⟩)) (w.alloc (.mapIter (some b) 1 #[] 1)) := by
 unfold Instr.range
 simp [run_underlying u68, Go.MapKept.run_getObj_map hb, newObj, Sem.run]
theorem mnext1 {w : World} {b r : Nat} {v : Value} (hb : w.heap[b]? = some (.map #[⟨kV, v, 0⟩] 1)) (hr : w.heap[r]? = some (.mapIter (some b) 1 #[] 1)) (ty : TypeId) :
  (Instr.next (.pointer (some ⟨r, 0, none⟩)) false ty).run Try.prog w = .ok (.tuple #[.bool true, kV, v]) (setBlock w r (.mapIter (some b) 1 #[0] 1)) := by
 simp only [Instr.next, getObj, Sem.run_bind, Sem.run, hr, hb, Result.andThen]
 simp [choose, Sem.run, Question.forced, run_setObj_at hr]
theorem mnext2 {w : World} {b r : Nat} {v : Value} (hb : w.heap[b]? = some (.map #[⟨kV, v, 0⟩] 1)) (hr : w.heap[r]? = some (.mapIter (some b) 1 #[0] 1)) (ty : TypeId) :
  (Instr.next (.pointer (some ⟨r, 0, none⟩)) false ty).run Try.prog w = .ok (.tuple #[.bool false]) w := by
 simp only [Instr.next, getObj, Sem.run_bind, Sem.run, hr, hb, Result.andThen]
 simp [choose, Sem.run, Question.forced]
theorem entry1 {w : World} {b r : Nat} {v : Value} (hb : w.heap[b]? = some (.map #[⟨kV, v, 0⟩] 1)) (hr : w.heap[r]? = some (.mapIter (some b) 1 #[0] 1)) :
  (Instr.entry (.pointer (some ⟨r, 0, none⟩))).run Try.prog w = .ok (.tuple #[kV, v]) w := by
 exact run_entry_at (P := Try.prog) w r b 1 #[] #[⟨kV, v, 0⟩] 1 ⟨kV, v, 0⟩ hr hb (by simp) (by simp)
end Go.Proofs.Ytibakmchgppndaa
/- (*Model).Spans of one span. -/
namespace Go.Proofs.Ytibakmchgppndaa
open Go.RowKit Go.MapKept Go.Instr Go.ChangeMaps

theorem info_parts {P : Program} {t : TypeId} {z : Option Value} {s b : Nat} (h : (P.info? t).map (fun i => (i.zero, i.size, i.bytes)) = some (z, s, b)) : ∃ i, P.info? t = some i ∧ i.zero = z ∧ i.size = s ∧ i.bytes = b := by
 cases hi : P.info? t with
 | none => rw [hi] at h; simp at h
 | some i =>
  rw [hi] at h
  simp at h
  exact ⟨i, rfl, h.1, h.2.1, h.2.2⟩
theorem inf37 : (Try.prog.info? 37).map (fun i => (i.zero, i.size, i.bytes)) = some (some spanZ, 8, 88) := by kernel_rfl
def cells8 (e : ByteArray) : List Value := [.int .i64 3, .int .i64 1, .int .i64 0, .string ⟨#[97]⟩, .string ⟨#[104]⟩, .int .i64 10, .int .i64 0, .string e]
structure ModAt (w : World) (p b : Nat) (e : ByteArray) : Prop where
 cell : w.cell? ⟨p, 0, none⟩ = some (.map (some b))
 map : w.heap[b]? = some (.map #[⟨kV, spanV e, 0⟩] 1)
theorem ModAt.lt {w : World} {p b : Nat} {e : ByteArray} (h : ModAt w p b e) : b < w.heap.size := (Array.getElem?_eq_some_iff.1 h.map).1
theorem ModAt.kept {w w' : World} {p b : Nat} {e : ByteArray} (h : ModAt w p b e) (hK : Kept (fun _ => False) w w') : ModAt w' p b e :=
 ⟨hK.cell h.cell (fun f => f), (hK.block b h.lt (fun f => f)).trans h.map⟩

set_option maxHeartbeats 2000000 in
set_option maxRecDepth 100000 in
theorem spans_live {w : World} {p b : Nat} (t : Int) (h1 : 10 ≤ t) (h2 : t < 70) (h : ModAt w p b ⟨#[]⟩) :
  Calls Try.prog 10 #[.pointer (some ⟨p, 0, none⟩), .int .i64 t] w fun e w' => Kept (fun _ => False) w w' ∧ ∃ v, e = .returned v ∧ w'.ownsRow w.heap.size 37 8 v 1 (cells8 ⟨#[]⟩) := by
 obtain ⟨i0, hi0, hz0, hz1, hz2⟩ := info_parts inf37
 have N := Lib.hid (none_not p b w h.cell)
 have R := range1 h.map
 have E := Lib.hid (expired_any ⟨#[]⟩ t h1 (by omega))
 have hc := h.cell
 have HM := Lib.hid h.map
 have HL := Lib.hid h.lt
 have e70 : decide (70 ≤ t) = false := by simp; omega
 clear h
 go_enter Try.func10, Try.ntmps10
 go_wp2_with (go_at_call 28; refine N.out.mono ?_; rintro e w4 ⟨rfl, rfl⟩)
 clear R
 go_loopg [5] 1 (fun g s wr => (g = 1 ∧ s = .slice none 0 0 ∧ wr = w.alloc (.mapIter (some b) 1 #[] 1)) ∨ (g = 0 ∧ wr.heap[w.heap.size]? = some (.mapIter (some b) 1 #[0] 1) ∧ Kept (fun _ => False) w wr ∧ ∃ ao cap, s = .slice ao 1 cap ∧ wr.ownsRow w.heap.size 37 8 s 1 (cells8 ⟨#[]⟩)))
 case atStart => exact .inl ⟨rfl, rfl, rfl⟩
 case round =>
  rcases hrel with ⟨rfl, rfl, rfl⟩ | ⟨rfl, hr, kw, ao, cap, rfl, ho⟩
  ·obtain ⟨W, hW⟩ : ∃ W, w.alloc (.mapIter (some b) 1 #[] 1) = W := ⟨_, rfl⟩
   have kW : Kept (fun _ => False) w W := by rw [← hW]; exact (Kept.refl _ w).alloc _
   have hr : W.heap[w.heap.size]? = some (.mapIter (some b) 1 #[] 1) := by rw [← hW]; exact heap_alloc_new w _
   have hb := (kW.block b HL.out (fun f => f)).trans HM.out
   have sW : W.heap.size = w.heap.size + 1 := by rw [← hW]; simp
   rw [hW]
   clear hW
   have n1 := mnext1 hb hr
   obtain ⟨W2, hW2⟩ : ∃ W2, setBlock W w.heap.size (.mapIter (some b) 1 #[0] 1) = W2 := ⟨_, rfl⟩
   rw [hW2] at n1
   have k2 : Kept (fun _ => False) w W2 := by rw [← hW2]; exact kept_setBlock kW (fun hh => absurd hh (Nat.lt_irrefl _)) _
   have hr2 : W2.heap[w.heap.size]? = some (.mapIter (some b) 1 #[0] 1) := by rw [← hW2]; simp [setBlock, sW]
   have hb2 := (k2.block b HL.out (fun f => f)).trans HM.out
   have n2 := entry1 hb2 hr2
   have K2 := Lib.hid k2
   have R2 := Lib.hid hr2
   unfold kV spanV at n1 n2
   clear hW2 k2 hr2 hb2 hb hr kW
   go_wp2_with fail
   refine (E.out _).mono ?_
   rw [e70]
   rintro e w4 ⟨rfl, k4⟩
   have k5 : Kept (fun _ => False) w w4 := (K2.out.alloc _).trans k4 (fun _ _ f => f) (fun _ _ f => f)
   have a0 : (W2.alloc (Obj.cells #[.int .i64 3, .int .i64 1, .int .i64 0, .string ⟨#[97]⟩, .string ⟨#[104]⟩, .int .i64 10, .int .i64 0, .string ⟨#[]⟩] 37)).heap[W2.heap.size]? = some (Obj.cells #[.int .i64 3, .int .i64 1, .int .i64 0, .string ⟨#[97]⟩, .string ⟨#[104]⟩, .int .i64 10, .int .i64 0, .string ⟨#[]⟩] 37) := heap_alloc_new W2 _
   have r4 : w4.heap[w.heap.size]? = some (.mapIter (some b) 1 #[0] 1) := by
    have s2 : w.heap.size < W2.heap.size := (Array.getElem?_eq_some_iff.1 R2.out).1
    rw [k4.block _ (by simp; omega) (fun f => f)]
    rw [((Kept.refl (fun _ => False) W2).alloc _).block _ s2 (fun f => f)]
    exact R2.out
   have c4 : ∀ j u, (cells8 ⟨#[]⟩)[j]? = some u → w4.cell? ⟨W2.heap.size, j, none⟩ = some u := by
    intro j u hj
    refine k4.cell ?_ (fun f => f)
    unfold cells8 at hj
    rcases j with _ | _ | _ | _ | _ | _ | _ | _ | j <;> simp at hj <;> subst hj <;> simp
   have q0 := c4 0 _ rfl
   have q1 := c4 1 _ rfl
   have q2 := c4 2 _ rfl
   have q3 := c4 3 _ rfl
   have q4 := c4 4 _ rfl
   have q5 := c4 5 _ rfl
   have q6 := c4 6 _ rfl
   have q7 := c4 7 _ rfl
   have K5 := Lib.hid k5; have R4 := Lib.hid r4
   have s4 := k5.size
   clear k4 k5 r4 c4 a0
   go_wp2_with (at_builtin; refine wpList_append_own _ rfl _ _ 27 rfl w.heap.size 37 i0 _ 8 88 Try.underlying27 hi0 hz0 hz1 hz2 rfl (by decide) _ _ _ rfl (World.ownsRow_nil _ _ _ _) ⟨w4.heap.size, 0, none⟩ 1 1 (cells8 ⟨#[]⟩) rfl rfl (World.news_of_block (heap_alloc_new w4 _)) ?qa ?qb ?qc ?qd ?_)
   case qa => intro u hu; simp [cells8] at hu; rcases hu with rfl | rfl | rfl | rfl | rfl | rfl | rfl | rfl <;> rfl
   case qb => unfold maxLen; omega
   case qc => omega
   case qd => simp; omega
   intro v' w5 hown hgrow hnil
   have K6 := Lib.hid ((K5.out.alloc (Obj.cells #[.int .i64 3, .int .i64 1, .int .i64 0, .string ⟨#[97]⟩, .string ⟨#[104]⟩, .int .i64 10, .int .i64 0, .string ⟨#[]⟩] 37)).grown hgrow (fun k hk hlt => by simp [Value.ownBlock] at hk))
   have R6 := Lib.hid (show w5.heap[w.heap.size]? = some (.mapIter (some b) 1 #[0] 1) from by
    have hl : w.heap.size < w4.heap.size := (Array.getElem?_eq_some_iff.1 R4.out).1
    rw [hgrow.block _ (by simp; omega) (by simp [Value.ownBlock]), ((Kept.refl (fun _ => False) w4).alloc _).block _ hl (fun f => f)]
    exact R4.out)
   have O6 := Lib.hid hown
   obtain ⟨ao, cap, rfl⟩ : ∃ a c, v' = .slice a 1 c := by
    rcases row_form hown with ⟨_, hn⟩ | ⟨g, c, h, _⟩
    ·omega
    ·exact ⟨_, c, h⟩
   clear hown hgrow hnil
   go_wp2
   go_roundg 0
   case measure => omega
   case rel => exact .inr ⟨rfl, R6.out, K6.out, ao, cap, rfl, by simpa using O6.out⟩
  ·have hb := (kw.block b HL.out (fun f => f)).trans HM.out
   have n2 := mnext2 hb hr
   have K2 := Lib.hid kw; have O2 := Lib.hid ho
   clear hb hr kw ho
   go_wp2_with (go_at_call 30; refine (sort_any ao 1 cap _ (.inr rfl) _).mono ?_; rintro e w4 ⟨rfl, rfl⟩)
   go_ret
   exact ⟨K2.out, _, rfl, O2.out⟩

set_option maxHeartbeats 2000000 in
set_option maxRecDepth 100000 in
theorem spans_gone {w : World} {p b : Nat} (t : Int) (h1 : 70 ≤ t) (h2 : t ≤ 1000) (h : ModAt w p b ⟨#[]⟩) :
  Calls Try.prog 10 #[.pointer (some ⟨p, 0, none⟩), .int .i64 t] w fun e w' => Kept (fun _ => False) w w' ∧ e = .returned (.slice none 0 0) := by
 have N := Lib.hid (none_not p b w h.cell)
 have R := range1 h.map
 have E := Lib.hid (expired_any ⟨#[]⟩ t (by omega) (by omega))
 have hc := h.cell
 have HM := Lib.hid h.map
 have HL := Lib.hid h.lt
 have e70 : decide (70 ≤ t) = true := by simp; omega
 clear h
 go_enter Try.func10, Try.ntmps10
 go_wp2_with (go_at_call 28; refine N.out.mono ?_; rintro e w4 ⟨rfl, rfl⟩)
 clear R
 go_loopg [5] 1 (fun g s wr => (g = 1 ∧ s = .slice none 0 0 ∧ wr = w.alloc (.mapIter (some b) 1 #[] 1)) ∨ (g = 0 ∧ wr.heap[w.heap.size]? = some (.mapIter (some b) 1 #[0] 1) ∧ Kept (fun _ => False) w wr ∧ s = .slice none 0 0))
 case atStart => exact .inl ⟨rfl, rfl, rfl⟩
 case round =>
  rcases hrel with ⟨rfl, rfl, rfl⟩ | ⟨rfl, hr, kw, rfl⟩
  ·obtain ⟨W, hW⟩ : ∃ W, w.alloc (.mapIter (some b) 1 #[] 1) = W := ⟨_, rfl⟩
   have kW : Kept (fun _ => False) w W := by rw [← hW]; exact (Kept.refl _ w).alloc _
   have hr : W.heap[w.heap.size]? = some (.mapIter (some b) 1 #[] 1) := by rw [← hW]; exact heap_alloc_new w _
   have hb := (kW.block b HL.out (fun f => f)).trans HM.out
   have sW : W.heap.size = w.heap.size + 1 := by rw [← hW]; simp
   rw [hW]
   clear hW
   have n1 := mnext1 hb hr
   obtain ⟨W2, hW2⟩ : ∃ W2, setBlock W w.heap.size (.mapIter (some b) 1 #[0] 1) = W2 := ⟨_, rfl⟩
   rw [hW2] at n1
   have k2 : Kept (fun _ => False) w W2 := by rw [← hW2]; exact kept_setBlock kW (fun hh => absurd hh (Nat.lt_irrefl _)) _
   have hr2 : W2.heap[w.heap.size]? = some (.mapIter (some b) 1 #[0] 1) := by rw [← hW2]; simp [setBlock, sW]
   have hb2 := (k2.block b HL.out (fun f => f)).trans HM.out
   have n2 := entry1 hb2 hr2
   have K2 := Lib.hid k2
   have R2 := Lib.hid hr2
   unfold kV spanV at n1 n2
   clear hW2 k2 hr2 hb2 hb hr kW
   go_wp2_with fail
   refine (E.out _).mono ?_
   rw [e70]
   rintro e w4 ⟨rfl, k4⟩
   have K5 := Lib.hid ((K2.out.alloc _).trans k4 (fun _ _ f => f) (fun _ _ f => f) : Kept (fun _ => False) w w4)
   have r4 : w4.heap[w.heap.size]? = some (.mapIter (some b) 1 #[0] 1) := by
    have s2 : w.heap.size < W2.heap.size := (Array.getElem?_eq_some_iff.1 R2.out).1
    rw [k4.block _ (by simp; omega) (fun f => f)]
    rw [((Kept.refl (fun _ => False) W2).alloc _).block _ s2 (fun f => f)]
    exact R2.out
   have R4 := Lib.hid r4
   clear k4 r4
   go_wp2
   go_roundg 0
   case measure => omega
   case rel => exact .inr ⟨rfl, R4.out, K5.out, rfl⟩
  ·have hb := (kw.block b HL.out (fun f => f)).trans HM.out
   have n2 := mnext2 hb hr
   have K2 := Lib.hid kw
   clear hb hr kw
   go_wp2_with (go_at_call 30; refine (sort_any none 0 0 _ (.inl rfl) _).mono ?_; rintro e w4 ⟨rfl, rfl⟩)
   go_ret
   exact ⟨K2.out, rfl⟩
end Go.Proofs.Ytibakmchgppndaa
/- (*Model).Take of one span, new or known. -/
namespace Go.Proofs.Ytibakmchgppndaa
open Go.RowKit Go.MapKept Go.Instr Go.ChangeMaps

theorem keptFF {a b c : World} (h : Kept (fun _ => False) a b) (k : Kept (fun _ => False) b c) : Kept (fun _ => False) a c := h.trans k (fun _ _ f => f) (fun _ _ f => f)
theorem look0' {w : World} {b : Nat} (h : w.heap[b]? = some (.map #[] 0)) : (Instr.lookup 68 (.map (some b)) kV true).run Try.prog w = .ok (.tuple #[spanZ, .bool false]) w := look0 h
theorem look1' {e : ByteArray} {w : World} {b : Nat} (h : w.heap[b]? = some (.map #[⟨.agg #[.int .i64 3, .int .i64 1], .agg #[.int .i64 3, .int .i64 1, .int .i64 0, .string ⟨#[97]⟩, .string ⟨#[104]⟩, .int .i64 10, .int .i64 0, .string e], 0⟩] 1)) : (Instr.lookup 68 (.map (some b)) kV true).run Try.prog w = .ok (.tuple #[spanV e, .bool true]) w := look1 h
theorem cell_map {w : World} {b j c : Nat} {es : Array MapEntry} (h : w.heap[b]? = some (.map es c)) : w.cell? ⟨b, j, none⟩ = none := by simp [World.cell?, h]
theorem set_same {w : World} {b : Nat} (o : Obj) (h : b < w.heap.size) : (setBlock w b o).heap[b]? = some o := by simp [setBlock, h]
theorem set_other {w : World} {b c : Nat} (o : Obj) (h : b ≠ c) : (setBlock w b o).heap[c]? = w.heap[c]? := by simp [setBlock, h]

set_option maxHeartbeats 8000000 in
set_option maxRecDepth 100000 in
theorem take_new {w : World} {p b g : Nat} {n : ByteArray} (now : Int) (h1 : 10 ≤ now) (h2 : now < 70) (hn : n.size ≤ 24) (hp : w.cell? ⟨p, 0, none⟩ = some (.map (some b))) (hb : w.heap[b]? = some (.map #[] 0)) (hl : ∀ j u, (cells8 n)[j]? = some u → w.cell? ⟨g, j, none⟩ = some u) :
  Calls Try.prog 9 #[.pointer (some ⟨p, 0, none⟩), .slice (some ⟨g, 0, none⟩) 1 1, .int .i64 now] w fun e w' => e = .returned (.int .i64 1) ∧ Kept (fun k => k = b) w w' ∧ ModAt w' p b n := by
 have N := Lib.hid (none_not p b w hp)
 have E := Lib.hid (expired_any n now h1 (by omega))
 have C := Lib.hid (check_any n hn)
 have HB := Lib.hid hb
 have HL := Lib.hid hl
 have HP := Lib.hid hp
 have e70 : decide (70 ≤ now) = false := by simp; omega
 have MK : ∀ W : World, (makeMap 72 none).run Try.prog W = .ok (.map (some W.heap.size)) (W.alloc (.map #[] 0)) := fun W => run_makeMap 72 W
 have BL0 := (Array.getElem?_eq_some_iff.1 hb).1
 clear hl hb
 go_enter Try.func9, Try.ntmps9
 go_wp2_with (go_at_call 28; refine N.out.mono ?_; rintro e w4 ⟨rfl, rfl⟩)
 go_loopg [7, 19] 1 (fun gh s t wr => (gh = 1 ∧ s = .int .i64 0 ∧ t = .int .i64 0 ∧ wr = w.alloc (.map #[] 0)) ∨ (gh = 0 ∧ s = .int .i64 1 ∧ t = .int .i64 1 ∧ Kept (fun k => k = b) w wr ∧ ModAt wr p b n))
 case atStart => exact .inl ⟨rfl, rfl, rfl, rfl⟩
 case round =>
  rcases hrel with ⟨rfl, rfl, rfl, rfl⟩ | ⟨rfl, rfl, rfl, kw, hm⟩
  ·obtain ⟨W0, hW⟩ : ∃ W, w.alloc (.map #[] 0) = W := ⟨_, rfl⟩
   have kW : Kept (fun _ => False) w W0 := by rw [← hW]; exact (Kept.refl _ w).alloc _
   have hs0 : W0.heap[w.heap.size]? = some (.map #[] 0) := by rw [← hW]; exact heap_alloc_new w _
   have sW : W0.heap.size = w.heap.size + 1 := by rw [← hW]; simp
   rw [hW]
   clear hW
   have q0 := kW.cell (HL.out 0 _ rfl) (fun f => f)
   have q1 := kW.cell (HL.out 1 _ rfl) (fun f => f)
   have q2 := kW.cell (HL.out 2 _ rfl) (fun f => f)
   have q3 := kW.cell (HL.out 3 _ rfl) (fun f => f)
   have q4 := kW.cell (HL.out 4 _ rfl) (fun f => f)
   have q5 := kW.cell (HL.out 5 _ rfl) (fun f => f)
   have q6 := kW.cell (HL.out 6 _ rfl) (fun f => f)
   have q7 := kW.cell (HL.out 7 _ rfl) (fun f => f)
   have KW := Lib.hid kW; have HS := Lib.hid hs0; have SW := Lib.hid sW
   clear kW hs0 sW
   go_wp2
   obtain ⟨W, hW⟩ : ∃ W, (W0.alloc (.cells #[.int .i64 3, .int .i64 1, .int .i64 0, .string ⟨#[97]⟩, .string ⟨#[104]⟩, .int .i64 10, .int .i64 0, .string n] 37)).alloc (.cells #[.int .i64 3, .int .i64 1] 74) = W := ⟨_, rfl⟩
   obtain ⟨ns, hns⟩ : ∃ ns, W0.heap.size = ns := ⟨_, rfl⟩
   obtain ⟨nk, hnk⟩ : ∃ nk, ns + 1 = nk := ⟨_, rfl⟩
   have kA : Kept (fun _ => False) W0 (W0.alloc (.cells #[.int .i64 3, .int .i64 1, .int .i64 0, .string ⟨#[97]⟩, .string ⟨#[104]⟩, .int .i64 10, .int .i64 0, .string n] 37)) := (Kept.refl _ W0).alloc _
   have kB : Kept (fun _ => False) (W0.alloc (.cells #[.int .i64 3, .int .i64 1, .int .i64 0, .string ⟨#[97]⟩, .string ⟨#[104]⟩, .int .i64 10, .int .i64 0, .string n] 37)) W := by rw [← hW]; exact (Kept.refl _ _).alloc _
   have k0 : W.cell? ⟨nk, 0, none⟩ = some (.int .i64 3) := by rw [← hW, ← hnk, ← hns]; simp
   have k1 : W.cell? ⟨nk, 1, none⟩ = some (.int .i64 1) := by rw [← hW, ← hnk, ← hns]; simp
   have s0 : W.cell? ⟨ns, 0, none⟩ = some (.int .i64 3) := kB.cell (by rw [← hns]; simp) (fun f => f)
   have s1 : W.cell? ⟨ns, 1, none⟩ = some (.int .i64 1) := kB.cell (by rw [← hns]; simp) (fun f => f)
   have s2 : W.cell? ⟨ns, 2, none⟩ = some (.int .i64 0) := kB.cell (by rw [← hns]; simp) (fun f => f)
   have s3 : W.cell? ⟨ns, 3, none⟩ = some (.string ⟨#[97]⟩) := kB.cell (by rw [← hns]; simp) (fun f => f)
   have s4 : W.cell? ⟨ns, 4, none⟩ = some (.string ⟨#[104]⟩) := kB.cell (by rw [← hns]; simp) (fun f => f)
   have s5 : W.cell? ⟨ns, 5, none⟩ = some (.int .i64 10) := kB.cell (by rw [← hns]; simp) (fun f => f)
   have s6 : W.cell? ⟨ns, 6, none⟩ = some (.int .i64 0) := kB.cell (by rw [← hns]; simp) (fun f => f)
   have s7 : W.cell? ⟨ns, 7, none⟩ = some (.string n) := kB.cell (by rw [← hns]; simp) (fun f => f)
   have kC := keptFF KW.out (keptFF kA kB)
   have p0 := kC.cell HP.out (fun f => f)
   have hb : W.heap[b]? = some (.map #[] 0) := (kC.block b BL0 (fun f => f)).trans HB.out
   have BL := (Array.getElem?_eq_some_iff.1 hb).1
   have hsn : W.heap[w.heap.size]? = some (.map #[] 0) := ((keptFF kA kB).block _ (by have := SW.out; omega) (fun f => f)).trans HS.out
   have KC := Lib.hid kC
   rw [hW, hns, hnk]
   clear hW kA kB kC q0 q1 q2 q3 q4 q5 q6 q7
   refine wp_region_held_drew (S := (fun w' => w'.cell? ⟨p, 0, none⟩ = some (.map (some b)) ∧ w'.cell? ⟨nk, 0, none⟩ = some (.int .i64 3) ∧ w'.cell? ⟨nk, 1, none⟩ = some (.int .i64 1) ∧ w'.heap[b]? = some (.map #[] 0))) (by kernel_rfl) ?_ (fun hHeld => ?_)
   ·exact ⟨p0, k0, k1, hb⟩
   refine tW 0 opAt0 hHeld ?_
   (try simp only [Act.put]); try simp only [z2, List.set]
   refine tW 1 opAt1 hHeld ?_
   (try simp only [Act.put]); try simp only [z2, List.set]
   refine tW 2 opAt2 hHeld ?_
   (try simp only [Act.put]); try simp only [z2, List.set]
   refine tW 3 opAt3 hHeld ?_
   (try simp only [Act.put]); try simp only [z2, List.set]
   refine tW 4 opAt4 hHeld ?_
   (try simp only [Act.put]); try simp only [z2, List.set]
   refine tH (v := ?_) 5 opAt5 ?_ hHeld ?_
   case refine_2 => (intro w hSw; (try dsimp only at hSw); have LK := look0' hSw.2.2.2; unfold kV spanZ at LK; go_simp; all_goals (with_reducible rfl))
   (try simp only [Act.put]); try simp only [z2, List.set]
   refine tW 6 opAt6 hHeld ?_
   (try simp only [Act.put]); try simp only [z2, List.set]
   refine tW 7 opAt7 hHeld ?_
   (try simp only [Act.put]); try simp only [z2, List.set]
   refine tW 8 opAt8 hHeld ?_
   (try simp only [Act.put]); try simp only [z2, List.set]
   refine wpAnyH_ready (rs := [9]) (by kernel_rfl) (by simp) ?_
   refine AllReadyH.cons opAt9 (fun K hK => ?_) AllReadyH.nil
   go_simp
   skip
   refine hK.out _ _ ?_ (fun hHeld => ?_)
   ·exact ⟨(((Kept.refl (fun _ => False) W).alloc _).drew).cell p0 (fun f => f), (((Kept.refl (fun _ => False) W).alloc _).drew).cell k0 (fun f => f), (((Kept.refl (fun _ => False) W).alloc _).drew).cell k1 (fun f => f), ((((Kept.refl (fun _ => False) W).alloc _).drew).block b BL (fun f => f)).trans hb⟩
   clear hK K
   (try simp only [Act.put]); try simp only [z2, List.set]
   refine wpAnyH_ready (rs := [10]) (by kernel_rfl) (by simp) ?_
   refine AllReadyH.cons opAt10 (fun K hK => ?_) AllReadyH.nil
   go_simp
   skip
   refine hK.out _ _ ?_ (fun hHeld => ?_)
   ·exact ⟨(((Kept.refl (fun _ => False) W).alloc _).drew).cell p0 (fun f => f), (((Kept.refl (fun _ => False) W).alloc _).drew).cell k0 (fun f => f), (((Kept.refl (fun _ => False) W).alloc _).drew).cell k1 (fun f => f), ((((Kept.refl (fun _ => False) W).alloc _).drew).block b BL (fun f => f)).trans hb⟩
   clear hK K
   (try simp only [Act.put]); try simp only [z2, List.set]
   refine tW 11 opAt11 hHeld ?_
   (try simp only [Act.put]); try simp only [z2, List.set]
   refine wpAnyH_done (by kernel_rfl) ?_ _
   obtain ⟨W5, hW5⟩ : ∃ W5, (W.alloc (.cells #[.int .i64 0, .int .i64 0, .int .i64 0, .string ⟨#[]⟩, .string ⟨#[]⟩, .int .i64 0, .int .i64 0, .string ⟨#[]⟩] 37)).drew = W5 := ⟨_, rfl⟩
   have k5 : Kept (fun _ => False) W W5 := by rw [← hW5]; exact ((Kept.refl _ W).alloc _).drew
   rw [hW5]
   replace p0 := k5.cell p0 (fun f => f)
   replace k0 := k5.cell k0 (fun f => f)
   replace k1 := k5.cell k1 (fun f => f)
   replace s0 := k5.cell s0 (fun f => f)
   replace s1 := k5.cell s1 (fun f => f)
   replace s2 := k5.cell s2 (fun f => f)
   replace s3 := k5.cell s3 (fun f => f)
   replace s4 := k5.cell s4 (fun f => f)
   replace s5 := k5.cell s5 (fun f => f)
   replace s6 := k5.cell s6 (fun f => f)
   replace s7 := k5.cell s7 (fun f => f)
   replace hb := (k5.block b BL (fun f => f)).trans hb
   replace hsn := (k5.block _ (Array.getElem?_eq_some_iff.1 hsn).1 (fun f => f)).trans hsn
   replace BL := (Array.getElem?_eq_some_iff.1 hb).1
   have K5 := Lib.hid (keptFF KC.out k5)
   clear hW5 k5
   go_wp2_with fail
   refine (C.out _).mono ?_
   rintro e w6 ⟨rfl, k6⟩
   replace p0 := k6.cell p0 (fun f => f)
   replace k0 := k6.cell k0 (fun f => f)
   replace k1 := k6.cell k1 (fun f => f)
   replace s0 := k6.cell s0 (fun f => f)
   replace s1 := k6.cell s1 (fun f => f)
   replace s2 := k6.cell s2 (fun f => f)
   replace s3 := k6.cell s3 (fun f => f)
   replace s4 := k6.cell s4 (fun f => f)
   replace s5 := k6.cell s5 (fun f => f)
   replace s6 := k6.cell s6 (fun f => f)
   replace s7 := k6.cell s7 (fun f => f)
   replace hb := (k6.block b BL (fun f => f)).trans hb
   replace hsn := (k6.block _ (Array.getElem?_eq_some_iff.1 hsn).1 (fun f => f)).trans hsn
   replace BL := (Array.getElem?_eq_some_iff.1 hb).1
   have K6 := Lib.hid (keptFF K5.out k6)
   clear k6
   go_wp2_with fail
   refine (E.out _).mono ?_
   rw [e70]
   rintro e w7 ⟨rfl, k7⟩
   replace p0 := k7.cell p0 (fun f => f)
   replace k0 := k7.cell k0 (fun f => f)
   replace k1 := k7.cell k1 (fun f => f)
   replace s0 := k7.cell s0 (fun f => f)
   replace s1 := k7.cell s1 (fun f => f)
   replace s2 := k7.cell s2 (fun f => f)
   replace s3 := k7.cell s3 (fun f => f)
   replace s4 := k7.cell s4 (fun f => f)
   replace s5 := k7.cell s5 (fun f => f)
   replace s6 := k7.cell s6 (fun f => f)
   replace s7 := k7.cell s7 (fun f => f)
   replace hb := (k7.block b BL (fun f => f)).trans hb
   replace hsn := (k7.block _ (Array.getElem?_eq_some_iff.1 hsn).1 (fun f => f)).trans hsn
   replace BL := (Array.getElem?_eq_some_iff.1 hb).1
   have K7 := Lib.hid (keptFF K6.out k7)
   clear k7
   have SE := seen0 hsn
   unfold kV at SE
   go_wp2
   clear SE
   have np : ¬ p = b := fun e => by have h := cell_map (j := 0) hb; rw [← e, p0] at h; cases h
   have nnk : ¬ nk = b := fun e => by have h := cell_map (j := 0) hb; rw [← e, k0] at h; cases h
   have nns : ¬ ns = b := fun e => by have h := cell_map (j := 0) hb; rw [← e, s0] at h; cases h
   have np2 : ¬ p = w.heap.size := fun e => by have h := cell_map (j := 0) hsn; rw [← e, p0] at h; cases h
   have nnk2 : ¬ nk = w.heap.size := fun e => by have h := cell_map (j := 0) hsn; rw [← e, k0] at h; cases h
   have nns2 : ¬ ns = w.heap.size := fun e => by have h := cell_map (j := 0) hsn; rw [← e, s0] at h; cases h
   have nbs : b ≠ w.heap.size := by omega
   obtain ⟨A1, hA1⟩ : ∃ A, setBlock w7.drew b (.map #[⟨kV, spanZ, 0⟩] 1) = A := ⟨_, rfl⟩
   obtain ⟨A2, hA2⟩ : ∃ A, setBlock A1 b (.map #[⟨kV, spanV n, 0⟩] 1) = A := ⟨_, rfl⟩
   obtain ⟨A3, hA3⟩ : ∃ A, setBlock A2 w.heap.size (.map #[⟨kV, .int .i64 1, 0⟩] 1) = A := ⟨_, rfl⟩
   have b1 : A1.heap[b]? = some (.map #[⟨kV, spanZ, 0⟩] 1) := by rw [← hA1]; exact set_same _ BL
   have b2 : A2.heap[b]? = some (.map #[⟨kV, spanV n, 0⟩] 1) := by rw [← hA2]; exact set_same _ (Array.getElem?_eq_some_iff.1 b1).1
   have b3 : A3.heap[b]? = some (.map #[⟨kV, spanV n, 0⟩] 1) := by rw [← hA3, set_other _ nbs.symm]; exact b2
   have c1 : A1.heap[w.heap.size]? = some (.map #[] 0) := by rw [← hA1, set_other _ nbs]; exact hsn
   have c2 : A2.heap[w.heap.size]? = some (.map #[] 0) := by rw [← hA2, set_other _ nbs]; exact c1
   have EQ1 := entry0 (w := w7.drew) (b := b) hb
   have EQ2 := store1 (v := spanV n) b1
   have EQ3 := put0 c2 (.int .i64 1)
   rw [hA1] at EQ1; rw [hA2] at EQ2; rw [hA3] at EQ3
   unfold kV spanZ at EQ1; unfold spanV at EQ2; unfold kV at EQ3
   have KE1 : Kept (fun k => k = b) w7.drew A1 := by rw [← hA1]; exact kept_setBlock (S := fun k => k = _) (Kept.refl _ _) (fun _ => rfl) _
   have KE2 : Kept (fun k => k = b) A1 A2 := by rw [← hA2]; exact kept_setBlock (S := fun k => k = _) (Kept.refl _ _) (fun _ => rfl) _
   have KE3 : Kept (fun k => k = w.heap.size) A2 A3 := by rw [← hA3]; exact kept_setBlock (S := fun k => k = _) (Kept.refl _ _) (fun _ => rfl) _
   have B3 := Lib.hid b3
   have p5 := p0; have k05 := k0; have k15 := k1
   clear hA1 hA2 hA3 b1 b2 b3 c1 c2 hb hsn
   refine wp_region_held_drew (S := (fun w' => w'.cell? ⟨p, 0, none⟩ = some (.map (some b)) ∧ w'.cell? ⟨nk, 0, none⟩ = some (.int .i64 3) ∧ w'.cell? ⟨nk, 1, none⟩ = some (.int .i64 1) ∧ w'.cell? ⟨ns, 0, none⟩ = some (.int .i64 3) ∧ w'.cell? ⟨ns, 1, none⟩ = some (.int .i64 1) ∧ w'.cell? ⟨ns, 2, none⟩ = some (.int .i64 0) ∧ w'.cell? ⟨ns, 3, none⟩ = some (.string ⟨#[97]⟩) ∧ w'.cell? ⟨ns, 4, none⟩ = some (.string ⟨#[104]⟩) ∧ w'.cell? ⟨ns, 5, none⟩ = some (.int .i64 10) ∧ w'.cell? ⟨ns, 6, none⟩ = some (.int .i64 0) ∧ w'.cell? ⟨ns, 7, none⟩ = some (.string n))) (by kernel_rfl) ?_ (fun hHeld => ?_)
   ·exact ⟨p5, k05, k15, s0, s1, s2, s3, s4, s5, s6, s7⟩
   refine tW 0 opAt0 hHeld ?_
   (try simp only [Act.put]); try simp only [z2, List.set]
   refine tW 1 opAt1 hHeld ?_
   (try simp only [Act.put]); try simp only [z2, List.set]
   refine tW 2 opAt2 hHeld ?_
   (try simp only [Act.put]); try simp only [z2, List.set]
   refine tW 3 opAt3 hHeld ?_
   (try simp only [Act.put]); try simp only [z2, List.set]
   refine tW 4 opAt4 hHeld ?_
   (try simp only [Act.put]); try simp only [z2, List.set]
   refine tW 5 opAt5 hHeld ?_
   (try simp only [Act.put]); try simp only [z2, List.set]
   refine tW 6 opAt6 hHeld ?_
   (try simp only [Act.put]); try simp only [z2, List.set]
   refine tW 7 opAt7 hHeld ?_
   (try simp only [Act.put]); try simp only [z2, List.set]
   refine wpAnyH_ready (rs := [8]) (by kernel_rfl) (by simp) ?_
   refine AllReadyH.cons opAt8 (fun K hK => ?_) AllReadyH.nil
   go_simp
   skip
   refine hK.out _ _ ?_ (fun hHeld => ?_)
   ·exact ⟨KE1.cell hHeld.1 (fun e => np e), KE1.cell hHeld.2.1 (fun e => nnk e), KE1.cell hHeld.2.2.1 (fun e => nnk e), KE1.cell hHeld.2.2.2.1 (fun e => nns e), KE1.cell hHeld.2.2.2.2.1 (fun e => nns e), KE1.cell hHeld.2.2.2.2.2.1 (fun e => nns e), KE1.cell hHeld.2.2.2.2.2.2.1 (fun e => nns e), KE1.cell hHeld.2.2.2.2.2.2.2.1 (fun e => nns e), KE1.cell hHeld.2.2.2.2.2.2.2.2.1 (fun e => nns e), KE1.cell hHeld.2.2.2.2.2.2.2.2.2.1 (fun e => nns e), KE1.cell hHeld.2.2.2.2.2.2.2.2.2.2 (fun e => nns e)⟩
   clear hK K
   (try simp only [Act.put]); try simp only [z2, List.set]
   refine tW 9 opAt9 hHeld ?_
   (try simp only [Act.put]); try simp only [z2, List.set]
   refine wpAnyH_ready (rs := [10]) (by kernel_rfl) (by simp) ?_
   refine AllReadyH.cons opAt10 (fun K hK => ?_) AllReadyH.nil
   go_simp
   skip
   refine hK.out _ _ ?_ (fun hHeld => ?_)
   ·exact ⟨KE2.cell hHeld.1 (fun e => np e), KE2.cell hHeld.2.1 (fun e => nnk e), KE2.cell hHeld.2.2.1 (fun e => nnk e), KE2.cell hHeld.2.2.2.1 (fun e => nns e), KE2.cell hHeld.2.2.2.2.1 (fun e => nns e), KE2.cell hHeld.2.2.2.2.2.1 (fun e => nns e), KE2.cell hHeld.2.2.2.2.2.2.1 (fun e => nns e), KE2.cell hHeld.2.2.2.2.2.2.2.1 (fun e => nns e), KE2.cell hHeld.2.2.2.2.2.2.2.2.1 (fun e => nns e), KE2.cell hHeld.2.2.2.2.2.2.2.2.2.1 (fun e => nns e), KE2.cell hHeld.2.2.2.2.2.2.2.2.2.2 (fun e => nns e)⟩
   clear hK K
   (try simp only [Act.put]); try simp only [z2, List.set]
   refine wpAnyH_ready (rs := [11]) (by kernel_rfl) (by simp) ?_
   refine AllReadyH.cons opAt11 (fun K hK => ?_) AllReadyH.nil
   go_simp
   skip
   refine hK.out _ _ ?_ (fun hHeld => ?_)
   ·exact ⟨KE3.cell hHeld.1 (fun e => np2 e), KE3.cell hHeld.2.1 (fun e => nnk2 e), KE3.cell hHeld.2.2.1 (fun e => nnk2 e), KE3.cell hHeld.2.2.2.1 (fun e => nns2 e), KE3.cell hHeld.2.2.2.2.1 (fun e => nns2 e), KE3.cell hHeld.2.2.2.2.2.1 (fun e => nns2 e), KE3.cell hHeld.2.2.2.2.2.2.1 (fun e => nns2 e), KE3.cell hHeld.2.2.2.2.2.2.2.1 (fun e => nns2 e), KE3.cell hHeld.2.2.2.2.2.2.2.2.1 (fun e => nns2 e), KE3.cell hHeld.2.2.2.2.2.2.2.2.2.1 (fun e => nns2 e), KE3.cell hHeld.2.2.2.2.2.2.2.2.2.2 (fun e => nns2 e)⟩
   clear hK K
   (try simp only [Act.put]); try simp only [z2, List.set]
   refine wpAnyH_done (by kernel_rfl) ?_ _
   have kf : Kept (fun k => k = b) w A3 := (((K7.out.drew).mono (fun _ _ f => f.elim)).trans (KE1.trans KE2 (fun _ _ h => h) (fun _ _ h => h)) (fun _ _ h => h) (fun _ _ h => h)).trans KE3 (fun _ _ h => h) (fun i hi h => by omega)
   have pf : A3.cell? ⟨p, 0, none⟩ = some (.map (some b)) := KE3.cell (KE2.cell (KE1.cell p5 np) np) np2
   have KF := Lib.hid kf
   have MF := Lib.hid (show ModAt A3 p b n from ⟨pf, B3.out⟩)
   clear kf pf EQ1 EQ2 EQ3
   go_wp2
   go_roundg 0
   case measure => omega
   case rel => exact .inr ⟨rfl, by go_num, by go_num, KF.out, MF.out⟩
  ·have KF := Lib.hid kw; have MF := Lib.hid hm
   clear kw hm
   go_wp2
   go_ret
   exact ⟨rfl, KF.out, MF.out⟩

set_option maxHeartbeats 8000000 in
set_option maxRecDepth 100000 in
theorem take_old {w : World} {p b g : Nat} {n e : ByteArray} (now : Int) (h1 : 10 ≤ now) (h2 : now ≤ 70) (hn : n.size ≤ 24) (hm : ModAt w p b e) (hl : ∀ j u, (cells8 n)[j]? = some u → w.cell? ⟨g, j, none⟩ = some u) :
  Calls Try.prog 9 #[.pointer (some ⟨p, 0, none⟩), .slice (some ⟨g, 0, none⟩) 1 1, .int .i64 now] w fun r w' => r = .returned (.int .i64 0) ∧ Kept (fun _ => False) w w' := by
 have N := Lib.hid (none_not p b w hm.cell)
 have E := Lib.hid (expired_any n now h1 (by omega))
 have E2 := Lib.hid (expired_any e now h1 (by omega))
 have C := Lib.hid (check_any n hn)
 have HB := Lib.hid hm.map
 have HL := Lib.hid hl
 have HP := Lib.hid hm.cell
 have MK : ∀ W : World, (makeMap 72 none).run Try.prog W = .ok (.map (some W.heap.size)) (W.alloc (.map #[] 0)) := fun W => run_makeMap 72 W
 have BL0 := hm.lt
 have hp := hm.cell
 clear hl hm
 go_enter Try.func9, Try.ntmps9
 go_wp2_with (go_at_call 28; refine N.out.mono ?_; rintro e w4 ⟨rfl, rfl⟩)
 go_loopg [7, 19] 1 (fun gh s t wr => (gh = 1 ∧ s = .int .i64 0 ∧ t = .int .i64 0 ∧ wr = w.alloc (.map #[] 0)) ∨ (gh = 0 ∧ s = .int .i64 0 ∧ t = .int .i64 1 ∧ Kept (fun _ => False) w wr))
 case atStart => exact .inl ⟨rfl, rfl, rfl, rfl⟩
 case round =>
  rcases hrel with ⟨rfl, rfl, rfl, rfl⟩ | ⟨rfl, rfl, rfl, kw⟩
  ·obtain ⟨W0, hW⟩ : ∃ W, w.alloc (.map #[] 0) = W := ⟨_, rfl⟩
   have kW : Kept (fun _ => False) w W0 := by rw [← hW]; exact (Kept.refl _ w).alloc _
   have hs0 : W0.heap[w.heap.size]? = some (.map #[] 0) := by rw [← hW]; exact heap_alloc_new w _
   have sW : W0.heap.size = w.heap.size + 1 := by rw [← hW]; simp
   rw [hW]
   clear hW
   have q0 := kW.cell (HL.out 0 _ rfl) (fun f => f)
   have q1 := kW.cell (HL.out 1 _ rfl) (fun f => f)
   have q2 := kW.cell (HL.out 2 _ rfl) (fun f => f)
   have q3 := kW.cell (HL.out 3 _ rfl) (fun f => f)
   have q4 := kW.cell (HL.out 4 _ rfl) (fun f => f)
   have q5 := kW.cell (HL.out 5 _ rfl) (fun f => f)
   have q6 := kW.cell (HL.out 6 _ rfl) (fun f => f)
   have q7 := kW.cell (HL.out 7 _ rfl) (fun f => f)
   have KW := Lib.hid kW; have HS := Lib.hid hs0; have SW := Lib.hid sW
   clear kW hs0 sW
   go_wp2
   obtain ⟨W, hW⟩ : ∃ W, (W0.alloc (.cells #[.int .i64 3, .int .i64 1, .int .i64 0, .string ⟨#[97]⟩, .string ⟨#[104]⟩, .int .i64 10, .int .i64 0, .string n] 37)).alloc (.cells #[.int .i64 3, .int .i64 1] 74) = W := ⟨_, rfl⟩
   obtain ⟨ns, hns⟩ : ∃ ns, W0.heap.size = ns := ⟨_, rfl⟩
   obtain ⟨nk, hnk⟩ : ∃ nk, ns + 1 = nk := ⟨_, rfl⟩
   have kA : Kept (fun _ => False) W0 (W0.alloc (.cells #[.int .i64 3, .int .i64 1, .int .i64 0, .string ⟨#[97]⟩, .string ⟨#[104]⟩, .int .i64 10, .int .i64 0, .string n] 37)) := (Kept.refl _ W0).alloc _
   have kB : Kept (fun _ => False) (W0.alloc (.cells #[.int .i64 3, .int .i64 1, .int .i64 0, .string ⟨#[97]⟩, .string ⟨#[104]⟩, .int .i64 10, .int .i64 0, .string n] 37)) W := by rw [← hW]; exact (Kept.refl _ _).alloc _
   have k0 : W.cell? ⟨nk, 0, none⟩ = some (.int .i64 3) := by rw [← hW, ← hnk, ← hns]; simp
   have k1 : W.cell? ⟨nk, 1, none⟩ = some (.int .i64 1) := by rw [← hW, ← hnk, ← hns]; simp
   have s0 : W.cell? ⟨ns, 0, none⟩ = some (.int .i64 3) := kB.cell (by rw [← hns]; simp) (fun f => f)
   have s1 : W.cell? ⟨ns, 1, none⟩ = some (.int .i64 1) := kB.cell (by rw [← hns]; simp) (fun f => f)
   have s2 : W.cell? ⟨ns, 2, none⟩ = some (.int .i64 0) := kB.cell (by rw [← hns]; simp) (fun f => f)
   have s3 : W.cell? ⟨ns, 3, none⟩ = some (.string ⟨#[97]⟩) := kB.cell (by rw [← hns]; simp) (fun f => f)
   have s4 : W.cell? ⟨ns, 4, none⟩ = some (.string ⟨#[104]⟩) := kB.cell (by rw [← hns]; simp) (fun f => f)
   have s5 : W.cell? ⟨ns, 5, none⟩ = some (.int .i64 10) := kB.cell (by rw [← hns]; simp) (fun f => f)
   have s6 : W.cell? ⟨ns, 6, none⟩ = some (.int .i64 0) := kB.cell (by rw [← hns]; simp) (fun f => f)
   have s7 : W.cell? ⟨ns, 7, none⟩ = some (.string n) := kB.cell (by rw [← hns]; simp) (fun f => f)
   have kC := keptFF KW.out (keptFF kA kB)
   have p0 := kC.cell HP.out (fun f => f)
   have hb : W.heap[b]? = some (.map #[⟨kV, spanV e, 0⟩] 1) := (kC.block b BL0 (fun f => f)).trans HB.out
   have BL := (Array.getElem?_eq_some_iff.1 hb).1
   have hsn : W.heap[w.heap.size]? = some (.map #[] 0) := ((keptFF kA kB).block _ (by have := SW.out; omega) (fun f => f)).trans HS.out
   have KC := Lib.hid kC
   rw [hW, hns, hnk]
   have b' : W.heap[b]? = some (.map #[⟨.agg #[.int .i64 3, .int .i64 1], .agg #[.int .i64 3, .int .i64 1, .int .i64 0, .string ⟨#[97]⟩, .string ⟨#[104]⟩, .int .i64 10, .int .i64 0, .string e], 0⟩] 1) := hb
   clear hW kA kB kC q0 q1 q2 q3 q4 q5 q6 q7 hb
   have hb := b'
   refine wp_region_held_drew (S := (fun w' => w'.cell? ⟨p, 0, none⟩ = some (.map (some b)) ∧ w'.cell? ⟨nk, 0, none⟩ = some (.int .i64 3) ∧ w'.cell? ⟨nk, 1, none⟩ = some (.int .i64 1) ∧ w'.heap[b]? = some (.map #[⟨.agg #[.int .i64 3, .int .i64 1], .agg #[.int .i64 3, .int .i64 1, .int .i64 0, .string ⟨#[97]⟩, .string ⟨#[104]⟩, .int .i64 10, .int .i64 0, .string e], 0⟩] 1))) (by kernel_rfl) ?_ (fun hHeld => ?_)
   ·exact ⟨p0, k0, k1, hb⟩
   refine tW 0 opAt0 hHeld ?_
   (try simp only [Act.put]); try simp only [z2, List.set]
   refine tW 1 opAt1 hHeld ?_
   (try simp only [Act.put]); try simp only [z2, List.set]
   refine tW 2 opAt2 hHeld ?_
   (try simp only [Act.put]); try simp only [z2, List.set]
   refine tW 3 opAt3 hHeld ?_
   (try simp only [Act.put]); try simp only [z2, List.set]
   refine tW 4 opAt4 hHeld ?_
   (try simp only [Act.put]); try simp only [z2, List.set]
   refine tH (v := ?_) 5 opAt5 ?_ hHeld ?_
   case refine_2 => (intro w hSw; (try dsimp only at hSw); have LK := look1' hSw.2.2.2; unfold kV spanV at LK; go_simp; all_goals (with_reducible rfl))
   (try simp only [Act.put]); try simp only [z2, List.set]
   refine tW 6 opAt6 hHeld ?_
   (try simp only [Act.put]); try simp only [z2, List.set]
   refine tW 7 opAt7 hHeld ?_
   (try simp only [Act.put]); try simp only [z2, List.set]
   refine tW 8 opAt8 hHeld ?_
   (try simp only [Act.put]); try simp only [z2, List.set]
   refine wpAnyH_ready (rs := [9]) (by kernel_rfl) (by simp) ?_
   refine AllReadyH.cons opAt9 (fun K hK => ?_) AllReadyH.nil
   go_simp
   skip
   refine hK.out _ _ ?_ (fun hHeld => ?_)
   ·exact ⟨(((Kept.refl (fun _ => False) W).alloc _).drew).cell p0 (fun f => f), (((Kept.refl (fun _ => False) W).alloc _).drew).cell k0 (fun f => f), (((Kept.refl (fun _ => False) W).alloc _).drew).cell k1 (fun f => f), ((((Kept.refl (fun _ => False) W).alloc _).drew).block b BL (fun f => f)).trans hb⟩
   clear hK K
   (try simp only [Act.put]); try simp only [z2, List.set]
   refine wpAnyH_ready (rs := [10]) (by kernel_rfl) (by simp) ?_
   refine AllReadyH.cons opAt10 (fun K hK => ?_) AllReadyH.nil
   go_simp
   skip
   refine hK.out _ _ ?_ (fun hHeld => ?_)
   ·exact ⟨(((Kept.refl (fun _ => False) W).alloc _).drew).cell p0 (fun f => f), (((Kept.refl (fun _ => False) W).alloc _).drew).cell k0 (fun f => f), (((Kept.refl (fun _ => False) W).alloc _).drew).cell k1 (fun f => f), ((((Kept.refl (fun _ => False) W).alloc _).drew).block b BL (fun f => f)).trans hb⟩
   clear hK K
   (try simp only [Act.put]); try simp only [z2, List.set]
   refine tW 11 opAt11 hHeld ?_
   (try simp only [Act.put]); try simp only [z2, List.set]
   refine wpAnyH_done (by kernel_rfl) ?_ _
   obtain ⟨W5, hW5⟩ : ∃ W5, (W.alloc (.cells #[.int .i64 3, .int .i64 1, .int .i64 0, .string ⟨#[97]⟩, .string ⟨#[104]⟩, .int .i64 10, .int .i64 0, .string e] 37)).drew = W5 := ⟨_, rfl⟩
   have k5 : Kept (fun _ => False) W W5 := by rw [← hW5]; exact ((Kept.refl _ W).alloc _).drew
   obtain ⟨no, hno⟩ : ∃ no, W.heap.size = no := ⟨_, rfl⟩
   have o0 : W5.cell? ⟨no, 0, none⟩ = some (.int .i64 3) := by rw [← hW5, ← hno]; simp
   have o1 : W5.cell? ⟨no, 1, none⟩ = some (.int .i64 1) := by rw [← hW5, ← hno]; simp
   have o2 : W5.cell? ⟨no, 2, none⟩ = some (.int .i64 0) := by rw [← hW5, ← hno]; simp
   have o3 : W5.cell? ⟨no, 3, none⟩ = some (.string ⟨#[97]⟩) := by rw [← hW5, ← hno]; simp
   have o4 : W5.cell? ⟨no, 4, none⟩ = some (.string ⟨#[104]⟩) := by rw [← hW5, ← hno]; simp
   have o5 : W5.cell? ⟨no, 5, none⟩ = some (.int .i64 10) := by rw [← hW5, ← hno]; simp
   have o6 : W5.cell? ⟨no, 6, none⟩ = some (.int .i64 0) := by rw [← hW5, ← hno]; simp
   have o7 : W5.cell? ⟨no, 7, none⟩ = some (.string e) := by rw [← hW5, ← hno]; simp
   rw [hW5, hno]
   replace p0 := k5.cell p0 (fun f => f)
   replace k0 := k5.cell k0 (fun f => f)
   replace k1 := k5.cell k1 (fun f => f)
   replace s0 := k5.cell s0 (fun f => f)
   replace s1 := k5.cell s1 (fun f => f)
   replace s2 := k5.cell s2 (fun f => f)
   replace s3 := k5.cell s3 (fun f => f)
   replace s4 := k5.cell s4 (fun f => f)
   replace s5 := k5.cell s5 (fun f => f)
   replace s6 := k5.cell s6 (fun f => f)
   replace s7 := k5.cell s7 (fun f => f)
   replace hb := (k5.block b BL (fun f => f)).trans hb
   replace hsn := (k5.block _ (Array.getElem?_eq_some_iff.1 hsn).1 (fun f => f)).trans hsn
   replace BL := (Array.getElem?_eq_some_iff.1 hb).1
   have K5 := Lib.hid (keptFF KC.out k5)
   clear hW5 k5
   go_wp2_with fail
   refine (C.out _).mono ?_
   rintro r w6 ⟨rfl, k6⟩
   replace p0 := k6.cell p0 (fun f => f)
   replace k0 := k6.cell k0 (fun f => f)
   replace k1 := k6.cell k1 (fun f => f)
   replace s0 := k6.cell s0 (fun f => f)
   replace s1 := k6.cell s1 (fun f => f)
   replace s2 := k6.cell s2 (fun f => f)
   replace s3 := k6.cell s3 (fun f => f)
   replace s4 := k6.cell s4 (fun f => f)
   replace s5 := k6.cell s5 (fun f => f)
   replace s6 := k6.cell s6 (fun f => f)
   replace s7 := k6.cell s7 (fun f => f)
   replace o0 := k6.cell o0 (fun f => f)
   replace o1 := k6.cell o1 (fun f => f)
   replace o2 := k6.cell o2 (fun f => f)
   replace o3 := k6.cell o3 (fun f => f)
   replace o4 := k6.cell o4 (fun f => f)
   replace o5 := k6.cell o5 (fun f => f)
   replace o6 := k6.cell o6 (fun f => f)
   replace o7 := k6.cell o7 (fun f => f)
   replace hb := (k6.block b BL (fun f => f)).trans hb
   replace hsn := (k6.block _ (Array.getElem?_eq_some_iff.1 hsn).1 (fun f => f)).trans hsn
   replace BL := (Array.getElem?_eq_some_iff.1 hb).1
   have K6 := Lib.hid (keptFF K5.out k6)
   clear k6
   go_wp2_with fail
   refine (E.out _).mono ?_
   by_cases hnow : 70 ≤ now
   ·rw [decide_eq_true hnow]
    rintro r w7 ⟨rfl, k7⟩
    have K7 := Lib.hid (keptFF K6.out k7)
    clear k7
    go_wp2
    go_roundg 0
    case measure => omega
    case rel => exact .inr ⟨rfl, rfl, by go_num, K7.out⟩
   ·rw [decide_eq_false hnow]
    rintro r w7 ⟨rfl, k7⟩
    replace p0 := k7.cell p0 (fun f => f)
    replace k0 := k7.cell k0 (fun f => f)
    replace k1 := k7.cell k1 (fun f => f)
    replace s0 := k7.cell s0 (fun f => f)
    replace s1 := k7.cell s1 (fun f => f)
    replace s2 := k7.cell s2 (fun f => f)
    replace s3 := k7.cell s3 (fun f => f)
    replace s4 := k7.cell s4 (fun f => f)
    replace s5 := k7.cell s5 (fun f => f)
    replace s6 := k7.cell s6 (fun f => f)
    replace s7 := k7.cell s7 (fun f => f)
    replace o0 := k7.cell o0 (fun f => f)
    replace o1 := k7.cell o1 (fun f => f)
    replace o2 := k7.cell o2 (fun f => f)
    replace o3 := k7.cell o3 (fun f => f)
    replace o4 := k7.cell o4 (fun f => f)
    replace o5 := k7.cell o5 (fun f => f)
    replace o6 := k7.cell o6 (fun f => f)
    replace o7 := k7.cell o7 (fun f => f)
    replace hb := (k7.block b BL (fun f => f)).trans hb
    replace hsn := (k7.block _ (Array.getElem?_eq_some_iff.1 hsn).1 (fun f => f)).trans hsn
    replace BL := (Array.getElem?_eq_some_iff.1 hb).1
    have K7 := Lib.hid (keptFF K6.out k7)
    clear k7
    have SE := seen0 hsn
    unfold kV at SE
    go_wp2_with fail
    refine (E2.out _).mono ?_
    rw [decide_eq_false (show ¬ 70 ≤ now by omega)]
    rintro r w8 ⟨rfl, k8⟩
    have K8 := Lib.hid (keptFF K7.out k8)
    clear k8 SE
    go_wp2
    go_roundg 0
    case measure => omega
    case rel => exact .inr ⟨rfl, rfl, by go_num, K8.out⟩
  ·have KF := Lib.hid kw
   clear kw
   go_wp2
   go_ret
   exact ⟨rfl, KF.out⟩
end Go.Proofs.Ytibakmchgppndaa
/- (*Model).Find of the chapter's span; SameSpans, SameInts of one. -/
namespace Go.Proofs.Ytibakmchgppndaa
open Go.RowKit Go.MapKept Go.Instr Go.ChangeMaps

theorem inf3 : (Try.prog.info? 3).map (fun i => (i.zero, i.size, i.bytes)) = some (some (.int .i64 0), 1, 8) := by kernel_rfl
set_option maxRecDepth 100000 in
theorem compact_one (a : Option Addr) (c : Nat) (w : World) : Calls Try.prog 42 #[.slice a 1 c] w fun e w' => e = .returned (.slice a 1 c) ∧ w = w' := by
 go_enter Try.func42, Try.ntmps42
 go_wp2
 go_ret
 exact ⟨rfl, rfl⟩
theorem row_one {w : World} {base : Nat} {v : Value} {e : ByteArray} (h : w.ownsRow base 37 8 v 1 (cells8 e)) : ∃ g cap, v = .slice (some ⟨g, 0, none⟩) 1 cap ∧ 1 ≤ cap ∧ g < w.heap.size ∧ ∀ j u, (cells8 e)[j]? = some u → w.cell? ⟨g, j, none⟩ = some u := by
 rcases row_form h with ⟨_, h0⟩ | ⟨g, cap, rfl, h1, h2, h3, h4⟩
 ·omega
 ·exact ⟨g, cap, rfl, h1, h3, h4⟩

set_option maxHeartbeats 4000000 in
set_option maxRecDepth 100000 in
theorem find_any {w : World} {p b : Nat} (h : ModAt w p b ⟨#[]⟩) :
  Calls Try.prog 20 #[.pointer (some ⟨p, 0, none⟩), .agg #[.string ⟨#[97]⟩, .string ⟨#[104]⟩, .int .i64 10, .int .i64 10, .int .i64 5], .int .i64 30] w fun e w' => Kept (fun _ => False) w w' ∧ ∃ g cap, e = .returned (.tuple #[.slice (some ⟨g, 0, none⟩) 1 cap, .int .i64 0]) ∧ w'.cell? ⟨g, 0, none⟩ = some (.int .i64 3) := by
 obtain ⟨i0, hi0, hz0, hz1, hz2⟩ := info_parts inf3
 have N0 := Lib.hid (name_one ⟨#[97]⟩ 97 rfl (by omega) (by omega))
 have N1 := Lib.hid (name_one ⟨#[104]⟩ 104 rfl (by omega) (by omega))
 have HM := Lib.hid h
 clear h
 go_enter Try.func20, Try.ntmps20
 go_wp2_with fail
 obtain ⟨W, hW⟩ : ∃ W, w.alloc (.cells #[.string ⟨#[97]⟩, .string ⟨#[104]⟩, .int .i64 10, .int .i64 10, .int .i64 5] 40) = W := ⟨_, rfl⟩
 obtain ⟨nq, hnq⟩ : ∃ nq, w.heap.size = nq := ⟨_, rfl⟩
 have k0 : Kept (fun _ => False) w W := by rw [← hW]; exact (Kept.refl _ w).alloc _
 have q0 : W.cell? ⟨nq, 0, none⟩ = some (.string ⟨#[97]⟩) := by rw [← hW, ← hnq]; simp
 have q1 : W.cell? ⟨nq, 1, none⟩ = some (.string ⟨#[104]⟩) := by rw [← hW, ← hnq]; simp
 have q2 : W.cell? ⟨nq, 2, none⟩ = some (.int .i64 10) := by rw [← hW, ← hnq]; simp
 have q3 : W.cell? ⟨nq, 3, none⟩ = some (.int .i64 10) := by rw [← hW, ← hnq]; simp
 have q4 : W.cell? ⟨nq, 4, none⟩ = some (.int .i64 5) := by rw [← hW, ← hnq]; simp
 rw [hW, hnq]
 have K0 := Lib.hid k0
 have M0 := Lib.hid (HM.out.kept k0)
 clear hW k0 hnq
 refine (none_not p b W M0.out.cell).mono ?_
 rintro e w1 ⟨rfl, rfl⟩
 go_wp2_with fail
 refine (N0.out _).mono ?_
 rintro e w2 ⟨rfl, k2⟩
 replace q0 := k2.cell q0 (fun f => f)
 replace q1 := k2.cell q1 (fun f => f)
 replace q2 := k2.cell q2 (fun f => f)
 replace q3 := k2.cell q3 (fun f => f)
 replace q4 := k2.cell q4 (fun f => f)
 have K2 := Lib.hid (keptFF K0.out k2)
 clear k2
 go_wp2_with fail
 refine (N1.out _).mono ?_
 rintro e w3 ⟨rfl, k3⟩
 replace q0 := k3.cell q0 (fun f => f)
 replace q1 := k3.cell q1 (fun f => f)
 replace q2 := k3.cell q2 (fun f => f)
 replace q3 := k3.cell q3 (fun f => f)
 replace q4 := k3.cell q4 (fun f => f)
 have K3 := Lib.hid (keptFF K2.out k3)
 clear k3
 go_wp2_with fail
 refine (spans_live 30 (by omega) (by omega) (HM.out.kept K3.out)).mono ?_
 rintro e w4 ⟨k4, v, rfl, ho⟩
 obtain ⟨g, cap, rfl, hcap, hg, hc⟩ := row_one ho
 replace q0 := k4.cell q0 (fun f => f)
 replace q1 := k4.cell q1 (fun f => f)
 replace q2 := k4.cell q2 (fun f => f)
 replace q3 := k4.cell q3 (fun f => f)
 replace q4 := k4.cell q4 (fun f => f)
 have K4 := Lib.hid (keptFF K3.out k4)
 have c0 := hc 0 _ rfl
 have c1 := hc 1 _ rfl
 have c2 := hc 2 _ rfl
 have c3 := hc 3 _ rfl
 have c4 := hc 4 _ rfl
 have c5 := hc 5 _ rfl
 have c6 := hc 6 _ rfl
 have c7 := hc 7 _ rfl
 clear k4 ho hc
 go_wp2
 go_loopg [8, 49] 1 (fun gh s t wr => (gh = 1 ∧ s = .slice none 0 0 ∧ t = .int .i64 0 ∧ wr = w4) ∨ (gh = 0 ∧ t = .int .i64 1 ∧ Kept (fun _ => False) w wr ∧ Kept (fun _ => False) w4 wr ∧ ∃ ao cap, s = .slice ao 1 cap ∧ wr.ownsRow w.heap.size 3 1 s 1 [.int .i64 3]))
 case atStart => exact .inl ⟨rfl, rfl, rfl, rfl⟩
 case round =>
  rcases hrel with ⟨rfl, rfl, rfl, rfl⟩ | ⟨rfl, rfl, kw, kw4, ao, cap2, rfl, ho⟩
  ·have kz : Kept (fun _ => False) wr (wr.alloc (Obj.cells #[.int .i64 3, .int .i64 1, .int .i64 0, .string ⟨#[97]⟩, .string ⟨#[104]⟩, .int .i64 10, .int .i64 0, .string ⟨#[]⟩] 37)) := (Kept.refl (fun _ => False) wr).alloc _
   have a0 := kz.cell q0 (fun f => f)
   have a1 := kz.cell q1 (fun f => f)
   have a2 := kz.cell q2 (fun f => f)
   have a3 := kz.cell q3 (fun f => f)
   have a4 := kz.cell q4 (fun f => f)
   have KZ := Lib.hid kz
   have sz := K4.out.size
   have nw : ∀ j u, ([.int .i64 3] : List Value)[j]? = some u → ((wr.alloc (Obj.cells #[.int .i64 3, .int .i64 1, .int .i64 0, .string ⟨#[97]⟩, .string ⟨#[104]⟩, .int .i64 10, .int .i64 0, .string ⟨#[]⟩] 37)).alloc (.cells #[.int .i64 3] 3)).cell? ((⟨wr.heap.size + 1, 0, none⟩ : Addr).add j) = some u := by
    have := World.news_of_block (heap_alloc_new (wr.alloc (Obj.cells #[.int .i64 3, .int .i64 1, .int .i64 0, .string ⟨#[97]⟩, .string ⟨#[104]⟩, .int .i64 10, .int .i64 0, .string ⟨#[]⟩] 37)) (.cells #[.int .i64 3] 3))
    simpa using this
   clear kz
   go_wp2_with (at_builtin; refine wpList_append_own _ rfl _ _ 55 rfl w.heap.size 3 i0 _ 1 8 Try.underlying55 hi0 hz0 hz1 hz2 rfl (by decide) _ _ _ rfl (World.ownsRow_nil _ _ _ _) ⟨wr.heap.size + 1, 0, none⟩ 1 1 [.int .i64 3] rfl rfl nw ?qa ?qb ?qc ?qd ?_)
   case qa => rfl
   case qb => unfold maxLen; omega
   case qd => first | omega | (simp; omega)
   intro v' w5 hown hgrow hnil
   have K6 := Lib.hid ((KZ.out.alloc (Obj.cells #[.int .i64 3] 3)).grown hgrow (fun k hk hlt => by simp [Value.ownBlock] at hk))
   have O6 := Lib.hid hown
   obtain ⟨ao, cap3, rfl⟩ : ∃ a c, v' = .slice a 1 c := by
    rcases row_form hown with ⟨_, hn⟩ | ⟨g, c, h, _⟩
    ·omega
    ·exact ⟨_, c, h⟩
   clear hown hgrow hnil a0 a1 a2 a3 a4
   go_wp2
   go_roundg 0
   case measure => omega
   case rel => exact .inr ⟨rfl, by go_num, keptFF K4.out K6.out, K6.out, ao, cap3, rfl, by simpa using O6.out⟩
  ·replace q4 := kw4.cell q4 (fun f => f)
   have KW := Lib.hid kw; have O := Lib.hid ho
   obtain ⟨g2, hao, h0⟩ : ∃ g2, ao = some ⟨g2, 0, none⟩ ∧ wr.cell? ⟨g2, 0, none⟩ = some (.int .i64 3) ∧ 1 ≤ cap2 := by
    rcases row_form ho with ⟨_, h0⟩ | ⟨g, c, h, h1, _, _, h4⟩
    ·omega
    ·simp only [Value.slice.injEq] at h
     obtain ⟨rfl, _, rfl⟩ := h
     exact ⟨g, rfl, h4 0 _ rfl, h1⟩
   subst hao
   have i1 : (1 : Int) ≤ (cap2 : Int) := by omega
   have H0 := Lib.hid h0.1
   clear kw kw4 ho h0
   go_wp2_with (go_at_call 42; refine (compact_one _ cap2 _).mono ?_; rintro e w5 ⟨rfl, rfl⟩)
   refine bodyPost_ret (v := _) (by simp [results, Try.results20, go_sem]; try rfl) rfl ?_
   exact ⟨KW.out, g2, cap2, rfl, H0.out⟩
end Go.Proofs.Ytibakmchgppndaa
/- SameSpans and SameInts of one; New. -/
namespace Go.Proofs.Ytibakmchgppndaa
open Go.RowKit Go.MapKept Go.Instr Go.ChangeMaps

theorem neq37 (W : World) : (binOp .neq 37 (.agg #[.int .i64 3, .int .i64 1, .int .i64 0, .string ⟨#[97]⟩, .string ⟨#[104]⟩, .int .i64 10, .int .i64 0, .string ⟨#[]⟩]) (.agg #[.int .i64 3, .int .i64 1, .int .i64 0, .string ⟨#[97]⟩, .string ⟨#[104]⟩, .int .i64 10, .int .i64 0, .string ⟨#[]⟩])).run Try.prog W = .ok (.bool false) W := by kernel_rfl
theorem s37 : Try.prog.stoodInHeld 37 = false := by kernel_rfl
theorem g37 : Try.prog.eqGuardType Try.prog.depth 37 = false := by kernel_rfl
set_option maxHeartbeats 4000000 in
set_option maxRecDepth 100000 in
theorem samespans_one {w : World} {g g2 c c2 : Nat} (h : ∀ j u, (cells8 ⟨#[]⟩)[j]? = some u → w.cell? ⟨g, j, none⟩ = some u) (h2 : ∀ j u, (cells8 ⟨#[]⟩)[j]? = some u → w.cell? ⟨g2, j, none⟩ = some u) :
  Calls Try.prog 11 #[.slice (some ⟨g, 0, none⟩) 1 c, .slice (some ⟨g2, 0, none⟩) 1 c2] w fun e w' => e = .returned (.bool true) ∧ Kept (fun _ => False) w w' := by
 have c0 := h 0 _ rfl
 have c1 := h 1 _ rfl
 have c2' := h 2 _ rfl
 have c3 := h 3 _ rfl
 have c4 := h 4 _ rfl
 have c5 := h 5 _ rfl
 have c6 := h 6 _ rfl
 have c7 := h 7 _ rfl
 have d0 := h2 0 _ rfl
 have d1 := h2 1 _ rfl
 have d2 := h2 2 _ rfl
 have d3 := h2 3 _ rfl
 have d4 := h2 4 _ rfl
 have d5 := h2 5 _ rfl
 have d6 := h2 6 _ rfl
 have d7 := h2 7 _ rfl
 have q0 := s37
 have q1 := g37
 have q2 := neq37
 clear h h2
 go_enter Try.func11, Try.ntmps11
 go_wp2
 go_loopg [5] 1 (fun gh t wr => (gh = 1 ∧ t = .int .i64 0 ∧ wr = w) ∨ (gh = 0 ∧ t = .int .i64 1 ∧ Kept (fun _ => False) w wr))
 case atStart => exact .inl ⟨rfl, rfl, rfl⟩
 case round =>
  rcases hrel with ⟨rfl, rfl, rfl⟩ | ⟨rfl, rfl, kw⟩
  ·go_wp2
   go_region
   all_goals go_wp2
   all_goals go_roundg 0
   case measure => omega
   case rel => exact .inr ⟨rfl, by go_num, (Kept.refl _ _).drew⟩
  ·have KW := Lib.hid kw; clear kw
   go_wp2
   go_ret
   exact ⟨rfl, KW.out⟩
set_option maxHeartbeats 4000000 in
set_option maxRecDepth 100000 in
theorem sameints_one {w : World} {g g2 c c2 : Nat} (h : w.cell? ⟨g, 0, none⟩ = some (.int .i64 3)) (h2 : w.cell? ⟨g2, 0, none⟩ = some (.int .i64 3)) :
  Calls Try.prog 25 #[.slice (some ⟨g, 0, none⟩) 1 c, .slice (some ⟨g2, 0, none⟩) 1 c2] w fun e w' => e = .returned (.bool true) ∧ Kept (fun _ => False) w w' := by
 go_enter Try.func25, Try.ntmps25
 go_wp2
 go_loopg [5] 1 (fun gh t wr => (gh = 1 ∧ t = .int .i64 0 ∧ wr = w) ∨ (gh = 0 ∧ t = .int .i64 1 ∧ Kept (fun _ => False) w wr))
 case atStart => exact .inl ⟨rfl, rfl, rfl⟩
 case round =>
  rcases hrel with ⟨rfl, rfl, rfl⟩ | ⟨rfl, rfl, kw⟩
  ·go_wp2
   go_region
   all_goals go_wp2
   all_goals go_roundg 0
   case measure => omega
   case rel => exact .inr ⟨rfl, by go_num, (Kept.refl _ _).drew⟩
  ·have KW := Lib.hid kw; clear kw
   go_wp2
   go_ret
   exact ⟨rfl, KW.out⟩
set_option maxRecDepth 100000 in
theorem new_any (w : World) : Calls Try.prog 8 #[] w fun e w' => e = .returned (.pointer (some ⟨w.heap.size + 1, 0, none⟩)) ∧ Kept (fun _ => False) w w' ∧ w'.cell? ⟨w.heap.size + 1, 0, none⟩ = some (.map (some w.heap.size)) ∧ w'.heap[w.heap.size]? = some (.map #[] 0) := by
 have MK : ∀ W : World, (makeMap 68 none).run Try.prog W = .ok (.map (some W.heap.size)) (W.alloc (.map #[] 0)) := fun W => run_makeMap 68 W
 go_enter Try.func8, Try.ntmps8
 go_wp2
 go_ret
 exact ⟨rfl, ((Kept.refl _ w).alloc _).alloc _, by simp, heap_first w _ _⟩
end Go.Proofs.Ytibakmchgppndaa
