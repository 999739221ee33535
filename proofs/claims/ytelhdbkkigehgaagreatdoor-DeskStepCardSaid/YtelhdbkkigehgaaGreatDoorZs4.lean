/- A part of the proof. -/
import Derived.OrdersHeld
import Derived.Deep.RegionHeld
import Derived.WalkKit
import Derived.WalkSpells
import Derived.WalkLawsBesides
import Derived.Deep.RegionLaw
import Derived.Deep.RegionHeld3
import Derived.BigQuiet
import Derived.Deep.AppendLies
import Derived.Deep.CutBlock
import Derived.Deep.DeepCutAuto
import Derived.Deep.Light
import Derived.Deep.LoopGhost
import Derived.Deep.QuietTactic
import Derived.Lib.Hide
import Derived.Test.YtelhdbkkigehgaaGreatDoorProg
import Derived.Shelf.Strconv.Itoa3
import Derived.Shelf.Strconv.ErrVarAll
import Derived.Shelf.Strings.Split
import Derived.Shelf.Slices.Equal
import Derived.Shelf.Slices.Empties2
import Derived.Shelf.LaysM
import Derived.Shelf.LaysC
import Derived.Lib.SplitLaws
import Derived.Lib.Atoi
import Derived.Lib.ItoaNum

/- A region that draws its order and whose last operation waits for all others: an operation may be taken first that yields its value in every world that meets S, though S need not hold behind that last operation (a store to a cell that the region loads). -/
namespace Go

section
variable {P : Program} {ops : Array Oper} {Q : Exit → Act → World → Prop} {md : Region.Mode} {S : World → Prop} {f : Nat}

/-- Whatever order is picked from here on, and S holds behind every operation but the last, number f. -/
def wpAnyF (P : Program) (md : Region.Mode) (ops : Array Oper) (Q : Exit → Act → World → Prop) (S : World → Prop) (f : Nat) : Nat → Array Bool → Act → World → Prop
  | 0, listed, a, w => Region.ready md ops listed = [] ∧ Q .normal a w
  | fuel + 1, listed, a, w =>
    (Region.ready md ops listed = [] → Q .normal a w) ∧
    ∀ i ∈ Region.ready md ops listed, wpOp P ops Q i (fun a' w' => (i ≠ f → S w') ∧ wpAnyF P md ops Q S f fuel (listed.setIfInBounds i true) a' w') a w

theorem wpAny_of_last : ∀ (fuel : Nat) (listed : Array Bool) (a : Act) (w : World), wpAnyF P md ops Q S f fuel listed a w → wpAny P md ops Q fuel listed a w
  | 0, _, _, _, h => h
  | fuel + 1, _, _, _, h => ⟨h.1, fun i hi => wpOp_mono (fun a' w' h' => wpAny_of_last fuel _ a' w' h'.2) (h.2 i hi)⟩

/-- Number f waits for number i. -/
def Region.waits (md : Region.Mode) (ops : Array Oper) (f i : Nat) : Bool := match ops[f]? with
  | some o => o.after.any fun e => Region.binds md e && e.on == i
  | none => false

theorem not_ready_of_waits {i : Nat} {listed : Array Bool} (hw : Region.waits md ops f i = true) (hi : listed.getD i false = false) : f ∉ Region.ready md ops listed := fun hr => by
  obtain ⟨_, o, ho, hall⟩ := mem_ready.1 hr
  unfold Region.waits at hw
  rw [ho] at hw
  simp only [Array.any_eq_true'] at hw
  obtain ⟨e, he, hb⟩ := hw
  simp only [Bool.and_eq_true, beq_iff_eq] at hb
  have := hall e he hb.1
  rw [hb.2, hi] at this
  cases this

theorem wpAnyF_first {i : Nat} {oi : Oper} {v : Value} (hi : ops[i]? = some oi) (hsel : ∀ (j : Nat) (o : Oper) cs b, ops[j]? = some o → o.op ≠ .select cs b)
    (hQ : ∀ c a w, Q (.panic c) (a.put oi.dst v) w → Q (.panic c) a w) (hfi : Region.waits md ops f i = true) (hne : i ≠ f) :
    ∀ (fuel : Nat) (listed : Array Bool) (a : Act) (w : World),
      (∀ j oj, ops[j]? = some oj → j ≠ i → listed.getD j true = false → (∀ e ∈ oj.after, Region.binds md e = true → e.on ≠ i) → oi.apart ops oj = true) →
      i ∈ Region.ready md ops listed → YieldsIf P ops S oi v a → S w →
      wpAnyF P md ops Q S f fuel (listed.setIfInBounds i true) (a.put oi.dst v) w → wpAnyF P md ops Q S f (fuel + 1) listed a w := by
  intro fuel
  induction fuel with
  | zero =>
    intro listed a w _ hr hy hS H
    refine ⟨fun h => (by rw [h] at hr; cases hr), fun j hj => ?_⟩
    by_cases hji : j = i
    · subst hji; exact hy.wpOp hi hS ⟨fun _ => hS, H⟩
    · have := ready_mono hj hji
      rw [H.1] at this
      cases this
  | succ fuel ih =>
    intro listed a w hfree hr hy hS H
    refine ⟨fun h => (by rw [h] at hr; cases hr), fun j hj => ?_⟩
    by_cases hji : j = i
    · subst hji; exact hy.wpOp hi hS ⟨fun _ => hS, H⟩
    · have h1 := H.2 j (ready_mono hj hji)
      obtain ⟨hjun, oj, hoj, hall⟩ := mem_ready.1 hj
      have hiun : listed.getD i false = false := by
        have h0 := (mem_ready.1 hr).1
        rcases Nat.lt_or_ge i listed.size with h' | h'
        · simp [h'] at h0 ⊢; exact h0
        · simp [Array.getElem?_eq_none h'] 
      have hjf : j ≠ f := fun e => not_ready_of_waits hfi hiun (e ▸ hj)
      have hnot : ∀ e ∈ oj.after, Region.binds md e = true → e.on ≠ i := fun e he hb heq => by
        have h1 := hall e he hb
        rw [heq, hiun] at h1; cases h1
      have h2 := wpOp_putIf hoj (hfree j oj hoj hji hjun hnot) (fun cs b => hsel i oi cs b hi) (fun cs b => hsel j oj cs b hoj) hQ hy h1
      have hfree' : ∀ k ok, ops[k]? = some ok → k ≠ i → (listed.setIfInBounds j true).getD k true = false →
          (∀ e ∈ ok.after, Region.binds md e = true → e.on ≠ i) → oi.apart ops ok = true := fun k ok hk hki hun hno => by
        refine hfree k ok hk hki ?_ hno
        by_cases hjk : j = k
        · subst hjk; exact hjun
        · rw [getD_set_ne true hjk] at hun; exact hun
      refine wpOp_mono (fun a' w' h3 => ⟨fun _ => h3.2.1 hjf, ih (listed.setIfInBounds j true) a' w' hfree' (ready_mono hr (Ne.symm hji)) h3.1 (h3.2.1 hjf) ?_⟩) h2
      rw [Array.setIfInBounds_comm _ _ hji]
      exact h3.2.2

/-- Take number i first. -/
theorem wpAnyF_take {i : Nat} {oi : Oper} {v : Value} {fuel : Nat} {listed : Array Bool} {a : Act} {w : World} (hi : ops[i]? = some oi)
    (hs : Region.noSelect ops = true) (hf : Region.free md ops listed i = true) (hr : (Region.ready md ops listed).contains i = true) (hfi : Region.waits md ops f i = true) (hne : i ≠ f)
    (hQ : ∀ c a w, Q (.panic c) (a.put oi.dst v) w → Q (.panic c) a w) (hy : YieldsIf P ops S oi v a) (hS : S w)
    (h : wpAnyF P md ops Q S f fuel (listed.setIfInBounds i true) (a.put oi.dst v) w) : wpAnyF P md ops Q S f (fuel + 1) listed a w :=
  wpAnyF_first hi (Region.noSelect_spec hs) hQ hfi hne fuel listed a w (Region.free_spec hi hf) (by simpa using hr) hy hS h

/-- Of one that may come up next. -/
theorem wpAnyF_next {rs : List Nat} {fuel : Nat} {listed : Array Bool} {a : Act} {w : World} (hr : Region.ready md ops listed = rs) (hne : rs ≠ [])
    (h : ∀ i ∈ rs, wpOp P ops Q i (fun a' w' => (i ≠ f → S w') ∧ wpAnyF P md ops Q S f fuel (listed.setIfInBounds i true) a' w') a w) : wpAnyF P md ops Q S f (fuel + 1) listed a w :=
  ⟨fun h0 => absurd (hr ▸ h0) hne, hr ▸ h⟩
theorem wpAnyF_done {listed : Array Bool} {a : Act} {w : World} (hr : Region.ready md ops listed = []) (h : Q .normal a w) :
    ∀ fuel, wpAnyF P md ops Q S f fuel listed a w
  | 0 => ⟨hr, h⟩
  | _ + 1 => ⟨fun _ => h, by rw [hr]; simp⟩
theorem wp_region_last {id : Nat} {a : Act} {w : World} (f : Nat) (S : World → Prop) (hm : P.follows .mixedOrders = true)
    (h : wpAnyF P .any ops Q S f ops.size (Array.replicate ops.size false) a w.drew) : (Code.region id ops true).wp P Q a w :=
  wp_region_any hm (wpAny_of_last _ _ _ _ h)
end
end Go

/- Laws on worlds and regions that the walks of this seat share: a frame in which some blocks may turn, steps of a region taken by hand. Nothing of the program is run here. -/
namespace Go.Proofs.YtelhdbkkigehgaaGreatDoor
open Go.RowKit


/-- Of what was there only blocks in S may have turned; the streams are as they were. -/
structure Kept (S : Nat → Prop) (w w' : World) : Prop where
  os : w'.os = w.os
  tape : w'.tape = w.tape
  output : w'.output = w.output
  size : w.heap.size ≤ w'.heap.size
  block : ∀ k, k < w.heap.size → ¬ S k → w'.heap[k]? = w.heap[k]?

theorem Kept.refl (S : Nat → Prop) (w : World) : Kept S w w := ⟨rfl, rfl, rfl, Nat.le_refl _, fun _ _ _ => rfl⟩

theorem Kept.trans {S S' T : Nat → Prop} {a b c : World} (h : Kept S a b) (k : Kept S' b c) (h1 : ∀ i, i < a.heap.size → S i → T i) (h2 : ∀ i, i < a.heap.size → S' i → T i) : Kept T a c :=
  ⟨k.os.trans h.os, k.tape.trans h.tape, k.output.trans h.output, Nat.le_trans h.size k.size, fun i hi hT =>
    (k.block i (Nat.lt_of_lt_of_le hi h.size) (fun e => hT (h2 i hi e))).trans (h.block i hi (fun e => hT (h1 i hi e)))⟩

theorem Kept.drew {S : Nat → Prop} {a w : World} (h : Kept S a w) : Kept S a w.drew := ⟨h.os, h.tape, h.output, h.size, h.block⟩

theorem Kept.alloc {S : Nat → Prop} {a w : World} (h : Kept S a w) (o : Obj) : Kept S a (w.alloc o) :=
  h.trans (S' := S) ⟨rfl, rfl, rfl, by simp, fun k hk _ => Below.heap_alloc _ _ _ hk⟩ (fun _ _ h => h) (fun _ _ h => h)

theorem Kept.setCell {S : Nat → Prop} {a w : World} (h : Kept S a w) {p : Addr} (hp : p.block < a.heap.size → S p.block) (u : Value) : Kept S a (w.setCell p u) :=
  h.trans (S' := fun k => k = p.block) ⟨rfl, rfl, rfl, by simp [World.setCell], fun k _ hk' => Below.heap_setCell _ _ _ _ hk'⟩ (fun _ _ h => h) (fun i hi e => by subst e; exact hp hi)

theorem Kept.grown {S : Nat → Prop} {a w w' : World} {row : Option Nat} (h : Kept S a w) (hg : w.grownBy w' row) (hr : ∀ k, row = some k → k < a.heap.size → S k) : Kept S a w' :=
  h.trans (S' := fun k => some k = row) ⟨hg.os, hg.tape, hg.output, hg.size, fun k hk hk' => hg.block k hk hk'⟩ (fun _ _ h => h) (fun i hi e => hr i e.symm hi)

theorem Kept.below {S : Nat → Prop} {a w : World} (h : Kept S a w) (hS : ∀ k, k < a.heap.size → ¬ S k) : Below a.heap.size a w :=
  ⟨h.os, h.tape, h.output, h.size, fun k hk => h.block k hk (hS k hk)⟩

theorem Kept.mono {S T : Nat → Prop} {a w : World} (h : Kept S a w) (hS : ∀ k, k < a.heap.size → S k → T k) : Kept T a w :=
  ⟨h.os, h.tape, h.output, h.size, fun k hk hT => h.block k hk (fun e => hT (hS k hk e))⟩

theorem Kept.setAt {S : Nat → Prop} {a w : World} {n j : Nat} {u : Value} (hp : n < a.heap.size → S n) (h : Kept S a w) : Kept S a (w.setCell ⟨n, j, none⟩ u) := h.setCell hp u

theorem Kept.cell {S : Nat → Prop} {w w' : World} (hK : Kept S w w') {a : Addr} {v : Value} (h : w.cell? a = some v) (hS : ¬ S a.block) : w'.cell? a = some v :=
  (World.cell?_of_block (w := w) (hK.block a.block (World.block_lt_of_cell? _ _ h) hS)).trans h

theorem Kept.frozen {S : Nat → Prop} {w w' : World} (hK : Kept S w w') {a : Addr} (h : w.frozen? a = false) (hl : a.block < w.heap.size) (hS : ¬ S a.block) : w'.frozen? a = false :=
  (World.frozen?_of_block (w := w) (hK.block a.block hl hS)).trans h

/-- Behind a call: a block of three cells that lay last when the call began. -/
theorem Kept.fresh3 {S : Nat → Prop} {w w1 : World} {x y z : Value} {t : TypeId} (hK : Kept S (w.alloc (.cells #[x, y, z] t)) w1) (hS : ¬ S w.heap.size) :
    w1.cell? ⟨w.heap.size, 0, none⟩ = some x ∧ w1.cell? ⟨w.heap.size, 1, none⟩ = some y ∧ w1.cell? ⟨w.heap.size, 2, none⟩ = some z ∧ (∀ j, w1.frozen? ⟨w.heap.size, j, none⟩ = false) ∧ w.heap.size < w1.heap.size := by
  refine ⟨hK.cell (by simp) hS, hK.cell (by simp) hS, hK.cell (by simp) hS, fun j => hK.frozen (by simp) (by simp) hS, ?_⟩
  have := hK.size; simp at this; omega

theorem Kept.cells3 {S : Nat → Prop} {w w' : World} {n : Nat} {x y z : Value} (hK : Kept S w w') (hS : ¬ S n) (h0 : w.cell? ⟨n, 0, none⟩ = some x) (h1 : w.cell? ⟨n, 1, none⟩ = some y) (h2 : w.cell? ⟨n, 2, none⟩ = some z) (hf : ∀ j, w.frozen? ⟨n, j, none⟩ = false) :
    w'.cell? ⟨n, 0, none⟩ = some x ∧ w'.cell? ⟨n, 1, none⟩ = some y ∧ w'.cell? ⟨n, 2, none⟩ = some z ∧ (∀ j, w'.frozen? ⟨n, j, none⟩ = false) :=
  have hl := World.block_lt_of_cell? _ _ h0
  ⟨hK.cell h0 hS, hK.cell h1 hS, hK.cell h2 hS, fun j => hK.frozen (hf j) hl hS⟩

theorem _root_.Go.RowKit.Below.step {B : Nat} {a W W' : World} {S : Nat → Prop} (h : Below B a W) (hB : B ≤ a.heap.size) (k : Kept S W W') (hS : ∀ i, S i → B ≤ i) : Below B a W' :=
  h.trans ⟨k.os, k.tape, k.output, k.size, fun i hi => k.block i (Nat.lt_of_lt_of_le hi (Nat.le_trans hB h.size)) (fun e => by have := hS i e; omega)⟩

theorem _root_.Go.RowKit.Below.alloc' {B : Nat} {a w : World} (h : Below B a w) (hB : B ≤ a.heap.size) (o : Obj) : Below B a (w.alloc o) := h.alloc (Nat.le_trans hB h.size) o

theorem _root_.Go.RowKit.Below.drewN' {B : Nat} {a w : World} (h : Below B a w) (n : Nat) : Below B a (w.drewN n) := ⟨h.os, h.tape, h.output, h.size, h.block⟩

theorem kept_drewN (w : World) (n : Nat) : Kept (fun _ => False) w (w.drewN n) := ⟨rfl, rfl, rfl, Nat.le_refl _, fun _ _ _ => rfl⟩

theorem ret_bool {x y : Bool} (h : x = y) : Ending.returned (.bool x) = .returned (.bool y) := by rw [h]

/-- The world behind a statement under a name, with what is known of it. -/
theorem then_gen {K : Act → World → Prop} {Q : Exit → Act → World → Prop} {a : Act} {W : World} (R : World → Prop) (h : R W) (k : ∀ w', R w' → Exit.then K Q .normal a w') : Exit.then K Q .normal a W := k W h

theorem wp_gen {P : Program} {c : Code} {Q : Exit → Act → World → Prop} {a : Act} {W : World} (R : World → Prop) (h : R W) (k : ∀ w', R w' → c.wp P Q a w') : c.wp P Q a W := k W h

/-- An operation whose value is known. -/
theorem wpList_value {P : Program} {ops : Array Oper} {Q : Exit → Act → World → Prop} {a : Act} {w : World} {rest : List Oper} {o : Oper} (hg : o.guard = none) (v : Value)
    (h : (execOp a.eval o).run P w = .ok (.value v) w) (k : wpList P ops Q rest (a.put o.dst v) w) : wpList P ops Q (o :: rest) a w :=
  wpList_plain hg fun K hK => by unfold Oper.wp; rw [h]; exact hK _ _ k

/-- append to an owned row, at one step of a region, from whatever slice. -/
theorem step_app {P : Program} {ops : Array Oper} {o : Oper} {a : Act} {w : World} {K : Act → World → Prop} {Q : Exit → Act → World → Prop} {E : Prop} (hgd : o.guard = none) (s x : Operand) (t : TypeId)
    (ho : o.op = .call { callee := .builtin .append, args := #[s, x], argTypes := #[t, t] })
    (base : Nat) (e : TypeId) (i : TypeInfo) (z : Value) (size bytes : Nat) (ht : P.underlying t = some (.slice e)) (hi : P.info? e = some i) (hz : i.zero = some z)
    (hsize : i.size = size) (hby : i.bytes = bytes) (hzs : z.cells.size = size) (hsz : 0 < size)
    (v : Value) (n : Nat) (xs : List Value) (hs : a.eval s = v) (hown : w.ownsRow base e size v n xs)
    (ad : Addr) (m c : Nat) (news : List Value) (hx : a.eval x = .slice (some ad) m c) (hl : news.length = m * size) (hnews : ∀ j u, news[j]? = some u → w.cell? (ad.add j) = some u) (h1 : ∀ u ∈ news, u.oneCell' = true)
    (h63 : n + m ≤ maxLen) (hbytes : (n + m) * bytes ≤ 140737488355328) (hbase : base ≤ w.heap.size)
    (h : ∀ ao' cap' w', w'.ownsRow base e size (.slice ao' (n + m) cap') (n + m) (xs ++ news) → w.grownBy w' v.ownBlock → ((Value.slice ao' (n + m) cap').ownBlock = v.ownBlock ∨ (Value.slice ao' (n + m) cap').ownBlock = some w.heap.size) → K (a.put o.dst (.slice ao' (n + m) cap')) w') :
    if Region.wanted o (yielded ops a.tmps) = true then Oper.wp P o a w K Q else E := by
  rw [if_pos (by simp [Region.wanted, hgd])]
  obtain ⟨v', w', hr, h2, h3, _, h5⟩ := run_append_own_at (P := P) w base t o.type e i z size bytes ht hi hz hsize hby hzs hsz v n xs hown ad m c news hl hnews h1 h63 hbytes hbase
  unfold Oper.wp execOp
  simp only [ho, resolve, invoke, builtin, Sem.run_bind, Sem.run_pure, Result.andThen_ok, List.map_toArray, List.map_cons, List.map_nil, hs, hx, hr]
  have hf : ∃ ao' cap', v' = .slice ao' (n + m) cap' := by
    rcases h2.2 with ⟨rfl, hn⟩ | ⟨g, cap, cur, rfl, _⟩
    · exact ⟨none, 0, by rw [hn]⟩
    · exact ⟨_, _, rfl⟩
  obtain ⟨ao', cap', rfl⟩ := hf
  exact h ao' cap' w' h2 h3 h5

/-- What an owned row's value looks like. -/
theorem row_form {w : World} {base : Nat} {e : TypeId} {size : Nat} {v : Value} {n : Nat} {xs : List Value} (h : w.ownsRow base e size v n xs) :
    (v = .slice none 0 0 ∧ n = 0) ∨ ∃ g cap, v = .slice (some ⟨g, 0, none⟩) n cap ∧ n ≤ cap ∧ base ≤ g ∧ g < w.heap.size ∧ ∀ j u, xs[j]? = some u → w.cell? ⟨g, j, none⟩ = some u := by
  rcases h.2 with h2 | ⟨g, cap, cur, rfl, hb, hgg, hle, hrest⟩
  · exact .inl h2
  · refine .inr ⟨g, cap, rfl, hle, hb, (Array.getElem?_eq_some_iff.1 hgg).1, fun j u hu => ?_⟩
    have := h.cells (g := g) rfl j u hu
    have hadd : (⟨g, 0, none⟩ : Addr).add j = ⟨g, j, none⟩ := by unfold Addr.add; split <;> simp_all
    rwa [hadd] at this

theorem heap_second (w : World) (o1 o2 : Obj) : ((w.alloc o1).alloc o2).heap[w.heap.size + 1]? = some o2 := by
  have e : (w.alloc o1).heap.size = w.heap.size + 1 := by simp
  have := heap_alloc_new (w.alloc o1) o2
  rwa [e] at this

theorem grown_kept {w w' : World} {row : Option Nat} (h : w.grownBy w' row) : Kept (fun k => row = some k) w w' :=
  ⟨h.os, h.tape, h.output, h.size, fun k hk hne => h.block k hk (fun e => hne e.symm)⟩

theorem heap_first (w : World) (o1 o2 : Obj) : ((w.alloc o1).alloc o2).heap[w.heap.size]? = some o1 := by
  have e : ((w.alloc o1).alloc o2).heap = (w.heap.push o1).push o2 := rfl
  rw [e]; simp [Array.getElem?_push]

theorem add_mid (b o j : Nat) : (⟨b, o, none⟩ : Addr).add j = ⟨b, o + j, none⟩ := by unfold Addr.add; split <;> simp_all

/-- Where a slice lies behind an append: in the elder one's block, or in a new one. -/
theorem own_ge {v v0 : Value} {W : World} {n k : Nat} (h : v.ownBlock = v0.ownBlock ∨ v.ownBlock = some W.heap.size) (h0 : ∀ k, v0.ownBlock = some k → n ≤ k) (hW : n ≤ W.heap.size) (hk : v.ownBlock = some k) : n ≤ k := by
  rcases h with h | h
  · exact h0 k (h ▸ hk)
  · rw [hk] at h; have := Option.some.inj h; omega

theorem own_fresh {n l c k : Nat} (h : (Value.slice (some ⟨n, 0, none⟩) l c).ownBlock = some k) : n ≤ k := by
  have := Option.some.inj h; exact Nat.le_of_eq this

theorem wpOp_law {P : Program} {ops : Array Oper} {Q : Exit → Act → World → Prop} {i : Nat} {o : Oper} {K : Act → World → Prop} {a : Act} {w : World} (ho : ops[i]? = some o)
    (h : ∀ K' : Act → World → Prop, (∀ a w, K a w → K' a w) → if Region.wanted o (yielded ops a.tmps) = true then Oper.wp P o a w K' Q else K' (a.put o.dst undef) w) : wpOp P ops Q i K a w := by
  have h1 := h K (fun _ _ h => h)
  unfold wpOp
  simp only [ho]
  split
  · rename_i hw; rw [if_pos hw] at h1; exact .inl h1
  · rename_i hw; rw [if_neg hw] at h1; exact h1

theorem next1 {P : Program} {ops : Array Oper} {Q : Exit → Act → World → Prop} {md : Region.Mode} {S : World → Prop} {f fuel : Nat} {listed : Array Bool} {a : Act} {w : World} (i : Nat) {o : Oper} (hr : Region.ready md ops listed = [i]) (ho : ops[i]? = some o)
    (h : ∀ K' : Act → World → Prop, (∀ a' w', ((i ≠ f → S w') ∧ wpAnyF P md ops Q S f fuel (listed.setIfInBounds i true) a' w') → K' a' w') → if Region.wanted o (yielded ops a.tmps) = true then Oper.wp P o a w K' Q else K' (a.put o.dst undef) w) : wpAnyF P md ops Q S f (fuel + 1) listed a w :=
  wpAnyF_next hr (by simp) fun j hj => by
    rw [List.mem_singleton] at hj; subst hj; exact wpOp_law ho h

theorem next2 {P : Program} {ops : Array Oper} {Q : Exit → Act → World → Prop} {md : Region.Mode} {S : World → Prop} {f fuel : Nat} {listed : Array Bool} {a : Act} {w : World} (i k : Nat) {o o2 : Oper} (hr : Region.ready md ops listed = [i, k]) (ho : ops[i]? = some o) (ho2 : ops[k]? = some o2)
    (h : ∀ K' : Act → World → Prop, (∀ a' w', ((i ≠ f → S w') ∧ wpAnyF P md ops Q S f fuel (listed.setIfInBounds i true) a' w') → K' a' w') → if Region.wanted o (yielded ops a.tmps) = true then Oper.wp P o a w K' Q else K' (a.put o.dst undef) w)
    (h2 : ∀ K' : Act → World → Prop, (∀ a' w', ((k ≠ f → S w') ∧ wpAnyF P md ops Q S f fuel (listed.setIfInBounds k true) a' w') → K' a' w') → if Region.wanted o2 (yielded ops a.tmps) = true then Oper.wp P o2 a w K' Q else K' (a.put o2.dst undef) w) : wpAnyF P md ops Q S f (fuel + 1) listed a w :=
  wpAnyF_next hr (by simp) fun j hj => by
    simp only [List.mem_cons, List.not_mem_nil, or_false] at hj
    rcases hj with rfl | rfl
    · exact wpOp_law ho h
    · exact wpOp_law ho2 h2

end Go.Proofs.YtelhdbkkigehgaaGreatDoor

/- Which operation stands at a place of a region that is written out. -/
namespace Go.Proofs.YtelhdbkkigehgaaGreatDoor

theorem opAt0 {a0 : Oper} {l : List Oper} : (a0 :: l).toArray[0]? = some a0 := rfl
theorem opAt1 {a0 a1 : Oper} {l : List Oper} : (a0 :: a1 :: l).toArray[1]? = some a1 := rfl
theorem opAt2 {a0 a1 a2 : Oper} {l : List Oper} : (a0 :: a1 :: a2 :: l).toArray[2]? = some a2 := rfl
theorem opAt3 {a0 a1 a2 a3 : Oper} {l : List Oper} : (a0 :: a1 :: a2 :: a3 :: l).toArray[3]? = some a3 := rfl
theorem opAt4 {a0 a1 a2 a3 a4 : Oper} {l : List Oper} : (a0 :: a1 :: a2 :: a3 :: a4 :: l).toArray[4]? = some a4 := rfl
theorem opAt5 {a0 a1 a2 a3 a4 a5 : Oper} {l : List Oper} : (a0 :: a1 :: a2 :: a3 :: a4 :: a5 :: l).toArray[5]? = some a5 := rfl
theorem opAt6 {a0 a1 a2 a3 a4 a5 a6 : Oper} {l : List Oper} : (a0 :: a1 :: a2 :: a3 :: a4 :: a5 :: a6 :: l).toArray[6]? = some a6 := rfl
theorem opAt7 {a0 a1 a2 a3 a4 a5 a6 a7 : Oper} {l : List Oper} : (a0 :: a1 :: a2 :: a3 :: a4 :: a5 :: a6 :: a7 :: l).toArray[7]? = some a7 := rfl
theorem opAt8 {a0 a1 a2 a3 a4 a5 a6 a7 a8 : Oper} {l : List Oper} : (a0 :: a1 :: a2 :: a3 :: a4 :: a5 :: a6 :: a7 :: a8 :: l).toArray[8]? = some a8 := rfl
theorem opAt9 {a0 a1 a2 a3 a4 a5 a6 a7 a8 a9 : Oper} {l : List Oper} : (a0 :: a1 :: a2 :: a3 :: a4 :: a5 :: a6 :: a7 :: a8 :: a9 :: l).toArray[9]? = some a9 := rfl
theorem opAt10 {a0 a1 a2 a3 a4 a5 a6 a7 a8 a9 a10 : Oper} {l : List Oper} : (a0 :: a1 :: a2 :: a3 :: a4 :: a5 :: a6 :: a7 :: a8 :: a9 :: a10 :: l).toArray[10]? = some a10 := rfl
theorem opAt11 {a0 a1 a2 a3 a4 a5 a6 a7 a8 a9 a10 a11 : Oper} {l : List Oper} : (a0 :: a1 :: a2 :: a3 :: a4 :: a5 :: a6 :: a7 :: a8 :: a9 :: a10 :: a11 :: l).toArray[11]? = some a11 := rfl
theorem opAt12 {a0 a1 a2 a3 a4 a5 a6 a7 a8 a9 a10 a11 a12 : Oper} {l : List Oper} : (a0 :: a1 :: a2 :: a3 :: a4 :: a5 :: a6 :: a7 :: a8 :: a9 :: a10 :: a11 :: a12 :: l).toArray[12]? = some a12 := rfl
theorem opAt13 {a0 a1 a2 a3 a4 a5 a6 a7 a8 a9 a10 a11 a12 a13 : Oper} {l : List Oper} : (a0 :: a1 :: a2 :: a3 :: a4 :: a5 :: a6 :: a7 :: a8 :: a9 :: a10 :: a11 :: a12 :: a13 :: l).toArray[13]? = some a13 := rfl
theorem opAt14 {a0 a1 a2 a3 a4 a5 a6 a7 a8 a9 a10 a11 a12 a13 a14 : Oper} {l : List Oper} : (a0 :: a1 :: a2 :: a3 :: a4 :: a5 :: a6 :: a7 :: a8 :: a9 :: a10 :: a11 :: a12 :: a13 :: a14 :: l).toArray[14]? = some a14 := rfl
theorem opAt15 {a0 a1 a2 a3 a4 a5 a6 a7 a8 a9 a10 a11 a12 a13 a14 a15 : Oper} {l : List Oper} : (a0 :: a1 :: a2 :: a3 :: a4 :: a5 :: a6 :: a7 :: a8 :: a9 :: a10 :: a11 :: a12 :: a13 :: a14 :: a15 :: l).toArray[15]? = some a15 := rfl
theorem opAt16 {a0 a1 a2 a3 a4 a5 a6 a7 a8 a9 a10 a11 a12 a13 a14 a15 a16 : Oper} {l : List Oper} : (a0 :: a1 :: a2 :: a3 :: a4 :: a5 :: a6 :: a7 :: a8 :: a9 :: a10 :: a11 :: a12 :: a13 :: a14 :: a15 :: a16 :: l).toArray[16]? = some a16 := rfl
theorem opAt17 {a0 a1 a2 a3 a4 a5 a6 a7 a8 a9 a10 a11 a12 a13 a14 a15 a16 a17 : Oper} {l : List Oper} : (a0 :: a1 :: a2 :: a3 :: a4 :: a5 :: a6 :: a7 :: a8 :: a9 :: a10 :: a11 :: a12 :: a13 :: a14 :: a15 :: a16 :: a17 :: l).toArray[17]? = some a17 := rfl
theorem opAt18 {a0 a1 a2 a3 a4 a5 a6 a7 a8 a9 a10 a11 a12 a13 a14 a15 a16 a17 a18 : Oper} {l : List Oper} : (a0 :: a1 :: a2 :: a3 :: a4 :: a5 :: a6 :: a7 :: a8 :: a9 :: a10 :: a11 :: a12 :: a13 :: a14 :: a15 :: a16 :: a17 :: a18 :: l).toArray[18]? = some a18 := rfl
theorem opAt19 {a0 a1 a2 a3 a4 a5 a6 a7 a8 a9 a10 a11 a12 a13 a14 a15 a16 a17 a18 a19 : Oper} {l : List Oper} : (a0 :: a1 :: a2 :: a3 :: a4 :: a5 :: a6 :: a7 :: a8 :: a9 :: a10 :: a11 :: a12 :: a13 :: a14 :: a15 :: a16 :: a17 :: a18 :: a19 :: l).toArray[19]? = some a19 := rfl
theorem opAt20 {a0 a1 a2 a3 a4 a5 a6 a7 a8 a9 a10 a11 a12 a13 a14 a15 a16 a17 a18 a19 a20 : Oper} {l : List Oper} : (a0 :: a1 :: a2 :: a3 :: a4 :: a5 :: a6 :: a7 :: a8 :: a9 :: a10 :: a11 :: a12 :: a13 :: a14 :: a15 :: a16 :: a17 :: a18 :: a19 :: a20 :: l).toArray[20]? = some a20 := rfl
theorem opAt21 {a0 a1 a2 a3 a4 a5 a6 a7 a8 a9 a10 a11 a12 a13 a14 a15 a16 a17 a18 a19 a20 a21 : Oper} {l : List Oper} : (a0 :: a1 :: a2 :: a3 :: a4 :: a5 :: a6 :: a7 :: a8 :: a9 :: a10 :: a11 :: a12 :: a13 :: a14 :: a15 :: a16 :: a17 :: a18 :: a19 :: a20 :: a21 :: l).toArray[21]? = some a21 := rfl
theorem opAt22 {a0 a1 a2 a3 a4 a5 a6 a7 a8 a9 a10 a11 a12 a13 a14 a15 a16 a17 a18 a19 a20 a21 a22 : Oper} {l : List Oper} : (a0 :: a1 :: a2 :: a3 :: a4 :: a5 :: a6 :: a7 :: a8 :: a9 :: a10 :: a11 :: a12 :: a13 :: a14 :: a15 :: a16 :: a17 :: a18 :: a19 :: a20 :: a21 :: a22 :: l).toArray[22]? = some a22 := rfl
theorem opAt23 {a0 a1 a2 a3 a4 a5 a6 a7 a8 a9 a10 a11 a12 a13 a14 a15 a16 a17 a18 a19 a20 a21 a22 a23 : Oper} {l : List Oper} : (a0 :: a1 :: a2 :: a3 :: a4 :: a5 :: a6 :: a7 :: a8 :: a9 :: a10 :: a11 :: a12 :: a13 :: a14 :: a15 :: a16 :: a17 :: a18 :: a19 :: a20 :: a21 :: a22 :: a23 :: l).toArray[23]? = some a23 := rfl
theorem opAt24 {a0 a1 a2 a3 a4 a5 a6 a7 a8 a9 a10 a11 a12 a13 a14 a15 a16 a17 a18 a19 a20 a21 a22 a23 a24 : Oper} {l : List Oper} : (a0 :: a1 :: a2 :: a3 :: a4 :: a5 :: a6 :: a7 :: a8 :: a9 :: a10 :: a11 :: a12 :: a13 :: a14 :: a15 :: a16 :: a17 :: a18 :: a19 :: a20 :: a21 :: a22 :: a23 :: a24 :: l).toArray[24]? = some a24 := rfl
theorem opAt25 {a0 a1 a2 a3 a4 a5 a6 a7 a8 a9 a10 a11 a12 a13 a14 a15 a16 a17 a18 a19 a20 a21 a22 a23 a24 a25 : Oper} {l : List Oper} : (a0 :: a1 :: a2 :: a3 :: a4 :: a5 :: a6 :: a7 :: a8 :: a9 :: a10 :: a11 :: a12 :: a13 :: a14 :: a15 :: a16 :: a17 :: a18 :: a19 :: a20 :: a21 :: a22 :: a23 :: a24 :: a25 :: l).toArray[25]? = some a25 := rfl
theorem opAt26 {a0 a1 a2 a3 a4 a5 a6 a7 a8 a9 a10 a11 a12 a13 a14 a15 a16 a17 a18 a19 a20 a21 a22 a23 a24 a25 a26 : Oper} {l : List Oper} : (a0 :: a1 :: a2 :: a3 :: a4 :: a5 :: a6 :: a7 :: a8 :: a9 :: a10 :: a11 :: a12 :: a13 :: a14 :: a15 :: a16 :: a17 :: a18 :: a19 :: a20 :: a21 :: a22 :: a23 :: a24 :: a25 :: a26 :: l).toArray[26]? = some a26 := rfl
theorem opAt27 {a0 a1 a2 a3 a4 a5 a6 a7 a8 a9 a10 a11 a12 a13 a14 a15 a16 a17 a18 a19 a20 a21 a22 a23 a24 a25 a26 a27 : Oper} {l : List Oper} : (a0 :: a1 :: a2 :: a3 :: a4 :: a5 :: a6 :: a7 :: a8 :: a9 :: a10 :: a11 :: a12 :: a13 :: a14 :: a15 :: a16 :: a17 :: a18 :: a19 :: a20 :: a21 :: a22 :: a23 :: a24 :: a25 :: a26 :: a27 :: l).toArray[27]? = some a27 := rfl
theorem opAt28 {a0 a1 a2 a3 a4 a5 a6 a7 a8 a9 a10 a11 a12 a13 a14 a15 a16 a17 a18 a19 a20 a21 a22 a23 a24 a25 a26 a27 a28 : Oper} {l : List Oper} : (a0 :: a1 :: a2 :: a3 :: a4 :: a5 :: a6 :: a7 :: a8 :: a9 :: a10 :: a11 :: a12 :: a13 :: a14 :: a15 :: a16 :: a17 :: a18 :: a19 :: a20 :: a21 :: a22 :: a23 :: a24 :: a25 :: a26 :: a27 :: a28 :: l).toArray[28]? = some a28 := rfl
theorem opAt29 {a0 a1 a2 a3 a4 a5 a6 a7 a8 a9 a10 a11 a12 a13 a14 a15 a16 a17 a18 a19 a20 a21 a22 a23 a24 a25 a26 a27 a28 a29 : Oper} {l : List Oper} : (a0 :: a1 :: a2 :: a3 :: a4 :: a5 :: a6 :: a7 :: a8 :: a9 :: a10 :: a11 :: a12 :: a13 :: a14 :: a15 :: a16 :: a17 :: a18 :: a19 :: a20 :: a21 :: a22 :: a23 :: a24 :: a25 :: a26 :: a27 :: a28 :: a29 :: l).toArray[29]? = some a29 := rfl
theorem opAt30 {a0 a1 a2 a3 a4 a5 a6 a7 a8 a9 a10 a11 a12 a13 a14 a15 a16 a17 a18 a19 a20 a21 a22 a23 a24 a25 a26 a27 a28 a29 a30 : Oper} {l : List Oper} : (a0 :: a1 :: a2 :: a3 :: a4 :: a5 :: a6 :: a7 :: a8 :: a9 :: a10 :: a11 :: a12 :: a13 :: a14 :: a15 :: a16 :: a17 :: a18 :: a19 :: a20 :: a21 :: a22 :: a23 :: a24 :: a25 :: a26 :: a27 :: a28 :: a29 :: a30 :: l).toArray[30]? = some a30 := rfl
theorem opAt31 {a0 a1 a2 a3 a4 a5 a6 a7 a8 a9 a10 a11 a12 a13 a14 a15 a16 a17 a18 a19 a20 a21 a22 a23 a24 a25 a26 a27 a28 a29 a30 a31 : Oper} {l : List Oper} : (a0 :: a1 :: a2 :: a3 :: a4 :: a5 :: a6 :: a7 :: a8 :: a9 :: a10 :: a11 :: a12 :: a13 :: a14 :: a15 :: a16 :: a17 :: a18 :: a19 :: a20 :: a21 :: a22 :: a23 :: a24 :: a25 :: a26 :: a27 :: a28 :: a29 :: a30 :: a31 :: l).toArray[31]? = some a31 := rfl
theorem opAt32 {a0 a1 a2 a3 a4 a5 a6 a7 a8 a9 a10 a11 a12 a13 a14 a15 a16 a17 a18 a19 a20 a21 a22 a23 a24 a25 a26 a27 a28 a29 a30 a31 a32 : Oper} {l : List Oper} : (a0 :: a1 :: a2 :: a3 :: a4 :: a5 :: a6 :: a7 :: a8 :: a9 :: a10 :: a11 :: a12 :: a13 :: a14 :: a15 :: a16 :: a17 :: a18 :: a19 :: a20 :: a21 :: a22 :: a23 :: a24 :: a25 :: a26 :: a27 :: a28 :: a29 :: a30 :: a31 :: a32 :: l).toArray[32]? = some a32 := rfl
theorem opAt33 {a0 a1 a2 a3 a4 a5 a6 a7 a8 a9 a10 a11 a12 a13 a14 a15 a16 a17 a18 a19 a20 a21 a22 a23 a24 a25 a26 a27 a28 a29 a30 a31 a32 a33 : Oper} {l : List Oper} : (a0 :: a1 :: a2 :: a3 :: a4 :: a5 :: a6 :: a7 :: a8 :: a9 :: a10 :: a11 :: a12 :: a13 :: a14 :: a15 :: a16 :: a17 :: a18 :: a19 :: a20 :: a21 :: a22 :: a23 :: a24 :: a25 :: a26 :: a27 :: a28 :: a29 :: a30 :: a31 :: a32 :: a33 :: l).toArray[33]? = some a33 := rfl
theorem opAt34 {a0 a1 a2 a3 a4 a5 a6 a7 a8 a9 a10 a11 a12 a13 a14 a15 a16 a17 a18 a19 a20 a21 a22 a23 a24 a25 a26 a27 a28 a29 a30 a31 a32 a33 a34 : Oper} {l : List Oper} : (a0 :: a1 :: a2 :: a3 :: a4 :: a5 :: a6 :: a7 :: a8 :: a9 :: a10 :: a11 :: a12 :: a13 :: a14 :: a15 :: a16 :: a17 :: a18 :: a19 :: a20 :: a21 :: a22 :: a23 :: a24 :: a25 :: a26 :: a27 :: a28 :: a29 :: a30 :: a31 :: a32 :: a33 :: a34 :: l).toArray[34]? = some a34 := rfl
theorem opAt35 {a0 a1 a2 a3 a4 a5 a6 a7 a8 a9 a10 a11 a12 a13 a14 a15 a16 a17 a18 a19 a20 a21 a22 a23 a24 a25 a26 a27 a28 a29 a30 a31 a32 a33 a34 a35 : Oper} {l : List Oper} : (a0 :: a1 :: a2 :: a3 :: a4 :: a5 :: a6 :: a7 :: a8 :: a9 :: a10 :: a11 :: a12 :: a13 :: a14 :: a15 :: a16 :: a17 :: a18 :: a19 :: a20 :: a21 :: a22 :: a23 :: a24 :: a25 :: a26 :: a27 :: a28 :: a29 :: a30 :: a31 :: a32 :: a33 :: a34 :: a35 :: l).toArray[35]? = some a35 := rfl
theorem opAt36 {a0 a1 a2 a3 a4 a5 a6 a7 a8 a9 a10 a11 a12 a13 a14 a15 a16 a17 a18 a19 a20 a21 a22 a23 a24 a25 a26 a27 a28 a29 a30 a31 a32 a33 a34 a35 a36 : Oper} {l : List Oper} : (a0 :: a1 :: a2 :: a3 :: a4 :: a5 :: a6 :: a7 :: a8 :: a9 :: a10 :: a11 :: a12 :: a13 :: a14 :: a15 :: a16 :: a17 :: a18 :: a19 :: a20 :: a21 :: a22 :: a23 :: a24 :: a25 :: a26 :: a27 :: a28 :: a29 :: a30 :: a31 :: a32 :: a33 :: a34 :: a35 :: a36 :: l).toArray[36]? = some a36 := rfl
theorem opAt37 {a0 a1 a2 a3 a4 a5 a6 a7 a8 a9 a10 a11 a12 a13 a14 a15 a16 a17 a18 a19 a20 a21 a22 a23 a24 a25 a26 a27 a28 a29 a30 a31 a32 a33 a34 a35 a36 a37 : Oper} {l : List Oper} : (a0 :: a1 :: a2 :: a3 :: a4 :: a5 :: a6 :: a7 :: a8 :: a9 :: a10 :: a11 :: a12 :: a13 :: a14 :: a15 :: a16 :: a17 :: a18 :: a19 :: a20 :: a21 :: a22 :: a23 :: a24 :: a25 :: a26 :: a27 :: a28 :: a29 :: a30 :: a31 :: a32 :: a33 :: a34 :: a35 :: a36 :: a37 :: l).toArray[37]? = some a37 := rfl
theorem opAt38 {a0 a1 a2 a3 a4 a5 a6 a7 a8 a9 a10 a11 a12 a13 a14 a15 a16 a17 a18 a19 a20 a21 a22 a23 a24 a25 a26 a27 a28 a29 a30 a31 a32 a33 a34 a35 a36 a37 a38 : Oper} {l : List Oper} : (a0 :: a1 :: a2 :: a3 :: a4 :: a5 :: a6 :: a7 :: a8 :: a9 :: a10 :: a11 :: a12 :: a13 :: a14 :: a15 :: a16 :: a17 :: a18 :: a19 :: a20 :: a21 :: a22 :: a23 :: a24 :: a25 :: a26 :: a27 :: a28 :: a29 :: a30 :: a31 :: a32 :: a33 :: a34 :: a35 :: a36 :: a37 :: a38 :: l).toArray[38]? = some a38 := rfl
theorem opAt39 {a0 a1 a2 a3 a4 a5 a6 a7 a8 a9 a10 a11 a12 a13 a14 a15 a16 a17 a18 a19 a20 a21 a22 a23 a24 a25 a26 a27 a28 a29 a30 a31 a32 a33 a34 a35 a36 a37 a38 a39 : Oper} {l : List Oper} : (a0 :: a1 :: a2 :: a3 :: a4 :: a5 :: a6 :: a7 :: a8 :: a9 :: a10 :: a11 :: a12 :: a13 :: a14 :: a15 :: a16 :: a17 :: a18 :: a19 :: a20 :: a21 :: a22 :: a23 :: a24 :: a25 :: a26 :: a27 :: a28 :: a29 :: a30 :: a31 :: a32 :: a33 :: a34 :: a35 :: a36 :: a37 :: a38 :: a39 :: l).toArray[39]? = some a39 := rfl
theorem opAt40 {a0 a1 a2 a3 a4 a5 a6 a7 a8 a9 a10 a11 a12 a13 a14 a15 a16 a17 a18 a19 a20 a21 a22 a23 a24 a25 a26 a27 a28 a29 a30 a31 a32 a33 a34 a35 a36 a37 a38 a39 a40 : Oper} {l : List Oper} : (a0 :: a1 :: a2 :: a3 :: a4 :: a5 :: a6 :: a7 :: a8 :: a9 :: a10 :: a11 :: a12 :: a13 :: a14 :: a15 :: a16 :: a17 :: a18 :: a19 :: a20 :: a21 :: a22 :: a23 :: a24 :: a25 :: a26 :: a27 :: a28 :: a29 :: a30 :: a31 :: a32 :: a33 :: a34 :: a35 :: a36 :: a37 :: a38 :: a39 :: a40 :: l).toArray[40]? = some a40 := rfl
theorem opAt41 {a0 a1 a2 a3 a4 a5 a6 a7 a8 a9 a10 a11 a12 a13 a14 a15 a16 a17 a18 a19 a20 a21 a22 a23 a24 a25 a26 a27 a28 a29 a30 a31 a32 a33 a34 a35 a36 a37 a38 a39 a40 a41 : Oper} {l : List Oper} : (a0 :: a1 :: a2 :: a3 :: a4 :: a5 :: a6 :: a7 :: a8 :: a9 :: a10 :: a11 :: a12 :: a13 :: a14 :: a15 :: a16 :: a17 :: a18 :: a19 :: a20 :: a21 :: a22 :: a23 :: a24 :: a25 :: a26 :: a27 :: a28 :: a29 :: a30 :: a31 :: a32 :: a33 :: a34 :: a35 :: a36 :: a37 :: a38 :: a39 :: a40 :: a41 :: l).toArray[41]? = some a41 := rfl
theorem opAt42 {a0 a1 a2 a3 a4 a5 a6 a7 a8 a9 a10 a11 a12 a13 a14 a15 a16 a17 a18 a19 a20 a21 a22 a23 a24 a25 a26 a27 a28 a29 a30 a31 a32 a33 a34 a35 a36 a37 a38 a39 a40 a41 a42 : Oper} {l : List Oper} : (a0 :: a1 :: a2 :: a3 :: a4 :: a5 :: a6 :: a7 :: a8 :: a9 :: a10 :: a11 :: a12 :: a13 :: a14 :: a15 :: a16 :: a17 :: a18 :: a19 :: a20 :: a21 :: a22 :: a23 :: a24 :: a25 :: a26 :: a27 :: a28 :: a29 :: a30 :: a31 :: a32 :: a33 :: a34 :: a35 :: a36 :: a37 :: a38 :: a39 :: a40 :: a41 :: a42 :: l).toArray[42]? = some a42 := rfl
theorem opAt43 {a0 a1 a2 a3 a4 a5 a6 a7 a8 a9 a10 a11 a12 a13 a14 a15 a16 a17 a18 a19 a20 a21 a22 a23 a24 a25 a26 a27 a28 a29 a30 a31 a32 a33 a34 a35 a36 a37 a38 a39 a40 a41 a42 a43 : Oper} {l : List Oper} : (a0 :: a1 :: a2 :: a3 :: a4 :: a5 :: a6 :: a7 :: a8 :: a9 :: a10 :: a11 :: a12 :: a13 :: a14 :: a15 :: a16 :: a17 :: a18 :: a19 :: a20 :: a21 :: a22 :: a23 :: a24 :: a25 :: a26 :: a27 :: a28 :: a29 :: a30 :: a31 :: a32 :: a33 :: a34 :: a35 :: a36 :: a37 :: a38 :: a39 :: a40 :: a41 :: a42 :: a43 :: l).toArray[43]? = some a43 := rfl
theorem opAt44 {a0 a1 a2 a3 a4 a5 a6 a7 a8 a9 a10 a11 a12 a13 a14 a15 a16 a17 a18 a19 a20 a21 a22 a23 a24 a25 a26 a27 a28 a29 a30 a31 a32 a33 a34 a35 a36 a37 a38 a39 a40 a41 a42 a43 a44 : Oper} {l : List Oper} : (a0 :: a1 :: a2 :: a3 :: a4 :: a5 :: a6 :: a7 :: a8 :: a9 :: a10 :: a11 :: a12 :: a13 :: a14 :: a15 :: a16 :: a17 :: a18 :: a19 :: a20 :: a21 :: a22 :: a23 :: a24 :: a25 :: a26 :: a27 :: a28 :: a29 :: a30 :: a31 :: a32 :: a33 :: a34 :: a35 :: a36 :: a37 :: a38 :: a39 :: a40 :: a41 :: a42 :: a43 :: a44 :: l).toArray[44]? = some a44 := rfl
theorem opAt45 {a0 a1 a2 a3 a4 a5 a6 a7 a8 a9 a10 a11 a12 a13 a14 a15 a16 a17 a18 a19 a20 a21 a22 a23 a24 a25 a26 a27 a28 a29 a30 a31 a32 a33 a34 a35 a36 a37 a38 a39 a40 a41 a42 a43 a44 a45 : Oper} {l : List Oper} : (a0 :: a1 :: a2 :: a3 :: a4 :: a5 :: a6 :: a7 :: a8 :: a9 :: a10 :: a11 :: a12 :: a13 :: a14 :: a15 :: a16 :: a17 :: a18 :: a19 :: a20 :: a21 :: a22 :: a23 :: a24 :: a25 :: a26 :: a27 :: a28 :: a29 :: a30 :: a31 :: a32 :: a33 :: a34 :: a35 :: a36 :: a37 :: a38 :: a39 :: a40 :: a41 :: a42 :: a43 :: a44 :: a45 :: l).toArray[45]? = some a45 := rfl
theorem opAt46 {a0 a1 a2 a3 a4 a5 a6 a7 a8 a9 a10 a11 a12 a13 a14 a15 a16 a17 a18 a19 a20 a21 a22 a23 a24 a25 a26 a27 a28 a29 a30 a31 a32 a33 a34 a35 a36 a37 a38 a39 a40 a41 a42 a43 a44 a45 a46 : Oper} {l : List Oper} : (a0 :: a1 :: a2 :: a3 :: a4 :: a5 :: a6 :: a7 :: a8 :: a9 :: a10 :: a11 :: a12 :: a13 :: a14 :: a15 :: a16 :: a17 :: a18 :: a19 :: a20 :: a21 :: a22 :: a23 :: a24 :: a25 :: a26 :: a27 :: a28 :: a29 :: a30 :: a31 :: a32 :: a33 :: a34 :: a35 :: a36 :: a37 :: a38 :: a39 :: a40 :: a41 :: a42 :: a43 :: a44 :: a45 :: a46 :: l).toArray[46]? = some a46 := rfl
theorem opAt47 {a0 a1 a2 a3 a4 a5 a6 a7 a8 a9 a10 a11 a12 a13 a14 a15 a16 a17 a18 a19 a20 a21 a22 a23 a24 a25 a26 a27 a28 a29 a30 a31 a32 a33 a34 a35 a36 a37 a38 a39 a40 a41 a42 a43 a44 a45 a46 a47 : Oper} {l : List Oper} : (a0 :: a1 :: a2 :: a3 :: a4 :: a5 :: a6 :: a7 :: a8 :: a9 :: a10 :: a11 :: a12 :: a13 :: a14 :: a15 :: a16 :: a17 :: a18 :: a19 :: a20 :: a21 :: a22 :: a23 :: a24 :: a25 :: a26 :: a27 :: a28 :: a29 :: a30 :: a31 :: a32 :: a33 :: a34 :: a35 :: a36 :: a37 :: a38 :: a39 :: a40 :: a41 :: a42 :: a43 :: a44 :: a45 :: a46 :: a47 :: l).toArray[47]? = some a47 := rfl
theorem opAt48 {a0 a1 a2 a3 a4 a5 a6 a7 a8 a9 a10 a11 a12 a13 a14 a15 a16 a17 a18 a19 a20 a21 a22 a23 a24 a25 a26 a27 a28 a29 a30 a31 a32 a33 a34 a35 a36 a37 a38 a39 a40 a41 a42 a43 a44 a45 a46 a47 a48 : Oper} {l : List Oper} : (a0 :: a1 :: a2 :: a3 :: a4 :: a5 :: a6 :: a7 :: a8 :: a9 :: a10 :: a11 :: a12 :: a13 :: a14 :: a15 :: a16 :: a17 :: a18 :: a19 :: a20 :: a21 :: a22 :: a23 :: a24 :: a25 :: a26 :: a27 :: a28 :: a29 :: a30 :: a31 :: a32 :: a33 :: a34 :: a35 :: a36 :: a37 :: a38 :: a39 :: a40 :: a41 :: a42 :: a43 :: a44 :: a45 :: a46 :: a47 :: a48 :: l).toArray[48]? = some a48 := rfl
theorem opAt49 {a0 a1 a2 a3 a4 a5 a6 a7 a8 a9 a10 a11 a12 a13 a14 a15 a16 a17 a18 a19 a20 a21 a22 a23 a24 a25 a26 a27 a28 a29 a30 a31 a32 a33 a34 a35 a36 a37 a38 a39 a40 a41 a42 a43 a44 a45 a46 a47 a48 a49 : Oper} {l : List Oper} : (a0 :: a1 :: a2 :: a3 :: a4 :: a5 :: a6 :: a7 :: a8 :: a9 :: a10 :: a11 :: a12 :: a13 :: a14 :: a15 :: a16 :: a17 :: a18 :: a19 :: a20 :: a21 :: a22 :: a23 :: a24 :: a25 :: a26 :: a27 :: a28 :: a29 :: a30 :: a31 :: a32 :: a33 :: a34 :: a35 :: a36 :: a37 :: a38 :: a39 :: a40 :: a41 :: a42 :: a43 :: a44 :: a45 :: a46 :: a47 :: a48 :: a49 :: l).toArray[49]? = some a49 := rfl
theorem opAt50 {a0 a1 a2 a3 a4 a5 a6 a7 a8 a9 a10 a11 a12 a13 a14 a15 a16 a17 a18 a19 a20 a21 a22 a23 a24 a25 a26 a27 a28 a29 a30 a31 a32 a33 a34 a35 a36 a37 a38 a39 a40 a41 a42 a43 a44 a45 a46 a47 a48 a49 a50 : Oper} {l : List Oper} : (a0 :: a1 :: a2 :: a3 :: a4 :: a5 :: a6 :: a7 :: a8 :: a9 :: a10 :: a11 :: a12 :: a13 :: a14 :: a15 :: a16 :: a17 :: a18 :: a19 :: a20 :: a21 :: a22 :: a23 :: a24 :: a25 :: a26 :: a27 :: a28 :: a29 :: a30 :: a31 :: a32 :: a33 :: a34 :: a35 :: a36 :: a37 :: a38 :: a39 :: a40 :: a41 :: a42 :: a43 :: a44 :: a45 :: a46 :: a47 :: a48 :: a49 :: a50 :: l).toArray[50]? = some a50 := rfl
theorem opAt51 {a0 a1 a2 a3 a4 a5 a6 a7 a8 a9 a10 a11 a12 a13 a14 a15 a16 a17 a18 a19 a20 a21 a22 a23 a24 a25 a26 a27 a28 a29 a30 a31 a32 a33 a34 a35 a36 a37 a38 a39 a40 a41 a42 a43 a44 a45 a46 a47 a48 a49 a50 a51 : Oper} {l : List Oper} : (a0 :: a1 :: a2 :: a3 :: a4 :: a5 :: a6 :: a7 :: a8 :: a9 :: a10 :: a11 :: a12 :: a13 :: a14 :: a15 :: a16 :: a17 :: a18 :: a19 :: a20 :: a21 :: a22 :: a23 :: a24 :: a25 :: a26 :: a27 :: a28 :: a29 :: a30 :: a31 :: a32 :: a33 :: a34 :: a35 :: a36 :: a37 :: a38 :: a39 :: a40 :: a41 :: a42 :: a43 :: a44 :: a45 :: a46 :: a47 :: a48 :: a49 :: a50 :: a51 :: l).toArray[51]? = some a51 := rfl
theorem opAt52 {a0 a1 a2 a3 a4 a5 a6 a7 a8 a9 a10 a11 a12 a13 a14 a15 a16 a17 a18 a19 a20 a21 a22 a23 a24 a25 a26 a27 a28 a29 a30 a31 a32 a33 a34 a35 a36 a37 a38 a39 a40 a41 a42 a43 a44 a45 a46 a47 a48 a49 a50 a51 a52 : Oper} {l : List Oper} : (a0 :: a1 :: a2 :: a3 :: a4 :: a5 :: a6 :: a7 :: a8 :: a9 :: a10 :: a11 :: a12 :: a13 :: a14 :: a15 :: a16 :: a17 :: a18 :: a19 :: a20 :: a21 :: a22 :: a23 :: a24 :: a25 :: a26 :: a27 :: a28 :: a29 :: a30 :: a31 :: a32 :: a33 :: a34 :: a35 :: a36 :: a37 :: a38 :: a39 :: a40 :: a41 :: a42 :: a43 :: a44 :: a45 :: a46 :: a47 :: a48 :: a49 :: a50 :: a51 :: a52 :: l).toArray[52]? = some a52 := rfl
theorem opAt53 {a0 a1 a2 a3 a4 a5 a6 a7 a8 a9 a10 a11 a12 a13 a14 a15 a16 a17 a18 a19 a20 a21 a22 a23 a24 a25 a26 a27 a28 a29 a30 a31 a32 a33 a34 a35 a36 a37 a38 a39 a40 a41 a42 a43 a44 a45 a46 a47 a48 a49 a50 a51 a52 a53 : Oper} {l : List Oper} : (a0 :: a1 :: a2 :: a3 :: a4 :: a5 :: a6 :: a7 :: a8 :: a9 :: a10 :: a11 :: a12 :: a13 :: a14 :: a15 :: a16 :: a17 :: a18 :: a19 :: a20 :: a21 :: a22 :: a23 :: a24 :: a25 :: a26 :: a27 :: a28 :: a29 :: a30 :: a31 :: a32 :: a33 :: a34 :: a35 :: a36 :: a37 :: a38 :: a39 :: a40 :: a41 :: a42 :: a43 :: a44 :: a45 :: a46 :: a47 :: a48 :: a49 :: a50 :: a51 :: a52 :: a53 :: l).toArray[53]? = some a53 := rfl
theorem opAt54 {a0 a1 a2 a3 a4 a5 a6 a7 a8 a9 a10 a11 a12 a13 a14 a15 a16 a17 a18 a19 a20 a21 a22 a23 a24 a25 a26 a27 a28 a29 a30 a31 a32 a33 a34 a35 a36 a37 a38 a39 a40 a41 a42 a43 a44 a45 a46 a47 a48 a49 a50 a51 a52 a53 a54 : Oper} {l : List Oper} : (a0 :: a1 :: a2 :: a3 :: a4 :: a5 :: a6 :: a7 :: a8 :: a9 :: a10 :: a11 :: a12 :: a13 :: a14 :: a15 :: a16 :: a17 :: a18 :: a19 :: a20 :: a21 :: a22 :: a23 :: a24 :: a25 :: a26 :: a27 :: a28 :: a29 :: a30 :: a31 :: a32 :: a33 :: a34 :: a35 :: a36 :: a37 :: a38 :: a39 :: a40 :: a41 :: a42 :: a43 :: a44 :: a45 :: a46 :: a47 :: a48 :: a49 :: a50 :: a51 :: a52 :: a53 :: a54 :: l).toArray[54]? = some a54 := rfl
theorem opAt55 {a0 a1 a2 a3 a4 a5 a6 a7 a8 a9 a10 a11 a12 a13 a14 a15 a16 a17 a18 a19 a20 a21 a22 a23 a24 a25 a26 a27 a28 a29 a30 a31 a32 a33 a34 a35 a36 a37 a38 a39 a40 a41 a42 a43 a44 a45 a46 a47 a48 a49 a50 a51 a52 a53 a54 a55 : Oper} {l : List Oper} : (a0 :: a1 :: a2 :: a3 :: a4 :: a5 :: a6 :: a7 :: a8 :: a9 :: a10 :: a11 :: a12 :: a13 :: a14 :: a15 :: a16 :: a17 :: a18 :: a19 :: a20 :: a21 :: a22 :: a23 :: a24 :: a25 :: a26 :: a27 :: a28 :: a29 :: a30 :: a31 :: a32 :: a33 :: a34 :: a35 :: a36 :: a37 :: a38 :: a39 :: a40 :: a41 :: a42 :: a43 :: a44 :: a45 :: a46 :: a47 :: a48 :: a49 :: a50 :: a51 :: a52 :: a53 :: a54 :: a55 :: l).toArray[55]? = some a55 := rfl
theorem opAt56 {a0 a1 a2 a3 a4 a5 a6 a7 a8 a9 a10 a11 a12 a13 a14 a15 a16 a17 a18 a19 a20 a21 a22 a23 a24 a25 a26 a27 a28 a29 a30 a31 a32 a33 a34 a35 a36 a37 a38 a39 a40 a41 a42 a43 a44 a45 a46 a47 a48 a49 a50 a51 a52 a53 a54 a55 a56 : Oper} {l : List Oper} : (a0 :: a1 :: a2 :: a3 :: a4 :: a5 :: a6 :: a7 :: a8 :: a9 :: a10 :: a11 :: a12 :: a13 :: a14 :: a15 :: a16 :: a17 :: a18 :: a19 :: a20 :: a21 :: a22 :: a23 :: a24 :: a25 :: a26 :: a27 :: a28 :: a29 :: a30 :: a31 :: a32 :: a33 :: a34 :: a35 :: a36 :: a37 :: a38 :: a39 :: a40 :: a41 :: a42 :: a43 :: a44 :: a45 :: a46 :: a47 :: a48 :: a49 :: a50 :: a51 :: a52 :: a53 :: a54 :: a55 :: a56 :: l).toArray[56]? = some a56 := rfl
theorem opAt57 {a0 a1 a2 a3 a4 a5 a6 a7 a8 a9 a10 a11 a12 a13 a14 a15 a16 a17 a18 a19 a20 a21 a22 a23 a24 a25 a26 a27 a28 a29 a30 a31 a32 a33 a34 a35 a36 a37 a38 a39 a40 a41 a42 a43 a44 a45 a46 a47 a48 a49 a50 a51 a52 a53 a54 a55 a56 a57 : Oper} {l : List Oper} : (a0 :: a1 :: a2 :: a3 :: a4 :: a5 :: a6 :: a7 :: a8 :: a9 :: a10 :: a11 :: a12 :: a13 :: a14 :: a15 :: a16 :: a17 :: a18 :: a19 :: a20 :: a21 :: a22 :: a23 :: a24 :: a25 :: a26 :: a27 :: a28 :: a29 :: a30 :: a31 :: a32 :: a33 :: a34 :: a35 :: a36 :: a37 :: a38 :: a39 :: a40 :: a41 :: a42 :: a43 :: a44 :: a45 :: a46 :: a47 :: a48 :: a49 :: a50 :: a51 :: a52 :: a53 :: a54 :: a55 :: a56 :: a57 :: l).toArray[57]? = some a57 := rfl
theorem opAt58 {a0 a1 a2 a3 a4 a5 a6 a7 a8 a9 a10 a11 a12 a13 a14 a15 a16 a17 a18 a19 a20 a21 a22 a23 a24 a25 a26 a27 a28 a29 a30 a31 a32 a33 a34 a35 a36 a37 a38 a39 a40 a41 a42 a43 a44 a45 a46 a47 a48 a49 a50 a51 a52 a53 a54 a55 a56 a57 a58 : Oper} {l : List Oper} : (a0 :: a1 :: a2 :: a3 :: a4 :: a5 :: a6 :: a7 :: a8 :: a9 :: a10 :: a11 :: a12 :: a13 :: a14 :: a15 :: a16 :: a17 :: a18 :: a19 :: a20 :: a21 :: a22 :: a23 :: a24 :: a25 :: a26 :: a27 :: a28 :: a29 :: a30 :: a31 :: a32 :: a33 :: a34 :: a35 :: a36 :: a37 :: a38 :: a39 :: a40 :: a41 :: a42 :: a43 :: a44 :: a45 :: a46 :: a47 :: a48 :: a49 :: a50 :: a51 :: a52 :: a53 :: a54 :: a55 :: a56 :: a57 :: a58 :: l).toArray[58]? = some a58 := rfl
theorem opAt59 {a0 a1 a2 a3 a4 a5 a6 a7 a8 a9 a10 a11 a12 a13 a14 a15 a16 a17 a18 a19 a20 a21 a22 a23 a24 a25 a26 a27 a28 a29 a30 a31 a32 a33 a34 a35 a36 a37 a38 a39 a40 a41 a42 a43 a44 a45 a46 a47 a48 a49 a50 a51 a52 a53 a54 a55 a56 a57 a58 a59 : Oper} {l : List Oper} : (a0 :: a1 :: a2 :: a3 :: a4 :: a5 :: a6 :: a7 :: a8 :: a9 :: a10 :: a11 :: a12 :: a13 :: a14 :: a15 :: a16 :: a17 :: a18 :: a19 :: a20 :: a21 :: a22 :: a23 :: a24 :: a25 :: a26 :: a27 :: a28 :: a29 :: a30 :: a31 :: a32 :: a33 :: a34 :: a35 :: a36 :: a37 :: a38 :: a39 :: a40 :: a41 :: a42 :: a43 :: a44 :: a45 :: a46 :: a47 :: a48 :: a49 :: a50 :: a51 :: a52 :: a53 :: a54 :: a55 :: a56 :: a57 :: a58 :: a59 :: l).toArray[59]? = some a59 := rfl
theorem opAt60 {a0 a1 a2 a3 a4 a5 a6 a7 a8 a9 a10 a11 a12 a13 a14 a15 a16 a17 a18 a19 a20 a21 a22 a23 a24 a25 a26 a27 a28 a29 a30 a31 a32 a33 a34 a35 a36 a37 a38 a39 a40 a41 a42 a43 a44 a45 a46 a47 a48 a49 a50 a51 a52 a53 a54 a55 a56 a57 a58 a59 a60 : Oper} {l : List Oper} : (a0 :: a1 :: a2 :: a3 :: a4 :: a5 :: a6 :: a7 :: a8 :: a9 :: a10 :: a11 :: a12 :: a13 :: a14 :: a15 :: a16 :: a17 :: a18 :: a19 :: a20 :: a21 :: a22 :: a23 :: a24 :: a25 :: a26 :: a27 :: a28 :: a29 :: a30 :: a31 :: a32 :: a33 :: a34 :: a35 :: a36 :: a37 :: a38 :: a39 :: a40 :: a41 :: a42 :: a43 :: a44 :: a45 :: a46 :: a47 :: a48 :: a49 :: a50 :: a51 :: a52 :: a53 :: a54 :: a55 :: a56 :: a57 :: a58 :: a59 :: a60 :: l).toArray[60]? = some a60 := rfl
theorem opAt61 {a0 a1 a2 a3 a4 a5 a6 a7 a8 a9 a10 a11 a12 a13 a14 a15 a16 a17 a18 a19 a20 a21 a22 a23 a24 a25 a26 a27 a28 a29 a30 a31 a32 a33 a34 a35 a36 a37 a38 a39 a40 a41 a42 a43 a44 a45 a46 a47 a48 a49 a50 a51 a52 a53 a54 a55 a56 a57 a58 a59 a60 a61 : Oper} {l : List Oper} : (a0 :: a1 :: a2 :: a3 :: a4 :: a5 :: a6 :: a7 :: a8 :: a9 :: a10 :: a11 :: a12 :: a13 :: a14 :: a15 :: a16 :: a17 :: a18 :: a19 :: a20 :: a21 :: a22 :: a23 :: a24 :: a25 :: a26 :: a27 :: a28 :: a29 :: a30 :: a31 :: a32 :: a33 :: a34 :: a35 :: a36 :: a37 :: a38 :: a39 :: a40 :: a41 :: a42 :: a43 :: a44 :: a45 :: a46 :: a47 :: a48 :: a49 :: a50 :: a51 :: a52 :: a53 :: a54 :: a55 :: a56 :: a57 :: a58 :: a59 :: a60 :: a61 :: l).toArray[61]? = some a61 := rfl
theorem opAt62 {a0 a1 a2 a3 a4 a5 a6 a7 a8 a9 a10 a11 a12 a13 a14 a15 a16 a17 a18 a19 a20 a21 a22 a23 a24 a25 a26 a27 a28 a29 a30 a31 a32 a33 a34 a35 a36 a37 a38 a39 a40 a41 a42 a43 a44 a45 a46 a47 a48 a49 a50 a51 a52 a53 a54 a55 a56 a57 a58 a59 a60 a61 a62 : Oper} {l : List Oper} : (a0 :: a1 :: a2 :: a3 :: a4 :: a5 :: a6 :: a7 :: a8 :: a9 :: a10 :: a11 :: a12 :: a13 :: a14 :: a15 :: a16 :: a17 :: a18 :: a19 :: a20 :: a21 :: a22 :: a23 :: a24 :: a25 :: a26 :: a27 :: a28 :: a29 :: a30 :: a31 :: a32 :: a33 :: a34 :: a35 :: a36 :: a37 :: a38 :: a39 :: a40 :: a41 :: a42 :: a43 :: a44 :: a45 :: a46 :: a47 :: a48 :: a49 :: a50 :: a51 :: a52 :: a53 :: a54 :: a55 :: a56 :: a57 :: a58 :: a59 :: a60 :: a61 :: a62 :: l).toArray[62]? = some a62 := rfl
theorem opAt63 {a0 a1 a2 a3 a4 a5 a6 a7 a8 a9 a10 a11 a12 a13 a14 a15 a16 a17 a18 a19 a20 a21 a22 a23 a24 a25 a26 a27 a28 a29 a30 a31 a32 a33 a34 a35 a36 a37 a38 a39 a40 a41 a42 a43 a44 a45 a46 a47 a48 a49 a50 a51 a52 a53 a54 a55 a56 a57 a58 a59 a60 a61 a62 a63 : Oper} {l : List Oper} : (a0 :: a1 :: a2 :: a3 :: a4 :: a5 :: a6 :: a7 :: a8 :: a9 :: a10 :: a11 :: a12 :: a13 :: a14 :: a15 :: a16 :: a17 :: a18 :: a19 :: a20 :: a21 :: a22 :: a23 :: a24 :: a25 :: a26 :: a27 :: a28 :: a29 :: a30 :: a31 :: a32 :: a33 :: a34 :: a35 :: a36 :: a37 :: a38 :: a39 :: a40 :: a41 :: a42 :: a43 :: a44 :: a45 :: a46 :: a47 :: a48 :: a49 :: a50 :: a51 :: a52 :: a53 :: a54 :: a55 :: a56 :: a57 :: a58 :: a59 :: a60 :: a61 :: a62 :: a63 :: l).toArray[63]? = some a63 := rfl
theorem opAt64 {a0 a1 a2 a3 a4 a5 a6 a7 a8 a9 a10 a11 a12 a13 a14 a15 a16 a17 a18 a19 a20 a21 a22 a23 a24 a25 a26 a27 a28 a29 a30 a31 a32 a33 a34 a35 a36 a37 a38 a39 a40 a41 a42 a43 a44 a45 a46 a47 a48 a49 a50 a51 a52 a53 a54 a55 a56 a57 a58 a59 a60 a61 a62 a63 a64 : Oper} {l : List Oper} : (a0 :: a1 :: a2 :: a3 :: a4 :: a5 :: a6 :: a7 :: a8 :: a9 :: a10 :: a11 :: a12 :: a13 :: a14 :: a15 :: a16 :: a17 :: a18 :: a19 :: a20 :: a21 :: a22 :: a23 :: a24 :: a25 :: a26 :: a27 :: a28 :: a29 :: a30 :: a31 :: a32 :: a33 :: a34 :: a35 :: a36 :: a37 :: a38 :: a39 :: a40 :: a41 :: a42 :: a43 :: a44 :: a45 :: a46 :: a47 :: a48 :: a49 :: a50 :: a51 :: a52 :: a53 :: a54 :: a55 :: a56 :: a57 :: a58 :: a59 :: a60 :: a61 :: a62 :: a63 :: a64 :: l).toArray[64]? = some a64 := rfl
theorem opAt65 {a0 a1 a2 a3 a4 a5 a6 a7 a8 a9 a10 a11 a12 a13 a14 a15 a16 a17 a18 a19 a20 a21 a22 a23 a24 a25 a26 a27 a28 a29 a30 a31 a32 a33 a34 a35 a36 a37 a38 a39 a40 a41 a42 a43 a44 a45 a46 a47 a48 a49 a50 a51 a52 a53 a54 a55 a56 a57 a58 a59 a60 a61 a62 a63 a64 a65 : Oper} {l : List Oper} : (a0 :: a1 :: a2 :: a3 :: a4 :: a5 :: a6 :: a7 :: a8 :: a9 :: a10 :: a11 :: a12 :: a13 :: a14 :: a15 :: a16 :: a17 :: a18 :: a19 :: a20 :: a21 :: a22 :: a23 :: a24 :: a25 :: a26 :: a27 :: a28 :: a29 :: a30 :: a31 :: a32 :: a33 :: a34 :: a35 :: a36 :: a37 :: a38 :: a39 :: a40 :: a41 :: a42 :: a43 :: a44 :: a45 :: a46 :: a47 :: a48 :: a49 :: a50 :: a51 :: a52 :: a53 :: a54 :: a55 :: a56 :: a57 :: a58 :: a59 :: a60 :: a61 :: a62 :: a63 :: a64 :: a65 :: l).toArray[65]? = some a65 := rfl
theorem opAt66 {a0 a1 a2 a3 a4 a5 a6 a7 a8 a9 a10 a11 a12 a13 a14 a15 a16 a17 a18 a19 a20 a21 a22 a23 a24 a25 a26 a27 a28 a29 a30 a31 a32 a33 a34 a35 a36 a37 a38 a39 a40 a41 a42 a43 a44 a45 a46 a47 a48 a49 a50 a51 a52 a53 a54 a55 a56 a57 a58 a59 a60 a61 a62 a63 a64 a65 a66 : Oper} {l : List Oper} : (a0 :: a1 :: a2 :: a3 :: a4 :: a5 :: a6 :: a7 :: a8 :: a9 :: a10 :: a11 :: a12 :: a13 :: a14 :: a15 :: a16 :: a17 :: a18 :: a19 :: a20 :: a21 :: a22 :: a23 :: a24 :: a25 :: a26 :: a27 :: a28 :: a29 :: a30 :: a31 :: a32 :: a33 :: a34 :: a35 :: a36 :: a37 :: a38 :: a39 :: a40 :: a41 :: a42 :: a43 :: a44 :: a45 :: a46 :: a47 :: a48 :: a49 :: a50 :: a51 :: a52 :: a53 :: a54 :: a55 :: a56 :: a57 :: a58 :: a59 :: a60 :: a61 :: a62 :: a63 :: a64 :: a65 :: a66 :: l).toArray[66]? = some a66 := rfl
theorem opAt67 {a0 a1 a2 a3 a4 a5 a6 a7 a8 a9 a10 a11 a12 a13 a14 a15 a16 a17 a18 a19 a20 a21 a22 a23 a24 a25 a26 a27 a28 a29 a30 a31 a32 a33 a34 a35 a36 a37 a38 a39 a40 a41 a42 a43 a44 a45 a46 a47 a48 a49 a50 a51 a52 a53 a54 a55 a56 a57 a58 a59 a60 a61 a62 a63 a64 a65 a66 a67 : Oper} {l : List Oper} : (a0 :: a1 :: a2 :: a3 :: a4 :: a5 :: a6 :: a7 :: a8 :: a9 :: a10 :: a11 :: a12 :: a13 :: a14 :: a15 :: a16 :: a17 :: a18 :: a19 :: a20 :: a21 :: a22 :: a23 :: a24 :: a25 :: a26 :: a27 :: a28 :: a29 :: a30 :: a31 :: a32 :: a33 :: a34 :: a35 :: a36 :: a37 :: a38 :: a39 :: a40 :: a41 :: a42 :: a43 :: a44 :: a45 :: a46 :: a47 :: a48 :: a49 :: a50 :: a51 :: a52 :: a53 :: a54 :: a55 :: a56 :: a57 :: a58 :: a59 :: a60 :: a61 :: a62 :: a63 :: a64 :: a65 :: a66 :: a67 :: l).toArray[67]? = some a67 := rfl
theorem opAt68 {a0 a1 a2 a3 a4 a5 a6 a7 a8 a9 a10 a11 a12 a13 a14 a15 a16 a17 a18 a19 a20 a21 a22 a23 a24 a25 a26 a27 a28 a29 a30 a31 a32 a33 a34 a35 a36 a37 a38 a39 a40 a41 a42 a43 a44 a45 a46 a47 a48 a49 a50 a51 a52 a53 a54 a55 a56 a57 a58 a59 a60 a61 a62 a63 a64 a65 a66 a67 a68 : Oper} {l : List Oper} : (a0 :: a1 :: a2 :: a3 :: a4 :: a5 :: a6 :: a7 :: a8 :: a9 :: a10 :: a11 :: a12 :: a13 :: a14 :: a15 :: a16 :: a17 :: a18 :: a19 :: a20 :: a21 :: a22 :: a23 :: a24 :: a25 :: a26 :: a27 :: a28 :: a29 :: a30 :: a31 :: a32 :: a33 :: a34 :: a35 :: a36 :: a37 :: a38 :: a39 :: a40 :: a41 :: a42 :: a43 :: a44 :: a45 :: a46 :: a47 :: a48 :: a49 :: a50 :: a51 :: a52 :: a53 :: a54 :: a55 :: a56 :: a57 :: a58 :: a59 :: a60 :: a61 :: a62 :: a63 :: a64 :: a65 :: a66 :: a67 :: a68 :: l).toArray[68]? = some a68 := rfl
theorem opAt69 {a0 a1 a2 a3 a4 a5 a6 a7 a8 a9 a10 a11 a12 a13 a14 a15 a16 a17 a18 a19 a20 a21 a22 a23 a24 a25 a26 a27 a28 a29 a30 a31 a32 a33 a34 a35 a36 a37 a38 a39 a40 a41 a42 a43 a44 a45 a46 a47 a48 a49 a50 a51 a52 a53 a54 a55 a56 a57 a58 a59 a60 a61 a62 a63 a64 a65 a66 a67 a68 a69 : Oper} {l : List Oper} : (a0 :: a1 :: a2 :: a3 :: a4 :: a5 :: a6 :: a7 :: a8 :: a9 :: a10 :: a11 :: a12 :: a13 :: a14 :: a15 :: a16 :: a17 :: a18 :: a19 :: a20 :: a21 :: a22 :: a23 :: a24 :: a25 :: a26 :: a27 :: a28 :: a29 :: a30 :: a31 :: a32 :: a33 :: a34 :: a35 :: a36 :: a37 :: a38 :: a39 :: a40 :: a41 :: a42 :: a43 :: a44 :: a45 :: a46 :: a47 :: a48 :: a49 :: a50 :: a51 :: a52 :: a53 :: a54 :: a55 :: a56 :: a57 :: a58 :: a59 :: a60 :: a61 :: a62 :: a63 :: a64 :: a65 :: a66 :: a67 :: a68 :: a69 :: l).toArray[69]? = some a69 := rfl
theorem opAt70 {a0 a1 a2 a3 a4 a5 a6 a7 a8 a9 a10 a11 a12 a13 a14 a15 a16 a17 a18 a19 a20 a21 a22 a23 a24 a25 a26 a27 a28 a29 a30 a31 a32 a33 a34 a35 a36 a37 a38 a39 a40 a41 a42 a43 a44 a45 a46 a47 a48 a49 a50 a51 a52 a53 a54 a55 a56 a57 a58 a59 a60 a61 a62 a63 a64 a65 a66 a67 a68 a69 a70 : Oper} {l : List Oper} : (a0 :: a1 :: a2 :: a3 :: a4 :: a5 :: a6 :: a7 :: a8 :: a9 :: a10 :: a11 :: a12 :: a13 :: a14 :: a15 :: a16 :: a17 :: a18 :: a19 :: a20 :: a21 :: a22 :: a23 :: a24 :: a25 :: a26 :: a27 :: a28 :: a29 :: a30 :: a31 :: a32 :: a33 :: a34 :: a35 :: a36 :: a37 :: a38 :: a39 :: a40 :: a41 :: a42 :: a43 :: a44 :: a45 :: a46 :: a47 :: a48 :: a49 :: a50 :: a51 :: a52 :: a53 :: a54 :: a55 :: a56 :: a57 :: a58 :: a59 :: a60 :: a61 :: a62 :: a63 :: a64 :: a65 :: a66 :: a67 :: a68 :: a69 :: a70 :: l).toArray[70]? = some a70 := rfl
theorem opAt71 {a0 a1 a2 a3 a4 a5 a6 a7 a8 a9 a10 a11 a12 a13 a14 a15 a16 a17 a18 a19 a20 a21 a22 a23 a24 a25 a26 a27 a28 a29 a30 a31 a32 a33 a34 a35 a36 a37 a38 a39 a40 a41 a42 a43 a44 a45 a46 a47 a48 a49 a50 a51 a52 a53 a54 a55 a56 a57 a58 a59 a60 a61 a62 a63 a64 a65 a66 a67 a68 a69 a70 a71 : Oper} {l : List Oper} : (a0 :: a1 :: a2 :: a3 :: a4 :: a5 :: a6 :: a7 :: a8 :: a9 :: a10 :: a11 :: a12 :: a13 :: a14 :: a15 :: a16 :: a17 :: a18 :: a19 :: a20 :: a21 :: a22 :: a23 :: a24 :: a25 :: a26 :: a27 :: a28 :: a29 :: a30 :: a31 :: a32 :: a33 :: a34 :: a35 :: a36 :: a37 :: a38 :: a39 :: a40 :: a41 :: a42 :: a43 :: a44 :: a45 :: a46 :: a47 :: a48 :: a49 :: a50 :: a51 :: a52 :: a53 :: a54 :: a55 :: a56 :: a57 :: a58 :: a59 :: a60 :: a61 :: a62 :: a63 :: a64 :: a65 :: a66 :: a67 :: a68 :: a69 :: a70 :: a71 :: l).toArray[71]? = some a71 := rfl
theorem opAt72 {a0 a1 a2 a3 a4 a5 a6 a7 a8 a9 a10 a11 a12 a13 a14 a15 a16 a17 a18 a19 a20 a21 a22 a23 a24 a25 a26 a27 a28 a29 a30 a31 a32 a33 a34 a35 a36 a37 a38 a39 a40 a41 a42 a43 a44 a45 a46 a47 a48 a49 a50 a51 a52 a53 a54 a55 a56 a57 a58 a59 a60 a61 a62 a63 a64 a65 a66 a67 a68 a69 a70 a71 a72 : Oper} {l : List Oper} : (a0 :: a1 :: a2 :: a3 :: a4 :: a5 :: a6 :: a7 :: a8 :: a9 :: a10 :: a11 :: a12 :: a13 :: a14 :: a15 :: a16 :: a17 :: a18 :: a19 :: a20 :: a21 :: a22 :: a23 :: a24 :: a25 :: a26 :: a27 :: a28 :: a29 :: a30 :: a31 :: a32 :: a33 :: a34 :: a35 :: a36 :: a37 :: a38 :: a39 :: a40 :: a41 :: a42 :: a43 :: a44 :: a45 :: a46 :: a47 :: a48 :: a49 :: a50 :: a51 :: a52 :: a53 :: a54 :: a55 :: a56 :: a57 :: a58 :: a59 :: a60 :: a61 :: a62 :: a63 :: a64 :: a65 :: a66 :: a67 :: a68 :: a69 :: a70 :: a71 :: a72 :: l).toArray[72]? = some a72 := rfl
theorem opAt73 {a0 a1 a2 a3 a4 a5 a6 a7 a8 a9 a10 a11 a12 a13 a14 a15 a16 a17 a18 a19 a20 a21 a22 a23 a24 a25 a26 a27 a28 a29 a30 a31 a32 a33 a34 a35 a36 a37 a38 a39 a40 a41 a42 a43 a44 a45 a46 a47 a48 a49 a50 a51 a52 a53 a54 a55 a56 a57 a58 a59 a60 a61 a62 a63 a64 a65 a66 a67 a68 a69 a70 a71 a72 a73 : Oper} {l : List Oper} : (a0 :: a1 :: a2 :: a3 :: a4 :: a5 :: a6 :: a7 :: a8 :: a9 :: a10 :: a11 :: a12 :: a13 :: a14 :: a15 :: a16 :: a17 :: a18 :: a19 :: a20 :: a21 :: a22 :: a23 :: a24 :: a25 :: a26 :: a27 :: a28 :: a29 :: a30 :: a31 :: a32 :: a33 :: a34 :: a35 :: a36 :: a37 :: a38 :: a39 :: a40 :: a41 :: a42 :: a43 :: a44 :: a45 :: a46 :: a47 :: a48 :: a49 :: a50 :: a51 :: a52 :: a53 :: a54 :: a55 :: a56 :: a57 :: a58 :: a59 :: a60 :: a61 :: a62 :: a63 :: a64 :: a65 :: a66 :: a67 :: a68 :: a69 :: a70 :: a71 :: a72 :: a73 :: l).toArray[73]? = some a73 := rfl
theorem opAt74 {a0 a1 a2 a3 a4 a5 a6 a7 a8 a9 a10 a11 a12 a13 a14 a15 a16 a17 a18 a19 a20 a21 a22 a23 a24 a25 a26 a27 a28 a29 a30 a31 a32 a33 a34 a35 a36 a37 a38 a39 a40 a41 a42 a43 a44 a45 a46 a47 a48 a49 a50 a51 a52 a53 a54 a55 a56 a57 a58 a59 a60 a61 a62 a63 a64 a65 a66 a67 a68 a69 a70 a71 a72 a73 a74 : Oper} {l : List Oper} : (a0 :: a1 :: a2 :: a3 :: a4 :: a5 :: a6 :: a7 :: a8 :: a9 :: a10 :: a11 :: a12 :: a13 :: a14 :: a15 :: a16 :: a17 :: a18 :: a19 :: a20 :: a21 :: a22 :: a23 :: a24 :: a25 :: a26 :: a27 :: a28 :: a29 :: a30 :: a31 :: a32 :: a33 :: a34 :: a35 :: a36 :: a37 :: a38 :: a39 :: a40 :: a41 :: a42 :: a43 :: a44 :: a45 :: a46 :: a47 :: a48 :: a49 :: a50 :: a51 :: a52 :: a53 :: a54 :: a55 :: a56 :: a57 :: a58 :: a59 :: a60 :: a61 :: a62 :: a63 :: a64 :: a65 :: a66 :: a67 :: a68 :: a69 :: a70 :: a71 :: a72 :: a73 :: a74 :: l).toArray[74]? = some a74 := rfl
theorem opAt75 {a0 a1 a2 a3 a4 a5 a6 a7 a8 a9 a10 a11 a12 a13 a14 a15 a16 a17 a18 a19 a20 a21 a22 a23 a24 a25 a26 a27 a28 a29 a30 a31 a32 a33 a34 a35 a36 a37 a38 a39 a40 a41 a42 a43 a44 a45 a46 a47 a48 a49 a50 a51 a52 a53 a54 a55 a56 a57 a58 a59 a60 a61 a62 a63 a64 a65 a66 a67 a68 a69 a70 a71 a72 a73 a74 a75 : Oper} {l : List Oper} : (a0 :: a1 :: a2 :: a3 :: a4 :: a5 :: a6 :: a7 :: a8 :: a9 :: a10 :: a11 :: a12 :: a13 :: a14 :: a15 :: a16 :: a17 :: a18 :: a19 :: a20 :: a21 :: a22 :: a23 :: a24 :: a25 :: a26 :: a27 :: a28 :: a29 :: a30 :: a31 :: a32 :: a33 :: a34 :: a35 :: a36 :: a37 :: a38 :: a39 :: a40 :: a41 :: a42 :: a43 :: a44 :: a45 :: a46 :: a47 :: a48 :: a49 :: a50 :: a51 :: a52 :: a53 :: a54 :: a55 :: a56 :: a57 :: a58 :: a59 :: a60 :: a61 :: a62 :: a63 :: a64 :: a65 :: a66 :: a67 :: a68 :: a69 :: a70 :: a71 :: a72 :: a73 :: a74 :: a75 :: l).toArray[75]? = some a75 := rfl
theorem opAt76 {a0 a1 a2 a3 a4 a5 a6 a7 a8 a9 a10 a11 a12 a13 a14 a15 a16 a17 a18 a19 a20 a21 a22 a23 a24 a25 a26 a27 a28 a29 a30 a31 a32 a33 a34 a35 a36 a37 a38 a39 a40 a41 a42 a43 a44 a45 a46 a47 a48 a49 a50 a51 a52 a53 a54 a55 a56 a57 a58 a59 a60 a61 a62 a63 a64 a65 a66 a67 a68 a69 a70 a71 a72 a73 a74 a75 a76 : Oper} {l : List Oper} : (a0 :: a1 :: a2 :: a3 :: a4 :: a5 :: a6 :: a7 :: a8 :: a9 :: a10 :: a11 :: a12 :: a13 :: a14 :: a15 :: a16 :: a17 :: a18 :: a19 :: a20 :: a21 :: a22 :: a23 :: a24 :: a25 :: a26 :: a27 :: a28 :: a29 :: a30 :: a31 :: a32 :: a33 :: a34 :: a35 :: a36 :: a37 :: a38 :: a39 :: a40 :: a41 :: a42 :: a43 :: a44 :: a45 :: a46 :: a47 :: a48 :: a49 :: a50 :: a51 :: a52 :: a53 :: a54 :: a55 :: a56 :: a57 :: a58 :: a59 :: a60 :: a61 :: a62 :: a63 :: a64 :: a65 :: a66 :: a67 :: a68 :: a69 :: a70 :: a71 :: a72 :: a73 :: a74 :: a75 :: a76 :: l).toArray[76]? = some a76 := rfl
theorem opAt77 {a0 a1 a2 a3 a4 a5 a6 a7 a8 a9 a10 a11 a12 a13 a14 a15 a16 a17 a18 a19 a20 a21 a22 a23 a24 a25 a26 a27 a28 a29 a30 a31 a32 a33 a34 a35 a36 a37 a38 a39 a40 a41 a42 a43 a44 a45 a46 a47 a48 a49 a50 a51 a52 a53 a54 a55 a56 a57 a58 a59 a60 a61 a62 a63 a64 a65 a66 a67 a68 a69 a70 a71 a72 a73 a74 a75 a76 a77 : Oper} {l : List Oper} : (a0 :: a1 :: a2 :: a3 :: a4 :: a5 :: a6 :: a7 :: a8 :: a9 :: a10 :: a11 :: a12 :: a13 :: a14 :: a15 :: a16 :: a17 :: a18 :: a19 :: a20 :: a21 :: a22 :: a23 :: a24 :: a25 :: a26 :: a27 :: a28 :: a29 :: a30 :: a31 :: a32 :: a33 :: a34 :: a35 :: a36 :: a37 :: a38 :: a39 :: a40 :: a41 :: a42 :: a43 :: a44 :: a45 :: a46 :: a47 :: a48 :: a49 :: a50 :: a51 :: a52 :: a53 :: a54 :: a55 :: a56 :: a57 :: a58 :: a59 :: a60 :: a61 :: a62 :: a63 :: a64 :: a65 :: a66 :: a67 :: a68 :: a69 :: a70 :: a71 :: a72 :: a73 :: a74 :: a75 :: a76 :: a77 :: l).toArray[77]? = some a77 := rfl
theorem opAt78 {a0 a1 a2 a3 a4 a5 a6 a7 a8 a9 a10 a11 a12 a13 a14 a15 a16 a17 a18 a19 a20 a21 a22 a23 a24 a25 a26 a27 a28 a29 a30 a31 a32 a33 a34 a35 a36 a37 a38 a39 a40 a41 a42 a43 a44 a45 a46 a47 a48 a49 a50 a51 a52 a53 a54 a55 a56 a57 a58 a59 a60 a61 a62 a63 a64 a65 a66 a67 a68 a69 a70 a71 a72 a73 a74 a75 a76 a77 a78 : Oper} {l : List Oper} : (a0 :: a1 :: a2 :: a3 :: a4 :: a5 :: a6 :: a7 :: a8 :: a9 :: a10 :: a11 :: a12 :: a13 :: a14 :: a15 :: a16 :: a17 :: a18 :: a19 :: a20 :: a21 :: a22 :: a23 :: a24 :: a25 :: a26 :: a27 :: a28 :: a29 :: a30 :: a31 :: a32 :: a33 :: a34 :: a35 :: a36 :: a37 :: a38 :: a39 :: a40 :: a41 :: a42 :: a43 :: a44 :: a45 :: a46 :: a47 :: a48 :: a49 :: a50 :: a51 :: a52 :: a53 :: a54 :: a55 :: a56 :: a57 :: a58 :: a59 :: a60 :: a61 :: a62 :: a63 :: a64 :: a65 :: a66 :: a67 :: a68 :: a69 :: a70 :: a71 :: a72 :: a73 :: a74 :: a75 :: a76 :: a77 :: a78 :: l).toArray[78]? = some a78 := rfl
theorem opAt79 {a0 a1 a2 a3 a4 a5 a6 a7 a8 a9 a10 a11 a12 a13 a14 a15 a16 a17 a18 a19 a20 a21 a22 a23 a24 a25 a26 a27 a28 a29 a30 a31 a32 a33 a34 a35 a36 a37 a38 a39 a40 a41 a42 a43 a44 a45 a46 a47 a48 a49 a50 a51 a52 a53 a54 a55 a56 a57 a58 a59 a60 a61 a62 a63 a64 a65 a66 a67 a68 a69 a70 a71 a72 a73 a74 a75 a76 a77 a78 a79 : Oper} {l : List Oper} : (a0 :: a1 :: a2 :: a3 :: a4 :: a5 :: a6 :: a7 :: a8 :: a9 :: a10 :: a11 :: a12 :: a13 :: a14 :: a15 :: a16 :: a17 :: a18 :: a19 :: a20 :: a21 :: a22 :: a23 :: a24 :: a25 :: a26 :: a27 :: a28 :: a29 :: a30 :: a31 :: a32 :: a33 :: a34 :: a35 :: a36 :: a37 :: a38 :: a39 :: a40 :: a41 :: a42 :: a43 :: a44 :: a45 :: a46 :: a47 :: a48 :: a49 :: a50 :: a51 :: a52 :: a53 :: a54 :: a55 :: a56 :: a57 :: a58 :: a59 :: a60 :: a61 :: a62 :: a63 :: a64 :: a65 :: a66 :: a67 :: a68 :: a69 :: a70 :: a71 :: a72 :: a73 :: a74 :: a75 :: a76 :: a77 :: a78 :: a79 :: l).toArray[79]? = some a79 := rfl
theorem opAt80 {a0 a1 a2 a3 a4 a5 a6 a7 a8 a9 a10 a11 a12 a13 a14 a15 a16 a17 a18 a19 a20 a21 a22 a23 a24 a25 a26 a27 a28 a29 a30 a31 a32 a33 a34 a35 a36 a37 a38 a39 a40 a41 a42 a43 a44 a45 a46 a47 a48 a49 a50 a51 a52 a53 a54 a55 a56 a57 a58 a59 a60 a61 a62 a63 a64 a65 a66 a67 a68 a69 a70 a71 a72 a73 a74 a75 a76 a77 a78 a79 a80 : Oper} {l : List Oper} : (a0 :: a1 :: a2 :: a3 :: a4 :: a5 :: a6 :: a7 :: a8 :: a9 :: a10 :: a11 :: a12 :: a13 :: a14 :: a15 :: a16 :: a17 :: a18 :: a19 :: a20 :: a21 :: a22 :: a23 :: a24 :: a25 :: a26 :: a27 :: a28 :: a29 :: a30 :: a31 :: a32 :: a33 :: a34 :: a35 :: a36 :: a37 :: a38 :: a39 :: a40 :: a41 :: a42 :: a43 :: a44 :: a45 :: a46 :: a47 :: a48 :: a49 :: a50 :: a51 :: a52 :: a53 :: a54 :: a55 :: a56 :: a57 :: a58 :: a59 :: a60 :: a61 :: a62 :: a63 :: a64 :: a65 :: a66 :: a67 :: a68 :: a69 :: a70 :: a71 :: a72 :: a73 :: a74 :: a75 :: a76 :: a77 :: a78 :: a79 :: a80 :: l).toArray[80]? = some a80 := rfl
theorem opAt81 {a0 a1 a2 a3 a4 a5 a6 a7 a8 a9 a10 a11 a12 a13 a14 a15 a16 a17 a18 a19 a20 a21 a22 a23 a24 a25 a26 a27 a28 a29 a30 a31 a32 a33 a34 a35 a36 a37 a38 a39 a40 a41 a42 a43 a44 a45 a46 a47 a48 a49 a50 a51 a52 a53 a54 a55 a56 a57 a58 a59 a60 a61 a62 a63 a64 a65 a66 a67 a68 a69 a70 a71 a72 a73 a74 a75 a76 a77 a78 a79 a80 a81 : Oper} {l : List Oper} : (a0 :: a1 :: a2 :: a3 :: a4 :: a5 :: a6 :: a7 :: a8 :: a9 :: a10 :: a11 :: a12 :: a13 :: a14 :: a15 :: a16 :: a17 :: a18 :: a19 :: a20 :: a21 :: a22 :: a23 :: a24 :: a25 :: a26 :: a27 :: a28 :: a29 :: a30 :: a31 :: a32 :: a33 :: a34 :: a35 :: a36 :: a37 :: a38 :: a39 :: a40 :: a41 :: a42 :: a43 :: a44 :: a45 :: a46 :: a47 :: a48 :: a49 :: a50 :: a51 :: a52 :: a53 :: a54 :: a55 :: a56 :: a57 :: a58 :: a59 :: a60 :: a61 :: a62 :: a63 :: a64 :: a65 :: a66 :: a67 :: a68 :: a69 :: a70 :: a71 :: a72 :: a73 :: a74 :: a75 :: a76 :: a77 :: a78 :: a79 :: a80 :: a81 :: l).toArray[81]? = some a81 := rfl
theorem opAt82 {a0 a1 a2 a3 a4 a5 a6 a7 a8 a9 a10 a11 a12 a13 a14 a15 a16 a17 a18 a19 a20 a21 a22 a23 a24 a25 a26 a27 a28 a29 a30 a31 a32 a33 a34 a35 a36 a37 a38 a39 a40 a41 a42 a43 a44 a45 a46 a47 a48 a49 a50 a51 a52 a53 a54 a55 a56 a57 a58 a59 a60 a61 a62 a63 a64 a65 a66 a67 a68 a69 a70 a71 a72 a73 a74 a75 a76 a77 a78 a79 a80 a81 a82 : Oper} {l : List Oper} : (a0 :: a1 :: a2 :: a3 :: a4 :: a5 :: a6 :: a7 :: a8 :: a9 :: a10 :: a11 :: a12 :: a13 :: a14 :: a15 :: a16 :: a17 :: a18 :: a19 :: a20 :: a21 :: a22 :: a23 :: a24 :: a25 :: a26 :: a27 :: a28 :: a29 :: a30 :: a31 :: a32 :: a33 :: a34 :: a35 :: a36 :: a37 :: a38 :: a39 :: a40 :: a41 :: a42 :: a43 :: a44 :: a45 :: a46 :: a47 :: a48 :: a49 :: a50 :: a51 :: a52 :: a53 :: a54 :: a55 :: a56 :: a57 :: a58 :: a59 :: a60 :: a61 :: a62 :: a63 :: a64 :: a65 :: a66 :: a67 :: a68 :: a69 :: a70 :: a71 :: a72 :: a73 :: a74 :: a75 :: a76 :: a77 :: a78 :: a79 :: a80 :: a81 :: a82 :: l).toArray[82]? = some a82 := rfl
theorem opAt83 {a0 a1 a2 a3 a4 a5 a6 a7 a8 a9 a10 a11 a12 a13 a14 a15 a16 a17 a18 a19 a20 a21 a22 a23 a24 a25 a26 a27 a28 a29 a30 a31 a32 a33 a34 a35 a36 a37 a38 a39 a40 a41 a42 a43 a44 a45 a46 a47 a48 a49 a50 a51 a52 a53 a54 a55 a56 a57 a58 a59 a60 a61 a62 a63 a64 a65 a66 a67 a68 a69 a70 a71 a72 a73 a74 a75 a76 a77 a78 a79 a80 a81 a82 a83 : Oper} {l : List Oper} : (a0 :: a1 :: a2 :: a3 :: a4 :: a5 :: a6 :: a7 :: a8 :: a9 :: a10 :: a11 :: a12 :: a13 :: a14 :: a15 :: a16 :: a17 :: a18 :: a19 :: a20 :: a21 :: a22 :: a23 :: a24 :: a25 :: a26 :: a27 :: a28 :: a29 :: a30 :: a31 :: a32 :: a33 :: a34 :: a35 :: a36 :: a37 :: a38 :: a39 :: a40 :: a41 :: a42 :: a43 :: a44 :: a45 :: a46 :: a47 :: a48 :: a49 :: a50 :: a51 :: a52 :: a53 :: a54 :: a55 :: a56 :: a57 :: a58 :: a59 :: a60 :: a61 :: a62 :: a63 :: a64 :: a65 :: a66 :: a67 :: a68 :: a69 :: a70 :: a71 :: a72 :: a73 :: a74 :: a75 :: a76 :: a77 :: a78 :: a79 :: a80 :: a81 :: a82 :: a83 :: l).toArray[83]? = some a83 := rfl
theorem opAt84 {a0 a1 a2 a3 a4 a5 a6 a7 a8 a9 a10 a11 a12 a13 a14 a15 a16 a17 a18 a19 a20 a21 a22 a23 a24 a25 a26 a27 a28 a29 a30 a31 a32 a33 a34 a35 a36 a37 a38 a39 a40 a41 a42 a43 a44 a45 a46 a47 a48 a49 a50 a51 a52 a53 a54 a55 a56 a57 a58 a59 a60 a61 a62 a63 a64 a65 a66 a67 a68 a69 a70 a71 a72 a73 a74 a75 a76 a77 a78 a79 a80 a81 a82 a83 a84 : Oper} {l : List Oper} : (a0 :: a1 :: a2 :: a3 :: a4 :: a5 :: a6 :: a7 :: a8 :: a9 :: a10 :: a11 :: a12 :: a13 :: a14 :: a15 :: a16 :: a17 :: a18 :: a19 :: a20 :: a21 :: a22 :: a23 :: a24 :: a25 :: a26 :: a27 :: a28 :: a29 :: a30 :: a31 :: a32 :: a33 :: a34 :: a35 :: a36 :: a37 :: a38 :: a39 :: a40 :: a41 :: a42 :: a43 :: a44 :: a45 :: a46 :: a47 :: a48 :: a49 :: a50 :: a51 :: a52 :: a53 :: a54 :: a55 :: a56 :: a57 :: a58 :: a59 :: a60 :: a61 :: a62 :: a63 :: a64 :: a65 :: a66 :: a67 :: a68 :: a69 :: a70 :: a71 :: a72 :: a73 :: a74 :: a75 :: a76 :: a77 :: a78 :: a79 :: a80 :: a81 :: a82 :: a83 :: a84 :: l).toArray[84]? = some a84 := rfl
theorem opAt85 {a0 a1 a2 a3 a4 a5 a6 a7 a8 a9 a10 a11 a12 a13 a14 a15 a16 a17 a18 a19 a20 a21 a22 a23 a24 a25 a26 a27 a28 a29 a30 a31 a32 a33 a34 a35 a36 a37 a38 a39 a40 a41 a42 a43 a44 a45 a46 a47 a48 a49 a50 a51 a52 a53 a54 a55 a56 a57 a58 a59 a60 a61 a62 a63 a64 a65 a66 a67 a68 a69 a70 a71 a72 a73 a74 a75 a76 a77 a78 a79 a80 a81 a82 a83 a84 a85 : Oper} {l : List Oper} : (a0 :: a1 :: a2 :: a3 :: a4 :: a5 :: a6 :: a7 :: a8 :: a9 :: a10 :: a11 :: a12 :: a13 :: a14 :: a15 :: a16 :: a17 :: a18 :: a19 :: a20 :: a21 :: a22 :: a23 :: a24 :: a25 :: a26 :: a27 :: a28 :: a29 :: a30 :: a31 :: a32 :: a33 :: a34 :: a35 :: a36 :: a37 :: a38 :: a39 :: a40 :: a41 :: a42 :: a43 :: a44 :: a45 :: a46 :: a47 :: a48 :: a49 :: a50 :: a51 :: a52 :: a53 :: a54 :: a55 :: a56 :: a57 :: a58 :: a59 :: a60 :: a61 :: a62 :: a63 :: a64 :: a65 :: a66 :: a67 :: a68 :: a69 :: a70 :: a71 :: a72 :: a73 :: a74 :: a75 :: a76 :: a77 :: a78 :: a79 :: a80 :: a81 :: a82 :: a83 :: a84 :: a85 :: l).toArray[85]? = some a85 := rfl
theorem opAt86 {a0 a1 a2 a3 a4 a5 a6 a7 a8 a9 a10 a11 a12 a13 a14 a15 a16 a17 a18 a19 a20 a21 a22 a23 a24 a25 a26 a27 a28 a29 a30 a31 a32 a33 a34 a35 a36 a37 a38 a39 a40 a41 a42 a43 a44 a45 a46 a47 a48 a49 a50 a51 a52 a53 a54 a55 a56 a57 a58 a59 a60 a61 a62 a63 a64 a65 a66 a67 a68 a69 a70 a71 a72 a73 a74 a75 a76 a77 a78 a79 a80 a81 a82 a83 a84 a85 a86 : Oper} {l : List Oper} : (a0 :: a1 :: a2 :: a3 :: a4 :: a5 :: a6 :: a7 :: a8 :: a9 :: a10 :: a11 :: a12 :: a13 :: a14 :: a15 :: a16 :: a17 :: a18 :: a19 :: a20 :: a21 :: a22 :: a23 :: a24 :: a25 :: a26 :: a27 :: a28 :: a29 :: a30 :: a31 :: a32 :: a33 :: a34 :: a35 :: a36 :: a37 :: a38 :: a39 :: a40 :: a41 :: a42 :: a43 :: a44 :: a45 :: a46 :: a47 :: a48 :: a49 :: a50 :: a51 :: a52 :: a53 :: a54 :: a55 :: a56 :: a57 :: a58 :: a59 :: a60 :: a61 :: a62 :: a63 :: a64 :: a65 :: a66 :: a67 :: a68 :: a69 :: a70 :: a71 :: a72 :: a73 :: a74 :: a75 :: a76 :: a77 :: a78 :: a79 :: a80 :: a81 :: a82 :: a83 :: a84 :: a85 :: a86 :: l).toArray[86]? = some a86 := rfl
theorem opAt87 {a0 a1 a2 a3 a4 a5 a6 a7 a8 a9 a10 a11 a12 a13 a14 a15 a16 a17 a18 a19 a20 a21 a22 a23 a24 a25 a26 a27 a28 a29 a30 a31 a32 a33 a34 a35 a36 a37 a38 a39 a40 a41 a42 a43 a44 a45 a46 a47 a48 a49 a50 a51 a52 a53 a54 a55 a56 a57 a58 a59 a60 a61 a62 a63 a64 a65 a66 a67 a68 a69 a70 a71 a72 a73 a74 a75 a76 a77 a78 a79 a80 a81 a82 a83 a84 a85 a86 a87 : Oper} {l : List Oper} : (a0 :: a1 :: a2 :: a3 :: a4 :: a5 :: a6 :: a7 :: a8 :: a9 :: a10 :: a11 :: a12 :: a13 :: a14 :: a15 :: a16 :: a17 :: a18 :: a19 :: a20 :: a21 :: a22 :: a23 :: a24 :: a25 :: a26 :: a27 :: a28 :: a29 :: a30 :: a31 :: a32 :: a33 :: a34 :: a35 :: a36 :: a37 :: a38 :: a39 :: a40 :: a41 :: a42 :: a43 :: a44 :: a45 :: a46 :: a47 :: a48 :: a49 :: a50 :: a51 :: a52 :: a53 :: a54 :: a55 :: a56 :: a57 :: a58 :: a59 :: a60 :: a61 :: a62 :: a63 :: a64 :: a65 :: a66 :: a67 :: a68 :: a69 :: a70 :: a71 :: a72 :: a73 :: a74 :: a75 :: a76 :: a77 :: a78 :: a79 :: a80 :: a81 :: a82 :: a83 :: a84 :: a85 :: a86 :: a87 :: l).toArray[87]? = some a87 := rfl
theorem opAt88 {a0 a1 a2 a3 a4 a5 a6 a7 a8 a9 a10 a11 a12 a13 a14 a15 a16 a17 a18 a19 a20 a21 a22 a23 a24 a25 a26 a27 a28 a29 a30 a31 a32 a33 a34 a35 a36 a37 a38 a39 a40 a41 a42 a43 a44 a45 a46 a47 a48 a49 a50 a51 a52 a53 a54 a55 a56 a57 a58 a59 a60 a61 a62 a63 a64 a65 a66 a67 a68 a69 a70 a71 a72 a73 a74 a75 a76 a77 a78 a79 a80 a81 a82 a83 a84 a85 a86 a87 a88 : Oper} {l : List Oper} : (a0 :: a1 :: a2 :: a3 :: a4 :: a5 :: a6 :: a7 :: a8 :: a9 :: a10 :: a11 :: a12 :: a13 :: a14 :: a15 :: a16 :: a17 :: a18 :: a19 :: a20 :: a21 :: a22 :: a23 :: a24 :: a25 :: a26 :: a27 :: a28 :: a29 :: a30 :: a31 :: a32 :: a33 :: a34 :: a35 :: a36 :: a37 :: a38 :: a39 :: a40 :: a41 :: a42 :: a43 :: a44 :: a45 :: a46 :: a47 :: a48 :: a49 :: a50 :: a51 :: a52 :: a53 :: a54 :: a55 :: a56 :: a57 :: a58 :: a59 :: a60 :: a61 :: a62 :: a63 :: a64 :: a65 :: a66 :: a67 :: a68 :: a69 :: a70 :: a71 :: a72 :: a73 :: a74 :: a75 :: a76 :: a77 :: a78 :: a79 :: a80 :: a81 :: a82 :: a83 :: a84 :: a85 :: a86 :: a87 :: a88 :: l).toArray[88]? = some a88 := rfl
theorem opAt89 {a0 a1 a2 a3 a4 a5 a6 a7 a8 a9 a10 a11 a12 a13 a14 a15 a16 a17 a18 a19 a20 a21 a22 a23 a24 a25 a26 a27 a28 a29 a30 a31 a32 a33 a34 a35 a36 a37 a38 a39 a40 a41 a42 a43 a44 a45 a46 a47 a48 a49 a50 a51 a52 a53 a54 a55 a56 a57 a58 a59 a60 a61 a62 a63 a64 a65 a66 a67 a68 a69 a70 a71 a72 a73 a74 a75 a76 a77 a78 a79 a80 a81 a82 a83 a84 a85 a86 a87 a88 a89 : Oper} {l : List Oper} : (a0 :: a1 :: a2 :: a3 :: a4 :: a5 :: a6 :: a7 :: a8 :: a9 :: a10 :: a11 :: a12 :: a13 :: a14 :: a15 :: a16 :: a17 :: a18 :: a19 :: a20 :: a21 :: a22 :: a23 :: a24 :: a25 :: a26 :: a27 :: a28 :: a29 :: a30 :: a31 :: a32 :: a33 :: a34 :: a35 :: a36 :: a37 :: a38 :: a39 :: a40 :: a41 :: a42 :: a43 :: a44 :: a45 :: a46 :: a47 :: a48 :: a49 :: a50 :: a51 :: a52 :: a53 :: a54 :: a55 :: a56 :: a57 :: a58 :: a59 :: a60 :: a61 :: a62 :: a63 :: a64 :: a65 :: a66 :: a67 :: a68 :: a69 :: a70 :: a71 :: a72 :: a73 :: a74 :: a75 :: a76 :: a77 :: a78 :: a79 :: a80 :: a81 :: a82 :: a83 :: a84 :: a85 :: a86 :: a87 :: a88 :: a89 :: l).toArray[89]? = some a89 := rfl
theorem opAt90 {a0 a1 a2 a3 a4 a5 a6 a7 a8 a9 a10 a11 a12 a13 a14 a15 a16 a17 a18 a19 a20 a21 a22 a23 a24 a25 a26 a27 a28 a29 a30 a31 a32 a33 a34 a35 a36 a37 a38 a39 a40 a41 a42 a43 a44 a45 a46 a47 a48 a49 a50 a51 a52 a53 a54 a55 a56 a57 a58 a59 a60 a61 a62 a63 a64 a65 a66 a67 a68 a69 a70 a71 a72 a73 a74 a75 a76 a77 a78 a79 a80 a81 a82 a83 a84 a85 a86 a87 a88 a89 a90 : Oper} {l : List Oper} : (a0 :: a1 :: a2 :: a3 :: a4 :: a5 :: a6 :: a7 :: a8 :: a9 :: a10 :: a11 :: a12 :: a13 :: a14 :: a15 :: a16 :: a17 :: a18 :: a19 :: a20 :: a21 :: a22 :: a23 :: a24 :: a25 :: a26 :: a27 :: a28 :: a29 :: a30 :: a31 :: a32 :: a33 :: a34 :: a35 :: a36 :: a37 :: a38 :: a39 :: a40 :: a41 :: a42 :: a43 :: a44 :: a45 :: a46 :: a47 :: a48 :: a49 :: a50 :: a51 :: a52 :: a53 :: a54 :: a55 :: a56 :: a57 :: a58 :: a59 :: a60 :: a61 :: a62 :: a63 :: a64 :: a65 :: a66 :: a67 :: a68 :: a69 :: a70 :: a71 :: a72 :: a73 :: a74 :: a75 :: a76 :: a77 :: a78 :: a79 :: a80 :: a81 :: a82 :: a83 :: a84 :: a85 :: a86 :: a87 :: a88 :: a89 :: a90 :: l).toArray[90]? = some a90 := rfl
theorem opAt91 {a0 a1 a2 a3 a4 a5 a6 a7 a8 a9 a10 a11 a12 a13 a14 a15 a16 a17 a18 a19 a20 a21 a22 a23 a24 a25 a26 a27 a28 a29 a30 a31 a32 a33 a34 a35 a36 a37 a38 a39 a40 a41 a42 a43 a44 a45 a46 a47 a48 a49 a50 a51 a52 a53 a54 a55 a56 a57 a58 a59 a60 a61 a62 a63 a64 a65 a66 a67 a68 a69 a70 a71 a72 a73 a74 a75 a76 a77 a78 a79 a80 a81 a82 a83 a84 a85 a86 a87 a88 a89 a90 a91 : Oper} {l : List Oper} : (a0 :: a1 :: a2 :: a3 :: a4 :: a5 :: a6 :: a7 :: a8 :: a9 :: a10 :: a11 :: a12 :: a13 :: a14 :: a15 :: a16 :: a17 :: a18 :: a19 :: a20 :: a21 :: a22 :: a23 :: a24 :: a25 :: a26 :: a27 :: a28 :: a29 :: a30 :: a31 :: a32 :: a33 :: a34 :: a35 :: a36 :: a37 :: a38 :: a39 :: a40 :: a41 :: a42 :: a43 :: a44 :: a45 :: a46 :: a47 :: a48 :: a49 :: a50 :: a51 :: a52 :: a53 :: a54 :: a55 :: a56 :: a57 :: a58 :: a59 :: a60 :: a61 :: a62 :: a63 :: a64 :: a65 :: a66 :: a67 :: a68 :: a69 :: a70 :: a71 :: a72 :: a73 :: a74 :: a75 :: a76 :: a77 :: a78 :: a79 :: a80 :: a81 :: a82 :: a83 :: a84 :: a85 :: a86 :: a87 :: a88 :: a89 :: a90 :: a91 :: l).toArray[91]? = some a91 := rfl
theorem opAt92 {a0 a1 a2 a3 a4 a5 a6 a7 a8 a9 a10 a11 a12 a13 a14 a15 a16 a17 a18 a19 a20 a21 a22 a23 a24 a25 a26 a27 a28 a29 a30 a31 a32 a33 a34 a35 a36 a37 a38 a39 a40 a41 a42 a43 a44 a45 a46 a47 a48 a49 a50 a51 a52 a53 a54 a55 a56 a57 a58 a59 a60 a61 a62 a63 a64 a65 a66 a67 a68 a69 a70 a71 a72 a73 a74 a75 a76 a77 a78 a79 a80 a81 a82 a83 a84 a85 a86 a87 a88 a89 a90 a91 a92 : Oper} {l : List Oper} : (a0 :: a1 :: a2 :: a3 :: a4 :: a5 :: a6 :: a7 :: a8 :: a9 :: a10 :: a11 :: a12 :: a13 :: a14 :: a15 :: a16 :: a17 :: a18 :: a19 :: a20 :: a21 :: a22 :: a23 :: a24 :: a25 :: a26 :: a27 :: a28 :: a29 :: a30 :: a31 :: a32 :: a33 :: a34 :: a35 :: a36 :: a37 :: a38 :: a39 :: a40 :: a41 :: a42 :: a43 :: a44 :: a45 :: a46 :: a47 :: a48 :: a49 :: a50 :: a51 :: a52 :: a53 :: a54 :: a55 :: a56 :: a57 :: a58 :: a59 :: a60 :: a61 :: a62 :: a63 :: a64 :: a65 :: a66 :: a67 :: a68 :: a69 :: a70 :: a71 :: a72 :: a73 :: a74 :: a75 :: a76 :: a77 :: a78 :: a79 :: a80 :: a81 :: a82 :: a83 :: a84 :: a85 :: a86 :: a87 :: a88 :: a89 :: a90 :: a91 :: a92 :: l).toArray[92]? = some a92 := rfl
theorem opAt93 {a0 a1 a2 a3 a4 a5 a6 a7 a8 a9 a10 a11 a12 a13 a14 a15 a16 a17 a18 a19 a20 a21 a22 a23 a24 a25 a26 a27 a28 a29 a30 a31 a32 a33 a34 a35 a36 a37 a38 a39 a40 a41 a42 a43 a44 a45 a46 a47 a48 a49 a50 a51 a52 a53 a54 a55 a56 a57 a58 a59 a60 a61 a62 a63 a64 a65 a66 a67 a68 a69 a70 a71 a72 a73 a74 a75 a76 a77 a78 a79 a80 a81 a82 a83 a84 a85 a86 a87 a88 a89 a90 a91 a92 a93 : Oper} {l : List Oper} : (a0 :: a1 :: a2 :: a3 :: a4 :: a5 :: a6 :: a7 :: a8 :: a9 :: a10 :: a11 :: a12 :: a13 :: a14 :: a15 :: a16 :: a17 :: a18 :: a19 :: a20 :: a21 :: a22 :: a23 :: a24 :: a25 :: a26 :: a27 :: a28 :: a29 :: a30 :: a31 :: a32 :: a33 :: a34 :: a35 :: a36 :: a37 :: a38 :: a39 :: a40 :: a41 :: a42 :: a43 :: a44 :: a45 :: a46 :: a47 :: a48 :: a49 :: a50 :: a51 :: a52 :: a53 :: a54 :: a55 :: a56 :: a57 :: a58 :: a59 :: a60 :: a61 :: a62 :: a63 :: a64 :: a65 :: a66 :: a67 :: a68 :: a69 :: a70 :: a71 :: a72 :: a73 :: a74 :: a75 :: a76 :: a77 :: a78 :: a79 :: a80 :: a81 :: a82 :: a83 :: a84 :: a85 :: a86 :: a87 :: a88 :: a89 :: a90 :: a91 :: a92 :: a93 :: l).toArray[93]? = some a93 := rfl
theorem opAt94 {a0 a1 a2 a3 a4 a5 a6 a7 a8 a9 a10 a11 a12 a13 a14 a15 a16 a17 a18 a19 a20 a21 a22 a23 a24 a25 a26 a27 a28 a29 a30 a31 a32 a33 a34 a35 a36 a37 a38 a39 a40 a41 a42 a43 a44 a45 a46 a47 a48 a49 a50 a51 a52 a53 a54 a55 a56 a57 a58 a59 a60 a61 a62 a63 a64 a65 a66 a67 a68 a69 a70 a71 a72 a73 a74 a75 a76 a77 a78 a79 a80 a81 a82 a83 a84 a85 a86 a87 a88 a89 a90 a91 a92 a93 a94 : Oper} {l : List Oper} : (a0 :: a1 :: a2 :: a3 :: a4 :: a5 :: a6 :: a7 :: a8 :: a9 :: a10 :: a11 :: a12 :: a13 :: a14 :: a15 :: a16 :: a17 :: a18 :: a19 :: a20 :: a21 :: a22 :: a23 :: a24 :: a25 :: a26 :: a27 :: a28 :: a29 :: a30 :: a31 :: a32 :: a33 :: a34 :: a35 :: a36 :: a37 :: a38 :: a39 :: a40 :: a41 :: a42 :: a43 :: a44 :: a45 :: a46 :: a47 :: a48 :: a49 :: a50 :: a51 :: a52 :: a53 :: a54 :: a55 :: a56 :: a57 :: a58 :: a59 :: a60 :: a61 :: a62 :: a63 :: a64 :: a65 :: a66 :: a67 :: a68 :: a69 :: a70 :: a71 :: a72 :: a73 :: a74 :: a75 :: a76 :: a77 :: a78 :: a79 :: a80 :: a81 :: a82 :: a83 :: a84 :: a85 :: a86 :: a87 :: a88 :: a89 :: a90 :: a91 :: a92 :: a93 :: a94 :: l).toArray[94]? = some a94 := rfl
theorem opAt95 {a0 a1 a2 a3 a4 a5 a6 a7 a8 a9 a10 a11 a12 a13 a14 a15 a16 a17 a18 a19 a20 a21 a22 a23 a24 a25 a26 a27 a28 a29 a30 a31 a32 a33 a34 a35 a36 a37 a38 a39 a40 a41 a42 a43 a44 a45 a46 a47 a48 a49 a50 a51 a52 a53 a54 a55 a56 a57 a58 a59 a60 a61 a62 a63 a64 a65 a66 a67 a68 a69 a70 a71 a72 a73 a74 a75 a76 a77 a78 a79 a80 a81 a82 a83 a84 a85 a86 a87 a88 a89 a90 a91 a92 a93 a94 a95 : Oper} {l : List Oper} : (a0 :: a1 :: a2 :: a3 :: a4 :: a5 :: a6 :: a7 :: a8 :: a9 :: a10 :: a11 :: a12 :: a13 :: a14 :: a15 :: a16 :: a17 :: a18 :: a19 :: a20 :: a21 :: a22 :: a23 :: a24 :: a25 :: a26 :: a27 :: a28 :: a29 :: a30 :: a31 :: a32 :: a33 :: a34 :: a35 :: a36 :: a37 :: a38 :: a39 :: a40 :: a41 :: a42 :: a43 :: a44 :: a45 :: a46 :: a47 :: a48 :: a49 :: a50 :: a51 :: a52 :: a53 :: a54 :: a55 :: a56 :: a57 :: a58 :: a59 :: a60 :: a61 :: a62 :: a63 :: a64 :: a65 :: a66 :: a67 :: a68 :: a69 :: a70 :: a71 :: a72 :: a73 :: a74 :: a75 :: a76 :: a77 :: a78 :: a79 :: a80 :: a81 :: a82 :: a83 :: a84 :: a85 :: a86 :: a87 :: a88 :: a89 :: a90 :: a91 :: a92 :: a93 :: a94 :: a95 :: l).toArray[95]? = some a95 := rfl
theorem opAt96 {a0 a1 a2 a3 a4 a5 a6 a7 a8 a9 a10 a11 a12 a13 a14 a15 a16 a17 a18 a19 a20 a21 a22 a23 a24 a25 a26 a27 a28 a29 a30 a31 a32 a33 a34 a35 a36 a37 a38 a39 a40 a41 a42 a43 a44 a45 a46 a47 a48 a49 a50 a51 a52 a53 a54 a55 a56 a57 a58 a59 a60 a61 a62 a63 a64 a65 a66 a67 a68 a69 a70 a71 a72 a73 a74 a75 a76 a77 a78 a79 a80 a81 a82 a83 a84 a85 a86 a87 a88 a89 a90 a91 a92 a93 a94 a95 a96 : Oper} {l : List Oper} : (a0 :: a1 :: a2 :: a3 :: a4 :: a5 :: a6 :: a7 :: a8 :: a9 :: a10 :: a11 :: a12 :: a13 :: a14 :: a15 :: a16 :: a17 :: a18 :: a19 :: a20 :: a21 :: a22 :: a23 :: a24 :: a25 :: a26 :: a27 :: a28 :: a29 :: a30 :: a31 :: a32 :: a33 :: a34 :: a35 :: a36 :: a37 :: a38 :: a39 :: a40 :: a41 :: a42 :: a43 :: a44 :: a45 :: a46 :: a47 :: a48 :: a49 :: a50 :: a51 :: a52 :: a53 :: a54 :: a55 :: a56 :: a57 :: a58 :: a59 :: a60 :: a61 :: a62 :: a63 :: a64 :: a65 :: a66 :: a67 :: a68 :: a69 :: a70 :: a71 :: a72 :: a73 :: a74 :: a75 :: a76 :: a77 :: a78 :: a79 :: a80 :: a81 :: a82 :: a83 :: a84 :: a85 :: a86 :: a87 :: a88 :: a89 :: a90 :: a91 :: a92 :: a93 :: a94 :: a95 :: a96 :: l).toArray[96]? = some a96 := rfl
theorem opAt97 {a0 a1 a2 a3 a4 a5 a6 a7 a8 a9 a10 a11 a12 a13 a14 a15 a16 a17 a18 a19 a20 a21 a22 a23 a24 a25 a26 a27 a28 a29 a30 a31 a32 a33 a34 a35 a36 a37 a38 a39 a40 a41 a42 a43 a44 a45 a46 a47 a48 a49 a50 a51 a52 a53 a54 a55 a56 a57 a58 a59 a60 a61 a62 a63 a64 a65 a66 a67 a68 a69 a70 a71 a72 a73 a74 a75 a76 a77 a78 a79 a80 a81 a82 a83 a84 a85 a86 a87 a88 a89 a90 a91 a92 a93 a94 a95 a96 a97 : Oper} {l : List Oper} : (a0 :: a1 :: a2 :: a3 :: a4 :: a5 :: a6 :: a7 :: a8 :: a9 :: a10 :: a11 :: a12 :: a13 :: a14 :: a15 :: a16 :: a17 :: a18 :: a19 :: a20 :: a21 :: a22 :: a23 :: a24 :: a25 :: a26 :: a27 :: a28 :: a29 :: a30 :: a31 :: a32 :: a33 :: a34 :: a35 :: a36 :: a37 :: a38 :: a39 :: a40 :: a41 :: a42 :: a43 :: a44 :: a45 :: a46 :: a47 :: a48 :: a49 :: a50 :: a51 :: a52 :: a53 :: a54 :: a55 :: a56 :: a57 :: a58 :: a59 :: a60 :: a61 :: a62 :: a63 :: a64 :: a65 :: a66 :: a67 :: a68 :: a69 :: a70 :: a71 :: a72 :: a73 :: a74 :: a75 :: a76 :: a77 :: a78 :: a79 :: a80 :: a81 :: a82 :: a83 :: a84 :: a85 :: a86 :: a87 :: a88 :: a89 :: a90 :: a91 :: a92 :: a93 :: a94 :: a95 :: a96 :: a97 :: l).toArray[97]? = some a97 := rfl
theorem opAt98 {a0 a1 a2 a3 a4 a5 a6 a7 a8 a9 a10 a11 a12 a13 a14 a15 a16 a17 a18 a19 a20 a21 a22 a23 a24 a25 a26 a27 a28 a29 a30 a31 a32 a33 a34 a35 a36 a37 a38 a39 a40 a41 a42 a43 a44 a45 a46 a47 a48 a49 a50 a51 a52 a53 a54 a55 a56 a57 a58 a59 a60 a61 a62 a63 a64 a65 a66 a67 a68 a69 a70 a71 a72 a73 a74 a75 a76 a77 a78 a79 a80 a81 a82 a83 a84 a85 a86 a87 a88 a89 a90 a91 a92 a93 a94 a95 a96 a97 a98 : Oper} {l : List Oper} : (a0 :: a1 :: a2 :: a3 :: a4 :: a5 :: a6 :: a7 :: a8 :: a9 :: a10 :: a11 :: a12 :: a13 :: a14 :: a15 :: a16 :: a17 :: a18 :: a19 :: a20 :: a21 :: a22 :: a23 :: a24 :: a25 :: a26 :: a27 :: a28 :: a29 :: a30 :: a31 :: a32 :: a33 :: a34 :: a35 :: a36 :: a37 :: a38 :: a39 :: a40 :: a41 :: a42 :: a43 :: a44 :: a45 :: a46 :: a47 :: a48 :: a49 :: a50 :: a51 :: a52 :: a53 :: a54 :: a55 :: a56 :: a57 :: a58 :: a59 :: a60 :: a61 :: a62 :: a63 :: a64 :: a65 :: a66 :: a67 :: a68 :: a69 :: a70 :: a71 :: a72 :: a73 :: a74 :: a75 :: a76 :: a77 :: a78 :: a79 :: a80 :: a81 :: a82 :: a83 :: a84 :: a85 :: a86 :: a87 :: a88 :: a89 :: a90 :: a91 :: a92 :: a93 :: a94 :: a95 :: a96 :: a97 :: a98 :: l).toArray[98]? = some a98 := rfl
theorem opAt99 {a0 a1 a2 a3 a4 a5 a6 a7 a8 a9 a10 a11 a12 a13 a14 a15 a16 a17 a18 a19 a20 a21 a22 a23 a24 a25 a26 a27 a28 a29 a30 a31 a32 a33 a34 a35 a36 a37 a38 a39 a40 a41 a42 a43 a44 a45 a46 a47 a48 a49 a50 a51 a52 a53 a54 a55 a56 a57 a58 a59 a60 a61 a62 a63 a64 a65 a66 a67 a68 a69 a70 a71 a72 a73 a74 a75 a76 a77 a78 a79 a80 a81 a82 a83 a84 a85 a86 a87 a88 a89 a90 a91 a92 a93 a94 a95 a96 a97 a98 a99 : Oper} {l : List Oper} : (a0 :: a1 :: a2 :: a3 :: a4 :: a5 :: a6 :: a7 :: a8 :: a9 :: a10 :: a11 :: a12 :: a13 :: a14 :: a15 :: a16 :: a17 :: a18 :: a19 :: a20 :: a21 :: a22 :: a23 :: a24 :: a25 :: a26 :: a27 :: a28 :: a29 :: a30 :: a31 :: a32 :: a33 :: a34 :: a35 :: a36 :: a37 :: a38 :: a39 :: a40 :: a41 :: a42 :: a43 :: a44 :: a45 :: a46 :: a47 :: a48 :: a49 :: a50 :: a51 :: a52 :: a53 :: a54 :: a55 :: a56 :: a57 :: a58 :: a59 :: a60 :: a61 :: a62 :: a63 :: a64 :: a65 :: a66 :: a67 :: a68 :: a69 :: a70 :: a71 :: a72 :: a73 :: a74 :: a75 :: a76 :: a77 :: a78 :: a79 :: a80 :: a81 :: a82 :: a83 :: a84 :: a85 :: a86 :: a87 :: a88 :: a89 :: a90 :: a91 :: a92 :: a93 :: a94 :: a95 :: a96 :: a97 :: a98 :: a99 :: l).toArray[99]? = some a99 := rfl
end Go.Proofs.YtelhdbkkigehgaaGreatDoor

/- The chapter's words of a line, one by one. -/
namespace Go.Proofs.YtelhdbkkigehgaaGreatDoor
open Go.RowKit

def spN : List UInt8 → Nat
  | [] => 0
  | c :: l => if c = 32 then 0 else spN l + 1
theorem spN_le : ∀ l, spN l ≤ l.length
  | [] => Nat.le_refl _
  | c :: l => by unfold spN; split <;> simp; exact spN_le l
theorem spN_below : ∀ (l : List UInt8) (k : Nat), k < spN l → ∃ c, l[k]? = some c ∧ c ≠ 32
  | [], k, h => by simp [spN] at h
  | c :: l, k, h => by
    unfold spN at h
    split at h
    · omega
    · rename_i hc
      cases k with
      | zero => exact ⟨c, rfl, hc⟩
      | succ k => obtain ⟨d, h1, h2⟩ := spN_below l k (by omega); exact ⟨d, by simpa using h1, h2⟩
theorem spN_at : ∀ (l : List UInt8), spN l < l.length → l[spN l]? = some 32
  | [], h => by simp at h
  | c :: l, h => by
    unfold spN at h ⊢
    split
    · rename_i hc; subst hc; rfl
    · rename_i hc
      rw [if_neg hc] at h
      have := spN_at l (by simpa using h)
      simpa using this
/-- A source in a block of its own. -/
structure Src (w : World) (p : Nat) (s : ByteArray) (o b : Bool) : Prop where
  blk : w.heap[p]? = some (.cells #[.string s, .bool o, .bool b] 67 (0, 0))
theorem Src.left {w : World} {p : Nat} {s : ByteArray} {o b : Bool} (h : Src w p s o b) : w.cell? ⟨p, 0, none⟩ = some (.string s) := by simp [World.cell?, h.blk]
theorem Src.over {w : World} {p : Nat} {s : ByteArray} {o b : Bool} (h : Src w p s o b) : w.cell? ⟨p, 1, none⟩ = some (.bool o) := by simp [World.cell?, h.blk]
theorem Src.bad {w : World} {p : Nat} {s : ByteArray} {o b : Bool} (h : Src w p s o b) : w.cell? ⟨p, 2, none⟩ = some (.bool b) := by simp [World.cell?, h.blk]
theorem Src.fr {w : World} {p : Nat} {s : ByteArray} {o b : Bool} (h : Src w p s o b) (j : Nat) : w.frozen? ⟨p, j, none⟩ = false := by simp [World.frozen?, h.blk]
theorem Src.set0 {w : World} {p : Nat} {s s' : ByteArray} {o b : Bool} (h : Src w p s o b) : Src (w.setCell ⟨p, 0, none⟩ (.string s')) p s' o b := ⟨by simp [World.setCell, Array.getElem?_modify, h.blk]⟩
theorem Src.set1 {w : World} {p : Nat} {s : ByteArray} {o o' b : Bool} (h : Src w p s o b) : Src (w.setCell ⟨p, 1, none⟩ (.bool o')) p s o' b := ⟨by simp [World.setCell, Array.getElem?_modify, h.blk]⟩
theorem Src.set2 {w : World} {p : Nat} {s : ByteArray} {o b b' : Bool} (h : Src w p s o b) : Src (w.setCell ⟨p, 2, none⟩ (.bool b')) p s o b' := ⟨by simp [World.setCell, Array.getElem?_modify, h.blk]⟩
theorem Src.kept {w w' : World} {p : Nat} {s : ByteArray} {o b : Bool} (h : Src w p s o b) (K : Kept (fun _ => False) w w') : Src w' p s o b := ⟨(K.block p (Array.getElem?_eq_some_iff.1 h.blk).1 (fun f => f)).trans h.blk⟩
set_option maxHeartbeats 1000000 in
set_option maxRecDepth 100000 in
theorem next_over {w : World} {p : Nat} {s : ByteArray} {b : Bool} (h : Src w p s true b) : Calls Tryz.prog 25 #[.pointer (some ⟨p, 0, none⟩)] w fun e w' => e = .returned (.string ⟨#[]⟩) ∧ Kept (fun k => k = p) w w' ∧ Src w' p s true true := by
  have H := Lib.hid h
  have h0 := h.left; have h1 := h.over; have h2 := h.bad
  have f0 := h.fr 0; have f1 := h.fr 1; have f2 := h.fr 2
  clear h
  go_enter Tryz.func25, Tryz.ntmps25
  go_wp2
  go_ret
  exact ⟨rfl, Kept.setAt (fun _ => rfl) (Kept.refl _ _), H.out.set2⟩
set_option maxHeartbeats 1000000 in
set_option maxRecDepth 100000 in
theorem next_word {w : World} {p : Nat} {s : ByteArray} {b : Bool} (h : Src w p s false b) (hs : s.size ≤ 1000000000) : Calls Tryz.prog 25 #[.pointer (some ⟨p, 0, none⟩)] w fun e w' => e = .returned (.string (s.extract 0 (spN s.data.toList))) ∧ Kept (fun k => k = p) w w' ∧ Src w' p (s.extract (spN s.data.toList + 1) s.size) (decide (spN s.data.toList = s.size)) b := by
  have H := Lib.hid h
  have h0 := h.left; have h1 := h.over; have h2 := h.bad
  have f0 := h.fr 0; have f1 := h.fr 1; have f2 := h.fr 2
  clear h
  obtain ⟨n, hn⟩ : ∃ n, spN s.data.toList = n := ⟨_, rfl⟩
  have hsz : s.data.toList.length = s.size := by rw [Array.length_toList]; rfl
  have hle : n ≤ s.size := by rw [← hn, ← hsz]; exact spN_le _
  have HN := Lib.hid hn
  rw [hn]
  clear hn
  go_enter Tryz.func25, Tryz.ntmps25
  go_wp2
  go_loopg [3] n (fun gh t wr => ∃ k : Nat, t = .int .i64 k ∧ k + gh = n ∧ wr = w)
  case atStart => exact ⟨0, rfl, by omega, rfl⟩
  case round =>
    obtain ⟨k, rfl, hk, rfl⟩ := hrel
    by_cases hlt : k < n
    · have hks : k < s.size := by omega
      have hc : ((s[k].toNat : Int) != 32) = true := by
        obtain ⟨c, q1, q2⟩ := spN_below s.data.toList k (by rw [HN.out]; exact hlt)
        have e : s[k] = c := by
          rw [List.getElem?_eq_some_iff] at q1
          obtain ⟨q3, q4⟩ := q1
          rw [← q4]; rfl
        rw [e]
        simp only [bne_iff_ne, ne_eq]
        intro q
        have q3 : c.toNat = 32 := by omega
        exact q2 (UInt8.toNat_inj.1 (by simpa using q3))
      have i1 : (k : Int) < (s.size : Int) := by omega
      have i5 : (k : Int) ≤ 9223372036854775805 := by omega
      have i6 : (0 : Int) ≤ (k : Int) := by omega
      go_wp2
      go_roundg (n - (k + 1))
      case measure => omega
      case rel => exact ⟨k + 1, rfl, by omega, rfl⟩
    · have hkn : k = n := by omega
      subst hkn
      by_cases he : k = s.size
      · subst he
        go_wp2
        go_ret
        exact ⟨rfl, Kept.setAt (fun _ => rfl) (Kept.setAt (fun _ => rfl) (Kept.refl _ _)), H.out.set0.set1⟩
      · have hks : k < s.size := by omega
        have hc : ((s[k].toNat : Int) != 32) = false := by
          have q1 := spN_at s.data.toList (by rw [HN.out, hsz]; exact hks)
          rw [HN.out] at q1
          have e : s[k] = 32 := by
            rw [List.getElem?_eq_some_iff] at q1
            obtain ⟨q3, q4⟩ := q1
            rw [← q4]; rfl
          rw [e]; rfl
        have i1 : (k : Int) < (s.size : Int) := by omega
        have i2 : ((k : Int) == (s.size : Int)) = false := by simp; omega
        have i3 : (k : Int) + 1 ≤ (s.size : Int) := by omega
        have i5 : (k : Int) ≤ 9223372036854775805 := by omega
        have i6 : (0 : Int) ≤ (k : Int) := by omega
        have i7 : (0 : Int) ≤ (k : Int) + 1 := by omega
        go_wp2
        go_ret
        exact ⟨rfl, Kept.setAt (fun _ => rfl) (Kept.refl _ _), by rw [decide_eq_false he]; exact H.out.set0⟩
end Go.Proofs.YtelhdbkkigehgaaGreatDoor

/- Four of the library's proved contracts (strconv.Itoa, strconv.Atoi, strings.Split, slices.Equal) laid at this program. (Printed by the kit's lay-plain.) -/
namespace Go.Proofs
open Go.Shelf
def Tryz.laysM171_ren : Go.Shelf.Ren := ⟨fun | 171 => 46 | 243 => 104 | 246 => 186 | 283 => 284 | 284 => 285 | 285 => 286 | 286 => 287 | 129 => 399 | 317 => 398 | 318 => 400 | 319 => 401 | 320 => 402 | 337 => 493 | 338 => 494 | n => n, fun | 3 => 3 | 9 => 9 | 2 => 2 | 4 => 4 | 171 => 375 | 0 => 0 | 53 => 376 | 37 => 71 | 5 => 5 | 173 => 379 | 212 => 496 | 51 => 385 | 20 => 20 | 213 => 497 | 46 => 267 | 232 => 632 | 233 => 633 | n => n, fun | 17 => 5 | 18 => 6 | 19 => 7 | n => n⟩
theorem Tryz.laysM171 : Go.Proofs.LaysM.n171 Tryz.prog Tryz.laysM171_ren := {
  mixed := by kernel_rfl
  f129 := Tryz.func399.trans (congrArg some (by kernel_rfl))
  f171 := Tryz.func46.trans (congrArg some (by kernel_rfl))
  f243 := Tryz.func104.trans (congrArg some (by kernel_rfl))
  f246 := Tryz.func186.trans (congrArg some (by kernel_rfl))
  f283 := Tryz.func284.trans (congrArg some (by kernel_rfl))
  f284 := Tryz.func285.trans (congrArg some (by kernel_rfl))
  f285 := Tryz.func286.trans (congrArg some (by kernel_rfl))
  f286 := Tryz.func287.trans (congrArg some (by kernel_rfl))
  f317 := Tryz.func398.trans (congrArg some (by kernel_rfl))
  f318 := Tryz.func400.trans (congrArg some (by kernel_rfl))
  f319 := Tryz.func401.trans (congrArg some (by kernel_rfl))
  f320 := Tryz.func402.trans (congrArg some (by kernel_rfl))
  f337 := Tryz.func493.trans (congrArg some (by kernel_rfl))
  f338 := Tryz.func494.trans (congrArg some (by kernel_rfl))
  t0 := Tryz.underlying0
  a0 := Tryz.isAgg0
  z0 := Tryz.sizeOf0
  v0 := Tryz.zeroValue0
  t2 := Tryz.underlying2
  a2 := Tryz.isAgg2
  z2 := Tryz.sizeOf2
  v2 := Tryz.zeroValue2
  t3 := Tryz.underlying3
  a3 := Tryz.isAgg3
  z3 := Tryz.sizeOf3
  v3 := Tryz.zeroValue3
  t4 := Tryz.underlying4
  a4 := Tryz.isAgg4
  z4 := Tryz.sizeOf4
  v4 := Tryz.zeroValue4
  t5 := Tryz.underlying5
  a5 := Tryz.isAgg5
  z5 := Tryz.sizeOf5
  v5 := Tryz.zeroValue5
  t9 := Tryz.underlying9
  a9 := Tryz.isAgg9
  z9 := Tryz.sizeOf9
  v9 := Tryz.zeroValue9
  t20 := Tryz.underlying20
  a20 := Tryz.isAgg20
  z20 := Tryz.sizeOf20
  v20 := Tryz.zeroValue20
  t37 := Tryz.underlying71
  a37 := Tryz.isAgg71
  z37 := Tryz.sizeOf71
  v37 := Tryz.zeroValue71
  t46 := Tryz.underlying267
  a46 := Tryz.isAgg267
  z46 := Tryz.sizeOf267
  v46 := Tryz.zeroValue267
  t51 := Tryz.underlying385
  a51 := Tryz.isAgg385
  z51 := Tryz.sizeOf385
  v51 := Tryz.zeroValue385
  t53 := Tryz.underlying376
  a53 := Tryz.isAgg376
  z53 := Tryz.sizeOf376
  v53 := Tryz.zeroValue376
  t171 := Tryz.underlying375
  a171 := Tryz.isAgg375
  z171 := Tryz.sizeOf375
  v171 := Tryz.zeroValue375
  t173 := Tryz.underlying379
  a173 := Tryz.isAgg379
  z173 := Tryz.sizeOf379
  v173 := Tryz.zeroValue379
  t212 := Tryz.underlying496
  a212 := Tryz.isAgg496
  z212 := Tryz.sizeOf496
  v212 := Tryz.zeroValue496
  t213 := Tryz.underlying497
  a213 := Tryz.isAgg497
  z213 := Tryz.sizeOf497
  t232 := Tryz.underlying632
  a232 := Tryz.isAgg632
  z232 := Tryz.sizeOf632
  v232 := Tryz.zeroValue632
  t233 := Tryz.underlying633
  a233 := Tryz.isAgg633
  z233 := Tryz.sizeOf633
  v233 := Tryz.zeroValue633
  g17 := by kernel_rfl
  g18 := by kernel_rfl
  g19 := by kernel_rfl
  i0 := by kernel_rfl
  i2 := by kernel_rfl
  i3 := by kernel_rfl
  i4 := by kernel_rfl
  i5 := by kernel_rfl
  i9 := by kernel_rfl
  i20 := by kernel_rfl
  i37 := by kernel_rfl
  i46 := by kernel_rfl
  i51 := by kernel_rfl
  i53 := by kernel_rfl
  i171 := by kernel_rfl
  i173 := by kernel_rfl
  i212 := by kernel_rfl
  i232 := by kernel_rfl
  i233 := by kernel_rfl
  m17 := by kernel_rfl
  m18 := by kernel_rfl
  m19 := by kernel_rfl }
open Go.RowKit Go.Sort Go.Lib in
theorem Tryz.strconv_Itoa (n : Int) (h0 : -9223372036854775808 ≤ n) (h1 : n ≤ 9223372036854775807) (w : World) (htab : Lib.TabIs Tryz.prog w "internal/strconv.uint64pow10" .u64 Lib.pow10Tab) :
    Calls Tryz.prog 46 #[.int .i64 n] w fun e w' => e = .returned (.string ⟨(Lib.itoa n).toArray⟩) ∧ ∃ k os, w' = grow (w.drewN k) os := Any.strconv_Itoa Tryz.laysM171 n h0 h1 w htab
def Tryz.laysC172_ren : Go.Shelf.Ren := ⟨fun | 172 => 59 | 244 => 112 | 245 => 113 | 247 => 192 | 279 => 193 | 280 => 194 | 281 => 195 | 282 => 196 | 287 => 289 | 316 => 290 | 171 => 46 | 205 => 291 | 321 => 403 | 322 => 404 | 243 => 104 | 246 => 186 | 283 => 284 | 284 => 285 | 285 => 286 | 286 => 287 | 129 => 399 | 317 => 398 | 318 => 400 | 319 => 401 | 320 => 402 | 337 => 493 | 338 => 494 | n => n, fun | 9 => 9 | 3 => 3 | 75 => 79 | 76 => 80 | 4 => 4 | 5 => 5 | 167 => 268 | 37 => 71 | 0 => 0 | 85 => 269 | 2 => 2 | 168 => 271 | 53 => 376 | 175 => 388 | 46 => 267 | 210 => 391 | 127 => 114 | 145 => 501 | 143 => 499 | 21 => 21 | 171 => 375 | 173 => 379 | 212 => 496 | 51 => 385 | 20 => 20 | 213 => 497 | 232 => 632 | 233 => 633 | 80 => 69 | n => n, fun | 15 => 3 | 16 => 4 | 17 => 5 | 18 => 6 | 19 => 7 | n => n⟩
theorem Tryz.laysC172 : Go.Proofs.LaysC.n172 Tryz.prog Tryz.laysC172_ren := {
  mixed := by kernel_rfl
  f129 := Tryz.func399.trans (congrArg some (by kernel_rfl))
  f171 := Tryz.func46.trans (congrArg some (by kernel_rfl))
  f172 := Tryz.func59.trans (congrArg some (by kernel_rfl))
  f205 := Tryz.func291.trans (congrArg some (by kernel_rfl))
  f243 := Tryz.func104.trans (congrArg some (by kernel_rfl))
  f244 := Tryz.func112.trans (congrArg some (by kernel_rfl))
  f245 := Tryz.func113.trans (congrArg some (by kernel_rfl))
  f246 := Tryz.func186.trans (congrArg some (by kernel_rfl))
  f247 := Tryz.func192.trans (congrArg some (by kernel_rfl))
  f279 := Tryz.func193.trans (congrArg some (by kernel_rfl))
  f280 := Tryz.func194.trans (congrArg some (by kernel_rfl))
  f281 := Tryz.func195.trans (congrArg some (by kernel_rfl))
  f282 := Tryz.func196.trans (congrArg some (by kernel_rfl))
  f283 := Tryz.func284.trans (congrArg some (by kernel_rfl))
  f284 := Tryz.func285.trans (congrArg some (by kernel_rfl))
  f285 := Tryz.func286.trans (congrArg some (by kernel_rfl))
  f286 := Tryz.func287.trans (congrArg some (by kernel_rfl))
  f287 := Tryz.func289.trans (congrArg some (by kernel_rfl))
  f316 := Tryz.func290.trans (congrArg some (by kernel_rfl))
  f317 := Tryz.func398.trans (congrArg some (by kernel_rfl))
  f318 := Tryz.func400.trans (congrArg some (by kernel_rfl))
  f319 := Tryz.func401.trans (congrArg some (by kernel_rfl))
  f320 := Tryz.func402.trans (congrArg some (by kernel_rfl))
  f321 := Tryz.func403.trans (congrArg some (by kernel_rfl))
  f322 := Tryz.func404.trans (congrArg some (by kernel_rfl))
  f337 := Tryz.func493.trans (congrArg some (by kernel_rfl))
  f338 := Tryz.func494.trans (congrArg some (by kernel_rfl))
  t0 := Tryz.underlying0
  a0 := Tryz.isAgg0
  z0 := Tryz.sizeOf0
  v0 := Tryz.zeroValue0
  t2 := Tryz.underlying2
  a2 := Tryz.isAgg2
  z2 := Tryz.sizeOf2
  v2 := Tryz.zeroValue2
  t3 := Tryz.underlying3
  a3 := Tryz.isAgg3
  z3 := Tryz.sizeOf3
  v3 := Tryz.zeroValue3
  t4 := Tryz.underlying4
  a4 := Tryz.isAgg4
  z4 := Tryz.sizeOf4
  v4 := Tryz.zeroValue4
  t5 := Tryz.underlying5
  a5 := Tryz.isAgg5
  z5 := Tryz.sizeOf5
  v5 := Tryz.zeroValue5
  t9 := Tryz.underlying9
  a9 := Tryz.isAgg9
  z9 := Tryz.sizeOf9
  v9 := Tryz.zeroValue9
  t20 := Tryz.underlying20
  a20 := Tryz.isAgg20
  z20 := Tryz.sizeOf20
  v20 := Tryz.zeroValue20
  t21 := Tryz.underlying21
  a21 := Tryz.isAgg21
  z21 := Tryz.sizeOf21
  v21 := Tryz.zeroValue21
  t37 := Tryz.underlying71
  a37 := Tryz.isAgg71
  z37 := Tryz.sizeOf71
  v37 := Tryz.zeroValue71
  t46 := Tryz.underlying267
  a46 := Tryz.isAgg267
  z46 := Tryz.sizeOf267
  v46 := Tryz.zeroValue267
  t51 := Tryz.underlying385
  a51 := Tryz.isAgg385
  z51 := Tryz.sizeOf385
  v51 := Tryz.zeroValue385
  t53 := Tryz.underlying376
  a53 := Tryz.isAgg376
  z53 := Tryz.sizeOf376
  v53 := Tryz.zeroValue376
  t75 := Tryz.underlying79
  a75 := Tryz.isAgg79
  z75 := Tryz.sizeOf79
  v75 := Tryz.zeroValue79
  t76 := Tryz.underlying80
  a76 := Tryz.isAgg80
  z76 := Tryz.sizeOf80
  v76 := Tryz.zeroValue80
  t85 := Tryz.underlying269
  a85 := Tryz.isAgg269
  z85 := Tryz.sizeOf269
  v85 := Tryz.zeroValue269
  t127 := Tryz.underlying114
  a127 := Tryz.isAgg114
  z127 := Tryz.sizeOf114
  v127 := Tryz.zeroValue114
  t143 := Tryz.underlying499
  a143 := Tryz.isAgg499
  z143 := Tryz.sizeOf499
  v143 := Tryz.zeroValue499
  t145 := Tryz.underlying501
  a145 := Tryz.isAgg501
  z145 := Tryz.sizeOf501
  v145 := Tryz.zeroValue501
  t167 := Tryz.underlying268
  a167 := Tryz.isAgg268
  z167 := Tryz.sizeOf268
  v167 := Tryz.zeroValue268
  t168 := Tryz.underlying271
  a168 := Tryz.isAgg271
  z168 := Tryz.sizeOf271
  v168 := Tryz.zeroValue271
  t171 := Tryz.underlying375
  a171 := Tryz.isAgg375
  z171 := Tryz.sizeOf375
  v171 := Tryz.zeroValue375
  t173 := Tryz.underlying379
  a173 := Tryz.isAgg379
  z173 := Tryz.sizeOf379
  v173 := Tryz.zeroValue379
  t175 := Tryz.underlying388
  a175 := Tryz.isAgg388
  z175 := Tryz.sizeOf388
  v175 := Tryz.zeroValue388
  t210 := Tryz.underlying391
  a210 := Tryz.isAgg391
  z210 := Tryz.sizeOf391
  v210 := Tryz.zeroValue391
  t212 := Tryz.underlying496
  a212 := Tryz.isAgg496
  z212 := Tryz.sizeOf496
  v212 := Tryz.zeroValue496
  t213 := Tryz.underlying497
  a213 := Tryz.isAgg497
  z213 := Tryz.sizeOf497
  t232 := Tryz.underlying632
  a232 := Tryz.isAgg632
  z232 := Tryz.sizeOf632
  v232 := Tryz.zeroValue632
  t233 := Tryz.underlying633
  a233 := Tryz.isAgg633
  z233 := Tryz.sizeOf633
  v233 := Tryz.zeroValue633
  g15 := by kernel_rfl
  g16 := by kernel_rfl
  g17 := by kernel_rfl
  g18 := by kernel_rfl
  g19 := by kernel_rfl
  t80 := Tryz.underlying69
  a80 := Tryz.isAgg69
  z80 := Tryz.sizeOf69
  v80 := Tryz.zeroValue69
  i0 := by kernel_rfl
  i2 := by kernel_rfl
  i3 := by kernel_rfl
  i4 := by kernel_rfl
  i5 := by kernel_rfl
  i9 := by kernel_rfl
  i20 := by kernel_rfl
  i21 := by kernel_rfl
  i37 := by kernel_rfl
  i46 := by kernel_rfl
  i51 := by kernel_rfl
  i53 := by kernel_rfl
  i75 := by kernel_rfl
  i76 := by kernel_rfl
  i80 := by kernel_rfl
  i85 := by kernel_rfl
  i127 := by kernel_rfl
  i143 := by kernel_rfl
  i145 := by kernel_rfl
  i167 := by kernel_rfl
  i168 := by kernel_rfl
  i171 := by kernel_rfl
  i173 := by kernel_rfl
  i175 := by kernel_rfl
  i210 := by kernel_rfl
  i212 := by kernel_rfl
  i232 := by kernel_rfl
  i233 := by kernel_rfl
  m15 := by kernel_rfl
  m16 := by kernel_rfl
  m17 := by kernel_rfl
  m18 := by kernel_rfl
  m19 := by kernel_rfl
  c0 := by kernel_rfl
  c2 := by kernel_rfl
  c3 := by kernel_rfl
  c4 := by kernel_rfl
  c5 := by kernel_rfl
  c9 := by kernel_rfl
  c20 := by kernel_rfl
  c21 := by kernel_rfl
  c37 := by kernel_rfl
  c46 := by kernel_rfl
  c51 := by kernel_rfl
  c53 := by kernel_rfl
  c75 := by kernel_rfl
  c76 := by kernel_rfl
  c80 := by kernel_rfl
  c85 := by kernel_rfl
  c127 := by kernel_rfl
  c143 := by kernel_rfl
  c145 := by kernel_rfl
  c167 := by kernel_rfl
  c168 := by kernel_rfl
  c171 := by kernel_rfl
  c173 := by kernel_rfl
  c175 := by kernel_rfl
  c210 := by kernel_rfl
  c212 := by kernel_rfl
  c213 := by kernel_rfl
  c232 := by kernel_rfl
  c233 := by kernel_rfl }
open Go.RowKit in
theorem Tryz.strconv_Atoi_ok (s : ByteArray) (hmax : s.size ≤ 9223372036854775806) (v : Int) (h : Lib.atoiAll s.data.toList = .ok v) (w : World) :
    Calls Tryz.prog 59 #[.string s] w fun e w' => e = .returned (.tuple #[.int .i64 v, .nilIface]) ∧ (w' = w ∨ ∃ t, w' = Lib.bytesWorld w 5 t) := Any.strconv_Atoi_ok Tryz.laysC172 s hmax v h w
open Go.RowKit in
theorem Tryz.strconv_Atoi_syntax_var (s : ByteArray) (hlim : s.size ≤ 281474976710656) (h : (∀ v, Lib.atoiAll s.data.toList ≠ .ok v) ∧ Lib.atoiAll s.data.toList ≠ .range) (tp : TypeId) (p : Value) (w : World) (hvar : w.var? Tryz.prog "strconv.ErrSyntax" = some #[.iface tp p]) :
    Calls Tryz.prog 59 #[.string s] w fun e w' => ∃ N, e = .returned (.tuple #[.int .i64 0, .iface 271 (.pointer (some ⟨N, 0, none⟩))]) ∧ w.heap.size ≤ N ∧ w'.heap[N]? = some (.cells #[.string ⟨#[65, 116, 111, 105]⟩, .string s, .iface tp p] 391 (0, 0)) ∧ Below w.heap.size w w' := by
  cases ha : Lib.atoiAll s.data.toList with
  | ok v => exact absurd ha (h.1 v)
  | range => exact absurd ha h.2
  | _ => exact Any.strconv_Atoi_syntax_var Tryz.laysC172 s hlim ha tp p w hvar
open Go.RowKit in
theorem Tryz.strconv_Atoi_range_var (s : ByteArray) (hlim : s.size ≤ 281474976710656) (h : Lib.atoiAll s.data.toList = .range) (tp : TypeId) (p : Value) (w : World) (hvar : w.var? Tryz.prog "strconv.ErrRange" = some #[.iface tp p]) :
    Calls Tryz.prog 59 #[.string s] w fun e w' => ∃ N, e = .returned (.tuple #[.int .i64 (Lib.atoiSat s.data.toList), .iface 271 (.pointer (some ⟨N, 0, none⟩))]) ∧ w.heap.size ≤ N ∧ w'.heap[N]? = some (.cells #[.string ⟨#[65, 116, 111, 105]⟩, .string s, .iface tp p] 391 (0, 0)) ∧ Below w.heap.size w w' := Any.strconv_Atoi_range_var Tryz.laysC172 s hlim h tp p w hvar
def Tryz.lays146_ren : Go.Shelf.Ren := ⟨fun | 146 => 13 | 221 => 30 | 268 => 56 | 138 => 57 | 143 => 58 | 195 => 108 | 197 => 109 | 218 => 110 | 219 => 111 | 260 => 188 | 217 => 105 | 225 => 189 | 224 => 190 | 267 => 191 | 266 => 187 | 314 => 288 | n => n, fun | 9 => 9 | 31 => 50 | 3 => 3 | 4 => 4 | 0 => 0 | 105 => 173 | 21 => 21 | 5 => 5 | 46 => 267 | 119 => 381 | 139 => 384 | 138 => 383 | 146 => 386 | 51 => 385 | n => n, fun | 1 => 0 | 3 => 1 | 4 => 2 | n => n⟩
theorem Tryz.lays146 : Go.Proofs.Lays.n146 Tryz.prog Tryz.lays146_ren := {
  mixed := by kernel_rfl
  f138 := Tryz.func57.trans (congrArg some (by kernel_rfl))
  f143 := Tryz.func58.trans (congrArg some (by kernel_rfl))
  f146 := Tryz.func13.trans (congrArg some (by kernel_rfl))
  f195 := Tryz.func108.trans (congrArg some (by kernel_rfl))
  f197 := Tryz.func109.trans (congrArg some (by kernel_rfl))
  f217 := Tryz.func105.trans (congrArg some (by kernel_rfl))
  f218 := Tryz.func110.trans (congrArg some (by kernel_rfl))
  f219 := Tryz.func111.trans (congrArg some (by kernel_rfl))
  f221 := Tryz.func30.trans (congrArg some (by kernel_rfl))
  f224 := Tryz.func190.trans (congrArg some (by kernel_rfl))
  f225 := Tryz.func189.trans (congrArg some (by kernel_rfl))
  f260 := Tryz.func188.trans (congrArg some (by kernel_rfl))
  f266 := Tryz.func187.trans (congrArg some (by kernel_rfl))
  f267 := Tryz.func191.trans (congrArg some (by kernel_rfl))
  f268 := Tryz.func56.trans (congrArg some (by kernel_rfl))
  f314 := Tryz.func288.trans (congrArg some (by kernel_rfl))
  t0 := Tryz.underlying0
  a0 := Tryz.isAgg0
  z0 := Tryz.sizeOf0
  v0 := Tryz.zeroValue0
  t3 := Tryz.underlying3
  a3 := Tryz.isAgg3
  z3 := Tryz.sizeOf3
  v3 := Tryz.zeroValue3
  t4 := Tryz.underlying4
  a4 := Tryz.isAgg4
  z4 := Tryz.sizeOf4
  v4 := Tryz.zeroValue4
  t5 := Tryz.underlying5
  a5 := Tryz.isAgg5
  z5 := Tryz.sizeOf5
  v5 := Tryz.zeroValue5
  t9 := Tryz.underlying9
  a9 := Tryz.isAgg9
  z9 := Tryz.sizeOf9
  v9 := Tryz.zeroValue9
  t21 := Tryz.underlying21
  a21 := Tryz.isAgg21
  z21 := Tryz.sizeOf21
  v21 := Tryz.zeroValue21
  t31 := Tryz.underlying50
  a31 := Tryz.isAgg50
  z31 := Tryz.sizeOf50
  v31 := Tryz.zeroValue50
  t46 := Tryz.underlying267
  a46 := Tryz.isAgg267
  z46 := Tryz.sizeOf267
  v46 := Tryz.zeroValue267
  t51 := Tryz.underlying385
  a51 := Tryz.isAgg385
  z51 := Tryz.sizeOf385
  v51 := Tryz.zeroValue385
  t105 := Tryz.underlying173
  a105 := Tryz.isAgg173
  z105 := Tryz.sizeOf173
  v105 := Tryz.zeroValue173
  t119 := Tryz.underlying381
  a119 := Tryz.isAgg381
  z119 := Tryz.sizeOf381
  t138 := Tryz.underlying383
  a138 := Tryz.isAgg383
  z138 := Tryz.sizeOf383
  v138 := Tryz.zeroValue383
  t139 := Tryz.underlying384
  a139 := Tryz.isAgg384
  z139 := Tryz.sizeOf384
  v139 := Tryz.zeroValue384
  t146 := Tryz.underlying386
  a146 := Tryz.isAgg386
  z146 := Tryz.sizeOf386
  v146 := Tryz.zeroValue386
  g1 := by kernel_rfl
  g3 := by kernel_rfl
  g4 := by kernel_rfl }
open Go.RowKit Go.Lib in
theorem Tryz.strings_Split (s sep : ByteArray) (m : Int) (w : World) (hs : s.size < 4294967281) (hm : w.cell? ⟨0, 0, none⟩ = some (.int .i64 m)) (h1 : 1 ≤ sep.size) :
    Calls Tryz.prog 13 #[.string s, .string sep] w fun e w' =>
      e = .returned (.slice (some ⟨w.heap.size, 0, none⟩) (Lib.countB s sep + 1) (Lib.countB s sep + 1)) ∧ w' = w.alloc (.cells ((Lib.splitB sep 0 (Lib.countB s sep) s).map Value.string).toArray 9) := Any.strings_Split Tryz.lays146 (by kernel_rfl) s sep m w hs hm h1
def Tryz.lays111_ren : Go.Shelf.Ren := ⟨fun | 111 => 48 | n => n, fun | 28 => 36 | 3 => 3 | 4 => 4 | 0 => 0 | n => n, fun | n => n⟩
theorem Tryz.lays111 : Go.Proofs.Lays.n111 Tryz.prog Tryz.lays111_ren := {
  mixed := by kernel_rfl
  f111 := Tryz.func48.trans (congrArg some (by kernel_rfl))
  t0 := Tryz.underlying0
  a0 := Tryz.isAgg0
  z0 := Tryz.sizeOf0
  v0 := Tryz.zeroValue0
  t3 := Tryz.underlying3
  a3 := Tryz.isAgg3
  z3 := Tryz.sizeOf3
  v3 := Tryz.zeroValue3
  t4 := Tryz.underlying4
  a4 := Tryz.isAgg4
  z4 := Tryz.sizeOf4
  v4 := Tryz.zeroValue4
  t28 := Tryz.underlying36
  a28 := Tryz.isAgg36
  z28 := Tryz.sizeOf36
  v28 := Tryz.zeroValue36 }
open Go.RowKit Go.Lib in
theorem Tryz.slices_Equal_int (b1 o1 n c b2 o2 m d : Nat) (xs ys : List Int) (w : World) (hx : n ≤ xs.length) (hy : m ≤ ys.length) (hbig : n ≤ 9223372036854775807) (hbig2 : m ≤ 9223372036854775807) (hc1 : ∀ j, j < xs.length → w.cell? ⟨b1, o1 + j, none⟩ = some (.int .i64 (xs.getD j 0))) (hc2 : ∀ j, j < ys.length → w.cell? ⟨b2, o2 + j, none⟩ = some (.int .i64 (ys.getD j 0))) :
    Calls Tryz.prog 48 #[.slice (some ⟨b1, o1, none⟩) n c, .slice (some ⟨b2, o2, none⟩) m d] w fun e w' => e = .returned (.bool (xs.take n == ys.take m)) ∧ ∃ q, w' = w.drewN q := Any.slices_Equal_int Tryz.lays111 b1 o1 n c b2 o2 m d xs ys w hx hy hbig hbig2 hc1 hc2
open Go.RowKit Go.Lib in
theorem Tryz.slices_Equal_int_empty (a1 a2 : Option Addr) (c m d : Nat) (w : World) (hbig2 : m ≤ 9223372036854775807) :
    Calls Tryz.prog 48 #[.slice a1 0 c, .slice a2 m d] w fun e w' => e = .returned (.bool (decide (m = 0))) ∧ w' = w := Any.slices_Equal_int_empty Tryz.lays111 a1 a2 c m d w hbig2
open Go.RowKit Go.Lib in
theorem Tryz.slices_Equal_int_lens (a1 a2 : Option Addr) (n c m d : Nat) (w : World) (hnm : n ≠ m) :
    Calls Tryz.prog 48 #[.slice a1 n c, .slice a2 m d] w fun e w' => e = .returned (.bool false) ∧ w' = w := Any.slices_Equal_int_lens Tryz.lays111 a1 a2 n c m d w hnm
end Go.Proofs

/- The chapter's next number of a line. -/
namespace Go.Proofs.YtelhdbkkigehgaaGreatDoor
open Go.RowKit Go.Sort

/-- The table of the powers of ten lies where it is read. -/
def Tab (w : World) : Prop := ∃ t fr, w.heap[5]? = some (.cells (Lib.pow10Tab.map fun z => Value.int .u64 z).toArray t fr)
theorem Tab.kept {S : Nat → Prop} {w w' : World} (h : Tab w) (K : Kept S w w') (h5 : ¬ S 5) : Tab w' := by
  obtain ⟨t, fr, h⟩ := h
  exact ⟨t, fr, (K.block 5 (Array.getElem?_eq_some_iff.1 h).1 h5).trans h⟩
theorem Tab.is {w : World} (h : Tab w) : Lib.TabIs Tryz.prog w "internal/strconv.uint64pow10" .u64 Lib.pow10Tab := by
  obtain ⟨t, fr, h⟩ := h
  unfold Lib.TabIs World.var?
  rw [show Tryz.prog.globalNamed "internal/strconv.uint64pow10" = some 5 by kernel_rfl]
  simp [h]
/-- A number, as a text. -/
def itoaB (n : Int) : ByteArray := ⟨(Lib.itoa n).toArray⟩
theorem itoa_all (n : Int) (h0 : -9223372036854775808 ≤ n) (h1 : n ≤ 9223372036854775807) (w : World) (T : Tab w) : Calls Tryz.prog 46 #[.int .i64 n] w fun e w' => e = .returned (.string (itoaB n)) ∧ Kept (fun _ => False) w w' :=
  (Tryz.strconv_Itoa n h0 h1 w T.is).mono fun e w' ⟨he, k, os, hw⟩ => ⟨he, by
    subst hw
    refine ⟨rfl, rfl, rfl, ?_, fun j hj _ => ?_⟩
    · simp [grow, World.drewN]
    · unfold grow
      simp only
      rw [Array.getElem?_append_left (by exact hj)]
      rfl⟩
end Go.Proofs.YtelhdbkkigehgaaGreatDoor

/- The chapter's next number of a line: the walk. (Out of what gen_rfc.py prints.) -/
namespace Go.Proofs.YtelhdbkkigehgaaGreatDoor
open Go.RowKit Go.Sort

/-- Behind a sign. -/
def digB (wd : ByteArray) : ByteArray := if wd.data.toList.head? = some 45 then wd.extract 1 wd.size else wd
def valB (wd : ByteArray) : Option Int := (Lib.decFrom 0 ((digB wd).data.toList.take 11)).map fun v => if wd.data.toList.head? = some 45 then -(v : Int) else (v : Int)
def intV (wd : ByteArray) : Int := (valB wd).getD 0
def intBad (wd : ByteArray) : Bool := match valB wd with
  | none => true
  | some n => decide (11 < wd.size) || !decide (itoaB n = wd)
theorem wr_in (n : Int) (h : -9223372036854775808 ≤ n ∧ n ≤ 9223372036854775807) : wrap64 n = n := by unfold wrap64; omega
theorem dec_stop (l : List UInt8) : ∀ (k acc n : Nat) (b : UInt8) (m : Nat), Lib.decFrom acc (l.take k) = some n → l[k]? = some b → Lib.digitVal b = none → k < m → Lib.decFrom acc (l.take m) = none := by
  induction l with
  | nil => intro k acc n b m _ hb; simp at hb
  | cons c l ih =>
    intro k acc n b m h hb hd hm
    obtain ⟨m, rfl⟩ : ∃ m', m = m' + 1 := ⟨m - 1, by omega⟩
    cases k with
    | zero =>
      simp at hb; subst hb
      simp [Lib.decFrom, hd]
    | succ k =>
      rw [List.take_succ_cons, Lib.decFrom] at h ⊢
      cases hc : Lib.digitVal c with
      | none => rfl
      | some d =>
        rw [hc] at h
        exact ih k _ n b m h (by simpa using hb) hd (by omega)
theorem ne_toList {a b : ByteArray} (h : ¬ a = b) : (a.toList == b.toList) = false := by
  rw [ByteArray.toList_eq, ByteArray.toList_eq, beq_eq_false_iff_ne]
  exact fun e => h (ByteArray.ext (Array.toList_inj.1 e))
set_option maxHeartbeats 4000000 in
set_option maxRecDepth 100000 in
theorem int_plain {w : World} {p : Nat} {wd r : ByteArray} {o b : Bool} (T : Tab w) (hp : p ≠ 5) (hsz : wd.size ≤ 1000000000) (hz' : 0 < wd.size) (hm : ¬ wd[0] = 45) (N : Calls Tryz.prog 25 #[.pointer (some ⟨p, 0, none⟩)] w fun e w' => e = .returned (.string wd) ∧ Kept (fun k => k = p) w w' ∧ Src w' p r o b) : Calls Tryz.prog 49 #[.pointer (some ⟨p, 0, none⟩)] w fun e w' => e = .returned (.int .i64 (intV wd)) ∧ Kept (fun k => k = p) w w' ∧ Src w' p r o (b || intBad wd) := by
  have NN := Lib.hid N
  have T0 := Lib.hid T
  have P5 := Lib.hid hp
  clear N T hp
  have hz : (0 : Int) < (wd.size : Int) := by omega
  have hh : wd.data.toList.head? = some wd[0] := by
    have : wd.data.toList[0]? = some wd[0] := by
      rw [List.getElem?_eq_some_iff]
      exact ⟨by rw [Array.length_toList]; exact hz', rfl⟩
    rw [List.head?_eq_getElem?]; exact this
  have hc : ((wd[0].toNat : Int) == 45) = false := by
    simp only [beq_eq_false_iff_ne, ne_eq]
    intro q
    have q3 : wd[0].toNat = 45 := by omega
    exact hm (UInt8.toNat_inj.1 (by simpa using q3))
  have hD : digB wd = wd := by unfold digB; rw [hh, if_neg (by simpa using hm)]
  have hV : valB wd = (Lib.decFrom 0 (wd.data.toList.take 11)).map fun v => (v : Int) := by unfold valB; rw [hD, hh]; simp [hm]
  go_enter Tryz.func49, Tryz.ntmps49
  go_wp2_with fail
  refine NN.out.mono ?_
  rintro e w' ⟨rfl, kn, h⟩
  have H := Lib.hid h
  have TT := Lib.hid (T0.out.kept kn (fun e => P5.out e.symm))
  have KT := Lib.hid (fun (W : World) (k : Kept (fun j => j = p) w' W) => (kn.trans k (fun _ _ f => f) (fun _ _ f => f) : Kept (fun j => j = p) w W))
  have h2 := h.bad
  have f2 := h.fr 2
  clear kn h
  go_wp2_with fail
  go_loopg [4, 6] (min wd.size 11) (fun gh t u wr => ∃ (k v : Nat), t = .int .i64 v ∧ u = .int .i64 k ∧ k + gh = min wd.size 11 ∧ Lib.decFrom 0 (wd.data.toList.take k) = some v ∧ v < 10 ^ k ∧ wr = w')
  case atStart => exact ⟨0, 0, rfl, rfl, by omega, rfl, by simp, rfl⟩
  case round =>
    obtain ⟨k, v, rfl, rfl, hk, hv, hl, rfl⟩ := hrel
    by_cases hlt : k < min wd.size 11
    · have i1 : (k : Int) < (wd.size : Int) := by omega
      have i2 : (k : Int) < 11 := by omega
      have i3 : (0 : Int) ≤ (k : Int) := by omega
      have i4 : k < wd.size := by omega
      obtain ⟨c, hcb⟩ : ∃ c, wd[k].toNat = c := ⟨_, rfl⟩
      have CB := Lib.hid hcb
      have c1 : c < 256 := by rw [← hcb]; exact UInt8.toNat_lt _
      have hat : wd.data.toList[k]? = some wd[k] := by
        rw [List.getElem?_eq_some_iff]
        exact ⟨by rw [Array.length_toList]; exact i4, rfl⟩
      have AT := Lib.hid hat
      have hv10 : v < 10 ^ 10 := Nat.lt_of_lt_of_le hl (Nat.pow_le_pow_right (by decide) (by omega))
      have wa : wrap64 ((c : Nat) : Int) = (c : Int) := wr_in _ ⟨by omega, by omega⟩
      have wb : wrap64 ((c : Int) - 48) = (c : Int) - 48 := wr_in _ ⟨by omega, by omega⟩
      have wc : wrap64 ((v : Int) * 10) = (v : Int) * 10 := wr_in _ ⟨by omega, by omega⟩
      have we : wrap64 ((v : Int) * 10 + ((c : Int) - 48)) = (v : Int) * 10 + ((c : Int) - 48) := wr_in _ ⟨by omega, by omega⟩
      clear hat
      by_cases hd : 48 ≤ c ∧ c ≤ 57
      · have d1 : ¬ ((c : Int) - 48 < 0) := by omega
        have d2 : ¬ ((9 : Int) < (c : Int) - 48) := by omega
        have hdv : Lib.digitVal wd[k] = some (c - 48) := by unfold Lib.digitVal; rw [CB.out, if_pos hd]
        have HV := Lib.hid (Lib.decFrom_take _ k 0 v wd[k] (c - 48) hv AT.out hdv)
        have HP : v * 10 + (c - 48) < 10 ^ (k + 1) := by rw [Nat.pow_succ]; omega
        clear hdv
        go_wp2_with fail
        go_roundg (min wd.size 11 - (k + 1))
        case measure => omega
        case rel => exact ⟨k + 1, v * 10 + (c - 48), by congr 1; omega, by congr 1, by omega, HV.out, HP, rfl⟩
      · have hn : Lib.digitVal wd[k] = none := by unfold Lib.digitVal; rw [CB.out, if_neg hd]
        have hnone : Lib.decFrom 0 (wd.data.toList.take 11) = none := dec_stop _ k 0 v wd[k] 11 hv AT.out hn (by omega)
        have e1 : intV wd = 0 := by unfold intV; rw [hV, hnone]; rfl
        have e2 : intBad wd = true := by unfold intBad; rw [hV, hnone]; rfl
        have E := Lib.hid (And.intro e1 e2)
        clear e1 e2 hnone hn hV
        by_cases hlow : (c : Int) - 48 < 0
        · go_wp2_with fail
          go_ret
          exact ⟨by rw [E.out.1]; rfl, KT.out _ (Kept.setAt (fun _ => rfl) (Kept.refl _ _)), by rw [E.out.2, Bool.or_true]; exact H.out.set2⟩
        · have hhi : (9 : Int) < (c : Int) - 48 := by omega
          go_wp2_with fail
          go_ret
          exact ⟨by rw [E.out.1]; rfl, KT.out _ (Kept.setAt (fun _ => rfl) (Kept.refl _ _)), by rw [E.out.2, Bool.or_true]; exact H.out.set2⟩
    · have hall : Lib.decFrom 0 (wd.data.toList.take 11) = some v := by
        rw [← hv]
        congr 1
        by_cases h11 : wd.size ≤ 11
        · rw [List.take_of_length_le (by rw [Array.length_toList]; exact h11), List.take_of_length_le (by rw [Array.length_toList]; show wd.size ≤ k; omega)]
        · rw [show k = 11 by omega]
      have hv11 : v < 10 ^ 11 := Nat.lt_of_lt_of_le hl (Nat.pow_le_pow_right (by decide) (by omega))
      have e1 : intV wd = (v : Int) := by unfold intV; rw [hV, hall]; rfl
      have e2 : intBad wd = (decide (11 < wd.size) || !decide (itoaB (v : Int) = wd)) := by unfold intBad; rw [hV, hall]; rfl
      have E := Lib.hid (And.intro e1 e2)
      have IT := Lib.hid (itoa_all (v : Int) (by omega) (by omega) wr TT.out)
      have hk' : ¬ ((k : Int) < (wd.size : Int)) ∨ ¬ ((k : Int) < 11) := by omega
      clear e1 e2 hV hall
      by_cases h11 : (11 : Int) < (wd.size : Int)
      · have hb1 : intBad wd = true := by rw [E.out.2, decide_eq_true (by omega), Bool.true_or]
        have HB := Lib.hid hb1
        clear hb1
        rcases hk' with i1 | i2
        · exfalso; omega
        · go_wp2_with fail
          go_ret
          exact ⟨by rw [E.out.1]; rfl, KT.out _ (Kept.setAt (fun _ => rfl) (Kept.refl _ _)), by rw [HB.out, Bool.or_true]; exact H.out.set2⟩
      · have i1 : ¬ ((k : Int) < (wd.size : Int)) := by omega
        obtain ⟨q, hq⟩ : ∃ q, itoaB (v : Int) = q := ⟨_, rfl⟩
        have hb1 : intBad wd = !decide (q = wd) := by rw [E.out.2, hq, decide_eq_false (by omega), Bool.false_or]
        rw [hq] at IT
        by_cases hqw : q = wd
        · have hne : (q.toList == wd.toList) = true := by rw [hqw]; simp
          have HB := Lib.hid (show intBad wd = false by rw [hb1, hqw]; simp)
          clear hb1 hk' hq
          go_wp2_with fail
          refine IT.out.mono ?_
          rintro e w5 ⟨rfl, k5⟩
          have K5 := Lib.hid k5
          clear k5
          go_wp2_with fail
          go_ret
          exact ⟨by rw [E.out.1]; rfl, KT.out _ ⟨K5.out.os, K5.out.tape, K5.out.output, K5.out.size, fun j hj _ => K5.out.block j hj (fun f => f)⟩, by rw [HB.out, Bool.or_false]; exact H.out.kept K5.out⟩
        · have HB := Lib.hid (show intBad wd = true by rw [hb1]; simp [hqw])
          clear hb1 hk' hq
          go_wp2_with fail
          refine IT.out.mono ?_
          rintro e w5 ⟨rfl, k5⟩
          have s5 := H.out.kept k5
          have S5 := Lib.hid s5
          have f5 := s5.fr 2
          have h5 := s5.bad
          have K5 := Lib.hid k5
          have hne : (q.toList == wd.toList) = false := ne_toList hqw
          clear k5 s5
          go_wp2_with fail
          go_ret
          exact ⟨by rw [E.out.1]; rfl, KT.out _ (Kept.setAt (fun _ => rfl) ⟨K5.out.os, K5.out.tape, K5.out.output, K5.out.size, fun j hj _ => K5.out.block j hj (fun f => f)⟩), by rw [HB.out, Bool.or_true]; exact S5.out.set2⟩
end Go.Proofs.YtelhdbkkigehgaaGreatDoor

/- The chapter's next number of a line, with a sign. -/
namespace Go.Proofs.YtelhdbkkigehgaaGreatDoor
open Go.RowKit Go.Sort
set_option maxHeartbeats 4000000 in
set_option maxRecDepth 100000 in
theorem int_neg {w : World} {p : Nat} {wd r : ByteArray} {o b : Bool} (T : Tab w) (hp : p ≠ 5) (hsz : wd.size ≤ 1000000000) (hz' : 0 < wd.size) (hm : wd[0] = 45) (N : Calls Tryz.prog 25 #[.pointer (some ⟨p, 0, none⟩)] w fun e w' => e = .returned (.string wd) ∧ Kept (fun k => k = p) w w' ∧ Src w' p r o b) : Calls Tryz.prog 49 #[.pointer (some ⟨p, 0, none⟩)] w fun e w' => e = .returned (.int .i64 (intV wd)) ∧ Kept (fun k => k = p) w w' ∧ Src w' p r o (b || intBad wd) := by
  have NN := Lib.hid N
  have T0 := Lib.hid T
  have P5 := Lib.hid hp
  clear N T hp
  have hz : (0 : Int) < (wd.size : Int) := by omega
  have hh : wd.data.toList.head? = some wd[0] := by
    have : wd.data.toList[0]? = some wd[0] := by
      rw [List.getElem?_eq_some_iff]
      exact ⟨by rw [Array.length_toList]; exact hz', rfl⟩
    rw [List.head?_eq_getElem?]; exact this
  have hc : ((wd[0].toNat : Int) == 45) = true := by rw [hm]; rfl
  have i0 : (1 : Int) ≤ (wd.size : Int) := by omega
  have hD : digB wd = wd.extract 1 wd.size := by unfold digB; rw [hh, if_pos (by rw [hm])]
  have hV : valB wd = (Lib.decFrom 0 ((digB wd).data.toList.take 11)).map fun v => -(v : Int) := by unfold valB; rw [hh]; simp [hm]
  have hds : (wd.extract 1 wd.size).size = wd.size - 1 := by rw [ByteArray.size_extract]; omega
  rw [hD] at hV
  go_enter Tryz.func49, Tryz.ntmps49
  go_wp2_with fail
  refine NN.out.mono ?_
  rintro e w' ⟨rfl, kn, h⟩
  have H := Lib.hid h
  have TT := Lib.hid (T0.out.kept kn (fun e => P5.out e.symm))
  have KT := Lib.hid (fun (W : World) (k : Kept (fun j => j = p) w' W) => (kn.trans k (fun _ _ f => f) (fun _ _ f => f) : Kept (fun j => j = p) w W))
  have h2 := h.bad
  have f2 := h.fr 2
  clear kn h
  go_wp2_with fail
  obtain ⟨D, hDD⟩ : ∃ D, wd.extract 1 wd.size = D := ⟨_, rfl⟩
  rw [hDD] at hds hV
  simp only [hDD]
  have hdn : (D.toList == wd.toList) = false := ne_toList (fun e => by rw [e] at hds; omega)
  have HDN := Lib.hid hdn
  have HDS := Lib.hid hds
  have HV0 := Lib.hid hV
  clear hDD hD hh hdn hV hds
  go_loopg [4, 6] (min D.size 11) (fun gh t u wr => ∃ (k v : Nat), t = .int .i64 v ∧ u = .int .i64 k ∧ k + gh = min D.size 11 ∧ Lib.decFrom 0 (D.data.toList.take k) = some v ∧ v < 10 ^ k ∧ wr = w')
  case atStart => exact ⟨0, 0, rfl, rfl, by omega, rfl, by simp, rfl⟩
  case round =>
    obtain ⟨k, v, rfl, rfl, hk, hv, hl, rfl⟩ := hrel
    by_cases hlt : k < min D.size 11
    · have i1 : (k : Int) < (D.size : Int) := by omega
      have i2 : (k : Int) < 11 := by omega
      have i3 : (0 : Int) ≤ (k : Int) := by omega
      have i4 : k < D.size := by omega
      obtain ⟨c, hcb⟩ : ∃ c, D[k].toNat = c := ⟨_, rfl⟩
      have CB := Lib.hid hcb
      have c1 : c < 256 := by rw [← hcb]; exact UInt8.toNat_lt _
      have hat : D.data.toList[k]? = some D[k] := by
        rw [List.getElem?_eq_some_iff]
        exact ⟨by rw [Array.length_toList]; exact i4, rfl⟩
      have AT := Lib.hid hat
      have hv10 : v < 10 ^ 10 := Nat.lt_of_lt_of_le hl (Nat.pow_le_pow_right (by decide) (by omega))
      have wa : wrap64 ((c : Nat) : Int) = (c : Int) := wr_in _ ⟨by omega, by omega⟩
      have wb : wrap64 ((c : Int) - 48) = (c : Int) - 48 := wr_in _ ⟨by omega, by omega⟩
      have wc : wrap64 ((v : Int) * 10) = (v : Int) * 10 := wr_in _ ⟨by omega, by omega⟩
      have we : wrap64 ((v : Int) * 10 + ((c : Int) - 48)) = (v : Int) * 10 + ((c : Int) - 48) := wr_in _ ⟨by omega, by omega⟩
      clear hat
      by_cases hd : 48 ≤ c ∧ c ≤ 57
      · have d1 : ¬ ((c : Int) - 48 < 0) := by omega
        have d2 : ¬ ((9 : Int) < (c : Int) - 48) := by omega
        have hdv : Lib.digitVal D[k] = some (c - 48) := by unfold Lib.digitVal; rw [CB.out, if_pos hd]
        have HV := Lib.hid (Lib.decFrom_take _ k 0 v D[k] (c - 48) hv AT.out hdv)
        have HP : v * 10 + (c - 48) < 10 ^ (k + 1) := by rw [Nat.pow_succ]; omega
        clear hdv
        go_wp2_with fail
        go_roundg (min D.size 11 - (k + 1))
        case measure => omega
        case rel => exact ⟨k + 1, v * 10 + (c - 48), by congr 1; omega, by congr 1, by omega, HV.out, HP, rfl⟩
      · have hn : Lib.digitVal D[k] = none := by unfold Lib.digitVal; rw [CB.out, if_neg hd]
        have hnone : Lib.decFrom 0 (D.data.toList.take 11) = none := dec_stop _ k 0 v D[k] 11 hv AT.out hn (by omega)
        have e1 : intV wd = 0 := by unfold intV; rw [HV0.out, hnone]; rfl
        have e2 : intBad wd = true := by unfold intBad; rw [HV0.out, hnone]; rfl
        have E := Lib.hid (And.intro e1 e2)
        clear e1 e2 hnone hn
        by_cases hlow : (c : Int) - 48 < 0
        · go_wp2_with fail
          go_ret
          exact ⟨by rw [E.out.1]; rfl, KT.out _ (Kept.setAt (fun _ => rfl) (Kept.refl _ _)), by rw [E.out.2, Bool.or_true]; exact H.out.set2⟩
        · have hhi : (9 : Int) < (c : Int) - 48 := by omega
          go_wp2_with fail
          go_ret
          exact ⟨by rw [E.out.1]; rfl, KT.out _ (Kept.setAt (fun _ => rfl) (Kept.refl _ _)), by rw [E.out.2, Bool.or_true]; exact H.out.set2⟩
    · have hall : Lib.decFrom 0 (D.data.toList.take 11) = some v := by
        rw [← hv]
        congr 1
        by_cases h11 : D.size ≤ 11
        · rw [List.take_of_length_le (by rw [Array.length_toList]; exact h11), List.take_of_length_le (by rw [Array.length_toList]; show D.size ≤ k; omega)]
        · rw [show k = 11 by omega]
      have hv11 : v < 10 ^ 11 := Nat.lt_of_lt_of_le hl (Nat.pow_le_pow_right (by decide) (by omega))
      have e1 : intV wd = (-(v : Int)) := by unfold intV; rw [HV0.out, hall]; rfl
      have e2 : intBad wd = (decide (11 < wd.size) || !decide (itoaB (-(v : Int)) = wd)) := by unfold intBad; rw [HV0.out, hall]; rfl
      have E := Lib.hid (And.intro e1 e2)
      have IT := Lib.hid (itoa_all (-(v : Int)) (by omega) (by omega) wr TT.out)
      have hk' : ¬ ((k : Int) < (D.size : Int)) ∨ ¬ ((k : Int) < 11) := by omega
      have wn : wrap64 (-(v : Int)) = -(v : Int) := wr_in _ ⟨by omega, by omega⟩
      have hdn := HDN.out
      clear e1 e2 hall
      by_cases h11 : (11 : Int) < (wd.size : Int)
      · have hb1 : intBad wd = true := by rw [E.out.2, decide_eq_true (by omega), Bool.true_or]
        have HB := Lib.hid hb1
        clear hb1
        rcases hk' with i1 | i2
        · go_wp2_with fail
          all_goals go_ret
          all_goals exact ⟨by rw [E.out.1]; rfl, KT.out _ (Kept.setAt (fun _ => rfl) (Kept.refl _ _)), by rw [HB.out, Bool.or_true]; exact H.out.set2⟩
        · go_wp2_with fail
          all_goals go_ret
          all_goals exact ⟨by rw [E.out.1]; rfl, KT.out _ (Kept.setAt (fun _ => rfl) (Kept.refl _ _)), by rw [HB.out, Bool.or_true]; exact H.out.set2⟩
      · have i1 : ¬ ((k : Int) < (D.size : Int)) := by have := HDS.out; omega
        obtain ⟨q, hq⟩ : ∃ q, itoaB (-(v : Int)) = q := ⟨_, rfl⟩
        have hb1 : intBad wd = !decide (q = wd) := by rw [E.out.2, hq, decide_eq_false (by omega), Bool.false_or]
        rw [hq] at IT
        by_cases hqw : q = wd
        · have hne : (q.toList == wd.toList) = true := by rw [hqw]; simp
          have HB := Lib.hid (show intBad wd = false by rw [hb1, hqw]; simp)
          clear hb1 hk' hq
          go_wp2_with fail
          refine IT.out.mono ?_
          rintro e w5 ⟨rfl, k5⟩
          have K5 := Lib.hid k5
          clear k5
          go_wp2_with fail
          go_ret
          exact ⟨by rw [E.out.1]; rfl, KT.out _ ⟨K5.out.os, K5.out.tape, K5.out.output, K5.out.size, fun j hj _ => K5.out.block j hj (fun f => f)⟩, by rw [HB.out, Bool.or_false]; exact H.out.kept K5.out⟩
        · have HB := Lib.hid (show intBad wd = true by rw [hb1]; simp [hqw])
          clear hb1 hk' hq
          go_wp2_with fail
          refine IT.out.mono ?_
          rintro e w5 ⟨rfl, k5⟩
          have s5 := H.out.kept k5
          have S5 := Lib.hid s5
          have f5 := s5.fr 2
          have h5 := s5.bad
          have K5 := Lib.hid k5
          have hne : (q.toList == wd.toList) = false := ne_toList hqw
          clear k5 s5
          go_wp2_with fail
          go_ret
          exact ⟨by rw [E.out.1]; rfl, KT.out _ (Kept.setAt (fun _ => rfl) ⟨K5.out.os, K5.out.tape, K5.out.output, K5.out.size, fun j hj _ => K5.out.block j hj (fun f => f)⟩), by rw [HB.out, Bool.or_true]; exact S5.out.set2⟩
end Go.Proofs.YtelhdbkkigehgaaGreatDoor

/- The chapter's next number of a line: at no word; whatever word. -/
namespace Go.Proofs.YtelhdbkkigehgaaGreatDoor
open Go.RowKit Go.Sort

theorem itoa_zero : itoaB 0 = ⟨#[48]⟩ := by
  unfold itoaB Lib.itoa
  rw [if_neg (by decide)]
  unfold Lib.decDigits
  rfl
theorem nil_vals : intV ⟨#[]⟩ = 0 ∧ intBad ⟨#[]⟩ = true := by
  have hV : valB ⟨#[]⟩ = some 0 := rfl
  unfold intV intBad
  rw [hV]
  refine ⟨rfl, ?_⟩
  simp only [itoa_zero]
  have : ¬ ((⟨#[48]⟩ : ByteArray) = ⟨#[]⟩) := fun e => by have := congrArg ByteArray.size e; cases this
  simp [this]
set_option maxHeartbeats 2000000 in
set_option maxRecDepth 100000 in
theorem int_nil {w : World} {p : Nat} {r : ByteArray} {o b : Bool} (T : Tab w) (hp : p ≠ 5) (N : Calls Tryz.prog 25 #[.pointer (some ⟨p, 0, none⟩)] w fun e w' => e = .returned (.string ⟨#[]⟩) ∧ Kept (fun k => k = p) w w' ∧ Src w' p r o b) : Calls Tryz.prog 49 #[.pointer (some ⟨p, 0, none⟩)] w fun e w' => e = .returned (.int .i64 (intV ⟨#[]⟩)) ∧ Kept (fun k => k = p) w w' ∧ Src w' p r o (b || intBad ⟨#[]⟩) := by
  have NN := Lib.hid N
  have T0 := Lib.hid T
  have P5 := Lib.hid hp
  rw [nil_vals.1, nil_vals.2, Bool.or_true]
  clear N T hp
  go_enter Tryz.func49, Tryz.ntmps49
  go_wp2_with fail
  refine NN.out.mono ?_
  rintro e w' ⟨rfl, kn, h⟩
  have H := Lib.hid h
  have TT := Lib.hid (T0.out.kept kn (fun e => P5.out e.symm))
  have KT := Lib.hid (fun (W : World) (k : Kept (fun j => j = p) w' W) => (kn.trans k (fun _ _ f => f) (fun _ _ f => f) : Kept (fun j => j = p) w W))
  have IT := Lib.hid (itoa_all 0 (by decide) (by decide) w' TT.out)
  rw [itoa_zero] at IT
  clear kn h
  go_wp2_with fail
  apply wp_loop_once
  go_wp2_with fail
  refine IT.out.mono ?_
  rintro e w5 ⟨rfl, k5⟩
  have s5 := H.out.kept k5
  have S5 := Lib.hid s5
  have f5 := s5.fr 2
  have h5 := s5.bad
  have K5 := Lib.hid k5
  clear k5 s5
  go_wp2_with fail
  go_ret
  exact ⟨rfl, KT.out _ (Kept.setAt (fun _ => rfl) ⟨K5.out.os, K5.out.tape, K5.out.output, K5.out.size, fun j hj _ => K5.out.block j hj (fun f => f)⟩), S5.out.set2⟩
theorem int_any {w : World} {p : Nat} {wd r : ByteArray} {o b : Bool} (T : Tab w) (hp : p ≠ 5) (hsz : wd.size ≤ 1000000000) (N : Calls Tryz.prog 25 #[.pointer (some ⟨p, 0, none⟩)] w fun e w' => e = .returned (.string wd) ∧ Kept (fun k => k = p) w w' ∧ Src w' p r o b) : Calls Tryz.prog 49 #[.pointer (some ⟨p, 0, none⟩)] w fun e w' => e = .returned (.int .i64 (intV wd)) ∧ Kept (fun k => k = p) w w' ∧ Src w' p r o (b || intBad wd) := by
  by_cases hz : 0 < wd.size
  · by_cases hm : wd[0] = 45
    · exact int_neg T hp hsz hz hm N
    · exact int_plain T hp hsz hz hm N
  · have : wd = ⟨#[]⟩ := by
      apply ByteArray.ext
      exact Array.eq_empty_of_size_eq_zero (by show wd.size = 0; omega)
    subst this
    exact int_nil T hp N
/-- The next number, of a line that is not over. -/
theorem int_word {w : World} {p : Nat} {s : ByteArray} {b : Bool} (h : Src w p s false b) (hs : s.size ≤ 1000000000) (T : Tab w) (hp : p ≠ 5) :
    Calls Tryz.prog 49 #[.pointer (some ⟨p, 0, none⟩)] w fun e w' => e = .returned (.int .i64 (intV (s.extract 0 (spN s.data.toList)))) ∧ Kept (fun k => k = p) w w' ∧ Src w' p (s.extract (spN s.data.toList + 1) s.size) (decide (spN s.data.toList = s.size)) (b || intBad (s.extract 0 (spN s.data.toList))) :=
  int_any T hp (by rw [ByteArray.size_extract]; omega) (next_word h hs)
theorem int_over {w : World} {p : Nat} {s : ByteArray} {b : Bool} (h : Src w p s true b) (T : Tab w) (hp : p ≠ 5) :
    Calls Tryz.prog 49 #[.pointer (some ⟨p, 0, none⟩)] w fun e w' => e = .returned (.int .i64 0) ∧ Kept (fun k => k = p) w w' ∧ Src w' p s true true :=
  (int_any T hp (by decide) (next_over h)).mono fun e w' ⟨h1, h2, h3⟩ => ⟨by rw [h1, nil_vals.1], h2, by simpa using h3⟩
end Go.Proofs.YtelhdbkkigehgaaGreatDoor

/- The words of a line, plainly. -/
namespace Go.Proofs.YtelhdbkkigehgaaGreatDoor
open Go.RowKit

abbrev blankB : ByteArray := ⟨#[32]⟩
abbrev wordsB (s : ByteArray) : List ByteArray := Lib.splitB blankB 0 (Lib.countB s blankB) s
theorem index_sp : ∀ l : List UInt8, (spN l = l.length → Lib.indexByte l 32 = -1) ∧ (spN l < l.length → Lib.indexByte l 32 = (spN l : Int))
  | [] => ⟨fun _ => rfl, fun h => by simp [spN] at h⟩
  | c :: l => by
    obtain ⟨h1, h2⟩ := index_sp l
    unfold spN Lib.indexByte
    by_cases hc : c = 32
    · subst hc
      simp
    · have hb : (c == 32) = false := by simpa using hc
      rw [if_neg hc, hb]
      refine ⟨fun h => ?_, fun h => ?_⟩
      · rw [h1 (by simpa using h)]
        decide
      · have h3 := h2 (by simpa using h)
        rw [h3]
        have : ((spN l : Int) == -1) = false := by simp
        rw [this]
        simp
theorem size_list (s : ByteArray) : s.data.toList.length = s.size := by rw [Array.length_toList]; rfl
theorem words_last (s : ByteArray) (h : spN s.data.toList = s.size) : wordsB s = [s] := by
  have : Lib.indexB s blankB = -1 := by
    show Lib.index s.data.toList [32] = -1
    rw [Lib.index_one]
    exact (index_sp _).1 (by rw [h, size_list])
  exact Lib.splitB_miss _ _ _ _ this
theorem words_cons (s : ByteArray) (h : spN s.data.toList < s.size) : wordsB s = s.extract 0 (spN s.data.toList) :: wordsB (s.extract (spN s.data.toList + 1) s.size) := by
  have hi : Lib.indexB s blankB = ((spN s.data.toList : Nat) : Int) := by
    show Lib.index s.data.toList [32] = _
    rw [Lib.index_one]
    exact (index_sp _).2 (by rw [size_list]; exact h)
  have hc : Lib.countB s blankB = 1 + Lib.countB (s.extract (spN s.data.toList + 1) s.size) blankB := Lib.countB_hit s blankB _ (by decide) hi
  show Lib.splitB blankB 0 (Lib.countB s blankB) s = _
  rw [hc, Nat.add_comm, Lib.splitB_hit _ _ _ _ _ hi]
  rfl
theorem words_ne (s : ByteArray) : wordsB s ≠ [] := by
  have := spN_le s.data.toList
  rw [size_list] at this
  by_cases h : spN s.data.toList = s.size
  · rw [words_last s h]; simp
  · rw [words_cons s (by omega)]; simp
theorem words_length (s : ByteArray) : (wordsB s).length = Lib.countB s blankB + 1 := Lib.splitB_all _ (by decide) 0 _ s rfl
theorem words_le (s : ByteArray) : (wordsB s).length ≤ s.size + 2 := by
  rw [words_length]
  have := Lib.count_le s.data.toList blankB.data.toList
  rw [size_list] at this
  show Lib.count _ _ + 1 ≤ _
  omega
theorem words_size : ∀ (n : Nat) (s : ByteArray), s.size ≤ n → ∀ x ∈ wordsB s, x.size ≤ n := by
  intro n
  induction n using Nat.strongRecOn with
  | _ n ih =>
    intro s hn x hx
    have hle := spN_le s.data.toList
    rw [size_list] at hle
    by_cases h : spN s.data.toList = s.size
    · rw [words_last s h] at hx
      simp at hx; subst hx; exact hn
    · rw [words_cons s (by omega)] at hx
      rcases List.mem_cons.1 hx with rfl | hx
      · rw [ByteArray.size_extract]; omega
      · have := ih (n - 1) (by omega) _ (by rw [ByteArray.size_extract]; omega) x hx
        omega
theorem decFrom_append : ∀ (l m : List UInt8) (acc : Nat), Lib.decFrom acc (l ++ m) = (Lib.decFrom acc l).bind (fun a => Lib.decFrom a m)
  | [], m, acc => rfl
  | b :: l, m, acc => by
    show Lib.decFrom acc (b :: (l ++ m)) = _
    rw [Lib.decFrom, Lib.decFrom]
    cases Lib.digitVal b with
    | none => rfl
    | some d => exact decFrom_append l m _
theorem digit_val (u : Nat) (h : u < 10) : Lib.digitVal (UInt8.ofNat (48 + u)) = some u := by
  unfold Lib.digitVal
  have : (UInt8.ofNat (48 + u)).toNat = 48 + u := by
    rw [UInt8.toNat_ofNat']; omega
  rw [this, if_pos (by omega)]
  congr 1
  omega
theorem dec_digits (u : Nat) : Lib.decFrom 0 (Lib.decDigits u) = some u := by
  induction u using Nat.strongRecOn with
  | _ u ih =>
    rw [Lib.decDigits]
    split
    · rename_i h
      unfold Lib.decFrom
      rw [digit_val u h]
      simp [Lib.decFrom]
    · rename_i h
      rw [decFrom_append, ih (u / 10) (by omega)]
      show Lib.decFrom (u / 10) [UInt8.ofNat (48 + u % 10)] = some u
      unfold Lib.decFrom
      rw [digit_val _ (by omega)]
      simp [Lib.decFrom]
      omega
theorem digits_head (u : Nat) : ∃ c l, Lib.decDigits u = c :: l ∧ c ≠ 45 := by
  induction u using Nat.strongRecOn with
  | _ u ih =>
    rw [Lib.decDigits]
    split
    · rename_i h
      refine ⟨_, _, rfl, fun e => ?_⟩
      have := congrArg UInt8.toNat e
      rw [UInt8.toNat_ofNat'] at this
      have e2 : (45 : UInt8).toNat = 45 := rfl
      omega
    · rename_i h
      obtain ⟨c, l, h1, h2⟩ := ih (u / 10) (by omega)
      exact ⟨c, l ++ [UInt8.ofNat (48 + u % 10)], by rw [h1]; rfl, h2⟩
end Go.Proofs.YtelhdbkkigehgaaGreatDoor

/- The chapter's source, by the words that are left. -/
namespace Go.Proofs.YtelhdbkkigehgaaGreatDoor
open Go.RowKit Go.Sort

/-- A source with these words left. -/
def SrcL (w : World) (p : Nat) (L : List ByteArray) (b : Bool) : Prop := ∃ s o, Src w p s o b ∧ s.size ≤ 1000000000 ∧ ((o = true ∧ L = []) ∨ (o = false ∧ L = wordsB s))
theorem SrcL.kept {w w' : World} {p : Nat} {L : List ByteArray} {b : Bool} (h : SrcL w p L b) {S : Nat → Prop} (K : Kept S w w') (hS : ¬ S p) : SrcL w' p L b := by
  obtain ⟨s, o, h1, h2⟩ := h
  exact ⟨s, o, ⟨(K.block p (Array.getElem?_eq_some_iff.1 h1.blk).1 hS).trans h1.blk⟩, h2⟩
theorem SrcL.lt {w : World} {p : Nat} {L : List ByteArray} {b : Bool} (h : SrcL w p L b) : p < w.heap.size := by
  obtain ⟨s, o, h1, _⟩ := h
  exact (Array.getElem?_eq_some_iff.1 h1.blk).1
theorem SrcL.cells {w : World} {p : Nat} {L : List ByteArray} {b : Bool} (h : SrcL w p L b) : w.cell? ⟨p, 1, none⟩ = some (.bool L.isEmpty) ∧ w.cell? ⟨p, 2, none⟩ = some (.bool b) ∧ w.frozen? ⟨p, 2, none⟩ = false := by
  obtain ⟨s, o, h1, _, h3⟩ := h
  refine ⟨?_, h1.bad, h1.fr 2⟩
  rw [h1.over]
  rcases h3 with ⟨rfl, rfl⟩ | ⟨rfl, rfl⟩
  · rfl
  · have := words_ne s
    cases hw : wordsB s with
    | nil => exact absurd hw this
    | cons a l => rfl
theorem SrcL.set2 {w : World} {p : Nat} {L : List ByteArray} {b b' : Bool} (h : SrcL w p L b) : SrcL (w.setCell ⟨p, 2, none⟩ (.bool b')) p L b' := by
  obtain ⟨s, o, h1, h2⟩ := h
  exact ⟨s, o, h1.set2, h2⟩
theorem nextL_cons {w : World} {p : Nat} {x : ByteArray} {L : List ByteArray} {b : Bool} (h : SrcL w p (x :: L) b) : Calls Tryz.prog 25 #[.pointer (some ⟨p, 0, none⟩)] w fun e w' => e = .returned (.string x) ∧ Kept (fun k => k = p) w w' ∧ SrcL w' p L b := by
  obtain ⟨s, o, h1, h2, h3⟩ := h
  rcases h3 with ⟨_, h3⟩ | ⟨rfl, h3⟩
  · cases h3
  · refine (next_word h1 h2).mono ?_
    rintro e w' ⟨rfl, k, h4⟩
    have hle := spN_le s.data.toList
    rw [size_list] at hle
    by_cases hz : spN s.data.toList = s.size
    · rw [words_last s hz] at h3
      cases h3
      refine ⟨?_, k, _, _, h4, by rw [ByteArray.size_extract]; omega, .inl ⟨by simpa using hz, rfl⟩⟩
      rw [hz]
      simp
    · rw [words_cons s (by omega)] at h3
      cases h3
      exact ⟨rfl, k, _, _, h4, by rw [ByteArray.size_extract]; omega, .inr ⟨by simpa using hz, rfl⟩⟩
theorem nextL_nil {w : World} {p : Nat} {b : Bool} (h : SrcL w p [] b) : Calls Tryz.prog 25 #[.pointer (some ⟨p, 0, none⟩)] w fun e w' => e = .returned (.string ⟨#[]⟩) ∧ Kept (fun k => k = p) w w' ∧ SrcL w' p [] true := by
  obtain ⟨s, o, h1, h2, h3⟩ := h
  rcases h3 with ⟨rfl, _⟩ | ⟨_, h3⟩
  · exact (next_over h1).mono fun e w' ⟨h4, h5, h6⟩ => ⟨h4, h5, s, true, h6, h2, .inl ⟨rfl, rfl⟩⟩
  · exact absurd h3.symm (words_ne s)
/-- A word that says a number. -/
def Says (x : ByteArray) (n : Int) : Prop := x = itoaB n ∧ x.size ≤ 11
theorem itoa_data (n : Int) : (itoaB n).data.toList = Lib.itoa n := rfl
theorem says_val {x : ByteArray} {n : Int} (h : Says x n) : intV x = n ∧ intBad x = false := by
  obtain ⟨rfl, h2⟩ := h
  have hv : valB (itoaB n) = some n := by
    unfold valB digB
    rw [itoa_data]
    unfold Lib.itoa
    by_cases hn : n < 0
    · rw [if_pos hn]
      have hs : (Lib.decDigits n.natAbs).length ≤ 11 := by
        rw [← size_list, itoa_data] at h2
        unfold Lib.itoa at h2
        rw [if_pos hn] at h2
        simp at h2; omega
      have e : ((itoaB n).extract 1 (itoaB n).size).data.toList = Lib.decDigits n.natAbs := by
        rw [Lib.extract_to_end, itoa_data]
        unfold Lib.itoa
        rw [if_pos hn]; rfl
      simp only [List.head?_cons, if_true]
      rw [e, List.take_of_length_le hs, dec_digits]
      simp; omega
    · rw [if_neg hn]
      obtain ⟨c, l, h3, h4⟩ := digits_head n.toNat
      have hh : ¬ (Lib.decDigits n.toNat).head? = some 45 := by rw [h3]; simpa using h4
      have hs : (Lib.decDigits n.toNat).length ≤ 11 := by
        rw [← size_list, itoa_data] at h2
        unfold Lib.itoa at h2
        rwa [if_neg hn] at h2
      rw [if_neg hh, itoa_data]
      unfold Lib.itoa
      rw [if_neg hn, List.take_of_length_le hs, dec_digits]
      simp [hh]
      omega
  unfold intV intBad
  rw [hv]
  exact ⟨rfl, by simp; omega⟩
theorem intL_cons {w : World} {p : Nat} {x : ByteArray} {n : Int} {L : List ByteArray} {b : Bool} (h : SrcL w p (x :: L) b) (hx : Says x n) (T : Tab w) (hp : p ≠ 5) : Calls Tryz.prog 49 #[.pointer (some ⟨p, 0, none⟩)] w fun e w' => e = .returned (.int .i64 n) ∧ Kept (fun k => k = p) w w' ∧ SrcL w' p L b := by
  obtain ⟨s, o, h1, h2, h3⟩ := h
  obtain ⟨v1, v2⟩ := says_val hx
  rcases h3 with ⟨_, h3⟩ | ⟨rfl, h3⟩
  · cases h3
  · refine (int_word h1 h2 T hp).mono ?_
    rintro e w' ⟨rfl, k, h4⟩
    have hle := spN_le s.data.toList
    rw [size_list] at hle
    by_cases hz : spN s.data.toList = s.size
    · rw [words_last s hz] at h3
      cases h3
      have e : x.extract 0 (spN x.data.toList) = x := by rw [hz]; simp
      rw [e, v2, Bool.or_false] at h4
      rw [e, v1]
      exact ⟨rfl, k, _, _, h4, by rw [ByteArray.size_extract]; omega, .inl ⟨by simpa using hz, rfl⟩⟩
    · rw [words_cons s (by omega)] at h3
      cases h3
      rw [v2, Bool.or_false] at h4
      rw [v1]
      exact ⟨rfl, k, _, _, h4, by rw [ByteArray.size_extract]; omega, .inr ⟨by simpa using hz, rfl⟩⟩
end Go.Proofs.YtelhdbkkigehgaaGreatDoor

/- The chapter's numbers to the line's end. -/
namespace Go.Proofs.YtelhdbkkigehgaaGreatDoor
open Go.RowKit

theorem ownr_kept {S : Nat → Prop} {w w' : World} {base e size : Nat} {v : Value} {n : Nat} {xs : List Value} (h : w.ownsRow base e size v n xs) (hK : Kept S w w') (hv : ∀ b, v.ownBlock = some b → ¬ S b) : w'.ownsRow base e size v n xs := by
  obtain ⟨h1, h2⟩ := h
  refine ⟨h1, ?_⟩
  rcases h2 with h2 | ⟨g, cap, cur, rfl, hb, hg, rest⟩
  · exact .inl h2
  · exact .inr ⟨g, cap, cur, rfl, hb, (hK.block g (Array.getElem?_eq_some_iff.1 hg).1 (hv g rfl)).trans hg, rest⟩
theorem ownr_from {w : World} {base e size : Nat} {v : Value} {n : Nat} {xs : List Value} (h : w.ownsRow base e size v n xs) {q : Nat} (hq : v.ownBlock = some q) : base ≤ q := by
  rcases h.2 with ⟨rfl, _⟩ | ⟨g, cap, cur, rfl, hb, _⟩
  · cases hq
  · cases hq; exact hb
theorem ownr_low {w : World} {b c e size : Nat} {v : Value} {n : Nat} {xs : List Value} (h : w.ownsRow b e size v n xs) (hc : c ≤ b) : w.ownsRow c e size v n xs := by
  refine ⟨h.1, ?_⟩
  rcases h.2 with h2 | ⟨g, cap, cur, hv, hb, rest⟩
  · exact .inl h2
  · exact .inr ⟨g, cap, cur, hv, Nat.le_trans hc hb, rest⟩
/-- Numbers, as they lie: new memory from block b on. -/
abbrev IntsR (w : World) (b : Nat) (v : Value) (ns : List Int) : Prop := w.ownsRow b 3 1 v ns.length (ns.map (Value.int .i64))
theorem info_3 : ∃ i, Tryz.prog.info? 3 = some i ∧ i.zero = some (.int .i64 0) ∧ i.size = 1 ∧ i.bytes = 8 := by
  have h : (Tryz.prog.info? 3).map (fun i => (i.zero, i.size, i.bytes)) = some (some (.int .i64 0), 1, 8) := by kernel_rfl
  cases hi : Tryz.prog.info? 3 with
  | none => rw [hi] at h; simp at h
  | some i =>
    rw [hi] at h
    simp at h
    exact ⟨i, rfl, h.1, h.2.1, h.2.2⟩
/-- Words that say numbers. -/
def SaysL : List ByteArray → List Int → Prop
  | [], [] => True
  | x :: ws, n :: ns => Says x n ∧ SaysL ws ns
  | _, _ => False
theorem SaysL.length : ∀ {ws : List ByteArray} {ns : List Int}, SaysL ws ns → ws.length = ns.length
  | [], [], _ => rfl
  | x :: ws, n :: ns, h => by simp [SaysL.length h.2]
  | [], n :: ns, h => h.elim
  | x :: ws, [], h => h.elim
set_option maxHeartbeats 2000000 in
set_option maxRecDepth 100000 in
theorem ints_all {w : World} {p : Nat} {ws : List ByteArray} {ns : List Int} (h : SrcL w p ws false) (hs : SaysL ws ns) (T : Tab w) (hp : p ≠ 5) (hn : ns.length ≤ 1000000000) :
    Calls Tryz.prog 51 #[.pointer (some ⟨p, 0, none⟩)] w fun e w' => (∃ v, e = .returned v ∧ IntsR w' w.heap.size v ns) ∧ Kept (fun k => k = p) w w' ∧ SrcL w' p [] false := by
  obtain ⟨i3, hi3, z3, s3, b3⟩ := info_3
  have HN := Lib.hid hn
  have T0 := Lib.hid T
  have P5 := Lib.hid hp
  have HH := Lib.hid h
  have HS := Lib.hid hs
  have plt := h.lt
  have PL := Lib.hid plt
  clear h hs T hp hn plt
  go_enter Tryz.func51, Tryz.ntmps51
  go_wp2_with fail
  go_loopg [3] ns.length (fun gh t wr => ∃ (dn left : List Int) (wl : List ByteArray), ns = dn ++ left ∧ gh = left.length ∧ SaysL wl left ∧ SrcL wr p wl false ∧ IntsR wr w.heap.size t dn ∧ Kept (fun k => k = p) w wr)
  case atStart => exact ⟨[], ns, ws, rfl, rfl, HS.out, HH.out, World.ownsRow_nil _ _ _ _, Kept.refl _ _⟩
  case round =>
    obtain ⟨dn, left, wl, hns, hgh, hsl, hsr, hown, hk⟩ := hrel
    have NS := Lib.hid hns
    have GH := Lib.hid hgh
    have SR := Lib.hid hsr
    have OW := Lib.hid hown
    have HK := Lib.hid hk
    obtain ⟨c1, c2, _⟩ := hsr.cells
    cases left with
    | nil =>
      cases wl with
      | cons x wl => exact hsl.elim
      | nil =>
        simp only [List.isEmpty_nil] at c1
        clear hns hgh hsl hsr hown hk
        have E : dn = ns := by rw [NS.out, List.append_nil]
        subst E
        have FF := Lib.hid (And.intro OW.out (And.intro HK.out SR.out))
        clear NS
        go_wp2_with fail
        go_ret
        exact ⟨⟨_, rfl, FF.out.1⟩, FF.out.2.1, FF.out.2.2⟩
    | cons n left =>
      cases wl with
      | nil => exact hsl.elim
      | cons x wl =>
        simp only [List.isEmpty_cons] at c1
        have C := Lib.hid (intL_cons hsr hsl.1 (T0.out.kept hk (fun e => P5.out e.symm)) P5.out)
        have SL := Lib.hid hsl.2
        have DL : dn.length ≤ 1000000000 := by
          have := HN.out
          rw [NS.out] at this
          simp at this; omega
        obtain ⟨m, hm⟩ : ∃ m, dn.length = m := ⟨_, rfl⟩
        have HM := Lib.hid hm
        rw [hm] at DL
        unfold IntsR at hown
        rw [hm] at hown
        have OM := Lib.hid hown
        have SZ := Lib.hid hk.size
        clear hns hgh hsl hsr hown hk hm OW
        go_wp2_with fail
        refine C.out.mono ?_
        rintro e w4 ⟨rfl, k4, r4⟩
        have R4 := Lib.hid r4
        have K4 := Lib.hid (HK.out.trans k4 (fun _ _ f => f) (fun _ _ f => f) : Kept (fun k => k = p) w w4)
        have O4 := Lib.hid (ownr_kept OM.out k4 (fun q hq hs => by have := ownr_from OM.out hq; have := PL.out; omega))
        have Z4 := Lib.hid k4.size
        clear k4 r4
        go_wp2_with (at_builtin; refine wpList_append_own _ rfl _ _ 36 rfl w.heap.size 3 i3 _ 1 8 Tryz.underlying36 hi3 z3 s3 b3 rfl (by decide) _ m _ rfl (ownr_kept O4.out ((Kept.refl (fun _ => False) w4).alloc _) (fun _ _ f => f)) ⟨w4.heap.size, 0, none⟩ 1 1 [.int .i64 n] rfl rfl (World.news_of_block (heap_alloc_new w4 _)) ?qa ?qb ?qc ?qd ?_)
        case qa => intro u hu; simp at hu; subst hu; rfl
        case qb => unfold maxLen; omega
        case qc => omega
        case qd => have := SZ.out; have := Z4.out; simp; omega
        intro v' w5 hown hgrow hnil
        have K6 := Lib.hid (((K4.out.alloc (Obj.cells #[.int .i64 n] 3)) : Kept (fun k => k = p) w _).grown hgrow (fun k hk hlt => by have := ownr_from O4.out hk; omega))
        have R6 := Lib.hid (R4.out.kept (((Kept.refl (fun k => k ≠ p) w4).alloc (Obj.cells #[.int .i64 n] 3)).grown hgrow (fun k hk hlt e => by have := ownr_from O4.out hk; have := PL.out; omega)) (fun f => f rfl))
        have O6 := Lib.hid hown
        clear hown hgrow hnil
        go_wp2_with fail
        go_roundg left.length
        case measure => rw [GH.out]; simp
        case rel =>
          refine ⟨dn ++ [n], left, wl, by rw [NS.out]; simp, rfl, SL.out, R6.out, ?_, K6.out⟩
          have := O6.out
          unfold IntsR
          rw [List.length_append, HM.out, List.map_append]
          exact this
end Go.Proofs.YtelhdbkkigehgaaGreatDoor

/- Spans in memory, and how lists of them read as arguments. -/
namespace Go.Proofs.YtelhdbkkigehgaaGreatDoor
open Go.RowKit

structure Spn where
  tr : Int
  id : Int
  pa : Int
  se : ByteArray
  ho : ByteArray
  st : Int
  du : Int
  no : ByteArray
  deriving Inhabited
def Spn.cells (m : Spn) : List Value := [.int .i64 m.tr, .int .i64 m.id, .int .i64 m.pa, .string m.se, .string m.ho, .int .i64 m.st, .int .i64 m.du, .string m.no]
def cellsS : List Spn → List Value
  | [] => []
  | m :: t => m.cells ++ cellsS t
theorem cellsS_length : ∀ L, (cellsS L).length = L.length * 8
  | [] => rfl
  | m :: t => by simp [cellsS, cellsS_length t, Spn.cells]; omega
theorem cellsS_append : ∀ a b, cellsS (a ++ b) = cellsS a ++ cellsS b
  | [], b => rfl
  | m :: t, b => by simp [cellsS, cellsS_append t b]
theorem cellsS_at : ∀ (L : List Spn) (i : Nat) (m : Spn), L[i]? = some m → ∀ k, k < 8 → (cellsS L)[i * 8 + k]? = m.cells[k]?
  | [], i, m, h, _, _ => by simp at h
  | x :: t, 0, m, h, k, hk => by
    simp at h; subst h
    rw [cellsS, List.getElem?_append_left (by simp [Spn.cells]; omega)]; simp
  | x :: t, i + 1, m, h, k, hk => by
    have := cellsS_at t i m (by simpa using h) k hk
    rw [cellsS, List.getElem?_append_right (by simp [Spn.cells]; omega)]
    rw [← this]; congr 1; simp [Spn.cells]; omega
theorem cellsS_one : ∀ (L : List Spn), ∀ u ∈ cellsS L, u.oneCell' = true
  | [], u, h => by simp [cellsS] at h
  | m :: t, u, h => by
    rcases List.mem_append.1 h with h | h
    · simp [Spn.cells] at h
      rcases h with rfl | rfl | rfl | rfl | rfl | rfl | rfl | rfl <;> rfl
    · exact cellsS_one t u h
/-- A list of spans, as it lies. -/
def ReadsS (w : World) (v : Value) (L : List Spn) : Prop :=
  ∃ ao cap, v = .slice ao L.length cap ∧ (L = [] ∨ ∃ g o, ao = some ⟨g, o, none⟩ ∧ ∀ j u, (cellsS L)[j]? = some u → w.cell? ⟨g, o + j, none⟩ = some u)
theorem ReadsS.kept {S : Nat → Prop} {w w' : World} {v : Value} {L : List Spn} (h : ReadsS w v L) (hK : Kept S w w') (hS : ∀ k, v.ownBlock = some k → ¬ S k) (ho : ∀ g o n c, v = .slice (some ⟨g, o, none⟩) n c → ¬ S g) : ReadsS w' v L := by
  obtain ⟨ao, cap, rfl, h⟩ := h
  refine ⟨ao, cap, rfl, ?_⟩
  rcases h with h | ⟨g, o, rfl, hc⟩
  · exact .inl h
  · exact .inr ⟨g, o, rfl, fun j u hu => hK.cell (hc j u hu) (ho g o _ _ rfl)⟩
theorem ReadsS.keptF {w w' : World} {v : Value} {L : List Spn} (h : ReadsS w v L) (hK : Kept (fun _ => False) w w') : ReadsS w' v L := h.kept hK (fun _ _ f => f) (fun _ _ _ _ _ f => f)
theorem ReadsS.at {w : World} {L : List Spn} {g o : Nat} (hc : ∀ j u, (cellsS L)[j]? = some u → w.cell? ⟨g, o + j, none⟩ = some u) {i : Nat} {m : Spn} (hm : L[i]? = some m) :
    w.cell? ⟨g, o + i * 8, none⟩ = some (.int .i64 m.tr) ∧ w.cell? ⟨g, o + i * 8 + 1, none⟩ = some (.int .i64 m.id) ∧ w.cell? ⟨g, o + i * 8 + 2, none⟩ = some (.int .i64 m.pa) ∧ w.cell? ⟨g, o + i * 8 + 3, none⟩ = some (.string m.se) ∧ w.cell? ⟨g, o + i * 8 + 4, none⟩ = some (.string m.ho) ∧ w.cell? ⟨g, o + i * 8 + 5, none⟩ = some (.int .i64 m.st) ∧ w.cell? ⟨g, o + i * 8 + 6, none⟩ = some (.int .i64 m.du) ∧ w.cell? ⟨g, o + i * 8 + 7, none⟩ = some (.string m.no) := by
  have h := fun k hk u (hu : m.cells[k]? = some u) => hc _ u ((cellsS_at L i m hm k hk).trans hu)
  refine ⟨by have := h 0 (by omega) _ rfl; simpa [Nat.add_assoc] using this, by have := h 1 (by omega) _ rfl; simpa [Nat.add_assoc] using this, by have := h 2 (by omega) _ rfl; simpa [Nat.add_assoc] using this, by have := h 3 (by omega) _ rfl; simpa [Nat.add_assoc] using this, by have := h 4 (by omega) _ rfl; simpa [Nat.add_assoc] using this, by have := h 5 (by omega) _ rfl; simpa [Nat.add_assoc] using this, by have := h 6 (by omega) _ rfl; simpa [Nat.add_assoc] using this, by have := h 7 (by omega) _ rfl; simpa [Nat.add_assoc] using this⟩

end Go.Proofs.YtelhdbkkigehgaaGreatDoor

/- The chapter's span: its next eight words. (Printed by gen_spanl.py.) -/
namespace Go.Proofs.YtelhdbkkigehgaaGreatDoor
open Go.RowKit

theorem res_cell1 {fn : Func} {p : Tmp} {ty : TypeId} (h : fn.results = #[.cell p ty]) (tmps : Array Value) (P : Program) (w : World) :
    (results fn tmps).run P w = ((asAddr (tmps.getD p undef)).run P w).andThen fun a w₁ => (loadVar ty a).run P w₁ := by
  simp only [results, h]
  simp [Sem.run_bind, Result.andThen]
theorem lit_ne {a b : ByteArray} (h : ¬ a = b) : (a.toList == b.toList) = false := ne_toList h
theorem lit_eq (a : ByteArray) : (a.toList == a.toList) = true := by simp
/-- A note's word, read. -/
def noteB (x : ByteArray) : ByteArray := if x = ⟨#[45]⟩ then ⟨#[]⟩ else x
def Spn.val (m : Spn) : Value := .agg m.cells.toArray
theorem blk_cell {w : World} {g : Nat} {cs : Array Value} {t : TypeId} (h : w.heap[g]? = some (.cells cs t (0, 0))) (j : Nat) : w.cell? ⟨g, j, none⟩ = cs[j]? := by simp [World.cell?, h]
theorem blk_free {w : World} {g : Nat} {cs : Array Value} {t : TypeId} (h : w.heap[g]? = some (.cells cs t (0, 0))) (j : Nat) : w.frozen? ⟨g, j, none⟩ = false := by simp [World.frozen?, h]
theorem blk_lt {w : World} {g : Nat} {o : Obj} (h : w.heap[g]? = some o) : g < w.heap.size := (Array.getElem?_eq_some_iff.1 h).1
set_option maxHeartbeats 4000000 in
set_option maxRecDepth 100000 in
theorem span_all {w : World} {p : Nat} {m : Spn} {x1 x2 x3 x4 x5 no : ByteArray} (h : SrcL w p [x1, x2, x3, m.se, m.ho, x4, x5, no] false) (h1 : Says x1 m.tr) (h2 : Says x2 m.id) (h3 : Says x3 m.pa) (h4 : Says x4 m.st) (h5 : Says x5 m.du) (h6 : noteB no = m.no) (T : Tab w) (hp : p ≠ 5) :
    Calls Tryz.prog 50 #[.pointer (some ⟨p, 0, none⟩)] w fun e w' => e = .returned m.val ∧ Kept (fun k => k = p) w w' ∧ SrcL w' p [] false := by
  obtain ⟨tr, id, pa, se, ho, st, du, nt⟩ := m
  dsimp only at h h1 h2 h3 h4 h5 h6
  subst h6
  have b5 : 5 < w.heap.size := by obtain ⟨t, fr, h⟩ := T; exact (Array.getElem?_eq_some_iff.1 h).1
  have B5 := Lib.hid b5
  have PL := Lib.hid h.lt
  have P5 := Lib.hid hp
  obtain ⟨g, hg⟩ : ∃ g, w.heap.size = g := ⟨_, rfl⟩
  obtain ⟨W0, hW0⟩ : ∃ W, w.alloc (Obj.cells #[.int .i64 0, .int .i64 0, .int .i64 0, .string ⟨#[]⟩, .string ⟨#[]⟩, .int .i64 0, .int .i64 0, .string ⟨#[]⟩] 35) = W := ⟨_, rfl⟩
  have k0 : Kept (fun k => k = p) w W0 := by rw [← hW0]; exact (Kept.refl _ _).alloc _
  have r0 : SrcL W0 p [x1, x2, x3, se, ho, x4, x5, no] false := by rw [← hW0]; exact h.kept ((Kept.refl (fun _ => False) _).alloc _) (fun f => f)
  have a0 : W0.heap[g]? = some (Obj.cells #[.int .i64 0, .int .i64 0, .int .i64 0, .string ⟨#[]⟩, .string ⟨#[]⟩, .int .i64 0, .int .i64 0, .string ⟨#[]⟩] 35 (0, 0)) := by rw [← hW0, ← hg]; exact heap_alloc_new w _
  have NE := Lib.hid (show g ≠ p from by have := PL.out; omega)
  have K0 := Lib.hid k0; have R0 := Lib.hid r0; have A0 := Lib.hid a0
  have TT := Lib.hid (fun (W : World) (K : Kept (fun k => k = p) w W) => T.kept K (fun e => P5.out e.symm))
  have H1 := Lib.hid h1; have H2 := Lib.hid h2; have H3 := Lib.hid h3; have H4 := Lib.hid h4; have H5 := Lib.hid h5
  have HG := Lib.hid hg
  clear h h1 h2 h3 h4 h5 T hp b5 k0 r0 a0
  by_cases hno : no = ⟨#[45]⟩
  · subst hno
    rw [show noteB ⟨#[45]⟩ = ⟨#[]⟩ from rfl]
    have f1 := lit_eq ⟨#[45]⟩
    go_enter Tryz.func50, Tryz.ntmps50
    go_wp2_with fail
    clear hW0 hg
    refine (intL_cons R0.out H1.out (TT.out _ K0.out) P5.out).mono ?_
    rintro e W1 ⟨rfl, k, r⟩
    have K1 := Lib.hid (K0.out.trans k (fun _ _ f => f) (fun _ _ f => f) : Kept (fun k => k = p) w W1)
    have R1 := Lib.hid r
    have A1 := Lib.hid ((k.block g (blk_lt A0.out) NE.out).trans A0.out)
    clear k r
    go_wp2_with fail
    refine (intL_cons R1.out H2.out (TT.out _ K1.out) P5.out).mono ?_
    rintro e W2 ⟨rfl, k, r⟩
    have K2 := Lib.hid (K1.out.trans k (fun _ _ f => f) (fun _ _ f => f) : Kept (fun k => k = p) w W2)
    have R2 := Lib.hid r
    have A2 := Lib.hid ((k.block g (blk_lt A1.out) NE.out).trans A1.out)
    clear k r
    go_wp2_with fail
    refine (intL_cons R2.out H3.out (TT.out _ K2.out) P5.out).mono ?_
    rintro e W3 ⟨rfl, k, r⟩
    have K3 := Lib.hid (K2.out.trans k (fun _ _ f => f) (fun _ _ f => f) : Kept (fun k => k = p) w W3)
    have R3 := Lib.hid r
    have A3 := Lib.hid ((k.block g (blk_lt A2.out) NE.out).trans A2.out)
    clear k r
    go_wp2_with fail
    refine (nextL_cons R3.out).mono ?_
    rintro e W4 ⟨rfl, k, r⟩
    have K4 := Lib.hid (K3.out.trans k (fun _ _ f => f) (fun _ _ f => f) : Kept (fun k => k = p) w W4)
    have R4 := Lib.hid r
    have A4 := Lib.hid ((k.block g (blk_lt A3.out) NE.out).trans A3.out)
    clear k r
    go_wp2_with fail
    refine (nextL_cons R4.out).mono ?_
    rintro e W5 ⟨rfl, k, r⟩
    have K5 := Lib.hid (K4.out.trans k (fun _ _ f => f) (fun _ _ f => f) : Kept (fun k => k = p) w W5)
    have R5 := Lib.hid r
    have A5 := Lib.hid ((k.block g (blk_lt A4.out) NE.out).trans A4.out)
    clear k r
    go_wp2_with fail
    refine (intL_cons R5.out H4.out (TT.out _ K5.out) P5.out).mono ?_
    rintro e W6 ⟨rfl, k, r⟩
    have K6 := Lib.hid (K5.out.trans k (fun _ _ f => f) (fun _ _ f => f) : Kept (fun k => k = p) w W6)
    have R6 := Lib.hid r
    have A6 := Lib.hid ((k.block g (blk_lt A5.out) NE.out).trans A5.out)
    clear k r
    go_wp2_with fail
    refine (intL_cons R6.out H5.out (TT.out _ K6.out) P5.out).mono ?_
    rintro e W7 ⟨rfl, k, r⟩
    have K7 := Lib.hid (K6.out.trans k (fun _ _ f => f) (fun _ _ f => f) : Kept (fun k => k = p) w W7)
    have R7 := Lib.hid r
    have A7 := Lib.hid ((k.block g (blk_lt A6.out) NE.out).trans A6.out)
    clear k r
    go_wp2_with fail
    refine (nextL_cons R7.out).mono ?_
    rintro e W8 ⟨rfl, k, r⟩
    have K8 := Lib.hid (K7.out.trans k (fun _ _ f => f) (fun _ _ f => f) : Kept (fun k => k = p) w W8)
    have R8 := Lib.hid r
    have A8 := Lib.hid ((k.block g (blk_lt A7.out) NE.out).trans A7.out)
    clear k r
    have q := blk_lt A8.out
    have fz0 := blk_free A8.out 0
    have zz0 : W8.cell? ⟨g, 0, none⟩ = some (.int .i64 0) := blk_cell A8.out 0
    have fz1 := blk_free A8.out 1
    have zz1 : W8.cell? ⟨g, 1, none⟩ = some (.int .i64 0) := blk_cell A8.out 1
    have fz2 := blk_free A8.out 2
    have zz2 : W8.cell? ⟨g, 2, none⟩ = some (.int .i64 0) := blk_cell A8.out 2
    have fz3 := blk_free A8.out 3
    have zz3 : W8.cell? ⟨g, 3, none⟩ = some (.string ⟨#[]⟩) := blk_cell A8.out 3
    have fz4 := blk_free A8.out 4
    have zz4 : W8.cell? ⟨g, 4, none⟩ = some (.string ⟨#[]⟩) := blk_cell A8.out 4
    have fz5 := blk_free A8.out 5
    have zz5 : W8.cell? ⟨g, 5, none⟩ = some (.int .i64 0) := blk_cell A8.out 5
    have fz6 := blk_free A8.out 6
    have zz6 : W8.cell? ⟨g, 6, none⟩ = some (.int .i64 0) := blk_cell A8.out 6
    have fz7 := blk_free A8.out 7
    have zz7 : W8.cell? ⟨g, 7, none⟩ = some (.string ⟨#[]⟩) := blk_cell A8.out 7
    go_wp2_with fail
    (try simp only [Exit.inBlock, Exit.then])
    refine bodyPost_ret (v := Spn.val _) ?_ rfl ⟨rfl, ?_, ?_⟩
    · rw [res_cell1 rfl]
      go_simp
      rfl
    · have hlt : ¬ g < w.heap.size := by have := HG.out; omega
      iterate 8 refine Kept.setAt (fun hl => absurd hl hlt) ?_
      exact K8.out
    · refine R8.out.kept (S := fun k => k = g) ?_ (fun e => NE.out e.symm)
      iterate 8 refine Kept.setAt (fun _ => rfl) ?_
      exact Kept.refl _ _
  · rw [show noteB no = no from if_neg hno]
    have f1 : (no.toList == [45]) = false := by simpa [ByteArray.toList_eq] using lit_ne hno
    clear hno
    go_enter Tryz.func50, Tryz.ntmps50
    go_wp2_with fail
    clear hW0 hg
    refine (intL_cons R0.out H1.out (TT.out _ K0.out) P5.out).mono ?_
    rintro e W1 ⟨rfl, k, r⟩
    have K1 := Lib.hid (K0.out.trans k (fun _ _ f => f) (fun _ _ f => f) : Kept (fun k => k = p) w W1)
    have R1 := Lib.hid r
    have A1 := Lib.hid ((k.block g (blk_lt A0.out) NE.out).trans A0.out)
    clear k r
    go_wp2_with fail
    refine (intL_cons R1.out H2.out (TT.out _ K1.out) P5.out).mono ?_
    rintro e W2 ⟨rfl, k, r⟩
    have K2 := Lib.hid (K1.out.trans k (fun _ _ f => f) (fun _ _ f => f) : Kept (fun k => k = p) w W2)
    have R2 := Lib.hid r
    have A2 := Lib.hid ((k.block g (blk_lt A1.out) NE.out).trans A1.out)
    clear k r
    go_wp2_with fail
    refine (intL_cons R2.out H3.out (TT.out _ K2.out) P5.out).mono ?_
    rintro e W3 ⟨rfl, k, r⟩
    have K3 := Lib.hid (K2.out.trans k (fun _ _ f => f) (fun _ _ f => f) : Kept (fun k => k = p) w W3)
    have R3 := Lib.hid r
    have A3 := Lib.hid ((k.block g (blk_lt A2.out) NE.out).trans A2.out)
    clear k r
    go_wp2_with fail
    refine (nextL_cons R3.out).mono ?_
    rintro e W4 ⟨rfl, k, r⟩
    have K4 := Lib.hid (K3.out.trans k (fun _ _ f => f) (fun _ _ f => f) : Kept (fun k => k = p) w W4)
    have R4 := Lib.hid r
    have A4 := Lib.hid ((k.block g (blk_lt A3.out) NE.out).trans A3.out)
    clear k r
    go_wp2_with fail
    refine (nextL_cons R4.out).mono ?_
    rintro e W5 ⟨rfl, k, r⟩
    have K5 := Lib.hid (K4.out.trans k (fun _ _ f => f) (fun _ _ f => f) : Kept (fun k => k = p) w W5)
    have R5 := Lib.hid r
    have A5 := Lib.hid ((k.block g (blk_lt A4.out) NE.out).trans A4.out)
    clear k r
    go_wp2_with fail
    refine (intL_cons R5.out H4.out (TT.out _ K5.out) P5.out).mono ?_
    rintro e W6 ⟨rfl, k, r⟩
    have K6 := Lib.hid (K5.out.trans k (fun _ _ f => f) (fun _ _ f => f) : Kept (fun k => k = p) w W6)
    have R6 := Lib.hid r
    have A6 := Lib.hid ((k.block g (blk_lt A5.out) NE.out).trans A5.out)
    clear k r
    go_wp2_with fail
    refine (intL_cons R6.out H5.out (TT.out _ K6.out) P5.out).mono ?_
    rintro e W7 ⟨rfl, k, r⟩
    have K7 := Lib.hid (K6.out.trans k (fun _ _ f => f) (fun _ _ f => f) : Kept (fun k => k = p) w W7)
    have R7 := Lib.hid r
    have A7 := Lib.hid ((k.block g (blk_lt A6.out) NE.out).trans A6.out)
    clear k r
    go_wp2_with fail
    refine (nextL_cons R7.out).mono ?_
    rintro e W8 ⟨rfl, k, r⟩
    have K8 := Lib.hid (K7.out.trans k (fun _ _ f => f) (fun _ _ f => f) : Kept (fun k => k = p) w W8)
    have R8 := Lib.hid r
    have A8 := Lib.hid ((k.block g (blk_lt A7.out) NE.out).trans A7.out)
    clear k r
    have q := blk_lt A8.out
    have fz0 := blk_free A8.out 0
    have zz0 : W8.cell? ⟨g, 0, none⟩ = some (.int .i64 0) := blk_cell A8.out 0
    have fz1 := blk_free A8.out 1
    have zz1 : W8.cell? ⟨g, 1, none⟩ = some (.int .i64 0) := blk_cell A8.out 1
    have fz2 := blk_free A8.out 2
    have zz2 : W8.cell? ⟨g, 2, none⟩ = some (.int .i64 0) := blk_cell A8.out 2
    have fz3 := blk_free A8.out 3
    have zz3 : W8.cell? ⟨g, 3, none⟩ = some (.string ⟨#[]⟩) := blk_cell A8.out 3
    have fz4 := blk_free A8.out 4
    have zz4 : W8.cell? ⟨g, 4, none⟩ = some (.string ⟨#[]⟩) := blk_cell A8.out 4
    have fz5 := blk_free A8.out 5
    have zz5 : W8.cell? ⟨g, 5, none⟩ = some (.int .i64 0) := blk_cell A8.out 5
    have fz6 := blk_free A8.out 6
    have zz6 : W8.cell? ⟨g, 6, none⟩ = some (.int .i64 0) := blk_cell A8.out 6
    have fz7 := blk_free A8.out 7
    have zz7 : W8.cell? ⟨g, 7, none⟩ = some (.string ⟨#[]⟩) := blk_cell A8.out 7
    go_wp2_with fail
    (try simp only [Exit.inBlock, Exit.then])
    refine bodyPost_ret (v := Spn.val _) ?_ rfl ⟨rfl, ?_, ?_⟩
    · rw [res_cell1 rfl]
      go_simp
      rfl
    · have hlt : ¬ g < w.heap.size := by have := HG.out; omega
      iterate 8 refine Kept.setAt (fun hl => absurd hl hlt) ?_
      exact K8.out
    · refine R8.out.kept (S := fun k => k = g) ?_ (fun e => NE.out e.symm)
      iterate 8 refine Kept.setAt (fun _ => rfl) ?_
      exact Kept.refl _ _
end Go.Proofs.YtelhdbkkigehgaaGreatDoor

/- Whether one span, one step is beyond: by its texts' lengths and its list's. -/
namespace Go.Proofs.YtelhdbkkigehgaaGreatDoor
open Go.RowKit

def beyS (m : Spn) : Bool := decide ((100 : Int) < (m.se.size : Int)) || decide ((100 : Int) < (m.ho.size : Int)) || decide ((100 : Int) < (m.no.size : Int))

set_option maxHeartbeats 1000000 in
set_option maxRecDepth 100000 in
theorem beyond1 {w : World} {m : Spn} {g o cap : Nat} (c3 : w.cell? ⟨g, o + 3, none⟩ = some (.string m.se)) (c4 : w.cell? ⟨g, o + 4, none⟩ = some (.string m.ho)) (c7 : w.cell? ⟨g, o + 7, none⟩ = some (.string m.no)) :
    Calls Tryz.prog 19 #[.slice (some ⟨g, o, none⟩) 1 cap, .int .i64 1] w fun e w' => e = .returned (.bool (beyS m)) ∧ w = w' := by
  unfold beyS
  by_cases g1 : (100 : Int) < (m.se.size : Int)
  · go_enter Tryz.func19, Tryz.ntmps19
    go_wp2
    apply wp_loop_once
    go_wp2
    go_ret
    exact ⟨by simp [g1], rfl⟩
  · by_cases g2 : (100 : Int) < (m.ho.size : Int)
    · go_enter Tryz.func19, Tryz.ntmps19
      go_wp2
      apply wp_loop_once
      go_wp2
      go_ret
      exact ⟨by simp [g2], rfl⟩
    · by_cases g3 : (100 : Int) < (m.no.size : Int)
      · go_enter Tryz.func19, Tryz.ntmps19
        go_wp2
        apply wp_loop_once
        go_wp2
        go_ret
        exact ⟨by simp [g3], rfl⟩
      · go_enter Tryz.func19, Tryz.ntmps19
        go_wp2
        go_loopg [5] 1 (fun gh t wr => ((t = .int .i64 0 ∧ gh = 1) ∨ (t = .int .i64 1 ∧ gh = 0)) ∧ wr = w)
        case atStart => exact ⟨.inl ⟨rfl, rfl⟩, rfl⟩
        case round =>
          obtain ⟨hq, rfl⟩ := hrel
          rcases hq with ⟨rfl, rfl⟩ | ⟨rfl, rfl⟩
          · go_wp2
            go_roundg 0
            case measure => omega
            case rel => exact ⟨.inr ⟨rfl, rfl⟩, rfl⟩
          · go_wp2
            go_ret
            exact ⟨by simp [g1, g2, g3], rfl⟩

structure Stp where
  ki : Int
  nd : Int
  nn : Int
  sp : Spn
  ka : Option Addr
  kl : Nat
  kc : Nat
def Stp.cells (m : Stp) : List Value := [.int .i64 m.ki, .int .i64 m.nd, .int .i64 m.nn] ++ m.sp.cells ++ [.slice m.ka m.kl m.kc]
def beyX (m : Stp) : Bool := decide ((20 : Int) < (m.kl : Int)) || beyS m.sp

set_option maxHeartbeats 1000000 in
set_option maxRecDepth 100000 in
theorem beyond8 {w : World} {m : Stp} {g o cap : Nat} (hc : ∀ j u, m.cells[j]? = some u → w.cell? ⟨g, o + j, none⟩ = some u) :
    Calls Tryz.prog 8 #[.slice (some ⟨g, o, none⟩) 1 cap, .int .i64 1] w fun e w' => e = .returned (.bool (beyX m)) ∧ Kept (fun _ => False) w w' := by
  have c11 := hc 11 _ rfl
  have c3 : w.cell? ⟨g, o + 3, none⟩ = some (.int .i64 m.sp.tr) := hc 3 _ rfl
  have c4 : w.cell? ⟨g, o + 3 + 1, none⟩ = some (.int .i64 m.sp.id) := hc 4 _ rfl
  have c5 : w.cell? ⟨g, o + 3 + 2, none⟩ = some (.int .i64 m.sp.pa) := hc 5 _ rfl
  have c6 : w.cell? ⟨g, o + 3 + 3, none⟩ = some (.string m.sp.se) := hc 6 _ rfl
  have c7 : w.cell? ⟨g, o + 3 + 4, none⟩ = some (.string m.sp.ho) := hc 7 _ rfl
  have c8 : w.cell? ⟨g, o + 3 + 5, none⟩ = some (.int .i64 m.sp.st) := hc 8 _ rfl
  have c9 : w.cell? ⟨g, o + 3 + 6, none⟩ = some (.int .i64 m.sp.du) := hc 9 _ rfl
  have c10 : w.cell? ⟨g, o + 3 + 7, none⟩ = some (.string m.sp.no) := hc 10 _ rfl
  clear hc
  unfold beyX
  obtain ⟨B, hB⟩ : ∃ B, beyS m.sp = B := ⟨_, rfl⟩
  rw [hB]
  by_cases g1 : (20 : Int) < (m.kl : Int)
  · go_enter Tryz.func8, Tryz.ntmps8
    go_wp2
    apply wp_loop_once
    go_wp2
    go_ret
    exact ⟨by simp [g1], Kept.refl _ _⟩
  · cases B
    · go_enter Tryz.func8, Tryz.ntmps8
      go_wp2
      go_loopg [5] 1 (fun gh t wr => (t = .int .i64 0 ∧ gh = 1 ∧ wr = w) ∨ (t = .int .i64 1 ∧ gh = 0 ∧ Kept (fun _ => False) w wr))
      case atStart => exact .inl ⟨rfl, rfl, rfl⟩
      case round =>
        rcases hrel with ⟨rfl, rfl, rfl⟩ | ⟨rfl, rfl, hK⟩
        · go_wp2_with (go_at_call 19; refine (beyond1 (m := m.sp) (World.cell?_alloc_at _ _ _ _ rfl) (World.cell?_alloc_at _ _ _ _ rfl) (World.cell?_alloc_at _ _ _ _ rfl)).mono ?_; rintro e w4 ⟨rfl, rfl⟩; rw [hB])
          go_roundg 0
          case measure => omega
          case rel => exact .inr ⟨rfl, rfl, (Kept.refl _ _).alloc _⟩
        · go_wp2
          go_ret
          exact ⟨by simp [g1], hK⟩
    · go_enter Tryz.func8, Tryz.ntmps8
      go_wp2
      apply wp_loop_once
      go_wp2_with (go_at_call 19; refine (beyond1 (m := m.sp) (World.cell?_alloc_at _ _ _ _ rfl) (World.cell?_alloc_at _ _ _ _ rfl) (World.cell?_alloc_at _ _ _ _ rfl)).mono ?_; rintro e w4 ⟨rfl, rfl⟩; rw [hB])
      go_ret
      exact ⟨by simp, (Kept.refl _ _).alloc _⟩
end Go.Proofs.YtelhdbkkigehgaaGreatDoor

/- The chapter's step behind its word. (Printed by gen_stepl.py.) -/
namespace Go.Proofs.YtelhdbkkigehgaaGreatDoor
open Go.RowKit

def Stp.val (m : Stp) : Value := .agg m.cells.toArray
def spZ : Spn := ⟨0, 0, 0, ⟨#[]⟩, ⟨#[]⟩, 0, 0, ⟨#[]⟩⟩
/-- Numbers, as they can be read, in blocks from b on. -/
def KeepR (w : World) (b : Nat) (v : Value) (ks : List Int) : Prop := ∃ ao cap, v = .slice ao ks.length cap ∧ (ks = [] ∨ ∃ g o, ao = some ⟨g, o, none⟩ ∧ b ≤ g ∧ ∀ j n, ks[j]? = some n → w.cell? ⟨g, o + j, none⟩ = some (.int .i64 n))
theorem KeepR.kept {S : Nat → Prop} {w w' : World} {b : Nat} {v : Value} {ks : List Int} (h : KeepR w b v ks) (hK : Kept S w w') (hS : ∀ k, b ≤ k → ¬ S k) : KeepR w' b v ks := by
  obtain ⟨ao, cap, hv, h⟩ := h
  refine ⟨ao, cap, hv, ?_⟩
  rcases h with h | ⟨g, o, ha, hb, hc⟩
  · exact .inl h
  · exact .inr ⟨g, o, ha, hb, fun j n hn => hK.cell (hc j n hn) (hS g hb)⟩
theorem KeepR.low {w : World} {b c : Nat} {v : Value} {ks : List Int} (h : KeepR w b v ks) (hc : c ≤ b) : KeepR w c v ks := by
  obtain ⟨ao, cap, hv, h⟩ := h
  refine ⟨ao, cap, hv, ?_⟩
  rcases h with h | ⟨g, o, ha, hb, hr⟩
  · exact .inl h
  · exact .inr ⟨g, o, ha, Nat.le_trans hc hb, hr⟩
theorem keep_of {w : World} {b : Nat} {v : Value} {ks : List Int} (h : IntsR w b v ks) : KeepR w b v ks := by
  obtain ⟨_, h⟩ := h
  rcases h with ⟨rfl, h0⟩ | ⟨g, cap, cur, rfl, hb, hg, h1, _, h2, h3⟩
  · have : ks = [] := List.eq_nil_of_length_eq_zero h0
    subst this
    exact ⟨none, 0, rfl, .inl rfl⟩
  · refine ⟨_, cap, rfl, .inr ⟨g, 0, rfl, hb, fun j n hn => ?_⟩⟩
    have hj := (List.getElem?_eq_some_iff.1 hn).1
    have h4 : (cur.toList.take (ks.length * 1))[j]? = some (.int .i64 n) := by rw [h3, List.getElem?_map, hn]; rfl
    rw [List.getElem?_take, if_pos (by omega)] at h4
    unfold World.cell?
    rw [hg]
    simpa using h4
/-- A step, as a value, its numbers in blocks from b on. -/
def StepIs (w : World) (b : Nat) (v : Value) (ki nd nn : Int) (sp : Spn) (ks : List Int) : Prop := ∃ ka kc, v = Stp.val ⟨ki, nd, nn, sp, ka, ks.length, kc⟩ ∧ KeepR w b (.slice ka ks.length kc) ks
theorem StepIs.none {w : World} {b : Nat} {ki nd nn : Int} {sp : Spn} : StepIs w b (Stp.val ⟨ki, nd, nn, sp, .none, 0, 0⟩) ki nd nn sp [] := ⟨.none, 0, rfl, .none, 0, rfl, .inl rfl⟩
theorem blk_set {w : World} {g : Nat} {cs : Array Value} {t : TypeId} (h : w.heap[g]? = some (.cells cs t (0, 0))) (j : Nat) (u : Value) : (w.setCell ⟨g, j, none⟩ u).heap[g]? = some (.cells (cs.setIfInBounds j u) t (0, 0)) := by simp [World.setCell, Array.getElem?_modify, h]
theorem blk_off {w : World} {g q : Nat} {o : Obj} (h : w.heap[g]? = some o) (j : Nat) (u : Value) (hne : q ≠ g) : (w.setCell ⟨q, j, none⟩ u).heap[g]? = some o := by simp [World.setCell, Array.getElem?_modify, hne, h]
abbrev zCells : Array Value := #[.int .i64 0, .int .i64 0, .int .i64 0, .int .i64 0, .int .i64 0, .int .i64 0, .string ⟨#[]⟩, .string ⟨#[]⟩, .int .i64 0, .int .i64 0, .string ⟨#[]⟩, .slice none 0 0]
end Go.Proofs.YtelhdbkkigehgaaGreatDoor

/- The chapter's step behind its word, some words. (Printed by gen_stepl.py.) -/
namespace Go.Proofs.YtelhdbkkigehgaaGreatDoor
open Go.RowKit

set_option maxHeartbeats 4000000 in
set_option maxRecDepth 100000 in
theorem step_sync {w : World} {p : Nat} {x : ByteArray} {n : Int} (h : SrcL w p [x] false) (hx : Says x n) (T : Tab w) (hp : p ≠ 5) :
    Calls Tryz.prog 24 #[.pointer (some ⟨p, 0, none⟩), .string ⟨#[115, 121, 110, 99]⟩] w fun e w' => (∃ v, e = .returned v ∧ StepIs w' w.heap.size v 2 n 0 spZ []) ∧ Kept (fun k => k = p) w w' ∧ SrcL w' p [] false := by
  have PL := Lib.hid h.lt
  have P5 := Lib.hid hp
  obtain ⟨g, hg⟩ : ∃ g, w.heap.size = g := ⟨_, rfl⟩
  have HG := Lib.hid hg
  obtain ⟨W0, hW0⟩ : ∃ W, (w.alloc (Obj.cells zCells 38)).alloc (Obj.cells zCells 38) = W := ⟨_, rfl⟩
  have k0 : Kept (fun k => k = p) w W0 := by rw [← hW0]; exact ((Kept.refl _ _).alloc _).alloc _
  have r0 : SrcL W0 p [x] false := by rw [← hW0]; exact h.kept (((Kept.refl (fun _ => False) _).alloc _).alloc _) (fun f => f)
  have a0 : W0.heap[g]? = some (Obj.cells zCells 38 (0, 0)) := by rw [← hW0, ← hg]; exact heap_first w _ _
  have b0 : W0.heap[g + 1]? = some (Obj.cells zCells 38 (0, 0)) := by rw [← hW0, ← hg]; exact heap_second w _ _
  have NE := Lib.hid (show g ≠ p from by have := PL.out; omega)
  have NF := Lib.hid (show g + 1 ≠ p from by have := PL.out; omega)
  have K0 := Lib.hid k0; have R0 := Lib.hid r0; have A0 := Lib.hid a0; have B0 := Lib.hid b0
  have TT := Lib.hid (fun (W : World) (K : Kept (fun k => k = p) w W) => T.kept K (fun e => P5.out e.symm))
  have LT := Lib.hid (show ∀ q, g ≤ q → ¬ q < w.heap.size from fun q h1 => by omega)
  have HX := Lib.hid hx
  clear h T hp k0 r0 a0 b0 hx
  unfold zCells at hW0
  go_enter Tryz.func24, Tryz.ntmps24
  go_wp2_with fail
  clear hW0 hg
  refine (intL_cons R0.out HX.out (TT.out _ K0.out) P5.out).mono ?_
  rintro e W1 ⟨rfl, k, r⟩
  have K1 := Lib.hid (Kept.trans K0.out k (fun _ _ f => f) (fun _ _ f => f) : Kept (fun k => k = p) w W1)
  have R1 := Lib.hid r
  have A1 := Lib.hid ((k.block g (blk_lt A0.out) NE.out).trans A0.out)
  have B1 := Lib.hid ((k.block (g + 1) (blk_lt B0.out) NF.out).trans B0.out)
  clear k r
  have q := blk_lt B1.out
  have zz0 : W1.cell? ⟨g + 1, 0, none⟩ = some (.int .i64 0) := blk_cell B1.out 0
  have zz1 : W1.cell? ⟨g + 1, 1, none⟩ = some (.int .i64 0) := blk_cell B1.out 1
  have zz2 : W1.cell? ⟨g + 1, 2, none⟩ = some (.int .i64 0) := blk_cell B1.out 2
  have zz3 : W1.cell? ⟨g + 1, 3, none⟩ = some (.int .i64 0) := blk_cell B1.out 3
  have zz4 : W1.cell? ⟨g + 1, 4, none⟩ = some (.int .i64 0) := blk_cell B1.out 4
  have zz5 : W1.cell? ⟨g + 1, 5, none⟩ = some (.int .i64 0) := blk_cell B1.out 5
  have zz6 : W1.cell? ⟨g + 1, 6, none⟩ = some (.string ⟨#[]⟩) := blk_cell B1.out 6
  have zz7 : W1.cell? ⟨g + 1, 7, none⟩ = some (.string ⟨#[]⟩) := blk_cell B1.out 7
  have zz8 : W1.cell? ⟨g + 1, 8, none⟩ = some (.int .i64 0) := blk_cell B1.out 8
  have zz9 : W1.cell? ⟨g + 1, 9, none⟩ = some (.int .i64 0) := blk_cell B1.out 9
  have zz10 : W1.cell? ⟨g + 1, 10, none⟩ = some (.string ⟨#[]⟩) := blk_cell B1.out 10
  have zz11 : W1.cell? ⟨g + 1, 11, none⟩ = some (.slice none 0 0) := blk_cell B1.out 11
  have fz0 := blk_free B1.out 0
  have fz1 := blk_free B1.out 1
  have qa := blk_lt A1.out
  have za0 : W1.cell? ⟨g, 0, none⟩ = some (.int .i64 0) := blk_cell A1.out 0
  have fa0 := blk_free A1.out 0
  have za1 : W1.cell? ⟨g, 1, none⟩ = some (.int .i64 0) := blk_cell A1.out 1
  have fa1 := blk_free A1.out 1
  have za2 : W1.cell? ⟨g, 2, none⟩ = some (.int .i64 0) := blk_cell A1.out 2
  have fa2 := blk_free A1.out 2
  have za3 : W1.cell? ⟨g, 3, none⟩ = some (.int .i64 0) := blk_cell A1.out 3
  have fa3 := blk_free A1.out 3
  have za4 : W1.cell? ⟨g, 4, none⟩ = some (.int .i64 0) := blk_cell A1.out 4
  have fa4 := blk_free A1.out 4
  have za5 : W1.cell? ⟨g, 5, none⟩ = some (.int .i64 0) := blk_cell A1.out 5
  have fa5 := blk_free A1.out 5
  have za6 : W1.cell? ⟨g, 6, none⟩ = some (.string ⟨#[]⟩) := blk_cell A1.out 6
  have fa6 := blk_free A1.out 6
  have za7 : W1.cell? ⟨g, 7, none⟩ = some (.string ⟨#[]⟩) := blk_cell A1.out 7
  have fa7 := blk_free A1.out 7
  have za8 : W1.cell? ⟨g, 8, none⟩ = some (.int .i64 0) := blk_cell A1.out 8
  have fa8 := blk_free A1.out 8
  have za9 : W1.cell? ⟨g, 9, none⟩ = some (.int .i64 0) := blk_cell A1.out 9
  have fa9 := blk_free A1.out 9
  have za10 : W1.cell? ⟨g, 10, none⟩ = some (.string ⟨#[]⟩) := blk_cell A1.out 10
  have fa10 := blk_free A1.out 10
  have za11 : W1.cell? ⟨g, 11, none⟩ = some (.slice none 0 0) := blk_cell A1.out 11
  have fa11 := blk_free A1.out 11
  go_wp2_with fail
  (try simp only [Exit.inBlock, Exit.then])
  refine bodyPost_ret (v := Stp.val ⟨2, n, 0, spZ, none, 0, 0⟩) ?_ rfl ⟨⟨_, rfl, StepIs.none⟩, ?_, ?_⟩
  · rw [res_cell1 rfl]
    go_simp
    rfl
  · iterate 14 refine Kept.setAt (fun hl => absurd hl (LT.out _ (by omega))) ?_
    exact K1.out
  · refine R1.out.kept (S := fun k => k = g ∨ k = g + 1) ?_ (fun e => by have := NE.out; have := NF.out; omega)
    iterate 12 refine Kept.setAt (fun _ => .inl rfl) ?_
    refine Kept.setAt (fun _ => .inr rfl) ?_
    refine Kept.setAt (fun _ => .inr rfl) ?_
    exact Kept.refl _ _
set_option maxHeartbeats 4000000 in
set_option maxRecDepth 100000 in
theorem step_rotate {w : World} {p : Nat} {x : ByteArray} {n : Int} (h : SrcL w p [x] false) (hx : Says x n) (T : Tab w) (hp : p ≠ 5) :
    Calls Tryz.prog 24 #[.pointer (some ⟨p, 0, none⟩), .string ⟨#[114, 111, 116, 97, 116, 101]⟩] w fun e w' => (∃ v, e = .returned v ∧ StepIs w' w.heap.size v 3 n 0 spZ []) ∧ Kept (fun k => k = p) w w' ∧ SrcL w' p [] false := by
  have PL := Lib.hid h.lt
  have P5 := Lib.hid hp
  obtain ⟨g, hg⟩ : ∃ g, w.heap.size = g := ⟨_, rfl⟩
  have HG := Lib.hid hg
  obtain ⟨W0, hW0⟩ : ∃ W, (w.alloc (Obj.cells zCells 38)).alloc (Obj.cells zCells 38) = W := ⟨_, rfl⟩
  have k0 : Kept (fun k => k = p) w W0 := by rw [← hW0]; exact ((Kept.refl _ _).alloc _).alloc _
  have r0 : SrcL W0 p [x] false := by rw [← hW0]; exact h.kept (((Kept.refl (fun _ => False) _).alloc _).alloc _) (fun f => f)
  have a0 : W0.heap[g]? = some (Obj.cells zCells 38 (0, 0)) := by rw [← hW0, ← hg]; exact heap_first w _ _
  have b0 : W0.heap[g + 1]? = some (Obj.cells zCells 38 (0, 0)) := by rw [← hW0, ← hg]; exact heap_second w _ _
  have NE := Lib.hid (show g ≠ p from by have := PL.out; omega)
  have NF := Lib.hid (show g + 1 ≠ p from by have := PL.out; omega)
  have K0 := Lib.hid k0; have R0 := Lib.hid r0; have A0 := Lib.hid a0; have B0 := Lib.hid b0
  have TT := Lib.hid (fun (W : World) (K : Kept (fun k => k = p) w W) => T.kept K (fun e => P5.out e.symm))
  have LT := Lib.hid (show ∀ q, g ≤ q → ¬ q < w.heap.size from fun q h1 => by omega)
  have HX := Lib.hid hx
  clear h T hp k0 r0 a0 b0 hx
  unfold zCells at hW0
  go_enter Tryz.func24, Tryz.ntmps24
  go_wp2_with fail
  clear hW0 hg
  refine (intL_cons R0.out HX.out (TT.out _ K0.out) P5.out).mono ?_
  rintro e W1 ⟨rfl, k, r⟩
  have K1 := Lib.hid (Kept.trans K0.out k (fun _ _ f => f) (fun _ _ f => f) : Kept (fun k => k = p) w W1)
  have R1 := Lib.hid r
  have A1 := Lib.hid ((k.block g (blk_lt A0.out) NE.out).trans A0.out)
  have B1 := Lib.hid ((k.block (g + 1) (blk_lt B0.out) NF.out).trans B0.out)
  clear k r
  have q := blk_lt B1.out
  have zz0 : W1.cell? ⟨g + 1, 0, none⟩ = some (.int .i64 0) := blk_cell B1.out 0
  have zz1 : W1.cell? ⟨g + 1, 1, none⟩ = some (.int .i64 0) := blk_cell B1.out 1
  have zz2 : W1.cell? ⟨g + 1, 2, none⟩ = some (.int .i64 0) := blk_cell B1.out 2
  have zz3 : W1.cell? ⟨g + 1, 3, none⟩ = some (.int .i64 0) := blk_cell B1.out 3
  have zz4 : W1.cell? ⟨g + 1, 4, none⟩ = some (.int .i64 0) := blk_cell B1.out 4
  have zz5 : W1.cell? ⟨g + 1, 5, none⟩ = some (.int .i64 0) := blk_cell B1.out 5
  have zz6 : W1.cell? ⟨g + 1, 6, none⟩ = some (.string ⟨#[]⟩) := blk_cell B1.out 6
  have zz7 : W1.cell? ⟨g + 1, 7, none⟩ = some (.string ⟨#[]⟩) := blk_cell B1.out 7
  have zz8 : W1.cell? ⟨g + 1, 8, none⟩ = some (.int .i64 0) := blk_cell B1.out 8
  have zz9 : W1.cell? ⟨g + 1, 9, none⟩ = some (.int .i64 0) := blk_cell B1.out 9
  have zz10 : W1.cell? ⟨g + 1, 10, none⟩ = some (.string ⟨#[]⟩) := blk_cell B1.out 10
  have zz11 : W1.cell? ⟨g + 1, 11, none⟩ = some (.slice none 0 0) := blk_cell B1.out 11
  have fz0 := blk_free B1.out 0
  have fz1 := blk_free B1.out 1
  have qa := blk_lt A1.out
  have za0 : W1.cell? ⟨g, 0, none⟩ = some (.int .i64 0) := blk_cell A1.out 0
  have fa0 := blk_free A1.out 0
  have za1 : W1.cell? ⟨g, 1, none⟩ = some (.int .i64 0) := blk_cell A1.out 1
  have fa1 := blk_free A1.out 1
  have za2 : W1.cell? ⟨g, 2, none⟩ = some (.int .i64 0) := blk_cell A1.out 2
  have fa2 := blk_free A1.out 2
  have za3 : W1.cell? ⟨g, 3, none⟩ = some (.int .i64 0) := blk_cell A1.out 3
  have fa3 := blk_free A1.out 3
  have za4 : W1.cell? ⟨g, 4, none⟩ = some (.int .i64 0) := blk_cell A1.out 4
  have fa4 := blk_free A1.out 4
  have za5 : W1.cell? ⟨g, 5, none⟩ = some (.int .i64 0) := blk_cell A1.out 5
  have fa5 := blk_free A1.out 5
  have za6 : W1.cell? ⟨g, 6, none⟩ = some (.string ⟨#[]⟩) := blk_cell A1.out 6
  have fa6 := blk_free A1.out 6
  have za7 : W1.cell? ⟨g, 7, none⟩ = some (.string ⟨#[]⟩) := blk_cell A1.out 7
  have fa7 := blk_free A1.out 7
  have za8 : W1.cell? ⟨g, 8, none⟩ = some (.int .i64 0) := blk_cell A1.out 8
  have fa8 := blk_free A1.out 8
  have za9 : W1.cell? ⟨g, 9, none⟩ = some (.int .i64 0) := blk_cell A1.out 9
  have fa9 := blk_free A1.out 9
  have za10 : W1.cell? ⟨g, 10, none⟩ = some (.string ⟨#[]⟩) := blk_cell A1.out 10
  have fa10 := blk_free A1.out 10
  have za11 : W1.cell? ⟨g, 11, none⟩ = some (.slice none 0 0) := blk_cell A1.out 11
  have fa11 := blk_free A1.out 11
  go_wp2_with fail
  (try simp only [Exit.inBlock, Exit.then])
  refine bodyPost_ret (v := Stp.val ⟨3, n, 0, spZ, none, 0, 0⟩) ?_ rfl ⟨⟨_, rfl, StepIs.none⟩, ?_, ?_⟩
  · rw [res_cell1 rfl]
    go_simp
    rfl
  · iterate 14 refine Kept.setAt (fun hl => absurd hl (LT.out _ (by omega))) ?_
    exact K1.out
  · refine R1.out.kept (S := fun k => k = g ∨ k = g + 1) ?_ (fun e => by have := NE.out; have := NF.out; omega)
    iterate 12 refine Kept.setAt (fun _ => .inl rfl) ?_
    refine Kept.setAt (fun _ => .inr rfl) ?_
    refine Kept.setAt (fun _ => .inr rfl) ?_
    exact Kept.refl _ _
set_option maxHeartbeats 4000000 in
set_option maxRecDepth 100000 in
theorem step_daemon {w : World} {p : Nat} {x : ByteArray} {n : Int} (h : SrcL w p [x] false) (hx : Says x n) (T : Tab w) (hp : p ≠ 5) :
    Calls Tryz.prog 24 #[.pointer (some ⟨p, 0, none⟩), .string ⟨#[100, 97, 101, 109, 111, 110]⟩] w fun e w' => (∃ v, e = .returned v ∧ StepIs w' w.heap.size v 5 n 0 spZ []) ∧ Kept (fun k => k = p) w w' ∧ SrcL w' p [] false := by
  have PL := Lib.hid h.lt
  have P5 := Lib.hid hp
  obtain ⟨g, hg⟩ : ∃ g, w.heap.size = g := ⟨_, rfl⟩
  have HG := Lib.hid hg
  obtain ⟨W0, hW0⟩ : ∃ W, (w.alloc (Obj.cells zCells 38)).alloc (Obj.cells zCells 38) = W := ⟨_, rfl⟩
  have k0 : Kept (fun k => k = p) w W0 := by rw [← hW0]; exact ((Kept.refl _ _).alloc _).alloc _
  have r0 : SrcL W0 p [x] false := by rw [← hW0]; exact h.kept (((Kept.refl (fun _ => False) _).alloc _).alloc _) (fun f => f)
  have a0 : W0.heap[g]? = some (Obj.cells zCells 38 (0, 0)) := by rw [← hW0, ← hg]; exact heap_first w _ _
  have b0 : W0.heap[g + 1]? = some (Obj.cells zCells 38 (0, 0)) := by rw [← hW0, ← hg]; exact heap_second w _ _
  have NE := Lib.hid (show g ≠ p from by have := PL.out; omega)
  have NF := Lib.hid (show g + 1 ≠ p from by have := PL.out; omega)
  have K0 := Lib.hid k0; have R0 := Lib.hid r0; have A0 := Lib.hid a0; have B0 := Lib.hid b0
  have TT := Lib.hid (fun (W : World) (K : Kept (fun k => k = p) w W) => T.kept K (fun e => P5.out e.symm))
  have LT := Lib.hid (show ∀ q, g ≤ q → ¬ q < w.heap.size from fun q h1 => by omega)
  have HX := Lib.hid hx
  clear h T hp k0 r0 a0 b0 hx
  unfold zCells at hW0
  go_enter Tryz.func24, Tryz.ntmps24
  go_wp2_with fail
  clear hW0 hg
  refine (intL_cons R0.out HX.out (TT.out _ K0.out) P5.out).mono ?_
  rintro e W1 ⟨rfl, k, r⟩
  have K1 := Lib.hid (Kept.trans K0.out k (fun _ _ f => f) (fun _ _ f => f) : Kept (fun k => k = p) w W1)
  have R1 := Lib.hid r
  have A1 := Lib.hid ((k.block g (blk_lt A0.out) NE.out).trans A0.out)
  have B1 := Lib.hid ((k.block (g + 1) (blk_lt B0.out) NF.out).trans B0.out)
  clear k r
  have q := blk_lt B1.out
  have zz0 : W1.cell? ⟨g + 1, 0, none⟩ = some (.int .i64 0) := blk_cell B1.out 0
  have zz1 : W1.cell? ⟨g + 1, 1, none⟩ = some (.int .i64 0) := blk_cell B1.out 1
  have zz2 : W1.cell? ⟨g + 1, 2, none⟩ = some (.int .i64 0) := blk_cell B1.out 2
  have zz3 : W1.cell? ⟨g + 1, 3, none⟩ = some (.int .i64 0) := blk_cell B1.out 3
  have zz4 : W1.cell? ⟨g + 1, 4, none⟩ = some (.int .i64 0) := blk_cell B1.out 4
  have zz5 : W1.cell? ⟨g + 1, 5, none⟩ = some (.int .i64 0) := blk_cell B1.out 5
  have zz6 : W1.cell? ⟨g + 1, 6, none⟩ = some (.string ⟨#[]⟩) := blk_cell B1.out 6
  have zz7 : W1.cell? ⟨g + 1, 7, none⟩ = some (.string ⟨#[]⟩) := blk_cell B1.out 7
  have zz8 : W1.cell? ⟨g + 1, 8, none⟩ = some (.int .i64 0) := blk_cell B1.out 8
  have zz9 : W1.cell? ⟨g + 1, 9, none⟩ = some (.int .i64 0) := blk_cell B1.out 9
  have zz10 : W1.cell? ⟨g + 1, 10, none⟩ = some (.string ⟨#[]⟩) := blk_cell B1.out 10
  have zz11 : W1.cell? ⟨g + 1, 11, none⟩ = some (.slice none 0 0) := blk_cell B1.out 11
  have fz0 := blk_free B1.out 0
  have fz1 := blk_free B1.out 1
  have qa := blk_lt A1.out
  have za0 : W1.cell? ⟨g, 0, none⟩ = some (.int .i64 0) := blk_cell A1.out 0
  have fa0 := blk_free A1.out 0
  have za1 : W1.cell? ⟨g, 1, none⟩ = some (.int .i64 0) := blk_cell A1.out 1
  have fa1 := blk_free A1.out 1
  have za2 : W1.cell? ⟨g, 2, none⟩ = some (.int .i64 0) := blk_cell A1.out 2
  have fa2 := blk_free A1.out 2
  have za3 : W1.cell? ⟨g, 3, none⟩ = some (.int .i64 0) := blk_cell A1.out 3
  have fa3 := blk_free A1.out 3
  have za4 : W1.cell? ⟨g, 4, none⟩ = some (.int .i64 0) := blk_cell A1.out 4
  have fa4 := blk_free A1.out 4
  have za5 : W1.cell? ⟨g, 5, none⟩ = some (.int .i64 0) := blk_cell A1.out 5
  have fa5 := blk_free A1.out 5
  have za6 : W1.cell? ⟨g, 6, none⟩ = some (.string ⟨#[]⟩) := blk_cell A1.out 6
  have fa6 := blk_free A1.out 6
  have za7 : W1.cell? ⟨g, 7, none⟩ = some (.string ⟨#[]⟩) := blk_cell A1.out 7
  have fa7 := blk_free A1.out 7
  have za8 : W1.cell? ⟨g, 8, none⟩ = some (.int .i64 0) := blk_cell A1.out 8
  have fa8 := blk_free A1.out 8
  have za9 : W1.cell? ⟨g, 9, none⟩ = some (.int .i64 0) := blk_cell A1.out 9
  have fa9 := blk_free A1.out 9
  have za10 : W1.cell? ⟨g, 10, none⟩ = some (.string ⟨#[]⟩) := blk_cell A1.out 10
  have fa10 := blk_free A1.out 10
  have za11 : W1.cell? ⟨g, 11, none⟩ = some (.slice none 0 0) := blk_cell A1.out 11
  have fa11 := blk_free A1.out 11
  go_wp2_with fail
  (try simp only [Exit.inBlock, Exit.then])
  refine bodyPost_ret (v := Stp.val ⟨5, n, 0, spZ, none, 0, 0⟩) ?_ rfl ⟨⟨_, rfl, StepIs.none⟩, ?_, ?_⟩
  · rw [res_cell1 rfl]
    go_simp
    rfl
  · iterate 14 refine Kept.setAt (fun hl => absurd hl (LT.out _ (by omega))) ?_
    exact K1.out
  · refine R1.out.kept (S := fun k => k = g ∨ k = g + 1) ?_ (fun e => by have := NE.out; have := NF.out; omega)
    iterate 12 refine Kept.setAt (fun _ => .inl rfl) ?_
    refine Kept.setAt (fun _ => .inr rfl) ?_
    refine Kept.setAt (fun _ => .inr rfl) ?_
    exact Kept.refl _ _
set_option maxHeartbeats 4000000 in
set_option maxRecDepth 100000 in
theorem step_tick {w : World} {p : Nat} {x : ByteArray} {n : Int} (h : SrcL w p [x] false) (hx : Says x n) (T : Tab w) (hp : p ≠ 5) :
    Calls Tryz.prog 24 #[.pointer (some ⟨p, 0, none⟩), .string ⟨#[116, 105, 99, 107]⟩] w fun e w' => (∃ v, e = .returned v ∧ StepIs w' w.heap.size v 6 n 0 spZ []) ∧ Kept (fun k => k = p) w w' ∧ SrcL w' p [] false := by
  have PL := Lib.hid h.lt
  have P5 := Lib.hid hp
  obtain ⟨g, hg⟩ : ∃ g, w.heap.size = g := ⟨_, rfl⟩
  have HG := Lib.hid hg
  obtain ⟨W0, hW0⟩ : ∃ W, (w.alloc (Obj.cells zCells 38)).alloc (Obj.cells zCells 38) = W := ⟨_, rfl⟩
  have k0 : Kept (fun k => k = p) w W0 := by rw [← hW0]; exact ((Kept.refl _ _).alloc _).alloc _
  have r0 : SrcL W0 p [x] false := by rw [← hW0]; exact h.kept (((Kept.refl (fun _ => False) _).alloc _).alloc _) (fun f => f)
  have a0 : W0.heap[g]? = some (Obj.cells zCells 38 (0, 0)) := by rw [← hW0, ← hg]; exact heap_first w _ _
  have b0 : W0.heap[g + 1]? = some (Obj.cells zCells 38 (0, 0)) := by rw [← hW0, ← hg]; exact heap_second w _ _
  have NE := Lib.hid (show g ≠ p from by have := PL.out; omega)
  have NF := Lib.hid (show g + 1 ≠ p from by have := PL.out; omega)
  have K0 := Lib.hid k0; have R0 := Lib.hid r0; have A0 := Lib.hid a0; have B0 := Lib.hid b0
  have TT := Lib.hid (fun (W : World) (K : Kept (fun k => k = p) w W) => T.kept K (fun e => P5.out e.symm))
  have LT := Lib.hid (show ∀ q, g ≤ q → ¬ q < w.heap.size from fun q h1 => by omega)
  have HX := Lib.hid hx
  clear h T hp k0 r0 a0 b0 hx
  unfold zCells at hW0
  go_enter Tryz.func24, Tryz.ntmps24
  go_wp2_with fail
  clear hW0 hg
  refine (intL_cons R0.out HX.out (TT.out _ K0.out) P5.out).mono ?_
  rintro e W1 ⟨rfl, k, r⟩
  have K1 := Lib.hid (Kept.trans K0.out k (fun _ _ f => f) (fun _ _ f => f) : Kept (fun k => k = p) w W1)
  have R1 := Lib.hid r
  have A1 := Lib.hid ((k.block g (blk_lt A0.out) NE.out).trans A0.out)
  have B1 := Lib.hid ((k.block (g + 1) (blk_lt B0.out) NF.out).trans B0.out)
  clear k r
  have q := blk_lt B1.out
  have zz0 : W1.cell? ⟨g + 1, 0, none⟩ = some (.int .i64 0) := blk_cell B1.out 0
  have zz1 : W1.cell? ⟨g + 1, 1, none⟩ = some (.int .i64 0) := blk_cell B1.out 1
  have zz2 : W1.cell? ⟨g + 1, 2, none⟩ = some (.int .i64 0) := blk_cell B1.out 2
  have zz3 : W1.cell? ⟨g + 1, 3, none⟩ = some (.int .i64 0) := blk_cell B1.out 3
  have zz4 : W1.cell? ⟨g + 1, 4, none⟩ = some (.int .i64 0) := blk_cell B1.out 4
  have zz5 : W1.cell? ⟨g + 1, 5, none⟩ = some (.int .i64 0) := blk_cell B1.out 5
  have zz6 : W1.cell? ⟨g + 1, 6, none⟩ = some (.string ⟨#[]⟩) := blk_cell B1.out 6
  have zz7 : W1.cell? ⟨g + 1, 7, none⟩ = some (.string ⟨#[]⟩) := blk_cell B1.out 7
  have zz8 : W1.cell? ⟨g + 1, 8, none⟩ = some (.int .i64 0) := blk_cell B1.out 8
  have zz9 : W1.cell? ⟨g + 1, 9, none⟩ = some (.int .i64 0) := blk_cell B1.out 9
  have zz10 : W1.cell? ⟨g + 1, 10, none⟩ = some (.string ⟨#[]⟩) := blk_cell B1.out 10
  have zz11 : W1.cell? ⟨g + 1, 11, none⟩ = some (.slice none 0 0) := blk_cell B1.out 11
  have fz0 := blk_free B1.out 0
  have fz1 := blk_free B1.out 1
  have qa := blk_lt A1.out
  have za0 : W1.cell? ⟨g, 0, none⟩ = some (.int .i64 0) := blk_cell A1.out 0
  have fa0 := blk_free A1.out 0
  have za1 : W1.cell? ⟨g, 1, none⟩ = some (.int .i64 0) := blk_cell A1.out 1
  have fa1 := blk_free A1.out 1
  have za2 : W1.cell? ⟨g, 2, none⟩ = some (.int .i64 0) := blk_cell A1.out 2
  have fa2 := blk_free A1.out 2
  have za3 : W1.cell? ⟨g, 3, none⟩ = some (.int .i64 0) := blk_cell A1.out 3
  have fa3 := blk_free A1.out 3
  have za4 : W1.cell? ⟨g, 4, none⟩ = some (.int .i64 0) := blk_cell A1.out 4
  have fa4 := blk_free A1.out 4
  have za5 : W1.cell? ⟨g, 5, none⟩ = some (.int .i64 0) := blk_cell A1.out 5
  have fa5 := blk_free A1.out 5
  have za6 : W1.cell? ⟨g, 6, none⟩ = some (.string ⟨#[]⟩) := blk_cell A1.out 6
  have fa6 := blk_free A1.out 6
  have za7 : W1.cell? ⟨g, 7, none⟩ = some (.string ⟨#[]⟩) := blk_cell A1.out 7
  have fa7 := blk_free A1.out 7
  have za8 : W1.cell? ⟨g, 8, none⟩ = some (.int .i64 0) := blk_cell A1.out 8
  have fa8 := blk_free A1.out 8
  have za9 : W1.cell? ⟨g, 9, none⟩ = some (.int .i64 0) := blk_cell A1.out 9
  have fa9 := blk_free A1.out 9
  have za10 : W1.cell? ⟨g, 10, none⟩ = some (.string ⟨#[]⟩) := blk_cell A1.out 10
  have fa10 := blk_free A1.out 10
  have za11 : W1.cell? ⟨g, 11, none⟩ = some (.slice none 0 0) := blk_cell A1.out 11
  have fa11 := blk_free A1.out 11
  go_wp2_with fail
  (try simp only [Exit.inBlock, Exit.then])
  refine bodyPost_ret (v := Stp.val ⟨6, n, 0, spZ, none, 0, 0⟩) ?_ rfl ⟨⟨_, rfl, StepIs.none⟩, ?_, ?_⟩
  · rw [res_cell1 rfl]
    go_simp
    rfl
  · iterate 14 refine Kept.setAt (fun hl => absurd hl (LT.out _ (by omega))) ?_
    exact K1.out
  · refine R1.out.kept (S := fun k => k = g ∨ k = g + 1) ?_ (fun e => by have := NE.out; have := NF.out; omega)
    iterate 12 refine Kept.setAt (fun _ => .inl rfl) ?_
    refine Kept.setAt (fun _ => .inr rfl) ?_
    refine Kept.setAt (fun _ => .inr rfl) ?_
    exact Kept.refl _ _
set_option maxHeartbeats 4000000 in
set_option maxRecDepth 100000 in
theorem step_restart {w : World} {p : Nat} {x : ByteArray} {n : Int} (h : SrcL w p [x] false) (hx : Says x n) (T : Tab w) (hp : p ≠ 5) :
    Calls Tryz.prog 24 #[.pointer (some ⟨p, 0, none⟩), .string ⟨#[114, 101, 115, 116, 97, 114, 116]⟩] w fun e w' => (∃ v, e = .returned v ∧ StepIs w' w.heap.size v 17 n 0 spZ []) ∧ Kept (fun k => k = p) w w' ∧ SrcL w' p [] false := by
  have PL := Lib.hid h.lt
  have P5 := Lib.hid hp
  obtain ⟨g, hg⟩ : ∃ g, w.heap.size = g := ⟨_, rfl⟩
  have HG := Lib.hid hg
  obtain ⟨W0, hW0⟩ : ∃ W, (w.alloc (Obj.cells zCells 38)).alloc (Obj.cells zCells 38) = W := ⟨_, rfl⟩
  have k0 : Kept (fun k => k = p) w W0 := by rw [← hW0]; exact ((Kept.refl _ _).alloc _).alloc _
  have r0 : SrcL W0 p [x] false := by rw [← hW0]; exact h.kept (((Kept.refl (fun _ => False) _).alloc _).alloc _) (fun f => f)
  have a0 : W0.heap[g]? = some (Obj.cells zCells 38 (0, 0)) := by rw [← hW0, ← hg]; exact heap_first w _ _
  have b0 : W0.heap[g + 1]? = some (Obj.cells zCells 38 (0, 0)) := by rw [← hW0, ← hg]; exact heap_second w _ _
  have NE := Lib.hid (show g ≠ p from by have := PL.out; omega)
  have NF := Lib.hid (show g + 1 ≠ p from by have := PL.out; omega)
  have K0 := Lib.hid k0; have R0 := Lib.hid r0; have A0 := Lib.hid a0; have B0 := Lib.hid b0
  have TT := Lib.hid (fun (W : World) (K : Kept (fun k => k = p) w W) => T.kept K (fun e => P5.out e.symm))
  have LT := Lib.hid (show ∀ q, g ≤ q → ¬ q < w.heap.size from fun q h1 => by omega)
  have HX := Lib.hid hx
  clear h T hp k0 r0 a0 b0 hx
  unfold zCells at hW0
  go_enter Tryz.func24, Tryz.ntmps24
  go_wp2_with fail
  clear hW0 hg
  refine (intL_cons R0.out HX.out (TT.out _ K0.out) P5.out).mono ?_
  rintro e W1 ⟨rfl, k, r⟩
  have K1 := Lib.hid (Kept.trans K0.out k (fun _ _ f => f) (fun _ _ f => f) : Kept (fun k => k = p) w W1)
  have R1 := Lib.hid r
  have A1 := Lib.hid ((k.block g (blk_lt A0.out) NE.out).trans A0.out)
  have B1 := Lib.hid ((k.block (g + 1) (blk_lt B0.out) NF.out).trans B0.out)
  clear k r
  have q := blk_lt B1.out
  have zz0 : W1.cell? ⟨g + 1, 0, none⟩ = some (.int .i64 0) := blk_cell B1.out 0
  have zz1 : W1.cell? ⟨g + 1, 1, none⟩ = some (.int .i64 0) := blk_cell B1.out 1
  have zz2 : W1.cell? ⟨g + 1, 2, none⟩ = some (.int .i64 0) := blk_cell B1.out 2
  have zz3 : W1.cell? ⟨g + 1, 3, none⟩ = some (.int .i64 0) := blk_cell B1.out 3
  have zz4 : W1.cell? ⟨g + 1, 4, none⟩ = some (.int .i64 0) := blk_cell B1.out 4
  have zz5 : W1.cell? ⟨g + 1, 5, none⟩ = some (.int .i64 0) := blk_cell B1.out 5
  have zz6 : W1.cell? ⟨g + 1, 6, none⟩ = some (.string ⟨#[]⟩) := blk_cell B1.out 6
  have zz7 : W1.cell? ⟨g + 1, 7, none⟩ = some (.string ⟨#[]⟩) := blk_cell B1.out 7
  have zz8 : W1.cell? ⟨g + 1, 8, none⟩ = some (.int .i64 0) := blk_cell B1.out 8
  have zz9 : W1.cell? ⟨g + 1, 9, none⟩ = some (.int .i64 0) := blk_cell B1.out 9
  have zz10 : W1.cell? ⟨g + 1, 10, none⟩ = some (.string ⟨#[]⟩) := blk_cell B1.out 10
  have zz11 : W1.cell? ⟨g + 1, 11, none⟩ = some (.slice none 0 0) := blk_cell B1.out 11
  have fz0 := blk_free B1.out 0
  have fz1 := blk_free B1.out 1
  have qa := blk_lt A1.out
  have za0 : W1.cell? ⟨g, 0, none⟩ = some (.int .i64 0) := blk_cell A1.out 0
  have fa0 := blk_free A1.out 0
  have za1 : W1.cell? ⟨g, 1, none⟩ = some (.int .i64 0) := blk_cell A1.out 1
  have fa1 := blk_free A1.out 1
  have za2 : W1.cell? ⟨g, 2, none⟩ = some (.int .i64 0) := blk_cell A1.out 2
  have fa2 := blk_free A1.out 2
  have za3 : W1.cell? ⟨g, 3, none⟩ = some (.int .i64 0) := blk_cell A1.out 3
  have fa3 := blk_free A1.out 3
  have za4 : W1.cell? ⟨g, 4, none⟩ = some (.int .i64 0) := blk_cell A1.out 4
  have fa4 := blk_free A1.out 4
  have za5 : W1.cell? ⟨g, 5, none⟩ = some (.int .i64 0) := blk_cell A1.out 5
  have fa5 := blk_free A1.out 5
  have za6 : W1.cell? ⟨g, 6, none⟩ = some (.string ⟨#[]⟩) := blk_cell A1.out 6
  have fa6 := blk_free A1.out 6
  have za7 : W1.cell? ⟨g, 7, none⟩ = some (.string ⟨#[]⟩) := blk_cell A1.out 7
  have fa7 := blk_free A1.out 7
  have za8 : W1.cell? ⟨g, 8, none⟩ = some (.int .i64 0) := blk_cell A1.out 8
  have fa8 := blk_free A1.out 8
  have za9 : W1.cell? ⟨g, 9, none⟩ = some (.int .i64 0) := blk_cell A1.out 9
  have fa9 := blk_free A1.out 9
  have za10 : W1.cell? ⟨g, 10, none⟩ = some (.string ⟨#[]⟩) := blk_cell A1.out 10
  have fa10 := blk_free A1.out 10
  have za11 : W1.cell? ⟨g, 11, none⟩ = some (.slice none 0 0) := blk_cell A1.out 11
  have fa11 := blk_free A1.out 11
  go_wp2_with fail
  (try simp only [Exit.inBlock, Exit.then])
  refine bodyPost_ret (v := Stp.val ⟨17, n, 0, spZ, none, 0, 0⟩) ?_ rfl ⟨⟨_, rfl, StepIs.none⟩, ?_, ?_⟩
  · rw [res_cell1 rfl]
    go_simp
    rfl
  · iterate 14 refine Kept.setAt (fun hl => absurd hl (LT.out _ (by omega))) ?_
    exact K1.out
  · refine R1.out.kept (S := fun k => k = g ∨ k = g + 1) ?_ (fun e => by have := NE.out; have := NF.out; omega)
    iterate 12 refine Kept.setAt (fun _ => .inl rfl) ?_
    refine Kept.setAt (fun _ => .inr rfl) ?_
    refine Kept.setAt (fun _ => .inr rfl) ?_
    exact Kept.refl _ _
end Go.Proofs.YtelhdbkkigehgaaGreatDoor

