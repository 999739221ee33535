/- A part of the proof. -/
import Derived.OrdersHeld
import Derived.Deep.RegionHeld
import Derived.WalkKit
import Derived.WalkSpells
import Derived.WalkLawsBesides
import Derived.Deep.RegionLaw
import Derived.Deep.RegionHeld3
import Derived.BigQuiet
import Derived.Deep.AppendLies
import Derived.Deep.CutBlock
import Derived.Deep.DeepCutAuto
import Derived.Deep.Light
import Derived.Deep.LoopGhost
import Derived.Deep.QuietTactic
import Derived.Lib.Hide
import Derived.Test.YtelhdbkkigehgaaGreatDoorProg
import Derived.Lib.Builder
import Derived.Lib.Walk
import Derived.Laws.Externs
import Derived.Shelf.Strings.Builder1
import Derived.Shelf.Spec.SlicesInsert
import Derived.Lib.AppendZerosOnto
import Derived.Laws.NewBlocks
import Derived.Shelf.GgClosure.StringsIndexFuncTop
import Derived.Shelf.SlIter.Nil
import Derived.Shelf.SortM.Plain
import Derived.Shelf.SortM.SortNone
import Derived.Ground.GgwProg
import Derived.Ground.GgzProg
import Derived.Ground.SlgmProg
import Derived.Laws.RangeString
import Derived.Lib.Bytealg
import Derived.Test.YtelhdbkkigehgaaGreatDoorDs3

/- A region that draws its order and whose last operation waits for all others: an operation may be taken first that yields its value in every world that meets S, though S need not hold behind that last operation (a store to a cell that the region loads). -/
namespace Go

section
variable {P : Program} {ops : Array Oper} {Q : Exit → Act → World → Prop} {md : Region.Mode} {S : World → Prop} {f : Nat}

/-- Whatever order is picked from here on, and S holds behind every operation but the last, number f. -/
def wpAnyF (P : Program) (md : Region.Mode) (ops : Array Oper) (Q : Exit → Act → World → Prop) (S : World → Prop) (f : Nat) : Nat → Array Bool → Act → World → Prop
  | 0, listed, a, w => Region.ready md ops listed = [] ∧ Q .normal a w
  | fuel + 1, listed, a, w =>
    (Region.ready md ops listed = [] → Q .normal a w) ∧
    ∀ i ∈ Region.ready md ops listed, wpOp P ops Q i (fun a' w' => (i ≠ f → S w') ∧ wpAnyF P md ops Q S f fuel (listed.setIfInBounds i true) a' w') a w

theorem wpAny_of_last : ∀ (fuel : Nat) (listed : Array Bool) (a : Act) (w : World), wpAnyF P md ops Q S f fuel listed a w → wpAny P md ops Q fuel listed a w
  | 0, _, _, _, h => h
  | fuel + 1, _, _, _, h => ⟨h.1, fun i hi => wpOp_mono (fun a' w' h' => wpAny_of_last fuel _ a' w' h'.2) (h.2 i hi)⟩

/-- Number f waits for number i. -/
def Region.waits (md : Region.Mode) (ops : Array Oper) (f i : Nat) : Bool := match ops[f]? with
  | some o => o.after.any fun e => Region.binds md e && e.on == i
  | none => false

theorem not_ready_of_waits {i : Nat} {listed : Array Bool} (hw : Region.waits md ops f i = true) (hi : listed.getD i false = false) : f ∉ Region.ready md ops listed := fun hr => by
  obtain ⟨_, o, ho, hall⟩ := mem_ready.1 hr
  unfold Region.waits at hw
  rw [ho] at hw
  simp only [Array.any_eq_true'] at hw
  obtain ⟨e, he, hb⟩ := hw
  simp only [Bool.and_eq_true, beq_iff_eq] at hb
  have := hall e he hb.1
  rw [hb.2, hi] at this
  cases this

theorem wpAnyF_first {i : Nat} {oi : Oper} {v : Value} (hi : ops[i]? = some oi) (hsel : ∀ (j : Nat) (o : Oper) cs b, ops[j]? = some o → o.op ≠ .select cs b)
    (hQ : ∀ c a w, Q (.panic c) (a.put oi.dst v) w → Q (.panic c) a w) (hfi : Region.waits md ops f i = true) (hne : i ≠ f) :
    ∀ (fuel : Nat) (listed : Array Bool) (a : Act) (w : World),
      (∀ j oj, ops[j]? = some oj → j ≠ i → listed.getD j true = false → (∀ e ∈ oj.after, Region.binds md e = true → e.on ≠ i) → oi.apart ops oj = true) →
      i ∈ Region.ready md ops listed → YieldsIf P ops S oi v a → S w →
      wpAnyF P md ops Q S f fuel (listed.setIfInBounds i true) (a.put oi.dst v) w → wpAnyF P md ops Q S f (fuel + 1) listed a w := by
  intro fuel
  induction fuel with
  | zero =>
    intro listed a w _ hr hy hS H
    refine ⟨fun h => (by rw [h] at hr; cases hr), fun j hj => ?_⟩
    by_cases hji : j = i
    · subst hji; exact hy.wpOp hi hS ⟨fun _ => hS, H⟩
    · have := ready_mono hj hji
      rw [H.1] at this
      cases this
  | succ fuel ih =>
    intro listed a w hfree hr hy hS H
    refine ⟨fun h => (by rw [h] at hr; cases hr), fun j hj => ?_⟩
    by_cases hji : j = i
    · subst hji; exact hy.wpOp hi hS ⟨fun _ => hS, H⟩
    · have h1 := H.2 j (ready_mono hj hji)
      obtain ⟨hjun, oj, hoj, hall⟩ := mem_ready.1 hj
      have hiun : listed.getD i false = false := by
        have h0 := (mem_ready.1 hr).1
        rcases Nat.lt_or_ge i listed.size with h' | h'
        · simp [h'] at h0 ⊢; exact h0
        · simp [Array.getElem?_eq_none h'] 
      have hjf : j ≠ f := fun e => not_ready_of_waits hfi hiun (e ▸ hj)
      have hnot : ∀ e ∈ oj.after, Region.binds md e = true → e.on ≠ i := fun e he hb heq => by
        have h1 := hall e he hb
        rw [heq, hiun] at h1; cases h1
      have h2 := wpOp_putIf hoj (hfree j oj hoj hji hjun hnot) (fun cs b => hsel i oi cs b hi) (fun cs b => hsel j oj cs b hoj) hQ hy h1
      have hfree' : ∀ k ok, ops[k]? = some ok → k ≠ i → (listed.setIfInBounds j true).getD k true = false →
          (∀ e ∈ ok.after, Region.binds md e = true → e.on ≠ i) → oi.apart ops ok = true := fun k ok hk hki hun hno => by
        refine hfree k ok hk hki ?_ hno
        by_cases hjk : j = k
        · subst hjk; exact hjun
        · rw [getD_set_ne true hjk] at hun; exact hun
      refine wpOp_mono (fun a' w' h3 => ⟨fun _ => h3.2.1 hjf, ih (listed.setIfInBounds j true) a' w' hfree' (ready_mono hr (Ne.symm hji)) h3.1 (h3.2.1 hjf) ?_⟩) h2
      rw [Array.setIfInBounds_comm _ _ hji]
      exact h3.2.2

/-- Take number i first. -/
theorem wpAnyF_take {i : Nat} {oi : Oper} {v : Value} {fuel : Nat} {listed : Array Bool} {a : Act} {w : World} (hi : ops[i]? = some oi)
    (hs : Region.noSelect ops = true) (hf : Region.free md ops listed i = true) (hr : (Region.ready md ops listed).contains i = true) (hfi : Region.waits md ops f i = true) (hne : i ≠ f)
    (hQ : ∀ c a w, Q (.panic c) (a.put oi.dst v) w → Q (.panic c) a w) (hy : YieldsIf P ops S oi v a) (hS : S w)
    (h : wpAnyF P md ops Q S f fuel (listed.setIfInBounds i true) (a.put oi.dst v) w) : wpAnyF P md ops Q S f (fuel + 1) listed a w :=
  wpAnyF_first hi (Region.noSelect_spec hs) hQ hfi hne fuel listed a w (Region.free_spec hi hf) (by simpa using hr) hy hS h

/-- Of one that may come up next. -/
theorem wpAnyF_next {rs : List Nat} {fuel : Nat} {listed : Array Bool} {a : Act} {w : World} (hr : Region.ready md ops listed = rs) (hne : rs ≠ [])
    (h : ∀ i ∈ rs, wpOp P ops Q i (fun a' w' => (i ≠ f → S w') ∧ wpAnyF P md ops Q S f fuel (listed.setIfInBounds i true) a' w') a w) : wpAnyF P md ops Q S f (fuel + 1) listed a w :=
  ⟨fun h0 => absurd (hr ▸ h0) hne, hr ▸ h⟩
theorem wpAnyF_done {listed : Array Bool} {a : Act} {w : World} (hr : Region.ready md ops listed = []) (h : Q .normal a w) :
    ∀ fuel, wpAnyF P md ops Q S f fuel listed a w
  | 0 => ⟨hr, h⟩
  | _ + 1 => ⟨fun _ => h, by rw [hr]; simp⟩
theorem wp_region_last {id : Nat} {a : Act} {w : World} (f : Nat) (S : World → Prop) (hm : P.follows .mixedOrders = true)
    (h : wpAnyF P .any ops Q S f ops.size (Array.replicate ops.size false) a w.drew) : (Code.region id ops true).wp P Q a w :=
  wp_region_any hm (wpAny_of_last _ _ _ _ h)
end
end Go

/- Laws on worlds and regions that the walks of this seat share: a frame in which some blocks may turn, steps of a region taken by hand. Nothing of the program is run here. -/
namespace Go.Proofs.YtelhdbkkigehgaaGreatDoor
open Go.RowKit


/-- Of what was there only blocks in S may have turned; the streams are as they were. -/
structure Kept (S : Nat → Prop) (w w' : World) : Prop where
  os : w'.os = w.os
  tape : w'.tape = w.tape
  output : w'.output = w.output
  size : w.heap.size ≤ w'.heap.size
  block : ∀ k, k < w.heap.size → ¬ S k → w'.heap[k]? = w.heap[k]?

theorem Kept.refl (S : Nat → Prop) (w : World) : Kept S w w := ⟨rfl, rfl, rfl, Nat.le_refl _, fun _ _ _ => rfl⟩

theorem Kept.trans {S S' T : Nat → Prop} {a b c : World} (h : Kept S a b) (k : Kept S' b c) (h1 : ∀ i, i < a.heap.size → S i → T i) (h2 : ∀ i, i < a.heap.size → S' i → T i) : Kept T a c :=
  ⟨k.os.trans h.os, k.tape.trans h.tape, k.output.trans h.output, Nat.le_trans h.size k.size, fun i hi hT =>
    (k.block i (Nat.lt_of_lt_of_le hi h.size) (fun e => hT (h2 i hi e))).trans (h.block i hi (fun e => hT (h1 i hi e)))⟩

theorem Kept.drew {S : Nat → Prop} {a w : World} (h : Kept S a w) : Kept S a w.drew := ⟨h.os, h.tape, h.output, h.size, h.block⟩

theorem Kept.alloc {S : Nat → Prop} {a w : World} (h : Kept S a w) (o : Obj) : Kept S a (w.alloc o) :=
  h.trans (S' := S) ⟨rfl, rfl, rfl, by simp, fun k hk _ => Below.heap_alloc _ _ _ hk⟩ (fun _ _ h => h) (fun _ _ h => h)

theorem Kept.setCell {S : Nat → Prop} {a w : World} (h : Kept S a w) {p : Addr} (hp : p.block < a.heap.size → S p.block) (u : Value) : Kept S a (w.setCell p u) :=
  h.trans (S' := fun k => k = p.block) ⟨rfl, rfl, rfl, by simp [World.setCell], fun k _ hk' => Below.heap_setCell _ _ _ _ hk'⟩ (fun _ _ h => h) (fun i hi e => by subst e; exact hp hi)

theorem Kept.grown {S : Nat → Prop} {a w w' : World} {row : Option Nat} (h : Kept S a w) (hg : w.grownBy w' row) (hr : ∀ k, row = some k → k < a.heap.size → S k) : Kept S a w' :=
  h.trans (S' := fun k => some k = row) ⟨hg.os, hg.tape, hg.output, hg.size, fun k hk hk' => hg.block k hk hk'⟩ (fun _ _ h => h) (fun i hi e => hr i e.symm hi)

theorem Kept.below {S : Nat → Prop} {a w : World} (h : Kept S a w) (hS : ∀ k, k < a.heap.size → ¬ S k) : Below a.heap.size a w :=
  ⟨h.os, h.tape, h.output, h.size, fun k hk => h.block k hk (hS k hk)⟩

theorem Kept.mono {S T : Nat → Prop} {a w : World} (h : Kept S a w) (hS : ∀ k, k < a.heap.size → S k → T k) : Kept T a w :=
  ⟨h.os, h.tape, h.output, h.size, fun k hk hT => h.block k hk (fun e => hT (hS k hk e))⟩

theorem Kept.setAt {S : Nat → Prop} {a w : World} {n j : Nat} {u : Value} (hp : n < a.heap.size → S n) (h : Kept S a w) : Kept S a (w.setCell ⟨n, j, none⟩ u) := h.setCell hp u

theorem Kept.cell {S : Nat → Prop} {w w' : World} (hK : Kept S w w') {a : Addr} {v : Value} (h : w.cell? a = some v) (hS : ¬ S a.block) : w'.cell? a = some v :=
  (World.cell?_of_block (w := w) (hK.block a.block (World.block_lt_of_cell? _ _ h) hS)).trans h

theorem Kept.frozen {S : Nat → Prop} {w w' : World} (hK : Kept S w w') {a : Addr} (h : w.frozen? a = false) (hl : a.block < w.heap.size) (hS : ¬ S a.block) : w'.frozen? a = false :=
  (World.frozen?_of_block (w := w) (hK.block a.block hl hS)).trans h

/-- Behind a call: a block of three cells that lay last when the call began. -/
theorem Kept.fresh3 {S : Nat → Prop} {w w1 : World} {x y z : Value} {t : TypeId} (hK : Kept S (w.alloc (.cells #[x, y, z] t)) w1) (hS : ¬ S w.heap.size) :
    w1.cell? ⟨w.heap.size, 0, none⟩ = some x ∧ w1.cell? ⟨w.heap.size, 1, none⟩ = some y ∧ w1.cell? ⟨w.heap.size, 2, none⟩ = some z ∧ (∀ j, w1.frozen? ⟨w.heap.size, j, none⟩ = false) ∧ w.heap.size < w1.heap.size := by
  refine ⟨hK.cell (by simp) hS, hK.cell (by simp) hS, hK.cell (by simp) hS, fun j => hK.frozen (by simp) (by simp) hS, ?_⟩
  have := hK.size; simp at this; omega

theorem Kept.cells3 {S : Nat → Prop} {w w' : World} {n : Nat} {x y z : Value} (hK : Kept S w w') (hS : ¬ S n) (h0 : w.cell? ⟨n, 0, none⟩ = some x) (h1 : w.cell? ⟨n, 1, none⟩ = some y) (h2 : w.cell? ⟨n, 2, none⟩ = some z) (hf : ∀ j, w.frozen? ⟨n, j, none⟩ = false) :
    w'.cell? ⟨n, 0, none⟩ = some x ∧ w'.cell? ⟨n, 1, none⟩ = some y ∧ w'.cell? ⟨n, 2, none⟩ = some z ∧ (∀ j, w'.frozen? ⟨n, j, none⟩ = false) :=
  have hl := World.block_lt_of_cell? _ _ h0
  ⟨hK.cell h0 hS, hK.cell h1 hS, hK.cell h2 hS, fun j => hK.frozen (hf j) hl hS⟩

theorem _root_.Go.RowKit.Below.step {B : Nat} {a W W' : World} {S : Nat → Prop} (h : Below B a W) (hB : B ≤ a.heap.size) (k : Kept S W W') (hS : ∀ i, S i → B ≤ i) : Below B a W' :=
  h.trans ⟨k.os, k.tape, k.output, k.size, fun i hi => k.block i (Nat.lt_of_lt_of_le hi (Nat.le_trans hB h.size)) (fun e => by have := hS i e; omega)⟩

theorem _root_.Go.RowKit.Below.alloc' {B : Nat} {a w : World} (h : Below B a w) (hB : B ≤ a.heap.size) (o : Obj) : Below B a (w.alloc o) := h.alloc (Nat.le_trans hB h.size) o

theorem _root_.Go.RowKit.Below.drewN' {B : Nat} {a w : World} (h : Below B a w) (n : Nat) : Below B a (w.drewN n) := ⟨h.os, h.tape, h.output, h.size, h.block⟩

theorem kept_drewN (w : World) (n : Nat) : Kept (fun _ => False) w (w.drewN n) := ⟨rfl, rfl, rfl, Nat.le_refl _, fun _ _ _ => rfl⟩

theorem ret_bool {x y : Bool} (h : x = y) : Ending.returned (.bool x) = .returned (.bool y) := by rw [h]

/-- The world behind a statement under a name, with what is known of it. -/
theorem then_gen {K : Act → World → Prop} {Q : Exit → Act → World → Prop} {a : Act} {W : World} (R : World → Prop) (h : R W) (k : ∀ w', R w' → Exit.then K Q .normal a w') : Exit.then K Q .normal a W := k W h

theorem wp_gen {P : Program} {c : Code} {Q : Exit → Act → World → Prop} {a : Act} {W : World} (R : World → Prop) (h : R W) (k : ∀ w', R w' → c.wp P Q a w') : c.wp P Q a W := k W h

/-- An operation whose value is known. -/
theorem wpList_value {P : Program} {ops : Array Oper} {Q : Exit → Act → World → Prop} {a : Act} {w : World} {rest : List Oper} {o : Oper} (hg : o.guard = none) (v : Value)
    (h : (execOp a.eval o).run P w = .ok (.value v) w) (k : wpList P ops Q rest (a.put o.dst v) w) : wpList P ops Q (o :: rest) a w :=
  wpList_plain hg fun K hK => by unfold Oper.wp; rw [h]; exact hK _ _ k

/-- append to an owned row, at one step of a region, from whatever slice. -/
theorem step_app {P : Program} {ops : Array Oper} {o : Oper} {a : Act} {w : World} {K : Act → World → Prop} {Q : Exit → Act → World → Prop} {E : Prop} (hgd : o.guard = none) (s x : Operand) (t : TypeId)
    (ho : o.op = .call { callee := .builtin .append, args := #[s, x], argTypes := #[t, t] })
    (base : Nat) (e : TypeId) (i : TypeInfo) (z : Value) (size bytes : Nat) (ht : P.underlying t = some (.slice e)) (hi : P.info? e = some i) (hz : i.zero = some z)
    (hsize : i.size = size) (hby : i.bytes = bytes) (hzs : z.cells.size = size) (hsz : 0 < size)
    (v : Value) (n : Nat) (xs : List Value) (hs : a.eval s = v) (hown : w.ownsRow base e size v n xs)
    (ad : Addr) (m c : Nat) (news : List Value) (hx : a.eval x = .slice (some ad) m c) (hl : news.length = m * size) (hnews : ∀ j u, news[j]? = some u → w.cell? (ad.add j) = some u) (h1 : ∀ u ∈ news, u.oneCell' = true)
    (h63 : n + m ≤ maxLen) (hbytes : (n + m) * bytes ≤ 140737488355328) (hbase : base ≤ w.heap.size)
    (h : ∀ ao' cap' w', w'.ownsRow base e size (.slice ao' (n + m) cap') (n + m) (xs ++ news) → w.grownBy w' v.ownBlock → ((Value.slice ao' (n + m) cap').ownBlock = v.ownBlock ∨ (Value.slice ao' (n + m) cap').ownBlock = some w.heap.size) → K (a.put o.dst (.slice ao' (n + m) cap')) w') :
    if Region.wanted o (yielded ops a.tmps) = true then Oper.wp P o a w K Q else E := by
  rw [if_pos (by simp [Region.wanted, hgd])]
  obtain ⟨v', w', hr, h2, h3, _, h5⟩ := run_append_own_at (P := P) w base t o.type e i z size bytes ht hi hz hsize hby hzs hsz v n xs hown ad m c news hl hnews h1 h63 hbytes hbase
  unfold Oper.wp execOp
  simp only [ho, resolve, invoke, builtin, Sem.run_bind, Sem.run_pure, Result.andThen_ok, List.map_toArray, List.map_cons, List.map_nil, hs, hx, hr]
  have hf : ∃ ao' cap', v' = .slice ao' (n + m) cap' := by
    rcases h2.2 with ⟨rfl, hn⟩ | ⟨g, cap, cur, rfl, _⟩
    · exact ⟨none, 0, by rw [hn]⟩
    · exact ⟨_, _, rfl⟩
  obtain ⟨ao', cap', rfl⟩ := hf
  exact h ao' cap' w' h2 h3 h5

/-- What an owned row's value looks like. -/
theorem row_form {w : World} {base : Nat} {e : TypeId} {size : Nat} {v : Value} {n : Nat} {xs : List Value} (h : w.ownsRow base e size v n xs) :
    (v = .slice none 0 0 ∧ n = 0) ∨ ∃ g cap, v = .slice (some ⟨g, 0, none⟩) n cap ∧ n ≤ cap ∧ base ≤ g ∧ g < w.heap.size ∧ ∀ j u, xs[j]? = some u → w.cell? ⟨g, j, none⟩ = some u := by
  rcases h.2 with h2 | ⟨g, cap, cur, rfl, hb, hgg, hle, hrest⟩
  · exact .inl h2
  · refine .inr ⟨g, cap, rfl, hle, hb, (Array.getElem?_eq_some_iff.1 hgg).1, fun j u hu => ?_⟩
    have := h.cells (g := g) rfl j u hu
    have hadd : (⟨g, 0, none⟩ : Addr).add j = ⟨g, j, none⟩ := by unfold Addr.add; split <;> simp_all
    rwa [hadd] at this

theorem heap_second (w : World) (o1 o2 : Obj) : ((w.alloc o1).alloc o2).heap[w.heap.size + 1]? = some o2 := by
  have e : (w.alloc o1).heap.size = w.heap.size + 1 := by simp
  have := heap_alloc_new (w.alloc o1) o2
  rwa [e] at this

theorem grown_kept {w w' : World} {row : Option Nat} (h : w.grownBy w' row) : Kept (fun k => row = some k) w w' :=
  ⟨h.os, h.tape, h.output, h.size, fun k hk hne => h.block k hk (fun e => hne e.symm)⟩

theorem heap_first (w : World) (o1 o2 : Obj) : ((w.alloc o1).alloc o2).heap[w.heap.size]? = some o1 := by
  have e : ((w.alloc o1).alloc o2).heap = (w.heap.push o1).push o2 := rfl
  rw [e]; simp [Array.getElem?_push]

theorem add_mid (b o j : Nat) : (⟨b, o, none⟩ : Addr).add j = ⟨b, o + j, none⟩ := by unfold Addr.add; split <;> simp_all

/-- Where a slice lies behind an append: in the elder one's block, or in a new one. -/
theorem own_ge {v v0 : Value} {W : World} {n k : Nat} (h : v.ownBlock = v0.ownBlock ∨ v.ownBlock = some W.heap.size) (h0 : ∀ k, v0.ownBlock = some k → n ≤ k) (hW : n ≤ W.heap.size) (hk : v.ownBlock = some k) : n ≤ k := by
  rcases h with h | h
  · exact h0 k (h ▸ hk)
  · rw [hk] at h; have := Option.some.inj h; omega

theorem own_fresh {n l c k : Nat} (h : (Value.slice (some ⟨n, 0, none⟩) l c).ownBlock = some k) : n ≤ k := by
  have := Option.some.inj h; exact Nat.le_of_eq this

theorem wpOp_law {P : Program} {ops : Array Oper} {Q : Exit → Act → World → Prop} {i : Nat} {o : Oper} {K : Act → World → Prop} {a : Act} {w : World} (ho : ops[i]? = some o)
    (h : ∀ K' : Act → World → Prop, (∀ a w, K a w → K' a w) → if Region.wanted o (yielded ops a.tmps) = true then Oper.wp P o a w K' Q else K' (a.put o.dst undef) w) : wpOp P ops Q i K a w := by
  have h1 := h K (fun _ _ h => h)
  unfold wpOp
  simp only [ho]
  split
  · rename_i hw; rw [if_pos hw] at h1; exact .inl h1
  · rename_i hw; rw [if_neg hw] at h1; exact h1

theorem next1 {P : Program} {ops : Array Oper} {Q : Exit → Act → World → Prop} {md : Region.Mode} {S : World → Prop} {f fuel : Nat} {listed : Array Bool} {a : Act} {w : World} (i : Nat) {o : Oper} (hr : Region.ready md ops listed = [i]) (ho : ops[i]? = some o)
    (h : ∀ K' : Act → World → Prop, (∀ a' w', ((i ≠ f → S w') ∧ wpAnyF P md ops Q S f fuel (listed.setIfInBounds i true) a' w') → K' a' w') → if Region.wanted o (yielded ops a.tmps) = true then Oper.wp P o a w K' Q else K' (a.put o.dst undef) w) : wpAnyF P md ops Q S f (fuel + 1) listed a w :=
  wpAnyF_next hr (by simp) fun j hj => by
    rw [List.mem_singleton] at hj; subst hj; exact wpOp_law ho h

theorem next2 {P : Program} {ops : Array Oper} {Q : Exit → Act → World → Prop} {md : Region.Mode} {S : World → Prop} {f fuel : Nat} {listed : Array Bool} {a : Act} {w : World} (i k : Nat) {o o2 : Oper} (hr : Region.ready md ops listed = [i, k]) (ho : ops[i]? = some o) (ho2 : ops[k]? = some o2)
    (h : ∀ K' : Act → World → Prop, (∀ a' w', ((i ≠ f → S w') ∧ wpAnyF P md ops Q S f fuel (listed.setIfInBounds i true) a' w') → K' a' w') → if Region.wanted o (yielded ops a.tmps) = true then Oper.wp P o a w K' Q else K' (a.put o.dst undef) w)
    (h2 : ∀ K' : Act → World → Prop, (∀ a' w', ((k ≠ f → S w') ∧ wpAnyF P md ops Q S f fuel (listed.setIfInBounds k true) a' w') → K' a' w') → if Region.wanted o2 (yielded ops a.tmps) = true then Oper.wp P o2 a w K' Q else K' (a.put o2.dst undef) w) : wpAnyF P md ops Q S f (fuel + 1) listed a w :=
  wpAnyF_next hr (by simp) fun j hj => by
    simp only [List.mem_cons, List.not_mem_nil, or_false] at hj
    rcases hj with rfl | rfl
    · exact wpOp_law ho h
    · exact wpOp_law ho2 h2

end Go.Proofs.YtelhdbkkigehgaaGreatDoor

/- Which operation stands at a place of a region that is written out. -/
namespace Go.Proofs.YtelhdbkkigehgaaGreatDoor

theorem opAt0 {a0 : Oper} {l : List Oper} : (a0 :: l).toArray[0]? = some a0 := rfl
theorem opAt1 {a0 a1 : Oper} {l : List Oper} : (a0 :: a1 :: l).toArray[1]? = some a1 := rfl
theorem opAt2 {a0 a1 a2 : Oper} {l : List Oper} : (a0 :: a1 :: a2 :: l).toArray[2]? = some a2 := rfl
theorem opAt3 {a0 a1 a2 a3 : Oper} {l : List Oper} : (a0 :: a1 :: a2 :: a3 :: l).toArray[3]? = some a3 := rfl
theorem opAt4 {a0 a1 a2 a3 a4 : Oper} {l : List Oper} : (a0 :: a1 :: a2 :: a3 :: a4 :: l).toArray[4]? = some a4 := rfl
theorem opAt5 {a0 a1 a2 a3 a4 a5 : Oper} {l : List Oper} : (a0 :: a1 :: a2 :: a3 :: a4 :: a5 :: l).toArray[5]? = some a5 := rfl
theorem opAt6 {a0 a1 a2 a3 a4 a5 a6 : Oper} {l : List Oper} : (a0 :: a1 :: a2 :: a3 :: a4 :: a5 :: a6 :: l).toArray[6]? = some a6 := rfl
theorem opAt7 {a0 a1 a2 a3 a4 a5 a6 a7 : Oper} {l : List Oper} : (a0 :: a1 :: a2 :: a3 :: a4 :: a5 :: a6 :: a7 :: l).toArray[7]? = some a7 := rfl
theorem opAt8 {a0 a1 a2 a3 a4 a5 a6 a7 a8 : Oper} {l : List Oper} : (a0 :: a1 :: a2 :: a3 :: a4 :: a5 :: a6 :: a7 :: a8 :: l).toArray[8]? = some a8 := rfl
theorem opAt9 {a0 a1 a2 a3 a4 a5 a6 a7 a8 a9 : Oper} {l : List Oper} : (a0 :: a1 :: a2 :: a3 :: a4 :: a5 :: a6 :: a7 :: a8 :: a9 :: l).toArray[9]? = some a9 := rfl
theorem opAt10 {a0 a1 a2 a3 a4 a5 a6 a7 a8 a9 a10 : Oper} {l : List Oper} : (a0 :: a1 :: a2 :: a3 :: a4 :: a5 :: a6 :: a7 :: a8 :: a9 :: a10 :: l).toArray[10]? = some a10 := rfl
theorem opAt11 {a0 a1 a2 a3 a4 a5 a6 a7 a8 a9 a10 a11 : Oper} {l : List Oper} : (a0 :: a1 :: a2 :: a3 :: a4 :: a5 :: a6 :: a7 :: a8 :: a9 :: a10 :: a11 :: l).toArray[11]? = some a11 := rfl
theorem opAt12 {a0 a1 a2 a3 a4 a5 a6 a7 a8 a9 a10 a11 a12 : Oper} {l : List Oper} : (a0 :: a1 :: a2 :: a3 :: a4 :: a5 :: a6 :: a7 :: a8 :: a9 :: a10 :: a11 :: a12 :: l).toArray[12]? = some a12 := rfl
theorem opAt13 {a0 a1 a2 a3 a4 a5 a6 a7 a8 a9 a10 a11 a12 a13 : Oper} {l : List Oper} : (a0 :: a1 :: a2 :: a3 :: a4 :: a5 :: a6 :: a7 :: a8 :: a9 :: a10 :: a11 :: a12 :: a13 :: l).toArray[13]? = some a13 := rfl
theorem opAt14 {a0 a1 a2 a3 a4 a5 a6 a7 a8 a9 a10 a11 a12 a13 a14 : Oper} {l : List Oper} : (a0 :: a1 :: a2 :: a3 :: a4 :: a5 :: a6 :: a7 :: a8 :: a9 :: a10 :: a11 :: a12 :: a13 :: a14 :: l).toArray[14]? = some a14 := rfl
theorem opAt15 {a0 a1 a2 a3 a4 a5 a6 a7 a8 a9 a10 a11 a12 a13 a14 a15 : Oper} {l : List Oper} : (a0 :: a1 :: a2 :: a3 :: a4 :: a5 :: a6 :: a7 :: a8 :: a9 :: a10 :: a11 :: a12 :: a13 :: a14 :: a15 :: l).toArray[15]? = some a15 := rfl
theorem opAt16 {a0 a1 a2 a3 a4 a5 a6 a7 a8 a9 a10 a11 a12 a13 a14 a15 a16 : Oper} {l : List Oper} : (a0 :: a1 :: a2 :: a3 :: a4 :: a5 :: a6 :: a7 :: a8 :: a9 :: a10 :: a11 :: a12 :: a13 :: a14 :: a15 :: a16 :: l).toArray[16]? = some a16 := rfl
theorem opAt17 {a0 a1 a2 a3 a4 a5 a6 a7 a8 a9 a10 a11 a12 a13 a14 a15 a16 a17 : Oper} {l : List Oper} : (a0 :: a1 :: a2 :: a3 :: a4 :: a5 :: a6 :: a7 :: a8 :: a9 :: a10 :: a11 :: a12 :: a13 :: a14 :: a15 :: a16 :: a17 :: l).toArray[17]? = some a17 := rfl
theorem opAt18 {a0 a1 a2 a3 a4 a5 a6 a7 a8 a9 a10 a11 a12 a13 a14 a15 a16 a17 a18 : Oper} {l : List Oper} : (a0 :: a1 :: a2 :: a3 :: a4 :: a5 :: a6 :: a7 :: a8 :: a9 :: a10 :: a11 :: a12 :: a13 :: a14 :: a15 :: a16 :: a17 :: a18 :: l).toArray[18]? = some a18 := rfl
theorem opAt19 {a0 a1 a2 a3 a4 a5 a6 a7 a8 a9 a10 a11 a12 a13 a14 a15 a16 a17 a18 a19 : Oper} {l : List Oper} : (a0 :: a1 :: a2 :: a3 :: a4 :: a5 :: a6 :: a7 :: a8 :: a9 :: a10 :: a11 :: a12 :: a13 :: a14 :: a15 :: a16 :: a17 :: a18 :: a19 :: l).toArray[19]? = some a19 := rfl
theorem opAt20 {a0 a1 a2 a3 a4 a5 a6 a7 a8 a9 a10 a11 a12 a13 a14 a15 a16 a17 a18 a19 a20 : Oper} {l : List Oper} : (a0 :: a1 :: a2 :: a3 :: a4 :: a5 :: a6 :: a7 :: a8 :: a9 :: a10 :: a11 :: a12 :: a13 :: a14 :: a15 :: a16 :: a17 :: a18 :: a19 :: a20 :: l).toArray[20]? = some a20 := rfl
theorem opAt21 {a0 a1 a2 a3 a4 a5 a6 a7 a8 a9 a10 a11 a12 a13 a14 a15 a16 a17 a18 a19 a20 a21 : Oper} {l : List Oper} : (a0 :: a1 :: a2 :: a3 :: a4 :: a5 :: a6 :: a7 :: a8 :: a9 :: a10 :: a11 :: a12 :: a13 :: a14 :: a15 :: a16 :: a17 :: a18 :: a19 :: a20 :: a21 :: l).toArray[21]? = some a21 := rfl
theorem opAt22 {a0 a1 a2 a3 a4 a5 a6 a7 a8 a9 a10 a11 a12 a13 a14 a15 a16 a17 a18 a19 a20 a21 a22 : Oper} {l : List Oper} : (a0 :: a1 :: a2 :: a3 :: a4 :: a5 :: a6 :: a7 :: a8 :: a9 :: a10 :: a11 :: a12 :: a13 :: a14 :: a15 :: a16 :: a17 :: a18 :: a19 :: a20 :: a21 :: a22 :: l).toArray[22]? = some a22 := rfl
theorem opAt23 {a0 a1 a2 a3 a4 a5 a6 a7 a8 a9 a10 a11 a12 a13 a14 a15 a16 a17 a18 a19 a20 a21 a22 a23 : Oper} {l : List Oper} : (a0 :: a1 :: a2 :: a3 :: a4 :: a5 :: a6 :: a7 :: a8 :: a9 :: a10 :: a11 :: a12 :: a13 :: a14 :: a15 :: a16 :: a17 :: a18 :: a19 :: a20 :: a21 :: a22 :: a23 :: l).toArray[23]? = some a23 := rfl
theorem opAt24 {a0 a1 a2 a3 a4 a5 a6 a7 a8 a9 a10 a11 a12 a13 a14 a15 a16 a17 a18 a19 a20 a21 a22 a23 a24 : Oper} {l : List Oper} : (a0 :: a1 :: a2 :: a3 :: a4 :: a5 :: a6 :: a7 :: a8 :: a9 :: a10 :: a11 :: a12 :: a13 :: a14 :: a15 :: a16 :: a17 :: a18 :: a19 :: a20 :: a21 :: a22 :: a23 :: a24 :: l).toArray[24]? = some a24 := rfl
theorem opAt25 {a0 a1 a2 a3 a4 a5 a6 a7 a8 a9 a10 a11 a12 a13 a14 a15 a16 a17 a18 a19 a20 a21 a22 a23 a24 a25 : Oper} {l : List Oper} : (a0 :: a1 :: a2 :: a3 :: a4 :: a5 :: a6 :: a7 :: a8 :: a9 :: a10 :: a11 :: a12 :: a13 :: a14 :: a15 :: a16 :: a17 :: a18 :: a19 :: a20 :: a21 :: a22 :: a23 :: a24 :: a25 :: l).toArray[25]? = some a25 := rfl
theorem opAt26 {a0 a1 a2 a3 a4 a5 a6 a7 a8 a9 a10 a11 a12 a13 a14 a15 a16 a17 a18 a19 a20 a21 a22 a23 a24 a25 a26 : Oper} {l : List Oper} : (a0 :: a1 :: a2 :: a3 :: a4 :: a5 :: a6 :: a7 :: a8 :: a9 :: a10 :: a11 :: a12 :: a13 :: a14 :: a15 :: a16 :: a17 :: a18 :: a19 :: a20 :: a21 :: a22 :: a23 :: a24 :: a25 :: a26 :: l).toArray[26]? = some a26 := rfl
theorem opAt27 {a0 a1 a2 a3 a4 a5 a6 a7 a8 a9 a10 a11 a12 a13 a14 a15 a16 a17 a18 a19 a20 a21 a22 a23 a24 a25 a26 a27 : Oper} {l : List Oper} : (a0 :: a1 :: a2 :: a3 :: a4 :: a5 :: a6 :: a7 :: a8 :: a9 :: a10 :: a11 :: a12 :: a13 :: a14 :: a15 :: a16 :: a17 :: a18 :: a19 :: a20 :: a21 :: a22 :: a23 :: a24 :: a25 :: a26 :: a27 :: l).toArray[27]? = some a27 := rfl
theorem opAt28 {a0 a1 a2 a3 a4 a5 a6 a7 a8 a9 a10 a11 a12 a13 a14 a15 a16 a17 a18 a19 a20 a21 a22 a23 a24 a25 a26 a27 a28 : Oper} {l : List Oper} : (a0 :: a1 :: a2 :: a3 :: a4 :: a5 :: a6 :: a7 :: a8 :: a9 :: a10 :: a11 :: a12 :: a13 :: a14 :: a15 :: a16 :: a17 :: a18 :: a19 :: a20 :: a21 :: a22 :: a23 :: a24 :: a25 :: a26 :: a27 :: a28 :: l).toArray[28]? = some a28 := rfl
theorem opAt29 {a0 a1 a2 a3 a4 a5 a6 a7 a8 a9 a10 a11 a12 a13 a14 a15 a16 a17 a18 a19 a20 a21 a22 a23 a24 a25 a26 a27 a28 a29 : Oper} {l : List Oper} : (a0 :: a1 :: a2 :: a3 :: a4 :: a5 :: a6 :: a7 :: a8 :: a9 :: a10 :: a11 :: a12 :: a13 :: a14 :: a15 :: a16 :: a17 :: a18 :: a19 :: a20 :: a21 :: a22 :: a23 :: a24 :: a25 :: a26 :: a27 :: a28 :: a29 :: l).toArray[29]? = some a29 := rfl
theorem opAt30 {a0 a1 a2 a3 a4 a5 a6 a7 a8 a9 a10 a11 a12 a13 a14 a15 a16 a17 a18 a19 a20 a21 a22 a23 a24 a25 a26 a27 a28 a29 a30 : Oper} {l : List Oper} : (a0 :: a1 :: a2 :: a3 :: a4 :: a5 :: a6 :: a7 :: a8 :: a9 :: a10 :: a11 :: a12 :: a13 :: a14 :: a15 :: a16 :: a17 :: a18 :: a19 :: a20 :: a21 :: a22 :: a23 :: a24 :: a25 :: a26 :: a27 :: a28 :: a29 :: a30 :: l).toArray[30]? = some a30 := rfl
theorem opAt31 {a0 a1 a2 a3 a4 a5 a6 a7 a8 a9 a10 a11 a12 a13 a14 a15 a16 a17 a18 a19 a20 a21 a22 a23 a24 a25 a26 a27 a28 a29 a30 a31 : Oper} {l : List Oper} : (a0 :: a1 :: a2 :: a3 :: a4 :: a5 :: a6 :: a7 :: a8 :: a9 :: a10 :: a11 :: a12 :: a13 :: a14 :: a15 :: a16 :: a17 :: a18 :: a19 :: a20 :: a21 :: a22 :: a23 :: a24 :: a25 :: a26 :: a27 :: a28 :: a29 :: a30 :: a31 :: l).toArray[31]? = some a31 := rfl
theorem opAt32 {a0 a1 a2 a3 a4 a5 a6 a7 a8 a9 a10 a11 a12 a13 a14 a15 a16 a17 a18 a19 a20 a21 a22 a23 a24 a25 a26 a27 a28 a29 a30 a31 a32 : Oper} {l : List Oper} : (a0 :: a1 :: a2 :: a3 :: a4 :: a5 :: a6 :: a7 :: a8 :: a9 :: a10 :: a11 :: a12 :: a13 :: a14 :: a15 :: a16 :: a17 :: a18 :: a19 :: a20 :: a21 :: a22 :: a23 :: a24 :: a25 :: a26 :: a27 :: a28 :: a29 :: a30 :: a31 :: a32 :: l).toArray[32]? = some a32 := rfl
theorem opAt33 {a0 a1 a2 a3 a4 a5 a6 a7 a8 a9 a10 a11 a12 a13 a14 a15 a16 a17 a18 a19 a20 a21 a22 a23 a24 a25 a26 a27 a28 a29 a30 a31 a32 a33 : Oper} {l : List Oper} : (a0 :: a1 :: a2 :: a3 :: a4 :: a5 :: a6 :: a7 :: a8 :: a9 :: a10 :: a11 :: a12 :: a13 :: a14 :: a15 :: a16 :: a17 :: a18 :: a19 :: a20 :: a21 :: a22 :: a23 :: a24 :: a25 :: a26 :: a27 :: a28 :: a29 :: a30 :: a31 :: a32 :: a33 :: l).toArray[33]? = some a33 := rfl
theorem opAt34 {a0 a1 a2 a3 a4 a5 a6 a7 a8 a9 a10 a11 a12 a13 a14 a15 a16 a17 a18 a19 a20 a21 a22 a23 a24 a25 a26 a27 a28 a29 a30 a31 a32 a33 a34 : Oper} {l : List Oper} : (a0 :: a1 :: a2 :: a3 :: a4 :: a5 :: a6 :: a7 :: a8 :: a9 :: a10 :: a11 :: a12 :: a13 :: a14 :: a15 :: a16 :: a17 :: a18 :: a19 :: a20 :: a21 :: a22 :: a23 :: a24 :: a25 :: a26 :: a27 :: a28 :: a29 :: a30 :: a31 :: a32 :: a33 :: a34 :: l).toArray[34]? = some a34 := rfl
theorem opAt35 {a0 a1 a2 a3 a4 a5 a6 a7 a8 a9 a10 a11 a12 a13 a14 a15 a16 a17 a18 a19 a20 a21 a22 a23 a24 a25 a26 a27 a28 a29 a30 a31 a32 a33 a34 a35 : Oper} {l : List Oper} : (a0 :: a1 :: a2 :: a3 :: a4 :: a5 :: a6 :: a7 :: a8 :: a9 :: a10 :: a11 :: a12 :: a13 :: a14 :: a15 :: a16 :: a17 :: a18 :: a19 :: a20 :: a21 :: a22 :: a23 :: a24 :: a25 :: a26 :: a27 :: a28 :: a29 :: a30 :: a31 :: a32 :: a33 :: a34 :: a35 :: l).toArray[35]? = some a35 := rfl
theorem opAt36 {a0 a1 a2 a3 a4 a5 a6 a7 a8 a9 a10 a11 a12 a13 a14 a15 a16 a17 a18 a19 a20 a21 a22 a23 a24 a25 a26 a27 a28 a29 a30 a31 a32 a33 a34 a35 a36 : Oper} {l : List Oper} : (a0 :: a1 :: a2 :: a3 :: a4 :: a5 :: a6 :: a7 :: a8 :: a9 :: a10 :: a11 :: a12 :: a13 :: a14 :: a15 :: a16 :: a17 :: a18 :: a19 :: a20 :: a21 :: a22 :: a23 :: a24 :: a25 :: a26 :: a27 :: a28 :: a29 :: a30 :: a31 :: a32 :: a33 :: a34 :: a35 :: a36 :: l).toArray[36]? = some a36 := rfl
theorem opAt37 {a0 a1 a2 a3 a4 a5 a6 a7 a8 a9 a10 a11 a12 a13 a14 a15 a16 a17 a18 a19 a20 a21 a22 a23 a24 a25 a26 a27 a28 a29 a30 a31 a32 a33 a34 a35 a36 a37 : Oper} {l : List Oper} : (a0 :: a1 :: a2 :: a3 :: a4 :: a5 :: a6 :: a7 :: a8 :: a9 :: a10 :: a11 :: a12 :: a13 :: a14 :: a15 :: a16 :: a17 :: a18 :: a19 :: a20 :: a21 :: a22 :: a23 :: a24 :: a25 :: a26 :: a27 :: a28 :: a29 :: a30 :: a31 :: a32 :: a33 :: a34 :: a35 :: a36 :: a37 :: l).toArray[37]? = some a37 := rfl
theorem opAt38 {a0 a1 a2 a3 a4 a5 a6 a7 a8 a9 a10 a11 a12 a13 a14 a15 a16 a17 a18 a19 a20 a21 a22 a23 a24 a25 a26 a27 a28 a29 a30 a31 a32 a33 a34 a35 a36 a37 a38 : Oper} {l : List Oper} : (a0 :: a1 :: a2 :: a3 :: a4 :: a5 :: a6 :: a7 :: a8 :: a9 :: a10 :: a11 :: a12 :: a13 :: a14 :: a15 :: a16 :: a17 :: a18 :: a19 :: a20 :: a21 :: a22 :: a23 :: a24 :: a25 :: a26 :: a27 :: a28 :: a29 :: a30 :: a31 :: a32 :: a33 :: a34 :: a35 :: a36 :: a37 :: a38 :: l).toArray[38]? = some a38 := rfl
theorem opAt39 {a0 a1 a2 a3 a4 a5 a6 a7 a8 a9 a10 a11 a12 a13 a14 a15 a16 a17 a18 a19 a20 a21 a22 a23 a24 a25 a26 a27 a28 a29 a30 a31 a32 a33 a34 a35 a36 a37 a38 a39 : Oper} {l : List Oper} : (a0 :: a1 :: a2 :: a3 :: a4 :: a5 :: a6 :: a7 :: a8 :: a9 :: a10 :: a11 :: a12 :: a13 :: a14 :: a15 :: a16 :: a17 :: a18 :: a19 :: a20 :: a21 :: a22 :: a23 :: a24 :: a25 :: a26 :: a27 :: a28 :: a29 :: a30 :: a31 :: a32 :: a33 :: a34 :: a35 :: a36 :: a37 :: a38 :: a39 :: l).toArray[39]? = some a39 := rfl
theorem opAt40 {a0 a1 a2 a3 a4 a5 a6 a7 a8 a9 a10 a11 a12 a13 a14 a15 a16 a17 a18 a19 a20 a21 a22 a23 a24 a25 a26 a27 a28 a29 a30 a31 a32 a33 a34 a35 a36 a37 a38 a39 a40 : Oper} {l : List Oper} : (a0 :: a1 :: a2 :: a3 :: a4 :: a5 :: a6 :: a7 :: a8 :: a9 :: a10 :: a11 :: a12 :: a13 :: a14 :: a15 :: a16 :: a17 :: a18 :: a19 :: a20 :: a21 :: a22 :: a23 :: a24 :: a25 :: a26 :: a27 :: a28 :: a29 :: a30 :: a31 :: a32 :: a33 :: a34 :: a35 :: a36 :: a37 :: a38 :: a39 :: a40 :: l).toArray[40]? = some a40 := rfl
theorem opAt41 {a0 a1 a2 a3 a4 a5 a6 a7 a8 a9 a10 a11 a12 a13 a14 a15 a16 a17 a18 a19 a20 a21 a22 a23 a24 a25 a26 a27 a28 a29 a30 a31 a32 a33 a34 a35 a36 a37 a38 a39 a40 a41 : Oper} {l : List Oper} : (a0 :: a1 :: a2 :: a3 :: a4 :: a5 :: a6 :: a7 :: a8 :: a9 :: a10 :: a11 :: a12 :: a13 :: a14 :: a15 :: a16 :: a17 :: a18 :: a19 :: a20 :: a21 :: a22 :: a23 :: a24 :: a25 :: a26 :: a27 :: a28 :: a29 :: a30 :: a31 :: a32 :: a33 :: a34 :: a35 :: a36 :: a37 :: a38 :: a39 :: a40 :: a41 :: l).toArray[41]? = some a41 := rfl
theorem opAt42 {a0 a1 a2 a3 a4 a5 a6 a7 a8 a9 a10 a11 a12 a13 a14 a15 a16 a17 a18 a19 a20 a21 a22 a23 a24 a25 a26 a27 a28 a29 a30 a31 a32 a33 a34 a35 a36 a37 a38 a39 a40 a41 a42 : Oper} {l : List Oper} : (a0 :: a1 :: a2 :: a3 :: a4 :: a5 :: a6 :: a7 :: a8 :: a9 :: a10 :: a11 :: a12 :: a13 :: a14 :: a15 :: a16 :: a17 :: a18 :: a19 :: a20 :: a21 :: a22 :: a23 :: a24 :: a25 :: a26 :: a27 :: a28 :: a29 :: a30 :: a31 :: a32 :: a33 :: a34 :: a35 :: a36 :: a37 :: a38 :: a39 :: a40 :: a41 :: a42 :: l).toArray[42]? = some a42 := rfl
theorem opAt43 {a0 a1 a2 a3 a4 a5 a6 a7 a8 a9 a10 a11 a12 a13 a14 a15 a16 a17 a18 a19 a20 a21 a22 a23 a24 a25 a26 a27 a28 a29 a30 a31 a32 a33 a34 a35 a36 a37 a38 a39 a40 a41 a42 a43 : Oper} {l : List Oper} : (a0 :: a1 :: a2 :: a3 :: a4 :: a5 :: a6 :: a7 :: a8 :: a9 :: a10 :: a11 :: a12 :: a13 :: a14 :: a15 :: a16 :: a17 :: a18 :: a19 :: a20 :: a21 :: a22 :: a23 :: a24 :: a25 :: a26 :: a27 :: a28 :: a29 :: a30 :: a31 :: a32 :: a33 :: a34 :: a35 :: a36 :: a37 :: a38 :: a39 :: a40 :: a41 :: a42 :: a43 :: l).toArray[43]? = some a43 := rfl
theorem opAt44 {a0 a1 a2 a3 a4 a5 a6 a7 a8 a9 a10 a11 a12 a13 a14 a15 a16 a17 a18 a19 a20 a21 a22 a23 a24 a25 a26 a27 a28 a29 a30 a31 a32 a33 a34 a35 a36 a37 a38 a39 a40 a41 a42 a43 a44 : Oper} {l : List Oper} : (a0 :: a1 :: a2 :: a3 :: a4 :: a5 :: a6 :: a7 :: a8 :: a9 :: a10 :: a11 :: a12 :: a13 :: a14 :: a15 :: a16 :: a17 :: a18 :: a19 :: a20 :: a21 :: a22 :: a23 :: a24 :: a25 :: a26 :: a27 :: a28 :: a29 :: a30 :: a31 :: a32 :: a33 :: a34 :: a35 :: a36 :: a37 :: a38 :: a39 :: a40 :: a41 :: a42 :: a43 :: a44 :: l).toArray[44]? = some a44 := rfl
theorem opAt45 {a0 a1 a2 a3 a4 a5 a6 a7 a8 a9 a10 a11 a12 a13 a14 a15 a16 a17 a18 a19 a20 a21 a22 a23 a24 a25 a26 a27 a28 a29 a30 a31 a32 a33 a34 a35 a36 a37 a38 a39 a40 a41 a42 a43 a44 a45 : Oper} {l : List Oper} : (a0 :: a1 :: a2 :: a3 :: a4 :: a5 :: a6 :: a7 :: a8 :: a9 :: a10 :: a11 :: a12 :: a13 :: a14 :: a15 :: a16 :: a17 :: a18 :: a19 :: a20 :: a21 :: a22 :: a23 :: a24 :: a25 :: a26 :: a27 :: a28 :: a29 :: a30 :: a31 :: a32 :: a33 :: a34 :: a35 :: a36 :: a37 :: a38 :: a39 :: a40 :: a41 :: a42 :: a43 :: a44 :: a45 :: l).toArray[45]? = some a45 := rfl
theorem opAt46 {a0 a1 a2 a3 a4 a5 a6 a7 a8 a9 a10 a11 a12 a13 a14 a15 a16 a17 a18 a19 a20 a21 a22 a23 a24 a25 a26 a27 a28 a29 a30 a31 a32 a33 a34 a35 a36 a37 a38 a39 a40 a41 a42 a43 a44 a45 a46 : Oper} {l : List Oper} : (a0 :: a1 :: a2 :: a3 :: a4 :: a5 :: a6 :: a7 :: a8 :: a9 :: a10 :: a11 :: a12 :: a13 :: a14 :: a15 :: a16 :: a17 :: a18 :: a19 :: a20 :: a21 :: a22 :: a23 :: a24 :: a25 :: a26 :: a27 :: a28 :: a29 :: a30 :: a31 :: a32 :: a33 :: a34 :: a35 :: a36 :: a37 :: a38 :: a39 :: a40 :: a41 :: a42 :: a43 :: a44 :: a45 :: a46 :: l).toArray[46]? = some a46 := rfl
theorem opAt47 {a0 a1 a2 a3 a4 a5 a6 a7 a8 a9 a10 a11 a12 a13 a14 a15 a16 a17 a18 a19 a20 a21 a22 a23 a24 a25 a26 a27 a28 a29 a30 a31 a32 a33 a34 a35 a36 a37 a38 a39 a40 a41 a42 a43 a44 a45 a46 a47 : Oper} {l : List Oper} : (a0 :: a1 :: a2 :: a3 :: a4 :: a5 :: a6 :: a7 :: a8 :: a9 :: a10 :: a11 :: a12 :: a13 :: a14 :: a15 :: a16 :: a17 :: a18 :: a19 :: a20 :: a21 :: a22 :: a23 :: a24 :: a25 :: a26 :: a27 :: a28 :: a29 :: a30 :: a31 :: a32 :: a33 :: a34 :: a35 :: a36 :: a37 :: a38 :: a39 :: a40 :: a41 :: a42 :: a43 :: a44 :: a45 :: a46 :: a47 :: l).toArray[47]? = some a47 := rfl
theorem opAt48 {a0 a1 a2 a3 a4 a5 a6 a7 a8 a9 a10 a11 a12 a13 a14 a15 a16 a17 a18 a19 a20 a21 a22 a23 a24 a25 a26 a27 a28 a29 a30 a31 a32 a33 a34 a35 a36 a37 a38 a39 a40 a41 a42 a43 a44 a45 a46 a47 a48 : Oper} {l : List Oper} : (a0 :: a1 :: a2 :: a3 :: a4 :: a5 :: a6 :: a7 :: a8 :: a9 :: a10 :: a11 :: a12 :: a13 :: a14 :: a15 :: a16 :: a17 :: a18 :: a19 :: a20 :: a21 :: a22 :: a23 :: a24 :: a25 :: a26 :: a27 :: a28 :: a29 :: a30 :: a31 :: a32 :: a33 :: a34 :: a35 :: a36 :: a37 :: a38 :: a39 :: a40 :: a41 :: a42 :: a43 :: a44 :: a45 :: a46 :: a47 :: a48 :: l).toArray[48]? = some a48 := rfl
theorem opAt49 {a0 a1 a2 a3 a4 a5 a6 a7 a8 a9 a10 a11 a12 a13 a14 a15 a16 a17 a18 a19 a20 a21 a22 a23 a24 a25 a26 a27 a28 a29 a30 a31 a32 a33 a34 a35 a36 a37 a38 a39 a40 a41 a42 a43 a44 a45 a46 a47 a48 a49 : Oper} {l : List Oper} : (a0 :: a1 :: a2 :: a3 :: a4 :: a5 :: a6 :: a7 :: a8 :: a9 :: a10 :: a11 :: a12 :: a13 :: a14 :: a15 :: a16 :: a17 :: a18 :: a19 :: a20 :: a21 :: a22 :: a23 :: a24 :: a25 :: a26 :: a27 :: a28 :: a29 :: a30 :: a31 :: a32 :: a33 :: a34 :: a35 :: a36 :: a37 :: a38 :: a39 :: a40 :: a41 :: a42 :: a43 :: a44 :: a45 :: a46 :: a47 :: a48 :: a49 :: l).toArray[49]? = some a49 := rfl
theorem opAt50 {a0 a1 a2 a3 a4 a5 a6 a7 a8 a9 a10 a11 a12 a13 a14 a15 a16 a17 a18 a19 a20 a21 a22 a23 a24 a25 a26 a27 a28 a29 a30 a31 a32 a33 a34 a35 a36 a37 a38 a39 a40 a41 a42 a43 a44 a45 a46 a47 a48 a49 a50 : Oper} {l : List Oper} : (a0 :: a1 :: a2 :: a3 :: a4 :: a5 :: a6 :: a7 :: a8 :: a9 :: a10 :: a11 :: a12 :: a13 :: a14 :: a15 :: a16 :: a17 :: a18 :: a19 :: a20 :: a21 :: a22 :: a23 :: a24 :: a25 :: a26 :: a27 :: a28 :: a29 :: a30 :: a31 :: a32 :: a33 :: a34 :: a35 :: a36 :: a37 :: a38 :: a39 :: a40 :: a41 :: a42 :: a43 :: a44 :: a45 :: a46 :: a47 :: a48 :: a49 :: a50 :: l).toArray[50]? = some a50 := rfl
theorem opAt51 {a0 a1 a2 a3 a4 a5 a6 a7 a8 a9 a10 a11 a12 a13 a14 a15 a16 a17 a18 a19 a20 a21 a22 a23 a24 a25 a26 a27 a28 a29 a30 a31 a32 a33 a34 a35 a36 a37 a38 a39 a40 a41 a42 a43 a44 a45 a46 a47 a48 a49 a50 a51 : Oper} {l : List Oper} : (a0 :: a1 :: a2 :: a3 :: a4 :: a5 :: a6 :: a7 :: a8 :: a9 :: a10 :: a11 :: a12 :: a13 :: a14 :: a15 :: a16 :: a17 :: a18 :: a19 :: a20 :: a21 :: a22 :: a23 :: a24 :: a25 :: a26 :: a27 :: a28 :: a29 :: a30 :: a31 :: a32 :: a33 :: a34 :: a35 :: a36 :: a37 :: a38 :: a39 :: a40 :: a41 :: a42 :: a43 :: a44 :: a45 :: a46 :: a47 :: a48 :: a49 :: a50 :: a51 :: l).toArray[51]? = some a51 := rfl
theorem opAt52 {a0 a1 a2 a3 a4 a5 a6 a7 a8 a9 a10 a11 a12 a13 a14 a15 a16 a17 a18 a19 a20 a21 a22 a23 a24 a25 a26 a27 a28 a29 a30 a31 a32 a33 a34 a35 a36 a37 a38 a39 a40 a41 a42 a43 a44 a45 a46 a47 a48 a49 a50 a51 a52 : Oper} {l : List Oper} : (a0 :: a1 :: a2 :: a3 :: a4 :: a5 :: a6 :: a7 :: a8 :: a9 :: a10 :: a11 :: a12 :: a13 :: a14 :: a15 :: a16 :: a17 :: a18 :: a19 :: a20 :: a21 :: a22 :: a23 :: a24 :: a25 :: a26 :: a27 :: a28 :: a29 :: a30 :: a31 :: a32 :: a33 :: a34 :: a35 :: a36 :: a37 :: a38 :: a39 :: a40 :: a41 :: a42 :: a43 :: a44 :: a45 :: a46 :: a47 :: a48 :: a49 :: a50 :: a51 :: a52 :: l).toArray[52]? = some a52 := rfl
theorem opAt53 {a0 a1 a2 a3 a4 a5 a6 a7 a8 a9 a10 a11 a12 a13 a14 a15 a16 a17 a18 a19 a20 a21 a22 a23 a24 a25 a26 a27 a28 a29 a30 a31 a32 a33 a34 a35 a36 a37 a38 a39 a40 a41 a42 a43 a44 a45 a46 a47 a48 a49 a50 a51 a52 a53 : Oper} {l : List Oper} : (a0 :: a1 :: a2 :: a3 :: a4 :: a5 :: a6 :: a7 :: a8 :: a9 :: a10 :: a11 :: a12 :: a13 :: a14 :: a15 :: a16 :: a17 :: a18 :: a19 :: a20 :: a21 :: a22 :: a23 :: a24 :: a25 :: a26 :: a27 :: a28 :: a29 :: a30 :: a31 :: a32 :: a33 :: a34 :: a35 :: a36 :: a37 :: a38 :: a39 :: a40 :: a41 :: a42 :: a43 :: a44 :: a45 :: a46 :: a47 :: a48 :: a49 :: a50 :: a51 :: a52 :: a53 :: l).toArray[53]? = some a53 := rfl
theorem opAt54 {a0 a1 a2 a3 a4 a5 a6 a7 a8 a9 a10 a11 a12 a13 a14 a15 a16 a17 a18 a19 a20 a21 a22 a23 a24 a25 a26 a27 a28 a29 a30 a31 a32 a33 a34 a35 a36 a37 a38 a39 a40 a41 a42 a43 a44 a45 a46 a47 a48 a49 a50 a51 a52 a53 a54 : Oper} {l : List Oper} : (a0 :: a1 :: a2 :: a3 :: a4 :: a5 :: a6 :: a7 :: a8 :: a9 :: a10 :: a11 :: a12 :: a13 :: a14 :: a15 :: a16 :: a17 :: a18 :: a19 :: a20 :: a21 :: a22 :: a23 :: a24 :: a25 :: a26 :: a27 :: a28 :: a29 :: a30 :: a31 :: a32 :: a33 :: a34 :: a35 :: a36 :: a37 :: a38 :: a39 :: a40 :: a41 :: a42 :: a43 :: a44 :: a45 :: a46 :: a47 :: a48 :: a49 :: a50 :: a51 :: a52 :: a53 :: a54 :: l).toArray[54]? = some a54 := rfl
theorem opAt55 {a0 a1 a2 a3 a4 a5 a6 a7 a8 a9 a10 a11 a12 a13 a14 a15 a16 a17 a18 a19 a20 a21 a22 a23 a24 a25 a26 a27 a28 a29 a30 a31 a32 a33 a34 a35 a36 a37 a38 a39 a40 a41 a42 a43 a44 a45 a46 a47 a48 a49 a50 a51 a52 a53 a54 a55 : Oper} {l : List Oper} : (a0 :: a1 :: a2 :: a3 :: a4 :: a5 :: a6 :: a7 :: a8 :: a9 :: a10 :: a11 :: a12 :: a13 :: a14 :: a15 :: a16 :: a17 :: a18 :: a19 :: a20 :: a21 :: a22 :: a23 :: a24 :: a25 :: a26 :: a27 :: a28 :: a29 :: a30 :: a31 :: a32 :: a33 :: a34 :: a35 :: a36 :: a37 :: a38 :: a39 :: a40 :: a41 :: a42 :: a43 :: a44 :: a45 :: a46 :: a47 :: a48 :: a49 :: a50 :: a51 :: a52 :: a53 :: a54 :: a55 :: l).toArray[55]? = some a55 := rfl
theorem opAt56 {a0 a1 a2 a3 a4 a5 a6 a7 a8 a9 a10 a11 a12 a13 a14 a15 a16 a17 a18 a19 a20 a21 a22 a23 a24 a25 a26 a27 a28 a29 a30 a31 a32 a33 a34 a35 a36 a37 a38 a39 a40 a41 a42 a43 a44 a45 a46 a47 a48 a49 a50 a51 a52 a53 a54 a55 a56 : Oper} {l : List Oper} : (a0 :: a1 :: a2 :: a3 :: a4 :: a5 :: a6 :: a7 :: a8 :: a9 :: a10 :: a11 :: a12 :: a13 :: a14 :: a15 :: a16 :: a17 :: a18 :: a19 :: a20 :: a21 :: a22 :: a23 :: a24 :: a25 :: a26 :: a27 :: a28 :: a29 :: a30 :: a31 :: a32 :: a33 :: a34 :: a35 :: a36 :: a37 :: a38 :: a39 :: a40 :: a41 :: a42 :: a43 :: a44 :: a45 :: a46 :: a47 :: a48 :: a49 :: a50 :: a51 :: a52 :: a53 :: a54 :: a55 :: a56 :: l).toArray[56]? = some a56 := rfl
theorem opAt57 {a0 a1 a2 a3 a4 a5 a6 a7 a8 a9 a10 a11 a12 a13 a14 a15 a16 a17 a18 a19 a20 a21 a22 a23 a24 a25 a26 a27 a28 a29 a30 a31 a32 a33 a34 a35 a36 a37 a38 a39 a40 a41 a42 a43 a44 a45 a46 a47 a48 a49 a50 a51 a52 a53 a54 a55 a56 a57 : Oper} {l : List Oper} : (a0 :: a1 :: a2 :: a3 :: a4 :: a5 :: a6 :: a7 :: a8 :: a9 :: a10 :: a11 :: a12 :: a13 :: a14 :: a15 :: a16 :: a17 :: a18 :: a19 :: a20 :: a21 :: a22 :: a23 :: a24 :: a25 :: a26 :: a27 :: a28 :: a29 :: a30 :: a31 :: a32 :: a33 :: a34 :: a35 :: a36 :: a37 :: a38 :: a39 :: a40 :: a41 :: a42 :: a43 :: a44 :: a45 :: a46 :: a47 :: a48 :: a49 :: a50 :: a51 :: a52 :: a53 :: a54 :: a55 :: a56 :: a57 :: l).toArray[57]? = some a57 := rfl
theorem opAt58 {a0 a1 a2 a3 a4 a5 a6 a7 a8 a9 a10 a11 a12 a13 a14 a15 a16 a17 a18 a19 a20 a21 a22 a23 a24 a25 a26 a27 a28 a29 a30 a31 a32 a33 a34 a35 a36 a37 a38 a39 a40 a41 a42 a43 a44 a45 a46 a47 a48 a49 a50 a51 a52 a53 a54 a55 a56 a57 a58 : Oper} {l : List Oper} : (a0 :: a1 :: a2 :: a3 :: a4 :: a5 :: a6 :: a7 :: a8 :: a9 :: a10 :: a11 :: a12 :: a13 :: a14 :: a15 :: a16 :: a17 :: a18 :: a19 :: a20 :: a21 :: a22 :: a23 :: a24 :: a25 :: a26 :: a27 :: a28 :: a29 :: a30 :: a31 :: a32 :: a33 :: a34 :: a35 :: a36 :: a37 :: a38 :: a39 :: a40 :: a41 :: a42 :: a43 :: a44 :: a45 :: a46 :: a47 :: a48 :: a49 :: a50 :: a51 :: a52 :: a53 :: a54 :: a55 :: a56 :: a57 :: a58 :: l).toArray[58]? = some a58 := rfl
theorem opAt59 {a0 a1 a2 a3 a4 a5 a6 a7 a8 a9 a10 a11 a12 a13 a14 a15 a16 a17 a18 a19 a20 a21 a22 a23 a24 a25 a26 a27 a28 a29 a30 a31 a32 a33 a34 a35 a36 a37 a38 a39 a40 a41 a42 a43 a44 a45 a46 a47 a48 a49 a50 a51 a52 a53 a54 a55 a56 a57 a58 a59 : Oper} {l : List Oper} : (a0 :: a1 :: a2 :: a3 :: a4 :: a5 :: a6 :: a7 :: a8 :: a9 :: a10 :: a11 :: a12 :: a13 :: a14 :: a15 :: a16 :: a17 :: a18 :: a19 :: a20 :: a21 :: a22 :: a23 :: a24 :: a25 :: a26 :: a27 :: a28 :: a29 :: a30 :: a31 :: a32 :: a33 :: a34 :: a35 :: a36 :: a37 :: a38 :: a39 :: a40 :: a41 :: a42 :: a43 :: a44 :: a45 :: a46 :: a47 :: a48 :: a49 :: a50 :: a51 :: a52 :: a53 :: a54 :: a55 :: a56 :: a57 :: a58 :: a59 :: l).toArray[59]? = some a59 := rfl
theorem opAt60 {a0 a1 a2 a3 a4 a5 a6 a7 a8 a9 a10 a11 a12 a13 a14 a15 a16 a17 a18 a19 a20 a21 a22 a23 a24 a25 a26 a27 a28 a29 a30 a31 a32 a33 a34 a35 a36 a37 a38 a39 a40 a41 a42 a43 a44 a45 a46 a47 a48 a49 a50 a51 a52 a53 a54 a55 a56 a57 a58 a59 a60 : Oper} {l : List Oper} : (a0 :: a1 :: a2 :: a3 :: a4 :: a5 :: a6 :: a7 :: a8 :: a9 :: a10 :: a11 :: a12 :: a13 :: a14 :: a15 :: a16 :: a17 :: a18 :: a19 :: a20 :: a21 :: a22 :: a23 :: a24 :: a25 :: a26 :: a27 :: a28 :: a29 :: a30 :: a31 :: a32 :: a33 :: a34 :: a35 :: a36 :: a37 :: a38 :: a39 :: a40 :: a41 :: a42 :: a43 :: a44 :: a45 :: a46 :: a47 :: a48 :: a49 :: a50 :: a51 :: a52 :: a53 :: a54 :: a55 :: a56 :: a57 :: a58 :: a59 :: a60 :: l).toArray[60]? = some a60 := rfl
theorem opAt61 {a0 a1 a2 a3 a4 a5 a6 a7 a8 a9 a10 a11 a12 a13 a14 a15 a16 a17 a18 a19 a20 a21 a22 a23 a24 a25 a26 a27 a28 a29 a30 a31 a32 a33 a34 a35 a36 a37 a38 a39 a40 a41 a42 a43 a44 a45 a46 a47 a48 a49 a50 a51 a52 a53 a54 a55 a56 a57 a58 a59 a60 a61 : Oper} {l : List Oper} : (a0 :: a1 :: a2 :: a3 :: a4 :: a5 :: a6 :: a7 :: a8 :: a9 :: a10 :: a11 :: a12 :: a13 :: a14 :: a15 :: a16 :: a17 :: a18 :: a19 :: a20 :: a21 :: a22 :: a23 :: a24 :: a25 :: a26 :: a27 :: a28 :: a29 :: a30 :: a31 :: a32 :: a33 :: a34 :: a35 :: a36 :: a37 :: a38 :: a39 :: a40 :: a41 :: a42 :: a43 :: a44 :: a45 :: a46 :: a47 :: a48 :: a49 :: a50 :: a51 :: a52 :: a53 :: a54 :: a55 :: a56 :: a57 :: a58 :: a59 :: a60 :: a61 :: l).toArray[61]? = some a61 := rfl
theorem opAt62 {a0 a1 a2 a3 a4 a5 a6 a7 a8 a9 a10 a11 a12 a13 a14 a15 a16 a17 a18 a19 a20 a21 a22 a23 a24 a25 a26 a27 a28 a29 a30 a31 a32 a33 a34 a35 a36 a37 a38 a39 a40 a41 a42 a43 a44 a45 a46 a47 a48 a49 a50 a51 a52 a53 a54 a55 a56 a57 a58 a59 a60 a61 a62 : Oper} {l : List Oper} : (a0 :: a1 :: a2 :: a3 :: a4 :: a5 :: a6 :: a7 :: a8 :: a9 :: a10 :: a11 :: a12 :: a13 :: a14 :: a15 :: a16 :: a17 :: a18 :: a19 :: a20 :: a21 :: a22 :: a23 :: a24 :: a25 :: a26 :: a27 :: a28 :: a29 :: a30 :: a31 :: a32 :: a33 :: a34 :: a35 :: a36 :: a37 :: a38 :: a39 :: a40 :: a41 :: a42 :: a43 :: a44 :: a45 :: a46 :: a47 :: a48 :: a49 :: a50 :: a51 :: a52 :: a53 :: a54 :: a55 :: a56 :: a57 :: a58 :: a59 :: a60 :: a61 :: a62 :: l).toArray[62]? = some a62 := rfl
theorem opAt63 {a0 a1 a2 a3 a4 a5 a6 a7 a8 a9 a10 a11 a12 a13 a14 a15 a16 a17 a18 a19 a20 a21 a22 a23 a24 a25 a26 a27 a28 a29 a30 a31 a32 a33 a34 a35 a36 a37 a38 a39 a40 a41 a42 a43 a44 a45 a46 a47 a48 a49 a50 a51 a52 a53 a54 a55 a56 a57 a58 a59 a60 a61 a62 a63 : Oper} {l : List Oper} : (a0 :: a1 :: a2 :: a3 :: a4 :: a5 :: a6 :: a7 :: a8 :: a9 :: a10 :: a11 :: a12 :: a13 :: a14 :: a15 :: a16 :: a17 :: a18 :: a19 :: a20 :: a21 :: a22 :: a23 :: a24 :: a25 :: a26 :: a27 :: a28 :: a29 :: a30 :: a31 :: a32 :: a33 :: a34 :: a35 :: a36 :: a37 :: a38 :: a39 :: a40 :: a41 :: a42 :: a43 :: a44 :: a45 :: a46 :: a47 :: a48 :: a49 :: a50 :: a51 :: a52 :: a53 :: a54 :: a55 :: a56 :: a57 :: a58 :: a59 :: a60 :: a61 :: a62 :: a63 :: l).toArray[63]? = some a63 := rfl
theorem opAt64 {a0 a1 a2 a3 a4 a5 a6 a7 a8 a9 a10 a11 a12 a13 a14 a15 a16 a17 a18 a19 a20 a21 a22 a23 a24 a25 a26 a27 a28 a29 a30 a31 a32 a33 a34 a35 a36 a37 a38 a39 a40 a41 a42 a43 a44 a45 a46 a47 a48 a49 a50 a51 a52 a53 a54 a55 a56 a57 a58 a59 a60 a61 a62 a63 a64 : Oper} {l : List Oper} : (a0 :: a1 :: a2 :: a3 :: a4 :: a5 :: a6 :: a7 :: a8 :: a9 :: a10 :: a11 :: a12 :: a13 :: a14 :: a15 :: a16 :: a17 :: a18 :: a19 :: a20 :: a21 :: a22 :: a23 :: a24 :: a25 :: a26 :: a27 :: a28 :: a29 :: a30 :: a31 :: a32 :: a33 :: a34 :: a35 :: a36 :: a37 :: a38 :: a39 :: a40 :: a41 :: a42 :: a43 :: a44 :: a45 :: a46 :: a47 :: a48 :: a49 :: a50 :: a51 :: a52 :: a53 :: a54 :: a55 :: a56 :: a57 :: a58 :: a59 :: a60 :: a61 :: a62 :: a63 :: a64 :: l).toArray[64]? = some a64 := rfl
theorem opAt65 {a0 a1 a2 a3 a4 a5 a6 a7 a8 a9 a10 a11 a12 a13 a14 a15 a16 a17 a18 a19 a20 a21 a22 a23 a24 a25 a26 a27 a28 a29 a30 a31 a32 a33 a34 a35 a36 a37 a38 a39 a40 a41 a42 a43 a44 a45 a46 a47 a48 a49 a50 a51 a52 a53 a54 a55 a56 a57 a58 a59 a60 a61 a62 a63 a64 a65 : Oper} {l : List Oper} : (a0 :: a1 :: a2 :: a3 :: a4 :: a5 :: a6 :: a7 :: a8 :: a9 :: a10 :: a11 :: a12 :: a13 :: a14 :: a15 :: a16 :: a17 :: a18 :: a19 :: a20 :: a21 :: a22 :: a23 :: a24 :: a25 :: a26 :: a27 :: a28 :: a29 :: a30 :: a31 :: a32 :: a33 :: a34 :: a35 :: a36 :: a37 :: a38 :: a39 :: a40 :: a41 :: a42 :: a43 :: a44 :: a45 :: a46 :: a47 :: a48 :: a49 :: a50 :: a51 :: a52 :: a53 :: a54 :: a55 :: a56 :: a57 :: a58 :: a59 :: a60 :: a61 :: a62 :: a63 :: a64 :: a65 :: l).toArray[65]? = some a65 := rfl
theorem opAt66 {a0 a1 a2 a3 a4 a5 a6 a7 a8 a9 a10 a11 a12 a13 a14 a15 a16 a17 a18 a19 a20 a21 a22 a23 a24 a25 a26 a27 a28 a29 a30 a31 a32 a33 a34 a35 a36 a37 a38 a39 a40 a41 a42 a43 a44 a45 a46 a47 a48 a49 a50 a51 a52 a53 a54 a55 a56 a57 a58 a59 a60 a61 a62 a63 a64 a65 a66 : Oper} {l : List Oper} : (a0 :: a1 :: a2 :: a3 :: a4 :: a5 :: a6 :: a7 :: a8 :: a9 :: a10 :: a11 :: a12 :: a13 :: a14 :: a15 :: a16 :: a17 :: a18 :: a19 :: a20 :: a21 :: a22 :: a23 :: a24 :: a25 :: a26 :: a27 :: a28 :: a29 :: a30 :: a31 :: a32 :: a33 :: a34 :: a35 :: a36 :: a37 :: a38 :: a39 :: a40 :: a41 :: a42 :: a43 :: a44 :: a45 :: a46 :: a47 :: a48 :: a49 :: a50 :: a51 :: a52 :: a53 :: a54 :: a55 :: a56 :: a57 :: a58 :: a59 :: a60 :: a61 :: a62 :: a63 :: a64 :: a65 :: a66 :: l).toArray[66]? = some a66 := rfl
theorem opAt67 {a0 a1 a2 a3 a4 a5 a6 a7 a8 a9 a10 a11 a12 a13 a14 a15 a16 a17 a18 a19 a20 a21 a22 a23 a24 a25 a26 a27 a28 a29 a30 a31 a32 a33 a34 a35 a36 a37 a38 a39 a40 a41 a42 a43 a44 a45 a46 a47 a48 a49 a50 a51 a52 a53 a54 a55 a56 a57 a58 a59 a60 a61 a62 a63 a64 a65 a66 a67 : Oper} {l : List Oper} : (a0 :: a1 :: a2 :: a3 :: a4 :: a5 :: a6 :: a7 :: a8 :: a9 :: a10 :: a11 :: a12 :: a13 :: a14 :: a15 :: a16 :: a17 :: a18 :: a19 :: a20 :: a21 :: a22 :: a23 :: a24 :: a25 :: a26 :: a27 :: a28 :: a29 :: a30 :: a31 :: a32 :: a33 :: a34 :: a35 :: a36 :: a37 :: a38 :: a39 :: a40 :: a41 :: a42 :: a43 :: a44 :: a45 :: a46 :: a47 :: a48 :: a49 :: a50 :: a51 :: a52 :: a53 :: a54 :: a55 :: a56 :: a57 :: a58 :: a59 :: a60 :: a61 :: a62 :: a63 :: a64 :: a65 :: a66 :: a67 :: l).toArray[67]? = some a67 := rfl
theorem opAt68 {a0 a1 a2 a3 a4 a5 a6 a7 a8 a9 a10 a11 a12 a13 a14 a15 a16 a17 a18 a19 a20 a21 a22 a23 a24 a25 a26 a27 a28 a29 a30 a31 a32 a33 a34 a35 a36 a37 a38 a39 a40 a41 a42 a43 a44 a45 a46 a47 a48 a49 a50 a51 a52 a53 a54 a55 a56 a57 a58 a59 a60 a61 a62 a63 a64 a65 a66 a67 a68 : Oper} {l : List Oper} : (a0 :: a1 :: a2 :: a3 :: a4 :: a5 :: a6 :: a7 :: a8 :: a9 :: a10 :: a11 :: a12 :: a13 :: a14 :: a15 :: a16 :: a17 :: a18 :: a19 :: a20 :: a21 :: a22 :: a23 :: a24 :: a25 :: a26 :: a27 :: a28 :: a29 :: a30 :: a31 :: a32 :: a33 :: a34 :: a35 :: a36 :: a37 :: a38 :: a39 :: a40 :: a41 :: a42 :: a43 :: a44 :: a45 :: a46 :: a47 :: a48 :: a49 :: a50 :: a51 :: a52 :: a53 :: a54 :: a55 :: a56 :: a57 :: a58 :: a59 :: a60 :: a61 :: a62 :: a63 :: a64 :: a65 :: a66 :: a67 :: a68 :: l).toArray[68]? = some a68 := rfl
theorem opAt69 {a0 a1 a2 a3 a4 a5 a6 a7 a8 a9 a10 a11 a12 a13 a14 a15 a16 a17 a18 a19 a20 a21 a22 a23 a24 a25 a26 a27 a28 a29 a30 a31 a32 a33 a34 a35 a36 a37 a38 a39 a40 a41 a42 a43 a44 a45 a46 a47 a48 a49 a50 a51 a52 a53 a54 a55 a56 a57 a58 a59 a60 a61 a62 a63 a64 a65 a66 a67 a68 a69 : Oper} {l : List Oper} : (a0 :: a1 :: a2 :: a3 :: a4 :: a5 :: a6 :: a7 :: a8 :: a9 :: a10 :: a11 :: a12 :: a13 :: a14 :: a15 :: a16 :: a17 :: a18 :: a19 :: a20 :: a21 :: a22 :: a23 :: a24 :: a25 :: a26 :: a27 :: a28 :: a29 :: a30 :: a31 :: a32 :: a33 :: a34 :: a35 :: a36 :: a37 :: a38 :: a39 :: a40 :: a41 :: a42 :: a43 :: a44 :: a45 :: a46 :: a47 :: a48 :: a49 :: a50 :: a51 :: a52 :: a53 :: a54 :: a55 :: a56 :: a57 :: a58 :: a59 :: a60 :: a61 :: a62 :: a63 :: a64 :: a65 :: a66 :: a67 :: a68 :: a69 :: l).toArray[69]? = some a69 := rfl
theorem opAt70 {a0 a1 a2 a3 a4 a5 a6 a7 a8 a9 a10 a11 a12 a13 a14 a15 a16 a17 a18 a19 a20 a21 a22 a23 a24 a25 a26 a27 a28 a29 a30 a31 a32 a33 a34 a35 a36 a37 a38 a39 a40 a41 a42 a43 a44 a45 a46 a47 a48 a49 a50 a51 a52 a53 a54 a55 a56 a57 a58 a59 a60 a61 a62 a63 a64 a65 a66 a67 a68 a69 a70 : Oper} {l : List Oper} : (a0 :: a1 :: a2 :: a3 :: a4 :: a5 :: a6 :: a7 :: a8 :: a9 :: a10 :: a11 :: a12 :: a13 :: a14 :: a15 :: a16 :: a17 :: a18 :: a19 :: a20 :: a21 :: a22 :: a23 :: a24 :: a25 :: a26 :: a27 :: a28 :: a29 :: a30 :: a31 :: a32 :: a33 :: a34 :: a35 :: a36 :: a37 :: a38 :: a39 :: a40 :: a41 :: a42 :: a43 :: a44 :: a45 :: a46 :: a47 :: a48 :: a49 :: a50 :: a51 :: a52 :: a53 :: a54 :: a55 :: a56 :: a57 :: a58 :: a59 :: a60 :: a61 :: a62 :: a63 :: a64 :: a65 :: a66 :: a67 :: a68 :: a69 :: a70 :: l).toArray[70]? = some a70 := rfl
theorem opAt71 {a0 a1 a2 a3 a4 a5 a6 a7 a8 a9 a10 a11 a12 a13 a14 a15 a16 a17 a18 a19 a20 a21 a22 a23 a24 a25 a26 a27 a28 a29 a30 a31 a32 a33 a34 a35 a36 a37 a38 a39 a40 a41 a42 a43 a44 a45 a46 a47 a48 a49 a50 a51 a52 a53 a54 a55 a56 a57 a58 a59 a60 a61 a62 a63 a64 a65 a66 a67 a68 a69 a70 a71 : Oper} {l : List Oper} : (a0 :: a1 :: a2 :: a3 :: a4 :: a5 :: a6 :: a7 :: a8 :: a9 :: a10 :: a11 :: a12 :: a13 :: a14 :: a15 :: a16 :: a17 :: a18 :: a19 :: a20 :: a21 :: a22 :: a23 :: a24 :: a25 :: a26 :: a27 :: a28 :: a29 :: a30 :: a31 :: a32 :: a33 :: a34 :: a35 :: a36 :: a37 :: a38 :: a39 :: a40 :: a41 :: a42 :: a43 :: a44 :: a45 :: a46 :: a47 :: a48 :: a49 :: a50 :: a51 :: a52 :: a53 :: a54 :: a55 :: a56 :: a57 :: a58 :: a59 :: a60 :: a61 :: a62 :: a63 :: a64 :: a65 :: a66 :: a67 :: a68 :: a69 :: a70 :: a71 :: l).toArray[71]? = some a71 := rfl
theorem opAt72 {a0 a1 a2 a3 a4 a5 a6 a7 a8 a9 a10 a11 a12 a13 a14 a15 a16 a17 a18 a19 a20 a21 a22 a23 a24 a25 a26 a27 a28 a29 a30 a31 a32 a33 a34 a35 a36 a37 a38 a39 a40 a41 a42 a43 a44 a45 a46 a47 a48 a49 a50 a51 a52 a53 a54 a55 a56 a57 a58 a59 a60 a61 a62 a63 a64 a65 a66 a67 a68 a69 a70 a71 a72 : Oper} {l : List Oper} : (a0 :: a1 :: a2 :: a3 :: a4 :: a5 :: a6 :: a7 :: a8 :: a9 :: a10 :: a11 :: a12 :: a13 :: a14 :: a15 :: a16 :: a17 :: a18 :: a19 :: a20 :: a21 :: a22 :: a23 :: a24 :: a25 :: a26 :: a27 :: a28 :: a29 :: a30 :: a31 :: a32 :: a33 :: a34 :: a35 :: a36 :: a37 :: a38 :: a39 :: a40 :: a41 :: a42 :: a43 :: a44 :: a45 :: a46 :: a47 :: a48 :: a49 :: a50 :: a51 :: a52 :: a53 :: a54 :: a55 :: a56 :: a57 :: a58 :: a59 :: a60 :: a61 :: a62 :: a63 :: a64 :: a65 :: a66 :: a67 :: a68 :: a69 :: a70 :: a71 :: a72 :: l).toArray[72]? = some a72 := rfl
theorem opAt73 {a0 a1 a2 a3 a4 a5 a6 a7 a8 a9 a10 a11 a12 a13 a14 a15 a16 a17 a18 a19 a20 a21 a22 a23 a24 a25 a26 a27 a28 a29 a30 a31 a32 a33 a34 a35 a36 a37 a38 a39 a40 a41 a42 a43 a44 a45 a46 a47 a48 a49 a50 a51 a52 a53 a54 a55 a56 a57 a58 a59 a60 a61 a62 a63 a64 a65 a66 a67 a68 a69 a70 a71 a72 a73 : Oper} {l : List Oper} : (a0 :: a1 :: a2 :: a3 :: a4 :: a5 :: a6 :: a7 :: a8 :: a9 :: a10 :: a11 :: a12 :: a13 :: a14 :: a15 :: a16 :: a17 :: a18 :: a19 :: a20 :: a21 :: a22 :: a23 :: a24 :: a25 :: a26 :: a27 :: a28 :: a29 :: a30 :: a31 :: a32 :: a33 :: a34 :: a35 :: a36 :: a37 :: a38 :: a39 :: a40 :: a41 :: a42 :: a43 :: a44 :: a45 :: a46 :: a47 :: a48 :: a49 :: a50 :: a51 :: a52 :: a53 :: a54 :: a55 :: a56 :: a57 :: a58 :: a59 :: a60 :: a61 :: a62 :: a63 :: a64 :: a65 :: a66 :: a67 :: a68 :: a69 :: a70 :: a71 :: a72 :: a73 :: l).toArray[73]? = some a73 := rfl
theorem opAt74 {a0 a1 a2 a3 a4 a5 a6 a7 a8 a9 a10 a11 a12 a13 a14 a15 a16 a17 a18 a19 a20 a21 a22 a23 a24 a25 a26 a27 a28 a29 a30 a31 a32 a33 a34 a35 a36 a37 a38 a39 a40 a41 a42 a43 a44 a45 a46 a47 a48 a49 a50 a51 a52 a53 a54 a55 a56 a57 a58 a59 a60 a61 a62 a63 a64 a65 a66 a67 a68 a69 a70 a71 a72 a73 a74 : Oper} {l : List Oper} : (a0 :: a1 :: a2 :: a3 :: a4 :: a5 :: a6 :: a7 :: a8 :: a9 :: a10 :: a11 :: a12 :: a13 :: a14 :: a15 :: a16 :: a17 :: a18 :: a19 :: a20 :: a21 :: a22 :: a23 :: a24 :: a25 :: a26 :: a27 :: a28 :: a29 :: a30 :: a31 :: a32 :: a33 :: a34 :: a35 :: a36 :: a37 :: a38 :: a39 :: a40 :: a41 :: a42 :: a43 :: a44 :: a45 :: a46 :: a47 :: a48 :: a49 :: a50 :: a51 :: a52 :: a53 :: a54 :: a55 :: a56 :: a57 :: a58 :: a59 :: a60 :: a61 :: a62 :: a63 :: a64 :: a65 :: a66 :: a67 :: a68 :: a69 :: a70 :: a71 :: a72 :: a73 :: a74 :: l).toArray[74]? = some a74 := rfl
theorem opAt75 {a0 a1 a2 a3 a4 a5 a6 a7 a8 a9 a10 a11 a12 a13 a14 a15 a16 a17 a18 a19 a20 a21 a22 a23 a24 a25 a26 a27 a28 a29 a30 a31 a32 a33 a34 a35 a36 a37 a38 a39 a40 a41 a42 a43 a44 a45 a46 a47 a48 a49 a50 a51 a52 a53 a54 a55 a56 a57 a58 a59 a60 a61 a62 a63 a64 a65 a66 a67 a68 a69 a70 a71 a72 a73 a74 a75 : Oper} {l : List Oper} : (a0 :: a1 :: a2 :: a3 :: a4 :: a5 :: a6 :: a7 :: a8 :: a9 :: a10 :: a11 :: a12 :: a13 :: a14 :: a15 :: a16 :: a17 :: a18 :: a19 :: a20 :: a21 :: a22 :: a23 :: a24 :: a25 :: a26 :: a27 :: a28 :: a29 :: a30 :: a31 :: a32 :: a33 :: a34 :: a35 :: a36 :: a37 :: a38 :: a39 :: a40 :: a41 :: a42 :: a43 :: a44 :: a45 :: a46 :: a47 :: a48 :: a49 :: a50 :: a51 :: a52 :: a53 :: a54 :: a55 :: a56 :: a57 :: a58 :: a59 :: a60 :: a61 :: a62 :: a63 :: a64 :: a65 :: a66 :: a67 :: a68 :: a69 :: a70 :: a71 :: a72 :: a73 :: a74 :: a75 :: l).toArray[75]? = some a75 := rfl
theorem opAt76 {a0 a1 a2 a3 a4 a5 a6 a7 a8 a9 a10 a11 a12 a13 a14 a15 a16 a17 a18 a19 a20 a21 a22 a23 a24 a25 a26 a27 a28 a29 a30 a31 a32 a33 a34 a35 a36 a37 a38 a39 a40 a41 a42 a43 a44 a45 a46 a47 a48 a49 a50 a51 a52 a53 a54 a55 a56 a57 a58 a59 a60 a61 a62 a63 a64 a65 a66 a67 a68 a69 a70 a71 a72 a73 a74 a75 a76 : Oper} {l : List Oper} : (a0 :: a1 :: a2 :: a3 :: a4 :: a5 :: a6 :: a7 :: a8 :: a9 :: a10 :: a11 :: a12 :: a13 :: a14 :: a15 :: a16 :: a17 :: a18 :: a19 :: a20 :: a21 :: a22 :: a23 :: a24 :: a25 :: a26 :: a27 :: a28 :: a29 :: a30 :: a31 :: a32 :: a33 :: a34 :: a35 :: a36 :: a37 :: a38 :: a39 :: a40 :: a41 :: a42 :: a43 :: a44 :: a45 :: a46 :: a47 :: a48 :: a49 :: a50 :: a51 :: a52 :: a53 :: a54 :: a55 :: a56 :: a57 :: a58 :: a59 :: a60 :: a61 :: a62 :: a63 :: a64 :: a65 :: a66 :: a67 :: a68 :: a69 :: a70 :: a71 :: a72 :: a73 :: a74 :: a75 :: a76 :: l).toArray[76]? = some a76 := rfl
theorem opAt77 {a0 a1 a2 a3 a4 a5 a6 a7 a8 a9 a10 a11 a12 a13 a14 a15 a16 a17 a18 a19 a20 a21 a22 a23 a24 a25 a26 a27 a28 a29 a30 a31 a32 a33 a34 a35 a36 a37 a38 a39 a40 a41 a42 a43 a44 a45 a46 a47 a48 a49 a50 a51 a52 a53 a54 a55 a56 a57 a58 a59 a60 a61 a62 a63 a64 a65 a66 a67 a68 a69 a70 a71 a72 a73 a74 a75 a76 a77 : Oper} {l : List Oper} : (a0 :: a1 :: a2 :: a3 :: a4 :: a5 :: a6 :: a7 :: a8 :: a9 :: a10 :: a11 :: a12 :: a13 :: a14 :: a15 :: a16 :: a17 :: a18 :: a19 :: a20 :: a21 :: a22 :: a23 :: a24 :: a25 :: a26 :: a27 :: a28 :: a29 :: a30 :: a31 :: a32 :: a33 :: a34 :: a35 :: a36 :: a37 :: a38 :: a39 :: a40 :: a41 :: a42 :: a43 :: a44 :: a45 :: a46 :: a47 :: a48 :: a49 :: a50 :: a51 :: a52 :: a53 :: a54 :: a55 :: a56 :: a57 :: a58 :: a59 :: a60 :: a61 :: a62 :: a63 :: a64 :: a65 :: a66 :: a67 :: a68 :: a69 :: a70 :: a71 :: a72 :: a73 :: a74 :: a75 :: a76 :: a77 :: l).toArray[77]? = some a77 := rfl
theorem opAt78 {a0 a1 a2 a3 a4 a5 a6 a7 a8 a9 a10 a11 a12 a13 a14 a15 a16 a17 a18 a19 a20 a21 a22 a23 a24 a25 a26 a27 a28 a29 a30 a31 a32 a33 a34 a35 a36 a37 a38 a39 a40 a41 a42 a43 a44 a45 a46 a47 a48 a49 a50 a51 a52 a53 a54 a55 a56 a57 a58 a59 a60 a61 a62 a63 a64 a65 a66 a67 a68 a69 a70 a71 a72 a73 a74 a75 a76 a77 a78 : Oper} {l : List Oper} : (a0 :: a1 :: a2 :: a3 :: a4 :: a5 :: a6 :: a7 :: a8 :: a9 :: a10 :: a11 :: a12 :: a13 :: a14 :: a15 :: a16 :: a17 :: a18 :: a19 :: a20 :: a21 :: a22 :: a23 :: a24 :: a25 :: a26 :: a27 :: a28 :: a29 :: a30 :: a31 :: a32 :: a33 :: a34 :: a35 :: a36 :: a37 :: a38 :: a39 :: a40 :: a41 :: a42 :: a43 :: a44 :: a45 :: a46 :: a47 :: a48 :: a49 :: a50 :: a51 :: a52 :: a53 :: a54 :: a55 :: a56 :: a57 :: a58 :: a59 :: a60 :: a61 :: a62 :: a63 :: a64 :: a65 :: a66 :: a67 :: a68 :: a69 :: a70 :: a71 :: a72 :: a73 :: a74 :: a75 :: a76 :: a77 :: a78 :: l).toArray[78]? = some a78 := rfl
theorem opAt79 {a0 a1 a2 a3 a4 a5 a6 a7 a8 a9 a10 a11 a12 a13 a14 a15 a16 a17 a18 a19 a20 a21 a22 a23 a24 a25 a26 a27 a28 a29 a30 a31 a32 a33 a34 a35 a36 a37 a38 a39 a40 a41 a42 a43 a44 a45 a46 a47 a48 a49 a50 a51 a52 a53 a54 a55 a56 a57 a58 a59 a60 a61 a62 a63 a64 a65 a66 a67 a68 a69 a70 a71 a72 a73 a74 a75 a76 a77 a78 a79 : Oper} {l : List Oper} : (a0 :: a1 :: a2 :: a3 :: a4 :: a5 :: a6 :: a7 :: a8 :: a9 :: a10 :: a11 :: a12 :: a13 :: a14 :: a15 :: a16 :: a17 :: a18 :: a19 :: a20 :: a21 :: a22 :: a23 :: a24 :: a25 :: a26 :: a27 :: a28 :: a29 :: a30 :: a31 :: a32 :: a33 :: a34 :: a35 :: a36 :: a37 :: a38 :: a39 :: a40 :: a41 :: a42 :: a43 :: a44 :: a45 :: a46 :: a47 :: a48 :: a49 :: a50 :: a51 :: a52 :: a53 :: a54 :: a55 :: a56 :: a57 :: a58 :: a59 :: a60 :: a61 :: a62 :: a63 :: a64 :: a65 :: a66 :: a67 :: a68 :: a69 :: a70 :: a71 :: a72 :: a73 :: a74 :: a75 :: a76 :: a77 :: a78 :: a79 :: l).toArray[79]? = some a79 := rfl
theorem opAt80 {a0 a1 a2 a3 a4 a5 a6 a7 a8 a9 a10 a11 a12 a13 a14 a15 a16 a17 a18 a19 a20 a21 a22 a23 a24 a25 a26 a27 a28 a29 a30 a31 a32 a33 a34 a35 a36 a37 a38 a39 a40 a41 a42 a43 a44 a45 a46 a47 a48 a49 a50 a51 a52 a53 a54 a55 a56 a57 a58 a59 a60 a61 a62 a63 a64 a65 a66 a67 a68 a69 a70 a71 a72 a73 a74 a75 a76 a77 a78 a79 a80 : Oper} {l : List Oper} : (a0 :: a1 :: a2 :: a3 :: a4 :: a5 :: a6 :: a7 :: a8 :: a9 :: a10 :: a11 :: a12 :: a13 :: a14 :: a15 :: a16 :: a17 :: a18 :: a19 :: a20 :: a21 :: a22 :: a23 :: a24 :: a25 :: a26 :: a27 :: a28 :: a29 :: a30 :: a31 :: a32 :: a33 :: a34 :: a35 :: a36 :: a37 :: a38 :: a39 :: a40 :: a41 :: a42 :: a43 :: a44 :: a45 :: a46 :: a47 :: a48 :: a49 :: a50 :: a51 :: a52 :: a53 :: a54 :: a55 :: a56 :: a57 :: a58 :: a59 :: a60 :: a61 :: a62 :: a63 :: a64 :: a65 :: a66 :: a67 :: a68 :: a69 :: a70 :: a71 :: a72 :: a73 :: a74 :: a75 :: a76 :: a77 :: a78 :: a79 :: a80 :: l).toArray[80]? = some a80 := rfl
theorem opAt81 {a0 a1 a2 a3 a4 a5 a6 a7 a8 a9 a10 a11 a12 a13 a14 a15 a16 a17 a18 a19 a20 a21 a22 a23 a24 a25 a26 a27 a28 a29 a30 a31 a32 a33 a34 a35 a36 a37 a38 a39 a40 a41 a42 a43 a44 a45 a46 a47 a48 a49 a50 a51 a52 a53 a54 a55 a56 a57 a58 a59 a60 a61 a62 a63 a64 a65 a66 a67 a68 a69 a70 a71 a72 a73 a74 a75 a76 a77 a78 a79 a80 a81 : Oper} {l : List Oper} : (a0 :: a1 :: a2 :: a3 :: a4 :: a5 :: a6 :: a7 :: a8 :: a9 :: a10 :: a11 :: a12 :: a13 :: a14 :: a15 :: a16 :: a17 :: a18 :: a19 :: a20 :: a21 :: a22 :: a23 :: a24 :: a25 :: a26 :: a27 :: a28 :: a29 :: a30 :: a31 :: a32 :: a33 :: a34 :: a35 :: a36 :: a37 :: a38 :: a39 :: a40 :: a41 :: a42 :: a43 :: a44 :: a45 :: a46 :: a47 :: a48 :: a49 :: a50 :: a51 :: a52 :: a53 :: a54 :: a55 :: a56 :: a57 :: a58 :: a59 :: a60 :: a61 :: a62 :: a63 :: a64 :: a65 :: a66 :: a67 :: a68 :: a69 :: a70 :: a71 :: a72 :: a73 :: a74 :: a75 :: a76 :: a77 :: a78 :: a79 :: a80 :: a81 :: l).toArray[81]? = some a81 := rfl
theorem opAt82 {a0 a1 a2 a3 a4 a5 a6 a7 a8 a9 a10 a11 a12 a13 a14 a15 a16 a17 a18 a19 a20 a21 a22 a23 a24 a25 a26 a27 a28 a29 a30 a31 a32 a33 a34 a35 a36 a37 a38 a39 a40 a41 a42 a43 a44 a45 a46 a47 a48 a49 a50 a51 a52 a53 a54 a55 a56 a57 a58 a59 a60 a61 a62 a63 a64 a65 a66 a67 a68 a69 a70 a71 a72 a73 a74 a75 a76 a77 a78 a79 a80 a81 a82 : Oper} {l : List Oper} : (a0 :: a1 :: a2 :: a3 :: a4 :: a5 :: a6 :: a7 :: a8 :: a9 :: a10 :: a11 :: a12 :: a13 :: a14 :: a15 :: a16 :: a17 :: a18 :: a19 :: a20 :: a21 :: a22 :: a23 :: a24 :: a25 :: a26 :: a27 :: a28 :: a29 :: a30 :: a31 :: a32 :: a33 :: a34 :: a35 :: a36 :: a37 :: a38 :: a39 :: a40 :: a41 :: a42 :: a43 :: a44 :: a45 :: a46 :: a47 :: a48 :: a49 :: a50 :: a51 :: a52 :: a53 :: a54 :: a55 :: a56 :: a57 :: a58 :: a59 :: a60 :: a61 :: a62 :: a63 :: a64 :: a65 :: a66 :: a67 :: a68 :: a69 :: a70 :: a71 :: a72 :: a73 :: a74 :: a75 :: a76 :: a77 :: a78 :: a79 :: a80 :: a81 :: a82 :: l).toArray[82]? = some a82 := rfl
theorem opAt83 {a0 a1 a2 a3 a4 a5 a6 a7 a8 a9 a10 a11 a12 a13 a14 a15 a16 a17 a18 a19 a20 a21 a22 a23 a24 a25 a26 a27 a28 a29 a30 a31 a32 a33 a34 a35 a36 a37 a38 a39 a40 a41 a42 a43 a44 a45 a46 a47 a48 a49 a50 a51 a52 a53 a54 a55 a56 a57 a58 a59 a60 a61 a62 a63 a64 a65 a66 a67 a68 a69 a70 a71 a72 a73 a74 a75 a76 a77 a78 a79 a80 a81 a82 a83 : Oper} {l : List Oper} : (a0 :: a1 :: a2 :: a3 :: a4 :: a5 :: a6 :: a7 :: a8 :: a9 :: a10 :: a11 :: a12 :: a13 :: a14 :: a15 :: a16 :: a17 :: a18 :: a19 :: a20 :: a21 :: a22 :: a23 :: a24 :: a25 :: a26 :: a27 :: a28 :: a29 :: a30 :: a31 :: a32 :: a33 :: a34 :: a35 :: a36 :: a37 :: a38 :: a39 :: a40 :: a41 :: a42 :: a43 :: a44 :: a45 :: a46 :: a47 :: a48 :: a49 :: a50 :: a51 :: a52 :: a53 :: a54 :: a55 :: a56 :: a57 :: a58 :: a59 :: a60 :: a61 :: a62 :: a63 :: a64 :: a65 :: a66 :: a67 :: a68 :: a69 :: a70 :: a71 :: a72 :: a73 :: a74 :: a75 :: a76 :: a77 :: a78 :: a79 :: a80 :: a81 :: a82 :: a83 :: l).toArray[83]? = some a83 := rfl
theorem opAt84 {a0 a1 a2 a3 a4 a5 a6 a7 a8 a9 a10 a11 a12 a13 a14 a15 a16 a17 a18 a19 a20 a21 a22 a23 a24 a25 a26 a27 a28 a29 a30 a31 a32 a33 a34 a35 a36 a37 a38 a39 a40 a41 a42 a43 a44 a45 a46 a47 a48 a49 a50 a51 a52 a53 a54 a55 a56 a57 a58 a59 a60 a61 a62 a63 a64 a65 a66 a67 a68 a69 a70 a71 a72 a73 a74 a75 a76 a77 a78 a79 a80 a81 a82 a83 a84 : Oper} {l : List Oper} : (a0 :: a1 :: a2 :: a3 :: a4 :: a5 :: a6 :: a7 :: a8 :: a9 :: a10 :: a11 :: a12 :: a13 :: a14 :: a15 :: a16 :: a17 :: a18 :: a19 :: a20 :: a21 :: a22 :: a23 :: a24 :: a25 :: a26 :: a27 :: a28 :: a29 :: a30 :: a31 :: a32 :: a33 :: a34 :: a35 :: a36 :: a37 :: a38 :: a39 :: a40 :: a41 :: a42 :: a43 :: a44 :: a45 :: a46 :: a47 :: a48 :: a49 :: a50 :: a51 :: a52 :: a53 :: a54 :: a55 :: a56 :: a57 :: a58 :: a59 :: a60 :: a61 :: a62 :: a63 :: a64 :: a65 :: a66 :: a67 :: a68 :: a69 :: a70 :: a71 :: a72 :: a73 :: a74 :: a75 :: a76 :: a77 :: a78 :: a79 :: a80 :: a81 :: a82 :: a83 :: a84 :: l).toArray[84]? = some a84 := rfl
theorem opAt85 {a0 a1 a2 a3 a4 a5 a6 a7 a8 a9 a10 a11 a12 a13 a14 a15 a16 a17 a18 a19 a20 a21 a22 a23 a24 a25 a26 a27 a28 a29 a30 a31 a32 a33 a34 a35 a36 a37 a38 a39 a40 a41 a42 a43 a44 a45 a46 a47 a48 a49 a50 a51 a52 a53 a54 a55 a56 a57 a58 a59 a60 a61 a62 a63 a64 a65 a66 a67 a68 a69 a70 a71 a72 a73 a74 a75 a76 a77 a78 a79 a80 a81 a82 a83 a84 a85 : Oper} {l : List Oper} : (a0 :: a1 :: a2 :: a3 :: a4 :: a5 :: a6 :: a7 :: a8 :: a9 :: a10 :: a11 :: a12 :: a13 :: a14 :: a15 :: a16 :: a17 :: a18 :: a19 :: a20 :: a21 :: a22 :: a23 :: a24 :: a25 :: a26 :: a27 :: a28 :: a29 :: a30 :: a31 :: a32 :: a33 :: a34 :: a35 :: a36 :: a37 :: a38 :: a39 :: a40 :: a41 :: a42 :: a43 :: a44 :: a45 :: a46 :: a47 :: a48 :: a49 :: a50 :: a51 :: a52 :: a53 :: a54 :: a55 :: a56 :: a57 :: a58 :: a59 :: a60 :: a61 :: a62 :: a63 :: a64 :: a65 :: a66 :: a67 :: a68 :: a69 :: a70 :: a71 :: a72 :: a73 :: a74 :: a75 :: a76 :: a77 :: a78 :: a79 :: a80 :: a81 :: a82 :: a83 :: a84 :: a85 :: l).toArray[85]? = some a85 := rfl
theorem opAt86 {a0 a1 a2 a3 a4 a5 a6 a7 a8 a9 a10 a11 a12 a13 a14 a15 a16 a17 a18 a19 a20 a21 a22 a23 a24 a25 a26 a27 a28 a29 a30 a31 a32 a33 a34 a35 a36 a37 a38 a39 a40 a41 a42 a43 a44 a45 a46 a47 a48 a49 a50 a51 a52 a53 a54 a55 a56 a57 a58 a59 a60 a61 a62 a63 a64 a65 a66 a67 a68 a69 a70 a71 a72 a73 a74 a75 a76 a77 a78 a79 a80 a81 a82 a83 a84 a85 a86 : Oper} {l : List Oper} : (a0 :: a1 :: a2 :: a3 :: a4 :: a5 :: a6 :: a7 :: a8 :: a9 :: a10 :: a11 :: a12 :: a13 :: a14 :: a15 :: a16 :: a17 :: a18 :: a19 :: a20 :: a21 :: a22 :: a23 :: a24 :: a25 :: a26 :: a27 :: a28 :: a29 :: a30 :: a31 :: a32 :: a33 :: a34 :: a35 :: a36 :: a37 :: a38 :: a39 :: a40 :: a41 :: a42 :: a43 :: a44 :: a45 :: a46 :: a47 :: a48 :: a49 :: a50 :: a51 :: a52 :: a53 :: a54 :: a55 :: a56 :: a57 :: a58 :: a59 :: a60 :: a61 :: a62 :: a63 :: a64 :: a65 :: a66 :: a67 :: a68 :: a69 :: a70 :: a71 :: a72 :: a73 :: a74 :: a75 :: a76 :: a77 :: a78 :: a79 :: a80 :: a81 :: a82 :: a83 :: a84 :: a85 :: a86 :: l).toArray[86]? = some a86 := rfl
theorem opAt87 {a0 a1 a2 a3 a4 a5 a6 a7 a8 a9 a10 a11 a12 a13 a14 a15 a16 a17 a18 a19 a20 a21 a22 a23 a24 a25 a26 a27 a28 a29 a30 a31 a32 a33 a34 a35 a36 a37 a38 a39 a40 a41 a42 a43 a44 a45 a46 a47 a48 a49 a50 a51 a52 a53 a54 a55 a56 a57 a58 a59 a60 a61 a62 a63 a64 a65 a66 a67 a68 a69 a70 a71 a72 a73 a74 a75 a76 a77 a78 a79 a80 a81 a82 a83 a84 a85 a86 a87 : Oper} {l : List Oper} : (a0 :: a1 :: a2 :: a3 :: a4 :: a5 :: a6 :: a7 :: a8 :: a9 :: a10 :: a11 :: a12 :: a13 :: a14 :: a15 :: a16 :: a17 :: a18 :: a19 :: a20 :: a21 :: a22 :: a23 :: a24 :: a25 :: a26 :: a27 :: a28 :: a29 :: a30 :: a31 :: a32 :: a33 :: a34 :: a35 :: a36 :: a37 :: a38 :: a39 :: a40 :: a41 :: a42 :: a43 :: a44 :: a45 :: a46 :: a47 :: a48 :: a49 :: a50 :: a51 :: a52 :: a53 :: a54 :: a55 :: a56 :: a57 :: a58 :: a59 :: a60 :: a61 :: a62 :: a63 :: a64 :: a65 :: a66 :: a67 :: a68 :: a69 :: a70 :: a71 :: a72 :: a73 :: a74 :: a75 :: a76 :: a77 :: a78 :: a79 :: a80 :: a81 :: a82 :: a83 :: a84 :: a85 :: a86 :: a87 :: l).toArray[87]? = some a87 := rfl
theorem opAt88 {a0 a1 a2 a3 a4 a5 a6 a7 a8 a9 a10 a11 a12 a13 a14 a15 a16 a17 a18 a19 a20 a21 a22 a23 a24 a25 a26 a27 a28 a29 a30 a31 a32 a33 a34 a35 a36 a37 a38 a39 a40 a41 a42 a43 a44 a45 a46 a47 a48 a49 a50 a51 a52 a53 a54 a55 a56 a57 a58 a59 a60 a61 a62 a63 a64 a65 a66 a67 a68 a69 a70 a71 a72 a73 a74 a75 a76 a77 a78 a79 a80 a81 a82 a83 a84 a85 a86 a87 a88 : Oper} {l : List Oper} : (a0 :: a1 :: a2 :: a3 :: a4 :: a5 :: a6 :: a7 :: a8 :: a9 :: a10 :: a11 :: a12 :: a13 :: a14 :: a15 :: a16 :: a17 :: a18 :: a19 :: a20 :: a21 :: a22 :: a23 :: a24 :: a25 :: a26 :: a27 :: a28 :: a29 :: a30 :: a31 :: a32 :: a33 :: a34 :: a35 :: a36 :: a37 :: a38 :: a39 :: a40 :: a41 :: a42 :: a43 :: a44 :: a45 :: a46 :: a47 :: a48 :: a49 :: a50 :: a51 :: a52 :: a53 :: a54 :: a55 :: a56 :: a57 :: a58 :: a59 :: a60 :: a61 :: a62 :: a63 :: a64 :: a65 :: a66 :: a67 :: a68 :: a69 :: a70 :: a71 :: a72 :: a73 :: a74 :: a75 :: a76 :: a77 :: a78 :: a79 :: a80 :: a81 :: a82 :: a83 :: a84 :: a85 :: a86 :: a87 :: a88 :: l).toArray[88]? = some a88 := rfl
theorem opAt89 {a0 a1 a2 a3 a4 a5 a6 a7 a8 a9 a10 a11 a12 a13 a14 a15 a16 a17 a18 a19 a20 a21 a22 a23 a24 a25 a26 a27 a28 a29 a30 a31 a32 a33 a34 a35 a36 a37 a38 a39 a40 a41 a42 a43 a44 a45 a46 a47 a48 a49 a50 a51 a52 a53 a54 a55 a56 a57 a58 a59 a60 a61 a62 a63 a64 a65 a66 a67 a68 a69 a70 a71 a72 a73 a74 a75 a76 a77 a78 a79 a80 a81 a82 a83 a84 a85 a86 a87 a88 a89 : Oper} {l : List Oper} : (a0 :: a1 :: a2 :: a3 :: a4 :: a5 :: a6 :: a7 :: a8 :: a9 :: a10 :: a11 :: a12 :: a13 :: a14 :: a15 :: a16 :: a17 :: a18 :: a19 :: a20 :: a21 :: a22 :: a23 :: a24 :: a25 :: a26 :: a27 :: a28 :: a29 :: a30 :: a31 :: a32 :: a33 :: a34 :: a35 :: a36 :: a37 :: a38 :: a39 :: a40 :: a41 :: a42 :: a43 :: a44 :: a45 :: a46 :: a47 :: a48 :: a49 :: a50 :: a51 :: a52 :: a53 :: a54 :: a55 :: a56 :: a57 :: a58 :: a59 :: a60 :: a61 :: a62 :: a63 :: a64 :: a65 :: a66 :: a67 :: a68 :: a69 :: a70 :: a71 :: a72 :: a73 :: a74 :: a75 :: a76 :: a77 :: a78 :: a79 :: a80 :: a81 :: a82 :: a83 :: a84 :: a85 :: a86 :: a87 :: a88 :: a89 :: l).toArray[89]? = some a89 := rfl
theorem opAt90 {a0 a1 a2 a3 a4 a5 a6 a7 a8 a9 a10 a11 a12 a13 a14 a15 a16 a17 a18 a19 a20 a21 a22 a23 a24 a25 a26 a27 a28 a29 a30 a31 a32 a33 a34 a35 a36 a37 a38 a39 a40 a41 a42 a43 a44 a45 a46 a47 a48 a49 a50 a51 a52 a53 a54 a55 a56 a57 a58 a59 a60 a61 a62 a63 a64 a65 a66 a67 a68 a69 a70 a71 a72 a73 a74 a75 a76 a77 a78 a79 a80 a81 a82 a83 a84 a85 a86 a87 a88 a89 a90 : Oper} {l : List Oper} : (a0 :: a1 :: a2 :: a3 :: a4 :: a5 :: a6 :: a7 :: a8 :: a9 :: a10 :: a11 :: a12 :: a13 :: a14 :: a15 :: a16 :: a17 :: a18 :: a19 :: a20 :: a21 :: a22 :: a23 :: a24 :: a25 :: a26 :: a27 :: a28 :: a29 :: a30 :: a31 :: a32 :: a33 :: a34 :: a35 :: a36 :: a37 :: a38 :: a39 :: a40 :: a41 :: a42 :: a43 :: a44 :: a45 :: a46 :: a47 :: a48 :: a49 :: a50 :: a51 :: a52 :: a53 :: a54 :: a55 :: a56 :: a57 :: a58 :: a59 :: a60 :: a61 :: a62 :: a63 :: a64 :: a65 :: a66 :: a67 :: a68 :: a69 :: a70 :: a71 :: a72 :: a73 :: a74 :: a75 :: a76 :: a77 :: a78 :: a79 :: a80 :: a81 :: a82 :: a83 :: a84 :: a85 :: a86 :: a87 :: a88 :: a89 :: a90 :: l).toArray[90]? = some a90 := rfl
theorem opAt91 {a0 a1 a2 a3 a4 a5 a6 a7 a8 a9 a10 a11 a12 a13 a14 a15 a16 a17 a18 a19 a20 a21 a22 a23 a24 a25 a26 a27 a28 a29 a30 a31 a32 a33 a34 a35 a36 a37 a38 a39 a40 a41 a42 a43 a44 a45 a46 a47 a48 a49 a50 a51 a52 a53 a54 a55 a56 a57 a58 a59 a60 a61 a62 a63 a64 a65 a66 a67 a68 a69 a70 a71 a72 a73 a74 a75 a76 a77 a78 a79 a80 a81 a82 a83 a84 a85 a86 a87 a88 a89 a90 a91 : Oper} {l : List Oper} : (a0 :: a1 :: a2 :: a3 :: a4 :: a5 :: a6 :: a7 :: a8 :: a9 :: a10 :: a11 :: a12 :: a13 :: a14 :: a15 :: a16 :: a17 :: a18 :: a19 :: a20 :: a21 :: a22 :: a23 :: a24 :: a25 :: a26 :: a27 :: a28 :: a29 :: a30 :: a31 :: a32 :: a33 :: a34 :: a35 :: a36 :: a37 :: a38 :: a39 :: a40 :: a41 :: a42 :: a43 :: a44 :: a45 :: a46 :: a47 :: a48 :: a49 :: a50 :: a51 :: a52 :: a53 :: a54 :: a55 :: a56 :: a57 :: a58 :: a59 :: a60 :: a61 :: a62 :: a63 :: a64 :: a65 :: a66 :: a67 :: a68 :: a69 :: a70 :: a71 :: a72 :: a73 :: a74 :: a75 :: a76 :: a77 :: a78 :: a79 :: a80 :: a81 :: a82 :: a83 :: a84 :: a85 :: a86 :: a87 :: a88 :: a89 :: a90 :: a91 :: l).toArray[91]? = some a91 := rfl
theorem opAt92 {a0 a1 a2 a3 a4 a5 a6 a7 a8 a9 a10 a11 a12 a13 a14 a15 a16 a17 a18 a19 a20 a21 a22 a23 a24 a25 a26 a27 a28 a29 a30 a31 a32 a33 a34 a35 a36 a37 a38 a39 a40 a41 a42 a43 a44 a45 a46 a47 a48 a49 a50 a51 a52 a53 a54 a55 a56 a57 a58 a59 a60 a61 a62 a63 a64 a65 a66 a67 a68 a69 a70 a71 a72 a73 a74 a75 a76 a77 a78 a79 a80 a81 a82 a83 a84 a85 a86 a87 a88 a89 a90 a91 a92 : Oper} {l : List Oper} : (a0 :: a1 :: a2 :: a3 :: a4 :: a5 :: a6 :: a7 :: a8 :: a9 :: a10 :: a11 :: a12 :: a13 :: a14 :: a15 :: a16 :: a17 :: a18 :: a19 :: a20 :: a21 :: a22 :: a23 :: a24 :: a25 :: a26 :: a27 :: a28 :: a29 :: a30 :: a31 :: a32 :: a33 :: a34 :: a35 :: a36 :: a37 :: a38 :: a39 :: a40 :: a41 :: a42 :: a43 :: a44 :: a45 :: a46 :: a47 :: a48 :: a49 :: a50 :: a51 :: a52 :: a53 :: a54 :: a55 :: a56 :: a57 :: a58 :: a59 :: a60 :: a61 :: a62 :: a63 :: a64 :: a65 :: a66 :: a67 :: a68 :: a69 :: a70 :: a71 :: a72 :: a73 :: a74 :: a75 :: a76 :: a77 :: a78 :: a79 :: a80 :: a81 :: a82 :: a83 :: a84 :: a85 :: a86 :: a87 :: a88 :: a89 :: a90 :: a91 :: a92 :: l).toArray[92]? = some a92 := rfl
theorem opAt93 {a0 a1 a2 a3 a4 a5 a6 a7 a8 a9 a10 a11 a12 a13 a14 a15 a16 a17 a18 a19 a20 a21 a22 a23 a24 a25 a26 a27 a28 a29 a30 a31 a32 a33 a34 a35 a36 a37 a38 a39 a40 a41 a42 a43 a44 a45 a46 a47 a48 a49 a50 a51 a52 a53 a54 a55 a56 a57 a58 a59 a60 a61 a62 a63 a64 a65 a66 a67 a68 a69 a70 a71 a72 a73 a74 a75 a76 a77 a78 a79 a80 a81 a82 a83 a84 a85 a86 a87 a88 a89 a90 a91 a92 a93 : Oper} {l : List Oper} : (a0 :: a1 :: a2 :: a3 :: a4 :: a5 :: a6 :: a7 :: a8 :: a9 :: a10 :: a11 :: a12 :: a13 :: a14 :: a15 :: a16 :: a17 :: a18 :: a19 :: a20 :: a21 :: a22 :: a23 :: a24 :: a25 :: a26 :: a27 :: a28 :: a29 :: a30 :: a31 :: a32 :: a33 :: a34 :: a35 :: a36 :: a37 :: a38 :: a39 :: a40 :: a41 :: a42 :: a43 :: a44 :: a45 :: a46 :: a47 :: a48 :: a49 :: a50 :: a51 :: a52 :: a53 :: a54 :: a55 :: a56 :: a57 :: a58 :: a59 :: a60 :: a61 :: a62 :: a63 :: a64 :: a65 :: a66 :: a67 :: a68 :: a69 :: a70 :: a71 :: a72 :: a73 :: a74 :: a75 :: a76 :: a77 :: a78 :: a79 :: a80 :: a81 :: a82 :: a83 :: a84 :: a85 :: a86 :: a87 :: a88 :: a89 :: a90 :: a91 :: a92 :: a93 :: l).toArray[93]? = some a93 := rfl
theorem opAt94 {a0 a1 a2 a3 a4 a5 a6 a7 a8 a9 a10 a11 a12 a13 a14 a15 a16 a17 a18 a19 a20 a21 a22 a23 a24 a25 a26 a27 a28 a29 a30 a31 a32 a33 a34 a35 a36 a37 a38 a39 a40 a41 a42 a43 a44 a45 a46 a47 a48 a49 a50 a51 a52 a53 a54 a55 a56 a57 a58 a59 a60 a61 a62 a63 a64 a65 a66 a67 a68 a69 a70 a71 a72 a73 a74 a75 a76 a77 a78 a79 a80 a81 a82 a83 a84 a85 a86 a87 a88 a89 a90 a91 a92 a93 a94 : Oper} {l : List Oper} : (a0 :: a1 :: a2 :: a3 :: a4 :: a5 :: a6 :: a7 :: a8 :: a9 :: a10 :: a11 :: a12 :: a13 :: a14 :: a15 :: a16 :: a17 :: a18 :: a19 :: a20 :: a21 :: a22 :: a23 :: a24 :: a25 :: a26 :: a27 :: a28 :: a29 :: a30 :: a31 :: a32 :: a33 :: a34 :: a35 :: a36 :: a37 :: a38 :: a39 :: a40 :: a41 :: a42 :: a43 :: a44 :: a45 :: a46 :: a47 :: a48 :: a49 :: a50 :: a51 :: a52 :: a53 :: a54 :: a55 :: a56 :: a57 :: a58 :: a59 :: a60 :: a61 :: a62 :: a63 :: a64 :: a65 :: a66 :: a67 :: a68 :: a69 :: a70 :: a71 :: a72 :: a73 :: a74 :: a75 :: a76 :: a77 :: a78 :: a79 :: a80 :: a81 :: a82 :: a83 :: a84 :: a85 :: a86 :: a87 :: a88 :: a89 :: a90 :: a91 :: a92 :: a93 :: a94 :: l).toArray[94]? = some a94 := rfl
theorem opAt95 {a0 a1 a2 a3 a4 a5 a6 a7 a8 a9 a10 a11 a12 a13 a14 a15 a16 a17 a18 a19 a20 a21 a22 a23 a24 a25 a26 a27 a28 a29 a30 a31 a32 a33 a34 a35 a36 a37 a38 a39 a40 a41 a42 a43 a44 a45 a46 a47 a48 a49 a50 a51 a52 a53 a54 a55 a56 a57 a58 a59 a60 a61 a62 a63 a64 a65 a66 a67 a68 a69 a70 a71 a72 a73 a74 a75 a76 a77 a78 a79 a80 a81 a82 a83 a84 a85 a86 a87 a88 a89 a90 a91 a92 a93 a94 a95 : Oper} {l : List Oper} : (a0 :: a1 :: a2 :: a3 :: a4 :: a5 :: a6 :: a7 :: a8 :: a9 :: a10 :: a11 :: a12 :: a13 :: a14 :: a15 :: a16 :: a17 :: a18 :: a19 :: a20 :: a21 :: a22 :: a23 :: a24 :: a25 :: a26 :: a27 :: a28 :: a29 :: a30 :: a31 :: a32 :: a33 :: a34 :: a35 :: a36 :: a37 :: a38 :: a39 :: a40 :: a41 :: a42 :: a43 :: a44 :: a45 :: a46 :: a47 :: a48 :: a49 :: a50 :: a51 :: a52 :: a53 :: a54 :: a55 :: a56 :: a57 :: a58 :: a59 :: a60 :: a61 :: a62 :: a63 :: a64 :: a65 :: a66 :: a67 :: a68 :: a69 :: a70 :: a71 :: a72 :: a73 :: a74 :: a75 :: a76 :: a77 :: a78 :: a79 :: a80 :: a81 :: a82 :: a83 :: a84 :: a85 :: a86 :: a87 :: a88 :: a89 :: a90 :: a91 :: a92 :: a93 :: a94 :: a95 :: l).toArray[95]? = some a95 := rfl
theorem opAt96 {a0 a1 a2 a3 a4 a5 a6 a7 a8 a9 a10 a11 a12 a13 a14 a15 a16 a17 a18 a19 a20 a21 a22 a23 a24 a25 a26 a27 a28 a29 a30 a31 a32 a33 a34 a35 a36 a37 a38 a39 a40 a41 a42 a43 a44 a45 a46 a47 a48 a49 a50 a51 a52 a53 a54 a55 a56 a57 a58 a59 a60 a61 a62 a63 a64 a65 a66 a67 a68 a69 a70 a71 a72 a73 a74 a75 a76 a77 a78 a79 a80 a81 a82 a83 a84 a85 a86 a87 a88 a89 a90 a91 a92 a93 a94 a95 a96 : Oper} {l : List Oper} : (a0 :: a1 :: a2 :: a3 :: a4 :: a5 :: a6 :: a7 :: a8 :: a9 :: a10 :: a11 :: a12 :: a13 :: a14 :: a15 :: a16 :: a17 :: a18 :: a19 :: a20 :: a21 :: a22 :: a23 :: a24 :: a25 :: a26 :: a27 :: a28 :: a29 :: a30 :: a31 :: a32 :: a33 :: a34 :: a35 :: a36 :: a37 :: a38 :: a39 :: a40 :: a41 :: a42 :: a43 :: a44 :: a45 :: a46 :: a47 :: a48 :: a49 :: a50 :: a51 :: a52 :: a53 :: a54 :: a55 :: a56 :: a57 :: a58 :: a59 :: a60 :: a61 :: a62 :: a63 :: a64 :: a65 :: a66 :: a67 :: a68 :: a69 :: a70 :: a71 :: a72 :: a73 :: a74 :: a75 :: a76 :: a77 :: a78 :: a79 :: a80 :: a81 :: a82 :: a83 :: a84 :: a85 :: a86 :: a87 :: a88 :: a89 :: a90 :: a91 :: a92 :: a93 :: a94 :: a95 :: a96 :: l).toArray[96]? = some a96 := rfl
theorem opAt97 {a0 a1 a2 a3 a4 a5 a6 a7 a8 a9 a10 a11 a12 a13 a14 a15 a16 a17 a18 a19 a20 a21 a22 a23 a24 a25 a26 a27 a28 a29 a30 a31 a32 a33 a34 a35 a36 a37 a38 a39 a40 a41 a42 a43 a44 a45 a46 a47 a48 a49 a50 a51 a52 a53 a54 a55 a56 a57 a58 a59 a60 a61 a62 a63 a64 a65 a66 a67 a68 a69 a70 a71 a72 a73 a74 a75 a76 a77 a78 a79 a80 a81 a82 a83 a84 a85 a86 a87 a88 a89 a90 a91 a92 a93 a94 a95 a96 a97 : Oper} {l : List Oper} : (a0 :: a1 :: a2 :: a3 :: a4 :: a5 :: a6 :: a7 :: a8 :: a9 :: a10 :: a11 :: a12 :: a13 :: a14 :: a15 :: a16 :: a17 :: a18 :: a19 :: a20 :: a21 :: a22 :: a23 :: a24 :: a25 :: a26 :: a27 :: a28 :: a29 :: a30 :: a31 :: a32 :: a33 :: a34 :: a35 :: a36 :: a37 :: a38 :: a39 :: a40 :: a41 :: a42 :: a43 :: a44 :: a45 :: a46 :: a47 :: a48 :: a49 :: a50 :: a51 :: a52 :: a53 :: a54 :: a55 :: a56 :: a57 :: a58 :: a59 :: a60 :: a61 :: a62 :: a63 :: a64 :: a65 :: a66 :: a67 :: a68 :: a69 :: a70 :: a71 :: a72 :: a73 :: a74 :: a75 :: a76 :: a77 :: a78 :: a79 :: a80 :: a81 :: a82 :: a83 :: a84 :: a85 :: a86 :: a87 :: a88 :: a89 :: a90 :: a91 :: a92 :: a93 :: a94 :: a95 :: a96 :: a97 :: l).toArray[97]? = some a97 := rfl
theorem opAt98 {a0 a1 a2 a3 a4 a5 a6 a7 a8 a9 a10 a11 a12 a13 a14 a15 a16 a17 a18 a19 a20 a21 a22 a23 a24 a25 a26 a27 a28 a29 a30 a31 a32 a33 a34 a35 a36 a37 a38 a39 a40 a41 a42 a43 a44 a45 a46 a47 a48 a49 a50 a51 a52 a53 a54 a55 a56 a57 a58 a59 a60 a61 a62 a63 a64 a65 a66 a67 a68 a69 a70 a71 a72 a73 a74 a75 a76 a77 a78 a79 a80 a81 a82 a83 a84 a85 a86 a87 a88 a89 a90 a91 a92 a93 a94 a95 a96 a97 a98 : Oper} {l : List Oper} : (a0 :: a1 :: a2 :: a3 :: a4 :: a5 :: a6 :: a7 :: a8 :: a9 :: a10 :: a11 :: a12 :: a13 :: a14 :: a15 :: a16 :: a17 :: a18 :: a19 :: a20 :: a21 :: a22 :: a23 :: a24 :: a25 :: a26 :: a27 :: a28 :: a29 :: a30 :: a31 :: a32 :: a33 :: a34 :: a35 :: a36 :: a37 :: a38 :: a39 :: a40 :: a41 :: a42 :: a43 :: a44 :: a45 :: a46 :: a47 :: a48 :: a49 :: a50 :: a51 :: a52 :: a53 :: a54 :: a55 :: a56 :: a57 :: a58 :: a59 :: a60 :: a61 :: a62 :: a63 :: a64 :: a65 :: a66 :: a67 :: a68 :: a69 :: a70 :: a71 :: a72 :: a73 :: a74 :: a75 :: a76 :: a77 :: a78 :: a79 :: a80 :: a81 :: a82 :: a83 :: a84 :: a85 :: a86 :: a87 :: a88 :: a89 :: a90 :: a91 :: a92 :: a93 :: a94 :: a95 :: a96 :: a97 :: a98 :: l).toArray[98]? = some a98 := rfl
theorem opAt99 {a0 a1 a2 a3 a4 a5 a6 a7 a8 a9 a10 a11 a12 a13 a14 a15 a16 a17 a18 a19 a20 a21 a22 a23 a24 a25 a26 a27 a28 a29 a30 a31 a32 a33 a34 a35 a36 a37 a38 a39 a40 a41 a42 a43 a44 a45 a46 a47 a48 a49 a50 a51 a52 a53 a54 a55 a56 a57 a58 a59 a60 a61 a62 a63 a64 a65 a66 a67 a68 a69 a70 a71 a72 a73 a74 a75 a76 a77 a78 a79 a80 a81 a82 a83 a84 a85 a86 a87 a88 a89 a90 a91 a92 a93 a94 a95 a96 a97 a98 a99 : Oper} {l : List Oper} : (a0 :: a1 :: a2 :: a3 :: a4 :: a5 :: a6 :: a7 :: a8 :: a9 :: a10 :: a11 :: a12 :: a13 :: a14 :: a15 :: a16 :: a17 :: a18 :: a19 :: a20 :: a21 :: a22 :: a23 :: a24 :: a25 :: a26 :: a27 :: a28 :: a29 :: a30 :: a31 :: a32 :: a33 :: a34 :: a35 :: a36 :: a37 :: a38 :: a39 :: a40 :: a41 :: a42 :: a43 :: a44 :: a45 :: a46 :: a47 :: a48 :: a49 :: a50 :: a51 :: a52 :: a53 :: a54 :: a55 :: a56 :: a57 :: a58 :: a59 :: a60 :: a61 :: a62 :: a63 :: a64 :: a65 :: a66 :: a67 :: a68 :: a69 :: a70 :: a71 :: a72 :: a73 :: a74 :: a75 :: a76 :: a77 :: a78 :: a79 :: a80 :: a81 :: a82 :: a83 :: a84 :: a85 :: a86 :: a87 :: a88 :: a89 :: a90 :: a91 :: a92 :: a93 :: a94 :: a95 :: a96 :: a97 :: a98 :: a99 :: l).toArray[99]? = some a99 := rfl
end Go.Proofs.YtelhdbkkigehgaaGreatDoor

/- (*strings.Builder).copyCheck, as a summary. -/
namespace Go.Proofs.YtelhdbkkigehgaaGreatDoor
open Go.RowKit Go.Lib Go.Eng

set_option maxHeartbeats 1000000 in
set_option maxRecDepth 100000 in
theorem copy_used (b o : Nat) (w : World) (h0 : w.cell? ⟨b, o, none⟩ = some (.pointer (some ⟨b, o, none⟩))) :
    Calls Tryz.prog 55 #[.pointer (some ⟨b, o, none⟩)] w fun e w' => e = .returned (.tuple #[]) ∧ w' = w := by
  obtain ⟨j, hj, hjs⟩ : ∃ j, Tryz.prog.info? 73 = some j ∧ j.size = 2 := ⟨_, rfl, rfl⟩
  go_enter Tryz.func55, Tryz.ntmps55
  go_wp2
  rw [Lib.run_neq_ptr_same w _ Tryz.underlying70 hj]
  go_wp2
  go_end0
  exact ⟨rfl, rfl⟩

set_option maxHeartbeats 1000000 in
set_option maxRecDepth 100000 in
theorem copy_fresh (b o k : Nat) (w : World) (h0 : w.cell? ⟨b, o, none⟩ = some (.pointer none)) (hsh : w.shape? b = some (73, k)) (ho : o < k) (hl : liesAt Tryz.prog Tryz.prog.depth 73 (k / Tryz.prog.cellsOf 73) o 73 1 = true) (hfz : w.frozen? ⟨b, o, none⟩ = false) :
    Calls Tryz.prog 55 #[.pointer (some ⟨b, o, none⟩)] w fun e w' => e = .returned (.tuple #[]) ∧ w' = w.setCell ⟨b, o, none⟩ (.pointer (some ⟨b, o, none⟩)) := by
  obtain ⟨j, hj, hjs⟩ : ∃ j, Tryz.prog.info? 73 = some j ∧ j.size = 2 := ⟨_, rfl, rfl⟩
  go_enter Tryz.func55, Tryz.ntmps55
  go_wp2
  rw [Lib.run_to_unsafe w ⟨b, o, none⟩ Tryz.underlying70 Tryz.underlying170 hj (by rw [hjs]; decide) hsh ho]
  simp only [Result.andThen]
  rw [Oper.upon_value]
  go_wp2
  rw [run_callFunc_extern Tryz.func107 (by kernel_rfl) (by kernel_rfl) (by kernel_rfl) (e := Extern.AbiNoEscape.same) (by kernel_rfl)]
  rw [Lib.run_noEscape]
  simp only [Result.andThen]
  rw [Oper.upon_value]
  go_wp2
  rw [Lib.run_from_unsafe w ⟨b, o, none⟩ Tryz.underlying170 Tryz.underlying70 hj hsh hl]
  simp only [Result.andThen]
  rw [Oper.upon_value]
  go_wp2
  go_end0
  exact ⟨rfl, rfl⟩

theorem builder_lies (k o : Nat) (hk : o + 2 ≤ k) (ho : o % 2 = 0) : liesAt Tryz.prog Tryz.prog.depth 73 (k / Tryz.prog.cellsOf 73) o 73 1 = true := by
  have hc : Tryz.prog.cellsOf 73 = 2 := by kernel_rfl
  obtain ⟨d, hd⟩ : ∃ d, Tryz.prog.depth = d + 1 := ⟨_, rfl⟩
  have hs : sameLayout Tryz.prog Tryz.prog.depth 73 73 = true := by rw [hd]; simp [sameLayout]
  rw [hc]
  unfold liesAt
  rw [hd]
  simp only
  rw [← hd]
  have : rowAt Tryz.prog (fun x => sameLayout Tryz.prog Tryz.prog.depth x 73) Tryz.prog.depth 73 (k / 2) o 1 = true := by
    rw [hd]
    unfold rowAt
    simp only [hc]
    rw [← hd, hs, ho]
    have : o / 2 + 1 ≤ k / 2 := by omega
    simp [this]
  rw [this]
  rfl

noncomputable section
/-- The builder's first cell is its own address. -/
def copyS (args : List AV) (h : Heap) (c : Nat) : Option CRes := match args with
  | [.ptr n 0] => match h.get n with
    | some (.cells t [p, v]) => bif Nat.beq t 73 then
        match p with
        | .nilp => match putObj h n (some (.cells t [.ptr n 0, v])) fun h => some (.val uv h c) with
          | some (.val u h c) => some (.mk u h c)
          | _ => none
        | .ptr m 0 => bif Nat.beq n m then some (.mk uv h c) else none
        | _ => none
      else none
    | _ => none
  | _ => none
end

theorem copy_ok {η : Env} {args : List AV} {h : Heap} {c : Nat} {v : AV} {h' : Heap} {c' : Nat} (he : copyS args h c = some (.mk v h' c')) {σ : Sig} {w : World} {avs : List Value} (H : HR Tryz.prog σ η h c w) (ha : concs σ η args = some avs) : Calls Tryz.prog 55 avs.toArray w (Done Tryz.prog η σ h c w v h' c') := by
  unfold copyS at he
  split at he
  rotate_left
  · cases he
  rename_i n
  obtain ⟨pv, rs, hp, hr, rfl⟩ := concs_cons.1 ha
  simp only [concs, Option.some.injEq] at hr
  subst hr
  obtain ⟨l, hl, rfl⟩ := conc_ptr.1 hp
  split at he
  rotate_left
  · cases he
  rename_i t p v0 hg
  cases ht : Nat.beq t 73 with
  | false => simp [ht] at he
  | true =>
  simp only [ht, cond_true] at he
  have ht := Nat.eq_of_beq_eq_true ht
  subst ht
  obtain ⟨l', hl', ob⟩ := H.obj n _ hg
  rw [hl] at hl'
  cases hl'
  obtain ⟨C, fr, vs, k1, k2, k3, k4, k5, k6, k7⟩ := ob
  obtain ⟨u, us, q1, q2, rfl⟩ := concs_cons.1 k3
  obtain ⟨u2, us2, q3, q4, rfl⟩ := concs_cons.1 q2
  simp only [concs, Option.some.injEq] at q4
  subst q4
  have hcell : w.cell? ⟨l.blk, l.off, none⟩ = some u := by
    simp only [World.cell?, k1]
    simpa using k5 0 u rfl
  have hc2 : Tryz.prog.cellsOf 73 = 2 := by kernel_rfl
  rw [hc2] at k7
  simp only [List.length_cons, List.length_nil] at k6
  split at he
  · simp only [conc, Option.some.injEq] at q1
    subst q1
    unfold putObj at he
    cases hb : Nat.ble n bigN with
    | false => simp [hb] at he
    | true =>
    simp only [hb, cond_true, setK_eq, Option.some.injEq, CRes.mk.injEq] at he
    obtain ⟨rfl, rfl, rfl⟩ := he
    have hf : w.frozen? ⟨l.blk, l.off, none⟩ = false := by
      simp only [World.frozen?, k1]
      simpa using k2 l.off (Nat.lt_of_lt_of_le (by omega) lim_le)
    refine Calls.mono (copy_fresh l.blk l.off C.size w hcell (by simp only [World.shape?, k1]) (by omega) (builder_lies _ _ (by omega) k7) hf) ?_
    rintro e w' ⟨rfl, rfl⟩
    refine ⟨_, σ, rfl, rfl, ?_⟩
    have hlay : lay? [.nilp, v0] 0 [.ptr n 0] = some [.ptr n 0, v0] := rfl
    obtain ⟨w1, r1, wt⟩ := lay_ok H (cells?_iff.2 hg) (Nat.le_of_ble_eq_true hb) hl hlay (concs_cons.2 ⟨_, [], hp, rfl, rfl⟩) rfl
    simp only [storeCells, Sem.run_bind, Addr.add_zero', Nat.add_zero] at r1
    rw [run_store _ _ _ _ _ rfl] at r1
    simp only [hcell, hf, Bool.false_eq_true, if_false, Result.andThen_ok, Sem.run_pure, Result.ok.injEq, true_and] at r1
    rw [← r1] at wt
    exact wt
  · rename_i m
    cases hb : Nat.beq n m with
    | false => simp [hb] at he
    | true =>
    simp only [hb, cond_true, Option.some.injEq, CRes.mk.injEq] at he
    have := Nat.eq_of_beq_eq_true hb
    subst this
    obtain ⟨rfl, rfl, rfl⟩ := he
    obtain ⟨l2, hl2, rfl⟩ := conc_ptr.1 q1
    rw [hl] at hl2
    cases hl2
    refine Calls.mono (copy_used l.blk l.off w hcell) ?_
    rintro e w' ⟨rfl, rfl⟩
    exact ⟨_, σ, rfl, rfl, Went.refl H⟩
  · cases he

end Go.Proofs.YtelhdbkkigehgaaGreatDoor

/- slices.Insert of one cell of a page (api.Cell lies in three cells). -/
namespace Go.Proofs.YtelhdbkkigehgaaGreatDoor
open Go.RowKit Go.Lib Go.Eng

/-- copy, where what is loaded and what is stored is known. -/
theorem run_copy3 {dt e size : Nat} {ats : Array TypeId} {ty : TypeId} {a b : Addr} {len cap sl sc m : Nat} {V : List Value} {w w' : World} (h0 : ats[0]? = some dt) (hu : Tryz.prog.underlying dt = some (.slice e)) (hs : ∀ w, (sizeOf e).run Tryz.prog w = .ok size w)
    (hm : Nat.min sl len = m) (hl : (loadCells b (m * size)).run Tryz.prog w = .ok V.toArray w) (hst : (storeCells a V).run Tryz.prog w = .ok () w') :
    (Builtin.copy_ ats ty #[.slice (some a) len cap, .slice (some b) sl sc]).run Tryz.prog w = .ok (goInt m) w' := by
  have v0 : (#[Value.slice (some a) len cap, .slice (some b) sl sc])[0]? = some (Value.slice (some a) len cap) := rfl
  have v1 : (#[Value.slice (some a) len cap, .slice (some b) sl sc])[1]? = some (Value.slice (some b) sl sc) := rfl
  have hf : (Builtin.firstCells size m (.slice (some b) sl sc)).run Tryz.prog w = .ok V.toArray w := hl
  simp only [Builtin.copy_, h0, v0, v1, Sem.run_bind, run_underlying hu, Result.andThen_ok, Builtin.lenOf, Sem.run_pure, hm, hs, hf, hst]

theorem loads3 {w : World} {b o n : Nat} {C : Array Value} {t : TypeId} {fr : Nat × Nat} (hb : w.heap[b]? = some (.cells C t fr)) {cs : List Value} (hcl : cs.length = n) (hcs : ∀ j v, cs[j]? = some v → C[o + j]? = some v) :
    (loadCells ⟨b, o, none⟩ n).run Tryz.prog w = .ok cs.toArray w := by
  have := run_loadCells_list (P := Tryz.prog) w ⟨b, o, none⟩ cs (fun j v hj => by
    rw [Addr.add_lit]
    simp only [World.cell?, hb]
    simpa using hcs j v hj)
  rwa [hcl] at this

set_option maxHeartbeats 4000000 in
set_option maxRecDepth 100000 in
theorem insert_shift (b off n c i vb voff vc : Nat) (C D : Array Value) (t tA : TypeId) (fr frA : Nat × Nat) (cs vs : List Value) (w : World)
    (hb : w.heap[b]? = some (.cells C t fr)) (hfr : ∀ j, j < C.size → ¬ (fr.1 ≤ j ∧ j < fr.2)) (hA : w.heap[vb]? = some (.cells D tA frA)) (hfA : ∀ j, j < D.size → ¬ (frA.1 ≤ j ∧ j < frA.2)) (hfe : w.frozen? ⟨vb, D.size, none⟩ = false) (hne : vb ≠ b)
    (hi : i < n) (hroom : n + 1 ≤ c) (hn : n < appendMax) (hfit : off + (n + 1) * 3 ≤ C.size)
    (hcl : cs.length = n * 3) (hcs : ∀ j v, cs[j]? = some v → C[off + j]? = some v) (h1c : allOne cs = true)
    (hvl : vs.length = 3) (hvs : ∀ j v, vs[j]? = some v → D[voff + j]? = some v) (h1v : allOne vs = true) :
    Calls Tryz.prog 387 #[.slice (some ⟨b, off, none⟩) n c, .int .i64 i, .slice (some ⟨vb, voff, none⟩) 1 vc] w fun e w' =>
      e = .returned (.slice (some ⟨b, off, none⟩) (n + 1) c) ∧ w' = { w.drew with heap := w.heap.setIfInBounds b (.cells ⟨layL (layL C.toList (off + (i + 1) * 3) (cs.drop (i * 3))) (off + i * 3) vs⟩ t fr) } := by
  have hz2 : ¬ ((i : Int) = (n : Int)) := by omega
  have hv3 : voff + 3 ≤ D.size := by
    have := hvs 2 _ (List.getElem?_eq_getElem (by omega))
    rcases Nat.lt_or_ge (voff + 2) D.size with h | h
    · omega
    · rw [Array.getElem?_eq_none h] at this; cases this
  have hfa : w.frozen? ⟨vb, voff, none⟩ = false := by
    simp only [World.frozen?, hA]
    simpa using hfA voff (by omega)
  have hov : ∀ lb cb, (callFunc 482 #[.slice (some ⟨vb, voff, none⟩) 1 vc, .slice (some ⟨b, off + (i + 1) * 3, none⟩) lb cb]).run Tryz.prog w = .ok (.value (.bool false)) w := fun lb cb => by
    rw [run_callFunc_extern Tryz.func482 (by kernel_rfl) (by kernel_rfl) (by kernel_rfl) (e := Extern.SlicesOverlaps.overlaps #[192, 192] #[250]) (by kernel_rfl),
      Lib.run_overlaps_apart w 192 250 250 Tryz.underlying192 3 Tryz.sizeOf250 ⟨vb, voff, none⟩ ⟨b, off + (i + 1) * 3, none⟩ 1 vc lb cb hne tA t D.size C.size (by simp only [World.shape?, hA]) (by simp only [World.shape?, hb]) (by omega) hfa hfe]
    rfl
  have hlt : b < w.heap.size := by
    rcases Nat.lt_or_ge b w.heap.size with h | h
    · exact h
    · rw [Array.getElem?_eq_none h] at hb; cases hb
  have hdl : (cs.drop (i * 3)).length = (n - i) * 3 := by rw [List.length_drop, hcl]; omega
  obtain ⟨C1, hC1⟩ : ∃ C1 : Array Value, C1 = ⟨layL C.toList (off + (i + 1) * 3) (cs.drop (i * 3))⟩ := ⟨_, rfl⟩
  have hC1s : C1.size = C.size := by
    rw [hC1]
    simp only [List.size_toArray]
    rw [layL_length (by rw [hdl]; simp only [Array.length_toList]; omega)]
    simp
  obtain ⟨W1, hW1⟩ : ∃ W1 : World, W1 = { w.drew with heap := w.heap.setIfInBounds b (.cells C1 t fr) } := ⟨_, rfl⟩
  have hcp1 : ∀ ty dc sc, (Builtin.copy_ #[342, 342] ty #[.slice (some ⟨b, off + (i + 1) * 3, none⟩) (n - i) dc, .slice (some ⟨b, off + i * 3, none⟩) (n + 1 - i) sc]).run Tryz.prog w.drew = .ok (goInt (n - i : Nat)) W1 := fun ty dc sc => by
    refine run_copy3 (e := 250) (size := 3) (V := cs.drop (i * 3)) rfl Tryz.underlying342 Tryz.sizeOf250 (by simp only [Nat.min_def]; split <;> omega) ?_ ?_
    · exact loads3 (w := w.drew) (t := t) (fr := fr) hb hdl (fun j v hj => by
        rw [List.getElem?_drop] at hj
        have := hcs _ v hj
        rwa [← Nat.add_assoc] at this)
    · rw [hW1, hC1]
      have := run_storeCells (P := Tryz.prog) (w := w.drew) hb hfr (cs.drop (i * 3)) (off + (i + 1) * 3) 0 (allOne_iff.2 fun v hv => allOne_iff.1 h1c v (List.mem_of_mem_drop hv)) (by omega)
      exact this
  obtain ⟨W2, hW2⟩ : ∃ W2 : World, W2 = { w.drew with heap := w.heap.setIfInBounds b (.cells ⟨layL C1.toList (off + i * 3) vs⟩ t fr) } := ⟨_, rfl⟩
  have hcp2 : ∀ ty dc, (Builtin.copy_ #[342, 192] ty #[.slice (some ⟨b, off + i * 3, none⟩) (n + 1 - i) dc, .slice (some ⟨vb, voff, none⟩) 1 vc]).run Tryz.prog W1 = .ok (goInt (1 : Nat)) W2 := fun ty dc => by
    refine run_copy3 (e := 250) (size := 3) (V := vs) rfl Tryz.underlying342 Tryz.sizeOf250 (by simp only [Nat.min_def]; split <;> omega) ?_ ?_
    · refine loads3 (w := W1) (t := tA) (fr := frA) (C := D) ?_ hvl hvs
      rw [hW1]
      simp only [Array.getElem?_setIfInBounds_ne (Ne.symm hne)]
      exact hA
    · have h1 : W1.heap[b]? = some (.cells C1 t fr) := by
        rw [hW1]
        simp only [Array.getElem?_setIfInBounds_self, if_pos hlt]
      have := run_storeCells (P := Tryz.prog) (w := W1) h1 (by rw [hC1s]; exact hfr) vs (off + i * 3) 0 h1v (by omega)
      refine this.trans ?_
      rw [hW2, hW1]
      simp only [Array.setIfInBounds_setIfInBounds, Nat.add_zero]
  have hfin : W2 = { w.drew with heap := w.heap.setIfInBounds b (.cells ⟨layL (layL C.toList (off + (i + 1) * 3) (cs.drop (i * 3))) (off + i * 3) vs⟩ t fr) } := by rw [hW2, hC1]
  rw [← hfin]
  have hw1 : IntKind.i64.wrap ((i : Int) + 1) = (i : Int) + 1 := by rw [IntKind.wrap_i64]; unfold appendMax at hn; omega
  have hw2 : IntKind.i64.wrap ((n : Int) + 1) = (n : Int) + 1 := by rw [IntKind.wrap_i64]; unfold appendMax at hn; omega
  have hb1 : (0 : Int) ≤ (i : Int) + 1 := by omega
  have hin : i ≤ n := by omega
  have htn : ((i : Int) + 1).toNat = i + 1 := by omega
  have htn2 : ((n : Int) + 1).toNat = n + 1 := by omega
  have hb2 : ¬ (c = i + 1) := by omega
  have hb3 : (i : Int) ≤ (n : Int) + 1 := by omega
  have hb4 : ¬ (c = i) := by omega
  have mixed : Tryz.prog.follows .mixedOrders = true := by kernel_rfl
  have hb5 : ¬ ((c : Int) < (n : Int) + 1) := by omega
  clear hfin hW1 hW2 hC1 hC1s hA hfA hfe hfa hv3 hcs hvs hfr hfit hcl hvl h1c h1v hb hdl
  go_enter Tryz.func387, Tryz.ntmps387
  go_wp2_with (simp only [hov])
  go_region_law_o (refine step_copy_runI rfl _ _ 342 342 rfl _ _ (by simp [Act.eval, Act.put]) (by simp [Act.eval, Act.put]) (hcp1 _ _ _) ?_)
  go_wp2_with (at_builtin; refine wpList_copy_runI _ rfl _ _ 342 192 rfl _ _ rfl rfl (hcp2 _ _) ?_)
  go_ret
  exact ⟨rfl, rfl⟩

end Go.Proofs.YtelhdbkkigehgaaGreatDoor

/- slices.Insert of one cell of a page: a new row. -/
namespace Go.Proofs.YtelhdbkkigehgaaGreatDoor
open Go.RowKit Go.Lib Go.Eng

set_option maxHeartbeats 4000000 in
set_option maxRecDepth 100000 in
theorem insert_grow (b off n c i vb voff vc : Nat) (C D : Array Value) (t tA : TypeId) (fr frA : Nat × Nat) (cs vs : List Value) (w : World)
    (hb : w.heap[b]? = some (.cells C t fr)) (hA : w.heap[vb]? = some (.cells D tA frA))
    (hi : i < n) (hn : n < appendMax) (hnc : n ≤ c) (hroom : c < n + 1)
    (hcl : cs.length = n * 3) (hcs : ∀ j v, cs[j]? = some v → C[off + j]? = some v) (h1c : allOne cs = true)
    (hvl : vs.length = 3) (hvs : ∀ j v, vs[j]? = some v → D[voff + j]? = some v) (h1v : allOne vs = true) :
    Calls Tryz.prog 387 #[.slice (some ⟨b, off, none⟩) n c, .int .i64 i, .slice (some ⟨vb, voff, none⟩) 1 vc] w fun e w' => ∃ (k : Nat) (A : Array Value),
      e = .returned (.slice (some ⟨w.heap.size, 0, none⟩) (n + 1) (n + 1 + k)) ∧ w'.heap = w.heap.push (.cells A 250 (0, 0)) ∧ w'.os = w.os ∧ w'.tape = w.tape ∧ w'.output = w.output ∧
      (n + 1) * 3 + k * 3 ≤ A.size ∧ ∀ (j : Nat) (v : Value), (cs.take (i * 3) ++ vs ++ cs.drop (i * 3))[j]? = some v → A[j]? = some v := by
  have hz2 : ¬ ((i : Int) = (n : Int)) := by omega
  have hbw : b < w.heap.size := by
    rcases Nat.lt_or_ge b w.heap.size with h | h
    · exact h
    · rw [Array.getElem?_eq_none h] at hb; cases hb
  have hvw : vb < w.heap.size := by
    rcases Nat.lt_or_ge vb w.heap.size with h | h
    · exact h
    · rw [Array.getElem?_eq_none h] at hA; cases hA
  obtain ⟨inf, hinf, hbytes, Z, hZ, hZs, hZv⟩ : ∃ inf, Tryz.prog.info? 250 = some inf ∧ inf.bytes ≤ appendMax ∧ ∃ Z, inf.zero = some Z ∧ Z.cells.size = 3 ∧ ∀ w', (zeroValue 250).run Tryz.prog w' = .ok Z w' :=
    ⟨_, rfl, by decide, _, rfl, rfl, Tryz.zeroValue250⟩
  have htk : (cs.take (i * 3)).length = i * 3 := by rw [List.length_take, hcl]; omega
  obtain ⟨k, hap⟩ := run_append_grow' (P := Tryz.prog) (st := 342) (e := 250) (size := 3) (n := n + 1 - i) (len := i) (cap := c) («as» := #[342, 3]) (vs := #[.slice (some ⟨b, off, none⟩) i c, .int .i64 (Int.ofNat (n + 1 - i))]) (ty := 342)
    (base := some ⟨b, off, none⟩) (zeros := true) (N := Builtin.zeroCells Z.cells (n + 1 - i)) (OLD := (cs.take (i * 3)).toArray) (i := inf) (Z := Z) (w := w)
    rfl rfl rfl Tryz.underlying342 rfl hinf hbytes (.inr ⟨3, _, rfl, Tryz.underlying3, rfl⟩) (by unfold appendMax at *; omega) (by unfold appendMax at *; omega) hZv (fun _ => ⟨⟨_, rfl⟩, rfl⟩) (fun q => by cases q)
    (by rw [← Array.length_toList, zeroCells_eq, List.length_flatten]; simp [hZs]) (fun w' hw' => by
      have := loads3 (w := w') (b := b) (o := off) (t := t) (fr := fr) (C := C) (by rw [hw']; exact hb) htk (fun j v hj => by
        rw [List.getElem?_take] at hj
        split at hj
        · exact hcs j v hj
        · cases hj)
      exact this) (by omega)
  have hin1 : i + (n + 1 - i) = n + 1 := by omega
  have hii : (Int.ofNat (n + 1 - i)) = (n : Int) + 1 - (i : Int) := by simp only [Int.ofNat_eq_natCast]; omega
  rw [hin1, hii] at hap
  obtain ⟨A0, hA0⟩ : ∃ A0 : Array Value, A0 = (cs.take (i * 3)).toArray ++ Builtin.zeroCells Z.cells (n + 1 - i) ++ Builtin.zeroCells Z.cells k := ⟨_, rfl⟩
  rw [← hA0] at hap
  have zs : ∀ q, (Builtin.zeroCells Z.cells q).size = q * 3 := fun q => by rw [← Array.length_toList, zeroCells_eq, List.length_flatten]; simp [hZs]
  have hA0s : A0.size = (n + 1) * 3 + k * 3 := by
    rw [hA0]
    simp only [Array.size_append, List.size_toArray, htk, zs]
    omega
  obtain ⟨W0, hW0⟩ : ∃ W0 : World, W0 = w.drew.alloc (.cells A0 250) := ⟨_, rfl⟩
  rw [← hW0] at hap
  have g0 : W0.heap[w.heap.size]? = some (.cells A0 250 (0, 0)) := by
    rw [hW0]
    exact Array.getElem?_push_size
  have g1 : ∀ q, q < w.heap.size → W0.heap[q]? = w.heap[q]? := fun q hq => by rw [hW0]; exact Below.heap_alloc _ _ q hq
  obtain ⟨A1, hA1⟩ : ∃ A1 : Array Value, A1 = ⟨layL A0.toList (i * 3) vs⟩ := ⟨_, rfl⟩
  have hA1s : A1.size = A0.size := by
    rw [hA1]
    simp only [List.size_toArray]
    rw [layL_length (by rw [hvl]; simp only [Array.length_toList]; omega)]
    simp
  obtain ⟨W1, hW1⟩ : ∃ W1 : World, W1 = { W0 with heap := W0.heap.setIfInBounds w.heap.size (.cells A1 250 (0, 0)) } := ⟨_, rfl⟩
  have h1 : W1.heap[w.heap.size]? = some (.cells A1 250 (0, 0)) := by
    have : w.heap.size < W0.heap.size := by rw [hW0]; simp [World.alloc]
    rw [hW1]; simp only [Array.getElem?_setIfInBounds_self, if_pos this]
  have h1o : ∀ q, q < w.heap.size → W1.heap[q]? = w.heap[q]? := fun q hq => by
    rw [hW1]
    have : w.heap.size ≠ q := by omega
    simp only [Array.getElem?_setIfInBounds_ne this]
    exact g1 q hq
  have hcp1 : ∀ ty dc, (Builtin.copy_ #[342, 192] ty #[.slice (some ⟨w.heap.size, i * 3, none⟩) (n + 1 - i) dc, .slice (some ⟨vb, voff, none⟩) 1 vc]).run Tryz.prog W0 = .ok (goInt (1 : Nat)) W1 := fun ty dc => by
    refine run_copy3 (e := 250) (size := 3) (V := vs) rfl Tryz.underlying342 Tryz.sizeOf250 (by simp only [Nat.min_def]; split <;> omega) ?_ ?_
    · exact loads3 (w := W0) (t := tA) (fr := frA) (C := D) (by rw [g1 vb hvw]; exact hA) hvl hvs
    · have := run_storeCells (P := Tryz.prog) (w := W0) g0 (fun j _ q => by omega) vs (i * 3) 0 h1v (by omega)
      refine this.trans ?_
      rw [hW1, hA1]
      simp only [Nat.add_zero]
  have hdl : (cs.drop (i * 3)).length = (n - i) * 3 := by rw [List.length_drop, hcl]; omega
  obtain ⟨A2, hA2⟩ : ∃ A2 : Array Value, A2 = ⟨layL A1.toList ((i + 1) * 3) (cs.drop (i * 3))⟩ := ⟨_, rfl⟩
  have hA2s : A2.size = A0.size := by
    rw [hA2]
    simp only [List.size_toArray]
    rw [layL_length (by rw [hdl]; simp only [Array.length_toList]; omega)]
    simp [hA1s]
  obtain ⟨W2, hW2⟩ : ∃ W2 : World, W2 = { W1.drew with heap := W1.heap.setIfInBounds w.heap.size (.cells A2 250 (0, 0)) } := ⟨_, rfl⟩
  have hcp2 : ∀ ty dc sc, (Builtin.copy_ #[342, 342] ty #[.slice (some ⟨w.heap.size, (i + 1) * 3, none⟩) (n - i) dc, .slice (some ⟨b, off + i * 3, none⟩) (n - i) sc]).run Tryz.prog W1.drew = .ok (goInt (n - i : Nat)) W2 := fun ty dc sc => by
    refine run_copy3 (e := 250) (size := 3) (V := cs.drop (i * 3)) rfl Tryz.underlying342 Tryz.sizeOf250 (by simp only [Nat.min_def]; split <;> omega) ?_ ?_
    · refine loads3 (w := W1.drew) (t := t) (fr := fr) (C := C) ((h1o b hbw).trans hb) hdl (fun j v hj => by
        rw [List.getElem?_drop] at hj
        have := hcs _ v hj
        rwa [← Nat.add_assoc] at this)
    · have := run_storeCells (P := Tryz.prog) (w := W1.drew) h1 (fun j _ q => by omega) (cs.drop (i * 3)) ((i + 1) * 3) 0 (allOne_iff.2 fun v hv => allOne_iff.1 h1c v (List.mem_of_mem_drop hv)) (by omega)
      refine this.trans ?_
      rw [hW2, hA2]
      rfl
  have hfin : W2.heap = w.heap.push (.cells A2 250 (0, 0)) ∧ W2.os = w.os ∧ W2.tape = w.tape ∧ W2.output = w.output := by
    rw [hW2, hW1, hW0]
    refine ⟨?_, rfl, rfl, rfl⟩
    simp only [Array.setIfInBounds_setIfInBounds]
    apply Array.ext_getElem?
    intro q
    rw [Array.getElem?_setIfInBounds]
    simp only [World.alloc]
    by_cases e : w.heap.size = q
    · subst e; simp
    · rw [if_neg e]
      simp only [World.drew]
      rw [Array.getElem?_push, Array.getElem?_push]
      rw [if_neg (by omega), if_neg (by omega)]
  have hget : ∀ (j : Nat) (v : Value), (cs.take (i * 3) ++ vs ++ cs.drop (i * 3))[j]? = some v → A2[j]? = some v := by
    intro j v hj
    rw [hA2]
    simp only [List.getElem?_toArray]
    rw [layL_get (by rw [hdl]; simp only [Array.length_toList]; omega)]
    rcases Nat.lt_or_ge j ((i + 1) * 3) with q | q
    · rw [if_pos q, hA1]
      simp only
      rw [layL_get (by rw [hvl]; simp only [Array.length_toList]; omega)]
      rw [List.getElem?_append_left (by rw [List.length_append, htk, hvl]; omega)] at hj
      rcases Nat.lt_or_ge j (i * 3) with q2 | q2
      · rw [if_pos q2]
        rw [List.getElem?_append_left (by rw [htk]; omega)] at hj
        rw [hA0]
        simp only [Array.toList_append, List.append_assoc]
        rw [List.getElem?_append_left (by simp only [htk]; omega)]
        exact hj
      · rw [if_neg (by omega), if_pos (by omega)]
        rw [List.getElem?_append_right (by rw [htk]; omega), htk] at hj
        exact hj
    · have hlt : j < (cs.take (i * 3) ++ vs ++ cs.drop (i * 3)).length := by
        rcases Nat.lt_or_ge j (cs.take (i * 3) ++ vs ++ cs.drop (i * 3)).length with h | h
        · exact h
        · rw [List.getElem?_eq_none h] at hj; cases hj
      simp only [List.length_append, htk, hvl, hdl] at hlt
      rw [if_neg (by omega), if_pos (by rw [hdl]; omega)]
      rw [List.getElem?_append_right (by rw [List.length_append, htk, hvl]; omega), List.length_append, htk, hvl] at hj
      rw [← hj]
      congr 1
      omega
  have hfz : (n + 1) * 3 + k * 3 ≤ A2.size := by omega
  have hw1 : IntKind.i64.wrap ((i : Int) + 1) = (i : Int) + 1 := by rw [IntKind.wrap_i64]; unfold appendMax at hn; omega
  have hw2 : IntKind.i64.wrap ((n : Int) + 1) = (n : Int) + 1 := by rw [IntKind.wrap_i64]; unfold appendMax at hn; omega
  have hw3 : IntKind.i64.wrap ((n : Int) + 1 - (i : Int)) = (n : Int) + 1 - (i : Int) := by rw [IntKind.wrap_i64]; unfold appendMax at hn; omega
  have hb1 : (0 : Int) ≤ (i : Int) + 1 := by omega
  have hin : i ≤ n := by omega
  have htn : ((i : Int) + 1).toNat = i + 1 := by omega
  have hb2 : ¬ (n + 1 + k = i + 1) := by omega
  have hb3 : (i : Int) ≤ (n : Int) + 1 := by omega
  have hb4 : ¬ (c = i) := by omega
  have hb5 : (c : Int) < (n : Int) + 1 := by omega
  have hb6 : ¬ (n + 1 + k = i) := by omega
  have hb7 : i ≤ n + 1 := by omega
  have mixed : Tryz.prog.follows .mixedOrders = true := by kernel_rfl
  obtain ⟨G, hG⟩ : ∃ G, G = n + 1 + k := ⟨_, rfl⟩
  have hG1 : n + 1 ≤ G := by omega
  rw [← hG] at hap hb2 hb6
  have hG2 : k = G - (n + 1) := by omega
  clear hG
  rw [hG2] at hfz
  clear hG2
  clear hW1 hW2 hW0 hA1 hA2 hA0 hA1s hA2s hA0s g0 g1 h1 h1o hb hA hcs hvs hcl hvl h1c h1v hdl zs htk hZ hZs hZv hinf hbytes hii hin1
  go_enter Tryz.func387, Tryz.ntmps387
  go_wp2_with (first
    | (at_builtin; refine Lib.wpList_append_run _ rfl _ _ _ _ rfl _ _ rfl rfl _ _ hap ?_)
    | (at_builtin; refine wpList_copy_runI _ rfl _ _ 342 192 rfl _ _ rfl rfl (hcp1 _ _) ?_))
  go_region_law_o (refine step_copy_runI rfl _ _ 342 342 rfl _ _ (by simp [Act.eval, Act.put]) (by simp [Act.eval, Act.put]) (hcp2 _ _ _) ?_)
  go_wp2
  go_ret
  exact ⟨G - (n + 1), A2, by rw [show n + 1 + (G - (n + 1)) = G by omega]; rfl, hfin.1, hfin.2.1, hfin.2.2.1, hfin.2.2.2, hfz, hget⟩

end Go.Proofs.YtelhdbkkigehgaaGreatDoor

/- slices.Insert of one cell of a page, as a summary. -/
namespace Go.Proofs.YtelhdbkkigehgaaGreatDoor
open Go.RowKit Go.Lib Go.Eng

set_option maxHeartbeats 4000000 in
set_option maxRecDepth 100000 in
theorem insert_end (b off n c vb voff vc : Nat) (u : Value) (w w1 : World)
    (h : (Builtin.append_ #[342, 192] 342 #[.slice (some ⟨b, off, none⟩) n c, .slice (some ⟨vb, voff, none⟩) 1 vc]).run Tryz.prog w = .ok u w1) :
    Calls Tryz.prog 387 #[.slice (some ⟨b, off, none⟩) n c, .int .i64 n, .slice (some ⟨vb, voff, none⟩) 1 vc] w fun e w' => e = .returned u ∧ w' = w1 := by
  have mixed : Tryz.prog.follows .mixedOrders = true := by kernel_rfl
  have hnn : n ≤ n := Nat.le_refl _
  go_enter Tryz.func387, Tryz.ntmps387
  go_wp2_with (at_builtin; refine Lib.wpList_append_run _ rfl _ _ _ _ rfl _ _ rfl rfl _ _ h ?_)
  all_goals
    go_ret
    exact ⟨rfl, rfl⟩

set_option maxHeartbeats 4000000 in
set_option maxRecDepth 100000 in
theorem insert_nil (vb voff vc : Nat) (u : Value) (w w1 : World)
    (h : (Builtin.append_ #[342, 192] 342 #[.slice none 0 0, .slice (some ⟨vb, voff, none⟩) 1 vc]).run Tryz.prog w = .ok u w1) :
    Calls Tryz.prog 387 #[.slice none 0 0, .int .i64 0, .slice (some ⟨vb, voff, none⟩) 1 vc] w fun e w' => e = .returned u ∧ w' = w1 := by
  have mixed : Tryz.prog.follows .mixedOrders = true := by kernel_rfl
  go_enter Tryz.func387, Tryz.ntmps387
  go_wp2_with (at_builtin; refine Lib.wpList_append_run _ rfl _ _ _ _ rfl _ _ rfl rfl _ _ h ?_)
  go_ret
  exact ⟨rfl, rfl⟩

noncomputable section
def outC : Option Out → Option CRes
  | some (.val v h c) => some (.mk v h c)
  | _ => none
/-- slices.Insert of one cell. -/
def insS (args : List AV) (h : Heap) (c : Nat) : Option CRes := match args with
  | [s, .int .i64 (.ofNat i), .slice n' o' 1 cp fl'] => match s with
    | .nils => bif Nat.beq i 0 then outC (aAppend Tryz.prog h c 342 (some 192) .nils (.slice n' o' 1 cp fl')) else none
    | .slice n o len cap fl => bif Nat.ble (len + 1) appendMax && Nat.ble len cap then
        bif Nat.beq i len then outC (aAppend Tryz.prog h c 342 (some 192) (.slice n o len cap fl) (.slice n' o' 1 cp fl'))
        else bif Nat.ble (i + 1) len && fl && !Nat.beq n n' && Nat.beq (Nat.mod o 3) 0 then
          (cells? h n).bind fun tc => (row? tc.2 o (len * 3)).bind fun r => (cells? h n').bind fun tc' => (row? tc'.2 o' 3).bind fun vs =>
            bif Nat.beq tc.1 250 && Nat.beq tc'.1 250 && Nat.beq (o + cap * 3) tc.2.length then
              outC (putObj h n none fun h => newCells h c 250 (r.take (i * 3) ++ vs ++ r.drop (i * 3)) (.slice c 0 (len + 1) (len + 1) true))
            else none
        else none
      else none
    | _ => none
  | _ => none
end

theorem outC_some {o : Option Out} {v : AV} {h : Heap} {c : Nat} (e : outC o = some (.mk v h c)) : o = some (.val v h c) := by
  unfold outC at e
  split at e
  · cases e; rfl
  · cases e

theorem block_at {η : Env} {σ : Sig} {h : Heap} {c n t : Nat} {cs : List AV} {w : World} (H : HR Tryz.prog σ η h c w) (hn : cells? h n = some (t, cs)) {l : Eng.Loc} (hl : σ n = some l) : ObjR Tryz.prog σ η w l (.cells t cs) := by
  obtain ⟨l', hl', ob⟩ := H.obj n _ (cells?_iff.1 hn)
  rw [hl] at hl'; cases hl'; exact ob

theorem row_in {η : Env} {σ : Sig} {l : Eng.Loc} {cs r : List AV} {o k : Nat} {C : Array Value} {us : List Value} (h3 : concs σ η cs = some us) (h4 : allOne us = true) (h5 : ∀ i v, us[i]? = some v → C[l.off + i]? = some v) (hr : row? cs o k = some r) :
    ∃ rs, concs σ η r = some rs ∧ allOne rs = true ∧ rs.length = k ∧ ∀ j v, rs[j]? = some v → C[l.off + o + j]? = some v := by
  obtain ⟨k1, k2, k3⟩ := concs_row h3 hr
  have hlen : ((us.drop o).take k).length = k := by rw [concs_length k1]; exact k2
  refine ⟨_, k1, allOne_iff.2 fun v hv => allOne_iff.1 h4 v (List.mem_of_mem_drop (List.mem_of_mem_take hv)), hlen, fun i v hv => ?_⟩
  rw [List.getElem?_take] at hv
  split at hv
  · rw [List.getElem?_drop] at hv
    have := h5 _ _ hv
    rwa [← Nat.add_assoc] at this
  · cases hv

theorem ins_ok {η : Env} {args : List AV} {h : Heap} {c : Nat} {v : AV} {h' : Heap} {c' : Nat} (he : insS args h c = some (.mk v h' c')) {σ : Sig} {w : World} {avs : List Value} (H : HR Tryz.prog σ η h c w) (ha : concs σ η args = some avs) : Calls Tryz.prog 387 avs.toArray w (Done Tryz.prog η σ h c w v h' c') := by
  unfold insS at he
  split at he
  rotate_left
  · cases he
  rename_i s i n' o' cp fl'
  obtain ⟨sv, r1, hs, hr1, rfl⟩ := concs_cons.1 ha
  obtain ⟨iv, r2, hiv, hr2, rfl⟩ := concs_cons.1 hr1
  obtain ⟨xv, r3, hx, hr3, rfl⟩ := concs_cons.1 hr2
  simp only [concs, Option.some.injEq] at hr3
  subst hr3
  rw [conc_int] at hiv
  subst hiv
  obtain ⟨l', hl', rfl⟩ := conc_slice.1 hx
  split at he
  · -- nil
    rw [conc_nils] at hs
    subst hs
    cases hi : Nat.beq i 0 with
    | false => simp [hi] at he
    | true =>
    simp only [hi, cond_true] at he
    have hi := Nat.eq_of_beq_eq_true hi
    subst hi
    have hap := aAppend_ok («as» := #[342, 192]) (vs := #[.slice none 0 0, .slice (some ⟨l'.blk, l'.off + o', none⟩) 1 (cp + (if fl' then l'.slack else 0))]) (ty := 342) (outC_some he) H (conc_nils.2 rfl) hx rfl rfl rfl rfl
    obtain ⟨u, σ', w', q1, q2, q3⟩ := hap
    refine Calls.mono (insert_nil _ _ _ u w w' q3) ?_
    rintro e w2 ⟨rfl, rfl⟩
    exact ⟨u, σ', rfl, q1, q2⟩
  · rename_i n o len cap fl
    cases h0 : (Nat.ble (len + 1) appendMax && Nat.ble len cap) with
    | false => simp [h0] at he
    | true =>
    simp only [h0, cond_true] at he
    rw [Bool.and_eq_true] at h0
    have hlen := Nat.le_of_ble_eq_true h0.1
    have hcap := Nat.le_of_ble_eq_true h0.2
    obtain ⟨l, hl, rfl⟩ := conc_slice.1 hs
    cases hi : Nat.beq i len with
    | true =>
      simp only [hi, cond_true] at he
      have hi := Nat.eq_of_beq_eq_true hi
      subst hi
      have hap := aAppend_ok («as» := #[342, 192]) (vs := #[.slice (some ⟨l.blk, l.off + o, none⟩) i (cap + (if fl then l.slack else 0)), .slice (some ⟨l'.blk, l'.off + o', none⟩) 1 (cp + (if fl' then l'.slack else 0))]) (ty := 342) (outC_some he) H hs hx rfl rfl rfl rfl
      obtain ⟨u, σ', w', q1, q2, q3⟩ := hap
      refine Calls.mono (insert_end _ _ _ _ _ _ _ u w w' q3) ?_
      rintro e w2 ⟨rfl, rfl⟩
      exact ⟨u, σ', rfl, q1, q2⟩
    | false =>
      simp only [hi, cond_false] at he
      cases h1 : (Nat.ble (i + 1) len && fl && !Nat.beq n n' && Nat.beq (Nat.mod o 3) 0) with
      | false => simp [h1] at he
      | true =>
      simp only [h1, cond_true, Option.bind_eq_some_iff] at he
      rw [Bool.and_eq_true, Bool.and_eq_true, Bool.and_eq_true, Bool.not_eq_true'] at h1
      have hil := Nat.le_of_ble_eq_true h1.1.1.1
      have hfl := h1.1.1.2
      subst hfl
      have hnn : n ≠ n' := fun e => by subst e; simp at h1
      have hom : o % 3 = 0 := Nat.eq_of_beq_eq_true h1.2
      obtain ⟨⟨t, cs⟩, hc, r, hr, ⟨t', cs'⟩, hc', vs, hvs, he⟩ := he
      cases h2 : (Nat.beq t 250 && Nat.beq t' 250 && Nat.beq (o + cap * 3) cs.length) with
      | false => simp [h2] at he
      | true =>
      simp only [h2, cond_true] at he
      rw [Bool.and_eq_true, Bool.and_eq_true] at h2
      have ht := Nat.eq_of_beq_eq_true h2.1.1
      have ht' := Nat.eq_of_beq_eq_true h2.1.2
      subst ht
      have hcl := Nat.eq_of_beq_eq_true h2.2
      have he := outC_some he
      obtain ⟨hb, he⟩ := putObj_ok he
      obtain ⟨C, fr, us, k1, k2, k3, k4, k5, k6, k7⟩ := block_at H hc hl
      obtain ⟨D, frD, us', m1, m2, m3, m4, m5, m6, m7⟩ := block_at H hc' hl'
      obtain ⟨RS, r1, r2, r3, r4⟩ := row_in k3 k4 k5 hr
      obtain ⟨VS, v1, v2, v3, v4⟩ := row_in m3 m4 m5 hvs
      have hus : us.length = o + cap * 3 := by rw [concs_length k3]; exact hcl.symm
      have hc133 : Tryz.prog.cellsOf 250 = 3 := by kernel_rfl
      rw [hc133] at k6 k7
      have hnew : concs σ η (r.take (i * 3) ++ vs ++ r.drop (i * 3)) = some (RS.take (i * 3) ++ VS ++ RS.drop (i * 3)) := concs_append (concs_append (concs_take _ r1) v1) (concs_drop _ r1)
      have hnew1 : allOne (RS.take (i * 3) ++ VS ++ RS.drop (i * 3)) = true := allOne_append.2 ⟨allOne_append.2 ⟨allOne_iff.2 fun v hv => allOne_iff.1 r2 v (List.mem_of_mem_take hv), v2⟩, allOne_iff.2 fun v hv => allOne_iff.1 r2 v (List.mem_of_mem_drop hv)⟩
      have hnewl : (RS.take (i * 3) ++ VS ++ RS.drop (i * 3)).length = (len + 1) * 3 := by simp only [List.length_append, List.length_take, List.length_drop, r3, v3]; omega
      simp only [if_true]
      by_cases hroom : len + 1 ≤ cap + l.slack
      · -- in place
        have hfe : w.frozen? ⟨l'.blk, D.size, none⟩ = false := by
          simp only [World.frozen?, m1]
          have hD : D.size < lim Tryz.prog t' D.size := by rw [ht']; unfold lim; rw [show isU8 Tryz.prog 250 = false by kernel_rfl]; simp
          simpa using m2 D.size hD
        refine Calls.mono (insert_shift l.blk (l.off + o) len (cap + l.slack) i l'.blk (l'.off + o') _ C D 250 t' fr frD RS VS w k1 (fun j hj => k2 j (Nat.lt_of_lt_of_le hj lim_le)) m1 (fun j hj => m2 j (Nat.lt_of_lt_of_le hj lim_le)) hfe (fun e => hnn (H.inj n n' l l' (by rw [cells?_iff.1 hc]; rfl) (by rw [cells?_iff.1 hc']; rfl) hl hl' e.symm)) (by omega) hroom (by omega) (by omega) r3 r4 r2 v3 v4 v2) ?_
        rintro e w' ⟨rfl, rfl⟩
        unfold newCells fCells at he
        rw [fAVs_eq] at he
        obtain ⟨hcb, he⟩ := putObj_ok he
        rw [fNat_eq] at he
        cases he
        have hlt : l.blk < w.heap.size := by
          rcases Nat.lt_or_ge l.blk w.heap.size with h | h
          · exact h
          · rw [Array.getElem?_eq_none h] at k1; cases k1
        have hd : (RS.drop (i * 3)).length = (len - i) * 3 := by rw [List.length_drop, r3]; omega
        have ht : (RS.take (i * 3)).length = i * 3 := by rw [List.length_take, r3]; omega
        have s1 := layL_length (L := C.toList) (V := RS.drop (i * 3)) (o := l.off + o + (i + 1) * 3) (by rw [hd]; simp only [Array.length_toList]; omega)
        have s2 := layL_length (L := layL C.toList (l.off + o + (i + 1) * 3) (RS.drop (i * 3))) (V := VS) (o := l.off + o + i * 3) (by rw [s1, v3]; simp only [Array.length_toList]; omega)
        have wt := move_ok (P := Tryz.prog) (l' := ⟨l.blk, l.off + o, cap + l.slack - (len + 1)⟩) (o := .cells 250 (r.take (i * 3) ++ vs ++ r.drop (i * 3))) (O := .cells ⟨layL (layL C.toList (l.off + o + (i + 1) * 3) (RS.drop (i * 3))) (l.off + o + i * 3) VS⟩ 250 fr) H hb hcb hl (by rw [cells?_iff.1 hc]; rfl) rfl rfl
          ⟨⟨layL (layL C.toList (l.off + o + (i + 1) * 3) (RS.drop (i * 3))) (l.off + o + i * 3) VS⟩, fr, RS.take (i * 3) ++ VS ++ RS.drop (i * 3), by simp only [Array.getElem?_setIfInBounds_self, if_pos hlt], fun j hj => k2 j (by
              have : j < lim Tryz.prog 250 (layL (layL C.toList (l.off + o + (i + 1) * 3) (RS.drop (i * 3))) (l.off + o + i * 3) VS).length := by simpa using hj
              rw [s2, s1] at this; simpa using this), concs_ext (ext_upd (H.new c (Nat.le_refl _))) hnew, hnew1, fun j y hj => ?_, ?_⟩
        · refine ⟨_, _, rfl, conc_slice.2 ⟨_, upd_same _ _ _, ?_⟩, wt.heap rfl rfl rfl rfl⟩
          simp only [if_true]
          rw [show len + 1 + (cap + l.slack - (len + 1)) = cap + l.slack by omega]
          rfl
        · simp only [List.getElem?_toArray]
          rw [layL_get (by rw [s1, v3]; simp only [Array.length_toList]; omega), layL_get (by rw [hd]; simp only [Array.length_toList]; omega)]
          rcases Nat.lt_or_ge j ((i + 1) * 3) with q | q
          · rw [List.getElem?_append_left (by rw [List.length_append, ht, v3]; omega)] at hj
            rcases Nat.lt_or_ge j (i * 3) with q2 | q2
            · rw [List.getElem?_append_left (by rw [ht]; omega)] at hj
              rw [if_pos (by omega), if_pos (by omega)]
              rw [List.getElem?_take] at hj
              rw [if_pos q2] at hj
              simpa using r4 j y hj
            · rw [List.getElem?_append_right (by rw [ht]; omega), ht] at hj
              rw [if_neg (by omega), if_pos (by omega), ← hj, show l.off + o + j - (l.off + o + i * 3) = j - i * 3 by omega]
          · have hjl : j < (RS.take (i * 3) ++ VS ++ RS.drop (i * 3)).length := by
              rcases Nat.lt_or_ge j (RS.take (i * 3) ++ VS ++ RS.drop (i * 3)).length with h | h
              · exact h
              · rw [List.getElem?_eq_none h] at hj; cases hj
            rw [hnewl] at hjl
            rw [List.getElem?_append_right (by rw [List.length_append, ht, v3]; omega), List.length_append, ht, v3] at hj
            rw [if_neg (by omega), if_neg (by omega), if_neg (by omega), if_pos (by rw [hd]; omega), ← hj, show l.off + o + j - (l.off + o + (i + 1) * 3) = j - (i * 3 + 3) by omega]
        · simp only [List.size_toArray]
          rw [s2, s1, hnewl, hc133]
          simp only [Array.length_toList]
          exact ⟨by omega, by rw [Nat.add_mod, k7, hom]⟩
      · -- a new row
        refine Calls.mono (insert_grow l.blk (l.off + o) len (cap + l.slack) i l'.blk (l'.off + o') _ C D 250 t' fr frD RS VS w k1 m1 (by omega) (by omega) (by omega) (by omega) r3 r4 r2 v3 v4 v2) ?_
        rintro e w' ⟨k, A, rfl, g1, g2, g3, g4, g5, g6⟩
        have wk := kill_ok H hb
        have := newCells_ok (sl := k) (w' := w') (C := A) (fr := (0, 0)) he wk.rel hnew hnew1 g6 (by rw [hc133, hnewl]; exact g5) (fun j _ q => by omega) g1 g2 g3 g4
        obtain ⟨rfl, wt⟩ := this
        exact ⟨_, _, rfl, conc_slice.2 ⟨_, upd_same _ _ _, rfl⟩, wk.trans wt⟩
  · cases he

end Go.Proofs.YtelhdbkkigehgaaGreatDoor

/-
  DERIVED: THE SHELF's CONTRACTS AT THIS DUMP, IN PLAIN WORDS (tools/lay-plain.mjs out of 'YtelhdbkkigehgaaGreatDoorShelf.lean', which tools/lay-shelf.mjs wrote): THE SAME DECLARATIONS UNDER THE SAME NAMES: 'import', 'namespace', 'open', 'def', 'theorem' AND NOTHING ELSE: no command of the shelf's: FOR A HAND-IN. Each laying: the table of numbers ('.._ren') and one theorem, a field a fact of the dump's own or the kernel's comparison; each contract: ONE APPLICATION.
-/
namespace Go.Proofs
open Go.Shelf
def Tryz.l17_ren : Go.Shelf.Ren := ⟨fun | 17 => 317 | 15 => 432 | 20 => 507 | n => n, fun | 9 => 9 | 23 => 415 | 4 => 4 | 3 => 3 | 0 => 0 | 21 => 21 | n => n, fun | n => n⟩
theorem Tryz.l17 : Go.Proofs.LaysGw.n17 Tryz.prog Tryz.l17_ren := {
  mixed := by kernel_rfl
  f15 := Tryz.func432.trans (congrArg some (by kernel_rfl))
  f17 := Tryz.func317.trans (congrArg some (by kernel_rfl))
  f20 := Tryz.func507.trans (congrArg some (by kernel_rfl))
  t0 := Tryz.underlying0
  a0 := Tryz.isAgg0
  z0 := Tryz.sizeOf0
  v0 := Tryz.zeroValue0
  i0 := by kernel_rfl
  t3 := Tryz.underlying3
  a3 := Tryz.isAgg3
  z3 := Tryz.sizeOf3
  v3 := Tryz.zeroValue3
  i3 := by kernel_rfl
  t4 := Tryz.underlying4
  a4 := Tryz.isAgg4
  z4 := Tryz.sizeOf4
  v4 := Tryz.zeroValue4
  i4 := by kernel_rfl
  t9 := Tryz.underlying9
  a9 := Tryz.isAgg9
  z9 := Tryz.sizeOf9
  v9 := Tryz.zeroValue9
  i9 := by kernel_rfl
  t21 := Tryz.underlying21
  a21 := Tryz.isAgg21
  z21 := Tryz.sizeOf21
  v21 := Tryz.zeroValue21
  i21 := by kernel_rfl
  t23 := Tryz.underlying415
  a23 := Tryz.isAgg415
  z23 := Tryz.sizeOf415
  v23 := Tryz.zeroValue415
  i23 := by kernel_rfl }
def Tryz.keys129_ren : Go.Shelf.Ren := ⟨fun | 7 => 392 | 10 => 491 | n => n, fun | 23 => 274 | 26 => 9 | 3 => 372 | 28 => 75 | 0 => 0 | 27 => 74 | 33 => 112 | 4 => 4 | n => n, fun | n => n⟩
theorem Tryz.keys129 : Go.Proofs.SlLaysZ.n7 Tryz.prog Tryz.keys129_ren := {
  mixed := by kernel_rfl
  f7 := ⟨Tryz.f392.name, by decide, Tryz.func392.trans (congrArg some (by kernel_rfl))⟩
  f10 := ⟨Tryz.f491.name, by decide, Tryz.func491.trans (congrArg some (by kernel_rfl))⟩
  t0 := Tryz.underlying0
  a0 := Tryz.isAgg0
  z0 := Tryz.sizeOf0
  v0 := Tryz.zeroValue0
  t4 := Tryz.underlying4
  a4 := Tryz.isAgg4
  z4 := Tryz.sizeOf4
  v4 := Tryz.zeroValue4
  t23 := Tryz.underlying274
  a23 := Tryz.isAgg274
  z23 := Tryz.sizeOf274
  v23 := Tryz.zeroValue274
  t26 := Tryz.underlying9
  a26 := Tryz.isAgg9
  z26 := Tryz.sizeOf9
  v26 := Tryz.zeroValue9
  t27 := Tryz.underlying74
  a27 := Tryz.isAgg74
  z27 := Tryz.sizeOf74
  v27 := Tryz.zeroValue74
  t28 := Tryz.underlying75
  a28 := Tryz.isAgg75
  z28 := Tryz.sizeOf75
  v28 := Tryz.zeroValue75
  t33 := Tryz.underlying112
  a33 := Tryz.isAgg112
  z33 := Tryz.sizeOf112
  v33 := Tryz.zeroValue112 }
def Tryz.sorted128_ren : Go.Shelf.Ren := ⟨fun | 6 => 391 | 8 => 489 | 9 => 490 | 11 => 548 | 13 => 323 | 12 => 549 | 23 => 445 | 24 => 399 | 14 => 565 | 15 => 566 | 16 => 567 | 17 => 568 | 18 => 569 | 19 => 570 | 20 => 571 | 21 => 572 | 22 => 573 | 25 => 577 | 26 => 510 | 27 => 511 | 28 => 578 | 29 => 579 | 30 => 562 | 31 => 581 | n => n, fun | 26 => 9 | 28 => 75 | 24 => 50 | 0 => 0 | 3 => 3 | 37 => 267 | 48 => 385 | 50 => 376 | 4 => 4 | 40 => 530 | 39 => 529 | 45 => 83 | 5 => 5 | 9 => 9 | 51 => 593 | 55 => 334 | 57 => 636 | 58 => 343 | 33 => 112 | n => n, fun | n => n⟩
theorem Tryz.sorted128 : Go.Proofs.SlLaysZ.n6 Tryz.prog Tryz.sorted128_ren := {
  mixed := by kernel_rfl
  f6 := ⟨Tryz.f391.name, by decide, Tryz.func391.trans (congrArg some (by kernel_rfl))⟩
  f8 := ⟨Tryz.f489.name, by decide, Tryz.func489.trans (congrArg some (by kernel_rfl))⟩
  f11 := ⟨Tryz.f548.name, by decide, Tryz.func548.trans (congrArg some (by kernel_rfl))⟩
  t0 := Tryz.underlying0
  a0 := Tryz.isAgg0
  z0 := Tryz.sizeOf0
  v0 := Tryz.zeroValue0
  t24 := Tryz.underlying50
  a24 := Tryz.isAgg50
  z24 := Tryz.sizeOf50
  v24 := Tryz.zeroValue50
  t26 := Tryz.underlying9
  a26 := Tryz.isAgg9
  z26 := Tryz.sizeOf9
  v26 := Tryz.zeroValue9
  t28 := Tryz.underlying75
  a28 := Tryz.isAgg75
  z28 := Tryz.sizeOf75
  v28 := Tryz.zeroValue75
  i26 := by kernel_rfl }
def Tryz.sort212_ren : Go.Shelf.Ren := ⟨fun | 6 => 490 | 8 => 323 | 9 => 549 | 19 => 445 | 20 => 399 | 21 => 565 | 22 => 566 | 23 => 567 | 24 => 568 | 25 => 569 | 26 => 570 | 27 => 571 | 28 => 572 | 29 => 573 | 36 => 577 | 31 => 510 | 32 => 511 | 37 => 578 | 38 => 579 | 39 => 562 | 41 => 581 | n => n, fun | 27 => 50 | 29 => 9 | 3 => 3 | 32 => 267 | 26 => 50 | 0 => 0 | 44 => 385 | 46 => 376 | 4 => 4 | 36 => 530 | 35 => 529 | 41 => 83 | 5 => 5 | 9 => 9 | 53 => 593 | 57 => 334 | 63 => 636 | 64 => 343 | n => n, fun | n => n⟩
theorem Tryz.sort212 : Go.Proofs.SlLaysM.n6 Tryz.prog Tryz.sort212_ren := {
  mixed := by kernel_rfl
  f6 := ⟨Tryz.f490.name, by decide, Tryz.func490.trans (congrArg some (by kernel_rfl))⟩
  f8 := Tryz.func323.trans (congrArg some (by kernel_rfl))
  f9 := ⟨Tryz.f549.name, by decide, Tryz.func549.trans (congrArg some (by kernel_rfl))⟩
  f19 := Tryz.func445.trans (congrArg some (by kernel_rfl))
  f20 := Tryz.func399.trans (congrArg some (by kernel_rfl))
  f21 := ⟨Tryz.f565.name, by decide, Tryz.func565.trans (congrArg some (by kernel_rfl))⟩
  f22 := ⟨Tryz.f566.name, by decide, Tryz.func566.trans (congrArg some (by kernel_rfl))⟩
  f23 := ⟨Tryz.f567.name, by decide, Tryz.func567.trans (congrArg some (by kernel_rfl))⟩
  f24 := ⟨Tryz.f568.name, by decide, Tryz.func568.trans (congrArg some (by kernel_rfl))⟩
  f25 := ⟨Tryz.f569.name, by decide, Tryz.func569.trans (congrArg some (by kernel_rfl))⟩
  f26 := ⟨Tryz.f570.name, by decide, Tryz.func570.trans (congrArg some (by kernel_rfl))⟩
  f27 := ⟨Tryz.f571.name, by decide, Tryz.func571.trans (congrArg some (by kernel_rfl))⟩
  f28 := ⟨Tryz.f572.name, by decide, Tryz.func572.trans (congrArg some (by kernel_rfl))⟩
  f29 := ⟨Tryz.f573.name, by decide, Tryz.func573.trans (congrArg some (by kernel_rfl))⟩
  f31 := Tryz.func510.trans (congrArg some (by kernel_rfl))
  f32 := Tryz.func511.trans (congrArg some (by kernel_rfl))
  f36 := ⟨Tryz.f577.name, by decide, Tryz.func577.trans (congrArg some (by kernel_rfl))⟩
  f37 := ⟨Tryz.f578.name, by decide, Tryz.func578.trans (congrArg some (by kernel_rfl))⟩
  f38 := ⟨Tryz.f579.name, by decide, Tryz.func579.trans (congrArg some (by kernel_rfl))⟩
  f39 := ⟨Tryz.f562.name, by decide, Tryz.func562.trans (congrArg some (by kernel_rfl))⟩
  f41 := ⟨Tryz.f581.name, by decide, Tryz.func581.trans (congrArg some (by kernel_rfl))⟩
  t0 := Tryz.underlying0
  a0 := Tryz.isAgg0
  z0 := Tryz.sizeOf0
  v0 := Tryz.zeroValue0
  t3 := Tryz.underlying3
  a3 := Tryz.isAgg3
  z3 := Tryz.sizeOf3
  v3 := Tryz.zeroValue3
  t4 := Tryz.underlying4
  a4 := Tryz.isAgg4
  z4 := Tryz.sizeOf4
  v4 := Tryz.zeroValue4
  t5 := Tryz.underlying5
  a5 := Tryz.isAgg5
  z5 := Tryz.sizeOf5
  v5 := Tryz.zeroValue5
  t9 := Tryz.underlying9
  a9 := Tryz.isAgg9
  z9 := Tryz.sizeOf9
  v9 := Tryz.zeroValue9
  t26 := Tryz.underlying50
  a26 := Tryz.isAgg50
  z26 := Tryz.sizeOf50
  v26 := Tryz.zeroValue50
  t27 := Tryz.underlying50
  a27 := Tryz.isAgg50
  z27 := Tryz.sizeOf50
  v27 := Tryz.zeroValue50
  t29 := Tryz.underlying9
  a29 := Tryz.isAgg9
  z29 := Tryz.sizeOf9
  v29 := Tryz.zeroValue9
  t32 := Tryz.underlying267
  a32 := Tryz.isAgg267
  z32 := Tryz.sizeOf267
  v32 := Tryz.zeroValue267
  t35 := Tryz.underlying529
  a35 := Tryz.isAgg529
  z35 := Tryz.sizeOf529
  v35 := Tryz.zeroValue529
  t36 := Tryz.underlying530
  a36 := Tryz.isAgg530
  z36 := Tryz.sizeOf530
  v36 := Tryz.zeroValue530
  t41 := Tryz.underlying83
  a41 := Tryz.isAgg83
  z41 := Tryz.sizeOf83
  v41 := Tryz.zeroValue83
  t44 := Tryz.underlying385
  a44 := Tryz.isAgg385
  z44 := Tryz.sizeOf385
  v44 := Tryz.zeroValue385
  t46 := Tryz.underlying376
  a46 := Tryz.isAgg376
  z46 := Tryz.sizeOf376
  v46 := Tryz.zeroValue376
  t53 := Tryz.underlying593
  a53 := Tryz.isAgg593
  z53 := Tryz.sizeOf593
  v53 := Tryz.zeroValue593
  t57 := Tryz.underlying334
  a57 := Tryz.isAgg334
  z57 := Tryz.sizeOf334
  v57 := Tryz.zeroValue334
  t63 := Tryz.underlying636
  a63 := Tryz.isAgg636
  z63 := Tryz.sizeOf636
  v63 := Tryz.zeroValue636
  t64 := Tryz.underlying343
  a64 := Tryz.isAgg343
  z64 := Tryz.sizeOf343
  v64 := Tryz.zeroValue343 }
end Go.Proofs

/- spans.Name of any string, by the library's ContainsFunc. -/
namespace Go.Proofs.YtelhdbkkigehgaaGreatDoor
open Go.RowKit Go.Shelf Go.Lib

theorem nil_iff {x : ByteArray} : x.toList = [] ↔ x.size = 0 := by
  have hs : x.toList.length = x.size := by rw [ByteArray.toList_eq]; exact Array.length_toList
  rw [← hs]; exact List.length_eq_zero_iff.symm
def oddP (c : Nat) : Bool := decide (c ≤ 32) || decide (126 < c)
theorem odd_all (c : Nat) (w : World) : Calls Tryz.prog 316 #[.int .i32 (c : Int)] w fun e w' => e = .returned (.bool (oddP c)) ∧ ∃ q, w' = w.drewN q := by
  unfold oddP
  by_cases h1 : (c : Int) ≤ 32
  · go_enter Tryz.func316, Tryz.ntmps316
    go_wp2
    go_ret
    have e : decide (c ≤ 32) = true := by simp; omega
    exact ⟨by rw [e]; rfl, 0, rfl⟩
  · by_cases h2 : (126 : Int) < (c : Int)
    · go_enter Tryz.func316, Tryz.ntmps316
      go_wp2
      go_ret
      have e : decide (126 < c) = true := by simp; omega
      exact ⟨by rw [e, Bool.or_true]; rfl, 0, rfl⟩
    · go_enter Tryz.func316, Tryz.ntmps316
      go_wp2
      go_ret
      have e1 : decide (c ≤ 32) = false := by simp; omega
      have e2 : decide (126 < c) = false := by simp; omega
      exact ⟨by rw [e1, e2]; rfl, 0, rfl⟩
theorem contains_all (s : ByteArray) (w : World) : Calls Tryz.prog 317 #[.string s, .func (.func 316) #[] #[]] w fun e w' => e = .returned (.bool (decide (0 ≤ Lib.idxFunc oddP true s))) ∧ Kept (fun _ => False) w w' := by
  have h := Any.strings_ContainsFunc Tryz.l17 316 #[] (enters_of Tryz.func316 (by kernel_rfl) rfl) oddP s w (fun W x _ => odd_all x W)
  change Calls Tryz.prog 317 _ _ _ at h
  exact h.mono fun e w' ⟨he, hb⟩ => ⟨he, hb.os, hb.tape, hb.output, hb.size, fun k hk _ => hb.block k hk⟩
def nameB (s : ByteArray) : Bool := decide (s.size ≠ 0) && decide (s.size ≤ 12) && !decide (0 ≤ Lib.idxFunc oddP true s)
set_option maxRecDepth 100000 in
theorem name_all (s : ByteArray) (hs : s.size ≤ 9223372036854775807) (w : World) : Calls Tryz.prog 205 #[.string s] w fun e w' => e = .returned (.bool (nameB s)) ∧ Kept (fun _ => False) w w' := by
  have C := Lib.hid (contains_all s)
  obtain ⟨B, hB⟩ : ∃ B, decide (0 ≤ Lib.idxFunc oddP true s) = B := ⟨_, rfl⟩
  rw [hB] at C
  unfold nameB
  rw [hB]
  clear hB
  by_cases h0 : s.size = 0
  · have e2 : (s.toList == ([] : List UInt8)) = true := by
      have : s.toList = [] := nil_iff.2 h0
      simpa using this
    have e3 : decide (s.size ≠ 0) = false := by simp [h0]
    rw [e3]
    clear h0 e3
    go_enter Tryz.func205, Tryz.ntmps205
    go_wp2
    go_ret
    exact ⟨rfl, Kept.refl _ w⟩
  · have e2 : (s.toList == ([] : List UInt8)) = false := by
      have : ¬ s.toList = [] := fun e => h0 (nil_iff.1 e)
      simpa using this
    have e3 : decide (s.size ≠ 0) = true := by simp [h0]
    rw [e3]
    by_cases h1 : (s.size : Int) ≤ 12
    · have e4 : decide (s.size ≤ 12) = true := by simp; omega
      rw [e4]
      clear h0 e3 e4
      go_enter Tryz.func205, Tryz.ntmps205
      go_wp2_with (go_at_call 317; refine (C.out _).mono ?_; rintro e w4 ⟨rfl, k4⟩)
      go_ret
      exact ⟨by cases B <;> rfl, k4⟩
    · have e4 : decide (s.size ≤ 12) = false := by simp; omega
      rw [e4]
      clear h0 e3 e4
      go_enter Tryz.func205, Tryz.ntmps205
      go_wp2
      go_ret
      exact ⟨rfl, Kept.refl _ w⟩
end Go.Proofs.YtelhdbkkigehgaaGreatDoor

/- spans.Name, as a summary. -/
namespace Go.Proofs.YtelhdbkkigehgaaGreatDoor
open Go.RowKit Go.Lib Go.Eng

noncomputable section
def namS (args : List AV) : Option AV := match args with
  | [.str l] => bif Nat.ble l.length 1000000 then some (.bool (nameB (bs l))) else none
  | _ => none
end

theorem Kept.eng {S : Nat → Prop} {w w' : World} (h : Kept S w w') : Eng.Kept S w w' := ⟨h.os, h.tape, h.output, h.size, h.block⟩

theorem nam_ok {η : Env} {args : List AV} {v : AV} (he : namS args = some v) (σ : Sig) (avs : List Value) (w : World) (ha : concs σ η args = some avs) :
    Calls Tryz.prog 205 avs.toArray w (fun e w' => ∃ u, e = .returned u ∧ conc σ η v = some u ∧ Eng.Kept (fun _ => False) w w') := by
  unfold namS at he
  split at he
  rotate_left
  · cases he
  rename_i l
  obtain ⟨sv, r, hs, hr, rfl⟩ := concs_cons.1 ha
  simp only [concs, Option.some.injEq] at hr
  subst hr
  obtain ⟨_, rfl⟩ := conc_str.1 hs
  cases hl : Nat.ble l.length 1000000 with
  | false => simp [hl] at he
  | true =>
  simp only [hl, cond_true, Option.some.injEq] at he
  subst he
  have hl := Nat.le_of_ble_eq_true hl
  refine Calls.mono (name_all (bs l) (by rw [bs_size]; omega) w) ?_
  rintro e w' ⟨rfl, k⟩
  exact ⟨_, rfl, rfl, k.eng⟩

theorem nam_t : nameB (bs [104, 105, 45, 52]) = true := by decide +kernel
end Go.Proofs.YtelhdbkkigehgaaGreatDoor

/- slices.Sorted(maps.Keys(m)) at this program: the library's proved contracts, applied (printed by the kit's lay-iter). -/
namespace Go.Proofs
open Go.RowKit Go.Maps Go.Sort Go.Shelf

/-- slices.Sort's two contracts at this dump, at the fence that asks nothing. -/
theorem Tryz.sorts128 (m : Nat) : AnyZ.SortsIn Tryz.prog Tryz.sorted128_ren Fence.wide m :=
  ⟨fun blk off cap ss W hH hblk hsz => callsIn_wide.2 (AnyM.slices_Sort_string Tryz.sort212 blk off cap ss W hH hblk hsz),
   fun p cap W => callsIn_wide.2 (AnyM.slices_Sort_string_none Tryz.sort212 p cap W)⟩

/-- **maps.Keys[map[string]spoor/disk.file,string,spoor/disk.file], at whatever map, the nil one too:** a function value over ONE NEW BLOCK, which holds the map. -/
theorem Tryz.maps_Keys_129 (mb : Option Nat) (W : World) : CallsIn Fence.wide 5 Tryz.prog 392 #[.map mb] W fun e w' => e = .returned (.func (.func 491) #[] #[.pointer (some ⟨W.heap.size, 0, none⟩)]) ∧ w' = W.alloc (.cells #[.map mb] 274) :=
  AnyZ.keys_in Tryz.keys129 Fence.wide 5 trivial rfl mb W

set_option maxRecDepth 100000 in
set_option maxHeartbeats 1000000 in
/-- **slices.Sorted[string] AT WHAT maps.Keys[map[string]spoor/disk.file,string,spoor/disk.file] HANDED BACK FOR A MAP THAT IS NOT nil** ('w': the world AHEAD of maps.Keys' call): A NEW SLICE THAT HOLDS THE MAP's KEYS, SORTED; nil just where it has none; nothing that lay before has turned. -/
theorem Tryz.slices_Sorted_keys_128_129 {H : Type} (b nn : Nat) (D0 : DataW H) (R : Value → Option (DataW H × List MemPlace)) (w : World) (hown : w.ownsMap Tryz.prog 9 R b nn D0) (hmax : Maps.size D0 ≤ maxLen) (hbytes : Maps.size D0 * 16 ≤ 140737488355328) :
    CallsIn Fence.wide 5 Tryz.prog 391 #[.func (.func 491) #[] #[.pointer (some ⟨w.heap.size, 0, none⟩)]] (w.alloc (.cells #[.map (some b)] 274)) fun e w' => ∃ (v : Value) (ss : List (List UInt8)), e = .returned v ∧ ss.Perm (strKeys D0) ∧
      w'.ownsRow (w.alloc (.cells #[.map (some b)] 274)).heap.size 9 1 v ss.length ((ss.mergeSort (fun x y => decide (x ≤ y))).map encStr) ∧ (v = .slice none 0 0 ↔ ss = []) ∧ Below (w.alloc (.cells #[.map (some b)] 274)).heap.size (w.alloc (.cells #[.map (some b)] 274)) w' := by
  have hbl := hown.lt
  have hseq : SeqGives Fence.wide 2 Tryz.prog 491 #[.pointer (some ⟨w.heap.size, 0, none⟩)] encStr (fun ss => ss.Perm (strKeys D0)) (Maps.size D0) (w.alloc (.cells #[.map (some b)] 274)) :=
    AnyZ.keys_gives (ρ := Tryz.keys129_ren) { Tryz.keys129 with } Fence.wide _ trivial rfl (by omega) w.heap.size b nn D0 _ (by simp) (by simp) (by
      obtain ⟨es, clock, hb, Ft, hs, hD⟩ := hown
      exact ⟨es, clock, (Below.heap_alloc _ _ b hbl).trans hb, Ft, hs, hD⟩)
  exact AnyZ.sorted_in Tryz.sorted128 Fence.wide 5 trivial trivial trivial trivial rfl (by omega) (Tryz.sorts128 _) (enters_of Tryz.func490 (by kernel_rfl) rfl) 491 #[.pointer (some ⟨w.heap.size, 0, none⟩)] trivial (enters_of Tryz.func491 (by kernel_rfl) rfl) _ _ hmax hbytes _ hseq

set_option maxRecDepth 100000 in
set_option maxHeartbeats 1000000 in
/-- **.. AND FOR THE nil MAP: nil.** -/
theorem Tryz.slices_Sorted_keys_nil_128_129 (w : World) :
    CallsIn Fence.wide 5 Tryz.prog 391 #[.func (.func 491) #[] #[.pointer (some ⟨w.heap.size, 0, none⟩)]] (w.alloc (.cells #[.map none] 274)) fun e w' => ∃ (v : Value) (ss : List (List UInt8)), e = .returned v ∧ ss = [] ∧
      w'.ownsRow (w.alloc (.cells #[.map none] 274)).heap.size 9 1 v ss.length ((ss.mergeSort (fun x y => decide (x ≤ y))).map encStr) ∧ (v = .slice none 0 0 ↔ ss = []) ∧ Below (w.alloc (.cells #[.map none] 274)).heap.size (w.alloc (.cells #[.map none] 274)) w' := by
  have hseq : SeqGives Fence.wide 2 Tryz.prog 491 #[.pointer (some ⟨w.heap.size, 0, none⟩)] encStr (fun ss : List (List UInt8) => ss = []) 0 (w.alloc (.cells #[.map none] 274)) :=
    AnyZ.keys_gives_nil (ρ := Tryz.keys129_ren) { Tryz.keys129 with } Fence.wide _ trivial rfl w.heap.size _ (by simp) (by simp)
  exact AnyZ.sorted_in Tryz.sorted128 Fence.wide 5 trivial trivial trivial trivial rfl (by omega) (Tryz.sorts128 _) (enters_of Tryz.func490 (by kernel_rfl) rfl) 491 #[.pointer (some ⟨w.heap.size, 0, none⟩)] trivial (enters_of Tryz.func491 (by kernel_rfl) rfl) _ 0 (Nat.zero_le _) (by omega) _ hseq

end Go.Proofs

/- (*disk.Disk).Names, by the library's contracts. -/
namespace Go.Proofs.YtelhdbkkigehgaaGreatDoor
open Go.RowKit Go.Maps Go.Sort Go.Shelf

set_option maxHeartbeats 1000000 in
set_option maxRecDepth 100000 in
theorem is_at (p o b : Nat) (w : World) (h : w.cell? ⟨p, o + 3, none⟩ = some (.map (some b))) :
    Calls Tryz.prog 354 #[.pointer (some ⟨p, o, none⟩)] w fun e w' => e = .returned (.bool true) ∧ w = w' := by
  have q68 : ∀ (w : World) (r : Option Nat), (binOp .neq 274 (.map r) (.map none)).run Tryz.prog w = .ok (.bool (!r.isNone)) w := fun w r => run_neq_map_nil w _ _ _ r Tryz.underlying274
  go_enter Tryz.func354, Tryz.ntmps354
  go_wp2
  go_ret
  exact ⟨rfl, rfl⟩

set_option maxHeartbeats 1000000 in
set_option maxRecDepth 100000 in
theorem names_at {H : Type} (p o b nn : Nat) (D0 : DataW H) (R : Value → Option (DataW H × List MemPlace)) (w : World) (hc : w.cell? ⟨p, o + 3, none⟩ = some (.map (some b))) (hown : w.ownsMap Tryz.prog 9 R b nn D0) (hmax : Maps.size D0 ≤ maxLen) (hbytes : Maps.size D0 * 16 ≤ 140737488355328) :
    Calls Tryz.prog 272 #[.pointer (some ⟨p, o, none⟩)] w fun e w' => ∃ (v : Value) (ss : List (List UInt8)), e = .returned v ∧ ss.Perm (strKeys D0) ∧
      w'.ownsRow w.heap.size 9 1 v ss.length ((ss.mergeSort (fun x y => decide (x ≤ y))).map encStr) ∧ (v = .slice none 0 0 ↔ ss = []) ∧ Below w.heap.size w w' := by
  refine (callsIn_wide (n := 6)).1 ?_
  have hfK : Fence.wide.fn 392 := trivial
  have hfS : Fence.wide.fn 391 := trivial
  have hfI : Fence.wide.fn 354 := trivial
  have q68 : ∀ (w : World) (r : Option Nat), (binOp .neq 274 (.map r) (.map none)).run Tryz.prog w = .ok (.bool (!r.isNone)) w := fun w r => run_neq_map_nil w _ _ _ r Tryz.underlying274
  refine callsIn_of_wp Tryz.func272 rfl trivial ?_ rfl
  simp only [Tryz.ntmps272, List.size_toArray, List.length_cons, List.length_nil, Nat.reduceAdd, Nat.reduceSub, Array.replicate_succ, Array.replicate_zero, List.push_toArray, List.append_toArray, List.nil_append, List.cons_append]
  gi_wp2_with (first
    | (gi_at_call 392; refine (Tryz.maps_Keys_129 _ _).mono ?_; rintro e w' ⟨rfl, rfl⟩)
    | (gi_at_call 391; refine (Tryz.slices_Sorted_keys_128_129 b nn D0 R w hown hmax hbytes).mono ?_; rintro e w' ⟨v, ss, rfl, hS, hrow, hnil, hb⟩)
    | (gi_at_call 354; refine (callsIn_wide.2 (is_at p o b _ hc)).mono ?_; rintro e w' ⟨rfl, rfl⟩))
  go_ret
  exact ⟨v, ss, rfl, hS, ownsRow_base_a hrow (by simp), hnil, ((Below.refl _ w).alloc (Nat.le_refl _) _).trans (hb.mono (by simp))⟩

set_option maxHeartbeats 1000000 in
set_option maxRecDepth 100000 in
theorem names_nilmap (p o : Nat) (w : World) (hc : w.cell? ⟨p, o + 3, none⟩ = some (.map none)) : Calls Tryz.prog 272 #[.pointer (some ⟨p, o, none⟩)] w fun e w' => e = .returned (.slice none 0 0) ∧ w' = w := by
  have q68 : ∀ (w : World) (r : Option Nat), (binOp .neq 274 (.map r) (.map none)).run Tryz.prog w = .ok (.bool (!r.isNone)) w := fun w r => run_neq_map_nil w _ _ _ r Tryz.underlying274
  go_enter Tryz.func272, Tryz.ntmps272
  go_wp2
  go_ret
  exact ⟨rfl, rfl⟩

set_option maxHeartbeats 1000000 in
set_option maxRecDepth 100000 in
theorem names_nil (w : World) : Calls Tryz.prog 272 #[.pointer none] w fun e w' => e = .returned (.slice none 0 0) ∧ w' = w := by
  go_enter Tryz.func272, Tryz.ntmps272
  go_wp2
  go_ret
  exact ⟨rfl, rfl⟩

end Go.Proofs.YtelhdbkkigehgaaGreatDoor

/- Rows of texts in order (plain Lean). -/
namespace Go.Proofs.YtelhdbkkigehgaaGreatDoor
open Go.Eng

def insU (x : List UInt8) : List (List UInt8) → List (List UInt8)
  | [] => [x]
  | y :: l => bif decide (x ≤ y) then x :: y :: l else y :: insU x l
def sortU : List (List UInt8) → List (List UInt8)
  | [] => []
  | x :: l => insU x (sortU l)

theorem le_tot (a b : List UInt8) : a ≤ b ∨ b ≤ a := List.le_total a b
theorem le_tr {a b c : List UInt8} (h : a ≤ b) (k : b ≤ c) : a ≤ c := List.le_trans h k
theorem le_anti {a b : List UInt8} (h : a ≤ b) (k : b ≤ a) : a = b := List.le_antisymm h k

theorem insU_perm (x : List UInt8) : ∀ l, (insU x l).Perm (x :: l)
  | [] => List.Perm.refl _
  | y :: l => by
    unfold insU
    cases decide (x ≤ y) with
    | true => exact List.Perm.refl _
    | false => exact ((insU_perm x l).cons y).trans (List.Perm.swap x y l)
theorem sortU_perm : ∀ l, (sortU l).Perm l
  | [] => List.Perm.refl _
  | x :: l => (insU_perm x _).trans ((sortU_perm l).cons x)
theorem insU_sorted (x : List UInt8) : ∀ l, l.Pairwise (· ≤ ·) → (insU x l).Pairwise (· ≤ ·)
  | [], _ => by simp [insU]
  | y :: l, h => by
    unfold insU
    rw [List.pairwise_cons] at h
    by_cases q : x ≤ y
    · simp only [q, decide_true, cond_true]
      refine List.pairwise_cons.2 ⟨fun z hz => ?_, List.pairwise_cons.2 h⟩
      rcases List.mem_cons.1 hz with rfl | hz
      · exact q
      · exact le_tr q (h.1 z hz)
    · simp only [q, decide_false, cond_false]
      refine List.pairwise_cons.2 ⟨fun z hz => ?_, insU_sorted x l h.2⟩
      rcases List.mem_cons.1 ((insU_perm x l).mem_iff.1 hz) with rfl | hz
      · exact (le_tot _ _).resolve_left q
      · exact h.1 z hz
theorem sortU_sorted : ∀ l, (sortU l).Pairwise (· ≤ ·)
  | [] => List.Pairwise.nil
  | x :: l => insU_sorted x _ (sortU_sorted l)
theorem merge_eq {a b : List (List UInt8)} (h : a.Perm b) : a.mergeSort (fun x y => decide (x ≤ y)) = sortU b := by
  refine List.Perm.eq_of_pairwise (le := (· ≤ ·)) (fun x y _ _ => le_anti) ?_ (sortU_sorted b) ((List.mergeSort_perm _ _).trans (h.trans (sortU_perm b).symm))
  have := List.pairwise_mergeSort (le := fun x y : List UInt8 => decide (x ≤ y)) (fun a b c h k => by simp only [decide_eq_true_eq] at *; exact le_tr h k) (fun a b => by simpa using le_tot a b) a
  exact this.imp fun h => by simpa using h
theorem sort_t : sortU [[109, 50], [109], [104, 105]] = [[104, 105], [109], [109, 50]] := by decide +kernel
end Go.Proofs.YtelhdbkkigehgaaGreatDoor

/- (*disk.Disk).Names, as a summary. -/
namespace Go.Proofs.YtelhdbkkigehgaaGreatDoor
open Go.RowKit Go.Maps Go.Sort Go.Lib Go.Eng Go.WideShapes Go.MapKept
open Go.WideElems (Fit rd rg rg_of rd_mk)

def toU (l : List Nat) : List UInt8 := l.map Nat.toUInt8
def ofU (l : List UInt8) : List Nat := l.map UInt8.toNat
noncomputable section
/-- The files' names in order. -/
def nmsS (args : List AV) (h : Heap) (c : Nat) : Option CRes := match args with
  | [.nilp] => some (.mk .nils h c)
  | [.ptr n o] => (cells? h n).bind fun tc => match nth tc.2 (o + 3) with
    | some .nilm => some (.mk .nils h c)
    | some (.map m) => match h.get m with
      | some (.map es cl) => bif Nat.ble es.length 1000000 && bornOk cl es && distinctN (borns es) then (keysOf es).bind fun ks => bif apartNs ks then
          match sortU (ks.map toU) with
          | [] => some (.mk .nils h c)
          | x :: l => outC (newCells h c 9 ((x :: l).map fun u => .str (ofU u)) (.slice c 0 (x :: l).length (x :: l).length true))
          else none
        else none
      | _ => none
    | _ => none
  | _ => none
end

theorem memNs_iff {x : List Nat} : ∀ {l : List (List Nat)}, memNs x l = false → x ∉ l
  | [], _ => by simp
  | y :: l, h => by
    unfold memNs at h
    cases e : nsEq x y with
    | true => simp [e] at h
    | false =>
      simp only [e, cond_false] at h
      intro hm
      rcases List.mem_cons.1 hm with rfl | hm
      · have : ∀ z : List Nat, nsEq z z = true := by intro z; induction z with | nil => rfl | cons a z ih => simp [nsEq, ih]
        rw [this] at e; cases e
      · exact memNs_iff h hm
theorem apartNs_nodup : ∀ {l : List (List Nat)}, apartNs l = true → l.Nodup
  | [], _ => List.nodup_nil
  | x :: l, h => by
    unfold apartNs at h
    cases e : memNs x l with
    | true => simp [e] at h
    | false =>
      simp only [e, cond_false] at h
      exact List.nodup_cons.2 ⟨memNs_iff e, apartNs_nodup h⟩
theorem distinctN_nodup : ∀ {l : List Nat}, distinctN l = true → l.Nodup
  | [], _ => List.nodup_nil
  | x :: l, h => by
    unfold distinctN at h
    rw [Bool.and_eq_true, Bool.not_eq_true'] at h
    refine List.nodup_cons.2 ⟨fun hm => ?_, distinctN_nodup h.2⟩
    rw [memN_iff.2 hm] at h
    cases h.1

def anyR : Value → Option (DataW Unit × List MemPlace) := fun _ => some (.lit (.bool true), [])

/-- What a map of texts comes to. -/
theorem es_facts {σ : Sig} {η : Env} {cl : Nat} : ∀ {es : List (AV × AV × Nat)} {ms : List MapEntry} {ks : List (List Nat)}, EsR σ η es ms → keysOf es = some ks → bornOk cl es = true →
    ms.map (·.key) = ks.map (fun k => Value.string (bs k)) ∧ (∀ k ∈ ks, allB k = true ∧ k.length ≤ 1000000) ∧ ms.map (·.born) = borns es ∧ (∀ x ∈ ms, x.born < cl) ∧ ms.length = es.length
  | [], [], ks, _, hk, _ => by simp [keysOf] at hk; subst hk; exact ⟨rfl, by simp, rfl, by simp, rfl⟩
  | [], _ :: _, _, h, _, _ => h.elim
  | _ :: _, [], _, h, _, _ => by obtain ⟨_, _, _⟩ := ‹AV × AV × Nat›; exact h.elim
  | (k, v, b) :: es, e :: ms, ks, ⟨h1, h2, h3, h4⟩, hk, hb => by
    unfold keysOf at hk
    split at hk
    · rename_i s
      cases q : Nat.ble s.length 1000000 with
      | false => simp [q] at hk
      | true =>
        simp only [q, cond_true, Option.map_eq_some_iff] at hk
        obtain ⟨ks', hk', rfl⟩ := hk
        unfold bornOk at hb
        rw [Bool.and_eq_true] at hb
        obtain ⟨i1, i2, i3, i4, i5⟩ := es_facts h4 hk' hb.2
        obtain ⟨s1, s2⟩ := conc_str.1 h1
        refine ⟨by simp only [List.map_cons, i1, s2], ?_, by simp only [List.map_cons, i3, h3, borns], ?_, by simp [i5]⟩
        · intro x hx
          rcases List.mem_cons.1 hx with rfl | hx
          · exact ⟨s1, Nat.le_of_ble_eq_true q⟩
          · exact i2 x hx
        · intro x hx
          rcases List.mem_cons.1 hx with rfl | hx
          · rw [h3]; exact Nat.le_of_ble_eq_true hb.1
          · exact i4 x hx
    · cases hk

theorem ofU_toU {l : List Nat} (h : allB l = true) : ofU (toU l) = l := by
  unfold ofU toU
  rw [List.map_map]
  have : ∀ b ∈ l, (UInt8.toNat ∘ Nat.toUInt8) b = b := fun b hb => u8_toNat (by simp only [allB, List.all_eq_true, decide_eq_true_eq] at h; exact h b hb)
  rw [List.map_congr_left this]
  simp
theorem keys_nodup : ∀ {ks : List (List Nat)}, ks.Nodup → (∀ k ∈ ks, allB k = true ∧ k.length ≤ 1000000) → (ks.map fun k => Value.string (bs k)).Nodup
  | [], _, _ => by simp
  | k :: ks, h, ha => by
    rw [List.nodup_cons] at h
    rw [List.map_cons, List.nodup_cons]
    refine ⟨fun hm => ?_, keys_nodup h.2 fun x hx => ha x (List.mem_cons_of_mem _ hx)⟩
    obtain ⟨y, hy, e⟩ := List.mem_map.1 hm
    have e2 : toU y = toU k := by
      simp only [Value.string.injEq, bs, ByteArray.mk.injEq] at e
      simpa [toU] using e
    have : y = k := by rw [← ofU_toU (ha y (List.mem_cons_of_mem _ hy)).1, e2, ofU_toU (ha k List.mem_cons_self).1]
    exact h.1 (this ▸ hy)

theorem names_of {σ : Sig} {η : Env} {cl : Nat} {es : List (AV × AV × Nat)} {ms : Array MapEntry} {ks : List (List Nat)} (hE : EsR σ η es ms.toList) (hk : keysOf es = some ks) (hb : bornOk cl es = true) (hl : es.length ≤ 1000000) (hd : distinctN (borns es) = true) (ha : apartNs ks = true) :
    Fit Tryz.prog 9 anyR ms cl ∧ ms.size ≤ 1000000 ∧ (strKeys (.map ((ms.toList.map (rg Tryz.prog 9 anyR)).foldr DataW.insert []))).Perm (ks.map toU) ∧ ∀ k ∈ ks, allB k = true := by
  obtain ⟨f1, f2, f3, f4, f5⟩ := es_facts hE hk hb
  have hkey : ∀ x ∈ ms.toList, ∃ k ∈ ks, x.key = .string (bs k) := fun x hx => by
    have : x.key ∈ ms.toList.map (·.key) := List.mem_map.2 ⟨x, hx, rfl⟩
    rw [f1] at this
    obtain ⟨k, h1, h2⟩ := List.mem_map.1 this
    exact ⟨k, h1, h2.symm⟩
  have hrd : ∀ x ∈ ms.toList, ∀ k ∈ ks, x.key = .string (bs k) → rd Tryz.prog 9 anyR x = some (.string (toU k), .lit (.bool true)) := fun x hx k hk e => by
    have h9 := Tryz.underlying9
    have hsz : (bs k).size ≤ maxLen := by rw [bs_size]; have := (f2 k hk).2; unfold maxLen; omega
    have hko : keyOf Tryz.prog 9 x.key = some (.string (toU k)) := by
      rw [e]
      simp only [keyOf, mapKey, h9, if_pos hsz]
      rfl
    have hv : anyR x.val = some (.lit (.bool true), []) := rfl
    exact rd_mk hko hv
  have hsize : ms.size = es.length := by rw [← f5]; simp
  refine ⟨⟨by rw [hsize]; unfold maxLen; omega, ⟨f4, by rw [f3]; exact distinctN_nodup hd, by rw [f1]; exact keys_nodup (apartNs_nodup ha) f2⟩, fun x hx => ?_⟩, by omega, ?_, fun k hk => (f2 k hk).1⟩
  · obtain ⟨k, h1, h2⟩ := hkey x hx
    exact ⟨_, hrd x hx k h1 h2⟩
  · have p := sorted_perm (ms.toList.map (rg Tryz.prog 9 anyR))
    have : ((ms.toList.map (rg Tryz.prog 9 anyR)).map fun p => strOf p.1) = ks.map toU := by
      rw [List.map_map]
      have e1 : ms.toList.map ((fun p => strOf p.1) ∘ rg Tryz.prog 9 anyR) = (ms.toList.map (·.key)).map (fun v => match v with | .string s => s.data.toList | _ => []) := by
        rw [List.map_map]
        apply List.map_congr_left
        intro x hx
        obtain ⟨k, h1, h2⟩ := hkey x hx
        simp only [Function.comp, rg_of (hrd x hx k h1 h2), strOf, h2]
        rfl
      rw [e1, f1, List.map_map]
      apply List.map_congr_left
      intro k _
      rfl
    rw [← this]
    exact p.map _

theorem str_rows {σ : Sig} {η : Env} : ∀ (l : List (List UInt8)), concs σ η (l.map fun u => AV.str (ofU u)) = some (l.map encStr) ∧ allOne (l.map encStr) = true
  | [] => ⟨rfl, rfl⟩
  | u :: l => by
    obtain ⟨h1, h2⟩ := str_rows (σ := σ) (η := η) l
    have hb : allB (ofU u) = true := by
      simp only [allB, List.all_eq_true, decide_eq_true_eq, ofU]
      intro x hx
      obtain ⟨y, _, rfl⟩ := List.mem_map.1 hx
      exact y.toNat_lt
    have he : bs (ofU u) = ⟨u.toArray⟩ := by
      unfold bs ofU
      rw [List.map_map]
      have : ∀ y ∈ u, (Nat.toUInt8 ∘ UInt8.toNat) y = y := fun y _ => by simp [Function.comp]
      rw [List.map_congr_left this]
      simp
    exact ⟨concs_cons.2 ⟨_, _, conc_str.2 ⟨hb, rfl⟩, h1, by rw [he]; rfl⟩, by simp only [List.map_cons, allOne, h2, Bool.and_true]; rfl⟩

theorem nms_ok {η : Env} {args : List AV} {h : Heap} {c : Nat} {v : AV} {h' : Heap} {c' : Nat} (he : nmsS args h c = some (.mk v h' c')) {σ : Sig} {w : World} {avs : List Value} (H : HR Tryz.prog σ η h c w) (ha : concs σ η args = some avs) : Calls Tryz.prog 272 avs.toArray w (Done Tryz.prog η σ h c w v h' c') := by
  unfold nmsS at he
  split at he
  · -- nil
    cases he
    obtain ⟨pv, rs, hp, hr, rfl⟩ := concs_cons.1 ha
    simp only [concs, Option.some.injEq] at hr
    subst hr
    simp only [conc, Option.some.injEq] at hp
    subst hp
    refine Calls.mono (names_nil w) ?_
    rintro e w' ⟨rfl, rfl⟩
    exact ⟨_, σ, rfl, rfl, Went.refl H⟩
  · rename_i n o
    obtain ⟨pv, rs, hp, hr, rfl⟩ := concs_cons.1 ha
    simp only [concs, Option.some.injEq] at hr
    subst hr
    obtain ⟨l, hl, rfl⟩ := conc_ptr.1 hp
    rw [Option.bind_eq_some_iff] at he
    obtain ⟨⟨t, cs⟩, hc, he⟩ := he
    obtain ⟨us, u1, u2, u3, _⟩ := H.cells hc hl
    have cell : ∀ a, nth cs (o + 3) = some a → ∃ u, conc σ η a = some u ∧ w.cell? ⟨l.blk, l.off + o + 3, none⟩ = some u := fun a ea => by
      rw [nth_eq] at ea
      obtain ⟨u, q1, q2⟩ := (concs_get u1 (o + 3)).2 a ea
      exact ⟨u, q2, by have := u3 _ _ q1; rwa [← Nat.add_assoc] at this⟩
    split at he
    · rename_i ea
      cases he
      obtain ⟨u, q1, q2⟩ := cell _ ea
      simp only [conc, Option.some.injEq] at q1
      subst q1
      refine Calls.mono (names_nilmap l.blk (l.off + o) w q2) ?_
      rintro e w' ⟨rfl, rfl⟩
      exact ⟨_, σ, rfl, rfl, Went.refl H⟩
    · rename_i m ea
      obtain ⟨u, q1, q2⟩ := cell _ ea
      obtain ⟨lm, hlm, rfl⟩ := conc_map.1 q1
      split at he
      · rename_i es cl hg
        obtain ⟨ms, hb, hE⟩ := H.mapAt hg hlm
        cases h0 : (Nat.ble es.length 1000000 && bornOk cl es && distinctN (borns es)) with
        | false => simp [h0] at he
        | true =>
        simp only [h0, cond_true, Option.bind_eq_some_iff] at he
        rw [Bool.and_eq_true, Bool.and_eq_true] at h0
        obtain ⟨ks, hk, he⟩ := he
        cases h1 : apartNs ks with
        | false => simp [h1] at he
        | true =>
        simp only [h1, cond_true] at he
        obtain ⟨F, hms, hperm, _⟩ := names_of hE hk h0.1.2 (Nat.le_of_ble_eq_true h0.1.1) h0.2 h1
        have hown := World.ownsMap_of_fit (R := anyR) hb F (fun _ _ _ h => h)
        have hsz : Maps.size (.map ((ms.toList.map (rg Tryz.prog 9 anyR)).foldr DataW.insert [])) = ms.size := length_read ms
        refine Calls.mono (names_at l.blk (l.off + o) lm.blk ms.size _ anyR w q2 hown (by rw [hsz]; unfold maxLen; omega) (by rw [hsz]; omega)) ?_
        rintro e w' ⟨v0, ss, rfl, p1, p2, p3, p4⟩
        have hmerge := merge_eq (p1.trans hperm)
        rw [hmerge] at p2
        have hlen : ss.length = (sortU (ks.map toU)).length := by rw [← hmerge]; exact (List.mergeSort_perm _ _).length_eq.symm
        rw [hlen] at p2
        split at he
        · rename_i es0
          cases he
          rw [es0] at hlen
          have : ss = [] := List.length_eq_zero_iff.1 hlen
          rw [p3.2 this]
          exact ⟨_, σ, rfl, conc_nils.2 rfl, Went.same H (fun k hk => p4.block k hk) p4.size p4.os p4.tape p4.output⟩
        · rename_i x xs es0
          rw [es0] at p2 hlen
          have he := outC_some he
          unfold newCells fCells at he
          rw [fAVs_eq] at he
          obtain ⟨hcb, he⟩ := putObj_ok he
          rw [fNat_eq] at he
          cases he
          obtain ⟨r1, r2⟩ := p2
          rcases r2 with ⟨_, r2⟩ | ⟨g, cap, cur, rfl, g1, g2, g3, g4, g5, g6⟩
          · simp at r2
          · obtain ⟨s1, s2⟩ := str_rows (σ := σ) (η := η) (x :: xs)
            have h9 : Tryz.prog.cellsOf 9 = 1 := by kernel_rfl
            have hgl : ((x :: xs).map encStr).length = (x :: xs).length := List.length_map _
            have wt := fresh_ok (P := Tryz.prog) (l := ⟨g, 0, cap - (x :: xs).length⟩) (o := .cells 9 ((x :: xs).map fun u => .str (ofU u))) (w' := w') H hcb g1 (fun k hk => p4.block k hk) p4.size p4.os p4.tape p4.output
              ⟨cur, (0, 0), (x :: xs).map encStr, g2, fun j _ q => by omega, concs_ext (ext_upd (H.new c (Nat.le_refl _))) s1, s2, fun j y hj => ?_, ?_⟩
            · refine ⟨_, _, rfl, conc_slice.2 ⟨_, upd_same _ _ _, ?_⟩, wt⟩
              simp only [if_true]
              rw [show (x :: xs).length + (cap - (x :: xs).length) = cap by omega]
            · rw [← g6] at hj
              rw [List.getElem?_take] at hj
              split at hj
              · simpa using hj
              · cases hj
            · rw [h9, hgl, g5]
              refine ⟨?_, by simp⟩
              show 0 + (x :: xs).length + (cap - (x :: xs).length) * 1 ≤ cap * 1
              omega
      · cases he
    · cases he
  · cases he

end Go.Proofs.YtelhdbkkigehgaaGreatDoor

/- bytealg.IndexByteString, as a summary. -/
namespace Go.Proofs.YtelhdbkkigehgaaGreatDoor
open Go.Eng

noncomputable section
def idxN (b : Nat) : List Nat → Nat → Option Nat
  | [], _ => none
  | x :: l, i => bif Nat.beq x b then some i else idxN b l (i + 1)
def idxS (args : List AV) : Option AV := match args with
  | [.str l, .int .u8 (.ofNat b)] => bif Nat.ble b 255 then (match idxN b l 0 with
    | some i => some (.int .i64 (.ofNat i))
    | none => some (.int .i64 (.negSucc 0))) else none
  | _ => none
end

theorem find_idx {b : Nat} (hb : b < 256) : ∀ (l : List Nat) (k : Nat), allB l = true → ((List.range l.length).find? fun i => ((l.map Nat.toUInt8)[i]?).getD default == b.toUInt8).map (· + k) = idxN b l k
  | [], k, _ => rfl
  | x :: l, k, h => by
    obtain ⟨h1, h2⟩ := allB_cons.1 h
    have ih := find_idx hb l (k + 1) h2
    rw [List.length_cons, List.range_succ_eq_map, List.find?_cons]
    simp only [List.map_cons, List.getElem?_cons_zero, Option.getD_some, idxN]
    have e : (x.toUInt8 == b.toUInt8) = Nat.beq x b := by
      rw [Bool.eq_iff_iff]
      constructor
      · intro q; rw [(u8_inj h1 hb).1 (by simpa using q)]; exact Nat.beq_refl b
      · intro q; rw [Nat.eq_of_beq_eq_true q]; simp
    rw [e]
    cases Nat.beq x b with
    | true => simp
    | false =>
      simp only [cond_false, List.find?_map, Option.map_map]
      rw [← ih]
      congr 1
      funext i
      simp only [Function.comp]
      omega

theorem idx_ok {η : Env} {args : List AV} {v : AV} (he : idxS args = some v) (σ : Sig) (avs : List Value) (w : World) (ha : concs σ η args = some avs) :
    Leads Tryz.prog 187 avs.toArray w (fun e w' => ∃ u, e = .returned u ∧ conc σ η v = some u ∧ Eng.Kept (fun _ => False) w w') := by
  unfold idxS at he
  split at he
  rotate_left
  · cases he
  rename_i l b
  obtain ⟨sv, r, hs, hr, rfl⟩ := concs_cons.1 ha
  obtain ⟨bv, r2, hb, hr2, rfl⟩ := concs_cons.1 hr
  simp only [concs, Option.some.injEq] at hr2
  subst hr2
  obtain ⟨hl, rfl⟩ := conc_str.1 hs
  rw [conc_int] at hb
  subst hb
  cases hbb : Nat.ble b 255 with
  | false => simp [hbb] at he
  | true =>
  simp only [hbb, cond_true] at he
  have hb := Nat.le_of_ble_eq_true hbb
  have hx : ∃ z, (idxN b l 0 = some z ∧ firstIdx (bs l) b.toUInt8 = (z : Int)) ∨ (idxN b l 0 = none ∧ firstIdx (bs l) b.toUInt8 = -1) := by
    have h0 := find_idx (b := b) (by omega) l 0 hl
    have hm : (List.range (bs l).size).find? (fun i : Nat => (bs l)[i]! == b.toUInt8) = idxN b l 0 := by
      rw [bs_size, ← h0]
      have : (fun i : Nat => (bs l)[i]! == b.toUInt8) = fun i : Nat => ((l.map Nat.toUInt8)[i]?).getD default == b.toUInt8 := by
        funext i
        rw [getElem!_def, bs_get, List.getElem?_map]
        cases l[i]? <;> rfl
      rw [this]
      cases (List.range l.length).find? _ <;> rfl
    unfold firstIdx
    rw [hm]
    cases idxN b l 0 with
    | some z => exact ⟨z, .inl ⟨rfl, rfl⟩⟩
    | none => exact ⟨0, .inr ⟨rfl, rfl⟩⟩
  have hrun : (callFunc 187 #[.string (bs l), .int .u8 (Int.ofNat b)]).run Tryz.prog w = .ok (.value (.int .i64 (firstIdx (bs l) b.toUInt8))) w := by
    rw [run_callFunc_extern Tryz.func187 (by kernel_rfl) (by kernel_rfl) (by kernel_rfl) (e := Extern.BytealgIndexByte.indexByte) (by kernel_rfl)]
    rw [run_indexByte_string]
    rfl
  obtain ⟨z, ⟨h1, h2⟩ | ⟨h1, h2⟩⟩ := hx
  · rw [h1] at he; cases he
    exact .inr ⟨_, w, hrun, _, rfl, by rw [h2]; exact conc_int.2 rfl, Eng.Kept.refl _ _⟩
  · rw [h1] at he; cases he
    exact .inr ⟨_, w, hrun, _, rfl, by rw [h2]; exact conc_int.2 rfl, Eng.Kept.refl _ _⟩
end Go.Proofs.YtelhdbkkigehgaaGreatDoor

/- bytealg.CountString, as a summary. -/
namespace Go.Proofs.YtelhdbkkigehgaaGreatDoor
open Go.Eng

noncomputable section
def cntN (b : Nat) : List Nat → Nat → Nat
  | [], n => n
  | x :: l, n => bif Nat.beq x b then cntN b l (n + 1) else cntN b l n
def cntS (args : List AV) : Option AV := match args with
  | [.str l, .int .u8 (.ofNat b)] => bif Nat.ble b 255 then some (.int .i64 (.ofNat (cntN b l 0))) else none
  | _ => none
end

theorem cntN_eq {b : Nat} (hb : b < 256) : ∀ (l : List Nat) (n : Nat), allB l = true → cntN b l n = n + Lib.countByte (l.map Nat.toUInt8) b.toUInt8
  | [], n, _ => by simp [cntN, Lib.countByte]
  | x :: l, n, h => by
    obtain ⟨h1, h2⟩ := allB_cons.1 h
    have e : (x.toUInt8 == b.toUInt8) = Nat.beq x b := by
      rw [Bool.eq_iff_iff]
      constructor
      · intro q; rw [(u8_inj h1 hb).1 (by simpa using q)]; exact Nat.beq_refl b
      · intro q; rw [Nat.eq_of_beq_eq_true q]; simp
    have ih := fun n => cntN_eq hb l n h2
    unfold cntN Lib.countByte
    rw [List.map_cons, List.count_cons, e]
    unfold Lib.countByte at ih
    cases Nat.beq x b with
    | true => simp only [cond_true, if_true, ih]; omega
    | false => simp only [cond_false, ih]; simp

theorem cnt_ok {η : Env} {args : List AV} {v : AV} (he : cntS args = some v) (σ : Sig) (avs : List Value) (w : World) (ha : concs σ η args = some avs) :
    Leads Tryz.prog 110 avs.toArray w (fun e w' => ∃ u, e = .returned u ∧ conc σ η v = some u ∧ Eng.Kept (fun _ => False) w w') := by
  unfold cntS at he
  split at he
  rotate_left
  · cases he
  rename_i l b
  obtain ⟨sv, r, hs, hr, rfl⟩ := concs_cons.1 ha
  obtain ⟨bv, r2, hb, hr2, rfl⟩ := concs_cons.1 hr
  simp only [concs, Option.some.injEq] at hr2
  subst hr2
  obtain ⟨hl, rfl⟩ := conc_str.1 hs
  rw [conc_int] at hb
  subst hb
  cases hbb : Nat.ble b 255 with
  | false => simp [hbb] at he
  | true =>
  simp only [hbb, cond_true, Option.some.injEq] at he
  subst he
  have hb := Nat.le_of_ble_eq_true hbb
  have hx : (bs l).data.toList = l.map Nat.toUInt8 := by simp [bs]
  have hrun : (callFunc 110 #[.string (bs l), .int .u8 (Int.ofNat b)]).run Tryz.prog w = .ok (.value (.int .i64 (Lib.countByte (bs l).data.toList b.toUInt8))) w := by
    rw [run_callFunc_extern Tryz.func110 (by kernel_rfl) (by kernel_rfl) (by kernel_rfl) (e := Extern.BytealgCount.count) (by kernel_rfl)]
    rw [Lib.run_countString]
    rfl
  refine .inr ⟨_, w, hrun, _, rfl, ?_, Eng.Kept.refl _ _⟩
  rw [hx]
  refine conc_int.2 ?_
  rw [cntN_eq (by omega) l 0 hl, Nat.zero_add]
  rfl
end Go.Proofs.YtelhdbkkigehgaaGreatDoor

/- Spans in memory, and how lists of them read as arguments. -/
namespace Go.Proofs.YtelhdbkkigehgaaGreatDoor
open Go.RowKit

structure Spn where
  tr : Int
  id : Int
  pa : Int
  se : ByteArray
  ho : ByteArray
  st : Int
  du : Int
  no : ByteArray
  deriving Inhabited
def Spn.cells (m : Spn) : List Value := [.int .i64 m.tr, .int .i64 m.id, .int .i64 m.pa, .string m.se, .string m.ho, .int .i64 m.st, .int .i64 m.du, .string m.no]
def cellsS : List Spn → List Value
  | [] => []
  | m :: t => m.cells ++ cellsS t
theorem cellsS_length : ∀ L, (cellsS L).length = L.length * 8
  | [] => rfl
  | m :: t => by simp [cellsS, cellsS_length t, Spn.cells]; omega
theorem cellsS_append : ∀ a b, cellsS (a ++ b) = cellsS a ++ cellsS b
  | [], b => rfl
  | m :: t, b => by simp [cellsS, cellsS_append t b]
theorem cellsS_at : ∀ (L : List Spn) (i : Nat) (m : Spn), L[i]? = some m → ∀ k, k < 8 → (cellsS L)[i * 8 + k]? = m.cells[k]?
  | [], i, m, h, _, _ => by simp at h
  | x :: t, 0, m, h, k, hk => by
    simp at h; subst h
    rw [cellsS, List.getElem?_append_left (by simp [Spn.cells]; omega)]; simp
  | x :: t, i + 1, m, h, k, hk => by
    have := cellsS_at t i m (by simpa using h) k hk
    rw [cellsS, List.getElem?_append_right (by simp [Spn.cells]; omega)]
    rw [← this]; congr 1; simp [Spn.cells]; omega
theorem cellsS_one : ∀ (L : List Spn), ∀ u ∈ cellsS L, u.oneCell' = true
  | [], u, h => by simp [cellsS] at h
  | m :: t, u, h => by
    rcases List.mem_append.1 h with h | h
    · simp [Spn.cells] at h
      rcases h with rfl | rfl | rfl | rfl | rfl | rfl | rfl | rfl <;> rfl
    · exact cellsS_one t u h
/-- A list of spans, as it lies. -/
def ReadsS (w : World) (v : Value) (L : List Spn) : Prop :=
  ∃ ao cap, v = .slice ao L.length cap ∧ (L = [] ∨ ∃ g o, ao = some ⟨g, o, none⟩ ∧ ∀ j u, (cellsS L)[j]? = some u → w.cell? ⟨g, o + j, none⟩ = some u)
theorem ReadsS.kept {S : Nat → Prop} {w w' : World} {v : Value} {L : List Spn} (h : ReadsS w v L) (hK : Kept S w w') (hS : ∀ k, v.ownBlock = some k → ¬ S k) (ho : ∀ g o n c, v = .slice (some ⟨g, o, none⟩) n c → ¬ S g) : ReadsS w' v L := by
  obtain ⟨ao, cap, rfl, h⟩ := h
  refine ⟨ao, cap, rfl, ?_⟩
  rcases h with h | ⟨g, o, rfl, hc⟩
  · exact .inl h
  · exact .inr ⟨g, o, rfl, fun j u hu => hK.cell (hc j u hu) (ho g o _ _ rfl)⟩
theorem ReadsS.keptF {w w' : World} {v : Value} {L : List Spn} (h : ReadsS w v L) (hK : Kept (fun _ => False) w w') : ReadsS w' v L := h.kept hK (fun _ _ f => f) (fun _ _ _ _ _ f => f)
theorem ReadsS.at {w : World} {L : List Spn} {g o : Nat} (hc : ∀ j u, (cellsS L)[j]? = some u → w.cell? ⟨g, o + j, none⟩ = some u) {i : Nat} {m : Spn} (hm : L[i]? = some m) :
    w.cell? ⟨g, o + i * 8, none⟩ = some (.int .i64 m.tr) ∧ w.cell? ⟨g, o + i * 8 + 1, none⟩ = some (.int .i64 m.id) ∧ w.cell? ⟨g, o + i * 8 + 2, none⟩ = some (.int .i64 m.pa) ∧ w.cell? ⟨g, o + i * 8 + 3, none⟩ = some (.string m.se) ∧ w.cell? ⟨g, o + i * 8 + 4, none⟩ = some (.string m.ho) ∧ w.cell? ⟨g, o + i * 8 + 5, none⟩ = some (.int .i64 m.st) ∧ w.cell? ⟨g, o + i * 8 + 6, none⟩ = some (.int .i64 m.du) ∧ w.cell? ⟨g, o + i * 8 + 7, none⟩ = some (.string m.no) := by
  have h := fun k hk u (hu : m.cells[k]? = some u) => hc _ u ((cellsS_at L i m hm k hk).trans hu)
  refine ⟨by have := h 0 (by omega) _ rfl; simpa [Nat.add_assoc] using this, by have := h 1 (by omega) _ rfl; simpa [Nat.add_assoc] using this, by have := h 2 (by omega) _ rfl; simpa [Nat.add_assoc] using this, by have := h 3 (by omega) _ rfl; simpa [Nat.add_assoc] using this, by have := h 4 (by omega) _ rfl; simpa [Nat.add_assoc] using this, by have := h 5 (by omega) _ rfl; simpa [Nat.add_assoc] using this, by have := h 6 (by omega) _ rfl; simpa [Nat.add_assoc] using this, by have := h 7 (by omega) _ rfl; simpa [Nat.add_assoc] using this⟩

end Go.Proofs.YtelhdbkkigehgaaGreatDoor

