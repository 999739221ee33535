/- A part of the proof. -/
import Derived.OrdersHeld
import Derived.Deep.RegionHeld
import Derived.WalkKit
import Derived.WalkSpells
import Derived.WalkLawsBesides
import Derived.Deep.RegionLaw
import Derived.Deep.RegionHeld3
import Derived.BigQuiet
import Derived.Deep.AppendLies
import Derived.Deep.CutBlock
import Derived.Deep.DeepCutAuto
import Derived.Deep.Light
import Derived.Deep.LoopGhost
import Derived.Deep.QuietTactic
import Derived.Lib.Hide
import Derived.Test.YthknocapablpaaaGreatDoorProg
import Derived.Maps.Own
import Derived.Maps.RangeRun
import Derived.Shelf.GgClosure.StringsIndexFuncTop
import Derived.Shelf.SlIter.Nil
import Derived.Shelf.SortM.Plain
import Derived.Shelf.SortM.SortNone
import Derived.Ground.GgwProg
import Derived.Ground.GgzProg
import Derived.Ground.SlgmProg
import Derived.Lib.AppendZeros
import Derived.Sort.Walk0

/- A region that draws its order and whose last operation waits for all others: an operation may be taken first that yields its value in every world that meets S, though S need not hold behind that last operation (a store to a cell that the region loads). -/
namespace Go

section
variable {P : Program} {ops : Array Oper} {Q : Exit → Act → World → Prop} {md : Region.Mode} {S : World → Prop} {f : Nat}

/-- Whatever order is picked from here on, and S holds behind every operation but the last, number f. -/
def wpAnyF (P : Program) (md : Region.Mode) (ops : Array Oper) (Q : Exit → Act → World → Prop) (S : World → Prop) (f : Nat) : Nat → Array Bool → Act → World → Prop
 | 0, listed, a, w => Region.ready md ops listed = [] ∧ Q .normal a w
 | fuel + 1, listed, a, w =>
  (Region.ready md ops listed = [] → Q .normal a w) ∧
  ∀ i ∈ Region.ready md ops listed, wpOp P ops Q i (fun a' w' => (i ≠ f → S w') ∧ wpAnyF P md ops Q S f fuel (listed.setIfInBounds i true) a' w') a w

/-- Number f waits for number i. -/
def Region.waits (md : Region.Mode) (ops : Array Oper) (f i : Nat) : Bool := match ops[f]? with
 | some o => o.after.any fun e => Region.binds md e && e.on == i
 | none => false

end
end Go

/- Laws on worlds and regions that the walks of this seat share: a frame in which some blocks may turn, steps of a region taken by hand. Nothing of the program is run here. -/
namespace Go.Proofs.YthknocapablpaaaGreatDoor
open Go.RowKit


/-- Of what was there only blocks in S may have turned; the streams are as they were. -/
structure Kept (S : Nat → Prop) (w w' : World) : Prop where
 os : w'.os = w.os
 tape : w'.tape = w.tape
 output : w'.output = w.output
 size : w.heap.size ≤ w'.heap.size
 block : ∀ k, k < w.heap.size → ¬ S k → w'.heap[k]? = w.heap[k]?

theorem Kept.refl (S : Nat → Prop) (w : World) : Kept S w w := ⟨rfl, rfl, rfl, Nat.le_refl _, fun _ _ _ => rfl⟩

theorem Kept.trans {S S' T : Nat → Prop} {a b c : World} (h : Kept S a b) (k : Kept S' b c) (h1 : ∀ i, i < a.heap.size → S i → T i) (h2 : ∀ i, i < a.heap.size → S' i → T i) : Kept T a c :=
 ⟨k.os.trans h.os, k.tape.trans h.tape, k.output.trans h.output, Nat.le_trans h.size k.size, fun i hi hT =>
  (k.block i (Nat.lt_of_lt_of_le hi h.size) (fun e => hT (h2 i hi e))).trans (h.block i hi (fun e => hT (h1 i hi e)))⟩

theorem Kept.drew {S : Nat → Prop} {a w : World} (h : Kept S a w) : Kept S a w.drew := ⟨h.os, h.tape, h.output, h.size, h.block⟩

theorem Kept.alloc {S : Nat → Prop} {a w : World} (h : Kept S a w) (o : Obj) : Kept S a (w.alloc o) :=
 h.trans (S' := S) ⟨rfl, rfl, rfl, by simp, fun k hk _ => Below.heap_alloc _ _ _ hk⟩ (fun _ _ h => h) (fun _ _ h => h)

theorem Kept.setCell {S : Nat → Prop} {a w : World} (h : Kept S a w) {p : Addr} (hp : p.block < a.heap.size → S p.block) (u : Value) : Kept S a (w.setCell p u) :=
 h.trans (S' := fun k => k = p.block) ⟨rfl, rfl, rfl, by simp [World.setCell], fun k _ hk' => Below.heap_setCell _ _ _ _ hk'⟩ (fun _ _ h => h) (fun i hi e => by subst e; exact hp hi)

theorem Kept.grown {S : Nat → Prop} {a w w' : World} {row : Option Nat} (h : Kept S a w) (hg : w.grownBy w' row) (hr : ∀ k, row = some k → k < a.heap.size → S k) : Kept S a w' :=
 h.trans (S' := fun k => some k = row) ⟨hg.os, hg.tape, hg.output, hg.size, fun k hk hk' => hg.block k hk hk'⟩ (fun _ _ h => h) (fun i hi e => hr i e.symm hi)

theorem Kept.mono {S T : Nat → Prop} {a w : World} (h : Kept S a w) (hS : ∀ k, k < a.heap.size → S k → T k) : Kept T a w :=
 ⟨h.os, h.tape, h.output, h.size, fun k hk hT => h.block k hk (fun e => hT (hS k hk e))⟩

theorem Kept.setAt {S : Nat → Prop} {a w : World} {n j : Nat} {u : Value} (hp : n < a.heap.size → S n) (h : Kept S a w) : Kept S a (w.setCell ⟨n, j, none⟩ u) := h.setCell hp u

theorem Kept.cell {S : Nat → Prop} {w w' : World} (hK : Kept S w w') {a : Addr} {v : Value} (h : w.cell? a = some v) (hS : ¬ S a.block) : w'.cell? a = some v :=
 (World.cell?_of_block (w := w) (hK.block a.block (World.block_lt_of_cell? _ _ h) hS)).trans h

theorem Kept.frozen {S : Nat → Prop} {w w' : World} (hK : Kept S w w') {a : Addr} (h : w.frozen? a = false) (hl : a.block < w.heap.size) (hS : ¬ S a.block) : w'.frozen? a = false :=
 (World.frozen?_of_block (w := w) (hK.block a.block hl hS)).trans h

/-- Behind a call: a block of three cells that lay last when the call began. -/
theorem Kept.fresh3 {S : Nat → Prop} {w w1 : World} {x y z : Value} {t : TypeId} (hK : Kept S (w.alloc (.cells #[x, y, z] t)) w1) (hS : ¬ S w.heap.size) :
  w1.cell? ⟨w.heap.size, 0, none⟩ = some x ∧ w1.cell? ⟨w.heap.size, 1, none⟩ = some y ∧ w1.cell? ⟨w.heap.size, 2, none⟩ = some z ∧ (∀ j, w1.frozen? ⟨w.heap.size, j, none⟩ = false) ∧ w.heap.size < w1.heap.size := by
 refine ⟨hK.cell (by simp) hS, hK.cell (by simp) hS, hK.cell (by simp) hS, fun j => hK.frozen (by simp) (by simp) hS, ?_⟩
 have := hK.size; simp at this; omega

theorem Kept.cells3 {S : Nat → Prop} {w w' : World} {n : Nat} {x y z : Value} (hK : Kept S w w') (hS : ¬ S n) (h0 : w.cell? ⟨n, 0, none⟩ = some x) (h1 : w.cell? ⟨n, 1, none⟩ = some y) (h2 : w.cell? ⟨n, 2, none⟩ = some z) (hf : ∀ j, w.frozen? ⟨n, j, none⟩ = false) :
  w'.cell? ⟨n, 0, none⟩ = some x ∧ w'.cell? ⟨n, 1, none⟩ = some y ∧ w'.cell? ⟨n, 2, none⟩ = some z ∧ (∀ j, w'.frozen? ⟨n, j, none⟩ = false) :=
 have hl := World.block_lt_of_cell? _ _ h0
 ⟨hK.cell h0 hS, hK.cell h1 hS, hK.cell h2 hS, fun j => hK.frozen (hf j) hl hS⟩

theorem _root_.Go.RowKit.Below.step {B : Nat} {a W W' : World} {S : Nat → Prop} (h : Below B a W) (hB : B ≤ a.heap.size) (k : Kept S W W') (hS : ∀ i, S i → B ≤ i) : Below B a W' :=
 h.trans ⟨k.os, k.tape, k.output, k.size, fun i hi => k.block i (Nat.lt_of_lt_of_le hi (Nat.le_trans hB h.size)) (fun e => by have := hS i e; omega)⟩

theorem _root_.Go.RowKit.Below.alloc' {B : Nat} {a w : World} (h : Below B a w) (hB : B ≤ a.heap.size) (o : Obj) : Below B a (w.alloc o) := h.alloc (Nat.le_trans hB h.size) o

/-- append to an owned row, at one step of a region, from whatever slice. -/
theorem step_app {P : Program} {ops : Array Oper} {o : Oper} {a : Act} {w : World} {K : Act → World → Prop} {Q : Exit → Act → World → Prop} {E : Prop} (hgd : o.guard = none) (s x : Operand) (t : TypeId)
  (ho : o.op = .call { callee := .builtin .append, args := #[s, x], argTypes := #[t, t] })
  (base : Nat) (e : TypeId) (i : TypeInfo) (z : Value) (size bytes : Nat) (ht : P.underlying t = some (.slice e)) (hi : P.info? e = some i) (hz : i.zero = some z)
  (hsize : i.size = size) (hby : i.bytes = bytes) (hzs : z.cells.size = size) (hsz : 0 < size)
  (v : Value) (n : Nat) (xs : List Value) (hs : a.eval s = v) (hown : w.ownsRow base e size v n xs)
  (ad : Addr) (m c : Nat) (news : List Value) (hx : a.eval x = .slice (some ad) m c) (hl : news.length = m * size) (hnews : ∀ j u, news[j]? = some u → w.cell? (ad.add j) = some u) (h1 : ∀ u ∈ news, u.oneCell' = true)
  (h63 : n + m ≤ maxLen) (hbytes : (n + m) * bytes ≤ 140737488355328) (hbase : base ≤ w.heap.size)
  (h : ∀ ao' cap' w', w'.ownsRow base e size (.slice ao' (n + m) cap') (n + m) (xs ++ news) → w.grownBy w' v.ownBlock → ((Value.slice ao' (n + m) cap').ownBlock = v.ownBlock ∨ (Value.slice ao' (n + m) cap').ownBlock = some w.heap.size) → K (a.put o.dst (.slice ao' (n + m) cap')) w') :
  if Region.wanted o (yielded ops a.tmps) = true then Oper.wp P o a w K Q else E := by
 rw [if_pos (by simp [Region.wanted, hgd])]
 obtain ⟨v', w', hr, h2, h3, _, h5⟩ := run_append_own_at (P := P) w base t o.type e i z size bytes ht hi hz hsize hby hzs hsz v n xs hown ad m c news hl hnews h1 h63 hbytes hbase
 unfold Oper.wp execOp
 simp only [ho, resolve, invoke, builtin, Sem.run_bind, Sem.run_pure, Result.andThen_ok, List.map_toArray, List.map_cons, List.map_nil, hs, hx, hr]
 have hf : ∃ ao' cap', v' = .slice ao' (n + m) cap' := by
  rcases h2.2 with ⟨rfl, hn⟩ | ⟨g, cap, cur, rfl, _⟩
  ·exact ⟨none, 0, by rw [hn]⟩
  ·exact ⟨_, _, rfl⟩
 obtain ⟨ao', cap', rfl⟩ := hf
 exact h ao' cap' w' h2 h3 h5

/-- What an owned row's value looks like. -/
theorem row_form {w : World} {base : Nat} {e : TypeId} {size : Nat} {v : Value} {n : Nat} {xs : List Value} (h : w.ownsRow base e size v n xs) :
  (v = .slice none 0 0 ∧ n = 0) ∨ ∃ g cap, v = .slice (some ⟨g, 0, none⟩) n cap ∧ n ≤ cap ∧ base ≤ g ∧ g < w.heap.size ∧ ∀ j u, xs[j]? = some u → w.cell? ⟨g, j, none⟩ = some u := by
 rcases h.2 with h2 | ⟨g, cap, cur, rfl, hb, hgg, hle, hrest⟩
 ·exact .inl h2
 ·refine .inr ⟨g, cap, rfl, hle, hb, (Array.getElem?_eq_some_iff.1 hgg).1, fun j u hu => ?_⟩
  have := h.cells (g := g) rfl j u hu
  have hadd : (⟨g, 0, none⟩ : Addr).add j = ⟨g, j, none⟩ := by unfold Addr.add; split <;> simp_all
  rwa [hadd] at this

theorem heap_second (w : World) (o1 o2 : Obj) : ((w.alloc o1).alloc o2).heap[w.heap.size + 1]? = some o2 := by
 have e : (w.alloc o1).heap.size = w.heap.size + 1 := by simp
 have := heap_alloc_new (w.alloc o1) o2
 rwa [e] at this

theorem grown_kept {w w' : World} {row : Option Nat} (h : w.grownBy w' row) : Kept (fun k => row = some k) w w' :=
 ⟨h.os, h.tape, h.output, h.size, fun k hk hne => h.block k hk (fun e => hne e.symm)⟩

theorem heap_first (w : World) (o1 o2 : Obj) : ((w.alloc o1).alloc o2).heap[w.heap.size]? = some o1 := by
 have e : ((w.alloc o1).alloc o2).heap = (w.heap.push o1).push o2 := rfl
 rw [e]; simp [Array.getElem?_push]

theorem add_mid (b o j : Nat) : (⟨b, o, none⟩ : Addr).add j = ⟨b, o + j, none⟩ := by unfold Addr.add; split <;> simp_all

end Go.Proofs.YthknocapablpaaaGreatDoor
namespace Go
theorem z0 {a : Act} {v : Value} : a.put none v = a := rfl
theorem z1 {a : Act} {d : Tmp} {v : Value} : a.put (some d) v = { a with tmps := a.tmps.setIfInBounds d v } := rfl
theorem z2 {α : Type} (l : List α) (i : Nat) (a : α) : l.toArray.setIfInBounds i a = (l.set i a).toArray := List.setIfInBounds_toArray l i a
theorem z3 {α : Type} {x : α} {xs : List α} {i : Nat} {a : α} : (x :: xs).set (i + 1) a = x :: xs.set i a := rfl
theorem z4 {α : Type} {x : α} {xs : List α} {a : α} : (x :: xs).set 0 a = a :: xs := rfl
section
variable {P : Program} {ops : Array Oper} {Q : Exit → Act → World → Prop} {md : Region.Mode} {S : World → Prop} {f : Nat} {oi : Oper} {v : Value} {fuel : Nat} {listed : Array Bool} {a : Act} {w : World}
theorem tH (i : Nat) (hi : ops[i]? = some oi) (hy : ∀ w, S w → (execOp a.eval oi).run P w = .ok (.value v) w) (hS : S w)
  (h : wpAnyH P md ops Q S fuel (listed.setIfInBounds i true) (a.put oi.dst v) w) (hs : Region.noSelect ops = true := by kernel_rfl) (hf : Region.free md ops listed i = true := by kernel_rfl)
  (hr : (Region.ready md ops listed).contains i = true := by kernel_rfl) (hQ : ∀ c a w, Q (.panic c) (a.put oi.dst v) w → Q (.panic c) a w := by exact fun _ _ _ h => h)
  (hw : Region.wanted oi (yielded ops a.tmps) = true := by rfl) : wpAnyH P md ops Q S (fuel + 1) listed a w := wpAnyH_take hi hs hf hr hQ (Or.inl ⟨hw, hy⟩) hS h
theorem tW (i : Nat) (hi : ops[i]? = some oi) (hS : S w)
  (h : wpAnyH P md ops Q S fuel (listed.setIfInBounds i true) (a.put oi.dst v) w) (hs : Region.noSelect ops = true := by kernel_rfl) (hf : Region.free md ops listed i = true := by kernel_rfl)
  (hr : (Region.ready md ops listed).contains i = true := by kernel_rfl) (hQ : ∀ c a w, Q (.panic c) (a.put oi.dst v) w → Q (.panic c) a w := by exact fun _ _ _ h => h)
  (hw : Region.wanted oi (yielded ops a.tmps) = true := by rfl) (hy : ∀ w, S w → (execOp a.eval oi).run P w = .ok (.value v) w := by (intro w hSw; (try dsimp only at hSw); go_simp; all_goals (with_reducible rfl))) : wpAnyH P md ops Q S (fuel + 1) listed a w := wpAnyH_take hi hs hf hr hQ (Or.inl ⟨hw, hy⟩) hS h
theorem tU (i : Nat) (hi : ops[i]? = some oi) (hS : S w)
  (h : wpAnyH P md ops Q S fuel (listed.setIfInBounds i true) (a.put oi.dst undef) w) (hs : Region.noSelect ops = true := by kernel_rfl) (hf : Region.free md ops listed i = true := by kernel_rfl)
  (hr : (Region.ready md ops listed).contains i = true := by kernel_rfl) (hQ : ∀ c a w, Q (.panic c) (a.put oi.dst undef) w → Q (.panic c) a w := by exact fun _ _ _ h => h)
  (hw : Region.wanted oi (yielded ops a.tmps) = false := by rfl) : wpAnyH P md ops Q S (fuel + 1) listed a w := wpAnyH_take hi hs hf hr hQ (Or.inr ⟨hw, rfl⟩) hS h
theorem tA (i : Nat) (hi : ops[i]? = some oi) (hy : ∀ w, (execOp a.eval oi).run P w = .ok (.value v) w)
  (h : wpAny P md ops Q fuel (listed.setIfInBounds i true) (a.put oi.dst v) w) (hs : Region.noSelect ops = true := by kernel_rfl) (hf : Region.free md ops listed i = true := by kernel_rfl)
  (hr : (Region.ready md ops listed).contains i = true := by kernel_rfl) (hQ : ∀ c a w, Q (.panic c) (a.put oi.dst v) w → Q (.panic c) a w := by exact fun _ _ _ h => h)
  (hw : Region.wanted oi (yielded ops a.tmps) = true := by rfl) : wpAny P md ops Q (fuel + 1) listed a w := wpAny_take hi hs hf hr hQ (Or.inl ⟨hw, hy⟩) h
end
end Go

/- Which operation stands at a place of a region that is written out. -/
namespace Go.Proofs.YthknocapablpaaaGreatDoor

theorem opAt0 {a : Oper} {l : List Oper} : (a::l).toArray[0]? = some a := rfl
theorem opAt1 {a b : Oper} {l : List Oper} : (a::b::l).toArray[1]? = some b := rfl
theorem opAt2 {a b c : Oper} {l : List Oper} : (a::b::c::l).toArray[2]? = some c := rfl
theorem opAt3 {a b c d : Oper} {l : List Oper} : (a::b::c::d::l).toArray[3]? = some d := rfl
theorem opAt4 {a b c d e : Oper} {l : List Oper} : (a::b::c::d::e::l).toArray[4]? = some e := rfl
theorem opAt5 {a b c d e f : Oper} {l : List Oper} : (a::b::c::d::e::f::l).toArray[5]? = some f := rfl
theorem opAt6 {a b c d e f g : Oper} {l : List Oper} : (a::b::c::d::e::f::g::l).toArray[6]? = some g := rfl
theorem opAt7 {a b c d e f g h : Oper} {l : List Oper} : (a::b::c::d::e::f::g::h::l).toArray[7]? = some h := rfl
theorem opAt8 {a b c d e f g h i : Oper} {l : List Oper} : (a::b::c::d::e::f::g::h::i::l).toArray[8]? = some i := rfl
theorem opAt9 {a b c d e f g h i j : Oper} {l : List Oper} : (a::b::c::d::e::f::g::h::i::j::l).toArray[9]? = some j := rfl
theorem opAt10 {a b c d e f g h i j k : Oper} {l : List Oper} : (a::b::c::d::e::f::g::h::i::j::k::l).toArray[10]? = some k := rfl
theorem opAt11 {a b c d e f g h i j k m : Oper} {l : List Oper} : (a::b::c::d::e::f::g::h::i::j::k::m::l).toArray[11]? = some m := rfl
theorem opAt12 {a b c d e f g h i j k m n : Oper} {l : List Oper} : (a::b::c::d::e::f::g::h::i::j::k::m::n::l).toArray[12]? = some n := rfl
theorem opAt13 {a b c d e f g h i j k m n o : Oper} {l : List Oper} : (a::b::c::d::e::f::g::h::i::j::k::m::n::o::l).toArray[13]? = some o := rfl
theorem opAt14 {a b c d e f g h i j k m n o p : Oper} {l : List Oper} : (a::b::c::d::e::f::g::h::i::j::k::m::n::o::p::l).toArray[14]? = some p := rfl
theorem opAt15 {a b c d e f g h i j k m n o p q : Oper} {l : List Oper} : (a::b::c::d::e::f::g::h::i::j::k::m::n::o::p::q::l).toArray[15]? = some q := rfl
theorem opAt16 {a b c d e f g h i j k m n o p q r : Oper} {l : List Oper} : (a::b::c::d::e::f::g::h::i::j::k::m::n::o::p::q::r::l).toArray[16]? = some r := rfl
theorem opAt17 {a b c d e f g h i j k m n o p q r s : Oper} {l : List Oper} : (a::b::c::d::e::f::g::h::i::j::k::m::n::o::p::q::r::s::l).toArray[17]? = some s := rfl
theorem opAt18 {a b c d e f g h i j k m n o p q r s t : Oper} {l : List Oper} : (a::b::c::d::e::f::g::h::i::j::k::m::n::o::p::q::r::s::t::l).toArray[18]? = some t := rfl
theorem opAt19 {a b c d e f g h i j k m n o p q r s t u : Oper} {l : List Oper} : (a::b::c::d::e::f::g::h::i::j::k::m::n::o::p::q::r::s::t::u::l).toArray[19]? = some u := rfl
theorem opAt20 {a b c d e f g h i j k m n o p q r s t u v : Oper} {l : List Oper} : (a::b::c::d::e::f::g::h::i::j::k::m::n::o::p::q::r::s::t::u::v::l).toArray[20]? = some v := rfl
theorem opAt21 {a b c d e f g h i j k m n o p q r s t u v w : Oper} {l : List Oper} : (a::b::c::d::e::f::g::h::i::j::k::m::n::o::p::q::r::s::t::u::v::w::l).toArray[21]? = some w := rfl
theorem opAt22 {a b c d e f g h i j k m n o p q r s t u v w x : Oper} {l : List Oper} : (a::b::c::d::e::f::g::h::i::j::k::m::n::o::p::q::r::s::t::u::v::w::x::l).toArray[22]? = some x := rfl
theorem opAt23 {a b c d e f g h i j k m n o p q r s t u v w x y : Oper} {l : List Oper} : (a::b::c::d::e::f::g::h::i::j::k::m::n::o::p::q::r::s::t::u::v::w::x::y::l).toArray[23]? = some y := rfl
theorem opAt24 {a b c d e f g h i j k m n o p q r s t u v w x y z : Oper} {l : List Oper} : (a::b::c::d::e::f::g::h::i::j::k::m::n::o::p::q::r::s::t::u::v::w::x::y::z::l).toArray[24]? = some z := rfl
theorem opAt25 {a b c d e f g h i j k m n o p q r s t u v w x y z A : Oper} {l : List Oper} : (a::b::c::d::e::f::g::h::i::j::k::m::n::o::p::q::r::s::t::u::v::w::x::y::z::A::l).toArray[25]? = some A := rfl
theorem opAt26 {a b c d e f g h i j k m n o p q r s t u v w x y z A B : Oper} {l : List Oper} : (a::b::c::d::e::f::g::h::i::j::k::m::n::o::p::q::r::s::t::u::v::w::x::y::z::A::B::l).toArray[26]? = some B := rfl
theorem opAt27 {a b c d e f g h i j k m n o p q r s t u v w x y z A B C : Oper} {l : List Oper} : (a::b::c::d::e::f::g::h::i::j::k::m::n::o::p::q::r::s::t::u::v::w::x::y::z::A::B::C::l).toArray[27]? = some C := rfl
theorem opAt28 {a b c d e f g h i j k m n o p q r s t u v w x y z A B C D : Oper} {l : List Oper} : (a::b::c::d::e::f::g::h::i::j::k::m::n::o::p::q::r::s::t::u::v::w::x::y::z::A::B::C::D::l).toArray[28]? = some D := rfl
theorem opAt29 {a b c d e f g h i j k m n o p q r s t u v w x y z A B C D E : Oper} {l : List Oper} : (a::b::c::d::e::f::g::h::i::j::k::m::n::o::p::q::r::s::t::u::v::w::x::y::z::A::B::C::D::E::l).toArray[29]? = some E := rfl
end Go.Proofs.YthknocapablpaaaGreatDoor

/- What maps do, of whatever many entries whose keys are texts. Plain laws on one block. -/
namespace Go.Proofs.YthknocapablpaaaGreatDoor
open Go.RowKit Go.MapKept Go.Instr Go.ChangeMaps

theorem cell_map {w : World} {b j c : Nat} {es : Array MapEntry} (h : w.heap[b]? = some (.map es c)) : w.cell? ⟨b, j, none⟩ = none := by simp [World.cell?, h]
theorem set_same {w : World} {b : Nat} (o : Obj) (h : b < w.heap.size) : (setBlock w b o).heap[b]? = some o := by simp [setBlock, h]
theorem uMapN : Tryz.prog.underlying 174 = some (.map 9 3) := Tryz.underlying174
def keyV (k : ByteArray) : Value := .string k
abbrev KV := ByteArray × Value
/-- The entries of a map into which these were laid one by one, the first one numbered n. -/
def entsL : Nat → List KV → List MapEntry
 | _, [] => []
 | n, p :: t => ⟨keyV p.1, p.2, n⟩ :: entsL (n + 1) t
theorem entsL_length : ∀ (n : Nat) (L : List KV), (entsL n L).length = L.length
 | _, [] => rfl
 | n, p :: t => by simp [entsL, entsL_length (n + 1) t]
theorem entsL_at : ∀ (n : Nat) (L : List KV) (i : Nat), (entsL n L)[i]? = (L[i]?).map (fun p => ⟨keyV p.1, p.2, n + i⟩)
 | _, [], i => by simp [entsL]
 | n, p :: t, 0 => by simp [entsL]
 | n, p :: t, i + 1 => by simp [entsL, entsL_at (n + 1) t i]; congr 1; funext q; simp; omega
theorem entsL_append : ∀ (n : Nat) (L T : List KV), entsL n (L ++ T) = entsL n L ++ entsL (n + L.length) T
 | _, [], T => by simp [entsL]
 | n, p :: t, T => by simp [entsL, entsL_append (n + 1) t T]; congr 1; omega
/-- The place of a key, as it is looked for. -/
def idxL (k : ByteArray) : List KV → Option Nat
 | [] => none
 | p :: t => if k = p.1 then some 0 else (idxL k t).map (· + 1)
theorem idxL_some : ∀ {k : ByteArray} {L : List KV} {i : Nat}, idxL k L = some i → ∃ p, L[i]? = some p ∧ p.1 = k
 | k, [], i, h => by simp [idxL] at h
 | k, p :: t, i, h => by
  unfold idxL at h
  split at h
  ·rename_i e; cases h; exact ⟨p, rfl, e.symm⟩
  ·cases hi : idxL k t with
   | none => simp [hi] at h
   | some j => simp [hi] at h; subst h; simpa using idxL_some hi
theorem ba_beq (k l : ByteArray) : (k == l) = decide (k = l) := by
 cases k; cases l
 rw [Bool.eq_iff_iff, decide_eq_true_iff, ByteArray.mk.injEq]
 exact beq_iff_eq (α := Array UInt8)
theorem now_any (k : ByteArray) : ∀ (L : List KV) (n i : Nat), findNow .string (keyV k) (entsL n L) i = some ((idxL k L).map (fun j => (i + j, ((L[j]?).map (·.2)).getD undef)))
 | [], n, i => by simp [entsL, findNow, idxL]
 | p :: t, n, i => by
  have ih := now_any k t (n + 1) (i + 1)
  have hs : sameNow .string (keyV k) (keyV p.1) = some (k == p.1) := rfl
  unfold entsL findNow idxL
  simp only [hs, ba_beq]
  by_cases e : k = p.1
  ·simp [e]
  ·simp only [e, decide_false, ih, if_false]
   cases hi : idxL k t with
   | none => simp
   | some j => simp; omega
theorem findk_any (k : ByteArray) (w : World) (L : List KV) (n : Nat) : (findKey 9 (keyV k) (entsL n L)).run Tryz.prog w = .ok ((idxL k L).map (fun j => (j, ((L[j]?).map (·.2)).getD undef))) w := by
 have hu : Tryz.prog.underlying 9 = some .string := Tryz.underlying9
 have h := now_any k L n 0
 simp only [Nat.zero_add] at h
 unfold findKey
 simp only [Sem.run_bind, run_underlying hu, Result.andThen_ok, h]
 rfl
set_option maxRecDepth 100000 in
theorem ckS (k : ByteArray) (e : Bool) (w : World) : (checkKey e 10000 9 (keyV k)).run Tryz.prog w = .ok () w := by cases e <;> kernel_rfl
theorem stays_any (k : ByteArray) (w : World) : (keyThatStays (keyV k) (keyV k)).run Tryz.prog w = .ok (keyV k) w := by
 have h : sameBits 10000 (keyV k) (keyV k) = true := by simp [keyV, sameBits, ba_beq]
 unfold keyThatStays
 simp [h]
/-- The map of these lies in block b. -/
def MapIs (w : World) (b : Nat) (L : List KV) : Prop := w.heap[b]? = some (.map (entsL 0 L).toArray L.length)
theorem MapIs.lt {w : World} {b : Nat} {L : List KV} (h : MapIs w b L) : b < w.heap.size := (Array.getElem?_eq_some_iff.1 h).1
theorem MapIs.kept {S : Nat → Prop} {w w' : World} {b : Nat} {L : List KV} (h : MapIs w b L) (hK : Kept S w w') (hS : ¬ S b) : MapIs w' b L := (hK.block b h.lt hS).trans h
theorem MapIs.not_cell {w : World} {b j : Nat} {L : List KV} (h : MapIs w b L) : w.cell? ⟨b, j, none⟩ = none := cell_map h
/-- A key's entry: what is there, or z behind the last one. -/
def oldL (k : ByteArray) (z : Value) (L : List KV) : Value := ((idxL k L).map (fun j => ((L[j]?).map (·.2)).getD undef)).getD z
def entL (k : ByteArray) (z : Value) (L : List KV) : List KV := if (idxL k L).isSome then L else L ++ [(k, z)]
def stampL (k : ByteArray) (L : List KV) : Nat := (idxL k L).getD L.length
def putK (k : ByteArray) (v : Value) (L : List KV) : List KV := if (idxL k L).isSome then L.set (stampL k L) (k, v) else L ++ [(k, v)]

theorem lookN {w : World} {b : Nat} {L : List KV} (h : MapIs w b L) (k : ByteArray) : (Instr.lookup 174 (.map (some b)) (keyV k) false).run Tryz.prog w = .ok (oldL k (.int .i64 0) L) w := by
 have f := findk_any k w L 0
 unfold Instr.lookup
 simp only [Sem.run_bind, run_underlying uMapN, Go.MapKept.run_getObj_map h, Result.andThen_ok, Sem.run_pure, ckS, f]
 unfold oldL
 cases hi : idxL k L with
 | none => simp
 | some j => simp
theorem modify_both {n : Nat} {L : List KV} {i : Nat} {p : KV} (v : Value) (h : L[i]? = some p) : (entsL n L).toArray.modify i (fun e => { e with key := keyV p.1, val := v }) = (entsL n (L.set i (p.1, v))).toArray := by
 apply Array.ext_getElem?
 intro j
 rw [Array.getElem?_modify]
 have hl := (List.getElem?_eq_some_iff.1 h).1
 split
 ·rename_i e; subst e
  have h2 : L[i] = p := (List.getElem?_eq_some_iff.1 h).2
  simp [entsL_at, hl, h2]
 ·rename_i e; simp [entsL_at, e]
theorem push_ents (L : List KV) (k : ByteArray) (v : Value) : (entsL 0 L).toArray.push ⟨keyV k, v, L.length⟩ = (entsL 0 (L ++ [(k, v)])).toArray := by
 rw [entsL_append]; simp [entsL]
theorem push_ents1 (L : List KV) (k : ByteArray) (v : Value) : (entsL 1 L).toArray.push ⟨keyV k, v, 1 + L.length⟩ = (entsL 1 (L ++ [(k, v)])).toArray := by
 rw [entsL_append]; simp [entsL]
theorem putN {w : World} {b : Nat} {L : List KV} (h : MapIs w b L) (k : ByteArray) (v : Value) : (Instr.mapUpdate 174 (.map (some b)) (keyV k) v).run Tryz.prog w = .ok () (setBlock w b (.map (entsL 0 (putK k v L)).toArray (putK k v L).length)) := by
 have f := findk_any k w L 0
 unfold Instr.mapUpdate
 simp only [Sem.run_bind, run_underlying uMapN, Go.MapKept.run_getObj_map h, Result.andThen_ok, ckS, f]
 unfold putK stampL
 cases hi : idxL k L with
 | none =>
  simp only [Option.map_none, Go.MapKept.run_setObj_map _ h, push_ents]
  simp [setBlock]
 | some i =>
  obtain ⟨p, hp, rfl⟩ := idxL_some hi
  have e : (entsL 0 L).toArray[i]? = some ⟨keyV p.1, p.2, i⟩ := by simp [entsL_at, hp]
  simp only [Option.map_some, e, Option.getD_some, Sem.run_bind, stays_any, Result.andThen_ok, modify_both v hp, Go.MapKept.run_setObj_map _ h]
  simp [setBlock]
theorem MapIs.set {w : World} {b : Nat} {L : List KV} (hb : b < w.heap.size) : MapIs (setBlock w b (.map (entsL 0 L).toArray L.length)) b L := set_same _ hb
/-- The map of a disk's files: the first entry is numbered 1, because the manifest's draft has been there. -/
def MapF (w : World) (b : Nat) (L : List KV) : Prop := w.heap[b]? = some (.map (entsL 1 L).toArray (1 + L.length))
theorem MapF.lt {w : World} {b : Nat} {L : List KV} (h : MapF w b L) : b < w.heap.size := (Array.getElem?_eq_some_iff.1 h).1
theorem MapF.kept {S : Nat → Prop} {w w' : World} {b : Nat} {L : List KV} (h : MapF w b L) (hK : Kept S w w') (hS : ¬ S b) : MapF w' b L := (hK.block b h.lt hS).trans h
theorem MapF.not_cell {w : World} {b j : Nat} {L : List KV} (h : MapF w b L) : w.cell? ⟨b, j, none⟩ = none := cell_map h
theorem MapF.set {w : World} {b : Nat} {L : List KV} (hb : b < w.heap.size) : MapF (setBlock w b (.map (entsL 1 L).toArray (1 + L.length))) b L := set_same _ hb
end Go.Proofs.YthknocapablpaaaGreatDoor

/-
 DERIVED: THE SHELF's CONTRACTS AT THIS DUMP, IN PLAIN WORDS (tools/lay-plain.mjs out of 'YthknocapablpaaaGreatDoorShelf.lean', which tools/lay-shelf.mjs wrote): THE SAME DECLARATIONS UNDER THE SAME NAMES: 'import', 'namespace', 'open', 'def', 'theorem' AND NOTHING ELSE: no command of the shelf's: FOR A HAND-IN. Each laying: the table of numbers ('.._ren') and one theorem, a field a fact of the dump's own or the kernel's comparison; each contract: ONE APPLICATION.
-/
namespace Go.Proofs
open Go.Shelf
def Tryz.l17_ren : Go.Shelf.Ren := ⟨fun | 17 => 139 | 15 => 220 | 20 => 304 | n => n, fun | 9 => 9 | 23 => 238 | 4 => 4 | 3 => 3 | 0 => 0 | 21 => 21 | n => n, fun | n => n⟩
theorem Tryz.l17 : Go.Proofs.LaysGw.n17 Tryz.prog Tryz.l17_ren := {
 mixed := by kernel_rfl
 f15 := Tryz.func220.trans (congrArg some (by kernel_rfl))
 f17 := Tryz.func139.trans (congrArg some (by kernel_rfl))
 f20 := Tryz.func304.trans (congrArg some (by kernel_rfl))
 t0 := Tryz.underlying0
 a0 := Tryz.isAgg0
 z0 := Tryz.sizeOf0
 v0 := Tryz.zeroValue0
 i0 := by kernel_rfl
 t3 := Tryz.underlying3
 a3 := Tryz.isAgg3
 z3 := Tryz.sizeOf3
 v3 := Tryz.zeroValue3
 i3 := by kernel_rfl
 t4 := Tryz.underlying4
 a4 := Tryz.isAgg4
 z4 := Tryz.sizeOf4
 v4 := Tryz.zeroValue4
 i4 := by kernel_rfl
 t9 := Tryz.underlying9
 a9 := Tryz.isAgg9
 z9 := Tryz.sizeOf9
 v9 := Tryz.zeroValue9
 i9 := by kernel_rfl
 t21 := Tryz.underlying21
 a21 := Tryz.isAgg21
 z21 := Tryz.sizeOf21
 v21 := Tryz.zeroValue21
 i21 := by kernel_rfl
 t23 := Tryz.underlying238
 a23 := Tryz.isAgg238
 z23 := Tryz.sizeOf238
 v23 := Tryz.zeroValue238
 i23 := by kernel_rfl }
def Tryz.keys129_ren : Go.Shelf.Ren := ⟨fun | 7 => 127 | 10 => 211 | n => n, fun | 23 => 110 | 26 => 9 | 3 => 137 | 28 => 225 | 0 => 0 | 27 => 224 | 33 => 151 | 4 => 4 | n => n, fun | n => n⟩
theorem Tryz.keys129 : Go.Proofs.SlLaysZ.n7 Tryz.prog Tryz.keys129_ren := {
 mixed := by kernel_rfl
 f7 := ⟨Tryz.f127.name, by decide, Tryz.func127.trans (congrArg some (by kernel_rfl))⟩
 f10 := ⟨Tryz.f211.name, by decide, Tryz.func211.trans (congrArg some (by kernel_rfl))⟩
 t0 := Tryz.underlying0
 a0 := Tryz.isAgg0
 z0 := Tryz.sizeOf0
 v0 := Tryz.zeroValue0
 t4 := Tryz.underlying4
 a4 := Tryz.isAgg4
 z4 := Tryz.sizeOf4
 v4 := Tryz.zeroValue4
 t23 := Tryz.underlying110
 a23 := Tryz.isAgg110
 z23 := Tryz.sizeOf110
 v23 := Tryz.zeroValue110
 t26 := Tryz.underlying9
 a26 := Tryz.isAgg9
 z26 := Tryz.sizeOf9
 v26 := Tryz.zeroValue9
 t27 := Tryz.underlying224
 a27 := Tryz.isAgg224
 z27 := Tryz.sizeOf224
 v27 := Tryz.zeroValue224
 t28 := Tryz.underlying225
 a28 := Tryz.isAgg225
 z28 := Tryz.sizeOf225
 v28 := Tryz.zeroValue225
 t33 := Tryz.underlying151
 a33 := Tryz.isAgg151
 z33 := Tryz.sizeOf151
 v33 := Tryz.zeroValue151 }
def Tryz.sorted128_ren : Go.Shelf.Ren := ⟨fun | 6 => 126 | 8 => 209 | 9 => 210 | 11 => 293 | 13 => 145 | 12 => 294 | 23 => 233 | 24 => 234 | 14 => 338 | 15 => 339 | 16 => 340 | 17 => 341 | 18 => 342 | 19 => 343 | 20 => 344 | 21 => 345 | 22 => 346 | 25 => 375 | 26 => 308 | 27 => 309 | 28 => 376 | 29 => 377 | 30 => 372 | 31 => 389 | n => n, fun | 26 => 9 | 28 => 225 | 24 => 134 | 0 => 0 | 3 => 3 | 37 => 190 | 48 => 333 | 50 => 335 | 4 => 4 | 40 => 327 | 39 => 326 | 45 => 209 | 5 => 5 | 9 => 9 | 51 => 403 | 55 => 184 | 57 => 441 | 58 => 312 | 33 => 151 | n => n, fun | n => n⟩
theorem Tryz.sorted128 : Go.Proofs.SlLaysZ.n6 Tryz.prog Tryz.sorted128_ren := {
 mixed := by kernel_rfl
 f6 := ⟨Tryz.f126.name, by decide, Tryz.func126.trans (congrArg some (by kernel_rfl))⟩
 f8 := ⟨Tryz.f209.name, by decide, Tryz.func209.trans (congrArg some (by kernel_rfl))⟩
 f11 := ⟨Tryz.f293.name, by decide, Tryz.func293.trans (congrArg some (by kernel_rfl))⟩
 t0 := Tryz.underlying0
 a0 := Tryz.isAgg0
 z0 := Tryz.sizeOf0
 v0 := Tryz.zeroValue0
 t24 := Tryz.underlying134
 a24 := Tryz.isAgg134
 z24 := Tryz.sizeOf134
 v24 := Tryz.zeroValue134
 t26 := Tryz.underlying9
 a26 := Tryz.isAgg9
 z26 := Tryz.sizeOf9
 v26 := Tryz.zeroValue9
 t28 := Tryz.underlying225
 a28 := Tryz.isAgg225
 z28 := Tryz.sizeOf225
 v28 := Tryz.zeroValue225
 i26 := by kernel_rfl }
def Tryz.sort212_ren : Go.Shelf.Ren := ⟨fun | 6 => 210 | 8 => 145 | 9 => 294 | 19 => 233 | 20 => 234 | 21 => 338 | 22 => 339 | 23 => 340 | 24 => 341 | 25 => 342 | 26 => 343 | 27 => 344 | 28 => 345 | 29 => 346 | 36 => 375 | 31 => 308 | 32 => 309 | 37 => 376 | 38 => 377 | 39 => 372 | 41 => 389 | n => n, fun | 27 => 134 | 29 => 9 | 3 => 3 | 32 => 190 | 26 => 134 | 0 => 0 | 44 => 333 | 46 => 335 | 4 => 4 | 36 => 327 | 35 => 326 | 41 => 209 | 5 => 5 | 9 => 9 | 53 => 403 | 57 => 184 | 63 => 441 | 64 => 312 | n => n, fun | n => n⟩
theorem Tryz.sort212 : Go.Proofs.SlLaysM.n6 Tryz.prog Tryz.sort212_ren := {
 mixed := by kernel_rfl
 f6 := ⟨Tryz.f210.name, by decide, Tryz.func210.trans (congrArg some (by kernel_rfl))⟩
 f8 := Tryz.func145.trans (congrArg some (by kernel_rfl))
 f9 := ⟨Tryz.f294.name, by decide, Tryz.func294.trans (congrArg some (by kernel_rfl))⟩
 f19 := Tryz.func233.trans (congrArg some (by kernel_rfl))
 f20 := Tryz.func234.trans (congrArg some (by kernel_rfl))
 f21 := ⟨Tryz.f338.name, by decide, Tryz.func338.trans (congrArg some (by kernel_rfl))⟩
 f22 := ⟨Tryz.f339.name, by decide, Tryz.func339.trans (congrArg some (by kernel_rfl))⟩
 f23 := ⟨Tryz.f340.name, by decide, Tryz.func340.trans (congrArg some (by kernel_rfl))⟩
 f24 := ⟨Tryz.f341.name, by decide, Tryz.func341.trans (congrArg some (by kernel_rfl))⟩
 f25 := ⟨Tryz.f342.name, by decide, Tryz.func342.trans (congrArg some (by kernel_rfl))⟩
 f26 := ⟨Tryz.f343.name, by decide, Tryz.func343.trans (congrArg some (by kernel_rfl))⟩
 f27 := ⟨Tryz.f344.name, by decide, Tryz.func344.trans (congrArg some (by kernel_rfl))⟩
 f28 := ⟨Tryz.f345.name, by decide, Tryz.func345.trans (congrArg some (by kernel_rfl))⟩
 f29 := ⟨Tryz.f346.name, by decide, Tryz.func346.trans (congrArg some (by kernel_rfl))⟩
 f31 := Tryz.func308.trans (congrArg some (by kernel_rfl))
 f32 := Tryz.func309.trans (congrArg some (by kernel_rfl))
 f36 := ⟨Tryz.f375.name, by decide, Tryz.func375.trans (congrArg some (by kernel_rfl))⟩
 f37 := ⟨Tryz.f376.name, by decide, Tryz.func376.trans (congrArg some (by kernel_rfl))⟩
 f38 := ⟨Tryz.f377.name, by decide, Tryz.func377.trans (congrArg some (by kernel_rfl))⟩
 f39 := ⟨Tryz.f372.name, by decide, Tryz.func372.trans (congrArg some (by kernel_rfl))⟩
 f41 := ⟨Tryz.f389.name, by decide, Tryz.func389.trans (congrArg some (by kernel_rfl))⟩
 t0 := Tryz.underlying0
 a0 := Tryz.isAgg0
 z0 := Tryz.sizeOf0
 v0 := Tryz.zeroValue0
 t3 := Tryz.underlying3
 a3 := Tryz.isAgg3
 z3 := Tryz.sizeOf3
 v3 := Tryz.zeroValue3
 t4 := Tryz.underlying4
 a4 := Tryz.isAgg4
 z4 := Tryz.sizeOf4
 v4 := Tryz.zeroValue4
 t5 := Tryz.underlying5
 a5 := Tryz.isAgg5
 z5 := Tryz.sizeOf5
 v5 := Tryz.zeroValue5
 t9 := Tryz.underlying9
 a9 := Tryz.isAgg9
 z9 := Tryz.sizeOf9
 v9 := Tryz.zeroValue9
 t26 := Tryz.underlying134
 a26 := Tryz.isAgg134
 z26 := Tryz.sizeOf134
 v26 := Tryz.zeroValue134
 t27 := Tryz.underlying134
 a27 := Tryz.isAgg134
 z27 := Tryz.sizeOf134
 v27 := Tryz.zeroValue134
 t29 := Tryz.underlying9
 a29 := Tryz.isAgg9
 z29 := Tryz.sizeOf9
 v29 := Tryz.zeroValue9
 t32 := Tryz.underlying190
 a32 := Tryz.isAgg190
 z32 := Tryz.sizeOf190
 v32 := Tryz.zeroValue190
 t35 := Tryz.underlying326
 a35 := Tryz.isAgg326
 z35 := Tryz.sizeOf326
 v35 := Tryz.zeroValue326
 t36 := Tryz.underlying327
 a36 := Tryz.isAgg327
 z36 := Tryz.sizeOf327
 v36 := Tryz.zeroValue327
 t41 := Tryz.underlying209
 a41 := Tryz.isAgg209
 z41 := Tryz.sizeOf209
 v41 := Tryz.zeroValue209
 t44 := Tryz.underlying333
 a44 := Tryz.isAgg333
 z44 := Tryz.sizeOf333
 v44 := Tryz.zeroValue333
 t46 := Tryz.underlying335
 a46 := Tryz.isAgg335
 z46 := Tryz.sizeOf335
 v46 := Tryz.zeroValue335
 t53 := Tryz.underlying403
 a53 := Tryz.isAgg403
 z53 := Tryz.sizeOf403
 v53 := Tryz.zeroValue403
 t57 := Tryz.underlying184
 a57 := Tryz.isAgg184
 z57 := Tryz.sizeOf184
 v57 := Tryz.zeroValue184
 t63 := Tryz.underlying441
 a63 := Tryz.isAgg441
 z63 := Tryz.sizeOf441
 v63 := Tryz.zeroValue441
 t64 := Tryz.underlying312
 a64 := Tryz.isAgg312
 z64 := Tryz.sizeOf312
 v64 := Tryz.zeroValue312 }
end Go.Proofs

/- slices.Sorted(maps.Keys(m)) at this program: the library's proved contracts, applied (printed by the kit's lay-iter). -/
namespace Go.Proofs
open Go.RowKit Go.Maps Go.Sort Go.Shelf

/-- slices.Sort's two contracts at this dump, at the fence that asks nothing. -/
theorem Tryz.sorts128 (m : Nat) : AnyZ.SortsIn Tryz.prog Tryz.sorted128_ren Fence.wide m :=
 ⟨fun blk off cap ss W hH hblk hsz => callsIn_wide.2 (AnyM.slices_Sort_string Tryz.sort212 blk off cap ss W hH hblk hsz),
  fun p cap W => callsIn_wide.2 (AnyM.slices_Sort_string_none Tryz.sort212 p cap W)⟩

/-- **maps.Keys[map[string]spoor/disk.file,string,spoor/disk.file], at whatever map, the nil one too:** a function value over ONE NEW BLOCK, which holds the map. -/
theorem Tryz.maps_Keys_129 (mb : Option Nat) (W : World) : CallsIn Fence.wide 5 Tryz.prog 127 #[.map mb] W fun e w' => e = .returned (.func (.func 211) #[] #[.pointer (some ⟨W.heap.size, 0, none⟩)]) ∧ w' = W.alloc (.cells #[.map mb] 110) :=
 AnyZ.keys_in Tryz.keys129 Fence.wide 5 trivial rfl mb W

set_option maxRecDepth 100000 in
set_option maxHeartbeats 1000000 in
/-- **slices.Sorted[string] AT WHAT maps.Keys[map[string]spoor/disk.file,string,spoor/disk.file] HANDED BACK FOR A MAP THAT IS NOT nil** ('w': the world AHEAD of maps.Keys' call): A NEW SLICE THAT HOLDS THE MAP's KEYS, SORTED; nil just where it has none; nothing that lay before has turned. -/
theorem Tryz.slices_Sorted_keys_128_129 {H : Type} (b nn : Nat) (D0 : DataW H) (R : Value → Option (DataW H × List MemPlace)) (w : World) (hown : w.ownsMap Tryz.prog 9 R b nn D0) (hmax : Maps.size D0 ≤ maxLen) (hbytes : Maps.size D0 * 16 ≤ 140737488355328) :
  CallsIn Fence.wide 5 Tryz.prog 126 #[.func (.func 211) #[] #[.pointer (some ⟨w.heap.size, 0, none⟩)]] (w.alloc (.cells #[.map (some b)] 110)) fun e w' => ∃ (v : Value) (ss : List (List UInt8)), e = .returned v ∧ ss.Perm (strKeys D0) ∧
   w'.ownsRow (w.alloc (.cells #[.map (some b)] 110)).heap.size 9 1 v ss.length ((ss.mergeSort (fun x y => decide (x ≤ y))).map encStr) ∧ (v = .slice none 0 0 ↔ ss = []) ∧ Below (w.alloc (.cells #[.map (some b)] 110)).heap.size (w.alloc (.cells #[.map (some b)] 110)) w' := by
 have hbl := hown.lt
 have hseq : SeqGives Fence.wide 2 Tryz.prog 211 #[.pointer (some ⟨w.heap.size, 0, none⟩)] encStr (fun ss => ss.Perm (strKeys D0)) (Maps.size D0) (w.alloc (.cells #[.map (some b)] 110)) :=
  AnyZ.keys_gives (ρ := Tryz.keys129_ren) { Tryz.keys129 with } Fence.wide _ trivial rfl (by omega) w.heap.size b nn D0 _ (by simp) (by simp) (by
   obtain ⟨es, clock, hb, Ft, hs, hD⟩ := hown
   exact ⟨es, clock, (Below.heap_alloc _ _ b hbl).trans hb, Ft, hs, hD⟩)
 exact AnyZ.sorted_in Tryz.sorted128 Fence.wide 5 trivial trivial trivial trivial rfl (by omega) (Tryz.sorts128 _) (enters_of Tryz.func210 (by kernel_rfl) rfl) 211 #[.pointer (some ⟨w.heap.size, 0, none⟩)] trivial (enters_of Tryz.func211 (by kernel_rfl) rfl) _ _ hmax hbytes _ hseq

end Go.Proofs

/- (*disk.Disk).Names, by the library's contracts. -/
namespace Go.Proofs.YthknocapablpaaaGreatDoor
open Go.RowKit Go.Maps Go.Sort Go.Shelf

set_option maxHeartbeats 1000000 in
set_option maxRecDepth 100000 in
theorem is_at (p o b : Nat) (w : World) (h : w.cell? ⟨p, o + 3, none⟩ = some (.map (some b))) :
  Calls Tryz.prog 125 #[.pointer (some ⟨p, o, none⟩)] w fun e w' => e = .returned (.bool true) ∧ w = w' := by
 have q68 : ∀ (w : World) (r : Option Nat), (binOp .neq 110 (.map r) (.map none)).run Tryz.prog w = .ok (.bool (!r.isNone)) w := fun w r => run_neq_map_nil w _ _ _ r Tryz.underlying110
 go_enter Tryz.func125, Tryz.ntmps125
 go_wp2
 go_ret
 exact ⟨rfl, rfl⟩

set_option maxHeartbeats 1000000 in
set_option maxRecDepth 100000 in
theorem names_at {H : Type} (p o b nn : Nat) (D0 : DataW H) (R : Value → Option (DataW H × List MemPlace)) (w : World) (hc : w.cell? ⟨p, o + 3, none⟩ = some (.map (some b))) (hown : w.ownsMap Tryz.prog 9 R b nn D0) (hmax : Maps.size D0 ≤ maxLen) (hbytes : Maps.size D0 * 16 ≤ 140737488355328) :
  Calls Tryz.prog 68 #[.pointer (some ⟨p, o, none⟩)] w fun e w' => ∃ (v : Value) (ss : List (List UInt8)), e = .returned v ∧ ss.Perm (strKeys D0) ∧
   w'.ownsRow w.heap.size 9 1 v ss.length ((ss.mergeSort (fun x y => decide (x ≤ y))).map encStr) ∧ (v = .slice none 0 0 ↔ ss = []) ∧ Below w.heap.size w w' := by
 refine (callsIn_wide (n := 6)).1 ?_
 have hfK : Fence.wide.fn 127 := trivial
 have hfS : Fence.wide.fn 126 := trivial
 have hfI : Fence.wide.fn 125 := trivial
 have q68 : ∀ (w : World) (r : Option Nat), (binOp .neq 110 (.map r) (.map none)).run Tryz.prog w = .ok (.bool (!r.isNone)) w := fun w r => run_neq_map_nil w _ _ _ r Tryz.underlying110
 refine callsIn_of_wp Tryz.func68 rfl trivial ?_ rfl
 simp only [Tryz.ntmps68, List.size_toArray, List.length_cons, List.length_nil, Nat.reduceAdd, Nat.reduceSub, Array.replicate_succ, Array.replicate_zero, List.push_toArray, List.append_toArray, List.nil_append, List.cons_append]
 gi_wp2_with (first
  | (gi_at_call 127; refine (Tryz.maps_Keys_129 _ _).mono ?_; rintro e w' ⟨rfl, rfl⟩)
  | (gi_at_call 126; refine (Tryz.slices_Sorted_keys_128_129 b nn D0 R w hown hmax hbytes).mono ?_; rintro e w' ⟨v, ss, rfl, hS, hrow, hnil, hb⟩)
  | (gi_at_call 125; refine (callsIn_wide.2 (is_at p o b _ hc)).mono ?_; rintro e w' ⟨rfl, rfl⟩))
 go_ret
 exact ⟨v, ss, rfl, hS, ownsRow_base_a hrow (by simp), hnil, ((Below.refl _ w).alloc (Nat.le_refl _) _).trans (hb.mono (by simp))⟩

set_option maxHeartbeats 1000000 in
set_option maxRecDepth 100000 in
theorem names_nilmap (p o : Nat) (w : World) (hc : w.cell? ⟨p, o + 3, none⟩ = some (.map none)) : Calls Tryz.prog 68 #[.pointer (some ⟨p, o, none⟩)] w fun e w' => e = .returned (.slice none 0 0) ∧ w' = w := by
 have q68 : ∀ (w : World) (r : Option Nat), (binOp .neq 110 (.map r) (.map none)).run Tryz.prog w = .ok (.bool (!r.isNone)) w := fun w r => run_neq_map_nil w _ _ _ r Tryz.underlying110
 go_enter Tryz.func68, Tryz.ntmps68
 go_wp2
 go_ret
 exact ⟨rfl, rfl⟩

set_option maxHeartbeats 1000000 in
set_option maxRecDepth 100000 in
theorem names_nil (w : World) : Calls Tryz.prog 68 #[.pointer none] w fun e w' => e = .returned (.slice none 0 0) ∧ w' = w := by
 go_enter Tryz.func68, Tryz.ntmps68
 go_wp2
 go_ret
 exact ⟨rfl, rfl⟩

end Go.Proofs.YthknocapablpaaaGreatDoor

/- The walks over cmp and cells: comparisons. -/
namespace Go.Proofs.YthknocapablpaaaGreatDoor
set_option maxRecDepth 100000
open Go.RowKit

/-- -1, 0, 1. -/
def cmpI (x y : Int) : Int := if x < y then -1 else if y < x then 1 else 0
/-- Which string stands ahead. -/
def sLt (x y : ByteArray) : Bool := Op.bytesLess x.toList y.toList
def sEq (x y : ByteArray) : Bool := x.toList == y.toList
def cmpS (x y : ByteArray) : Int := if sLt x y = true then -1 else if sEq x y = true then 0 else 1
def or2 (x y : Int) : Int := if x = 0 then y else x

theorem nan_int (x : Int) (w : World) : Calls Tryz.prog 153 #[.int .i64 x] w fun e w' => e = .returned (.bool false) ∧ w = w' := by
 go_enter Tryz.func153, Tryz.ntmps153
 go_wp2
 go_ret
 exact ⟨by simp, rfl⟩
theorem nan_str (x : ByteArray) (w : World) : Calls Tryz.prog 372 #[.string x] w fun e w' => e = .returned (.bool false) ∧ w = w' := by
 go_enter Tryz.func372, Tryz.ntmps372
 go_wp2
 go_ret
 exact ⟨by simp, rfl⟩
theorem cmp_int (x y : Int) (w : World) : Calls Tryz.prog 92 #[.int .i64 x, .int .i64 y] w fun e w' => e = .returned (.int .i64 (cmpI x y)) ∧ w = w' := by
 go_enter Tryz.func92, Tryz.ntmps92
 go_wp2_with (go_at_call 153; refine (nan_int _ _).mono ?_; rintro e w' ⟨rfl, rfl⟩)
 all_goals go_ret
 all_goals (refine ⟨?_, rfl⟩; unfold cmpI; (repeat' split) <;> first | rfl | (exfalso; omega))
theorem cmp_str (x y : ByteArray) (w : World) : Calls Tryz.prog 335 #[.string x, .string y] w fun e w' => e = .returned (.int .i64 (cmpS x y)) ∧ w = w' := by
 cases h1 : Op.bytesLess x.toList y.toList
 ·cases h2 : x.toList == y.toList
  ·go_enter Tryz.func335, Tryz.ntmps335
   go_wp2_with (go_at_call 372; refine (nan_str _ _).mono ?_; rintro e w' ⟨rfl, rfl⟩)
   go_ret
   exact ⟨by simp [cmpS, sLt, sEq, h1, h2], rfl⟩
  ·go_enter Tryz.func335, Tryz.ntmps335
   go_wp2_with (go_at_call 372; refine (nan_str _ _).mono ?_; rintro e w' ⟨rfl, rfl⟩)
   go_ret
   exact ⟨by simp [cmpS, sLt, sEq, h1, h2], rfl⟩
 ·go_enter Tryz.func335, Tryz.ntmps335
  go_wp2_with (go_at_call 372; refine (nan_str _ _).mono ?_; rintro e w' ⟨rfl, rfl⟩)
  go_ret
  exact ⟨by simp [cmpS, sLt, h1], rfl⟩

theorem or_two (b cap : Nat) (x y : Int) (w : World) (h0 : w.cell? ⟨b, 0, none⟩ = some (.int .i64 x)) (h1 : w.cell? ⟨b, 1, none⟩ = some (.int .i64 y)) :
  Calls Tryz.prog 91 #[.slice (some ⟨b, 0, none⟩) 2 cap] w fun e w' => e = .returned (.int .i64 (or2 x y)) ∧ w = w' := by
 by_cases hx : x = 0
 ·subst hx
  by_cases hy : y = 0
  ·subst hy
   go_enter Tryz.func91, Tryz.ntmps91
   go_wp2
   go_loopg [8] 2 (fun g t wr => ∃ i : Nat, i + g = 2 ∧ t = .int .i64 i ∧ wr = w)
   case atStart => exact ⟨0, rfl, rfl, rfl⟩
   case round =>
    obtain ⟨i, hi, rfl, rfl⟩ := hrel
    have hi3 : i = 0 ∨ i = 1 ∨ i = 2 := by omega
    rcases hi3 with rfl | rfl | rfl
    ·go_wp2
     go_roundg 1
     case measure => omega
     case rel => exact ⟨1, rfl, by go_num, rfl⟩
    ·go_wp2
     go_roundg 0
     case measure => omega
     case rel => exact ⟨2, rfl, by go_num, rfl⟩
    ·go_wp2
     go_ret
     exact ⟨rfl, rfl⟩
  ·go_enter Tryz.func91, Tryz.ntmps91
   go_wp2
   go_loopg [8] 2 (fun g t wr => ∃ i : Nat, i + g = 2 ∧ i < 2 ∧ t = .int .i64 i ∧ wr = w)
   case atStart => exact ⟨0, rfl, by omega, rfl, rfl⟩
   case round =>
    obtain ⟨i, hi, hi2, rfl, rfl⟩ := hrel
    have hi3 : i = 0 ∨ i = 1 := by omega
    rcases hi3 with rfl | rfl
    ·go_wp2
     go_roundg 1
     case measure => omega
     case rel => exact ⟨1, rfl, by omega, by go_num, rfl⟩
    ·go_wp2
     go_ret
     exact ⟨rfl, rfl⟩
 ·go_enter Tryz.func91, Tryz.ntmps91
  go_wp2
  go_loopg [8] 2 (fun g t wr => t = .int .i64 0 ∧ wr = w)
  case atStart => exact ⟨rfl, rfl⟩
  case round =>
   obtain ⟨rfl, rfl⟩ := hrel
   go_wp2
   go_ret
   exact ⟨by simp [or2, hx], rfl⟩
end Go.Proofs.YthknocapablpaaaGreatDoor

/- The walks over cells.Compare. -/
namespace Go.Proofs.YthknocapablpaaaGreatDoor
set_option maxRecDepth 100000
open Go.RowKit

/-- A cell. -/
structure Cel where
 k : ByteArray
 s : Int
 v : ByteArray
def Cel.val (c : Cel) : Value := .agg #[.string c.k, .int .i64 c.s, .string c.v]
def cmpC (a b : Cel) : Int := or2 (cmpS a.k b.k) (cmpI b.s a.s)

set_option maxHeartbeats 1000000 in
theorem cell_cmp (a b : Cel) (w : World) : Calls Tryz.prog 283 #[.agg #[.string a.k, .int .i64 a.s, .string a.v], .agg #[.string b.k, .int .i64 b.s, .string b.v]] w fun e w' => e = .returned (.int .i64 (cmpC a b)) ∧ Kept (fun _ => False) w w' := by
 go_enter Tryz.func283, Tryz.ntmps283
 go_upto_region 1 with fail
 go_region_held3 (fun w' => w'.cell? ⟨w.heap.size, 0, none⟩ = some (.string a.k) ∧ w'.cell? ⟨w.heap.size, 1, none⟩ = some (.int .i64 a.s) ∧ w'.cell? ⟨w.heap.size + 1, 0, none⟩ = some (.string b.k) ∧ w'.cell? ⟨w.heap.size + 1, 1, none⟩ = some (.int .i64 b.s)) (first | go_keep | (go_split_ands; (simp [go_sem, *]; done)))
  (first
   | (go_at_call 91; refine (or_two _ _ (cmpS a.k b.k) (cmpI b.s a.s) _ ?_ ?_).mono ?_; (simp [go_sem]); (simp [go_sem]); rintro e w4 ⟨rfl, rfl⟩)
   | (go_at_call 335; refine (cmp_str _ _ _).mono ?_; rintro e w4 ⟨rfl, rfl⟩)
   | (go_at_call 92; refine (cmp_int _ _ _).mono ?_; rintro e w4 ⟨rfl, rfl⟩))
 all_goals go_wp2
 all_goals go_ret
 all_goals exact ⟨rfl, by repeat (first | exact Kept.refl _ _ | apply Kept.alloc | apply Kept.drew)⟩
end Go.Proofs.YthknocapablpaaaGreatDoor

/- cells.Compare, and whether a cell may be. -/
namespace Go.Proofs.YthknocapablpaaaGreatDoor
open Go.RowKit

set_option maxHeartbeats 1000000 in
set_option maxRecDepth 100000 in
theorem compare_any (a b : Cel) (w : World) : Calls Tryz.prog 201 #[a.val, b.val] w fun e w' => e = .returned (.int .i64 (cmpC a b)) ∧ Kept (fun _ => False) w w' := by
 have C := Lib.hid (cell_cmp a b)
 unfold Cel.val
 go_enter Tryz.func201, Tryz.ntmps201
 go_wp2_with fail
 refine (C.out _).mono ?_
 rintro e w4 ⟨rfl, k4⟩
 have K4 := Lib.hid (Kept.trans (((Kept.refl (fun _ => False) w).alloc _).alloc _) k4 (fun _ _ f => f) (fun _ _ f => f) : Kept (fun _ => False) w w4)
 clear k4
 go_wp2_with fail
 go_ret
 exact ⟨rfl, K4.out⟩
/-- May a cell be? -/
def mayC (c : Cel) : Bool := (decide (c.k ≠ ⟨#[]⟩) && decide (c.k.size ≤ 64)) && (decide (0 ≤ c.s) && decide (c.v.size ≤ 128))
theorem neB {a b : ByteArray} (h : ¬ a = b) : (a.toList == b.toList) = false := by
 rw [ByteArray.toList_eq, ByteArray.toList_eq, beq_eq_false_iff_ne]
 exact fun e => h (ByteArray.ext (Array.toList_inj.1 e))
set_option maxHeartbeats 2000000 in
set_option maxRecDepth 100000 in
theorem may_any (c : Cel) (w : World) : Calls Tryz.prog 203 #[c.val] w fun e w' => e = .returned (.bool (mayC c)) ∧ Kept (fun _ => False) w w' := by
 obtain ⟨k, s, v⟩ := c
 unfold Cel.val
 by_cases h1 : k = ⟨#[]⟩
 ·subst h1
  go_enter Tryz.func203, Tryz.ntmps203
  go_wp2_with fail
  go_ret
  exact ⟨by simp [mayC], (Kept.refl _ w).alloc _⟩
 ·have f1 : (k.toList == []) = false := by simpa [ByteArray.toList_eq] using neB h1
  by_cases h2 : k.size ≤ 64
  ·have g2 : (k.size : Int) ≤ 64 := by omega
   by_cases h3 : 0 ≤ s
   ·by_cases h4 : v.size ≤ 128
    ·have g4 : (v.size : Int) ≤ 128 := by omega
     go_enter Tryz.func203, Tryz.ntmps203
     go_wp2_with fail
     go_ret
     exact ⟨by simp [mayC, h1, h2, h3, h4], (Kept.refl _ w).alloc _⟩
    ·have g4 : ¬ (v.size : Int) ≤ 128 := by omega
     go_enter Tryz.func203, Tryz.ntmps203
     go_wp2_with fail
     go_ret
     exact ⟨by simp [mayC, h4], (Kept.refl _ w).alloc _⟩
   ·go_enter Tryz.func203, Tryz.ntmps203
    go_wp2_with fail
    go_ret
    exact ⟨by have h5 : ¬ 0 ≤ s := (by omega); simp [mayC, h5], (Kept.refl _ w).alloc _⟩
  ·have g2 : ¬ (k.size : Int) ≤ 64 := by omega
   go_enter Tryz.func203, Tryz.ntmps203
   go_wp2_with fail
   go_ret
   exact ⟨by simp [mayC, h2], (Kept.refl _ w).alloc _⟩
end Go.Proofs.YthknocapablpaaaGreatDoor

/- slices.BinarySearchFunc over cells, by cells.Compare. -/
namespace Go.Proofs.YthknocapablpaaaGreatDoor
open Go.RowKit

/-- A cell where it lies. -/
def CelAt (w : World) (g o : Nat) (c : Cel) : Prop := w.cell? ⟨g, o, none⟩ = some (.string c.k) ∧ w.cell? ⟨g, o + 1, none⟩ = some (.int .i64 c.s) ∧ w.cell? ⟨g, o + 2, none⟩ = some (.string c.v)
theorem CelAt.kept {w w' : World} {g o : Nat} {c : Cel} (h : CelAt w g o c) (K : Kept (fun _ => False) w w') : CelAt w' g o c := ⟨K.cell h.1 (fun f => f), K.cell h.2.1 (fun f => f), K.cell h.2.2 (fun f => f)⟩
/-- Cells, as they can be read. -/
def CelsR (w : World) (ao : Option Addr) (l : List Cel) : Prop := l = [] ∨ ∃ g o, ao = some ⟨g, o, none⟩ ∧ ∀ j c, l[j]? = some c → CelAt w g (o + j * 3) c
theorem CelsR.kept {w w' : World} {ao : Option Addr} {l : List Cel} (h : CelsR w ao l) (K : Kept (fun _ => False) w w') : CelsR w' ao l := by
 rcases h with h | ⟨g, o, e, h⟩
 ·exact .inl h
 ·exact .inr ⟨g, o, e, fun j c hc => (h j c hc).kept K⟩
/-- Where a target is, or would be. -/
def SplitAt (l : List Cel) (t : Cel) (i : Nat) : Prop := i ≤ l.length ∧ (∀ (x : Nat) (c : Cel), x < i → l[x]? = some c → cmpC c t < 0) ∧ (∀ (x : Nat) (c : Cel), i ≤ x → l[x]? = some c → 0 ≤ cmpC c t)
set_option maxHeartbeats 4000000 in
set_option maxRecDepth 100000 in
theorem bsearch_any {w : World} {ao : Option Addr} {cap : Nat} {l : List Cel} {t : Cel} (R : CelsR w ao l) (hl : l.length ≤ 1000000) (hm : ∀ (x y : Nat) (c d : Cel), x ≤ y → l[x]? = some c → l[y]? = some d → cmpC d t < 0 → cmpC c t < 0) :
  Calls Tryz.prog 205 #[.slice ao l.length cap, t.val, .func (.func 201) #[] #[]] w fun e w' => (∃ i, SplitAt l t i ∧ e = .returned (.tuple #[.int .i64 i, .bool (decide (∃ c, l[i]? = some c ∧ cmpC c t = 0))])) ∧ Kept (fun _ => False) w w' := by
 obtain ⟨n, hn⟩ : ∃ n, l.length = n := ⟨_, rfl⟩
 have HN := Lib.hid hn
 rw [hn] at hl ⊢
 obtain ⟨tk, ts, tv⟩ := t
 unfold Cel.val
 obtain ⟨g, hg⟩ : ∃ g, w.heap.size = g := ⟨_, rfl⟩
 obtain ⟨W0, hW0⟩ : ∃ W, w.alloc (Obj.cells #[.string tk, .int .i64 ts, .string tv] 132) = W := ⟨_, rfl⟩
 have k0 : Kept (fun _ => False) w W0 := by rw [← hW0]; exact (Kept.refl _ _).alloc _
 have T0 : CelAt W0 g 0 ⟨tk, ts, tv⟩ := by rw [← hW0, ← hg]; exact ⟨by simp [go_sem], by simp [go_sem], by simp [go_sem]⟩
 have K0 := Lib.hid k0
 have TT := Lib.hid T0
 have RR := Lib.hid (R.kept k0)
 have HM := Lib.hid hm
 have CC := Lib.hid (fun (c : Cel) => compare_any c ⟨tk, ts, tv⟩)
 unfold Cel.val at CC
 clear R hm hn k0 T0
 go_enter Tryz.func205, Tryz.ntmps205
 go_wp2_with fail
 clear hW0 hg
 go_loopg [9, 10] n (fun gh t9 t10 wr => ∃ (i j : Nat), i ≤ j ∧ j ≤ n ∧ gh = j - i ∧ t9 = .int .i64 i ∧ t10 = .int .i64 j ∧ (∀ (x : Nat) (c : Cel), x < i → l[x]? = some c → cmpC c ⟨tk, ts, tv⟩ < 0) ∧ (∀ (x : Nat) (c : Cel), j ≤ x → l[x]? = some c → 0 ≤ cmpC c ⟨tk, ts, tv⟩) ∧ Kept (fun _ => False) W0 wr)
 case atStart => exact ⟨0, n, by omega, by omega, by omega, rfl, rfl, fun x c h => by omega, fun x c h1 h2 => by have := (List.getElem?_eq_some_iff.1 h2).1; have := HN.out; omega, Kept.refl _ _⟩
 case round =>
  obtain ⟨i, j, h1, h2, h3, rfl, rfl, h5, h6, hk⟩ := hrel
  have H3 := Lib.hid h3; have H5 := Lib.hid h5; have H6 := Lib.hid h6; have HK := Lib.hid hk
  clear h3 h5 h6
  by_cases hij : i < j
  ·have i1 : (i : Int) < (j : Int) := by omega
   obtain ⟨h, hh⟩ : ∃ h : Nat, ((i : Int) + (j : Int)) / 2 = (h : Int) := ⟨(i + j) / 2, by omega⟩
   have b1 : i ≤ h := by omega
   have b2 : h < j := by omega
   have hlt : h < l.length := by have := HN.out; omega
   have hne : ¬ l = [] := fun e => by rw [e] at hlt; simp at hlt
   obtain ⟨c, hc⟩ : ∃ c, l[h]? = some c := ⟨_, List.getElem?_eq_getElem hlt⟩
   obtain ⟨gb, o, rfl, hcl⟩ := RR.out.resolve_left hne
   obtain ⟨x0, x1, x2⟩ := (hcl h c hc).kept hk
   obtain ⟨y0, y1, y2⟩ := TT.out.kept hk
   have i2 : (h : Int) < (n : Int) := by omega
   have i3 : (0 : Int) ≤ (h : Int) := by omega
   have i4 : wrap64 ((h : Int) + 1) = ((h + 1 : Nat) : Int) := by unfold wrap64; omega
   have HC := Lib.hid hc
   have BB := Lib.hid (And.intro b1 (And.intro b2 h2))
   obtain ⟨ck, cs, cv⟩ := c
   dsimp only at x0 x1 x2 y0 y1 y2
   have C := Lib.hid (CC.out ⟨ck, cs, cv⟩)
   obtain ⟨r, hr⟩ : ∃ r, cmpC ⟨ck, cs, cv⟩ ⟨tk, ts, tv⟩ = r := ⟨_, rfl⟩
   rw [hr] at C
   have HR := Lib.hid hr
   clear hk hlt hne hcl hc hr b1 b2 h2 hij
   simp only [Nat.zero_add] at y0 y1 y2
   by_cases hneg : r < 0
   ·go_wp2_with fail
    go_region_held3 (fun w' => w'.cell? ⟨gb, o + h * 3, none⟩ = some (.string ck) ∧ w'.cell? ⟨gb, o + h * 3 + 1, none⟩ = some (.int .i64 cs) ∧ w'.cell? ⟨gb, o + h * 3 + 2, none⟩ = some (.string cv) ∧ w'.cell? ⟨g, 0, none⟩ = some (.string tk) ∧ w'.cell? ⟨g, 1, none⟩ = some (.int .i64 ts) ∧ w'.cell? ⟨g, 2, none⟩ = some (.string tv)) (first | go_keep | (go_split_ands; exact ⟨kk.cell (by assumption) (fun f => f), kk.cell (by assumption) (fun f => f), kk.cell (by assumption) (fun f => f), kk.cell (by assumption) (fun f => f), kk.cell (by assumption) (fun f => f), kk.cell (by assumption) (fun f => f)⟩))
     (first
      | (go_at_call 201; refine (C.out _).mono ?_; rintro e w4 ⟨rfl, kk⟩; (have K4 := Lib.hid (HK.out.drew.trans kk (fun _ _ f => f) (fun _ _ f => f) : Kept (fun _ => False) W0 w4))))
    go_wp2_with fail
    go_roundg (j - (h + 1))
    case measure => have := H3.out; have := BB.out; omega
    case rel =>
     refine ⟨h + 1, j, by have := BB.out; omega, BB.out.2.2, rfl, rfl, rfl, fun x d hx hd => ?_, H6.out, K4.out⟩
     exact HM.out x h d _ (by omega) hd HC.out (by rw [HR.out]; exact hneg)
   ·go_wp2_with fail
    go_region_held3 (fun w' => w'.cell? ⟨gb, o + h * 3, none⟩ = some (.string ck) ∧ w'.cell? ⟨gb, o + h * 3 + 1, none⟩ = some (.int .i64 cs) ∧ w'.cell? ⟨gb, o + h * 3 + 2, none⟩ = some (.string cv) ∧ w'.cell? ⟨g, 0, none⟩ = some (.string tk) ∧ w'.cell? ⟨g, 1, none⟩ = some (.int .i64 ts) ∧ w'.cell? ⟨g, 2, none⟩ = some (.string tv)) (first | go_keep | (go_split_ands; exact ⟨kk.cell (by assumption) (fun f => f), kk.cell (by assumption) (fun f => f), kk.cell (by assumption) (fun f => f), kk.cell (by assumption) (fun f => f), kk.cell (by assumption) (fun f => f), kk.cell (by assumption) (fun f => f)⟩))
     (first
      | (go_at_call 201; refine (C.out _).mono ?_; rintro e w4 ⟨rfl, kk⟩; (have K4 := Lib.hid (HK.out.drew.trans kk (fun _ _ f => f) (fun _ _ f => f) : Kept (fun _ => False) W0 w4))))
    go_wp2_with fail
    go_roundg (h - i)
    case measure => have := H3.out; have := BB.out; omega
    case rel =>
     refine ⟨i, h, BB.out.1, by have := BB.out; omega, rfl, rfl, rfl, H5.out, fun x d hx hd => ?_, K4.out⟩
     by_cases hlt : cmpC d ⟨tk, ts, tv⟩ < 0
     ·have := HM.out h x _ d hx HC.out hd hlt
      rw [HR.out] at this
      omega
     ·omega
  ·have hij2 : i = j := by omega
   subst hij2
   have i1 : ¬ (i : Int) < (i : Int) := by omega
   by_cases hin : i < n
   ·have hlt : i < l.length := by have := HN.out; omega
    have hne : ¬ l = [] := fun e => by rw [e] at hlt; simp at hlt
    obtain ⟨c, hc⟩ : ∃ c, l[i]? = some c := ⟨_, List.getElem?_eq_getElem hlt⟩
    obtain ⟨gb, o, rfl, hcl⟩ := RR.out.resolve_left hne
    obtain ⟨x0, x1, x2⟩ := (hcl i c hc).kept hk
    obtain ⟨y0, y1, y2⟩ := TT.out.kept hk
    have i2 : (i : Int) < (n : Int) := by omega
    have i3 : (0 : Int) ≤ (i : Int) := by omega
    have HC := Lib.hid hc
    have LT := Lib.hid hlt
    obtain ⟨ck, cs, cv⟩ := c
    dsimp only at x0 x1 x2 y0 y1 y2
    have C := Lib.hid (CC.out ⟨ck, cs, cv⟩)
    obtain ⟨r, hr⟩ : ∃ r, cmpC ⟨ck, cs, cv⟩ ⟨tk, ts, tv⟩ = r := ⟨_, rfl⟩
    rw [hr] at C
    have HR := Lib.hid hr
    clear hk hlt hne hcl hc hr h1 h2 hij
    simp only [Nat.zero_add] at y0 y1 y2
    go_wp2_with fail
    go_region_held3 (fun w' => w'.cell? ⟨gb, o + i * 3, none⟩ = some (.string ck) ∧ w'.cell? ⟨gb, o + i * 3 + 1, none⟩ = some (.int .i64 cs) ∧ w'.cell? ⟨gb, o + i * 3 + 2, none⟩ = some (.string cv) ∧ w'.cell? ⟨g, 0, none⟩ = some (.string tk) ∧ w'.cell? ⟨g, 1, none⟩ = some (.int .i64 ts) ∧ w'.cell? ⟨g, 2, none⟩ = some (.string tv)) (first | go_keep | (go_split_ands; exact ⟨kk.cell (by assumption) (fun f => f), kk.cell (by assumption) (fun f => f), kk.cell (by assumption) (fun f => f), kk.cell (by assumption) (fun f => f), kk.cell (by assumption) (fun f => f), kk.cell (by assumption) (fun f => f)⟩))
     (first
      | (go_at_call 201; refine (C.out _).mono ?_; rintro e w4 ⟨rfl, kk⟩; (have K4 := Lib.hid (HK.out.drew.trans kk (fun _ _ f => f) (fun _ _ f => f) : Kept (fun _ => False) W0 w4))))
    go_wp2_with fail
    go_ret2
    have e : decide (∃ c, l[i]? = some c ∧ cmpC c ⟨tk, ts, tv⟩ = 0) = (r == 0) := by
     rw [Bool.eq_iff_iff]
     simp only [beq_iff_eq, decide_eq_true_eq]
     exact ⟨fun ⟨d, hd, e⟩ => by rw [HC.out] at hd; cases hd; rw [HR.out] at e; exact e, fun e => ⟨_, HC.out, by rw [HR.out]; exact e⟩⟩
    exact ⟨⟨i, ⟨by have := LT.out; omega, H5.out, H6.out⟩, by rw [e]; rfl⟩, K0.out.trans K4.out (fun _ _ f => f) (fun _ _ f => f)⟩
   ·have i2 : ¬ (i : Int) < (n : Int) := by omega
    have i4 : n ≤ i := by omega
    have HI := Lib.hid hin
    have HI2 := Lib.hid (show i ≤ n from h2)
    clear hk h1 h2 hij hin
    go_wp2_with fail
    refine wp_region_held_drew (S := fun _ => True) (by kernel_rfl) ?_ (fun hHeld => ?_)
    ·exact trivial
    refine tW 0 opAt0 hHeld ?_
    (try simp only [Act.put]); try simp only [z2, List.set]
    refine tW 1 opAt1 hHeld ?_
    (try simp only [Act.put]); try simp only [z2, List.set]
    refine tW 2 opAt2 hHeld ?_
    (try simp only [Act.put]); try simp only [z2, List.set]
    refine tH (v := .bool false) 3 opAt3 ?_ hHeld ?_
    case refine_1 => (intro w hSw; (try dsimp only at hSw); go_simp; all_goals (with_reducible rfl))
    (try simp only [Act.put]); try simp only [z2, List.set]
    refine tH (v := .bool false) 4 opAt4 ?_ hHeld ?_
    case refine_1 => (intro w hSw; (try dsimp only at hSw); go_simp; all_goals (with_reducible rfl))
    (try simp only [Act.put]); try simp only [z2, List.set]
    refine tU 5 opAt5 hHeld ?_
    (try simp only [Act.put]); try simp only [z2, List.set]
    refine tU 6 opAt6 hHeld ?_
    (try simp only [Act.put]); try simp only [z2, List.set]
    refine tU 7 opAt7 hHeld ?_
    (try simp only [Act.put]); try simp only [z2, List.set]
    refine tU 8 opAt8 hHeld ?_
    (try simp only [Act.put]); try simp only [z2, List.set]
    refine tU 9 opAt9 hHeld ?_
    (try simp only [Act.put]); try simp only [z2, List.set]
    refine tU 10 opAt10 hHeld ?_
    (try simp only [Act.put]); try simp only [z2, List.set]
    refine tU 11 opAt11 hHeld ?_
    (try simp only [Act.put]); try simp only [z2, List.set]
    refine tU 12 opAt12 hHeld ?_
    (try simp only [Act.put]); try simp only [z2, List.set]
    refine tH (v := .bool false) 13 opAt13 ?_ hHeld ?_
    case refine_1 => (intro w hSw; (try dsimp only at hSw); go_simp; all_goals (with_reducible rfl))
    (try simp only [Act.put]); try simp only [z2, List.set]
    refine tW 14 opAt14 hHeld ?_
    (try simp only [Act.put]); try simp only [z2, List.set]
    refine tW 15 opAt15 hHeld ?_
    (try simp only [Act.put]); try simp only [z2, List.set]
    refine wpAnyH_done (by kernel_rfl) ?_ _
    go_wp2_with fail
    go_ret2
    have e : decide (∃ c, l[i]? = some c ∧ cmpC c ⟨tk, ts, tv⟩ = 0) = false := by
     rw [decide_eq_false_iff_not]
     rintro ⟨d, hd, _⟩
     have := (List.getElem?_eq_some_iff.1 hd).1
     have := HN.out
     have := HI.out
     omega
    exact ⟨⟨i, ⟨by have := HN.out; have := HI2.out; omega, H5.out, H6.out⟩, by rw [e]; rfl⟩, K0.out.trans HK.out.drew (fun _ _ f => f) (fun _ _ f => f)⟩
end Go.Proofs.YthknocapablpaaaGreatDoor

/- memory's pages: the page in which a cell is, or would be. -/
namespace Go.Proofs.YthknocapablpaaaGreatDoor
open Go.RowKit

/-- Does a page begin behind a cell? -/
def behindI (a c : Cel) : Int := if 0 < cmpC a c then 1 else -1
set_option maxHeartbeats 2000000 in
set_option maxRecDepth 100000 in
theorem behind_any {w : World} {g o n cap : Nat} {a c : Cel} (h : CelAt w g o a) (hn : 0 < n) : Calls Tryz.prog 285 #[.slice (some ⟨g, o, none⟩) n cap, c.val] w fun e w' => e = .returned (.int .i64 (behindI a c)) ∧ Kept (fun _ => False) w w' := by
 obtain ⟨x0, x1, x2⟩ := h
 have bg : g < w.heap.size := World.block_lt_of_cell? _ _ x0
 have CC := Lib.hid (compare_any a c)
 unfold behindI
 obtain ⟨r, hr⟩ : ∃ r, cmpC a c = r := ⟨_, rfl⟩
 rw [hr] at CC ⊢
 clear hr
 obtain ⟨ak, aq, av⟩ := a
 obtain ⟨ck, cs, cv⟩ := c
 unfold Cel.val at CC ⊢
 dsimp only at x0 x1 x2 CC ⊢
 obtain ⟨q, hq⟩ : ∃ q, w.heap.size = q := ⟨_, rfl⟩
 obtain ⟨W0, hW0⟩ : ∃ W, w.alloc (Obj.cells #[.string ck, .int .i64 cs, .string cv] 132) = W := ⟨_, rfl⟩
 have k0 : Kept (fun _ => False) w W0 := by rw [← hW0]; exact (Kept.refl _ _).alloc _
 have K0 := Lib.hid k0
 have x0 := k0.cell x0 (fun f => f)
 have x1 := k0.cell x1 (fun f => f)
 have x2 := k0.cell x2 (fun f => f)
 have y0 : W0.cell? ⟨q, 0, none⟩ = some (.string ck) := by rw [← hW0, ← hq]; simp [go_sem]
 have y1 : W0.cell? ⟨q, 1, none⟩ = some (.int .i64 cs) := by rw [← hW0, ← hq]; simp [go_sem]
 have y2 : W0.cell? ⟨q, 2, none⟩ = some (.string cv) := by rw [← hW0, ← hq]; simp [go_sem]
 clear k0 bg
 by_cases hpos : 0 < r
 all_goals
  go_enter Tryz.func285, Tryz.ntmps285
  go_wp2_with fail
  try clear hW0 hq
  go_region_held3 (fun w' => w'.cell? ⟨g, o, none⟩ = some (.string ak) ∧ w'.cell? ⟨g, o + 1, none⟩ = some (.int .i64 aq) ∧ w'.cell? ⟨g, o + 2, none⟩ = some (.string av) ∧ w'.cell? ⟨q, 0, none⟩ = some (.string ck) ∧ w'.cell? ⟨q, 1, none⟩ = some (.int .i64 cs) ∧ w'.cell? ⟨q, 2, none⟩ = some (.string cv)) (first | go_keep | (go_split_ands; exact ⟨kk.cell (by assumption) (fun f => f), kk.cell (by assumption) (fun f => f), kk.cell (by assumption) (fun f => f), kk.cell (by assumption) (fun f => f), kk.cell (by assumption) (fun f => f), kk.cell (by assumption) (fun f => f)⟩))
   (first
    | (go_at_call 201; refine (CC.out _).mono ?_; rintro e w4 ⟨rfl, kk⟩; (have K4 := Lib.hid (K0.out.drew.trans kk (fun _ _ f => f) (fun _ _ f => f) : Kept (fun _ => False) w w4))))
  go_wp2_with fail
  go_ret
  exact ⟨by simp [hpos], K4.out⟩
end Go.Proofs.YthknocapablpaaaGreatDoor

/- memory's pages: binary search over pages. -/
namespace Go.Proofs.YthknocapablpaaaGreatDoor
open Go.RowKit

/-- A page, where it lies. -/
structure Pg where
 g : Nat
 o : Nat
 l : List Cel
 cap : Nat
def Pg.val (p : Pg) : Value := .slice (some ⟨p.g, p.o, none⟩) p.l.length p.cap
def Pg.Ok (p : Pg) (w : World) : Prop := p.l ≠ [] ∧ ∀ x c, p.l[x]? = some c → CelAt w p.g (p.o + x * 3) c
theorem Pg.Ok.kept {p : Pg} {w w' : World} (h : p.Ok w) (K : Kept (fun _ => False) w w') : p.Ok w' := ⟨h.1, fun x c hc => (h.2 x c hc).kept K⟩
/-- Pages, as they can be read. -/
def PagesR (w : World) (ao : Option Addr) (ps : List Pg) : Prop := ps = [] ∨ ∃ g o, ao = some ⟨g, o, none⟩ ∧ ∀ j p, ps[j]? = some p → w.cell? ⟨g, o + j, none⟩ = some p.val ∧ p.Ok w
theorem PagesR.kept {w w' : World} {ao : Option Addr} {l : List Pg} (h : PagesR w ao l) (K : Kept (fun _ => False) w w') : PagesR w' ao l := by
 rcases h with h | ⟨g, o, e, h⟩
 ·exact .inl h
 ·exact .inr ⟨g, o, e, fun j c hc => ⟨K.cell (h j c hc).1 (fun f => f), (h j c hc).2.kept K⟩⟩
/-- On which side of a page's beginning a cell is. -/
def Pg.way (p : Pg) (t : Cel) : Int := match p.l with
 | [] => -1
 | a :: _ => behindI a t
theorem way_any {p : Pg} {W : World} {t : Cel} (h : p.Ok W) : Calls Tryz.prog 285 #[p.val, t.val] W fun e w' => e = .returned (.int .i64 (p.way t)) ∧ Kept (fun _ => False) W w' := by
 obtain ⟨g, o, l, cap⟩ := p
 cases l with
 | nil => exact absurd rfl h.1
 | cons a l =>
  have := h.2 0 a rfl
  rw [Nat.zero_mul, Nat.add_zero] at this
  exact behind_any this (by simp)
theorem way_ne (p : Pg) (t : Cel) : p.way t = 1 ∨ p.way t = -1 := by
 unfold Pg.way
 split
 ·exact .inr rfl
 ·unfold behindI
  split
  ·exact .inl rfl
  ·exact .inr rfl
/-- Behind how many pages' beginnings a cell is. -/
def SplitPg (l : List Pg) (t : Cel) (i : Nat) : Prop := i ≤ l.length ∧ (∀ (x : Nat) (c : Pg), x < i → l[x]? = some c → c.way t < 0) ∧ (∀ (x : Nat) (c : Pg), i ≤ x → l[x]? = some c → 0 ≤ c.way t)
set_option maxHeartbeats 4000000 in
set_option maxRecDepth 100000 in
theorem pbsearch_any {w : World} {ao : Option Addr} {cap : Nat} {l : List Pg} {t : Cel} (R : PagesR w ao l) (hl : l.length ≤ 1000000) (hm : ∀ (x y : Nat) (c d : Pg), x ≤ y → l[x]? = some c → l[y]? = some d → d.way t < 0 → c.way t < 0) :
  Calls Tryz.prog 284 #[.slice ao l.length cap, t.val, .func (.func 285) #[] #[]] w fun e w' => (∃ i, SplitPg l t i ∧ e = .returned (.tuple #[.int .i64 i, .bool false])) ∧ Kept (fun _ => False) w w' := by
 obtain ⟨n, hn⟩ : ∃ n, l.length = n := ⟨_, rfl⟩
 have HN := Lib.hid hn
 rw [hn] at hl ⊢
 obtain ⟨tk, ts, tv⟩ := t
 unfold Cel.val
 obtain ⟨g, hg⟩ : ∃ g, w.heap.size = g := ⟨_, rfl⟩
 obtain ⟨W0, hW0⟩ : ∃ W, w.alloc (Obj.cells #[.string tk, .int .i64 ts, .string tv] 132) = W := ⟨_, rfl⟩
 have k0 : Kept (fun _ => False) w W0 := by rw [← hW0]; exact (Kept.refl _ _).alloc _
 have T0 : CelAt W0 g 0 ⟨tk, ts, tv⟩ := by rw [← hW0, ← hg]; exact ⟨by simp [go_sem], by simp [go_sem], by simp [go_sem]⟩
 have K0 := Lib.hid k0
 have TT := Lib.hid T0
 have RR := Lib.hid (R.kept k0)
 have HM := Lib.hid hm
 have CC := Lib.hid (fun (c : Pg) (W : World) (h : c.Ok W) => way_any (W := W) (t := ⟨tk, ts, tv⟩) h)
 unfold Cel.val at CC
 clear R hm hn k0 T0
 go_enter Tryz.func284, Tryz.ntmps284
 go_wp2_with fail
 clear hW0 hg
 go_loopg [9, 10] n (fun gh t9 t10 wr => ∃ (i j : Nat), i ≤ j ∧ j ≤ n ∧ gh = j - i ∧ t9 = .int .i64 i ∧ t10 = .int .i64 j ∧ (∀ (x : Nat) (c : Pg), x < i → l[x]? = some c → c.way ⟨tk, ts, tv⟩ < 0) ∧ (∀ (x : Nat) (c : Pg), j ≤ x → l[x]? = some c → 0 ≤ c.way ⟨tk, ts, tv⟩) ∧ Kept (fun _ => False) W0 wr)
 case atStart => exact ⟨0, n, by omega, by omega, by omega, rfl, rfl, fun x c h => by omega, fun x c h1 h2 => by have := (List.getElem?_eq_some_iff.1 h2).1; have := HN.out; omega, Kept.refl _ _⟩
 case round =>
  obtain ⟨i, j, h1, h2, h3, rfl, rfl, h5, h6, hk⟩ := hrel
  have H3 := Lib.hid h3; have H5 := Lib.hid h5; have H6 := Lib.hid h6; have HK := Lib.hid hk
  clear h3 h5 h6
  by_cases hij : i < j
  ·have i1 : (i : Int) < (j : Int) := by omega
   obtain ⟨h, hh⟩ : ∃ h : Nat, ((i : Int) + (j : Int)) / 2 = (h : Int) := ⟨(i + j) / 2, by omega⟩
   have b1 : i ≤ h := by omega
   have b2 : h < j := by omega
   have hlt : h < l.length := by have := HN.out; omega
   have hne : ¬ l = [] := fun e => by rw [e] at hlt; simp at hlt
   obtain ⟨c, hc⟩ : ∃ c, l[h]? = some c := ⟨_, List.getElem?_eq_getElem hlt⟩
   obtain ⟨gb, o, rfl, hcl⟩ := RR.out.resolve_left hne
   have x0 := hk.cell (hcl h c hc).1 (fun f => f)
   have PO := Lib.hid ((hcl h c hc).2.kept hk)
   obtain ⟨y0, y1, y2⟩ := TT.out.kept hk
   have i2 : (h : Int) < (n : Int) := by omega
   have i3 : (0 : Int) ≤ (h : Int) := by omega
   have i4 : wrap64 ((h : Int) + 1) = ((h + 1 : Nat) : Int) := by unfold wrap64; omega
   have HC := Lib.hid hc
   have BB := Lib.hid (And.intro b1 (And.intro b2 h2))
   obtain ⟨pg, po, pl, pc⟩ := c
   unfold Pg.val at x0
   dsimp only at x0 y0 y1 y2
   have C := Lib.hid (fun (W : World) (K : Kept (fun _ => False) wr W) => CC.out ⟨pg, po, pl, pc⟩ W (PO.out.kept K))
   obtain ⟨r, hr⟩ : ∃ r, Pg.way ⟨pg, po, pl, pc⟩ ⟨tk, ts, tv⟩ = r := ⟨_, rfl⟩
   rw [hr] at C
   have HR := Lib.hid hr
   clear hk hlt hne hcl hc hr b1 b2 h2 hij
   simp only [Nat.zero_add] at y0 y1 y2
   by_cases hneg : r < 0
   ·go_wp2_with fail
    go_region_held3 (fun w' => w'.cell? ⟨gb, o + h, none⟩ = some (.slice (some ⟨pg, po, none⟩) pl.length pc) ∧ w'.cell? ⟨g, 0, none⟩ = some (.string tk) ∧ w'.cell? ⟨g, 1, none⟩ = some (.int .i64 ts) ∧ w'.cell? ⟨g, 2, none⟩ = some (.string tv)) (first | go_keep | (go_split_ands; exact ⟨kk.cell (by assumption) (fun f => f), kk.cell (by assumption) (fun f => f), kk.cell (by assumption) (fun f => f), kk.cell (by assumption) (fun f => f)⟩))
     (first
      | (go_at_call 285; refine (C.out _ (Kept.refl _ _).drew).mono ?_; rintro e w4 ⟨rfl, kk⟩; (have K4 := Lib.hid (HK.out.drew.trans kk (fun _ _ f => f) (fun _ _ f => f) : Kept (fun _ => False) W0 w4))))
    go_wp2_with fail
    go_roundg (j - (h + 1))
    case measure => have := H3.out; have := BB.out; omega
    case rel =>
     refine ⟨h + 1, j, by have := BB.out; omega, BB.out.2.2, rfl, rfl, rfl, fun x d hx hd => ?_, H6.out, K4.out⟩
     exact HM.out x h d _ (by omega) hd HC.out (by rw [HR.out]; exact hneg)
   ·go_wp2_with fail
    go_region_held3 (fun w' => w'.cell? ⟨gb, o + h, none⟩ = some (.slice (some ⟨pg, po, none⟩) pl.length pc) ∧ w'.cell? ⟨g, 0, none⟩ = some (.string tk) ∧ w'.cell? ⟨g, 1, none⟩ = some (.int .i64 ts) ∧ w'.cell? ⟨g, 2, none⟩ = some (.string tv)) (first | go_keep | (go_split_ands; exact ⟨kk.cell (by assumption) (fun f => f), kk.cell (by assumption) (fun f => f), kk.cell (by assumption) (fun f => f), kk.cell (by assumption) (fun f => f)⟩))
     (first
      | (go_at_call 285; refine (C.out _ (Kept.refl _ _).drew).mono ?_; rintro e w4 ⟨rfl, kk⟩; (have K4 := Lib.hid (HK.out.drew.trans kk (fun _ _ f => f) (fun _ _ f => f) : Kept (fun _ => False) W0 w4))))
    go_wp2_with fail
    go_roundg (h - i)
    case measure => have := H3.out; have := BB.out; omega
    case rel =>
     refine ⟨i, h, BB.out.1, by have := BB.out; omega, rfl, rfl, rfl, H5.out, fun x d hx hd => ?_, K4.out⟩
     by_cases hlt : d.way ⟨tk, ts, tv⟩ < 0
     ·have := HM.out h x _ d hx HC.out hd hlt
      rw [HR.out] at this
      omega
     ·omega
  ·have hij2 : i = j := by omega
   subst hij2
   have i1 : ¬ (i : Int) < (i : Int) := by omega
   by_cases hin : i < n
   ·have hlt : i < l.length := by have := HN.out; omega
    have hne : ¬ l = [] := fun e => by rw [e] at hlt; simp at hlt
    obtain ⟨c, hc⟩ : ∃ c, l[i]? = some c := ⟨_, List.getElem?_eq_getElem hlt⟩
    obtain ⟨gb, o, rfl, hcl⟩ := RR.out.resolve_left hne
    have x0 := hk.cell (hcl i c hc).1 (fun f => f)
    have PO := Lib.hid ((hcl i c hc).2.kept hk)
    obtain ⟨y0, y1, y2⟩ := TT.out.kept hk
    have i2 : (i : Int) < (n : Int) := by omega
    have i3 : (0 : Int) ≤ (i : Int) := by omega
    have HC := Lib.hid hc
    have LT := Lib.hid hlt
    obtain ⟨pg, po, pl, pc⟩ := c
    unfold Pg.val at x0
    dsimp only at x0 y0 y1 y2
    have C := Lib.hid (fun (W : World) (K : Kept (fun _ => False) wr W) => CC.out ⟨pg, po, pl, pc⟩ W (PO.out.kept K))
    obtain ⟨r, hr⟩ : ∃ r, Pg.way ⟨pg, po, pl, pc⟩ ⟨tk, ts, tv⟩ = r := ⟨_, rfl⟩
    rw [hr] at C
    have HR := Lib.hid hr
    clear hk hlt hne hcl hc hr h1 h2 hij
    simp only [Nat.zero_add] at y0 y1 y2
    go_wp2_with fail
    go_region_held3 (fun w' => w'.cell? ⟨gb, o + i, none⟩ = some (.slice (some ⟨pg, po, none⟩) pl.length pc) ∧ w'.cell? ⟨g, 0, none⟩ = some (.string tk) ∧ w'.cell? ⟨g, 1, none⟩ = some (.int .i64 ts) ∧ w'.cell? ⟨g, 2, none⟩ = some (.string tv)) (first | go_keep | (go_split_ands; exact ⟨kk.cell (by assumption) (fun f => f), kk.cell (by assumption) (fun f => f), kk.cell (by assumption) (fun f => f), kk.cell (by assumption) (fun f => f)⟩))
     (first
      | (go_at_call 285; refine (C.out _ (Kept.refl _ _).drew).mono ?_; rintro e w4 ⟨rfl, kk⟩; (have K4 := Lib.hid (HK.out.drew.trans kk (fun _ _ f => f) (fun _ _ f => f) : Kept (fun _ => False) W0 w4))))
    go_wp2_with fail
    go_ret2
    have e : (r == 0) = false := by
     have h9 := way_ne ⟨pg, po, pl, pc⟩ ⟨tk, ts, tv⟩
     rw [HR.out] at h9
     simp; omega
    exact ⟨⟨i, ⟨by have := LT.out; omega, H5.out, H6.out⟩, by rw [← e]; rfl⟩, K0.out.trans K4.out (fun _ _ f => f) (fun _ _ f => f)⟩
   ·have i2 : ¬ (i : Int) < (n : Int) := by omega
    have i4 : n ≤ i := by omega
    have HI := Lib.hid hin
    have HI2 := Lib.hid (show i ≤ n from h2)
    clear hk h1 h2 hij hin
    go_wp2_with fail
    refine wp_region_held_drew (S := fun _ => True) (by kernel_rfl) ?_ (fun hHeld => ?_)
    ·exact trivial
    refine tW 0 opAt0 hHeld ?_
    (try simp only [Act.put]); try simp only [z2, List.set]
    refine tW 1 opAt1 hHeld ?_
    (try simp only [Act.put]); try simp only [z2, List.set]
    refine tW 2 opAt2 hHeld ?_
    (try simp only [Act.put]); try simp only [z2, List.set]
    refine tH (v := .bool false) 3 opAt3 ?_ hHeld ?_
    case refine_1 => (intro w hSw; (try dsimp only at hSw); go_simp; all_goals (with_reducible rfl))
    (try simp only [Act.put]); try simp only [z2, List.set]
    refine tH (v := .bool false) 4 opAt4 ?_ hHeld ?_
    case refine_1 => (intro w hSw; (try dsimp only at hSw); go_simp; all_goals (with_reducible rfl))
    (try simp only [Act.put]); try simp only [z2, List.set]
    refine tU 5 opAt5 hHeld ?_
    (try simp only [Act.put]); try simp only [z2, List.set]
    refine tU 6 opAt6 hHeld ?_
    (try simp only [Act.put]); try simp only [z2, List.set]
    refine tU 7 opAt7 hHeld ?_
    (try simp only [Act.put]); try simp only [z2, List.set]
    refine tU 8 opAt8 hHeld ?_
    (try simp only [Act.put]); try simp only [z2, List.set]
    refine tU 9 opAt9 hHeld ?_
    (try simp only [Act.put]); try simp only [z2, List.set]
    refine tU 10 opAt10 hHeld ?_
    (try simp only [Act.put]); try simp only [z2, List.set]
    refine tU 11 opAt11 hHeld ?_
    (try simp only [Act.put]); try simp only [z2, List.set]
    refine tU 12 opAt12 hHeld ?_
    (try simp only [Act.put]); try simp only [z2, List.set]
    refine tH (v := .bool false) 13 opAt13 ?_ hHeld ?_
    case refine_1 => (intro w hSw; (try dsimp only at hSw); go_simp; all_goals (with_reducible rfl))
    (try simp only [Act.put]); try simp only [z2, List.set]
    refine tW 14 opAt14 hHeld ?_
    (try simp only [Act.put]); try simp only [z2, List.set]
    refine tW 15 opAt15 hHeld ?_
    (try simp only [Act.put]); try simp only [z2, List.set]
    refine wpAnyH_done (by kernel_rfl) ?_ _
    go_wp2_with fail
    go_ret2
    exact ⟨⟨i, ⟨by have := HN.out; have := HI2.out; omega, H5.out, H6.out⟩, rfl⟩, K0.out.trans HK.out.drew (fun _ _ f => f) (fun _ _ f => f)⟩
end Go.Proofs.YthknocapablpaaaGreatDoor

/- memory's page: the place of the page in which a cell is, or would be. -/
namespace Go.Proofs.YthknocapablpaaaGreatDoor
open Go.RowKit

set_option maxHeartbeats 2000000 in
set_option maxRecDepth 100000 in
theorem page_any {w : World} {m : Nat} {ao : Option Addr} {cap : Nat} {ps : List Pg} {t : Cel} (hc : w.cell? ⟨m, 1, none⟩ = some (.slice ao ps.length cap)) (R : PagesR w ao ps) (hl : ps.length ≤ 1000000) (hm : ∀ (x y : Nat) (c d : Pg), x ≤ y → ps[x]? = some c → ps[y]? = some d → d.way t < 0 → c.way t < 0) :
  Calls Tryz.prog 204 #[.pointer (some ⟨m, 0, none⟩), t.val] w fun e w' => (∃ i, SplitPg ps t i ∧ e = .returned (.int .i64 ((i - 1 : Nat) : Int))) ∧ Kept (fun _ => False) w w' := by
 have ml : m < w.heap.size := World.block_lt_of_cell? _ _ hc
 obtain ⟨n, hn⟩ : ∃ n, ps.length = n := ⟨_, rfl⟩
 have HN := Lib.hid hn
 have BS := Lib.hid (fun (W : World) (K : Kept (fun _ => False) w W) => pbsearch_any (w := W) (cap := cap) (R.kept K) hl hm)
 rw [hn] at hc hl BS
 have HL := Lib.hid hl
 obtain ⟨tk, ts, tv⟩ := t
 unfold Cel.val at BS ⊢
 obtain ⟨q, hq⟩ : ∃ q, w.heap.size = q := ⟨_, rfl⟩
 obtain ⟨W0, hW0⟩ : ∃ W, w.alloc (Obj.cells #[.string tk, .int .i64 ts, .string tv] 132) = W := ⟨_, rfl⟩
 have k0 : Kept (fun _ => False) w W0 := by rw [← hW0]; exact (Kept.refl _ _).alloc _
 have K0 := Lib.hid k0
 have x0 := k0.cell hc (fun f => f)
 have y0 : W0.cell? ⟨q, 0, none⟩ = some (.string tk) := by rw [← hW0, ← hq]; simp [go_sem]
 have y1 : W0.cell? ⟨q, 1, none⟩ = some (.int .i64 ts) := by rw [← hW0, ← hq]; simp [go_sem]
 have y2 : W0.cell? ⟨q, 2, none⟩ = some (.string tv) := by rw [← hW0, ← hq]; simp [go_sem]
 clear R hm hn k0 hc ml hl
 go_enter Tryz.func204, Tryz.ntmps204
 go_wp2_with fail
 clear hW0 hq
 go_region_held3 (fun w' => w'.cell? ⟨m, 1, none⟩ = some (.slice ao n cap) ∧ w'.cell? ⟨q, 0, none⟩ = some (.string tk) ∧ w'.cell? ⟨q, 1, none⟩ = some (.int .i64 ts) ∧ w'.cell? ⟨q, 2, none⟩ = some (.string tv)) (first | go_keep | (go_split_ands; exact ⟨kk.cell (by assumption) (fun f => f), kk.cell (by assumption) (fun f => f), kk.cell (by assumption) (fun f => f), kk.cell (by assumption) (fun f => f)⟩))
  (first
   | (go_at_call 284; refine (BS.out _ K0.out.drew).mono ?_; rintro e w4 ⟨⟨i, hs, rfl⟩, kk⟩; (have K4 := Lib.hid (K0.out.drew.trans kk (fun _ _ f => f) (fun _ _ f => f) : Kept (fun _ => False) w w4)); (have HS := Lib.hid hs); clear hs))
 have SI := HS.out.1
 have e1 : i ≤ n := by rw [← HN.out]; exact SI
 have e2 : n ≤ 1000000 := HL.out
 clear SI
 cases i with
 | zero =>
  go_wp2_with fail
  go_ret
  exact ⟨⟨0, HS.out, rfl⟩, K4.out⟩
 | succ j =>
  have f1 : wrap64 (j : Int) = (j : Int) := by unfold wrap64; omega
  have f2 : (0 : Int) ≤ (j : Int) := by omega
  have f3 : ¬ (j : Int) < 0 := by omega
  clear e1 e2
  go_wp2_with fail
  go_ret
  exact ⟨⟨j + 1, HS.out, rfl⟩, K4.out⟩
end Go.Proofs.YthknocapablpaaaGreatDoor

/- cells.At, cells.Stretch: where a key's cells begin; a stretch of keys. -/
namespace Go.Proofs.YthknocapablpaaaGreatDoor
open Go.RowKit

/-- On which side of a key a cell is. -/
def kway (c : Cel) (k : ByteArray) : Int := if sLt c.k k = true then -1 else 1
theorem kway_ne (c : Cel) (k : ByteArray) : kway c k = 1 ∨ kway c k = -1 := by
 unfold kway
 split
 ·exact .inr rfl
 ·exact .inl rfl
set_option maxHeartbeats 1000000 in
set_option maxRecDepth 100000 in
theorem at1_any (c : Cel) (k : ByteArray) (w : World) : Calls Tryz.prog 348 #[c.val, .string k] w fun e w' => e = .returned (.int .i64 (kway c k)) ∧ Kept (fun _ => False) w w' := by
 obtain ⟨ck, cs, cv⟩ := c
 unfold Cel.val kway sLt
 cases h : Op.bytesLess ck.toList k.toList
 all_goals
  go_enter Tryz.func348, Tryz.ntmps348
  go_wp2_with fail
  go_ret
  exact ⟨rfl, (Kept.refl _ w).alloc _⟩
/-- Where a key's cells begin. -/
def SplitK (l : List Cel) (k : ByteArray) (i : Nat) : Prop := i ≤ l.length ∧ (∀ (x : Nat) (c : Cel), x < i → l[x]? = some c → kway c k < 0) ∧ (∀ (x : Nat) (c : Cel), i ≤ x → l[x]? = some c → 0 ≤ kway c k)
set_option maxHeartbeats 4000000 in
set_option maxRecDepth 100000 in
theorem sbsearch_any {w : World} {ao : Option Addr} {cap : Nat} {l : List Cel} {k : ByteArray} (R : CelsR w ao l) (hl : l.length ≤ 1000000) (hm : ∀ (x y : Nat) (c d : Cel), x ≤ y → l[x]? = some c → l[y]? = some d → kway d k < 0 → kway c k < 0) :
  Calls Tryz.prog 347 #[.slice ao l.length cap, .string k, .func (.func 348) #[] #[]] w fun e w' => (∃ i, SplitK l k i ∧ e = .returned (.tuple #[.int .i64 i, .bool false])) ∧ Kept (fun _ => False) w w' := by
 obtain ⟨n, hn⟩ : ∃ n, l.length = n := ⟨_, rfl⟩
 have HN := Lib.hid hn
 rw [hn] at hl ⊢
 have RR := Lib.hid R
 have HM := Lib.hid hm
 have CC := Lib.hid (fun (c : Cel) => at1_any c k)
 unfold Cel.val at CC
 clear R hm hn
 go_enter Tryz.func347, Tryz.ntmps347
 go_wp2_with fail
 go_loopg [9, 10] n (fun gh t9 t10 wr => ∃ (i j : Nat), i ≤ j ∧ j ≤ n ∧ gh = j - i ∧ t9 = .int .i64 i ∧ t10 = .int .i64 j ∧ (∀ (x : Nat) (c : Cel), x < i → l[x]? = some c → kway c k < 0) ∧ (∀ (x : Nat) (c : Cel), j ≤ x → l[x]? = some c → 0 ≤ kway c k) ∧ Kept (fun _ => False) w wr)
 case atStart => exact ⟨0, n, by omega, by omega, by omega, rfl, rfl, fun x c h => by omega, fun x c h1 h2 => by have := (List.getElem?_eq_some_iff.1 h2).1; have := HN.out; omega, Kept.refl _ _⟩
 case round =>
  obtain ⟨i, j, h1, h2, h3, rfl, rfl, h5, h6, hk⟩ := hrel
  have H3 := Lib.hid h3; have H5 := Lib.hid h5; have H6 := Lib.hid h6; have HK := Lib.hid hk
  clear h3 h5 h6
  by_cases hij : i < j
  ·have i1 : (i : Int) < (j : Int) := by omega
   obtain ⟨h, hh⟩ : ∃ h : Nat, ((i : Int) + (j : Int)) / 2 = (h : Int) := ⟨(i + j) / 2, by omega⟩
   have b1 : i ≤ h := by omega
   have b2 : h < j := by omega
   have hlt : h < l.length := by have := HN.out; omega
   have hne : ¬ l = [] := fun e => by rw [e] at hlt; simp at hlt
   obtain ⟨c, hc⟩ : ∃ c, l[h]? = some c := ⟨_, List.getElem?_eq_getElem hlt⟩
   obtain ⟨gb, o, rfl, hcl⟩ := RR.out.resolve_left hne
   obtain ⟨x0, x1, x2⟩ := (hcl h c hc).kept hk
   have i2 : (h : Int) < (n : Int) := by omega
   have i3 : (0 : Int) ≤ (h : Int) := by omega
   have i4 : wrap64 ((h : Int) + 1) = ((h + 1 : Nat) : Int) := by unfold wrap64; omega
   have HC := Lib.hid hc
   have BB := Lib.hid (And.intro b1 (And.intro b2 h2))
   obtain ⟨ck, cs, cv⟩ := c
   dsimp only at x0 x1 x2
   have C := Lib.hid (CC.out ⟨ck, cs, cv⟩)
   obtain ⟨r, hr⟩ : ∃ r, kway ⟨ck, cs, cv⟩ k = r := ⟨_, rfl⟩
   rw [hr] at C
   have HR := Lib.hid hr
   clear hk hlt hne hcl hc hr b1 b2 h2 hij
   by_cases hneg : r < 0
   ·go_wp2_with fail
    refine (C.out _).mono ?_
    rintro e w4 ⟨rfl, kk⟩
    have K4 := Lib.hid (HK.out.trans kk (fun _ _ f => f) (fun _ _ f => f) : Kept (fun _ => False) w w4)
    clear kk x0 x1 x2
    go_wp2_with fail
    go_roundg (j - (h + 1))
    case measure => have := H3.out; have := BB.out; omega
    case rel =>
     refine ⟨h + 1, j, by have := BB.out; omega, BB.out.2.2, rfl, rfl, rfl, fun x d hx hd => ?_, H6.out, K4.out⟩
     exact HM.out x h d _ (by omega) hd HC.out (by rw [HR.out]; exact hneg)
   ·go_wp2_with fail
    refine (C.out _).mono ?_
    rintro e w4 ⟨rfl, kk⟩
    have K4 := Lib.hid (HK.out.trans kk (fun _ _ f => f) (fun _ _ f => f) : Kept (fun _ => False) w w4)
    clear kk x0 x1 x2
    go_wp2_with fail
    go_roundg (h - i)
    case measure => have := H3.out; have := BB.out; omega
    case rel =>
     refine ⟨i, h, BB.out.1, by have := BB.out; omega, rfl, rfl, rfl, H5.out, fun x d hx hd => ?_, K4.out⟩
     by_cases hlt : kway d k < 0
     ·have := HM.out h x _ d hx HC.out hd hlt
      rw [HR.out] at this
      omega
     ·omega
  ·have hij2 : i = j := by omega
   subst hij2
   have i1 : ¬ (i : Int) < (i : Int) := by omega
   by_cases hin : i < n
   ·have hlt : i < l.length := by have := HN.out; omega
    have hne : ¬ l = [] := fun e => by rw [e] at hlt; simp at hlt
    obtain ⟨c, hc⟩ : ∃ c, l[i]? = some c := ⟨_, List.getElem?_eq_getElem hlt⟩
    obtain ⟨gb, o, rfl, hcl⟩ := RR.out.resolve_left hne
    obtain ⟨x0, x1, x2⟩ := (hcl i c hc).kept hk
    have i2 : (i : Int) < (n : Int) := by omega
    have i3 : (0 : Int) ≤ (i : Int) := by omega
    have LT := Lib.hid hlt
    obtain ⟨ck, cs, cv⟩ := c
    dsimp only at x0 x1 x2
    have C := Lib.hid (CC.out ⟨ck, cs, cv⟩)
    obtain ⟨r, hr⟩ : ∃ r, kway ⟨ck, cs, cv⟩ k = r := ⟨_, rfl⟩
    rw [hr] at C
    have e : (r == 0) = false := by
     have h9 := kway_ne ⟨ck, cs, cv⟩ k
     rw [hr] at h9
     simp; omega
    have EZ := Lib.hid e
    clear hk hlt hne hcl hc hr h1 h2 hij
    go_wp2_with fail
    refine (C.out _).mono ?_
    rintro e w4 ⟨rfl, kk⟩
    have K4 := Lib.hid (HK.out.trans kk (fun _ _ f => f) (fun _ _ f => f) : Kept (fun _ => False) w w4)
    clear kk x0 x1 x2
    go_wp2_with fail
    go_ret2
    exact ⟨⟨i, ⟨by have := LT.out; omega, H5.out, H6.out⟩, by first | rfl | (rw [← EZ.out]; rfl)⟩, K4.out⟩
   ·have i2 : ¬ (i : Int) < (n : Int) := by omega
    have i4 : n ≤ i := by omega
    have HI2 := Lib.hid (show i ≤ n from h2)
    clear hk h1 h2 hij hin
    go_wp2_with fail
    go_ret2
    exact ⟨⟨i, ⟨by have := HN.out; have := HI2.out; omega, H5.out, H6.out⟩, rfl⟩, HK.out⟩
set_option maxHeartbeats 1000000 in
set_option maxRecDepth 100000 in
theorem at_any {w : World} {ao : Option Addr} {cap : Nat} {l : List Cel} {k : ByteArray} (R : CelsR w ao l) (hl : l.length ≤ 1000000) (hm : ∀ (x y : Nat) (c d : Cel), x ≤ y → l[x]? = some c → l[y]? = some d → kway d k < 0 → kway c k < 0) :
  Calls Tryz.prog 295 #[.slice ao l.length cap, .string k] w fun e w' => (∃ i, SplitK l k i ∧ e = .returned (.int .i64 i)) ∧ Kept (fun _ => False) w w' := by
 have C := Lib.hid (sbsearch_any (cap := cap) R hl hm)
 clear R hl hm
 go_enter Tryz.func295, Tryz.ntmps295
 go_wp2_with fail
 refine C.out.mono ?_
 rintro e w4 ⟨⟨i, hs, rfl⟩, kk⟩
 have HS := Lib.hid hs
 have KK := Lib.hid kk
 clear hs kk
 go_wp2_with fail
 go_ret
 exact ⟨⟨i, HS.out, rfl⟩, KK.out⟩
/-- A stretch of keys, from one on, ahead of another one (none: to the end). -/
def StretchK (l : List Cel) (a b : ByteArray) (i j : Nat) : Prop := SplitK l a i ∧ ((b = ⟨#[]⟩ ∧ j = l.length) ∨ (b ≠ ⟨#[]⟩ ∧ ∃ q, SplitK l b q ∧ j = max i q))
set_option maxHeartbeats 2000000 in
set_option maxRecDepth 100000 in
theorem stretch_any {w : World} {ao : Option Addr} {cap : Nat} {l : List Cel} {a b : ByteArray} (R : CelsR w ao l) (hl : l.length ≤ 1000000) (hm : ∀ (k : ByteArray) (x y : Nat) (c d : Cel), x ≤ y → l[x]? = some c → l[y]? = some d → kway d k < 0 → kway c k < 0) :
  Calls Tryz.prog 212 #[.slice ao l.length cap, .string a, .string b] w fun e w' => (∃ i j, StretchK l a b i j ∧ e = .returned (.tuple #[.int .i64 (i : Nat), .int .i64 (j : Nat)])) ∧ Kept (fun _ => False) w w' := by
 have C := Lib.hid (fun (k : ByteArray) (W : World) (K : Kept (fun _ => False) w W) => at_any (w := W) (cap := cap) (k := k) (R.kept K) hl (hm k))
 obtain ⟨n, hn⟩ : ∃ n, l.length = n := ⟨_, rfl⟩
 have HN := Lib.hid hn
 rw [hn] at hl C ⊢
 have HL := Lib.hid hl
 clear R hl hm hn
 by_cases hb : b = ⟨#[]⟩
 ·subst hb
  go_enter Tryz.func212, Tryz.ntmps212
  go_wp2_with fail
  refine (C.out a _ (Kept.refl _ _)).mono ?_
  rintro e w4 ⟨⟨i, hs, rfl⟩, kk⟩
  have HS := Lib.hid hs
  have KK := Lib.hid kk
  clear hs kk
  go_wp2_with fail
  go_ret2
  exact ⟨⟨i, n, ⟨HS.out, .inl ⟨rfl, HN.out.symm⟩⟩, rfl⟩, KK.out⟩
 ·have f1 : (b.toList == []) = false := by simpa [ByteArray.toList_eq] using neB hb
  have HB := Lib.hid hb
  clear hb
  go_enter Tryz.func212, Tryz.ntmps212
  go_wp2_with fail
  refine (C.out a _ (Kept.refl _ _)).mono ?_
  rintro e w4 ⟨⟨i, hs, rfl⟩, kk⟩
  have HS := Lib.hid hs
  have KK := Lib.hid kk
  clear hs kk
  go_wp2_with fail
  refine (C.out b _ KK.out).mono ?_
  rintro e w5 ⟨⟨q, hs, rfl⟩, kk⟩
  have HQ := Lib.hid hs
  have K5 := Lib.hid (KK.out.trans kk (fun _ _ f => f) (fun _ _ f => f) : Kept (fun _ => False) w w5)
  clear hs kk
  by_cases hiq : i ≤ q
  ·have f2 : (i : Int) ≤ (q : Int) := by omega
   have M := Lib.hid (show q = max i q by omega)
   by_cases hqi : q ≤ i
   ·have e : i = q := by omega
    subst e
    clear hiq hqi
    go_wp2_with fail
    go_ret2
    exact ⟨⟨i, i, ⟨HS.out, .inr ⟨HB.out, i, HQ.out, by simp⟩⟩, rfl⟩, K5.out⟩
   ·have f3 : ¬ (q : Int) ≤ (i : Int) := by omega
    have f4 : (i : Int) < (q : Int) := by omega
    clear hiq hqi
    go_wp2_with fail
    all_goals go_ret2
    all_goals exact ⟨⟨i, q, ⟨HS.out, .inr ⟨HB.out, q, HQ.out, M.out⟩⟩, rfl⟩, K5.out⟩
  ·have f2 : (q : Int) < (i : Int) := by omega
   have M := Lib.hid (show i = max i q by omega)
   clear hiq
   go_wp2_with fail
   all_goals go_ret2
   all_goals exact ⟨⟨i, i, ⟨HS.out, .inr ⟨HB.out, q, HQ.out, M.out⟩⟩, rfl⟩, K5.out⟩
end Go.Proofs.YthknocapablpaaaGreatDoor

/- memory's Range: the cells of a stretch of keys. -/
namespace Go.Proofs.YthknocapablpaaaGreatDoor
open Go.RowKit

/-- Does a cell's key lie in a stretch? -/
def inK (a b : ByteArray) (c : Cel) : Bool := decide (0 ≤ kway c a) && (decide (b = ⟨#[]⟩) || decide (kway c b < 0))
theorem filter_split : ∀ (l : List Cel) (P : Cel → Bool) (i j : Nat), i ≤ j → (∀ (x : Nat) (c : Cel), l[x]? = some c → (P c = true ↔ i ≤ x ∧ x < j)) → (l.drop i).take (j - i) = l.filter P
 | [], P, i, j, _, _ => by simp
 | c :: l, P, i, j, hij, h => by
  have h0 := h 0 c rfl
  have ht := fun (i' j' : Nat) (hij' : i' ≤ j') (h' : ∀ (x : Nat) (d : Cel), l[x]? = some d → (P d = true ↔ i' ≤ x ∧ x < j')) => filter_split l P i' j' hij' h'
  cases i with
  | zero =>
   cases j with
   | zero =>
    have hf : ¬ P c = true := fun e => by have := h0.1 e; omega
    have := ht 0 0 (Nat.le_refl _) (fun x d hd => by have := h (x + 1) d (by simpa using hd); constructor; · intro e; have := this.1 e; omega
                                                     ·intro e; omega)
    simp [hf] at this ⊢
    intro d hd
    exact this d hd
   | succ j =>
    have hp : P c = true := h0.2 ⟨Nat.le_refl _, by omega⟩
    have := ht 0 j (Nat.zero_le _) (fun x d hd => by have := h (x + 1) d (by simpa using hd); constructor; · intro e; have := this.1 e; omega
                                                     ·intro e; exact this.2 ⟨by omega, by omega⟩)
    simp [hp] at this ⊢
    exact this
  | succ i =>
   have hf : ¬ P c = true := fun e => by have := h0.1 e; omega
   cases j with
   | zero => omega
   | succ j =>
    have := ht i j (by omega) (fun x d hd => by have := h (x + 1) d (by simpa using hd); constructor; · intro e; have := this.1 e; omega
                                                ·intro e; exact this.2 ⟨by omega, by omega⟩)
    simp [hf]
    exact this
theorem stretch_le {l : List Cel} {a b : ByteArray} {i j : Nat} (h : StretchK l a b i j) : i ≤ j ∧ j ≤ l.length := by
 obtain ⟨h1, h2⟩ := h
 have := h1.1
 rcases h2 with ⟨_, rfl⟩ | ⟨_, q, hq, rfl⟩
 ·exact ⟨this, Nat.le_refl _⟩
 ·have := hq.1
  omega
theorem stretch_eq {l : List Cel} {a b : ByteArray} {i j : Nat} (h : StretchK l a b i j) : (l.drop i).take (j - i) = l.filter (inK a b) := by
 refine filter_split l _ i j (stretch_le h).1 (fun x c hc => ?_)
 obtain ⟨⟨_, h1, h2⟩, h3⟩ := h
 have hx := (List.getElem?_eq_some_iff.1 hc).1
 unfold inK
 simp only [Bool.and_eq_true, Bool.or_eq_true, decide_eq_true_eq]
 constructor
 ·rintro ⟨e1, e2⟩
  have hi : i ≤ x := by
   by_cases hlt : x < i
   ·have := h1 x c hlt hc; omega
   ·omega
  refine ⟨hi, ?_⟩
  rcases h3 with ⟨_, rfl⟩ | ⟨hb, q, ⟨_, g1, g2⟩, rfl⟩
  ·exact hx
  ·have e3 := e2.resolve_left hb
   have : x < q := by
    by_cases hq : q ≤ x
    ·have := g2 x c hq hc; omega
    ·omega
   omega
 ·rintro ⟨e1, e2⟩
  refine ⟨h2 x c e1 hc, ?_⟩
  rcases h3 with ⟨hb, _⟩ | ⟨hb, q, ⟨_, g1, g2⟩, rfl⟩
  ·exact .inl hb
  ·exact .inr (g1 x c (by omega) hc)
/-- Cells, laid out. -/
def cellsC : List Cel → List Value
 | [] => []
 | c :: t => [.string c.k, .int .i64 c.s, .string c.v] ++ cellsC t
theorem cellsC_length : ∀ l, (cellsC l).length = l.length * 3
 | [] => rfl
 | c :: t => by simp [cellsC, cellsC_length t]; omega
theorem cellsC_append : ∀ a b, cellsC (a ++ b) = cellsC a ++ cellsC b
 | [], _ => rfl
 | c :: t, b => by simp [cellsC, cellsC_append t b]
theorem cellsC_one : ∀ (l : List Cel), ∀ u ∈ cellsC l, u.oneCell' = true
 | [], u, h => by simp [cellsC] at h
 | c :: t, u, h => by
  rcases List.mem_append.1 h with h | h
  ·simp at h
   rcases h with rfl | rfl | rfl <;> rfl
  ·exact cellsC_one t u h
theorem cellsC_at {w : World} {g : Nat} : ∀ (l : List Cel) (o : Nat), (∀ (x : Nat) (c : Cel), l[x]? = some c → CelAt w g (o + x * 3) c) → ∀ (j : Nat) (u : Value), (cellsC l)[j]? = some u → w.cell? ⟨g, o + j, none⟩ = some u
 | [], o, _, j, u, hu => by simp [cellsC] at hu
 | c :: t, o, h, j, u, hu => by
  have h0 := h 0 c rfl
  rw [Nat.zero_mul, Nat.add_zero] at h0
  match j, hu with
  | 0, hu => simp [cellsC] at hu; subst hu; exact h0.1
  | 1, hu => simp [cellsC] at hu; subst hu; exact h0.2.1
  | 2, hu => simp [cellsC] at hu; subst hu; exact h0.2.2
  | j + 3, hu =>
   have := cellsC_at t (o + 3) (fun x d hd => by
    have := h (x + 1) d (by simpa using hd)
    rwa [show o + (x + 1) * 3 = o + 3 + x * 3 by omega] at this) j u (by simpa [cellsC] using hu)
   rwa [show o + 3 + j = o + (j + 3) by omega] at this
theorem info_132 : ∃ i, Tryz.prog.info? 132 = some i ∧ i.zero = some (.agg #[.string ⟨#[]⟩, .int .i64 0, .string ⟨#[]⟩]) ∧ i.size = 3 ∧ i.bytes = 40 := by
 have h : (Tryz.prog.info? 132).map (fun i => (i.zero, i.size, i.bytes)) = some (some (.agg #[.string ⟨#[]⟩, .int .i64 0, .string ⟨#[]⟩]), 3, 40) := by kernel_rfl
 cases hi : Tryz.prog.info? 132 with
 | none => rw [hi] at h; simp at h
 | some i =>
  rw [hi] at h
  simp at h
  exact ⟨i, rfl, h.1, h.2.1, h.2.2⟩
theorem cut_page (g o n cap x y : Nat) (h1 : x ≤ y) (h2 : y ≤ cap) : ∃ q, (x < y → q = o + x * 3) ∧ ∀ W, (Instr.slice 305 (.slice (some ⟨g, o, none⟩) n cap) (some (.int .i64 (x : Nat))) (some (.int .i64 (y : Nat))) none).run Tryz.prog W = .ok (.slice (some ⟨g, q, none⟩) (y - x) (cap - x)) W := by
 have i1 : (x : Int) ≤ (y : Int) := by omega
 have i2 : (y : Int) ≤ (cap : Int) := by omega
 have i3 : (0 : Int) ≤ (x : Int) := by omega
 have i4 : (0 : Int) ≤ (y : Int) := by omega
 by_cases h : cap = x
 ·have : y = x := by omega
  subst this; subst h
  exact ⟨o, fun e => by omega, fun W => by simp [go_sem]⟩
 ·exact ⟨o + x * 3, fun _ => rfl, fun W => by simp [go_sem, h, i1, i2, i3, i4, h1, h2]⟩
end Go.Proofs.YthknocapablpaaaGreatDoor

/- memory's Range, walked. -/
namespace Go.Proofs.YthknocapablpaaaGreatDoor
open Go.RowKit

theorem ownr_kept {S : Nat → Prop} {w w' : World} {base e size : Nat} {v : Value} {n : Nat} {xs : List Value} (h : w.ownsRow base e size v n xs) (hK : Kept S w w') (hv : ∀ b, v.ownBlock = some b → ¬ S b) : w'.ownsRow base e size v n xs := by
 obtain ⟨h1, h2⟩ := h
 refine ⟨h1, ?_⟩
 rcases h2 with h2 | ⟨g, cap, cur, rfl, hb, hg, rest⟩
 ·exact .inl h2
 ·exact .inr ⟨g, cap, cur, rfl, hb, (hK.block g (Array.getElem?_eq_some_iff.1 hg).1 (hv g rfl)).trans hg, rest⟩
theorem ownr_from {w : World} {base e size : Nat} {v : Value} {n : Nat} {xs : List Value} (h : w.ownsRow base e size v n xs) {q : Nat} (hq : v.ownBlock = some q) : base ≤ q := by
 rcases h.2 with ⟨rfl, _⟩ | ⟨g, cap, cur, rfl, hb, _⟩
 ·cases hq
 ·cases hq; exact hb
theorem append_types {t u e : TypeId} (ht : Tryz.prog.underlying t = some (.slice e)) (hu : Tryz.prog.underlying u = some (.slice e)) {ty : TypeId} {a b : Option Addr} {n c n' c' : Nat} {w : World} : (Builtin.append_ #[t, u] ty #[.slice a n c, .slice b n' c']).run Tryz.prog w = (Builtin.append_ #[t, t] ty #[.slice a n c, .slice b n' c']).run Tryz.prog w := by
 simp [Builtin.append_, run_underlying ht, run_underlying hu]
theorem append_own_types {t u e : TypeId} (ht : Tryz.prog.underlying t = some (.slice e)) (hu : Tryz.prog.underlying u = some (.slice e)) {ty : TypeId} {b : Option Addr} {n' c' : Nat} {w w1 : World} {base f size : Nat} {v : Value} {n : Nat} {xs : List Value} (h : w1.ownsRow base f size v n xs) : (Builtin.append_ #[t, u] ty #[v, .slice b n' c']).run Tryz.prog w = (Builtin.append_ #[t, t] ty #[v, .slice b n' c']).run Tryz.prog w := by
 rcases h.2 with ⟨rfl, _⟩ | ⟨g, cap, cur, rfl, _⟩ <;> exact append_types ht hu
/-- All cells of pages. -/
def allP (ps : List Pg) : List Cel := ps.flatMap (·.l)
theorem allP_snoc (ps : List Pg) (p : Pg) : allP (ps ++ [p]) = allP ps ++ p.l := by simp [allP]
theorem allP_len : ∀ (ps : List Pg), (∀ p ∈ ps, p.l.length ≤ 1000) → (allP ps).length ≤ ps.length * 1000
 | [], _ => by simp [allP]
 | p :: ps, h => by
  have h1 := h p (by simp)
  have h2 := allP_len ps (fun q hq => h q (by simp [hq]))
  simp [allP] at h2 ⊢
  omega
/-- Pages that are as they should be. -/
def PgsOk (ps : List Pg) : Prop := ∀ p ∈ ps, p.l.length ≤ p.cap ∧ p.l.length ≤ 1000 ∧ ∀ (k : ByteArray) (x y : Nat) (c d : Cel), x ≤ y → p.l[x]? = some c → p.l[y]? = some d → kway d k < 0 → kway c k < 0
set_option maxHeartbeats 4000000 in
set_option maxRecDepth 100000 in
theorem mrange_any {w : World} {m : Nat} {ao : Option Addr} {cap : Nat} {ps : List Pg} {a b : ByteArray} (hc : w.cell? ⟨m, 1, none⟩ = some (.slice ao ps.length cap)) (R : PagesR w ao ps) (ok : PgsOk ps) (hl : ps.length ≤ 100000) :
  Calls Tryz.prog 131 #[.pointer (some ⟨m, 0, none⟩), .string a, .string b] w fun e w' => (∃ v, e = .returned v ∧ w'.ownsRow w.heap.size 132 3 v ((allP ps).filter (inK a b)).length (cellsC ((allP ps).filter (inK a b)))) ∧ Kept (fun _ => False) w w' := by
 obtain ⟨i0, hi0, z0, s0, b0⟩ := info_132
 have RR := Lib.hid R
 have OK := Lib.hid ok
 obtain ⟨n, hn⟩ : ∃ n, ps.length = n := ⟨_, rfl⟩
 have HN := Lib.hid hn
 rw [hn] at hc hl
 have HL := Lib.hid hl
 clear R ok hn
 go_enter Tryz.func131, Tryz.ntmps131
 go_wp2_with fail
 clear hc
 go_loopg [7, 19] n (fun gh t7 t19 wr => ∃ i : Nat, i + gh = n ∧ t19 = .int .i64 i ∧ wr.ownsRow w.heap.size 132 3 t7 ((allP (ps.take i)).filter (inK a b)).length (cellsC ((allP (ps.take i)).filter (inK a b))) ∧ Kept (fun _ => False) w wr)
 case atStart => exact ⟨0, by omega, rfl, World.ownsRow_nil _ _ _ _, Kept.refl _ _⟩
 case round =>
  obtain ⟨i, hgh, rfl, hown, hk⟩ := hrel
  have HK := Lib.hid hk
  cases gk with
  | zero =>
   have hi : i = n := by omega
   subst hi
   have F := Lib.hid hown
   have T := Lib.hid (show ps.take i = ps from by rw [← HN.out, List.take_length])
   clear hgh hown hk
   go_wp2_with fail
   go_ret
   refine ⟨⟨_, rfl, ?_⟩, HK.out⟩
   have := F.out
   rwa [T.out] at this
  | succ gk =>
   have hi : i < ps.length := by have := HN.out; omega
   have hne : ¬ ps = [] := fun e => by rw [e] at hi; simp at hi
   obtain ⟨p, hp⟩ : ∃ p, ps[i]? = some p := ⟨_, List.getElem?_eq_getElem hi⟩
   obtain ⟨g, o, rfl, hpc⟩ := RR.out.resolve_left hne
   have c0 := hk.cell (hpc i p hp).1 (fun f => f)
   have POK := Lib.hid ((hpc i p hp).2.kept hk)
   have PP := Lib.hid (OK.out p (List.mem_of_getElem? hp))
   have i1 : ((i : Nat) : Int) < (n : Int) := by have := HN.out; omega
   have i2 : (0 : Int) ≤ (i : Int) := by omega
   have i3 : wrap64 ((i : Int) + 1) = ((i + 1 : Nat) : Int) := by have := HL.out; unfold wrap64; omega
   have GH := Lib.hid hgh
   have HT := Lib.hid (show ps.take (i + 1) = ps.take i ++ [p] from by rw [List.take_add_one, hp]; rfl)
   have VL := Lib.hid (show ((allP (ps.take i)).filter (inK a b)).length ≤ 100000000 from by
    have h1 := List.length_filter_le (inK a b) (allP (ps.take i))
    have h2 := allP_len (ps.take i) (fun q hq => (OK.out q (List.mem_of_mem_take hq)).2.1)
    rw [List.length_take] at h2
    have := HL.out
    omega)
   obtain ⟨V, hV⟩ : ∃ V, (allP (ps.take i)).filter (inK a b) = V := ⟨_, rfl⟩
   have HV := Lib.hid hV
   rw [hV] at hown VL
   obtain ⟨vn, hvn⟩ : ∃ x, V.length = x := ⟨_, rfl⟩
   have HVN := Lib.hid hvn
   rw [hvn] at hown VL
   have OW := Lib.hid hown
   obtain ⟨pg, po, pl, pc⟩ := p
   have C := Lib.hid (fun (W : World) (K : Kept (fun _ => False) wr W) => stretch_any (w := W) (ao := some ⟨pg, po, none⟩) (cap := pc) (l := pl) (a := a) (b := b) (.inr ⟨pg, po, rfl, fun x c hxc => (POK.out.2 x c hxc).kept K⟩) (by have := PP.out.2.1; (try dsimp only at this); omega) PP.out.2.2)
   unfold Pg.val at c0
   clear hgh hk hi hne hp hpc hown hV hvn
   go_wp2_with fail
   refine (C.out _ (Kept.refl _ _)).mono ?_
   rintro e w4 ⟨⟨x, y, hst, rfl⟩, kk⟩
   have hle := stretch_le hst
   have hcp := PP.out.1
   (try dsimp only at hcp)
   obtain ⟨q, hq, hcut⟩ := cut_page pg po pl.length pc x y hle.1 (by omega)
   have SE := Lib.hid (stretch_eq hst)
   have K4 := Lib.hid (HK.out.trans kk (fun _ _ f => f) (fun _ _ f => f) : Kept (fun _ => False) w w4)
   have O4 := Lib.hid (ownr_kept OW.out kk (fun _ _ f => f))
   have NW := Lib.hid (show ∀ j u, (cellsC ((pl.drop x).take (y - x)))[j]? = some u → w4.cell? ((⟨pg, q, none⟩ : Addr).add j) = some u from fun j u hu => by
    rw [add_mid]
    have hlt : x < y := by
     by_cases e : x < y
     ·exact e
     ·rw [show y - x = 0 by omega] at hu
      simp [cellsC] at hu
    rw [hq hlt]
    refine cellsC_at ((pl.drop x).take (y - x)) (po + x * 3) (fun z c hz => ?_) j u hu
    rw [List.getElem?_take] at hz
    split at hz
    ·rw [List.getElem?_drop] at hz
     have := (POK.out.2 (x + z) c hz).kept kk
     rwa [show po + (x + z) * 3 = po + x * 3 + z * 3 by omega] at this
    ·cases hz)
   have LE := Lib.hid (show ((pl.drop x).take (y - x)).length = y - x from by rw [List.length_take, List.length_drop]; omega)
   have PL := Lib.hid (show y - x ≤ 1000 from by have := PP.out.2.1; (try dsimp only at this); omega)
   obtain ⟨d, hd⟩ : ∃ d, y - x = d := ⟨_, rfl⟩
   rw [hd] at hcut NW LE PL SE
   clear hst hle hcp hq kk hd c0
   obtain ⟨v', w5, hrun, hown, hgrow, _⟩ := run_append_own_at (P := Tryz.prog) w4 w.heap.size 65 65 132 i0 _ 3 40 Tryz.underlying65 hi0 z0 s0 b0 rfl (by decide) _ vn _ O4.out ⟨pg, q, none⟩ d (pc - x) (cellsC ((pl.drop x).take d)) (by rw [cellsC_length, LE.out]) NW.out (cellsC_one _) (by have := VL.out; have := PL.out; unfold maxLen; omega) (by have := VL.out; have := PL.out; omega) K4.out.size
   rw [← append_own_types Tryz.underlying65 Tryz.underlying305 O4.out] at hrun
   have HR := Lib.hid hrun
   have K6 := Lib.hid (K4.out.grown hgrow (fun k hk hlt => by have := ownr_from O4.out hk; omega))
   have O6 := Lib.hid hown
   clear hown hgrow hrun
   go_wp2_with (at_builtin; refine Lib.wpList_append_run _ rfl _ _ _ _ rfl _ _ rfl rfl _ _ HR.out ?_)
   go_wp2_with fail
   go_roundg gk
   case measure => omega
   case rel =>
    refine ⟨i + 1, by have := GH.out; omega, rfl, ?_, K6.out⟩
    have := O6.out
    rw [HT.out, allP_snoc, List.filter_append, HV.out, ← SE.out, List.length_append, cellsC_append, HVN.out, LE.out]
    exact this
end Go.Proofs.YthknocapablpaaaGreatDoor

/- The order of cells: plain laws. -/
namespace Go.Proofs.YthknocapablpaaaGreatDoor
open Go.RowKit

theorem bytes_eq {x y : ByteArray} (h : x.toList = y.toList) : x = y := by
 rw [ByteArray.toList_eq, ByteArray.toList_eq] at h
 exact ByteArray.ext (Array.ext' h)
structure IsCmp {α : Type} (c : α → α → Int) : Prop where
 anti : ∀ a b, c a b < 0 ↔ 0 < c b a
 tr : ∀ a b d, c a b ≤ 0 → c b d ≤ 0 → c a d ≤ 0

theorem IsCmp.zero {α : Type} {c : α → α → Int} (h : IsCmp c) (a b : α) : c a b = 0 ↔ c b a = 0 := by
 have h1 := h.anti a b
 have h2 := h.anti b a
 constructor <;> intro e <;> omega
theorem IsCmp.le {α : Type} {c : α → α → Int} (h : IsCmp c) (a b : α) : c a b ≤ 0 ↔ 0 ≤ c b a := by
 have h2 := h.anti b a
 omega
theorem IsCmp.lt_le {α : Type} {c : α → α → Int} (h : IsCmp c) {a b d : α} (h1 : c a b < 0) (h2 : c b d ≤ 0) : c a d < 0 := by
 have h3 := h.tr a b d (by omega) h2
 by_cases e : c a d = 0
 ·have e2 := (h.zero a d).1 e
  have h4 := h.tr b d a h2 (by omega)
  have h5 := (h.anti a b).1 h1
  omega
 ·omega
theorem IsCmp.le_lt {α : Type} {c : α → α → Int} (h : IsCmp c) {a b d : α} (h1 : c a b ≤ 0) (h2 : c b d < 0) : c a d < 0 := by
 have h3 := h.tr a b d h1 (by omega)
 by_cases e : c a d = 0
 ·have e2 := (h.zero a d).1 e
  have h4 := h.tr d a b (by omega) h1
  have h5 := (h.anti b d).1 h2
  omega
 ·omega
theorem IsCmp.or {α : Type} {c d : α → α → Int} (h : IsCmp c) (k : IsCmp d) : IsCmp (fun a b => or2 (c a b) (d a b)) := by
 refine ⟨fun a b => ?_, fun a b e => ?_⟩
 ·have h1 := h.anti a b; have h2 := h.anti b a; have h3 := h.zero a b; have h4 := k.anti a b
  simp only [or2]
  split <;> split <;> omega
 ·intro h1 h2
  simp only [or2] at *
  by_cases e1 : c a b = 0
  ·rw [if_pos e1] at h1
   by_cases e2 : c b e = 0
   ·rw [if_pos e2] at h2
    have e3 : c a e = 0 := by
     have q1 := h.tr a b e (by omega) (by omega)
     have q2 := h.tr e b a (by have := (h.zero b e).1 e2; omega) (by have := (h.zero a b).1 e1; omega)
     have q3 := (h.le e a).1 q2
     omega
    rw [if_pos e3]; exact k.tr _ _ _ h1 h2
   ·rw [if_neg e2] at h2
    have := h.le_lt (a := a) (b := b) (d := e) (by omega) (by omega)
    rw [if_neg (by omega)]; omega
  ·rw [if_neg e1] at h1
   by_cases e2 : c b e = 0
   ·have := h.lt_le (a := a) (b := b) (d := e) (by omega) (by omega)
    rw [if_neg (by omega)]; omega
   ·rw [if_neg e2] at h2
    have := h.lt_le (a := a) (b := b) (d := e) (by omega) (by omega)
    rw [if_neg (by omega)]; omega

theorem cmpI_is : IsCmp cmpI := by
 refine ⟨fun a b => ?_, fun a b d => ?_⟩
 ·simp only [cmpI]; repeat' split
  all_goals omega
 ·simp only [cmpI]; repeat' split
  all_goals omega
theorem cmpI_zero (a b : Int) : cmpI a b = 0 ↔ a = b := by
 simp only [cmpI]; repeat' split
 all_goals omega

theorem sLt_iff (x y : ByteArray) : sLt x y = true ↔ x.toList < y.toList := by
 unfold sLt; rw [bytesLess_eq]; simp
theorem sEq_iff (x y : ByteArray) : sEq x y = true ↔ x.toList = y.toList := by unfold sEq; simp
theorem cmpS_lt (x y : ByteArray) : cmpS x y < 0 ↔ x.toList < y.toList := by
 rw [← sLt_iff]; unfold cmpS
 cases h : sLt x y
 ·cases sEq x y <;> simp
 ·simp
theorem cmpS_zero (x y : ByteArray) : cmpS x y = 0 ↔ x = y := by
 unfold cmpS
 cases h : sLt x y with
 | true =>
  simp
  rintro rfl
  have := (sLt_iff x x).1 h
  exact absurd this (List.lt_irrefl _)
 | false =>
  cases h2 : sEq x y with
  | true => simp; exact bytes_eq ((sEq_iff x y).1 h2)
  | false =>
   simp
   rintro rfl
   rw [(sEq_iff x x).2 rfl] at h2; cases h2
theorem cmpS_gt (x y : ByteArray) : 0 < cmpS x y ↔ y.toList < x.toList := by
 have h1 := cmpS_lt x y
 have h0 := cmpS_zero x y
 have h3 : cmpS x y = -1 ∨ cmpS x y = 0 ∨ cmpS x y = 1 := by
  unfold cmpS; split
  ·exact .inl rfl
  ·split
   ·exact .inr (.inl rfl)
   ·exact .inr (.inr rfl)
 constructor
 ·intro h
  have n1 : ¬ x.toList < y.toList := fun f => by have := h1.2 f; omega
  have n2 : ¬ x.toList = y.toList := fun f => by have := h0.2 (bytes_eq f); omega
  have n3 : y.toList ≤ x.toList := List.not_lt.1 n1
  rcases List.le_iff_lt_or_eq.1 n3 with f | f
  ·exact f
  ·exact absurd f.symm n2
 ·intro h
  rcases h3 with e | e | e
  ·have := h1.1 (by omega)
   exact absurd this (List.lt_asymm h)
  ·have := h0.1 e
   subst this; exact absurd h (List.lt_irrefl _)
  ·omega
theorem cmpS_is : IsCmp cmpS := by
 refine ⟨fun a b => by rw [cmpS_lt, cmpS_gt], fun a b d h1 h2 => ?_⟩
 have n1 : ¬ b.toList < a.toList := fun f => by have := (cmpS_gt a b).2 f; omega
 have n2 : ¬ d.toList < b.toList := fun f => by have := (cmpS_gt b d).2 f; omega
 have n3 : a.toList ≤ d.toList := List.le_trans (List.not_lt.1 n1) (List.not_lt.1 n2)
 have n4 : ¬ 0 < cmpS a d := fun f => absurd ((cmpS_gt a d).1 f) (List.not_lt.2 n3)
 omega
theorem IsCmp.on {α β : Type} {c : β → β → Int} (h : IsCmp c) (f : α → β) : IsCmp (fun a b => c (f a) (f b)) := ⟨fun _ _ => h.anti _ _, fun _ _ _ => h.tr _ _ _⟩
theorem IsCmp.flip {α : Type} {c : α → α → Int} (h : IsCmp c) : IsCmp (fun a b => c b a) := ⟨fun _ _ => h.anti _ _, fun _ _ _ h1 h2 => h.tr _ _ _ h2 h1⟩
theorem cmpC_is : IsCmp cmpC := ((cmpS_is.on Cel.k).or ((cmpI_is.on Cel.s).flip))
theorem cmpC_zero (a b : Cel) : cmpC a b = 0 ↔ a.k = b.k ∧ a.s = b.s := by
 unfold cmpC or2
 have h1 := cmpS_zero a.k b.k
 have h2 := cmpI_zero b.s a.s
 split
 ·rename_i h; rw [h2]; constructor
  ·intro e; exact ⟨h1.1 h, e.symm⟩
  ·intro e; exact e.2.symm
 ·rename_i h; constructor
  ·intro e; exact absurd e h
  ·intro e; exact absurd (h1.2 e.1) h
end Go.Proofs.YthknocapablpaaaGreatDoor

