/- 'for c := range i.each() { .. }': the statement, its body walked once. -/
import Derived.Test.YtjidldbolbjdpaaIter
import Derived.RangeFuncWrites
namespace Go.Proofs.Ytjidldbolbjdpaa
open Go.RowKit

theorem kept_obj (W : World) (l : Nat) (o : Obj) : Kept (fun b => l = b) W (W.putObj l o) :=
  ⟨rfl, rfl, rfl, by simp, fun _ _ hk => World.putObj_heap_other (fun e => hk e.symm)⟩

/-- What the caller keeps: I of the blocks T. -/
structure Mine (I : (Nat → Prop) → List Spn → World → Prop) : Prop where
  kept : ∀ T pre S W W', I T pre W → Kept S W W' → (∀ b, T b → ¬ S b) → I T pre W'
  lt : ∀ T pre W, I T pre W → ∀ b, T b → b < W.heap.size

/-- With the loop's record and the block for its deferred calls. -/
def withRec (I : (Nat → Prop) → List Spn → World → Prop) (L D : Nat) (rec : LoopState → Option Code → Loop) (T : Nat → Prop) (pre : List Spn) (W : World) : Prop :=
  ∃ TI, (∀ b, T b ↔ (TI b ∨ b = L ∨ b = D)) ∧ I TI pre W ∧ W.heap[L]? = some (.loop (rec .ready none)) ∧ W.heap[D]? = some (.deferred (some [])) ∧ ¬ TI L ∧ ¬ TI D

def bodyEnd (I : (Nat → Prop) → List Spn → World → Prop) (T : Nat → Prop) (pre : List Spn) (W : World) : Exit → Act → World → Prop
  | .normal, _, W' => ∃ T', I T' pre W' ∧ Kept T W W' ∧ ∀ b, b < W.heap.size → T' b → T b
  | _, _, _ => False

theorem caller_of {I : (Nat → Prop) → List Spn → World → Prop} (hI : Mine I) {fn : FuncId} {tm : Array Value} {ps : Array Tmp} {assign body : Code} {D L N m : Nat} (hLD : L ≠ D) (hps : ps.size = 1) (a₁ : Spn → Nat → Act) {AT : World → Nat → Spn → Prop} (hAT : ∀ S W W' b x, AT W b x → Kept S W W' → ¬ S b → AT W' b x)
    (hassign : ∀ (l : Nat) (x : Spn) (W : World) (K : Act → World → Prop), (∀ W2 b, Kept (fun _ => False) W W2 → AT W2 b x → W.heap.size ≤ b → K (a₁ x b) W2) →
      assign.wpIn (Fence.wide.inRound l) m Try.prog (Exit.then K (fun _ _ _ => False)) { tmps := (ps.zip #[(aggS x)]).foldl (fun t (p, v) => t.setIfInBounds p v) tm, defers := [] } W)
    (hbody : ∀ (l : Nat) (T : Nat → Prop) (pre : List Spn) (x : Spn) (W : World) (b : Nat), I T pre W → pre.length < N → AT W b x → ¬ T b → body.wpIn (Fence.wide.inRound l) m Try.prog (bodyEnd I T (pre ++ [x]) W) (a₁ x b) W) :
    Caller L N m (withRec I L D (fun st pe => { state := st, pending := pe, fn, tmps := tm, params := ps, assign, body, defers := D })) := by
  obtain ⟨rec, hrec⟩ : ∃ rec : LoopState → Option Code → Loop, (fun st pe => { state := st, pending := pe, fn, tmps := tm, params := ps, assign, body, defers := D }) = rec := ⟨_, rfl⟩
  rw [hrec]
  refine ⟨?_, ?_, ?_⟩
  · rintro T pre S W W' ⟨TI, hT, h1, h2, h3, h4, h5⟩ hK hS
    exact ⟨TI, hT, hI.kept TI pre S W W' h1 hK (fun b hb => hS b ((hT b).2 (.inl hb))), (hK.block L (Array.getElem?_eq_some_iff.1 h2).1 (hS L ((hT L).2 (.inr (.inl rfl))))).trans h2, (hK.block D (Array.getElem?_eq_some_iff.1 h3).1 (hS D ((hT D).2 (.inr (.inr rfl))))).trans h3, h4, h5⟩
  · rintro T pre W ⟨TI, hT, h1, h2, h3, h4, h5⟩ b hb
    rcases (hT b).1 hb with h | rfl | rfl
    · exact hI.lt _ _ _ h1 b h
    · exact (Array.getElem?_eq_some_iff.1 h2).1
    · exact (Array.getElem?_eq_some_iff.1 h3).1
  · rintro T pre x W ⟨TI, hT, h1, h2, h3, h4, h5⟩ hlen
    have hLlt : L < W.heap.size := (Array.getElem?_eq_some_iff.1 h2).1
    have hDlt : D < W.heap.size := (Array.getElem?_eq_some_iff.1 h3).1
    have hy := run_yield (P := Try.prog) (args := #[(aggS x)]) h2 (by rw [← hrec]; exact hps.symm)
    have e1 : (rec .ready none).fn = fn := by rw [← hrec]
    have e2 : (rec .ready none).params = ps := by rw [← hrec]
    have e3 : (rec .ready none).tmps = tm := by rw [← hrec]
    have e4 : (rec .ready none).assign = assign := by rw [← hrec]
    have e5 : (rec .ready none).body = body := by rw [← hrec]
    rw [e1, e2, e3, e4, e5] at hy
    refine ⟨fn, _, assign, body, hy, roundIn_of_wpIn trivial (hassign L x W _ (fun W2 b k2 at2 hb2 => ?_))⟩
    have hL2 : W2.heap[L]? = some (.loop (rec .ready none)) := (k2.block L hLlt (fun f => f)).trans h2
    have hD2 : W2.heap[D]? = some (.deferred (some [])) := (k2.block D hDlt (fun f => f)).trans h3
    have hLlt2 : L < W2.heap.size := (Array.getElem?_eq_some_iff.1 hL2).1
    obtain ⟨W3, hW3⟩ : ∃ W3, W2.putObj L (.loop { rec .ready none with state := .busy }) = W3 := ⟨_, rfl⟩
    have k3 : Kept (fun b => L = b) W2 W3 := by rw [← hW3]; exact kept_obj _ _ _
    have hL3 : W3.heap[L]? = some (.loop { rec .ready none with state := .busy }) := by rw [← hW3]; exact World.putObj_heap_same hLlt2
    have hD3 : W3.heap[D]? = some (.deferred (some [])) := (k3.block D (Array.getElem?_eq_some_iff.1 hD2).1 hLD).trans hD2
    have i3 : I TI pre W3 := hI.kept TI pre _ W2 W3 (hI.kept TI pre _ W W2 h1 k2 (fun _ _ f => f)) k3 (fun b hb e => h4 (by rw [e]; exact hb))
    have hbr : (Instr.beginRound L).run Try.prog W2 = .ok () W3 := by rw [run_beginRound hL2 (by rw [← hrec]), hW3]
    have t3 : AT W3 b x := hAT _ _ _ _ _ at2 k3 (fun e => by omega)
    refine ⟨W3, hbr, ?_⟩
    refine wpIn_mono (hbody L TI pre x W3 b i3 hlen t3 (fun h => by have := hI.lt _ _ _ h1 _ h; omega)) ?_
    rintro e a3 W4 hp
    cases e with
    | normal =>
      obtain ⟨TI', i4, k4, t4⟩ := hp
      have hL4 : W4.heap[L]? = some (.loop { rec .ready none with state := .busy }) := (k4.block L (Array.getElem?_eq_some_iff.1 hL3).1 h4).trans hL3
      have hD4 : W4.heap[D]? = some (.deferred (some [])) := (k4.block D (Array.getElem?_eq_some_iff.1 hD3).1 h5).trans hD3
      have hL3lt := (Array.getElem?_eq_some_iff.1 hL3).1
      have hD3lt := (Array.getElem?_eq_some_iff.1 hD3).1
      have n4 : ¬ TI' L := fun h => h4 (t4 L hL3lt h)
      have n5 : ¬ TI' D := fun h => h5 (t4 D hD3lt h)
      have her := run_endRound (P := Try.prog) none hL4
      obtain ⟨W5, hW5⟩ : ∃ W5, W4.putObj L (.loop (rec .ready none)) = W5 := ⟨_, rfl⟩
      have k5 : Kept (fun b => L = b) W4 W5 := by rw [← hW5]; exact kept_obj _ _ _
      refine ⟨_, W5, ?_, rfl, fun b => TI' b ∨ b = L ∨ b = D, ⟨TI', fun b => Iff.rfl, hI.kept TI' _ _ W4 W5 i4 k5 (fun b hb e => n4 (by rw [e]; exact hb)), ?_, ?_, n4, n5⟩, ?_, ?_⟩
      · rw [her, ← hW5, ← hrec]; rfl
      · rw [← hW5]; exact World.putObj_heap_same (Array.getElem?_eq_some_iff.1 hL4).1
      · exact (k5.block D (Array.getElem?_eq_some_iff.1 hD4).1 hLD).trans hD4
      · have q1 : Kept T W W3 := (k2.trans k3 (T := T) (fun _ _ f => f.elim) (fun b _ e => (hT b).2 (.inr (.inl e.symm))))
        have q2 : Kept T W W4 := q1.trans k4 (fun _ _ h => h) (fun b _ h => (hT b).2 (.inl h))
        exact q2.trans k5 (fun _ _ h => h) (fun b _ e => (hT b).2 (.inr (.inl e.symm)))
      · rintro b hb (h | h | h)
        · exact (hT b).2 (.inl (t4 b (Nat.lt_of_lt_of_le hb (Nat.le_trans k2.size k3.size)) h))
        · exact (hT b).2 (.inr (.inl h))
        · exact (hT b).2 (.inr (.inr h))
    | _ => exact hp.elim

theorem range_each {g : Operand} {ps : Array Tmp} {assign body : Code} {Q : Exit → Act → World → Prop} {a : Act} {w : World} {n : Nat} (hn : 2 ≤ n) {bx : Nat} {rv ov : Value} {fa fb : Fr} {tot : List Spn}
    (hg : a.eval g = .func (.func 38) #[] #[.pointer (some ⟨bx, 0, none⟩)]) (hps : ps.size = 1)
    {I : (Nat → Prop) → List Spn → World → Prop} (hI : Mine I) {T : Nat → Prop} (h0 : I T [] w) (htot : (fa.app fb).flat = tot) (hsz : tot.length ≤ 1000)
    (c0 : w.cell? ⟨bx, 0, none⟩ = some rv) (c1 : w.cell? ⟨bx, 1, none⟩ = some ov) (ha : ReadsF (fun k => ¬ T k) w rv fa) (hb : ReadsF (fun k => ¬ T k) w ov fb) (a₁ : Spn → Nat → Act) {AT : World → Nat → Spn → Prop} (hAT : ∀ S W W' b x, AT W b x → Kept S W W' → ¬ S b → AT W' b x)
    (hassign : ∀ (k : Nat) (x : Spn) (W : World) (K : Act → World → Prop), (∀ W2 b, Kept (fun _ => False) W W2 → AT W2 b x → W.heap.size ≤ b → K (a₁ x b) W2) →
      assign.wpIn (Fence.wide.inRound k) (n - 1 - 1) Try.prog (Exit.then K (fun _ _ _ => False)) { tmps := (ps.zip #[(aggS x)]).foldl (fun t (p, v) => t.setIfInBounds p v) a.tmps, defers := [] } W)
    (hbody : ∀ (k : Nat) (T : Nat → Prop) (pre : List Spn) (x : Spn) (W : World) (b : Nat), I T pre W → pre.length < tot.length → AT W b x → ¬ T b → body.wpIn (Fence.wide.inRound k) (n - 1 - 1) Try.prog (bodyEnd I T (pre ++ [x]) W) (a₁ x b) W)
    (hdone : ∀ (D : Nat) (T' : Nat → Prop) (W : World), I T' tot W → ¬ T' D → Kept T w W → (∀ b, b < w.heap.size → T' b → T b) → w.heap.size ≤ D → W.heap[D]? = some (.deferred (some [])) →
      Q .normal { a with defers := { target := .collected D, args := #[] } :: a.defers } W) :
    (Code.rangeFunc g ps assign body).wpIn Fence.wide n Try.prog Q a w := by
  refine wpIn_rangeFunc ?_
  intro fn hfn
  have hro : Fence.wide.round = none := rfl
  rw [hro]
  have hJ := caller_of hI (fn := fn) (tm := a.tmps) (ps := ps) (D := w.heap.size) (L := w.heap.size + 1) (N := tot.length) (m := n - 1 - 1) (by omega) hps a₁ hAT hassign hbody
  obtain ⟨rec, hrec⟩ : ∃ rec : LoopState → Option Code → Loop, rec = fun st pe => { state := st, pending := pe, fn, tmps := a.tmps, params := ps, assign, body, defers := w.heap.size } := ⟨_, rfl⟩
  rw [← hrec] at hJ
  obtain ⟨W1, hW1⟩ : ∃ W1, (w.alloc (.deferred (some []))).alloc (.loop (rec .ready none)) = W1 := ⟨_, rfl⟩
  have hL1 : W1.heap[w.heap.size + 1]? = some (.loop (rec .ready none)) := by rw [← hW1]; exact heap_second w _ _
  have hK1 : W1.heap[w.heap.size]? = some (.deferred (some [])) := by rw [← hW1]; exact heap_first w _ _
  have k1 : Kept (fun _ => False) w W1 := by rw [← hW1]; exact ((Kept.refl _ w).alloc _).alloc _
  have ht1 : ¬ T w.heap.size := fun h => Nat.lt_irrefl _ (hI.lt _ _ _ h0 _ h)
  have ht2 : ¬ T (w.heap.size + 1) := fun h => by have := hI.lt _ _ _ h0 _ h; omega
  have kr : ∀ {v : Value} {f : Fr}, ReadsF (fun k => ¬ T k) w v f → ReadsF (fun k => ¬ (T k ∨ k = w.heap.size + 1 ∨ k = w.heap.size)) W1 v f := fun h => h.keptS k1 (fun _ _ _ f => f) (fun q hq hn ht => by rcases ht with ht | ht | ht; (· exact hn ht); (· omega); (· omega))
  refine ⟨w.heap.size + 1, [{ target := .collected w.heap.size, args := #[] }], W1, { target := .fn (.func 38) #[.pointer (some ⟨bx, 0, none⟩)], args := #[.func (.yield (w.heap.size + 1)) #[] #[]] }, W1, 38,
    #[.func (.yield (w.heap.size + 1)) #[] #[], .pointer (some ⟨bx, 0, none⟩)], W1, ?_, ?_, ?_, ?_, (fun h => by cases h), ?_⟩
  · rw [← hW1, hrec]; exact run_enterLoop_outer _ _ _ _ _
  · simp only [resolve, hg]
    simp [go_sem]
  · intro f' _; trivial
  · have e := enters_of Try.func38 (by kernel_rfl) rfl #[.func (.yield (w.heap.size + 1)) #[] #[], .pointer (some ⟨bx, 0, none⟩)] W1
    simp [invoke, go_sem, e]
  · refine (each_in (n - 1) (by omega) (w.heap.size + 1) bx rv ov fa fb (withRec I (w.heap.size + 1) w.heap.size rec) tot htot hJ (fun b => T b ∨ b = w.heap.size + 1 ∨ b = w.heap.size) W1
      ⟨T, fun b => Iff.rfl, hI.kept T [] _ w W1 h0 k1 (fun _ _ f => f), hL1, hK1, ht2, ht1⟩ (k1.cell c0 (fun f => f)) (k1.cell c1 (fun f => f)) (kr ha) (kr hb) hsz).mono ?_
    · rintro e W' ⟨⟨u, rfl⟩, T', ⟨TI, hT, i1, i2, i3, i4, i5⟩, kk, tt⟩
      have hpend : (rec .ready none).pending = none := by rw [hrec]
      obtain ⟨o, hel⟩ : ∃ o, (Instr.endLoop (w.heap.size + 1)).run Try.prog W' = .ok none (W'.putObj (w.heap.size + 1) o) := by
        have := run_endLoop (P := Try.prog) i2 (by rw [hrec]; simp)
        rw [hpend] at this
        exact ⟨_, this⟩
      refine ⟨none, _, hel, ?_⟩
      have k5 := kept_obj W' (w.heap.size + 1) o
      refine hdone w.heap.size TI _ (hI.kept TI _ _ _ _ i1 k5 (fun b hb e => i4 (by rw [e]; exact hb))) i5 ?_ ?_ (Nat.le_refl _) ((k5.block _ (Array.getElem?_eq_some_iff.1 i3).1 (by omega)).trans i3)
      · refine (k1.trans kk (T := T) (fun _ _ f => f.elim) (fun b hb h => ?_)).trans k5 (fun _ _ h => h) (fun b hb e => by omega)
        rcases h with h | h | h
        · exact h
        · omega
        · omega
      · intro b hb h
        rcases tt b (Nat.lt_of_lt_of_le hb k1.size) ((hT b).2 (.inl h)) with q | q | q
        · exact q
        · omega
        · omega
end Go.Proofs.Ytjidldbolbjdpaa
