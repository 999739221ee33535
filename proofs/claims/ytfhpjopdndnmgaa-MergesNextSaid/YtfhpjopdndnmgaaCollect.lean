/- slices.AppendSeq and slices.Collect over the cells that come. -/
import Derived.Test.YtfhpjopdndnmgaaRange
namespace Go.Proofs.Ytfhpjopdndnmgaa
open Go.RowKit
attribute [local go_sem] Oper.semAt_some

theorem own_keptS {S : Nat → Prop} {w w' : World} {base e size : Nat} {v : Value} {n : Nat} {xs : List Value} (h : w.ownsRow base e size v n xs) (hK : Kept S w w') (hv : ∀ b, v.ownBlock = some b → ¬ S b) : w'.ownsRow base e size v n xs := by
  obtain ⟨h1, h2⟩ := h
  refine ⟨h1, ?_⟩
  rcases h2 with h2 | ⟨g, cap, cur, rfl, hb, hg, rest⟩
  · exact .inl h2
  · exact .inr ⟨g, cap, cur, rfl, hb, (hK.block g (Array.getElem?_eq_some_iff.1 hg).1 (hv g rfl)).trans hg, rest⟩

/-- A variable in a block of its own holds a row of its own: what f makes of what has come. -/
def BoxI (B Bs : Nat) (f : List Cel → List Cel) (T : Nat → Prop) (pre : List Cel) (W : World) : Prop :=
  ∃ u, (∀ b, T b ↔ (b = Bs ∨ u.ownBlock = some b)) ∧ W.cell? ⟨Bs, 0, none⟩ = some u ∧ W.frozen? ⟨Bs, 0, none⟩ = false ∧ W.ownsRow B 36 3 u (f pre).length (cellsC (f pre)) ∧ u.ownBlock ≠ some Bs ∧ B ≤ W.heap.size
theorem boxI_mine (B Bs : Nat) (f : List Cel → List Cel) : Mine (BoxI B Bs f) := by
  refine ⟨?_, ?_⟩
  · rintro T pre S W W' ⟨u, hT, h1, h2, h3, h4, h5⟩ hK hS
    have s1 : ¬ S Bs := hS Bs ((hT Bs).2 (.inl rfl))
    exact ⟨u, hT, hK.cell h1 s1, hK.frozen h2 (World.block_lt_of_cell? _ _ h1) s1, own_keptS h3 hK (fun b hb => hS b ((hT b).2 (.inr hb))), h4, Nat.le_trans h5 hK.size⟩
  · rintro T pre W ⟨u, hT, h1, h2, h3, h4, h5⟩ b hb
    rcases (hT b).1 hb with rfl | h
    · exact World.block_lt_of_cell? _ _ h1
    · exact (h3.lt b h).2

/-- append to an owned row inside a round: where the row lies behind it. -/
theorem in_append {F : Fence} {n : Nat} {P : Program} (w : World) {ops : Array Oper} {rest : List Oper} {o : Oper} {a : Act} {Q : Exit → Act → World → Prop}
    (hg : o.guard = none) (s x : Operand) (t : TypeId) (hop : o.op = Op.call { callee := Callee.builtin Builtin.append, args := #[s, x], argTypes := #[t, t] })
    (base : Nat) (e : TypeId) (i : TypeInfo) (z : Value) (size bytes : Nat) (h1 : P.underlying t = some (.slice e)) (h2 : P.info? e = some i) (h3 : i.zero = some z) (h4 : i.size = size) (h5 : i.bytes = bytes) (h6 : z.cells.size = size) (h7 : 0 < size)
    (v : Value) (k : Nat) (xs : List Value) (hs : a.eval s = v) (hown : w.ownsRow base e size v k xs) (ad : Addr) (m c : Nat) (news : List Value) (hx : a.eval x = .slice (some ad) m c) (hn : news.length = m * size)
    (hc : ∀ j u, news[j]? = some u → w.cell? (ad.add j) = some u) (h1c : ∀ u ∈ news, u.oneCell' = true) (b1 : k + m ≤ maxLen) (b2 : (k + m) * bytes ≤ 140737488355328) (b3 : base ≤ w.heap.size)
    (hK : ∀ v' w', w'.ownsRow base e size v' (k + m) (xs ++ news) → w.grownBy w' v.ownBlock → (v'.ownBlock = v.ownBlock ∨ v'.ownBlock = some w.heap.size) → wpListIn F n P ops Q rest (a.put o.dst v') w') :
    wpListIn F n P ops Q (o :: rest) a w := by
  refine wpListIn_plain hg fun K hK' => ?_
  obtain ⟨v', w', hrun, r1, r2, _, r4⟩ := run_append_own_at (P := P) w base t o.type e i z size bytes h1 h2 h3 h4 h5 h6 h7 v k xs hown ad m c news hn hc h1c b1 b2 b3
  unfold Oper.wpIn
  refine ⟨?_, ?_⟩
  · simp [Oper.about, hop, resolve, Target.leads, Sem.run_pure]
  · rw [Oper.semAt_plain F _ _ (by rw [hop]; intro c hc'; cases hc')]
    simp [execOp, hop, resolve, invoke, builtin, hs, hx, hrun, Result.andThen]
    exact hK' _ _ (hK v' w' r1 r2 r4)

set_option maxHeartbeats 2000000 in
theorem appendseq_in (w : World) {bx base p : Nat} {v : Value} {l : List Rw} (hIt : ItAt w base p v l) (hb : base ≤ w.heap.size) (hbx : w.cell? ⟨bx, 0, none⟩ = some (.pointer (some ⟨p, 0, none⟩))) (hbI : ¬ OwnI p v l bx) (hN : sumL l ≤ 1000) :
    CallsIn Fence.wide 5 Try.prog 34 #[.slice none 0 0, .func (.func 35) #[] #[.pointer (some ⟨bx, 0, none⟩)]] w fun e w' => ∃ u, e = .returned u ∧ w'.ownsRow w.heap.size 36 3 u (drainL (sumL l) l).length (cellsC (drainL (sumL l) l)) ∧ Kept (OwnI p v l) w w' := by
  refine callsIn_of_wp_marks Try.func34 rfl trivial ?_ rfl
  simp only [Try.ntmps34, List.size_toArray, List.length_cons, List.length_nil, Nat.reduceAdd, Nat.reduceSub, Array.replicate_succ, Array.replicate_zero, List.push_toArray, List.append_toArray, List.nil_append, List.cons_append]
  gi_wp2
  obtain ⟨W0, hW0⟩ : ∃ W0, w.alloc (.cells #[.slice none 0 0] 25) = W0 := ⟨_, rfl⟩
  have k0 : Kept (fun _ => False) w W0 := by rw [← hW0]; exact (Kept.refl _ w).alloc _
  have hs0 : W0.heap.size = w.heap.size + 1 := by rw [← hW0]; simp
  have hc0 : W0.cell? ⟨w.heap.size, 0, none⟩ = some (.slice none 0 0) := by rw [← hW0]; simp [go_sem]
  have hf0 : W0.frozen? ⟨w.heap.size, 0, none⟩ = false := by rw [← hW0]; simp [go_sem]
  have hbxl := World.block_lt_of_cell? _ _ hbx
  simp only at hbxl
  have IT := Lib.hid hIt
  rw [hW0]
  clear hIt
  refine range_each (bx := bx) (base := base) (p := p) (v := v) (l := l) (by omega) rfl rfl (boxI_mine w.heap.size w.heap.size id) (T := fun b => b = w.heap.size)
    ⟨.slice none 0 0, fun b => by simp [Value.ownBlock], hc0, hf0, World.ownsRow_nil _ _ _ _, by simp [Value.ownBlock], by omega⟩ (IT.out.kept k0) (by omega) (k0.cell hbx (fun f => f)) (by omega) hbI (fun b hb e => by have := IT.out.own_lt b hb; omega)
    (fun x b => { tmps := #[.slice none 0 0, .func (.func 35) #[] #[.pointer (some ⟨bx, 0, none⟩)], .pointer (some ⟨w.heap.size, 0, none⟩), undef, .slice none 0 0, .pointer (some ⟨b, 0, none⟩), .func (.func 35) #[] #[.pointer (some ⟨bx, 0, none⟩)], .agg #[.string x.k, .int .i64 x.s, .string x.v], undef, undef, undef, undef, undef], defers := [] }) ?assign ?body ?done
  case assign =>
    intro k x W K hK
    unfold Cel.val
    gi_wp2
    exact hK
  case body =>
    rintro k T pre x W b ⟨u, hT, h1, h2, h3, h4, h5⟩ hlen ⟨c0, c1, c2, _⟩ hTb
    obtain ⟨i0, hi, hz0, hz1, hz2⟩ := info_parts inf36
    have hrow : W.ownsRow w.heap.size 36 3 u pre.length (cellsC pre) := h3
    have hBl := World.block_lt_of_cell? _ _ h1
    simp only at hBl
    have hsh := row_form hrow
    have hsh2 : ∃ ao cap, u = .slice ao pre.length cap := by
      rcases hsh with ⟨rfl, hn⟩ | ⟨g, cap, rfl, _⟩
      · exact ⟨none, 0, by rw [hn]⟩
      · exact ⟨_, _, rfl⟩
    obtain ⟨ao, cap, rfl⟩ := hsh2
    have HR := Lib.hid hrow; have HT := Lib.hid hT
    have a1 : ¬ (Value.slice ao pre.length cap).ownBlock = some w.heap.size := h4
    clear h3 hrow hsh h4 hT IT hbx hc0 hf0
    have hlp : pre.length + 1 ≤ 1000 := by omega
    gi_wp2_with (gi_at_builtin; refine in_append _ rfl _ _ 25 rfl w.heap.size 36 i0 _ 3 40 Try.underlying25 hi hz0 hz1 hz2 rfl (by decide) _ _ _ rfl (HR.out.alloc _) ⟨W.heap.size, 0, none⟩ 1 1 [.string x.k, .int .i64 x.s, .string x.v] rfl ?q1 ?q2 ?q3 ?q4 ?q5 ?q6 ?_)
    case q1 => rfl
    case q2 => exact World.news_of_block (heap_alloc_new W _)
    case q3 => intro u hu; simp at hu; rcases hu with rfl | rfl | rfl <;> rfl
    case q4 => unfold maxLen; omega
    case q5 => omega
    case q6 => simp; omega
    intro v' w1 hown' hgrow hat
    obtain ⟨g', cap', rfl⟩ : ∃ g cap, v' = .slice (some ⟨g, 0, none⟩) (pre.length + 1) cap := by
      rcases row_form hown' with ⟨_, h⟩ | ⟨g, c, h, _⟩
      · omega
      · exact ⟨g, c, h⟩
    have KG := grown_kept hgrow
    have s0 := KG.cell (a := ⟨w.heap.size, 0, none⟩) (v := .slice ao pre.length cap) (by simp [go_sem, h1, hBl]) a1
    have sf := KG.frozen (a := ⟨w.heap.size, 0, none⟩) (by simp [go_sem, h2, hBl]) (by simp; omega) a1
    have OW := Lib.hid hown'; have AT := Lib.hid hat; have KK := Lib.hid KG
    clear hown' hgrow hat KG
    gi_wp2
    have k1 : Kept (fun k => (Value.slice ao pre.length cap).ownBlock = some k) W w1 := (((Kept.refl (fun _ => False) W).alloc (.cells #[.string x.k, .int .i64 x.s, .string x.v] 36))).trans KK.out (fun _ _ f => f.elim) (fun _ _ h => h)
    have hat2 : ∀ b, (Value.slice (some ⟨g', 0, none⟩) (pre.length + 1) cap').ownBlock = some b → (Value.slice ao pre.length cap).ownBlock = some b ∨ W.heap.size ≤ b := by
      intro b hb
      rcases AT.out with e | e
      · exact .inl (e ▸ hb)
      · right; rw [hb] at e; have h := Option.some.inj e; have h2 : (W.alloc (Obj.cells #[Value.string x.k, Value.int .i64 x.s, Value.string x.v] 36)).heap.size = W.heap.size + 1 := by simp
        omega
    have hg' : g' ≠ w.heap.size := fun e => by
      rcases hat2 g' rfl with h | h
      · exact a1 (e ▸ h)
      · omega
    refine ⟨fun b => b = w.heap.size ∨ (Value.slice (some ⟨g', 0, none⟩) (pre.length + 1) cap').ownBlock = some b, ⟨_, fun b => Iff.rfl, World.cell?_setCell_same' _ _ _ (by rw [s0]; rfl), by rw [World.frozen?_setCell]; exact sf, ?_, fun e => hg' (Option.some.inj e), by simp [World.setCell]; exact Nat.le_trans h5 k1.size⟩, ?_, ?_⟩
    · refine ownsRow_setCell_other (v := .slice (some ⟨g', 0, none⟩) (pre.length + 1) cap') (a := ⟨w.heap.size, 0, none⟩) ?_ (fun e => hg' (Option.some.inj e)) _
      have e1 : cellsC (pre ++ [x]) = cellsC pre ++ [.string x.k, .int .i64 x.s, .string x.v] := by rw [cellsC_append]; rfl
      show w1.ownsRow w.heap.size 36 3 _ (pre ++ [x]).length (cellsC (pre ++ [x]))
      rw [e1, List.length_append]
      exact OW.out
    · exact Kept.setAt (fun _ => (HT.out _).2 (.inl rfl)) (k1.mono (fun b _ hb => (HT.out b).2 (.inr hb)))
    · rintro b hb (rfl | h)
      · exact (HT.out _).2 (.inl rfl)
      · rcases hat2 b h with h | h
        · exact (HT.out b).2 (.inr h)
        · omega
  case done =>
    rintro D T' W ⟨u, hT, h1, h2, h3, h4, h5⟩ hTD hk ht hD hDe
    gi_wp2
    refine ⟨by simp, .inl ⟨_, _, rfl, run_takeDeferred hDe, ?_⟩⟩
    refine ⟨_, results_tmp rfl _ _ _, u, rfl, own_keptS h3 (kept_put W D _) (fun b hb e => hTD ((hT D).2 (.inr (e ▸ hb)))), ?_⟩
    refine (k0.trans hk (T := OwnI p v l) (fun _ _ f => f.elim) (fun b hb h => ?_)).trans (kept_put W D _) (fun _ _ h => h) (fun b hb e => by omega)
    rcases h with h | h
    · omega
    · exact h

theorem collect_in (w : World) {bx base p : Nat} {v : Value} {l : List Rw} (hIt : ItAt w base p v l) (hb : base ≤ w.heap.size) (hbx : w.cell? ⟨bx, 0, none⟩ = some (.pointer (some ⟨p, 0, none⟩))) (hbI : ¬ OwnI p v l bx) (hN : sumL l ≤ 1000) :
    Calls Try.prog 24 #[.func (.func 35) #[] #[.pointer (some ⟨bx, 0, none⟩)]] w fun e w' => ∃ u, e = .returned u ∧ w'.ownsRow w.heap.size 36 3 u (drainL (sumL l) l).length (cellsC (drainL (sumL l) l)) ∧ Kept (OwnI p v l) w w' := by
  have hc := callsIn_wide.1 (appendseq_in w hIt hb hbx hbI hN)
  go_enter Try.func24, Try.ntmps24
  go_wp2_with (go_at_call 34; refine hc.mono ?_; rintro e w' ⟨u, rfl, h1, h2⟩)
  go_ret
  exact ⟨u, rfl, h1, h2⟩

theorem each_new (p : Nat) (w : World) : Calls Try.prog 25 #[.pointer (some ⟨p, 0, none⟩)] w fun e w' => e = .returned (.func (.func 35) #[] #[.pointer (some ⟨w.heap.size, 0, none⟩)]) ∧ w' = w.alloc (.cells #[.pointer (some ⟨p, 0, none⟩)] 32) := by
  go_enter Try.func25, Try.ntmps25
  go_wp2
  go_ret
  exact ⟨rfl, rfl⟩
end Go.Proofs.Ytfhpjopdndnmgaa
