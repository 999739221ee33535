/- slices.AppendSeq, slices.Collect, trees.Flat, trees.Count over a tree's spans. -/
import Derived.Test.YtjidldbolbjdpaaRange2
namespace Go.Proofs.Ytjidldbolbjdpaa
open Go.RowKit
attribute [local go_sem] Oper.semAt_some

/-- A variable in a block of its own holds a row of its own: what has come. -/
def BoxI (B Bs : Nat) (T : Nat → Prop) (pre : List Spn) (W : World) : Prop :=
  ∃ u, (∀ b, T b ↔ (b = Bs ∨ u.ownBlock = some b)) ∧ W.cell? ⟨Bs, 0, none⟩ = some u ∧ W.frozen? ⟨Bs, 0, none⟩ = false ∧ W.ownsRow B 24 8 u pre.length (cellsS pre) ∧ u.ownBlock ≠ some Bs ∧ B ≤ W.heap.size
theorem boxI_mine (B Bs : Nat) : Mine (BoxI B Bs) := by
  refine ⟨?_, ?_⟩
  · rintro T pre S W W' ⟨u, hT, h1, h2, h3, h4, h5⟩ hK hS
    have s1 : ¬ S Bs := hS Bs ((hT Bs).2 (.inl rfl))
    exact ⟨u, hT, hK.cell h1 s1, hK.frozen h2 (World.block_lt_of_cell? _ _ h1) s1, own_keptS h3 hK (fun b hb => hS b ((hT b).2 (.inr hb))), h4, Nat.le_trans h5 hK.size⟩
  · rintro T pre W ⟨u, hT, h1, h2, h3, h4, h5⟩ b hb
    rcases (hT b).1 hb with rfl | h
    · exact World.block_lt_of_cell? _ _ h1
    · exact (own_lt h3 h).2
/-- A span in a block of the loop's own. -/
def Eight (W : World) (b : Nat) (x : Spn) : Prop := ∀ j u, x.cells[j]? = some u → W.cell? ⟨b, j, none⟩ = some u
theorem Eight.kept (S : Nat → Prop) (W W' : World) (b : Nat) (x : Spn) (h : Eight W b x) (hK : Kept S W W') (hS : ¬ S b) : Eight W' b x := fun j u hu => hK.cell (h j u hu) hS
theorem Eight.new (W : World) (x : Spn) : Eight (W.alloc (.cells #[.int .i64 x.tr, .int .i64 x.id, .int .i64 x.pa, .string x.se, .string x.ho, .int .i64 x.st, .int .i64 x.du, .string x.no] 24)) W.heap.size x := by
  have h := World.ownsRow_lit (e := 24) (size := 8) W x.cells.toArray 1 (Nat.le_refl W.heap.size) (by unfold maxLen; omega) rfl
  exact fun j u hu => own_cellN h (by simpa using hu)

/-- append to an owned row inside a round: where the row lies behind it. -/
theorem in_append {F : Fence} {n : Nat} {P : Program} (w : World) {ops : Array Oper} {rest : List Oper} {o : Oper} {a : Act} {Q : Exit → Act → World → Prop}
    (hg : o.guard = none) (s x : Operand) (t : TypeId) (hop : o.op = Op.call { callee := Callee.builtin Builtin.append, args := #[s, x], argTypes := #[t, t] })
    (base : Nat) (e : TypeId) (i : TypeInfo) (z : Value) (size bytes : Nat) (h1 : P.underlying t = some (.slice e)) (h2 : P.info? e = some i) (h3 : i.zero = some z) (h4 : i.size = size) (h5 : i.bytes = bytes) (h6 : z.cells.size = size) (h7 : 0 < size)
    (v : Value) (k : Nat) (xs : List Value) (hs : a.eval s = v) (hown : w.ownsRow base e size v k xs) (ad : Addr) (m c : Nat) (news : List Value) (hx : a.eval x = .slice (some ad) m c) (hn : news.length = m * size)
    (hc : ∀ j u, news[j]? = some u → w.cell? (ad.add j) = some u) (h1c : ∀ u ∈ news, u.oneCell' = true) (b1 : k + m ≤ maxLen) (b2 : (k + m) * bytes ≤ 140737488355328) (b3 : base ≤ w.heap.size)
    (hK : ∀ v' w', w'.ownsRow base e size v' (k + m) (xs ++ news) → w.grownBy w' v.ownBlock → (v'.ownBlock = v.ownBlock ∨ v'.ownBlock = some w.heap.size) → wpListIn F n P ops Q rest (a.put o.dst v') w') :
    wpListIn F n P ops Q (o :: rest) a w := by
  refine wpListIn_plain hg fun K hK' => ?_
  obtain ⟨v', w', hrun, r1, r2, _, r4⟩ := run_append_own_at (P := P) w base t o.type e i z size bytes h1 h2 h3 h4 h5 h6 h7 v k xs hown ad m c news hn hc h1c b1 b2 b3
  unfold Oper.wpIn
  refine ⟨?_, ?_⟩
  · simp [Oper.about, hop, resolve, Target.leads, Sem.run_pure]
  · rw [Oper.semAt_plain F _ _ (by rw [hop]; intro c hc'; cases hc')]
    simp [execOp, hop, resolve, invoke, builtin, hs, hx, hrun, Result.andThen]
    exact hK' _ _ (hK v' w' r1 r2 r4)

set_option maxHeartbeats 4000000 in
theorem appendseq_in (w : World) {bx : Nat} {rv ov : Value} {fa fb : Fr} {tot : List Spn} (htot : (fa.app fb).flat = tot) (hsz : tot.length ≤ 1000) {S : Nat → Prop}
    (c0 : w.cell? ⟨bx, 0, none⟩ = some rv) (c1 : w.cell? ⟨bx, 1, none⟩ = some ov) (ha : ReadsF S w rv fa) (hb : ReadsF S w ov fb) :
    CallsIn Fence.wide 5 Try.prog 37 #[.slice none 0 0, .func (.func 38) #[] #[.pointer (some ⟨bx, 0, none⟩)]] w fun e w' => ∃ u, e = .returned u ∧ w'.ownsRow w.heap.size 24 8 u tot.length (cellsS tot) ∧ Kept (fun _ => False) w w' := by
  refine callsIn_of_wp_marks Try.func37 rfl trivial ?_ rfl
  simp only [Try.ntmps37, List.size_toArray, List.length_cons, List.length_nil, Nat.reduceAdd, Nat.reduceSub, Array.replicate_succ, Array.replicate_zero, List.push_toArray, List.append_toArray, List.nil_append, List.cons_append]
  gi_wp2
  obtain ⟨W0, hW0⟩ : ∃ W0, w.alloc (.cells #[.slice none 0 0] 22) = W0 := ⟨_, rfl⟩
  have k0 : Kept (fun _ => False) w W0 := by rw [← hW0]; exact (Kept.refl _ w).alloc _
  have hs0 : W0.heap.size = w.heap.size + 1 := by rw [← hW0]; simp
  have hc0 : W0.cell? ⟨w.heap.size, 0, none⟩ = some (.slice none 0 0) := by rw [← hW0]; simp [go_sem]
  have hf0 : W0.frozen? ⟨w.heap.size, 0, none⟩ = false := by rw [← hW0]; simp [go_sem]
  have HA := Lib.hid ha; have HB := Lib.hid hb
  rw [hW0]
  clear ha hb
  refine range_each (bx := bx) (rv := rv) (ov := ov) (fa := fa) (fb := fb) (tot := tot) (by omega) rfl rfl (boxI_mine w.heap.size w.heap.size) (T := fun b => b = w.heap.size)
    ⟨.slice none 0 0, fun b => by simp [Value.ownBlock], hc0, hf0, own_nil _ _ _ _, by simp [Value.ownBlock], by omega⟩ htot hsz (k0.cell c0 (fun f => f)) (k0.cell c1 (fun f => f))
    (HA.out.keptS k0 (fun _ _ _ f => f) (fun q hq _ e => by omega)) (HB.out.keptS k0 (fun _ _ _ f => f) (fun q hq _ e => by omega))
    (fun x b => { tmps := #[.slice none 0 0, .func (.func 38) #[] #[.pointer (some ⟨bx, 0, none⟩)], .pointer (some ⟨w.heap.size, 0, none⟩), undef, .slice none 0 0, .pointer (some ⟨b, 0, none⟩), .func (.func 38) #[] #[.pointer (some ⟨bx, 0, none⟩)], aggS x, undef, undef, undef, undef, undef], defers := [] }) (AT := Eight) (fun S W W' b x h hK hS => Eight.kept S W W' b x h hK hS) ?assign ?body ?done
  case assign =>
    intro k x W K hK
    unfold aggS
    gi_wp2
    exact hK _ _ ((Kept.refl _ W).alloc _) (Eight.new W x) (Nat.le_refl _)
  case body =>
    rintro k T pre x W b ⟨u, hT, h1, h2, h3, h4, h5⟩ hlen h8 hTb
    obtain ⟨i0, hi, hz0, hz1, hz2⟩ := info_parts inf24
    have hrow : W.ownsRow w.heap.size 24 8 u pre.length (cellsS pre) := h3
    have hBl := World.block_lt_of_cell? _ _ h1
    simp only at hBl
    have hsh2 : ∃ ao cap, u = .slice ao pre.length cap := by
      rcases row_form hrow with ⟨rfl, hn⟩ | ⟨g, cap, rfl, _⟩
      · exact ⟨none, 0, by rw [hn]⟩
      · exact ⟨_, _, rfl⟩
    obtain ⟨ao, cap, rfl⟩ := hsh2
    have HR := Lib.hid hrow; have HT := Lib.hid hT
    have a1 : ¬ (Value.slice ao pre.length cap).ownBlock = some w.heap.size := h4
    have x0 := h8 0 _ rfl; have x1 := h8 1 _ rfl; have x2 := h8 2 _ rfl; have x3 := h8 3 _ rfl; have x4 := h8 4 _ rfl; have x5 := h8 5 _ rfl; have x6 := h8 6 _ rfl; have x7 := h8 7 _ rfl
    obtain ⟨pn, hpn⟩ : ∃ n, pre.length = n := ⟨_, rfl⟩
    rw [hpn] at h1 HR HT a1 hlen
    have PN := Lib.hid hpn
    clear h3 hrow h4 hT hc0 hf0 h8 hpn
    have hlp : pn + 1 ≤ 1000 := by omega
    gi_wp2_with (gi_at_builtin; refine in_append _ rfl _ _ 22 rfl w.heap.size 24 i0 _ 8 88 Try.underlying22 hi hz0 hz1 hz2 rfl (by decide) _ _ _ rfl (HR.out.alloc _) ⟨W.heap.size, 0, none⟩ 1 1 x.cells rfl ?q1 ?q2 ?q3 ?q4 ?q5 ?q6 ?_)
    case q1 => rfl
    case q2 => exact World.news_of_block (heap_alloc_new W _)
    case q3 => intro u hu; simp [Spn.cells] at hu; rcases hu with rfl | rfl | rfl | rfl | rfl | rfl | rfl | rfl <;> rfl
    case q4 => unfold maxLen; omega
    case q5 => omega
    case q6 => simp; omega
    intro v' w1 hown' hgrow hat
    obtain ⟨g', cap', rfl⟩ : ∃ g cap, v' = .slice (some ⟨g, 0, none⟩) (pn + 1) cap := by
      rcases row_form hown' with ⟨_, h⟩ | ⟨g, c, h, _⟩
      · omega
      · exact ⟨g, c, h⟩
    have KG := grown_kept hgrow
    have s0 := KG.cell (a := ⟨w.heap.size, 0, none⟩) (v := .slice ao pn cap) (by simp [go_sem, h1, hBl]) a1
    have sf := KG.frozen (a := ⟨w.heap.size, 0, none⟩) (by simp [go_sem, h2, hBl]) (by simp; omega) a1
    have OW := Lib.hid hown'; have AT := Lib.hid hat; have KK := Lib.hid KG
    clear hown' hgrow hat KG x0 x1 x2 x3 x4 x5 x6 x7
    gi_wp2
    have k1 : Kept (fun k => (Value.slice ao pn cap).ownBlock = some k) W w1 := (((Kept.refl (fun _ => False) W).alloc _)).trans KK.out (fun _ _ f => f.elim) (fun _ _ h => h)
    have hat2 : ∀ b, (Value.slice (some ⟨g', 0, none⟩) (pn + 1) cap').ownBlock = some b → (Value.slice ao pn cap).ownBlock = some b ∨ W.heap.size ≤ b := by
      intro b hb
      rcases AT.out with e | e
      · exact .inl (e ▸ hb)
      · right; rw [hb] at e; have h := Option.some.inj e
        omega
    have hg' : g' ≠ w.heap.size := fun e => by
      rcases hat2 g' rfl with h | h
      · exact a1 (e ▸ h)
      · omega
    refine ⟨fun b => b = w.heap.size ∨ (Value.slice (some ⟨g', 0, none⟩) (pn + 1) cap').ownBlock = some b, ⟨_, fun b => Iff.rfl, World.cell?_setCell_same' _ _ _ (by rw [s0]; rfl), by rw [World.frozen?_setCell]; exact sf, ?_, fun e => hg' (Option.some.inj e), by simp [World.setCell]; exact Nat.le_trans h5 k1.size⟩, ?_, ?_⟩
    · refine ownsRow_setCell_other (v := .slice (some ⟨g', 0, none⟩) (pn + 1) cap') (a := ⟨w.heap.size, 0, none⟩) ?_ (fun e => hg' (Option.some.inj e)) _
      have e1 : cellsS (pre ++ [x]) = cellsS pre ++ x.cells := by rw [cellsS_append]; simp [cellsS]
      rw [e1, List.length_append, PN.out]
      exact OW.out
    · exact Kept.setAt (fun _ => (HT.out _).2 (.inl rfl)) (k1.mono (fun b _ hb => (HT.out b).2 (.inr hb)))
    · rintro b hb (rfl | h)
      · exact (HT.out _).2 (.inl rfl)
      · rcases hat2 b h with h | h
        · exact (HT.out b).2 (.inr h)
        · omega
  case done =>
    rintro D T' W ⟨u, hT, h1, h2, h3, h4, h5⟩ hTD hk ht hD hDe
    gi_wp2
    refine ⟨by simp, .inl ⟨_, _, rfl, run_takeDeferred hDe, ?_⟩⟩
    refine ⟨_, results_tmp rfl _ _ _, u, rfl, own_keptS h3 (kept_obj W D _) (fun b hb e => hTD ((hT D).2 (.inr (e ▸ hb)))), ?_⟩
    refine (k0.trans hk (T := fun _ => False) (fun _ _ f => f) (fun b hb h => by omega)).trans (kept_obj W D _) (fun _ _ h => h) (fun b hb e => by omega)

theorem collect_any (w : World) {bx : Nat} {rv ov : Value} {fa fb : Fr} {tot : List Spn} (htot : (fa.app fb).flat = tot) (hsz : tot.length ≤ 1000) {S : Nat → Prop}
    (c0 : w.cell? ⟨bx, 0, none⟩ = some rv) (c1 : w.cell? ⟨bx, 1, none⟩ = some ov) (ha : ReadsF S w rv fa) (hb : ReadsF S w ov fb) :
    Calls Try.prog 29 #[.func (.func 38) #[] #[.pointer (some ⟨bx, 0, none⟩)]] w fun e w' => ∃ u, e = .returned u ∧ w'.ownsRow w.heap.size 24 8 u tot.length (cellsS tot) ∧ Kept (fun _ => False) w w' := by
  have hc := callsIn_wide.1 (appendseq_in w htot hsz c0 c1 ha hb)
  clear c0 c1 ha hb
  go_enter Try.func29, Try.ntmps29
  go_wp2_with (go_at_call 37; refine hc.mono ?_; rintro e w' ⟨u, rfl, h1, h2⟩)
  go_ret
  exact ⟨u, rfl, h1, h2⟩
theorem each_new (rv ov : Value) (h1 : ∃ a n c, rv = .slice a n c) (h2 : ∃ a n c, ov = .slice a n c) (w : World) : Calls Try.prog 30 #[.agg #[rv, ov]] w fun e w' => e = .returned (.func (.func 38) #[] #[.pointer (some ⟨w.heap.size, 0, none⟩)]) ∧ w' = w.alloc (.cells #[rv, ov] 28) := by
  obtain ⟨a, n, c, rfl⟩ := h1
  obtain ⟨a2, n2, c2, rfl⟩ := h2
  go_enter Try.func30, Try.ntmps30
  go_wp2
  go_ret
  exact ⟨rfl, rfl⟩
set_option maxHeartbeats 4000000 in
theorem flat_any (S : Nat → Prop) (w : World) (rv ov : Value) (a b : Fr) (ha : ReadsF S w rv a) (hb : ReadsF S w ov b) (hs : a.size + b.size ≤ 1000) :
    Calls Try.prog 15 #[.agg #[rv, ov]] w fun e w' => ∃ v', e = .returned v' ∧ w'.ownsRow w.heap.size 24 8 v' (a.size + b.size) (cellsS (a.flat ++ b.flat)) ∧ Kept (fun _ => False) w w' := by
  have HA := Lib.hid ha; have HB := Lib.hid hb
  obtain ⟨xa, xc, e1, _⟩ := ha
  obtain ⟨xb, xd, e2, _⟩ := hb
  obtain ⟨n1, hn1⟩ : ∃ n, a.len = n := ⟨_, rfl⟩
  obtain ⟨n2, hn2⟩ : ∃ n, b.len = n := ⟨_, rfl⟩
  rw [hn1] at e1
  rw [hn2] at e2
  subst e1 e2
  clear hn1 hn2
  have ht : (a.flat ++ b.flat).length = a.size + b.size := by rw [List.length_append, size_flat, size_flat]
  obtain ⟨W1, hW1⟩ : ∃ W, w.alloc (.cells #[.slice xa n1 xc, .slice xb n2 xd] 28) = W := ⟨_, rfl⟩
  have K1 := Lib.hid (show Kept (fun _ => False) w W1 by rw [← hW1]; exact (Kept.refl _ w).alloc _)
  have HT := Lib.hid ht
  have t0 : W1.cell? ⟨w.heap.size, 0, none⟩ = some (.slice xa n1 xc) := by rw [← hW1]; simp
  have t1 : W1.cell? ⟨w.heap.size, 1, none⟩ = some (.slice xb n2 xd) := by rw [← hW1]; simp
  go_enter Try.func15, Try.ntmps15
  go_wp2_with fail
  clear hW1 ht t0 t1
  refine (each_new _ _ ⟨_, _, _, rfl⟩ ⟨_, _, _, rfl⟩ W1).mono ?_
  rintro e w2 ⟨rfl, hw2⟩
  have K2 := Lib.hid (keptFF K1.out (show Kept (fun _ => False) W1 w2 from by rw [hw2]; exact (Kept.refl _ W1).alloc _))
  have hc0 : w2.cell? ⟨W1.heap.size, 0, none⟩ = some (.slice xa n1 xc) := by rw [hw2]; simp
  have hc1 : w2.cell? ⟨W1.heap.size, 1, none⟩ = some (.slice xb n2 xd) := by rw [hw2]; simp
  have C0 := Lib.hid hc0; have C1 := Lib.hid hc1
  clear hw2 hc0 hc1
  go_wp2_with fail
  refine (collect_any w2 (flat_app a b) (by rw [HT.out]; exact hs) C0.out C1.out (HA.out.kept K2.out) (HB.out.kept K2.out)).mono ?_
  rintro e w3 ⟨u, rfl, own, k3⟩
  have OW := Lib.hid own; have K3 := Lib.hid (keptFF K2.out k3)
  clear own k3
  go_wp2
  go_ret
  exact ⟨u, rfl, by rw [← HT.out]; exact own_mono OW.out K2.out.size, K3.out⟩
def CountI (B : Nat) (T : Nat → Prop) (pre : List Spn) (W : World) : Prop := (∀ b, T b ↔ b = B) ∧ W.cell? ⟨B, 0, none⟩ = some (.int .i64 (pre.length : Int)) ∧ W.frozen? ⟨B, 0, none⟩ = false
theorem countI_mine (B : Nat) : Mine (CountI B) := by
  refine ⟨?_, ?_⟩
  · rintro T pre S W W' ⟨hT, h1, h2⟩ hK hS
    have s1 : ¬ S B := hS B ((hT B).2 rfl)
    exact ⟨hT, hK.cell h1 s1, hK.frozen h2 (World.block_lt_of_cell? _ _ h1) s1⟩
  · rintro T pre W ⟨hT, h1, h2⟩ b hb
    obtain rfl := (hT b).1 hb
    exact World.block_lt_of_cell? _ _ h1
set_option maxHeartbeats 4000000 in
theorem count_in (S : Nat → Prop) (w : World) (rv ov : Value) (a b : Fr) (ha : ReadsF S w rv a) (hb : ReadsF S w ov b) (hs : a.size + b.size ≤ 1000) :
    CallsIn Fence.wide 5 Try.prog 17 #[.agg #[rv, ov]] w fun e w' => e = .returned (.int .i64 (a.size + b.size : Nat)) ∧ Kept (fun _ => False) w w' := by
  have HA := Lib.hid ha; have HB := Lib.hid hb
  obtain ⟨xa, xc, e1, _⟩ := ha
  obtain ⟨xb, xd, e2, _⟩ := hb
  obtain ⟨n1, hn1⟩ : ∃ n, a.len = n := ⟨_, rfl⟩
  obtain ⟨n2, hn2⟩ : ∃ n, b.len = n := ⟨_, rfl⟩
  rw [hn1] at e1
  rw [hn2] at e2
  subst e1 e2
  clear hn1 hn2
  have ht : (a.flat ++ b.flat).length = a.size + b.size := by rw [List.length_append, size_flat, size_flat]
  refine callsIn_of_wp_marks Try.func17 rfl trivial ?_ rfl
  simp only [Try.ntmps17, List.size_toArray, List.length_cons, List.length_nil, Nat.reduceAdd, Nat.reduceSub, Array.replicate_succ, Array.replicate_zero, List.push_toArray, List.append_toArray, List.nil_append, List.cons_append]
  gi_wp2_with fail
  obtain ⟨W1, hW1⟩ : ∃ W, (w.alloc (.cells #[.slice xa n1 xc, .slice xb n2 xd] 28)).alloc (.cells #[.int .i64 0] 3) = W := ⟨_, rfl⟩
  have s1 : (w.alloc (.cells #[.slice xa n1 xc, .slice xb n2 xd] 28)).heap.size = w.heap.size + 1 := Array.size_push _
  have k1 : Kept (fun _ => False) w W1 := by rw [← hW1]; exact ((Kept.refl _ w).alloc _).alloc _
  have hc : W1.cell? ⟨w.heap.size + 1, 0, none⟩ = some (.int .i64 0) := by rw [← hW1, ← s1]; exact cell_new1 _ _ _
  have hf : W1.frozen? ⟨w.heap.size + 1, 0, none⟩ = false := by
    have := World.ownsRow_lit (e := 3) (size := 1) (w.alloc (.cells #[.slice xa n1 xc, .slice xb n2 xd] 28)) #[.int .i64 0] 1 (Nat.le_refl _) (by unfold maxLen; omega) rfl
    rw [s1, hW1] at this
    exact this.frozenAt 0
  rw [hW1]
  obtain ⟨cn, hcn⟩ : ∃ c, w.heap.size + 1 = c := ⟨_, rfl⟩
  rw [hcn] at hc hf ⊢
  have hcl := World.block_lt_of_cell? _ _ hc
  simp only at hcl
  clear hW1 s1
  refine ⟨trivial, (callsIn_wide.2 (each_new _ _ ⟨_, _, _, rfl⟩ ⟨_, _, _, rfl⟩ W1)).mono ?_⟩
  rintro e w2 ⟨rfl, hw2⟩
  have k2 : Kept (fun _ => False) W1 w2 := by rw [hw2]; exact (Kept.refl _ W1).alloc _
  have hc0 : w2.cell? ⟨W1.heap.size, 0, none⟩ = some (.slice xa n1 xc) := by rw [hw2]; simp
  have hc1 : w2.cell? ⟨W1.heap.size, 1, none⟩ = some (.slice xb n2 xd) := by rw [hw2]; simp
  have k12 := keptFF k1 k2
  obtain ⟨bx, hbx⟩ : ∃ q, W1.heap.size = q := ⟨_, rfl⟩
  rw [hbx] at hc0 hc1 hcl ⊢
  have hc2 := k2.cell hc (fun f => f)
  have hf2 := k2.frozen hf (by rw [hbx]; exact hcl) (fun f => f)
  clear hw2 hc hf
  gi_wp2
  refine range_each (bx := bx) (rv := .slice xa n1 xc) (ov := .slice xb n2 xd) (fa := a) (fb := b) (tot := a.flat ++ b.flat) (by omega) rfl rfl (countI_mine cn) (T := fun b => b = cn)
    ⟨fun b => Iff.rfl, hc2, hf2⟩ (flat_app a b) (by rw [ht]; exact hs) hc0 hc1
    (HA.out.keptS k12 (fun _ _ _ f => f) (fun q hq _ e => by omega)) (HB.out.keptS k12 (fun _ _ _ f => f) (fun q hq _ e => by omega))
    (fun x _ => { tmps := #[.agg #[.slice xa n1 xc, .slice xb n2 xd], .pointer (some ⟨w.heap.size, 0, none⟩), .int .i64 0, .pointer (some ⟨cn, 0, none⟩), .agg #[.slice xa n1 xc, .slice xb n2 xd], .func (.func 38) #[] #[.pointer (some ⟨bx, 0, none⟩)], aggS x, undef, undef, undef], defers := [] }) (AT := fun _ _ _ => True) (fun _ _ _ _ _ _ _ _ => trivial) ?assign ?body ?done
  case assign =>
    intro k x W K hK
    gi_wp2
    have h := hK W W.heap.size (Kept.refl _ W) trivial (Nat.le_refl _)
    simpa using h
  case body =>
    rintro k T pre x W b ⟨hT, h1, h2⟩ hlen _ hTb
    have hpl : pre.length ≤ 1000 := by omega
    obtain ⟨pn, hpn⟩ : ∃ n, pre.length = n := ⟨_, rfl⟩
    rw [hpn] at h1 hpl
    have e1 : IntKind.i64.wrap ((pn : Int) + 1) = ((pn + 1 : Nat) : Int) := IntWalk.i64_in _ (by omega)
    have HT := Lib.hid hT; have PN := Lib.hid hpn
    clear hT hpn hc0 hc1 hc2 hf2
    gi_wp2
    refine ⟨fun b => b = cn, ⟨fun b => Iff.rfl, World.cell?_setCell_same' _ _ _ (by rw [h1]; rfl) |>.trans (by simp [PN.out]), by rw [World.frozen?_setCell]; exact h2⟩, ?_, fun b _ h => (HT.out b).2 h⟩
    exact Kept.setAt (fun _ => (HT.out _).2 rfl) (Kept.refl _ W)
  case done =>
    rintro D T' W ⟨hT, h1, h2⟩ hTD hk ht' hD hDe
    rw [ht] at h1
    gi_wp2
    refine ⟨by simp, .inl ⟨_, _, rfl, run_takeDeferred hDe, ?_⟩⟩
    refine ⟨_, results_tmp rfl _ _ _, rfl, ?_⟩
    refine (k12.trans hk (T := fun _ => False) (fun _ _ f => f) (fun b hb h => by omega)).trans (kept_obj W D _) (fun _ _ h => h) (fun b hb e => ?_)
    have := k12.size
    omega
theorem count_any (S : Nat → Prop) (w : World) (rv ov : Value) (a b : Fr) (ha : ReadsF S w rv a) (hb : ReadsF S w ov b) (hs : a.size + b.size ≤ 1000) :
    Calls Try.prog 17 #[.agg #[rv, ov]] w fun e w' => e = .returned (.int .i64 (a.size + b.size : Nat)) ∧ Kept (fun _ => False) w w' := callsIn_wide.1 (count_in S w rv ov a b ha hb hs)
end Go.Proofs.Ytjidldbolbjdpaa
