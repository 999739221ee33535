/- twins, Left, left: rows in memory of their own, and whether they are what they were. -/
import Derived.Test.YtfhpjopdndnmgaaTwin
namespace Go.Proofs.Ytfhpjopdndnmgaa
open Go.RowKit

/-- append to an owned row: where the row lies behind it. -/
theorem list_append {P : Program} (w : World) {ops : Array Oper} {rest : List Oper} {o : Oper} {a : Act} {Q : Exit → Act → World → Prop}
    (hg : o.guard = none) (s x : Operand) (t : TypeId) (hop : o.op = Op.call { callee := Callee.builtin Builtin.append, args := #[s, x], argTypes := #[t, t] })
    (base : Nat) (e : TypeId) (i : TypeInfo) (z : Value) (size bytes : Nat) (h1 : P.underlying t = some (.slice e)) (h2 : P.info? e = some i) (h3 : i.zero = some z) (h4 : i.size = size) (h5 : i.bytes = bytes) (h6 : z.cells.size = size) (h7 : 0 < size)
    (v : Value) (k : Nat) (xs : List Value) (hs : a.eval s = v) (hown : w.ownsRow base e size v k xs) (ad : Addr) (m c : Nat) (news : List Value) (hx : a.eval x = .slice (some ad) m c) (hn : news.length = m * size)
    (hc : ∀ j u, news[j]? = some u → w.cell? (ad.add j) = some u) (h1c : ∀ u ∈ news, u.oneCell' = true) (b1 : k + m ≤ maxLen) (b2 : (k + m) * bytes ≤ 140737488355328) (b3 : base ≤ w.heap.size)
    (hK : ∀ v' w', w'.ownsRow base e size v' (k + m) (xs ++ news) → w.grownBy w' v.ownBlock → (v'.ownBlock = v.ownBlock ∨ v'.ownBlock = some w.heap.size) → wpList P ops Q rest (a.put o.dst v') w') :
    wpList P ops Q (o :: rest) a w := by
  refine wpList_plain hg fun K hK' => ?_
  obtain ⟨v', w', hrun, r1, r2, _, r4⟩ := run_append_own_at (P := P) w base t o.type e i z size bytes h1 h2 h3 h4 h5 h6 h7 v k xs hown ad m c news hn hc h1c b1 b2 b3
  unfold Oper.wp
  simp [execOp, hop, resolve, invoke, builtin, hs, hx, hrun, Result.andThen]
  exact hK' _ _ (hK v' w' r1 r2 r4)

theorem inf25 : (Try.prog.info? 25).map (fun i => (i.zero, i.size, i.bytes)) = some (some (.slice none 0 0), 1, 24) := by kernel_rfl

/-- A row's twin lies at b. -/
def TwinIn (W : World) (base : Nat) (R : List Cel) (u : Value) : Prop :=
  ∃ b cap, u = .slice (some ⟨b, 0, none⟩) R.length cap ∧ R.length < cap ∧ base ≤ b ∧ b < W.heap.size ∧ (∀ j u, (cellsC (R ++ [mark]))[j]? = some u → W.cell? ⟨b, j, none⟩ = some u) ∧ ∀ j, W.frozen? ⟨b, j, none⟩ = false
theorem TwinIn.kept {S : Nat → Prop} {W W' : World} {base : Nat} {R : List Cel} {u : Value} (h : TwinIn W base R u) (hK : Kept S W W') (hS : ∀ b, u.ownBlock = some b → ¬ S b) : TwinIn W' base R u := by
  obtain ⟨b, cap, rfl, h1, h2, h3, h4, h5⟩ := h
  exact ⟨b, cap, rfl, h1, h2, Nat.lt_of_lt_of_le h3 hK.size, fun j u hu => hK.cell (h4 j u hu) (hS b rfl), fun j => hK.frozen (h5 j) h3 (hS b rfl)⟩
theorem TwinIn.reads {W : World} {base : Nat} {R : List Cel} {u : Value} (h : TwinIn W base R u) : ReadsC W u R := by
  obtain ⟨b, cap, rfl, h1, h2, h3, h4, _⟩ := h
  refine ⟨_, cap, rfl, .inr ⟨b, 0, rfl, fun j u hu => ?_⟩⟩
  rw [Nat.zero_add]
  refine h4 j u ?_
  rw [cellsC_append, List.getElem?_append_left (List.getElem?_eq_some_iff.1 hu).1]
  exact hu
def TwinsAt (W : World) (base : Nat) (L : List (List Cel)) (us : List Value) : Prop := us.length = L.length ∧ ∀ (i : Nat) (R : List Cel), L[i]? = some R → ∃ u, us[i]? = some u ∧ TwinIn W base R u

set_option maxHeartbeats 4000000 in
theorem twins_any (w : World) (v0 : Value) (L : List (List Cel)) (h : ReadsR w v0 L) (hL : L.length ≤ 50) (hl : ∀ R ∈ L, R.length ≤ 1000) :
    Calls Try.prog 10 #[v0] w fun e w' => ∃ v us, e = .returned v ∧ w'.ownsRow w.heap.size 25 1 v L.length us ∧ TwinsAt w' w.heap.size L us ∧ Kept (fun _ => False) w w' := by
  obtain ⟨ao, cap, rfl, h⟩ := h
  obtain ⟨i0, hi, hz0, hz1, hz2⟩ := info_parts inf25
  have hbytes : i0.bytes * (L.length + 1) ≤ 281474976710656 := by rw [hz2]; omega
  have HR := Lib.hid h; have HL := Lib.hid hl; clear h hl
  go_enter Try.func10, Try.ntmps10
  go_wp2_with (at_make; refine wpList_make_own _ rfl _ _ 22 rfl w.heap.size 25 i0 _ 1 Try.underlying22 hi hz0 hz1 _ _ _ (L.length + 1) rfl rfl (by omega) hbytes (by unfold maxLen; omega) (Nat.le_refl _) ?_; intro w1 ho1 hg1; (have O1 := Lib.hid ho1); (have K1 := Lib.hid (grown_kept hg1)); clear ho1 hg1)
  go_loopg [3, 4] L.length (fun g s t wr => ∃ k : Nat, k + g = L.length ∧ t = .int .i64 k ∧ Kept (fun _ => False) w wr ∧ ∃ ao2 cap2 us, s = .slice ao2 k cap2 ∧ wr.ownsRow w.heap.size 25 1 (.slice ao2 k cap2) k us ∧ TwinsAt wr w.heap.size (L.take k) us ∧ ∀ u ∈ us, ∀ b, u.ownBlock = some b → (Value.slice ao2 k cap2).ownBlock ≠ some b)
  case atStart => exact ⟨0, by omega, rfl, K1.out.mono (fun _ _ e => by cases e), _, _, [], rfl, O1.out, ⟨rfl, fun i R hi => by simp at hi⟩, by simp⟩
  case round =>
    obtain ⟨k, hk, rfl, KW, ao2, cap2, us, rfl, hown, htw, hne⟩ := hrel
    have hk1 : k ≤ L.length := by omega
    have J := Lib.hid hk; have KF := Lib.hid KW; have OW := Lib.hid hown; have TW := Lib.hid htw; have NE := Lib.hid hne
    clear hk KW hown htw hne
    by_cases hlt : k < L.length
    · rcases HR.out with h0 | ⟨g, o, rfl, hc⟩
      · rw [h0] at hlt; simp at hlt
      obtain ⟨R, hR⟩ : ∃ R, L[k]? = some R := ⟨_, List.getElem?_eq_getElem hlt⟩
      obtain ⟨u, hu, hru⟩ := hc k R hR
      have hu2 := KF.out.cell hu (fun f => f)
      have hrl := HL.out R (List.mem_of_getElem? hR)
      have htk : L.take (k + 1) = L.take k ++ [R] := by rw [List.take_add_one, hR]; rfl
      have RT := Lib.hid (twin_any wr u R (hru.keptF KF.out) hrl)
      have TK := Lib.hid htk
      clear hc hu hru hR hrl htk
      have i1 : (0 : Int) ≤ (k : Int) := by omega
      have i2 : (k : Int) < (L.length : Int) := by omega
      have hsz := KF.out.size
      go_wp2_with (first
        | (go_at_call 23; refine RT.out.mono ?_; rintro e w4 ⟨b4, cap4, rfl, q1, q2, q3, q4, k4⟩; (have T4 : Hid (TwinIn w4 w.heap.size R (.slice (some ⟨b4, 0, none⟩) R.length cap4)) := Lib.hid ⟨b4, cap4, rfl, q1, by omega, q3, q4⟩); (have B4 := Lib.hid q2); (have K4 := Lib.hid k4); (have O4 := Lib.hid (own_keptS OW.out k4 (fun _ _ f => f))); clear q1 q2 q3 q4 k4)
        | (at_builtin; refine list_append _ rfl _ _ 22 rfl w.heap.size 25 i0 _ 1 24 Try.underlying22 hi hz0 hz1 hz2 rfl (by decide) _ _ _ rfl (O4.out.alloc _) ⟨w4.heap.size, 0, none⟩ 1 1 [.slice (some ⟨b4, 0, none⟩) R.length cap4] rfl rfl (World.news_of_block (heap_alloc_new w4 _)) (by intro u hu; simp at hu; rcases hu with rfl; rfl) (by unfold maxLen; omega) (by omega) (by have := K4.out.size; simp; omega) ?_; intro v5 w5 ho5 hg5 ha5; (have O5 := Lib.hid ho5); (have G5 := Lib.hid hg5); (have A5 := Lib.hid ha5); (obtain ⟨ao5, cap5, rfl⟩ : ∃ a c, v5 = .slice a (k + 1) c := by (rcases row_form ho5 with ⟨_, hn⟩ | ⟨g, c, h, _⟩; omega; exact ⟨_, c, h⟩)); clear ho5 hg5 ha5))
      have k5 : Kept (fun b => (Value.slice ao2 k cap2).ownBlock = some b) w4 w5 := ((Kept.refl (fun _ => False) w4).alloc (Obj.cells #[Value.slice (some ⟨b4, 0, none⟩) R.length cap4] 25)).trans (grown_kept G5.out) (fun _ _ f => f.elim) (fun _ _ h => h)
      have own4 : ∀ b, (Value.slice ao2 k cap2).ownBlock = some b → w.heap.size ≤ b ∧ b < wr.heap.size := OW.out.lt
      have hat : ∀ b, (Value.slice ao5 (k + 1) cap5).ownBlock = some b → (Value.slice ao2 k cap2).ownBlock = some b ∨ w4.heap.size ≤ b := by
        intro b hb
        rcases A5.out with e | e
        · exact .inl (e ▸ hb)
        · right; rw [hb] at e; have h := Option.some.inj e
          have h2 : (w4.alloc (Obj.cells #[Value.slice (some ⟨b4, 0, none⟩) R.length cap4] 25)).heap.size = w4.heap.size + 1 := by simp
          omega
      have TW5 : TwinsAt w5 w.heap.size (L.take (k + 1)) (us ++ [.slice (some ⟨b4, 0, none⟩) R.length cap4]) := by
        rw [TK.out]
        obtain ⟨t1, t2⟩ := TW.out
        refine ⟨by simp [t1], fun i R' hi => ?_⟩
        by_cases hik : i < (L.take k).length
        · rw [List.getElem?_append_left hik] at hi
          obtain ⟨u', hu1, hu2⟩ := t2 i R' hi
          refine ⟨u', by rw [List.getElem?_append_left (by omega)]; exact hu1, (hu2.kept K4.out (fun _ _ f => f)).kept k5 (fun b hb => NE.out u' (List.mem_of_getElem? hu1) b hb)⟩
        · rw [List.getElem?_append_right (by omega)] at hi
          have hi0 : i - (L.take k).length = 0 := by
            by_cases h : i - (L.take k).length = 0
            · exact h
            · obtain ⟨j, hj⟩ : ∃ j, i - (L.take k).length = j + 1 := ⟨i - (L.take k).length - 1, by omega⟩
              rw [hj] at hi; simp at hi
          rw [hi0] at hi
          simp at hi; subst hi
          refine ⟨_, by rw [List.getElem?_append_right (by omega), t1, hi0]; rfl, T4.out.kept k5 (fun b hb e => ?_)⟩
          have h1 : b4 = b := Option.some.inj hb
          have := (own4 b e).2
          have := B4.out
          omega
      have NE5 : ∀ u ∈ us ++ [Value.slice (some ⟨b4, 0, none⟩) R.length cap4], ∀ b, u.ownBlock = some b → (Value.slice ao5 (k + 1) cap5).ownBlock ≠ some b := by
        intro u' hu' b hb he
        have hblt : b < w4.heap.size := by
          rcases List.mem_append.1 hu' with h | h
          · obtain ⟨i, hi, hie⟩ := List.getElem_of_mem h
            obtain ⟨t1, t2⟩ := TW.out
            have hi2 : i < (L.take k).length := by omega
            obtain ⟨u2, hu1, hu3⟩ := t2 i _ (List.getElem?_eq_getElem hi2)
            rw [List.getElem?_eq_getElem hi] at hu1
            have e2 : u' = u2 := by rw [← hie]; exact Option.some.inj hu1
            subst e2
            obtain ⟨b', c', rfl, _, _, hlt', _⟩ := hu3
            have : b' = b := Option.some.inj hb
            have := K4.out.size
            omega
          · simp at h; subst h
            obtain ⟨b', c', he', _, _, hlt', _⟩ := T4.out
            simp only [Value.slice.injEq, Option.some.injEq, Addr.mk.injEq] at he'
            have : b4 = b := Option.some.inj hb
            omega
        rcases hat b he with h | h
        · rcases List.mem_append.1 hu' with h' | h'
          · exact NE.out u' h' b hb h
          · simp at h'; subst h'
            have h1 : b4 = b := Option.some.inj hb
            have := (own4 b h).2
            have := B4.out
            omega
        · omega
      have KF5 : Kept (fun _ => False) w w5 := (KF.out.trans K4.out (fun _ _ f => f) (fun _ _ f => f)).trans k5 (fun _ _ f => f) (fun b hb e => by have := (own4 b e).1; omega)
      have HT5 := Lib.hid TW5; have HN5 := Lib.hid NE5; have HK5 := Lib.hid KF5
      clear TW5 NE5 KF5 hat own4 k5
      go_wp2
      go_roundg (gk - 1)
      case measure => have := J.out; omega
      case rel => exact ⟨k + 1, by have := J.out; omega, by go_num, HK5.out, _, _, _, rfl, O5.out, HT5.out, HN5.out⟩
    · have hk2 : k = L.length := by omega
      have e3 : ¬ (k : Int) < (L.length : Int) := by omega
      have K2 := Lib.hid hk2; clear hk2
      go_wp2
      go_ret
      exact ⟨_, rfl, us, by rw [← K2.out]; exact OW.out, by have := TW.out; rwa [K2.out, List.take_length] at this, KF.out⟩

set_option maxHeartbeats 2000000 in
/-- Left, of a row's own twin. -/
theorem left_one (w : World) (base : Nat) (u v : Value) (R : List Cel) (hu : TwinIn w base R u) (hv : ReadsC w v R) (hl : R.length ≤ 1000) :
    Calls Try.prog 28 #[u, v] w fun e w' => e = .returned (.bool true) ∧ Kept (fun _ => False) w w' := by
  have HU := Lib.hid hu.reads
  obtain ⟨b, cap, rfl, h1, h2, h3, h4, _⟩ := hu
  obtain ⟨ao, c2, rfl, hv⟩ := hv
  have HV : Hid (ReadsC w (.slice ao R.length c2) R) := Lib.hid ⟨ao, c2, rfl, hv⟩
  have hm : w.cell? ⟨b, R.length * 3 + 1, none⟩ = some (.int .i64 (-70)) := by
    have := (cellsC_get (R ++ [mark]) R.length mark (by simp)).2.1
    exact h4 _ _ this
  have HS := Lib.hid (same_yes w _ _ R HU.out HV.out hl)
  have i1 : (R.length : Int) < (cap : Int) := by omega
  have i2 : (0 : Int) ≤ (R.length : Int) + 1 := by omega
  have i3 : (R.length : Int) + 1 ≤ (cap : Int) := by omega
  have i4 : (0 : Int) ≤ (R.length : Int) := by omega
  have i5 : (R.length : Int) < (R.length : Int) + 1 := by omega
  clear h4 hv
  go_enter Try.func28, Try.ntmps28
  go_wp2_with (go_at_call 15; refine HS.out.mono ?_; rintro e w4 ⟨rfl, k4⟩; (have hm4 := k4.cell hm (fun f => f)); (have K4 := Lib.hid k4); clear k4)
  go_ret
  exact ⟨rfl, K4.out⟩

set_option maxHeartbeats 4000000 in
theorem left_any (w : World) (base : Nat) (vt v0 : Value) (us : List Value) (L : List (List Cel)) (ht : w.ownsRow base 25 1 vt L.length us) (hT : TwinsAt w base L us) (h : ReadsR w v0 L) (hL : L.length ≤ 50) (hl : ∀ R ∈ L, R.length ≤ 1000) :
    Calls Try.prog 16 #[vt, v0] w fun e w' => e = .returned (.bool true) ∧ Kept (fun _ => False) w w' := by
  obtain ⟨ao, cap, rfl, h⟩ := h
  have hf : (∃ a c, vt = .slice a L.length c) ∧ (L = [] ∨ ∃ g c, vt = .slice (some ⟨g, 0, none⟩) L.length c ∧ ∀ j u, us[j]? = some u → w.cell? ⟨g, j, none⟩ = some u) := by
    rcases row_form ht with ⟨rfl, hn⟩ | ⟨g, c, rfl, _, _, _, h4⟩
    · exact ⟨⟨none, 0, by rw [hn]⟩, .inl (List.eq_nil_of_length_eq_zero hn)⟩
    · exact ⟨⟨_, c, rfl⟩, .inr ⟨g, c, rfl, h4⟩⟩
  obtain ⟨⟨at_, ct, rfl⟩, hg⟩ := hf
  have HR := Lib.hid h; have HG := Lib.hid hg; have HT := Lib.hid hT; have HL := Lib.hid hl
  clear h hg ht hT hl
  go_enter Try.func16, Try.ntmps16
  go_wp2
  go_loopg [5] L.length (fun g t wr => ∃ k : Nat, k + g = L.length ∧ t = .int .i64 k ∧ Kept (fun _ => False) w wr)
  case atStart => exact ⟨0, by omega, rfl, Kept.refl _ _⟩
  case round =>
    obtain ⟨k, hk, rfl, KW⟩ := hrel
    have hk1 : k ≤ L.length := by omega
    have J := Lib.hid hk; have KF := Lib.hid KW
    clear hk KW
    by_cases hlt : k < L.length
    · rcases HR.out with h0 | ⟨g, o, rfl, hc⟩
      · rw [h0] at hlt; simp at hlt
      rcases HG.out with h0 | ⟨g2, c2, he, hc2⟩
      · rw [h0] at hlt; simp at hlt
      simp only [Value.slice.injEq] at he
      obtain ⟨rfl, _, rfl⟩ := he
      obtain ⟨R, hR⟩ : ∃ R, L[k]? = some R := ⟨_, List.getElem?_eq_getElem hlt⟩
      obtain ⟨u, hu, hru⟩ := hc k R hR
      obtain ⟨t, ht1, ht2⟩ := HT.out.2 k R hR
      have hu2 := KF.out.cell hu (fun f => f)
      have hu3 := KF.out.cell (hc2 k t ht1) (fun f => f)
      have hrl := HL.out R (List.mem_of_getElem? hR)
      have i1 : (0 : Int) ≤ (k : Int) := by omega
      have i2 : (k : Int) < (L.length : Int) := by omega
      have T2 := Lib.hid (ht2.kept KF.out (fun _ _ f => f)); have U2 := Lib.hid (hru.keptF KF.out)
      clear hc hc2 hu hru ht1 ht2 hR
      go_upto_region 6 with fail
      refine wp_region_held_drew (S := (fun w' => w'.cell? ⟨g2, k, none⟩ = some t ∧ w'.cell? ⟨g, o + k, none⟩ = some u)) (by kernel_rfl) ?_ (fun hHeld => ?_)
      · exact ⟨hu3, hu2⟩
      refine wpAnyH_take (i := 0) (v := ?_) opAt0 (by kernel_rfl) (by kernel_rfl) (by kernel_rfl) (fun _ _ _ h => h) (Or.inl ⟨by rfl, ?_⟩) hHeld ?_
      case refine_2 => (intro w hSw; (try dsimp only at hSw); go_simp; all_goals (with_reducible rfl))
      (try simp only [Act.put]); (try simp only [List.setIfInBounds_toArray]); (try simp only [List.set_cons_succ]); (try simp only [List.set_cons_zero])
      refine wpAnyH_take (i := 1) (v := ?_) opAt1 (by kernel_rfl) (by kernel_rfl) (by kernel_rfl) (fun _ _ _ h => h) (Or.inl ⟨by rfl, ?_⟩) hHeld ?_
      case refine_2 => (intro w hSw; (try dsimp only at hSw); go_simp; all_goals (with_reducible rfl))
      (try simp only [Act.put]); (try simp only [List.setIfInBounds_toArray]); (try simp only [List.set_cons_succ]); (try simp only [List.set_cons_zero])
      refine wpAnyH_take (i := 2) (v := ?_) opAt2 (by kernel_rfl) (by kernel_rfl) (by kernel_rfl) (fun _ _ _ h => h) (Or.inl ⟨by rfl, ?_⟩) hHeld ?_
      case refine_2 => (intro w hSw; (try dsimp only at hSw); go_simp; all_goals (with_reducible rfl))
      (try simp only [Act.put]); (try simp only [List.setIfInBounds_toArray]); (try simp only [List.set_cons_succ]); (try simp only [List.set_cons_zero])
      refine wpAnyH_take (i := 3) (v := ?_) opAt3 (by kernel_rfl) (by kernel_rfl) (by kernel_rfl) (fun _ _ _ h => h) (Or.inl ⟨by rfl, ?_⟩) hHeld ?_
      case refine_2 => (intro w hSw; (try dsimp only at hSw); go_simp; all_goals (with_reducible rfl))
      (try simp only [Act.put]); (try simp only [List.setIfInBounds_toArray]); (try simp only [List.set_cons_succ]); (try simp only [List.set_cons_zero])
      refine wpAnyH_take (i := 4) (v := ?_) opAt4 (by kernel_rfl) (by kernel_rfl) (by kernel_rfl) (fun _ _ _ h => h) (Or.inl ⟨by rfl, ?_⟩) hHeld ?_
      case refine_2 => (intro w hSw; (try dsimp only at hSw); go_simp; all_goals (with_reducible rfl))
      (try simp only [Act.put]); (try simp only [List.setIfInBounds_toArray]); (try simp only [List.set_cons_succ]); (try simp only [List.set_cons_zero])
      refine wpAnyH_take (i := 5) (v := ?_) opAt5 (by kernel_rfl) (by kernel_rfl) (by kernel_rfl) (fun _ _ _ h => h) (Or.inl ⟨by rfl, ?_⟩) hHeld ?_
      case refine_2 => (intro w hSw; (try dsimp only at hSw); go_simp; all_goals (with_reducible rfl))
      (try simp only [Act.put]); (try simp only [List.setIfInBounds_toArray]); (try simp only [List.set_cons_succ]); (try simp only [List.set_cons_zero])
      refine wpAnyH_take (i := 6) (v := ?_) opAt6 (by kernel_rfl) (by kernel_rfl) (by kernel_rfl) (fun _ _ _ h => h) (Or.inl ⟨by rfl, ?_⟩) hHeld ?_
      case refine_2 => (intro w hSw; (try dsimp only at hSw); go_simp; all_goals (with_reducible rfl))
      (try simp only [Act.put]); (try simp only [List.setIfInBounds_toArray]); (try simp only [List.set_cons_succ]); (try simp only [List.set_cons_zero])
      refine wpAnyH_take (i := 7) (v := ?_) opAt7 (by kernel_rfl) (by kernel_rfl) (by kernel_rfl) (fun _ _ _ h => h) (Or.inl ⟨by rfl, ?_⟩) hHeld ?_
      case refine_2 => (intro w hSw; (try dsimp only at hSw); go_simp; all_goals (with_reducible rfl))
      (try simp only [Act.put]); (try simp only [List.setIfInBounds_toArray]); (try simp only [List.set_cons_succ]); (try simp only [List.set_cons_zero])
      refine wpAnyH_ready (rs := [8]) (by kernel_rfl) (by simp) ?_
      refine AllReadyH.cons opAt8 (fun K hK => ?_) AllReadyH.nil
      go_simp
      go_at_call 28; refine (left_one _ base t u R (T2.out.kept ((Kept.refl (fun _ => False) wr).drew) (fun _ _ f => f)) (U2.out.keptF ((Kept.refl (fun _ => False) wr).drew)) hrl).mono ?_; rintro e w4 ⟨rfl, k4⟩; have K4 := Lib.hid ((Kept.refl (fun _ => False) wr).drew.trans k4 (T := fun _ => False) (fun _ _ f => f) (fun _ _ f => f)); dsimp only
      refine hK.out _ _ ?_ (fun hHeld => ?_)
      · exact ⟨k4.cell hHeld.1 (fun f => f), k4.cell hHeld.2 (fun f => f)⟩
      clear hK K
      (try simp only [Act.put]); (try simp only [List.setIfInBounds_toArray]); (try simp only [List.set_cons_succ]); (try simp only [List.set_cons_zero])
      refine wpAnyH_take (i := 9) (v := ?_) opAt9 (by kernel_rfl) (by kernel_rfl) (by kernel_rfl) (fun _ _ _ h => h) (Or.inl ⟨by rfl, ?_⟩) hHeld ?_
      case refine_2 => (intro w hSw; (try dsimp only at hSw); go_simp; all_goals (with_reducible rfl))
      (try simp only [Act.put]); (try simp only [List.setIfInBounds_toArray]); (try simp only [List.set_cons_succ]); (try simp only [List.set_cons_zero])
      refine wpAnyH_done (by kernel_rfl) ?_ _
      go_wp2
      go_roundg (gk - 1)
      case measure => have := J.out; omega
      case rel => exact ⟨k + 1, by have := J.out; omega, by go_num, KF.out.trans K4.out (fun _ _ f => f) (fun _ _ f => f)⟩
    · have hk2 : k = L.length := by omega
      have e3 : ¬ (k : Int) < (L.length : Int) := by omega
      go_wp2
      go_ret
      exact ⟨rfl, KF.out⟩
end Go.Proofs.Ytfhpjopdndnmgaa
