/- trees.each: the iterator over a tree's spans, against whatever loop. -/
import Derived.Test.YtjidldbolbjdpaaConcat
import Derived.RangeFuncKeeps
import Derived.RangeFuncLeaves
import Derived.Shelf.Abstract
import Derived.OwnWalkIn
import Derived.TacticsInMore
import Derived.LoopNIn
import Derived.LoopIn
import Derived.Sort.LoopGhostIn
namespace Go.Proofs.Ytjidldbolbjdpaa
open Go.RowKit
attribute [local go_sem] Oper.semAt_some

theorem flat_app : ∀ a b : Fr, (a.app b).flat = a.flat ++ b.flat
  | .nil, _ => rfl
  | .cons s k r, b => by simp [Fr.app, Fr.flat, flat_app r b]
theorem app_len : ∀ a b : Fr, (a.app b).len = a.len + b.len
  | .nil, b => by simp [Fr.app, Fr.len]
  | .cons s k r, b => by simp [Fr.app, Fr.len, app_len r b]; omega
theorem app_size : ∀ a b : Fr, (a.app b).size = a.size + b.size
  | .nil, b => by simp [Fr.app, Fr.size]
  | .cons s k r, b => by simp [Fr.app, Fr.size, app_size r b]; omega
/-- What the caller of an iterator keeps between two rounds: J of the blocks T, of what has come, of the world. -/
structure Caller (l N : Nat) (m : Nat) (J : (Nat → Prop) → List Spn → World → Prop) : Prop where
  kept : ∀ T pre S W W', J T pre W → Kept S W W' → (∀ b, T b → ¬ S b) → J T pre W'
  lt : ∀ T pre W, J T pre W → ∀ b, T b → b < W.heap.size
  round : ∀ T pre x W, J T pre W → pre.length < N → YieldAt Fence.wide m Try.prog l #[aggS x] W fun e W' => e = .returned (.bool true) ∧ ∃ T', J T' (pre ++ [x]) W' ∧ Kept T W W' ∧ ∀ b, b < W.heap.size → T' b → T b
/-- Where the iterator stands between two rounds: f is left, pre has come. -/
structure EachAt (W : World) (T0 : Nat → Prop) (J : (Nat → Prop) → List Spn → World → Prop) (wr : World) (v : Value) (f : Fr) (T : Nat → Prop) (pre : List Spn) : Prop where
  j : J T pre wr
  left : ReadsF (fun k => ¬ T k) wr v f
  kp : Kept T0 W wr
  tb : ∀ b, b < W.heap.size → T b → T0 b
section
variable {W wr w' : World} {T0 T T' : Nat → Prop} {v v' : Value} {f f' : Fr} {N k m : Nat} {J : (Nat → Prop) → List Spn → World → Prop} {pre pre' : List Spn}
theorem EachAt.round (h : EachAt W T0 J wr v f T pre) (h1 : J T' pre' w') (h2 : Kept T wr w') (h3 : ∀ b, b < wr.heap.size → T' b → T b) (h4 : ReadsF (fun k => ¬ T k) wr v' f') : EachAt W T0 J w' v' f' T' pre' where
  j := h1
  left := h4.keptS h2 (fun _ _ h => h) (fun k hk hn ht => hn (h3 k hk ht))
  kp := h.kp.trans h2 (fun _ _ e => e) (fun c hc e => h.tb c hc e)
  tb := fun c hc e => h.tb c hc (h3 c (Nat.lt_of_lt_of_le hc h.kp.size) e)
theorem EachAt.moved (hJ : Caller k N m J) (h : EachAt W T0 J wr v f T pre) (h2 : Kept (fun _ => False) wr w') (h4 : ReadsF (fun k => ¬ T k) w' v' f') : EachAt W T0 J w' v' f' T pre where
  j := hJ.kept T pre _ wr w' h.j h2 (fun _ _ f => f)
  left := h4
  kp := h.kp.trans h2 (fun _ _ e => e) (fun _ _ f => f.elim)
  tb := h.tb
end
theorem slice_tail (g o n cap : Nat) (h : n + 1 ≤ cap) : ∃ X : Addr, (0 < n → X = ⟨g, o + 9, none⟩) ∧
    ∀ W, (Instr.slice 26 (.slice (some ⟨g, o, none⟩) (n + 1) cap) (some (.int .i64 1)) none none).run Try.prog W = .ok (.slice (some X) n (cap - 1)) W := by
  have i2 : ¬ ((n : Int) + 1 < 1) := by omega
  by_cases hc : cap = 1
  · obtain rfl : n = 0 := by omega
    subst hc
    exact ⟨⟨g, o, none⟩, fun h => by omega, fun W => by simp [go_sem]⟩
  · exact ⟨⟨g, o + 9, none⟩, fun _ => rfl, fun W => by simp [go_sem, hc, i2]⟩

set_option maxRecDepth 100000 in
set_option maxHeartbeats 4000000 in
theorem each_in (n : Nat) (hn : 1 ≤ n) (k bx : Nat) (rv ov : Value) (a b : Fr) (J : (Nat → Prop) → List Spn → World → Prop) (tot : List Spn) (htot : (a.app b).flat = tot) (hJ : Caller k tot.length (n - 1) J) (T : Nat → Prop) (W : World)
    (h0 : J T [] W) (c0 : W.cell? ⟨bx, 0, none⟩ = some rv) (c1 : W.cell? ⟨bx, 1, none⟩ = some ov) (ha : ReadsF (fun k => ¬ T k) W rv a) (hb : ReadsF (fun k => ¬ T k) W ov b) (hsz : tot.length ≤ 1000) :
    CallsIn Fence.wide n Try.prog 38 #[.func (.yield k) #[] #[], .pointer (some ⟨bx, 0, none⟩)] W fun e W' => (∃ u, e = .returned u) ∧
      ∃ T', J T' tot W' ∧ Kept T W W' ∧ ∀ b, b < W.heap.size → T' b → T b := by
  have bxl := World.block_lt_of_cell? _ _ c0
  simp only at bxl
  have HA := Lib.hid ha; have HB := Lib.hid hb; have CJ := Lib.hid hJ; have J0 := Lib.hid h0; have HTOT := Lib.hid htot
  obtain ⟨xa, xc, e1, _⟩ := ha
  obtain ⟨xb, xd, e2, _⟩ := hb
  have hlen : a.len + b.len ≤ 3000 := by
    have h1 := size_len (a.app b)
    rw [app_len, ← size_flat, htot] at h1
    omega
  obtain ⟨n1, hn1⟩ : ∃ n, a.len = n := ⟨_, rfl⟩
  obtain ⟨n2, hn2⟩ : ∃ n, b.len = n := ⟨_, rfl⟩
  rw [hn1] at e1
  rw [hn2] at e2
  subst e1 e2
  have HL := Lib.hid hlen
  clear hn1 hn2 htot hJ h0 hlen
  refine callsIn_of_wp Try.func38 rfl trivial ?_ rfl
  simp only [Try.ntmps38, List.size_toArray, List.length_cons, List.length_nil, Nat.reduceAdd, Nat.reduceSub, Array.replicate_succ, Array.replicate_zero, List.push_toArray, List.append_toArray, List.nil_append, List.cons_append]
  gi_wp2_with fail
  refine ⟨trivial, (callsIn_wide.2 (concat_any (fun k => ¬ T k) _ W.heap.size (.slice xa n1 xc) (.slice xb n2 xd) a b (by simp) (by simp) (HA.out.kept ((Kept.refl _ W).alloc _)) (HB.out.kept ((Kept.refl _ W).alloc _)) HL.out)).mono ?_⟩
  rintro e w1 ⟨v1, rfl, r1, q1, k1⟩
  have E0 := Lib.hid (show EachAt W T J w1 v1 (a.app b) T [] from ⟨CJ.out.kept T [] _ W w1 J0.out (keptFF ((Kept.refl (fun _ => False) W).alloc _) k1) (fun _ _ f => f), r1.keptS (Kept.refl (fun _ => False) w1) (fun _ _ _ f => f) (fun q _ hs => hs.elim id (fun h ht => by have h2 := CJ.out.lt T [] W J0.out q ht; have h3 : (W.alloc (.cells #[.slice xa n1 xc, .slice xb n2 xd] 26)).heap.size = W.heap.size + 1 := Array.size_push _; omega)), (keptFF ((Kept.refl (fun _ => False) W).alloc _) k1).mono (fun _ _ f => f.elim), fun _ _ h => h⟩)
  have Q1 := Lib.hid q1
  obtain ⟨y1, z1, ev, _⟩ := id r1
  obtain ⟨m1, hm1⟩ : ∃ n, (a.app b).len = n := ⟨_, rfl⟩
  rw [hm1] at ev
  have HM1 := Lib.hid hm1
  have HSZ := Lib.hid (show (a.app b).size = tot.length from by rw [← size_flat, HTOT.out])
  subst ev
  clear r1 q1 k1 hm1 c0 c1 bxl
  gi_wp2
  gi_loopg [3] tot.length (fun g s3 wr => ∃ (x : Option Addr) (fn cap : Nat) (f : Fr) (T1 : Nat → Prop) (pre : List Spn), s3 = .slice x fn cap ∧ f.len = fn ∧ fn ≤ cap ∧ EachAt W T J wr (.slice x fn cap) f T1 pre ∧ pre ++ f.flat = tot ∧ f.size = g)
  case atStart => exact ⟨y1, m1, z1, a.app b, T, [], rfl, HM1.out, Q1.out _ _ _ rfl, E0.out, HTOT.out, HSZ.out⟩
  case round =>
    obtain ⟨x, fn, cap, f, T1, pre, rfl, hfn, hcap, he, htot, hfs⟩ := hrel
    have EE := Lib.hid he; have TOT := Lib.hid htot; have FS := Lib.hid hfs; have FN := Lib.hid hfn
    clear he htot hfs hfn
    cases f with
    | nil =>
      obtain rfl : fn = 0 := by have := FN.out; simp [Fr.len] at this; omega
      gi_wp2
      go_end0
      have hp : pre = tot := by have := TOT.out; simpa [Fr.flat] using this
      exact ⟨⟨_, rfl⟩, T1, by rw [← hp]; exact EE.out.j, EE.out.kp, EE.out.tb⟩
    | cons s kk r =>
      obtain ⟨g1, o1, rfl, hrow⟩ : ∃ g o, x = some ⟨g, o, none⟩ ∧ RowF (fun k => ¬ T1 k) wr g o (.cons s kk r) := by
        obtain ⟨x', c', e1, h⟩ := EE.out.left
        cases e1
        exact h.resolve_left (fun h => by cases h)
      obtain ⟨rn, hrn⟩ : ∃ n, r.len = n := ⟨_, rfl⟩
      obtain rfl : fn = rn + 1 := by have := FN.out; simp only [Fr.len] at this; omega
      obtain ⟨_, hs, ⟨ka, kc, kx, rk⟩, rr⟩ := hrow
      obtain ⟨kn, hkn⟩ : ∃ n, kk.len = n := ⟨_, rfl⟩
      have s0 := hs 0 _ rfl; have s1 := hs 1 _ rfl; have s2 := hs 2 _ rfl; have s3 := hs 3 _ rfl; have s4 := hs 4 _ rfl; have s5 := hs 5 _ rfl; have s6 := hs 6 _ rfl; have s7 := hs 7 _ rfl
      simp only [Nat.add_zero] at s0
      have bl := World.block_lt_of_cell? _ _ kx
      simp only at bl
      obtain ⟨X, hX, hsl⟩ := slice_tail g1 o1 rn cap hcap
      have RKr := Lib.hid (show ReadsF (fun k => ¬ T1 k) wr (.slice ka kn kc) kk from ⟨ka, kc, by rw [hkn], rk⟩)
      have RRr := Lib.hid (show ReadsF (fun k => ¬ T1 k) wr (.slice (some X) rn (cap - 1)) r from ⟨some X, cap - 1, by rw [hrn], by
        cases hr : r with
        | nil => exact .inl rfl
        | cons s' k' r' => exact .inr ⟨g1, o1 + 9, by rw [hX (by rw [← hrn, hr]; simp [Fr.len])], by rw [← hr]; exact rr⟩⟩)
      have LL := Lib.hid (show kk.len + r.len ≤ 3000 from by
        have h1 := size_len kk; have h2 := size_len r; have h3 := TOT.out
        have h4 : (pre ++ (Fr.cons s kk r).flat).length = tot.length := by rw [h3]
        rw [List.length_append, size_flat] at h4
        simp only [Fr.size] at h4; omega)
      have PL := Lib.hid (show pre.length < tot.length from by rw [← TOT.out]; simp [Fr.flat])
      have TOT2 := Lib.hid (show (pre ++ [s]) ++ (kk.app r).flat = tot from by rw [← TOT.out, flat_app]; simp [Fr.flat])
      have FS2 := Lib.hid (show (kk.app r).size + 1 = gk from by rw [← FS.out, app_size]; rfl)
      rw [hkn] at kx
      have HKN := Lib.hid hkn; have HRN := Lib.hid hrn
      clear hs rk rr hX hkn hrn
      obtain ⟨W2, hW2⟩ : ∃ W, wr.alloc (.cells #[.int .i64 s.tr, .int .i64 s.id, .int .i64 s.pa, .string s.se, .string s.ho, .int .i64 s.st, .int .i64 s.du, .string s.no, .slice ka kn kc] 39) = W := ⟨_, rfl⟩
      have kw2 : Kept (fun _ => False) wr W2 := by rw [← hW2]; exact (Kept.refl _ wr).alloc _
      have hx2 : W2.ownsRow wr.heap.size 39 9 (.slice (some ⟨wr.heap.size, 0, none⟩) 1 1) 1 (s.cells ++ [Value.slice ka kn kc]) := by
        rw [← hW2]
        have h := World.ownsRow_lit (e := 39) (size := 9) wr (s.cells ++ [Value.slice ka kn kc]).toArray 1 (Nat.le_refl wr.heap.size) (by unfold maxLen; omega) (by rfl)
        simpa [Spn.cells] using h
      have jw2 := CJ.out.kept T1 pre _ wr W2 EE.out.j kw2 (fun _ _ f => f)
      have XT := Lib.hid (show ¬ T1 wr.heap.size from fun h => Nat.lt_irrefl _ (CJ.out.lt T1 pre wr EE.out.j _ h))
      have KW2 := Lib.hid kw2; have HX2 := Lib.hid hx2
      obtain ⟨fnI, tmps, assign, body, hy, hR⟩ := CJ.out.round T1 pre s W2 jw2 PL.out
      obtain ⟨xb, hxb⟩ : ∃ q, wr.heap.size = q := ⟨_, rfl⟩
      have x0 := own_cellN HX2.out (i := 0) rfl; have x1 := own_cellN HX2.out (i := 1) rfl; have x2 := own_cellN HX2.out (i := 2) rfl; have x3 := own_cellN HX2.out (i := 3) rfl
      have x4 := own_cellN HX2.out (i := 4) rfl; have x5 := own_cellN HX2.out (i := 5) rfl; have x6 := own_cellN HX2.out (i := 6) rfl; have x7 := own_cellN HX2.out (i := 7) rfl
      have XB := Lib.hid hxb
      rw [hxb] at HX2 XT x0 x1 x2 x3 x4 x5 x6 x7
      unfold aggS at hy
      clear kw2 hx2 jw2
      gi_wp2
      refine hR.mono ?_
      rintro e W3 ⟨rfl, T2, j2, k2, t2⟩
      have K23 := Lib.hid k2; have TT := Lib.hid t2; have JJ := Lib.hid j2
      have E3 := Lib.hid ((EE.out.moved CJ.out KW2.out (RRr.out.kept KW2.out)).round j2 k2 t2 (RRr.out.kept KW2.out))
      have RK := Lib.hid ((RKr.out.kept KW2.out).keptS k2 (fun _ _ h => h) (fun q hq hn ht => hn (t2 q hq ht)))
      have RR := Lib.hid E3.out.left
      have x8 := k2.cell (own_cellN HX2.out (i := 8) rfl) XT.out
      clear hR hy j2 k2 t2 x0 x1 x2 x3 x4 x5 x6 x7 s0 s1 s2 s3 s4 s5 s6 s7 kx bl hxb hW2
      gi_wp2
      refine wpIn_wide.2 ?_
      refine wp_region_held_drew (S := (fun w' => w'.cell? ⟨xb, 8, none⟩ = some (.slice ka kn kc))) (by kernel_rfl) ?_ (fun hHeld => ?_)
      · exact x8
      refine wpAnyH_take (i := 0) (v := ?_) opAt0 (by kernel_rfl) (by kernel_rfl) (by kernel_rfl) (fun _ _ _ h => h) (Or.inl ⟨by rfl, ?_⟩) hHeld ?_
      case refine_2 => (intro w hSw; (try dsimp only at hSw); go_simp; all_goals (with_reducible rfl))
      (try simp only [Act.put]); (try simp only [List.setIfInBounds_toArray]); (try simp only [List.set_cons_succ]); (try simp only [List.set_cons_zero])
      refine wpAnyH_take (i := 1) (v := ?_) opAt1 (by kernel_rfl) (by kernel_rfl) (by kernel_rfl) (fun _ _ _ h => h) (Or.inl ⟨by rfl, ?_⟩) hHeld ?_
      case refine_2 => (intro w hSw; (try dsimp only at hSw); go_simp; all_goals (with_reducible rfl))
      (try simp only [Act.put]); (try simp only [List.setIfInBounds_toArray]); (try simp only [List.set_cons_succ]); (try simp only [List.set_cons_zero])
      refine wpAnyH_take (i := 2) (v := ?_) opAt2 (by kernel_rfl) (by kernel_rfl) (by kernel_rfl) (fun _ _ _ h => h) (Or.inl ⟨by rfl, ?_⟩) hHeld ?_
      case refine_2 => (intro w hSw; (try dsimp only at hSw); go_simp; all_goals (with_reducible rfl))
      (try simp only [Act.put]); (try simp only [List.setIfInBounds_toArray]); (try simp only [List.set_cons_succ]); (try simp only [List.set_cons_zero])
      refine wpAnyH_take (i := 3) (v := ?_) opAt3 (by kernel_rfl) (by kernel_rfl) (by kernel_rfl) (fun _ _ _ h => h) (Or.inl ⟨by rfl, ?_⟩) hHeld ?_
      case refine_2 => (intro w hSw; (try dsimp only at hSw); go_simp; all_goals (with_reducible rfl))
      (try simp only [Act.put]); (try simp only [List.setIfInBounds_toArray]); (try simp only [List.set_cons_succ]); (try simp only [List.set_cons_zero])
      refine wpAnyH_gen (fun V => Kept (fun _ => False) W3 V) ⟨rfl, rfl, rfl, Nat.le_refl _, fun _ _ _ => rfl⟩ ?_
      rintro V0 k0'
      have K0 := Lib.hid k0'
      have hHeld : V0.cell? ⟨xb, 8, none⟩ = some (.slice ka kn kc) := k0'.cell x8 (fun f => f)
      clear k0'
      refine wpAnyH_ready (rs := [4]) (by kernel_rfl) (by simp) ?_
      refine AllReadyH.cons opAt4 (fun K hK => ?_) AllReadyH.nil
      go_simp
      have hk := (Kept.refl (fun _ => False) V0).alloc (.cells #[.slice ka kn kc, .slice (some X) rn (cap - 1)] 26)
      have q0 : (V0.alloc (.cells #[.slice ka kn kc, .slice (some X) rn (cap - 1)] 26)).cell? ⟨V0.heap.size, 0, none⟩ = some (.slice ka kn kc) := by simp
      have q1 : (V0.alloc (.cells #[.slice ka kn kc, .slice (some X) rn (cap - 1)] 26)).cell? ⟨V0.heap.size, 1, none⟩ = some (.slice (some X) rn (cap - 1)) := by simp
      refine hK.out _ (V0.alloc (.cells #[.slice ka kn kc, .slice (some X) rn (cap - 1)] 26)) ?_ (fun hHeld => ?_)
      · exact hk.cell hHeld (fun f => f)
      clear hK K
      (try simp only [Act.put]); (try simp only [List.setIfInBounds_toArray]); (try simp only [List.set_cons_succ]); (try simp only [List.set_cons_zero])
      obtain ⟨V1, hV1⟩ : ∃ V, V0.alloc (.cells #[.slice ka kn kc, .slice (some X) rn (cap - 1)] 26) = V := ⟨_, rfl⟩
      obtain ⟨pb, hpb⟩ : ∃ s, V0.heap.size = s := ⟨_, rfl⟩
      rw [hV1] at hk q0 q1 hHeld ⊢
      rw [hpb] at q0 q1 ⊢
      have K1 := Lib.hid (keptFF K0.out hk)
      have Q0 := Lib.hid q0
      have Q1 := Lib.hid q1
      clear hV1 hpb hk q0 q1
      refine wpAnyH_ready (rs := [5]) (by kernel_rfl) (by simp) ?_
      refine AllReadyH.cons opAt5 (fun K hK => ?_) AllReadyH.nil
      go_simp
      go_at_call 39
      refine (concat_any (fun q => ¬ T2 q) V1 pb (.slice ka kn kc) (.slice (some X) rn (cap - 1)) kk r Q0.out Q1.out (RK.out.kept K1.out) (RR.out.kept K1.out) (by have := LL.out; omega)).mono ?_
      rintro e V2 ⟨v2, rfl, r2, q2, k2⟩
      obtain ⟨x2', c2', ev2, _⟩ := id r2
      obtain ⟨m2, hm2⟩ : ∃ n, (kk.app r).len = n := ⟨_, rfl⟩
      rw [hm2] at ev2
      have HM2 := Lib.hid hm2
      subst ev2
      clear hm2
      have RD := Lib.hid r2
      have QL := Lib.hid q2
      have K2 := Lib.hid (keptFF K1.out k2)
      have K12 := Lib.hid k2
      clear r2 q2 k2
      dsimp only
      refine hK.out _ _ ?_ (fun hHeld => ?_)
      · exact K12.out.cell hHeld (fun f => f)
      clear hK K
      (try simp only [Act.put]); (try simp only [List.setIfInBounds_toArray]); (try simp only [List.set_cons_succ]); (try simp only [List.set_cons_zero])
      refine wpAnyH_take (i := 6) (v := ?_) opAt6 (by kernel_rfl) (by kernel_rfl) (by kernel_rfl) (fun _ _ _ h => h) (Or.inl ⟨by rfl, ?_⟩) hHeld ?_
      case refine_2 => (intro w hSw; (try dsimp only at hSw); go_simp; all_goals (with_reducible rfl))
      (try simp only [Act.put]); (try simp only [List.setIfInBounds_toArray]); (try simp only [List.set_cons_succ]); (try simp only [List.set_cons_zero])
      refine wpAnyH_done (by kernel_rfl) ?_ _
      gi_wp2
      gi_roundg ((kk.app r).size)
      case measure => have := FS2.out; omega
      case rel => exact ⟨x2', m2, c2', kk.app r, T2, pre ++ [s], rfl, HM2.out, QL.out _ _ _ rfl, E3.out.moved CJ.out K2.out (RD.out.keptS (Kept.refl (fun _ => False) V2) (fun _ _ _ f => f) (fun q _ hs => hs.elim id (fun h ht => by have h2 := CJ.out.lt T2 (pre ++ [s]) W3 JJ.out q ht; have h3 := K1.out.size; omega))), TOT2.out, rfl⟩
end Go.Proofs.Ytjidldbolbjdpaa
