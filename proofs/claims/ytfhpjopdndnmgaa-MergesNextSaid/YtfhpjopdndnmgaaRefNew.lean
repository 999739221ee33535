/- The document's Newest, walked: of each key the first one. -/
import Derived.Test.YtfhpjopdndnmgaaRefAll2
namespace Go.Proofs.Ytfhpjopdndnmgaa
open Go.RowKit

/-- Where the document's Newest stands: k cells of the list have been gone through. -/
structure RN (w : World) (l : List Cel) (vl : Value) (wr : World) (k : Nat) (v : Value) (out : List Cel) : Prop where
  eq : out = firstF (l.take k)
  kp : Kept (fun _ => False) w wr
  list : wr.ownsRow w.heap.size 36 3 vl l.length (cellsC l)
  own : wr.ownsRow w.heap.size 36 3 v out.length (cellsC out)
  dis : ∀ c, vl.ownBlock = some c → v.ownBlock ≠ some c
  last : 0 < k → 0 < out.length ∧ (nth out (out.length - 1)).k = (nth l (k - 1)).k

set_option maxRecDepth 100000 in
set_option maxHeartbeats 8000000 in
theorem rnewest_any (w : World) (v0 : Value) (L : List (List Cel)) (h : ReadsR w v0 L) (hL : L.length ≤ 50) (hl : ∀ R ∈ L, R.length ≤ 1000) (ht : total L ≤ 1000) :
    Calls Try.prog 14 #[v0] w fun e w' => Kept (fun _ => False) w w' ∧
      ((L.all sortedB = false ∧ e = .returned (.tuple #[.slice none 0 0, .int .i64 2])) ∨
       (L.all sortedB = true ∧ ∃ u, e = .returned (.tuple #[u, .int .i64 0]) ∧ w'.ownsRow w.heap.size 36 3 u (firstF (mergeL L)).length (cellsC (firstF (mergeL L))))) := by
  have RA := Lib.hid (rall_any w v0 L h hL hl ht)
  obtain ⟨i0, hi0, hz0, hz1, hz2⟩ := info_parts inf36
  clear h hl
  go_enter Try.func14, Try.ntmps14
  go_wp2_with fail
  refine RA.out.mono ?_
  rintro e w1 ⟨K1, ⟨ha, rfl⟩ | ⟨ha, vl, rfl, hlist⟩⟩
  · have KK1 := Lib.hid K1; have HA := Lib.hid ha; clear K1 ha
    go_wp2
    refine bodyPost_ret (v := _) (by simp [results, Try.results14, go_sem]; try rfl) rfl ?_
    exact ⟨KK1.out, .inl ⟨HA.out, rfl⟩⟩
  · obtain ⟨Ml, hMl⟩ : ∃ m, mergeL L = m := ⟨_, rfl⟩
    have hml : Ml.length ≤ 1000 := by rw [← hMl]; have := mergeF_length (total L) L; unfold mergeL; omega
    rw [hMl] at hlist
    have MLH := Lib.hid hMl
    have KK1 := Lib.hid K1; have HA := Lib.hid ha; have LI := Lib.hid hlist
    have hf : ∃ al cl, vl = .slice al Ml.length cl := by
      rcases row_form hlist with ⟨rfl, hn⟩ | ⟨g, c, rfl, _⟩
      · exact ⟨none, 0, by rw [hn]⟩
      · exact ⟨_, c, rfl⟩
    obtain ⟨al, cl, rfl⟩ := hf
    obtain ⟨vl, hvl⟩ : ∃ vl, Value.slice al Ml.length cl = vl := ⟨_, rfl⟩
    have VL := Lib.hid hvl
    rw [hvl] at LI
    clear K1 ha hlist hMl hvl RA
    go_wp2
    go_loopg [6, 7] Ml.length (fun g s t wr => ∃ k : Nat, k + g = Ml.length ∧ t = .int .i64 k ∧ ∃ ao2 cap2 out, s = .slice ao2 out.length cap2 ∧ RN w Ml vl wr k (.slice ao2 out.length cap2) out)
    case atStart => exact ⟨0, by omega, rfl, none, 0, [], rfl, rfl, KK1.out, LI.out, World.ownsRow_nil _ _ _ _, fun c hc => by simp [Value.ownBlock], by omega⟩
    case round =>
      obtain ⟨k, hk, rfl, ao2, cap2, out, rfl, r1, r2, r3, r4, r5, r6⟩ := hrel
      have hk1 : k ≤ Ml.length := by omega
      have JK := Lib.hid hk; have EQ := Lib.hid r1; have KF := Lib.hid r2; have LR := Lib.hid r3; have OO := Lib.hid r4; have DI := Lib.hid r5; have LA := Lib.hid r6
      have hol : out.length ≤ k := by rw [r1]; have := firstF_length (Ml.take k); rw [List.length_take] at this; omega
      clear hk r1 r2 r3 r4 r5 r6
      by_cases hlt : k < Ml.length
      · obtain ⟨x, hx⟩ : ∃ x, nth Ml k = x := ⟨_, rfl⟩
        have hxk := nth_get Ml hlt
        rw [hx] at hxk
        have htk : Ml.take (k + 1) = Ml.take k ++ [x] := by rw [List.take_add_one, hxk]; rfl
        have hfs : firstF (Ml.take (k + 1)) = addF out x := by rw [htk, firstF_snoc, EQ.out]
        obtain ⟨gl, hgl, hcl⟩ : ∃ gl, al = some ⟨gl, 0, none⟩ ∧ ∀ i u, (cellsC Ml)[i]? = some u → wr.cell? ⟨gl, i, none⟩ = some u := by
          have h := LR.out
          rw [← VL.out] at h
          rcases row_form h with ⟨_, hn⟩ | ⟨g, c, he, _, _, _, h6⟩
          · omega
          · simp only [Value.slice.injEq] at he
            exact ⟨g, he.1, h6⟩
        subst hgl
        obtain ⟨x0, x1, x2⟩ := cellsC_get Ml k x hxk
        have y0 := hcl _ _ x0
        have y1 := hcl _ _ x1
        have y2 := hcl _ _ x2
        have i1 : (0 : Int) ≤ (k : Int) := by omega
        have i2 : (k : Int) < (Ml.length : Int) := by omega
        have FS := Lib.hid hfs; have HX := Lib.hid hx; have TK := Lib.hid htk
        clear x0 x1 x2 hxk htk hfs hx
        by_cases hk0 : k = 0
        · have hst : stays out x = true := by
            have : out.length = 0 := by omega
            unfold stays; simp [this]
          have ROUT0 : out ++ [x] = firstF (Ml.take (k + 1)) := by rw [FS.out]; unfold addF; rw [if_pos hst]
          have RO := Lib.hid ROUT0
          have n1 : (k : Int) = 0 := by omega
          have n2 : ((k : Int) == 0) = true := by simp; omega
          have N1 := Lib.hid n1
          clear hst ROUT0 hcl n1 hk0
          go_wp2
          refine wp_region_held_drew (S := (fun _ => True)) (by kernel_rfl) ?_ (fun hHeld => ?_)
          · trivial
          refine wpAnyH_take (i := 0) (v := ?_) opAt0 (by kernel_rfl) (by kernel_rfl) (by kernel_rfl) (fun _ _ _ h => h) (Or.inl ⟨by rfl, ?_⟩) hHeld ?_
          case refine_2 => (intro w hSw; (try dsimp only at hSw); go_simp; all_goals (with_reducible rfl))
          (try simp only [Act.put]); (try simp only [List.setIfInBounds_toArray]); (try simp only [List.set_cons_succ]); (try simp only [List.set_cons_zero])
          refine wpAnyH_take (i := 1) (v := ?_) opAt1 (by kernel_rfl) (by kernel_rfl) (by kernel_rfl) (fun _ _ _ h => h) (Or.inl ⟨by rfl, ?_⟩) hHeld ?_
          case refine_2 => (intro w hSw; (try dsimp only at hSw); go_simp; all_goals (with_reducible rfl))
          (try simp only [Act.put]); (try simp only [List.setIfInBounds_toArray]); (try simp only [List.set_cons_succ]); (try simp only [List.set_cons_zero])
          refine wpAnyH_take (i := 2) (v := ?_) opAt2 (by kernel_rfl) (by kernel_rfl) (by kernel_rfl) (fun _ _ _ h => h) (Or.inl ⟨by rfl, ?_⟩) hHeld ?_
          case refine_2 => (intro w hSw; (try dsimp only at hSw); go_simp; all_goals (with_reducible rfl))
          (try simp only [Act.put]); (try simp only [List.setIfInBounds_toArray]); (try simp only [List.set_cons_succ]); (try simp only [List.set_cons_zero])
          refine wpAnyH_take (i := 3) opAt3 (by kernel_rfl) (by kernel_rfl) (by kernel_rfl) (fun _ _ _ h => h) (Or.inr ⟨by rfl, rfl⟩) hHeld ?_
          (try simp only [Act.put]); (try simp only [List.setIfInBounds_toArray]); (try simp only [List.set_cons_succ]); (try simp only [List.set_cons_zero])
          refine wpAnyH_take (i := 4) opAt4 (by kernel_rfl) (by kernel_rfl) (by kernel_rfl) (fun _ _ _ h => h) (Or.inr ⟨by rfl, rfl⟩) hHeld ?_
          (try simp only [Act.put]); (try simp only [List.setIfInBounds_toArray]); (try simp only [List.set_cons_succ]); (try simp only [List.set_cons_zero])
          refine wpAnyH_take (i := 5) opAt5 (by kernel_rfl) (by kernel_rfl) (by kernel_rfl) (fun _ _ _ h => h) (Or.inr ⟨by rfl, rfl⟩) hHeld ?_
          (try simp only [Act.put]); (try simp only [List.setIfInBounds_toArray]); (try simp only [List.set_cons_succ]); (try simp only [List.set_cons_zero])
          refine wpAnyH_take (i := 6) opAt6 (by kernel_rfl) (by kernel_rfl) (by kernel_rfl) (fun _ _ _ h => h) (Or.inr ⟨by rfl, rfl⟩) hHeld ?_
          (try simp only [Act.put]); (try simp only [List.setIfInBounds_toArray]); (try simp only [List.set_cons_succ]); (try simp only [List.set_cons_zero])
          refine wpAnyH_take (i := 7) opAt7 (by kernel_rfl) (by kernel_rfl) (by kernel_rfl) (fun _ _ _ h => h) (Or.inr ⟨by rfl, rfl⟩) hHeld ?_
          (try simp only [Act.put]); (try simp only [List.setIfInBounds_toArray]); (try simp only [List.set_cons_succ]); (try simp only [List.set_cons_zero])
          refine wpAnyH_take (i := 8) opAt8 (by kernel_rfl) (by kernel_rfl) (by kernel_rfl) (fun _ _ _ h => h) (Or.inr ⟨by rfl, rfl⟩) hHeld ?_
          (try simp only [Act.put]); (try simp only [List.setIfInBounds_toArray]); (try simp only [List.set_cons_succ]); (try simp only [List.set_cons_zero])
          refine wpAnyH_take (i := 9) opAt9 (by kernel_rfl) (by kernel_rfl) (by kernel_rfl) (fun _ _ _ h => h) (Or.inr ⟨by rfl, rfl⟩) hHeld ?_
          (try simp only [Act.put]); (try simp only [List.setIfInBounds_toArray]); (try simp only [List.set_cons_succ]); (try simp only [List.set_cons_zero])
          refine wpAnyH_take (i := 10) opAt10 (by kernel_rfl) (by kernel_rfl) (by kernel_rfl) (fun _ _ _ h => h) (Or.inr ⟨by rfl, rfl⟩) hHeld ?_
          (try simp only [Act.put]); (try simp only [List.setIfInBounds_toArray]); (try simp only [List.set_cons_succ]); (try simp only [List.set_cons_zero])
          refine wpAnyH_take (i := 11) opAt11 (by kernel_rfl) (by kernel_rfl) (by kernel_rfl) (fun _ _ _ h => h) (Or.inr ⟨by rfl, rfl⟩) hHeld ?_
          (try simp only [Act.put]); (try simp only [List.setIfInBounds_toArray]); (try simp only [List.set_cons_succ]); (try simp only [List.set_cons_zero])
          refine wpAnyH_take (i := 12) opAt12 (by kernel_rfl) (by kernel_rfl) (by kernel_rfl) (fun _ _ _ h => h) (Or.inr ⟨by rfl, rfl⟩) hHeld ?_
          (try simp only [Act.put]); (try simp only [List.setIfInBounds_toArray]); (try simp only [List.set_cons_succ]); (try simp only [List.set_cons_zero])
          refine wpAnyH_take (i := 13) opAt13 (by kernel_rfl) (by kernel_rfl) (by kernel_rfl) (fun _ _ _ h => h) (Or.inr ⟨by rfl, rfl⟩) hHeld ?_
          (try simp only [Act.put]); (try simp only [List.setIfInBounds_toArray]); (try simp only [List.set_cons_succ]); (try simp only [List.set_cons_zero])
          refine wpAnyH_take (i := 14) opAt14 (by kernel_rfl) (by kernel_rfl) (by kernel_rfl) (fun _ _ _ h => h) (Or.inr ⟨by rfl, rfl⟩) hHeld ?_
          (try simp only [Act.put]); (try simp only [List.setIfInBounds_toArray]); (try simp only [List.set_cons_succ]); (try simp only [List.set_cons_zero])
          refine wpAnyH_take (i := 15) (v := ?_) opAt15 (by kernel_rfl) (by kernel_rfl) (by kernel_rfl) (fun _ _ _ h => h) (Or.inl ⟨by rfl, ?_⟩) hHeld ?_
          case refine_2 => (intro w hSw; (try dsimp only at hSw); go_simp; all_goals (with_reducible rfl))
          (try simp only [Act.put]); (try simp only [List.setIfInBounds_toArray]); (try simp only [List.set_cons_succ]); (try simp only [List.set_cons_zero])
          refine wpAnyH_done (by kernel_rfl) ?_ _
          go_wp2_with (at_builtin; refine list_append _ rfl _ _ 25 rfl w.heap.size 36 i0 _ 3 40 Try.underlying25 hi0 hz0 hz1 hz2 rfl (by decide) _ _ _ rfl (World.ownsRow.drew (World.ownsRow.alloc OO.out _)) ⟨wr.heap.size, 0, none⟩ 1 1 [.string x.k, .int .i64 x.s, .string x.v] rfl rfl (World.news_of_block (w := (wr.alloc (Obj.cells #[Value.string x.k, Value.int .i64 x.s, Value.string x.v] 36)).drew) (heap_alloc_new wr _)) (by intro u hu; simp at hu; rcases hu with rfl | rfl | rfl <;> rfl) (by unfold maxLen; omega) (by omega) (by have := KF.out.size; show w.heap.size ≤ (wr.alloc _).heap.size; simp; omega) ?_; intro v5 w5 ho5 hg5 ha5; (have O5 := Lib.hid ho5); (have G5 := Lib.hid (grown_kept hg5)); (have A5 := Lib.hid ha5); (obtain ⟨ao5, cap5, rfl⟩ : ∃ a c, v5 = .slice a (out.length + 1) c := by (rcases row_form ho5 with ⟨_, hn⟩ | ⟨g, c, h, _⟩; omega; exact ⟨_, c, h⟩)); clear ho5 hg5 ha5)
          have gk1 : Kept (fun c => (Value.slice ao2 out.length cap2).ownBlock = some c) wr w5 := (((Kept.refl (fun _ => False) wr).alloc (Obj.cells #[Value.string x.k, Value.int .i64 x.s, Value.string x.v] 36)).drew).trans G5.out (fun _ _ f => f.elim) (fun _ _ h => h)
          have hat : ∀ c, (Value.slice ao5 (out.length + 1) cap5).ownBlock = some c → (Value.slice ao2 out.length cap2).ownBlock = some c ∨ wr.heap.size ≤ c := by
            intro c hc
            rcases A5.out with e | e
            · exact .inl (e ▸ hc)
            · right; rw [hc] at e
              have h := Option.some.inj e
              have h3 : (wr.alloc (Obj.cells #[Value.string x.k, Value.int .i64 x.s, Value.string x.v] 36)).drew.heap.size = wr.heap.size + 1 := by show (wr.alloc _).heap.size = _; simp
              omega
          have REL := Lib.hid (show RN w Ml vl w5 (k + 1) (.slice ao5 (out.length + 1) cap5) (out ++ [x]) from by
            refine ⟨RO.out, KF.out.trans gk1 (fun _ _ f => f) (fun c hc e => by have := (OO.out.lt c e).1; omega), own_keptS LR.out gk1 (fun c hc e => DI.out c hc e), ?_, fun c hc => ?_, fun _ => ⟨by simp, by simp [nth, ← HX.out]⟩⟩
            · have e2 : cellsC (out ++ [x]) = cellsC out ++ [.string x.k, .int .i64 x.s, .string x.v] := by rw [cellsC_append]; rfl
              rw [e2, List.length_append]; exact O5.out
            · intro e
              rcases hat c e with h | h
              · exact DI.out c hc h
              · have := (LR.out.lt c hc).2; omega)
          clear gk1 hat
          go_wp2
          go_roundg (gk - 1)
          case measure => have := JK.out; omega
          case rel => exact ⟨k + 1, by have := JK.out; omega, by go_num, ao5, cap5, out ++ [x], by simp, by have := REL.out; rwa [show (out ++ [x]).length = out.length + 1 by simp]⟩
        · obtain ⟨j, hj⟩ : ∃ j, k = j + 1 := ⟨k - 1, by omega⟩
          have e3 : IntKind.i64.wrap ((k : Int) - 1) = (j : Int) := by rw [show (k : Int) - 1 = (j : Int) by omega]; exact IntWalk.i64_in _ (by omega)
          have n1 : ¬ (k : Int) = 0 := by omega
          have n2 : ((k : Int) == 0) = false := by simp; omega
          have HJ := Lib.hid hj
          obtain ⟨p, hp⟩ : ∃ p, nth Ml j = p := ⟨_, rfl⟩
          have hpk := nth_get Ml (show j < Ml.length by omega)
          rw [hp] at hpk
          have z0 := hcl _ _ (cellsC_get Ml j p hpk).1
          obtain ⟨la1, la2⟩ := LA.out (by omega)
          have la3 : (nth out (out.length - 1)).k = p.k := by rw [la2, show k - 1 = j by omega, hp]
          have i3 : (j : Int) < (Ml.length : Int) := by omega
          have i4 : (0 : Int) ≤ (j : Int) := by omega
          have PP := Lib.hid hp; have L3 := Lib.hid la3
          clear hpk hcl la2 la3 hp hk0 hj
          have hor : (x.k.toList == p.k.toList) = true ∨ (x.k.toList == p.k.toList) = false := by cases (x.k.toList == p.k.toList) <;> simp
          rcases hor with he | he
          · have hst : stays out x = false := by
              unfold stays sEq; rw [L3.out, show (p.k.toList == x.k.toList) = true by rw [beq_iff_eq] at he ⊢; exact he.symm]
              have : out.length ≠ 0 := by omega
              simp [this]
            have hsame : firstF (Ml.take (k + 1)) = out := by rw [FS.out]; unfold addF; rw [hst]; rfl
            have SA := Lib.hid hsame
            have hkey : p.k = x.k := bytes_eq (by rw [beq_iff_eq] at he; exact he.symm)
            have HK := Lib.hid hkey; have LA1 := Lib.hid la1
            clear hst hsame hkey la1
            go_wp2
            refine wp_region_held_drew (S := (fun w' => w'.cell? ⟨gl, k * 3, none⟩ = some (.string x.k) ∧ w'.cell? ⟨gl, j * 3, none⟩ = some (.string p.k))) (by kernel_rfl) ?_ (fun hHeld => ?_)
            · exact ⟨y0, z0⟩
            refine wpAnyH_take (i := 0) (v := ?_) opAt0 (by kernel_rfl) (by kernel_rfl) (by kernel_rfl) (fun _ _ _ h => h) (Or.inl ⟨by rfl, ?_⟩) hHeld ?_
            case refine_2 => (intro w hSw; (try dsimp only at hSw); go_simp; all_goals (with_reducible rfl))
            (try simp only [Act.put]); (try simp only [List.setIfInBounds_toArray]); (try simp only [List.set_cons_succ]); (try simp only [List.set_cons_zero])
            refine wpAnyH_take (i := 1) (v := ?_) opAt1 (by kernel_rfl) (by kernel_rfl) (by kernel_rfl) (fun _ _ _ h => h) (Or.inl ⟨by rfl, ?_⟩) hHeld ?_
            case refine_2 => (intro w hSw; (try dsimp only at hSw); go_simp; all_goals (with_reducible rfl))
            (try simp only [Act.put]); (try simp only [List.setIfInBounds_toArray]); (try simp only [List.set_cons_succ]); (try simp only [List.set_cons_zero])
            refine wpAnyH_take (i := 2) (v := ?_) opAt2 (by kernel_rfl) (by kernel_rfl) (by kernel_rfl) (fun _ _ _ h => h) (Or.inl ⟨by rfl, ?_⟩) hHeld ?_
            case refine_2 => (intro w hSw; (try dsimp only at hSw); go_simp; all_goals (with_reducible rfl))
            (try simp only [Act.put]); (try simp only [List.setIfInBounds_toArray]); (try simp only [List.set_cons_succ]); (try simp only [List.set_cons_zero])
            refine wpAnyH_take (i := 3) (v := ?_) opAt3 (by kernel_rfl) (by kernel_rfl) (by kernel_rfl) (fun _ _ _ h => h) (Or.inl ⟨by rfl, ?_⟩) hHeld ?_
            case refine_2 => (intro w hSw; (try dsimp only at hSw); go_simp; all_goals (with_reducible rfl))
            (try simp only [Act.put]); (try simp only [List.setIfInBounds_toArray]); (try simp only [List.set_cons_succ]); (try simp only [List.set_cons_zero])
            refine wpAnyH_take (i := 4) (v := ?_) opAt4 (by kernel_rfl) (by kernel_rfl) (by kernel_rfl) (fun _ _ _ h => h) (Or.inl ⟨by rfl, ?_⟩) hHeld ?_
            case refine_2 => (intro w hSw; (try dsimp only at hSw); go_simp; all_goals (with_reducible rfl))
            (try simp only [Act.put]); (try simp only [List.setIfInBounds_toArray]); (try simp only [List.set_cons_succ]); (try simp only [List.set_cons_zero])
            refine wpAnyH_take (i := 5) (v := ?_) opAt5 (by kernel_rfl) (by kernel_rfl) (by kernel_rfl) (fun _ _ _ h => h) (Or.inl ⟨by rfl, ?_⟩) hHeld ?_
            case refine_2 => (intro w hSw; (try dsimp only at hSw); go_simp; all_goals (with_reducible rfl))
            (try simp only [Act.put]); (try simp only [List.setIfInBounds_toArray]); (try simp only [List.set_cons_succ]); (try simp only [List.set_cons_zero])
            refine wpAnyH_take (i := 6) (v := ?_) opAt6 (by kernel_rfl) (by kernel_rfl) (by kernel_rfl) (fun _ _ _ h => h) (Or.inl ⟨by rfl, ?_⟩) hHeld ?_
            case refine_2 => (intro w hSw; (try dsimp only at hSw); go_simp; all_goals (with_reducible rfl))
            (try simp only [Act.put]); (try simp only [List.setIfInBounds_toArray]); (try simp only [List.set_cons_succ]); (try simp only [List.set_cons_zero])
            refine wpAnyH_take (i := 7) (v := ?_) opAt7 (by kernel_rfl) (by kernel_rfl) (by kernel_rfl) (fun _ _ _ h => h) (Or.inl ⟨by rfl, ?_⟩) hHeld ?_
            case refine_2 => (intro w hSw; (try dsimp only at hSw); go_simp; all_goals (with_reducible rfl))
            (try simp only [Act.put]); (try simp only [List.setIfInBounds_toArray]); (try simp only [List.set_cons_succ]); (try simp only [List.set_cons_zero])
            refine wpAnyH_take (i := 8) (v := ?_) opAt8 (by kernel_rfl) (by kernel_rfl) (by kernel_rfl) (fun _ _ _ h => h) (Or.inl ⟨by rfl, ?_⟩) hHeld ?_
            case refine_2 => (intro w hSw; (try dsimp only at hSw); go_simp; all_goals (with_reducible rfl))
            (try simp only [Act.put]); (try simp only [List.setIfInBounds_toArray]); (try simp only [List.set_cons_succ]); (try simp only [List.set_cons_zero])
            refine wpAnyH_take (i := 9) (v := ?_) opAt9 (by kernel_rfl) (by kernel_rfl) (by kernel_rfl) (fun _ _ _ h => h) (Or.inl ⟨by rfl, ?_⟩) hHeld ?_
            case refine_2 => (intro w hSw; (try dsimp only at hSw); go_simp; all_goals (with_reducible rfl))
            (try simp only [Act.put]); (try simp only [List.setIfInBounds_toArray]); (try simp only [List.set_cons_succ]); (try simp only [List.set_cons_zero])
            refine wpAnyH_take (i := 10) (v := ?_) opAt10 (by kernel_rfl) (by kernel_rfl) (by kernel_rfl) (fun _ _ _ h => h) (Or.inl ⟨by rfl, ?_⟩) hHeld ?_
            case refine_2 => (intro w hSw; (try dsimp only at hSw); go_simp; all_goals (with_reducible rfl))
            (try simp only [Act.put]); (try simp only [List.setIfInBounds_toArray]); (try simp only [List.set_cons_succ]); (try simp only [List.set_cons_zero])
            refine wpAnyH_take (i := 11) (v := ?_) opAt11 (by kernel_rfl) (by kernel_rfl) (by kernel_rfl) (fun _ _ _ h => h) (Or.inl ⟨by rfl, ?_⟩) hHeld ?_
            case refine_2 => (intro w hSw; (try dsimp only at hSw); go_simp; all_goals (with_reducible rfl))
            (try simp only [Act.put]); (try simp only [List.setIfInBounds_toArray]); (try simp only [List.set_cons_succ]); (try simp only [List.set_cons_zero])
            refine wpAnyH_take (i := 12) (v := ?_) opAt12 (by kernel_rfl) (by kernel_rfl) (by kernel_rfl) (fun _ _ _ h => h) (Or.inl ⟨by rfl, ?_⟩) hHeld ?_
            case refine_2 => (intro w hSw; (try dsimp only at hSw); go_simp; all_goals (with_reducible rfl))
            (try simp only [Act.put]); (try simp only [List.setIfInBounds_toArray]); (try simp only [List.set_cons_succ]); (try simp only [List.set_cons_zero])
            refine wpAnyH_take (i := 13) (v := ?_) opAt13 (by kernel_rfl) (by kernel_rfl) (by kernel_rfl) (fun _ _ _ h => h) (Or.inl ⟨by rfl, ?_⟩) hHeld ?_
            case refine_2 => (intro w hSw; (try dsimp only at hSw); go_simp; all_goals (with_reducible rfl))
            (try simp only [Act.put]); (try simp only [List.setIfInBounds_toArray]); (try simp only [List.set_cons_succ]); (try simp only [List.set_cons_zero])
            refine wpAnyH_take (i := 14) (v := ?_) opAt14 (by kernel_rfl) (by kernel_rfl) (by kernel_rfl) (fun _ _ _ h => h) (Or.inl ⟨by rfl, ?_⟩) hHeld ?_
            case refine_2 => (intro w hSw; (try dsimp only at hSw); go_simp; all_goals (with_reducible rfl))
            (try simp only [Act.put]); (try simp only [List.setIfInBounds_toArray]); (try simp only [List.set_cons_succ]); (try simp only [List.set_cons_zero])
            refine wpAnyH_take (i := 15) (v := ?_) opAt15 (by kernel_rfl) (by kernel_rfl) (by kernel_rfl) (fun _ _ _ h => h) (Or.inl ⟨by rfl, ?_⟩) hHeld ?_
            case refine_2 => (intro w hSw; (try dsimp only at hSw); go_simp; all_goals (with_reducible rfl))
            (try simp only [Act.put]); (try simp only [List.setIfInBounds_toArray]); (try simp only [List.set_cons_succ]); (try simp only [List.set_cons_zero])
            refine wpAnyH_done (by kernel_rfl) ?_ _
            go_wp2
            go_roundg (gk - 1)
            case measure => have := JK.out; omega
            case rel => exact ⟨k + 1, by have := JK.out; omega, by go_num, ao2, cap2, out, rfl, SA.out.symm, KF.out.drew, LR.out.drew, OO.out.drew, DI.out, fun _ => ⟨LA1.out, by rw [L3.out, HK.out, ← HX.out, Nat.add_sub_cancel]⟩⟩
          · have hst : stays out x = true := by
              unfold stays sEq; rw [L3.out, show (p.k.toList == x.k.toList) = false by
                cases h : p.k.toList == x.k.toList with
                | false => rfl
                | true => rw [beq_iff_eq] at h; rw [h] at he; simp at he]
              simp
            have ROUT0 : out ++ [x] = firstF (Ml.take (k + 1)) := by rw [FS.out]; unfold addF; rw [if_pos hst]
            have RO := Lib.hid ROUT0
            clear hst ROUT0 la1
            go_wp2
            refine wp_region_held_drew (S := (fun w' => w'.cell? ⟨gl, k * 3, none⟩ = some (.string x.k) ∧ w'.cell? ⟨gl, j * 3, none⟩ = some (.string p.k))) (by kernel_rfl) ?_ (fun hHeld => ?_)
            · exact ⟨y0, z0⟩
            refine wpAnyH_take (i := 0) (v := ?_) opAt0 (by kernel_rfl) (by kernel_rfl) (by kernel_rfl) (fun _ _ _ h => h) (Or.inl ⟨by rfl, ?_⟩) hHeld ?_
            case refine_2 => (intro w hSw; (try dsimp only at hSw); go_simp; all_goals (with_reducible rfl))
            (try simp only [Act.put]); (try simp only [List.setIfInBounds_toArray]); (try simp only [List.set_cons_succ]); (try simp only [List.set_cons_zero])
            refine wpAnyH_take (i := 1) (v := ?_) opAt1 (by kernel_rfl) (by kernel_rfl) (by kernel_rfl) (fun _ _ _ h => h) (Or.inl ⟨by rfl, ?_⟩) hHeld ?_
            case refine_2 => (intro w hSw; (try dsimp only at hSw); go_simp; all_goals (with_reducible rfl))
            (try simp only [Act.put]); (try simp only [List.setIfInBounds_toArray]); (try simp only [List.set_cons_succ]); (try simp only [List.set_cons_zero])
            refine wpAnyH_take (i := 2) (v := ?_) opAt2 (by kernel_rfl) (by kernel_rfl) (by kernel_rfl) (fun _ _ _ h => h) (Or.inl ⟨by rfl, ?_⟩) hHeld ?_
            case refine_2 => (intro w hSw; (try dsimp only at hSw); go_simp; all_goals (with_reducible rfl))
            (try simp only [Act.put]); (try simp only [List.setIfInBounds_toArray]); (try simp only [List.set_cons_succ]); (try simp only [List.set_cons_zero])
            refine wpAnyH_take (i := 3) (v := ?_) opAt3 (by kernel_rfl) (by kernel_rfl) (by kernel_rfl) (fun _ _ _ h => h) (Or.inl ⟨by rfl, ?_⟩) hHeld ?_
            case refine_2 => (intro w hSw; (try dsimp only at hSw); go_simp; all_goals (with_reducible rfl))
            (try simp only [Act.put]); (try simp only [List.setIfInBounds_toArray]); (try simp only [List.set_cons_succ]); (try simp only [List.set_cons_zero])
            refine wpAnyH_take (i := 4) (v := ?_) opAt4 (by kernel_rfl) (by kernel_rfl) (by kernel_rfl) (fun _ _ _ h => h) (Or.inl ⟨by rfl, ?_⟩) hHeld ?_
            case refine_2 => (intro w hSw; (try dsimp only at hSw); go_simp; all_goals (with_reducible rfl))
            (try simp only [Act.put]); (try simp only [List.setIfInBounds_toArray]); (try simp only [List.set_cons_succ]); (try simp only [List.set_cons_zero])
            refine wpAnyH_take (i := 5) (v := ?_) opAt5 (by kernel_rfl) (by kernel_rfl) (by kernel_rfl) (fun _ _ _ h => h) (Or.inl ⟨by rfl, ?_⟩) hHeld ?_
            case refine_2 => (intro w hSw; (try dsimp only at hSw); go_simp; all_goals (with_reducible rfl))
            (try simp only [Act.put]); (try simp only [List.setIfInBounds_toArray]); (try simp only [List.set_cons_succ]); (try simp only [List.set_cons_zero])
            refine wpAnyH_take (i := 6) (v := ?_) opAt6 (by kernel_rfl) (by kernel_rfl) (by kernel_rfl) (fun _ _ _ h => h) (Or.inl ⟨by rfl, ?_⟩) hHeld ?_
            case refine_2 => (intro w hSw; (try dsimp only at hSw); go_simp; all_goals (with_reducible rfl))
            (try simp only [Act.put]); (try simp only [List.setIfInBounds_toArray]); (try simp only [List.set_cons_succ]); (try simp only [List.set_cons_zero])
            refine wpAnyH_take (i := 7) (v := ?_) opAt7 (by kernel_rfl) (by kernel_rfl) (by kernel_rfl) (fun _ _ _ h => h) (Or.inl ⟨by rfl, ?_⟩) hHeld ?_
            case refine_2 => (intro w hSw; (try dsimp only at hSw); go_simp; all_goals (with_reducible rfl))
            (try simp only [Act.put]); (try simp only [List.setIfInBounds_toArray]); (try simp only [List.set_cons_succ]); (try simp only [List.set_cons_zero])
            refine wpAnyH_take (i := 8) (v := ?_) opAt8 (by kernel_rfl) (by kernel_rfl) (by kernel_rfl) (fun _ _ _ h => h) (Or.inl ⟨by rfl, ?_⟩) hHeld ?_
            case refine_2 => (intro w hSw; (try dsimp only at hSw); go_simp; all_goals (with_reducible rfl))
            (try simp only [Act.put]); (try simp only [List.setIfInBounds_toArray]); (try simp only [List.set_cons_succ]); (try simp only [List.set_cons_zero])
            refine wpAnyH_take (i := 9) (v := ?_) opAt9 (by kernel_rfl) (by kernel_rfl) (by kernel_rfl) (fun _ _ _ h => h) (Or.inl ⟨by rfl, ?_⟩) hHeld ?_
            case refine_2 => (intro w hSw; (try dsimp only at hSw); go_simp; all_goals (with_reducible rfl))
            (try simp only [Act.put]); (try simp only [List.setIfInBounds_toArray]); (try simp only [List.set_cons_succ]); (try simp only [List.set_cons_zero])
            refine wpAnyH_take (i := 10) (v := ?_) opAt10 (by kernel_rfl) (by kernel_rfl) (by kernel_rfl) (fun _ _ _ h => h) (Or.inl ⟨by rfl, ?_⟩) hHeld ?_
            case refine_2 => (intro w hSw; (try dsimp only at hSw); go_simp; all_goals (with_reducible rfl))
            (try simp only [Act.put]); (try simp only [List.setIfInBounds_toArray]); (try simp only [List.set_cons_succ]); (try simp only [List.set_cons_zero])
            refine wpAnyH_take (i := 11) (v := ?_) opAt11 (by kernel_rfl) (by kernel_rfl) (by kernel_rfl) (fun _ _ _ h => h) (Or.inl ⟨by rfl, ?_⟩) hHeld ?_
            case refine_2 => (intro w hSw; (try dsimp only at hSw); go_simp; all_goals (with_reducible rfl))
            (try simp only [Act.put]); (try simp only [List.setIfInBounds_toArray]); (try simp only [List.set_cons_succ]); (try simp only [List.set_cons_zero])
            refine wpAnyH_take (i := 12) (v := ?_) opAt12 (by kernel_rfl) (by kernel_rfl) (by kernel_rfl) (fun _ _ _ h => h) (Or.inl ⟨by rfl, ?_⟩) hHeld ?_
            case refine_2 => (intro w hSw; (try dsimp only at hSw); go_simp; all_goals (with_reducible rfl))
            (try simp only [Act.put]); (try simp only [List.setIfInBounds_toArray]); (try simp only [List.set_cons_succ]); (try simp only [List.set_cons_zero])
            refine wpAnyH_take (i := 13) (v := ?_) opAt13 (by kernel_rfl) (by kernel_rfl) (by kernel_rfl) (fun _ _ _ h => h) (Or.inl ⟨by rfl, ?_⟩) hHeld ?_
            case refine_2 => (intro w hSw; (try dsimp only at hSw); go_simp; all_goals (with_reducible rfl))
            (try simp only [Act.put]); (try simp only [List.setIfInBounds_toArray]); (try simp only [List.set_cons_succ]); (try simp only [List.set_cons_zero])
            refine wpAnyH_take (i := 14) (v := ?_) opAt14 (by kernel_rfl) (by kernel_rfl) (by kernel_rfl) (fun _ _ _ h => h) (Or.inl ⟨by rfl, ?_⟩) hHeld ?_
            case refine_2 => (intro w hSw; (try dsimp only at hSw); go_simp; all_goals (with_reducible rfl))
            (try simp only [Act.put]); (try simp only [List.setIfInBounds_toArray]); (try simp only [List.set_cons_succ]); (try simp only [List.set_cons_zero])
            refine wpAnyH_take (i := 15) (v := ?_) opAt15 (by kernel_rfl) (by kernel_rfl) (by kernel_rfl) (fun _ _ _ h => h) (Or.inl ⟨by rfl, ?_⟩) hHeld ?_
            case refine_2 => (intro w hSw; (try dsimp only at hSw); go_simp; all_goals (with_reducible rfl))
            (try simp only [Act.put]); (try simp only [List.setIfInBounds_toArray]); (try simp only [List.set_cons_succ]); (try simp only [List.set_cons_zero])
            refine wpAnyH_done (by kernel_rfl) ?_ _
            go_wp2_with (at_builtin; refine list_append _ rfl _ _ 25 rfl w.heap.size 36 i0 _ 3 40 Try.underlying25 hi0 hz0 hz1 hz2 rfl (by decide) _ _ _ rfl (World.ownsRow.drew (World.ownsRow.alloc OO.out _)) ⟨wr.heap.size, 0, none⟩ 1 1 [.string x.k, .int .i64 x.s, .string x.v] rfl rfl (World.news_of_block (w := (wr.alloc (Obj.cells #[Value.string x.k, Value.int .i64 x.s, Value.string x.v] 36)).drew) (heap_alloc_new wr _)) (by intro u hu; simp at hu; rcases hu with rfl | rfl | rfl <;> rfl) (by unfold maxLen; omega) (by omega) (by have := KF.out.size; show w.heap.size ≤ (wr.alloc _).heap.size; simp; omega) ?_; intro v5 w5 ho5 hg5 ha5; (have O5 := Lib.hid ho5); (have G5 := Lib.hid (grown_kept hg5)); (have A5 := Lib.hid ha5); (obtain ⟨ao5, cap5, rfl⟩ : ∃ a c, v5 = .slice a (out.length + 1) c := by (rcases row_form ho5 with ⟨_, hn⟩ | ⟨g, c, h, _⟩; omega; exact ⟨_, c, h⟩)); clear ho5 hg5 ha5)
            have gk1 : Kept (fun c => (Value.slice ao2 out.length cap2).ownBlock = some c) wr w5 := (((Kept.refl (fun _ => False) wr).alloc (Obj.cells #[Value.string x.k, Value.int .i64 x.s, Value.string x.v] 36)).drew).trans G5.out (fun _ _ f => f.elim) (fun _ _ h => h)
            have hat : ∀ c, (Value.slice ao5 (out.length + 1) cap5).ownBlock = some c → (Value.slice ao2 out.length cap2).ownBlock = some c ∨ wr.heap.size ≤ c := by
              intro c hc
              rcases A5.out with e | e
              · exact .inl (e ▸ hc)
              · right; rw [hc] at e
                have h := Option.some.inj e
                have h3 : (wr.alloc (Obj.cells #[Value.string x.k, Value.int .i64 x.s, Value.string x.v] 36)).drew.heap.size = wr.heap.size + 1 := by show (wr.alloc _).heap.size = _; simp
                omega
            have REL := Lib.hid (show RN w Ml vl w5 (k + 1) (.slice ao5 (out.length + 1) cap5) (out ++ [x]) from by
              refine ⟨RO.out, KF.out.trans gk1 (fun _ _ f => f) (fun c hc e => by have := (OO.out.lt c e).1; omega), own_keptS LR.out gk1 (fun c hc e => DI.out c hc e), ?_, fun c hc => ?_, fun _ => ⟨by simp, by simp [nth, ← HX.out]⟩⟩
              · have e2 : cellsC (out ++ [x]) = cellsC out ++ [.string x.k, .int .i64 x.s, .string x.v] := by rw [cellsC_append]; rfl
                rw [e2, List.length_append]; exact O5.out
              · intro e
                rcases hat c e with h | h
                · exact DI.out c hc h
                · have := (LR.out.lt c hc).2; omega)
            clear gk1 hat
            go_wp2
            go_roundg (gk - 1)
            case measure => have := JK.out; omega
            case rel => exact ⟨k + 1, by have := JK.out; omega, by go_num, ao5, cap5, out ++ [x], by simp, by have := REL.out; rwa [show (out ++ [x]).length = out.length + 1 by simp]⟩
      · have hk2 : k = Ml.length := by omega
        have e3 : ¬ (k : Int) < (Ml.length : Int) := by omega
        have hfo : out = firstF Ml := by rw [EQ.out, hk2, List.take_length]
        have FO := Lib.hid hfo
        clear hfo hk2
        go_wp2
        refine bodyPost_ret (v := _) (by simp [results, Try.results14, go_sem]; try rfl) rfl ?_
        exact ⟨KF.out, .inr ⟨by first | exact HA.out | exact List.all_eq_true.1 HA.out, _, rfl, by rw [MLH.out, ← FO.out]; exact OO.out⟩⟩
end Go.Proofs.Ytfhpjopdndnmgaa
