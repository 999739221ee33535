/- spoorlaw14.few; how a tree reads as an argument. -/
import Derived.Test.YtjidldbolbjdpaaOrder
import Derived.Test.YtjidldbolbjdpaaWholeP
namespace Go.Proofs.Ytjidldbolbjdpaa
open Go.ChangeShapes Go.WideShapes Go.ChangeAt Go.RowKit Go.Deep

deriving instance Inhabited for NR
section
variable {H : Type} {enc : TypeId × Value → H} {w : World} {spare : Nat → Bool} {held : Bool}
theorem cellsOf39 : Try.prog.cellsOf 39 = 9 := by kernel_rfl
theorem cellsOf26 : Try.prog.cellsOf 26 = 1 := by kernel_rfl
theorem cellsOf28 : Try.prog.cellsOf 28 = 2 := by kernel_rfl
set_option maxRecDepth 100000 in
theorem nodes_open : ∀ (fuel : Nat) {cs : List Value} {x : DataW H × List MemPlace}, DataW.trod enc Try.prog w 0 spare held fuel 26 cs = some x → ∃ v, cs = [v] ∧ ∃ f : Fr, ReadsF (fun _ => True) w v f := by
  intro fuel
  induction fuel using Nat.strongRecOn with
  | _ fuel ih =>
  intro cs x h
  rcases DataW.trod_slice Try.underlying26 h with ⟨hcs, _⟩ | ⟨b, len, cap, elems, rest, n, hfu, hcs, _, _, hl, _, hlen, hel, _, _⟩
  · exact ⟨_, hcs, .nil, none, 0, rfl, .inl rfl⟩
  · rw [cellsOf39] at hel
    obtain ⟨f, hf⟩ := choose_lt (n := len) (p := fun i (y : NR) => (∃ cs', w.cells? 0 (b.add (i * 9)) 9 = some cs' ∧ cs' = y.s.cells ++ [y.v]) ∧ ReadsF (fun _ => True) w y.v y.f) (fun i hi => by
      have h1 := hel i hi
      rw [List.getElem?_eq_getElem (by omega)] at h1
      obtain ⟨cs', h2, h3⟩ := Option.bind_eq_some_iff.1 h1
      obtain ⟨xs, n', hn', _, hl', hlen', hf'⟩ := DataW.trod_struct Try.underlying39 h3
      rw [cellsOf39] at hl'
      match xs, hlen' with
      | [y0, y1], _ =>
        have a0 := hf' 0 _ rfl
        have a1 := hf' 1 _ rfl
        simp [cellsOf24] at a0
        simp [cellsOf26] at a1
        obtain ⟨m, em, _⟩ := spn_cells a0
        obtain ⟨v, ev, fr, hfr⟩ := ih n' (by omega) a1
        refine ⟨⟨m, v, fr⟩, ⟨cs', h2, ?_⟩, hfr⟩
        have e1 : cs' = cs'.take 8 ++ (cs'.drop 8).take 1 := by
          conv => lhs; rw [← List.take_append_drop 8 cs']
          congr 1
          rw [List.take_of_length_le (by simp [hl'])]
        rw [e1, em, ev])
    refine ⟨_, hcs, frN ((List.range len).map f), some b, cap, by rw [frN_len]; simp, ?_⟩
    by_cases h0 : len = 0
    · left; subst h0; rfl
    · right
      obtain ⟨⟨cs', h1, h2⟩, _⟩ := hf 0 (by omega)
      obtain ⟨_, hg⟩ := cells_get h1
      have hspot : b.spot = none := by
        have := hg 0 (.int .i64 (f 0).s.tr) (by rw [h2]; rfl)
        have := World.cell?_spot this
        simpa [Addr.add] using this
      obtain ⟨bb, bo, bs⟩ := b
      simp at hspot; subst hspot
      refine ⟨bb, bo, rfl, rowF_of trivial _ bo (fun y hy => ?_) (fun j u hu => ?_)⟩
      · obtain ⟨i, hi, rfl⟩ := List.mem_map.1 hy
        exact (hf i (by simpa using hi)).2
      · have hl2 := (List.getElem?_eq_some_iff.1 hu).1
        rw [cellsN_length] at hl2
        simp at hl2
        have hq : j / 9 < len := by omega
        have hj : j = j / 9 * 9 + j % 9 := by omega
        have hgm : ((List.range len).map f)[j / 9]? = some (f (j / 9)) := by simp [hq]
        rw [hj, cellsN_at _ _ _ hgm _ (Nat.mod_lt _ (by omega))] at hu
        obtain ⟨⟨cs', h1, h2⟩, _⟩ := hf (j / 9) hq
        obtain ⟨_, hg⟩ := cells_get h1
        have := hg (j % 9) u (by rw [h2]; exact hu)
        rw [add_mid, add_mid] at this
        rw [show bo + j = bo + j / 9 * 9 + j % 9 by omega]
        exact this
theorem tree_open {fuel : Nat} {cs : List Value} {x : DataW H × List MemPlace} (h : DataW.trod enc Try.prog w 0 spare held fuel 28 cs = some x) :
    ∃ rv ov, cs = [rv, ov] ∧ ∃ a b : Fr, ReadsF (fun _ => True) w rv a ∧ ReadsF (fun _ => True) w ov b := by
  obtain ⟨xs, n', hn', _, hl', hlen', hf'⟩ := DataW.trod_struct Try.underlying28 h
  rw [cellsOf28] at hl'
  match xs, hlen', cs, hl' with
  | [y0, y1], _, [c0, c1], _ =>
    have a0 := hf' 0 _ rfl
    have a1 := hf' 1 _ rfl
    simp [cellsOf26] at a0
    simp [cellsOf26] at a1
    obtain ⟨v0, e0, f0, h0⟩ := nodes_open n' a0
    obtain ⟨v1, e1, f1, h1⟩ := nodes_open n' a1
    simp only [List.cons.injEq, and_true] at e0 e1
    exact ⟨v0, v1, by rw [e0, e1], f0, f1, h0, h1⟩
end

/-- What is left of so many, gone through a list's nodes, kids and all. -/
def fewF : Fr → Int → Int
  | .nil, l => l
  | .cons _ k r, l => if 0 ≤ l then fewF r (fewF k (l - 1)) else l
theorem fewF_le : ∀ (f : Fr) (l : Int), fewF f l ≤ l
  | .nil, l => Int.le_refl _
  | .cons _ k r, l => by
    unfold fewF
    split
    · have h1 := fewF_le k (l - 1)
      have h2 := fewF_le r (fewF k (l - 1))
      omega
    · exact Int.le_refl _
theorem fewF_ge : ∀ (f : Fr) (l : Int), -1 ≤ l → -1 ≤ fewF f l
  | .nil, l, h => h
  | .cons _ k r, l, h => by
    unfold fewF
    split
    · exact fewF_ge r _ (fewF_ge k _ (by omega))
    · exact h
theorem fewF_neg {f : Fr} {l : Int} (h : l < 0) : fewF f l = l := by
  cases f with
  | nil => rfl
  | cons s k r => unfold fewF; rw [if_neg (by omega)]
theorem fewF_size : ∀ (f : Fr) (l : Int), 0 ≤ fewF f l → fewF f l = l - f.size
  | .nil, l, _ => by simp [fewF, Fr.size]
  | .cons _ k r, l, h => by
    unfold fewF at h ⊢
    split at h
    · rename_i h0
      rw [if_pos h0]
      have h1 := fewF_le r (fewF k (l - 1))
      have h2 := fewF_size k (l - 1) (by omega)
      have h3 := fewF_size r _ h
      rw [h3, h2]; simp only [Fr.size]; push_cast; omega
    · omega
set_option maxHeartbeats 4000000 in
set_option maxRecDepth 100000 in
theorem few_any (S : Nat → Prop) : ∀ (N : Nat) (w : World) (v : Value) (f : Fr) (left : Int), f.size < N → -1 ≤ left → left ≤ 300 → ReadsF S w v f →
    Calls Try.prog 14 #[v, .int .i64 left] w fun e w' => e = .returned (.int .i64 (fewF f left)) ∧ Kept (fun _ => False) w w' := by
  intro N
  induction N with
  | zero => intro w v f left h; omega
  | succ N ih =>
    intro w v f left hsz hl0 hl1 ha
    obtain ⟨ao, ca, rfl, ra⟩ := ha
    have RA := Lib.hid ra; have SZ := Lib.hid hsz
    obtain ⟨n, hn⟩ : ∃ n, f.len = n := ⟨_, rfl⟩
    rw [hn]
    have HA := Lib.hid hn
    clear ra hsz hn
    go_enter Try.func14, Try.ntmps14
    go_wp2
    go_loopg [1, 5] n (fun ghv s1 s5 wr => ∃ (i : Nat) (r : Fr) (lf : Int), i + ghv = n ∧ s5 = .int .i64 i ∧ s1 = .int .i64 lf ∧ i + r.len = n ∧ r.size ≤ f.size ∧ -1 ≤ lf ∧ (i : Int) + lf ≤ left ∧ fewF r lf = fewF f left ∧ (∀ g o, ao = some ⟨g, o, none⟩ → f = .nil ∨ RowF S w g (o + i * 9) r) ∧ Kept (fun _ => False) w wr)
    case atStart => exact ⟨0, f, left, by omega, by go_num, rfl, by have := HA.out; omega, Nat.le_refl _, hl0, by omega, rfl, fun g o e => RA.out.imp id (fun ⟨g', o', e', h⟩ => by rw [e] at e'; cases e'; rw [Nat.zero_mul, Nat.add_zero]; exact h), Kept.refl _ _⟩
    case round =>
      obtain ⟨i, r, lf, hg1, rfl, rfl, hl2, hs1, hlf0, hlf1, hfe, hr, hk⟩ := hrel
      have G1 := Lib.hid hg1; have L1 := Lib.hid hl2; have HS1 := Lib.hid hs1; have HR := Lib.hid hr; have KK := Lib.hid hk; have FE := Lib.hid hfe
      clear hg1 hl2 hs1 hr hk hfe
      by_cases hin : i < n
      · have i0 : (i : Int) < (n : Int) := by omega
        have i1 : (0 : Int) ≤ (i : Int) := by omega
        have d0 : decide ((i : Int) < (n : Int)) = true := by simp [hin]
        by_cases hz : 0 ≤ lf
        · have d1 : decide (lf ≥ 0) = true := by simp [hz]
          have e1 : IntKind.i64.wrap ((i : Int) + 1) = ((i + 1 : Nat) : Int) := IntWalk.i64_in _ (by omega)
          obtain ⟨l1, hl3⟩ : ∃ x, lf - 1 = x := ⟨_, rfl⟩
          have e2 : IntKind.i64.wrap (lf - 1) = l1 := by rw [hl3]; exact IntWalk.i64_in _ (by omega)
          have HL1 := Lib.hid hl3
          clear hl3
          cases r with
          | nil => have := L1.out; simp [Fr.len] at this; omega
          | cons s k r =>
            obtain ⟨g, o, rfl, _⟩ : ∃ g o, ao = some ⟨g, o, none⟩ ∧ RowF S w g o f := by
              rcases RA.out with h | h
              · have := HA.out; subst h; simp [Fr.len] at this; omega
              · exact h
            have nn1 : f ≠ .nil := fun e => by have := HA.out; rw [e] at this; simp [Fr.len] at this; omega
            obtain ⟨_, hs, ⟨ka, kc, kx, rk⟩, rr⟩ := (HR.out g o rfl).resolve_left nn1
            have RRW := Lib.hid rr
            have RK1 := Lib.hid (show ReadsF S wr (.slice ka k.len kc) k from (show ReadsF S w (.slice ka k.len kc) k from ⟨ka, kc, rfl, rk⟩).kept KK.out)
            have c8 := KK.out.cell kx (fun f => f)
            have HSZ := Lib.hid (show k.size < N from by have h1 := HS1.out; have h2 := SZ.out; simp only [Fr.size] at h1; omega)
            obtain ⟨kn, hkn⟩ : ∃ n, k.len = n := ⟨_, rfl⟩
            rw [hkn] at c8 RK1
            clear hs kx rk rr nn1 hkn
            go_wp2_with fail
            refine (ih _ _ k l1 HSZ.out (by have := HL1.out; omega) (by have := HL1.out; omega) RK1.out).mono ?_
            rintro e w5 ⟨rfl, k5⟩
            have K5 := Lib.hid (keptFF KK.out k5)
            have FL := Lib.hid (fewF_le k l1); have FG := Lib.hid (fewF_ge k l1 (by have := HL1.out; omega))
            have FE2 := Lib.hid (show fewF r (fewF k l1) = fewF f left from by rw [← FE.out, fewF, if_pos hz, HL1.out])
            clear k5 c8
            go_wp2
            go_roundg (n - (i + 1))
            case measure => have := G1.out; omega
            case rel => exact ⟨i + 1, r, fewF k l1, by omega, by go_num, rfl, by have h := L1.out; simp only [Fr.len] at h; omega, by have h := HS1.out; simp only [Fr.size] at h; omega, FG.out, by have h1 := FL.out; have h2 := HL1.out; omega, FE2.out, fun g' o' e => .inr (by cases e; rw [Nat.succ_mul, ← Nat.add_assoc]; exact RRW.out), K5.out⟩
        · have d1 : decide (lf ≥ 0) = false := by simp; omega
          have d2 : ¬ 0 ≤ lf := hz
          have FV := Lib.hid (show fewF f left = lf from by rw [← FE.out]; exact fewF_neg (by omega))
          go_wp2
          go_ret
          exact ⟨by rw [FV.out]; rfl, KK.out⟩
      · have i0 : ¬ (i : Int) < (n : Int) := by omega
        have d0 : decide ((i : Int) < (n : Int)) = false := by simp; omega
        have FV := Lib.hid (show fewF f left = lf from by
          rw [← FE.out]
          cases r with
          | nil => rfl
          | cons s k r => have := L1.out; simp [Fr.len] at this; omega)
        go_wp2
        go_ret
        exact ⟨by rw [FV.out]; rfl, KK.out⟩
end Go.Proofs.Ytjidldbolbjdpaa
