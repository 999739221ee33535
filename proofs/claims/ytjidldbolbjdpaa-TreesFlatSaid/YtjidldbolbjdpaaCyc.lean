/- Plain laws of going from parent to parent: cycles, the least of each, and how a walk finds it. Nothing of the program is run here. -/
import Derived.Test.YtjidldbolbjdpaaPlace
namespace Go.Proofs.Ytjidldbolbjdpaa

section
variable (p : Nat → Option Nat)
def it : Nat → Nat → Option Nat
  | 0, x => some x
  | t + 1, x => (it t x).bind p
def OnCyc (x : Nat) : Prop := ∃ t, 0 < t ∧ it p t x = some x
/-- The least of a cycle. -/
def Least (x : Nat) : Prop := OnCyc p x ∧ ∀ s y, it p s x = some y → x ≤ y
end
section
variable {p : Nat → Option Nat}
theorem it_add (s : Nat) : ∀ (t x : Nat), it p (s + t) x = (it p s x).bind (it p t)
  | 0, x => by cases h : it p s x <;> simp [it]
  | t + 1, x => by
    rw [← Nat.add_assoc, it, it_add s t x]
    cases h : it p s x <;> simp [it]
theorem it_add' {s t x y : Nat} (h : it p s x = some y) : it p (s + t) x = it p t y := by rw [it_add, h]; rfl
theorem it_none {s x : Nat} (h : it p s x = none) {t : Nat} (ht : s ≤ t) : it p t x = none := by
  obtain ⟨r, rfl⟩ := Nat.exists_eq_add_of_le ht
  rw [it_add, h]; rfl
theorem it_some {s t x y : Nat} (h : it p t x = some y) (hs : s ≤ t) : ∃ z, it p s x = some z := by
  cases hz : it p s x with
  | none => rw [it_none hz hs] at h; cases h
  | some z => exact ⟨z, rfl⟩
theorem it_lt {n : Nat} (hp : ∀ x y, x < n → p x = some y → y < n) {x : Nat} (hx : x < n) : ∀ {t y : Nat}, it p t x = some y → y < n
  | 0, y, h => by simp [it] at h; omega
  | t + 1, y, h => by
    simp only [it, Option.bind_eq_some_iff] at h
    obtain ⟨z, h1, h2⟩ := h
    exact hp z y (it_lt hp hx h1) h2
theorem it_mul {c x : Nat} (h : it p c x = some x) : ∀ k, it p (c * k) x = some x
  | 0 => rfl
  | k + 1 => by rw [Nat.mul_succ, it_add' (it_mul h k)]; exact h
theorem cyc_back {x y s : Nat} (hc : OnCyc p x) (h : it p s x = some y) : ∃ r, it p r y = some x := by
  obtain ⟨c, h0, h1⟩ := hc
  have h2 := it_mul h1 s
  have h3 : s ≤ c * s := Nat.le_mul_of_pos_left s h0
  refine ⟨c * s - s, ?_⟩
  rw [← it_add' h, show s + (c * s - s) = c * s by omega]; exact h2
theorem cyc_some {x : Nat} (hc : OnCyc p x) (t : Nat) : ∃ y, it p t x = some y := by
  obtain ⟨c, h0, h1⟩ := hc
  exact it_some (it_mul h1 t) (Nat.le_mul_of_pos_left t h0)
theorem cyc_along {x y s : Nat} (hc : OnCyc p x) (h : it p s x = some y) : OnCyc p y := by
  obtain ⟨r, hr⟩ := cyc_back hc h
  obtain ⟨c, h0, h1⟩ := hc
  refine ⟨r + c + s, by omega, ?_⟩
  rw [Nat.add_assoc, it_add' hr, it_add' h1]; exact h
theorem nodup_len : ∀ (n : Nat) (l : List Nat), l.Nodup → (∀ x ∈ l, x < n) → l.length ≤ n
  | 0, l, _, h => by
    cases l with
    | nil => simp
    | cons x t => exact absurd (h x (by simp)) (by omega)
  | n + 1, l, hd, h => by
    have h1 := nodup_len n (l.filter (fun x => x != n)) (hd.filter _) (fun x hx => by
      obtain ⟨a, b⟩ := List.mem_filter.1 hx
      have := h x a; have : x ≠ n := by simpa using b
      omega)
    have h2 : l.length ≤ (l.filter (fun x => x != n)).length + 1 := by
      clear h1 h
      induction l with
      | nil => simp
      | cons x t ih =>
        have hd' := List.nodup_cons.1 hd
        by_cases e : x = n
        · subst e
          have : t.filter (fun y => y != x) = t := List.filter_eq_self.2 (fun y hy => by
            have : y ≠ x := fun e => hd'.1 (e ▸ hy)
            simpa using this)
          simp [this]
        · have := ih hd'.2
          simp [e]; omega
    omega
theorem inj_le {n t : Nat} (f : Nat → Nat) (hf : ∀ s, s < t → f s < n) (hi : ∀ s s', s < s' → s' < t → f s ≠ f s') : t ≤ n := by
  have h := nodup_len n ((List.range t).map f) (by
    rw [List.nodup_iff_pairwise_ne, List.pairwise_map, List.pairwise_iff_getElem]
    intro i j hi' hj' hij
    simp at hi' hj' ⊢
    exact hi i j hij hj') (fun x hx => by
      obtain ⟨s, hs, rfl⟩ := List.mem_map.1 hx
      exact hf s (by simpa using hs))
  simpa using h
/-- A cycle is no longer than there are places. -/
theorem cyc_short {n x : Nat} (hp : ∀ x y, x < n → p x = some y → y < n) (hx : x < n) (hc : OnCyc p x) : ∃ c, 0 < c ∧ c ≤ n ∧ it p c x = some x := by
  have hex : ∃ c, 0 < c ∧ it p c x = some x := hc
  have hmin : ∃ c, (0 < c ∧ it p c x = some x) ∧ ∀ c', c' < c → ¬ (0 < c' ∧ it p c' x = some x) := by
    obtain ⟨c, h⟩ := hex
    induction c using Nat.strongRecOn with
    | _ c ih =>
      by_cases hx : ∃ c', c' < c ∧ (0 < c' ∧ it p c' x = some x)
      · obtain ⟨c', a, b⟩ := hx; exact ih c' a b
      · exact ⟨c, h, fun c' a b => hx ⟨c', a, b⟩⟩
  obtain ⟨c, ⟨h0, h1⟩, hm⟩ := hmin
  refine ⟨c, h0, ?_, h1⟩
  have hs : ∀ s, ∃ y, it p s x = some y := cyc_some hc
  refine inj_le (fun s => (it p s x).getD 0) (fun s _ => ?_) (fun s s' h2 h3 e => ?_)
  · obtain ⟨y, hy⟩ := hs s
    simp only [hy, Option.getD_some]; exact it_lt hp hx hy
  · obtain ⟨y, hy⟩ := hs s
    obtain ⟨z, hz⟩ := hs s'
    simp only [hy, hz, Option.getD_some] at e
    subst e
    refine hm (s + (c - s')) (by omega) ⟨by omega, ?_⟩
    rw [it_add' hy, ← it_add' hz, show s' + (c - s') = c by omega]; exact h1

/-- What a walk from parent to parent has seen, and who is a head. -/
structure Seen (p : Nat → Option Nat) (n : Nat) (lost : Nat → Bool) (i : Nat) (sn : Nat → Nat) (h : Nat → Bool) : Prop where
  closed : ∀ x, x < n → sn x ≠ 0 → ∀ y, p x = some y → sn y ≠ 0
  upto : ∀ x, x < i → x < n → sn x ≠ 0
  le : ∀ x, x < n → sn x ≤ i
  seen : ∀ x, x < n → sn x ≠ 0 → (h x = true ↔ lost x = true ∨ Least p x)
  rest : ∀ x, x < n → sn x = 0 → h x = lost x
structure Wlk (p : Nat → Option Nat) (n i : Nat) (sn0 sn : Nat → Nat) (t : Nat) : Prop where
  each : ∀ s, s < t → ∃ y, it p s i = some y ∧ sn0 y = 0
  inj : ∀ s s', s < s' → s' < t → it p s i ≠ it p s' i
  on : ∀ s, s < t → ∀ y, it p s i = some y → sn y = i + 1
  off : ∀ x, x < n → (∀ s, s < t → it p s i ≠ some x) → sn x = sn0 x
theorem Wlk.start (p : Nat → Option Nat) (n i : Nat) (sn : Nat → Nat) : Wlk p n i sn sn 0 := ⟨fun _ h => by omega, fun _ _ _ h => by omega, fun _ h => by omega, fun _ _ _ => rfl⟩
theorem Wlk.step {n i t : Nat} {sn0 sn sn' : Nat → Nat} (h : Wlk p n i sn0 sn t) {x : Nat} (hx : it p t i = some x) (hxn : x < n) (h0 : sn x = 0) (h1 : sn' x = i + 1) (h2 : ∀ y, y < n → y ≠ x → sn' y = sn y) (hp : ∀ x y, x < n → p x = some y → y < n) (hi : i < n) : Wlk p n i sn0 sn' (t + 1) := by
  have hnew : ∀ s, s < t → it p s i ≠ some x := fun s hs e => by have := h.on s hs x e; omega
  refine ⟨fun s hs => ?_, fun s s' a b => ?_, fun s hs y hy => ?_, fun y hy ho => ?_⟩
  · by_cases c : s = t
    · subst c; exact ⟨x, hx, by rw [← h.off x hxn hnew]; exact h0⟩
    · exact h.each s (by omega)
  · by_cases c : s' = t
    · subst c; rw [hx]; exact hnew s a
    · exact h.inj s s' a (by omega)
  · by_cases c : s = t
    · subst c; rw [hx] at hy; cases hy; exact h1
    · have hne : y ≠ x := fun e => hnew s (by omega) (e ▸ hy)
      rw [h2 y (it_lt hp hi hy) hne]; exact h.on s (by omega) y hy
  · have hne : y ≠ x := fun e => ho t (by omega) (e ▸ hx)
    rw [h2 y hy hne]; exact h.off y hy (fun s hs => ho s (by omega))
theorem Wlk.short {n i t : Nat} {sn0 sn : Nat → Nat} (h : Wlk p n i sn0 sn t) (hp : ∀ x y, x < n → p x = some y → y < n) (hi : i < n) : t ≤ n := by
  refine inj_le (fun s => (it p s i).getD 0) (fun s hs => ?_) (fun s s' a b e => ?_)
  · obtain ⟨y, hy, _⟩ := h.each s hs
    simp only [hy, Option.getD_some]; exact it_lt hp hi hy
  · obtain ⟨y, hy, _⟩ := h.each s (by omega)
    obtain ⟨z, hz, _⟩ := h.each s' b
    simp only [hy, hz, Option.getD_some] at e
    exact h.inj s s' a b (by rw [hy, hz, e])
/-- The walk ended outside of itself: nothing on it is on a cycle. -/
theorem Seen.plain {n i t : Nat} {lost : Nat → Bool} {sn0 sn : Nat → Nat} {h : Nat → Bool} (hs : Seen p n lost i sn0 h) (hw : Wlk p n i sn0 sn t) (hp : ∀ x y, x < n → p x = some y → y < n) (hi : i < n)
    (he : it p t i = none ∨ ∃ x, it p t i = some x ∧ sn0 x ≠ 0) : Seen p n lost (i + 1) sn h := by
  have hat : ∀ x, x < n → (∃ s, s < t ∧ it p s i = some x) ∨ (∀ s, s < t → it p s i ≠ some x) := fun x _ => by
    by_cases c : ∃ s, s < t ∧ it p s i = some x
    · exact .inl c
    · exact .inr (fun s a b => c ⟨s, a, b⟩)
  have hnc : ∀ s, s < t → ∀ y, it p s i = some y → ¬ OnCyc p y := by
    intro s hst y hy hc
    rcases he with he | ⟨x, he, hx⟩
    · obtain ⟨z, hz⟩ := cyc_some hc (t - s)
      rw [← it_add' hy, show s + (t - s) = t by omega, he] at hz
      cases hz
    · have h1 : it p (t - s) y = some x := by rw [← it_add' hy, show s + (t - s) = t by omega]; exact he
      obtain ⟨r, hr⟩ := cyc_back hc h1
      have hcl : ∀ r z, it p r x = some z → sn0 z ≠ 0 := by
        intro r
        induction r with
        | zero => intro z hz; simp [it] at hz; exact hz ▸ hx
        | succ r ih =>
          intro z hz
          simp only [it, Option.bind_eq_some_iff] at hz
          obtain ⟨u, h2, h3⟩ := hz
          exact hs.closed u (it_lt hp (it_lt hp hi he) h2) (ih u h2) z h3
      obtain ⟨y', hy', h0⟩ := hw.each s hst
      rw [hy] at hy'; cases hy'
      exact hcl r y hr h0
  refine ⟨fun x hx h0 y hy => ?_, fun x hx hxn => ?_, fun x hx => ?_, fun x hx h0 => ?_, fun x hx h0 => ?_⟩
  · rcases hat x hx with ⟨s, a, b⟩ | ho
    · have hn : it p (s + 1) i = some y := by simp only [it, b]; exact hy
      by_cases c : s + 1 < t
      · rw [hw.on _ c y hn]; omega
      · have c2 : s + 1 = t := by omega
        rw [c2] at hn
        rcases he with he | ⟨z, he, hz⟩
        · rw [he] at hn; cases hn
        · rw [he] at hn; cases hn
          rcases hat y (hp x y hx hy) with ⟨s', a', b'⟩ | ho'
          · rw [hw.on s' a' y b']; omega
          · rw [hw.off y (hp x y hx hy) ho']; exact hz
    · rw [hw.off x hx ho] at h0
      have h1 := hs.closed x hx h0 y hy
      rcases hat y (hp x y hx hy) with ⟨s', a', b'⟩ | ho'
      · rw [hw.on s' a' y b']; omega
      · rw [hw.off y (hp x y hx hy) ho']; exact h1
  · rcases hat x hxn with ⟨s', a', b'⟩ | ho'
    · rw [hw.on s' a' x b']; omega
    · rw [hw.off x hxn ho']
      by_cases c : x = i
      · subst c
        by_cases ct : t = 0
        · subst ct
          rcases he with he | ⟨z, he, hz⟩
          · simp [it] at he
          · simp [it] at he; rw [he]; exact hz
        · exact absurd rfl (ho' 0 (by omega))
      · exact hs.upto x (by omega) hxn
  · rcases hat x hx with ⟨s', a', b'⟩ | ho'
    · rw [hw.on s' a' x b']; omega
    · rw [hw.off x hx ho']; have := hs.le x hx; omega
  · rcases hat x hx with ⟨s', a', b'⟩ | ho'
    · obtain ⟨y, hy, hy0⟩ := hw.each s' a'
      rw [b'] at hy; cases hy
      rw [hs.rest x hx hy0]
      exact ⟨fun e => .inl e, fun e => e.elim id (fun l => absurd l.1 (hnc s' a' x b'))⟩
    · rw [hw.off x hx ho'] at h0
      exact hs.seen x hx h0
  · rcases hat x hx with ⟨s', a', b'⟩ | ho'
    · rw [hw.on s' a' x b'] at h0; omega
    · rw [hw.off x hx ho'] at h0; exact hs.rest x hx h0
/-- The walk ended in itself: the least of the cycle is a head. -/
theorem Seen.cycle {n i t x l : Nat} {lost : Nat → Bool} {sn0 sn : Nat → Nat} {h h' : Nat → Bool} (hs : Seen p n lost i sn0 h) (hw : Wlk p n i sn0 sn t) (hp : ∀ x y, x < n → p x = some y → y < n) (hi : i < n)
    (hlost : ∀ x, lost x = true → p x = none) (he : it p t i = some x) (hx : sn x = i + 1) (hl : ∃ r, it p r x = some l) (hmin : ∀ r y, it p r x = some y → l ≤ y) (h1 : h' l = true) (h2 : ∀ y, y < n → y ≠ l → h' y = h y) : Seen p n lost (i + 1) sn h' := by
  have hxn : x < n := it_lt hp hi he
  have hat : ∀ x, x < n → (∃ s, s < t ∧ it p s i = some x) ∨ (∀ s, s < t → it p s i ≠ some x) := fun x _ => by
    by_cases c : ∃ s, s < t ∧ it p s i = some x
    · exact .inl c
    · exact .inr (fun s a b => c ⟨s, a, b⟩)
  obtain ⟨s0, hs0, hx0⟩ : ∃ s, s < t ∧ it p s i = some x := by
    rcases hat x hxn with h | h
    · exact h
    · rw [hw.off x hxn h] at hx; have := hs.le x hxn; omega
  have orb : ∀ r, ∃ s', s0 ≤ s' ∧ s' < t ∧ it p r x = it p s' i := by
    intro r
    induction r with
    | zero => exact ⟨s0, Nat.le_refl _, hs0, hx0.symm⟩
    | succ r ih =>
      obtain ⟨s', a, b, c⟩ := ih
      have e : it p (r + 1) x = it p (s' + 1) i := by simp only [it, c]
      by_cases d : s' + 1 < t
      · exact ⟨s' + 1, by omega, d, e⟩
      · refine ⟨s0, Nat.le_refl _, hs0, ?_⟩
        rw [e, show s' + 1 = t by omega, he, hx0]
  have hcx : OnCyc p x := ⟨t - s0, by omega, by rw [← it_add' hx0, show s0 + (t - s0) = t by omega]; exact he⟩
  obtain ⟨rl, hrl⟩ := hl
  have hln : l < n := it_lt hp hxn hrl
  have hpne : ∀ s, s < t → ∀ y, it p s i = some y → lost y = false := by
    intro s a y hy
    cases e : lost y with
    | false => rfl
    | true =>
      have h3 := hlost y e
      have h4 : it p (s + 1) i = none := by simp only [it, hy]; exact h3
      by_cases c : s + 1 < t
      · obtain ⟨z, hz, _⟩ := hw.each (s + 1) c
        rw [h4] at hz; cases hz
      · rw [show s + 1 = t by omega, he] at h4; cases h4
  have hlsn : sn l ≠ 0 ∧ sn0 l = 0 := by
    obtain ⟨s', a, b, c⟩ := orb rl
    rw [hrl] at c
    obtain ⟨z, hz, hz0⟩ := hw.each s' b
    rw [← c] at hz; cases hz
    exact ⟨by rw [hw.on s' b l c.symm]; omega, hz0⟩
  have hLl : Least p l := by
    refine ⟨cyc_along hcx hrl, fun s y hy => ?_⟩
    exact hmin (rl + s) y (by rw [it_add' hrl]; exact hy)
  have hlo : lost l = false := by
    obtain ⟨s', a, b, c⟩ := orb rl
    rw [hrl] at c
    exact hpne s' b l c.symm
  refine ⟨fun y hy h0 z hz => ?_, fun y hy hyn => ?_, fun y hy => ?_, fun y hy h0 => ?_, fun y hy h0 => ?_⟩
  · rcases hat y hy with ⟨s, a, b⟩ | ho
    · have hn : it p (s + 1) i = some z := by simp only [it, b]; exact hz
      by_cases c : s + 1 < t
      · rw [hw.on _ c z hn]; omega
      · rw [show s + 1 = t by omega, he] at hn; cases hn; rw [hx]; omega
    · rw [hw.off y hy ho] at h0
      have h3 := hs.closed y hy h0 z hz
      rcases hat z (hp y z hy hz) with ⟨s', a', b'⟩ | ho'
      · rw [hw.on s' a' z b']; omega
      · rw [hw.off z (hp y z hy hz) ho']; exact h3
  · rcases hat y hyn with ⟨s', a', b'⟩ | ho'
    · rw [hw.on s' a' y b']; omega
    · rw [hw.off y hyn ho']
      by_cases c : y = i
      · subst c; exact absurd rfl (ho' 0 (by omega))
      · exact hs.upto y (by omega) hyn
  · rcases hat y hy with ⟨s', a', b'⟩ | ho'
    · rw [hw.on s' a' y b']; omega
    · rw [hw.off y hy ho']; have := hs.le y hy; omega
  · by_cases cl : y = l
    · subst cl; exact ⟨fun _ => .inr hLl, fun _ => h1⟩
    · rw [h2 y hy cl]
      rcases hat y hy with ⟨s', a', b'⟩ | ho'
      · obtain ⟨z, hz, hz0⟩ := hw.each s' a'
        rw [b'] at hz; cases hz
        rw [hs.rest y hy hz0, hpne s' a' y b']
        refine ⟨fun e => by simp at e, fun e => e.elim (fun f => by simp at f) (fun ⟨lc, lm⟩ => ?_)⟩
        exfalso
        by_cases c : s' < s0
        · have h3 : it p (s0 - s') y = some x := by rw [← it_add' b', show s' + (s0 - s') = s0 by omega]; exact hx0
          obtain ⟨r, hr⟩ := cyc_back lc h3
          obtain ⟨s2, a2, b2, c2⟩ := orb r
          exact hw.inj s' s2 (by omega) b2 (by rw [b', ← c2, hr])
        · have h3 : it p (s' - s0) x = some y := by rw [← it_add' hx0, show s0 + (s' - s0) = s' by omega]; exact b'
          have h4 := hmin _ y h3
          obtain ⟨r, hr⟩ := cyc_back hcx h3
          have h5 := lm (r + rl) l (by rw [it_add' hr]; exact hrl)
          omega
      · rw [hw.off y hy ho'] at h0
        exact hs.seen y hy h0
  · have cl : y ≠ l := fun e => hlsn.1 (e ▸ h0)
    rw [h2 y hy cl]
    rcases hat y hy with ⟨s', a', b'⟩ | ho'
    · rw [hw.on s' a' y b'] at h0; omega
    · rw [hw.off y hy ho'] at h0; exact hs.rest y hy h0
/-- The second walk: round the cycle, the least so far. -/
structure Rnd (p : Nat → Option Nat) (x r k l : Nat) : Prop where
  pos : 0 < r
  here : it p r x = some k
  has : ∃ r', r' < r ∧ it p r' x = some l
  min : ∀ r' y, r' < r → it p r' x = some y → l ≤ y
  fresh : ∀ r', 0 < r' → r' < r → it p r' x ≠ some x
theorem Rnd.start {x k : Nat} (h : p x = some k) : Rnd p x 1 k x := by
  refine ⟨by omega, by simp [it, h], ⟨0, by omega, rfl⟩, fun r' y h1 h2 => ?_, fun r' h1 h2 => by omega⟩
  obtain rfl : r' = 0 := by omega
  simp [it] at h2; omega
theorem Rnd.next {x r k l k' : Nat} (h : Rnd p x r k l) (hk : k ≠ x) (hp : p k = some k') : Rnd p x (r + 1) k' (Nat.min l k) := by
  refine ⟨by omega, by simp [it, h.here, hp], ?_, fun r' y h1 h2 => ?_, fun r' h1 h2 => ?_⟩
  · rcases Nat.le_total l k with c | c
    · obtain ⟨r', a, b⟩ := h.has
      exact ⟨r', by omega, by rw [b]; congr 1; exact (Nat.min_eq_left c).symm⟩
    · exact ⟨r, by omega, by rw [h.here]; congr 1; exact (Nat.min_eq_right c).symm⟩
  · by_cases c : r' = r
    · subst c; rw [h.here] at h2; cases h2; exact Nat.min_le_right _ _
    · exact Nat.le_trans (Nat.min_le_left _ _) (h.min r' y (by omega) h2)
  · by_cases c : r' = r
    · subst c; rw [h.here]; intro e; exact hk (Option.some.inj e)
    · exact h.fresh r' h1 (by omega)
theorem Rnd.short {x r k l c : Nat} (h : Rnd p x r k l) (h0 : 0 < c) (hc : it p c x = some x) : r ≤ c := by
  rcases Nat.lt_or_ge c r with a | a
  · exact absurd hc (h.fresh c h0 a)
  · exact a
theorem Rnd.done {x r l : Nat} (h : Rnd p x r x l) : (∃ r, it p r x = some l) ∧ ∀ r y, it p r x = some y → l ≤ y := by
  refine ⟨h.has.imp (fun _ a => a.2), fun m y hy => ?_⟩
  have : ∀ m, ∃ r', r' < r ∧ it p m x = it p r' x := by
    intro m
    induction m with
    | zero => exact ⟨0, h.pos, rfl⟩
    | succ m ih =>
      obtain ⟨r', a, b⟩ := ih
      have e : it p (m + 1) x = it p (r' + 1) x := by simp only [it, b]
      by_cases c : r' + 1 < r
      · exact ⟨r' + 1, c, e⟩
      · refine ⟨0, h.pos, ?_⟩
        rw [e, show r' + 1 = r by omega, h.here]; rfl
  obtain ⟨r', a, b⟩ := this m
  exact h.min r' y a (b ▸ hy)
end
end Go.Proofs.Ytjidldbolbjdpaa
