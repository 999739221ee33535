/- How the arguments of the laws read: messages and acts in memory, from what is known of a reading of them as data. -/
import Derived.Test.YtgafedmabaeemaaLawA
import Derived.ProofKit
import Derived.Deep.Slices
import Derived.Deep.Strs
namespace Go.Proofs.Ytgafedmabaeemaa
open Go.ChangeShapes Go.WideShapes Go.ChangeAt Go.RowKit Go.Deep

theorem own : ownKnob Try.prog.godebug = none := by kernel_rfl
theorem laidOut : laidOutB Try.prog = true := by kernel_rfl
theorem cells3 : Try.prog.cellsOf 3 = 1 := by kernel_rfl
theorem cells4 : Try.prog.cellsOf 4 = 1 := by kernel_rfl
theorem cells5 : Try.prog.cellsOf 5 = 1 := by kernel_rfl
theorem cells9 : Try.prog.cellsOf 9 = 1 := by kernel_rfl
theorem cells31 : Try.prog.cellsOf 31 = 3 := by kernel_rfl
theorem cells35 : Try.prog.cellsOf 35 = 5 := by kernel_rfl

section
variable {H : Type} {enc : TypeId × Value → H} {w : World} {base : Nat} {spare : Nat → Bool} {held : Bool} {fuel : Nat} {cs : List Value} {x : DataW H × List MemPlace}

/-- A message's cells. -/
theorem mail_cells (h : DataW.trod enc Try.prog w base spare held fuel 31 cs = some x) : ∃ m : Mail, cs = [.int .i64 m.f, .int .i64 m.t, .string m.d] ∧ m.d.size ≤ maxLen := by
  obtain ⟨y0, y1, y2, n, _, hl, h0, h1, h2⟩ := trod_struct3 Try.underlying31 h
  rw [cells31] at hl
  match cs, hl with
  | [c0, c1, c2], _ =>
    simp only [cells3, cells9, List.drop_zero, List.take_succ_cons, List.take_zero, List.drop_succ_cons] at h0 h1 h2
    obtain ⟨f, e0, _, _⟩ := DataW.trod_int Try.underlying3 h0
    obtain ⟨t, e1, _, _⟩ := DataW.trod_int Try.underlying3 h1
    obtain ⟨d, e2, _, hd⟩ := DataW.trod_string Try.underlying9 h2
    simp only [List.cons.injEq, and_true] at e0 e1 e2
    exact ⟨⟨f, t, d⟩, by rw [e0, e1, e2], hd⟩

theorem u8_bounds {k : Int} (h : (Lit.int .u8 k).wf = true) : 0 ≤ k ∧ k < 256 := by
  simp [Lit.wf, IntKind.min, IntKind.max, IntKind.signed, IntKind.bits] at h; omega

/-- An act's cells. -/
theorem act_cells (h : DataW.trod enc Try.prog w base spare held fuel 35 cs = some x) :
    ∃ a : Act', cs = [.int .u8 a.kind, .int .i64 a.m.f, .int .i64 a.m.t, .string a.m.d, .int .i64 a.i] ∧ 0 ≤ a.kind ∧ a.kind < 256 ∧ a.m.d.size ≤ maxLen := by
  obtain ⟨y0, y1, y2, n, _, hl, h0, h1, h2⟩ := trod_struct3 Try.underlying35 h
  rw [cells35] at hl
  match cs, hl with
  | [c0, c1, c2, c3, c4], _ =>
    simp only [cells3, cells5, cells31, List.drop_zero, List.take_succ_cons, List.take_zero, List.drop_succ_cons] at h0 h1 h2
    obtain ⟨k, e0, _, hk⟩ := DataW.trod_int Try.underlying5 h0
    obtain ⟨m, e1, hd⟩ := mail_cells h1
    obtain ⟨i, e2, _, _⟩ := DataW.trod_int Try.underlying3 h2
    simp only [List.cons.injEq, and_true] at e0 e1 e2
    obtain ⟨e1, e1', e1''⟩ := e1
    exact ⟨⟨k, m, i⟩, by rw [e0, e1, e1', e1'', e2], (u8_bounds hk).1, (u8_bounds hk).2, hd⟩

/-- What 'cells?' tells, cell by cell. -/
theorem mapM_get {α β : Type} {f : α → Option β} : ∀ {l : List α} {r : List β}, l.mapM f = some r → r.length = l.length ∧ ∀ (i : Nat) (y : β), r[i]? = some y → ∃ z, l[i]? = some z ∧ f z = some y
  | [], r, h => by simp at h; subst h; exact ⟨rfl, fun i y hy => by simp at hy⟩
  | z :: l, r, h => by
    rw [List.mapM_cons] at h
    cases h1 : f z with
    | none => simp [h1] at h
    | some y0 =>
      cases h2 : l.mapM f with
      | none => simp [h1, h2] at h
      | some r0 =>
        simp [h1, h2] at h
        subst h
        obtain ⟨e, ih⟩ := mapM_get h2
        refine ⟨by simp [e], fun i y hy => ?_⟩
        cases i with
        | zero => simp at hy; subst hy; exact ⟨z, rfl, h1⟩
        | succ i => simpa using ih i y (by simpa using hy)
theorem cells_get {a : Addr} {n : Nat} {cs' : List Value} (h : w.cells? base a n = some cs') : cs'.length = n ∧ ∀ r u, cs'[r]? = some u → w.cell? (a.add r) = some u := by
  unfold World.cells? at h
  split at h
  · obtain ⟨e, hg⟩ := mapM_get h
    refine ⟨by simpa using e, fun r u hu => ?_⟩
    obtain ⟨z, hz, hf⟩ := hg r u hu
    have hr : r < n := by have := (List.getElem?_eq_some_iff.1 hu).1; simp at e; omega
    rw [List.getElem?_range hr] at hz
    cases hz; exact hf
  · cases h

theorem cellsA_map (f : Nat → Act') : ∀ (n : Nat) (j : Nat) (u : Value), (cellsA ((List.range n).map f))[j]? = some u → j / 5 < n ∧ [Value.int .u8 (f (j / 5)).kind, .int .i64 (f (j / 5)).m.f, .int .i64 (f (j / 5)).m.t, .string (f (j / 5)).m.d, .int .i64 (f (j / 5)).i][j % 5]? = some u := by
  intro n j u hu
  have hl := (List.getElem?_eq_some_iff.1 hu).1
  rw [cellsA_length] at hl
  simp at hl
  have hq : j / 5 < n := by omega
  refine ⟨hq, ?_⟩
  have hg : ((List.range n).map f)[j / 5]? = some (f (j / 5)) := by simp [hq]
  obtain ⟨g0, g1, g2, g3, g4⟩ := cellsA_get _ _ _ hg
  have hj : j = j / 5 * 5 + j % 5 := by omega
  have hr : j % 5 < 5 := Nat.mod_lt _ (by omega)
  generalize j % 5 = r at *
  generalize j / 5 = q at *
  subst hj
  rcases r with _ | _ | _ | _ | _ | r
  · rw [Nat.add_zero, g0] at hu; exact hu
  · rw [g1] at hu; exact hu
  · rw [g2] at hu; exact hu
  · rw [g3] at hu; exact hu
  · rw [g4] at hu; exact hu
  · omega

instance : Inhabited Act' := ⟨⟨0, Mail.zero, 0⟩⟩
instance : Inhabited Mail := ⟨Mail.zero⟩

/-- A slice of acts that came in. -/
theorem acts_open {a : Option Addr} {len cap : Nat} (h : DataW.trod enc Try.prog w 0 spare held fuel 22 [.slice a len cap] = some x) :
    ∃ L : List Act', ReadsA w (.slice a len cap) L ∧ L.length = len ∧ len ≤ maxLen ∧ ∀ y ∈ L, 0 ≤ y.kind ∧ y.kind < 256 ∧ y.m.d.size ≤ maxLen := by
  rcases open_slice Try.underlying22 h with ⟨hcs, _⟩ | ⟨b, len', cap', m, n, D, Pl, hcs, _, hl, hm, hmm, _, hel⟩
  · simp at hcs
    obtain ⟨rfl, rfl, rfl⟩ := hcs
    exact ⟨[], ⟨none, 0, rfl, .inl rfl⟩, rfl, by simp [maxLen], fun y hy => by cases hy⟩
  · simp at hcs
    obtain ⟨rfl, rfl, rfl⟩ := hcs
    have hlm : len ≤ m := by rw [hmm]; split <;> omega
    rw [cells35] at hel
    obtain ⟨f, hf⟩ := choose_lt (n := len) (p := fun i (y : Act') => (∃ cs', w.cells? 0 (b.add (i * 5)) 5 = some cs' ∧ cs' = [.int .u8 y.kind, .int .i64 y.m.f, .int .i64 y.m.t, .string y.m.d, .int .i64 y.i]) ∧ 0 ≤ y.kind ∧ y.kind < 256 ∧ y.m.d.size ≤ maxLen) (fun i hi => by
      obtain ⟨cs', h1, h2⟩ := hel i (by omega)
      obtain ⟨y, e, hb⟩ := act_cells h2
      exact ⟨y, ⟨cs', h1, e⟩, hb⟩)
    refine ⟨(List.range len).map f, ⟨some b, cap, by simp, ?_⟩, by simp, by omega, fun y hy => ?_⟩
    · by_cases h0 : len = 0
      · left; subst h0; rfl
      · right
        obtain ⟨⟨cs', h1, h2⟩, _⟩ := hf 0 (by omega)
        obtain ⟨_, hg⟩ := cells_get h1
        have hspot : b.spot = none := by
          have := hg 0 (.int .u8 (f 0).kind) (by rw [h2]; rfl)
          have := World.cell?_spot this
          simpa [Addr.add] using this
        obtain ⟨bb, bo, bs⟩ := b
        simp at hspot; subst hspot
        refine ⟨bb, bo, rfl, fun j u hu => ?_⟩
        obtain ⟨hq, hu'⟩ := cellsA_map f len j u hu
        obtain ⟨⟨cs', h1, h2⟩, _⟩ := hf (j / 5) hq
        obtain ⟨_, hg⟩ := cells_get h1
        have := hg (j % 5) u (by rw [h2]; exact hu')
        rw [add_mid, add_mid] at this
        rw [show bo + j = bo + j / 5 * 5 + j % 5 by omega]
        exact this
    · obtain ⟨i, hi, rfl⟩ := List.mem_map.1 hy
      exact (hf i (List.mem_range.1 hi)).2

theorem cellsL_map (f : Nat → Mail) : ∀ (n : Nat) (j : Nat) (u : Value), (cellsL ((List.range n).map f))[j]? = some u → j / 3 < n ∧ [Value.int .i64 (f (j / 3)).f, .int .i64 (f (j / 3)).t, .string (f (j / 3)).d][j % 3]? = some u := by
  intro n j u hu
  have hl := (List.getElem?_eq_some_iff.1 hu).1
  rw [cellsL_length] at hl
  simp at hl
  have hq : j / 3 < n := by omega
  refine ⟨hq, ?_⟩
  have hg : ((List.range n).map f)[j / 3]? = some (f (j / 3)) := by simp [hq]
  obtain ⟨g0, g1, g2⟩ := cellsL_get _ _ _ hg
  have hj : j = j / 3 * 3 + j % 3 := by omega
  have hr : j % 3 < 3 := Nat.mod_lt _ (by omega)
  generalize j % 3 = r at *
  generalize j / 3 = q at *
  subst hj
  rcases r with _ | _ | _ | r
  · rw [Nat.add_zero, g0] at hu; exact hu
  · rw [g1] at hu; exact hu
  · rw [g2] at hu; exact hu
  · omega

/-- A slice of messages that came in. -/
theorem mails_open {a : Option Addr} {len cap : Nat} (h : DataW.trod enc Try.prog w 0 spare held fuel 27 [.slice a len cap] = some x) :
    ∃ L : List Mail, Reads w (.slice a len cap) L ∧ L.length = len ∧ len ≤ maxLen ∧ ∀ y ∈ L, y.d.size ≤ maxLen := by
  rcases open_slice Try.underlying27 h with ⟨hcs, _⟩ | ⟨b, len', cap', m, n, D, Pl, hcs, _, hl, hm, hmm, _, hel⟩
  · simp at hcs
    obtain ⟨rfl, rfl, rfl⟩ := hcs
    exact ⟨[], ⟨none, 0, rfl, .inl rfl⟩, rfl, by simp [maxLen], fun y hy => by cases hy⟩
  · simp at hcs
    obtain ⟨rfl, rfl, rfl⟩ := hcs
    have hlm : len ≤ m := by rw [hmm]; split <;> omega
    rw [cells31] at hel
    obtain ⟨f, hf⟩ := choose_lt (n := len) (p := fun i (y : Mail) => (∃ cs', w.cells? 0 (b.add (i * 3)) 3 = some cs' ∧ cs' = [.int .i64 y.f, .int .i64 y.t, .string y.d]) ∧ y.d.size ≤ maxLen) (fun i hi => by
      obtain ⟨cs', h1, h2⟩ := hel i (by omega)
      obtain ⟨y, e, hb⟩ := mail_cells h2
      exact ⟨y, ⟨cs', h1, e⟩, hb⟩)
    refine ⟨(List.range len).map f, ⟨some b, cap, by simp, ?_⟩, by simp, by omega, fun y hy => ?_⟩
    · by_cases h0 : len = 0
      · left; subst h0; rfl
      · right
        obtain ⟨⟨cs', h1, h2⟩, _⟩ := hf 0 (by omega)
        obtain ⟨_, hg⟩ := cells_get h1
        have hspot : b.spot = none := by
          have := hg 0 (.int .i64 (f 0).f) (by rw [h2]; rfl)
          have := World.cell?_spot this
          simpa [Addr.add] using this
        obtain ⟨bb, bo, bs⟩ := b
        simp at hspot; subst hspot
        refine ⟨bb, bo, rfl, fun j u hu => ?_⟩
        obtain ⟨hq, hu'⟩ := cellsL_map f len j u hu
        obtain ⟨⟨cs', h1, h2⟩, _⟩ := hf (j / 3) hq
        obtain ⟨_, hg⟩ := cells_get h1
        have := hg (j % 3) u (by rw [h2]; exact hu')
        rw [add_mid, add_mid] at this
        rw [show bo + j = bo + j / 3 * 3 + j % 3 by omega]
        exact this
    · obtain ⟨i, hi, rfl⟩ := List.mem_map.1 hy
      exact (hf i (List.mem_range.1 hi)).2

end
end Go.Proofs.Ytgafedmabaeemaa
