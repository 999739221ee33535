/- A part of the proof. -/
import Derived.Test.YthkcicilmhpfjaaGreatDoorRows
import Derived.ChangeSame
import Derived.ChangeVars
import Derived.JoinedOf
import Derived.RowKit
import Derived.RowKitTokens
import Derived.LaidLaws
import Derived.Stop.LaidErr
import Derived.Stop.ErrReads
import Derived.ProofKit
import Derived.ChangeAt
import Derived.ChangeAt2
import Derived.OpenShut
import Derived.Deep.Slices
import Derived.Deep.Strs
import Derived.Test.YthkcicilmhpfjaaGreatDoorFm4

/- FarmNone: the summary of Beyond, the runs. -/
namespace Go.Proofs.YthkcicilmhpfjaaGreatDoor
open Go.RowKit Go.Eng

noncomputable def xAV : List AV := [.sym 2, .sym 3, .sym 4, .sym 5, .sym 6, .sym 7, .sym 8, .sym 9, .sym 10, .sym 11, .sym 12, .sym 13]
noncomputable def beyF (b : Bool) (args : List AV) (h : Heap) (c : Nat) : Option CRes := match args with
  | [.slice n o 1 _ _, .int .i64 (.ofNat 1)] => match cells? h n with
    | some (_, cs) => match row? cs o 12 with
      | some r => bif avsEq r xAV then some (.mk (.bool b) h c) else none
      | none => none
    | none => none
  | _ => none
noncomputable def exFar (b : Bool) : Nat → Option (List AV → Heap → Nat → Option CRes) := fun n => bif Nat.beq n 52 then some (beyF b) else bif Nat.beq n 53 then some livesS else none

set_option maxRecDepth 1000000 in
theorem farT : isRes 6 hG (.bool true) (callE Tryz.prog (smMore (exFar true)) 100000 (.fn 7) [.agg xAV, .sym 14] hG 6) = true := by decide +kernel
set_option maxRecDepth 1000000 in
theorem far1 : isRes 6 hG (.bool true) (callE Tryz.prog (smMore (exFar false)) 100000 (.fn 7) [.agg xAV, I 1] hG 6) = true := by decide +kernel
set_option maxRecDepth 1000000 in
theorem far2 : isRes 6 hG (.bool true) (callE Tryz.prog (smMore (exFar false)) 100000 (.fn 7) [.agg xAV, I 2] hG 6) = true := by decide +kernel
set_option maxRecDepth 1000000 in
theorem far3 : isRes 6 hG (.bool true) (callE Tryz.prog (smMore (exFar false)) 100000 (.fn 7) [.agg xAV, I 3] hG 6) = true := by decide +kernel
set_option maxRecDepth 1000000 in
theorem far4 : isRes 6 hG (.bool true) (callE Tryz.prog (smMore (exFar false)) 100000 (.fn 7) [.agg xAV, I 4] hG 6) = true := by decide +kernel
set_option maxRecDepth 1000000 in
theorem farL : isRes 6 hG (.bool true) (callE Tryz.prog (smMore (exFar false)) 100000 (.fn 7) [.agg xAV, .sym 2000] hG 6) = true := by decide +kernel
set_option maxRecDepth 1000000 in
theorem farH : isRes 6 hG (.bool true) (callE Tryz.prog (smMore (exFar false)) 100000 (.fn 7) [.agg xAV, .sym 2011] hG 6) = true := by decide +kernel
end Go.Proofs.YthkcicilmhpfjaaGreatDoor

/- FarmNone of any step and any number. -/
namespace Go.Proofs.YthkcicilmhpfjaaGreatDoor
open Go.RowKit Go.Eng

theorem beyF_ok {η : Env} {m : Stp} {b : Bool} (hx : ∀ σ, concs σ η xAV = some m.cells) (hb : beyX m = b) {args : List AV} {h : Heap} {c : Nat} {v : AV} {h' : Heap} {c' : Nat} (he : beyF b args h c = some (.mk v h' c')) {σ : Sig} {w : World} {avs : List Value} (H : HR Tryz.prog σ η h c w) (ha : concs σ η args = some avs) : Calls Tryz.prog 52 avs.toArray w (Done Tryz.prog η σ h c w v h' c') := by
  unfold beyF at he
  split at he
  · rename_i n o cp fl
    split at he
    · rename_i t cs hcs
      split at he
      · rename_i r hr
        cases e : avsEq r xAV with
        | false => simp [e] at he
        | true =>
          simp only [e, cond_true, Option.some.injEq, CRes.mk.injEq] at he
          obtain ⟨rfl, rfl, rfl⟩ := he
          rw [avsEq_eq e] at hr
          obtain ⟨sv, rs, hp, hq, rfl⟩ := concs_cons.1 ha
          obtain ⟨iv, rs2, hp2, hq2, rfl⟩ := concs_cons.1 hq
          simp only [concs, Option.some.injEq] at hq2
          subst hq2
          rw [conc_int] at hp2
          subst hp2
          obtain ⟨l, hl, rfl⟩ := conc_slice.1 hp
          obtain ⟨us, u1, _, u3, _⟩ := H.cells hcs hl
          obtain ⟨k1, _, _⟩ := concs_row u1 hr
          have k2 : (us.drop o).take 12 = m.cells := Option.some.inj (k1.symm.trans (hx σ))
          refine (beyond52 (m := m) (fun j u hu => ?_)).mono ?_
          · rw [← k2, List.getElem?_take] at hu
            split at hu
            · rw [List.getElem?_drop] at hu
              have := u3 _ _ hu
              rwa [← Nat.add_assoc] at this
            · cases hu
          · rintro e w' ⟨rfl, K⟩
            rw [hb]
            exact ⟨_, σ, rfl, rfl, Went.kept' H ⟨K.os, K.tape, K.output, K.size, K.block⟩⟩
      · cases he
    · cases he
  · cases he

theorem exFar_ok {η : Env} {m : Stp} {b : Bool} (hx : ∀ σ, concs σ η xAV = some m.cells) (hb : beyX m = b) : SmOk Tryz.prog η (smMore (exFar b)) := by
  refine smMore_ok fun f g hg args h c v h' c' he σ w avs H ha => ?_
  unfold exFar at hg
  cases e : Nat.beq f 52 with
  | true =>
    simp only [e, cond_true, Option.some.injEq] at hg
    subst hg
    have := Nat.eq_of_beq_eq_true e
    subst this
    exact leads_of noGo Tryz.func52 (by kernel_rfl) (beyF_ok hx hb he H ha)
  | false =>
    simp only [e, cond_false] at hg
    cases e2 : Nat.beq f 53 with
    | true =>
      simp only [e2, cond_true, Option.some.injEq] at hg
      subst hg
      have := Nat.eq_of_beq_eq_true e2
      subst this
      exact leads_of noGo Tryz.func53 (by kernel_rfl) (livesS_ok (f := 53) (fun R => lives28_any R) he H ha)
    | false => simp [e2] at hg

theorem farmNone_any {η : Env} {m : Stp} {n : Int} {w : World} (hx : ∀ σ, concs σ η xAV = some m.cells) (h14 : η.val 14 = .int .i64 n) (hl : η.val 2000 = .int .i64 n) (hh : η.val 2011 = .int .i64 n) (h0 : RoHeap Tryz.prog η hG w) :
    Calls Tryz.prog 7 #[.agg m.cells.toArray, .int .i64 n] w fun e w' => e = .returned (.bool true) ∧ Eng.Kept (fun _ => False) w w' := by
  have G : Tryz.prog.globals.size = 6 := by kernel_rfl
  have hagg : ∀ σ, conc σ η (.agg xAV) = some (.agg m.cells.toArray) := fun σ => conc_agg.2 ⟨_, hx σ, rfl, rfl⟩
  have two : ∀ {a : AV}, conc (sig0 Tryz.prog.globals.size) η a = some (.int .i64 n) → concs (sig0 Tryz.prog.globals.size) η [.agg xAV, a] = some [.agg m.cells.toArray, .int .i64 n] := fun h =>
    concs_cons.2 ⟨_, _, hagg _, concs_cons.2 ⟨_, _, h, rfl, rfl⟩, rfl⟩
  cases hb : beyX m with
  | true =>
    exact calls_plain (v := .bool true) mixed noGo (exFar_ok hx hb) (by rw [G]; exact farT) Tryz.func7 (by kernel_rfl) h0 (two (by simp only [conc, h14]; rfl)) fun _ => rfl
  | false =>
    by_cases h1 : n = 1
    · subst h1
      exact calls_plain (v := .bool true) mixed noGo (exFar_ok hx hb) (by rw [G]; exact far1) Tryz.func7 (by kernel_rfl) h0 (two rfl) fun _ => rfl
    by_cases h2 : n = 2
    · subst h2
      exact calls_plain (v := .bool true) mixed noGo (exFar_ok hx hb) (by rw [G]; exact far2) Tryz.func7 (by kernel_rfl) h0 (two rfl) fun _ => rfl
    by_cases h3 : n = 3
    · subst h3
      exact calls_plain (v := .bool true) mixed noGo (exFar_ok hx hb) (by rw [G]; exact far3) Tryz.func7 (by kernel_rfl) h0 (two rfl) fun _ => rfl
    by_cases h4 : n = 4
    · subst h4
      exact calls_plain (v := .bool true) mixed noGo (exFar_ok hx hb) (by rw [G]; exact far4) Tryz.func7 (by kernel_rfl) h0 (two rfl) fun _ => rfl
    by_cases h5 : n ≤ 0
    · have ok : symOk 2000 (.int .i64 n) = true := by
        have : symB 2000 = 0 := by decide +kernel
        have z : Nat.blt 2000 1000 = false := by decide
        have y : Nat.beq (Nat.mod 2000 2) 0 = true := by decide
        simp only [symOk, z, cond_false, y, cond_true, this, decide_eq_true h5, Value.oneCell', Bool.and_self]
      exact calls_plain (v := .bool true) mixed noGo (exFar_ok hx hb) (by rw [G]; exact farL) Tryz.func7 (by kernel_rfl) h0 (two (by simp only [conc, hl]; exact if_pos ok)) fun _ => rfl
    · have h6 : (5 : Int) ≤ n := by omega
      have ok : symOk 2011 (.int .i64 n) = true := by
        have : symB 2011 = 5 := by decide +kernel
        have z : Nat.blt 2011 1000 = false := by decide
        have y : Nat.beq (Nat.mod 2011 2) 0 = false := by decide
        simp only [symOk, z, cond_false, y, this, decide_eq_true h6, Value.oneCell', Bool.and_self]
      exact calls_plain (v := .bool true) mixed noGo (exFar_ok hx hb) (by rw [G]; exact farH) Tryz.func7 (by kernel_rfl) h0 (two (by simp only [conc, hh]; exact if_pos ok)) fun _ => rfl
end Go.Proofs.YthkcicilmhpfjaaGreatDoor

/- What the rows list of the variables: the one variable that the runs read, and a world in which they all hold what is listed. -/
namespace Go.Proofs.YthkcicilmhpfjaaGreatDoor
open Go.ChangeShapes Go.WideShapes Go.RowKit Go.Eng

theorem ownT : ownKnob Tryz.prog.godebug = none := by kernel_rfl
theorem starT : "*" ++ "errors.errorString" = "*errors.errorString" := by decide
theorem row591 (u : TypeId) (h : Tryz.prog.typeName? 3 u = some "*errors.errorString") : u = 591 :=
  typeName_ptr_named (nm := "errors.errorString") (by rw [starT]; kernel_rfl) (by kernel_rfl) (by decide) u (by rw [starT]; exact h)

/-- The values that the runs' names stand for, in a world: the variable's, and the arguments. -/
noncomputable def envW (W : World) (ys : List Value) : Env := ⟨fun i => match i with
  | 1 => (W.cell? ⟨1, 0, none⟩).getD undef
  | i => ys.getD (i - 2) undef, fun n => W.heap[n]?⟩

theorem laid_roE {W : World} {r : List (String × DataW Unit)} (h : laidMet Tryz.prog (("strconv.ErrSyntax", Rows.laid_strconv_ErrSyntax) :: r) W) {η : Env} (h1 : η.val 1 = (W.cell? ⟨1, 0, none⟩).getD undef) (hb : η.blk 1 = W.heap[1]?) : RoHeap Tryz.prog η hG W := by
  obtain ⟨a, s, hv, _⟩ := laid_sentinel h (g := 1) (ti := 261) (tp := 591) (te := 593) (ts := 9) (by kernel_rfl) (by kernel_rfl) Tryz.underlying261 row591 Tryz.underlying591 Tryz.underlying593 rfl rfl Tryz.underlying9 (by kernel_rfl) (by kernel_rfl)
  have hg : Tryz.prog.globalNamed "strconv.ErrSyntax" = some 1 := by kernel_rfl
  have hc : W.cell? ⟨1, 0, none⟩ = some (.iface 591 (.pointer (some a))) := by simpa using World.var?_cell hg hv 0
  unfold World.var? at hv
  rw [hg] at hv
  simp only [Option.bind_some] at hv
  intro n o hn
  obtain ⟨rfl, rfl⟩ := hG_get hn
  split at hv
  · rename_i cs t fr e
    cases hv
    refine ⟨by rw [show Tryz.prog.globals.size = 6 by kernel_rfl]; decide, 261, _, rfl, _, fr, [.iface 591 (.pointer (some a))], t, e, fun σ => ?_, fun i v hi => by simpa using hi, rfl, hb.trans e⟩
    have : η.val 1 = .iface 591 (.pointer (some a)) := by rw [h1, hc]; rfl
    refine concs_cons.2 ⟨_, [], ?_, rfl, rfl⟩
    simp only [conc, this]
    rfl
  · cases hv

theorem laid_ro {W : World} {r : List (String × DataW Unit)} (h : laidMet Tryz.prog (("strconv.ErrSyntax", Rows.laid_strconv_ErrSyntax) :: r) W) (ys : List Value) : RoHeap Tryz.prog (envW W ys) hG W := laid_roE h rfl rfl

/-! ### a world that holds what is listed -/
abbrev synS : ByteArray := { data := #[105, 110, 118, 97, 108, 105, 100, 32, 115, 121, 110, 116, 97, 120] }
abbrev rngS : ByteArray := { data := #[118, 97, 108, 117, 101, 32, 111, 117, 116, 32, 111, 102, 32, 114, 97, 110, 103, 101] }
noncomputable def low : Nat := (World.holding Tryz.prog default ⟨#[], #[], []⟩).heap.size
def litsOf (k : IntKind) : DataW Unit → Array Value
  | .agg l => (l.map fun | .lit (.int _ n) => Value.int k n | _ => undef).toArray
  | _ => #[]
def withCells (cs : Array Value) : Obj → Obj
  | .cells _ t frozen => .cells cs t frozen
  | o => o
noncomputable def laidWorld (os : Os) : World :=
  let w0 := World.holding Tryz.prog os ⟨#[.cells #[.string synS] 593, .cells #[.string rngS] 593], #[], []⟩
  { w0 with heap := ((((w0.heap.modify 1 (withCells #[.iface 591 (.pointer (some ⟨low, 0, none⟩))])).modify 2 (withCells #[.iface 591 (.pointer (some ⟨low + 1, 0, none⟩))])).modify 3 (withCells (litsOf .u64 Rows.laid_internal_strconv_uint64pow10))).modify 4 (withCells (litsOf .u8 Rows.laid_math_bits_deBruijn32tab))).modify 5 (withCells (litsOf .u8 Rows.laid_math_bits_deBruijn64tab)) }
end Go.Proofs.YthkcicilmhpfjaaGreatDoor

/- Cells in memory, and how a list of them reads as an argument; whether a list of them is beyond: yes or no, and nothing turns. -/
namespace Go.Proofs.YthkcicilmhpfjaaGreatDoor
open Go.ChangeShapes Go.WideShapes Go.ChangeAt Go.RowKit Go.Deep

structure Cl where
  ke : ByteArray
  sq : Int
  va : ByteArray
  deriving Inhabited
def Cl.cells (m : Cl) : List Value := [.string m.ke, .int .i64 m.sq, .string m.va]
def cellsC : List Cl → List Value
  | [] => []
  | m :: t => m.cells ++ cellsC t
theorem cellsC_length : ∀ L, (cellsC L).length = L.length * 3
  | [] => rfl
  | m :: t => by simp [cellsC, cellsC_length t, Cl.cells]; omega
theorem cellsC_at : ∀ (L : List Cl) (i : Nat) (m : Cl), L[i]? = some m → ∀ k, k < 3 → (cellsC L)[i * 3 + k]? = m.cells[k]?
  | [], i, m, h, _, _ => by simp at h
  | x :: t, 0, m, h, k, hk => by
    simp at h; subst h
    rw [cellsC, List.getElem?_append_left (by simp [Cl.cells]; omega)]; simp
  | x :: t, i + 1, m, h, k, hk => by
    have := cellsC_at t i m (by simpa using h) k hk
    rw [cellsC, List.getElem?_append_right (by simp [Cl.cells]; omega)]
    rw [← this]; congr 1; simp [Cl.cells]; omega
/-- A list of cells, as it lies. -/
def ReadsC (w : World) (v : Value) (L : List Cl) : Prop :=
  ∃ ao cap, v = .slice ao L.length cap ∧ (L = [] ∨ ∃ g o, ao = some ⟨g, o, none⟩ ∧ ∀ j u, (cellsC L)[j]? = some u → w.cell? ⟨g, o + j, none⟩ = some u)
theorem ReadsC.at {w : World} {L : List Cl} {g o : Nat} (hc : ∀ j u, (cellsC L)[j]? = some u → w.cell? ⟨g, o + j, none⟩ = some u) {i : Nat} {m : Cl} (hm : L[i]? = some m) :
    w.cell? ⟨g, o + i * 3, none⟩ = some (.string m.ke) ∧ w.cell? ⟨g, o + i * 3 + 1, none⟩ = some (.int .i64 m.sq) ∧ w.cell? ⟨g, o + i * 3 + 2, none⟩ = some (.string m.va) := by
  have h := fun k hk u (hu : m.cells[k]? = some u) => hc _ u ((cellsC_at L i m hm k hk).trans hu)
  refine ⟨by have := h 0 (by omega) _ rfl; simpa [Nat.add_assoc] using this, by have := h 1 (by omega) _ rfl; simpa [Nat.add_assoc] using this, by have := h 2 (by omega) _ rfl; simpa [Nat.add_assoc] using this⟩
theorem cellsOf3 : Tryz.prog.cellsOf 3 = 1 := by kernel_rfl
theorem cellsOf9 : Tryz.prog.cellsOf 9 = 1 := by kernel_rfl
theorem cellsOf38 : Tryz.prog.cellsOf 38 = 3 := by kernel_rfl

section
variable {H : Type} {enc : TypeId × Value → H} {w : World} {base : Nat} {spare : Nat → Bool} {held : Bool} {fuel : Nat} {cs : List Value} {x : DataW H × List MemPlace}
set_option maxRecDepth 100000 in
theorem cl_cells (h : DataW.trod enc Tryz.prog w base spare held fuel 38 cs = some x) : ∃ m : Cl, cs = m.cells ∧ m.ke.size ≤ maxLen ∧ m.va.size ≤ maxLen := by
  obtain ⟨xs, n, _, rfl, hl, hlen, hf⟩ := DataW.trod_struct Tryz.underlying38 h
  rw [cellsOf38] at hl
  match xs, hlen, cs, hl with
  | [y0, y1, y2], _, [c0, c1, c2], _ =>
    have h0 := hf 0 _ rfl
    have h1 := hf 1 _ rfl
    have h2 := hf 2 _ rfl
    simp [cellsOf9] at h0
    simp [cellsOf3] at h1
    simp [cellsOf9] at h2
    obtain ⟨a0, e0, _, b0⟩ := DataW.trod_string Tryz.underlying9 h0
    obtain ⟨a1, e1, _, _⟩ := DataW.trod_int Tryz.underlying3 h1
    obtain ⟨a2, e2, _, b2⟩ := DataW.trod_string Tryz.underlying9 h2
    simp only [List.cons.injEq, and_true] at e0 e1 e2
    exact ⟨⟨a0, a1, a2⟩, by rw [e0, e1, e2]; rfl, b0, b2⟩
theorem mapM_get {α β : Type} {f : α → Option β} : ∀ {l : List α} {r : List β}, l.mapM f = some r → r.length = l.length ∧ ∀ (i : Nat) (y : β), r[i]? = some y → ∃ z, l[i]? = some z ∧ f z = some y
  | [], r, h => by simp at h; subst h; exact ⟨rfl, fun i y hy => by simp at hy⟩
  | z :: l, r, h => by
    rw [List.mapM_cons] at h
    cases h1 : f z with
    | none => simp [h1] at h
    | some y0 =>
      cases h2 : l.mapM f with
      | none => simp [h1, h2] at h
      | some r0 =>
        simp [h1, h2] at h
        subst h
        obtain ⟨e, ih⟩ := mapM_get h2
        refine ⟨by simp [e], fun i y hy => ?_⟩
        cases i with
        | zero => simp at hy; subst hy; exact ⟨z, rfl, h1⟩
        | succ i => simpa using ih i y (by simpa using hy)
theorem cells_get {a : Addr} {n : Nat} {cs' : List Value} (h : w.cells? base a n = some cs') : cs'.length = n ∧ ∀ r u, cs'[r]? = some u → w.cell? (a.add r) = some u := by
  unfold World.cells? at h
  split at h
  · obtain ⟨e, hg⟩ := mapM_get h
    refine ⟨by simpa using e, fun r u hu => ?_⟩
    obtain ⟨z, hz, hf⟩ := hg r u hu
    have hr : r < n := by have := (List.getElem?_eq_some_iff.1 hu).1; simp at e; omega
    rw [List.getElem?_range hr] at hz
    cases hz; exact hf
  · cases h
theorem cells_open (h : DataW.trod enc Tryz.prog w 0 spare held fuel 34 cs = some x) :
    ∃ v, cs = [v] ∧ ∃ R : List Cl, ReadsC w v R ∧ R.length ≤ maxLen ∧ ∀ y ∈ R, y.ke.size ≤ maxLen ∧ y.va.size ≤ maxLen := by
  rcases open_slice Tryz.underlying34 h with ⟨hcs, _⟩ | ⟨b, len, cap, m, n, D, Pl, hcs, _, hl, hm, hmm, _, hel⟩
  · exact ⟨_, hcs, [], ⟨none, 0, rfl, .inl rfl⟩, by simp, fun y hy => by cases hy⟩
  · have hlm : len ≤ m := by rw [hmm]; split <;> omega
    rw [cellsOf38] at hel
    obtain ⟨f, hf⟩ := choose_lt (n := len) (p := fun i (y : Cl) => (∃ cs', w.cells? 0 (b.add (i * 3)) 3 = some cs' ∧ cs' = y.cells) ∧ y.ke.size ≤ maxLen ∧ y.va.size ≤ maxLen) (fun i hi => by
      obtain ⟨cs', h1, h2⟩ := hel i (by omega)
      obtain ⟨y, e, hb⟩ := cl_cells h2
      exact ⟨y, ⟨cs', h1, e⟩, hb⟩)
    refine ⟨_, hcs, (List.range len).map f, ⟨some b, cap, by simp, ?_⟩, by simp; omega, fun y hy => ?_⟩
    · by_cases h0 : len = 0
      · left; subst h0; rfl
      · right
        obtain ⟨⟨cs', h1, h2⟩, _⟩ := hf 0 (by omega)
        obtain ⟨_, hg⟩ := cells_get h1
        have hspot : b.spot = none := by
          have := hg 0 (.string (f 0).ke) (by rw [h2]; rfl)
          have := World.cell?_spot this
          simpa [Addr.add] using this
        obtain ⟨bb, bo, bs⟩ := b
        simp at hspot; subst hspot
        refine ⟨bb, bo, rfl, fun j u hu => ?_⟩
        have hl2 := (List.getElem?_eq_some_iff.1 hu).1
        rw [cellsC_length] at hl2
        simp at hl2
        have hq : j / 3 < len := by omega
        have hj : j = j / 3 * 3 + j % 3 := by omega
        have hgm : ((List.range len).map f)[j / 3]? = some (f (j / 3)) := by simp [hq]
        rw [hj, cellsC_at _ _ _ hgm _ (Nat.mod_lt _ (by omega))] at hu
        obtain ⟨⟨cs', h1, h2⟩, _⟩ := hf (j / 3) hq
        obtain ⟨_, hg⟩ := cells_get h1
        have := hg (j % 3) u (by rw [h2]; exact hu)
        rw [add_mid, add_mid] at this
        rw [show bo + j = bo + j / 3 * 3 + j % 3 by omega]
        exact this
    · obtain ⟨i, hi, rfl⟩ := List.mem_map.1 hy
      exact (hf i (by simpa using hi)).2
end

def AnyB (e : Ending) : Prop := ∃ r : Bool, e = .returned (.bool r)
set_option maxHeartbeats 4000000 in
set_option maxRecDepth 100000 in
theorem beyond_any (mx : Int) {w : World} {v : Value} {L : List Cl} (h : ReadsC w v L) (hl : L.length ≤ 9223372036854775807) (hfit : ∀ y ∈ L, y.ke.size ≤ 9223372036854775807 ∧ y.va.size ≤ 9223372036854775807) :
    Calls Tryz.prog 13 #[v, .int .i64 mx] w fun e w' => AnyB e ∧ w = w' := by
  obtain ⟨ao, cap, rfl, h⟩ := h
  have HR := Lib.hid h
  clear h
  by_cases h20 : (L.length : Int) ≤ mx
  · have e1 : ¬ mx < (L.length : Int) := by omega
    go_enter Tryz.func13, Tryz.ntmps13
    go_wp2
    go_loopg [5] L.length (fun gh t wr => ∃ k : Nat, k + gh = L.length ∧ t = .int .i64 k ∧ wr = w)
    case atStart => exact ⟨0, by omega, rfl, rfl⟩
    case round =>
      obtain ⟨k, hk, rfl, rfl⟩ := hrel
      have hk1 : k ≤ L.length := by omega
      have JK := Lib.hid hk
      clear hk
      by_cases hlt : k < L.length
      · rcases HR.out with h0 | ⟨g, o, rfl, hc⟩
        · rw [h0] at hlt; simp at hlt
        obtain ⟨m, hm⟩ : ∃ m, L[k]? = some m := ⟨_, List.getElem?_eq_getElem hlt⟩
        obtain ⟨c0, _, c2⟩ := ReadsC.at hc hm
        have f := hfit m (List.mem_of_getElem? hm)
        have i1 : (0 : Int) ≤ (k : Int) := by omega
        have i2 : (k : Int) < (L.length : Int) := by omega
        have f1 := f.1; have f2 := f.2
        clear hc hm f
        by_cases g1 : (300 : Int) < (m.ke.size : Int)
        · go_wp2
          go_ret
          exact ⟨⟨_, rfl⟩, rfl⟩
        · by_cases g2 : (300 : Int) < (m.va.size : Int)
          · go_wp2
            go_ret
            exact ⟨⟨_, rfl⟩, rfl⟩
          · go_wp2
            go_roundg (L.length - k - 1)
            case measure => have := JK.out; omega
            case rel => exact ⟨k + 1, by omega, by go_num, rfl⟩
      · have e3 : ¬ (k : Int) < (L.length : Int) := by omega
        go_wp2
        go_ret
        exact ⟨⟨_, rfl⟩, rfl⟩
  · have e1 : mx < (L.length : Int) := by omega
    go_enter Tryz.func13, Tryz.ntmps13
    go_wp2
    go_ret
    exact ⟨⟨_, rfl⟩, rfl⟩
end Go.Proofs.YthkcicilmhpfjaaGreatDoor

/- How a step reads as an argument. -/
namespace Go.Proofs.YthkcicilmhpfjaaGreatDoor
open Go.ChangeShapes Go.WideShapes Go.ChangeAt Go.RowKit Go.Deep Go.Eng

theorem cellsOf111 : Tryz.prog.cellsOf 111 = 8 := by kernel_rfl
theorem cellsOf79 : Tryz.prog.cellsOf 79 = 1 := by kernel_rfl
theorem cellsOf113 : Tryz.prog.cellsOf 113 = 12 := by kernel_rfl
section
variable {H : Type} {enc : TypeId × Value → H} {w : World} {spare : Nat → Bool} {held : Bool} {fuel : Nat} {cs : List Value} {x : DataW H × List MemPlace}
set_option maxRecDepth 100000 in
theorem spn_cells (h : DataW.trod enc Tryz.prog w 0 spare held fuel 111 cs = some x) : ∃ m : Spn, cs = m.cells := by
  obtain ⟨xs, n, _, rfl, hl, hlen, hf⟩ := DataW.trod_struct Tryz.underlying111 h
  rw [cellsOf111] at hl
  match xs, hlen, cs, hl with
  | [y0, y1, y2, y3, y4, y5, y6, y7], _, [c0, c1, c2, c3, c4, c5, c6, c7], _ =>
    have h0 := hf 0 _ rfl
    have h1 := hf 1 _ rfl
    have h2 := hf 2 _ rfl
    have h3 := hf 3 _ rfl
    have h4 := hf 4 _ rfl
    have h5 := hf 5 _ rfl
    have h6 := hf 6 _ rfl
    have h7 := hf 7 _ rfl
    simp [cellsOf3] at h0
    simp [cellsOf3] at h1
    simp [cellsOf3] at h2
    simp [cellsOf9] at h3
    simp [cellsOf9] at h4
    simp [cellsOf3] at h5
    simp [cellsOf3] at h6
    simp [cellsOf9] at h7
    obtain ⟨a0, e0, _, _⟩ := DataW.trod_int Tryz.underlying3 h0
    obtain ⟨a1, e1, _, _⟩ := DataW.trod_int Tryz.underlying3 h1
    obtain ⟨a2, e2, _, _⟩ := DataW.trod_int Tryz.underlying3 h2
    obtain ⟨a3, e3, _, b3⟩ := DataW.trod_string Tryz.underlying9 h3
    obtain ⟨a4, e4, _, b4⟩ := DataW.trod_string Tryz.underlying9 h4
    obtain ⟨a5, e5, _, _⟩ := DataW.trod_int Tryz.underlying3 h5
    obtain ⟨a6, e6, _, _⟩ := DataW.trod_int Tryz.underlying3 h6
    obtain ⟨a7, e7, _, b7⟩ := DataW.trod_string Tryz.underlying9 h7
    simp only [List.cons.injEq, and_true] at e0 e1 e2 e3 e4 e5 e6 e7
    exact ⟨⟨a0, a1, a2, a3, a4, a5, a6, a7⟩, by rw [e0, e1, e2, e3, e4, e5, e6, e7]; rfl⟩
set_option maxRecDepth 100000 in
theorem stp_cells (h : DataW.trod enc Tryz.prog w 0 spare held fuel 113 cs = some x) : ∃ m : Stp, cs = m.cells := by
  obtain ⟨xs, n, _, rfl, hl, hlen, hf⟩ := DataW.trod_struct Tryz.underlying113 h
  rw [cellsOf113] at hl
  match xs, hlen, cs, hl with
  | [y0, y1, y2, y3, y4], _, [c0, c1, c2, c3, c4, c5, c6, c7, c8, c9, c10, c11], _ =>
    have h0 := hf 0 _ rfl
    have h1 := hf 1 _ rfl
    have h2 := hf 2 _ rfl
    have h3 := hf 3 _ rfl
    have h4 := hf 4 _ rfl
    simp [cellsOf3] at h0
    simp [cellsOf3] at h1
    simp [cellsOf3] at h2
    simp [cellsOf111] at h3
    simp [cellsOf79] at h4
    obtain ⟨a0, e0, _, _⟩ := DataW.trod_int Tryz.underlying3 h0
    obtain ⟨a1, e1, _, _⟩ := DataW.trod_int Tryz.underlying3 h1
    obtain ⟨a2, e2, _, _⟩ := DataW.trod_int Tryz.underlying3 h2
    obtain ⟨m, e3⟩ := spn_cells h3
    simp only [List.cons.injEq, and_true] at e0 e1 e2
    have e4 : ∃ ka kl kc, c11 = .slice ka kl kc := by
      rcases open_slice Tryz.underlying79 h4 with ⟨hcs, _⟩ | ⟨b, len, cap, m, n, D, Pl, hcs, _⟩
      · exact ⟨_, _, _, (List.cons.inj hcs).1⟩
      · exact ⟨_, _, _, (List.cons.inj hcs).1⟩
    obtain ⟨ka, kl, kc, e4⟩ := e4
    refine ⟨⟨a0, a1, a2, m, ka, kl, kc⟩, ?_⟩
    rw [e0, e1, e2, e4]
    show .int .i64 a0 :: .int .i64 a1 :: .int .i64 a2 :: ([c3, c4, c5, c6, c7, c8, c9, c10] ++ [.slice ka kl kc]) = _
    rw [e3]
    rfl
end
noncomputable def envX (W : World) (m : Stp) (n : Int) : Env := ⟨fun i => match i with
  | 1 => (W.cell? ⟨1, 0, none⟩).getD undef
  | 14 => .int .i64 n
  | 2000 => .int .i64 n
  | 2011 => .int .i64 n
  | i => m.cells.getD (i - 2) undef, fun k => W.heap[k]?⟩
theorem envX_x (W : World) (m : Stp) (n : Int) (σ : Sig) : concs σ (envX W m n) xAV = some m.cells := rfl
end Go.Proofs.YthkcicilmhpfjaaGreatDoor

