/- A part of the proof. -/
import Derived.Test.YthkcicilmhpfjaaGreatDoorRows
import Derived.ChangeSame
import Derived.ChangeVars
import Derived.JoinedOf
import Derived.RowKit
import Derived.RowKitTokens
import Derived.LaidLaws
import Derived.Stop.LaidErr
import Derived.Stop.ErrReads
import Derived.Test.YthkcicilmhpfjaaGreatDoorFr4

/- fair.Run of a farm that is none: no rounds. -/
namespace Go.Proofs.YthkcicilmhpfjaaGreatDoor
open Go.RowKit Go.Shelf Go.Lib Go.Eng

set_option maxRecDepth 100000 in
theorem run_walk (fv : Value) (m : Int) (w : World) (R1 R2 : World → Prop) (H1 : Calls Tryz.prog 65 #[fv] w fun e w' => e = .returned (.bool false) ∧ R1 w') (H2 : ∀ w1, R1 w1 → Calls Tryz.prog 64 #[fv] w1 fun e w' => e = .returned (.int .i64 1) ∧ R2 w') :
    Calls Tryz.prog 63 #[fv, .int .i64 m] w fun e w' => e = .returned (.tuple #[.int .i64 0, .bool false]) ∧ (R1 w' ∨ R2 w') := by
  have C1 := Lib.hid H1
  have C2 := Lib.hid H2
  by_cases h : m ≤ 0
  · go_enter Tryz.func63, Tryz.ntmps63
    go_wp2
    apply wp_loop_once
    go_wp2_with (go_at_call 65; refine C1.out.mono ?_; rintro e w4 ⟨rfl, k4⟩)
    go_ret2
    exact ⟨rfl, .inl k4⟩
  · go_enter Tryz.func63, Tryz.ntmps63
    go_wp2
    apply wp_loop_once
    go_wp2_with (first | (go_at_call 65; refine C1.out.mono ?_; rintro e w4 ⟨rfl, k4⟩) | (go_at_call 64; refine (C2.out _ k4).mono ?_; rintro e w5 ⟨rfl, k5⟩))
    go_ret2
    exact ⟨rfl, .inr k5⟩

noncomputable section
/-- fair.Run of a farm that is none: Done says no, Round fails. -/
def runS (sm : Sm) (n : Nat) (args : List AV) (h : Heap) (c : Nat) : Option CRes := match args with
  | [f, .sym k] => bif Nat.beq k 2 then match callE Tryz.prog sm n (.fn 65) [f] h c with
    | some (.mk (.bool false) h1 c1) => match callE Tryz.prog sm n (.fn 64) [f] h1 c1 with
      | some (.mk (.int .i64 (.ofNat 1)) h2 c2) => bif cdEq (some (.mk .norm .nil [] h1 c)) (.mk .norm .nil [] h2 c) && Nat.ble c1 c2 then some (.mk (.tup [.int .i64 (.ofNat 0), .bool false]) h1 c2) else none
      | _ => none
    | _ => none
    else none
  | _ => none
end

theorem hr_more {σ : Sig} {η : Env} {h : Heap} {c c' : Nat} {w : World} (H : HR Tryz.prog σ η h c w) (hc : c ≤ c') : HR Tryz.prog σ η h c' w := ⟨H.obj, H.inj, fun n hn => H.new n (Nat.le_trans hc hn), H.glob⟩

theorem runS_ok {η : Env} {m : Int} (hm : η.val 2 = .int .i64 m) {sm : Sm} (hs : SmOk Tryz.prog η sm) {n : Nat} {args : List AV} {h : Heap} {c : Nat} {v : AV} {h' : Heap} {c' : Nat} (he : runS sm n args h c = some (.mk v h' c')) {σ : Sig} {w : World} {avs : List Value} (H : HR Tryz.prog σ η h c w) (ha : concs σ η args = some avs) : Calls Tryz.prog 63 avs.toArray w (Done Tryz.prog η σ h c w v h' c') := by
  unfold runS at he
  split at he
  · rename_i f k
    cases e0 : Nat.beq k 2 with
    | false => simp [e0] at he
    | true =>
      have := Nat.eq_of_beq_eq_true e0
      subst this
      simp only [e0, cond_true] at he
      obtain ⟨fv, rs, hp, hr, rfl⟩ := concs_cons.1 ha
      obtain ⟨mv, rs2, hp2, hr2, rfl⟩ := concs_cons.1 hr
      simp only [concs, Option.some.injEq] at hr2
      subst hr2
      have hmv : mv = .int .i64 m := by
        simp only [conc, hm] at hp2
        split at hp2
        · exact (Option.some.inj hp2).symm
        · cases hp2
      subst hmv
      split at he
      · rename_i h1 c1 e1
        split at he
        · rename_i h2 c2 e2
          cases e3 : (cdEq (some (.mk .norm .nil [] h1 c)) (.mk .norm .nil [] h2 c) && Nat.ble c1 c2) with
          | false => simp [e3] at he
          | true =>
            simp only [e3, cond_true, Option.some.injEq, CRes.mk.injEq] at he
            obtain ⟨rfl, rfl, rfl⟩ := he
            rw [Bool.and_eq_true] at e3
            have e4 := cdEq_eq e3.1
            simp only [Option.some.injEq, CdR.mk.injEq, true_and, and_true] at e4
            subst e4
            have q1 : concs σ η [f] = some [fv] := concs_cons.2 ⟨fv, [], hp, rfl, rfl⟩
            have H1 : Calls Tryz.prog 65 #[fv] w fun e w' => e = .returned (.bool false) ∧ ∃ σ1, Went Tryz.prog η σ h c w σ1 h1 c1 w' := by
              refine (calls_of_callE mixed noGo hs e1 Tryz.func65 (by kernel_rfl) H q1).mono ?_
              rintro e w' ⟨u, σ1, rfl, hu, W⟩
              rw [conc_bool] at hu
              subst hu
              exact ⟨rfl, σ1, W⟩
            have H2 : ∀ w1, (∃ σ1, Went Tryz.prog η σ h c w σ1 h1 c1 w1) → Calls Tryz.prog 64 #[fv] w1 fun e w' => e = .returned (.int .i64 1) ∧ ∃ σ1, Went Tryz.prog η σ h c w σ1 h1 c2 w' := by
              rintro w1 ⟨σ1, W⟩
              have q2 : concs σ1 η [f] = some [fv] := concs_ext W.ext q1
              refine (calls_of_callE mixed noGo hs e2 Tryz.func64 (by kernel_rfl) W.rel q2).mono ?_
              rintro e w' ⟨u, σ2, rfl, hu, W2⟩
              simp only [conc, Option.some.injEq] at hu
              subst hu
              exact ⟨rfl, σ2, W.trans W2⟩
            refine (run_walk fv m w _ _ H1 H2).mono ?_
            rintro e w' ⟨rfl, ⟨σ1, W⟩ | ⟨σ1, W⟩⟩
            · exact ⟨_, σ1, rfl, rfl, ⟨W.ext, hr_more W.rel (Nat.le_of_ble_eq_true e3.2), W.kept, W.liv⟩⟩
            · exact ⟨_, σ1, rfl, rfl, W⟩
        · cases he
      · cases he
  · cases he
end Go.Proofs.YthkcicilmhpfjaaGreatDoor

/- The example of a chapter, as a summary: it returns true, and nothing turns. -/
namespace Go.Proofs.YthkcicilmhpfjaaGreatDoor
open Go.Eng

noncomputable section
/-- One variable is read: the error that a number that cannot be read gives. -/
def hG : Heap := (.node none (.node (some (.ro 261 [.sym 1])) N N) N)
def livesS (args : List AV) (h : Heap) (c : Nat) : Option CRes := match args with
  | [] => match h.get 1 with
    | some (.ro t [.sym k]) => bif Nat.beq t 261 && Nat.beq k 1 then some (.mk (.bool true) h c) else none
    | _ => none
  | _ => none
end

theorem hG_get {n : Nat} {o : AObj} (h : hG.get n = some o) : n = 1 ∧ o = .ro 261 [.sym 1] := by
  have e : hG = Tr.set deep .nil 1 (some (.ro 261 [.sym 1])) := rfl
  rw [e] at h
  by_cases q : n = 1
  · subst q
    rw [Tr.get_set_same deep .nil 1 _ (by decide +kernel)] at h
    cases h
    exact ⟨rfl, rfl⟩
  · rw [Tr.get_set_other deep .nil 1 n _ (Ne.symm q), Tr.get_nil] at h
    cases h

theorem livesS_ok {η : Env} {f : Nat} (hl : ∀ {w : World}, RoHeap Tryz.prog η hG w → Calls Tryz.prog f #[] w fun e w' => e = .returned (.bool true) ∧ Eng.Kept (fun _ => False) w w')
    {args : List AV} {h : Heap} {c : Nat} {v : AV} {h' : Heap} {c' : Nat} (he : livesS args h c = some (.mk v h' c')) {σ : Sig} {w : World} {avs : List Value} (H : HR Tryz.prog σ η h c w) (ha : concs σ η args = some avs) : Calls Tryz.prog f avs.toArray w (Done Tryz.prog η σ h c w v h' c') := by
  unfold livesS at he
  split at he
  · simp only [concs, Option.some.injEq] at ha
    subst ha
    split at he
    · rename_i t k e
      cases e0 : (Nat.beq t 261 && Nat.beq k 1) with
      | false => simp [e0] at he
      | true =>
        simp only [e0, cond_true, Option.some.injEq, CRes.mk.injEq] at he
        obtain ⟨rfl, rfl, rfl⟩ := he
        rw [Bool.and_eq_true] at e0
        have := Nat.eq_of_beq_eq_true e0.1
        subst this
        have := Nat.eq_of_beq_eq_true e0.2
        subst this
        obtain ⟨l, hl1, cs, fr, vs, t0, g1, g2, g3, g4, g5⟩ := H.obj 1 _ e
        obtain ⟨s, hs⟩ := H.glob 1 (by rw [show Tryz.prog.globals.size = 6 by kernel_rfl]; decide)
        rw [hs] at hl1
        cases hl1
        have R : RoHeap Tryz.prog η hG w := fun n o hn => by
          obtain ⟨rfl, rfl⟩ := hG_get hn
          refine ⟨by rw [show Tryz.prog.globals.size = 6 by kernel_rfl]; decide, 261, _, rfl, cs, fr, vs, t0, g1, fun σ' => ?_, fun i v hv => by simpa using g3 i v hv, g4, g5⟩
          simpa only [concs, conc] using g2
        refine (hl R).mono ?_
        rintro e w' ⟨rfl, K⟩
        exact ⟨_, σ, rfl, rfl, Went.kept' H K⟩
    · cases he
  · cases he
end Go.Proofs.YthkcicilmhpfjaaGreatDoor

/- FairNone of any number. -/
namespace Go.Proofs.YthkcicilmhpfjaaGreatDoor
open Go.Eng

noncomputable section
def exFair : Nat → Option (List AV → Heap → Nat → Option CRes) := fun n => bif Nat.beq n 63 then some (runS sm0 100000) else bif Nat.beq n 67 then some livesS else none
end

theorem exFair_ok {η : Env} {m : Int} (hm : η.val 2 = .int .i64 m) : SmOk Tryz.prog η (smMore exFair) := by
  refine smMore_ok fun f g hg args h c v h' c' he σ w avs H ha => ?_
  unfold exFair at hg
  cases e : Nat.beq f 63 with
  | true =>
    simp only [e, cond_true, Option.some.injEq] at hg
    subst hg
    have := Nat.eq_of_beq_eq_true e
    subst this
    exact leads_of noGo Tryz.func63 (by kernel_rfl) (runS_ok hm sm0_ok he H ha)
  | false =>
    simp only [e, cond_false] at hg
    cases e2 : Nat.beq f 67 with
    | true =>
      simp only [e2, cond_true, Option.some.injEq] at hg
      subst hg
      have := Nat.eq_of_beq_eq_true e2
      subst this
      exact leads_of noGo Tryz.func67 (by kernel_rfl) (livesS_ok (f := 67) (fun R => lives30_any R) he H ha)
    | false => simp [e2] at hg

set_option maxRecDepth 1000000 in
theorem fair_eval : isRes 6 hG (.bool true) (callE Tryz.prog (smMore exFair) 100000 (.fn 8) [.sym 2] hG 6) = true := by decide +kernel

theorem fairNone_any {η : Env} {m : Int} (hm : η.val 2 = .int .i64 m) {w : World} (h0 : RoHeap Tryz.prog η hG w) : Calls Tryz.prog 8 #[.int .i64 m] w fun e w' => e = .returned (.bool true) ∧ Eng.Kept (fun _ => False) w w' := by
  have G : Tryz.prog.globals.size = 6 := by kernel_rfl
  refine calls_plain (avs := [.int .i64 m]) (v := .bool true) mixed noGo (exFair_ok hm) (by rw [G]; exact fair_eval) Tryz.func8 (by kernel_rfl) h0 ?_ fun _ => rfl
  refine concs_cons.2 ⟨_, [], ?_, rfl, rfl⟩
  simp only [conc, hm, symOk, Value.oneCell', Bool.and_self, if_true]
end Go.Proofs.YthkcicilmhpfjaaGreatDoor

/- What the rows list of the variables: the one variable that the runs read, and a world in which they all hold what is listed. -/
namespace Go.Proofs.YthkcicilmhpfjaaGreatDoor
open Go.ChangeShapes Go.WideShapes Go.RowKit Go.Eng

theorem ownT : ownKnob Tryz.prog.godebug = none := by kernel_rfl
theorem starT : "*" ++ "errors.errorString" = "*errors.errorString" := by decide
theorem row591 (u : TypeId) (h : Tryz.prog.typeName? 3 u = some "*errors.errorString") : u = 591 :=
  typeName_ptr_named (nm := "errors.errorString") (by rw [starT]; kernel_rfl) (by kernel_rfl) (by decide) u (by rw [starT]; exact h)

/-- The values that the runs' names stand for, in a world: the variable's, and the arguments. -/
noncomputable def envW (W : World) (ys : List Value) : Env := ⟨fun i => match i with
  | 1 => (W.cell? ⟨1, 0, none⟩).getD undef
  | i => ys.getD (i - 2) undef, fun n => W.heap[n]?⟩

theorem laid_ro {W : World} {r : List (String × DataW Unit)} (h : laidMet Tryz.prog (("strconv.ErrSyntax", Rows.laid_strconv_ErrSyntax) :: r) W) (ys : List Value) : RoHeap Tryz.prog (envW W ys) hG W := by
  obtain ⟨a, s, hv, _⟩ := laid_sentinel h (g := 1) (ti := 261) (tp := 591) (te := 593) (ts := 9) (by kernel_rfl) (by kernel_rfl) Tryz.underlying261 row591 Tryz.underlying591 Tryz.underlying593 rfl rfl Tryz.underlying9 (by kernel_rfl) (by kernel_rfl)
  have hg : Tryz.prog.globalNamed "strconv.ErrSyntax" = some 1 := by kernel_rfl
  have hc : W.cell? ⟨1, 0, none⟩ = some (.iface 591 (.pointer (some a))) := by simpa using World.var?_cell hg hv 0
  unfold World.var? at hv
  rw [hg] at hv
  simp only [Option.bind_some] at hv
  intro n o hn
  obtain ⟨rfl, rfl⟩ := hG_get hn
  split at hv
  · rename_i cs t fr e
    cases hv
    refine ⟨by rw [show Tryz.prog.globals.size = 6 by kernel_rfl]; decide, 261, _, rfl, _, fr, [.iface 591 (.pointer (some a))], t, e, fun σ => ?_, fun i v hi => by simpa using hi, rfl, e⟩
    have : (envW W ys).val 1 = .iface 591 (.pointer (some a)) := by show (W.cell? ⟨1, 0, none⟩).getD undef = _; rw [hc]; rfl
    refine concs_cons.2 ⟨_, [], ?_, rfl, rfl⟩
    simp only [conc, this]
    rfl
  · cases hv

/-! ### a world that holds what is listed -/
abbrev synS : ByteArray := { data := #[105, 110, 118, 97, 108, 105, 100, 32, 115, 121, 110, 116, 97, 120] }
abbrev rngS : ByteArray := { data := #[118, 97, 108, 117, 101, 32, 111, 117, 116, 32, 111, 102, 32, 114, 97, 110, 103, 101] }
noncomputable def low : Nat := (World.holding Tryz.prog default ⟨#[], #[], []⟩).heap.size
def litsOf (k : IntKind) : DataW Unit → Array Value
  | .agg l => (l.map fun | .lit (.int _ n) => Value.int k n | _ => undef).toArray
  | _ => #[]
def withCells (cs : Array Value) : Obj → Obj
  | .cells _ t frozen => .cells cs t frozen
  | o => o
noncomputable def laidWorld (os : Os) : World :=
  let w0 := World.holding Tryz.prog os ⟨#[.cells #[.string synS] 593, .cells #[.string rngS] 593], #[], []⟩
  { w0 with heap := ((((w0.heap.modify 1 (withCells #[.iface 591 (.pointer (some ⟨low, 0, none⟩))])).modify 2 (withCells #[.iface 591 (.pointer (some ⟨low + 1, 0, none⟩))])).modify 3 (withCells (litsOf .u64 Rows.laid_internal_strconv_uint64pow10))).modify 4 (withCells (litsOf .u8 Rows.laid_math_bits_deBruijn32tab))).modify 5 (withCells (litsOf .u8 Rows.laid_math_bits_deBruijn64tab)) }
end Go.Proofs.YthkcicilmhpfjaaGreatDoor

