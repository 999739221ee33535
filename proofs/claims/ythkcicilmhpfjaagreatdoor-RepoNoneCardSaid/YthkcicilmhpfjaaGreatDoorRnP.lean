/- RepoNone: for every input the law returns true, and what was handed in reads behind the call as it read before: the row; the card tied. -/
import Derived.OpenShut
import Derived.ChangeAt
import Derived.ChangeAt2
import Derived.ChangeMaps
import Derived.Test.YthkcicilmhpfjaaGreatDoorRn9

/- RepoNone: for every input the law returns true, and what was handed in reads behind the call as it read before: the row; the card tied. -/
namespace Go.Proofs.YthkcicilmhpfjaaGreatDoor.lawRepoNone
open Go.ChangeShapes Go.WideShapes Go.ChangeAt Go.RowKit Go.Eng
open Go.ChangeMaps (open_string shut_string)

theorem laidWorld_met (os : Os) (args : Array Value) : laidMet Tryz.prog lst ((laidWorld os).forCall (fun _ _ => 0) ⟨#[], args, []⟩).memory :=
  laidMet_of_run' 8 (by kernel_rfl) (by kernel_rfl) 

set_option maxRecDepth 100000 in
theorem lifted (os : Os) (started : os.Started) (H : Type) (enc : TypeId × Value → H) :
    ReturnsInHanded {} Tryz.checked os 6 .any (fun w args => (Rows.repoNoneSpec.pre enc Tryz.prog Tryz.f6 [] false w args ∧ laidMet Tryz.prog lst w) ∧ sizedMet enc Tryz.prog Tryz.f6 (OpenSpec.ofChange Rows.repoNoneSpec) false w args)
      (Rows.repoNoneSpec.post enc Tryz.prog Tryz.f6 false true false false) := by
  refine returnsInHanded_of_change_and (C := Tryz.checked) (X := fun w _ => laidMet Tryz.prog lst w) (fun _ _ _ hh h => h.of_heap hh) ownT started (by kernel_rfl) Tryz.func6
    (ChangeSpec.witness_at (enc := enc) (C := Tryz.checked) (os := os) (X := fun w _ => laidMet Tryz.prog lst w) false (laidWorld os) #[.agg #[.int .u8 0, .int .i64 0, .int .i64 0, .slice none 0 0, .bool false, .string .empty, .int .u8 0, .slice none 0 0], .agg #[.int .i64 0, .int .i64 0, .int .i64 0, .string .empty, .string .empty, .int .i64 0, .int .i64 0, .int .i64 0, .int .u8 0]] 8 rfl (by kernel_rfl) (by kernel_rfl) (by kernel_rfl) (by kernel_rfl) (by kernel_rfl) (laidWorld_met os _)) ?_
  intro W base args ds gs before hval0 hW _ _ hL _
  have hval : ∀ (j : Nat) t v, Tryz.f6.params[j]? = some t → args[j]? = some v → Value.okWide Tryz.prog W .any base t v := hval0
  have hW' := hW
  obtain ⟨p, q, hA0, hV, rfl, hfz, hnd⟩ := hW
  have hA : DataW.TrodAll enc Tryz.prog W 0 (fun _ => true) true Tryz.f6.params.toList args.toList ds p := hA0
  rw [Tryz.params6] at hA hval
  obtain ⟨v0, vs0, d0, ds0, p0, q0, hargs, rfl, rfl, h0, r0⟩ := trodAll_cons hA
  obtain ⟨v1, vs1, d1, ds1, p1, q1, rfl, rfl, rfl, h1, r1⟩ := trodAll_cons r0
  obtain ⟨rfl, rfl, rfl⟩ := trodAll_nil r1
  obtain rfl : args = #[v0, v1] := by cases args; simp_all
  obtain ⟨rfl, rfl⟩ := trodVars_none hV
  have k0 := h0
  have k1 := h1
  have lt0 : ∀ x ∈ p0, x.block < W.heap.size := by obtain ⟨m, hm⟩ := k0; exact DataW.trod_lt m _ _ _ hm
  have lt1 : ∀ x ∈ p1, x.block < W.heap.size := by obtain ⟨m, hm⟩ := k1; exact DataW.trod_lt m _ _ _ hm
  obtain ⟨cs0, rfl, _⟩ := okWide_struct Tryz.underlying88 (hval 0 88 v0 rfl rfl)
  obtain ⟨cs1, rfl, _⟩ := okWide_struct Tryz.underlying68 (hval 1 68 v1 rfl rfl)
  obtain ⟨fuel0, hf0⟩ := h0
  obtain ⟨fuel1, hf1⟩ := h1
  obtain ⟨m, hm, b1, b2, b3, L, r1, r2⟩ := act_cells hf0
  obtain ⟨a, ha, _, _⟩ := ask_cells hf1
  obtain rfl : cs0 = m.cells.toArray := by
    have : cs0.toList = m.cells := hm
    rw [← this]
  obtain rfl : cs1 = a.cells.toArray := by
    have : cs1.toList = a.cells := ha
    rw [← this]
  clear hA0 hval0
  refine (repoNone_in (m := m) (a := a) (L := L) hL b2 b1 b3 r1 r2).mono fun e W' ⟨he, kept⟩ => ?_
  subst he
  have bel : Below W.heap.size W W' := ⟨kept.os, kept.tape, kept.output, kept.size, fun k hk => kept.block k hk fun h => h⟩
  exact ⟨_, rfl, _, _, _, [], _, [], hW', trodAll_mk1 (shut_bool Tryz.underlying4 _), (trodAll_cons_mk (Below.trod fac2 (by kernel_rfl) (of_decide_eq_true (by kernel_rfl)) k0 bel lt0) (trodAll_cons_mk (Below.trod fac2 (by kernel_rfl) (of_decide_eq_true (by kernel_rfl)) k1 bel lt1) trodAll_mk0)), rfl, bel.frame _, fun h => by cases h⟩

theorem wrap : Tryz.f6.isWrapper Tryz.prog Rows.repoNoneRow.wrapper Rows.repoNoneRow.mainSum := by
  unfold Func.isWrapper; first | (rw [if_pos (by decide +kernel)]; kernel_rfl) | (rw [if_neg (by decide +kernel)]; exact ⟨rfl, rfl⟩)
theorem inst : Tryz.f6.isInstance Tryz.prog Rows.repoNoneRow.origin Rows.repoNoneRow.targs := of_decide_eq_true (by kernel_rfl)
theorem over : Rows.RepoNoneSaid :=
  OpenClaim.holds_of_wide 6 Tryz.f6 rfl rfl rfl rfl rfl rfl rfl ⟨rfl, rfl, rfl, rfl, rfl⟩ rfl rfl rfl rfl rfl named Tryz.func6 closed inst wrap
    (fun os started H enc _ => lifted os started H enc)

/-- The row's tie, out of the program's. -/
theorem row_tie : Rows.repoNoneRow.laidByTextAt .later Tryz.pinned [.sentinel, .sentinel, .data, .data, .data] true :=
  OpenClaim.laidByTextAt_later rfl rfl tied own1
theorem worded : Rows.repoNoneRow.wfByText (OpenSpec.ofChange Rows.repoNoneSpec) = true := by kernel_rfl
theorem mainIs : Tryz.pinned.checked.prog.mainIs = some (true, "82a342d61e0261bcac207b7540f1ef182a8c259ff1bf32c8e01018a0ce4e384e".toList) := by kernel_rfl
theorem wants : ([88, 68] : List TypeId).all (fun t => Tryz.prog.wantsStandIn t == false) = true := by kernel_rfl

theorem proved : Rows.RepoNoneCardSaid :=
  Claim7.holds_tied_plain_at .later [] [.sentinel, .sentinel, .data, .data, .data] true (true, "82a342d61e0261bcac207b7540f1ef182a8c259ff1bf32c8e01018a0ce4e384e") true
    over (fun _ h => by cases h) worded (fun _ h => by cases h) row_tie rfl ⟨rfl, rfl⟩ mainIs rfl
    (fun f fn hf hfn => by
      obtain rfl : f = 6 := Option.some.inj (named.symm.trans hf) |>.symm
      obtain rfl : fn = Tryz.f6 := (Option.some.inj (Tryz.func6.symm.trans hfn)).symm
      exact ⟨facLooks.symm, fun j t ht => by
        rw [Tryz.params6] at ht
        have hm : t ∈ ([88, 68] : List TypeId) := Array.mem_toList_iff.2 (Array.mem_of_getElem? ht)
        have hw : Tryz.prog.wantsStandIn t = false := by simpa using List.all_eq_true.1 wants t hm
        exact hw⟩)
    (noGoesBy _ rfl)
#print axioms proved
end Go.Proofs.YthkcicilmhpfjaaGreatDoor.lawRepoNone

