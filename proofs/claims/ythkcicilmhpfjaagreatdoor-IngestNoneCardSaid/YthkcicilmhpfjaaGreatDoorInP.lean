/- IngestNone: for every input the law returns true, and what was handed in reads behind the call as it read before: the row; the card tied. -/
import Derived.OpenShut
import Derived.ChangeAt
import Derived.ChangeAt2
import Derived.ChangeMaps
import Derived.Test.YthkcicilmhpfjaaGreatDoorIn9

/- IngestNone: for every input the law returns true, and what was handed in reads behind the call as it read before: the row; the card tied. -/
namespace Go.Proofs.YthkcicilmhpfjaaGreatDoor.lawIngestNone
open Go.ChangeShapes Go.WideShapes Go.ChangeAt Go.RowKit Go.Eng
open Go.ChangeMaps (open_string shut_string)

theorem laidWorld_met (os : Os) (args : Array Value) : laidMet Tryz.prog lst ((laidWorld os).forCall (fun _ _ => 0) ⟨#[], args, []⟩).memory :=
  laidMet_of_run' 8 (by kernel_rfl) (by kernel_rfl) 

set_option maxRecDepth 100000 in
theorem lifted (os : Os) (started : os.Started) (H : Type) (enc : TypeId × Value → H) :
    ReturnsInHanded {} Tryz.checked os 3 .any (fun w args => (Rows.ingestNoneSpec.pre enc Tryz.prog Tryz.f3 [] false w args ∧ laidMet Tryz.prog lst w) ∧ sizedMet enc Tryz.prog Tryz.f3 (OpenSpec.ofChange Rows.ingestNoneSpec) false w args)
      (Rows.ingestNoneSpec.post enc Tryz.prog Tryz.f3 false true false false) := by
  refine returnsInHanded_of_change_and (C := Tryz.checked) (X := fun w _ => laidMet Tryz.prog lst w) (fun _ _ _ hh h => h.of_heap hh) ownT started (by kernel_rfl) Tryz.func3
    (ChangeSpec.witness_at (enc := enc) (C := Tryz.checked) (os := os) (X := fun w _ => laidMet Tryz.prog lst w) false (laidWorld os) #[.agg #[.int .i64 0, .int .i64 0, .slice none 0 0], .int .i64 0] 8 rfl (by kernel_rfl) (by kernel_rfl) (by kernel_rfl) (by kernel_rfl) (by kernel_rfl) (laidWorld_met os _)) ?_
  intro W base args ds gs before hval0 hW _ _ hL _
  have hval : ∀ (j : Nat) t v, Tryz.f3.params[j]? = some t → args[j]? = some v → Value.okWide Tryz.prog W .any base t v := hval0
  have hW' := hW
  obtain ⟨p, q, hA0, hV, rfl, hfz, hnd⟩ := hW
  have hA : DataW.TrodAll enc Tryz.prog W 0 (fun _ => true) true Tryz.f3.params.toList args.toList ds p := hA0
  rw [Tryz.params3] at hA hval
  obtain ⟨v0, vs0, d0, ds0, p0, q0, hargs, rfl, rfl, h0, r0⟩ := trodAll_cons hA
  obtain ⟨v1, vs1, d1, ds1, p1, q1, rfl, rfl, rfl, h1, r1⟩ := trodAll_cons r0
  obtain ⟨rfl, rfl, rfl⟩ := trodAll_nil r1
  obtain rfl : args = #[v0, v1] := by cases args; simp_all
  obtain ⟨rfl, rfl⟩ := trodVars_none hV
  have k0 := h0
  have lt0 : ∀ x ∈ p0, x.block < W.heap.size := by obtain ⟨m, hm⟩ := k0; exact DataW.trod_lt m _ _ _ hm
  obtain ⟨cs0, rfl, _⟩ := okWide_struct Tryz.underlying24 (hval 0 24 v0 rfl rfl)
  obtain ⟨fuel0, hf0⟩ := h0
  obtain ⟨ho, fi, v, hm, _, L, r1, r2⟩ := bat_cells hf0
  obtain rfl : cs0 = #[.int .i64 ho, .int .i64 fi, v] := by
    have : cs0.toList = [.int .i64 ho, .int .i64 fi, v] := hm
    cases cs0
    simp only at this
    rw [this]
  obtain ⟨now, rfl, rfl, rfl, w1⟩ := open_int Tryz.underlying3 (hval 1 3 v1 rfl rfl) h1
  clear hA0 hval0
  refine (ingestNone_in (ho := ho) (fi := fi) (now := now) (v := v) (L := L) hL (wf_i64 w1) r1 r2).mono fun e W' ⟨he, kept⟩ => ?_
  subst he
  have bel : Below W.heap.size W W' := ⟨kept.os, kept.tape, kept.output, kept.size, fun k hk => kept.block k hk fun h => h⟩
  exact ⟨_, rfl, _, _, _, [], _, [], hW', trodAll_mk1 (shut_bool Tryz.underlying4 _), (trodAll_cons_mk (Below.trod fac2 (by kernel_rfl) (of_decide_eq_true (by kernel_rfl)) k0 bel lt0) (trodAll_cons_mk (shut_int Tryz.underlying3 w1) trodAll_mk0)), rfl, bel.frame _, fun h => by cases h⟩

theorem wrap : Tryz.f3.isWrapper Tryz.prog Rows.ingestNoneRow.wrapper Rows.ingestNoneRow.mainSum := by
  unfold Func.isWrapper; first | (rw [if_pos (by decide +kernel)]; kernel_rfl) | (rw [if_neg (by decide +kernel)]; exact ⟨rfl, rfl⟩)
theorem inst : Tryz.f3.isInstance Tryz.prog Rows.ingestNoneRow.origin Rows.ingestNoneRow.targs := of_decide_eq_true (by kernel_rfl)
theorem over : Rows.IngestNoneSaid :=
  OpenClaim.holds_of_wide 3 Tryz.f3 rfl rfl rfl rfl rfl rfl rfl ⟨rfl, rfl, rfl, rfl, rfl⟩ rfl rfl rfl rfl rfl named Tryz.func3 closed inst wrap
    (fun os started H enc _ => lifted os started H enc)

/-- The row's tie, out of the program's. -/
theorem row_tie : Rows.ingestNoneRow.laidByTextAt .later Tryz.pinned [.sentinel, .sentinel, .data, .data, .data] true :=
  OpenClaim.laidByTextAt_later rfl rfl tied own1
theorem worded : Rows.ingestNoneRow.wfByText (OpenSpec.ofChange Rows.ingestNoneSpec) = true := by kernel_rfl
theorem mainIs : Tryz.pinned.checked.prog.mainIs = some (true, "82a342d61e0261bcac207b7540f1ef182a8c259ff1bf32c8e01018a0ce4e384e".toList) := by kernel_rfl
theorem wants : ([24, 3] : List TypeId).all (fun t => Tryz.prog.wantsStandIn t == false) = true := by kernel_rfl

theorem proved : Rows.IngestNoneCardSaid :=
  Claim7.holds_tied_plain_at .later [] [.sentinel, .sentinel, .data, .data, .data] true (true, "82a342d61e0261bcac207b7540f1ef182a8c259ff1bf32c8e01018a0ce4e384e") true
    over (fun _ h => by cases h) worded (fun _ h => by cases h) row_tie rfl ⟨rfl, rfl⟩ mainIs rfl
    (fun f fn hf hfn => by
      obtain rfl : f = 3 := Option.some.inj (named.symm.trans hf) |>.symm
      obtain rfl : fn = Tryz.f3 := (Option.some.inj (Tryz.func3.symm.trans hfn)).symm
      exact ⟨facLooks.symm, fun j t ht => by
        rw [Tryz.params3] at ht
        have hm : t ∈ ([24, 3] : List TypeId) := Array.mem_toList_iff.2 (Array.mem_of_getElem? ht)
        have hw : Tryz.prog.wantsStandIn t = false := by simpa using List.all_eq_true.1 wants t hm
        exact hw⟩)
    (noGoesBy _ rfl)
#print axioms proved
end Go.Proofs.YthkcicilmhpfjaaGreatDoor.lawIngestNone

