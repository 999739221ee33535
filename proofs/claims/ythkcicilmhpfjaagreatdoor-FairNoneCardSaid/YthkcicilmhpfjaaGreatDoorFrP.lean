/- FairNone: for every input the law returns true, and what was handed in reads behind the call as it read before: the row; the card tied. -/
import Derived.OpenShut
import Derived.ChangeAt
import Derived.ChangeAt2
import Derived.Test.YthkcicilmhpfjaaGreatDoorFr9

/- FairNone: for every input the law returns true, and what was handed in reads behind the call as it read before: the row; the card tied. -/
namespace Go.Proofs.YthkcicilmhpfjaaGreatDoor.lawFairNone
open Go.ChangeShapes Go.WideShapes Go.ChangeAt Go.RowKit Go.Eng

theorem laidWorld_met (os : Os) (args : Array Value) : laidMet Tryz.prog lstF ((laidWorld os).forCall (fun _ _ => 0) ⟨#[], args, []⟩).memory :=
  laidMet_of_run' 8 (by kernel_rfl) (by kernel_rfl) 

set_option maxRecDepth 100000 in
theorem lifted (os : Os) (started : os.Started) (H : Type) (enc : TypeId × Value → H) :
    ReturnsInHanded {} Tryz.checked os 8 .any (fun w args => (Rows.fairNoneSpec.pre enc Tryz.prog Tryz.f8 [] false w args ∧ laidMet Tryz.prog lstF w) ∧ sizedMet enc Tryz.prog Tryz.f8 (OpenSpec.ofChange Rows.fairNoneSpec) false w args)
      (Rows.fairNoneSpec.post enc Tryz.prog Tryz.f8 false true false false) := by
  refine returnsInHanded_of_change_and (C := Tryz.checked) (X := fun w _ => laidMet Tryz.prog lstF w) (fun _ _ _ hh h => h.of_heap hh) ownT started (by kernel_rfl) Tryz.func8
    (ChangeSpec.witness_at (enc := enc) (C := Tryz.checked) (os := os) (X := fun w _ => laidMet Tryz.prog lstF w) false (laidWorld os) #[.int .i64 0] 8 rfl (by kernel_rfl) (by kernel_rfl) (by kernel_rfl) (by kernel_rfl) (by kernel_rfl) (laidWorld_met os _)) ?_
  intro W base args ds gs before hval0 hW _ _ hL _
  have hval : ∀ (j : Nat) t v, Tryz.f8.params[j]? = some t → args[j]? = some v → Value.okWide Tryz.prog W .any base t v := hval0
  have hW' := hW
  obtain ⟨p, q, hA0, hV, rfl, hfz, hnd⟩ := hW
  have hA : DataW.TrodAll enc Tryz.prog W 0 (fun _ => true) true Tryz.f8.params.toList args.toList ds p := hA0
  rw [Tryz.params8] at hA hval
  obtain ⟨v0, d0, rfl, rfl, h0⟩ := trodAll_one hA
  obtain ⟨n, rfl, rfl, rfl, hwn⟩ := open_int Tryz.underlying3 (hval 0 3 v0 rfl rfl) h0
  obtain ⟨rfl, rfl⟩ := trodVars_none hV
  have R : RoHeap Tryz.prog (envW W [.int .i64 n]) hG W := laid_ro hL.tail.tail.tail _
  refine (fairNone_any (η := envW W [.int .i64 n]) (m := n) rfl R).mono fun e W' ⟨he, bel⟩ => ?_
  subst he
  exact ⟨_, rfl, _, _, _, [], _, [], hW', trodAll_mk1 (shut_bool Tryz.underlying4 _), (trodAll_cons_mk (shut_int Tryz.underlying3 hwn) trodAll_mk0), rfl, (show Below W.heap.size W W' from ⟨bel.os, bel.tape, bel.output, bel.size, fun k hk => bel.block k hk fun h => h⟩).frame _, fun h => by cases h⟩

theorem wrap : Tryz.f8.isWrapper Tryz.prog Rows.fairNoneRow.wrapper Rows.fairNoneRow.mainSum := by
  unfold Func.isWrapper; first | (rw [if_pos (by decide +kernel)]; kernel_rfl) | (rw [if_neg (by decide +kernel)]; exact ⟨rfl, rfl⟩)
theorem inst : Tryz.f8.isInstance Tryz.prog Rows.fairNoneRow.origin Rows.fairNoneRow.targs := of_decide_eq_true (by kernel_rfl)
theorem over : Rows.FairNoneSaid :=
  OpenClaim.holds_of_wide 8 Tryz.f8 rfl rfl rfl rfl rfl rfl rfl ⟨rfl, rfl, rfl, rfl, rfl⟩ rfl rfl rfl rfl rfl named Tryz.func8 closed inst wrap
    (fun os started H enc _ => lifted os started H enc)

/-- The row's tie, out of the program's. -/
theorem row_tie : Rows.fairNoneRow.laidByTextAt .later Tryz.pinned [.data, .data, .data, .sentinel, .sentinel] true :=
  OpenClaim.laidByTextAt_later rfl rfl tiedF ownF
theorem worded : Rows.fairNoneRow.wfByText (OpenSpec.ofChange Rows.fairNoneSpec) = true := by kernel_rfl
theorem mainIs : Tryz.pinned.checked.prog.mainIs = some (true, "82a342d61e0261bcac207b7540f1ef182a8c259ff1bf32c8e01018a0ce4e384e".toList) := by kernel_rfl
theorem wants : Tryz.prog.wantsStandIn 3 = false := by kernel_rfl

theorem proved : Rows.FairNoneCardSaid :=
  Claim7.holds_tied_plain_at .later [] [.data, .data, .data, .sentinel, .sentinel] true (true, "82a342d61e0261bcac207b7540f1ef182a8c259ff1bf32c8e01018a0ce4e384e") true
    over (fun _ h => by cases h) worded (fun _ h => by cases h) row_tie rfl ⟨rfl, rfl⟩ mainIs rfl
    (fun f fn hf hfn => by
      obtain rfl : f = 8 := Option.some.inj (named.symm.trans hf) |>.symm
      obtain rfl : fn = Tryz.f8 := (Option.some.inj (Tryz.func8.symm.trans hfn)).symm
      exact ⟨facLooks.symm, fun j t ht => by
        rw [Tryz.params8] at ht
        have h3 : t = 3 := by
          rcases j with _ | j
          · simpa using ht.symm
          · simp at ht
        subst h3
        exact wants⟩)
    (noGoesBy _ rfl)
#print axioms proved
end Go.Proofs.YthkcicilmhpfjaaGreatDoor.lawFairNone

