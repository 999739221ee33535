/- DeskNone: for every input the law returns true, and what was handed in reads behind the call as it read before: the row; the card tied. -/
import Derived.OpenShut
import Derived.ChangeAt
import Derived.ChangeAt2
import Derived.ChangeMaps5
import Derived.Test.YtelhdbkkigehgaaGreatDoorDs19
import Derived.Test.YtelhdbkkigehgaaGreatDoorDs21
import Derived.Test.YtelhdbkkigehgaaGreatDoorDs24

/- DeskNone: for every input the law returns true, and what was handed in reads behind the call as it read before: the row; the card tied. -/
namespace Go.Proofs.YtelhdbkkigehgaaGreatDoor.lawDeskNone
open Go.ChangeShapes Go.WideShapes Go.ChangeAt Go.RowKit Go.Eng
open Go.ChangeMaps (open_string shut_string)

set_option maxRecDepth 100000 in
theorem lifted (os : Os) (started : os.Started) (H : Type) (enc : TypeId × Value → H) :
    ReturnsInHanded {} Tryz.checked os 3 .any (fun w args => (Rows.deskNoneSpec.pre enc Tryz.prog Tryz.f3 [] false w args ∧ laidMet Tryz.prog lstAll w) ∧ sizedMet enc Tryz.prog Tryz.f3 (OpenSpec.ofChange Rows.deskNoneSpec) false w args)
      (Rows.deskNoneSpec.post enc Tryz.prog Tryz.f3 false true false false) := by
  refine returnsInHanded_of_change_and (C := Tryz.checked) (X := fun w _ => laidMet Tryz.prog lstAll w) (fun _ _ _ hh h => h.of_heap hh) ownT started (by kernel_rfl) Tryz.func3
    (ChangeSpec.witness_at (enc := enc) (C := Tryz.checked) (os := os) (X := fun w _ => laidMet Tryz.prog lstAll w) false (laidWorld os) #[.string .empty, .int .u8 0] 8 rfl (by kernel_rfl) (by kernel_rfl) (by kernel_rfl) (by kernel_rfl) (by kernel_rfl) (laidWorld_met os _)) ?_
  intro W base args ds gs before hval0 hW _ _ hL _
  have hval : ∀ (j : Nat) t v, Tryz.f3.params[j]? = some t → args[j]? = some v → Value.okWide Tryz.prog W .any base t v := hval0
  have hW' := hW
  obtain ⟨p, q, hA0, hV, rfl, hfz, hnd⟩ := hW
  have hA : DataW.TrodAll enc Tryz.prog W 0 (fun _ => true) true Tryz.f3.params.toList args.toList ds p := hA0
  rw [Tryz.params3] at hA hval
  obtain ⟨v0, v1, d0, d1, p0, p1, rfl, rfl, rfl, h0, h1⟩ := trodAll_two hA
  obtain ⟨s, rfl, rfl, rfl, ws⟩ := open_string Tryz.underlying9 (hval 0 9 v0 rfl rfl) h0
  obtain ⟨n, rfl, rfl, rfl, wn⟩ := open_int Tryz.underlying5 (hval 1 5 v1 rfl rfl) h1
  obtain ⟨rfl, rfl⟩ := trodVars_none hV
  clear hA0 hval0
  have hn : 0 ≤ n ∧ n ≤ 255 := by
    have : IntKind.u8.min = 0 ∧ IntKind.u8.max = 255 := by decide
    simp [Lit.wf] at wn
    omega
  have R : RoHeap Tryz.prog (envW W []) hW W := laid_ro hL _
  refine (deskNone_any R s n hn.1 hn.2).mono fun e W' ⟨he, bel⟩ => ?_
  subst he
  exact ⟨_, rfl, _, _, _, [], _, [], hW', trodAll_mk1 (shut_bool Tryz.underlying4 _), (trodAll_cons_mk (shut_string Tryz.underlying9 ws) (trodAll_cons_mk (shut_int Tryz.underlying5 wn) trodAll_mk0)), rfl, (show Below W.heap.size W W' from ⟨bel.os, bel.tape, bel.output, bel.size, fun k hk => bel.block k hk fun h => h⟩).frame _, fun h => by cases h⟩

theorem wrap : Tryz.f3.isWrapper Tryz.prog Rows.deskNoneRow.wrapper Rows.deskNoneRow.mainSum := by
  unfold Func.isWrapper; first | (rw [if_pos (by decide +kernel)]; kernel_rfl) | (rw [if_neg (by decide +kernel)]; exact ⟨rfl, rfl⟩)
theorem inst : Tryz.f3.isInstance Tryz.prog Rows.deskNoneRow.origin Rows.deskNoneRow.targs := of_decide_eq_true (by kernel_rfl)
theorem over : Rows.DeskNoneSaid :=
  OpenClaim.holds_of_wide 3 Tryz.f3 rfl rfl rfl rfl rfl rfl rfl ⟨rfl, rfl, rfl, rfl, rfl⟩ rfl rfl rfl rfl rfl named Tryz.func3 closed inst wrap
    (fun os started H enc _ => lifted os started H enc)

/-- The row's tie, out of the program's. -/
theorem row_tie : Rows.deskNoneRow.laidByTextAt .later Tryz.pinned [.pinned, .data, .sentinel, .sentinel, .data, .data, .data] true :=
  OpenClaim.laidByTextAt_pinned rfl rfl tied rfl rfl rfl rfl (fun y hy _e => by
    simp only [Rows.deskNoneRow, List.zip_cons_cons, List.zip_nil_right, List.mem_cons, List.mem_nil_iff, or_false] at hy
    rcases hy with rfl | rfl | rfl | rfl | rfl | rfl | rfl
    · exact ⟨pinFirst, by kernel_rfl⟩
    · cases _e
    · cases _e
    · cases _e
    · cases _e
    · cases _e
    · cases _e) fitsAll
theorem worded : Rows.deskNoneRow.wfByText (OpenSpec.ofChange Rows.deskNoneSpec) = true := by kernel_rfl
theorem mainIs : Tryz.pinned.checked.prog.mainIs = some (true, "edf7c550eef2f05c43a688050949a83cca10d8aae455fcfd5502baf95b6f1e19".toList) := by kernel_rfl
theorem wants : ([9, 5] : List TypeId).all (fun t => Tryz.prog.wantsStandIn t == false) = true := by kernel_rfl

theorem proved : Rows.DeskNoneCardSaid :=
  Claim7.holds_tied_plain_at .later [] [.pinned, .data, .sentinel, .sentinel, .data, .data, .data] true (true, "edf7c550eef2f05c43a688050949a83cca10d8aae455fcfd5502baf95b6f1e19") true
    over (fun _ h => by cases h) worded (fun _ h => by cases h) row_tie rfl ⟨rfl, rfl⟩ mainIs rfl
    (fun f fn hf hfn => by
      obtain rfl : f = 3 := Option.some.inj (named.symm.trans hf) |>.symm
      obtain rfl : fn = Tryz.f3 := (Option.some.inj (Tryz.func3.symm.trans hfn)).symm
      exact ⟨facLooks.symm, fun j t ht => by
        rw [Tryz.params3] at ht
        have hm : t ∈ ([9, 5] : List TypeId) := by
          have := Array.mem_of_getElem? ht
          simpa using this
        have h : Tryz.prog.wantsStandIn t = false := by simpa using List.all_eq_true.1 wants t hm
        exact h⟩)
    (noGoesBy _ rfl)
#print axioms proved
end Go.Proofs.YtelhdbkkigehgaaGreatDoor.lawDeskNone

