/- DeskStep: for every input the law returns true, and what was handed in reads behind the call as it read before: the row; the card tied. -/
import Derived.Shelf.Vars
import Derived.OpenShut
import Derived.ChangeAt
import Derived.ChangeAt2
import Derived.ChangeMaps5
import Derived.Test.YtelhdbkkigehgaaGreatDoorZs15
import Derived.Test.YtelhdbkkigehgaaGreatDoorZs17
import Derived.Test.YtelhdbkkigehgaaGreatDoorZs30
import Derived.Test.YtelhdbkkigehgaaGreatDoorZs33

/- DeskStep: for every input the law returns true, and what was handed in reads behind the call as it read before: the row; the card tied. -/
namespace Go.Proofs.YtelhdbkkigehgaaGreatDoor.lawDeskStep
open Go.ChangeShapes Go.WideShapes Go.ChangeAt Go.RowKit Go.Eng
open Go.ChangeMaps (open_string shut_string)

theorem heap_of_var {W : World} {n : String} {g : Nat} {cs : Array Value} (hg : Tryz.prog.globalNamed n = some g) (hv : W.var? Tryz.prog n = some cs) : ∃ t fr, W.heap[g]? = some (.cells cs t fr) := by
  unfold World.var? at hv
  rw [hg] at hv
  simp only [Option.bind_some] at hv
  split at hv
  · rename_i cs t fr e
    cases hv
    exact ⟨t, fr, e⟩
  · cases hv
theorem laid_vr {W : World} (h : laidMet Tryz.prog lstAll W) (hs : W.ShapedOpen Tryz.prog) : Vr W := by
  obtain ⟨a, s, hv, _⟩ := laid_sentinel h.tail.tail (g := 3) (ti := 79) (tp := 499) (te := 501) (ts := 9) (by kernel_rfl) (by kernel_rfl) Tryz.underlying79 row499 Tryz.underlying499 Tryz.underlying501 rfl rfl Tryz.underlying9 (by kernel_rfl) (by kernel_rfl)
  obtain ⟨a2, s2, hv2, _⟩ := laid_sentinel h.tail.tail.tail (g := 4) (ti := 79) (tp := 499) (te := 501) (ts := 9) (by kernel_rfl) (by kernel_rfl) Tryz.underlying79 row499 Tryz.underlying499 Tryz.underlying501 rfl rfl Tryz.underlying9 (by kernel_rfl) (by kernel_rfl)
  obtain ⟨t5, f5, e5⟩ := heap_of_var (show Tryz.prog.globalNamed "internal/strconv.uint64pow10" = some 5 by kernel_rfl) (pow_of_laid h.tail.tail.tail.tail)
  obtain ⟨t3, f3, e3⟩ := heap_of_var (show Tryz.prog.globalNamed "strconv.ErrSyntax" = some 3 by kernel_rfl) hv
  obtain ⟨t4, f4, e4⟩ := heap_of_var (show Tryz.prog.globalNamed "strconv.ErrRange" = some 4 by kernel_rfl) hv2
  exact ⟨⟨t5, f5, e5⟩, ⟨t3, f3, _, _, e3⟩, ⟨t4, f4, _, _, e4⟩, cell_of_shapedOpen_int (t := 3) (zero := #[.int .i64 0]) hs (by rw [show Tryz.prog.globals.size = 8 by kernel_rfl]; decide) (by kernel_rfl) rfl (by kernel_rfl) (by kernel_rfl) Tryz.underlying3⟩
/-- The plain wrap, with what the row lists, and the world's shape. -/
theorem handed_both {H : Type} {enc : TypeId × Value → H} {a : Assume} {C : Checked} {os : Os} {f : FuncId} {fn : Func} {s : ChangeSpec} {conds : List PathCond} {apart fresh handsOn again : Bool} {X : World → Array Value → Prop}
    (hX : ∀ (w w' : World) (args : Array Value), w.heap = w'.heap → X w args → X w' args)
    (own : ownKnob C.prog.godebug = none) (started : os.Started) (noInit : C.prog.inits.idxOf? f = none) (hfn : C.prog.funcs[f]? = some fn)
    (witness : ∃ (w : World) (tape : Tape) (i : Input), w.os = os ∧ (w.forCall tape i).Shaped C.prog ∧ i.vars = [] ∧ Input.okWide C.prog (w.forCall tape i) .any w.heap.size f i ∧
      ((s.pre enc C.prog fn conds apart (w.forCall tape i).memory i.args ∧ X (w.forCall tape i).memory i.args) ∧ sizedMet enc C.prog fn (OpenSpec.ofChange s) apart (w.forCall tape i).memory i.args) ∧ a.holds C.prog (lone (Frame.enter C.prog f i.args .normal) [] (w.forCall tape i)))
    (contract : ∀ (W : World) (base : Nat) (args : Array Value) (ds gs : List (DataW H)) (before : List MemPlace),
      (∀ (j : Nat) t v, fn.params[j]? = some t → args[j]? = some v → Value.okWide C.prog W .any base t v) →
      DataW.Whole enc C.prog fn.params.toList s.vars apart W args.toList ds gs before →
      W.ShapedOpen C.prog → X W args →
      Calls C.prog f args W fun e W' => ∃ v, e = .returned v ∧ s.post enc C.prog fn apart fresh handsOn again W args v W') :
    ReturnsInHanded a C os f .any (fun w args => (s.pre enc C.prog fn conds apart w args ∧ X w args) ∧ sizedMet enc C.prog fn (OpenSpec.ofChange s) apart w args) (s.post enc C.prog fn apart fresh handsOn again) := by
  refine returnsInHanded_of_calls own started noInit witness ?_
  intro w tape i _ hsh _ hok hpre _
  obtain ⟨_, _, _, fn', hfn', _, _, _, _, hval⟩ := hok
  have e : fn' = fn := Option.some.inj (hfn'.symm.trans hfn)
  subst e
  obtain ⟨⟨⟨ds, gs, before, hw, _⟩, hx⟩, _⟩ := hpre
  have hw' := DataW.Whole.of_heap (w' := w.forCall tape i) (by rfl) hw
  refine (contract (w.forCall tape i) w.heap.size i.args ds gs before hval hw' hsh (hX _ _ _ (by rfl) hx)).mono fun e W' ⟨v, he, hp⟩ => ?_
  subst he
  exact ChangeSpec.post_blind hp
theorem ro_kept {η : Eng.Env} {h : Heap} {w w' : World} (R : RoHeap Tryz.prog η h w) (K : Kept (fun _ => False) w w') : RoHeap Tryz.prog η h w' := fun n o hn => by
  obtain ⟨h1, t, cs, rfl, c, fr, vs, t0, g1, g2, g3, g4, g5⟩ := R n o hn
  exact ⟨h1, t, cs, rfl, c, fr, vs, t0, (K.block n (Array.getElem?_eq_some_iff.1 g1).1 (fun f => f)).trans g1, g2, g3, g4, g5⟩
set_option maxRecDepth 100000 in
theorem lifted (os : Os) (started : os.Started) (H : Type) (enc : TypeId × Value → H) :
    ReturnsInHanded {} Tryz.checked os 4 .any (fun w args => (Rows.deskStepSpec.pre enc Tryz.prog Tryz.f4 [] false w args ∧ laidMet Tryz.prog lstAll w) ∧ sizedMet enc Tryz.prog Tryz.f4 (OpenSpec.ofChange Rows.deskStepSpec) false w args)
      (Rows.deskStepSpec.post enc Tryz.prog Tryz.f4 false true false false) := by
  refine handed_both (C := Tryz.checked) (X := fun w _ => laidMet Tryz.prog lstAll w) (fun _ _ _ hh h => h.of_heap hh) ownT started (by kernel_rfl) Tryz.func4
    (ChangeSpec.witness_at (enc := enc) (C := Tryz.checked) (os := os) (X := fun w _ => laidMet Tryz.prog lstAll w) false (laidWorld os) #[.agg #[.int .i64 0, .int .i64 0, .int .i64 0, .int .i64 0, .int .i64 0, .int .i64 0, .string .empty, .string .empty, .int .i64 0, .int .i64 0, .string .empty, .slice none 0 0]] 8 rfl (by kernel_rfl) (by kernel_rfl) (by kernel_rfl) (by kernel_rfl) (by kernel_rfl) (laidWorld_met os _)) ?_
  intro W base args ds gs before hval0 hW hsh hL
  have hval : ∀ (j : Nat) t v, Tryz.f4.params[j]? = some t → args[j]? = some v → Value.okWide Tryz.prog W .any base t v := hval0
  have hW' := hW
  obtain ⟨p, q, hA0, hV, rfl, hfz, hnd⟩ := hW
  have hA : DataW.TrodAll enc Tryz.prog W 0 (fun _ => true) true Tryz.f4.params.toList args.toList ds p := hA0
  rw [Tryz.params4] at hA hval
  obtain ⟨v0, vs0, d0, ds0, p0, q0, hargs, rfl, rfl, h0, r0⟩ := trodAll_cons hA
  obtain ⟨rfl, rfl, rfl⟩ := trodAll_nil r0
  obtain rfl : args = #[v0] := by cases args; simp_all
  obtain ⟨rfl, rfl⟩ := trodVars_none hV
  have k0 := h0
  have lt0 : ∀ x ∈ p0, x.block < W.heap.size := by obtain ⟨m, hm⟩ := k0; exact DataW.trod_lt m _ _ _ hm
  obtain ⟨cs0, rfl, _⟩ := okWide_struct Tryz.underlying38 (hval 0 38 v0 rfl rfl)
  obtain ⟨fuel0, hf0⟩ := h0
  obtain ⟨ki, nd, nn, sp, ka, kc, ks, hm, hk, i0, i6, i7, i1, i2, i3, i4, i5⟩ := stp_open hf0
  obtain rfl : cs0 = (Stp.cells ⟨ki, nd, nn, sp, ka, ks.length, kc⟩).toArray := by
    have : cs0.toList = Stp.cells ⟨ki, nd, nn, sp, ka, ks.length, kc⟩ := hm
    rw [← this]
  clear hA0 hval0
  have R : RoHeap Tryz.prog (envW W []) hW W := laid_ro hL _
  refine (deskStep_any (fun V K => (works_any (ro_kept R K)).mono fun e w' ⟨h1, h2⟩ => ⟨h1, ⟨h2.os, h2.tape, h2.output, h2.size, h2.block⟩⟩) hk (laid_vr hL hsh) i0 i6 i7 i1 i2 i3 i4 i5).mono fun e W' ⟨he, kept⟩ => ?_
  subst he
  have bel : Below W.heap.size W W' := ⟨kept.os, kept.tape, kept.output, kept.size, fun k hk => kept.block k hk fun h => h⟩
  exact ⟨_, rfl, _, _, _, [], _, [], hW', trodAll_mk1 (shut_bool Tryz.underlying4 _), (trodAll_cons_mk (Below.trod fac2 (by kernel_rfl) (of_decide_eq_true (by kernel_rfl)) k0 bel lt0) trodAll_mk0), rfl, bel.frame _, fun h => by cases h⟩

theorem wrap : Tryz.f4.isWrapper Tryz.prog Rows.deskStepRow.wrapper Rows.deskStepRow.mainSum := by
  unfold Func.isWrapper; first | (rw [if_pos (by decide +kernel)]; kernel_rfl) | (rw [if_neg (by decide +kernel)]; exact ⟨rfl, rfl⟩)
theorem inst : Tryz.f4.isInstance Tryz.prog Rows.deskStepRow.origin Rows.deskStepRow.targs := of_decide_eq_true (by kernel_rfl)
theorem over : Rows.DeskStepSaid :=
  OpenClaim.holds_of_wide 4 Tryz.f4 rfl rfl rfl rfl rfl rfl rfl ⟨rfl, rfl, rfl, rfl, rfl⟩ rfl rfl rfl rfl rfl named Tryz.func4 closed inst wrap
    (fun os started H enc _ => lifted os started H enc)

/-- The row's tie, out of the program's. -/
theorem row_tie : Rows.deskStepRow.laidByTextAt .later Tryz.pinned [.pinned, .data, .sentinel, .sentinel, .data, .data, .data] true :=
  OpenClaim.laidByTextAt_pinned rfl rfl tied rfl rfl rfl rfl (fun y hy _e => by
    simp only [Rows.deskStepRow, List.zip_cons_cons, List.zip_nil_right, List.mem_cons, List.mem_nil_iff, or_false] at hy
    rcases hy with rfl | rfl | rfl | rfl | rfl | rfl | rfl
    · exact ⟨pinFirst, by kernel_rfl⟩
    · cases _e
    · cases _e
    · cases _e
    · cases _e
    · cases _e
    · cases _e) fitsAll
theorem worded : Rows.deskStepRow.wfByText (OpenSpec.ofChange Rows.deskStepSpec) = true := by kernel_rfl
theorem mainIs : Tryz.pinned.checked.prog.mainIs = some (true, "edf7c550eef2f05c43a688050949a83cca10d8aae455fcfd5502baf95b6f1e19".toList) := by kernel_rfl
theorem wants : ([38] : List TypeId).all (fun t => Tryz.prog.wantsStandIn t == false) = true := by kernel_rfl

theorem proved : Rows.DeskStepCardSaid :=
  Claim7.holds_tied_plain_at .later [] [.pinned, .data, .sentinel, .sentinel, .data, .data, .data] true (true, "edf7c550eef2f05c43a688050949a83cca10d8aae455fcfd5502baf95b6f1e19") true
    over (fun _ h => by cases h) worded (fun _ h => by cases h) row_tie rfl ⟨rfl, rfl⟩ mainIs rfl
    (fun f fn hf hfn => by
      obtain rfl : f = 4 := Option.some.inj (named.symm.trans hf) |>.symm
      obtain rfl : fn = Tryz.f4 := (Option.some.inj (Tryz.func4.symm.trans hfn)).symm
      exact ⟨facLooks.symm, fun j t ht => by
        rw [Tryz.params4] at ht
        have hm : t ∈ ([38] : List TypeId) := by
          have := Array.mem_of_getElem? ht
          simpa using this
        have h : Tryz.prog.wantsStandIn t = false := by simpa using List.all_eq_true.1 wants t hm
        exact h⟩)
    (noGoesBy _ rfl)
#print axioms proved
end Go.Proofs.YtelhdbkkigehgaaGreatDoor.lawDeskStep

