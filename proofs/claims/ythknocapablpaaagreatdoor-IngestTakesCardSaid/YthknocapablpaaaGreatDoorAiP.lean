/- IngestTakes: for every input the law returns true, and what was handed in reads behind the call as it read before: the row; the card tied. -/
import Derived.Test.YthknocapablpaaaGreatDoorTie
import Derived.OpenShut
import Derived.ChangeAt
import Derived.ChangeAt2
import Derived.ChangeMaps
import Derived.Test.YthknocapablpaaaGreatDoorAi3
import Derived.Test.YthknocapablpaaaGreatDoorAi43
import Derived.Test.YthknocapablpaaaGreatDoorAi44
import Derived.Test.YthknocapablpaaaGreatDoorAi47
namespace Go.Proofs.YthknocapablpaaaGreatDoor.lawIngestTakes
/- IngestTakes: for every input the law returns true, and what was handed in reads behind the call as it read before: the row; the card tied. -/
section
set_option maxRecDepth 100000
open Go.ChangeShapes Go.WideShapes Go.ChangeAt Go.RowKit Go.Eng
open Go.ChangeMaps (open_string shut_string)

def lst9:List (String × DataW Unit):= [("math/bits.deBruijn32tab",Rows.laid_math_bits_deBruijn32tab), ("math/bits.deBruijn64tab",Rows.laid_math_bits_deBruijn64tab), ("internal/strconv.uint64pow10",Rows.laid_internal_strconv_uint64pow10), ("strconv.ErrRange",Rows.laid_strconv_ErrRange), ("strconv.ErrSyntax",Rows.laid_strconv_ErrSyntax)]
theorem laidWorld_met (os:Os)(args:Array Value):laidMet Tryz.prog lst9 ((laidWorld os).forCall (fun _ _=>0) ⟨#[],args,[]⟩).memory:=
 laidMet_of_run' 8 (by kernel_rfl) (by kernel_rfl) 

theorem lifted (os:Os)(started:os.Started)(H:Type)(enc:TypeId × Value→H) :
  ReturnsInHanded {} Tryz.checked os 3 .any (fun w args=>(Rows.ingestTakesSpec.pre enc Tryz.prog Tryz.f3 [] false w args∧laidMet Tryz.prog lst9 w)∧sizedMet enc Tryz.prog Tryz.f3 (OpenSpec.ofChange Rows.ingestTakesSpec) false w args)
   (Rows.ingestTakesSpec.post enc Tryz.prog Tryz.f3 false true false false):=by
 refine returnsInHanded_of_change_and (C:=Tryz.checked) (X:=fun w _=>laidMet Tryz.prog lst9 w) (fun _ _ _ hh h=>h.of_heap hh) ownT started (by kernel_rfl) Tryz.func3
  (ChangeSpec.witness_at (enc:=enc) (C:=Tryz.checked) (os:=os) (X:=fun w _=>laidMet Tryz.prog lst9 w) false (laidWorld os) #[.slice none 0 0] 8 rfl (by kernel_rfl) (by kernel_rfl) (by kernel_rfl) (by kernel_rfl) (by kernel_rfl) (laidWorld_met os _)) ?_
 intro W base args ds gs before hval0 hW _ _ hL _
 have hval:∀ (j:Nat) t v,Tryz.f3.params[j]? = some t→args[j]? = some v→Value.okWide Tryz.prog W .any base t v:=hval0
 have hW':=hW
 obtain ⟨p,q,hA0,hV,rfl,hfz,hnd⟩:=hW
 have hA:DataW.TrodAll enc Tryz.prog W 0 (fun _=>true) true Tryz.f3.params.toList args.toList ds p:=hA0
 rw [Tryz.params3] at hA hval
 obtain ⟨v0,vs0,d0,ds0,p0,q0,hargs,rfl,rfl,h0,r0⟩:=trodAll_cons hA
 obtain ⟨rfl,rfl,rfl⟩:=trodAll_nil r0
 obtain rfl:args=#[v0]:=by cases args;simp_all
 obtain ⟨rfl,rfl⟩:=trodVars_none hV
 have k0:=h0
 have lt0:∀ x∈p0,x.block<W.heap.size:=by obtain ⟨m,hm⟩:=k0;exact DataW.trod_lt m _ _ _ hm
 obtain ⟨sa0,sl0,sc0,rfl⟩:=okWide_slice Tryz.underlying22 (hval 0 22 v0 rfl rfl)
 obtain ⟨fuel0,hf0⟩:=h0
 obtain ⟨A,hr,hfit⟩:=acts_open hf0
 clear hA0 hval0
 refine (ingestTakes_any (η:=envW W []) hr hfit (laid_roE (laidMet.tail (laidMet.tail (laidMet.tail (laidMet.tail hL)))) rfl rfl)).mono fun e W' ⟨he,kept⟩=>?_
 subst he
 have bel:Below W.heap.size W W':=⟨kept.os,kept.tape,kept.output,kept.size,fun k hk=>kept.block k hk fun h=>h⟩
 exact ⟨_,rfl,_,_,_,[],_,[],hW',trodAll_mk1 (shut_bool Tryz.underlying4 _),(trodAll_cons_mk (Below.trod fac2 (by kernel_rfl) (of_decide_eq_true (by kernel_rfl)) k0 bel lt0) trodAll_mk0),rfl,bel.frame _,fun h=>by cases h⟩

theorem wrap:Tryz.f3.isWrapper Tryz.prog Rows.ingestTakesRow.wrapper Rows.ingestTakesRow.mainSum:=by
 unfold Func.isWrapper;first | (rw [if_pos (by decide +kernel)];kernel_rfl) | (rw [if_neg (by decide +kernel)];exact ⟨rfl,rfl⟩)
theorem inst:Tryz.f3.isInstance Tryz.prog Rows.ingestTakesRow.origin Rows.ingestTakesRow.targs:=of_decide_eq_true (by kernel_rfl)
theorem over:Rows.IngestTakesSaid:=
 OpenClaim.holds_of_wide 3 Tryz.f3 rfl rfl rfl rfl rfl rfl rfl ⟨rfl,rfl,rfl,rfl,rfl⟩ rfl rfl rfl rfl rfl named Tryz.func3 closed inst wrap
  (fun os started H enc _=>lifted os started H enc)

theorem worded:Rows.ingestTakesRow.wfByText (OpenSpec.ofChange Rows.ingestTakesSpec)=true:=by kernel_rfl
theorem mainIs:Tryz.pinned.checked.prog.mainIs=some (true, "fdd6bbffa305d0172d2f058a125c3769c53e1363b7fc295f0d10e146c7cc93a4".toList):=by kernel_rfl
theorem wants:([22]:List TypeId).all (fun t=>Tryz.prog.wantsStandIn t == false)=true:=by kernel_rfl

theorem proved:Rows.IngestTakesCardSaid:=
 Claim7.holds_tied_plain_at .later [] [.data,.data,.data,.sentinel,.sentinel] true (true, "fdd6bbffa305d0172d2f058a125c3769c53e1363b7fc295f0d10e146c7cc93a4") true
  over (fun _ h=>by cases h) worded (fun _ h=>by cases h) ingestTakes_row_tie rfl ⟨rfl,rfl⟩ mainIs rfl
  (fun f fn hf hfn => by
   obtain rfl:f=3:=Option.some.inj (named.symm.trans hf) |>.symm
   obtain rfl:fn=Tryz.f3:=(Option.some.inj (Tryz.func3.symm.trans hfn)).symm
   exact ⟨facLooks.symm,fun j t ht=>by
    rw [Tryz.params3] at ht
    have hm:t∈([22]:List TypeId):=Array.mem_toList_iff.2 (Array.mem_of_getElem? ht)
    have hw:Tryz.prog.wantsStandIn t=false:=by simpa using List.all_eq_true.1 wants t hm
    exact hw⟩)
  (noGoesBy _ rfl)
#print axioms proved
end
end Go.Proofs.YthknocapablpaaaGreatDoor.lawIngestTakes
