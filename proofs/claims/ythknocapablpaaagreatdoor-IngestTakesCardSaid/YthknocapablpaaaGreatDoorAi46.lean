/- A part of the proof. -/
import Derived.Test.YthknocapablpaaaGreatDoorCards
import Derived.JoinedOf
import Derived.SevenTiedAt
import Derived.KernelRfl
import Derived.Test.YthknocapablpaaaGreatDoorAi45
namespace Go.Proofs.YthknocapablpaaaGreatDoor
/- Closed facts of the program, one by one. -/
section
theorem band {a b:Bool}(h:a=true)(k:b=true):(a && b)=true:=by rw [h,k];rfl
theorem fac2:laidOutB Tryz.prog=true:=by kernel_rfl
theorem fac3:mapsRowed Tryz.prog=true:=by kernel_rfl
theorem fac7:(Tryz.prog.stops == [])=true:=by kernel_rfl
theorem fac9:(Tryz.prog.stopKnobs == [])=true:=by kernel_rfl
theorem fac25:Tryz.prog.stopsHeard=true:=by kernel_rfl
theorem fac26:Tryz.prog.mayEnter=true:=by kernel_rfl
theorem facLooks:Tryz.prog.looks []=true:=by kernel_rfl
theorem facNoGo:(Tryz.prog.funcs.toList.all fun fn=>!fn.goes)=true:=by kernel_rfl
theorem noGoFn {f:Nat}{fn:Func}(h:Tryz.prog.funcs[f]? = some fn):fn.goes=false:=by
 have:=List.all_eq_true.1 facNoGo fn (Array.mem_toList_iff.2 (Array.mem_of_getElem? h))
 simpa using this
theorem noGoAny (f:Nat):(Tryz.prog.funcs[f]?).any Func.goes=false:=by
 cases h:Tryz.prog.funcs[f]? with
 | none=>rfl
 | some fn=>exact noGoFn h
theorem noGoes (f:Nat):Tryz.prog.goes f=false:=by
 unfold Program.goes
 have h1:((Tryz.prog.closure f).any fun g=>(Tryz.prog.funcs[g]?).any Func.goes)=false:=by
  rw [List.any_eq_false]
  intro g _
  rw [noGoAny];decide
 have h2:Tryz.prog.funcs.any Func.goes=false:=by
  rw [Array.any_eq_false]
  intro i hi
  have:=noGoFn (Array.getElem?_eq_getElem hi)
  rw [this];decide
 rw [h1,h2,Bool.and_false];rfl
theorem noGoesFrom (n:String):Tryz.prog.goesFrom n=false:=by
 unfold Program.goesFrom
 cases Tryz.prog.funcNamed n with
 | none=>rfl
 | some f=>rw [Option.any_some,noGoes]
theorem noGoesBy (c:OpenClaim)(h:c.start = .entering):false=c.goesBy Tryz.prog:=by
 unfold OpenClaim.goesBy Program.goesAt
 rw [h,noGoesFrom];rfl
end
end Go.Proofs.YthknocapablpaaaGreatDoor
