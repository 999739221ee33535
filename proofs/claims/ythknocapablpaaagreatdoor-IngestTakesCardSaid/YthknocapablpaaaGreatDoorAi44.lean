/- A part of the proof. -/
import Derived.Test.YthknocapablpaaaGreatDoorRows
import Derived.ChangeSame
import Derived.ChangeVars
import Derived.JoinedOf
import Derived.RowKit
import Derived.RowKitTokens
import Derived.LaidLaws
import Derived.Stop.LaidErr
import Derived.Stop.ErrReads
import Derived.Test.YthknocapablpaaaGreatDoorAi43
namespace Go.Proofs.YthknocapablpaaaGreatDoor
/- What the rows list of the variables: the one variable that the runs read, and a world in which they all hold what is listed. -/
section
open Go.ChangeShapes Go.WideShapes Go.RowKit Go.Eng

theorem ownT:ownKnob Tryz.prog.godebug=none:=by kernel_rfl
theorem starT : "*" ++ "errors.errorString" = "*errors.errorString" := by decide
theorem row473 (u:TypeId)(h:Tryz.prog.typeName? 3 u = some "*errors.errorString"):u=473:=
 typeName_ptr_named (nm := "errors.errorString") (by rw [starT];kernel_rfl) (by kernel_rfl) (by decide) u (by rw [starT];exact h)

/-- The values that the runs' names stand for, in a world: the variable's, and the arguments. -/
noncomputable def envW (W:World)(ys:List Value):Env:=⟨fun i=>match i with
 | 1=>(W.cell? ⟨1,0,none⟩).getD undef
 | i=>ys.getD (i - 2) undef,fun n=>W.heap[n]?⟩

theorem laid_roE {W:World}{r:List (String × DataW Unit)}(h:laidMet Tryz.prog (("strconv.ErrSyntax",Rows.laid_strconv_ErrSyntax)::r) W) {η:Env} (h1:η.val 1=(W.cell? ⟨1,0,none⟩).getD undef) (hb:η.blk 1=W.heap[1]?):RoHeap Tryz.prog η hOp0 W:=by
 obtain ⟨a,s,hv,_⟩:=laid_sentinel h (g:=1) (ti:=265) (tp:=473) (te:=475) (ts:=9) (by kernel_rfl) (by kernel_rfl) Tryz.underlying265 row473 Tryz.underlying473 Tryz.underlying475 rfl rfl Tryz.underlying9 (by kernel_rfl) (by kernel_rfl)
 have hg : Tryz.prog.globalNamed "strconv.ErrSyntax" = some 1:=by kernel_rfl
 have hc:W.cell? ⟨1,0,none⟩=some (.iface 473 (.pointer (some a))):=by simpa using World.var?_cell hg hv 0
 unfold World.var? at hv
 rw [hg] at hv
 simp only [Option.bind_some] at hv
 intro n o hn
 obtain rfl:=hOp0_get hn
 obtain rfl:o = .ro 265 [.sym 1]:=(Option.some.inj hn).symm
 split at hv
 ·rename_i cs t fr e
  cases hv
  refine ⟨by rw [show Tryz.prog.globals.size=6 by kernel_rfl];decide,265,_,rfl,_,fr,[.iface 473 (.pointer (some a))],t,e,fun σ=>?_,fun i v hi=>by simpa using hi,rfl,hb.trans e⟩
  have:η.val 1 = .iface 473 (.pointer (some a)):=by rw [h1,hc];rfl
  refine concs_cons.2 ⟨_,[],?_,rfl,rfl⟩
  simp only [conc,this]
  rfl
 ·cases hv

/-! ### a world that holds what is listed -/
abbrev synS:ByteArray:={ data:=#[105,110,118,97,108,105,100,32,115,121,110,116,97,120] }
abbrev rngS:ByteArray:={ data:=#[118,97,108,117,101,32,111,117,116,32,111,102,32,114,97,110,103,101] }
noncomputable def low:Nat:=(World.holding Tryz.prog default ⟨#[],#[],[]⟩).heap.size
def litsOf (k:IntKind):DataW Unit→Array Value
 | .agg l=>(l.map fun | .lit (.int _ n)=>Value.int k n | _=>undef).toArray
 | _=>#[]
def withCells (cs:Array Value):Obj→Obj
 | .cells _ t frozen=>.cells cs t frozen
 | o=>o
noncomputable def laidWorld (os:Os):World:=
 let w0:=World.holding Tryz.prog os ⟨#[.cells #[.string synS] 475,.cells #[.string rngS] 475],#[],[]⟩
 { w0 with heap:=((((w0.heap.modify 1 (withCells #[.iface 473 (.pointer (some ⟨low,0,none⟩))])).modify 2 (withCells #[.iface 473 (.pointer (some ⟨low+1,0,none⟩))])).modify 3 (withCells (litsOf .u64 Rows.laid_internal_strconv_uint64pow10))).modify 4 (withCells (litsOf .u8 Rows.laid_math_bits_deBruijn32tab))).modify 5 (withCells (litsOf .u8 Rows.laid_math_bits_deBruijn64tab)) }
end
end Go.Proofs.YthknocapablpaaaGreatDoor
