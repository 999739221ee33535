/- A part of the proof. -/
import Derived.Shelf.GgClosure.StringsIndexFuncTop
import Derived.Shelf.SlIter.Nil
import Derived.Shelf.SortM.Plain
import Derived.Shelf.SortM.SortNone
import Derived.Ground.GgwProg
import Derived.Ground.GgzProg
import Derived.Ground.SlgmProg
import Derived.Test.YthknocapablpaaaGreatDoorProg
import Derived.Maps.Own
import Derived.Maps.RangeRun
import Derived.Test.YthknocapablpaaaGreatDoorAi1
namespace Go.Proofs
/-
 DERIVED: THE SHELF's CONTRACTS AT THIS DUMP, IN PLAIN WORDS (tools/lay-plain.mjs out of 'YthknocapablpaaaGreatDoorShelf.lean', which tools/lay-shelf.mjs wrote): THE SAME DECLARATIONS UNDER THE SAME NAMES: 'import', 'namespace', 'open', 'def', 'theorem' AND NOTHING ELSE: no command of the shelf's: FOR A HAND-IN. Each laying: the table of numbers ('.._ren') and one theorem, a field a fact of the dump's own or the kernel's comparison; each contract: ONE APPLICATION.
-/
section
open Go.Shelf
def Tryz.l17_ren:Go.Shelf.Ren:=⟨fun | 17=>139 | 15=>220 | 20=>304 | n=>n,fun | 9=>9 | 23=>238 | 4=>4 | 3=>3 | 0=>0 | 21=>21 | n=>n,fun | n=>n⟩
theorem Tryz.l17:Go.Proofs.LaysGw.n17 Tryz.prog Tryz.l17_ren:={
 mixed:=by kernel_rfl
 f15:=Tryz.func220.trans (congrArg some (by kernel_rfl))
 f17:=Tryz.func139.trans (congrArg some (by kernel_rfl))
 f20:=Tryz.func304.trans (congrArg some (by kernel_rfl))
 t0:=Tryz.underlying0
 a0:=Tryz.isAgg0
 z0:=Tryz.sizeOf0
 v0:=Tryz.zeroValue0
 i0:=by kernel_rfl
 t3:=Tryz.underlying3
 a3:=Tryz.isAgg3
 z3:=Tryz.sizeOf3
 v3:=Tryz.zeroValue3
 i3:=by kernel_rfl
 t4:=Tryz.underlying4
 a4:=Tryz.isAgg4
 z4:=Tryz.sizeOf4
 v4:=Tryz.zeroValue4
 i4:=by kernel_rfl
 t9:=Tryz.underlying9
 a9:=Tryz.isAgg9
 z9:=Tryz.sizeOf9
 v9:=Tryz.zeroValue9
 i9:=by kernel_rfl
 t21:=Tryz.underlying21
 a21:=Tryz.isAgg21
 z21:=Tryz.sizeOf21
 v21:=Tryz.zeroValue21
 i21:=by kernel_rfl
 t23:=Tryz.underlying238
 a23:=Tryz.isAgg238
 z23:=Tryz.sizeOf238
 v23:=Tryz.zeroValue238
 i23:=by kernel_rfl }
def Tryz.keys129_ren:Go.Shelf.Ren:=⟨fun | 7=>127 | 10=>211 | n=>n,fun | 23=>110 | 26=>9 | 3=>137 | 28=>225 | 0=>0 | 27=>224 | 33=>151 | 4=>4 | n=>n,fun | n=>n⟩
theorem Tryz.keys129:Go.Proofs.SlLaysZ.n7 Tryz.prog Tryz.keys129_ren:={
 mixed:=by kernel_rfl
 f7:=⟨Tryz.f127.name,by decide,Tryz.func127.trans (congrArg some (by kernel_rfl))⟩
 f10:=⟨Tryz.f211.name,by decide,Tryz.func211.trans (congrArg some (by kernel_rfl))⟩
 t0:=Tryz.underlying0
 a0:=Tryz.isAgg0
 z0:=Tryz.sizeOf0
 v0:=Tryz.zeroValue0
 t4:=Tryz.underlying4
 a4:=Tryz.isAgg4
 z4:=Tryz.sizeOf4
 v4:=Tryz.zeroValue4
 t23:=Tryz.underlying110
 a23:=Tryz.isAgg110
 z23:=Tryz.sizeOf110
 v23:=Tryz.zeroValue110
 t26:=Tryz.underlying9
 a26:=Tryz.isAgg9
 z26:=Tryz.sizeOf9
 v26:=Tryz.zeroValue9
 t27:=Tryz.underlying224
 a27:=Tryz.isAgg224
 z27:=Tryz.sizeOf224
 v27:=Tryz.zeroValue224
 t28:=Tryz.underlying225
 a28:=Tryz.isAgg225
 z28:=Tryz.sizeOf225
 v28:=Tryz.zeroValue225
 t33:=Tryz.underlying151
 a33:=Tryz.isAgg151
 z33:=Tryz.sizeOf151
 v33:=Tryz.zeroValue151 }
def Tryz.sorted128_ren:Go.Shelf.Ren:=⟨fun | 6=>126 | 8=>209 | 9=>210 | 11=>293 | 13=>145 | 12=>294 | 23=>233 | 24=>234 | 14=>338 | 15=>339 | 16=>340 | 17=>341 | 18=>342 | 19=>343 | 20=>344 | 21=>345 | 22=>346 | 25=>375 | 26=>308 | 27=>309 | 28=>376 | 29=>377 | 30=>372 | 31=>389 | n=>n,fun | 26=>9 | 28=>225 | 24=>134 | 0=>0 | 3=>3 | 37=>190 | 48=>333 | 50=>335 | 4=>4 | 40=>327 | 39=>326 | 45=>209 | 5=>5 | 9=>9 | 51=>403 | 55=>184 | 57=>441 | 58=>312 | 33=>151 | n=>n,fun | n=>n⟩
theorem Tryz.sorted128:Go.Proofs.SlLaysZ.n6 Tryz.prog Tryz.sorted128_ren:={
 mixed:=by kernel_rfl
 f6:=⟨Tryz.f126.name,by decide,Tryz.func126.trans (congrArg some (by kernel_rfl))⟩
 f8:=⟨Tryz.f209.name,by decide,Tryz.func209.trans (congrArg some (by kernel_rfl))⟩
 f11:=⟨Tryz.f293.name,by decide,Tryz.func293.trans (congrArg some (by kernel_rfl))⟩
 t0:=Tryz.underlying0
 a0:=Tryz.isAgg0
 z0:=Tryz.sizeOf0
 v0:=Tryz.zeroValue0
 t24:=Tryz.underlying134
 a24:=Tryz.isAgg134
 z24:=Tryz.sizeOf134
 v24:=Tryz.zeroValue134
 t26:=Tryz.underlying9
 a26:=Tryz.isAgg9
 z26:=Tryz.sizeOf9
 v26:=Tryz.zeroValue9
 t28:=Tryz.underlying225
 a28:=Tryz.isAgg225
 z28:=Tryz.sizeOf225
 v28:=Tryz.zeroValue225
 i26:=by kernel_rfl }
def Tryz.sort212_ren:Go.Shelf.Ren:=⟨fun | 6=>210 | 8=>145 | 9=>294 | 19=>233 | 20=>234 | 21=>338 | 22=>339 | 23=>340 | 24=>341 | 25=>342 | 26=>343 | 27=>344 | 28=>345 | 29=>346 | 36=>375 | 31=>308 | 32=>309 | 37=>376 | 38=>377 | 39=>372 | 41=>389 | n=>n,fun | 27=>134 | 29=>9 | 3=>3 | 32=>190 | 26=>134 | 0=>0 | 44=>333 | 46=>335 | 4=>4 | 36=>327 | 35=>326 | 41=>209 | 5=>5 | 9=>9 | 53=>403 | 57=>184 | 63=>441 | 64=>312 | n=>n,fun | n=>n⟩
theorem Tryz.sort212:Go.Proofs.SlLaysM.n6 Tryz.prog Tryz.sort212_ren:={
 mixed:=by kernel_rfl
 f6:=⟨Tryz.f210.name,by decide,Tryz.func210.trans (congrArg some (by kernel_rfl))⟩
 f8:=Tryz.func145.trans (congrArg some (by kernel_rfl))
 f9:=⟨Tryz.f294.name,by decide,Tryz.func294.trans (congrArg some (by kernel_rfl))⟩
 f19:=Tryz.func233.trans (congrArg some (by kernel_rfl))
 f20:=Tryz.func234.trans (congrArg some (by kernel_rfl))
 f21:=⟨Tryz.f338.name,by decide,Tryz.func338.trans (congrArg some (by kernel_rfl))⟩
 f22:=⟨Tryz.f339.name,by decide,Tryz.func339.trans (congrArg some (by kernel_rfl))⟩
 f23:=⟨Tryz.f340.name,by decide,Tryz.func340.trans (congrArg some (by kernel_rfl))⟩
 f24:=⟨Tryz.f341.name,by decide,Tryz.func341.trans (congrArg some (by kernel_rfl))⟩
 f25:=⟨Tryz.f342.name,by decide,Tryz.func342.trans (congrArg some (by kernel_rfl))⟩
 f26:=⟨Tryz.f343.name,by decide,Tryz.func343.trans (congrArg some (by kernel_rfl))⟩
 f27:=⟨Tryz.f344.name,by decide,Tryz.func344.trans (congrArg some (by kernel_rfl))⟩
 f28:=⟨Tryz.f345.name,by decide,Tryz.func345.trans (congrArg some (by kernel_rfl))⟩
 f29:=⟨Tryz.f346.name,by decide,Tryz.func346.trans (congrArg some (by kernel_rfl))⟩
 f31:=Tryz.func308.trans (congrArg some (by kernel_rfl))
 f32:=Tryz.func309.trans (congrArg some (by kernel_rfl))
 f36:=⟨Tryz.f375.name,by decide,Tryz.func375.trans (congrArg some (by kernel_rfl))⟩
 f37:=⟨Tryz.f376.name,by decide,Tryz.func376.trans (congrArg some (by kernel_rfl))⟩
 f38:=⟨Tryz.f377.name,by decide,Tryz.func377.trans (congrArg some (by kernel_rfl))⟩
 f39:=⟨Tryz.f372.name,by decide,Tryz.func372.trans (congrArg some (by kernel_rfl))⟩
 f41:=⟨Tryz.f389.name,by decide,Tryz.func389.trans (congrArg some (by kernel_rfl))⟩
 t0:=Tryz.underlying0
 a0:=Tryz.isAgg0
 z0:=Tryz.sizeOf0
 v0:=Tryz.zeroValue0
 t3:=Tryz.underlying3
 a3:=Tryz.isAgg3
 z3:=Tryz.sizeOf3
 v3:=Tryz.zeroValue3
 t4:=Tryz.underlying4
 a4:=Tryz.isAgg4
 z4:=Tryz.sizeOf4
 v4:=Tryz.zeroValue4
 t5:=Tryz.underlying5
 a5:=Tryz.isAgg5
 z5:=Tryz.sizeOf5
 v5:=Tryz.zeroValue5
 t9:=Tryz.underlying9
 a9:=Tryz.isAgg9
 z9:=Tryz.sizeOf9
 v9:=Tryz.zeroValue9
 t26:=Tryz.underlying134
 a26:=Tryz.isAgg134
 z26:=Tryz.sizeOf134
 v26:=Tryz.zeroValue134
 t27:=Tryz.underlying134
 a27:=Tryz.isAgg134
 z27:=Tryz.sizeOf134
 v27:=Tryz.zeroValue134
 t29:=Tryz.underlying9
 a29:=Tryz.isAgg9
 z29:=Tryz.sizeOf9
 v29:=Tryz.zeroValue9
 t32:=Tryz.underlying190
 a32:=Tryz.isAgg190
 z32:=Tryz.sizeOf190
 v32:=Tryz.zeroValue190
 t35:=Tryz.underlying326
 a35:=Tryz.isAgg326
 z35:=Tryz.sizeOf326
 v35:=Tryz.zeroValue326
 t36:=Tryz.underlying327
 a36:=Tryz.isAgg327
 z36:=Tryz.sizeOf327
 v36:=Tryz.zeroValue327
 t41:=Tryz.underlying209
 a41:=Tryz.isAgg209
 z41:=Tryz.sizeOf209
 v41:=Tryz.zeroValue209
 t44:=Tryz.underlying333
 a44:=Tryz.isAgg333
 z44:=Tryz.sizeOf333
 v44:=Tryz.zeroValue333
 t46:=Tryz.underlying335
 a46:=Tryz.isAgg335
 z46:=Tryz.sizeOf335
 v46:=Tryz.zeroValue335
 t53:=Tryz.underlying403
 a53:=Tryz.isAgg403
 z53:=Tryz.sizeOf403
 v53:=Tryz.zeroValue403
 t57:=Tryz.underlying184
 a57:=Tryz.isAgg184
 z57:=Tryz.sizeOf184
 v57:=Tryz.zeroValue184
 t63:=Tryz.underlying441
 a63:=Tryz.isAgg441
 z63:=Tryz.sizeOf441
 v63:=Tryz.zeroValue441
 t64:=Tryz.underlying312
 a64:=Tryz.isAgg312
 z64:=Tryz.sizeOf312
 v64:=Tryz.zeroValue312 }
end
end Go.Proofs
namespace Go.Proofs.YthknocapablpaaaGreatDoor
/- What maps do, of whatever many entries whose keys are texts. Plain laws on one block. -/
section
set_option maxRecDepth 100000
open Go.RowKit Go.MapKept Go.Instr Go.ChangeMaps

theorem cell_map {w:World}{b j c:Nat}{es:Array MapEntry}(h:w.heap[b]? = some (.map es c)):w.cell? ⟨b,j,none⟩=none:=by simp [World.cell?,h]
theorem set_same {w:World}{b:Nat}(o:Obj)(h:b<w.heap.size):(setBlock w b o).heap[b]? = some o:=by simp [setBlock,h]
theorem uMapN:Tryz.prog.underlying 174=some (.map 9 3):=Tryz.underlying174
def keyV (k:ByteArray):Value:=.string k
abbrev KV:=ByteArray × Value
/-- The entries of a map into which these were laid one by one, the first one numbered n. -/
def entsL:Nat→List KV→List MapEntry
 | _,[]=>[]
 | n,p::t=>⟨keyV p.1,p.2,n⟩::entsL (n+1) t
theorem entsL_length:∀ (n:Nat)(L:List KV),(entsL n L).length=L.length
 | _,[]=>rfl
 | n,p::t=>by simp [entsL,entsL_length (n+1) t]
theorem entsL_at:∀ (n:Nat)(L:List KV)(i:Nat),(entsL n L)[i]? = (L[i]?).map (fun p=>⟨keyV p.1,p.2,n+i⟩)
 | _,[],i=>by simp [entsL]
 | n,p::t,0=>by simp [entsL]
 | n,p::t,i+1=>by simp [entsL,entsL_at (n+1) t i];congr 1;funext q;simp;omega
theorem entsL_append:∀ (n:Nat)(L T:List KV),entsL n (L++T)=entsL n L++entsL (n+L.length) T
 | _,[],T=>by simp [entsL]
 | n,p::t,T=>by simp [entsL,entsL_append (n+1) t T];congr 1;omega
/-- The place of a key, as it is looked for. -/
def idxL (k:ByteArray):List KV→Option Nat
 | []=>none
 | p::t=>if k=p.1 then some 0 else (idxL k t).map (· + 1)
theorem idxL_some:∀ {k:ByteArray}{L:List KV}{i:Nat},idxL k L=some i→∃ p,L[i]? = some p∧p.1=k
 | k,[],i,h=>by simp [idxL] at h
 | k,p::t,i,h=>by
  unfold idxL at h
  split at h
  ·rename_i e;cases h;exact ⟨p,rfl,e.symm⟩
  ·cases hi : idxL k t with
   | none=>simp [hi] at h
   | some j=>simp [hi] at h;subst h;simpa using idxL_some hi
theorem ba_beq (k l:ByteArray):(k == l)=decide (k=l):=by
 cases k;cases l
 rw [Bool.eq_iff_iff,decide_eq_true_iff,ByteArray.mk.injEq]
 exact beq_iff_eq (α:=Array UInt8)
theorem now_any (k:ByteArray):∀ (L:List KV)(n i:Nat),findNow .string (keyV k) (entsL n L) i=some ((idxL k L).map (fun j=>(i+j,((L[j]?).map (·.2)).getD undef)))
 | [],n,i=>by simp [entsL,findNow,idxL]
 | p::t,n,i=>by
  have ih:=now_any k t (n+1) (i+1)
  have hs:sameNow .string (keyV k) (keyV p.1)=some (k == p.1):=rfl
  unfold entsL findNow idxL
  simp only [hs,ba_beq]
  by_cases e:k=p.1
  ·simp [e]
  ·simp only [e, decide_false, ih, if_false]
   cases hi:idxL k t with
   | none=>simp
   | some j=>simp;omega
theorem findk_any (k:ByteArray)(w:World)(L:List KV)(n:Nat):(findKey 9 (keyV k) (entsL n L)).run Tryz.prog w = .ok ((idxL k L).map (fun j=>(j,((L[j]?).map (·.2)).getD undef))) w:=by
 have hu:Tryz.prog.underlying 9=some .string:=Tryz.underlying9
 have h:=now_any k L n 0
 simp only [Nat.zero_add] at h
 unfold findKey
 simp only [Sem.run_bind,run_underlying hu,Result.andThen_ok,h]
 rfl
theorem ckS (k:ByteArray)(e:Bool)(w:World):(checkKey e 10000 9 (keyV k)).run Tryz.prog w = .ok () w:=by cases e <;> kernel_rfl
theorem stays_any (k:ByteArray)(w:World):(keyThatStays (keyV k) (keyV k)).run Tryz.prog w = .ok (keyV k) w:=by
 have h:sameBits 10000 (keyV k) (keyV k)=true:=by simp [keyV,sameBits,ba_beq]
 unfold keyThatStays
 simp [h]
/-- The map of these lies in block b. -/
def MapIs (w:World)(b:Nat)(L:List KV):Prop:=w.heap[b]? = some (.map (entsL 0 L).toArray L.length)
theorem MapIs.lt {w:World}{b:Nat}{L:List KV}(h:MapIs w b L):b<w.heap.size:=(Array.getElem?_eq_some_iff.1 h).1
theorem MapIs.kept {S:Nat→Prop}{w w':World}{b:Nat}{L:List KV}(h:MapIs w b L)(hK:Kept S w w')(hS:¬ S b):MapIs w' b L:=(hK.block b h.lt hS).trans h
theorem MapIs.not_cell {w:World}{b j:Nat}{L:List KV}(h:MapIs w b L):w.cell? ⟨b,j,none⟩=none:=cell_map h
/-- A key's entry: what is there, or z behind the last one. -/
def oldL (k:ByteArray)(z:Value)(L:List KV):Value:=((idxL k L).map (fun j=>((L[j]?).map (·.2)).getD undef)).getD z
def entL (k:ByteArray)(z:Value)(L:List KV):List KV:=if (idxL k L).isSome then L else L++[(k,z)]
def stampL (k:ByteArray)(L:List KV):Nat:=(idxL k L).getD L.length
def putK (k:ByteArray)(v:Value)(L:List KV):List KV:=if (idxL k L).isSome then L.set (stampL k L) (k,v) else L++[(k,v)]

theorem lookN {w:World}{b:Nat}{L:List KV}(h:MapIs w b L)(k:ByteArray):(Instr.lookup 174 (.map (some b)) (keyV k) false).run Tryz.prog w = .ok (oldL k (.int .i64 0) L) w:=by
 have f:=findk_any k w L 0
 unfold Instr.lookup
 simp only [Sem.run_bind,run_underlying uMapN,Go.MapKept.run_getObj_map h,Result.andThen_ok,Sem.run_pure,ckS,f]
 unfold oldL
 cases hi:idxL k L with
 | none=>simp
 | some j=>simp
theorem modify_both {n:Nat}{L:List KV}{i:Nat}{p:KV}(v:Value)(h:L[i]? = some p):(entsL n L).toArray.modify i (fun e=>{ e with key:=keyV p.1,val:=v })=(entsL n (L.set i (p.1,v))).toArray:=by
 apply Array.ext_getElem?
 intro j
 rw [Array.getElem?_modify]
 have hl:=(List.getElem?_eq_some_iff.1 h).1
 split
 ·rename_i e; subst e
  have h2:L[i]=p:=(List.getElem?_eq_some_iff.1 h).2
  simp [entsL_at,hl,h2]
 ·rename_i e;simp [entsL_at,e]
theorem push_ents (L:List KV)(k:ByteArray)(v:Value):(entsL 0 L).toArray.push ⟨keyV k,v,L.length⟩=(entsL 0 (L++[(k,v)])).toArray:=by
 rw [entsL_append];simp [entsL]
theorem push_ents1 (L:List KV)(k:ByteArray)(v:Value):(entsL 1 L).toArray.push ⟨keyV k,v,1+L.length⟩=(entsL 1 (L++[(k,v)])).toArray:=by
 rw [entsL_append];simp [entsL]
theorem putN {w:World}{b:Nat}{L:List KV}(h:MapIs w b L)(k:ByteArray)(v:Value):(Instr.mapUpdate 174 (.map (some b)) (keyV k) v).run Tryz.prog w = .ok () (setBlock w b (.map (entsL 0 (putK k v L)).toArray (putK k v L).length)):=by
 have f:=findk_any k w L 0
 unfold Instr.mapUpdate
 simp only [Sem.run_bind,run_underlying uMapN,Go.MapKept.run_getObj_map h,Result.andThen_ok,ckS,f]
 unfold putK stampL
 cases hi:idxL k L with
 | none=>
  simp only [Option.map_none,Go.MapKept.run_setObj_map _ h,push_ents]
  simp [setBlock]
 | some i=>
  obtain ⟨p,hp,rfl⟩:=idxL_some hi
  have e:(entsL 0 L).toArray[i]? = some ⟨keyV p.1,p.2,i⟩:=by simp [entsL_at,hp]
  simp only [Option.map_some,e,Option.getD_some,Sem.run_bind,stays_any,Result.andThen_ok,modify_both v hp,Go.MapKept.run_setObj_map _ h]
  simp [setBlock]
theorem MapIs.set {w:World}{b:Nat}{L:List KV}(hb:b<w.heap.size):MapIs (setBlock w b (.map (entsL 0 L).toArray L.length)) b L:=set_same _ hb
/-- The map of a disk's files: the first entry is numbered 1, because the manifest's draft has been there. -/
def MapF (w:World)(b:Nat)(L:List KV):Prop:=w.heap[b]? = some (.map (entsL 1 L).toArray (1+L.length))
theorem MapF.lt {w:World}{b:Nat}{L:List KV}(h:MapF w b L):b<w.heap.size:=(Array.getElem?_eq_some_iff.1 h).1
theorem MapF.kept {S:Nat→Prop}{w w':World}{b:Nat}{L:List KV}(h:MapF w b L)(hK:Kept S w w')(hS:¬ S b):MapF w' b L:=(hK.block b h.lt hS).trans h
theorem MapF.not_cell {w:World}{b j:Nat}{L:List KV}(h:MapF w b L):w.cell? ⟨b,j,none⟩=none:=cell_map h
theorem MapF.set {w:World}{b:Nat}{L:List KV}(hb:b<w.heap.size):MapF (setBlock w b (.map (entsL 1 L).toArray (1+L.length))) b L:=set_same _ hb
end
end Go.Proofs.YthknocapablpaaaGreatDoor
namespace Go.Proofs
/- slices.Sorted(maps.Keys(m)) at this program: the library's proved contracts, applied (printed by the kit's lay-iter). -/
section
set_option maxRecDepth 100000
open Go.RowKit Go.Maps Go.Sort Go.Shelf

/-- slices.Sort's two contracts at this dump, at the fence that asks nothing. -/
theorem Tryz.sorts128 (m:Nat):AnyZ.SortsIn Tryz.prog Tryz.sorted128_ren Fence.wide m:=
 ⟨fun blk off cap ss W hH hblk hsz=>callsIn_wide.2 (AnyM.slices_Sort_string Tryz.sort212 blk off cap ss W hH hblk hsz),
  fun p cap W=>callsIn_wide.2 (AnyM.slices_Sort_string_none Tryz.sort212 p cap W)⟩

/-- **maps.Keys[map[string]spoor/disk.file,string,spoor/disk.file], at whatever map, the nil one too:** a function value over ONE NEW BLOCK, which holds the map. -/
theorem Tryz.maps_Keys_129 (mb:Option Nat)(W:World):CallsIn Fence.wide 5 Tryz.prog 127 #[.map mb] W fun e w'=>e = .returned (.func (.func 211) #[] #[.pointer (some ⟨W.heap.size,0,none⟩)])∧w'=W.alloc (.cells #[.map mb] 110):=
 AnyZ.keys_in Tryz.keys129 Fence.wide 5 trivial rfl mb W

set_option maxHeartbeats 1000000 in
/-- **slices.Sorted[string] AT WHAT maps.Keys[map[string]spoor/disk.file,string,spoor/disk.file] HANDED BACK FOR A MAP THAT IS NOT nil** ('w': the world AHEAD of maps.Keys' call): A NEW SLICE THAT HOLDS THE MAP's KEYS, SORTED; nil just where it has none; nothing that lay before has turned. -/
theorem Tryz.slices_Sorted_keys_128_129 {H:Type}(b nn:Nat)(D0:DataW H)(R:Value→Option (DataW H × List MemPlace))(w:World)(hown:w.ownsMap Tryz.prog 9 R b nn D0)(hmax:Maps.size D0≤maxLen)(hbytes:Maps.size D0 * 16≤140737488355328) :
  CallsIn Fence.wide 5 Tryz.prog 126 #[.func (.func 211) #[] #[.pointer (some ⟨w.heap.size,0,none⟩)]] (w.alloc (.cells #[.map (some b)] 110)) fun e w'=>∃ (v:Value) (ss:List (List UInt8)),e = .returned v∧ss.Perm (strKeys D0) ∧
   w'.ownsRow (w.alloc (.cells #[.map (some b)] 110)).heap.size 9 1 v ss.length ((ss.mergeSort (fun x y=>decide (x≤y))).map encStr)∧(v = .slice none 0 0 ↔ ss=[])∧Below (w.alloc (.cells #[.map (some b)] 110)).heap.size (w.alloc (.cells #[.map (some b)] 110)) w':=by
 have hbl:=hown.lt
 have hseq:SeqGives Fence.wide 2 Tryz.prog 211 #[.pointer (some ⟨w.heap.size,0,none⟩)] encStr (fun ss=>ss.Perm (strKeys D0)) (Maps.size D0) (w.alloc (.cells #[.map (some b)] 110)):=
  AnyZ.keys_gives (ρ:=Tryz.keys129_ren) { Tryz.keys129 with } Fence.wide _ trivial rfl (by omega) w.heap.size b nn D0 _ (by simp) (by simp) (by
   obtain ⟨es,clock,hb,Ft,hs,hD⟩:=hown
   exact ⟨es,clock,(Below.heap_alloc _ _ b hbl).trans hb,Ft,hs,hD⟩)
 exact AnyZ.sorted_in Tryz.sorted128 Fence.wide 5 trivial trivial trivial trivial rfl (by omega) (Tryz.sorts128 _) (enters_of Tryz.func210 (by kernel_rfl) rfl) 211 #[.pointer (some ⟨w.heap.size,0,none⟩)] trivial (enters_of Tryz.func211 (by kernel_rfl) rfl) _ _ hmax hbytes _ hseq

end
end Go.Proofs
namespace Go.Proofs.YthknocapablpaaaGreatDoor
/- (*disk.Disk).Names, by the library's contracts. -/
section
set_option maxRecDepth 100000
open Go.RowKit Go.Maps Go.Sort Go.Shelf

set_option maxHeartbeats 1000000 in
theorem is_at (p o b:Nat)(w:World)(h:w.cell? ⟨p,o+3,none⟩=some (.map (some b))) :
  Calls Tryz.prog 125 #[.pointer (some ⟨p,o,none⟩)] w fun e w'=>e = .returned (.bool true)∧w=w':=by
 have q68:∀ (w:World) (r:Option Nat),(binOp .neq 110 (.map r) (.map none)).run Tryz.prog w = .ok (.bool (!r.isNone)) w:=fun w r=>run_neq_map_nil w _ _ _ r Tryz.underlying110
 go_enter Tryz.func125,Tryz.ntmps125
 go_wp2
 go_ret
 exact ⟨rfl,rfl⟩

set_option maxHeartbeats 1000000 in
theorem names_at {H:Type}(p o b nn:Nat)(D0:DataW H)(R:Value→Option (DataW H × List MemPlace))(w:World)(hc:w.cell? ⟨p,o+3,none⟩=some (.map (some b)))(hown:w.ownsMap Tryz.prog 9 R b nn D0)(hmax:Maps.size D0≤maxLen)(hbytes:Maps.size D0 * 16≤140737488355328) :
  Calls Tryz.prog 68 #[.pointer (some ⟨p,o,none⟩)] w fun e w'=>∃ (v:Value) (ss:List (List UInt8)),e = .returned v∧ss.Perm (strKeys D0) ∧
   w'.ownsRow w.heap.size 9 1 v ss.length ((ss.mergeSort (fun x y=>decide (x≤y))).map encStr)∧(v = .slice none 0 0 ↔ ss=[])∧Below w.heap.size w w':=by
 refine (callsIn_wide (n:=6)).1 ?_
 have hfK:Fence.wide.fn 127:=trivial
 have hfS:Fence.wide.fn 126:=trivial
 have hfI:Fence.wide.fn 125:=trivial
 have q68:∀ (w:World) (r:Option Nat),(binOp .neq 110 (.map r) (.map none)).run Tryz.prog w = .ok (.bool (!r.isNone)) w:=fun w r=>run_neq_map_nil w _ _ _ r Tryz.underlying110
 refine callsIn_of_wp Tryz.func68 rfl trivial ?_ rfl
 simp only [Tryz.ntmps68,List.size_toArray,List.length_cons,List.length_nil,Nat.reduceAdd,Nat.reduceSub,Array.replicate_succ,Array.replicate_zero,List.push_toArray,List.append_toArray,List.nil_append,List.cons_append]
 gi_wp2_with (first
  | (gi_at_call 127;refine (Tryz.maps_Keys_129 _ _).mono ?_;rintro e w' ⟨rfl,rfl⟩)
  | (gi_at_call 126;refine (Tryz.slices_Sorted_keys_128_129 b nn D0 R w hown hmax hbytes).mono ?_;rintro e w' ⟨v,ss,rfl,hS,hrow,hnil,hb⟩)
  | (gi_at_call 125;refine (callsIn_wide.2 (is_at p o b _ hc)).mono ?_;rintro e w' ⟨rfl,rfl⟩))
 go_ret
 exact ⟨v,ss,rfl,hS,ownsRow_base_a hrow (by simp),hnil,((Below.refl _ w).alloc (Nat.le_refl _) _).trans (hb.mono (by simp))⟩

set_option maxHeartbeats 1000000 in
theorem names_nilmap (p o:Nat)(w:World)(hc:w.cell? ⟨p,o+3,none⟩=some (.map none)):Calls Tryz.prog 68 #[.pointer (some ⟨p,o,none⟩)] w fun e w'=>e = .returned (.slice none 0 0)∧w'=w:=by
 have q68:∀ (w:World) (r:Option Nat),(binOp .neq 110 (.map r) (.map none)).run Tryz.prog w = .ok (.bool (!r.isNone)) w:=fun w r=>run_neq_map_nil w _ _ _ r Tryz.underlying110
 go_enter Tryz.func68,Tryz.ntmps68
 go_wp2
 go_ret
 exact ⟨rfl,rfl⟩

set_option maxHeartbeats 1000000 in
theorem names_nil (w:World):Calls Tryz.prog 68 #[.pointer none] w fun e w'=>e = .returned (.slice none 0 0)∧w'=w:=by
 go_enter Tryz.func68,Tryz.ntmps68
 go_wp2
 go_ret
 exact ⟨rfl,rfl⟩

end
end Go.Proofs.YthknocapablpaaaGreatDoor
