/- A part of the proof. -/
import Derived.Test.YthknocapablpaaaGreatDoorProg
import Derived.Shelf.Spec.SlicesInsert
import Derived.Lib.AppendZerosOnto
import Derived.Laws.NewBlocks
import Derived.Test.YthknocapablpaaaGreatDoorAi1
import Derived.Test.YthknocapablpaaaGreatDoorAi17
namespace Go.Proofs.YthknocapablpaaaGreatDoor
/- slices.Insert of one cell of a page (api.Cell lies in three cells). -/
section
set_option maxRecDepth 100000
open Go.RowKit Go.Lib Go.Eng

/-- copy, where what is loaded and what is stored is known. -/
theorem run_copy3 {dt e size:Nat}{ats:Array TypeId}{ty:TypeId}{a b:Addr}{len cap sl sc m:Nat}{V:List Value}{w w':World}(h0:ats[0]? = some dt)(hu:Tryz.prog.underlying dt=some (.slice e))(hs:∀ w,(sizeOf e).run Tryz.prog w = .ok size w)
  (hm:Nat.min sl len=m)(hl:(loadCells b (m * size)).run Tryz.prog w = .ok V.toArray w)(hst:(storeCells a V).run Tryz.prog w = .ok () w') :
  (Builtin.copy_ ats ty #[.slice (some a) len cap,.slice (some b) sl sc]).run Tryz.prog w = .ok (goInt m) w':=by
 have v0:(#[Value.slice (some a) len cap,.slice (some b) sl sc])[0]? = some (Value.slice (some a) len cap):=rfl
 have v1:(#[Value.slice (some a) len cap,.slice (some b) sl sc])[1]? = some (Value.slice (some b) sl sc):=rfl
 have hf:(Builtin.firstCells size m (.slice (some b) sl sc)).run Tryz.prog w = .ok V.toArray w:=hl
 simp only [Builtin.copy_,h0,v0,v1,Sem.run_bind,run_underlying hu,Result.andThen_ok,Builtin.lenOf,Sem.run_pure,hm,hs,hf,hst]

theorem loads3 {w:World}{b o n:Nat}{C:Array Value}{t:TypeId}{fr:Nat × Nat}(hb:w.heap[b]? = some (.cells C t fr)){cs:List Value}(hcl:cs.length=n)(hcs:∀ j v,cs[j]? = some v→C[o+j]? = some v) :
  (loadCells ⟨b,o,none⟩ n).run Tryz.prog w = .ok cs.toArray w:=by
 have:=run_loadCells_list (P:=Tryz.prog) w ⟨b,o,none⟩ cs (fun j v hj=>by
  rw [Addr.add_lit]
  simp only [World.cell?,hb]
  simpa using hcs j v hj)
 rwa [hcl] at this

set_option maxHeartbeats 4000000 in
theorem insert_shift (b off n c i vb voff vc:Nat)(C D:Array Value)(t tA:TypeId)(fr frA:Nat × Nat)(cs vs:List Value)(w:World)
  (hb:w.heap[b]? = some (.cells C t fr))(hfr:∀ j,j<C.size→¬ (fr.1≤j∧j<fr.2))(hA:w.heap[vb]? = some (.cells D tA frA))(hfA:∀ j,j<D.size→¬ (frA.1≤j∧j<frA.2))(hfe:w.frozen? ⟨vb,D.size,none⟩=false)(hne:vb≠b)
  (hi:i<n)(hroom:n+1≤c)(hn:n<appendMax)(hfit:off+(n+1) * 3≤C.size)
  (hcl:cs.length=n * 3)(hcs:∀ j v,cs[j]? = some v→C[off+j]? = some v)(h1c:allOne cs=true)
  (hvl:vs.length=3)(hvs:∀ j v,vs[j]? = some v→D[voff+j]? = some v)(h1v:allOne vs=true) :
  Calls Tryz.prog 206 #[.slice (some ⟨b,off,none⟩) n c,.int .i64 i,.slice (some ⟨vb,voff,none⟩) 1 vc] w fun e w'=>
   e = .returned (.slice (some ⟨b,off,none⟩) (n+1) c)∧w'={ w.drew with heap:=w.heap.setIfInBounds b (.cells ⟨layL (layL C.toList (off+(i+1) * 3) (cs.drop (i * 3))) (off+i * 3) vs⟩ t fr) }:=by
 have hz2:¬ ((i:Int)=(n:Int)):=by omega
 have hv3:voff+3≤D.size:=by
  have:=hvs 2 _ (List.getElem?_eq_getElem (by omega))
  rcases Nat.lt_or_ge (voff+2) D.size with h | h
  ·omega
  ·rw [Array.getElem?_eq_none h] at this;cases this
 have hfa:w.frozen? ⟨vb,voff,none⟩=false:=by
  simp only [World.frozen?,hA]
  simpa using hfA voff (by omega)
 have hov:∀ lb cb,(callFunc 286 #[.slice (some ⟨vb,voff,none⟩) 1 vc,.slice (some ⟨b,off+(i+1) * 3,none⟩) lb cb]).run Tryz.prog w = .ok (.value (.bool false)) w:=fun lb cb=>by
  rw [run_callFunc_extern Tryz.func286 (by kernel_rfl) (by kernel_rfl) (by kernel_rfl) (e:=Extern.SlicesOverlaps.overlaps #[65,65] #[132]) (by kernel_rfl),
   Lib.run_overlaps_apart w 65 132 132 Tryz.underlying65 3 Tryz.sizeOf132 ⟨vb,voff,none⟩ ⟨b,off+(i+1) * 3,none⟩ 1 vc lb cb hne tA t D.size C.size (by simp only [World.shape?,hA]) (by simp only [World.shape?,hb]) (by omega) hfa hfe]
  rfl
 have hlt:b<w.heap.size:=by
  rcases Nat.lt_or_ge b w.heap.size with h | h
  ·exact h
  ·rw [Array.getElem?_eq_none h] at hb;cases hb
 have hdl:(cs.drop (i * 3)).length=(n - i) * 3:=by rw [List.length_drop,hcl];omega
 obtain ⟨C1,hC1⟩:∃ C1:Array Value,C1=⟨layL C.toList (off+(i+1) * 3) (cs.drop (i * 3))⟩:=⟨_,rfl⟩
 have hC1s:C1.size=C.size:=by
  rw [hC1]
  simp only [List.size_toArray]
  rw [layL_length (by rw [hdl];simp only [Array.length_toList];omega)]
  simp
 obtain ⟨W1,hW1⟩:∃ W1:World,W1={ w.drew with heap:=w.heap.setIfInBounds b (.cells C1 t fr) }:=⟨_,rfl⟩
 have hcp1:∀ ty dc sc,(Builtin.copy_ #[305,305] ty #[.slice (some ⟨b,off+(i+1) * 3,none⟩) (n - i) dc,.slice (some ⟨b,off+i * 3,none⟩) (n+1 - i) sc]).run Tryz.prog w.drew = .ok (goInt (n - i:Nat)) W1:=fun ty dc sc=>by
  refine run_copy3 (e:=132) (size:=3) (V:=cs.drop (i * 3)) rfl Tryz.underlying305 Tryz.sizeOf132 (by simp only [Nat.min_def];split <;> omega) ?_ ?_
  ·exact loads3 (w:=w.drew) (t:=t) (fr:=fr) hb hdl (fun j v hj=>by
    rw [List.getElem?_drop] at hj
    have:=hcs _ v hj
    rwa [← Nat.add_assoc] at this)
  ·rw [hW1, hC1]
   have:=run_storeCells (P:=Tryz.prog) (w:=w.drew) hb hfr (cs.drop (i * 3)) (off+(i+1) * 3) 0 (allOne_iff.2 fun v hv=>allOne_iff.1 h1c v (List.mem_of_mem_drop hv)) (by omega)
   exact this
 obtain ⟨W2,hW2⟩:∃ W2:World,W2={ w.drew with heap:=w.heap.setIfInBounds b (.cells ⟨layL C1.toList (off+i * 3) vs⟩ t fr) }:=⟨_,rfl⟩
 have hcp2:∀ ty dc,(Builtin.copy_ #[305,65] ty #[.slice (some ⟨b,off+i * 3,none⟩) (n+1 - i) dc,.slice (some ⟨vb,voff,none⟩) 1 vc]).run Tryz.prog W1 = .ok (goInt (1:Nat)) W2:=fun ty dc=>by
  refine run_copy3 (e:=132) (size:=3) (V:=vs) rfl Tryz.underlying305 Tryz.sizeOf132 (by simp only [Nat.min_def];split <;> omega) ?_ ?_
  ·refine loads3 (w := W1) (t := tA) (fr := frA) (C := D) ?_ hvl hvs
   rw [hW1]
   simp only [Array.getElem?_setIfInBounds_ne (Ne.symm hne)]
   exact hA
  ·have h1:W1.heap[b]? = some (.cells C1 t fr):=by
    rw [hW1]
    simp only [Array.getElem?_setIfInBounds_self,if_pos hlt]
   have:=run_storeCells (P:=Tryz.prog) (w:=W1) h1 (by rw [hC1s];exact hfr) vs (off+i * 3) 0 h1v (by omega)
   refine this.trans ?_
   rw [hW2,hW1]
   simp only [Array.setIfInBounds_setIfInBounds,Nat.add_zero]
 have hfin:W2={ w.drew with heap:=w.heap.setIfInBounds b (.cells ⟨layL (layL C.toList (off+(i+1) * 3) (cs.drop (i * 3))) (off+i * 3) vs⟩ t fr) }:=by rw [hW2,hC1]
 rw [← hfin]
 have hw1:IntKind.i64.wrap ((i:Int)+1)=(i:Int)+1:=by rw [IntKind.wrap_i64];unfold appendMax at hn;omega
 have hw2:IntKind.i64.wrap ((n:Int)+1)=(n:Int)+1:=by rw [IntKind.wrap_i64];unfold appendMax at hn;omega
 have hb1:(0:Int)≤(i:Int)+1:=by omega
 have hin:i≤n:=by omega
 have htn:((i:Int)+1).toNat=i+1:=by omega
 have htn2:((n:Int)+1).toNat=n+1:=by omega
 have hb2:¬ (c=i+1):=by omega
 have hb3:(i:Int)≤(n:Int)+1:=by omega
 have hb4:¬ (c=i):=by omega
 have mixed:Tryz.prog.follows .mixedOrders=true:=by kernel_rfl
 have hb5:¬ ((c:Int)<(n:Int)+1):=by omega
 clear hfin hW1 hW2 hC1 hC1s hA hfA hfe hfa hv3 hcs hvs hfr hfit hcl hvl h1c h1v hb hdl
 go_enter Tryz.func206,Tryz.ntmps206
 go_wp2_with (simp only [hov])
 go_region_law_o (refine step_copy_runI rfl _ _ 305 305 rfl _ _ (by simp [Act.eval,Act.put]) (by simp [Act.eval,Act.put]) (hcp1 _ _ _) ?_)
 go_wp2_with (at_builtin;refine wpList_copy_runI _ rfl _ _ 305 65 rfl _ _ rfl rfl (hcp2 _ _) ?_)
 go_ret
 exact ⟨rfl,rfl⟩

end
/- slices.Insert of one cell of a page: a new row. -/
section
set_option maxRecDepth 100000
open Go.RowKit Go.Lib Go.Eng

set_option maxHeartbeats 4000000 in
theorem insert_grow (b off n c i vb voff vc:Nat)(C D:Array Value)(t tA:TypeId)(fr frA:Nat × Nat)(cs vs:List Value)(w:World)
  (hb:w.heap[b]? = some (.cells C t fr))(hA:w.heap[vb]? = some (.cells D tA frA))
  (hi:i<n)(hn:n<appendMax)(hnc:n≤c)(hroom:c<n+1)
  (hcl:cs.length=n * 3)(hcs:∀ j v,cs[j]? = some v→C[off+j]? = some v)(h1c:allOne cs=true)
  (hvl:vs.length=3)(hvs:∀ j v,vs[j]? = some v→D[voff+j]? = some v)(h1v:allOne vs=true) :
  Calls Tryz.prog 206 #[.slice (some ⟨b,off,none⟩) n c,.int .i64 i,.slice (some ⟨vb,voff,none⟩) 1 vc] w fun e w'=>∃ (k:Nat) (A:Array Value),
   e = .returned (.slice (some ⟨w.heap.size,0,none⟩) (n+1) (n+1+k))∧w'.heap=w.heap.push (.cells A 132 (0,0))∧w'.os=w.os∧w'.tape=w.tape∧w'.output=w.output ∧
   (n+1) * 3+k * 3≤A.size∧∀ (j:Nat)(v:Value),(cs.take (i * 3)++vs++cs.drop (i * 3))[j]? = some v→A[j]? = some v:=by
 have hz2:¬ ((i:Int)=(n:Int)):=by omega
 have hbw:b<w.heap.size:=by
  rcases Nat.lt_or_ge b w.heap.size with h | h
  ·exact h
  ·rw [Array.getElem?_eq_none h] at hb;cases hb
 have hvw:vb<w.heap.size:=by
  rcases Nat.lt_or_ge vb w.heap.size with h | h
  ·exact h
  ·rw [Array.getElem?_eq_none h] at hA;cases hA
 obtain ⟨inf,hinf,hbytes,Z,hZ,hZs,hZv⟩:∃ inf,Tryz.prog.info? 132=some inf∧inf.bytes≤appendMax∧∃ Z,inf.zero=some Z∧Z.cells.size=3∧∀ w',(zeroValue 132).run Tryz.prog w' = .ok Z w':=
  ⟨_,rfl,by decide,_,rfl,rfl,Tryz.zeroValue132⟩
 have htk:(cs.take (i * 3)).length=i * 3:=by rw [List.length_take,hcl];omega
 obtain ⟨k,hap⟩:=run_append_grow' (P:=Tryz.prog) (st:=305) (e:=132) (size:=3) (n:=n+1 - i) (len:=i) (cap:=c) («as» := #[305,3]) (vs:=#[.slice (some ⟨b,off,none⟩) i c,.int .i64 (Int.ofNat (n+1 - i))]) (ty:=305)
  (base:=some ⟨b,off,none⟩) (zeros:=true) (N:=Builtin.zeroCells Z.cells (n+1 - i)) (OLD:=(cs.take (i * 3)).toArray) (i:=inf) (Z:=Z) (w:=w)
  rfl rfl rfl Tryz.underlying305 rfl hinf hbytes (.inr ⟨3,_,rfl,Tryz.underlying3,rfl⟩) (by unfold appendMax at *;omega) (by unfold appendMax at *;omega) hZv (fun _=>⟨⟨_,rfl⟩,rfl⟩) (fun q=>by cases q)
  (by rw [← Array.length_toList, zeroCells_eq, List.length_flatten]; simp [hZs]) (fun w' hw' => by
   have:=loads3 (w:=w') (b:=b) (o:=off) (t:=t) (fr:=fr) (C:=C) (by rw [hw'];exact hb) htk (fun j v hj=>by
    rw [List.getElem?_take] at hj
    split at hj
    ·exact hcs j v hj
    ·cases hj)
   exact this) (by omega)
 have hin1:i+(n+1 - i)=n+1:=by omega
 have hii:(Int.ofNat (n+1 - i))=(n:Int)+1 - (i:Int):=by simp only [Int.ofNat_eq_natCast];omega
 rw [hin1,hii] at hap
 obtain ⟨A0,hA0⟩:∃ A0:Array Value,A0=(cs.take (i * 3)).toArray++Builtin.zeroCells Z.cells (n+1 - i)++Builtin.zeroCells Z.cells k:=⟨_,rfl⟩
 rw [← hA0] at hap
 have zs:∀ q,(Builtin.zeroCells Z.cells q).size=q * 3:=fun q=>by rw [← Array.length_toList,zeroCells_eq,List.length_flatten];simp [hZs]
 have hA0s:A0.size=(n+1) * 3+k * 3:=by
  rw [hA0]
  simp only [Array.size_append,List.size_toArray,htk,zs]
  omega
 obtain ⟨W0,hW0⟩:∃ W0:World,W0=w.drew.alloc (.cells A0 132):=⟨_,rfl⟩
 rw [← hW0] at hap
 have g0:W0.heap[w.heap.size]? = some (.cells A0 132 (0,0)):=by
  rw [hW0]
  exact Array.getElem?_push_size
 have g1:∀ q,q<w.heap.size→W0.heap[q]? = w.heap[q]?:=fun q hq=>by rw [hW0];exact Below.heap_alloc _ _ q hq
 obtain ⟨A1,hA1⟩:∃ A1:Array Value,A1=⟨layL A0.toList (i * 3) vs⟩:=⟨_,rfl⟩
 have hA1s:A1.size=A0.size:=by
  rw [hA1]
  simp only [List.size_toArray]
  rw [layL_length (by rw [hvl];simp only [Array.length_toList];omega)]
  simp
 obtain ⟨W1,hW1⟩:∃ W1:World,W1={ W0 with heap:=W0.heap.setIfInBounds w.heap.size (.cells A1 132 (0,0)) }:=⟨_,rfl⟩
 have h1:W1.heap[w.heap.size]? = some (.cells A1 132 (0,0)):=by
  have:w.heap.size<W0.heap.size:=by rw [hW0];simp [World.alloc]
  rw [hW1];simp only [Array.getElem?_setIfInBounds_self,if_pos this]
 have h1o:∀ q,q<w.heap.size→W1.heap[q]? = w.heap[q]?:=fun q hq=>by
  rw [hW1]
  have:w.heap.size≠q:=by omega
  simp only [Array.getElem?_setIfInBounds_ne this]
  exact g1 q hq
 have hcp1:∀ ty dc,(Builtin.copy_ #[305,65] ty #[.slice (some ⟨w.heap.size,i * 3,none⟩) (n+1 - i) dc,.slice (some ⟨vb,voff,none⟩) 1 vc]).run Tryz.prog W0 = .ok (goInt (1:Nat)) W1:=fun ty dc=>by
  refine run_copy3 (e:=132) (size:=3) (V:=vs) rfl Tryz.underlying305 Tryz.sizeOf132 (by simp only [Nat.min_def];split <;> omega) ?_ ?_
  ·exact loads3 (w:=W0) (t:=tA) (fr:=frA) (C:=D) (by rw [g1 vb hvw];exact hA) hvl hvs
  ·have := run_storeCells (P := Tryz.prog) (w := W0) g0 (fun j _ q => by omega) vs (i * 3) 0 h1v (by omega)
   refine this.trans ?_
   rw [hW1,hA1]
   simp only [Nat.add_zero]
 have hdl:(cs.drop (i * 3)).length=(n - i) * 3:=by rw [List.length_drop,hcl];omega
 obtain ⟨A2,hA2⟩:∃ A2:Array Value,A2=⟨layL A1.toList ((i+1) * 3) (cs.drop (i * 3))⟩:=⟨_,rfl⟩
 have hA2s:A2.size=A0.size:=by
  rw [hA2]
  simp only [List.size_toArray]
  rw [layL_length (by rw [hdl];simp only [Array.length_toList];omega)]
  simp [hA1s]
 obtain ⟨W2,hW2⟩:∃ W2:World,W2={ W1.drew with heap:=W1.heap.setIfInBounds w.heap.size (.cells A2 132 (0,0)) }:=⟨_,rfl⟩
 have hcp2:∀ ty dc sc,(Builtin.copy_ #[305,305] ty #[.slice (some ⟨w.heap.size,(i+1) * 3,none⟩) (n - i) dc,.slice (some ⟨b,off+i * 3,none⟩) (n - i) sc]).run Tryz.prog W1.drew = .ok (goInt (n - i:Nat)) W2:=fun ty dc sc=>by
  refine run_copy3 (e:=132) (size:=3) (V:=cs.drop (i * 3)) rfl Tryz.underlying305 Tryz.sizeOf132 (by simp only [Nat.min_def];split <;> omega) ?_ ?_
  ·refine loads3 (w:=W1.drew) (t:=t) (fr:=fr) (C:=C) ((h1o b hbw).trans hb) hdl (fun j v hj=>by
    rw [List.getElem?_drop] at hj
    have:=hcs _ v hj
    rwa [← Nat.add_assoc] at this)
  ·have := run_storeCells (P := Tryz.prog) (w := W1.drew) h1 (fun j _ q => by omega) (cs.drop (i * 3)) ((i + 1) * 3) 0 (allOne_iff.2 fun v hv => allOne_iff.1 h1c v (List.mem_of_mem_drop hv)) (by omega)
   refine this.trans ?_
   rw [hW2,hA2]
   rfl
 have hfin:W2.heap=w.heap.push (.cells A2 132 (0,0))∧W2.os=w.os∧W2.tape=w.tape∧W2.output=w.output:=by
  rw [hW2,hW1,hW0]
  refine ⟨?_,rfl,rfl,rfl⟩
  simp only [Array.setIfInBounds_setIfInBounds]
  apply Array.ext_getElem?
  intro q
  rw [Array.getElem?_setIfInBounds]
  simp only [World.alloc]
  by_cases e:w.heap.size=q
  ·subst e;simp
  ·rw [if_neg e]
   simp only [World.drew]
   rw [Array.getElem?_push,Array.getElem?_push]
   rw [if_neg (by omega),if_neg (by omega)]
 have hget:∀ (j:Nat) (v:Value),(cs.take (i * 3)++vs++cs.drop (i * 3))[j]? = some v→A2[j]? = some v:=by
  intro j v hj
  rw [hA2]
  simp only [List.getElem?_toArray]
  rw [layL_get (by rw [hdl];simp only [Array.length_toList];omega)]
  rcases Nat.lt_or_ge j ((i+1) * 3) with q | q
  ·rw [if_pos q, hA1]
   simp only
   rw [layL_get (by rw [hvl];simp only [Array.length_toList];omega)]
   rw [List.getElem?_append_left (by rw [List.length_append,htk,hvl];omega)] at hj
   rcases Nat.lt_or_ge j (i * 3) with q2 | q2
   ·rw [if_pos q2]
    rw [List.getElem?_append_left (by rw [htk];omega)] at hj
    rw [hA0]
    simp only [Array.toList_append,List.append_assoc]
    rw [List.getElem?_append_left (by simp only [htk];omega)]
    exact hj
   ·rw [if_neg (by omega), if_pos (by omega)]
    rw [List.getElem?_append_right (by rw [htk];omega),htk] at hj
    exact hj
  ·have hlt:j<(cs.take (i * 3)++vs++cs.drop (i * 3)).length:=by
    rcases Nat.lt_or_ge j (cs.take (i * 3)++vs++cs.drop (i * 3)).length with h | h
    ·exact h
    ·rw [List.getElem?_eq_none h] at hj;cases hj
   simp only [List.length_append,htk,hvl,hdl] at hlt
   rw [if_neg (by omega),if_pos (by rw [hdl];omega)]
   rw [List.getElem?_append_right (by rw [List.length_append,htk,hvl];omega),List.length_append,htk,hvl] at hj
   rw [← hj]
   congr 1
   omega
 have hfz:(n+1) * 3+k * 3≤A2.size:=by omega
 have hw1:IntKind.i64.wrap ((i:Int)+1)=(i:Int)+1:=by rw [IntKind.wrap_i64];unfold appendMax at hn;omega
 have hw2:IntKind.i64.wrap ((n:Int)+1)=(n:Int)+1:=by rw [IntKind.wrap_i64];unfold appendMax at hn;omega
 have hw3:IntKind.i64.wrap ((n:Int)+1 - (i:Int))=(n:Int)+1 - (i:Int):=by rw [IntKind.wrap_i64];unfold appendMax at hn;omega
 have hb1:(0:Int)≤(i:Int)+1:=by omega
 have hin:i≤n:=by omega
 have htn:((i:Int)+1).toNat=i+1:=by omega
 have hb2:¬ (n+1+k=i+1):=by omega
 have hb3:(i:Int)≤(n:Int)+1:=by omega
 have hb4:¬ (c=i):=by omega
 have hb5:(c:Int)<(n:Int)+1:=by omega
 have hb6:¬ (n+1+k=i):=by omega
 have hb7:i≤n+1:=by omega
 have mixed:Tryz.prog.follows .mixedOrders=true:=by kernel_rfl
 obtain ⟨G,hG⟩:∃ G,G=n+1+k:=⟨_,rfl⟩
 have hG1:n+1≤G:=by omega
 rw [← hG] at hap hb2 hb6
 have hG2:k=G - (n+1):=by omega
 clear hG
 rw [hG2] at hfz
 clear hG2
 clear hW1 hW2 hW0 hA1 hA2 hA0 hA1s hA2s hA0s g0 g1 h1 h1o hb hA hcs hvs hcl hvl h1c h1v hdl zs htk hZ hZs hZv hinf hbytes hii hin1
 go_enter Tryz.func206,Tryz.ntmps206
 go_wp2_with (first
  | (at_builtin;refine Lib.wpList_append_run _ rfl _ _ _ _ rfl _ _ rfl rfl _ _ hap ?_)
  | (at_builtin;refine wpList_copy_runI _ rfl _ _ 305 65 rfl _ _ rfl rfl (hcp1 _ _) ?_))
 go_region_law_o (refine step_copy_runI rfl _ _ 305 305 rfl _ _ (by simp [Act.eval,Act.put]) (by simp [Act.eval,Act.put]) (hcp2 _ _ _) ?_)
 go_wp2
 go_ret
 exact ⟨G - (n+1),A2,by rw [show n+1+(G - (n+1))=G by omega];rfl,hfin.1,hfin.2.1,hfin.2.2.1,hfin.2.2.2,hfz,hget⟩

end
/- slices.Insert of one cell of a page, as a summary. -/
section
set_option maxRecDepth 100000
open Go.RowKit Go.Lib Go.Eng

set_option maxHeartbeats 4000000 in
theorem insert_end (b off n c vb voff vc:Nat)(u:Value)(w w1:World)
  (h:(Builtin.append_ #[305,65] 305 #[.slice (some ⟨b,off,none⟩) n c,.slice (some ⟨vb,voff,none⟩) 1 vc]).run Tryz.prog w = .ok u w1) :
  Calls Tryz.prog 206 #[.slice (some ⟨b,off,none⟩) n c,.int .i64 n,.slice (some ⟨vb,voff,none⟩) 1 vc] w fun e w'=>e = .returned u∧w'=w1:=by
 have mixed:Tryz.prog.follows .mixedOrders=true:=by kernel_rfl
 have hnn:n≤n:=Nat.le_refl _
 go_enter Tryz.func206,Tryz.ntmps206
 go_wp2_with (at_builtin;refine Lib.wpList_append_run _ rfl _ _ _ _ rfl _ _ rfl rfl _ _ h ?_)
 all_goals
  go_ret
  exact ⟨rfl,rfl⟩

set_option maxHeartbeats 4000000 in
theorem insert_nil (vb voff vc:Nat)(u:Value)(w w1:World)
  (h:(Builtin.append_ #[305,65] 305 #[.slice none 0 0,.slice (some ⟨vb,voff,none⟩) 1 vc]).run Tryz.prog w = .ok u w1) :
  Calls Tryz.prog 206 #[.slice none 0 0,.int .i64 0,.slice (some ⟨vb,voff,none⟩) 1 vc] w fun e w'=>e = .returned u∧w'=w1:=by
 have mixed:Tryz.prog.follows .mixedOrders=true:=by kernel_rfl
 go_enter Tryz.func206,Tryz.ntmps206
 go_wp2_with (at_builtin;refine Lib.wpList_append_run _ rfl _ _ _ _ rfl _ _ rfl rfl _ _ h ?_)
 go_ret
 exact ⟨rfl,rfl⟩

noncomputable section
def outC:Option Out→Option CRes
 | some (.val v h c)=>some (.mk v h c)
 | _=>none
/-- slices.Insert of one cell. -/
def insS (args:List AV)(h:Heap)(c:Nat):Option CRes:=match args with
 | [s,.int .i64 (.ofNat i),.slice n' o' 1 cp fl']=>match s with
  | .nils=>bif Nat.beq i 0 then outC (aAppend Tryz.prog h c 305 (some 65) .nils (.slice n' o' 1 cp fl')) else none
  | .slice n o len cap fl => bif Nat.ble (len + 1) appendMax && Nat.ble len cap then
    bif Nat.beq i len then outC (aAppend Tryz.prog h c 305 (some 65) (.slice n o len cap fl) (.slice n' o' 1 cp fl'))
    else bif Nat.ble (i+1) len && fl && !Nat.beq n n' && Nat.beq o 0 then
     (cells? h n).bind fun tc => (row? tc.2 o (len * 3)).bind fun r => (cells? h n').bind fun tc' => (row? tc'.2 o' 3).bind fun vs =>
      bif Nat.beq tc.1 132 && Nat.beq tc'.1 132 && Nat.beq (o+cap * 3) tc.2.length then
       outC (putObj h n none fun h=>newCells h c 132 (r.take (i * 3)++vs++r.drop (i * 3)) (.slice c 0 (len+1) (len+1) true))
      else none
    else none
   else none
  | _=>none
 | _=>none
end

theorem outC_some {o:Option Out}{v:AV}{h:Heap}{c:Nat}(e:outC o=some (.mk v h c)):o=some (.val v h c):=by
 unfold outC at e
 split at e
 ·cases e;rfl
 ·cases e

theorem block_at {η:Env}{σ:Sig}{h:Heap}{c n t:Nat}{cs:List AV}{w:World}(H:HR Tryz.prog σ η h c w)(hn:cells? h n=some (t,cs)){l:Eng.Loc}(hl:σ n=some l):ObjR Tryz.prog σ η w l (.cells t cs):=by
 obtain ⟨l',hl',ob⟩:=H.obj n _ (cells?_iff.1 hn)
 rw [hl] at hl';cases hl';exact ob

theorem row_in {η:Env}{σ:Sig}{l:Eng.Loc}{cs r:List AV}{o k:Nat}{C:Array Value}{us:List Value}(h3:concs σ η cs=some us)(h4:allOne us=true)(h5:∀ i v,us[i]? = some v→C[l.off+i]? = some v)(hr:row? cs o k=some r) :
  ∃ rs,concs σ η r=some rs∧allOne rs=true∧rs.length=k∧∀ j v,rs[j]? = some v→C[l.off+o+j]? = some v:=by
 obtain ⟨k1,k2,k3⟩:=concs_row h3 hr
 have hlen:((us.drop o).take k).length=k:=by rw [concs_length k1];exact k2
 refine ⟨_,k1,allOne_iff.2 fun v hv=>allOne_iff.1 h4 v (List.mem_of_mem_drop (List.mem_of_mem_take hv)),hlen,fun i v hv=>?_⟩
 rw [List.getElem?_take] at hv
 split at hv
 ·rw [List.getElem?_drop] at hv
  have:=h5 _ _ hv
  rwa [← Nat.add_assoc] at this
 ·cases hv

theorem ins_ok {η:Env}{args:List AV}{h:Heap}{c:Nat}{v:AV}{h':Heap}{c':Nat}(he:insS args h c=some (.mk v h' c')){σ:Sig}{w:World}{avs:List Value}(H:HR Tryz.prog σ η h c w)(ha:concs σ η args=some avs):Calls Tryz.prog 206 avs.toArray w (Done Tryz.prog η σ h c w v h' c'):=by
 unfold insS at he
 split at he
 rotate_left
 ·cases he
 rename_i s i n' o' cp fl'
 obtain ⟨sv,r1,hs,hr1,rfl⟩:=concs_cons.1 ha
 obtain ⟨iv,r2,hiv,hr2,rfl⟩:=concs_cons.1 hr1
 obtain ⟨xv,r3,hx,hr3,rfl⟩:=concs_cons.1 hr2
 simp only [concs,Option.some.injEq] at hr3
 subst hr3
 rw [conc_int] at hiv
 subst hiv
 obtain ⟨l',hl',rfl⟩:=conc_slice.1 hx
 split at he
 ·-- nil
  rw [conc_nils] at hs
  subst hs
  cases hi:Nat.beq i 0 with
  | false=>simp [hi] at he
  | true=>
  simp only [hi,cond_true] at he
  have hi:=Nat.eq_of_beq_eq_true hi
  subst hi
  have hap:=aAppend_ok («as» := #[305,65]) (vs:=#[.slice none 0 0,.slice (some ⟨l'.blk,l'.off+o',none⟩) 1 (cp+(if fl' then l'.slack else 0))]) (ty:=305) (outC_some he) H (conc_nils.2 rfl) hx rfl rfl rfl rfl
  obtain ⟨u,σ',w',q1,q2,q3⟩:=hap
  refine Calls.mono (insert_nil _ _ _ u w w' q3) ?_
  rintro e w2 ⟨rfl,rfl⟩
  exact ⟨u,σ',rfl,q1,q2⟩
 ·rename_i n o len cap fl
  cases h0:(Nat.ble (len+1) appendMax && Nat.ble len cap) with
  | false=>simp [h0] at he
  | true=>
  simp only [h0,cond_true] at he
  rw [Bool.and_eq_true] at h0
  have hlen:=Nat.le_of_ble_eq_true h0.1
  have hcap:=Nat.le_of_ble_eq_true h0.2
  obtain ⟨l,hl,rfl⟩:=conc_slice.1 hs
  cases hi:Nat.beq i len with
  | true=>
   simp only [hi,cond_true] at he
   have hi:=Nat.eq_of_beq_eq_true hi
   subst hi
   have hap:=aAppend_ok («as» := #[305,65]) (vs:=#[.slice (some ⟨l.blk,l.off+o,none⟩) i (cap+(if fl then l.slack else 0)),.slice (some ⟨l'.blk,l'.off+o',none⟩) 1 (cp+(if fl' then l'.slack else 0))]) (ty:=305) (outC_some he) H hs hx rfl rfl rfl rfl
   obtain ⟨u,σ',w',q1,q2,q3⟩:=hap
   refine Calls.mono (insert_end _ _ _ _ _ _ _ u w w' q3) ?_
   rintro e w2 ⟨rfl,rfl⟩
   exact ⟨u,σ',rfl,q1,q2⟩
  | false=>
   simp only [hi,cond_false] at he
   cases h1:(Nat.ble (i+1) len && fl && !Nat.beq n n' && Nat.beq o 0) with
   | false=>simp [h1] at he
   | true=>
   simp only [h1,cond_true,Option.bind_eq_some_iff] at he
   rw [Bool.and_eq_true,Bool.and_eq_true,Bool.and_eq_true,Bool.not_eq_true'] at h1
   have hil:=Nat.le_of_ble_eq_true h1.1.1.1
   have hfl:=h1.1.1.2
   subst hfl
   have hnn:n≠n':=fun e=>by subst e;simp at h1
   have ho0:o=0:=Nat.eq_of_beq_eq_true h1.2
   have hom:o % 3=0:=by rw [ho0]
   obtain ⟨⟨t,cs⟩,hc,r,hr,⟨t',cs'⟩,hc',vs,hvs,he⟩:=he
   cases h2:(Nat.beq t 132 && Nat.beq t' 132 && Nat.beq (o+cap * 3) cs.length) with
   | false=>simp [h2] at he
   | true=>
   simp only [h2,cond_true] at he
   rw [Bool.and_eq_true,Bool.and_eq_true] at h2
   have ht:=Nat.eq_of_beq_eq_true h2.1.1
   have ht':=Nat.eq_of_beq_eq_true h2.1.2
   subst ht
   have hcl:=Nat.eq_of_beq_eq_true h2.2
   have he:=outC_some he
   obtain ⟨hb,he⟩:=putObj_ok he
   obtain ⟨C,fr,us,k1,k2,k3,k4,k5,k6,k7⟩:=block_at H hc hl
   obtain ⟨D,frD,us',m1,m2,m3,m4,m5,m6,m7⟩:=block_at H hc' hl'
   obtain ⟨RS,r1,r2,r3,r4⟩:=row_in k3 k4 k5 hr
   obtain ⟨VS,v1,v2,v3,v4⟩:=row_in m3 m4 m5 hvs
   have hus:us.length=o+cap * 3:=by rw [concs_length k3];exact hcl.symm
   have hc133:Tryz.prog.cellsOf 132=3:=by kernel_rfl
   rw [hc133] at k6 k7
   have hnew:concs σ η (r.take (i * 3)++vs++r.drop (i * 3))=some (RS.take (i * 3)++VS++RS.drop (i * 3)):=concs_append (concs_append (concs_take _ r1) v1) (concs_drop _ r1)
   have hnew1:allOne (RS.take (i * 3)++VS++RS.drop (i * 3))=true:=allOne_append.2 ⟨allOne_append.2 ⟨allOne_iff.2 fun v hv=>allOne_iff.1 r2 v (List.mem_of_mem_take hv),v2⟩,allOne_iff.2 fun v hv=>allOne_iff.1 r2 v (List.mem_of_mem_drop hv)⟩
   have hnewl:(RS.take (i * 3)++VS++RS.drop (i * 3)).length=(len+1) * 3:=by simp only [List.length_append,List.length_take,List.length_drop,r3,v3];omega
   simp only [if_true]
   by_cases hroom:len+1≤cap+l.slack
   ·-- in place
    have hfe:w.frozen? ⟨l'.blk,D.size,none⟩=false:=by
     simp only [World.frozen?,m1]
     have hD:D.size<lim Tryz.prog t' D.size:=by rw [ht'];unfold lim;rw [show isU8 Tryz.prog 132=false by kernel_rfl];simp
     simpa using m2 D.size hD
    refine Calls.mono (insert_shift l.blk (l.off+o) len (cap+l.slack) i l'.blk (l'.off+o') _ C D 132 t' fr frD RS VS w k1 (fun j hj=>k2 j (Nat.lt_of_lt_of_le hj lim_le)) m1 (fun j hj=>m2 j (Nat.lt_of_lt_of_le hj lim_le)) hfe (fun e=>hnn (H.inj n n' l l' (by rw [cells?_iff.1 hc];rfl) (by rw [cells?_iff.1 hc'];rfl) hl hl' e.symm)) (by omega) hroom (by omega) (by omega) r3 r4 r2 v3 v4 v2) ?_
    rintro e w' ⟨rfl,rfl⟩
    unfold newCells fCells at he
    rw [fAVs_eq] at he
    obtain ⟨hcb,he⟩:=putObj_ok he
    rw [fNat_eq] at he
    cases he
    have hlt:l.blk<w.heap.size:=by
     rcases Nat.lt_or_ge l.blk w.heap.size with h | h
     ·exact h
     ·rw [Array.getElem?_eq_none h] at k1;cases k1
    have hd:(RS.drop (i * 3)).length=(len - i) * 3:=by rw [List.length_drop,r3];omega
    have ht:(RS.take (i * 3)).length=i * 3:=by rw [List.length_take,r3];omega
    have s1:=layL_length (L:=C.toList) (V:=RS.drop (i * 3)) (o:=l.off+o+(i+1) * 3) (by rw [hd];simp only [Array.length_toList];omega)
    have s2:=layL_length (L:=layL C.toList (l.off+o+(i+1) * 3) (RS.drop (i * 3))) (V:=VS) (o:=l.off+o+i * 3) (by rw [s1,v3];simp only [Array.length_toList];omega)
    have wt:=move_ok (P:=Tryz.prog) (l':=⟨l.blk,l.off+o,cap+l.slack - (len+1)⟩) (o:=.cells 132 (r.take (i * 3)++vs++r.drop (i * 3))) (O:=.cells ⟨layL (layL C.toList (l.off+o+(i+1) * 3) (RS.drop (i * 3))) (l.off+o+i * 3) VS⟩ 132 fr) H hb hcb hl (by rw [cells?_iff.1 hc];rfl) rfl (by rw [ho0];rfl) rfl
     ⟨⟨layL (layL C.toList (l.off+o+(i+1) * 3) (RS.drop (i * 3))) (l.off+o+i * 3) VS⟩,fr,RS.take (i * 3)++VS++RS.drop (i * 3),by simp only [Array.getElem?_setIfInBounds_self,if_pos hlt],fun j hj=>k2 j (by
       have:j<lim Tryz.prog 132 (layL (layL C.toList (l.off+o+(i+1) * 3) (RS.drop (i * 3))) (l.off+o+i * 3) VS).length:=by simpa using hj
       rw [s2,s1] at this;simpa using this),concs_ext (ext_upd (H.new c (Nat.le_refl _))) hnew,hnew1,fun j y hj=>?_,?_⟩
    ·refine ⟨_, _, rfl, conc_slice.2 ⟨_, upd_same _ _ _, ?_⟩, wt.heap rfl rfl rfl rfl⟩
     simp only [if_true]
     rw [show len+1+(cap+l.slack - (len+1))=cap+l.slack by omega]
     rfl
    ·simp only [List.getElem?_toArray]
     rw [layL_get (by rw [s1,v3];simp only [Array.length_toList];omega),layL_get (by rw [hd];simp only [Array.length_toList];omega)]
     rcases Nat.lt_or_ge j ((i+1) * 3) with q | q
     ·rw [List.getElem?_append_left (by rw [List.length_append, ht, v3]; omega)] at hj
      rcases Nat.lt_or_ge j (i * 3) with q2 | q2
      ·rw [List.getElem?_append_left (by rw [ht]; omega)] at hj
       rw [if_pos (by omega),if_pos (by omega)]
       rw [List.getElem?_take] at hj
       rw [if_pos q2] at hj
       simpa using r4 j y hj
      ·rw [List.getElem?_append_right (by rw [ht]; omega), ht] at hj
       rw [if_neg (by omega),if_pos (by omega),← hj,show l.off+o+j - (l.off+o+i * 3)=j - i * 3 by omega]
     ·have hjl:j<(RS.take (i * 3)++VS++RS.drop (i * 3)).length:=by
       rcases Nat.lt_or_ge j (RS.take (i * 3)++VS++RS.drop (i * 3)).length with h | h
       ·exact h
       ·rw [List.getElem?_eq_none h] at hj;cases hj
      rw [hnewl] at hjl
      rw [List.getElem?_append_right (by rw [List.length_append,ht,v3];omega),List.length_append,ht,v3] at hj
      rw [if_neg (by omega),if_neg (by omega),if_neg (by omega),if_pos (by rw [hd];omega),← hj,show l.off+o+j - (l.off+o+(i+1) * 3)=j - (i * 3+3) by omega]
    ·simp only [List.size_toArray]
     rw [s2,s1,hnewl,hc133]
     simp only [Array.length_toList]
     exact ⟨by omega,by rw [Nat.add_mod,k7,hom]⟩
   ·-- a new row
    refine Calls.mono (insert_grow l.blk (l.off+o) len (cap+l.slack) i l'.blk (l'.off+o') _ C D 132 t' fr frD RS VS w k1 m1 (by omega) (by omega) (by omega) (by omega) r3 r4 r2 v3 v4 v2) ?_
    rintro e w' ⟨k,A,rfl,g1,g2,g3,g4,g5,g6⟩
    have wk:=kill_ok H hb
    have:=newCells_ok (sl:=k) (w':=w') (C:=A) (fr:=(0,0)) he wk.rel hnew hnew1 g6 (by rw [hc133,hnewl];exact g5) (fun j _ q=>by omega) g1 g2 g3 g4
    obtain ⟨rfl,wt⟩:=this
    exact ⟨_,_,rfl,conc_slice.2 ⟨_,upd_same _ _ _,rfl⟩,wk.trans wt⟩
 ·cases he

end
end Go.Proofs.YthknocapablpaaaGreatDoor
