/- A part of the proof. -/
import Derived.Lib.Walk
import Derived.Sort.Walk0
import Derived.Test.YthknocapablpaaaGreatDoorAi33
namespace Go.Proofs.YthknocapablpaaaGreatDoor.Mg
/- slices.Clone of a row of cells; how rows of rows read. -/
section
set_option maxRecDepth 100000
open Go.RowKit

theorem inf36:(Tryz.prog.info? 132).map (fun i=>(i.zero,i.size,i.bytes))=some (some (.agg #[.string ⟨#[]⟩,.int .i64 0,.string ⟨#[]⟩]),3,40):=by kernel_rfl

set_option maxHeartbeats 2000000 in
theorem clone_any (w:World)(v:Value)(R:List Cel)(h:ReadsC w v R)(hl:R.length≤1000)(hne:0<R.length) :
  Calls Tryz.prog 96 #[v] w fun e w'=>∃ v',e = .returned v'∧w'.ownsRow w.heap.size 132 3 v' R.length (cellsC R)∧Kept (fun _=>False) w w':=by
 obtain ⟨i0,hi,hz0,hz1,hz2⟩:=info_parts inf36
 obtain ⟨ao,cap,rfl,h⟩:=h
 rcases h with h0 | ⟨g,o,rfl,hc⟩
 ·rw [h0] at hne;simp at hne
 have q25:∀ (w:World) (a:Option Addr) (n c n' c':Nat),(binOp .eql 65 (.slice a n c) (.slice none n' c')).run Tryz.prog w = .ok (.bool a.isNone) w:=fun w a n c n' c'=>Lib.run_eql_slice_nil w _ _ a n c n' c' Tryz.underlying65
 have HC:=Lib.hid hc;clear hc
 go_enter Tryz.func96,Tryz.ntmps96
 go_wp2_with (at_builtin;refine wpList_append_own _ rfl _ _ 65 rfl w.heap.size 132 i0 _ 3 40 Tryz.underlying65 hi hz0 hz1 hz2 rfl (by decide) _ _ _ rfl (World.ownsRow_made w #[] 0 (Nat.le_refl _) (Nat.zero_le _) rfl) ⟨g,o,none⟩ R.length cap (cellsC R) rfl ?qc1 ?qc2 ?qc3 ?qc4 ?qc5 ?qc6 ?_)
 case qc1=>exact cellsC_length R
 case qc2=>
  intro j u hj
  rw [add_mid]
  have:=HC.out j u hj
  exact (Below.cell ((Below.refl _ w).alloc (Nat.le_refl _) _) (World.block_lt_of_cell? _ _ this)).trans this
 case qc3=>exact cellsC_one R
 case qc4=>unfold maxLen;omega
 case qc5=>omega
 case qc6=>simp
 intro v' w1 hown hgrow hnil
 have HO:=Lib.hid hown;have HG:=Lib.hid hgrow;clear hown hgrow hnil
 go_wp2
 go_ret
 refine ⟨v',rfl,by simpa using HO.out,((Kept.refl (fun _=>False) w).alloc _).grown HG.out (fun k hk hlt=>?_)⟩
 simp [Value.ownBlock] at hk;omega

/-- Rows of cells, as they lie. -/
def ReadsR (w:World)(v:Value)(L:List (List Cel)):Prop:=
 ∃ ao cap,v = .slice ao L.length cap∧(L=[]∨∃ g o,ao=some ⟨g,o,none⟩∧∀ k R,L[k]? = some R→∃ u,w.cell? ⟨g,o+k,none⟩=some u∧ReadsC w u R)
theorem ReadsC.keptF {w w':World}{v:Value}{L:List Cel}(h:ReadsC w v L)(hK:Kept (fun _=>False) w w'):ReadsC w' v L:=h.kept hK (fun _ _ f=>f)
theorem ReadsR.keptF {w w':World}{v:Value}{L:List (List Cel)}(h:ReadsR w v L)(hK:Kept (fun _=>False) w w'):ReadsR w' v L:=by
 obtain ⟨ao,cap,rfl,h⟩:=h
 refine ⟨ao,cap,rfl,?_⟩
 rcases h with h | ⟨g,o,rfl,hc⟩
 ·exact .inl h
 ·refine .inr ⟨g, o, rfl, fun k R hk => ?_⟩
  obtain ⟨u,h1,h2⟩:=hc k R hk
  exact ⟨u,hK.cell h1 (fun f=>f),h2.keptF hK⟩
end
/- The order of cells, and of rows by their first cells: plain laws. -/
section
set_option maxRecDepth 100000
open Go.RowKit

structure IsCmp {α:Type} (c:α→α→Int):Prop where
 anti:∀ a b,c a b<0 ↔ 0<c b a
 tr:∀ a b d,c a b≤0→c b d≤0→c a d≤0

theorem IsCmp.zero {α:Type}{c:α→α→Int}(h:IsCmp c)(a b:α):c a b=0 ↔ c b a=0:=by
 have h1:=h.anti a b
 have h2:=h.anti b a
 constructor <;> intro e <;> omega
theorem IsCmp.le {α:Type}{c:α→α→Int}(h:IsCmp c)(a b:α):c a b≤0 ↔ 0≤c b a:=by
 have h2:=h.anti b a
 omega
theorem IsCmp.lt_le {α:Type}{c:α→α→Int}(h:IsCmp c){a b d:α}(h1:c a b<0)(h2:c b d≤0):c a d<0:=by
 have h3:=h.tr a b d (by omega) h2
 by_cases e:c a d=0
 ·have e2 := (h.zero a d).1 e
  have h4:=h.tr b d a h2 (by omega)
  have h5:=(h.anti a b).1 h1
  omega
 ·omega
theorem IsCmp.le_lt {α:Type}{c:α→α→Int}(h:IsCmp c){a b d:α}(h1:c a b≤0)(h2:c b d<0):c a d<0:=by
 have h3:=h.tr a b d h1 (by omega)
 by_cases e:c a d=0
 ·have e2 := (h.zero a d).1 e
  have h4:=h.tr d a b (by omega) h1
  have h5:=(h.anti b d).1 h2
  omega
 ·omega
theorem IsCmp.or {α:Type}{c d:α→α→Int}(h:IsCmp c)(k:IsCmp d):IsCmp (fun a b=>or2 (c a b) (d a b)):=by
 refine ⟨fun a b=>?_,fun a b e=>?_⟩
 ·have h1 := h.anti a b; have h2 := h.anti b a; have h3 := h.zero a b; have h4 := k.anti a b
  simp only [or2]
  split <;> split <;> omega
 ·intro h1 h2
  simp only [or2] at *
  by_cases e1:c a b=0
  ·rw [if_pos e1] at h1
   by_cases e2:c b e=0
   ·rw [if_pos e2] at h2
    have e3:c a e=0:=by
     have q1:=h.tr a b e (by omega) (by omega)
     have q2:=h.tr e b a (by have:=(h.zero b e).1 e2;omega) (by have:=(h.zero a b).1 e1;omega)
     have q3:=(h.le e a).1 q2
     omega
    rw [if_pos e3];exact k.tr _ _ _ h1 h2
   ·rw [if_neg e2] at h2
    have:=h.le_lt (a:=a) (b:=b) (d:=e) (by omega) (by omega)
    rw [if_neg (by omega)];omega
  ·rw [if_neg e1] at h1
   by_cases e2:c b e=0
   ·have := h.lt_le (a := a) (b := b) (d := e) (by omega) (by omega)
    rw [if_neg (by omega)];omega
   ·rw [if_neg e2] at h2
    have:=h.lt_le (a:=a) (b:=b) (d:=e) (by omega) (by omega)
    rw [if_neg (by omega)];omega

theorem cmpI_is:IsCmp cmpI:=by
 refine ⟨fun a b=>?_,fun a b d=>?_⟩
 ·simp only [cmpI]; repeat' split
  all_goals omega
 ·simp only [cmpI]; repeat' split
  all_goals omega
theorem cmpI_zero (a b:Int):cmpI a b=0 ↔ a=b:=by
 simp only [cmpI];repeat' split
 all_goals omega

theorem sLt_iff (x y:ByteArray):sLt x y=true ↔ x.toList<y.toList:=by
 unfold sLt;rw [bytesLess_eq];simp
theorem sEq_iff (x y:ByteArray):sEq x y=true ↔ x.toList=y.toList:=by unfold sEq;simp
theorem cmpS_lt (x y:ByteArray):cmpS x y<0 ↔ x.toList<y.toList:=by
 rw [← sLt_iff];unfold cmpS
 cases h:sLt x y
 ·cases sEq x y <;> simp
 ·simp
theorem cmpS_zero (x y:ByteArray):cmpS x y=0 ↔ x=y:=by
 unfold cmpS
 cases h:sLt x y with
 | true=>
  simp
  rintro rfl
  have:=(sLt_iff x x).1 h
  exact absurd this (List.lt_irrefl _)
 | false=>
  cases h2:sEq x y with
  | true=>simp;exact bytes_eq ((sEq_iff x y).1 h2)
  | false=>
   simp
   rintro rfl
   rw [(sEq_iff x x).2 rfl] at h2;cases h2
theorem cmpS_gt (x y:ByteArray):0<cmpS x y ↔ y.toList<x.toList:=by
 have h1:=cmpS_lt x y
 have h0:=cmpS_zero x y
 have h3:cmpS x y = -1∨cmpS x y=0∨cmpS x y=1:=by
  unfold cmpS;split
  ·exact .inl rfl
  ·split
   ·exact .inr (.inl rfl)
   ·exact .inr (.inr rfl)
 constructor
 ·intro h
  have n1:¬ x.toList<y.toList:=fun f=>by have:=h1.2 f;omega
  have n2:¬ x.toList=y.toList:=fun f=>by have:=h0.2 (bytes_eq f);omega
  have n3:y.toList≤x.toList:=List.not_lt.1 n1
  rcases List.le_iff_lt_or_eq.1 n3 with f | f
  ·exact f
  ·exact absurd f.symm n2
 ·intro h
  rcases h3 with e | e | e
  ·have := h1.1 (by omega)
   exact absurd this (List.lt_asymm h)
  ·have := h0.1 e
   subst this;exact absurd h (List.lt_irrefl _)
  ·omega
theorem cmpS_is:IsCmp cmpS:=by
 refine ⟨fun a b=>by rw [cmpS_lt,cmpS_gt],fun a b d h1 h2=>?_⟩
 have n1:¬ b.toList<a.toList:=fun f=>by have:=(cmpS_gt a b).2 f;omega
 have n2:¬ d.toList<b.toList:=fun f=>by have:=(cmpS_gt b d).2 f;omega
 have n3:a.toList≤d.toList:=List.le_trans (List.not_lt.1 n1) (List.not_lt.1 n2)
 have n4:¬ 0<cmpS a d:=fun f=>absurd ((cmpS_gt a d).1 f) (List.not_lt.2 n3)
 omega
theorem IsCmp.on {α β:Type}{c:β→β→Int}(h:IsCmp c)(f:α→β):IsCmp (fun a b=>c (f a) (f b)):=⟨fun _ _=>h.anti _ _,fun _ _ _=>h.tr _ _ _⟩
theorem IsCmp.flip {α:Type}{c:α→α→Int}(h:IsCmp c):IsCmp (fun a b=>c b a):=⟨fun _ _=>h.anti _ _,fun _ _ _ h1 h2=>h.tr _ _ _ h2 h1⟩
theorem cmpC_is:IsCmp cmpC:=((cmpS_is.on Cel.k).or ((cmpI_is.on Cel.s).flip))
theorem cmpC_zero (a b:Cel):cmpC a b=0 ↔ a.k=b.k∧a.s=b.s:=by
 unfold cmpC or2
 have h1:=cmpS_zero a.k b.k
 have h2:=cmpI_zero b.s a.s
 split
 ·rename_i h; rw [h2]; constructor
  ·intro e;exact ⟨h1.1 h,e.symm⟩
  ·intro e;exact e.2.symm
 ·rename_i h; constructor
  ·intro e;exact absurd e h
  ·intro e;exact absurd (h1.2 e.1) h
/-- Rows by their first cells, then by their places. -/
def cmpR (a b:Rw):Int:=or2 (cmpC (nth a.xs 0) (nth b.xs 0)) (cmpI a.place b.place)
theorem cmpR_is:IsCmp cmpR:=(cmpC_is.on (fun r:Rw=>nth r.xs 0)).or (cmpI_is.on (fun r:Rw=>(r.place:Int)))
theorem ltR_iff (a b:Rw):ltR a b=true ↔ cmpR a b<0:=by unfold ltR cmpR;simp
theorem ltR_false (a b:Rw):ltR a b=false ↔ 0≤cmpR a b:=by
 rw [← Bool.not_eq_true,ltR_iff];omega
theorem ltR_ord:Ordr ltR:=by
 refine ⟨fun a b h=>?_,fun a b d h1 h2=>?_⟩
 ·rw [ltR_iff] at h;rw [ltR_false];have:=(cmpR_is.anti a b).1 h;omega
 ·rw [ltR_false] at *
  have q1:=(cmpR_is.le a b).2 h1
  have q2:=(cmpR_is.le b d).2 h2
  have:=cmpR_is.tr a b d q1 q2
  exact (cmpR_is.le a d).1 this
end
/- merges.New: the rows that have cells, as a heap. -/
section
set_option maxRecDepth 100000
open Go.RowKit

/-- The rows that have cells left, with their places. -/
def aliveF:Nat→List (List Cel)→List (Nat × List Cel)
 | _,[]=>[]
 | k,x::t=>if x.length=0 then aliveF (k+1) t else (k,x)::aliveF (k+1) t
theorem aliveF_append:∀ (k:Nat)(a:List (List Cel))(x:List Cel),aliveF k (a++[x])=aliveF k a++(if x.length=0 then [] else [(k+a.length,x)])
 | k,[],x=>by simp [aliveF]
 | k,y::t,x=>by
  simp only [List.cons_append,aliveF,aliveF_append (k+1) t x]
  split <;> simp [Nat.add_comm,Nat.add_left_comm]
theorem aliveF_length:∀ (k:Nat)(a:List (List Cel)),(aliveF k a).length≤a.length
 | _,[]=>Nat.le_refl _
 | k,y::t=>by
  simp only [aliveF]
  have:=aliveF_length (k+1) t
  split <;> simp <;> omega

def Rw.key (r:Rw):Nat × List Cel:=(r.place,r.xs)

/-- An iterator that stands at block p. -/
structure ItAt (w:World) (base p:Nat) (v:Value) (l:List Rw):Prop where
 heap:HeapAt w base p v l
 hp:Heap ltR l.length l
 above:base≤p∧∀ r∈l,base≤r.blk
theorem ItAt.kept {w w':World}{base p:Nat}{v:Value}{l:List Rw}(h:ItAt w base p v l)(hK:Kept (fun _=>False) w w'):ItAt w' base p v l:=⟨h.heap.kept hK,h.hp,h.above⟩
theorem ItAt.mine {w:World}{base p:Nat}{v:Value}{l:List Rw}(h:ItAt w base p v l):∀ b,mine p v b→base≤b:=by
 rintro b (rfl | e)
 ·exact h.above.1
 ·exact (h.heap.own.lt b e).1

theorem nil_heap:Heap ltR ([]:List Rw).length []:=by intro k _ h;simp at h
theorem own_some {w:World}{base:Nat}{v:Value}{R:List Cel}(h:w.ownsRow base 132 3 v R.length (cellsC R))(hne:0<R.length) :
  ∃ b cap,v = .slice (some ⟨b,0,none⟩) R.length cap∧R.length≤cap∧base≤b∧b<w.heap.size∧∀ j u,(cellsC R)[j]? = some u→w.cell? ⟨b,j,none⟩=some u:=by
 rcases row_form h with ⟨_,h0⟩ | ⟨g,cap,rfl,h1,h2,h3,h4⟩
 ·omega
 ·exact ⟨g,cap,rfl,h1,h2,h3,h4⟩

set_option maxHeartbeats 4000000 in
theorem new_any (w:World)(v0:Value)(L:List (List Cel))(h:ReadsR w v0 L)(hL:L.length≤50)(hl:∀ R∈L,R.length≤1000) :
  Calls Tryz.prog 214 #[v0] w fun e w'=>Kept (fun _=>False) w w' ∧
   ((L.all sortedB = false ∧ e = .returned (.tuple #[.pointer none, .int .i64 2])) ∨
    (L.all sortedB=true∧∃ p v l,e = .returned (.tuple #[.pointer (some ⟨p,0,none⟩),.int .i64 0])∧ItAt w' w.heap.size p v l∧(l.map Rw.key).Perm (aliveF 0 L))):=by
 obtain ⟨ao,cap,rfl,h⟩:=h
 have HR:=Lib.hid h;have HL:=Lib.hid hl;clear h hl
 go_enter Tryz.func214,Tryz.ntmps214
 go_wp2
 go_loopg [11] L.length (fun g t wr=>∃ k:Nat,k+g=L.length∧t = .int .i64 k∧Kept (fun b=>w.heap.size≤b) w wr∧(L.take k).all sortedB=true∧∃ v l,ItAt wr w.heap.size w.heap.size v l∧(l.map Rw.key).Perm (aliveF 0 (L.take k)))
 case atStart=>
  refine ⟨0,by omega,rfl,((Kept.refl _ w).alloc _),by simp,.slice none 0 0,[],⟨⟨by simp [go_sem],by simp [go_sem],World.ownsRow_nil _ _ _ _,by simp,by simp [Value.ownBlock],by simp,by simp⟩,nil_heap,Nat.le_refl _,by simp⟩,by simp [aliveF]⟩
 case round=>
  obtain ⟨k,hk,rfl,KW,hall,v,l,hit,hperm⟩:=hrel
  have hk1:k≤L.length:=by omega
  have J:=Lib.hid hk;have KW0:=Lib.hid KW;have AL:=Lib.hid hall;have IT:=Lib.hid hit;have PE:=Lib.hid hperm
  have KF:=Lib.hid (KW.mono (T:=fun _=>False) (fun k hk h=>by omega))
  clear hk KW hall hit hperm
  by_cases hlt:k<L.length
  ·rcases HR.out with h0 | ⟨g, o, rfl, hc⟩
   ·rw [h0] at hlt;simp at hlt
   obtain ⟨R,hR⟩:∃ R,L[k]? = some R:=⟨_,List.getElem?_eq_getElem hlt⟩
   obtain ⟨u,hu,hru⟩:=hc k R hR
   have hu2:=KF.out.cell hu (fun f=>f)
   have hrl:=HL.out R (List.mem_of_getElem? hR)
   have RU:=Lib.hid (hru.keptF KF.out);have RG:=Lib.hid hR;have RL:=Lib.hid hrl
   have htk:L.take (k+1)=L.take k++[R]:=by rw [List.take_add_one,hR];rfl
   have TK:=Lib.hid htk
   clear hc hu hru hR hrl htk
   have i1:(0:Int)≤(k:Int):=by omega
   have i2:(k:Int)<(L.length:Int):=by omega
   cases hs:sortedB R with
   | false=>
    go_wp2_with (go_at_call 298;refine (sorted_any _ u R (RU.out) (RL.out)).mono ?_;rw [hs];rintro e w4 ⟨rfl,K4⟩;(have KK4:=Lib.hid K4);clear K4)
    refine bodyPost_ret (v:=_) (by simp [results,Tryz.results214,go_sem];try rfl) rfl ?_
    refine ⟨KF.out.trans KK4.out (fun _ _ h=>h) (fun _ _ h=>h),.inl ⟨?_,rfl⟩⟩
    cases ha:L.all sortedB with
    | false=>rfl
    | true=>
     have:=List.all_eq_true.1 ha R (List.mem_of_getElem? RG.out)
     rw [hs] at this;cases this
   | true=>
    have hall1:(L.take (k+1)).all sortedB=true:=by rw [TK.out,List.all_append,AL.out];simp [hs]
    have AL1:=Lib.hid hall1;have HS:=Lib.hid hs;clear hall1 hs
    obtain ⟨ao2,cap2,rfl,hru⟩:=RU.out
    by_cases hpos:0<R.length
    ·have hp1 : (0 : Int) < (R.length : Int) := by omega
     have PO:=Lib.hid hpos;clear hru
     go_upto_region 8 with (go_at_call 298;refine (sorted_any _ (Value.slice ao2 R.length cap2) R (RU.out) (RL.out)).mono ?_;rw [HS.out];rintro e w4 ⟨rfl,K4⟩;(have KK0:=Lib.hid K4);clear K4)
     refine wp_region_held_drew (S:=(fun _=>True)) (by kernel_rfl) ?_ (fun hHeld=>?_)
     ·trivial
     refine tW 0 opAt0 hHeld ?_
     try simp only [Act.put,z2,List.set]
     refine tW 1 opAt1 hHeld ?_
     try simp only [Act.put,z2,List.set]
     refine tW 2 opAt2 hHeld ?_
     try simp only [Act.put,z2,List.set]
     refine tW 3 opAt3 hHeld ?_
     try simp only [Act.put,z2,List.set]
     refine tW 4 opAt4 hHeld ?_
     try simp only [Act.put,z2,List.set]
     refine tW 6 opAt6 hHeld ?_
     try simp only [Act.put,z2,List.set]
     refine wpAnyH_ready (rs:=[5]) (by kernel_rfl) (by simp) ?_
     refine AllReadyH.cons opAt5 (fun K hK=>?_) AllReadyH.nil
     go_simp
     go_at_call 96;refine (clone_any _ (Value.slice ao2 R.length cap2) R (RU.out.keptF KK0.out.drew) (RL.out) (PO.out)).mono ?_;rintro e w6 ⟨v4,rfl,o4,K4⟩;obtain ⟨b4,cap4,rfl,fit4,ge4,lt4,c4⟩:=own_some o4 PO.out;have O4:=Lib.hid o4;have KK4:=Lib.hid ((KK0.out.drew).trans K4 (fun _ _ h=>h) (fun _ _ h=>h));have g4:wr.heap.size≤b4:=Nat.le_trans KK0.out.size ge4;have C4:=Lib.hid c4;clear o4 K4 c4;dsimp only
     refine hK.out _ _ ?_ (fun hHeld=>?_)
     ·trivial
     clear hK K
     try simp only [Act.put,z2,List.set]
     refine tW 7 opAt7 hHeld ?_
     try simp only [Act.put,z2,List.set]
     refine tW 8 opAt8 hHeld ?_
     try simp only [Act.put,z2,List.set]
     refine wpAnyH_ready (rs:=[9]) (by kernel_rfl) (by simp) ?_
     refine AllReadyH.cons opAt9 (fun K hK=>?_) AllReadyH.nil
     go_simp
     go_at_call 299;refine (heap_push (r:=⟨b4,0,cap4,R,k⟩) ((IT.out.heap.kept KK4.out)) ⟨PO.out,RL.out,fit4,by show k≤1000;omega,fun j u hu=>by rw [Nat.zero_add];exact C4.out j u hu⟩ (fun e=>by have h1:b4=w.heap.size:=e;have:=KW0.out.size;have h2:=IT.out.heap.cell;have:=World.block_lt_of_cell? _ _ h2;simp only at this;omega) (fun e=>by have:=(IT.out.heap.own.lt b4 e).2;omega) (by have h1:=PE.out.length_eq;rw [List.length_map] at h1;have h2:=aliveF_length 0 (L.take k);rw [List.length_take] at h2;omega) (by have:=KW0.out.size;have:=KK4.out.size;omega)).mono ?_;rintro e w5 ⟨rfl,v5,h5,k5,a5⟩;have H5:=Lib.hid h5;have K5:=Lib.hid k5;clear h5 k5 a5;dsimp only
     refine hK.out _ _ ?_ (fun hHeld=>?_)
     ·trivial
     clear hK K
     try simp only [Act.put,z2,List.set]
     refine wpAnyH_done (by kernel_rfl) ?_ _
     go_wp2
     go_roundg (gk - 1)
     case measure=>have:=J.out;omega
     case rel=>
      refine ⟨k+1,by have:=J.out;omega,by go_num,(KW0.out.trans KK4.out (fun _ _ h=>h) (fun _ _ f=>f.elim)).trans K5.out (fun _ _ h=>h) (fun b _ hb=>(IT.out.kept KK4.out).mine b hb),AL1.out,v5,_,⟨H5.out,push_heap ltR ltR_ord _ IT.out.hp,Nat.le_refl _,fun r hr=>?_⟩,?_⟩
      ·rcases List.mem_cons.1 ((push_perm ltR l _).mem_iff.1 hr) with rfl | hr
       ·show w.heap.size≤b4;have:=KW0.out.size;omega
       ·exact IT.out.above.2 r hr
      ·rw [TK.out, aliveF_append, if_neg (by omega)]
       have q1:=(push_perm ltR l (⟨b4,0,cap4,R,k⟩:Rw)).map Rw.key
       refine q1.trans ?_
       have e1:0+(L.take k).length=k:=by rw [List.length_take];omega
       rw [e1]
       exact ((PE.out.cons (k,R)).trans (List.perm_append_singleton _ _).symm)
    ·have hp1 : ¬ (0 : Int) < (R.length : Int) := by omega
     have hp0:R.length=0:=by omega
     have P0:=Lib.hid hp0;clear hp0 hpos hru
     go_wp2_with (go_at_call 298;refine (sorted_any _ (Value.slice ao2 R.length cap2) R (RU.out) (RL.out)).mono ?_;rw [HS.out];rintro e w4 ⟨rfl,K4⟩;(have KK4:=Lib.hid K4);clear K4)
     go_roundg (gk - 1)
     case measure=>have:=J.out;omega
     case rel=>exact ⟨k+1,by have:=J.out;omega,by go_num,KW0.out.trans KK4.out (fun _ _ h=>h) (fun _ _ f=>f.elim),AL1.out,v,l,IT.out.kept KK4.out,by rw [TK.out,aliveF_append,if_pos P0.out,List.append_nil];exact PE.out⟩
  ·have hk2 : k = L.length := by omega
   have e0:¬ (k:Int)<(L.length:Int):=by omega
   have K2:=Lib.hid hk2;clear hk2
   go_wp2
   refine bodyPost_ret (v:=_) (by simp [results,Tryz.results214,go_sem];try rfl) rfl ?_
   refine ⟨KF.out,.inr ⟨?_,_,rfl,v,l,IT.out,?_⟩⟩
   ·have:=AL.out;rw [K2.out,List.take_length] at this;first | exact this | exact List.all_eq_true.1 this
   ·have:=PE.out;rwa [K2.out,List.take_length] at this
end
/- merges.Iter.Next: the cell that comes first. -/
section
set_option maxRecDepth 100000
open Go.RowKit

/-- A row behind its first cell. -/
def Rw.tl (r:Rw):Rw:=⟨r.blk,r.off+3,r.cap - 1,r.xs.tail,r.place⟩
/-- The heap behind a cell that has come. -/
def nextL (l:List Rw):List Rw:=if 1<(nth l 0).xs.length then pushL ltR (popL ltR l) (nth l 0).tl else popL ltR l

theorem slice_one (g o len cap:Nat)(h1:0<len)(h2:len≤cap):∃ X:Addr,(1<len→X=⟨g,o+3,none⟩) ∧
  ∀ w,(Instr.slice 65 (.slice (some ⟨g,o,none⟩) len cap) (some (.int .i64 1)) none none).run Tryz.prog w = .ok (.slice (some X) (len - 1) (cap - 1)) w:=by
 have i2:(1:Int)≤(len:Int):=by omega
 have i3:(len:Int)≤(cap:Int):=by omega
 by_cases hc:cap=1
 ·have hl : len = 1 := by omega
  subst hl;subst hc
  exact ⟨⟨g,o,none⟩,fun h=>by omega,fun w=>by simp [go_sem]⟩
 ·exact ⟨⟨g,o+3,none⟩,fun _=>rfl,fun w=>by simp [go_sem,hc,i2]⟩

theorem GoodR.tail {w:World}{r:Rw}(h:GoodR w r)(h1:1<r.xs.length):GoodR w r.tl:=by
 obtain ⟨c,t,ht⟩:∃ c t,r.xs=c::t:=by
  cases hx:r.xs with
  | nil=>rw [hx] at h1;simp at h1
  | cons c t=>exact ⟨c,t,rfl⟩
 refine ⟨?_,?_,?_,h.pl,fun j u hu=>?_⟩
 ·show 0<r.xs.tail.length;rw [List.length_tail];omega
 ·show r.xs.tail.length≤1000;have:=h.len;rw [List.length_tail];omega
 ·show r.xs.tail.length≤r.cap - 1;have:=h.fit;rw [List.length_tail];omega
 ·have h2:=h.at_ (3+j) u (by
   have e:r.tl.xs=t:=by show r.xs.tail=t;rw [ht];rfl
   rw [e] at hu
   rw [ht]
   show (Value.string c.k :: .int .i64 c.s :: .string c.v::cellsC t)[3+j]? = some u
   rw [show 3+j=j+1+1+1 by omega]
   simpa using hu)
  show w.cell? ⟨r.blk,r.off+3+j,none⟩=some u
  rw [show r.off+3+j=r.off+(3+j) by omega];exact h2

set_option maxHeartbeats 2000000 in
theorem next_none {w:World}{base p:Nat}{v:Value}{l:List Rw}(h:HeapAt w base p v l)(hl:l.length=0) :
  Calls Tryz.prog 301 #[.pointer (some ⟨p,0,none⟩)] w fun e w'=>e = .returned (.tuple #[.agg #[.string ⟨#[]⟩,.int .i64 0,.string ⟨#[]⟩],.bool false])∧Kept (fun _=>False) w w':=by
 have hc:=h.cell
 have hlt:=World.block_lt_of_cell? _ _ hc
 simp only at hlt
 obtain ⟨ao,cap,rfl⟩:=h.slice
 have h0:((l.length:Nat):Int)=0:=by rw [hl];rfl
 rw [hl] at hc
 clear h hl h0
 go_enter Tryz.func301,Tryz.ntmps301
 go_wp2
 refine bodyPost_ret (v:=_) (by simp [results,Tryz.results301,go_sem];try rfl) rfl ?_
 refine ⟨rfl,?_⟩
 repeat (first | exact Kept.refl _ _ | apply Kept.alloc | apply Kept.drew | (refine Kept.setAt (fun hh=>absurd hh (by simp)) ?_))

theorem HeapAt.keptS {S:Nat→Prop}{w w':World}{base p:Nat}{v:Value}{l:List Rw}(h:HeapAt w base p v l)(hK:Kept S w w')(hp:¬ S p)(hv:∀ b,v.ownBlock=some b→¬ S b)(hr:∀ r∈l,¬ S r.blk):HeapAt w' base p v l:=by
 refine ⟨hK.cell h.cell hp,hK.frozen h.fz (World.block_lt_of_cell? _ _ h.cell) hp,?_,fun r hm=>(h.good r hm).kept hK (hr r hm),h.np,h.nr,h.few⟩
 obtain ⟨h1,h2⟩:=h.own
 refine ⟨h1,?_⟩
 rcases h2 with h2 | ⟨g,cap,cur,rfl,hb,hg,rest⟩
 ·exact .inl h2
 ·exact .inr ⟨g,cap,cur,rfl,hb,(hK.block g (Array.getElem?_eq_some_iff.1 hg).1 (hv g rfl)).trans hg,rest⟩

set_option maxHeartbeats 4000000 in
theorem next_some {w:World}{base p:Nat}{v:Value}{l:List Rw}(h:ItAt w base p v l)(hl:0<l.length)(hb:base≤w.heap.size) :
  Calls Tryz.prog 301 #[.pointer (some ⟨p,0,none⟩)] w fun e w'=>e = .returned (.tuple #[.agg #[.string (nth (nth l 0).xs 0).k,.int .i64 (nth (nth l 0).xs 0).s,.string (nth (nth l 0).xs 0).v],.bool true]) ∧
   ∃ v',ItAt w' base p v' (nextL l)∧Kept (mine p v) w w'∧(v'.ownBlock=v.ownBlock∨∀ b,v'.ownBlock=some b→w.heap.size≤b):=by
 have hc:=h.heap.cell
 have hlt:=World.block_lt_of_cell? _ _ hc
 simp only at hlt
 obtain ⟨ao,cap,rfl⟩:=h.heap.slice
 have hne:¬ (l.length=0):=by omega
 have hne2:¬ ((l.length:Nat):Int)=0:=by omega
 have hl0:l≠[]:=fun e=>by rw [e] at hl;simp at hl
 obtain ⟨r,hr⟩:∃ r,nth l 0=r:=⟨_,rfl⟩
 have hrg:=h.heap.good r (hr ▸ nth_mem hl)
 have hrn:=h.heap.nr r (hr ▸ nth_mem hl)
 have hab:=h.above.2 r (hr ▸ nth_mem hl)
 have hta:=assert58
 have HP:=Lib.hid (pop_heap ltR ltR_ord hl0 h.hp)
 have PP:=Lib.hid (pop_perm ltR hl0)
 have H:=Lib.hid h;have R:=Lib.hid hr;have RG:=Lib.hid hrg;have RN:=Lib.hid hrn;have RA:=Lib.hid hab;have NE:=Lib.hid hl0
 clear h hrg hrn hab hl0
 rw [hr]
 clear hr
 obtain ⟨c,hc0⟩:∃ c,nth r.xs 0=c:=⟨_,rfl⟩
 rw [hc0]
 have HC:=Lib.hid hc0;clear hc0
 go_enter Tryz.func301,Tryz.ntmps301
 go_wp2_with fail
 refine (heap_pop (H.out.heap.kept ((Kept.refl (fun _=>False) w).alloc _)) hl).mono ?_
 rw [R.out]
 rintro e w1 ⟨rfl,v1,h1,k1,a1⟩
 have hn2:¬ mine p (.slice ao l.length cap) w.heap.size:=by
  rintro (e | e)
  ·omega
  ·have:=(H.out.heap.own.lt _ e).2;omega
 obtain ⟨f0,f1,f2,ff,fl⟩:=k1.fresh3 hn2
 have kw1:Kept (mine p (.slice ao l.length cap)) w w1:=((Kept.refl (fun _=>False) w).alloc _).trans k1 (fun _ _ f=>f.elim) (fun _ _ h=>h)
 have hmr:¬ mine p (.slice ao l.length cap) r.blk:=by
  rintro (e | e)
  ·exact RN.out.1 e
  ·exact RN.out.2 e
 have g1:=RG.out.kept kw1 hmr
 obtain ⟨c0,c1,c2⟩:=g1.hd
 have hrl:=World.block_lt_of_cell? _ _ c0
 simp only at hrl
 obtain ⟨m,hm⟩:∃ m,r.xs.length - 1=m:=⟨_,rfl⟩
 obtain ⟨X,hX,hsl⟩:=slice_one r.blk r.off r.xs.length r.cap g1.ne g1.fit
 rw [hm] at hsl
 have j1:(0:Int)<(r.xs.length:Int):=by have:=g1.ne;omega
 rw [HC.out] at c0 c1 c2
 obtain ⟨fz0,fz1,fz2⟩:w1.frozen? ⟨w.heap.size,0,none⟩=false∧w1.frozen? ⟨w.heap.size,1,none⟩=false∧w1.frozen? ⟨w.heap.size,2,none⟩=false:=⟨ff 0,ff 1,ff 2⟩
 have H1:=Lib.hid h1;have K1:=Lib.hid kw1;have A1:=Lib.hid a1;have G1:=Lib.hid g1;have M:=Lib.hid hm;have XX:=Lib.hid hX
 have NM:=Lib.hid hn2
 clear h1 k1 kw1 a1 g1 hm hX hn2 hmr ff hc
 have xne:w.heap.size≠w1.heap.size:=by omega
 by_cases hm0:m=0
 ·have e0 : ¬ (0 : Int) < (m : Int) := by omega
  have M0:=Lib.hid hm0;clear hm0
  go_wp2
  refine bodyPost_ret (v:=_) (by simp [results,Tryz.results301,go_sem,f0,f1,f2,fl,Nat.lt_succ_of_lt fl];try rfl) rfl ?_
  refine ⟨rfl,v1,?_,?_,.inl A1.out⟩
  ·have kF:Kept (fun b=>w.heap.size=b) w1 (((((w1.setCell ⟨w.heap.size,0,none⟩ (.string c.k)).setCell ⟨w.heap.size,1,none⟩ (.int .i64 c.s)).setCell ⟨w.heap.size,2,none⟩ (.string c.v)).alloc (.cells #[.slice (some X) m (r.cap - 1),.int .i64 r.place] 396)).alloc (.cells #[.string c.k,.int .i64 c.s,.string c.v] 132)):=
    Kept.alloc (Kept.alloc (Kept.setAt (fun _=>rfl) (Kept.setAt (fun _=>rfl) (Kept.setAt (fun _=>rfl) (Kept.refl _ w1)))) _) _
   have e:nextL l=popL ltR l:=by unfold nextL;rw [R.out,if_neg (by have:=M.out;have:=M0.out;omega)]
   rw [e]
   exact ⟨H1.out.keptS kF (by omega) (fun b hb e=>by rw [A1.out] at hb;have:=(H.out.heap.own.lt _ hb).2;omega) (fun x hx e=>by
     have hx2:x∈l:=PP.out.mem_iff.1 (List.mem_cons_of_mem _ hx)
     have:=World.block_lt_of_cell? _ _ (H.out.heap.good x hx2).hd.1
     simp only at this;omega),HP.out,H.out.above.1,fun x hx=>H.out.above.2 x (PP.out.mem_iff.1 (List.mem_cons_of_mem _ hx))⟩
  ·exact K1.out.trans (S':=fun b=>w.heap.size=b) (Kept.alloc (Kept.alloc (Kept.setAt (fun _=>rfl) (Kept.setAt (fun _=>rfl) (Kept.setAt (fun _=>rfl) (Kept.refl _ w1)))) _) _) (fun _ _ h=>h) (fun i hi e=>by omega)
 ·have e0 : (0 : Int) < (m : Int) := by omega
  have hX1:=XX.out (by have:=M.out;omega)
  subst hX1
  have M0:=Lib.hid hm0;clear hm0
  have htl:r.tl.xs.length=m:=by show r.xs.tail.length=m;rw [List.length_tail];exact M.out
  have TL:=Lib.hid htl;clear htl
  have NM1:¬ mine p v1 w.heap.size:=fun e=>NM.out (e.imp id (fun h=>by rw [← A1.out];exact h))
  have NM5:¬ mine p v1 (w1.heap.size+1):=by
   rintro (e | e)
   ·omega
   ·have:=(H1.out.own.lt _ e).2;omega
  have HN1:=Lib.hid NM1;have HN5:=Lib.hid NM5;clear NM1 NM5
  go_upto_region 7 with fail
  refine wp_region_held_drew (S:=(fun w'=>w'.cell? ⟨w1.heap.size,0,none⟩=some (.slice (some ⟨r.blk,r.off+3,none⟩) m (r.cap - 1))∧w'.cell? ⟨w1.heap.size,1,none⟩=some (.int .i64 r.place))) (by kernel_rfl) ?_ (fun hHeld=>?_)
  ·first | go_keep | (go_split_ands;(simp [go_sem, *];done))
  refine tW 0 opAt0 hHeld ?_
  try simp only [Act.put,z2,List.set]
  refine tW 1 opAt1 hHeld ?_
  try simp only [Act.put,z2,List.set]
  refine tW 2 opAt2 hHeld ?_
  try simp only [Act.put,z2,List.set]
  refine tW 3 opAt3 hHeld ?_
  try simp only [Act.put,z2,List.set]
  refine tW 4 opAt4 hHeld ?_
  try simp only [Act.put,z2,List.set]
  refine tW 5 opAt5 hHeld ?_
  try simp only [Act.put,z2,List.set]
  refine wpAnyH_ready (rs:=[6]) (by kernel_rfl) (by simp) ?_
  refine AllReadyH.cons opAt6 (fun K hK=>?_) AllReadyH.nil
  go_simp
  go_at_call 299;have hp:=heap_push (r:=r.tl) (H1.out.kept (Kept.drew (Kept.alloc (Kept.alloc (Kept.refl (fun _=>False) w1) (.cells #[.slice (some ⟨r.blk,r.off+3,none⟩) m (r.cap - 1),.int .i64 r.place] 396)) (.cells #[.string c.k,.int .i64 c.s,.string c.v] 132)))) ((G1.out.tail (by have:=M.out;have:=M0.out;omega)).kept (Kept.drew (Kept.alloc (Kept.alloc (Kept.refl (fun _=>False) w1) (.cells #[.slice (some ⟨r.blk,r.off+3,none⟩) m (r.cap - 1),.int .i64 r.place] 396)) (.cells #[.string c.k,.int .i64 c.s,.string c.v] 132))) (fun f=>f)) RN.out.1 (by rw [A1.out];exact RN.out.2) (by rw [length_pop ltR NE.out];have:=H.out.heap.few;omega) (by have:=K1.out.size;simp;omega);rw [TL.out] at hp;refine hp.mono ?_;clear hp;rintro e w5 ⟨rfl,v5,h5,k5,a5⟩;have H5:=Lib.hid h5;have K5:=Lib.hid k5;have A5:=Lib.hid a5;clear h5 k5 a5;have q0:=K5.out.cell (a:=⟨w1.heap.size+1,0,none⟩) (v:=.string c.k) (by simp [go_sem]) HN5.out;have q1:=K5.out.cell (a:=⟨w1.heap.size+1,1,none⟩) (v:=.int .i64 c.s) (by simp [go_sem]) HN5.out;have q2:=K5.out.cell (a:=⟨w1.heap.size+1,2,none⟩) (v:=.string c.v) (by simp [go_sem]) HN5.out;have s0:=K5.out.cell (a:=⟨w.heap.size,0,none⟩) (v:=.string ⟨#[]⟩) (by simp [go_sem,f0,fl]) HN1.out;have t0:=K5.out.frozen (a:=⟨w.heap.size,0,none⟩) (by simp [go_sem,fz0,fl]) (by simp;omega) HN1.out;have s1:=K5.out.cell (a:=⟨w.heap.size,1,none⟩) (v:=.int .i64 0) (by simp [go_sem,f1,fl]) HN1.out;have t1:=K5.out.frozen (a:=⟨w.heap.size,1,none⟩) (by simp [go_sem,fz1,fl]) (by simp;omega) HN1.out;have s2:=K5.out.cell (a:=⟨w.heap.size,2,none⟩) (v:=.string ⟨#[]⟩) (by simp [go_sem,f2,fl]) HN1.out;have t2:=K5.out.frozen (a:=⟨w.heap.size,2,none⟩) (by simp [go_sem,fz2,fl]) (by simp;omega) HN1.out;dsimp only
  refine hK.out _ _ ?_ (fun hHeld=>?_)
  ·exact ⟨K5.out.cell hHeld.1 (show ¬ mine p v1 w1.heap.size by rintro (e | e);exact absurd e (by omega);have:=(H1.out.own.lt _ e).2;omega),K5.out.cell hHeld.2 (show ¬ mine p v1 w1.heap.size by rintro (e | e);exact absurd e (by omega);have:=(H1.out.own.lt _ e).2;omega)⟩
  clear hK K
  try simp only [Act.put,z2,List.set]
  refine wpAnyH_done (by kernel_rfl) ?_ _
  go_wp2
  refine bodyPost_ret (v:=_) (by simp [results,Tryz.results301,go_sem,s0,s1,s2];try rfl) rfl ?_
  have kF:Kept (fun b=>w.heap.size=b) w5 (((w5.setCell ⟨w.heap.size,0,none⟩ (.string c.k)).setCell ⟨w.heap.size,1,none⟩ (.int .i64 c.s)).setCell ⟨w.heap.size,2,none⟩ (.string c.v)):=
   Kept.setAt (fun _=>rfl) (Kept.setAt (fun _=>rfl) (Kept.setAt (fun _=>rfl) (Kept.refl _ w5)))
  have kW:Kept (fun _=>False) w1 ((w1.alloc (.cells #[.slice (some ⟨r.blk,r.off+3,none⟩) m (r.cap - 1),.int .i64 r.place] 396)).alloc (.cells #[.string c.k,.int .i64 c.s,.string c.v] 132)).drew:=Kept.drew (Kept.alloc (Kept.alloc (Kept.refl _ w1) _) _)
  have hA5:v5.ownBlock=v1.ownBlock∨∀ b,v5.ownBlock=some b→w1.heap.size≤b:=A5.out.imp id (fun h b hb=>Nat.le_trans kW.size (h b hb))
  have hkeep:Kept (mine p (.slice ao l.length cap)) w w5:=(K1.out.trans kW (fun _ _ h=>h) (fun _ _ f=>f.elim)).trans K5.out (fun _ _ h=>h) (fun b _ hb=>hb.imp id (fun h=>by rw [← A1.out];exact h))
  have hm5:∀ x,x∈pushL ltR (popL ltR l) r.tl→x=r.tl∨x∈l:=fun x hx=>by
   rcases List.mem_cons.1 ((push_perm ltR _ _).mem_iff.1 hx) with e | e
   ·exact .inl e
   ·exact .inr (PP.out.mem_iff.1 (List.mem_cons_of_mem _ e))
  have e:nextL l=pushL ltR (popL ltR l) r.tl:=by unfold nextL;rw [R.out,if_pos (by have:=M.out;have:=M0.out;omega)]
  refine ⟨rfl,v5,?_,hkeep.trans kF (fun _ _ h=>h) (fun i hi e=>by omega),?_⟩
  ·rw [e]
   refine ⟨H5.out.keptS kF (by omega) (fun b hb e=>?_) (fun x hx e=>?_),push_heap ltR ltR_ord _ HP.out,H.out.above.1,fun x hx=>?_⟩
   ·rcases hA5 with h5 | h5
    ·rw [h5,A1.out] at hb;have:=(H.out.heap.own.lt _ hb).2;omega
    ·have:=h5 b hb;omega
   ·rcases hm5 x hx with rfl | hx
    ·have := World.block_lt_of_cell? _ _ RG.out.hd.1
     have e2:w.heap.size=r.blk:=e
     simp only at this;omega
    ·have := World.block_lt_of_cell? _ _ (H.out.heap.good x hx).hd.1
     simp only at this;omega
   ·rcases hm5 x hx with rfl | hx
    ·exact RA.out
    ·exact H.out.above.2 x hx
  ·rcases hA5 with h5 | h5
   ·exact .inl (h5.trans A1.out)
   ·exact .inr fun b hb=>Nat.le_trans K1.out.size (h5 b hb)
end
end Go.Proofs.YthknocapablpaaaGreatDoor.Mg
