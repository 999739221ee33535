/- A part of the proof. -/
import Derived.RangeFuncKeeps
import Derived.RangeFuncLeaves
import Derived.Shelf.Abstract
import Derived.OwnWalkIn
import Derived.TacticsInMore
import Derived.LoopNIn
import Derived.LoopIn
import Derived.Sort.LoopGhostIn
import Derived.RangeFuncWrites
import Derived.Test.YthknocapablpaaaGreatDoorAi34
namespace Go.Proofs.YthknocapablpaaaGreatDoor.Mg
/- merges.Iter.each: the iterator over the cells that come, against whatever loop. -/
section
set_option maxRecDepth 100000
open Go.RowKit
attribute [local go_sem] Oper.semAt_some

/-- How many cells are left in all. -/
def sumL (l:List Rw):Nat:=(l.map (fun r=>r.xs.length)).sum
/-- The cells that come, one by one. -/
def drainL:Nat→List Rw→List Cel
 | 0,_=>[]
 | f+1,l=>if l.length=0 then [] else nth (nth l 0).xs 0::drainL f (nextL l)

theorem sumL_perm {a b:List Rw}(h:a.Perm b):sumL a=sumL b:=(h.map _).sum_nat
theorem sum_next {l:List Rw}(hl:l≠[])(hp:∀ r∈l,0<r.xs.length):sumL (nextL l)+1=sumL l:=by
 have hpos:=List.length_pos_iff.2 hl
 have h1:=sumL_perm (pop_perm ltR hl)
 have h0:0<(nth l 0).xs.length:=hp _ (nth_mem hpos)
 have e1:sumL (nth l 0::popL ltR l)=(nth l 0).xs.length+sumL (popL ltR l):=by simp [sumL]
 unfold nextL
 split
 ·rename_i h
  have h2:=sumL_perm (push_perm ltR (popL ltR l) (nth l 0).tl)
  have e2:sumL ((nth l 0).tl::popL ltR l)=(nth l 0).tl.xs.length+sumL (popL ltR l):=by simp [sumL]
  have e3:(nth l 0).tl.xs.length=(nth l 0).xs.length - 1:=by show (nth l 0).xs.tail.length=_;rw [List.length_tail]
  omega
 ·omega
theorem sum_nil {l:List Rw}(hp:∀ r∈l,0<r.xs.length)(h:sumL l=0):l.length=0:=by
 cases l with
 | nil=>rfl
 | cons r t=>
  have:=hp r (by simp)
  unfold sumL at h
  rw [List.map_cons,List.sum_cons] at h
  omega
theorem next_mem {l:List Rw}(hl:l≠[]){x:Rw}(hx:x∈nextL l):x=(nth l 0).tl∨x∈l:=by
 unfold nextL at hx
 split at hx
 ·rcases List.mem_cons.1 ((push_perm ltR _ _).mem_iff.1 hx) with e | e
  ·exact .inl e
  ·exact .inr ((pop_perm ltR hl).mem_iff.1 (List.mem_cons_of_mem _ e))
 ·exact .inr ((pop_perm ltR hl).mem_iff.1 (List.mem_cons_of_mem _ hx))

/-- The blocks of an iterator. -/
def OwnI (p:Nat)(v:Value)(l:List Rw)(b:Nat):Prop:=mine p v b∨∃ r∈l,r.blk=b
theorem ItAt.keptS {S:Nat→Prop}{w w':World}{base p:Nat}{v:Value}{l:List Rw}(h:ItAt w base p v l)(hK:Kept S w w')(hS:∀ b,OwnI p v l b→¬ S b):ItAt w' base p v l:=
 ⟨h.heap.keptS hK (hS p (.inl (.inl rfl))) (fun b hb=>hS b (.inl (.inr hb))) (fun r hr=>hS _ (.inr ⟨r,hr,rfl⟩)),h.hp,h.above⟩
theorem ItAt.own_lt {w:World}{base p:Nat}{v:Value}{l:List Rw}(h:ItAt w base p v l):∀ b,OwnI p v l b→b<w.heap.size:=by
 rintro b ((rfl | e) | ⟨r,hr,rfl⟩)
 ·exact World.block_lt_of_cell? _ _ h.heap.cell
 ·exact (h.heap.own.lt b e).2
 ·exact World.block_lt_of_cell? _ _ (h.heap.good r hr).hd.1
theorem own_next {p:Nat}{v v':Value}{l:List Rw}{n:Nat}(hl:l≠[])(ha:v'.ownBlock=v.ownBlock∨∀ b,v'.ownBlock=some b→n≤b):∀ b,OwnI p v' (nextL l) b→OwnI p v l b∨n≤b:=by
 rintro b ((rfl | e) | ⟨r,hr,rfl⟩)
 ·exact .inl (.inl (.inl rfl))
 ·rcases ha with h | h
  ·exact .inl (.inl (.inr (h ▸ e)))
  ·exact .inr (h b e)
 ·rcases next_mem hl hr with rfl | h
  ·exact .inl (.inr ⟨nth l 0,nth_mem (List.length_pos_iff.2 hl),rfl⟩)
  ·exact .inl (.inr ⟨r,h,rfl⟩)

/-- What the caller of an iterator keeps between two rounds: J of the blocks T, of what has come, of the world. -/
structure Caller (l N:Nat) (m:Nat) (J:(Nat→Prop)→List Cel→World→Prop):Prop where
 kept:∀ T pre S W W',J T pre W→Kept S W W'→(∀ b,T b→¬ S b)→J T pre W'
 lt:∀ T pre W,J T pre W→∀ b,T b→b<W.heap.size
 round:∀ T pre x W,J T pre W→pre.length<N→YieldAt Fence.wide m Tryz.prog l #[x.val] W fun e W'=>e = .returned (.bool true)∧∃ T',J T' (pre++[x]) W'∧Kept T W W'∧∀ b,b<W.heap.size→T' b→T b

theorem next_any {w:World}{base p:Nat}{v:Value}{l:List Rw}(h:ItAt w base p v l)(hb:base≤w.heap.size) :
  Calls Tryz.prog 301 #[.pointer (some ⟨p,0,none⟩)] w fun e w'=>
   (l.length=0∧e = .returned (.tuple #[.agg #[.string ⟨#[]⟩,.int .i64 0,.string ⟨#[]⟩],.bool false])∧Kept (fun _=>False) w w') ∨
   (0 < l.length ∧ e = .returned (.tuple #[.agg #[.string (nth (nth l 0).xs 0).k, .int .i64 (nth (nth l 0).xs 0).s, .string (nth (nth l 0).xs 0).v], .bool true]) ∧
    ∃ v',ItAt w' base p v' (nextL l)∧Kept (mine p v) w w'∧(v'.ownBlock=v.ownBlock∨∀ b,v'.ownBlock=some b→w.heap.size≤b)):=by
 by_cases hl:l.length=0
 ·exact (next_none h.heap hl).mono fun e w' h=>.inl ⟨hl,h⟩
 ·exact (next_some h (by omega) hb).mono fun e w' h=>.inr ⟨by omega,h⟩

/-- Where the iterator stands between two rounds: l is left, pre has come, b is the block of the loop's own variable. -/
structure EachAt (W:World) (T0:Nat→Prop) (v0:Value) (l0:List Rw) (base bx p:Nat) (J:(Nat→Prop)→List Cel→World→Prop) (wr:World) (b:Nat) (l:List Rw) (v:Value) (T:Nat→Prop) (pre:List Cel):Prop where
 j:J T pre wr
 it:ItAt wr base p v l
 dis:∀ b,OwnI p v l b→¬ T b
 bxc:wr.cell? ⟨bx,0,none⟩=some (.pointer (some ⟨p,0,none⟩))
 bxT:¬ T bx
 bxI:¬ OwnI p v l bx
 bT:¬ T b
 bI:¬ OwnI p v l b
 bxl:bx<W.heap.size
 lt:b<wr.heap.size
 bs:base≤wr.heap.size
 kp:Kept (fun b=>T0 b∨OwnI p v0 l0 b) W wr
 tb:∀ b,b<W.heap.size→T b→T0 b
 ib:∀ b,b<W.heap.size→OwnI p v l b→OwnI p v0 l0 b

section
variable {W wr w':World}{T0 T T':Nat→Prop}{v0 v v':Value}{l0 l:List Rw}{base bx p b N k m:Nat}{J:(Nat→Prop)→List Cel→World→Prop}{pre pre':List Cel}

theorem EachAt.round (h:EachAt W T0 v0 l0 base bx p J wr b l v T pre)(h1:J T' pre' w')(h2:Kept T wr w')(h3:∀ b,b<wr.heap.size→T' b→T b):EachAt W T0 v0 l0 base bx p J w' b l v T' pre' where
 j:=h1
 it:=h.it.keptS h2 h.dis
 dis:=fun c hc hT=>h.dis c hc (h3 c (h.it.own_lt c hc) hT)
 bxc:=h2.cell h.bxc h.bxT
 bxT:=fun hT=>h.bxT (h3 _ (World.block_lt_of_cell? _ _ h.bxc) hT)
 bxI:=h.bxI
 bT:=fun hT=>h.bT (h3 _ h.lt hT)
 bI:=h.bI
 bxl:=h.bxl
 lt:=Nat.lt_of_lt_of_le h.lt h2.size
 bs:=Nat.le_trans h.bs h2.size
 kp:=h.kp.trans h2 (fun _ _ e=>e) (fun c hc e=>.inl (h.tb c hc e))
 tb:=fun c hc e=>h.tb c hc (h3 c (Nat.lt_of_lt_of_le hc h.kp.size) e)
 ib:=h.ib

theorem EachAt.fresh (hJ:Caller k N m J)(h:EachAt W T0 v0 l0 base bx p J wr b l v T pre)(o:Obj):EachAt W T0 v0 l0 base bx p J (wr.alloc o) wr.heap.size l v T pre where
 j:=hJ.kept T pre (fun _=>False) wr _ h.j ((Kept.refl _ _).alloc _) (fun _ _ f=>f)
 it:=h.it.kept ((Kept.refl _ _).alloc _)
 dis:=h.dis
 bxc:=(Kept.alloc (Kept.refl (fun _=>False) wr) o).cell h.bxc (fun f=>f)
 bxT:=h.bxT
 bxI:=h.bxI
 bT:=fun e=>Nat.lt_irrefl _ (hJ.lt T pre wr h.j _ e)
 bI:=fun e=>Nat.lt_irrefl _ (h.it.own_lt _ e)
 bxl:=h.bxl
 lt:=by simp
 bs:=Nat.le_trans h.bs (by simp)
 kp:=h.kp.alloc _
 tb:=h.tb
 ib:=h.ib

theorem EachAt.turned {S:Nat→Prop}(hJ:Caller k N m J)(h:EachAt W T0 v0 l0 base bx p J wr b l v T pre)(hK:Kept S wr w')(hS:∀ c,S c→c=b)(hge:W.heap.size≤b):EachAt W T0 v0 l0 base bx p J w' b l v T pre where
 j:=hJ.kept T pre S wr _ h.j hK (fun c hc hs=>h.bT (hS c hs ▸ hc))
 it:=h.it.keptS hK (fun c hc hs=>h.bI (hS c hs ▸ hc))
 dis:=h.dis
 bxc:=hK.cell h.bxc (fun hs=>by have e:bx=b:=hS _ hs;have:=h.bxl;omega)
 bxT:=h.bxT
 bxI:=h.bxI
 bT:=h.bT
 bI:=h.bI
 bxl:=h.bxl
 lt:=Nat.lt_of_lt_of_le h.lt hK.size
 bs:=Nat.le_trans h.bs hK.size
 kp:=h.kp.trans hK (fun _ _ e=>e) (fun c hc e=>by have:=hS c e;omega)
 tb:=h.tb
 ib:=h.ib

theorem EachAt.next (hJ:Caller k N m J)(h:EachAt W T0 v0 l0 base bx p J wr b l v T pre)(hl:l≠[])(h1:ItAt w' base p v' (nextL l))(h2:Kept (mine p v) wr w')(h3:v'.ownBlock=v.ownBlock∨∀ b,v'.ownBlock=some b→wr.heap.size≤b) :
  EachAt W T0 v0 l0 base bx p J w' b (nextL l) v' T pre where
 j:=hJ.kept T pre _ wr _ h.j h2 (fun c hc hm=>h.dis c (.inl hm) hc)
 it:=h1
 dis:=fun c hc hT=>by
  rcases own_next hl h3 c hc with e | e
  ·exact h.dis c e hT
  ·have:=hJ.lt T pre wr h.j c hT;omega
 bxc:=h2.cell h.bxc (fun e=>h.bxI (.inl e))
 bxT:=h.bxT
 bxI:=fun hc=>by
  rcases own_next hl h3 _ hc with e | e
  ·exact h.bxI e
  ·have:=World.block_lt_of_cell? _ _ h.bxc;simp only at this;omega
 bT:=h.bT
 bI:=fun hc=>by
  rcases own_next hl h3 _ hc with e | e
  ·exact h.bI e
  ·have:=h.lt;omega
 bxl:=h.bxl
 lt:=Nat.lt_of_lt_of_le h.lt h2.size
 bs:=Nat.le_trans h.bs h2.size
 kp:=h.kp.trans h2 (fun _ _ e=>e) (fun c hc e=>.inr (h.ib c hc (.inl e)))
 tb:=h.tb
 ib:=fun c hc hI=>by
  rcases own_next hl h3 c hI with e | e
  ·exact h.ib c hc e
  ·have:=h.kp.size;omega
end

theorem drain_step {l:List Rw}(hl:l≠[])(hp:∀ r∈l,0<r.xs.length):drainL (sumL l) l=nth (nth l 0).xs 0::drainL (sumL (nextL l)) (nextL l):=by
 rw [← sum_next hl hp,drainL,if_neg (fun e=>hl (List.eq_nil_of_length_eq_zero e))]
theorem drain_nil {l:List Rw}(n:Nat)(hl:l.length=0):drainL n l=[]:=by
 cases n with
 | zero=>rfl
 | succ n=>rw [drainL,if_pos hl]

/-- Three cells of a block of the loop's own. -/
def Three (w:World)(b:Nat)(x:Cel):Prop:=w.cell? ⟨b,0,none⟩=some (.string x.k)∧w.cell? ⟨b,1,none⟩=some (.int .i64 x.s)∧w.cell? ⟨b,2,none⟩=some (.string x.v)∧∀ j,w.frozen? ⟨b,j,none⟩=false
theorem Three.kept {S:Nat→Prop}{w w':World}{b:Nat}{x:Cel}(h:Three w b x)(hK:Kept S w w')(hS:¬ S b):Three w' b x:=hK.cells3 hS h.1 h.2.1 h.2.2.1 h.2.2.2
theorem Three.new (w:World)(x:Cel):Three (w.alloc (.cells #[.string x.k,.int .i64 x.s,.string x.v] 132)) w.heap.size x:=by
 obtain ⟨h0,h1,h2,h3,_⟩:=(Kept.refl (fun _=>False) (w.alloc (.cells #[.string x.k,.int .i64 x.s,.string x.v] 132))).fresh3 (fun f=>f)
 exact ⟨h0,h1,h2,h3⟩
theorem Three.set {w:World}{b:Nat}{x:Cel}(h:Three w b x)(y:Cel):Three (((w.setCell ⟨b,0,none⟩ (.string y.k)).setCell ⟨b,1,none⟩ (.int .i64 y.s)).setCell ⟨b,2,none⟩ (.string y.v)) b y:=by
 obtain ⟨h0,h1,h2,h3⟩:=h
 refine ⟨by simp [go_sem,h0],by simp [go_sem,h1],by simp [go_sem,h2],fun j=>by simp [h3 j]⟩
def zeroC:Cel:=⟨⟨#[]⟩,0,⟨#[]⟩⟩
theorem kept_three (w:World)(b:Nat)(y:Cel):Kept (fun c=>b=c) w (((w.setCell ⟨b,0,none⟩ (.string y.k)).setCell ⟨b,1,none⟩ (.int .i64 y.s)).setCell ⟨b,2,none⟩ (.string y.v)):=
 Kept.setAt (fun _=>rfl) (Kept.setAt (fun _=>rfl) (Kept.setAt (fun _=>rfl) (Kept.refl _ w)))

set_option maxHeartbeats 4000000 in
theorem each_in (n:Nat)(hn:1≤n)(k bx base p:Nat)(l:List Rw)(v:Value)(J:(Nat→Prop)→List Cel→World→Prop)(hJ:Caller k (sumL l) (n - 1) J)(T:Nat→Prop)(W:World)
  (h0:J T [] W)(hI:ItAt W base p v l)(hb:base≤W.heap.size)(hbx:W.cell? ⟨bx,0,none⟩=some (.pointer (some ⟨p,0,none⟩)))(hbT:¬ T bx)(hbI:¬ OwnI p v l bx)(hd:∀ b,OwnI p v l b→¬ T b) :
  CallsIn Fence.wide n Tryz.prog 300 #[.func (.yield k) #[] #[],.pointer (some ⟨bx,0,none⟩)] W fun e W'=>(∃ u,e = .returned u) ∧
   ∃ T',J T' (drainL (sumL l) l) W'∧Kept (fun b=>T b∨OwnI p v l b) W W'∧∀ b,b<W.heap.size→T' b→T b:=by
 have hbxl:=World.block_lt_of_cell? _ _ hbx
 simp only at hbxl
 have E0:=Lib.hid (EachAt.mk (W:=W) (T0:=T) (v0:=v) (l0:=l) (wr:=W) (b:=bx) h0 hI hd hbx hbT hbI hbT hbI hbxl hbxl hb (Kept.refl _ W) (fun _ _ h=>h) (fun _ _ h=>h))
 have hpos:∀ r∈l,0<r.xs.length:=fun r hr=>(hI.heap.good r hr).ne
 obtain ⟨N,hN⟩:∃ N,sumL l=N:=⟨_,rfl⟩
 obtain ⟨tot,htot⟩:∃ t,drainL (sumL l) l=t:=⟨_,rfl⟩
 rw [htot]
 have hJ':=hJ
 rw [hN] at hJ'
 have NN:=Lib.hid hN;have TOT:=Lib.hid htot;have CJ:=Lib.hid hJ';have PO:=Lib.hid hpos;have IT:=Lib.hid hI
 clear h0 hI hbT hbI hd hN htot hJ hJ' hpos
 refine callsIn_of_wp Tryz.func300 rfl trivial ?_ rfl
 simp only [Tryz.ntmps300,List.size_toArray,List.length_cons,List.length_nil,Nat.reduceAdd,Nat.reduceSub,Array.replicate_succ,Array.replicate_zero,List.push_toArray,List.append_toArray,List.nil_append,List.cons_append]
 gi_wp2_with fail
 refine ⟨trivial,(callsIn_wide.2 (next_any IT.out hb)).mono ?_⟩
 -- what both ways come to, as the loop begins
 have hstart:∀ w1:World,∀ x:Cel,∀ l1 v1,EachAt W T v l base bx p J w1 bx l1 v1 T []→EachAt W T v l base bx p J (w1.alloc (.cells #[.string x.k,.int .i64 x.s,.string x.v] 132)) w1.heap.size l1 v1 T []∧Three (w1.alloc (.cells #[.string x.k,.int .i64 x.s,.string x.v] 132)) w1.heap.size x∧W.heap.size≤w1.heap.size:=
  fun w1 x l1 v1 h=>⟨h.fresh CJ.out _,Three.new _ _,h.kp.size⟩
 have HS:=Lib.hid hstart;clear hstart
 rintro e w1 (⟨hl,rfl,K1⟩ | ⟨hl,rfl,v1,h1,k1,a1⟩)
 ·have E1 := Lib.hid (EachAt.mk (W := W) (T0 := T) (v0 := v) (l0 := l) (J := J) (wr := w1) (b := bx) (CJ.out.kept T [] _ W w1 E0.out.j K1 (fun _ _ f => f)) (IT.out.kept K1) E0.out.dis (K1.cell hbx (fun f => f)) E0.out.bxT E0.out.bxI E0.out.bxT E0.out.bxI hbxl (Nat.lt_of_lt_of_le hbxl K1.size) (Nat.le_trans hb K1.size) (K1.mono (fun _ _ f => f.elim)) (fun _ _ h => h) (fun _ _ h => h))
  have E2:=Lib.hid (HS.out w1 zeroC l v E1.out)
  have ht:([]:List Cel)=tot:=by rw [← TOT.out,drain_nil _ hl]
  have HT:=Lib.hid ht
  clear K1 hl ht hbx
  gi_wp2
  gi_loopg [3,4] 0 (fun _ _ t4 wr=>t4 = .bool false∧wr=w1.alloc (.cells #[.string ⟨#[]⟩,.int .i64 0,.string ⟨#[]⟩] 132))
  case atStart=>exact ⟨rfl,rfl⟩
  case round=>
   obtain ⟨rfl,rfl⟩:=hrel
   gi_wp2
   refine ⟨fun _ h=>(by cases h),?_⟩
   gi_wp2
   go_end0
   exact ⟨⟨_,rfl⟩,T,by rw [← HT.out];exact E2.out.1.j,E2.out.1.kp,E2.out.1.tb⟩
 ·have hne : l ≠ [] := fun e => by rw [e] at hl; simp at hl
  have E1:=Lib.hid (E0.out.next CJ.out hne h1 k1 a1)
  obtain ⟨x,hx⟩:∃ x,nth (nth l 0).xs 0=x:=⟨_,rfl⟩
  have hdr:=drain_step hne PO.out
  rw [TOT.out,hx] at hdr
  have hsum:=sum_next hne PO.out
  rw [NN.out] at hsum
  have E2:=Lib.hid (HS.out w1 x (nextL l) v1 E1.out)
  have DR:=Lib.hid hdr;have SU:=Lib.hid hsum
  rw [hx]
  clear h1 k1 a1 hne hx hdr hsum hbx
  gi_wp2
  gi_loopg [3,4] N (fun g t3 t4 wr=>∃ b3 l1 v1 T1 pre,t3 = .pointer (some ⟨b3,0,none⟩)∧W.heap.size≤b3∧EachAt W T v l base bx p J wr b3 l1 v1 T1 pre ∧
   ((t4 = .bool true∧∃ x,Three wr b3 x∧g=sumL l1+1∧pre++x::drainL (sumL l1) l1=tot∧pre.length+g=N)∨(t4 = .bool false∧pre=tot)))
  case atStart=>exact ⟨_,_,_,_,_,rfl,E2.out.2.2,E2.out.1,.inl ⟨rfl,x,E2.out.2.1,SU.out.symm,DR.out.symm,by simp⟩⟩
  case round=>
   obtain ⟨b3,l1,v2,T1,pre,rfl,hge,he,hor⟩:=hrel
   have EE:=Lib.hid he;clear he
   rcases hor with ⟨rfl,y,h3,hg,hdr,hpl⟩ | ⟨rfl,hpre⟩
   ·obtain ⟨c0, c1, c2, cf⟩ := h3
    have hbl:=EE.out.lt
    obtain ⟨fn,tmps,assign,body,hy,hR⟩:=CJ.out.round T1 pre y wr EE.out.j (by omega)
    unfold Cel.val at hy
    have G:=Lib.hid hg;have D:=Lib.hid hdr;have PL:=Lib.hid hpl
    clear hg hdr hpl cf E1 E2 DR SU
    gi_wp2
    refine hR.mono ?_
    rintro e W3 ⟨rfl,T2,j2,k2,t2⟩
    have E3:=Lib.hid (EE.out.round j2 k2 t2)
    have d0:=k2.cell c0 EE.out.bT
    have d1:=k2.cell c1 EE.out.bT
    have d2:=k2.cell c2 EE.out.bT
    have db:=E3.out.lt
    clear hR hy c0 c1 c2 j2 k2 t2
    have E4:=Lib.hid (E3.out.fresh CJ.out (.cells #[.string y.k,.int .i64 y.s,.string y.v] 132))
    have T4:=Lib.hid (Three.new W3 y)
    have hbx3:=E3.out.bxc
    have hbxl3:=World.block_lt_of_cell? _ _ hbx3
    simp only at hbxl3
    have ge3:=E3.out.kp.size
    gi_wp2_with fail
    refine ⟨trivial,(callsIn_wide.2 (next_any E4.out.it E4.out.bs)).mono ?_⟩
    have hpos:∀ r∈l1,0<r.xs.length:=fun r hr=>(EE.out.it.heap.good r hr).ne
    rintro e w5 (⟨hl1,rfl,K5⟩ | ⟨hl1,rfl,v5,h5,k5,a5⟩)
    ·have E5 := Lib.hid (E4.out.turned CJ.out K5 (fun _ f => f.elim) ge3)
     have T5:=Lib.hid (T4.out.kept K5 (fun f=>f))
     obtain ⟨q0,q1,q2,qf⟩:=T5.out
     obtain ⟨f0,f1,f2⟩:w5.frozen? ⟨W3.heap.size,0,none⟩=false∧w5.frozen? ⟨W3.heap.size,1,none⟩=false∧w5.frozen? ⟨W3.heap.size,2,none⟩=false:=⟨qf 0,qf 1,qf 2⟩
     have hd0:pre++[y]=tot:=by rw [← D.out,drain_nil _ hl1]
     have HD:=Lib.hid hd0
     clear K5 qf hl1 hd0 d0 d1 d2 hpos
     gi_wp2
     gi_roundg 0
     case measure=>have:=G.out;omega
     case rel=>exact ⟨_,_,_,_,_,rfl,ge3,E5.out.turned CJ.out (kept_three w5 W3.heap.size zeroC) (fun _ e=>e.symm) ge3,.inr ⟨rfl,HD.out⟩⟩
    ·have hne1 : l1 ≠ [] := fun e => by rw [e] at hl1; simp at hl1
     have E5:=Lib.hid (E4.out.next CJ.out hne1 h5 k5 a5)
     have T5:=Lib.hid (T4.out.kept k5 (fun f=>E4.out.bI (.inl f)))
     obtain ⟨q0,q1,q2,qf⟩:=T5.out
     obtain ⟨f0,f1,f2⟩:w5.frozen? ⟨W3.heap.size,0,none⟩=false∧w5.frozen? ⟨W3.heap.size,1,none⟩=false∧w5.frozen? ⟨W3.heap.size,2,none⟩=false:=⟨qf 0,qf 1,qf 2⟩
     obtain ⟨z,hz⟩:∃ z,nth (nth l1 0).xs 0=z:=⟨_,rfl⟩
     have hdr:=drain_step hne1 hpos
     have hsum:=sum_next hne1 hpos
     rw [hz] at hdr
     rw [hz]
     have D5:=Lib.hid hdr;have S5:=Lib.hid hsum
     clear k5 h5 a5 qf hl1 d0 d1 d2 hpos hdr hsum hne1 hz
     gi_wp2
     gi_roundg (gk - 1)
     case measure=>have:=G.out;omega
     case rel=>exact ⟨_,_,_,_,_,rfl,ge3,E5.out.turned CJ.out (kept_three w5 W3.heap.size z) (fun _ e=>e.symm) ge3,.inl ⟨rfl,z,T5.out.set z,by have:=G.out;have:=S5.out;omega,by rw [List.append_assoc];show pre++y::z::_=tot;rw [← D5.out];exact D.out,by have:=PL.out;have:=G.out;rw [List.length_append];simp;omega⟩⟩
   ·have HP := Lib.hid hpre; clear hpre
    gi_wp2
    refine ⟨fun _ h=>(by cases h),?_⟩
    gi_wp2
    go_end0
    exact ⟨⟨_,rfl⟩,T1,by rw [← HP.out];exact EE.out.j,EE.out.kp,EE.out.tb⟩
end
/- 'for c := range i.each() { .. }': the statement, its body walked once. -/
section
set_option maxRecDepth 100000
open Go.RowKit

theorem kept_put (W:World)(l:Nat)(o:Obj):Kept (fun b=>l=b) W (W.putObj l o):=
 ⟨rfl,rfl,rfl,by simp,fun _ _ hk=>World.putObj_heap_other (fun e=>hk e.symm)⟩

/-- What the caller keeps: I of the blocks T. -/
structure Mine (I:(Nat→Prop)→List Cel→World→Prop):Prop where
 kept:∀ T pre S W W',I T pre W→Kept S W W'→(∀ b,T b→¬ S b)→I T pre W'
 lt:∀ T pre W,I T pre W→∀ b,T b→b<W.heap.size

/-- With the loop's record and the block for its deferred calls. -/
def withRec (I:(Nat→Prop)→List Cel→World→Prop)(L D:Nat)(rec:LoopState→Option Code→Loop)(T:Nat→Prop)(pre:List Cel)(W:World):Prop:=
 ∃ TI,(∀ b,T b ↔ (TI b∨b=L∨b=D))∧I TI pre W∧W.heap[L]? = some (.loop (rec .ready none))∧W.heap[D]? = some (.deferred (some []))∧¬ TI L∧¬ TI D

def bodyEnd (I:(Nat→Prop)→List Cel→World→Prop)(T:Nat→Prop)(pre:List Cel)(W:World):Exit→Act→World→Prop
 | .normal,_,W'=>∃ T',I T' pre W'∧Kept T W W'∧∀ b,b<W.heap.size→T' b→T b
 | _,_,_=>False

theorem caller_of {I:(Nat→Prop)→List Cel→World→Prop}(hI:Mine I){fn:FuncId}{tm:Array Value}{ps:Array Tmp}{assign body:Code}{D L N m:Nat}(hLD:L≠D)(hps:ps.size=1)(a₁:Cel→Nat→Act)
  (hassign : ∀ (l : Nat) (x : Cel) (W : World) (K : Act → World → Prop), K (a₁ x W.heap.size) (W.alloc (.cells #[.string x.k, .int .i64 x.s, .string x.v] 132)) →
   assign.wpIn (Fence.wide.inRound l) m Tryz.prog (Exit.then K (fun _ _ _=>False)) { tmps:=(ps.zip #[x.val]).foldl (fun t (p,v)=>t.setIfInBounds p v) tm,defers:=[] } W)
  (hbody:∀ (l:Nat)(T:Nat→Prop)(pre:List Cel)(x:Cel)(W:World)(b:Nat),I T pre W→pre.length<N→Three W b x→¬ T b→body.wpIn (Fence.wide.inRound l) m Tryz.prog (bodyEnd I T (pre++[x]) W) (a₁ x b) W) :
  Caller L N m (withRec I L D (fun st pe=>{ state:=st,pending:=pe,fn,tmps:=tm,params:=ps,assign,body,defers:=D })):=by
 obtain ⟨rec,hrec⟩:∃ rec:LoopState→Option Code→Loop,(fun st pe=>{ state:=st,pending:=pe,fn,tmps:=tm,params:=ps,assign,body,defers:=D })=rec:=⟨_,rfl⟩
 rw [hrec]
 refine ⟨?_,?_,?_⟩
 ·rintro T pre S W W' ⟨TI, hT, h1, h2, h3, h4, h5⟩ hK hS
  exact ⟨TI,hT,hI.kept TI pre S W W' h1 hK (fun b hb=>hS b ((hT b).2 (.inl hb))),(hK.block L (Array.getElem?_eq_some_iff.1 h2).1 (hS L ((hT L).2 (.inr (.inl rfl))))).trans h2,(hK.block D (Array.getElem?_eq_some_iff.1 h3).1 (hS D ((hT D).2 (.inr (.inr rfl))))).trans h3,h4,h5⟩
 ·rintro T pre W ⟨TI, hT, h1, h2, h3, h4, h5⟩ b hb
  rcases (hT b).1 hb with h | rfl | rfl
  ·exact hI.lt _ _ _ h1 b h
  ·exact (Array.getElem?_eq_some_iff.1 h2).1
  ·exact (Array.getElem?_eq_some_iff.1 h3).1
 ·rintro T pre x W ⟨TI, hT, h1, h2, h3, h4, h5⟩ hlen
  have hLlt:L<W.heap.size:=(Array.getElem?_eq_some_iff.1 h2).1
  have hDlt:D<W.heap.size:=(Array.getElem?_eq_some_iff.1 h3).1
  have hy:=run_yield (P:=Tryz.prog) (args:=#[x.val]) h2 (by rw [← hrec];exact hps.symm)
  have e1:(rec .ready none).fn=fn:=by rw [← hrec]
  have e2:(rec .ready none).params=ps:=by rw [← hrec]
  have e3:(rec .ready none).tmps=tm:=by rw [← hrec]
  have e4:(rec .ready none).assign=assign:=by rw [← hrec]
  have e5:(rec .ready none).body=body:=by rw [← hrec]
  rw [e1,e2,e3,e4,e5] at hy
  obtain ⟨W2,hW2⟩:∃ W2,W.alloc (.cells #[.string x.k,.int .i64 x.s,.string x.v] 132)=W2:=⟨_,rfl⟩
  have k2:Kept (fun _=>False) W W2:=by rw [← hW2];exact (Kept.refl _ W).alloc _
  have hL2:W2.heap[L]? = some (.loop (rec .ready none)):=(k2.block L hLlt (fun f=>f)).trans h2
  have hD2:W2.heap[D]? = some (.deferred (some [])):=(k2.block D hDlt (fun f=>f)).trans h3
  have hLlt2:L<W2.heap.size:=(Array.getElem?_eq_some_iff.1 hL2).1
  obtain ⟨W3,hW3⟩:∃ W3,W2.putObj L (.loop { rec .ready none with state:=.busy })=W3:=⟨_,rfl⟩
  have k3:Kept (fun b=>L=b) W2 W3:=by rw [← hW3];exact kept_put _ _ _
  have hL3:W3.heap[L]? = some (.loop { rec .ready none with state:=.busy }):=by rw [← hW3];exact World.putObj_heap_same hLlt2
  have hD3:W3.heap[D]? = some (.deferred (some [])):=(k3.block D (Array.getElem?_eq_some_iff.1 hD2).1 hLD).trans hD2
  have i3:I TI pre W3:=hI.kept TI pre _ W2 W3 (hI.kept TI pre _ W W2 h1 k2 (fun _ _ f=>f)) k3 (fun b hb e=>h4 (by rw [e];exact hb))
  have hbr:(Instr.beginRound L).run Tryz.prog W2 = .ok () W3:=by rw [run_beginRound hL2 (by rw [← hrec]),hW3]
  have t3:Three W3 W.heap.size x:=by
   have:=Three.new W x
   rw [hW2] at this
   exact this.kept k3 (fun e=>by omega)
  refine ⟨fn,_,assign,body,hy,roundIn_of_wpIn trivial (hassign L x W _ ⟨W3,by rw [hW2];exact hbr,?_⟩)⟩
  refine wpIn_mono (hbody L TI pre x W3 W.heap.size i3 hlen t3 (fun h=>Nat.lt_irrefl _ (hI.lt _ _ _ h1 _ h))) ?_
  rintro e a3 W4 hp
  cases e with
  | normal=>
   obtain ⟨TI',i4,k4,t4⟩:=hp
   have hL4:W4.heap[L]? = some (.loop { rec .ready none with state:=.busy }):=(k4.block L (Array.getElem?_eq_some_iff.1 hL3).1 h4).trans hL3
   have hD4:W4.heap[D]? = some (.deferred (some [])):=(k4.block D (Array.getElem?_eq_some_iff.1 hD3).1 h5).trans hD3
   have hL3lt:=(Array.getElem?_eq_some_iff.1 hL3).1
   have hD3lt:=(Array.getElem?_eq_some_iff.1 hD3).1
   have n4:¬ TI' L:=fun h=>h4 (t4 L hL3lt h)
   have n5:¬ TI' D:=fun h=>h5 (t4 D hD3lt h)
   have her:=run_endRound (P:=Tryz.prog) none hL4
   obtain ⟨W5,hW5⟩:∃ W5,W4.putObj L (.loop (rec .ready none))=W5:=⟨_,rfl⟩
   have k5:Kept (fun b=>L=b) W4 W5:=by rw [← hW5];exact kept_put _ _ _
   refine ⟨_,W5,?_,rfl,fun b=>TI' b∨b=L∨b=D,⟨TI',fun b=>Iff.rfl,hI.kept TI' _ _ W4 W5 i4 k5 (fun b hb e=>n4 (by rw [e];exact hb)),?_,?_,n4,n5⟩,?_,?_⟩
   ·rw [her,← hW5,← hrec];rfl
   ·rw [← hW5];exact World.putObj_heap_same (Array.getElem?_eq_some_iff.1 hL4).1
   ·exact (k5.block D (Array.getElem?_eq_some_iff.1 hD4).1 hLD).trans hD4
   ·have q1 : Kept T W W3 := (k2.trans k3 (T := T) (fun _ _ f => f.elim) (fun b _ e => (hT b).2 (.inr (.inl e.symm))))
    have q2:Kept T W W4:=q1.trans k4 (fun _ _ h=>h) (fun b _ h=>(hT b).2 (.inl h))
    exact q2.trans k5 (fun _ _ h=>h) (fun b _ e=>(hT b).2 (.inr (.inl e.symm)))
   ·rintro b hb (h | h | h)
    ·exact (hT b).2 (.inl (t4 b (Nat.lt_of_lt_of_le hb (Nat.le_trans k2.size k3.size)) h))
    ·exact (hT b).2 (.inr (.inl h))
    ·exact (hT b).2 (.inr (.inr h))
  | _=>exact hp.elim

theorem range_each {g:Operand}{ps:Array Tmp}{assign body:Code}{Q:Exit→Act→World→Prop}{a:Act}{w:World}{n:Nat}(hn:2≤n){bx base p:Nat}{v:Value}{l:List Rw}
  (hg:a.eval g = .func (.func 300) #[] #[.pointer (some ⟨bx,0,none⟩)])(hps:ps.size=1)
  {I:(Nat→Prop)→List Cel→World→Prop}(hI:Mine I){T:Nat→Prop}(h0:I T [] w)(hIt:ItAt w base p v l)(hb:base≤w.heap.size)
  (hbx:w.cell? ⟨bx,0,none⟩=some (.pointer (some ⟨p,0,none⟩)))(hbT:¬ T bx)(hbI:¬ OwnI p v l bx)(hd:∀ b,OwnI p v l b→¬ T b)(a₁:Cel→Nat→Act)
  (hassign : ∀ (k : Nat) (x : Cel) (W : World) (K : Act → World → Prop), K (a₁ x W.heap.size) (W.alloc (.cells #[.string x.k, .int .i64 x.s, .string x.v] 132)) →
   assign.wpIn (Fence.wide.inRound k) (n - 1 - 1) Tryz.prog (Exit.then K (fun _ _ _=>False)) { tmps:=(ps.zip #[x.val]).foldl (fun t (p,v)=>t.setIfInBounds p v) a.tmps,defers:=[] } W)
  (hbody:∀ (k:Nat)(T:Nat→Prop)(pre:List Cel)(x:Cel)(W:World)(b:Nat),I T pre W→pre.length<sumL l→Three W b x→¬ T b→body.wpIn (Fence.wide.inRound k) (n - 1 - 1) Tryz.prog (bodyEnd I T (pre++[x]) W) (a₁ x b) W)
  (hdone : ∀ (D : Nat) (T' : Nat → Prop) (W : World), I T' (drainL (sumL l) l) W → ¬ T' D → Kept (fun b => T b ∨ OwnI p v l b) w W → (∀ b, b < w.heap.size → T' b → T b) → w.heap.size ≤ D → W.heap[D]? = some (.deferred (some [])) →
   Q .normal { a with defers:={ target:=.collected D,args:=#[] }::a.defers } W) :
  (Code.rangeFunc g ps assign body).wpIn Fence.wide n Tryz.prog Q a w:=by
 refine wpIn_rangeFunc ?_
 intro fn hfn
 have hro:Fence.wide.round=none:=rfl
 rw [hro]
 have hJ:=caller_of hI (fn:=fn) (tm:=a.tmps) (ps:=ps) (D:=w.heap.size) (L:=w.heap.size+1) (N:=sumL l) (m:=n - 1 - 1) (by omega) hps a₁ hassign hbody
 obtain ⟨rec,hrec⟩:∃ rec:LoopState→Option Code→Loop,rec=fun st pe=>{ state:=st,pending:=pe,fn,tmps:=a.tmps,params:=ps,assign,body,defers:=w.heap.size }:=⟨_,rfl⟩
 rw [← hrec] at hJ
 obtain ⟨W1,hW1⟩:∃ W1,(w.alloc (.deferred (some []))).alloc (.loop (rec .ready none))=W1:=⟨_,rfl⟩
 have hL1:W1.heap[w.heap.size+1]? = some (.loop (rec .ready none)):=by rw [← hW1];exact heap_second w _ _
 have hK1:W1.heap[w.heap.size]? = some (.deferred (some [])):=by rw [← hW1];exact heap_first w _ _
 have k1:Kept (fun _=>False) w W1:=by rw [← hW1];exact ((Kept.refl _ w).alloc _).alloc _
 have ht1:¬ T w.heap.size:=fun h=>Nat.lt_irrefl _ (hI.lt _ _ _ h0 _ h)
 have ht2:¬ T (w.heap.size+1):=fun h=>by have:=hI.lt _ _ _ h0 _ h;omega
 have hbxl:=World.block_lt_of_cell? _ _ hbx
 simp only at hbxl
 refine ⟨w.heap.size+1,[{ target:=.collected w.heap.size,args:=#[] }],W1,{ target:=.fn (.func 300) #[.pointer (some ⟨bx,0,none⟩)],args:=#[.func (.yield (w.heap.size+1)) #[] #[]] },W1,300,
  #[.func (.yield (w.heap.size+1)) #[] #[],.pointer (some ⟨bx,0,none⟩)],W1,?_,?_,?_,?_,(fun h=>by cases h),?_⟩
 ·rw [← hW1,hrec];exact run_enterLoop_outer _ _ _ _ _
 ·simp only [resolve, hg]
  simp [go_sem]
 ·intro f' _;trivial
 ·have e := enters_of Tryz.func300 (by kernel_rfl) rfl #[.func (.yield (w.heap.size + 1)) #[] #[], .pointer (some ⟨bx, 0, none⟩)] W1
  simp [invoke,go_sem,e]
 ·refine (each_in (n - 1) (by omega) (w.heap.size+1) bx base p l v (withRec I (w.heap.size+1) w.heap.size rec) hJ (fun b=>T b∨b=w.heap.size+1∨b=w.heap.size) W1
   ⟨T,fun b=>Iff.rfl,hI.kept T [] _ w W1 h0 k1 (fun _ _ f=>f),hL1,hK1,ht2,ht1⟩ (hIt.kept k1) (Nat.le_trans hb k1.size) (k1.cell hbx (fun f=>f)) ?_ hbI ?_).mono ?_
  ·rintro (h | h | h)
   ·exact hbT h
   ·omega
   ·omega
  ·intro b hbo
   have:=hIt.own_lt b hbo
   rintro (h | h | h)
   ·exact hd b hbo h
   ·omega
   ·omega
  ·rintro e W' ⟨⟨u, rfl⟩, T', ⟨TI, hT, i1, i2, i3, i4, i5⟩, kk, tt⟩
   have hpend:(rec .ready none).pending=none:=by rw [hrec]
   obtain ⟨o,hel⟩:∃ o,(Instr.endLoop (w.heap.size+1)).run Tryz.prog W' = .ok none (W'.putObj (w.heap.size+1) o):=by
    have:=run_endLoop (P:=Tryz.prog) i2 (by rw [hrec];simp)
    rw [hpend] at this
    exact ⟨_,this⟩
   refine ⟨none,_,hel,?_⟩
   have k5:=kept_put W' (w.heap.size+1) o
   refine hdone w.heap.size TI _ (hI.kept TI _ _ _ _ i1 k5 (fun b hb e=>i4 (by rw [e];exact hb))) i5 ?_ ?_ (Nat.le_refl _) ((k5.block _ (Array.getElem?_eq_some_iff.1 i3).1 (by omega)).trans i3)
   ·refine (k1.trans kk (T := fun b => T b ∨ OwnI p v l b) (fun _ _ f => f.elim) (fun b hb h => ?_)).trans k5 (fun _ _ h => h) (fun b hb e => by omega)
    rcases h with (h | h | h) | h
    ·exact .inl h
    ·omega
    ·omega
    ·exact .inr h
   ·intro b hb h
    rcases tt b (Nat.lt_of_lt_of_le hb k1.size) ((hT b).2 (.inl h)) with q | q | q
    ·exact q
    ·omega
    ·omega
end
/- slices.AppendSeq and slices.Collect over the cells that come. -/
section
set_option maxRecDepth 100000
open Go.RowKit
attribute [local go_sem] Oper.semAt_some

theorem own_keptS {S:Nat→Prop}{w w':World}{base e size:Nat}{v:Value}{n:Nat}{xs:List Value}(h:w.ownsRow base e size v n xs)(hK:Kept S w w')(hv:∀ b,v.ownBlock=some b→¬ S b):w'.ownsRow base e size v n xs:=by
 obtain ⟨h1,h2⟩:=h
 refine ⟨h1,?_⟩
 rcases h2 with h2 | ⟨g,cap,cur,rfl,hb,hg,rest⟩
 ·exact .inl h2
 ·exact .inr ⟨g,cap,cur,rfl,hb,(hK.block g (Array.getElem?_eq_some_iff.1 hg).1 (hv g rfl)).trans hg,rest⟩

/-- A variable in a block of its own holds a row of its own: what f makes of what has come. -/
def BoxI (B Bs:Nat)(f:List Cel→List Cel)(T:Nat→Prop)(pre:List Cel)(W:World):Prop:=
 ∃ u,(∀ b,T b ↔ (b=Bs∨u.ownBlock=some b))∧W.cell? ⟨Bs,0,none⟩=some u∧W.frozen? ⟨Bs,0,none⟩=false∧W.ownsRow B 132 3 u (f pre).length (cellsC (f pre))∧u.ownBlock≠some Bs∧B≤W.heap.size
theorem boxI_mine (B Bs:Nat)(f:List Cel→List Cel):Mine (BoxI B Bs f):=by
 refine ⟨?_,?_⟩
 ·rintro T pre S W W' ⟨u, hT, h1, h2, h3, h4, h5⟩ hK hS
  have s1:¬ S Bs:=hS Bs ((hT Bs).2 (.inl rfl))
  exact ⟨u,hT,hK.cell h1 s1,hK.frozen h2 (World.block_lt_of_cell? _ _ h1) s1,own_keptS h3 hK (fun b hb=>hS b ((hT b).2 (.inr hb))),h4,Nat.le_trans h5 hK.size⟩
 ·rintro T pre W ⟨u, hT, h1, h2, h3, h4, h5⟩ b hb
  rcases (hT b).1 hb with rfl | h
  ·exact World.block_lt_of_cell? _ _ h1
  ·exact (h3.lt b h).2

/-- append to an owned row inside a round: where the row lies behind it. -/
theorem in_append {F:Fence}{n:Nat}{P:Program}(w:World){ops:Array Oper}{rest:List Oper}{o:Oper}{a:Act}{Q:Exit→Act→World→Prop}
  (hg:o.guard=none)(s x:Operand)(t:TypeId)(hop:o.op=Op.call { callee:=Callee.builtin Builtin.append,args:=#[s,x],argTypes:=#[t,t] })
  (base:Nat)(e:TypeId)(i:TypeInfo)(z:Value)(size bytes:Nat)(h1:P.underlying t=some (.slice e))(h2:P.info? e=some i)(h3:i.zero=some z)(h4:i.size=size)(h5:i.bytes=bytes)(h6:z.cells.size=size)(h7:0<size)
  (v:Value)(k:Nat)(xs:List Value)(hs:a.eval s=v)(hown:w.ownsRow base e size v k xs)(ad:Addr)(m c:Nat)(news:List Value)(hx:a.eval x = .slice (some ad) m c)(hn:news.length=m * size)
  (hc:∀ j u,news[j]? = some u→w.cell? (ad.add j)=some u)(h1c:∀ u∈news,u.oneCell'=true)(b1:k+m≤maxLen)(b2:(k+m) * bytes≤140737488355328)(b3:base≤w.heap.size)
  (hK:∀ v' w',w'.ownsRow base e size v' (k+m) (xs++news)→w.grownBy w' v.ownBlock→(v'.ownBlock=v.ownBlock∨v'.ownBlock=some w.heap.size)→wpListIn F n P ops Q rest (a.put o.dst v') w') :
  wpListIn F n P ops Q (o::rest) a w:=by
 refine wpListIn_plain hg fun K hK'=>?_
 obtain ⟨v',w',hrun,r1,r2,_,r4⟩:=run_append_own_at (P:=P) w base t o.type e i z size bytes h1 h2 h3 h4 h5 h6 h7 v k xs hown ad m c news hn hc h1c b1 b2 b3
 unfold Oper.wpIn
 refine ⟨?_,?_⟩
 ·simp [Oper.about,hop,resolve,Target.leads,Sem.run_pure]
 ·rw [Oper.semAt_plain F _ _ (by rw [hop]; intro c hc'; cases hc')]
  simp [execOp,hop,resolve,invoke,builtin,hs,hx,hrun,Result.andThen]
  exact hK' _ _ (hK v' w' r1 r2 r4)

theorem each_new (p:Nat)(w:World):Calls Tryz.prog 215 #[.pointer (some ⟨p,0,none⟩)] w fun e w'=>e = .returned (.func (.func 300) #[] #[.pointer (some ⟨w.heap.size,0,none⟩)])∧w'=w.alloc (.cells #[.pointer (some ⟨p,0,none⟩)] 314):=by
 go_enter Tryz.func215,Tryz.ntmps215
 go_wp2
 go_ret
 exact ⟨rfl,rfl⟩
end
/- The merge by definition, and that the heap's cells come so: plain laws. -/
section
set_option maxRecDepth 100000
open Go.RowKit

def hdR (rs:List (List Cel))(i:Nat):Cel:=nth (nth rs i) 0
/-- Which row's first cell comes first, of the first k. -/
def bestUp (rs:List (List Cel)):Nat→Option Nat
 | 0=>none
 | k+1=>if 0<(nth rs k).length then (match bestUp rs k with
  | none=>some k
  | some b=>if aheadC (hdR rs k) (hdR rs b)=true then some k else some b) else bestUp rs k
def mergeF:Nat→List (List Cel)→List Cel
 | 0,_=>[]
 | n+1,rs=>match bestUp rs rs.length with
  | none=>[]
  | some i=>hdR rs i::mergeF n (rs.set i (nth rs i).tail)
def total (L:List (List Cel)):Nat:=(L.map List.length).sum
def mergeL (L:List (List Cel)):List Cel:=mergeF (total L) L

/-- Row i, at its place, stands ahead of row j. -/
def front (rs:List (List Cel))(i j:Nat):Int:=or2 (cmpC (hdR rs i) (hdR rs j)) (cmpI i j)

theorem best_none (rs:List (List Cel)):∀ k,bestUp rs k=none→∀ j,j<k→(nth rs j).length=0
 | 0,_,j,h=>by omega
 | k+1,h,j,hj=>by
  rw [bestUp] at h
  split at h
  ·split at h
   ·cases h
   ·split at h <;> cases h
  ·rename_i h0
   by_cases e:j=k
   ·subst e;omega
   ·exact best_none rs k h j (by omega)

theorem best_some (rs:List (List Cel)):∀ k i,bestUp rs k=some i→i<k∧0<(nth rs i).length∧∀ j,j<k→j≠i→0<(nth rs j).length→front rs i j<0
 | 0,i,h=>by simp [bestUp] at h
 | k+1,i,h=>by
  rw [bestUp] at h
  split at h
  ·rename_i hk
   split at h
   ·rename_i hn
    cases h
    refine ⟨by omega,hk,fun j hj hji hjp=>?_⟩
    have:=best_none rs k hn j (by omega);omega
   ·rename_i b hb
    obtain ⟨b1,b2,b3⟩:=best_some rs k b hb
    split at h
    ·rename_i ha
     cases h
     have ha':=(aheadC_iff _ _).1 ha
     refine ⟨by omega,hk,fun j hj hji hjp=>?_⟩
     have hlt:cmpC (hdR rs k) (hdR rs j)<0:=by
      by_cases e:j=b
      ·subst e;exact ha'
      ·have h3 := b3 j (by omega) e hjp
       have h4:cmpC (hdR rs b) (hdR rs j)≤0:=by unfold front or2 at h3;split at h3 <;> omega
       exact cmpC_is.lt_le ha' h4
     unfold front or2;rw [if_neg (by omega)];exact hlt
    ·rename_i ha
     cases h
     have ha':¬ cmpC (hdR rs k) (hdR rs i)<0:=fun e=>ha ((aheadC_iff _ _).2 e)
     refine ⟨by omega,b2,fun j hj hji hjp=>?_⟩
     by_cases e:j=k
     ·subst e
      have h1:cmpC (hdR rs i) (hdR rs j)≤0:=(cmpC_is.le _ _).2 (by omega)
      unfold front or2
      split
      ·unfold cmpI;rw [if_pos (by omega)];omega
      ·omega
     ·exact b3 j (by omega) hji hjp
  ·rename_i h0
   obtain ⟨b1,b2,b3⟩:=best_some rs k i h
   refine ⟨by omega,b2,fun j hj hji hjp=>?_⟩
   by_cases e:j=k
   ·subst e;omega
   ·exact b3 j (by omega) hji hjp

theorem aliveF_mid:∀ (k:Nat)(A:List (List Cel))(x:List Cel)(B:List (List Cel)),aliveF k (A++x::B)=aliveF k A++((if x.length=0 then [] else [(k+A.length,x)])++aliveF (k+A.length+1) B)
 | k,[],x,B=>by simp only [List.nil_append,aliveF];split <;> simp
 | k,y::A,x,B=>by
  have h:=aliveF_mid (k+1) A x B
  simp only [List.cons_append,aliveF,h,List.length_cons]
  have e1:k+1+A.length=k+(A.length+1):=by omega
  rw [e1]
  split <;> simp
theorem alive_mem:∀ (k:Nat)(L:List (List Cel))(i:Nat)(x:List Cel),(i,x)∈aliveF k L ↔ k≤i∧i<k+L.length∧nth L (i - k)=x∧0<x.length
 | k,[],i,x=>by simp [aliveF];omega
 | k,y::t,i,x=>by
  have h:=alive_mem (k+1) t i x
  have hn:∀ j,nth (y::t) (j+1)=nth t j:=fun j=>by simp [nth]
  have h0:nth (y::t) 0=y:=by simp [nth]
  simp only [aliveF]
  split
  ·rename_i hy
   rw [h]
   constructor
   ·rintro ⟨a, b, c, d⟩
    refine ⟨by omega,by simp only [List.length_cons];omega,?_,d⟩
    rw [show i - k=(i - (k+1))+1 by omega,hn];exact c
   ·rintro ⟨a, b, c, d⟩
    simp only [List.length_cons] at b
    by_cases e:i=k
    ·subst e;rw [Nat.sub_self,h0] at c;subst c;omega
    ·rw [show i - k = (i - (k + 1)) + 1 by omega, hn] at c
     exact ⟨by omega,by omega,c,d⟩
  ·rename_i hy
   rw [List.mem_cons,h]
   constructor
   ·rintro (e | ⟨a, b, c, d⟩)
    ·simp only [Prod.mk.injEq] at e
     obtain ⟨rfl,rfl⟩:=e
     exact ⟨Nat.le_refl _,by simp,by rw [Nat.sub_self,h0],by omega⟩
    ·refine ⟨by omega, by simp only [List.length_cons]; omega, ?_, d⟩
     rw [show i - k=(i - (k+1))+1 by omega,hn];exact c
   ·rintro ⟨a, b, c, d⟩
    simp only [List.length_cons] at b
    by_cases e:i=k
    ·left;subst e;rw [Nat.sub_self,h0] at c;rw [c]
    ·right
     rw [show i - k=(i - (k+1))+1 by omega,hn] at c
     exact ⟨by omega,by omega,c,d⟩

theorem nth_split {L:List (List Cel)}{i:Nat}(h:i<L.length):L=L.take i++nth L i::L.drop (i+1):=by
 have:nth L i=L[i]:=by simp [nth,h]
 rw [this,List.getElem_cons_drop];simp

theorem total_perm (l:List Rw)(rs:List (List Cel))(h:(l.map Rw.key).Perm (aliveF 0 rs)):sumL l=total rs:=by
 have h1:sumL l=((l.map Rw.key).map (fun q=>q.2.length)).sum:=by unfold sumL;rw [List.map_map];rfl
 rw [h1,(h.map _).sum_nat]
 have:∀ (k:Nat) (rs:List (List Cel)),((aliveF k rs).map (fun q=>q.2.length)).sum=(rs.map List.length).sum:=by
  intro k rs
  induction rs generalizing k with
  | nil=>rfl
  | cons y t ih=>
   simp only [aliveF]
   split
   ·rename_i hy;rw [ih,List.map_cons,List.sum_cons,hy];omega
   ·rw [List.map_cons,List.sum_cons,ih,List.map_cons,List.sum_cons]
 exact this 0 rs

/-- The heap's least row is the one that the definition picks. -/
theorem root_best {l:List Rw}{rs:List (List Cel)}(hh:Heap ltR l.length l)(hp:(l.map Rw.key).Perm (aliveF 0 rs))(hl:0<l.length) :
  bestUp rs rs.length=some (nth l 0).place∧nth rs (nth l 0).place=(nth l 0).xs∧(nth l 0).place<rs.length:=by
 have hroot:=heap_root ltR ltR_ord hh
 have hm:((nth l 0).place,(nth l 0).xs)∈aliveF 0 rs:=hp.mem_iff.1 (List.mem_map.2 ⟨nth l 0,nth_mem hl,rfl⟩)
 obtain ⟨_,m2,m3,m4⟩:=(alive_mem 0 rs _ _).1 hm
 simp only [Nat.zero_add,Nat.sub_zero] at m2 m3
 refine ⟨?_,m3,m2⟩
 cases hb:bestUp rs rs.length with
 | none=>have:=best_none rs _ hb _ m2;rw [m3] at this;omega
 | some i=>
  obtain ⟨b1,b2,b3⟩:=best_some rs _ i hb
  by_cases e:(nth l 0).place=i
  ·rw [e]
  ·have hmi : (i, nth rs i) ∈ l.map Rw.key := hp.mem_iff.2 ((alive_mem 0 rs _ _).2 ⟨Nat.zero_le _, by omega, by simp, b2⟩)
   obtain ⟨x,hx,hxk⟩:=List.mem_map.1 hmi
   have hx1:x.place=i:=congrArg Prod.fst hxk
   have hx2:x.xs=nth rs i:=congrArg Prod.snd hxk
   obtain ⟨k,hk,hxe⟩:=List.getElem_of_mem hx
   have h1:=hroot k hk
   have hnk:nth l k=x:=by simp [nth,hk,hxe]
   rw [hnk,ltR_false] at h1
   have h2:=b3 _ m2 e (by rw [m3];exact m4)
   have h3:cmpR x (nth l 0)=front rs i (nth l 0).place:=by
    unfold cmpR front hdR;rw [hx1,hx2,m3]
   omega

theorem drain_merge:∀ (n:Nat)(l:List Rw)(rs:List (List Cel)),Heap ltR l.length l→(∀ r∈l,0<r.xs.length)→(l.map Rw.key).Perm (aliveF 0 rs)→drainL n l=mergeF n rs
 | 0,_,_,_,_,_=>rfl
 | n+1,l,rs,hh,hpos,hp=>by
  rw [drainL,mergeF]
  by_cases hl:l.length=0
  ·rw [if_pos hl]
   have hnil:aliveF 0 rs=[]:=by
    have:=hp.length_eq
    rw [List.length_map,hl] at this
    exact List.eq_nil_of_length_eq_zero this.symm
   cases hb:bestUp rs rs.length with
   | none=>rfl
   | some i=>
    obtain ⟨b1,b2,_⟩:=best_some rs _ i hb
    have:(i,nth rs i)∈aliveF 0 rs:=(alive_mem 0 rs _ _).2 ⟨Nat.zero_le _,by omega,by simp,b2⟩
    rw [hnil] at this;cases this
  ·rw [if_neg hl]
   have hl0:0<l.length:=by omega
   have hne:l≠[]:=fun e=>by rw [e] at hl;simp at hl
   obtain ⟨r1,r2,r3⟩:=root_best hh hp hl0
   rw [r1]
   show _=hdR rs (nth l 0).place::_
   have e1:hdR rs (nth l 0).place=nth (nth l 0).xs 0:=by unfold hdR;rw [r2]
   rw [e1,r2]
   obtain ⟨i,hi⟩:∃ i,(nth l 0).place=i:=⟨_,rfl⟩
   have hpop:=pop_perm ltR hne
   have hphp:=pop_heap ltR ltR_ord hne hh
   have h0:0<(nth l 0).xs.length:=hpos _ (nth_mem hl0)
   rw [hi] at r1 r2 r3 ⊢
   -- what is left beside the least row
   have hsplit:=nth_split r3
   have hal:aliveF 0 rs=aliveF 0 (rs.take i)++([(i,(nth l 0).xs)]++aliveF (i+1) (rs.drop (i+1))):=by
    conv=>lhs;rw [hsplit,aliveF_mid]
    rw [r2,if_neg (by omega),List.length_take,Nat.min_eq_left (by omega),Nat.zero_add]
   have hrest:((popL ltR l).map Rw.key).Perm (aliveF 0 (rs.take i)++aliveF (i+1) (rs.drop (i+1))):=by
    have q1:=(hpop.map Rw.key).trans hp
    rw [hal] at q1
    have e2:Rw.key (nth l 0)=(i,(nth l 0).xs):=by unfold Rw.key;rw [hi]
    rw [List.map_cons,e2] at q1
    exact (List.perm_cons _).1 (q1.trans List.perm_middle)
   have hset:rs.set i (nth l 0).xs.tail=rs.take i++(nth l 0).xs.tail::rs.drop (i+1):=set_eq_take_drop rs i _ r3
   have hals:aliveF 0 (rs.set i (nth l 0).xs.tail)=aliveF 0 (rs.take i)++((if (nth l 0).xs.tail.length=0 then [] else [(i,(nth l 0).xs.tail)])++aliveF (i+1) (rs.drop (i+1))):=by
    rw [hset,aliveF_mid,List.length_take,Nat.min_eq_left (by omega),Nat.zero_add]
   congr 1
   refine drain_merge n (nextL l) _ ?_ ?_ ?_
   ·unfold nextL
    split
    ·exact push_heap ltR ltR_ord _ hphp
    ·exact hphp
   ·intro x hx
    unfold nextL at hx
    split at hx
    ·rename_i h1
     rcases List.mem_cons.1 ((push_perm ltR _ _).mem_iff.1 hx) with rfl | hx
     ·show 0<(nth l 0).xs.tail.length;rw [List.length_tail];omega
     ·exact hpos x (hpop.mem_iff.1 (List.mem_cons_of_mem _ hx))
    ·exact hpos x (hpop.mem_iff.1 (List.mem_cons_of_mem _ hx))
   ·rw [hals]
    unfold nextL
    split
    ·rename_i h1
     rw [if_neg (by rw [List.length_tail];omega)]
     have q1:=(push_perm ltR (popL ltR l) (nth l 0).tl).map Rw.key
     have e2:Rw.key (nth l 0).tl=(i,(nth l 0).xs.tail):=by show ((nth l 0).place,(nth l 0).xs.tail)=_;rw [hi]
     rw [List.map_cons,e2] at q1
     exact q1.trans ((hrest.cons _).trans (by simpa using List.perm_middle.symm))
    ·rename_i h1
     rw [if_pos (by rw [List.length_tail];omega),List.nil_append]
     exact hrest
end
/- merges.All, walked. -/
section
set_option maxRecDepth 100000
open Go.RowKit

theorem own_low {w:World}{base base' e size:Nat}{v:Value}{n:Nat}{xs:List Value}(h:w.ownsRow base e size v n xs)(hb:base'≤base):w.ownsRow base' e size v n xs:=by
 obtain ⟨h1,h2⟩:=h
 refine ⟨h1,?_⟩
 rcases h2 with h2 | ⟨g,cap,cur,rfl,hg,rest⟩
 ·exact .inl h2
 ·exact .inr ⟨g,cap,cur,rfl,Nat.le_trans hb hg,rest⟩
theorem ItAt.ownI_ge {w:World}{base p:Nat}{v:Value}{l:List Rw}(h:ItAt w base p v l):∀ b,OwnI p v l b→base≤b:=by
 rintro b (e | ⟨r,hr,rfl⟩)
 ·exact h.mine b e
 ·exact h.above.2 r hr

end
/- A region that draws its order, inside a round of a range over a function: as outside of one, where it neither defers nor outgrows. -/
section
set_option maxRecDepth 100000
open Go.RowKit

def Oper.calm (o:Oper):Bool:=match o.op with
 | .defer _=>false
 | _=>true
theorem calm_ne {o:Oper}(h:Oper.calm o=true):∀ c,o.op≠.defer c:=by
 intro c e;unfold Oper.calm at h;rw [e] at h;cases h

theorem wp_in_round {P:Program}{o:Oper}{a:Act}{w:World}{K:Act→World→Prop}{Q:Exit→Act→World→Prop}(l n:Nat)(hc:Oper.calm o=true)(h:o.wp P a w K Q):o.wpIn (Fence.wide.inRound l) n P a w K Q:=by
 unfold Oper.wpIn
 refine ⟨fun _ _=>trivial,?_⟩
 rw [Oper.semAt_plain _ _ _ (calm_ne hc)]
 unfold Oper.wp at h
 generalize (execOp a.eval o).run P w=r at h
 cases r with
 | ok x w'=>
  cases x with
  | value v=>exact h
  | skip=>exact h
  | defer d=>exact h
  | enter f args=>exact ⟨fun hh=>(by cases hh),callsIn_wide.2 h⟩
  | row row args=>
   refine ⟨fun hh=>(by cases hh),fun c cs _=>?_⟩
   obtain ⟨v,w2,hR,hs⟩:=h c cs
   exact ⟨v,w2,hR,stepsIn_wide.2 hs⟩
  | _=>exact h.elim
 | halt hh w'=>
  cases hh with
  | panic v=>exact h
  | _=>exact h.elim

theorem anyH_in_round {P:Program}{md:Region.Mode}{ops:Array Oper}{Q:Exit→Act→World→Prop}{S:World→Prop}(l n:Nat)(hc:ops.all Oper.calm=true)(hQ:¬ LetsOut Q):∀ (fuel:Nat)(listed:Array Bool)(a:Act)(w:World),
  wpAnyH P md ops Q S fuel listed a w→wpAnyIn (Fence.wide.inRound l) n P md ops Q fuel listed a w
 | 0,_,_,_,h=>h
 | fuel+1,listed,a,w,h=>by
  refine ⟨h.1,fun i hi=>?_⟩
  have h2:=h.2 i hi
  unfold wpOp at h2
  unfold wpOpIn
  cases ho:ops[i]? with
  | none=>rw [ho] at h2;exact anyH_in_round l n hc hQ fuel _ _ _ h2.2
  | some o=>
   rw [ho] at h2
   have hco:Oper.calm o=true:=by
    have hm:o∈ops:=Array.mem_of_getElem? ho
    exact Array.all_eq_true_iff_forall_mem.1 hc o hm
   simp only at h2 ⊢
   split
   ·rename_i hw
    rw [if_pos hw] at h2
    rcases h2 with h2 | h2
    ·exact wp_in_round l n hco (Oper.wp_mono (fun a' w' h3=>anyH_in_round l n hc hQ fuel _ _ _ h3.2) h2)
    ·exact absurd h2.2 hQ
   ·rename_i hw
    rw [if_neg hw] at h2
    exact ⟨fun _ _=>trivial,anyH_in_round l n hc hQ fuel _ _ _ h2.2⟩

theorem round_region {P:Program}{id:Nat}{ops:Array Oper}{Q:Exit→Act→World→Prop}{S:World→Prop}{a:Act}{w:World}(l n:Nat)(hm:P.follows .mixedOrders=true)(hc:ops.all Oper.calm=true)(hQ:¬ LetsOut Q)
  (hS:S w.drew)(h:S w.drew→wpAnyH P .any ops Q S ops.size (Array.replicate ops.size false) a w.drew):(Code.region id ops true).wpIn (Fence.wide.inRound l) n P Q a w:=
 wpIn_region_any hm (anyH_in_round l n hc hQ _ _ _ _ (h hS))
end
/- merges.Newest, walked: of each key the first one. -/
section
set_option maxRecDepth 100000
open Go.RowKit
attribute [local go_sem] Oper.semAt_some

/-- Does a cell behind those that are there stay? -/
def stays (out:List Cel)(x:Cel):Bool:=decide (out.length=0) || !sEq (nth out (out.length - 1)).k x.k
def addF (out:List Cel)(x:Cel):List Cel:=if stays out x=true then out++[x] else out
/-- Of each key the first one. -/
def firstF (pre:List Cel):List Cel:=pre.foldl addF []
theorem firstF_snoc (pre:List Cel)(x:Cel):firstF (pre++[x])=addF (firstF pre) x:=by unfold firstF;rw [List.foldl_append];rfl
theorem firstF_length (pre:List Cel):(firstF pre).length≤pre.length:=by
 have:∀ (l out:List Cel),(l.foldl addF out).length≤out.length+l.length:=by
  intro l
  induction l with
  | nil=>intro out;simp
  | cons x t ih=>
   intro out
   rw [List.foldl_cons]
   have h1:=ih (addF out x)
   have h2:(addF out x).length≤out.length+1:=by unfold addF;split <;> simp
   simp only [List.length_cons];omega
 have:=this pre []
 simpa [firstF] using this

theorem stays_no {out:List Cel}{x y:Cel}{j:Nat}(hj:out.length=j+1)(hy:nth out j=y)(he:(y.k.toList == x.k.toList)=true):stays out x=false:=by
 unfold stays sEq
 rw [hj,Nat.add_sub_cancel,hy,he]
 simp
theorem stays_yes {out:List Cel}{x y:Cel}{j:Nat}(hj:out.length=j+1)(hy:nth out j=y)(he:(y.k.toList == x.k.toList)=false):stays out x=true:=by
 unfold stays sEq
 rw [hj,Nat.add_sub_cancel,hy,he]
 simp

set_option maxHeartbeats 4000000 in
theorem newest_any (w:World)(v0:Value)(L:List (List Cel))(h:ReadsR w v0 L)(hL:L.length≤50)(hl:∀ R∈L,R.length≤1000)(ht:total L≤1000) :
  Calls Tryz.prog 133 #[v0] w fun e w'=>Kept (fun _=>False) w w' ∧
   ((L.all sortedB = false ∧ e = .returned (.tuple #[.slice none 0 0, .int .i64 2])) ∨
    (L.all sortedB=true∧∃ u,e = .returned (.tuple #[u,.int .i64 0])∧w'.ownsRow w.heap.size 132 3 u (firstF (mergeL L)).length (cellsC (firstF (mergeL L))))):=by
 have HN:=Lib.hid (new_any w v0 L h hL hl)
 clear h hl
 refine (callsIn_wide (n:=5)).1 ?_
 refine callsIn_of_wp_marks Tryz.func133 rfl trivial ?_ rfl
 simp only [Tryz.ntmps133,List.size_toArray,List.length_cons,List.length_nil,Nat.reduceAdd,Nat.reduceSub,Array.replicate_succ,Array.replicate_zero,List.push_toArray,List.append_toArray,List.nil_append,List.cons_append]
 gi_wp2_with fail
 refine ⟨trivial,(callsIn_wide.2 HN.out).mono ?_⟩
 rintro e w1 ⟨K1,⟨ha,rfl⟩ | ⟨ha,p,v,l,rfl,hIt,hperm⟩⟩
 ·have KK1 := Lib.hid K1; have HA := Lib.hid ha; clear K1 ha
  gi_wp2
  refine ⟨_,by simp [results,Tryz.results133,go_sem];try rfl,?_⟩
  exact ⟨KK1.out,.inl ⟨HA.out,rfl⟩⟩
 ·have e1:drainL (sumL l) l=mergeL L:=by
   rw [total_perm l L hperm]
   exact drain_merge (total L) l L hIt.hp (fun r hr=>(hIt.heap.good r hr).ne) hperm
  have e2:sumL l≤1000:=by rw [total_perm l L hperm];exact ht
  have KK1:=Lib.hid K1;have HA:=Lib.hid ha;have IT:=Lib.hid hIt;have E1:=Lib.hid e1
  clear K1 ha hIt hperm e1
  have ge1:=KK1.out.size
  gi_wp2_with (refine ⟨trivial,?_⟩;gi_at_call 215;refine (callsIn_wide.2 (each_new p _)).mono ?_;rintro e w2 ⟨rfl,rfl⟩)
  obtain ⟨W0,hW0⟩:∃ W0,(w1.alloc (.cells #[.slice none 0 0] 65)).alloc (.cells #[.pointer (some ⟨p,0,none⟩)] 314)=W0:=⟨_,rfl⟩
  have hs1:(w1.alloc (.cells #[.slice none 0 0] 65)).heap.size=w1.heap.size+1:=by simp
  have k0:Kept (fun _=>False) w1 W0:=by rw [← hW0];exact ((Kept.refl _ w1).alloc _).alloc _
  have hs0:W0.heap.size=w1.heap.size+2:=by rw [← hW0];simp
  have hc0:W0.cell? ⟨w1.heap.size,0,none⟩=some (.slice none 0 0):=by rw [← hW0];simp [go_sem]
  have hf0:W0.frozen? ⟨w1.heap.size,0,none⟩=false:=by rw [← hW0];simp [go_sem]
  have hb0:W0.cell? ⟨w1.heap.size+1,0,none⟩=some (.pointer (some ⟨p,0,none⟩)):=by rw [← hW0];simp [go_sem]
  try simp only [hs1]
  rw [hW0]
  clear hW0 hs1
  refine range_each (bx:=w1.heap.size+1) (base:=w.heap.size) (p:=p) (v:=v) (l:=l) (by omega) rfl rfl (boxI_mine w.heap.size w1.heap.size firstF) (T:=fun b=>b=w1.heap.size)
   ⟨.slice none 0 0,fun b=>by simp [Value.ownBlock],hc0,hf0,World.ownsRow_nil _ _ _ _,by simp [Value.ownBlock],by omega⟩ (IT.out.kept k0) (by omega) hb0 (by omega) (fun hb=>by have:=IT.out.own_lt _ hb;omega) (fun b hb e=>by have:=IT.out.own_lt b hb;omega)
   (fun x b => { tmps := #[v0, undef, .slice none 0 0, .int .i64 0, .pointer (some ⟨p, 0, none⟩), .int .i64 0, .pointer (some ⟨w1.heap.size, 0, none⟩), .pointer (some ⟨b, 0, none⟩), undef,
    .tuple #[.pointer (some ⟨p,0,none⟩),.int .i64 0],v0,.tuple #[.pointer (some ⟨p,0,none⟩),.int .i64 0],.pointer (some ⟨p,0,none⟩),.int .i64 0,.int .i64 0,.bool false,undef,.pointer (some ⟨p,0,none⟩),.func (.func 300) #[] #[.pointer (some ⟨w1.heap.size+1,0,none⟩)],
    .agg #[.string x.k,.int .i64 x.s,.string x.v],undef,undef,undef,undef,undef,undef,undef,undef,undef,undef,undef,undef,undef,undef,undef,undef,undef,undef,undef,undef],defers:=[] }) ?assign ?body ?done
  case assign=>
   intro k x W K hK
   unfold Cel.val
   gi_wp2
   exact hK
  case body=>
   rintro k T pre x W b ⟨u,hT,h1,h2,h3,h4,h5⟩ hlen ⟨c0,c1,c2,_⟩ hTb
   obtain ⟨i0,hi,hz0,hz1,hz2⟩:=info_parts inf36
   obtain ⟨out,hout⟩:∃ o,firstF pre=o:=⟨_,rfl⟩
   have hol:out.length≤pre.length:=by rw [← hout];exact firstF_length pre
   have hfs:firstF (pre++[x])=addF out x:=by rw [firstF_snoc,hout]
   rw [hout] at h3
   have hBl:=World.block_lt_of_cell? _ _ h1
   simp only at hBl
   have hbl:=World.block_lt_of_cell? _ _ c0
   simp only at hbl
   have hsh2:∃ ao cap,u = .slice ao out.length cap:=by
    rcases row_form h3 with ⟨rfl,hn⟩ | ⟨g,cap,rfl,_⟩
    ·exact ⟨none,0,by rw [hn]⟩
    ·exact ⟨_,_,rfl⟩
   obtain ⟨ao,cap,rfl⟩:=hsh2
   have OUT:=Lib.hid hout;have HR:=Lib.hid h3;have HT:=Lib.hid hT;have FS:=Lib.hid hfs
   have a1:¬ (Value.slice ao out.length cap).ownBlock=some w1.heap.size:=h4
   have hlp:out.length+1≤1000:=by omega
   have H5:=Lib.hid h5
   have hI0:BoxI w.heap.size w1.heap.size firstF T pre W:=⟨_,HT.out,h1,h2,by rw [hout];exact HR.out,h4,h5⟩
   have I0:=Lib.hid hI0
   -- the cell that is added
   have hadd:stays out x=true→∀ ao' cap' w9,w9.ownsRow w.heap.size 132 3 (.slice ao' (out.length+1) cap') (out.length+1) (cellsC out++[.string x.k,.int .i64 x.s,.string x.v])→Kept (fun k=>(Value.slice ao out.length cap).ownBlock=some k) W w9 →
     ((Value.slice ao' (out.length+1) cap').ownBlock=(Value.slice ao out.length cap).ownBlock∨∀ b,(Value.slice ao' (out.length+1) cap').ownBlock=some b→W.heap.size≤b) →
     ∃ T',BoxI w.heap.size w1.heap.size firstF T' (pre++[x]) (w9.setCell ⟨w1.heap.size,0,none⟩ (.slice ao' (out.length+1) cap'))∧Kept T W (w9.setCell ⟨w1.heap.size,0,none⟩ (.slice ao' (out.length+1) cap'))∧∀ b,b<W.heap.size→T' b→T b:=by
    intro hst ao' cap' w9 own9 k9 at9
    have s0:=k9.cell h1 a1
    have sf:=k9.frozen h2 hBl a1
    have hne:(Value.slice ao' (out.length+1) cap').ownBlock≠some w1.heap.size:=fun e=>by
     rcases at9 with h | h
     ·rw [h] at e;exact a1 e
     ·have:=h _ e;omega
    have e1:firstF (pre++[x])=out++[x]:=by rw [FS.out];unfold addF;rw [if_pos hst]
    refine ⟨fun b=>b=w1.heap.size∨(Value.slice ao' (out.length+1) cap').ownBlock=some b,⟨_,fun b=>Iff.rfl,World.cell?_setCell_same' _ _ _ (by rw [s0];rfl),by rw [World.frozen?_setCell];exact sf,?_,hne,by simp [World.setCell];exact Nat.le_trans H5.out k9.size⟩,?_,?_⟩
    ·refine ownsRow_setCell_other (v := .slice ao' (out.length + 1) cap') (a := ⟨w1.heap.size, 0, none⟩) ?_ hne _
     have e2:cellsC (out++[x])=cellsC out++[.string x.k,.int .i64 x.s,.string x.v]:=by rw [cellsC_append];rfl
     rw [e1,e2,List.length_append]
     exact own9
    ·exact Kept.setAt (fun _=>(HT.out _).2 (.inl rfl)) (k9.mono (fun b _ hb=>(HT.out b).2 (.inr hb)))
    ·rintro b hb (rfl | h)
     ·exact (HT.out _).2 (.inl rfl)
     ·rcases at9 with q | q
      ·exact (HT.out b).2 (.inr (q ▸ h))
      ·have:=q b h;omega
   have ADD:=Lib.hid hadd
   clear h3 hT hfs h4 h5 hI0 hadd IT hc0 hf0 hb0 hout
   by_cases h0:out.length=0
   ·have hst : stays out x = true := by unfold stays; simp [h0]
    have ST:=Lib.hid hst;clear hst
    have hz:(out.length:Int)=0:=by omega
    have LZ:=Lib.hid h0;clear h0
    gi_wp2
    refine round_region (S:=(fun _=>True)) k _ (by kernel_rfl) (by kernel_rfl) (by rintro ⟨_,_,h⟩;exact h) ?_ (fun hHeld=>?_)
    ·trivial
    refine tW 0 opAt0 hHeld ?_
    try simp only [Act.put,z2,List.set]
    refine tW 1 opAt1 hHeld ?_
    try simp only [Act.put,z2,List.set]
    refine tW 2 opAt2 hHeld ?_
    try simp only [Act.put,z2,List.set]
    refine tU 3 opAt3 hHeld ?_
    try simp only [Act.put,z2,List.set]
    refine tU 4 opAt4 hHeld ?_
    try simp only [Act.put,z2,List.set]
    refine tU 5 opAt5 hHeld ?_
    try simp only [Act.put,z2,List.set]
    refine tU 6 opAt6 hHeld ?_
    try simp only [Act.put,z2,List.set]
    refine tU 7 opAt7 hHeld ?_
    try simp only [Act.put,z2,List.set]
    refine tU 8 opAt8 hHeld ?_
    try simp only [Act.put,z2,List.set]
    refine tU 9 opAt9 hHeld ?_
    try simp only [Act.put,z2,List.set]
    refine tU 10 opAt10 hHeld ?_
    try simp only [Act.put,z2,List.set]
    refine tW 11 opAt11 hHeld ?_
    try simp only [Act.put,z2,List.set]
    refine wpAnyH_done (by kernel_rfl) ?_ _
    gi_wp2_with (gi_at_builtin;refine in_append _ rfl _ _ 65 rfl w.heap.size 132 i0 _ 3 40 Tryz.underlying65 hi hz0 hz1 hz2 rfl (by decide) _ _ _ rfl (World.ownsRow.drew (World.ownsRow.alloc HR.out _)) ⟨W.heap.size,0,none⟩ 1 1 [.string x.k,.int .i64 x.s,.string x.v] rfl ?q1 ?q2 ?q3 ?q4 ?q5 ?q6 ?_)
    case q1=>rfl
    case q2=>exact World.news_of_block (w:=(W.alloc (Obj.cells #[Value.string x.k,Value.int .i64 x.s,Value.string x.v] 132)).drew) (heap_alloc_new W _)
    case q3=>intro u hu;simp at hu;rcases hu with rfl | rfl | rfl <;> rfl
    case q4=>unfold maxLen;omega
    case q5=>omega
    case q6=>have:=H5.out;show w.heap.size≤(W.alloc _).heap.size;simp;omega
    intro v' w9 hown' hgrow hat
    obtain ⟨g',cap',rfl⟩:∃ g cap,v' = .slice (some ⟨g,0,none⟩) (out.length+1) cap:=by
     rcases row_form hown' with ⟨_,h⟩ | ⟨g,c,h,_⟩
     ·omega
     ·exact ⟨g,c,h⟩
    have KG:=grown_kept hgrow
    have s0:=KG.cell (a:=⟨w1.heap.size,0,none⟩) (v:=.slice ao out.length cap) (by simp [go_sem,h1,hBl]) a1
    have sf:=KG.frozen (a:=⟨w1.heap.size,0,none⟩) (by simp [go_sem,h2,hBl]) (by simp;omega) a1
    have k9:Kept (fun k=>(Value.slice ao out.length cap).ownBlock=some k) W w9:=(((Kept.refl (fun _=>False) W).alloc (.cells #[.string x.k,.int .i64 x.s,.string x.v] 132)).drew).trans KG (fun _ _ f=>f.elim) (fun _ _ h=>h)
    have at9:(Value.slice (some ⟨g',0,none⟩) (out.length+1) cap').ownBlock=(Value.slice ao out.length cap).ownBlock∨∀ b,(Value.slice (some ⟨g',0,none⟩) (out.length+1) cap').ownBlock=some b→W.heap.size≤b:=by
     rcases hat with e | e
     ·exact .inl e
     ·right; intro b hb
      rw [hb] at e
      have h:=Option.some.inj e
      have h2:(W.alloc (Obj.cells #[Value.string x.k,Value.int .i64 x.s,Value.string x.v] 132)).heap.size=W.heap.size+1:=by simp
      have h3:(W.alloc (Obj.cells #[Value.string x.k,Value.int .i64 x.s,Value.string x.v] 132)).drew.heap.size=(W.alloc (Obj.cells #[Value.string x.k,Value.int .i64 x.s,Value.string x.v] 132)).heap.size:=rfl
      omega
    have FIN:=Lib.hid (ADD.out ST.out _ _ w9 hown' k9 at9)
    clear hown' hgrow hat KG k9 at9
    gi_wp2
    exact FIN.out
   ·obtain ⟨j, hj⟩ : ∃ j, out.length = j + 1 := ⟨out.length - 1, by omega⟩
    obtain ⟨g,hg,hcell⟩:∃ g,ao=some ⟨g,0,none⟩∧∀ i u,(cellsC out)[i]? = some u→W.cell? ⟨g,i,none⟩=some u:=by
     rcases row_form HR.out with ⟨_,hn⟩ | ⟨g,cap,he,_,_,_,h6⟩
     ·omega
     ·simp only [Value.slice.injEq] at he
      exact ⟨g,he.1,h6⟩
    subst hg
    obtain ⟨y,hy⟩:∃ y,nth out j=y:=⟨_,rfl⟩
    obtain ⟨q0,_,_⟩:=cellsC_get out j y (by rw [← hy];exact nth_get out (by omega))
    have y0:=hcell _ _ q0
    have Y0:=Lib.hid y0
    clear hcell q0
    have hz:(out.length:Int) - 1=(j:Int):=by omega
    have i1:¬ (j:Int)<0:=by omega
    have i2:(0:Int)≤(j:Int):=by omega
    have i3:(j:Int)<(out.length:Int):=by omega
    have J:=Lib.hid hj;have Y:=Lib.hid hy;have H0:=Lib.hid h0
    clear hj hy h0
    have hor:(y.k.toList == x.k.toList)=true∨(y.k.toList == x.k.toList)=false:=by cases (y.k.toList == x.k.toList) <;> simp
    rcases hor with he | he
    ·
     have ST:=Lib.hid (stays_no J.out Y.out he)
     have HE:=Lib.hid he;clear he y0
     gi_wp2
     have he:=HE.out;have y0:=Y0.out
     refine round_region (S:=(fun w'=>w'.cell? ⟨w1.heap.size,0,none⟩=some (.slice (some ⟨g,0,none⟩) out.length cap)∧w'.cell? ⟨g,j * 3,none⟩=some (.string y.k)∧w'.cell? ⟨b,0,none⟩=some (.string x.k))) k _ (by kernel_rfl) (by kernel_rfl) (by rintro ⟨_,_,h⟩;exact h) ?_ (fun hHeld=>?_)
     ·exact ⟨h1,y0,c0⟩
     refine tW 0 opAt0 hHeld ?_
     try simp only [Act.put,z2,List.set]
     refine tW 1 opAt1 hHeld ?_
     try simp only [Act.put,z2,List.set]
     refine tW 2 opAt2 hHeld ?_
     try simp only [Act.put,z2,List.set]
     refine tW 3 opAt3 hHeld ?_
     try simp only [Act.put,z2,List.set]
     refine tW 4 opAt4 hHeld ?_
     try simp only [Act.put,z2,List.set]
     refine tW 5 opAt5 hHeld ?_
     try simp only [Act.put,z2,List.set]
     refine tW 6 opAt6 hHeld ?_
     try simp only [Act.put,z2,List.set]
     refine tW 7 opAt7 hHeld ?_
     try simp only [Act.put,z2,List.set]
     refine tW 8 opAt8 hHeld ?_
     try simp only [Act.put,z2,List.set]
     refine tW 9 opAt9 hHeld ?_
     try simp only [Act.put,z2,List.set]
     refine tW 10 opAt10 hHeld ?_
     try simp only [Act.put,z2,List.set]
     refine tW 11 opAt11 hHeld ?_
     try simp only [Act.put,z2,List.set]
     refine wpAnyH_done (by kernel_rfl) ?_ _
     gi_wp2
     have e1:firstF (pre++[x])=firstF pre:=by
      rw [FS.out];unfold addF;rw [ST.out]
      have:=I0.out
      simp only [Bool.false_eq_true,if_false]
      exact OUT.out.symm
     refine ⟨T,?_,(Kept.refl _ W).drew,fun _ _ h=>h⟩
     obtain ⟨u,t1,t2,t3,t4,t5,t6⟩:=I0.out
     exact ⟨u,t1,t2,t3,by rw [e1];exact t4,t5,t6⟩
    ·
     have ST:=Lib.hid (stays_yes J.out Y.out he)
     have HE:=Lib.hid he;clear he y0
     gi_wp2
     have he:=HE.out;have y0:=Y0.out
     refine round_region (S:=(fun w'=>w'.cell? ⟨w1.heap.size,0,none⟩=some (.slice (some ⟨g,0,none⟩) out.length cap)∧w'.cell? ⟨g,j * 3,none⟩=some (.string y.k)∧w'.cell? ⟨b,0,none⟩=some (.string x.k))) k _ (by kernel_rfl) (by kernel_rfl) (by rintro ⟨_,_,h⟩;exact h) ?_ (fun hHeld=>?_)
     ·exact ⟨h1,y0,c0⟩
     refine tW 0 opAt0 hHeld ?_
     try simp only [Act.put,z2,List.set]
     refine tW 1 opAt1 hHeld ?_
     try simp only [Act.put,z2,List.set]
     refine tW 2 opAt2 hHeld ?_
     try simp only [Act.put,z2,List.set]
     refine tW 3 opAt3 hHeld ?_
     try simp only [Act.put,z2,List.set]
     refine tW 4 opAt4 hHeld ?_
     try simp only [Act.put,z2,List.set]
     refine tW 5 opAt5 hHeld ?_
     try simp only [Act.put,z2,List.set]
     refine tW 6 opAt6 hHeld ?_
     try simp only [Act.put,z2,List.set]
     refine tW 7 opAt7 hHeld ?_
     try simp only [Act.put,z2,List.set]
     refine tW 8 opAt8 hHeld ?_
     try simp only [Act.put,z2,List.set]
     refine tW 9 opAt9 hHeld ?_
     try simp only [Act.put,z2,List.set]
     refine tW 10 opAt10 hHeld ?_
     try simp only [Act.put,z2,List.set]
     refine tW 11 opAt11 hHeld ?_
     try simp only [Act.put,z2,List.set]
     refine wpAnyH_done (by kernel_rfl) ?_ _
     gi_wp2_with (gi_at_builtin;refine in_append _ rfl _ _ 65 rfl w.heap.size 132 i0 _ 3 40 Tryz.underlying65 hi hz0 hz1 hz2 rfl (by decide) _ _ _ rfl (World.ownsRow.drew (World.ownsRow.alloc HR.out _)) ⟨W.heap.size,0,none⟩ 1 1 [.string x.k,.int .i64 x.s,.string x.v] rfl ?q1 ?q2 ?q3 ?q4 ?q5 ?q6 ?_)
     case q1=>rfl
     case q2=>exact World.news_of_block (w:=(W.alloc (Obj.cells #[Value.string x.k,Value.int .i64 x.s,Value.string x.v] 132)).drew) (heap_alloc_new W _)
     case q3=>intro u hu;simp at hu;rcases hu with rfl | rfl | rfl <;> rfl
     case q4=>unfold maxLen;omega
     case q5=>omega
     case q6=>have:=H5.out;show w.heap.size≤(W.alloc _).heap.size;simp;omega
     intro v' w9 hown' hgrow hat
     obtain ⟨g',cap',rfl⟩:∃ g cap,v' = .slice (some ⟨g,0,none⟩) (out.length+1) cap:=by
      rcases row_form hown' with ⟨_,h⟩ | ⟨g,c,h,_⟩
      ·omega
      ·exact ⟨g,c,h⟩
     have KG:=grown_kept hgrow
     have s0:=KG.cell (a:=⟨w1.heap.size,0,none⟩) (v:=.slice (some ⟨g,0,none⟩) out.length cap) (by simp [go_sem,h1,hBl]) a1
     have sf:=KG.frozen (a:=⟨w1.heap.size,0,none⟩) (by simp [go_sem,h2,hBl]) (by simp;omega) a1
     have k9:Kept (fun k=>(Value.slice (some ⟨g,0,none⟩) out.length cap).ownBlock=some k) W w9:=(((Kept.refl (fun _=>False) W).alloc (.cells #[.string x.k,.int .i64 x.s,.string x.v] 132)).drew).trans KG (fun _ _ f=>f.elim) (fun _ _ h=>h)
     have at9:(Value.slice (some ⟨g',0,none⟩) (out.length+1) cap').ownBlock=(Value.slice (some ⟨g,0,none⟩) out.length cap).ownBlock∨∀ b,(Value.slice (some ⟨g',0,none⟩) (out.length+1) cap').ownBlock=some b→W.heap.size≤b:=by
      rcases hat with e | e
      ·exact .inl e
      ·right; intro b hb
       rw [hb] at e
       have h:=Option.some.inj e
       have h2:(W.alloc (Obj.cells #[Value.string x.k,Value.int .i64 x.s,Value.string x.v] 132)).heap.size=W.heap.size+1:=by simp
       have h3:(W.alloc (Obj.cells #[Value.string x.k,Value.int .i64 x.s,Value.string x.v] 132)).drew.heap.size=(W.alloc (Obj.cells #[Value.string x.k,Value.int .i64 x.s,Value.string x.v] 132)).heap.size:=rfl
       omega
     have FIN:=Lib.hid (ADD.out ST.out _ _ w9 hown' k9 at9)
     clear hown' hgrow hat KG k9 at9
     gi_wp2
     exact FIN.out
  case done=>
   rintro D T' W ⟨u,hT,h1,h2,h3,h4,h5⟩ hTD hk ht hD hDe
   gi_wp2
   refine ⟨by simp,.inl ⟨_,_,rfl,run_takeDeferred hDe,?_⟩⟩
   refine ⟨_,by simp [results,Tryz.results133,go_sem];try rfl,?_⟩
   refine ⟨?_,.inr ⟨HA.out,u,rfl,?_⟩⟩
   ·refine (KK1.out.trans (k0.trans hk (T := fun b => w.heap.size ≤ b) (fun _ _ f => f.elim) (fun b hb h => ?_)) (fun _ _ f => f) (fun b hb h => by omega)).trans (kept_put W D _) (fun _ _ h => h) (fun b hb e => by omega)
    rcases h with h | h
    ·omega
    ·exact IT.out.ownI_ge b h
   ·rw [E1.out] at h3
    exact own_keptS h3 (kept_put W D _) (fun b hb e=>hTD ((hT D).2 (.inr (e ▸ hb))))
end
end Go.Proofs.YthknocapablpaaaGreatDoor.Mg
