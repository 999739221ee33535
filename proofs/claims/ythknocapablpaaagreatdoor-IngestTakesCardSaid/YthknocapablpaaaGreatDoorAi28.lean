/- A part of the proof. -/
import Derived.Test.YthknocapablpaaaGreatDoorAi25
import Derived.Test.YthknocapablpaaaGreatDoorAi27
namespace Go.Proofs.YthknocapablpaaaGreatDoor
/- Sorted pages, plainly: where a cell more goes. -/
section
open Go.RowKit

def SortedC (l:List Cel):Prop:=l.Pairwise fun a b=>cmpC a b<0
theorem sorted_mono {l:List Cel}{t:Cel}(h:SortedC l)(x y:Nat)(c d:Cel)(hxy:x≤y)(hx:l[x]? = some c)(hy:l[y]? = some d)(hd:cmpC d t<0):cmpC c t<0:=by
 rcases Nat.lt_or_ge x y with hl | hl
 ·obtain ⟨qx, ex⟩ := List.getElem?_eq_some_iff.1 hx
  obtain ⟨qy,ey⟩:=List.getElem?_eq_some_iff.1 hy
  have:=List.pairwise_iff_getElem.1 h x y qx qy hl
  rw [ex,ey] at this
  exact cmpC_is.lt_le this (by omega)
 ·have : x = y := by omega
  subst this
  rw [hx] at hy
  cases hy
  exact hd
/-- A list with a cell more, where it belongs. -/
def Ins (l:List Cel)(c:Cel)(l':List Cel):Prop:=∃ A B,l=A++B∧l'=A++c::B∧(∀ a∈A,cmpC a c<0)∧∀ b∈B,0<cmpC b c
theorem Ins.sorted {l l':List Cel}{c:Cel}(h:Ins l c l')(hs:SortedC l):SortedC l':=by
 obtain ⟨A,B,rfl,rfl,hA,hB⟩:=h
 unfold SortedC at *
 rw [List.pairwise_append] at hs ⊢
 rw [List.pairwise_cons]
 refine ⟨hs.1,⟨fun b hb=>(cmpC_is.anti c b).2 (hB b hb),hs.2.1⟩,fun a ha b hb=>?_⟩
 rcases List.mem_cons.1 hb with rfl | hb
 ·exact hA a ha
 ·exact hs.2.2 a ha b hb
theorem Ins.perm {l l':List Cel}{c:Cel}(h:Ins l c l'):l'.Perm (c::l):=by
 obtain ⟨A,B,rfl,rfl,_,_⟩:=h
 exact List.perm_middle
theorem sorted_pages {ps:List Pg}(h:SortedC (allP ps)):(∀ p∈ps,SortedC p.l)∧∀ (x y:Nat)(p q:Pg),x<y→ps[x]? = some p→ps[y]? = some q→∀ a∈p.l,∀ b∈q.l,cmpC a b<0:=by
 unfold SortedC allP at h
 rw [List.pairwise_flatMap] at h
 refine ⟨h.1,fun x y p q hxy hx hy a ha b hb=>?_⟩
 obtain ⟨qx,ex⟩:=List.getElem?_eq_some_iff.1 hx
 obtain ⟨qy,ey⟩:=List.getElem?_eq_some_iff.1 hy
 have:=List.pairwise_iff_getElem.1 h.2 x y qx qy hxy
 rw [ex,ey] at this
 exact this a ha b hb
theorem way_lt {p:Pg}{t:Cel}(hne:p.l≠[]):(p.way t<0→∃ a∈p.l,cmpC a t≤0)∧(0≤p.way t→∀ q:Cel,p.l[0]? = some q→0<cmpC q t):=by
 obtain ⟨g,o,l,cap⟩:=p
 cases l with
 | nil=>exact absurd rfl hne
 | cons a l=>
  unfold Pg.way behindI
  simp only
  split
  ·rename_i h
   refine ⟨fun e=>by omega,fun _ q hq=>?_⟩
   simp at hq
   subst hq
   omega
  ·rename_i h
   exact ⟨fun _=>⟨a,by simp,by omega⟩,fun e=>by omega⟩
theorem way_mono {ps:List Pg}{t:Cel}(h:SortedC (allP ps))(hne:∀ p∈ps,p.l≠[])(x y:Nat)(c d:Pg)(hxy:x≤y)(hx:ps[x]? = some c)(hy:ps[y]? = some d)(hd:d.way t<0):c.way t<0:=by
 rcases Nat.lt_or_ge x y with hl | hl
 ·obtain ⟨b, hb, hbt⟩ := (way_lt (hne d (List.mem_of_getElem? hy))).1 hd
  rcases way_ne c t with e | e
  ·have hc := hne c (List.mem_of_getElem? hx)
   obtain ⟨a,ha⟩:∃ a,c.l[0]? = some a:=⟨_,List.getElem?_eq_getElem (List.length_pos_iff.2 hc)⟩
   have h1:=(way_lt (t:=t) hc).2 (by omega) a ha
   have h2:=(sorted_pages h).2 x y c d hl hx hy a (List.mem_of_getElem? ha) b hb
   have:=cmpC_is.lt_le h2 hbt
   omega
  ·omega
 ·have : x = y := by omega
  subst this
  rw [hx] at hy
  cases hy
  exact hd
theorem allP_append (a b:List Pg):allP (a++b)=allP a++allP b:=by simp [allP]
theorem split_list {ps:List Pg}{k:Nat}{p:Pg}(h:ps[k]? = some p):ps=ps.take k++p::ps.drop (k+1):=by
 obtain ⟨hk,e⟩:=List.getElem?_eq_some_iff.1 h
 rw [← e]
 simp
theorem mem_allP {ps:List Pg}{a:Cel}:a∈allP ps ↔ ∃ p∈ps,a∈p.l:=by simp [allP]
theorem ins_plain {ps:List Pg}{k i n:Nat}{p:Pg}{t:Cel}(hs:SortedC (allP ps))(hne:∀ p∈ps,p.l≠[])(hi:SplitPg ps t i)(hk:k=i - 1)(hp:ps[k]? = some p)(ha:SplitAt p.l t n)(hno:∀ d∈allP ps,cmpC d t≠0) :
  Ins (allP ps) t (allP (ps.take k)++insAt p.l n t++allP (ps.drop (k+1))):=by
 obtain ⟨s1,s2⟩:=sorted_pages hs
 have hpm:p∈ps:=List.mem_of_getElem? hp
 have hpl:∀ a∈p.l,a∈allP ps:=fun a h=>mem_allP.2 ⟨p,hpm,h⟩
 refine ⟨allP (ps.take k)++p.l.take n,p.l.drop n++allP (ps.drop (k+1)),?_,?_,?_,?_⟩
 ·conv => lhs; rw [split_list hp, allP_append]
  rw [show allP (p::ps.drop (k+1))=p.l++allP (ps.drop (k+1)) by simp [allP]]
  conv=>lhs;rw [← List.take_append_drop n p.l]
  simp only [List.append_assoc]
 ·unfold insAt
  simp only [List.append_assoc,List.cons_append]
 ·intro a h
  rcases List.mem_append.1 h with h | h
  ·obtain ⟨q, hq, haq⟩ := mem_allP.1 h
   obtain ⟨x,hx,e⟩:=List.getElem_of_mem hq
   rw [List.length_take] at hx
   have hqx:ps[x]? = some q:=by
    rw [← e,List.getElem_take]
    exact List.getElem?_eq_getElem (by omega)
   have hw:=hi.2.1 k p (by omega) hp
   obtain ⟨b,hb,hbt⟩:=(way_lt (hne p hpm)).1 hw
   exact cmpC_is.lt_le (s2 x k q p (by omega) hqx hp a haq b hb) hbt
  ·obtain ⟨x, hx, e⟩ := List.getElem_of_mem h
   rw [List.length_take] at hx
   refine ha.2.1 x a (by omega) ?_
   rw [← e,List.getElem_take]
   exact List.getElem?_eq_getElem (by omega)
 ·intro b h
  rcases List.mem_append.1 h with h | h
  ·obtain ⟨x, hx, e⟩ := List.getElem_of_mem h
   rw [List.length_drop] at hx
   have h1:=ha.2.2 (n+x) b (by omega) (by rw [← e,List.getElem_drop];exact List.getElem?_eq_getElem (by omega))
   have h2:=hno b (hpl b (List.mem_of_mem_drop h))
   omega
  ·obtain ⟨q, hq, hbq⟩ := mem_allP.1 h
   obtain ⟨y,hy,e⟩:=List.getElem_of_mem hq
   rw [List.length_drop] at hy
   have hqy:ps[k+1+y]? = some q:=by
    rw [← e,List.getElem_drop]
    exact List.getElem?_eq_getElem (by omega)
   have hqm:q∈ps:=List.mem_of_getElem? hqy
   have hw:=hi.2.2 (k+1+y) q (by omega) hqy
   have hne':=hne q hqm
   obtain ⟨f,hf⟩:∃ f,q.l[0]? = some f:=⟨_,List.getElem?_eq_getElem (List.length_pos_iff.2 hne')⟩
   have hft:=(way_lt hne').2 hw f hf
   obtain ⟨z,hz,ez⟩:=List.getElem_of_mem hbq
   rcases Nat.eq_zero_or_pos z with h0 | h0
   ·subst h0
    rw [List.getElem?_eq_getElem hz,ez] at hf
    cases hf
    exact hft
   ·obtain ⟨q0, e0⟩ := List.getElem?_eq_some_iff.1 hf
    have h3:=List.pairwise_iff_getElem.1 (s1 q hqm) 0 z q0 hz h0
    rw [e0,ez] at h3
    have h4:=(cmpC_is.anti t f).2 hft
    have h5:=cmpC_is.lt_le h4 (Int.le_of_lt h3)
    exact (cmpC_is.anti t b).1 h5
end
/- A memory of pages, where it lies. -/
section
open Go.RowKit Go.Lib Go.Eng

theorem RowB.set {w:World}{e g n cap k:Nat}{xs:List Value}{u:Value}(h:RowB w e 1 g n cap xs):RowB (w.setCell ⟨g,k,none⟩ u) e 1 g n cap (xs.set k u):=by
 obtain ⟨h1,h2,C,hg,h3,h4⟩:=h
 have hgl:g<w.heap.size:=(Array.getElem?_eq_some_iff.1 hg).1
 have hv:w.heap[g] = .cells C e (0,0):=(Array.getElem?_eq_some_iff.1 hg).2
 refine ⟨by rw [List.length_set];exact h1,h2,C.setIfInBounds k u,?_,by simpa using h3,?_⟩
 ·unfold World.setCell
  rw [Array.getElem?_eq_getElem (by simpa using hgl),Array.getElem_modify]
  simp [hv]
 ·rw [← h4]
  rw [Nat.mul_one]
  simp [List.take_set]
/-- A memory that has cells: its struct, its row of pages, its pages; 'own' are the blocks that may turn. -/
structure MemN (mx:Nat) (own:Nat→Prop) (w:World) (m G cap:Nat) (ps:List Pg):Prop where
 c0:w.cell? ⟨m,0,none⟩=some (.bool true)
 c1:w.cell? ⟨m,1,none⟩=some (.slice (some ⟨G,0,none⟩) ps.length cap)
 fz:w.frozen? ⟨m,1,none⟩=false
 row:RowB w 305 1 G ps.length cap (ps.map Pg.val)
 om:own m
 oG:own G
 hG:G≠m
 pg:∀ p∈ps,PgB w p∧p.l.length≤mx∧own p.g∧p.g≠m∧p.g≠G
 ap:ps.Pairwise fun p q=>p.g≠q.g
 ob:∀ b,own b→b<w.heap.size
structure MemE (own:Nat→Prop) (w:World) (m:Nat):Prop where
 c0:w.cell? ⟨m,0,none⟩=some (.bool true)
 c1:w.cell? ⟨m,1,none⟩=some (.slice none 0 0)
 fz:w.frozen? ⟨m,1,none⟩=false
 om:own m
 ob:∀ b,own b→b<w.heap.size
def MemB (own:Nat→Prop)(w:World)(m:Nat)(ps:List Pg):Prop:=(ps=[]∧MemE own w m)∨(ps≠[]∧∃ G cap,MemN 16 own w m G cap ps)
theorem MemE.kept {own S:Nat→Prop}{w w':World}{m:Nat}(M:MemE own w m)(K:Kept S w w')(hS:∀ b,own b→¬ S b):MemE own w' m:=
 ⟨K.cell M.c0 (hS _ M.om),K.cell M.c1 (hS _ M.om),K.frozen M.fz (M.ob _ M.om) (hS _ M.om),M.om,fun b h=>Nat.lt_of_lt_of_le (M.ob b h) K.size⟩
theorem MemN.kept {mx:Nat}{own S:Nat→Prop}{w w':World}{m G cap:Nat}{ps:List Pg}(M:MemN mx own w m G cap ps)(K:Kept S w w')(hS:∀ b,own b→¬ S b):MemN mx own w' m G cap ps:=
 ⟨K.cell M.c0 (hS _ M.om),K.cell M.c1 (hS _ M.om),K.frozen M.fz (M.ob _ M.om) (hS _ M.om),M.row.kept K (hS _ M.oG),M.om,M.oG,M.hG,fun p hp=>⟨(M.pg p hp).1.kept K (hS _ (M.pg p hp).2.2.1),(M.pg p hp).2⟩,M.ap,fun b h=>Nat.lt_of_lt_of_le (M.ob b h) K.size⟩
theorem MemB.kept {own S:Nat→Prop}{w w':World}{m:Nat}{ps:List Pg}(M:MemB own w m ps)(K:Kept S w w')(hS:∀ b,own b→¬ S b):MemB own w' m ps:=by
 rcases M with ⟨e,M⟩ | ⟨e,G,cap,M⟩
 ·exact .inl ⟨e,M.kept K hS⟩
 ·exact .inr ⟨e,G,cap,M.kept K hS⟩
theorem MemN.pages {mx:Nat}{own:Nat→Prop}{w:World}{m G cap:Nat}{ps:List Pg}(M:MemN mx own w m G cap ps):PagesR w (some ⟨G,0,none⟩) ps:=by
 refine .inr ⟨G,0,rfl,fun j p hj=>⟨?_,(M.pg p (List.mem_of_getElem? hj)).1.ok⟩⟩
 rw [Nat.zero_add]
 exact M.row.cell (by rw [List.getElem?_map,hj];rfl)
end
/- memory's Put, into a memory without cells. -/
section
set_option maxRecDepth 100000
open Go.RowKit Go.Lib Go.Eng

/-- What Put leaves. -/
def PutM (own:Nat→Prop)(w w':World)(m:Nat)(c:Cel)(ps:List Pg):Prop:=∃ (own':Nat→Prop)(ps':List Pg),MemB own' w' m ps'∧Ins (allP ps) c (allP ps')∧(∀ b,own b→own' b)∧(∀ b,own' b→own b∨w.heap.size≤b)∧Kept own w w'
theorem frozen_setCell {w:World}{a:Addr}{v:Value}{p:Addr}:(w.setCell a v).frozen? p=w.frozen? p:=by
 simp [go_sem]
set_option maxHeartbeats 4000000 in
theorem mput_nil {own:Nat→Prop}{w:World}{m:Nat}{c:Cel}(M:MemE own w m)(hc:mayC c=true) :
  Calls Tryz.prog 124 #[.pointer (some ⟨m,0,none⟩),c.val] w fun e w'=>e = .returned (.int .i64 0)∧PutM own w w' m c []:=by
 obtain ⟨g,hg⟩:∃ g,w.heap.size=g:=⟨_,rfl⟩
 obtain ⟨W0,hW0⟩:∃ W,w.alloc (Obj.cells #[.string c.k,.int .i64 c.s,.string c.v] 132)=W:=⟨_,rfl⟩
 have k0:Kept (fun _=>False) w W0:=by rw [← hW0];exact (Kept.refl _ _).alloc _
 have T0:CelAt W0 g 0 c:=by rw [← hW0,← hg];exact ⟨by simp [go_sem],by simp [go_sem],by simp [go_sem]⟩
 have MM:=Lib.hid (M.kept k0 (fun _ _ f=>f))
 have x0:=MM.out.c0
 have x1:=MM.out.c1
 have xf:=MM.out.fz
 obtain ⟨y0,y1,y2⟩:=T0
 have K0:=Lib.hid k0
 have GL:=Lib.hid (show g<W0.heap.size by rw [← hW0,← hg];simp)
 have MY:=Lib.hid (fun (W:World)=>may_any c W)
 rw [hc] at MY
 obtain ⟨ck,cs,cv⟩:=c
 unfold Cel.val at MY ⊢
 simp only [Nat.zero_add] at y0 y1 y2
 clear k0 M hc
 go_enter Tryz.func124,Tryz.ntmps124
 go_wp2_with (go_at_call 203;refine (MY.out _).mono ?_;rintro e w4 ⟨rfl,kk⟩;(have z1:=kk.cell x1 (fun f=>f));(have zf:=kk.frozen xf (MM.out.ob _ MM.out.om) (fun f=>f));(have z2:=kk.cell y0 (fun f=>f));(have z3:=kk.cell y1 (fun f=>f));(have z4:=kk.cell y2 (fun f=>f));(have zl:=World.block_lt_of_cell? _ _ z1);(have KK:=Lib.hid kk);clear kk)
 go_ret
 refine ⟨rfl,?_⟩
 have z0:=KK.out.cell x0 (fun f=>f)
 have K4:Kept (fun _=>False) w w4:=K0.out.trans KK.out (fun _ _ f=>f) (fun _ _ f=>f)
 have M4:=MM.out.kept KK.out (fun _ _ f=>f)
 obtain ⟨v,hv⟩:∃ v,Value.slice (some ⟨w4.heap.size+1,0,none⟩) 1 1=v:=⟨_,rfl⟩
 obtain ⟨q,hq⟩:∃ q,w4.heap.size=q:=⟨_,rfl⟩
 rw [hv]
 obtain ⟨w5,hw5⟩:∃ w5,w4.setCell ⟨m,1,none⟩ v=w5:=⟨_,rfl⟩
 rw [hw5]
 have k5:Kept own w4 w5:=by rw [← hw5];exact (Kept.refl _ _).setAt (fun _=>M4.om)
 have s5:w5.heap.size=q:=by rw [← hw5,← hq];simp
 have a0:w5.cell? ⟨m,0,none⟩=some (.bool true):=by rw [← hw5];simp [go_sem,z0]
 have a1:w5.cell? ⟨m,1,none⟩=some v:=by rw [← hw5];simp [go_sem,z1]
 have a2:w5.frozen? ⟨m,1,none⟩=false:=by rw [← hw5,frozen_setCell];exact zf
 obtain ⟨A,hA⟩:∃ A,Obj.cells #[Value.string ck,.int .i64 cs,.string cv] 132=A:=⟨_,rfl⟩
 obtain ⟨B,hB⟩:∃ B,Obj.cells #[Value.slice (some ⟨w4.heap.size,0,none⟩) 1 1] 305=B:=⟨_,rfl⟩
 rw [hA,hB]
 have h1:=heap_first w5 A B
 have h2:=heap_second w5 A B
 rw [s5] at h1 h2
 have k7:Kept own w5 ((w5.alloc A).alloc B):=((Kept.refl _ _).alloc _).alloc _
 have s7:((w5.alloc A).alloc B).heap.size=q+2:=by simp [s5]
 obtain ⟨w7,hw7⟩:∃ w7,(w5.alloc A).alloc B=w7:=⟨_,rfl⟩
 have k7':Kept (fun _=>False) w5 ((w5.alloc A).alloc B):=((Kept.refl _ _).alloc _).alloc _
 rw [hw7] at h1 h2 k7 s7 k7' ⊢
 have lm:∀ b,own b→b<q:=fun b hb=>by have:=M4.ob b hb;omega
 have lw:w.heap.size≤q:=by have:=K4.size;omega
 refine ⟨fun b=>own b∨b=q∨b=q+1,[⟨q,0,[⟨ck,cs,cv⟩],1⟩],.inr ⟨by simp,q+1,1,?_⟩,⟨[],[],rfl,rfl,by simp,by simp⟩,fun b h=>.inl h,fun b h=>?_,(K4.trans k5 (fun _ _ f=>f.elim) (fun _ _ f=>f)).trans k7 (fun _ _ f=>f) (fun _ _ f=>f)⟩
 ·refine ⟨k7'.cell a0 (fun f => f), ?_, k7'.frozen a2 (by rw [s5]; exact lm _ M4.om) (fun f => f), ?_, .inl M4.om, .inr (.inr rfl), fun e => ?_, fun p hp => ?_, List.pairwise_singleton _ _, fun b h => ?_⟩
  ·rw [k7'.cell a1 (fun f => f), ← hv, hq]
   rfl
  ·refine ⟨rfl,Nat.le_refl _,_,by rw [h2,← hB],by simp,by simp [Pg.val,hq]⟩
  ·have:=lm _ M4.om;omega
  ·rw [List.mem_singleton] at hp
   subst hp
   refine ⟨⟨rfl,by simp,rfl,Nat.le_refl _,_,by rw [h1,← hA],by simp,by simp [cellsC]⟩,by simp,.inr (.inl rfl),fun e=>?_,fun e=>?_⟩
   ·simp only at e;have:=lm _ M4.om;omega
   ·simp only at e;omega
  ·rw [s7]
   rcases h with h | h | h
   ·have:=lm b h;omega
   ·omega
   ·omega
 ·rcases h with h | h | h
  ·exact .inl h
  ·exact .inr (by omega)
  ·exact .inr (by omega)
end
/- A memory behind a cell more: in a page that has room, or in two. -/
section
open Go.RowKit Go.Lib Go.Eng

theorem MemN.put {own:Nat→Prop}{w w':World}{m G cap:Nat}{A B:List Pg}{p p':Pg}(M:MemN 16 own w m G cap (A++p::B))(K:Kept (fun b=>b=p.g) w w')(P:PgB w' p')(hl:p'.l.length≤17)(hg:p'.g=p.g∨w.heap.size≤p'.g) :
  MemN 17 (fun b=>own b∨b=p'.g) (w'.setCell ⟨G,A.length,none⟩ p'.val) m G cap (A++p'::B)∧Kept (fun b=>b=G) w' (w'.setCell ⟨G,A.length,none⟩ p'.val):=by
 have hp:=M.pg p (by simp)
 have k8:Kept (fun b=>b=G) w' (w'.setCell ⟨G,A.length,none⟩ p'.val):=(Kept.refl _ _).setAt (fun _=>rfl)
 have pG:p'.g≠G:=by
  rcases hg with e | e
  ·rw [e];exact hp.2.2.2.2
  ·have:=M.ob _ M.oG;omega
 have pm:p'.g≠m:=by
  rcases hg with e | e
  ·rw [e];exact hp.2.2.2.1
  ·have:=M.ob _ M.om;omega
 have mp:¬ m=p.g:=fun e=>hp.2.2.2.1 e.symm
 have Gp:¬ G=p.g:=fun e=>hp.2.2.2.2 e.symm
 have mG:¬ m=G:=fun e=>M.hG e.symm
 have ap:=M.ap
 rw [List.pairwise_middle (fun h=>Ne.symm h),List.pairwise_cons] at ap
 refine ⟨⟨k8.cell (K.cell M.c0 mp) mG,?_,k8.frozen (K.frozen M.fz (M.ob _ M.om) mp) (Nat.lt_of_lt_of_le (M.ob _ M.om) K.size) mG,?_,.inl M.om,.inl M.oG,M.hG,fun q hq=>?_,?_,fun b h=>?_⟩,k8⟩
 ·have := k8.cell (K.cell M.c1 mp) mG
  rw [this]
  simp
 ·have := (M.row.kept K Gp).set (k := A.length) (u := p'.val)
  have e:((A++p::B).map Pg.val).set A.length p'.val=(A++p'::B).map Pg.val:=by simp
  rw [e] at this
  rw [show (A++p'::B).length=(A++p::B).length by simp]
  exact this
 ·rcases List.mem_append.1 hq with h | h
  ·obtain ⟨a1, a2, a3, a4, a5⟩ := M.pg q (by simp [h])
   have:=ap.1 q (by simp [h])
   exact ⟨(a1.kept K (fun e=>this e.symm)).kept k8 a5,by omega,.inl a3,a4,a5⟩
  ·rcases List.mem_cons.1 h with rfl | h
   ·exact ⟨P.kept k8 pG,hl,.inr rfl,pm,pG⟩
   ·obtain ⟨a1, a2, a3, a4, a5⟩ := M.pg q (by simp [h])
    have:=ap.1 q (by simp [h])
    exact ⟨(a1.kept K (fun e=>this e.symm)).kept k8 a5,by omega,.inl a3,a4,a5⟩
 ·rw [List.pairwise_middle (fun h => Ne.symm h), List.pairwise_cons]
  refine ⟨fun q hq=>?_,ap.2⟩
  rcases hg with e | e
  ·rw [e];exact ap.1 q hq
  ·have : own q.g := (M.pg q (by rcases List.mem_append.1 hq with h | h <;> simp [h])).2.2.1
   have:=M.ob _ this
   omega
 ·rcases h with h | rfl
  ·exact Nat.lt_of_lt_of_le (M.ob b h) (Nat.le_trans K.size k8.size)
  ·exact Nat.lt_of_lt_of_le P.2.2.lt k8.size
theorem MemN.small {own:Nat→Prop}{w:World}{m G cap:Nat}{A B:List Pg}{p:Pg}(M:MemN 17 own w m G cap (A++p::B))(hl:p.l.length≤16)(h0:∀ q∈A++B,q.l.length≤16):MemN 16 own w m G cap (A++p::B):=
 ⟨M.c0,M.c1,M.fz,M.row,M.om,M.oG,M.hG,fun q hq=>by
  obtain ⟨a1,a2,a3⟩:=M.pg q hq
  refine ⟨a1,?_,a3⟩
  rcases List.mem_append.1 hq with h | h
  ·exact h0 q (by simp [h])
  ·rcases List.mem_cons.1 h with rfl | h
   ·exact hl
   ·exact h0 q (by simp [h]),M.ap,M.ob⟩
theorem MemN.split {own:Nat→Prop}{w w9 w10:World}{m G cap G' cap':Nat}{A B:List Pg}{p p1 p2:Pg}(M:MemN 17 own w m G cap (A++p::B))(h0:∀ q∈A++B,q.l.length≤16)(K9:Kept (fun _=>False) w w9)
  (P1:PgB w9 p1)(h1:p1.g=p.g)(P2:PgB w9 p2)(h2:w.heap.size≤p2.g)(l1:p1.l.length≤16)(l2:p2.l.length≤16)
  (R:RowB w10 305 1 G' (A.length+1+B.length+1) cap' (A.map Pg.val++[p1.val,p2.val]++B.map Pg.val))(hG':G'=G∨G'=w9.heap.size)(K10:Kept (fun b=>b=G) w9 w10) :
  MemN 16 (fun b=>(own b∨b=p2.g)∨b=G') (w10.setCell ⟨m,1,none⟩ (.slice (some ⟨G',0,none⟩) (A.length+1+B.length+1) cap')) m G' cap' (A++p1::p2::B)∧Kept (fun b=>b=m) w10 (w10.setCell ⟨m,1,none⟩ (.slice (some ⟨G',0,none⟩) (A.length+1+B.length+1) cap')):=by
 obtain ⟨v,hv⟩:∃ v,Value.slice (some ⟨G',0,none⟩) (A.length+1+B.length+1) cap'=v:=⟨_,rfl⟩
 rw [hv]
 have hp:=M.pg p (by simp)
 have k11:Kept (fun b=>b=m) w10 (w10.setCell ⟨m,1,none⟩ v):=(Kept.refl _ _).setAt (fun _=>rfl)
 have mG:¬ m=G:=fun e=>M.hG e.symm
 have bm:=M.ob _ M.om
 have bG:=M.ob _ M.oG
 have s9:=K9.size
 have G'm:G'≠m:=by
  rcases hG' with e | e
  ·rw [e];exact M.hG
  ·omega
 have p2lt:=P2.2.2.lt
 have big:∀ b,own b→b<w.heap.size:=M.ob
 have nG':∀ b,own b→b≠G→b≠G':=fun b h1 h2 e=>by
  rcases hG' with e2 | e2
  ·exact h2 (e.trans e2)
  ·have:=big b h1;omega
 have p2G':p2.g≠G':=fun e=>by
  rcases hG' with e2 | e2 <;> omega
 have ap:=M.ap
 rw [List.pairwise_middle (fun h=>Ne.symm h),List.pairwise_cons] at ap
 have c1:=K10.cell (K9.cell M.c1 (fun f=>f)) mG
 have old:∀ q∈A++B,PgB (w10.setCell ⟨m,1,none⟩ v) q∧q.l.length≤16∧((own q.g∨q.g=p2.g)∨q.g=G')∧q.g≠m∧q.g≠G':=fun q hq=>by
  obtain ⟨a1,_,a3,a4,a5⟩:=M.pg q (by rcases List.mem_append.1 hq with h | h <;> simp [h])
  exact ⟨((a1.kept K9 (fun f=>f)).kept K10 a5).kept k11 a4,h0 q hq,.inl (.inl a3),a4,nG' _ a3 a5⟩
 refine ⟨⟨?_,?_,?_,?_,.inl (.inl M.om),.inr rfl,G'm,fun q hq=>?_,?_,fun b h=>?_⟩,k11⟩
 ·have := K10.cell (K9.cell M.c0 (fun f => f)) mG
  simp [go_sem,this]
 ·rw [show (A ++ p1 :: p2 :: B).length = A.length + 1 + B.length + 1 by simp; omega, hv]
  simp [go_sem,c1]
 ·rw [frozen_setCell]
  exact K10.frozen (K9.frozen M.fz bm (fun f=>f)) (Nat.lt_of_lt_of_le bm s9) mG
 ·have := R.kept k11 G'm
  rw [show (A++p1::p2::B).length=A.length+1+B.length+1 by simp;omega]
  rw [show (A++p1::p2::B).map Pg.val=A.map Pg.val++[p1.val,p2.val]++B.map Pg.val by simp]
  exact this
 ·rcases List.mem_append.1 hq with h | h
  ·exact old q (by simp [h])
  ·rcases List.mem_cons.1 h with rfl | h
   ·exact ⟨(P1.kept K10 (by rw [h1];exact hp.2.2.2.2)).kept k11 (by rw [h1];exact hp.2.2.2.1),l1,.inl (.inl (by rw [h1];exact hp.2.2.1)),by rw [h1];exact hp.2.2.2.1,by rw [h1];exact nG' _ hp.2.2.1 hp.2.2.2.2⟩
   ·rcases List.mem_cons.1 h with rfl | h
    ·exact ⟨(P2.kept K10 (fun (e:q.g=G)=>by omega)).kept k11 (fun (e:q.g=m)=>by omega),l2,.inl (.inr rfl),by omega,p2G'⟩
    ·exact old q (by simp [h])
 ·have o2:∀ q∈A++B,p2.g≠q.g:=fun q hq=>by
   have:=big _ (M.pg q (by rcases List.mem_append.1 hq with h | h <;> simp [h])).2.2.1
   omega
  have hpl:=big _ hp.2.2.1
  rw [List.pairwise_middle (fun h=>Ne.symm h),List.pairwise_cons,List.pairwise_middle (fun h=>Ne.symm h),List.pairwise_cons]
  refine ⟨fun q hq=>?_,o2,ap.2⟩
  rw [h1]
  rcases List.mem_append.1 hq with h | h
  ·exact ap.1 q (by simp [h])
  ·rcases List.mem_cons.1 h with rfl | h
   ·omega
   ·exact ap.1 q (by simp [h])
 ·have s10 := K10.size
  have s11:=k11.size
  rcases h with (h | rfl) | rfl
  ·have:=big b h;omega
  ·omega
  ·have:=R.lt;omega
end
/- memory's Put, into a memory with cells. -/
section
set_option maxRecDepth 100000
open Go.RowKit Go.Lib Go.Eng

set_option maxHeartbeats 8000000 in
theorem mput_some {own:Nat→Prop}{w:World}{m G cap:Nat}{ps:List Pg}{c:Cel}(M:MemN 16 own w m G cap ps)(hc:mayC c=true)(hs:SortedC (allP ps))(hno:∀ d∈allP ps,cmpC d c≠0)(hne:ps≠[])(hl:ps.length≤10000) :
  Calls Tryz.prog 124 #[.pointer (some ⟨m,0,none⟩),c.val] w fun e w'=>e = .returned (.int .i64 0)∧PutM own w w' m c ps:=by
 obtain ⟨cb,hcb⟩:∃ g,w.heap.size=g:=⟨_,rfl⟩
 obtain ⟨W0,hW0⟩:∃ W,w.alloc (Obj.cells #[.string c.k,.int .i64 c.s,.string c.v] 132)=W:=⟨_,rfl⟩
 have k0:Kept (fun _=>False) w W0:=by rw [← hW0];exact (Kept.refl _ _).alloc _
 have T0:CelAt W0 cb 0 c:=by rw [← hW0,← hcb];exact ⟨by simp [go_sem],by simp [go_sem],by simp [go_sem]⟩
 have ob:∀ b,own b→b<cb:=fun b h=>by have:=M.ob b h;omega
 have MM:=Lib.hid (M.kept k0 (fun _ _ f=>f))
 have OB:=Lib.hid ob
 have x0:=MM.out.c0
 have x1:=MM.out.c1
 have xf:=MM.out.fz
 obtain ⟨y0,y1,y2⟩:=T0
 simp only [Nat.zero_add] at y0 y1 y2
 have K0:=Lib.hid k0
 have MY:=Lib.hid (fun (W:World)=>may_any c W)
 rw [hc] at MY
 have HNE:=Lib.hid (fun p hp=>(MM.out.pg p hp).1.2.1:∀ p∈ps,p.l≠[])
 have PA:=Lib.hid (fun (W:World) (K:Kept (fun _=>False) W0 W)=>page_any (w:=W) (t:=c) (K.cell x1 (fun f=>f)) (MM.out.pages.kept K) (by omega) (way_mono hs HNE.out))
 have SO:=Lib.hid hs
 have NO:=Lib.hid hno
 have NE:=Lib.hid hne
 obtain ⟨n,hn⟩:∃ n,ps.length=n:=⟨_,rfl⟩
 have HN:=Lib.hid hn
 have HL:=Lib.hid hl
 have n0:¬ ((n:Int)=0):=by
  intro e
  have:ps.length=0:=by omega
  exact hne (List.eq_nil_of_length_eq_zero this)
 rw [hn] at x1
 obtain ⟨ck,cs,cv⟩:=c
 unfold Cel.val at MY PA ⊢
 simp only at y0 y1 y2
 clear k0 M hc hs hno hne hn hl ob
 go_enter Tryz.func124,Tryz.ntmps124
 go_wp2_with (first
  | (go_at_call 203;refine (MY.out _).mono ?_;rintro e w4 ⟨rfl,kk⟩;(have z1:=kk.cell x1 (fun f=>f));(have zf:=kk.frozen xf (MM.out.ob _ MM.out.om) (fun f=>f));(have z2:=kk.cell y0 (fun f=>f));(have z3:=kk.cell y1 (fun f=>f));(have z4:=kk.cell y2 (fun f=>f));(have KK:=Lib.hid kk);clear kk x1 xf y0 y1 y2)
  | (go_at_call 204;refine (PA.out _ KK.out).mono ?_;rintro e w5 ⟨⟨i,hi,rfl⟩,kk⟩;(have u1:=kk.cell z1 (fun f=>f));(have uf:=kk.frozen zf (World.block_lt_of_cell? _ _ z1) (fun f=>f));(have u2:=kk.cell z2 (fun f=>f));(have u3:=kk.cell z3 (fun f=>f));(have u4:=kk.cell z4 (fun f=>f));(have K5:=Lib.hid (KK.out.trans kk (fun _ _ f=>f) (fun _ _ f=>f)));(have HI:=Lib.hid hi);clear kk hi z1 zf z2 z3 z4))
 obtain ⟨k,hk⟩:∃ k,i - 1=k:=⟨_,rfl⟩
 have hkn:k<ps.length:=by
  have h1:=HI.out.1
  have h2:=List.length_pos_iff.2 NE.out
  omega
 have HK:=Lib.hid hk
 rw [hk]
 obtain ⟨p,hp⟩:∃ p,ps[k]? = some p:=⟨_,List.getElem?_eq_getElem hkn⟩
 have hpm:=List.mem_of_getElem? hp
 obtain ⟨pb,pl16,pown,pm,pG⟩:=MM.out.pg p hpm
 have PB:=Lib.hid (pb.kept K5.out (fun f=>f))
 have rc:W0.cell? ⟨G,k,none⟩=some p.val:=MM.out.row.cell (by rw [List.getElem?_map,hp];rfl)
 have r5:=K5.out.cell rc (fun f=>f)
 have gf:w5.frozen? ⟨G,k,none⟩=false:=by
  obtain ⟨_,_,C,hg,_⟩:=MM.out.row.kept K5.out (fun f=>f)
  exact frozen0 hg k
 have i1:(k:Int)<(n:Int):=by have:=HN.out;omega
 have i2:(0:Int)≤(k:Int):=by omega
 have HP:=Lib.hid hp
 have SC:=Lib.hid ((sorted_pages SO.out).1 p hpm)
 have NP:=Lib.hid (fun d hd=>NO.out d (mem_allP.2 ⟨p,hpm,hd⟩):∀ d∈p.l,cmpC d ⟨ck,cs,cv⟩≠0)
 have POWN:=Lib.hid pown
 obtain ⟨g,o,l,cp⟩:=p
 have ho:=PB.out.1
 simp only at ho pl16 pm pG
 subst ho
 have BS:=Lib.hid (fun (W:World) (K:Kept (fun _=>False) w5 W)=>(bsearch_any (w:=W) (cap:=cp) (t:=⟨ck,cs,cv⟩) (.inr ⟨g,0,rfl,fun x c hx=>((PB.out.ok.2 x c hx)).kept K⟩) (show l.length≤1000000 by omega) (sorted_mono SC.out)).mono (fun e w' h=>show (∃ j,SplitAt l ⟨ck,cs,cv⟩ j∧e = .returned (.tuple #[.int .i64 j,.bool false]))∧Kept (fun _=>False) W w' by
  obtain ⟨⟨j,hj,rfl⟩,kk⟩:=h
  refine ⟨⟨j,hj,?_⟩,kk⟩
  have:decide (∃ c:Cel,l[j]? = some c∧cmpC c ⟨ck,cs,cv⟩=0)=false:=by
   rw [decide_eq_false_iff_not]
   rintro ⟨c,h1,h2⟩
   exact NP.out c (List.mem_of_getElem? h1) h2
  rw [this]))
 have PI:=Lib.hid (fun (W:World) (j vb:Nat) (K:Kept (fun _=>False) w5 W) (hj:j≤l.length) (hA:W.heap[vb]? = some (.cells #[.string ck,.int .i64 cs,.string cv] 132 (0,0))) (hv:vb≠g)=>pinsert_any (w:=W) (i:=j) (vb:=vb) (vc:=1) (c:=⟨ck,cs,cv⟩) (PB.out.kept K (fun f=>f)) (show l.length≤1000 by omega) hj hA hv)
 have cg:¬ cb=g:=fun e=>by have:=OB.out g POWN.out;omega
 have mg:¬ m=g:=fun e=>pm e.symm
 have Gg:¬ G=g:=fun e=>pG e.symm
 have PL:=Lib.hid pl16
 unfold Pg.val at r5 PI
 unfold Cel.val at BS
 simp only at r5 PI
 obtain ⟨ln,hln⟩:∃ ln,l.length=ln:=⟨_,rfl⟩
 rw [hln] at r5 BS PI
 have HLN:=Lib.hid hln
 clear pb pl16 pm pG hp hpm hkn hk rc hln pown
 go_region_held3 (fun w'=>w'.cell? ⟨m,1,none⟩=some (.slice (some ⟨G,0,none⟩) n cap)∧w'.cell? ⟨G,k,none⟩=some (.slice (some ⟨g,0,none⟩) ln cp)∧w'.cell? ⟨cb,0,none⟩=some (.string ck)∧w'.cell? ⟨cb,1,none⟩=some (.int .i64 cs)∧w'.cell? ⟨cb,2,none⟩=some (.string cv)) (first | go_keep | (go_split_ands;exact ⟨kk.cell (by assumption) (fun f=>f),kk.cell (by assumption) (fun f=>f),kk.cell (by assumption) (fun f=>f),kk.cell (by assumption) (fun f=>f),kk.cell (by assumption) (fun f=>f)⟩))
  (first
   | (go_at_call 205;refine (BS.out _ (Kept.refl _ _).drew).mono ?_;rintro e w6 ⟨⟨j,hj,rfl⟩,kk⟩;(have K6:=Lib.hid ((Kept.refl (fun _=>False) w5).drew.trans kk (fun _ _ f=>f) (fun _ _ f=>f)));(have HJ:=Lib.hid hj);clear hj))
 have v1:=K6.out.cell u1 (fun f=>f)
 have v2:=K6.out.cell r5 (fun f=>f)
 have v3:=K6.out.cell u2 (fun f=>f)
 have v4:=K6.out.cell u3 (fun f=>f)
 have v5:=K6.out.cell u4 (fun f=>f)
 have v6:=K6.out.frozen gf (World.block_lt_of_cell? _ _ r5) (fun f=>f)
 have v7:=K6.out.frozen uf (World.block_lt_of_cell? _ _ u1) (fun f=>f)
 have JN:=Lib.hid (show j≤ln from by have:=HJ.out.1;have:=HLN.out;omega)
 have U:=Lib.hid (And.intro u1 (And.intro r5 (And.intro gf uf)))
 clear u1 uf r5 u2 u3 u4 gf kk
 have G6:=Lib.hid (show g<w6.heap.size from by have:=PB.out.2.2.lt;have:=K6.out.size;simp only at *;omega)
 go_wp2_with fail
 go_region_held3 (fun w'=>w'.cell? ⟨m,1,none⟩=some (.slice (some ⟨G,0,none⟩) n cap)∧w'.cell? ⟨G,k,none⟩=some (.slice (some ⟨g,0,none⟩) ln cp)∧w'.cell? ⟨cb,0,none⟩=some (.string ck)∧w'.cell? ⟨cb,1,none⟩=some (.int .i64 cs)∧w'.cell? ⟨cb,2,none⟩=some (.string cv)) (first | go_keep | (go_split_ands;exact ⟨kk.cell (by assumption) mg,kk.cell (by assumption) Gg,kk.cell (by assumption) cg,kk.cell (by assumption) cg,kk.cell (by assumption) cg⟩))
  (first
   | (go_at_call 206;refine (PI.out _ j w6.heap.size (K6.out.drew.alloc _) JN.out (heap_alloc_new w6.drew _) (by have:=G6.out;omega)).mono ?_;rintro e w7 ⟨⟨g',o',l',cp'⟩,rfl,hl',hB,hg',kk⟩;(have HL':=Lib.hid hl');(have HB:=Lib.hid hB);(have HG':=Lib.hid hg');(have K7:=Lib.hid ((K6.out.drew.alloc _).trans kk (T:=fun b=>b=g) (fun _ _ f=>f.elim) (fun _ _ f=>f)));clear hl' hB hg'))
 have ho':=HB.out.1
 simp only at ho'
 subst ho'
 have K07:=Lib.hid (K5.out.trans K7.out (T:=fun b=>b=g) (fun _ _ f=>f.elim) (fun _ _ f=>f))
 have HSP:=Lib.hid (split_list HP.out)
 obtain ⟨A,hA⟩:∃ A,ps.take k=A:=⟨_,rfl⟩
 obtain ⟨B,hB⟩:∃ B,ps.drop (k+1)=B:=⟨_,rfl⟩
 have hAl:A.length=k:=by rw [← hA,List.length_take];have:=HN.out;omega
 have hBl:B.length=n - (k+1):=by rw [← hB,List.length_drop,HN.out]
 have hl':l'.length=ln+1:=by rw [HL'.out,insAt_length (by rw [HLN.out];exact JN.out),HLN.out]
 have M8:=Lib.hid (MemN.put (A:=A) (B:=B) (p:=⟨g,0,l,cp⟩) (p':=⟨g',0,l',cp'⟩) (by have:=MM.out;rw [HSP.out,hA,hB] at this;exact this) K07.out HB.out (by have:=PL.out;have:=HLN.out;simp only;omega) (by
  rcases HG'.out with e | e
  ·exact .inl e
  ·refine .inr ?_
   have:=K5.out.size
   have:=K6.out.size
   simp only at e ⊢
   have e2:w6.heap.size≤g':=Nat.le_trans (by simp) e
   omega))
 have INS:=Lib.hid (ins_plain SO.out HNE.out HI.out HK.out.symm HP.out HJ.out NO.out)
 have q1:=K7.out.cell U.out.1 mg
 have q2:=K7.out.cell U.out.2.1 Gg
 have q3:=K7.out.frozen U.out.2.2.1 (World.block_lt_of_cell? _ _ U.out.2.1) Gg
 have q4:=K7.out.frozen U.out.2.2.2 (World.block_lt_of_cell? _ _ U.out.1) mg
 rw [hAl] at M8
 unfold Pg.val at M8
 simp only [hl'] at M8
 have hg2:=Lib.hid (show g'=g∨cb≤g' from by
  rcases HG'.out with e | e
  ·exact .inl e
  ·refine .inr ?_
   have h1:=K5.out.size
   have h2:=K6.out.size
   have h3:=K0.out.size
   have e2:w6.heap.size≤g':=Nat.le_trans (by simp) e
   omega)
 have KW:=Lib.hid (show Kept own w (w7.setCell ⟨G,k,none⟩ (.slice (some ⟨g',0,none⟩) (ln+1) cp')) from
  (K0.out.trans K07.out (T:=own) (fun _ _ f=>f.elim) (fun b _ e=>by subst e;exact POWN.out)).trans M8.out.2 (T:=own) (fun _ _ f=>f) (fun b _ e=>by subst e;exact MM.out.oG))
 have AP:=Lib.hid (show Ins (allP ps) ⟨ck,cs,cv⟩ (allP A++l'++allP B) from by
  have:=INS.out
  rw [hA,hB] at this
  rw [HL'.out]
  exact this)
 have L0:=Lib.hid (show ∀ q∈A++B,q.l.length≤16 from fun q hq=>by
  refine (MM.out.pg q ?_).2.1
  rw [HSP.out,hA,hB]
  rcases List.mem_append.1 hq with h | h <;> simp [h])
 rw [hl']
 clear hA hB HK HI HJ HP HL' HG' SO NO HNE PA BS PI SC NP v1 v2 v3 v4 v5 v6 v7 U
 by_cases hbig:16<ln+1
 ·have hb1 : ((16 : Int) < (ln : Int) + 1) := by omega
  obtain ⟨w8,hw8⟩:∃ w8,w7.setCell ⟨G,k,none⟩ (Value.slice (some ⟨g',0,none⟩) (ln+1) cp')=w8:=⟨_,rfl⟩
  rw [hw8] at M8 KW
  have r1:=M8.out.1.c1
  have r2:=M8.out.1.fz
  have hAB:(A++⟨g',0,l',cp'⟩::B).length=n:=by simp only [List.length_append,List.length_cons];omega
  rw [hAB] at r1
  have hP8:=(M8.out.1.pg ⟨g',0,l',cp'⟩ (by simp)).1
  have PT:=Lib.hid (fun (W:World) (K:Kept (fun _=>False) w8 W)=>parted_any (w:=W) (p:=⟨g',0,l',cp'⟩) (hP8.kept K (fun f=>f)) (by simp only [hl'];omega) (by have:=PL.out;have:=HLN.out;simp only [hl'];omega))
  unfold Pg.val at PT
  simp only [hl'] at PT
  have RA:=Lib.hid (fun (W:World) (vb:Nat) (v1 v2:Value) (x:Int) (K:Kept (fun _=>False) w8 W) (hx:x=(k:Int)+1) (hA:W.heap[vb]? = some (.cells #[v1,v2] 305 (0,0))) (hne:vb≠G) (h2:∀ u∈[v1,v2],u.oneCell'=true)=>
   show Calls Tryz.prog 207 #[.slice (some ⟨G,0,none⟩) n cap,.int .i64 k,.int .i64 x,.slice (some ⟨vb,0,none⟩) 2 2] W fun e w'=>∃ g' cap',e = .returned (.slice (some ⟨g',0,none⟩) (n+1) cap')∧RowB w' 305 1 g' (A.length+1+B.length+1) cap' (A.map Pg.val++[v1,v2]++B.map Pg.val)∧(g'=G∨g'=W.heap.size)∧Kept (fun b=>b=G) W w' from by
    have hk1:A.length+1+B.length=n:=by omega
    have R:=M8.out.1.row.kept K (fun f=>f)
    rw [hAB] at R
    subst hx
    refine (replace_any (vc:=2) R (show k<n by omega) (by have:=HN.out;have:=HL.out;omega) hA hne (fun u hu=>?_) h2).mono ?_
    ·obtain ⟨q, _, rfl⟩ := List.mem_map.1 hu
     rfl
    ·rintro e w' ⟨a1, a2, rfl, a3, a4, a5⟩
     refine ⟨a1,a2,rfl,?_,a4,a5⟩
     rw [hk1]
     rw [show ((A++⟨g',0,l',cp'⟩::B).map Pg.val).take k=A.map Pg.val from by rw [← hAl];simp,show ((A++⟨g',0,l',cp'⟩::B).map Pg.val).drop (k+1)=B.map Pg.val from by
      rw [show (A++⟨g',0,l',cp'⟩::B).map Pg.val=(A.map Pg.val++[Pg.val ⟨g',0,l',cp'⟩])++B.map Pg.val by simp]
      exact List.drop_left' (by simp [hAl])] at a3
     exact a3)
  have hwk:IntKind.i64.wrap ((k:Int)+1)=(k:Int)+1:=by rw [IntKind.wrap_i64];have:=HL.out;have:=HN.out;omega
  have rl:=World.block_lt_of_cell? _ _ r1
  have GL8:=Lib.hid (show G<w8.heap.size from M8.out.1.ob _ (.inl MM.out.oG))
  have mG:¬ m=G:=fun e=>M8.out.1.hG e.symm
  have HK1:=Lib.hid (show A.length+1+B.length=n from by omega)
  have HLL:=Lib.hid (show l'.length≤17 from by have:=PL.out;have:=HLN.out;omega)
  clear hP8 hAB hAl hBl
  go_wp2_with fail
  clear hw8 q1 q2 q3 q4
  go_region_with (first
   | (go_at_call 208;refine (PT.out _ ((Kept.refl _ _).drew)).mono ?_;rintro e w9 ⟨⟨g2,o2,l2,c2⟩,vb,rfl,ha9,e2,P1,P2,hg2',hvb,kk⟩;(have t1:=kk.cell r1 (fun f=>f));(have t2:=kk.frozen r2 rl (fun f=>f));(have K9:=Lib.hid ((Kept.refl (fun _=>False) w8).drew.trans kk (fun _ _ f=>f) (fun _ _ f=>f)));(have F9:=Lib.hid (And.intro ha9 (And.intro e2 (And.intro P1 (And.intro P2 (And.intro hg2' hvb))))));clear ha9 e2 P1 P2 hg2' hvb kk)
   | (go_at_call 207;refine (RA.out _ vb _ _ _ K9.out (by first | rfl | exact hwk) F9.out.1 (Nat.ne_of_gt (Nat.lt_of_lt_of_le GL8.out F9.out.2.2.2.2.2)) (by simp [Value.oneCell'])).mono ?_;rintro e w10 ⟨g3,c3,rfl,R3,G3,kk⟩;(have t3:=kk.cell t1 mG);(have t4:=kk.frozen t2 (World.block_lt_of_cell? _ _ t1) mG);(have K10:=Lib.hid kk);(have F10:=Lib.hid (And.intro R3 G3));clear kk R3 G3))
  all_goals go_wp2
  all_goals
   go_ret
   refine ⟨rfl,?_⟩
   obtain ⟨_,e2,P1,P2,hg2',_⟩:=F9.out
   have MS:=MemN.split M8.out.1 L0.out K9.out P1 rfl P2 hg2' (by simp only [List.length_take];have:=HLL.out;omega) (by simp only [e2,List.length_drop];have:=HLL.out;omega) F10.out.1 F10.out.2 K10.out
   rw [HK1.out] at MS
   have KF:Kept own w (w10.setCell ⟨m,1,none⟩ (.slice (some ⟨g3,0,none⟩) (n+1) c3)):=((KW.out.trans K9.out (T:=own) (fun _ _ f=>f) (fun _ _ f=>f.elim)).trans K10.out (T:=own) (fun _ _ f=>f) (fun b _ e=>by subst e;exact MM.out.oG)).trans MS.2 (T:=own) (fun _ _ f=>f) (fun b _ e=>by subst e;exact MM.out.om)
   refine ⟨_,_,.inr ⟨by simp,_,_,MS.1⟩,?_,fun b h=>.inl (.inl (.inl h)),fun b h=>?_,KF⟩
   ·have := AP.out
    rwa [show allP (A++_::_::B)=allP A++l'++allP B by
     simp only [allP,List.flatMap_append,List.flatMap_cons,e2]
     rw [← List.append_assoc (l'.take _),List.take_append_drop]
     simp]
   ·have k1 := KW.out.size
    have k2:=K9.out.size
    rcases h with ((h | rfl) | rfl) | rfl
    ·exact .inl h
    ·rcases hg2.out with e | e
     ·rw [e];exact .inl POWN.out
     ·exact .inr (by omega)
    ·exact .inr (Nat.le_trans k1 hg2')
    ·rcases F10.out.2 with e | e
     ·rw [e];exact .inl MM.out.oG
     ·rw [e];exact .inr (by omega)
 ·have hb1 : ¬ ((16 : Int) < (ln : Int) + 1) := by omega
  go_wp2
  go_ret
  refine ⟨rfl,fun b=>own b∨b=g',A++⟨g',0,l',cp'⟩::B,.inr ⟨by simp,G,cap,M8.out.1.small (by simp only [hl'];omega) L0.out⟩,?_,fun b h=>.inl h,fun b h=>?_,KW.out⟩
  ·have := AP.out
   rwa [show allP (A++⟨g',0,l',cp'⟩::B)=allP A++l'++allP B by simp [allP]]
  ·rcases h with h | rfl
   ·exact .inl h
   ·rcases hg2.out with e | e
    ·rw [e];exact .inl POWN.out
    ·exact .inr (by omega)
end
/- memory: plain laws of its reads. -/
section
open Go.RowKit Go.Lib Go.Eng

theorem between_list:∀ (a x:List UInt8),¬ x<a→x<a++[0]→x=a
 | [],[],_,_=>rfl
 | [],y::ys,_,h=>by
  rw [List.nil_append,List.cons_lt_cons_iff] at h
  rcases h with h | ⟨_,h⟩
  ·exact absurd h (by simp)
  ·exact absurd h (List.not_lt_nil _)
 | b::bs,[],h,_=>absurd (List.nil_lt_cons _ _) h
 | b::bs,y::ys,h,k=>by
  rw [List.cons_append,List.cons_lt_cons_iff] at k
  rw [List.cons_lt_cons_iff] at h
  rcases k with k | ⟨e,k⟩
  ·exact absurd (.inl k) h
  ·subst e
   rw [between_list bs ys (fun q=>h (.inr ⟨rfl,q⟩)) k]
theorem lt_snoc:∀ (a:List UInt8),a<a++[0]
 | []=>List.nil_lt_cons _ _
 | b::bs=>by
  rw [List.cons_append,List.cons_lt_cons_iff]
  exact .inr ⟨rfl,lt_snoc bs⟩
theorem inK_key (key k2:ByteArray)(h:k2.toList=key.toList++[0])(c:Cel):inK key k2 c=decide (c.k=key):=by
 have e:k2≠⟨#[]⟩:=fun e=>by
  rw [e] at h
  have:=congrArg List.length h
  simp at this
 unfold inK kway
 have h1:sLt c.k key=true ↔ c.k.toList<key.toList:=sLt_iff _ _
 have h2:sLt c.k k2=true ↔ c.k.toList<key.toList++[0]:=by rw [sLt_iff,h]
 by_cases hk:c.k=key
 ·have a1:¬ sLt c.k key=true:=fun q=>by
   rw [h1,hk] at q
   exact List.lt_irrefl _ q
  have a2:sLt c.k k2=true:=by
   rw [h2,hk]
   exact lt_snoc _
  rw [hk] at a1 a2
  simp [hk,a1,a2]
 ·by_cases a1 : sLt c.k key = true
  ·simp [a1,hk]
  ·have a2:¬ sLt c.k k2=true:=fun q=>by
    rw [h2] at q
    rw [h1] at a1
    exact hk (bytes_eq (between_list _ _ a1 q))
   simp [a1,a2,e,hk]
/-- The first cell of a key. -/
def getL (l:List Cel)(key:ByteArray):Option Cel:=(l.filter fun c=>decide (c.k=key)).head?
theorem key_le {c d:Cel}(h:cmpC c d<0)(k:ByteArray)(hd:kway d k<0):kway c k<0:=by
 have e:cmpS c.k d.k≤0:=by
  unfold cmpC or2 at h
  split at h
  ·omega
  ·omega
 have hk:sLt d.k k=true:=by
  unfold kway at hd
  split at hd
  ·assumption
  ·omega
 have h1:=(cmpS_lt d.k k).2 ((sLt_iff _ _).1 hk)
 have h2:=cmpS_is.le_lt e h1
 have h3:=(sLt_iff c.k k).2 ((cmpS_lt c.k k).1 h2)
 unfold kway
 rw [if_pos h3]
 omega
theorem MemB.pagesOk {own:Nat→Prop}{w:World}{m:Nat}{ps:List Pg}(M:MemB own w m ps)(hs:SortedC (allP ps)):PgsOk ps:=by
 rcases M with ⟨rfl,_⟩ | ⟨_,G,cap,M⟩
 ·intro p hp;cases hp
 ·intro p hp
  obtain ⟨a1,a2,_⟩:=M.pg p hp
  refine ⟨a1.2.2.2.1,by omega,fun k x y c d hxy hx hy hd=>?_⟩
  rcases Nat.lt_or_ge x y with hl | hl
  ·obtain ⟨qx, ex⟩ := List.getElem?_eq_some_iff.1 hx
   obtain ⟨qy,ey⟩:=List.getElem?_eq_some_iff.1 hy
   have:=List.pairwise_iff_getElem.1 ((sorted_pages hs).1 p hp) x y qx qy hl
   rw [ex,ey] at this
   exact key_le this k hd
  ·have : x = y := by omega
   subst this
   rw [hx] at hy
   cases hy
   exact hd
theorem MemB.cellR {own:Nat→Prop}{w:World}{m:Nat}{ps:List Pg}(M:MemB own w m ps):∃ ao cap,w.cell? ⟨m,1,none⟩=some (.slice ao ps.length cap)∧PagesR w ao ps:=by
 rcases M with ⟨rfl,M⟩ | ⟨_,G,cap,M⟩
 ·exact ⟨none,0,M.c1,.inl rfl⟩
 ·exact ⟨_,cap,M.c1,M.pages⟩
theorem MemB.small {own:Nat→Prop}{w:World}{m:Nat}{ps:List Pg}(M:MemB own w m ps):ps.length≤(allP ps).length:=by
 have h:∀ p∈ps,p.l≠[]:=by
  rcases M with ⟨rfl,M⟩ | ⟨_,G,cap,M⟩
  ·intro p hp;cases hp
  ·exact fun p hp=>(M.pg p hp).1.2.1
 clear M
 induction ps with
 | nil=>simp
 | cons p ps ih=>
  have h1:=ih (fun q hq=>h q (by simp [hq]))
  have h2:=List.length_pos_iff.2 (h p (by simp))
  simp [allP] at h1 ⊢
  omega
/-- memory's Put. -/
theorem mput_any {own:Nat→Prop}{w:World}{m:Nat}{c:Cel}{ps:List Pg}(M:MemB own w m ps)(hc:mayC c=true)(hs:SortedC (allP ps))(hno:∀ d∈allP ps,cmpC d c≠0)(hl:(allP ps).length≤10000) :
  Calls Tryz.prog 124 #[.pointer (some ⟨m,0,none⟩),c.val] w fun e w'=>e = .returned (.int .i64 0)∧PutM own w w' m c ps:=by
 have hle:=M.small
 rcases M with ⟨rfl,M⟩ | ⟨hne,G,cap,M⟩
 ·exact mput_nil M hc
 ·exact mput_some M hc hs hno hne (by omega)
end
end Go.Proofs.YthknocapablpaaaGreatDoor
