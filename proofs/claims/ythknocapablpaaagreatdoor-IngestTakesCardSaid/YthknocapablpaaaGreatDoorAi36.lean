/- A part of the proof. -/
import Derived.Test.YthknocapablpaaaGreatDoorAi22
import Derived.Test.YthknocapablpaaaGreatDoorAi32
import Derived.Test.YthknocapablpaaaGreatDoorAi35
namespace Go.Proofs.YthknocapablpaaaGreatDoor
/- tablets.Range of a whole tablet without tables. -/
section
open Go.RowKit Go.Lib Go.Eng
set_option maxRecDepth 100000
set_option maxHeartbeats 8000000 in
theorem cut_st {w:World}{m:Nat}:Calls Tryz.prog 130 #[.agg #[.string ⟨#[]⟩,.string ⟨#[]⟩,.pointer (some ⟨m,0,none⟩),.slice none 0 0],.string ⟨#[]⟩,.string ⟨#[]⟩] w fun e w'=>e = .returned (.tuple #[.string ⟨#[]⟩,.string ⟨#[]⟩,.bool true])∧Kept (fun _=>False) w w':=by
 obtain ⟨rb,hrb⟩:∃ q,w.heap.size=q:=⟨_,rfl⟩
 obtain ⟨W0,hW0⟩:∃ W,w.alloc (Obj.cells #[.string ⟨#[]⟩,.string ⟨#[]⟩,.pointer (some ⟨m,0,none⟩),.slice none 0 0] 143)=W:=⟨_,rfl⟩
 have k0:Kept (fun _=>False) w W0:=by rw [← hW0];exact (Kept.refl _ _).alloc _
 have y0:W0.cell? ⟨rb,0,none⟩=some (.string ⟨#[]⟩):=by rw [← hW0,← hrb];simp [go_sem]
 have y1:W0.cell? ⟨rb,1,none⟩=some (.string ⟨#[]⟩):=by rw [← hW0,← hrb];simp [go_sem]
 have hmx:∀ w,(Builtin.max_ #[9,9] 9 #[.string ⟨#[]⟩,.string ⟨#[]⟩]).run Tryz.prog w = .ok (.string ⟨#[]⟩) w:=fun _=>by kernel_rfl
 go_enter Tryz.func130,Tryz.ntmps130
 go_wp2_with fail
 go_ret3
 exact ⟨rfl,k0⟩
theorem own_base {w:World}{b b' e size:Nat}{v:Value}{n:Nat}{xs:List Value}(h:w.ownsRow b e size v n xs)(hb:b'≤b):w.ownsRow b' e size v n xs:=
 ⟨h.1,h.2.imp (fun h=>h) (fun ⟨g,cap,cur,e,h1,h2⟩=>⟨g,cap,cur,e,Nat.le_trans hb h1,h2⟩)⟩
theorem bytesLess_nil (x:List UInt8):Op.bytesLess x []=false:=by cases x <;> simp [Op.bytesLess]
theorem mg_cells:∀ (L:List Cel),Mg.cellsC L=cellsC L
 | []=>rfl
 | c::t=>by rw [Mg.cellsC,cellsC,mg_cells t];rfl
theorem bestUp_one {l:List Cel}(h:0<l.length):Mg.bestUp [l] [l].length=some 0:=by
 show Mg.bestUp [l] (0+1)=some 0
 rw [Mg.bestUp]
 have:Mg.nth [l] 0=l:=rfl
 rw [this,if_pos h]
 rfl
theorem mergeF_one:∀ (l:List Cel),Mg.mergeF l.length [l]=l
 | []=>rfl
 | c::t=>by
  show Mg.mergeF (t.length+1) [c::t]=c::t
  rw [Mg.mergeF,bestUp_one (by simp)]
  show Mg.hdR [c::t] 0::Mg.mergeF t.length ([c::t].set 0 (Mg.nth [c::t] 0).tail)=c::t
  have h1:Mg.hdR [c::t] 0=c:=rfl
  have h2:([c::t].set 0 (Mg.nth [c::t] 0).tail)=[t]:=rfl
  rw [h1,h2,mergeF_one t]
theorem mergeL_one (l:List Cel):Mg.mergeL [l]=l:=by
 unfold Mg.mergeL Mg.total
 simp only [List.map_cons,List.map_nil,List.sum_cons,List.sum_nil,Nat.add_zero]
 exact mergeF_one l
theorem mg_may {c:Cel}(h:mayC c=true):Mg.mayC c=true:=by
 unfold mayC at h
 unfold Mg.mayC
 simp only [Bool.and_eq_true,decide_eq_true_eq] at h ⊢
 refine ⟨⟨⟨?_,h.1.2⟩,h.2.1⟩,h.2.2⟩
 refine Nat.pos_of_ne_zero fun e=>h.1.1 ?_
 exact ByteArray.ext (Array.eq_empty_of_size_eq_zero e)
theorem sortedB_of {l:List Cel}(h:SortedC l)(hm:∀ c∈l,mayC c=true):Mg.sortedB l=true:=by
 rw [Mg.sortedB_true]
 intro k hk
 unfold Mg.goodAt
 have h1:=Mg.nth_get l hk
 have h2:Mg.mayC (Mg.nth l k)=true:=mg_may (hm _ (List.mem_of_getElem? h1))
 rw [h2,Bool.true_and]
 by_cases h0:k=0
 ·simp [h0]
 ·have h3 := Mg.nth_get l (show k - 1 < l.length by omega)
  have h4:=List.pairwise_iff_getElem.1 h (k - 1) k (by omega) hk (by omega)
  rw [List.getElem?_eq_getElem hk] at h1
  rw [List.getElem?_eq_getElem (show k - 1<l.length by omega)] at h3
  rw [Option.some.inj h1,Option.some.inj h3] at h4
  simp [h0,(Mg.aheadC_iff _ _).2 h4]
set_option maxHeartbeats 8000000 in
theorem trange_any {S:Sto}{own:Nat→Prop}{w:World}{F:List Fl}{n t:Nat}{ps:List Pg}{q:Int}(h:StAt S own w F n t ps q)(hl:(allP ps).length≤1000)(hm:∀ c∈allP ps,mayC c=true) :
  Calls Tryz.prog 70 #[.agg #[.string ⟨#[]⟩,.string ⟨#[]⟩,.pointer (some ⟨S.m,0,none⟩),.slice none 0 0],.string ⟨#[]⟩,.string ⟨#[]⟩] w fun e w'=>(∃ u,e = .returned (.tuple #[u,.int .i64 0])∧w'.ownsRow w.heap.size 132 3 u (Mg.firstF (allP ps)).length (cellsC (Mg.firstF (allP ps))))∧Kept (fun _=>False) w w':=by
 obtain ⟨rb,hrb⟩:∃ q,w.heap.size=q:=⟨_,rfl⟩
 obtain ⟨W0,hW0⟩:∃ W,w.alloc (Obj.cells #[.string ⟨#[]⟩,.string ⟨#[]⟩,.pointer (some ⟨S.m,0,none⟩),.slice none 0 0] 143)=W:=⟨_,rfl⟩
 have k0:Kept (fun _=>False) w W0:=by rw [← hW0];exact (Kept.refl _ _).alloc _
 have y0:W0.cell? ⟨rb,0,none⟩=some (.string ⟨#[]⟩):=by rw [← hW0,← hrb];simp [go_sem]
 have y1:W0.cell? ⟨rb,1,none⟩=some (.string ⟨#[]⟩):=by rw [← hW0,← hrb];simp [go_sem]
 have y2:W0.cell? ⟨rb,2,none⟩=some (.pointer (some ⟨S.m,0,none⟩)):=by rw [← hW0,← hrb];simp [go_sem]
 have y3:W0.cell? ⟨rb,3,none⟩=some (.slice none 0 0):=by rw [← hW0,← hrb];simp [go_sem]
 have Y2:=Lib.hid y2
 have Y3:=Lib.hid y3
 have K0:=Lib.hid k0
 have RG:=Lib.hid (fun (W:World) (K:Kept (fun _=>False) w W)=>(by
   obtain ⟨ao,cap,hc,hp⟩:=(h.keptF K).mem.cellR
   have:=mrange_any (a:=⟨#[]⟩) (b:=⟨#[]⟩) hc hp ((h.keptF K).mem.pagesOk h.srt) (by have:=h.mem.small;omega)
   have e:(allP ps).filter (inK ⟨#[]⟩ ⟨#[]⟩)=allP ps:=List.filter_eq_self.2 (fun c _=>by simp [inK,kway,sLt,bytesLess_nil])
   rw [e] at this
   exact this))
 have SB:=Lib.hid (sortedB_of h.srt hm)
 clear h k0 hm
 go_enter Tryz.func70,Tryz.ntmps70
 go_wp2_with (first
  | (go_at_call 130;refine cut_st.mono ?_;rintro e w1 ⟨rfl,k1⟩;(have K1:=Lib.hid (K0.out.trans k1 (T:=fun _=>False) (fun _ _ f=>f) (fun _ _ f=>f)));(have z2:=k1.cell Y2.out (fun f=>f));(have z3:=k1.cell Y3.out (fun f=>f));clear k1 y0 y1 y2 y3)
  | (go_at_call 131;refine (RG.out _ K1.out).mono ?_;rintro e w2 ⟨⟨v,rfl,hv⟩,k2⟩;(have K2:=Lib.hid (K1.out.trans k2 (T:=fun _=>False) (fun _ _ f=>f) (fun _ _ f=>f)));(have HV:=Lib.hid hv);obtain ⟨va,vc,rfl⟩:=own_slice hv;(have x3:=k2.cell z3 (fun f=>f));(have xl:=World.block_lt_of_cell? _ _ x3);clear k2 hv z2 z3))
 obtain ⟨v,hv⟩:∃ v,Value.slice va (allP ps).length vc=v:=⟨_,rfl⟩
 have RV:=Mg.ReadsC.of_row (mg_cells (allP ps) ▸ HV.out)
 have k3:Kept (fun _=>False) w2 (w2.alloc (Obj.cells #[Value.slice va (allP ps).length vc] 65)):=(Kept.refl _ _).alloc _
 have RR:=Lib.hid (show Mg.ReadsR (w2.alloc (Obj.cells #[Value.slice va (allP ps).length vc] 65)) (.slice (some ⟨w2.heap.size,0,none⟩) 1 1) [allP ps] from ⟨_,1,rfl,.inr ⟨_,0,rfl,fun k R hk=>by
  match k,hk with
  | 0,hk=>
   simp at hk
   subst hk
   exact ⟨Value.slice va (allP ps).length vc,by simp [go_sem],RV.keptF k3⟩
  | k+1,hk=>simp at hk⟩⟩)
 have K3:=Lib.hid (K2.out.trans k3 (T:=fun _=>False) (fun _ _ f=>f) (fun _ _ f=>f))
 clear hv RV k3
 refine wp_loop_rounds 1 ?_
 rw [rounds_succ]
 go_wp2_with (go_at_call 133;refine (Mg.newest_any _ _ [allP ps] RR.out (by simp) (by intro R hR;simp at hR;subst hR;exact hl) (by simpa [Mg.total] using hl)).mono ?_;rintro e w4 ⟨k4,⟨h4,rfl⟩ | ⟨h4,u,rfl,hu⟩⟩)
 ·simp [SB.out] at h4
 ·rw [mergeL_one, mg_cells] at hu
  go_ret2
  refine ⟨⟨u,rfl,?_⟩,K3.out.trans k4 (fun _ _ f=>f) (fun _ _ f=>f)⟩
  exact own_base hu (Nat.le_trans K3.out.size (Nat.le_refl _))
end
/- store.Range of all. -/
section
open Go.RowKit Go.Lib Go.Eng
set_option maxRecDepth 100000
theorem app_nil (w:World):(Builtin.append_ #[65,65] 65 #[.slice none 0 0,.slice none 0 0]).run Tryz.prog w = .ok (.slice none 0 0) w:=by kernel_rfl
/-- Behind nothing a row of cells. -/
theorem app_row {w:World}{b:Nat}{v:Value}{L:List Cel}(h:w.ownsRow b 132 3 v L.length (cellsC L))(hl:L.length≤10000)(hb:b≤w.heap.size) :
  ∃ v' w',(Builtin.append_ #[65,65] 65 #[.slice none 0 0,v]).run Tryz.prog w = .ok v' w'∧w'.ownsRow b 132 3 v' L.length (cellsC L)∧Kept (fun _=>False) w w':=by
 obtain ⟨i0,hi0,z0,s0,b0⟩:=info_132
 rcases row_form h with ⟨rfl,h0⟩ | ⟨g,cap,rfl,h1,h2,h3,h4⟩
 ·exact ⟨_,_,app_nil w,h,Kept.refl _ _⟩
 ·obtain ⟨v',w',hr,r1,r2,_,r4⟩:=run_append_own_at (P:=Tryz.prog) w b 65 65 132 i0 _ 3 40 Tryz.underlying65 hi0 z0 s0 b0 rfl (by decide) _ 0 [] (World.ownsRow_nil _ _ _ _) ⟨g,0,none⟩ L.length cap (cellsC L) (cellsC_length L) (fun j u hj=>by
   rw [add_mid,Nat.zero_add]
   exact h4 j u hj) (cellsC_one L) (by unfold maxLen;omega) (by omega) hb
  rw [Nat.zero_add,List.nil_append] at r1
  refine ⟨v',w',hr,r1,(grown_kept r2).mono (fun k _ e=>by simp [Value.ownBlock] at e)⟩
set_option maxHeartbeats 8000000 in
theorem srange_any {S:Sto}{own:Nat→Prop}{w:World}{F:List Fl}{n t:Nat}{ps:List Pg}{q:Int}(h:StAt S own w F n t ps q)(hl:(allP ps).length≤1000)(hm:∀ c∈allP ps,mayC c=true) :
  Calls Tryz.prog 26 #[.pointer (some ⟨S.s,0,none⟩),.string ⟨#[]⟩,.string ⟨#[]⟩] w fun e w'=>(∃ u,e = .returned (.tuple #[u,.int .i64 0])∧w'.ownsRow w.heap.size 132 3 u (Mg.firstF (allP ps)).length (cellsC (Mg.firstF (allP ps))))∧Kept (fun _=>False) w w':=by
 obtain ⟨i0,hi0,z0,s0,b0⟩:=info_132
 have H:=Lib.hid h
 have SA:=Lib.hid (sask_any h)
 have TB:=Lib.hid (fun (W:World) (K:Kept (fun _=>False) w W)=>tablet_any (h.keptF K))
 have TR:=Lib.hid (fun (W:World) (K:Kept (fun _=>False) w W)=>trange_any (h.keptF K) hl hm)
 have FL:=Lib.hid (Nat.le_trans (Mg.firstF_length (allP ps)) hl)
 have c3:=h.c3
 obtain ⟨R,hR⟩:∃ R,Mg.firstF (allP ps)=R:=⟨_,rfl⟩
 rw [hR] at TR FL ⊢
 obtain ⟨s,d,mb,j,gm,m,tb,o,fm,cm⟩:=S
 simp only at c3 SA TB TR ⊢
 clear h hm hl hR
 go_enter Tryz.func26,Tryz.ntmps26
 go_wp2_with (first
  | (go_at_call 69;refine SA.out.mono ?_;rintro e w1 ⟨rfl,k1⟩;(have K1:=Lib.hid k1);(have x3:=k1.cell c3 (fun f=>f));clear k1 c3))
 refine wp_loop_rounds 2 ?_
 rw [rounds_succ]
 go_wp2_with (first
  | (go_at_call 71;refine (TB.out _ K1.out).mono ?_;rintro e w2 ⟨rfl,k2⟩;(have K2:=Lib.hid (K1.out.trans k2 (T:=fun _=>False) (fun _ _ f=>f) (fun _ _ f=>f)));clear k2)
  | (go_at_call 70;refine (TR.out _ K2.out).mono ?_;rintro e w3 ⟨⟨u,rfl,hu⟩,k3⟩;(have K3:=Lib.hid (K2.out.trans k3 (T:=fun _=>False) (fun _ _ f=>f) (fun _ _ f=>f)));obtain ⟨v',w4,hap,h4,k4⟩:=app_row hu (by have:=FL.out;omega) k3.size;(have K4:=Lib.hid (K3.out.trans k4 (T:=fun _=>False) (fun _ _ f=>f) (fun _ _ f=>f)));(have H4:=Lib.hid h4);(have SZ:=Lib.hid K2.out.size);clear k4 h4 K3 hu k3)
  | (at_builtin;refine Lib.wpList_append_run _ rfl _ _ _ _ rfl _ _ rfl rfl _ _ hap ?_))
 rw [rounds_succ]
 go_wp2_with fail
 go_ret2
 exact ⟨⟨v',rfl,own_base H4.out SZ.out⟩,K4.out⟩
end
end Go.Proofs.YthknocapablpaaaGreatDoor
