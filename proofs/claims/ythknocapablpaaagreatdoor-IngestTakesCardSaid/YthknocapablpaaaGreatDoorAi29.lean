/- A part of the proof. -/
import Derived.Laws.ResultCell
import Derived.Test.YthknocapablpaaaGreatDoorAi28
namespace Go.Proofs.YthknocapablpaaaGreatDoor
/- memory's Get and Len. -/
section
set_option maxRecDepth 100000
open Go.RowKit Go.Lib Go.Eng

def zeroC:Cel:=⟨⟨#[]⟩,0,⟨#[]⟩⟩
/-- What Get says. -/
def getV (l:List Cel)(key:ByteArray):Value:=.tuple #[((getL l key).getD zeroC).val,.bool (getL l key).isSome]
set_option maxHeartbeats 4000000 in
theorem mget_any {own:Nat→Prop}{w:World}{m:Nat}{ps:List Pg}{key:ByteArray}(M:MemB own w m ps)(hs:SortedC (allP ps))(hl:(allP ps).length≤10000)(hk:key.size≤100000) :
  Calls Tryz.prog 158 #[.pointer (some ⟨m,0,none⟩),.string key] w fun e w'=>e = .returned (getV (allP ps) key)∧Kept (fun _=>False) w w':=by
 obtain ⟨rb,hrb⟩:∃ g,w.heap.size=g:=⟨_,rfl⟩
 obtain ⟨W0,hW0⟩:∃ W,w.alloc (Obj.cells #[.string ⟨#[]⟩,.int .i64 0,.string ⟨#[]⟩] 132)=W:=⟨_,rfl⟩
 have k0:Kept (fun _=>False) w W0:=by rw [← hW0];exact (Kept.refl _ _).alloc _
 have y0:W0.cell? ⟨rb,0,none⟩=some (.string ⟨#[]⟩):=by rw [← hW0,← hrb];simp [go_sem]
 have y1:W0.cell? ⟨rb,1,none⟩=some (.int .i64 0):=by rw [← hW0,← hrb];simp [go_sem]
 have y2:W0.cell? ⟨rb,2,none⟩=some (.string ⟨#[]⟩):=by rw [← hW0,← hrb];simp [go_sem]
 have yf:∀ j,W0.frozen? ⟨rb,j,none⟩=false:=fun j=>by rw [← hW0,← hrb];simp [go_sem]
 have K0:=Lib.hid k0
 have hle:=M.small
 have OK:=Lib.hid (M.pagesOk hs)
 have YL:=Lib.hid (World.block_lt_of_cell? _ _ y0)
 have RG:=Lib.hid (fun (W:World) (k2:ByteArray) (K:Kept (fun _=>False) W0 W) (h2:k2.toList=key.toList++[0])=>
  show Calls Tryz.prog 131 #[.pointer (some ⟨m,0,none⟩),.string key,.string k2] W fun e w'=>(∃ v,e = .returned v∧w'.ownsRow W.heap.size 132 3 v ((allP ps).filter (fun c=>decide (c.k=key))).length (cellsC ((allP ps).filter (fun c=>decide (c.k=key)))))∧Kept (fun _=>False) W w' from by
   obtain ⟨ao,cap,hc,hp⟩:=(M.kept k0 (fun _ _ f=>f)).cellR
   have:=mrange_any (a:=key) (b:=k2) (K.cell hc (fun f=>f)) (hp.kept K) OK.out (by omega)
   have e:(allP ps).filter (inK key k2)=(allP ps).filter (fun c=>decide (c.k=key)):=by
    congr 1
    funext c
    exact inK_key key k2 h2 c
   rw [e] at this
   exact this)
 unfold getV getL
 obtain ⟨V,hV⟩:∃ V,(allP ps).filter (fun c=>decide (c.k=key))=V:=⟨_,rfl⟩
 rw [hV] at RG ⊢
 clear hV M hs hl k0 hle
 cases V with
 | nil=>
  go_enter Tryz.func158,Tryz.ntmps158
  go_wp2_with (go_at_call 131;refine (RG.out _ _ (Kept.refl _ _) (by simp [ByteArray.toList_eq])).mono ?_;rintro e w1 ⟨⟨v,rfl,hv⟩,kk⟩;(have z0:=kk.cell y0 (fun f=>f));(have z1:=kk.cell y1 (fun f=>f));(have z2:=kk.cell y2 (fun f=>f));(have zf:=fun j=>kk.frozen (yf j) YL.out (fun f=>f));(have K1:=Lib.hid (K0.out.trans kk (fun _ _ f=>f) (fun _ _ f=>f)));rcases row_form hv with ⟨rfl,_⟩ | ⟨g,cap,rfl,_,_,_,_⟩;all_goals (clear hv kk))
  all_goals
   refine bodyPost_ret_by (v:=_) ?_ rfl ⟨rfl,Kept.setAt (fun h=>by omega) (Kept.setAt (fun h=>by omega) (Kept.setAt (fun h=>by omega) K1.out))⟩
   rw [results_cell_tmp rfl]
   go_simp
   rfl
 | cons d V=>
  go_enter Tryz.func158,Tryz.ntmps158
  go_wp2_with (go_at_call 131;refine (RG.out _ _ (Kept.refl _ _) (by simp [ByteArray.toList_eq])).mono ?_;rintro e w1 ⟨⟨v,rfl,hv⟩,kk⟩;(have z0:=kk.cell y0 (fun f=>f));(have z1:=kk.cell y1 (fun f=>f));(have z2:=kk.cell y2 (fun f=>f));(have zf:=fun j=>kk.frozen (yf j) YL.out (fun f=>f));(have K1:=Lib.hid (K0.out.trans kk (fun _ _ f=>f) (fun _ _ f=>f)));rcases row_form hv with ⟨_,hn⟩ | ⟨g,cap,rfl,_,_,_,hc⟩;(exact absurd hn (by simp));(have u0:=hc 0 _ rfl);(have u1:=hc 1 _ rfl);(have u2:=hc 2 _ rfl);(clear hv kk hc))
  all_goals
   refine bodyPost_ret_by (v:=_) ?_ rfl ⟨rfl,Kept.setAt (fun h=>by omega) (Kept.setAt (fun h=>by omega) (Kept.setAt (fun h=>by omega) K1.out))⟩
   rw [results_cell_tmp rfl]
   go_simp
   rfl
set_option maxHeartbeats 4000000 in
theorem mlen_any {own:Nat→Prop}{w:World}{m:Nat}{ps:List Pg}(M:MemB own w m ps)(hl:(allP ps).length≤10000) :
  Calls Tryz.prog 167 #[.pointer (some ⟨m,0,none⟩)] w fun e w'=>e = .returned (.int .i64 ((allP ps).length:Nat))∧w'=w:=by
 obtain ⟨ao,cap,hc,hp⟩:=M.cellR
 obtain ⟨n,hn⟩:∃ n,ps.length=n:=⟨_,rfl⟩
 have HN:=Lib.hid hn
 have HP:=Lib.hid hp
 have HL:=Lib.hid hl
 have HS0:=Lib.hid (show n≤10000 from by have:=M.small;omega)
 rw [hn] at hc
 clear hn hp hl M
 go_enter Tryz.func167,Tryz.ntmps167
 go_wp2_with fail
 go_loopg [3,13] n (fun gh t3 t13 wr=>∃ i:Nat,i+gh=n∧t13 = .int .i64 i∧t3 = .int .i64 ((allP (ps.take i)).length:Nat)∧wr=w)
 case atStart=>exact ⟨0,by omega,rfl,rfl,rfl⟩
 case round=>
  obtain ⟨i,hgh,rfl,rfl,rfl⟩:=hrel
  cases gk with
  | zero=>
   have hi:i=n:=by omega
   subst hi
   go_wp2_with fail
   go_ret
   refine ⟨?_,rfl⟩
   rw [← HN.out,List.take_length]
   rfl
  | succ gk=>
   have hi:i<ps.length:=by have:=HN.out;omega
   have hne:¬ ps=[]:=fun e=>by rw [e] at hi;simp at hi
   obtain ⟨p,hpp⟩:∃ p,ps[i]? = some p:=⟨_,List.getElem?_eq_getElem hi⟩
   obtain ⟨g,o,rfl,hpc⟩:=HP.out.resolve_left hne
   have c0:=(hpc i p hpp).1
   have i1:((i:Nat):Int)<(n:Int):=by have:=HN.out;omega
   have i2:(0:Int)≤(i:Int):=by omega
   have HT:=Lib.hid (show ps.take (i+1)=ps.take i++[p] from by rw [List.take_add_one,hpp];rfl)
   have hsum:(allP (ps.take i)).length+p.l.length≤10000:=by
    have h1:(allP (ps.take (i+1))).length≤(allP ps).length:=by
     conv=>rhs;rw [← List.take_append_drop (i+1) ps,allP_append,List.length_append]
     omega
    rw [HT.out,allP_snoc,List.length_append] at h1
    have:=HL.out
    omega
   have HS:=Lib.hid (show (allP (ps.take (i+1))).length=(allP (ps.take i)).length+p.l.length from by rw [HT.out,allP_snoc,List.length_append])
   obtain ⟨s,hs⟩:∃ s,(allP (ps.take i)).length=s:=⟨_,rfl⟩
   rw [hs] at hsum HS ⊢
   obtain ⟨pg,po,pl,pc⟩:=p
   unfold Pg.val at c0
   simp only at c0 hsum HS
   obtain ⟨d,hd⟩:∃ d,pl.length=d:=⟨_,rfl⟩
   rw [hd] at c0 hsum HS
   have i3:wrap64 ((s:Int)+(d:Int))=((s+d:Nat):Int):=by unfold wrap64;omega
   have GH:=Lib.hid hgh
   have i4:wrap64 ((i:Int)+1)=((i+1:Nat):Int):=by have:=HS0.out;unfold wrap64;omega
   clear hsum hpc hpp hgh hne hi hs hd
   go_wp2_with fail
   go_roundg gk
   case measure=>omega
   case rel=>exact ⟨i+1,by have:=GH.out;omega,by rw [i4],by rw [i3,HS.out],rfl⟩
end
end Go.Proofs.YthknocapablpaaaGreatDoor
