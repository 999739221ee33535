/- A part of the proof. -/
import Derived.Test.YthknocapablpaaaGreatDoorAi22
namespace Go.Proofs.YthknocapablpaaaGreatDoor.Rf
/- The document's model: Take. -/
section
set_option maxRecDepth 100000
open Go.RowKit

/-- The document's model in block mp: its list, and the blocks that this may lie in. -/
structure RefAt (w:World) (mp:Nat) (ro:Nat→Prop) (L:List Spn):Prop where
 here:∃ v b0,w.cell? ⟨mp,0,none⟩=some v∧w.ownsRow b0 96 8 v L.length (cellsS L)∧(∀ q,v.ownBlock=some q→ro q)∧b0≤w.heap.size
 soft:w.frozen? ⟨mp,0,none⟩=false
 apart:¬ ro mp
 lo:∀ q,ro q→q<w.heap.size
theorem RefAt.lt {w:World}{mp:Nat}{ro:Nat→Prop}{L:List Spn}(h:RefAt w mp ro L):mp<w.heap.size:=by
 obtain ⟨v,b0,h1,_⟩:=h.here
 exact World.block_lt_of_cell? _ _ h1
theorem RefAt.kept {X ro:Nat→Prop}{w w':World}{mp:Nat}{L:List Spn}(h:RefAt w mp ro L)(hK:Kept X w w')(h1:¬ X mp)(h2:∀ q,ro q→¬ X q):RefAt w' mp ro L:=by
 obtain ⟨⟨v,b0,a1,a2,a3,a4⟩,s,p,l⟩:=h
 exact ⟨⟨v,b0,hK.cell a1 h1,own_kept a2 hK (fun q hq e=>h2 q (a3 q hq) e),a3,Nat.le_trans a4 hK.size⟩,hK.frozen s (World.block_lt_of_cell? _ _ a1) h1,p,fun q hq=>Nat.lt_of_lt_of_le (l q hq) hK.size⟩
theorem RefAt.keptF {w w':World}{mp:Nat}{ro:Nat→Prop}{L:List Spn}(h:RefAt w mp ro L)(hK:Kept (fun _=>False) w w'):RefAt w' mp ro L:=h.kept hK (fun f=>f) (fun _ _ f=>f)
theorem Src.of_own {w:World}{base:Nat}{v:Value}{n:Nat}{xs:List Value}(h:w.ownsRow base 96 8 v n xs):Src w v n xs:=by
 rcases row_form h with ⟨rfl,h0⟩ | ⟨g,c,rfl,_,_,_,hc⟩
 ·refine ⟨none, 0, by rw [h0], .inl ⟨rfl, h0, ?_⟩⟩
  have:=h.1
  rw [h0] at this
  exact List.eq_nil_of_length_eq_zero (by omega)
 ·exact ⟨_,c,rfl,.inr ⟨_,rfl,fun j u hu=>by rw [add_mid,Nat.zero_add];exact hc j u hu⟩⟩
theorem ReadsS.of_row {w:World}{base:Nat}{v:Value}{L:List Spn}(h:w.ownsRow base 96 8 v L.length (cellsS L)):ReadsS w v L:=by
 rcases row_form h with ⟨rfl,h0⟩ | ⟨g,c,rfl,_,_,_,hc⟩
 ·exact ⟨none,0,by rw [h0],.inl (List.eq_nil_of_length_eq_zero h0)⟩
 ·exact ⟨_,c,rfl,.inr ⟨g,0,rfl,fun j u hu=>by rw [Nat.zero_add];exact hc j u hu⟩⟩
theorem putR_mem {s x:Spn}{L:List Spn}(h:x∈putR s L):x=s∨x∈L:=by
 unfold putR at h
 rcases List.mem_append.1 h with h | h
 ·rcases List.mem_append.1 h with h | h
  ·exact .inr (List.mem_of_mem_take h)
  ·simp at h;exact .inl h
 ·exact .inr (List.mem_of_mem_drop h)
theorem foldR_mem_aux:∀ (L a:List Spn){x:Spn},x∈L.foldl (fun a s=>putR s a) a→x∈a∨x∈L
 | [],a,x,h=>.inl h
 | y::t,a,x,h=>by
  rcases foldR_mem_aux t (putR y a) h with h | h
  ·rcases putR_mem h with rfl | h
   ·exact .inr List.mem_cons_self
   ·exact .inl h
  ·exact .inr (List.mem_cons_of_mem _ h)
theorem foldR_mem {L:List Spn}{x:Spn}(h:x∈foldR L):x∈L:=by
 rcases foldR_mem_aux L [] h with h | h
 ·cases h
 ·exact h
theorem own_lt {w:World}{base e size:Nat}{v:Value}{n:Nat}{xs:List Value}(h:w.ownsRow base e size v n xs){q:Nat}(hq:v.ownBlock=some q):q<w.heap.size:=by
 rcases row_form h with ⟨rfl,_⟩ | ⟨g,c,rfl,_,_,hl,_⟩
 ·cases hq
 ·cases hq;exact hl
noncomputable def rowR (now:Int)(L:List Spn):List Spn:=foldR (liveF now L)
theorem r18 {w:World}{mp:Nat}{ro:Nat→Prop}{L:List Spn}(now:Int)(h1:0≤now)(h2:now≤4294967296)(hr:RefAt w mp ro L)(hm:∀ m∈L,chkB m=true)(hl:L.length≤1000000) :
  Calls Tryz.prog 18 #[.pointer (some ⟨mp,0,none⟩),.int .i64 now] w fun e w'=>∃ v',e = .returned v'∧w'.ownsRow w.heap.size 96 8 v' (rowR now L).length (cellsS (rowR now L))∧Kept (fun _=>False) w w':=by
 obtain ⟨v,b0,a1,a2,_⟩:=hr.here
 exact r_all now h1 h2 a1 a2 hm hl
set_option maxHeartbeats 8000000 in
theorem rmtake_all {w:World}{mp:Nat}{ro:Nat→Prop}{vl:Value}{L l:List Spn}(now:Int)(h1:0≤now)(h2:now≤4294967296)(hr:RefAt w mp ro L)(hv:ReadsS w vl l)(hm:∀ m∈L,chkB m=true)(hf:∀ m∈l,Fits m)(hL:L.length≤1000000)(hl:l.length≤1000000) :
  Calls Tryz.prog 53 #[.pointer (some ⟨mp,0,none⟩),vl,.int .i64 now] w fun e w'=>e = .returned (.int .i64 ((takeR now (rowR now L) l []).length:Nat))∧∃ ro',RefAt w' mp ro' (L++takeR now (rowR now L) l [])∧(∀ q,ro' q→ro q∨w.heap.size≤q)∧Kept (fun k=>k=mp∨ro k) w w':=by
 obtain ⟨i0,hi0,hz0,hz1,hz2⟩:=info_parts inf111
 obtain ⟨⟨v,bq,hc,ho,hown,hbq⟩,hfr,hap,_⟩:=hr
 have HR:=Lib.hid (r_all now h1 h2 hc ho hm hL)
 have HO:=Lib.hid ho;have HC:=Lib.hid hc;have HF:=Lib.hid hfr
 have HV:=Lib.hid hv;have FL:=Lib.hid hf
 have OW:=Lib.hid hown;have AP:=Lib.hid hap;have BQ:=Lib.hid hbq
 have RL:=Lib.hid (show (rowR now L).length≤1000000 by have a1:=foldR_len (liveF now L);have a2:=live_len now L;unfold rowR;omega)
 have RM:=Lib.hid (show ∀ m∈rowR now L,chkB m=true from fun m hm'=>hm m (List.mem_filter.1 (foldR_mem hm')).1)
 obtain ⟨la,cap,rfl⟩:=own_slice ho
 obtain ⟨n,hn⟩:∃ n,L.length=n:=⟨_,rfl⟩
 have LN:=Lib.hid hn
 rw [hn] at HO HC hL OW
 have MPL:=Lib.hid (World.block_lt_of_cell? _ _ hc)
 clear hc ho hm hf hv hfr hn hown hap hbq
 unfold rowR at RL RM
 unfold rowR
 obtain ⟨RR,hRR⟩:∃ R,foldR (liveF now L)=R:=⟨_,rfl⟩
 rw [hRR] at HR RL RM ⊢
 clear hRR
 obtain ⟨TR,hTR⟩:∃ T,takeR now RR l []=T:=⟨_,rfl⟩
 have TL:=Lib.hid (show TR.length≤1000000 by rw [← hTR];have:=takeR_len now RR l [];simp at this;omega)
 rw [hTR]
 have TE:=Lib.hid hTR
 clear hTR
 go_enter Tryz.func53,Tryz.ntmps53
 go_wp2_with fail
 refine HR.out.mono ?_
 rintro e w1 ⟨v1,rfl,o1,k1⟩
 have K1:=Lib.hid k1
 have S1:=Lib.hid (ReadsS.of_row o1)
 have T1:=Lib.hid (rtake_all now h1 h2 S1.out (HV.out.keptF k1) RM.out FL.out RL.out hl)
 rw [TE.out] at T1
 clear o1 k1
 go_wp2_with fail
 refine T1.out.mono ?_
 rintro e w2 ⟨v2,rfl,o2,k2⟩
 have K2:=Lib.hid (keptFF K1.out k2)
 have S2:=Lib.hid (Src.of_own o2)
 have HC2:=K2.out.cell HC.out (fun f=>f)
 have HO2:=Lib.hid (own_kept HO.out K2.out (fun _ _ f=>f))
 have FZ2:=K2.out.frozen HF.out MPL.out (fun f=>f)
 obtain ⟨a2,c2,rfl⟩:=own_slice o2
 obtain ⟨m,hm⟩:∃ m,TR.length=m:=⟨_,rfl⟩
 have MN:=Lib.hid hm
 have TLm:=TL.out
 rw [hm] at S2 TLm ⊢
 clear o2 k2 hm
 go_wp2_with (at_builtin;refine stopH ?_)
 intro _
 refine wpList_appG rfl _ _ 30 rfl bq 96 i0 _ 8 88 Tryz.underlying30 hi0 hz0 hz1 hz2 rfl (by decide) _ n _ rfl HO2.out m (cellsS TR) _ rfl S2.out (by rw [cellsS_length,MN.out]) (cellsS_one _) (by unfold maxLen;omega) (by omega) (Nat.le_trans BQ.out K2.out.size) ?_
 intro ao3 cap3 w3 o3 k3 hat3
 have nmp:¬ (Value.slice la n cap).ownBlock=some mp:=fun e=>AP.out (OW.out mp e)
 have hc3:=k3.cell HC2 nmp
 have fz3:=k3.frozen FZ2 (World.block_lt_of_cell? _ _ HC2) nmp
 have K3:=Lib.hid (K2.out.trans k3 (fun _ _ f=>f.elim) (fun q _ e=>.inr (OW.out q e)):Kept (fun k=>k=mp∨ro k) w w3)
 have O3:=Lib.hid o3
 have K2S:=K2.out.size
 have HAT:=Lib.hid hat3
 have S3:=Lib.hid k3.size
 clear HC2 FZ2 o3 k3 hat3 nmp
 go_wp2
 go_ret
 have KS:Kept (fun k=>k=mp) w3 (w3.setCell ⟨mp,0,none⟩ (.slice ao3 (n+m) cap3)):=(Kept.refl (fun k=>k=mp) w3).setCell (fun _=>rfl) _
 have LE:(L++TR).length=n+m:=by rw [List.length_append,LN.out,MN.out]
 have NM:∀ q,(Value.slice ao3 (n+m) cap3).ownBlock=some q→ro q∨w.heap.size≤q:=fun q hq=>by
  rcases HAT.out with h | h
  ·rw [h] at hq;exact .inl (OW.out q hq)
  ·rw [h] at hq;cases hq;exact .inr K2S
 have OE:=own_kept O3.out KS (fun q hq e=>by
  subst e
  rcases NM q hq with h | h
  ·exact AP.out h
  ·have:=MPL.out;omega)
 refine ⟨by rw [MN.out];rfl,fun q=>(Value.slice ao3 (n+m) cap3).ownBlock=some q,⟨⟨.slice ao3 (n+m) cap3,bq,World.cell?_setCell_same _ _ _ hc3,by rw [LE,cellsS_append];exact OE,fun q hq=>hq,by simp;exact Nat.le_trans BQ.out (Nat.le_trans K2S S3.out)⟩,by simpa using fz3,fun hq=>?_,fun q hq=>by simp;exact own_lt O3.out hq⟩,NM,K3.out.setCell (fun _=>.inl rfl) _⟩
 rcases NM mp hq with h | h
 ·exact AP.out h
 ·have:=MPL.out;omega
end
end Go.Proofs.YthknocapablpaaaGreatDoor.Rf
namespace Go.Proofs.YthknocapablpaaaGreatDoor
/- ingest.Check of any batch. -/
section
set_option maxRecDepth 100000
open Go.RowKit

def hostB (n:Int):Bool:=decide (0≤n) && decide (n<4)
def okI (ho fi:Int)(L:List Spn):Bool:=hostB ho && (decide (0≤fi) && decide (fi≤2147483647 - (L.length:Int)))
def lenI (L:List Spn):Bool:=decide (L.length≠0) && decide (L.length≤8)
def chkI (ho fi:Int)(L:List Spn):Int:=match okI ho fi L with
 | false=>2
 | true=>match lenI L with
  | false=>3
  | true=>errN (L.all chkB)
set_option maxHeartbeats 4000000 in
theorem check12 {w:World}{ho fi:Int}{v:Value}{L:List Spn}(hr:ReadsS w v L)(hl:L.length≤20)(hfit:∀ y∈L,y.se.size≤9223372036854775807∧y.ho.size≤9223372036854775807∧y.no.size≤9223372036854775807) :
  Calls Tryz.prog 14 #[.agg #[.int .i64 ho,.int .i64 fi,v]] w fun e w'=>e = .returned (.int .i64 (chkI ho fi L))∧Kept (fun _=>False) w w':=by
 obtain ⟨ao,cap,rfl,h⟩:=hr
 have HR:=Lib.hid h
 have FIT:=Lib.hid hfit
 clear h hfit
 have tt:∀ {a b c:World},Kept (fun _=>False) a b→Kept (fun _=>False) b c→Kept (fun _=>False) a c:=fun h k=>h.trans k (fun _ _ h=>h) (fun _ _ h=>h)
 obtain ⟨n,hn⟩:∃ n,L.length=n:=⟨_,rfl⟩
 have OE:okI ho fi L=(hostB ho && (decide (0≤fi) && decide (fi≤2147483647 - (n:Int)))):=by unfold okI;rw [hn]
 have LE:lenI L=(decide (n≠0) && decide (n≤8)):=by unfold lenI;rw [hn]
 unfold chkI
 rw [hn] at hl ⊢
 rw [OE,LE]
 have HN:=Lib.hid hn
 clear hn OE LE
 unfold hostB
 by_cases h0:ho<0
 ·rw [show (decide (0 ≤ ho) && decide (ho < 4) && (decide (0 ≤ fi) && decide (fi ≤ 2147483647 - (n : Int)))) = false by simp; omega]
  go_enter Tryz.func14,Tryz.ntmps14
  go_wp2
  go_ret
  exact ⟨rfl,(Kept.refl _ _).alloc _⟩
 by_cases h1:4≤ho
 ·rw [show (decide (0 ≤ ho) && decide (ho < 4) && (decide (0 ≤ fi) && decide (fi ≤ 2147483647 - (n : Int)))) = false by simp; omega]
  go_enter Tryz.func14,Tryz.ntmps14
  go_wp2
  go_ret
  exact ⟨rfl,(Kept.refl _ _).alloc _⟩
 by_cases h2:fi<0
 ·rw [show (decide (0 ≤ ho) && decide (ho < 4) && (decide (0 ≤ fi) && decide (fi ≤ 2147483647 - (n : Int)))) = false by simp; omega]
  go_enter Tryz.func14,Tryz.ntmps14
  go_wp2
  go_ret
  exact ⟨rfl,(Kept.refl _ _).alloc _⟩
 by_cases h3:2147483647 - (n:Int)<fi
 ·rw [show (decide (0 ≤ ho) && decide (ho < 4) && (decide (0 ≤ fi) && decide (fi ≤ 2147483647 - (n : Int)))) = false by simp; omega]
  go_enter Tryz.func14,Tryz.ntmps14
  go_wp2
  go_ret
  exact ⟨rfl,(Kept.refl _ _).alloc _⟩
 rw [show (decide (0≤ho) && decide (ho<4) && (decide (0≤fi) && decide (fi≤2147483647 - (n:Int))))=true by simp;omega]
 by_cases g0:n=0
 ·rw [show (decide (n ≠ 0) && decide (n ≤ 8)) = false by simp [g0]]
  have g0':(n:Int)=0:=by omega
  clear g0
  go_enter Tryz.func14,Tryz.ntmps14
  go_wp2
  go_ret
  exact ⟨rfl,(Kept.refl _ _).alloc _⟩
 by_cases g8:(8:Int)<(n:Int)
 ·rw [show (decide (n ≠ 0) && decide (n ≤ 8)) = false by simp; omega]
  have g0':((n:Int) == 0)=false:=by simp;omega
  clear g0
  go_enter Tryz.func14,Tryz.ntmps14
  go_wp2
  go_ret
  exact ⟨rfl,(Kept.refl _ _).alloc _⟩
 rw [show (decide (n≠0) && decide (n≤8))=true by simp;omega]
 have g0':((n:Int) == 0)=false:=by simp;omega
 have g8':decide ((8:Int)<(n:Int))=false:=by simpa using g8
 clear g0
 obtain ⟨bb,hbb⟩:∃ bb,L.all chkB=bb:=⟨_,rfl⟩
 rw [hbb]
 have BB:=Lib.hid hbb
 clear hbb
 go_enter Tryz.func14,Tryz.ntmps14
 go_wp2
 go_loopg [43] n (fun gh t wr=>∃ k:Nat,k+gh=n∧t = .int .i64 k∧Kept (fun _=>False) w wr∧∀ j,j<k→chkB (L.getD j default)=true)
 case atStart=>exact ⟨0,by omega,rfl,(Kept.refl _ _).alloc _,fun j hj=>absurd hj (Nat.not_lt_zero j)⟩
 case round=>
  obtain ⟨k,hk,rfl,hK,hno⟩:=hrel
  have NO:=Lib.hid hno
  have KW:=Lib.hid hK
  have hk1:k≤n:=by omega
  have JK:=Lib.hid hk
  clear hk hno hK
  by_cases hlt:k<n
  ·rcases HR.out with e0 | ⟨g, o, rfl, hc⟩
   ·have:=HN.out;rw [e0] at this;simp at this;omega
   obtain ⟨m,hm⟩:∃ m,L[k]? = some m:=⟨_,List.getElem?_eq_getElem (by rw [HN.out];exact hlt)⟩
   have hgd:L.getD k default=m:=by rw [List.getD_eq_getElem?_getD,hm];rfl
   obtain ⟨c0,c1',c2,c3,c4,c5,c6,c7⟩:=ReadsS.at (fun j u hu=>KW.out.cell (hc j u hu) (fun f=>f)) hm
   have f:=FIT.out m (List.mem_of_getElem? hm)
   have C:=Lib.hid (check_all m f.1 f.2.1 f.2.2)
   have GD:=Lib.hid hgd
   have MEM:=Lib.hid (List.mem_of_getElem? hm)
   have i1:(0:Int)≤(k:Int):=by omega
   have i2:(k:Int)<(n:Int):=by omega
   clear hc hm f hgd
   unfold aggS at C
   cases hB:chkB m with
   | false=>
    rw [hB] at C
    have b0:bb=false:=by
     rw [← BB.out,List.all_eq_false]
     exact ⟨m,MEM.out,by rw [hB];simp⟩
    go_wp2_with (go_at_call 54;refine (C.out _).mono ?_;rintro e w3 ⟨rfl,k3⟩)
    go_ret
    exact ⟨by rw [b0];rfl,tt KW.out (tt ((Kept.refl _ _).alloc _) k3)⟩
   | true=>
    rw [hB] at C
    go_wp2_with (go_at_call 54;refine (C.out _).mono ?_;rintro e w3 ⟨rfl,k3⟩)
    go_roundg (n - k - 1)
    case measure=>have:=JK.out;omega
    case rel=>
     refine ⟨k+1,by omega,by go_num,tt KW.out (tt ((Kept.refl _ _).alloc _) k3),fun j hj=>?_⟩
     by_cases e:j=k
     ·subst e;rw [GD.out];exact hB
     ·exact NO.out j (by omega)
  ·have e3 : ¬ (k : Int) < (n : Int) := by omega
   have b1:bb=true:=by
    rw [← BB.out,List.all_eq_true]
    intro m hm
    obtain ⟨j,hj⟩:=List.getElem?_of_mem hm
    have hjn:=(List.getElem?_eq_some_iff.1 hj).1
    rw [HN.out] at hjn
    have:=NO.out j (by omega)
    rw [List.getD_eq_getElem?_getD,hj] at this
    exact this
   subst b1
   go_wp2
   go_ret
   exact ⟨rfl,KW.out⟩

theorem chkI_all {ho fi:Int}{L:List Spn}(h:chkI ho fi L=0):∀ m∈L,chkB m=true:=by
 unfold chkI at h
 cases h1:okI ho fi L with
 | false=>rw [h1] at h;cases h
 | true=>
  rw [h1] at h
  cases h2:lenI L with
  | false=>rw [h2] at h;cases h
  | true=>
   rw [h2] at h
   cases h3:L.all chkB with
   | false=>rw [h3] at h;cases h
   | true=>exact List.all_eq_true.1 h3
theorem chkI_okI {ho fi:Int}{L:List Spn}(h:chkI ho fi L=0):okI ho fi L=true∧lenI L=true:=by
 unfold chkI at h
 cases h1:okI ho fi L with
 | false=>rw [h1] at h;cases h
 | true=>
  rw [h1] at h
  cases h2:lenI L with
  | false=>rw [h2] at h;cases h
  | true=>exact ⟨rfl,rfl⟩
theorem chkI_len {ho fi:Int}{L:List Spn}(h:chkI ho fi L=0):L.length≤8:=by
 have:=(chkI_okI h).2
 unfold lenI at this
 simp at this
 exact this.2
theorem chkI_room {ho fi:Int}{L:List Spn}(h:chkI ho fi L=0):0≤fi∧fi+(L.length:Int)≤2147483647:=by
 have:=(chkI_okI h).1
 unfold okI at this
 simp only [Bool.and_eq_true,decide_eq_true_eq] at this
 omega
end
end Go.Proofs.YthknocapablpaaaGreatDoor
