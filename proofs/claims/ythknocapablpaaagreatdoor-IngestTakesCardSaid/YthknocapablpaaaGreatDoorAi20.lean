/- A part of the proof. -/
import Derived.Test.YthknocapablpaaaGreatDoorAi5
import Derived.Test.YthknocapablpaaaGreatDoorAi7
import Derived.Test.YthknocapablpaaaGreatDoorAi8
import Derived.Test.YthknocapablpaaaGreatDoorAi19
namespace Go.Proofs.YthknocapablpaaaGreatDoor
/- spans.Encode of any span. -/
section
set_option maxRecDepth 100000
open Go.RowKit Go.Lib

theorem putL_length:∀ (m:Nat)(n:Int),(putL m n).length=m
 | 0,_=>rfl
 | 1,_=>rfl
 | m+2,n=>by simp [putL,putL_length (m+1) n]
theorem putF_size (n:Int):(putF n).size≤10:=by
 unfold putF
 split
 ·exact Nat.zero_le _
 ·rw [strOfNums_size, putL_length]
  unfold putM
  have h:Lib.bitLenAux 64 n.toNat≤64:=by
   have g:∀ f x,Lib.bitLenAux f x≤f:=by
    intro f
    induction f with
    | zero=>intro x;exact Nat.le_refl _
    | succ f ih=>intro x;unfold Lib.bitLenAux;split;omega;have:=ih (x / 2);omega
   exact g 64 _
  unfold Lib.bitLen
  omega
/-- A text, with its length ahead. -/
def ptxt (t:ByteArray):ByteArray:=putF t.size++t
theorem ptxt_size (t:ByteArray):(ptxt t).size≤t.size+10:=by
 have:=putF_size t.size
 unfold ptxt
 rw [ByteArray.size_append]
 omega
theorem puttext_all (t:ByteArray)(w:World)(h:t.size≤4294967296):Calls Tryz.prog 164 #[.string t] w fun e w'=>e = .returned (.string (ptxt t))∧Kept (fun _=>False) w w':=by
 have C:=Lib.hid (put_all (t.size:Int) w (by omega))
 have z:=putF_size t.size
 unfold ptxt
 go_enter Tryz.func164,Tryz.ntmps164
 go_wp2_with (go_at_call 165;refine C.out.mono ?_;rintro e w4 ⟨rfl,k4⟩)
 go_ret
 exact ⟨rfl,k4⟩

def textsV (p:Nat):Value:=.agg #[.pointer (some ⟨p,3,none⟩),.pointer (some ⟨p,4,none⟩),.pointer (some ⟨p,7,none⟩)]
def offT:Nat→Nat | 0=>3 | 1=>4 | _=>7
def textJ (m:Spn):Nat→ByteArray | 0=>m.se | 1=>m.ho | _=>m.no
theorem ixT (p j:Nat)(hj:j<3)(W:World):(Instr.index 345 (textsV p) (.int .i64 (j:Int))).run Tryz.prog W = .ok (.pointer (some ⟨p,offT j,none⟩)) W:=by
 obtain rfl | rfl | rfl:j=0∨j=1∨j=2:=by omega
 all_goals kernel_rfl
theorem SpanAt.text {w:World}{g:Nat}{m:Spn}(h:SpanAt w g m)(j:Nat):w.cell? ⟨g,offT j,none⟩=some (.string (textJ m j)):=by
 match j with
 | 0=>exact h 3 _ rfl
 | 1=>exact h 4 _ rfl
 | j+2=>exact h 7 _ rfl
set_option maxHeartbeats 4000000 in
theorem texts_any (p:Nat)(w:World):Calls Tryz.prog 248 #[.pointer (some ⟨p,0,none⟩)] w fun e w'=>e = .returned (textsV p)∧Kept (fun _=>False) w w':=by
 go_enter Tryz.func248,Tryz.ntmps248
 go_wp2
 go_region
 all_goals go_wp2
 refine bodyPost_ret (v:=_) (by simp [results,Tryz.results248,go_sem];try rfl) rfl ?_
 exact ⟨rfl,((Kept.refl _ w).alloc _).drew⟩

def accN (m:Spn):Nat→List UInt8
 | 0=>[]
 | i+1=>accN m i++(putF (numJ m i)).data.toList
def accT (m:Spn):Nat→List UInt8
 | 0=>accN m 5
 | i+1=>accT m i++(ptxt (textJ m i)).data.toList
def encF (m:Spn):ByteArray:=⟨(accT m 3).toArray⟩
theorem data_length (b:ByteArray):b.data.toList.length=b.size:=Array.length_toList
theorem accN_length (m:Spn):∀ i,(accN m i).length≤10 * i
 | 0=>Nat.le_refl _
 | i+1=>by
  have h:=accN_length m i
  have z:=putF_size (numJ m i)
  simp only [accN,List.length_append,data_length]
  omega
theorem accT_length (m:Spn)(h:∀ j,(textJ m j).size≤24):∀ i,(accT m i).length≤50+34 * i
 | 0=>accN_length m 5
 | i+1=>by
  have q:=accT_length m h i
  have z:=ptxt_size (textJ m i)
  have y:=h i
  simp only [accT,List.length_append,data_length]
  omega

theorem kept_grown {w w':World}(K:Kept (fun _=>False) w w'):w.grownBy w' none:=⟨K.os,K.tape,K.output,K.size,fun k hk _=>K.block k hk (fun h=>h)⟩
theorem BuilderAt.keptF {T e:TypeId}{B b:Nat}{p:Value}{bs:List Value}{w w':World}(h:Lib.BuilderAt T e B b p bs w)(K:Kept (fun _=>False) w w'):Lib.BuilderAt T e B b p bs w':=by
 have hl:=Lib.BuilderAt.lt h
 obtain ⟨hB,v,hb,ho,hn⟩:=h
 refine ⟨hB,v,(K.block b hl (fun h=>h)).trans hb,ho.kept (kept_grown K) ?_,hn⟩
 cases v.ownBlock with
 | none=>exact .inl rfl
 | some k=>exact .inr (fun h=>by cases h)
theorem below_kept {B:Nat}{w w':World}(h:Below B w w'):Kept (fun k=>B≤k) w w':=⟨h.os,h.tape,h.output,h.size,fun k _ hS=>h.block k (Nat.lt_of_not_le hS)⟩
theorem IsBuilder.keptF {T e:TypeId}{B b:Nat}{bs:List Value}{w w':World}(h:Lib.IsBuilder T e B b bs w)(K:Kept (fun _=>False) w w'):Lib.IsBuilder T e B b bs w':=h.elim (fun h=>.inl (BuilderAt.keptF h K)) (fun h=>.inr (BuilderAt.keptF h K))
end
/- spans.Encode of any span. -/
section
set_option maxRecDepth 100000
open Go.RowKit Go.Lib

set_option maxHeartbeats 4000000 in
theorem enc_bad (m:Spn)(hs:m.se.size≤9223372036854775807)(hh:m.ho.size≤9223372036854775807)(hn:m.no.size≤9223372036854775807)(hB:chkB m=false)(w:World) :
  Calls Tryz.prog 154 #[aggS m] w fun e w'=>e = .returned (.tuple #[.string .empty,.int .i64 2])∧Kept (fun _=>False) w w':=by
 have C:=Lib.hid (check_all m hs hh hn)
 rw [hB] at C
 unfold aggS at C ⊢
 go_enter Tryz.func154,Tryz.ntmps154
 go_wp2_with (go_at_call 54;refine (C.out _).mono ?_;rintro e w1 ⟨rfl,k1⟩)
 go_ret2
 exact ⟨rfl,((Kept.refl _ w).alloc _).trans k1 (fun _ _ f=>f) (fun _ _ f=>f)⟩

set_option maxHeartbeats 8000000 in
theorem enc_good (m:Spn)(hs:m.se.size≤12)(hh:m.ho.size≤12)(hn:m.no.size≤24)(hnum:∀ j,numJ m j≤9223372036854775807)(hB:chkB m=true)(w:World) :
  Calls Tryz.prog 154 #[aggS m] w fun e w'=>e = .returned (.tuple #[.string (encF m),.int .i64 0])∧Kept (fun _=>False) w w':=by
 have C:=Lib.hid (check_all m (by omega) (by omega) (by omega))
 have ht:∀ j,(textJ m j).size≤24:=fun j=>by
  match j with
  | 0=>show m.se.size≤24;omega
  | 1=>show m.ho.size≤24;omega
  | j+2=>show m.no.size≤24;omega
 have HN:=Lib.hid (accN_length m)
 have HT:=Lib.hid (accT_length m ht)
 have TJ:=Lib.hid ht
 have NJ:=Lib.hid hnum
 clear ht hnum
 rw [hB] at C
 unfold aggS at C ⊢
 go_enter Tryz.func154,Tryz.ntmps154
 go_wp2_with fail
 obtain ⟨W,hW⟩:∃ W,w.alloc (.cells #[.int .i64 m.tr,.int .i64 m.id,.int .i64 m.pa,.string m.se,.string m.ho,.int .i64 m.st,.int .i64 m.du,.string m.no] 96)=W:=⟨_,rfl⟩
 have K0:Kept (fun _=>False) w W:=by rw [← hW];exact (Kept.refl _ w).alloc _
 have q0:SpanAt W w.heap.size m:=by rw [← hW];exact SpanAt.new
 rw [hW]
 clear hW
 refine (C.out W).mono ?_
 rintro e w1 ⟨rfl,k1⟩
 have K1:=Lib.hid (K0.trans k1 (fun _ _ f=>f) (fun _ _ f=>f):Kept (fun _=>False) w w1)
 have Q1:=Lib.hid (q0.keptF k1)
 clear k1 K0 q0 C
 obtain ⟨p,hp⟩:∃ p,w.heap.size=p:=⟨_,rfl⟩
 rw [hp] at Q1 ⊢
 have HP:=Lib.hid hp
 clear hp
 go_wp2_with fail
 have LB:p<w1.heap.size:=World.block_lt_of_cell? _ _ (Q1.out.num 0)
 have b0:=Lib.hid (Lib.fresh_isBuilder 263 5 w1)
 have L0:=Lib.hid ((Below.refl w1.heap.size w1).alloc' (Nat.le_refl _) (.cells #[.pointer none,.slice none 0 0] 263))
 have BB:=Lib.hid (Nat.le_refl w1.heap.size)
 obtain ⟨W4,hW4⟩:∃ W4,w1.alloc (.cells #[.pointer none,.slice none 0 0] 263)=W4:=⟨_,rfl⟩
 rw [hW4] at b0 L0 ⊢
 clear hW4
 obtain ⟨B,hBB⟩:∃ B,w1.heap.size=B:=⟨_,rfl⟩
 rw [hBB] at LB b0 L0 BB ⊢
 have BW:=Lib.hid (Nat.le_of_eq hBB.symm)
 clear hBB
 refine (numbers_any p W4).mono ?_
 rintro e w5 ⟨rfl,k5⟩
 have L5:=Lib.hid (L0.out.step BW.out k5 (fun _ f=>f.elim))
 have b5:=Lib.hid (IsBuilder.keptF b0.out k5)
 clear L0 b0 k5 BB
 obtain ⟨nv,hnv⟩:∃ nv,numsV p=nv:=⟨_,rfl⟩
 have X:=Lib.hid (ixJ p)
 rw [hnv] at X ⊢
 clear hnv
 go_wp2
 go_loopg [16] 5 (fun g t wr=>∃ i:Nat,i+g=5∧t = .int .i64 i∧Below B w1 wr∧Lib.IsBuilder 263 5 B B (Lib.byteCells (accN m i)) wr)
 case atStart=>exact ⟨0,by omega,rfl,L5.out,b5.out⟩
 case round=>
  obtain ⟨i,hi,rfl,hLW,hbW⟩:=hrel
  have LW:=Lib.hid hLW
  have bW:=Lib.hid hbW
  have HI:=Lib.hid hi
  have QW:=Lib.hid (Q1.out.kept (below_kept hLW) (by omega))
  clear hi hLW hbW
  by_cases h5:i<5
  ·have i1 : (i : Int) < 5 := by omega
   have x0:=X.out i h5
   obtain ⟨l,hl⟩:∃ l,leastJ i=l:=⟨_,rfl⟩
   obtain ⟨u,hu⟩:∃ u,mostJ i=u:=⟨_,rfl⟩
   obtain ⟨o,ho⟩:∃ o,offJ i=o:=⟨_,rfl⟩
   have qq:=QW.out.num i
   have qa:∀ ob,(wr.alloc ob).cell? ⟨p,offJ i,none⟩=some (.int .i64 (numJ m i)):=fun ob=>((Kept.refl (fun _=>False) wr).alloc ob).cell qq (fun f=>f)
   rw [ho] at qq qa
   rw [hl,hu,ho] at x0
   clear hl hu ho
   go_wp2_with (first | (go_at_call 165;refine (put_all _ _ (NJ.out i)).mono ?_;rintro e w6 ⟨rfl,k6⟩;have L6:=Lib.hid ((LW.out.alloc' BW.out _).step BW.out k6 (fun _ f=>f.elim));have b6:=Lib.hid (IsBuilder.keptF (IsBuilder.keptF bW.out ((Kept.refl _ _).alloc _)) k6);clear k6) | (go_at_call 163;refine (wri_all B B _ _ _ b6.out (by rw [Lib.byteCells_length];have:=HN.out i;have:=putF_size (numJ m i);omega) (Nat.le_trans BW.out L6.out.size)).mono ?_;rintro e w7 ⟨rfl,b7,l7⟩;have B7:=Lib.hid b7;have L7:=Lib.hid (L6.out.trans l7);clear b7 l7))
   go_roundg (5 - i - 1)
   case measure=>have:=HI.out;omega
   case rel=>exact ⟨i+1,by omega,by go_num,L7.out,.inr (by have:=B7.out;rw [Lib.strCells_eq,← Lib.byteCells_append] at this;exact this)⟩
  ·have h5' : i = 5 := by have := HI.out; omega
   subst h5'
   go_wp2_with fail
   refine (texts_any p wr).mono ?_
   rintro e w8 ⟨rfl,k8⟩
   have L8:=Lib.hid (LW.out.step BW.out k8 (fun _ f=>f.elim))
   have b8:=Lib.hid (IsBuilder.keptF bW.out k8)
   clear LW bW k8 QW HI h5
   obtain ⟨tv,htv⟩:∃ tv,textsV p=tv:=⟨_,rfl⟩
   have X2:=Lib.hid (ixT p)
   rw [htv] at X2 ⊢
   clear htv
   go_wp2
   go_loopg [27] 3 (fun g t wr=>∃ i:Nat,i+g=3∧t = .int .i64 i∧Below B w1 wr∧Lib.IsBuilder 263 5 B B (Lib.byteCells (accT m i)) wr)
   case atStart=>exact ⟨0,by omega,rfl,L8.out,b8.out⟩
   case round=>
    obtain ⟨i,hi,rfl,hLW,hbW⟩:=hrel
    rename_i wv _
    have LW:=Lib.hid hLW
    have bW:=Lib.hid hbW
    have HI:=Lib.hid hi
    have QW:=Lib.hid (Q1.out.kept (below_kept hLW) (by omega))
    clear hi hLW hbW
    by_cases h3:i<3
    ·have i1 : (i : Int) < 3 := by omega
     have x0:=X2.out i h3
     have qq:=QW.out.text i
     obtain ⟨o,ho⟩:∃ o,offT i=o:=⟨_,rfl⟩
     obtain ⟨tx,htx⟩:∃ tx,textJ m i=tx:=⟨_,rfl⟩
     rw [ho,htx] at qq
     rw [ho] at x0
     have TX:=Lib.hid htx
     have tz:tx.size≤24:=by rw [← htx];exact TJ.out i
     clear ho htx
     go_wp2_with (first | (go_at_call 164;refine (puttext_all _ _ (by omega)).mono ?_;rintro e w9 ⟨rfl,k9⟩;have L9:=Lib.hid (LW.out.step BW.out k9 (fun _ f=>f.elim));have b9:=Lib.hid (IsBuilder.keptF bW.out k9);clear k9) | (go_at_call 163;refine (wri_all B B _ _ _ b9.out (by rw [Lib.byteCells_length];have:=HT.out i;have:=ptxt_size tx;omega) (Nat.le_trans BW.out L9.out.size)).mono ?_;rintro e w10 ⟨rfl,b10,l10⟩;have B10:=Lib.hid b10;have L10:=Lib.hid (L9.out.trans l10);clear b10 l10))
     go_roundg (3 - i - 1)
     case measure=>have:=HI.out;omega
     case rel=>exact ⟨i+1,by omega,by go_num,L10.out,.inr (by have:=B10.out;rw [← TX.out,Lib.strCells_eq,← Lib.byteCells_append] at this;exact this)⟩
    ·have h3' : i = 3 := by have := HI.out; omega
     subst h3'
     go_wp2_with (go_at_call 166;refine (str_all B B _ _ bW.out (Nat.le_trans BW.out LW.out.size)).mono ?_;rintro e w11 ⟨rfl,l11⟩;have L11:=Lib.hid (LW.out.trans l11);clear l11)
     go_ret2
     refine ⟨rfl,K1.out.trans (below_kept L11.out) (fun _ _ f=>f) (fun k hk f=>by have:=HP.out;omega)⟩

/-- What is told of a span: its bytes, if it may be. -/
def encR (m:Spn):ByteArray:=match chkB m with | true=>encF m | false=>.empty
theorem enc_all (m:Spn)(hs:m.se.size≤9223372036854775807)(hh:m.ho.size≤9223372036854775807)(hn:m.no.size≤9223372036854775807)(w:World) :
  Calls Tryz.prog 154 #[aggS m] w fun e w'=>e = .returned (.tuple #[.string (encR m),.int .i64 (errN (chkB m))])∧Kept (fun _=>False) w w':=by
 unfold encR
 cases hB:chkB m with
 | false=>exact enc_bad m hs hh hn hB w
 | true=>
  have h:=hB
  unfold chkB at h
  simp only [Bool.and_eq_true,decide_eq_true_eq] at h
  obtain ⟨⟨⟨⟨⟨⟨⟨h0,h1⟩,h2⟩,h3⟩,h4⟩,h5⟩,h6⟩,h7⟩:=h
  have nm:∀ {s:ByteArray},nameB s=true→s.size≤12:=fun {s} h=>by
   unfold nameB at h
   simp only [Bool.and_eq_true,decide_eq_true_eq] at h
   exact h.1.2
  have g:=chk_num hB
  refine enc_good m (nm h5) (nm h6) h7 (fun j=>?_) hB w
  match j with
  | 0=>show m.tr≤_;omega
  | 1=>show m.id≤_;omega
  | 2=>show m.pa≤_;omega
  | 3=>show m.st≤_;omega
  | j+4=>show m.du≤_;omega
end
/- keys.Index and rows.Cells of a span that may be. -/
section
set_option maxRecDepth 100000
open Go.RowKit

set_option maxHeartbeats 2000000 in
theorem index_good (m:Spn)(w:World)(hB:chkB m=true):Calls Tryz.prog 156 #[aggS m] w fun e w'=>e = .returned (.tuple #[.string (xkeyF m),.int .i64 0])∧Kept (fun _=>False) w w':=by
 have tt:∀ {a b c:World},Kept (fun _=>False) a b→Kept (fun _=>False) b c→Kept (fun _=>False) a c:=fun h k=>h.trans k (fun _ _ h=>h) (fun _ _ h=>h)
 obtain ⟨y1,y2,y3⟩:=chk_size hB
 have C:=Lib.hid (fun w=>check_all m (by omega) (by omega) (by omega) w)
 rw [hB] at C
 have KX:=Lib.hid (fun w=>key_x m w hB)
 obtain ⟨xk,hxk⟩:∃ xk,xkeyF m=xk:=⟨_,rfl⟩
 rw [hxk] at KX ⊢
 have T:=Lib.hid (told_all xk true)
 clear hxk hB
 unfold aggS at C ⊢
 go_enter Tryz.func156,Tryz.ntmps156
 go_wp2_with fail
 refine (C.out _).mono ?_
 rintro e w1 ⟨rfl,k1⟩
 have d0:=k1.cell (a:=⟨w.heap.size,0,none⟩) (v:=.int .i64 m.tr) (by go_simp) (fun f=>f)
 have d1:=k1.cell (a:=⟨w.heap.size,1,none⟩) (v:=.int .i64 m.id) (by go_simp) (fun f=>f)
 have d3:=k1.cell (a:=⟨w.heap.size,3,none⟩) (v:=.string m.se) (by go_simp) (fun f=>f)
 have d4:=k1.cell (a:=⟨w.heap.size,4,none⟩) (v:=.string m.ho) (by go_simp) (fun f=>f)
 have d5:=k1.cell (a:=⟨w.heap.size,5,none⟩) (v:=.int .i64 m.st) (by go_simp) (fun f=>f)
 have K1:=Lib.hid (tt ((Kept.refl _ _).alloc _) k1)
 clear k1
 go_wp2_with fail
 refine wp_region_held_drew (S:=(fun w'=>w'.cell? ⟨w.heap.size,0,none⟩=some (.int .i64 m.tr)∧w'.cell? ⟨w.heap.size,1,none⟩=some (.int .i64 m.id)∧w'.cell? ⟨w.heap.size,5,none⟩=some (.int .i64 m.st)∧w'.cell? ⟨w.heap.size,3,none⟩=some (.string m.se)∧w'.cell? ⟨w.heap.size,4,none⟩=some (.string m.ho))) (by kernel_rfl) ?_ (fun hHeld=>?_)
 ·exact ⟨d0,d1,d5,d3,d4⟩
 refine tW 0 opAt0 hHeld ?_
 try simp only [Act.put,z2,List.set]
 refine tW 1 opAt1 hHeld ?_
 try simp only [Act.put,z2,List.set]
 refine tW 2 opAt2 hHeld ?_
 try simp only [Act.put,z2,List.set]
 refine tW 3 opAt3 hHeld ?_
 try simp only [Act.put,z2,List.set]
 refine tW 4 opAt4 hHeld ?_
 try simp only [Act.put,z2,List.set]
 refine tW 5 opAt5 hHeld ?_
 try simp only [Act.put,z2,List.set]
 refine tW 6 opAt6 hHeld ?_
 try simp only [Act.put,z2,List.set]
 refine tW 7 opAt7 hHeld ?_
 try simp only [Act.put,z2,List.set]
 refine tW 8 opAt8 hHeld ?_
 try simp only [Act.put,z2,List.set]
 refine tW 9 opAt9 hHeld ?_
 try simp only [Act.put,z2,List.set]
 refine tW 10 opAt10 hHeld ?_
 try simp only [Act.put,z2,List.set]
 refine tW 11 opAt11 hHeld ?_
 try simp only [Act.put,z2,List.set]
 refine wpAnyH_ready (rs:=[12]) (by kernel_rfl) (by simp) ?_
 refine AllReadyH.cons opAt12 (fun K hK=>?_) AllReadyH.nil
 go_simp
 go_at_call 143;refine (KX.out _).mono ?_;rintro e w3 ⟨rfl,k3⟩;have K3:=Lib.hid (tt K1.out (tt (Kept.refl _ _).drew k3));dsimp only
 refine hK.out _ _ ?_ (fun hHeld=>?_)
 ·exact ⟨k3.cell hHeld.1 (fun f=>f),k3.cell hHeld.2.1 (fun f=>f),k3.cell hHeld.2.2.1 (fun f=>f),k3.cell hHeld.2.2.2.1 (fun f=>f),k3.cell hHeld.2.2.2.2 (fun f=>f)⟩
 clear hK K
 try simp only [Act.put,z2,List.set]
 refine tW 13 opAt13 hHeld ?_
 try simp only [Act.put,z2,List.set]
 refine tW 14 opAt14 hHeld ?_
 try simp only [Act.put,z2,List.set]
 refine wpAnyH_ready (rs:=[15]) (by kernel_rfl) (by simp) ?_
 refine AllReadyH.cons opAt15 (fun K hK=>?_) AllReadyH.nil
 go_simp
 go_at_call 249;refine (T.out _).mono ?_;rintro e w4 ⟨rfl,rfl⟩;dsimp only
 refine hK.out _ _ ?_ (fun hHeld=>?_)
 ·exact hHeld
 clear hK K
 try simp only [Act.put,z2,List.set]
 refine tW 16 opAt16 hHeld ?_
 try simp only [Act.put,z2,List.set]
 refine tW 17 opAt17 hHeld ?_
 try simp only [Act.put,z2,List.set]
 refine tW 18 opAt18 hHeld ?_
 try simp only [Act.put,z2,List.set]
 refine tW 19 opAt19 hHeld ?_
 try simp only [Act.put,z2,List.set]
 refine wpAnyH_done (by kernel_rfl) ?_ _
 go_wp2
 go_ret2
 exact ⟨rfl,K3.out⟩

/-- The cells of a span that may be: itself, and in the index. -/
def cellsOfS (m:Spn):List Value:=[.string (keyF m.tr m.id),.int .i64 0,.string (encF m),.string (xkeyF m),.int .i64 0,.string .empty]
def TwoCells (w:World)(m:Spn)(e:Ending)(w':World):Prop:=∃ g,e = .returned (.tuple #[.slice (some ⟨g,0,none⟩) 2 2,.int .i64 0])∧w.heap.size≤g∧(∀ j u,(cellsOfS m)[j]? = some u→w'.cell? ⟨g,j,none⟩=some u)∧Kept (fun _=>False) w w'
set_option maxHeartbeats 2000000 in
theorem cells_good (m:Spn)(w:World)(hB:chkB m=true):Calls Tryz.prog 93 #[aggS m] w (TwoCells w m):=by
 have tt:∀ {a b c:World},Kept (fun _=>False) a b→Kept (fun _=>False) b c→Kept (fun _=>False) a c:=fun h k=>h.trans k (fun _ _ h=>h) (fun _ _ h=>h)
 obtain ⟨y1,y2,y3⟩:=chk_size hB
 have gn:=chk_num hB
 have EN:=Lib.hid (enc_all m (by omega) (by omega) (by omega))
 unfold encR at EN
 rw [hB] at EN
 have OF:=Lib.hid (fun w=>of_all m.tr m.id w (by omega) (by omega))
 unfold keyR at OF
 rw [chk_of hB] at OF
 have IX:=Lib.hid (fun w=>index_good m w hB)
 unfold TwoCells cellsOfS
 obtain ⟨ev,hev⟩:∃ ev,encF m=ev:=⟨_,rfl⟩
 obtain ⟨kv,hkv⟩:∃ kv,keyF m.tr m.id=kv:=⟨_,rfl⟩
 obtain ⟨xv,hxv⟩:∃ xv,xkeyF m=xv:=⟨_,rfl⟩
 rw [hev] at EN ⊢
 rw [hkv] at OF ⊢
 rw [hxv] at IX ⊢
 clear hB gn hev hkv hxv
 unfold aggS at EN IX ⊢
 go_enter Tryz.func93,Tryz.ntmps93
 go_wp2_with fail
 refine (EN.out _).mono ?_
 rintro e w1 ⟨rfl,k1⟩
 have d0:=k1.cell (a:=⟨w.heap.size,0,none⟩) (v:=.int .i64 m.tr) (by go_simp) (fun f=>f)
 have d1:=k1.cell (a:=⟨w.heap.size,1,none⟩) (v:=.int .i64 m.id) (by go_simp) (fun f=>f)
 have d2:=k1.cell (a:=⟨w.heap.size,2,none⟩) (v:=.int .i64 m.pa) (by go_simp) (fun f=>f)
 have d3:=k1.cell (a:=⟨w.heap.size,3,none⟩) (v:=.string m.se) (by go_simp) (fun f=>f)
 have d4:=k1.cell (a:=⟨w.heap.size,4,none⟩) (v:=.string m.ho) (by go_simp) (fun f=>f)
 have d5:=k1.cell (a:=⟨w.heap.size,5,none⟩) (v:=.int .i64 m.st) (by go_simp) (fun f=>f)
 have d6:=k1.cell (a:=⟨w.heap.size,6,none⟩) (v:=.int .i64 m.du) (by go_simp) (fun f=>f)
 have d7:=k1.cell (a:=⟨w.heap.size,7,none⟩) (v:=.string m.no) (by go_simp) (fun f=>f)
 have K1:=Lib.hid (tt ((Kept.refl _ _).alloc _) k1)
 clear k1
 go_wp2_with fail
 refine (OF.out _).mono ?_
 rintro e w2 ⟨rfl,k2⟩
 have f0:=k2.cell (a:=⟨w.heap.size,0,none⟩) (v:=.int .i64 m.tr) d0 (fun f=>f)
 have f1:=k2.cell (a:=⟨w.heap.size,1,none⟩) (v:=.int .i64 m.id) d1 (fun f=>f)
 have f2:=k2.cell (a:=⟨w.heap.size,2,none⟩) (v:=.int .i64 m.pa) d2 (fun f=>f)
 have f3:=k2.cell (a:=⟨w.heap.size,3,none⟩) (v:=.string m.se) d3 (fun f=>f)
 have f4:=k2.cell (a:=⟨w.heap.size,4,none⟩) (v:=.string m.ho) d4 (fun f=>f)
 have f5:=k2.cell (a:=⟨w.heap.size,5,none⟩) (v:=.int .i64 m.st) d5 (fun f=>f)
 have f6:=k2.cell (a:=⟨w.heap.size,6,none⟩) (v:=.int .i64 m.du) d6 (fun f=>f)
 have f7:=k2.cell (a:=⟨w.heap.size,7,none⟩) (v:=.string m.no) d7 (fun f=>f)
 have K2:=Lib.hid (tt K1.out k2)
 clear k2
 go_wp2_with fail
 refine (IX.out _).mono ?_
 rintro e w3 ⟨rfl,k3⟩
 have K3:=Lib.hid (tt K2.out k3)
 clear k3
 go_wp2
 go_ret2
 refine ⟨w3.heap.size,rfl,K3.out.size,fun j u hu=>?_,K3.out.alloc _⟩
 rcases j with _ | _ | _ | _ | _ | _ | j <;> simp at hu <;> subst hu <;> first | (simp;done) | (simp;rfl)
end
end Go.Proofs.YthknocapablpaaaGreatDoor
